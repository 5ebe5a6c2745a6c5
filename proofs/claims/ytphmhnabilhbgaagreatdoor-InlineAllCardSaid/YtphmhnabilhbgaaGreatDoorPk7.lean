/-
  Part 7 of the proof: PQ1.
-/
import Derived.Test.YtphmhnabilhbgaaGreatDoorPk6
namespace Go.Proofs.YtphmhnabilhbgaaGreatDoor
open Go.RowKit
set_option maxRecDepth 100000
set_option maxHeartbeats 0
set_option linter.unusedVariables false
def FY:gg:=⟨(0:Int64),(0:Int64)⟩
def fA:bB:=⟨(0:Int),(0:Int),(0:Int),(0:Int),(0:Int)⟩
def dS:ax:=⟨(0:Int64),[]⟩
def ir:aiE AV:=[(ak (0:Int)),(bw (bs [])),(bu (0:Int64)),(bu (0:Int64)),(ak (0:Int)),(ak (0:Int)),(ak (0:Int)),(ak (0:Int)),(ak (0:Int)),(bu (0:Int64)),(.d (.v (.slice none 0 0))),(.d (.v (.slice none 0 0))),(.d (.v (.slice none 0 0)))]
def UJ(v:bB)(r:aiE AV):aiE AV:=(ak v.ck)::(ak v.cq)::(ak v.cJ)::(ak v.cH)::(ak v.cK)::r
def dL(v:aQ)(r:aiE AV):aiE AV:=(.d (.sl (aB v.ba)))::(.d (.sl (bG v.cm)))::(.d (.sl (bI v.a8)))::(.d (.sl (b8 v.ay)))::(.d (.sl (aB v.cl)))::r
def wE(N:Nat):aiE ax→Nat→aiG Bool
 |[],_=>
  some false
 |v4::v5,v2=>
  bif (decide ((v4.xL.length:Int)>(20:Int)))then
   some true
  else
   (wE N v5 (v2+1))
def Ho(N:Nat)(v1:aiE ax):aiG Bool:=
 wE N v1 0
theorem Z6(N:Nat)(v1:aiE ax)(r:Bool)(J:Ho N v1=some r):bg Tryz.prog 19 [(.d (.sl (cz v1)))] (·=(aJ r)):=by
 rw[Ho]at J;refine bD Tryz.func19 (by kernel_rfl) (by kernel_rfl) ?_;refine au af [[],[]] ?_;refine dq 0 (cz v1) (by kernel_rfl) fun h1=> ?_;have h2:=cd bM h1;refine cx af 1 [] [0,3] 0 (fun((v2,v3):Nat×(aiE ax))=>⟨17,[(0,(.d (.sl (cz v1)))),(3,(ak (v2:Int)))],[]⟩) (fun((v2,v3):Nat×(aiE ax))=>v1.drop v2=v3∧wE N v3 v2=some r) (fun((v2,v3):Nat×(aiE ax))=>v3.length) (0,v1) ⟨rfl,J⟩ ?_;rintro⟨v2,v3⟩ ⟨h3,J⟩ f1 aN;cases v3 with
 |nil=>
  rw[wE]at J;cases J;exact wr af [[(7,oL v1 bM)],[(0,bF (bO h3))],[]]
 |cons v4 v5=>
  rw[wE]at J;refine au af [[(7,oL v1 bM)],[(0,bT (bN h3))],[(7,oE (hY (aU h3))),(16,oL v4.xL bZ)]] ?_;refine bc J (fun h4 J=> ?_) fun h4 J=> ?_
  ·cases J;exact wr af [[(0,bT h4)],[]]
  exact ct af aN (v2+1,v5) [[(0,bF h4)],[(5,oq (bV h3 rfl h2))]] ⟨bR h3,J⟩
def oZ(N:Nat)(v2:Int)(qy:aq→Int→aiG Int):aiE aq→Nat→Int→aiG Int
 |[],_,v12=>
  some v12
 |v10::v11,v8,v12=>
  bif (decide (v12≤v2))then
   Option.bind (qy v10 (aV (v2-v12))) fun aE=>
   (fun fI=>oZ N v2 qy v11 (v8+1) fI) (aV (v12+aE))
  else
   some v12
def vp(N:Nat)(gz:Int→aiG Int)(v2:Int):aiE ax→Nat→Int→aiG Int
 |[],_,aT=>
  gz aT
 |aW::aH,aC,aT=>
  bif (decide (aT≤v2))then
   (fun lC=>vp N gz v2 aH (aC+1) lC) (aV (aT+(aW.xL.length:Int)))
  else
   gz aT
def p8(N:Nat)(v2:Int)(qy:aq→Int→aiG Int):aiE aq→Nat→Int→aiG Int
 |[],_,cS=>
  some cS
 |v21::di,bK,cS=>
  bif (decide (cS≤v2))then
   Option.bind (qy v21 (aV (v2-cS))) fun v24=>
   (fun vY=>p8 N v2 qy di (bK+1) vY) (aV (cS+v24))
  else
   some cS
def oP(N:Nat)(v2:Int)(qy:aq→Int→aiG Int)(v1:aq):aiE az→Nat→Int→aiG Int
 |[],_,v7=>
  oZ N v2 qy v1.aM 0 v7
 |v5::v6,v3,v7=>
  bif (decide (v7≤v2))then
   vp N (fun b6=>oP N v2 qy v1 v6 (v3+1) b6) v2 v5.bp 0 (aV ((aV (v7+(v5.aK.xL.length:Int)))+(v5.bp.length:Int)))
  else
   p8 N v2 qy v1.aM 0 v7
def mR(N:Nat):Nat→aq→Int→aiG Int
 |0,_,_=>none
 |d+1,v1,v2=>
  oP N v2 (mR N d) v1 v1.xIdx 0 (aV ((aV ((1:Int)+(v1.aK.xL.length:Int)))+(v1.xIdx.length:Int)))
def L5(N:Nat)(v1:aq)(v2:Int):aiG Int:=mR N N v1 v2
theorem afC(N:Nat):∀d:Nat,(∀(v1:aq)(v2:Int)(r:Int),mR N d v1 v2=some r→bg Tryz.prog 20 [(aF v1),(ak v2)] (·=(ak r))):=by
 intro d
 induction d with
 |zero=>intro v1 v2 r J;rw[mR]at J;cases J
 |succ d ih=>
  have SD:=ih;intro v1 v2 r J;rw[mR]at J;refine bD Tryz.func20 (by kernel_rfl) (by kernel_rfl) ?_;refine au af [[],[(10,oL v1.aK.xL bZ),(22,oL v1.xIdx cn)],[]] ?_;refine dX 0 11 (bJ v1.xIdx) (by kernel_rfl) fun h1=> ?_;have h2:=cd cn h1;refine cx af 1 [] [1,2,5,6] 1 (fun((v3,v4,v7):Nat×(aiE az)×Int)=>⟨101,[(1,(ak v2)),(2,(.ptr 0 0)),(5,(ak v7)),(6,(ak (v3:Int)))],[.cells (aF v1).cells]⟩) (fun((v3,v4,v7):Nat×(aiE az)×Int)=>v1.xIdx.drop v3=v4∧oP N v2 (mR N d) v1 v4 v3 v7=some r) (fun((v3,v4,v7):Nat×(aiE az)×Int)=>v4.length) (0,v1.xIdx,(aV ((aV ((1:Int)+(v1.aK.xL.length:Int)))+(v1.xIdx.length:Int)))) ⟨rfl,J⟩ ?_;rintro⟨v3,v4,v7⟩ ⟨h3,J⟩ f1 aN;cases v4 with
  |nil=>
   rw[oP]at J;refine au af [[(10,oL v1.xIdx cn),(18,bF (bO h3)),(21,bF (bO h3)),(24,bF (bO h3)),(28,bF (bO h3))],[(0,bF rfl)],[]] ?_;refine dX 0 12 (cT v1.aM) (by kernel_rfl) fun h4=> ?_;have h5:=cd b7 h4;refine cx af 2 [] [1,2,5,8] 1 (fun((v8,v9,v12):Nat×(aiE aq)×Int)=>⟨101,[(1,(ak v2)),(2,(.ptr 0 0)),(5,(ak v12)),(8,(ak (v8:Int)))],[.cells (aF v1).cells]⟩) (fun((v8,v9,v12):Nat×(aiE aq)×Int)=>v1.aM.drop v8=v9∧oZ N v2 (mR N d) v9 v8 v12=some r) (fun((v8,v9,v12):Nat×(aiE aq)×Int)=>v9.length) (0,v1.aM,v7) ⟨rfl,J⟩ ?_;rintro⟨v8,v9,v12⟩ ⟨h6,J⟩ f2 dU;cases v9 with
   |nil=>
    rw[oZ]at J;cases J;exact wr af [[(10,oL v1.aM b7),(18,bF (bO h6)),(21,bF (bO h6)),(24,bF (bO h6)),(28,bF (bO h6))],[(0,bF rfl)],[]]
   |cons v10 v11=>
    rw[oZ]at J;refine au af [[(10,oL v1.aM b7),(18,bT (bN h6)),(21,bT (bN h6)),(24,bT (bN h6)),(28,bT (bN h6))]] ?_;refine bc J (fun h7 J=> ?_) fun h7 J=> ?_
    ·obtain⟨aE,h8,J⟩:=ar J;exact ct af dU (v8+1,v11,(aV (v12+aE))) [[(0,bT h7)],[(13,oE (ik (aU h6))),(28,cL (SD v10 (aV (v2-v12)) aE h8))],[(5,oq (bV h6 rfl h5))]] ⟨bR h6,J⟩
    cases J;exact wr af [[(0,bF h7)],[]]
  |cons v5 v6=>
   rw[oP]at J;refine au af [[(10,oL v1.xIdx cn),(18,bT (bN h3)),(21,bT (bN h3)),(24,bT (bN h3)),(28,bT (bN h3))]] ?_;refine bc J (fun h9 J=> ?_) fun h9 J=> ?_
   ·refine au af [[(0,bT h9)],[(13,oE (eH (aU h3))),(25,oL v5.aK.xL bZ),(40,oE (eH (aU h3))),(49,oL v5.bp bM)],[]] ?_;refine dX 0 11 (bJ v1.xIdx) (by kernel_rfl) fun aA=> ?_;have a7:v5.bp.length≤maxLen:=by rw[←bM];exact qH (DJ (j:=3) (d:= .sl (cz v5.bp)) aA (eH (aU h3)) rfl)
    refine cx af 3 [] [1,2,5,6,7] 1 (fun((aC,aP,aT):Nat×(aiE ax)×Int)=>⟨101,[(1,(ak v2)),(2,(.ptr 0 0)),(5,(ak aT)),(6,(ak (v3:Int))),(7,(ak (aC:Int)))],[.cells (aF v1).cells]⟩) (fun((aC,aP,aT):Nat×(aiE ax)×Int)=>v5.bp.drop aC=aP∧vp N (fun b6=>oP N v2 (mR N d) v1 v6 (v3+1) b6) v2 aP aC aT=some r) (fun((aC,aP,aT):Nat×(aiE ax)×Int)=>aP.length) (0,v5.bp,(aV ((aV (v7+(v5.aK.xL.length:Int)))+(v5.bp.length:Int)))) ⟨rfl,J⟩ ?_;rintro⟨aC,aP,aT⟩ ⟨bk,J⟩ f3 jB;cases aP with
    |nil=>
     rw[vp]at J;exact ct af aN (v3+1,v6,aT) [[(13,oE (eH (aU h3))),(22,oL v5.bp bM),(30,bF (bO bk)),(33,bF (bO bk)),(36,bF (bO bk)),(40,bF (bO bk))],[(0,bF rfl)],[(5,oq (bV h3 rfl h2))]] ⟨bR h3,J⟩
    |cons aW aH=>
     rw[vp]at J;refine au af [[(13,oE (eH (aU h3))),(22,oL v5.bp bM),(30,bT (bN bk)),(33,bT (bN bk)),(36,bT (bN bk)),(40,bT (bN bk))]] ?_;refine bc J (fun cg J=> ?_) fun cg J=> ?_
     ·exact ct af jB (aC+1,aH,(aV (aT+(aW.xL.length:Int)))) [[(0,bT cg)],[(13,oE (eH (aU h3))),(25,oE (hY (aU bk))),(34,oL aW.xL bZ)],[(5,oq (bV bk rfl a7))]] ⟨bR bk,J⟩
     exact ct af aN (v3+1,v6,aT) [[(0,bF cg)],[(5,oq (bV h3 rfl h2))]] ⟨bR h3,J⟩
   refine au af [[(0,bF h9)],[]] ?_;refine dX 0 12 (cT v1.aM) (by kernel_rfl) fun bm=> ?_;have bQ:=cd b7 bm;refine cx af 4 [] [1,2,5,8] 1 (fun((bK,v20,cS):Nat×(aiE aq)×Int)=>⟨101,[(1,(ak v2)),(2,(.ptr 0 0)),(5,(ak cS)),(8,(ak (bK:Int)))],[.cells (aF v1).cells]⟩) (fun((bK,v20,cS):Nat×(aiE aq)×Int)=>v1.aM.drop bK=v20∧p8 N v2 (mR N d) v20 bK cS=some r) (fun((bK,v20,cS):Nat×(aiE aq)×Int)=>v20.length) (0,v1.aM,v7) ⟨rfl,J⟩ ?_;rintro⟨bK,v20,cS⟩ ⟨bo,J⟩ f4 nQ;cases v20 with
   |nil=>
    rw[p8]at J;cases J;exact wr af [[(10,oL v1.aM b7),(18,bF (bO bo)),(21,bF (bO bo)),(24,bF (bO bo)),(28,bF (bO bo))],[(0,bF rfl)],[]]
   |cons v21 di=>
    rw[p8]at J;refine au af [[(10,oL v1.aM b7),(18,bT (bN bo)),(21,bT (bN bo)),(24,bT (bN bo)),(28,bT (bN bo))]] ?_;refine bc J (fun cC J=> ?_) fun cC J=> ?_
    ·obtain⟨v24,bW,J⟩:=ar J;exact ct af nQ (bK+1,di,(aV (cS+v24))) [[(0,bT cC)],[(13,oE (ik (aU bo))),(28,cL (SD v21 (aV (v2-cS)) v24 bW))],[(5,oq (bV bo rfl bQ))]] ⟨bR bo,J⟩
    cases J;exact wr af [[(0,bF cC)],[]]
theorem XX(N:Nat)(v1:aq)(v2:Int)(r:Int)(J:L5 N v1 v2=some r):bg Tryz.prog 20 [(aF v1),(ak v2)] (·=(ak r)):=(afC N N) v1 v2 r J
def vj(N:Nat)(aC:aG)(UC:aiG Bool):Nat→Int→aiG Bool
 |0,_=>none
 |aT+1,bK=>
  bif (decide (bK<(aV ((aC.aI.length:Int)+(aC.bz.length:Int)))))then
   bif (Nat.ble ((0+aC.aI.length)*48) 140737488355328)then
   bif (Nat.ble ((aC.aI.length+aC.bz.length)*48) 140737488355328)then
   bif (decide ((0:Int)≤bK))then
   Option.bind ((aC.aI++aC.bz)[(bK).toNat]?) fun v20=>
   bif (decide ((v20.dB.xL.length:Int)>(20:Int)))then
    some true
   else
    (fun vY=>vj N aC UC aT vY) (aV (bK+(1:Int)))
   else none
   else none
   else none
  else
   UC
def sk(N:Nat)(v2:Int):aiE aG→Nat→aiG Bool
 |[],_=>
  some false
 |aC::aP,v12=>
  Option.bind (bif (decide ((aC.aI.length:Int)>(12:Int)))then some true else(bif (decide ((aC.bz.length:Int)>(12:Int)))then some true else Option.bind (L5 N aC.bx v2) fun aW=>
  some (decide (aW>v2)))) fun aH=>
  bif aH then
   some true
  else
   vj N aC (sk N v2 aP (v12+1)) N (0:Int)
def uV(N:Nat)(v2:Int)(v1:aQ):aiE bX→Nat→aiG Bool
 |[],_=>
  sk N v2 v1.ay 0
 |v10::v11,v8=>
  Option.bind (bif (decide ((v10.aI.length:Int)>(12:Int)))then some true else Option.bind (Ho N v10.aI) fun v21=>
  some v21) fun di=>
  bif di then
   some true
  else
   (uV N v2 v1 v11 (v8+1))
def xy(N:Nat)(v2:Int)(v1:aQ):aiE cf→Nat→aiG Bool
 |[],_=>
  uV N v2 v1 v1.a8 0
 |v6::v7,v4=>
  bif (decide ((v6.aK.xL.length:Int)>(20:Int)))then
   some true
  else
   (xy N v2 v1 v7 (v4+1))
def yX(N:Nat)(v1:aQ)(v2:Int):aiG Bool:=
 Option.bind (bif (decide ((v1.ba.length:Int)>(12:Int)))then some true else(bif (decide ((v1.cm.length:Int)>(12:Int)))then some true else(bif (decide ((v1.a8.length:Int)>(12:Int)))then some true else(bif (decide ((v1.ay.length:Int)>(12:Int)))then some true else some (decide ((v1.cl.length:Int)>(12:Int))))))) fun v3=>
 bif v3 then
  some true
 else
  xy N v2 v1 v1.cm 0
theorem RE(N:Nat)(v1:aQ)(v2:Int)(r:Bool)(J:yX N v1 v2=some r):bg Tryz.prog 6 [(aS v1),(ak v2)] (·=(aJ r)):=by
 rw[yX]at J;refine bD Tryz.func6 (by kernel_rfl) (by kernel_rfl) ?_;refine au af [[]] ?_;obtain⟨v3,h5,J⟩:=ar J;refine cM af [(38,(aJ v3))] [.cells (aS v1).cells] ?_ ?_
 ·refine bc h5 (fun h1 h5=> ?_) fun h1 h5=> ?_
  ·cases h5;exact⟨so (os [15,18,21,24,28] (bT h1) (os [33,36,39,42,46,51,54,57,60,64,69,72,75,78,82] (bT rfl) [(7,oL v1.ba bC)])),by kernel_rfl⟩
  refine bc h5 (fun h2 h5=> ?_) fun h2 h5=> ?_
  ·cases h5;exact⟨so (os [15,18,21,24,28] (bF h1) (os [33,36,39,42,46] (bT h2) (os [51,54,57,60,64,69,72,75,78,82] (bT rfl) [(7,oL v1.ba bC),(22,oL v1.cm eO)]))),by kernel_rfl⟩
  refine bc h5 (fun h3 h5=> ?_) fun h3 h5=> ?_
  ·cases h5;exact⟨so (os [15,18,21,24,28] (bF h1) (os [33,36,39,42,46] (bF h2) (os [51,54,57,60,64] (bT h3) (os [69,72,75,78,82] (bT rfl) [(7,oL v1.ba bC),(22,oL v1.cm eO),(40,oL v1.a8 ee)])))),by kernel_rfl⟩
  refine bc h5 (fun h4 h5=> ?_) fun h4 h5=> ?_
  ·cases h5;exact⟨so (os [15,18,21,24,28] (bF h1) (os [33,36,39,42,46] (bF h2) (os [51,54,57,60,64] (bF h3) (os [69,72,75,78,82] (bT h4) [(7,oL v1.ba bC),(22,oL v1.cm eO),(40,oL v1.a8 ee),(58,oL v1.ay du)])))),by kernel_rfl⟩
  cases h5;exact⟨so (os [15,18,21,24,28] (bF h1) (os [33,36,39,42,46] (bF h2) (os [51,54,57,60,64] (bF h3) (os [69,72,75,78,82] (bF h4) [(7,oL v1.ba bC),(22,oL v1.cm eO),(40,oL v1.a8 ee),(58,oL v1.ay du),(76,oL v1.cl bC)])))),by kernel_rfl⟩
 refine bc J (fun h6 J=> ?_) fun h6 J=> ?_
 ·cases J;exact wr af [[(0,bT h6)],[]]
 refine au af [[(0,bF h6)],[]] ?_;refine dX 0 1 (bG v1.cm) (by kernel_rfl) fun h7=> ?_;have h8:=cd eO h7;refine cx af 1 [] [1,2,5] 1 (fun((v4,v5):Nat×(aiE cf))=>⟨135,[(1,(ak v2)),(2,(.ptr 0 0)),(5,(ak (v4:Int)))],[.cells (aS v1).cells]⟩) (fun((v4,v5):Nat×(aiE cf))=>v1.cm.drop v4=v5∧xy N v2 v1 v5 v4=some r) (fun((v4,v5):Nat×(aiE cf))=>v5.length) (0,v1.cm) ⟨rfl,J⟩ ?_;rintro⟨v4,v5⟩ ⟨h9,J⟩ f1 aN;cases v5 with
 |nil=>
  rw[xy]at J;refine au af [[(10,oL v1.cm eO)],[(0,bF (bO h9))],[]] ?_;refine dX 0 2 (bI v1.a8) (by kernel_rfl) fun aA=> ?_;have a7:=cd ee aA;refine cx af 2 [] [1,2,6] 1 (fun((v8,v9):Nat×(aiE bX))=>⟨135,[(1,(ak v2)),(2,(.ptr 0 0)),(6,(ak (v8:Int)))],[.cells (aS v1).cells]⟩) (fun((v8,v9):Nat×(aiE bX))=>v1.a8.drop v8=v9∧uV N v2 v1 v9 v8=some r) (fun((v8,v9):Nat×(aiE bX))=>v9.length) (0,v1.a8) ⟨rfl,J⟩ ?_;rintro⟨v8,v9⟩ ⟨bk,J⟩ f2 dU;cases v9 with
  |nil=>
   rw[uV]at J;refine au af [[(10,oL v1.a8 ee)],[(0,bF (bO bk))],[]] ?_;refine dX 0 3 (b8 v1.ay) (by kernel_rfl) fun cg=> ?_;have bm:=cd du cg;refine cx af 3 [] [1,2,7] 1 (fun((v12,aE):Nat×(aiE aG))=>⟨135,[(1,(ak v2)),(2,(.ptr 0 0)),(7,(ak (v12:Int)))],[.cells (aS v1).cells]⟩) (fun((v12,aE):Nat×(aiE aG))=>v1.ay.drop v12=aE∧sk N v2 aE v12=some r) (fun((v12,aE):Nat×(aiE aG))=>aE.length) (0,v1.ay) ⟨rfl,J⟩ ?_;rintro⟨v12,aE⟩ ⟨bQ,J⟩ f3 jB;cases aE with
   |nil=>
    rw[sk]at J;cases J;exact wr af [[(10,oL v1.ay du)],[(0,bF (bO bQ))],[]]
   |cons aC aP=>
    rw[sk]at J;refine au af [[(10,oL v1.ay du)],[(0,bT (bN bQ))],[(10,oE (fW (aU bQ)))]] ?_;obtain⟨aH,dh,J⟩:=ar J;refine cM af [(108,(aJ aH))] [.cells (aS v1).cells, .cells (cy aC).cells] ?_ ?_
    ·refine bc dh (fun bo dh=> ?_) fun bo dh=> ?_
     ·cases dh;exact⟨so (os [15,18,21,24,28] (bT bo) (os [33,36,39,42,45,48,52] (bT rfl) [(7,oL aC.aI b5)])),by kernel_rfl⟩
     refine bc dh (fun cC dh=> ?_) fun cC dh=> ?_
     ·cases dh;exact⟨so (os [15,18,21,24,28] (bF bo) (os [33,36,39,42,45,48,52] (bT cC) [(7,oL aC.aI b5),(22,oL aC.bz b5)])),by kernel_rfl⟩
     obtain⟨aW,bW,dh⟩:=ar dh;cases dh;exact⟨so (os [15,18,21,24,28] (bF bo) (os [33,36,39,42,45,48,52] (bF cC) [(7,oL aC.aI b5),(22,oL aC.bz b5),(43,cL (XX N aC.bx v2 aW bW))])),by kernel_rfl⟩
    refine bc J (fun dH J=> ?_) fun dH J=> ?_
    ·cases J;exact wr af [[(0,bT dH)],[]]
    refine cx af 4 [[(0,bF dH)],[]] [1,2,7,8,9] 2 (fun((aT,bK):Nat×Int)=>⟨135,[(1,(ak v2)),(2,(.ptr 0 0)),(7,(ak (v12:Int))),(8,(.ptr 1 0)),(9,(ak bK))],[.cells (aS v1).cells, .cells (cy aC).cells]⟩) (fun((aT,bK):Nat×Int)=>vj N aC (sk N v2 aP (v12+1)) aT bK=some r) (fun((aT,bK):Nat×Int)=>aT) (N,(0:Int)) J ?_;rintro⟨aT,bK⟩ J f4 nQ
    try dsimp only at J
    cases aT with
    |zero=>
     rw[vj]at J;cases J
    |succ aT=>
     rw[vj]at J;refine au af [[(10,oL aC.aI b5),(19,oL aC.bz b5)]] ?_;refine bc J (fun eJ J=> ?_) fun eJ J=> ?_
     ·refine au af [[(0,bT eJ)]] ?_;obtain⟨fk,J⟩:=dg J;obtain⟨fg,J⟩:=dg J;obtain⟨fu,J⟩:=dg J;obtain⟨v20,eN,J⟩:=ar J;refine P3 3 af [(10,(.ptr 3 0))] [.cells (aS v1).cells, .cells (cy aC).cells, .front 64 3 (aC.aI++aC.bz).length, .cells (qV v20).cells] ⟨[(10,⟨_,_, .app (xs:=[]) (ys:=cu aC.aI) (zs:=cu aC.aI) (n:=aC.aI.length) rfl (fun _ hc=>absurd hc aiw) oh (by rw[(show([]:aiE (aiE D)).length=0 from rfl),(b5 (l:=aC.aI))];exact(de fk (by decide)).1) (by rw[(show([]:aiE (aiE D)).length=0 from rfl),(b5 (l:=aC.aI))];exact(de fk (by decide)).2) rfl (by first|(rw[(show([]:aiE (aiE D)).length=0 from rfl),(b5 (l:=aC.aI))];done)|(rw[(show([]:aiE (aiE D)).length=0 from rfl),(b5 (l:=aC.aI))];rfl)|(rw[(show([]:aiE (aiE D)).length=0 from rfl),(b5 (l:=aC.aI)),ahQ];done)|(rw[(show([]:aiE (aiE D)).length=0 from rfl),(b5 (l:=aC.aI)),ahQ];rfl)|(rw[(show([]:aiE (aiE D)).length=0 from rfl),(b5 (l:=aC.aI)),ah9]))⟩),(19,⟨_,_, .app (xs:=cu aC.aI) (ys:=cu aC.bz) (zs:=cu (aC.aI++aC.bz)) (n:=(aC.aI++aC.bz).length) b5.symm oh oh (by rw[(b5 (l:=aC.aI)),(b5 (l:=aC.bz))];exact(de fg (by decide)).1) (by rw[(b5 (l:=aC.aI)),(b5 (l:=aC.bz))];exact(de fg (by decide)).2) Gm (by first|(rw[(b5 (l:=aC.aI)),(b5 (l:=aC.bz))];done)|(rw[(b5 (l:=aC.aI)),(b5 (l:=aC.bz))];rfl)|(rw[(b5 (l:=aC.aI)),(b5 (l:=aC.bz)),ahQ];done)|(rw[(b5 (l:=aC.aI)),(b5 (l:=aC.bz)),ahQ];rfl)|(rw[(b5 (l:=aC.aI)),(b5 (l:=aC.bz)),ah9]))⟩),(25,⟨_,_, .el (xs:=cu (aC.aI++aC.bz)) (i:=bK) (of_decide_eq_true fu) (jK eN)⟩)],by kernel_rfl⟩ ?_
      refine au af [[(10,oL v20.dB.xL bZ)]] ?_;refine bc J (fun hX J=> ?_) fun hX J=> ?_
      ·cases J;exact wr af [[(0,bT hX)],[]]
      exact ct af nQ (aT,(aV (bK+(1:Int)))) [[(0,bF hX)],[]] J
     exact ct af jB (v12+1,aP) [[(0,bF eJ)],[(5,oq (bV bQ rfl bm))]] ⟨bR bQ,J⟩
  |cons v10 v11=>
   rw[uV]at J;refine au af [[(10,oL v1.a8 ee)],[(0,bT (bN bk))]] ?_;obtain⟨di,ku,J⟩:=ar J;refine cM af [(78,(aJ di))] [.cells (aS v1).cells] ?_ ?_
   ·refine bc ku (fun iW ku=> ?_) fun iW ku=> ?_
    ·cases ku;exact⟨so (os [27,30,33,36,39,42,45,49] (bT iW) [(10,oE (jV (aU bk))),(19,oL v10.aI bM)]),by kernel_rfl⟩
    obtain⟨v21,lI,ku⟩:=ar ku;obtain rfl:=sj ku;exact⟨so (os [10,37] (oE (jV (aU bk))) (os [27,30,33,36,39,42,45,49] (bF iW) [(19,oL v10.aI bM),(46,cL (Z6 N v10.aI v21 lI))])),by kernel_rfl⟩
   refine bc J (fun pL J=> ?_) fun pL J=> ?_
   ·cases J;exact wr af [[(0,bT pL)],[]]
   exact ct af dU (v8+1,v11) [[(0,bF pL)],[(5,oq (bV bk rfl a7))]] ⟨bR bk,J⟩
 |cons v6 v7=>
  rw[xy]at J;refine au af [[(10,oL v1.cm eO)],[(0,bT (bN h9))],[(10,oE (sX (aU h9))),(22,oL v6.aK.xL bZ)]] ?_;refine bc J (fun Di J=> ?_) fun Di J=> ?_
  ·cases J;exact wr af [[(0,bT Di)],[]]
  exact ct af aN (v4+1,v7) [[(0,bF Di)],[(5,oq (bV h9 rfl h8))]] ⟨bR h9,J⟩
def Hm(N:Nat)(v1:aiF):aiG ax:=
 some (⟨(0:Int64),[(⟨v1,(1:Int64)⟩:aD)]⟩:ax)
theorem Qd(N:Nat)(v1:aiF)(r:ax)(J:Hm N v1=some r):bg Tryz.prog 21 [(bw v1)] (·=(b9 r)):=by
 rw[Hm]at J;refine bD Tryz.func21 (by kernel_rfl) (by kernel_rfl) ?_;cases J;exact wr af [[],[]]
def CA(N:Nat)(v1:aiF):aiE ax→Nat→(aiE az)→aiG aq
 |[],_,v7=>
  some (⟨(3:Int),v1,FY,fA,dS,v7,[]⟩:aq)
 |v5::v6,v3,v7=>
  bif (Nat.ble ((v7.length+1)*72) 140737488355328)then
  (fun b6=>CA N v1 v6 (v3+1) b6) (v7++[(⟨v5,(bs []),[]⟩:az)])
  else none
def BH(N:Nat)(v1:aiF)(v2:aiE ax):aiG aq:=
 CA N v1 v2 0 []
theorem KM(N:Nat)(v1:aiF)(v2:aiE ax)(r:aq)(J:BH N v1 v2=some r):bg Tryz.prog 23 [(bw v1),(.d (.sl (cz v2)))] (·=(aF r)):=by
 rw[BH]at J;refine bD Tryz.func23 (by kernel_rfl) (by kernel_rfl) ?_;refine au af [[],[],[]] ?_;refine nu 1 11 80 4 [] (.inr (by kernel_rfl)) ?_;refine dq 1 (cz v2) (by kernel_rfl) fun h1=> ?_;have h2:=cd bM h1;refine jt af 1 [] [1,4,5,6] 3 [] [(0,10),(0,11),(0,12),(1,10),(1,12)] (fun((v3,v4,v7):Nat×(aiE ax)×(aiE az))=>⟨26,[(1,(.d (.sl (cz v2)))),(4,(.ptr 0 0)),(5,(.ptr 1 0)),(6,(ak (v3:Int)))],[.cells ir, .cells [(ak (3:Int)),(bw v1),(bu (0:Int64)),(bu (0:Int64)),(ak (0:Int)),(ak (0:Int)),(ak (0:Int)),(ak (0:Int)),(ak (0:Int)),(bu (0:Int64)),(.d (.v (.slice none 0 0))),(.own 2 (bJ v7)),(.d (.v (.slice none 0 0)))], .front 80 4 v7.length]⟩) (fun((v3,v4,v7):Nat×(aiE ax)×(aiE az))=>v2.drop v3=v4∧CA N v1 v4 v3 v7=some r) (fun((v3,v4,v7):Nat×(aiE ax)×(aiE az))=>v4.length) (0,v2,[]) ⟨rfl,J⟩ ?_;rintro⟨v3,v4,v7⟩ ⟨h3,J⟩ f1 aN;cases v4 with
 |nil=>
  rw[CA]at J;cases J;exact wr af [[(7,oL v2 bM)],[(0,bF (bO h3))],[]]
 |cons v5 v6=>
  rw[CA]at J;obtain⟨h4,J⟩:=dg J;exact gN af aN (v3+1,v6,(v7++[(⟨v5,(bs []),[]⟩:az)])) [[(7,oL v2 bM)],[(0,bT (bN h3))],[(13,oE (hY (aU h3))),(25,⟨_,_, .app (xs:=bJ v7) (ys:=bJ [(⟨v5,(bs []),[]⟩:az)]) (zs:=bJ (v7++[(⟨v5,(bs []),[]⟩:az)])) (n:=(v7++[(⟨v5,(bs []),[]⟩:az)]).length) cn.symm vW vW (by rw[(cn (l:=v7)),(cn (l:=[(⟨v5,(bs []),[]⟩:az)]))];exact(de h4 (by decide)).1) (by rw[(cn (l:=v7)),(cn (l:=[(⟨v5,(bs []),[]⟩:az)]))];exact(de h4 (by decide)).2) Lg (by first|(rw[(cn (l:=v7)),(cn (l:=[(⟨v5,(bs []),[]⟩:az)]))];done)|(rw[(cn (l:=v7)),(cn (l:=[(⟨v5,(bs []),[]⟩:az)]))];rfl)|(rw[(cn (l:=v7)),(cn (l:=[(⟨v5,(bs []),[]⟩:az)])),ahQ];done)|(rw[(cn (l:=v7)),(cn (l:=[(⟨v5,(bs []),[]⟩:az)])),ahQ];rfl)|(rw[(cn (l:=v7)),(cn (l:=[(⟨v5,(bs []),[]⟩:az)])),ah9]))⟩)],[(5,oq (bV h3 rfl h2))]] ⟨bR h3,J⟩
def BG(N:Nat)(v1:ax)(v2:Int)(v3:aiF)(v4:gg)(v5:bB)(v6:Int64):aiG aq:=
 Option.bind (BH N (bs [97]) [v1]) fun v7=>
 some (⟨(4:Int),(bs []),FY,fA,dS,[],[v7,(⟨v2,v3,v4,v5,(⟨v6,[]⟩:ax),[],[]⟩:aq)]⟩:aq)
theorem EC(N:Nat)(v1:ax)(v2:Int)(v3:aiF)(v4:gg)(v5:bB)(v6:Int64)(r:aq)(J:BG N v1 v2 v3 v4 v5 v6=some r):bY Tryz.prog 22 [(b9 v1),(.ptr 0 0)] [.cells ((ak v2)::(bw v3)::(bu v4.xN)::(bu v4.xD)::UJ v5 [(bu v6),(.d (.sl [])),(.d (.sl [])),(.d (.sl []))])] fun r1 h1=>r1=(aF r)∧h1=[.cells ((ak v2)::(bw v3)::(bu v4.xN)::(bu v4.xD)::UJ v5 [(bu v6),(.d (.sl [])),(.d (.sl [])),(.d (.sl []))])]:=by
 rw[BG]at J;refine eu 1 Tryz.func22 (by kernel_rfl) (by kernel_rfl) (ahX rfl) ?_;obtain⟨v7,h1,J⟩:=ar J;cases J;exact ca af [[],[(7,cL (KM N (bs [97]) [v1] v7 h1)),(14,⟨_,_, .eq (congrArg AV.full (kL [v7,(⟨v2,v3,v4,v5,(⟨v6,[]⟩:ax),[],[]⟩:aq)]).symm)⟩)]]
def FV(N:Nat)(v1:aq)(v2:aq):aiG aq:=
 some (⟨(6:Int),(bs []),FY,fA,dS,[],[v1,v2]⟩:aq)
theorem Ju(N:Nat)(v1:aq)(v2:aq)(r:aq)(J:FV N v1 v2=some r):bg Tryz.prog 24 [(aF v1),(aF v2)] (·=(aF r)):=by
 rw[FV]at J;refine bD Tryz.func24 (by kernel_rfl) (by kernel_rfl) ?_;cases J;exact wr af [[],[(8,⟨_,_, .eq (congrArg AV.full (kL [v1,v2]).symm)⟩)]]
def AN(N:Nat)(v1:aQ):aiG Bool:=
 Option.bind (bif (decide ((if(v1.cl.length:Int)>(if(v1.ay.length:Int)>(if(v1.a8.length:Int)>(v1.ba.length:Int)then(v1.a8.length:Int)else(v1.ba.length:Int))then(v1.ay.length:Int)else(if(v1.a8.length:Int)>(v1.ba.length:Int)then(v1.a8.length:Int)else(v1.ba.length:Int)))then(v1.cl.length:Int)else(if(v1.ay.length:Int)>(if(v1.a8.length:Int)>(v1.ba.length:Int)then(v1.a8.length:Int)else(v1.ba.length:Int))then(v1.ay.length:Int)else(if(v1.a8.length:Int)>(v1.ba.length:Int)then(v1.a8.length:Int)else(v1.ba.length:Int))))≤(64:Int)))then some (decide ((v1.cm.length:Int)≤(256:Int)))else some false) fun v2=>
 some v2
theorem agt(N:Nat)(v1:aQ)(r:Bool)(J:AN N v1=some r):bg Tryz.prog 59 [(aS v1)] (·=(aJ r)):=by
 rw[AN]at J;refine bD Tryz.func59 (by kernel_rfl) (by kernel_rfl) ?_;refine au af [[]] ?_;obtain⟨v2,h2,J⟩:=ar J;refine cM af [(2,(aJ v2))] [.cells (aS v1).cells] ?_ ?_
 ·refine bc h2 (fun h1 h2=> ?_) fun h1 h2=> ?_
  ·cases h2;exact⟨so (os [45,48,51,54,58] (bT h1) [(7,oL v1.ba bC),(16,oL v1.a8 ee),(25,oL v1.ay du),(34,oL v1.cl bC),(52,oL v1.cm eO)]),by kernel_rfl⟩
  cases h2;exact⟨so (os [45,48,51,54,58] (bF h1) [(7,oL v1.ba bC),(16,oL v1.a8 ee),(25,oL v1.ay du),(34,oL v1.cl bC)]),by kernel_rfl⟩
 cases J;exact wr af []
def Au(N:Nat)(v1:Int):aiG Bool:=
 Option.bind (bif (decide (v1≥(97:Int)))then some (decide (v1≤(122:Int)))else some false) fun v2=>
 some v2
theorem Af(N:Nat)(v1:Int)(r:Bool)(J:Au N v1=some r):bg Tryz.prog 129 [(.d (.v (.int .i32 v1)))] (·=(aJ r)):=by
 rw[Au]at J;refine bD Tryz.func129 (by kernel_rfl) (by kernel_rfl) ?_;refine au af [[]] ?_;obtain⟨v2,h2,J⟩:=ar J;refine cM af [(2,(aJ v2))] [] ?_ ?_
 ·refine bc h2 (fun h1 h2=> ?_) fun h1 h2=> ?_
  ·cases h2;exact⟨so (os [9,12,16] (bT h1) []),by kernel_rfl⟩
  cases h2;exact⟨so (os [9,12,16] (bF h1) []),by kernel_rfl⟩
 cases J;exact wr af []
def g_lexer_digit(N:Nat)(v1:Int):aiG Bool:=
 Option.bind (bif (decide (v1≥(48:Int)))then some (decide (v1≤(57:Int)))else some false) fun v2=>
 some v2
theorem P9(N:Nat)(v1:Int)(r:Bool)(J:g_lexer_digit N v1=some r):bg Tryz.prog 161 [(.d (.v (.int .i32 v1)))] (·=(aJ r)):=by
 rw[g_lexer_digit]at J;refine bD Tryz.func161 (by kernel_rfl) (by kernel_rfl) ?_;refine au af [[]] ?_;obtain⟨v2,h2,J⟩:=ar J;refine cM af [(2,(aJ v2))] [] ?_ ?_
 ·refine bc h2 (fun h1 h2=> ?_) fun h1 h2=> ?_
  ·cases h2;exact⟨so (os [9,12,16] (bT h1) []),by kernel_rfl⟩
  cases h2;exact⟨so (os [9,12,16] (bF h1) []),by kernel_rfl⟩
 cases J;exact wr af []
def A2(N:Nat)(v1:Int):aiG Bool:=
 Option.bind (Au N v1) fun v2=>
 Option.bind (bif v2 then some true else Option.bind (g_lexer_digit N v1) fun v3=>
 (bif v3 then some true else some (v1==(95:Int)))) fun v4=>
 some v4
theorem adx(N:Nat)(v1:Int)(r:Bool)(J:A2 N v1=some r):bg Tryz.prog 131 [(.d (.v (.int .i32 v1)))] (·=(aJ r)):=by
 rw[A2]at J;refine bD Tryz.func131 (by kernel_rfl) (by kernel_rfl) ?_;refine au af [[]] ?_;obtain⟨v2,h1,J⟩:=ar J;obtain⟨v4,h5,J⟩:=ar J;refine cM af [(2,(aJ v4))] [] ?_ ?_
 ·refine bc h5 (fun h2 h5=> ?_) fun h2 h5=> ?_
  ·cases h5;exact⟨so (os [9,12,16] (bT h2) (os [21,24,28] (bT rfl) [(4,cL (Af N v1 v2 h1))])),by kernel_rfl⟩
  obtain⟨v3,h3,h5⟩:=ar h5;refine bc h5 (fun h4 h5=> ?_) fun h4 h5=> ?_
  ·cases h5;exact⟨so (os [9,12,16] (bF h2) (os [21,24,28] (bT h4) [(4,cL (Af N v1 v2 h1)),(13,cL (P9 N v1 v3 h3))])),by kernel_rfl⟩
  cases h5;exact⟨so (os [9,12,16] (bF h2) (os [21,24,28] (bF h4) [(4,cL (Af N v1 v2 h1)),(13,cL (P9 N v1 v3 h3))])),by kernel_rfl⟩
 cases J;exact wr af []
def uO(N:Nat)(v1:aiF):Nat→Int→aiG Int
 |0,_=>none
 |v2+1,v3=>
  Option.bind (bif (decide (v3<(v1.size:Int)))then bif (decide ((0:Int)≤v3))then
  Option.bind (v1[(v3).toNat]?) fun v4=>
  Option.bind (A2 N (IntKind.i32.wrap (v4.toNat:Int))) fun v5=>
  some v5
  else none else some false) fun v6=>
  bif v6 then
   (fun b6=>uO N v1 v2 b6) (aV (v3+(1:Int)))
  else
   some v3
def Eg(N:Nat)(v1:aiF):aiG Int:=
 uO N v1 N (0:Int)
theorem Qr(N:Nat)(v1:aiF)(r:Int)(J:Eg N v1=some r):bY Tryz.prog 130 [(bw v1),(.fn 131 [])] [] fun r1 h1=>r1=(ak r)∧h1=[]:=by
 rw[Eg]at J;refine eu 0 Tryz.func130 (by kernel_rfl) (by kernel_rfl) (ahX rfl) ?_;refine cx af 1 [[],[]] [0,1,5] 0 (fun((v2,v3):Nat×Int)=>⟨21,[(0,(bw v1)),(1,(.fn 131 [])),(5,(ak v3))],[]⟩) (fun((v2,v3):Nat×Int)=>uO N v1 v2 v3=some r) (fun((v2,v3):Nat×Int)=>v2) (N,(0:Int)) J ?_;rintro⟨v2,v3⟩ J f1 aN
 try dsimp only at J
 cases v2 with
 |zero=>
  rw[uO]at J;cases J
 |succ v2=>
  rw[uO]at J;obtain⟨v6,h5,J⟩:=ar J;refine cM af [(17,(aJ v6))] [] ?_ ?_
  ·refine bc h5 (fun h1 h5=> ?_) fun h1 h5=> ?_
   ·obtain⟨h3,h5⟩:=dg h5;obtain⟨v4,h2,h5⟩:=ar h5;obtain⟨v5,h4,h5⟩:=ar h5;obtain rfl:=sj h5;exact⟨so (os [15,18,21,24,27,30,34] (bT h1) [(25,⟨_,_, .ch (i:=v3) (of_decide_eq_true h3) h2⟩),(31,cL (adx N (IntKind.i32.wrap (v4.toNat:Int)) v5 h4))]),by kernel_rfl⟩
   cases h5;exact⟨so (os [15,18,21,24,27,30,34] (bF h1) []),by kernel_rfl⟩
  refine bc J (fun h6 J=> ?_) fun h6 J=> ?_
  ·exact ct af aN (v2,(aV (v3+(1:Int)))) [[(0,bT h6)],[]] J
  cases J;exact ca af [[(0,bF h6)],[]]
def LA(N:Nat):aiG (aiE aiF):=some lZ
theorem Zw(N:Nat)(r:aiE aiF)(J:LA N=some r):bg Tryz.prog 162 [] (·=(.d (.sl (aB r)))):=by
 cases J;exact ahj
def vX(N:Nat)(v2:aiF):aiE aiF→Nat→aiG Int
 |[],_=>
  some (-1:Int)
 |v5::v6,v3=>
  bif (bL v2==bL v5)then
   some (v3:Int)
  else
   (vX N v2 v6 (v3+1))
def Cw(N:Nat)(v1:aiE aiF)(v2:aiF):aiG Int:=
 vX N v2 v1 0
theorem agP(N:Nat)(v1:aiE aiF)(v2:aiF)(r:Int)(J:Cw N v1 v2=some r):bg Tryz.prog 58 [(.d (.sl (aB v1))),(bw v2)] (·=(ak r)):=by
 rw[Cw]at J;refine bD Tryz.func58 (by kernel_rfl) (by kernel_rfl) ?_;refine au af [[],[(4,oL v1 bC)]] ?_;refine dq 0 (aB v1) (by kernel_rfl) fun h1=> ?_;have h2:=cd bC h1;refine cx af 1 [] [0,1,7,8] 0 (fun((v3,v4):Nat×(aiE aiF))=>⟨19,[(0,(.d (.sl (aB v1)))),(1,(bw v2)),(7,(ak (v1.length:Int))),(8,(ak (v3:Int)))],[]⟩) (fun((v3,v4):Nat×(aiE aiF))=>v1.drop v3=v4∧vX N v2 v4 v3=some r) (fun((v3,v4):Nat×(aiE aiF))=>v4.length) (0,v1) ⟨rfl,J⟩ ?_;rintro⟨v3,v4⟩ ⟨h3,J⟩ f1 aN;cases v4 with
 |nil=>
  rw[vX]at J;cases J;exact wr af [[],[(0,bF (bO h3))],[]]
 |cons v5 v6=>
  rw[vX]at J;refine au af [[],[(0,bT (bN h3))],[],[(10,oE (kK (aU h3)))]] ?_;refine bc J (fun h4 J=> ?_) fun h4 J=> ?_
  ·cases J;exact wr af [[(0,bT h4)],[]]
  exact ct af aN (v3+1,v6) [[(0,bF h4)],[(2,oq (bV h3 rfl h2))]] ⟨bR h3,J⟩
def uk(N:Nat)(v1:aiE aiF)(v2:aiF):aiG Bool:=
 Option.bind (Cw N v1 v2) fun v3=>
 some (decide (v3≥(0:Int)))
theorem LO(N:Nat)(v1:aiE aiF)(v2:aiF)(r:Bool)(J:uk N v1 v2=some r):bg Tryz.prog 28 [(.d (.sl (aB v1))),(bw v2)] (·=(aJ r)):=by
 rw[uk]at J;refine bD Tryz.func28 (by kernel_rfl) (by kernel_rfl) ?_;obtain⟨v3,h1,J⟩:=ar J;cases J;exact wr af [[],[(7,cL (agP N v1 v2 v3 h1))]]
def Cn(N:Nat)(v1:aiF):aiG Bool:=
 Option.bind (LA N) fun v2=>
 Option.bind (uk N v2 v1) fun v3=>
 some v3
theorem agy(N:Nat)(v1:aiF)(r:Bool)(J:Cn N v1=some r):bg Tryz.prog 132 [(bw v1)] (·=(aJ r)):=by
 rw[Cn]at J;refine bD Tryz.func132 (by kernel_rfl) (by kernel_rfl) ?_;obtain⟨v2,h1,J⟩:=ar J;obtain⟨v3,h2,J⟩:=ar J;obtain rfl:=sj J;exact wr af [[],[(1,cL (Zw N v2 h1)),(7,cL (LO N v2 v1 v3 h2))]]
def ur(N:Nat)(v1:aiF):aiG Bool:=
 Option.bind (bif (bL v1==bL (bs []))then some false else(bif (decide ((v1.size:Int)≤(16:Int)))then Option.bind (v1[0]?) fun v2=>
 Option.bind (Au N (IntKind.i32.wrap (v2.toNat:Int))) fun v3=>
 (bif v3 then Option.bind (Eg N v1) fun v4=>
 (bif (v4==(v1.size:Int))then Option.bind (Cn N v1) fun v5=>
 some (!v5)else some false)else some false)else some false)) fun v6=>
 some v6
theorem EU(N:Nat)(v1:aiF)(r:Bool)(J:ur N v1=some r):bg Tryz.prog 96 [(bw v1)] (·=(aJ r)):=by
 rw[ur]at J;refine bD Tryz.func96 (by kernel_rfl) (by kernel_rfl) ?_;refine au af [[]] ?_;obtain⟨v6,h9,J⟩:=ar J;refine cM af [(2,(aJ v6))] [] ?_ ?_
 ·refine bc h9 (fun h1 h9=> ?_) fun h1 h9=> ?_
  ·cases h9;exact⟨so (os [9,12,15,19] (bF (cG h1)) (os [24,27,30,33,37,42,45,48,51,54,58,63,66,69,73] (bF rfl) [])),by kernel_rfl⟩
  refine bc h9 (fun h2 h9=> ?_) fun h2 h9=> ?_
  ·obtain⟨v2,h3,h9⟩:=ar h9;obtain⟨v3,h4,h9⟩:=ar h9;refine bc h9 (fun h5 h9=> ?_) fun h5 h9=> ?_
   ·obtain⟨v4,h6,h9⟩:=ar h9;refine bc h9 (fun h7 h9=> ?_) fun h7 h9=> ?_
    ·obtain⟨v5,h8,h9⟩:=ar h9;cases h9;exact⟨so (os [9,12,15,19] (bT (cU h1)) (os [24,27,30,33,37] (bT h2) (os [42,45,48,51,54,58] (bT h5) (os [63,66,69,73] (bT h7) [(28,⟨_,_, .ch (i:=(0:Int)) (by decide) h3⟩),(34,cL (Af N (IntKind.i32.wrap (v2.toNat:Int)) v3 h4)),(46,⟨_,_, .rq (cQ:=[(bw v1),(.fn 131 [])]) (h:=[]) (l:=[]) (by kernel_rfl) (by kernel_rfl) (by kernel_rfl) (by kernel_rfl) (Qr N v1 v4 h6)⟩),(67,cL (agy N v1 v5 h8))])))),by kernel_rfl⟩
    cases h9;exact⟨so (os [9,12,15,19] (bT (cU h1)) (os [24,27,30,33,37] (bT h2) (os [42,45,48,51,54,58] (bT h5) (os [63,66,69,73] (bF h7) [(28,⟨_,_, .ch (i:=(0:Int)) (by decide) h3⟩),(34,cL (Af N (IntKind.i32.wrap (v2.toNat:Int)) v3 h4)),(46,⟨_,_, .rq (cQ:=[(bw v1),(.fn 131 [])]) (h:=[]) (l:=[]) (by kernel_rfl) (by kernel_rfl) (by kernel_rfl) (by kernel_rfl) (Qr N v1 v4 h6)⟩)])))),by kernel_rfl⟩
   cases h9;exact⟨so (os [9,12,15,19] (bT (cU h1)) (os [24,27,30,33,37] (bT h2) (os [42,45,48,51,54,58] (bF h5) (os [63,66,69,73] (bF rfl) [(28,⟨_,_, .ch (i:=(0:Int)) (by decide) h3⟩),(34,cL (Af N (IntKind.i32.wrap (v2.toNat:Int)) v3 h4))])))),by kernel_rfl⟩
  cases h9;exact⟨so (os [9,12,15,19] (bT (cU h1)) (os [24,27,30,33,37] (bF h2) (os [42,45,48,51,54,58,63,66,69,73] (bF rfl) []))),by kernel_rfl⟩
 cases J;exact wr af []
def ya(N:Nat)(v1:aiF)(v2:Int)(v3:aQ)(v4:aiE (aiF×Int)):aiG (Int×(aiE (aiF×Int))):=
 Option.bind (ur N v1) fun v5=>
 bif v5 then
  bif ((gL v4 v1 0) !=(0:Int))then
   some ((8:Int),v4)
  else
   bif (Nat.blt v4.length 9223372036854775807)then
   some ((0:Int),((v1,v2)::v4))
   else none
 else
  some ((7:Int),v4)
theorem JK(N:Nat)(v1:aiF)(v2:Int)(v3:aQ)(v4:aiE (aiF×Int))(r:Int×(aiE (aiF×Int)))(J:ya N v1 v2 v3 v4=some r):bY Tryz.prog 60 [(.ptr 0 0),(bw v1),(ak v2)] [.cells (dL v3 [(.mp 1)]), .map (dC v4)] fun r1 h1=>r1=(ak r.1)∧h1=[.cells (dL v3 [(.mp 1)]), .map (dC r.2)]:=by
 rw[ya]at J;refine eu 2 Tryz.func60 (by kernel_rfl) (by kernel_rfl) (ahX rfl) ?_;obtain⟨v5,h1,J⟩:=ar J;refine au af [[],[(4,cL (EU N v1 v5 h1))]] ?_;refine bc J (fun h2 J=> ?_) fun h2 J=> ?_
 ·refine au af [[(0,bF (cG h2))],[(17,⟨_,_, .eq (Du false v4 v1)⟩)]] ?_;refine bc J (fun h3 J=> ?_) fun h3 J=> ?_
  ·cases J;exact ca af [[(0,bT h3)],[]]
  obtain⟨h4,J⟩:=dg J;cases J;exact ca af [[(0,bF h3)],[(19,⟨_,_, .sd (o:= .none) (Ka h4)⟩)],[]]
 cases J;exact ca af [[(0,bT (cU h2))],[]]
def gR(N:Nat)(v2:Bool):aiG Bool:=
 bif v2 then
  some true
 else
  some false
def BW(N:Nat)(v1:aiF):aiG Bool:=
 bif (bL v1==bL (bs [115,105,122,101]))then
  gR N (bL v1==bL (bs [115,105,122,101]))
 else
  bif (bL v1==bL (bs [119,104,101,114,101]))then
   gR N (bL v1==bL (bs [119,104,101,114,101]))
  else
   bif (bL v1==bL (bs [105,110]))then
    gR N (bL v1==bL (bs [105,110]))
   else
    bif (bL v1==bL (bs [100,101,102]))then
     gR N (bL v1==bL (bs [100,101,102]))
    else
     bif (bL v1==bL (bs [111,117,116]))then
      gR N (bL v1==bL (bs [111,117,116]))
     else
      bif (bL v1==bL (bs [115,117,109]))then
       gR N (bL v1==bL (bs [115,117,109]))
      else
       bif (bL v1==bL (bs [112,114,111,100]))then
        gR N (bL v1==bL (bs [112,114,111,100]))
       else
        bif (bL v1==bL (bs [109,105,110]))then
         gR N (bL v1==bL (bs [109,105,110]))
        else
         bif (bL v1==bL (bs [109,97,120]))then
          gR N (bL v1==bL (bs [109,97,120]))
         else
          bif (bL v1==bL (bs [115,99,97,110]))then
           gR N (bL v1==bL (bs [115,99,97,110]))
          else
           bif (bL v1==bL (bs [111,118,101,114]))then
            gR N (bL v1==bL (bs [111,118,101,114]))
           else
            bif (bL v1==bL (bs [105,102]))then
             gR N (bL v1==bL (bs [105,102]))
            else
             bif (bL v1==bL (bs [99,97,115,116]))then
              gR N (bL v1==bL (bs [99,97,115,116]))
             else
              bif (bL v1==bL (bs [102,114,97,99]))then
               gR N (bL v1==bL (bs [102,114,97,99]))
              else
               bif (bL v1==bL (bs [105,110,116]))then
                gR N (bL v1==bL (bs [105,110,116]))
               else
                bif (bL v1==bL (bs [102,105,120]))then
                 gR N (bL v1==bL (bs [102,105,120]))
                else
                 bif (bL v1==bL (bs [99,101,105,108]))then
                  gR N (bL v1==bL (bs [99,101,105,108]))
                 else
                  bif (bL v1==bL (bs [102,108,111,111,114]))then
                   gR N (bL v1==bL (bs [102,108,111,111,114]))
                  else
                   bif (bL v1==bL (bs [122,101,114,111]))then
                    gR N (bL v1==bL (bs [122,101,114,111]))
                   else
                    bif (bL v1==bL (bs [101,118,101,110]))then
                     gR N (bL v1==bL (bs [101,118,101,110]))
                    else
                     bif (bL v1==bL (bs [115,97,116]))then
                      gR N (bL v1==bL (bs [115,97,116]))
                     else
                      gR N (bL v1==bL (bs [119,114,97,112]))
theorem Jf(N:Nat)(v1:aiF)(r:Bool)(J:BW N v1=some r):bg Tryz.prog 158 [(bw v1)] (·=(aJ r)):=by
 rw[BW]at J;refine bD Tryz.func158 (by kernel_rfl) (by kernel_rfl) ?_;refine l0 af 1 [[],[],[]] [4] 0 (fun(v2:Bool)=>⟨27,[(4,(aJ v2))],[]⟩) (fun(v2:Bool)=>gR N v2=some r) ?_ ?_
 ·intro f1 aN;refine bc J (fun h2 J=> ?_) fun h2 J=> ?_
  ·exact dR af aN (bL v1==bL (bs [115,105,122,101])) [[(0,bT h2)]] J
  refine au af [[(0,bF h2)],[]] ?_;refine bc J (fun h3 J=> ?_) fun h3 J=> ?_
  ·exact dR af aN (bL v1==bL (bs [119,104,101,114,101])) [[(0,bT h3)]] J
  refine au af [[(0,bF h3)],[]] ?_;refine bc J (fun h4 J=> ?_) fun h4 J=> ?_
  ·exact dR af aN (bL v1==bL (bs [105,110])) [[(0,bT h4)]] J
  refine au af [[(0,bF h4)],[]] ?_;refine bc J (fun h5 J=> ?_) fun h5 J=> ?_
  ·exact dR af aN (bL v1==bL (bs [100,101,102])) [[(0,bT h5)]] J
  refine au af [[(0,bF h5)],[]] ?_;refine bc J (fun h6 J=> ?_) fun h6 J=> ?_
  ·exact dR af aN (bL v1==bL (bs [111,117,116])) [[(0,bT h6)]] J
  refine au af [[(0,bF h6)],[]] ?_;refine bc J (fun h7 J=> ?_) fun h7 J=> ?_
  ·exact dR af aN (bL v1==bL (bs [115,117,109])) [[(0,bT h7)]] J
  refine au af [[(0,bF h7)],[]] ?_;refine bc J (fun h8 J=> ?_) fun h8 J=> ?_
  ·exact dR af aN (bL v1==bL (bs [112,114,111,100])) [[(0,bT h8)]] J
  refine au af [[(0,bF h8)],[]] ?_;refine bc J (fun h9 J=> ?_) fun h9 J=> ?_
  ·exact dR af aN (bL v1==bL (bs [109,105,110])) [[(0,bT h9)]] J
  refine au af [[(0,bF h9)],[]] ?_;refine bc J (fun aA J=> ?_) fun aA J=> ?_
  ·exact dR af aN (bL v1==bL (bs [109,97,120])) [[(0,bT aA)]] J
  refine au af [[(0,bF aA)],[]] ?_;refine bc J (fun a7 J=> ?_) fun a7 J=> ?_
  ·exact dR af aN (bL v1==bL (bs [115,99,97,110])) [[(0,bT a7)]] J
  refine au af [[(0,bF a7)],[]] ?_;refine bc J (fun bk J=> ?_) fun bk J=> ?_
  ·exact dR af aN (bL v1==bL (bs [111,118,101,114])) [[(0,bT bk)]] J
  refine au af [[(0,bF bk)],[]] ?_;refine bc J (fun cg J=> ?_) fun cg J=> ?_
  ·exact dR af aN (bL v1==bL (bs [105,102])) [[(0,bT cg)]] J
  refine au af [[(0,bF cg)],[]] ?_;refine bc J (fun bm J=> ?_) fun bm J=> ?_
  ·exact dR af aN (bL v1==bL (bs [99,97,115,116])) [[(0,bT bm)]] J
  refine au af [[(0,bF bm)],[]] ?_;refine bc J (fun bQ J=> ?_) fun bQ J=> ?_
  ·exact dR af aN (bL v1==bL (bs [102,114,97,99])) [[(0,bT bQ)]] J
  refine au af [[(0,bF bQ)],[]] ?_;refine bc J (fun bo J=> ?_) fun bo J=> ?_
  ·exact dR af aN (bL v1==bL (bs [105,110,116])) [[(0,bT bo)]] J
  refine au af [[(0,bF bo)],[]] ?_;refine bc J (fun cC J=> ?_) fun cC J=> ?_
  ·exact dR af aN (bL v1==bL (bs [102,105,120])) [[(0,bT cC)]] J
  refine au af [[(0,bF cC)],[]] ?_;refine bc J (fun bW J=> ?_) fun bW J=> ?_
  ·exact dR af aN (bL v1==bL (bs [99,101,105,108])) [[(0,bT bW)]] J
  refine au af [[(0,bF bW)],[]] ?_;refine bc J (fun dh J=> ?_) fun dh J=> ?_
  ·exact dR af aN (bL v1==bL (bs [102,108,111,111,114])) [[(0,bT dh)]] J
  refine au af [[(0,bF dh)],[]] ?_;refine bc J (fun dH J=> ?_) fun dH J=> ?_
  ·exact dR af aN (bL v1==bL (bs [122,101,114,111])) [[(0,bT dH)]] J
  refine au af [[(0,bF dH)],[]] ?_;refine bc J (fun eJ J=> ?_) fun eJ J=> ?_
  ·exact dR af aN (bL v1==bL (bs [101,118,101,110])) [[(0,bT eJ)]] J
  refine au af [[(0,bF eJ)],[]] ?_;refine bc J (fun fk J=> ?_) fun fk J=> ?_
  ·exact dR af aN (bL v1==bL (bs [115,97,116])) [[(0,bT fk)]] J
  exact dR af aN (bL v1==bL (bs [119,114,97,112])) [[(0,bF fk)],[]] J
 rintro v2 J
 try dsimp only at J
 rw[gR]at J;refine bc J (fun h1 J=> ?_) fun h1 J=> ?_
 ·cases J;exact wr af [[(0,bT h1)],[]]
 cases J;exact wr af [[(0,bF h1)],[]]
def tU(N:Nat)(v1:aiF):Nat→Int→aiG Bool
 |0,_=>none
 |v5+1,v6=>
  bif (decide (v6<(v1.size:Int)))then
   bif (decide ((0:Int)≤v6))then
   Option.bind (v1[(v6).toNat]?) fun v7=>
   Option.bind (bif (decide ((v7.toNat:Int)<(97:Int)))then(bif (decide ((v7.toNat:Int)<(48:Int)))then some ((v7.toNat:Int) !=(95:Int))else(bif (decide ((v7.toNat:Int)>(57:Int)))then some ((v7.toNat:Int) !=(95:Int))else some false))else(bif (decide ((v7.toNat:Int)>(122:Int)))then(bif (decide ((v7.toNat:Int)<(48:Int)))then some ((v7.toNat:Int) !=(95:Int))else(bif (decide ((v7.toNat:Int)>(57:Int)))then some ((v7.toNat:Int) !=(95:Int))else some false))else some false)) fun v8=>
   bif v8 then
    some false
   else
    (fun b6=>tU N v1 v5 b6) (aV (v6+(1:Int)))
   else none
  else
   some true
def zw(N:Nat)(v1:aiF):aiG Bool:=
 Option.bind (bif (decide ((v1.size:Int)<(1:Int)))then some true else(bif (decide ((v1.size:Int)>(16:Int)))then some true else Option.bind (BW N v1) fun v2=>
 (bif v2 then some true else Option.bind (v1[0]?) fun v3=>
 (bif (decide ((v3.toNat:Int)<(97:Int)))then some true else some (decide ((v3.toNat:Int)>(122:Int))))))) fun v4=>
 bif v4 then
  some false
 else
  tU N v1 N (0:Int)
theorem CL(N:Nat)(v1:aiF)(r:Bool)(J:zw N v1=some r):bg Tryz.prog 123 [(bw v1)] (·=(aJ r)):=by
 rw[zw]at J;refine bD Tryz.func123 (by kernel_rfl) (by kernel_rfl) ?_;refine au af [[]] ?_;obtain⟨v4,h7,J⟩:=ar J;refine cM af [(26,(aJ v4))] [] ?_ ?_
 ·refine bc h7 (fun h1 h7=> ?_) fun h1 h7=> ?_
  ·cases h7;exact⟨so (os [12,15,18,22] (bT h1) (os [27,30,34,39,42,45,49,54,57,60,64] (bT rfl) [])),by kernel_rfl⟩
  refine bc h7 (fun h2 h7=> ?_) fun h2 h7=> ?_
  ·cases h7;exact⟨so (os [12,15,18,22] (bF h1) (os [27,30,34] (bT h2) (os [39,42,45,49,54,57,60,64] (bT rfl) []))),by kernel_rfl⟩
  obtain⟨v2,h3,h7⟩:=ar h7;refine bc h7 (fun h4 h7=> ?_) fun h4 h7=> ?_
  ·cases h7;exact⟨so (os [12,15,18,22] (bF h1) (os [27,30,34] (bF h2) (os [39,42,45,49] (bT h4) (os [54,57,60,64] (bT rfl) [(31,cL (Jf N v1 v2 h3))])))),by kernel_rfl⟩
  obtain⟨v3,h5,h7⟩:=ar h7;refine bc h7 (fun h6 h7=> ?_) fun h6 h7=> ?_
  ·cases h7;exact⟨so (os [12,15,18,22] (bF h1) (os [27,30,34] (bF h2) (os [39,42,45,49] (bF h4) (os [54,57,60,64] (bT h6) [(31,cL (Jf N v1 v2 h3)),(43,⟨_,_, .ch (i:=(0:Int)) (by decide) h5⟩)])))),by kernel_rfl⟩
  cases h7;exact⟨so (os [12,15,18,22] (bF h1) (os [27,30,34] (bF h2) (os [39,42,45,49] (bF h4) (os [43,58] (⟨_,_, .ch (i:=(0:Int)) (by decide) h5⟩) (os [54,57,60,64] (bF h6) [(31,cL (Jf N v1 v2 h3))]))))),by kernel_rfl⟩
 refine bc J (fun h8 J=> ?_) fun h8 J=> ?_
 ·cases J;exact wr af [[(0,bT h8)],[]]
 refine cx af 1 [[(0,bF h8)],[]] [0,28,29] 0 (fun((v5,v6):Nat×Int)=>⟨54,[(0,(bw v1)),(28,(ak (v1.size:Int))),(29,(ak v6))],[]⟩) (fun((v5,v6):Nat×Int)=>tU N v1 v5 v6=some r) (fun((v5,v6):Nat×Int)=>v5) (N,(0:Int)) J ?_;rintro⟨v5,v6⟩ J f1 aN
 try dsimp only at J
 cases v5 with
 |zero=>
  rw[tU]at J;cases J
 |succ v5=>
  rw[tU]at J;refine au af [[]] ?_;refine bc J (fun h9 J=> ?_) fun h9 J=> ?_
  ·obtain⟨a7,J⟩:=dg J;obtain⟨v7,aA,J⟩:=ar J;refine au af [[(0,bT h9)],[],[(7,⟨_,_, .ch (i:=v6) (of_decide_eq_true a7) aA⟩)]] ?_;obtain⟨v8,bW,J⟩:=ar J;refine cM af [(52,(aJ v8))] [] ?_ ?_
   ·refine bc bW (fun bk bW=> ?_) fun bk bW=> ?_
    ·refine bc bW (fun cg bW=> ?_) fun cg bW=> ?_
     ·cases bW;exact⟨so (os [9,12,16] (bT bk) (os [21,24,27,36,40,45,48,52] (bT rfl) (os [30,33,37] (bT cg) []))),by kernel_rfl⟩
     refine bc bW (fun bm bW=> ?_) fun bm bW=> ?_
     ·cases bW;exact⟨so (os [9,12,16] (bT bk) (os [21,24,27,36,40] (bT rfl) (os [30,33,37] (bF cg) (os [45,48,52] (bT bm) [])))),by kernel_rfl⟩
     cases bW;exact⟨so (os [9,12,16] (bT bk) (os [21,24,27,36,40] (bT rfl) (os [30,33,37] (bF cg) (os [45,48,52] (bF bm) [])))),by kernel_rfl⟩
    refine bc bW (fun bQ bW=> ?_) fun bQ bW=> ?_
    ·refine bc bW (fun bo bW=> ?_) fun bo bW=> ?_
     ·cases bW;exact⟨so (os [9,12,16] (bF bk) (os [21,24,27,36,40] (bT bQ) (os [30,33,37] (bT bo) (os [45,48,52] (bT rfl) [])))),by kernel_rfl⟩
     refine bc bW (fun cC bW=> ?_) fun cC bW=> ?_
     ·cases bW;exact⟨so (os [9,12,16] (bF bk) (os [21,24,27,36,40] (bT bQ) (os [30,33,37] (bF bo) (os [45,48,52] (bT cC) [])))),by kernel_rfl⟩
     cases bW;exact⟨so (os [9,12,16] (bF bk) (os [21,24,27,36,40] (bT bQ) (os [30,33,37] (bF bo) (os [45,48,52] (bF cC) [])))),by kernel_rfl⟩
    cases bW;exact⟨so (os [9,12,16] (bF bk) (os [21,24,27,36,40] (bF bQ) (os [30,33] uN (os [45,48,52] (bF rfl) [])))),by kernel_rfl⟩
   refine bc J (fun dh J=> ?_) fun dh J=> ?_
   ·cases J;exact wr af [[(0,bT dh)],[]]
   exact ct af aN (v5,(aV (v6+(1:Int)))) [[(0,bF dh)],[]] J
  cases J;exact wr af [[(0,bF h9)],[]]
def vz(N:Nat)(v1:ax):aiE aD→Nat→aiG Int
 |[],_=>
  some (0:Int)
 |v4::v5,v2=>
  Option.bind (zw N v4.ao) fun v6=>
  Option.bind (bif v6 then(bif (v4.dd.toInt==(0:Int))then some true else(bif (decide ((v2:Int)>(0:Int)))then bif (decide ((0:Int)≤(aV ((v2:Int)-(1:Int)))))then
  Option.bind (v1.xL[((aV ((v2:Int)-(1:Int)))).toNat]?) fun v7=>
  some (!(Op.bytesLess (bL v7.ao) (bL v4.ao)))
  else none else some false))else some true) fun v8=>
  bif v8 then
   some (1:Int)
  else
   (vz N v1 v5 (v2+1))
def rk(N:Nat)(v1:ax):aiG Int:=
 vz N v1 v1.xL 0
theorem vK(N:Nat)(v1:ax)(r:Int)(J:rk N v1=some r):bg Tryz.prog 124 [(b9 v1)] (·=(ak r)):=by
 rw[rk]at J;refine bD Tryz.func124 (by kernel_rfl) (by kernel_rfl) ?_;refine au af [[],[(7,oL v1.xL bZ)]] ?_;refine dq 6 (bP v1.xL) (by kernel_rfl) fun h1=> ?_;have h2:=cd bZ h1;refine cx af 1 [] [1,6,7,8] 1 (fun((v2,v3):Nat×(aiE aD))=>⟨39,[(1,(.ptr 0 0)),(6,(.d (.sl (bP v1.xL)))),(7,(ak (v1.xL.length:Int))),(8,(ak (v2:Int)))],[.cells (b9 v1).cells]⟩) (fun((v2,v3):Nat×(aiE aD))=>v1.xL.drop v2=v3∧vz N v1 v3 v2=some r) (fun((v2,v3):Nat×(aiE aD))=>v3.length) (0,v1.xL) ⟨rfl,J⟩ ?_;rintro⟨v2,v3⟩ ⟨h3,J⟩ f1 aN;cases v3 with
 |nil=>
  rw[vz]at J;cases J;exact wr af [[],[(0,bF (bO h3))],[]]
 |cons v4 v5=>
  rw[vz]at J;refine au af [[],[(0,bT (bN h3))],[(4,oE (eY (aU h3)))]] ?_;obtain⟨v6,h4,J⟩:=ar J;obtain⟨v8,aA,J⟩:=ar J;refine cM af [(37,(aJ v8))] [.cells (b9 v1).cells, .cells (mM v4).cells] ?_ ?_
  ·refine bc aA (fun h5 aA=> ?_) fun h5 aA=> ?_
   ·refine bc aA (fun h6 aA=> ?_) fun h6 aA=> ?_
    ·cases aA;exact⟨so (os [15,18,21,25] (bF (cG h5)) (os [30,33,36,69,73] (bT h6) (os [39,42,45,48,51,54,57,60,63,66] uN [(7,cL (CL N v4.ao v6 h4))]))),by kernel_rfl⟩
    refine bc aA (fun h7 aA=> ?_) fun h7 aA=> ?_
    ·obtain⟨h9,aA⟩:=dg aA;obtain⟨v7,h8,aA⟩:=ar aA;cases aA;exact⟨so (os [15,18,21,25] (bF (cG h5)) (os [30,33,36,69,73] (bF h6) (os [39,42,45,48,51,54,57,60,63,66,70] (bT h7) [(7,cL (CL N v4.ao v6 h4)),(52,⟨_,_, .el (xs:=bP v1.xL) (i:=(aV ((v2:Int)-(1:Int)))) (of_decide_eq_true h9) (eY h8)⟩)]))),by kernel_rfl⟩
    cases aA;exact⟨so (os [15,18,21,25] (bF (cG h5)) (os [30,33,36,69,73] (bF h6) (os [39,42,45,48,51,54,57,60,63,66,70] (bF h7) [(7,cL (CL N v4.ao v6 h4))]))),by kernel_rfl⟩
   cases aA;exact⟨so (os [15,18,21,25] (bT (cU h5)) (os [30,33,36,69,73] (bT rfl) (os [39,42,45,48,51,54,57,60,63,66] uN [(7,cL (CL N v4.ao v6 h4))]))),by kernel_rfl⟩
  refine bc J (fun a7 J=> ?_) fun a7 J=> ?_
  ·cases J;exact wr af [[(0,bT a7)],[]]
  exact ct af aN (v2+1,v5) [[(0,bF a7)],[(2,oq (bV h3 rfl h2))]] ⟨bR h3,J⟩
def GS(N:Nat)(v1:cf):aiG Int:=
 Option.bind (rk N v1.aK) fun v2=>
 some v2
theorem af6(N:Nat)(v1:cf)(r:Int)(J:GS N v1=some r):bg Tryz.prog 97 [(kE v1)] (·=(ak r)):=by
 rw[GS]at J;refine bD Tryz.func97 (by kernel_rfl) (by kernel_rfl) ?_;obtain⟨v2,h1,J⟩:=ar J;obtain rfl:=sj J;exact wr af [[],[(7,cL (vK N v1.aK v2 h1))]]
def xx(N:Nat)(v3:aiE (aiF×Int)):aiE aD→Nat→aiG Int
 |[],_=>
  some (0:Int)
 |v7::v8,v5=>
  bif ((gL v3 v7.ao 0) !=(1:Int))then
   some (9:Int)
  else
   (xx N v3 v8 (v5+1))
def xQ(N:Nat)(v1:ax)(v2:aQ)(v3:aiE (aiF×Int)):aiG Int:=
 Option.bind (rk N v1) fun v4=>
 bif (v4 !=(0:Int))then
  some (1:Int)
 else
  xx N v3 v1.xL 0
theorem KL(N:Nat)(v1:ax)(v2:aQ)(v3:aiE (aiF×Int))(r:Int)(J:xQ N v1 v2 v3=some r):bY Tryz.prog 98 [(.ptr 0 0),(b9 v1)] [.cells (dL v2 [(.mp 1)]), .map (dC v3)] fun r1 h1=>r1=(ak r)∧h1=[.cells (dL v2 [(.mp 1)]), .map (dC v3)]:=by
 rw[xQ]at J;refine eu 2 Tryz.func98 (by kernel_rfl) (by kernel_rfl) (ahX rfl) ?_;obtain⟨v4,h1,J⟩:=ar J;refine au af [[],[(4,cL (vK N v1 v4 h1))]] ?_;refine bc J (fun h2 J=> ?_) fun h2 J=> ?_
 ·cases J;exact ca af [[(0,bT h2)],[]]
 refine au af [[(0,bF h2)],[(7,oL v1.xL bZ)]] ?_;refine dq 11 (bP v1.xL) (by kernel_rfl) fun h3=> ?_;have h4:=cd bZ h3;refine cx af 1 [] [0,11,12,13] 3 (fun((v5,v6):Nat×(aiE aD))=>⟨26,[(0,(.ptr 0 0)),(11,(.d (.sl (bP v1.xL)))),(12,(ak (v1.xL.length:Int))),(13,(ak (v5:Int)))],[.cells (dL v2 [(.mp 1)]), .map (dC v3), .cells (b9 v1).cells]⟩) (fun((v5,v6):Nat×(aiE aD))=>v1.xL.drop v5=v6∧xx N v3 v6 v5=some r) (fun((v5,v6):Nat×(aiE aD))=>v6.length) (0,v1.xL) ⟨rfl,J⟩ ?_;rintro⟨v5,v6⟩ ⟨h5,J⟩ f1 aN;cases v6 with
 |nil=>
  rw[xx]at J;cases J;exact ca af [[],[(0,bF (bO h5))],[]]
 |cons v7 v8=>
  rw[xx]at J;refine au af [[],[(0,bT (bN h5))],[(1,oE (eY (aU h5)))],[(20,⟨_,_, .eq (Du false v3 v7.ao)⟩)]] ?_;refine bc J (fun h6 J=> ?_) fun h6 J=> ?_
  ·cases J;exact ca af [[(0,bT h6)],[]]
  exact ct af aN (v5+1,v8) [[(0,bF h6)],[(2,oq (bV h5 rfl h4))]] ⟨bR h5,J⟩
def Cq(N:Nat)(v1:cf)(v2:aQ)(v3:aiE (aiF×Int)):aiG Int:=
 Option.bind (GS N v1) fun v4=>
 bif (v4 !=(0:Int))then
  some (1:Int)
 else
  Option.bind (xQ N v1.aK v2 v3) fun v5=>
  some v5
theorem afN(N:Nat)(v1:cf)(v2:aQ)(v3:aiE (aiF×Int))(r:Int)(J:Cq N v1 v2 v3=some r):bY Tryz.prog 61 [(.ptr 0 0),(kE v1)] [.cells (dL v2 [(.mp 1)]), .map (dC v3)] fun r1 h1=>r1=(ak r)∧h1=[.cells (dL v2 [(.mp 1)]), .map (dC v3)]:=by
 rw[Cq]at J;refine eu 2 Tryz.func61 (by kernel_rfl) (by kernel_rfl) (ahX rfl) ?_;obtain⟨v4,h1,J⟩:=ar J;refine au af [[],[(4,cL (af6 N v1 v4 h1))]] ?_;refine bc J (fun h2 J=> ?_) fun h2 J=> ?_
 ·cases J;exact ca af [[(0,bT h2)],[]]
 obtain⟨v5,h3,J⟩:=ar J;obtain rfl:=sj J;exact ca af [[(0,bF h2)],[(10,⟨_,_, .rq (cQ:=[(.ptr 0 0),(b9 v1.aK)]) (h:=[.cells (dL v2 [(.mp 1)]), .map (dC v3), .cells (kE v1).cells]) (l:=[0,1]) (by kernel_rfl) (by kernel_rfl) (by kernel_rfl) (by kernel_rfl) (KL N v1.aK v2 v3 v5 h3)⟩)]]
def Gb(N:Nat)(v1:bB):aiG Bool:=
 some ((v1.ck==v1.ck)&&((v1.cq==(0:Int))&&((v1.cJ==(0:Int))&&((v1.cH==(0:Int))&&((v1.cK==(0:Int))&&true)))))
theorem agX(N:Nat)(v1:bB)(r:Bool)(J:Gb N v1=some r):bg Tryz.prog 163 [(eZ v1)] (·=(aJ r)):=by
 rw[Gb]at J;refine bD Tryz.func163 (by kernel_rfl) (by kernel_rfl) ?_;cases J;exact wr af [[],[]]
def zo(N:Nat)(v1:bB):aiG Int:=
 Option.bind (bif (decide (v1.cH≥(1:Int)))then(bif (decide (v1.cH≤(4:Int)))then(bif (v1.cK==(1:Int))then some true else some (v1.cK==(2:Int)))else some false)else some false) fun v2=>
 Option.bind (bif (v1.ck !=(2:Int))then some true else(bif (decide (v1.cq<(2:Int)))then some true else(bif (decide (v1.cq>(31:Int)))then some true else(bif (decide (v1.cJ<(0:Int)))then some true else(bif (decide (v1.cJ>(30:Int)))then some true else some (!v2)))))) fun v3=>
 bif v3 then
  some (10:Int)
 else
  some (0:Int)
theorem AQ(N:Nat)(v1:bB)(r:Int)(J:zo N v1=some r):bg Tryz.prog 164 [(eZ v1)] (·=(ak r)):=by
 rw[zo]at J;refine bD Tryz.func164 (by kernel_rfl) (by kernel_rfl) ?_;refine au af [[]] ?_;obtain⟨v2,h4,J⟩:=ar J;refine cM af [(3,(aJ v2))] [.cells (eZ v1).cells] ?_ ?_
 ·refine bc h4 (fun h1 h4=> ?_) fun h1 h4=> ?_
  ·refine bc h4 (fun h2 h4=> ?_) fun h2 h4=> ?_
   ·refine bc h4 (fun h3 h4=> ?_) fun h3 h4=> ?_
    ·cases h4;exact⟨so (os [12,15,18,22] (bT h1) (os [27,30,33,36,48,52] (bT h2) (os [39,42,45,49] (bT h3) []))),by kernel_rfl⟩
    cases h4;exact⟨so (os [12,15,18,22] (bT h1) (os [27,30,33,36,48,52] (bT h2) (os [39,42,45,49] (bF h3) []))),by kernel_rfl⟩
   cases h4;exact⟨so (os [12,15,18,22] (bT h1) (os [27,30,33,36,48,52] (bF h2) (os [39,42,45] uN []))),by kernel_rfl⟩
  cases h4;exact⟨so (os [12,15,18,22] (bF h1) (os [27,30,33,36,48,52] (bF rfl) (os [39,42,45] uN []))),by kernel_rfl⟩
 obtain⟨v3,aA,J⟩:=ar J;refine cM af [(48,(aJ v3))] [.cells (eZ v1).cells] ?_ ?_
 ·refine bc aA (fun h5 aA=> ?_) fun h5 aA=> ?_
  ·cases aA;exact⟨so (os [12,15,18,22] (bT h5) (os [27,30,33,37,42,45,48,52,57,60,63,67,72,75,79] (bT rfl) [])),by kernel_rfl⟩
  refine bc aA (fun h6 aA=> ?_) fun h6 aA=> ?_
  ·cases aA;exact⟨so (os [12,15,18,22] (bF h5) (os [27,30,33,37] (bT h6) (os [42,45,48,52,57,60,63,67,72,75,79] (bT rfl) []))),by kernel_rfl⟩
  refine bc aA (fun h7 aA=> ?_) fun h7 aA=> ?_
  ·cases aA;exact⟨so (os [12,15,18,22] (bF h5) (os [27,30,33,37] (bF h6) (os [42,45,48,52] (bT h7) (os [57,60,63,67,72,75,79] (bT rfl) [])))),by kernel_rfl⟩
  refine bc aA (fun h8 aA=> ?_) fun h8 aA=> ?_
  ·cases aA;exact⟨so (os [12,15,18,22] (bF h5) (os [27,30,33,37] (bF h6) (os [42,45,48,52] (bF h7) (os [57,60,63,67] (bT h8) (os [72,75,79] (bT rfl) []))))),by kernel_rfl⟩
  refine bc aA (fun h9 aA=> ?_) fun h9 aA=> ?_
  ·cases aA;exact⟨so (os [12,15,18,22] (bF h5) (os [27,30,33,37] (bF h6) (os [42,45,48,52] (bF h7) (os [57,60,63,67] (bF h8) (os [72,75,79] (bT h9) []))))),by kernel_rfl⟩
  cases aA;exact⟨so (os [12,15,18,22] (bF h5) (os [27,30,33,37] (bF h6) (os [42,45,48,52] (bF h7) (os [57,60,63,67] (bF h8) (os [72,75,79] (bF h9) []))))),by kernel_rfl⟩
 refine bc J (fun a7 J=> ?_) fun a7 J=> ?_
 ·cases J;exact wr af [[(0,bT a7)],[]]
 cases J;exact wr af [[(0,bF a7)],[]]
def Ck(N:Nat)(v1:bB)(v2:Bool):aiG Int:=
 bif v2 then
  Option.bind (Gb N v1) fun v3=>
  bif v3 then
   some (0:Int)
  else
   some (10:Int)
 else
  bif (v1.ck==(2:Int))then
   Option.bind (zo N v1) fun v4=>
   bif (v4==(0:Int))then
    some (0:Int)
   else
    some (10:Int)
  else
   some (10:Int)
def rT(N:Nat)(v1:bB):aiG Int:=
 bif (v1.ck==(1:Int))then
  Ck N v1 (v1.ck==(1:Int))
 else
  Ck N v1 (v1.ck==(3:Int))
theorem HI(N:Nat)(v1:bB)(r:Int)(J:rT N v1=some r):bg Tryz.prog 133 [(eZ v1)] (·=(ak r)):=by
 rw[rT]at J;refine bD Tryz.func133 (by kernel_rfl) (by kernel_rfl) ?_;refine l0 af 1 [[],[],[]] [1,4,5] 1 (fun(v2:Bool)=>⟨15,[(1,(.ptr 0 0)),(4,(ak v1.ck)),(5,(aJ v2))],[.cells (eZ v1).cells]⟩) (fun(v2:Bool)=>Ck N v1 v2=some r) ?_ ?_
 ·intro f1 aN;refine bc J (fun h7 J=> ?_) fun h7 J=> ?_
  ·exact dR af aN (v1.ck==(1:Int)) [[(0,bT h7)]] J
  exact dR af aN (v1.ck==(3:Int)) [[(0,bF h7)],[]] J
 rintro v2 J
 try dsimp only at J
 rw[Ck]at J;refine bc J (fun h1 J=> ?_) fun h1 J=> ?_
 ·obtain⟨v3,h2,J⟩:=ar J;refine au af [[(0,bT h1)],[(4,cL (agX N v1 v3 h2))]] ?_;refine bc J (fun h3 J=> ?_) fun h3 J=> ?_
  ·cases J;exact wr af [[(0,bT h3)],[]]
  cases J;exact wr af [[(0,bF h3)],[]]
 refine au af [[(0,bF h1)],[]] ?_;refine bc J (fun h4 J=> ?_) fun h4 J=> ?_
 ·obtain⟨v4,h5,J⟩:=ar J;refine au af [[(0,bT h4)],[(4,cL (AQ N v1 v4 h5))]] ?_;refine bc J (fun h6 J=> ?_) fun h6 J=> ?_
  ·cases J;exact wr af [[(0,bT h6)],[]]
  cases J;exact wr af [[(0,bF h6)],[]]
 cases J;exact wr af [[(0,bF h4)],[]]
def A6(N:Nat):aiE Int→Nat→Int→aiG Int
 |[],_,v7=>
  some v7
 |v5::v6,v3,v7=>
  (fun fI=>A6 N v6 (v3+1) fI) (if v5>v7 then v5 else v7)
def K6(N:Nat)(v1:aiE Int):aiG Int:=
 Option.bind (v1[0]?) fun v2=>
 A6 N (v1.drop 1) 1 v2
def Da(N:Nat)(v1:aiE Int):aiG Int:=
 bif (decide ((v1.length:Int)<(1:Int)))then
  none
 else
  K6 N v1
theorem agv(N:Nat)(v1:aiE Int)(r:Int)(J:Da N v1=some r):bg Tryz.prog 134 [(.d (.sl (nb v1)))] (·=(ak r)):=by
 rw[Da]at J;refine bD Tryz.func134 (by kernel_rfl) (by kernel_rfl) ?_;refine l0 af 1 [[],[(4,oL v1 yW)]] [0] 0 (fun(_:Unit)=>⟨25,[(0,(.d (.sl (nb v1))))],[]⟩) (fun(_:Unit)=>K6 N v1=some r) ?_ ?_
 ·intro f1 aN;refine bc J (fun h5 J=> ?_) fun h5 J=> ?_
  ·cases J
  exact dR af aN () [[(0,bF h5)]] J
 rintro _ J
 try dsimp only at J
 rw[K6]at J;obtain⟨v2,h1,J⟩:=ar J;refine au af [[(4,oE (k:=0) (Lq h1))],[]] ?_;refine dq 0 (nb v1) (by kernel_rfl) fun h2=> ?_;have h3:=cd yW h2;refine cx af 2 [] [0,3,4] 0 (fun((v3,v4,v7):Nat×(aiE Int)×Int)=>⟨25,[(0,(.d (.sl (nb v1)))),(3,(ak v7)),(4,(ak (v3:Int)))],[]⟩) (fun((v3,v4,v7):Nat×(aiE Int)×Int)=>v1.drop v3=v4∧A6 N v4 v3 v7=some r) (fun((v3,v4,v7):Nat×(aiE Int)×Int)=>v4.length) (1,(v1.drop 1),v2) ⟨rfl,J⟩ ?_;rintro⟨v3,v4,v7⟩ ⟨h4,J⟩ f2 dU;cases v4 with
 |nil=>
  rw[A6]at J;cases J;exact wr af [[(7,oL v1 yW)],[(0,bF (bO h4))],[]]
 |cons v5 v6=>
  rw[A6]at J;exact ct af dU (v3+1,v6,(if v5>v7 then v5 else v7)) [[(7,oL v1 yW)],[(0,bT (bN h4))],[(10,oE (Lq (aU h4)))],[(5,oq (bV h4 rfl h3))]] ⟨bR h4,J⟩
def sL(N:Nat)(v1:bB)(v2:aiE Int):aiG Int:=
 Option.bind (rT N v1) fun v3=>
 bif (v3 !=(0:Int))then
  some (10:Int)
 else
  Option.bind (Da N v2) fun v4=>
  bif (decide (v4>(6:Int)))then
   some (11:Int)
  else
   some (0:Int)
theorem TL(N:Nat)(v1:bB)(v2:aiE Int)(r:Int)(J:sL N v1 v2=some r):bg Tryz.prog 99 [(eZ v1),(.d (.sl (nb v2)))] (·=(ak r)):=by
 rw[sL]at J;refine bD Tryz.func99 (by kernel_rfl) (by kernel_rfl) ?_;obtain⟨v3,h1,J⟩:=ar J;refine au af [[],[(4,cL (HI N v1 v3 h1))]] ?_;refine bc J (fun h2 J=> ?_) fun h2 J=> ?_
 ·cases J;exact wr af [[(0,bT h2)],[]]
 obtain⟨v4,h3,J⟩:=ar J;refine au af [[(0,bF h2)],[(4,cL (agv N v2 v4 h3))]] ?_;refine bc J (fun h4 J=> ?_) fun h4 J=> ?_
 ·cases J;exact wr af [[(0,bT h4)],[]]
 cases J;exact wr af [[(0,bF h4)],[]]
def xk(N:Nat)(v4:Int×(aiE (aiF×Int)))(v2:aQ):aiE ax→Nat→aiG (Int×(aiE (aiF×Int)))
 |[],_=>
  some ((0:Int),v4.2)
 |v8::v9,v6=>
  Option.bind (xQ N v8 v2 v4.2) fun v10=>
  bif (v10 !=(0:Int))then
   some (v10,v4.2)
  else
   (xk N v4 v2 v9 (v6+1))
def C4(N:Nat)(v1:bX)(v2:aQ)(v3:aiE (aiF×Int)):aiG (Int×(aiE (aiF×Int))):=
 Option.bind (ya N v1.ao (2:Int) v2 v3) fun v4=>
 bif (v4.1 !=(0:Int))then
  some (v4.1,v4.2)
 else
  Option.bind (sL N v1.aw ([(v1.aI.length:Int)])) fun v5=>
  bif (v5 !=(0:Int))then
   some (v5,v4.2)
  else
   xk N v4 v2 v1.aI 0
theorem Ze(N:Nat)(v1:bX)(v2:aQ)(v3:aiE (aiF×Int))(r:Int×(aiE (aiF×Int)))(J:C4 N v1 v2 v3=some r):bY Tryz.prog 62 [(.ptr 0 0),(lf v1)] [.cells (dL v2 [(.mp 1)]), .map (dC v3)] fun r1 h1=>r1=(ak r.1)∧h1=[.cells (dL v2 [(.mp 1)]), .map (dC r.2)]:=by
 rw[C4]at J;refine eu 2 Tryz.func62 (by kernel_rfl) (by kernel_rfl) (ahX rfl) ?_;obtain⟨v4,h1,J⟩:=ar J;refine au af [[],[(10,⟨_,_, .iK (cQ:=[(.ptr 0 0),(bw v1.ao),(ak (2:Int))]) (h:=[.cells (dL v2 [(.mp 1)]), .map (dC v3), .cells (lf v1).cells]) (l:=[0,1]) (by kernel_rfl) (by kernel_rfl) (by kernel_rfl) (by kernel_rfl) (JK N v1.ao (2:Int) v2 v3 v4 h1)⟩)],[]] ?_;refine bc J (fun h2 J=> ?_) fun h2 J=> ?_
 ·cases J;exact ca af [[(0,bT h2)],[]]
 obtain⟨v5,h3,J⟩:=ar J;refine au af [[(0,bF h2)],[(13,oL v1.aI bM),(19,cL (TL N v1.aw ([(v1.aI.length:Int)]) v5 h3))],[]] ?_;refine bc J (fun h4 J=> ?_) fun h4 J=> ?_
 ·cases J;exact ca af [[(0,bT h4)],[]]
 refine au af [[(0,bF h4)],[(7,oL v1.aI bM)]] ?_;refine dq 28 (cz v1.aI) (by kernel_rfl) fun h5=> ?_;have h6:=cd bM h5;refine cx af 1 [] [0,28,29,30] 3 (fun((v6,v7):Nat×(aiE ax))=>⟨41,[(0,(.ptr 0 0)),(28,(.d (.sl (cz v1.aI)))),(29,(ak (v1.aI.length:Int))),(30,(ak (v6:Int)))],[.cells (dL v2 [(.mp 1)]), .map (dC v4.2), .cells (lf v1).cells]⟩) (fun((v6,v7):Nat×(aiE ax))=>v1.aI.drop v6=v7∧xk N v4 v2 v7 v6=some r) (fun((v6,v7):Nat×(aiE ax))=>v7.length) (0,v1.aI) ⟨rfl,J⟩ ?_;rintro⟨v6,v7⟩ ⟨h7,J⟩ f1 aN;cases v7 with
 |nil=>
  rw[xk]at J;cases J;exact ca af [[],[(0,bF (bO h7))],[]]
 |cons v8 v9=>
  rw[xk]at J;obtain⟨v10,h8,J⟩:=ar J;refine au af [[],[(0,bT (bN h7))],[(1,oE (hY (aU h7)))],[(7,⟨_,_, .rq (cQ:=[(.ptr 0 0),(b9 v8)]) (h:=[.cells (dL v2 [(.mp 1)]), .map (dC v4.2), .cells (lf v1).cells, .cells (b9 v8).cells]) (l:=[0,1]) (by kernel_rfl) (by kernel_rfl) (by kernel_rfl) (by kernel_rfl) (KL N v8 v2 v4.2 v10 h8)⟩)],[]] ?_;refine bc J (fun h9 J=> ?_) fun h9 J=> ?_
  ·cases J;exact ca af [[(0,bT h9)],[]]
  exact ct af aN (v6+1,v9) [[(0,bF h9)],[(2,oq (bV h7 rfl h6))]] ⟨bR h7,J⟩
def Lk(N:Nat)(v1:Int):aiG Unit:=bif decide ((0:Int)≤v1)&&Nat.ble (v1.toNat*48) 140737488355328 then some ()else none
theorem acq(N:Nat)(v1:Int)(r:Unit)(J:Lk N v1=some r):bY Tryz.prog 165 [.d (.v (.slice none 0 0)),(ak v1)] [] fun r1 h1=>r1= .own 0 []∧h1=[.front 64 3 0]:=by
 obtain⟨hb,_⟩:=eh J;rw[ahR]at hb;have e:Int.ofNat v1.toNat=v1:=Int.toNat_of_nonneg (of_decide_eq_true hb.1);have h:=Zg hb.2;rw[e]at h;exact h
def xe(N:Nat):aiE (aiE bj)→Nat→(aiE bj)→aiG ((aiE bj))
 |[],_,v12=>
  some v12
 |v10::v11,v8,v12=>
  bif (Nat.ble ((v12.length+v10.length)*48) 140737488355328)then
  (fun fI=>xe N v11 (v8+1) fI) (v12++v10)
  else none
def uj(N:Nat)(v1:aiE (aiE bj)):aiE (aiE bj)→Nat→Int→aiG ((aiE bj))
 |[],_,v6=>
  Option.bind (Lk N v6) fun v7=>
  xe N v1 0 []
 |v4::v5,v2,v6=>
  bif (decide ((aV (v6+(v4.length:Int)))<(0:Int)))then
   none
  else
   (fun b6=>uj N v1 v5 (v2+1) b6) (aV (v6+(v4.length:Int)))
def zC(N:Nat)(v1:aiE (aiE bj)):aiG ((aiE bj)):=
 uj N v1 v1 0 (0:Int)
theorem Pn(N:Nat)(v1:aiE (aiE bj))(r:(aiE bj))(J:zC N v1=some r):bg Tryz.prog 135 [(.d (.sl (rm v1)))] (·=(.d (.sl (cu r)))):=by
 rw[zC]at J;refine bD Tryz.func135 (by kernel_rfl) (by kernel_rfl) ?_;refine au af [[],[],[(4,oL v1 Hn)]] ?_;refine dq 0 (rm v1) (by kernel_rfl) fun h1=> ?_;have h2:=cd Hn h1;refine cx af 1 [] [0,3,9,10,11] 0 (fun((v2,v3,v6):Nat×(aiE (aiE bj))×Int)=>⟨36,[(0,(.d (.sl (rm v1)))),(3,(ak v6)),(9,(.d (.sl (rm v1)))),(10,(ak (v1.length:Int))),(11,(ak (v2:Int)))],[]⟩) (fun((v2,v3,v6):Nat×(aiE (aiE bj))×Int)=>v1.drop v2=v3∧uj N v1 v3 v2 v6=some r) (fun((v2,v3,v6):Nat×(aiE (aiE bj))×Int)=>v3.length) (0,v1,(0:Int)) ⟨rfl,J⟩ ?_;rintro⟨v2,v3,v6⟩ ⟨h3,J⟩ f1 aN;cases v3 with
 |nil=>
  rw[uj]at J;obtain⟨v7,h4,J⟩:=ar J;refine au af [[],[(0,bF (bO h3))],[(4,⟨_,_, .jv (acq N v6 v7 h4)⟩)],[(4,oL v1 Hn)]] ?_;refine dq 0 (rm v1) (by kernel_rfl) fun h5=> ?_;have h6:=cd Hn h5;refine cx af 2 [] [6,25,26,27] 1 (fun((v8,v9,v12):Nat×(aiE (aiE bj))×(aiE bj))=>⟨36,[(6,(.own 0 (cu v12))),(25,(.d (.sl (rm v1)))),(26,(ak (v1.length:Int))),(27,(ak (v8:Int)))],[.front 64 3 v12.length]⟩) (fun((v8,v9,v12):Nat×(aiE (aiE bj))×(aiE bj))=>v1.drop v8=v9∧xe N v9 v8 v12=some r) (fun((v8,v9,v12):Nat×(aiE (aiE bj))×(aiE bj))=>v9.length) (0,v1,[]) ⟨rfl,J⟩ ?_;rintro⟨v8,v9,v12⟩ ⟨h7,J⟩ f2 dU;cases v9 with
  |nil=>
   rw[xe]at J;cases J;exact wr af [[],[(0,bF (bO h7))],[]]
  |cons v10 v11=>
   rw[xe]at J;obtain⟨h8,J⟩:=dg J;exact ct af dU (v8+1,v11,(v12++v10)) [[],[(0,bT (bN h7))],[(1,oE (R1 (aU h7)))],[(7,⟨_,_, .app (xs:=cu v12) (ys:=cu v10) (zs:=cu (v12++v10)) (n:=(v12++v10).length) b5.symm oh oh (by rw[(b5 (l:=v12)),(b5 (l:=v10))];exact(de h8 (by decide)).1) (by rw[(b5 (l:=v12)),(b5 (l:=v10))];exact(de h8 (by decide)).2) Gm (by first|(rw[(b5 (l:=v12)),(b5 (l:=v10))];done)|(rw[(b5 (l:=v12)),(b5 (l:=v10))];rfl)|(rw[(b5 (l:=v12)),(b5 (l:=v10)),ahQ];done)|(rw[(b5 (l:=v12)),(b5 (l:=v10)),ahQ];rfl)|(rw[(b5 (l:=v12)),(b5 (l:=v10)),ah9]))⟩)],[(2,oq (bV h7 rfl h6))]] ⟨bR h7,J⟩
 |cons v4 v5=>
  rw[uj]at J;refine au af [[],[(0,bT (bN h3))],[(1,oE (R1 (aU h3)))],[(7,oL v4 b5)],[]] ?_;refine bc J (fun h9 J=> ?_) fun h9 J=> ?_
  ·cases J
  exact ct af aN (v2+1,v5,(aV (v6+(v4.length:Int)))) [[(0,bF h9)],[(2,oq (bV h3 rfl h2))]] ⟨bR h3,J⟩
def xz(N:Nat)(v3:aiE (aiF×Int))(v2:aQ):aiE bj→Nat→(aiE (aiF×Bool))→aiG Int
 |[],_,_=>
  some (0:Int)
 |v7::v8,v5,v9=>
  Option.bind (ur N v7.ao) fun v10=>
  bif v10 then
   Option.bind (bif (gL v9 v7.ao false)then some true else some ((gL v3 v7.ao 0)==(1:Int))) fun v11=>
   bif v11 then
    some (8:Int)
   else
    bif (Nat.blt v9.length 9223372036854775807)then
    Option.bind (xQ N v7.dB v2 v3) fun v12=>
    bif (v12 !=(0:Int))then
     some v12
    else
     (fun b6=>xz N v3 v2 v8 (v5+1) b6) ((v7.ao,true)::v9)
    else none
  else
   some (7:Int)
def CJ(N:Nat)(v1:aG)(v2:aQ)(v3:aiE (aiF×Int)):aiG Int:=
 Option.bind (zC N ([v1.aI,v1.bz])) fun v4=>
 xz N v3 v2 v4 0 []
theorem ahl(N:Nat)(v1:aG)(v2:aQ)(v3:aiE (aiF×Int))(r:Int)(J:CJ N v1 v2 v3=some r):bY Tryz.prog 100 [(.ptr 0 0),(cy v1)] [.cells (dL v2 [(.mp 1)]), .map (dC v3)] fun r1 h1=>r1=(ak r)∧h1=[.cells (dL v2 [(.mp 1)]), .map (dC v3)]:=by
 rw[CJ]at J;refine eu 2 Tryz.func100 (by kernel_rfl) (by kernel_rfl) (ahX rfl) ?_;obtain⟨v4,h1,J⟩:=ar J;refine au af [[],[],[(16,cL (Pn N ([v1.aI,v1.bz]) v4 h1)),(19,oL v4 b5)]] ?_;refine dq 15 (cu v4) (by kernel_rfl) fun h2=> ?_;have h3:=cd b5 h2;refine cx af 1 [] [0,5,15,16,17] 4 (fun((v5,v6,v9):Nat×(aiE bj)×(aiE (aiF×Bool)))=>⟨52,[(0,(.ptr 0 0)),(5,(.mp 3)),(15,(.d (.sl (cu v4)))),(16,(ak (v4.length:Int))),(17,(ak (v5:Int)))],[.cells (dL v2 [(.mp 1)]), .map (dC v3), .cells (cy v1).cells, .map (zq v9)]⟩) (fun((v5,v6,v9):Nat×(aiE bj)×(aiE (aiF×Bool)))=>v4.drop v5=v6∧xz N v3 v2 v6 v5 v9=some r) (fun((v5,v6,v9):Nat×(aiE bj)×(aiE (aiF×Bool)))=>v6.length) (0,v4,[]) ⟨rfl,J⟩ ?_;rintro⟨v5,v6,v9⟩ ⟨h4,J⟩ f1 aN;cases v6 with
 |nil=>
  rw[xz]at J;cases J;exact ca af [[],[(0,bF (bO h4))],[]]
 |cons v7 v8=>
  rw[xz]at J;obtain⟨v10,h5,J⟩:=ar J;refine au af [[],[(0,bT (bN h4))],[(1,oE (jK (aU h4)))],[(7,cL (EU N v7.ao v10 h5))]] ?_;refine bc J (fun h6 J=> ?_) fun h6 J=> ?_
  ·refine au af [[(0,bF (cG h6))]] ?_;obtain⟨v11,h8,J⟩:=ar J;refine cM af [(26,(aJ v11))] [.cells (dL v2 [(.mp 1)]), .map (dC v3), .cells (cy v1).cells, .map (zq v9), .cells (qV v7).cells] ?_ ?_
   ·refine bc h8 (fun h7 h8=> ?_) fun h7 h8=> ?_
    ·cases h8;exact⟨so (os [15,18,21,24,27,30,33,36,40] (bT h7) [(11,⟨_,_, .eq (Q8 false v9 v7.ao)⟩)]),by kernel_rfl⟩
    cases h8;exact⟨so (os [15,18,21,24,27,30,33,36,40] (bF h7) [(11,⟨_,_, .eq (Q8 false v9 v7.ao)⟩),(35,⟨_,_, .eq (Du false v3 v7.ao)⟩)]),by kernel_rfl⟩
   refine bc J (fun h9 J=> ?_) fun h9 J=> ?_
   ·cases J;exact ca af [[(0,bT h9)],[]]
   obtain⟨aA,J⟩:=dg J;obtain⟨v12,a7,J⟩:=ar J;refine au af [[(0,bF h9)],[(10,⟨_,_, .sd (o:= .none) (Ws aA)⟩)],[(10,⟨_,_, .rq (cQ:=[(.ptr 0 0),(b9 v7.dB)]) (h:=[.cells (dL v2 [(.mp 1)]), .map (dC v3), .cells (cy v1).cells, .map (zq ((v7.ao,true)::v9)), .cells (qV v7).cells]) (l:=[0,1]) (by kernel_rfl) (by kernel_rfl) (by kernel_rfl) (by kernel_rfl) (KL N v7.dB v2 v3 v12 a7)⟩)],[]] ?_;refine bc J (fun bk J=> ?_) fun bk J=> ?_
   ·cases J;exact ca af [[(0,bT bk)],[]]
   exact ct af aN (v5+1,v8,((v7.ao,true)::v9)) [[(0,bF bk)],[(2,oq (bV h4 rfl h3))]] ⟨bR h4,J⟩
  cases J;exact ca af [[(0,bT (cU h6))],[]]
end Go.Proofs.YtphmhnabilhbgaaGreatDoor
