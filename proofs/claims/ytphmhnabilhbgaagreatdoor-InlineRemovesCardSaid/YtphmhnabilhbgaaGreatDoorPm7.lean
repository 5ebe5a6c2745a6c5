/-
  Part 7 of the proof: PQ1.
-/
import Derived.Test.YtphmhnabilhbgaaGreatDoorPm6
namespace Go.Proofs.YtphmhnabilhbgaaGreatDoor
open Go.RowKit
set_option maxRecDepth 100000
set_option maxHeartbeats 0
set_option linter.unusedVariables false
def C6:fO:=⟨(0:Int64),(0:Int64)⟩
def fb:bn:=⟨(0:Int),(0:Int),(0:Int),(0:Int),(0:Int)⟩
def dB:aw:=⟨(0:Int64),[]⟩
def jM:agU AV:=[(ao (0:Int)),(bp (bs [])),(bt (0:Int64)),(bt (0:Int64)),(ao (0:Int)),(ao (0:Int)),(ao (0:Int)),(ao (0:Int)),(ao (0:Int)),(bt (0:Int64)),(.d (.v (.slice none 0 0))),(.d (.v (.slice none 0 0))),(.d (.v (.slice none 0 0)))]
def Rn(v:bn)(r:agU AV):agU AV:=(ao v.bW)::(ao v.ca)::(ao v.cF)::(ao v.cE)::(ao v.cJ)::r
def dx(v:aY)(r:agU AV):agU AV:=(.d (.sl (aB v.bu)))::(.d (.sl (bw v.cM)))::(.d (.sl (bx v.bk)))::(.d (.sl (bP v.ay)))::(.d (.sl (aB v.cu)))::r
def th(N:Nat):agU aw→Nat→agW Bool
 |[],_=>
  some false
 |v4::v5,v2=>
  bif (decide ((v4.xL.length:Int)>(20:Int)))then
   some true
  else
   (th N v5 (v2+1))
def F2(N:Nat)(v1:agU aw):agW Bool:=
 th N v1 0
theorem V7(N:Nat)(v1:agU aw)(r:Bool)(J:F2 N v1=some r):bA Tryz.prog 19 [(.d (.sl (cH v1)))] (·=(aU r)):=by
 rw[F2]at J;refine bZ Tryz.func19 (by kernel_rfl) (by kernel_rfl) ?_;refine ax ak [[],[]] ?_;refine dj 0 (cH v1) (by kernel_rfl) fun h1=> ?_;have h2:=cP cd h1;refine c9 ak 1 [] [0,3] 0 (fun((v2,v3):Nat×(agU aw))=>⟨17,[(0,(.d (.sl (cH v1)))),(3,(ao (v2:Int)))],[]⟩) (fun((v2,v3):Nat×(agU aw))=>v1.drop v2=v3∧th N v3 v2=some r) (fun((v2,v3):Nat×(agU aw))=>v3.length) (0,v1) ⟨rfl,J⟩ ?_;rintro⟨v2,v3⟩ ⟨h3,J⟩ f1 ba;cases v3 with
 |nil=>
  rw[th]at J;cases J;exact wr ak [[(7,oL v1 cd)],[(0,bF (ck h3))],[]]
 |cons v4 v5=>
  rw[th]at J;refine ax ak [[(7,oL v1 cd)],[(0,bT (cf h3))],[(7,oE (ku (bS h3))),(16,oL v4.xL cS)]] ?_;refine bc J (fun h4 J=> ?_) fun h4 J=> ?_
  ·cases J;exact wr ak [[(0,bT h4)],[]]
  exact cU ak ba (v2+1,v5) [[(0,bF h4)],[(5,oq (cx h3 rfl h2))]] ⟨ct h3,J⟩
def nO(N:Nat)(v2:Int)(qp:ar→Int→agW Int):agU ar→Nat→Int→agW Int
 |[],_,v12=>
  some v12
 |v10::v11,v8,v12=>
  bif (decide (v12≤v2))then
   Option.bind (qp v10 (a8 (v2-v12))) fun aH=>
   (fun fx=>nO N v2 qp v11 (v8+1) fx) (a8 (v12+aH))
  else
   some v12
def vj(N:Nat)(fa:Int→agW Int)(v2:Int):agU aw→Nat→Int→agW Int
 |[],_,aR=>
  fa aR
 |aX::aK,aA,aR=>
  bif (decide (aR≤v2))then
   (fun jq=>vj N fa v2 aK (aA+1) jq) (a8 (aR+(aX.xL.length:Int)))
  else
   fa aR
def pe(N:Nat)(v2:Int)(qp:ar→Int→agW Int):agU ar→Nat→Int→agW Int
 |[],_,cz=>
  some cz
 |v21::cY,bG,cz=>
  bif (decide (cz≤v2))then
   Option.bind (qp v21 (a8 (v2-cz))) fun v24=>
   (fun tY=>pe N v2 qp cY (bG+1) tY) (a8 (cz+v24))
  else
   some cz
def nE(N:Nat)(v2:Int)(qp:ar→Int→agW Int)(v1:ar):agU az→Nat→Int→agW Int
 |[],_,v7=>
  nO N v2 qp v1.a7 0 v7
 |v5::v6,v3,v7=>
  bif (decide (v7≤v2))then
   vj N (fun bE=>nE N v2 qp v1 v6 (v3+1) bE) v2 v5.bj 0 (a8 ((a8 (v7+(v5.aL.xL.length:Int)))+(v5.bj.length:Int)))
  else
   pe N v2 qp v1.a7 0 v7
def l5(N:Nat):Nat→ar→Int→agW Int
 |0,_,_=>none
 |d+1,v1,v2=>
  nE N v2 (l5 N d) v1 v1.xIdx 0 (a8 ((a8 ((1:Int)+(v1.aL.xL.length:Int)))+(v1.xIdx.length:Int)))
def LQ(N:Nat)(v1:ar)(v2:Int):agW Int:=l5 N N v1 v2
theorem aa9(N:Nat):∀d:Nat,(∀(v1:ar)(v2:Int)(r:Int),l5 N d v1 v2=some r→bA Tryz.prog 20 [(aD v1),(ao v2)] (·=(ao r))):=by
 intro d
 induction d with
 |zero=>intro v1 v2 r J;rw[l5]at J;cases J
 |succ d ih=>
  have R9:=ih;intro v1 v2 r J;rw[l5]at J;refine bZ Tryz.func20 (by kernel_rfl) (by kernel_rfl) ?_;refine ax ak [[],[(10,oL v1.aL.xL cS),(22,oL v1.xIdx cW)],[]] ?_;refine oD 0 11 (bC v1.xIdx) (by kernel_rfl) fun h1=> ?_;have h2:=cP cW h1;refine c9 ak 1 [] [1,2,5,6] 1 (fun((v3,v4,v7):Nat×(agU az)×Int)=>⟨101,[(1,(ao v2)),(2,(.ptr 0 0)),(5,(ao v7)),(6,(ao (v3:Int)))],[.cells (aD v1).cells]⟩) (fun((v3,v4,v7):Nat×(agU az)×Int)=>v1.xIdx.drop v3=v4∧nE N v2 (l5 N d) v1 v4 v3 v7=some r) (fun((v3,v4,v7):Nat×(agU az)×Int)=>v4.length) (0,v1.xIdx,(a8 ((a8 ((1:Int)+(v1.aL.xL.length:Int)))+(v1.xIdx.length:Int)))) ⟨rfl,J⟩ ?_;rintro⟨v3,v4,v7⟩ ⟨h3,J⟩ f1 ba;cases v4 with
  |nil=>
   rw[nE]at J;refine ax ak [[(10,oL v1.xIdx cW),(18,bF (ck h3)),(21,bF (ck h3)),(24,bF (ck h3)),(28,bF (ck h3))],[(0,bF rfl)],[]] ?_;refine oD 0 12 (cQ v1.a7) (by kernel_rfl) fun h4=> ?_;have h5:=cP da h4;refine c9 ak 2 [] [1,2,5,8] 1 (fun((v8,v9,v12):Nat×(agU ar)×Int)=>⟨101,[(1,(ao v2)),(2,(.ptr 0 0)),(5,(ao v12)),(8,(ao (v8:Int)))],[.cells (aD v1).cells]⟩) (fun((v8,v9,v12):Nat×(agU ar)×Int)=>v1.a7.drop v8=v9∧nO N v2 (l5 N d) v9 v8 v12=some r) (fun((v8,v9,v12):Nat×(agU ar)×Int)=>v9.length) (0,v1.a7,v7) ⟨rfl,J⟩ ?_;rintro⟨v8,v9,v12⟩ ⟨h6,J⟩ f2 fD;cases v9 with
   |nil=>
    rw[nO]at J;cases J;exact wr ak [[(10,oL v1.a7 da),(18,bF (ck h6)),(21,bF (ck h6)),(24,bF (ck h6)),(28,bF (ck h6))],[(0,bF rfl)],[]]
   |cons v10 v11=>
    rw[nO]at J;refine ax ak [[(10,oL v1.a7 da),(18,bT (cf h6)),(21,bT (cf h6)),(24,bT (cf h6)),(28,bT (cf h6))]] ?_;refine bc J (fun h7 J=> ?_) fun h7 J=> ?_
    ·obtain⟨aH,h8,J⟩:=au J;exact cU ak fD (v8+1,v11,(a8 (v12+aH))) [[(0,bT h7)],[(13,oE (lh (bS h6))),(28,cL (R9 v10 (a8 (v2-v12)) aH h8))],[(5,oq (cx h6 rfl h5))]] ⟨ct h6,J⟩
    cases J;exact wr ak [[(0,bF h7)],[]]
  |cons v5 v6=>
   rw[nE]at J;refine ax ak [[(10,oL v1.xIdx cW),(18,bT (cf h3)),(21,bT (cf h3)),(24,bT (cf h3)),(28,bT (cf h3))]] ?_;refine bc J (fun h9 J=> ?_) fun h9 J=> ?_
   ·refine ax ak [[(0,bT h9)],[(13,oE (ik (bS h3))),(25,oL v5.aL.xL cS),(40,oE (ik (bS h3))),(49,oL v5.bj cd)],[]] ?_;refine oD 0 11 (bC v1.xIdx) (by kernel_rfl) fun aJ=> ?_;have bQ:v5.bj.length≤maxLen:=by rw[←cd];exact CF (ZS (j:=3) (d:= .sl (cH v5.bj)) aJ (ik (bS h3)) rfl)
    refine c9 ak 3 [] [1,2,5,6,7] 1 (fun((aA,aT,aR):Nat×(agU aw)×Int)=>⟨101,[(1,(ao v2)),(2,(.ptr 0 0)),(5,(ao aR)),(6,(ao (v3:Int))),(7,(ao (aA:Int)))],[.cells (aD v1).cells]⟩) (fun((aA,aT,aR):Nat×(agU aw)×Int)=>v5.bj.drop aA=aT∧vj N (fun bE=>nE N v2 (l5 N d) v1 v6 (v3+1) bE) v2 aT aA aR=some r) (fun((aA,aT,aR):Nat×(agU aw)×Int)=>aT.length) (0,v5.bj,(a8 ((a8 (v7+(v5.aL.xL.length:Int)))+(v5.bj.length:Int)))) ⟨rfl,J⟩ ?_;rintro⟨aA,aT,aR⟩ ⟨cl,J⟩ f3 lK;cases aT with
    |nil=>
     rw[vj]at J;exact cU ak ba (v3+1,v6,aR) [[(13,oE (ik (bS h3))),(22,oL v5.bj cd),(30,bF (ck cl)),(33,bF (ck cl)),(36,bF (ck cl)),(40,bF (ck cl))],[(0,bF rfl)],[(5,oq (cx h3 rfl h2))]] ⟨ct h3,J⟩
    |cons aX aK=>
     rw[vj]at J;refine ax ak [[(13,oE (ik (bS h3))),(22,oL v5.bj cd),(30,bT (cf cl)),(33,bT (cf cl)),(36,bT (cf cl)),(40,bT (cf cl))]] ?_;refine bc J (fun dg J=> ?_) fun dg J=> ?_
     ·exact cU ak lK (aA+1,aK,(a8 (aR+(aX.xL.length:Int)))) [[(0,bT dg)],[(13,oE (ik (bS h3))),(25,oE (ku (bS cl))),(34,oL aX.xL cS)],[(5,oq (cx cl rfl bQ))]] ⟨ct cl,J⟩
     exact cU ak ba (v3+1,v6,aR) [[(0,bF dg)],[(5,oq (cx h3 rfl h2))]] ⟨ct h3,J⟩
   refine ax ak [[(0,bF h9)],[]] ?_;refine oD 0 12 (cQ v1.a7) (by kernel_rfl) fun cg=> ?_;have cV:=cP da cg;refine c9 ak 4 [] [1,2,5,8] 1 (fun((bG,v20,cz):Nat×(agU ar)×Int)=>⟨101,[(1,(ao v2)),(2,(.ptr 0 0)),(5,(ao cz)),(8,(ao (bG:Int)))],[.cells (aD v1).cells]⟩) (fun((bG,v20,cz):Nat×(agU ar)×Int)=>v1.a7.drop bG=v20∧pe N v2 (l5 N d) v20 bG cz=some r) (fun((bG,v20,cz):Nat×(agU ar)×Int)=>v20.length) (0,v1.a7,v7) ⟨rfl,J⟩ ?_;rintro⟨bG,v20,cz⟩ ⟨b9,J⟩ f4 oU;cases v20 with
   |nil=>
    rw[pe]at J;cases J;exact wr ak [[(10,oL v1.a7 da),(18,bF (ck b9)),(21,bF (ck b9)),(24,bF (ck b9)),(28,bF (ck b9))],[(0,bF rfl)],[]]
   |cons v21 cY=>
    rw[pe]at J;refine ax ak [[(10,oL v1.a7 da),(18,bT (cf b9)),(21,bT (cf b9)),(24,bT (cf b9)),(28,bT (cf b9))]] ?_;refine bc J (fun c8 J=> ?_) fun c8 J=> ?_
    ·obtain⟨v24,cr,J⟩:=au J;exact cU ak oU (bG+1,cY,(a8 (cz+v24))) [[(0,bT c8)],[(13,oE (lh (bS b9))),(28,cL (R9 v21 (a8 (v2-cz)) v24 cr))],[(5,oq (cx b9 rfl cV))]] ⟨ct b9,J⟩
    cases J;exact wr ak [[(0,bF c8)],[]]
theorem Wq(N:Nat)(v1:ar)(v2:Int)(r:Int)(J:LQ N v1 v2=some r):bA Tryz.prog 20 [(aD v1),(ao v2)] (·=(ao r)):=(aa9 N N) v1 v2 r J
def tf(N:Nat)(aA:aG)(ND:agW Bool):Nat→Int→agW Bool
 |0,_=>none
 |aR+1,bG=>
  bif (decide (bG<(a8 ((aA.aS.length:Int)+(aA.bI.length:Int)))))then
   bif (Nat.ble ((0+aA.aS.length)*48) 140737488355328)then
   bif (Nat.ble ((aA.aS.length+aA.bI.length)*48) 140737488355328)then
   bif (decide ((0:Int)≤bG))then
   Option.bind ((aA.aS++aA.bI)[(bG).toNat]?) fun v20=>
   bif (decide ((v20.ep.xL.length:Int)>(20:Int)))then
    some true
   else
    (fun tY=>tf N aA ND aR tY) (a8 (bG+(1:Int)))
   else none
   else none
   else none
  else
   ND
def qA(N:Nat)(v2:Int):agU aG→Nat→agW Bool
 |[],_=>
  some false
 |aA::aT,v12=>
  Option.bind (bif (decide ((aA.aS.length:Int)>(12:Int)))then some true else(bif (decide ((aA.bI.length:Int)>(12:Int)))then some true else Option.bind (LQ N aA.bq v2) fun aX=>
  some (decide (aX>v2)))) fun aK=>
  bif aK then
   some true
  else
   tf N aA (qA N v2 aT (v12+1)) N (0:Int)
def sT(N:Nat)(v2:Int)(v1:aY):agU bN→Nat→agW Bool
 |[],_=>
  qA N v2 v1.ay 0
 |v10::v11,v8=>
  Option.bind (bif (decide ((v10.aS.length:Int)>(12:Int)))then some true else Option.bind (F2 N v10.aS) fun v21=>
  some v21) fun cY=>
  bif cY then
   some true
  else
   (sT N v2 v1 v11 (v8+1))
def vt(N:Nat)(v2:Int)(v1:aY):agU cv→Nat→agW Bool
 |[],_=>
  sT N v2 v1 v1.bk 0
 |v6::v7,v4=>
  bif (decide ((v6.aL.xL.length:Int)>(20:Int)))then
   some true
  else
   (vt N v2 v1 v7 (v4+1))
def xg(N:Nat)(v1:aY)(v2:Int):agW Bool:=
 Option.bind (bif (decide ((v1.bu.length:Int)>(12:Int)))then some true else(bif (decide ((v1.cM.length:Int)>(12:Int)))then some true else(bif (decide ((v1.bk.length:Int)>(12:Int)))then some true else(bif (decide ((v1.ay.length:Int)>(12:Int)))then some true else some (decide ((v1.cu.length:Int)>(12:Int))))))) fun v3=>
 bif v3 then
  some true
 else
  vt N v2 v1 v1.cM 0
theorem Qz(N:Nat)(v1:aY)(v2:Int)(r:Bool)(J:xg N v1 v2=some r):bA Tryz.prog 6 [(aZ v1),(ao v2)] (·=(aU r)):=by
 rw[xg]at J;refine bZ Tryz.func6 (by kernel_rfl) (by kernel_rfl) ?_;refine ax ak [[]] ?_;obtain⟨v3,h5,J⟩:=au J;refine dn ak [(38,(aU v3))] [.cells (aZ v1).cells] ?_ ?_
 ·refine bc h5 (fun h1 h5=> ?_) fun h1 h5=> ?_
  ·cases h5;exact⟨so (os [15,18,21,24,28] (bT h1) (os [33,36,39,42,46,51,54,57,60,64,69,72,75,78,82] (bT rfl) [(7,oL v1.bu dz)])),by kernel_rfl⟩
  refine bc h5 (fun h2 h5=> ?_) fun h2 h5=> ?_
  ·cases h5;exact⟨so (os [15,18,21,24,28] (bF h1) (os [33,36,39,42,46] (bT h2) (os [51,54,57,60,64,69,72,75,78,82] (bT rfl) [(7,oL v1.bu dz),(22,oL v1.cM fv)]))),by kernel_rfl⟩
  refine bc h5 (fun h3 h5=> ?_) fun h3 h5=> ?_
  ·cases h5;exact⟨so (os [15,18,21,24,28] (bF h1) (os [33,36,39,42,46] (bF h2) (os [51,54,57,60,64] (bT h3) (os [69,72,75,78,82] (bT rfl) [(7,oL v1.bu dz),(22,oL v1.cM fv),(40,oL v1.bk e9)])))),by kernel_rfl⟩
  refine bc h5 (fun h4 h5=> ?_) fun h4 h5=> ?_
  ·cases h5;exact⟨so (os [15,18,21,24,28] (bF h1) (os [33,36,39,42,46] (bF h2) (os [51,54,57,60,64] (bF h3) (os [69,72,75,78,82] (bT h4) [(7,oL v1.bu dz),(22,oL v1.cM fv),(40,oL v1.bk e9),(58,oL v1.ay eI)])))),by kernel_rfl⟩
  cases h5;exact⟨so (os [15,18,21,24,28] (bF h1) (os [33,36,39,42,46] (bF h2) (os [51,54,57,60,64] (bF h3) (os [69,72,75,78,82] (bF h4) [(7,oL v1.bu dz),(22,oL v1.cM fv),(40,oL v1.bk e9),(58,oL v1.ay eI),(76,oL v1.cu dz)])))),by kernel_rfl⟩
 refine bc J (fun h6 J=> ?_) fun h6 J=> ?_
 ·cases J;exact wr ak [[(0,bT h6)],[]]
 refine ax ak [[(0,bF h6)],[]] ?_;refine oD 0 1 (bw v1.cM) (by kernel_rfl) fun h7=> ?_;have h8:=cP fv h7;refine c9 ak 1 [] [1,2,5] 1 (fun((v4,v5):Nat×(agU cv))=>⟨135,[(1,(ao v2)),(2,(.ptr 0 0)),(5,(ao (v4:Int)))],[.cells (aZ v1).cells]⟩) (fun((v4,v5):Nat×(agU cv))=>v1.cM.drop v4=v5∧vt N v2 v1 v5 v4=some r) (fun((v4,v5):Nat×(agU cv))=>v5.length) (0,v1.cM) ⟨rfl,J⟩ ?_;rintro⟨v4,v5⟩ ⟨h9,J⟩ f1 ba;cases v5 with
 |nil=>
  rw[vt]at J;refine ax ak [[(10,oL v1.cM fv)],[(0,bF (ck h9))],[]] ?_;refine oD 0 2 (bx v1.bk) (by kernel_rfl) fun aJ=> ?_;have bQ:=cP e9 aJ;refine c9 ak 2 [] [1,2,6] 1 (fun((v8,v9):Nat×(agU bN))=>⟨135,[(1,(ao v2)),(2,(.ptr 0 0)),(6,(ao (v8:Int)))],[.cells (aZ v1).cells]⟩) (fun((v8,v9):Nat×(agU bN))=>v1.bk.drop v8=v9∧sT N v2 v1 v9 v8=some r) (fun((v8,v9):Nat×(agU bN))=>v9.length) (0,v1.bk) ⟨rfl,J⟩ ?_;rintro⟨v8,v9⟩ ⟨cl,J⟩ f2 fD;cases v9 with
  |nil=>
   rw[sT]at J;refine ax ak [[(10,oL v1.bk e9)],[(0,bF (ck cl))],[]] ?_;refine oD 0 3 (bP v1.ay) (by kernel_rfl) fun dg=> ?_;have cg:=cP eI dg;refine c9 ak 3 [] [1,2,7] 1 (fun((v12,aH):Nat×(agU aG))=>⟨135,[(1,(ao v2)),(2,(.ptr 0 0)),(7,(ao (v12:Int)))],[.cells (aZ v1).cells]⟩) (fun((v12,aH):Nat×(agU aG))=>v1.ay.drop v12=aH∧qA N v2 aH v12=some r) (fun((v12,aH):Nat×(agU aG))=>aH.length) (0,v1.ay) ⟨rfl,J⟩ ?_;rintro⟨v12,aH⟩ ⟨cV,J⟩ f3 lK;cases aH with
   |nil=>
    rw[qA]at J;cases J;exact wr ak [[(10,oL v1.ay eI)],[(0,bF (ck cV))],[]]
   |cons aA aT=>
    rw[qA]at J;refine ax ak [[(10,oL v1.ay eI)],[(0,bT (cf cV))],[(10,oE (gP (bS cV)))]] ?_;obtain⟨aK,dk,J⟩:=au J;refine dn ak [(108,(aU aK))] [.cells (aZ v1).cells, .cells (cp aA).cells] ?_ ?_
    ·refine bc dk (fun b9 dk=> ?_) fun b9 dk=> ?_
     ·cases dk;exact⟨so (os [15,18,21,24,28] (bT b9) (os [33,36,39,42,45,48,52] (bT rfl) [(7,oL aA.aS cK)])),by kernel_rfl⟩
     refine bc dk (fun c8 dk=> ?_) fun c8 dk=> ?_
     ·cases dk;exact⟨so (os [15,18,21,24,28] (bF b9) (os [33,36,39,42,45,48,52] (bT c8) [(7,oL aA.aS cK),(22,oL aA.bI cK)])),by kernel_rfl⟩
     obtain⟨aX,cr,dk⟩:=au dk;cases dk;exact⟨so (os [15,18,21,24,28] (bF b9) (os [33,36,39,42,45,48,52] (bF c8) [(7,oL aA.aS cK),(22,oL aA.bI cK),(43,cL (Wq N aA.bq v2 aX cr))])),by kernel_rfl⟩
    refine bc J (fun eY J=> ?_) fun eY J=> ?_
    ·cases J;exact wr ak [[(0,bT eY)],[]]
    refine c9 ak 4 [[(0,bF eY)],[]] [1,2,7,8,9] 2 (fun((aR,bG):Nat×Int)=>⟨135,[(1,(ao v2)),(2,(.ptr 0 0)),(7,(ao (v12:Int))),(8,(.ptr 1 0)),(9,(ao bG))],[.cells (aZ v1).cells, .cells (cp aA).cells]⟩) (fun((aR,bG):Nat×Int)=>tf N aA (qA N v2 aT (v12+1)) aR bG=some r) (fun((aR,bG):Nat×Int)=>aR) (N,(0:Int)) J ?_;rintro⟨aR,bG⟩ J f4 oU
    try dsimp only at J
    cases aR with
    |zero=>
     rw[tf]at J;cases J
    |succ aR=>
     rw[tf]at J;refine ax ak [[(10,oL aA.aS cK),(19,oL aA.bI cK)]] ?_;refine bc J (fun gB J=> ?_) fun gB J=> ?_
     ·refine ax ak [[(0,bT gB)]] ?_;obtain⟨gn,J⟩:=dO J;obtain⟨iH,J⟩:=dO J;obtain⟨jn,J⟩:=dO J;obtain⟨v20,gU,J⟩:=au J;refine ZK 3 ak [(10,(.ptr 3 0))] [.cells (aZ v1).cells, .cells (cp aA).cells, .front 64 3 (aA.aS++aA.bI).length, .cells (pM v20).cells] ⟨[(10,⟨_,_, .app (xs:=[]) (ys:=cm aA.aS) (zs:=cm aA.aS) (n:=aA.aS.length) rfl (fun _ hc=>absurd hc agM) uq (by rw[(show([]:agU (agU D)).length=0 from rfl),(cK (l:=aA.aS))];exact(dQ gn (by decide)).1) (by rw[(show([]:agU (agU D)).length=0 from rfl),(cK (l:=aA.aS))];exact(dQ gn (by decide)).2) rfl (by first|(rw[(show([]:agU (agU D)).length=0 from rfl),(cK (l:=aA.aS))];done)|(rw[(show([]:agU (agU D)).length=0 from rfl),(cK (l:=aA.aS))];rfl)|(rw[(show([]:agU (agU D)).length=0 from rfl),(cK (l:=aA.aS)),af6];done)|(rw[(show([]:agU (agU D)).length=0 from rfl),(cK (l:=aA.aS)),af6];rfl)|(rw[(show([]:agU (agU D)).length=0 from rfl),(cK (l:=aA.aS)),agq]))⟩),(19,⟨_,_, .app (xs:=cm aA.aS) (ys:=cm aA.bI) (zs:=cm (aA.aS++aA.bI)) (n:=(aA.aS++aA.bI).length) cK.symm uq uq (by rw[(cK (l:=aA.aS)),(cK (l:=aA.bI))];exact(dQ iH (by decide)).1) (by rw[(cK (l:=aA.aS)),(cK (l:=aA.bI))];exact(dQ iH (by decide)).2) Lx (by first|(rw[(cK (l:=aA.aS)),(cK (l:=aA.bI))];done)|(rw[(cK (l:=aA.aS)),(cK (l:=aA.bI))];rfl)|(rw[(cK (l:=aA.aS)),(cK (l:=aA.bI)),af6];done)|(rw[(cK (l:=aA.aS)),(cK (l:=aA.bI)),af6];rfl)|(rw[(cK (l:=aA.aS)),(cK (l:=aA.bI)),agq]))⟩),(25,⟨_,_, .el (xs:=cm (aA.aS++aA.bI)) (i:=bG) (of_decide_eq_true jn) (rB gU)⟩)],by kernel_rfl⟩ ?_
      refine ax ak [[(10,oL v20.ep.xL cS)]] ?_;refine bc J (fun gR J=> ?_) fun gR J=> ?_
      ·cases J;exact wr ak [[(0,bT gR)],[]]
      exact cU ak oU (aR,(a8 (bG+(1:Int)))) [[(0,bF gR)],[]] J
     exact cU ak lK (v12+1,aT) [[(0,bF gB)],[(5,oq (cx cV rfl cg))]] ⟨ct cV,J⟩
  |cons v10 v11=>
   rw[sT]at J;refine ax ak [[(10,oL v1.bk e9)],[(0,bT (cf cl))]] ?_;obtain⟨cY,hJ,J⟩:=au J;refine dn ak [(78,(aU cY))] [.cells (aZ v1).cells] ?_ ?_
   ·refine bc hJ (fun gL hJ=> ?_) fun gL hJ=> ?_
    ·cases hJ;exact⟨so (os [27,30,33,36,39,42,45,49] (bT gL) [(10,oE (s5 (bS cl))),(19,oL v10.aS cd)]),by kernel_rfl⟩
    obtain⟨v21,kF,hJ⟩:=au hJ;obtain rfl:=sj hJ;exact⟨so (os [10,37] (oE (s5 (bS cl))) (os [27,30,33,36,39,42,45,49] (bF gL) [(19,oL v10.aS cd),(46,cL (V7 N v10.aS v21 kF))])),by kernel_rfl⟩
   refine bc J (fun kZ J=> ?_) fun kZ J=> ?_
   ·cases J;exact wr ak [[(0,bT kZ)],[]]
   exact cU ak fD (v8+1,v11) [[(0,bF kZ)],[(5,oq (cx cl rfl bQ))]] ⟨ct cl,J⟩
 |cons v6 v7=>
  rw[vt]at J;refine ax ak [[(10,oL v1.cM fv)],[(0,bT (cf h9))],[(10,oE (AT (bS h9))),(22,oL v6.aL.xL cS)]] ?_;refine bc J (fun p7 J=> ?_) fun p7 J=> ?_
  ·cases J;exact wr ak [[(0,bT p7)],[]]
  exact cU ak ba (v4+1,v7) [[(0,bF p7)],[(5,oq (cx h9 rfl h8))]] ⟨ct h9,J⟩
def FK(N:Nat)(v1:agV):agW aw:=
 some (⟨(0:Int64),[(⟨v1,(1:Int64)⟩:aF)]⟩:aw)
theorem Nd(N:Nat)(v1:agV)(r:aw)(J:FK N v1=some r):bA Tryz.prog 21 [(bp v1)] (·=(bY r)):=by
 rw[FK]at J;refine bZ Tryz.func21 (by kernel_rfl) (by kernel_rfl) ?_;cases J;exact wr ak [[],[]]
def Al(N:Nat)(v1:agV):agU aw→Nat→(agU az)→agW ar
 |[],_,v7=>
  some (⟨(3:Int),v1,C6,fb,dB,v7,[]⟩:ar)
 |v5::v6,v3,v7=>
  bif (Nat.ble ((v7.length+1)*72) 140737488355328)then
  (fun bE=>Al N v1 v6 (v3+1) bE) (v7++[(⟨v5,(bs []),[]⟩:az)])
  else none
def Ax(N:Nat)(v1:agV)(v2:agU aw):agW ar:=
 Al N v1 v2 0 []
theorem IJ(N:Nat)(v1:agV)(v2:agU aw)(r:ar)(J:Ax N v1 v2=some r):bA Tryz.prog 23 [(bp v1),(.d (.sl (cH v2)))] (·=(aD r)):=by
 rw[Ax]at J;refine bZ Tryz.func23 (by kernel_rfl) (by kernel_rfl) ?_;refine ax ak [[],[],[]] ?_;refine C1 1 11 80 4 [] (.inr (by kernel_rfl)) ?_;refine dj 1 (cH v2) (by kernel_rfl) fun h1=> ?_;have h2:=cP cd h1;refine pv ak 1 [] [1,4,5,6] 3 [] [(0,10),(0,11),(0,12),(1,10),(1,12)] (fun((v3,v4,v7):Nat×(agU aw)×(agU az))=>⟨26,[(1,(.d (.sl (cH v2)))),(4,(.ptr 0 0)),(5,(.ptr 1 0)),(6,(ao (v3:Int)))],[.cells jM, .cells [(ao (3:Int)),(bp v1),(bt (0:Int64)),(bt (0:Int64)),(ao (0:Int)),(ao (0:Int)),(ao (0:Int)),(ao (0:Int)),(ao (0:Int)),(bt (0:Int64)),(.d (.v (.slice none 0 0))),(.own 2 (bC v7)),(.d (.v (.slice none 0 0)))], .front 80 4 v7.length]⟩) (fun((v3,v4,v7):Nat×(agU aw)×(agU az))=>v2.drop v3=v4∧Al N v1 v4 v3 v7=some r) (fun((v3,v4,v7):Nat×(agU aw)×(agU az))=>v4.length) (0,v2,[]) ⟨rfl,J⟩ ?_;rintro⟨v3,v4,v7⟩ ⟨h3,J⟩ f1 ba;cases v4 with
 |nil=>
  rw[Al]at J;cases J;exact wr ak [[(7,oL v2 cd)],[(0,bF (ck h3))],[]]
 |cons v5 v6=>
  rw[Al]at J;obtain⟨h4,J⟩:=dO J;exact nu ak ba (v3+1,v6,(v7++[(⟨v5,(bs []),[]⟩:az)])) [[(7,oL v2 cd)],[(0,bT (cf h3))],[(13,oE (ku (bS h3))),(25,⟨_,_, .app (xs:=bC v7) (ys:=bC [(⟨v5,(bs []),[]⟩:az)]) (zs:=bC (v7++[(⟨v5,(bs []),[]⟩:az)])) (n:=(v7++[(⟨v5,(bs []),[]⟩:az)]).length) cW.symm A4 A4 (by rw[(cW (l:=v7)),(cW (l:=[(⟨v5,(bs []),[]⟩:az)]))];exact(dQ h4 (by decide)).1) (by rw[(cW (l:=v7)),(cW (l:=[(⟨v5,(bs []),[]⟩:az)]))];exact(dQ h4 (by decide)).2) On (by first|(rw[(cW (l:=v7)),(cW (l:=[(⟨v5,(bs []),[]⟩:az)]))];done)|(rw[(cW (l:=v7)),(cW (l:=[(⟨v5,(bs []),[]⟩:az)]))];rfl)|(rw[(cW (l:=v7)),(cW (l:=[(⟨v5,(bs []),[]⟩:az)])),af6];done)|(rw[(cW (l:=v7)),(cW (l:=[(⟨v5,(bs []),[]⟩:az)])),af6];rfl)|(rw[(cW (l:=v7)),(cW (l:=[(⟨v5,(bs []),[]⟩:az)])),agq]))⟩)],[(5,oq (cx h3 rfl h2))]] ⟨ct h3,J⟩
def AR(N:Nat)(v1:aw)(v2:Int)(v3:agV)(v4:fO)(v5:bn)(v6:Int64):agW ar:=
 Option.bind (Ax N (bs [97]) [v1]) fun v7=>
 some (⟨(4:Int),(bs []),C6,fb,dB,[],[v7,(⟨v2,v3,v4,v5,(⟨v6,[]⟩:aw),[],[]⟩:ar)]⟩:ar)
theorem yL(N:Nat)(v1:aw)(v2:Int)(v3:agV)(v4:fO)(v5:bn)(v6:Int64)(r:ar)(J:AR N v1 v2 v3 v4 v5 v6=some r):bD Tryz.prog 22 [(bY v1),(.ptr 0 0)] [.cells ((ao v2)::(bp v3)::(bt v4.xN)::(bt v4.xD)::Rn v5 [(bt v6),(.d (.sl [])),(.d (.sl [])),(.d (.sl []))])] fun r1 h1=>r1=(aD r)∧h1=[.cells ((ao v2)::(bp v3)::(bt v4.xN)::(bt v4.xD)::Rn v5 [(bt v6),(.d (.sl [])),(.d (.sl [])),(.d (.sl []))])]:=by
 rw[AR]at J;refine dS 1 Tryz.func22 (by kernel_rfl) (by kernel_rfl) (agd rfl) ?_;obtain⟨v7,h1,J⟩:=au J;cases J;exact bH ak [[],[(7,cL (IJ N (bs [97]) [v1] v7 h1)),(14,⟨_,_, .eq (congrArg AV.full (lf [v7,(⟨v2,v3,v4,v5,(⟨v6,[]⟩:aw),[],[]⟩:ar)]).symm)⟩)]]
def FB(N:Nat)(v1:ar)(v2:ar):agW ar:=
 some (⟨(6:Int),(bs []),C6,fb,dB,[],[v1,v2]⟩:ar)
theorem IS(N:Nat)(v1:ar)(v2:ar)(r:ar)(J:FB N v1 v2=some r):bA Tryz.prog 24 [(aD v1),(aD v2)] (·=(aD r)):=by
 rw[FB]at J;refine bZ Tryz.func24 (by kernel_rfl) (by kernel_rfl) ?_;cases J;exact wr ak [[],[(8,⟨_,_, .eq (congrArg AV.full (lf [v1,v2]).symm)⟩)]]
def Cc(N:Nat)(v1:aY):agW Bool:=
 Option.bind (bif (decide ((if(v1.cu.length:Int)>(if(v1.ay.length:Int)>(if(v1.bk.length:Int)>(v1.bu.length:Int)then(v1.bk.length:Int)else(v1.bu.length:Int))then(v1.ay.length:Int)else(if(v1.bk.length:Int)>(v1.bu.length:Int)then(v1.bk.length:Int)else(v1.bu.length:Int)))then(v1.cu.length:Int)else(if(v1.ay.length:Int)>(if(v1.bk.length:Int)>(v1.bu.length:Int)then(v1.bk.length:Int)else(v1.bu.length:Int))then(v1.ay.length:Int)else(if(v1.bk.length:Int)>(v1.bu.length:Int)then(v1.bk.length:Int)else(v1.bu.length:Int))))≤(64:Int)))then some (decide ((v1.cM.length:Int)≤(256:Int)))else some false) fun v2=>
 some v2
theorem aeP(N:Nat)(v1:aY)(r:Bool)(J:Cc N v1=some r):bA Tryz.prog 59 [(aZ v1)] (·=(aU r)):=by
 rw[Cc]at J;refine bZ Tryz.func59 (by kernel_rfl) (by kernel_rfl) ?_;refine ax ak [[]] ?_;obtain⟨v2,h2,J⟩:=au J;refine dn ak [(2,(aU v2))] [.cells (aZ v1).cells] ?_ ?_
 ·refine bc h2 (fun h1 h2=> ?_) fun h1 h2=> ?_
  ·cases h2;exact⟨so (os [45,48,51,54,58] (bT h1) [(7,oL v1.bu dz),(16,oL v1.bk e9),(25,oL v1.ay eI),(34,oL v1.cu dz),(52,oL v1.cM fv)]),by kernel_rfl⟩
  cases h2;exact⟨so (os [45,48,51,54,58] (bF h1) [(7,oL v1.bu dz),(16,oL v1.bk e9),(25,oL v1.ay eI),(34,oL v1.cu dz)]),by kernel_rfl⟩
 cases J;exact wr ak []
def xz(N:Nat)(v1:Int):agW Bool:=
 Option.bind (bif (decide (v1≥(97:Int)))then some (decide (v1≤(122:Int)))else some false) fun v2=>
 some v2
theorem wA(N:Nat)(v1:Int)(r:Bool)(J:xz N v1=some r):bA Tryz.prog 129 [(.d (.v (.int .i32 v1)))] (·=(aU r)):=by
 rw[xz]at J;refine bZ Tryz.func129 (by kernel_rfl) (by kernel_rfl) ?_;refine ax ak [[]] ?_;obtain⟨v2,h2,J⟩:=au J;refine dn ak [(2,(aU v2))] [] ?_ ?_
 ·refine bc h2 (fun h1 h2=> ?_) fun h1 h2=> ?_
  ·cases h2;exact⟨so (os [9,12,16] (bT h1) []),by kernel_rfl⟩
  cases h2;exact⟨so (os [9,12,16] (bF h1) []),by kernel_rfl⟩
 cases J;exact wr ak []
def z6(N:Nat)(v1:Int):agW Bool:=
 Option.bind (bif (decide (v1≥(48:Int)))then some (decide (v1≤(57:Int)))else some false) fun v2=>
 some v2
theorem Ul(N:Nat)(v1:Int)(r:Bool)(J:z6 N v1=some r):bA Tryz.prog 161 [(.d (.v (.int .i32 v1)))] (·=(aU r)):=by
 rw[z6]at J;refine bZ Tryz.func161 (by kernel_rfl) (by kernel_rfl) ?_;refine ax ak [[]] ?_;obtain⟨v2,h2,J⟩:=au J;refine dn ak [(2,(aU v2))] [] ?_ ?_
 ·refine bc h2 (fun h1 h2=> ?_) fun h1 h2=> ?_
  ·cases h2;exact⟨so (os [9,12,16] (bT h1) []),by kernel_rfl⟩
  cases h2;exact⟨so (os [9,12,16] (bF h1) []),by kernel_rfl⟩
 cases J;exact wr ak []
def A3(N:Nat)(v1:Int):agW Bool:=
 Option.bind (xz N v1) fun v2=>
 Option.bind (bif v2 then some true else Option.bind (z6 N v1) fun v3=>
 (bif v3 then some true else some (v1==(95:Int)))) fun v4=>
 some v4
theorem aew(N:Nat)(v1:Int)(r:Bool)(J:A3 N v1=some r):bA Tryz.prog 131 [(.d (.v (.int .i32 v1)))] (·=(aU r)):=by
 rw[A3]at J;refine bZ Tryz.func131 (by kernel_rfl) (by kernel_rfl) ?_;refine ax ak [[]] ?_;obtain⟨v2,h1,J⟩:=au J;obtain⟨v4,h5,J⟩:=au J;refine dn ak [(2,(aU v4))] [] ?_ ?_
 ·refine bc h5 (fun h2 h5=> ?_) fun h2 h5=> ?_
  ·cases h5;exact⟨so (os [9,12,16] (bT h2) (os [21,24,28] (bT rfl) [(4,cL (wA N v1 v2 h1))])),by kernel_rfl⟩
  obtain⟨v3,h3,h5⟩:=au h5;refine bc h5 (fun h4 h5=> ?_) fun h4 h5=> ?_
  ·cases h5;exact⟨so (os [9,12,16] (bF h2) (os [21,24,28] (bT h4) [(4,cL (wA N v1 v2 h1)),(13,cL (Ul N v1 v3 h3))])),by kernel_rfl⟩
  cases h5;exact⟨so (os [9,12,16] (bF h2) (os [21,24,28] (bF h4) [(4,cL (wA N v1 v2 h1)),(13,cL (Ul N v1 v3 h3))])),by kernel_rfl⟩
 cases J;exact wr ak []
def uj(N:Nat)(v1:agV):Nat→Int→agW Int
 |0,_=>none
 |v2+1,v3=>
  Option.bind (bif (decide (v3<(v1.size:Int)))then bif (decide ((0:Int)≤v3))then
  Option.bind (v1[(v3).toNat]?) fun v4=>
  Option.bind (A3 N (IntKind.i32.wrap (v4.toNat:Int))) fun v5=>
  some v5
  else none else some false) fun v6=>
  bif v6 then
   (fun bE=>uj N v1 v2 bE) (a8 (v3+(1:Int)))
  else
   some v3
def B4(N:Nat)(v1:agV):agW Int:=
 uj N v1 N (0:Int)
theorem Oq(N:Nat)(v1:agV)(r:Int)(J:B4 N v1=some r):bD Tryz.prog 130 [(bp v1),(.fn 131 [])] [] fun r1 h1=>r1=(ao r)∧h1=[]:=by
 rw[B4]at J;refine dS 0 Tryz.func130 (by kernel_rfl) (by kernel_rfl) (agd rfl) ?_;refine c9 ak 1 [[],[]] [0,1,5] 0 (fun((v2,v3):Nat×Int)=>⟨21,[(0,(bp v1)),(1,(.fn 131 [])),(5,(ao v3))],[]⟩) (fun((v2,v3):Nat×Int)=>uj N v1 v2 v3=some r) (fun((v2,v3):Nat×Int)=>v2) (N,(0:Int)) J ?_;rintro⟨v2,v3⟩ J f1 ba
 try dsimp only at J
 cases v2 with
 |zero=>
  rw[uj]at J;cases J
 |succ v2=>
  rw[uj]at J;obtain⟨v6,h5,J⟩:=au J;refine dn ak [(17,(aU v6))] [] ?_ ?_
  ·refine bc h5 (fun h1 h5=> ?_) fun h1 h5=> ?_
   ·obtain⟨h3,h5⟩:=dO h5;obtain⟨v4,h2,h5⟩:=au h5;obtain⟨v5,h4,h5⟩:=au h5;obtain rfl:=sj h5;exact⟨so (os [15,18,21,24,27,30,34] (bT h1) [(25,⟨_,_, .ch (i:=v3) (of_decide_eq_true h3) h2⟩),(31,cL (aew N (IntKind.i32.wrap (v4.toNat:Int)) v5 h4))]),by kernel_rfl⟩
   cases h5;exact⟨so (os [15,18,21,24,27,30,34] (bF h1) []),by kernel_rfl⟩
  refine bc J (fun h6 J=> ?_) fun h6 J=> ?_
  ·exact cU ak ba (v2,(a8 (v3+(1:Int)))) [[(0,bT h6)],[]] J
  cases J;exact bH ak [[(0,bF h6)],[]]
def Jj(N:Nat):agW (agU agV):=some lr
theorem ade(N:Nat)(r:agU agV)(J:Jj N=some r):bA Tryz.prog 162 [] (·=(.d (.sl (aB r)))):=by
 cases J;exact V8
def tq(N:Nat)(v2:agV):agU agV→Nat→agW Int
 |[],_=>
  some (-1:Int)
 |v5::v6,v3=>
  bif (bL v2==bL v5)then
   some (v3:Int)
  else
   (tq N v2 v6 (v3+1))
def Ae(N:Nat)(v1:agU agV)(v2:agV):agW Int:=
 tq N v2 v1 0
theorem acU(N:Nat)(v1:agU agV)(v2:agV)(r:Int)(J:Ae N v1 v2=some r):bA Tryz.prog 58 [(.d (.sl (aB v1))),(bp v2)] (·=(ao r)):=by
 rw[Ae]at J;refine bZ Tryz.func58 (by kernel_rfl) (by kernel_rfl) ?_;refine ax ak [[],[(4,oL v1 dz)]] ?_;refine dj 0 (aB v1) (by kernel_rfl) fun h1=> ?_;have h2:=cP dz h1;refine c9 ak 1 [] [0,1,7,8] 0 (fun((v3,v4):Nat×(agU agV))=>⟨19,[(0,(.d (.sl (aB v1)))),(1,(bp v2)),(7,(ao (v1.length:Int))),(8,(ao (v3:Int)))],[]⟩) (fun((v3,v4):Nat×(agU agV))=>v1.drop v3=v4∧tq N v2 v4 v3=some r) (fun((v3,v4):Nat×(agU agV))=>v4.length) (0,v1) ⟨rfl,J⟩ ?_;rintro⟨v3,v4⟩ ⟨h3,J⟩ f1 ba;cases v4 with
 |nil=>
  rw[tq]at J;cases J;exact wr ak [[],[(0,bF (ck h3))],[]]
 |cons v5 v6=>
  rw[tq]at J;refine ax ak [[],[(0,bT (cf h3))],[],[(10,oE (m5 (bS h3)))]] ?_;refine bc J (fun h4 J=> ?_) fun h4 J=> ?_
  ·cases J;exact wr ak [[(0,bT h4)],[]]
  exact cU ak ba (v3+1,v6) [[(0,bF h4)],[(2,oq (cx h3 rfl h2))]] ⟨ct h3,J⟩
def qD(N:Nat)(v1:agU agV)(v2:agV):agW Bool:=
 Option.bind (Ae N v1 v2) fun v3=>
 some (decide (v3≥(0:Int)))
theorem Jz(N:Nat)(v1:agU agV)(v2:agV)(r:Bool)(J:qD N v1 v2=some r):bA Tryz.prog 28 [(.d (.sl (aB v1))),(bp v2)] (·=(aU r)):=by
 rw[qD]at J;refine bZ Tryz.func28 (by kernel_rfl) (by kernel_rfl) ?_;obtain⟨v3,h1,J⟩:=au J;cases J;exact wr ak [[],[(7,cL (acU N v1 v2 v3 h1))]]
def As(N:Nat)(v1:agV):agW Bool:=
 Option.bind (Jj N) fun v2=>
 Option.bind (qD N v2 v1) fun v3=>
 some v3
theorem abn(N:Nat)(v1:agV)(r:Bool)(J:As N v1=some r):bA Tryz.prog 132 [(bp v1)] (·=(aU r)):=by
 rw[As]at J;refine bZ Tryz.func132 (by kernel_rfl) (by kernel_rfl) ?_;obtain⟨v2,h1,J⟩:=au J;obtain⟨v3,h2,J⟩:=au J;obtain rfl:=sj J;exact wr ak [[],[(1,cL (ade N v2 h1)),(7,cL (Jz N v2 v1 v3 h2))]]
def ri(N:Nat)(v1:agV):agW Bool:=
 Option.bind (bif (bL v1==bL (bs []))then some false else(bif (decide ((v1.size:Int)≤(16:Int)))then Option.bind (v1[0]?) fun v2=>
 Option.bind (xz N (IntKind.i32.wrap (v2.toNat:Int))) fun v3=>
 (bif v3 then Option.bind (B4 N v1) fun v4=>
 (bif (v4==(v1.size:Int))then Option.bind (As N v1) fun v5=>
 some (!v5)else some false)else some false)else some false)) fun v6=>
 some v6
theorem Dm(N:Nat)(v1:agV)(r:Bool)(J:ri N v1=some r):bA Tryz.prog 96 [(bp v1)] (·=(aU r)):=by
 rw[ri]at J;refine bZ Tryz.func96 (by kernel_rfl) (by kernel_rfl) ?_;refine ax ak [[]] ?_;obtain⟨v6,h9,J⟩:=au J;refine dn ak [(2,(aU v6))] [] ?_ ?_
 ·refine bc h9 (fun h1 h9=> ?_) fun h1 h9=> ?_
  ·cases h9;exact⟨so (os [9,12,15,19] (bF (dH h1)) (os [24,27,30,33,37,42,45,48,51,54,58,63,66,69,73] (bF rfl) [])),by kernel_rfl⟩
  refine bc h9 (fun h2 h9=> ?_) fun h2 h9=> ?_
  ·obtain⟨v2,h3,h9⟩:=au h9;obtain⟨v3,h4,h9⟩:=au h9;refine bc h9 (fun h5 h9=> ?_) fun h5 h9=> ?_
   ·obtain⟨v4,h6,h9⟩:=au h9;refine bc h9 (fun h7 h9=> ?_) fun h7 h9=> ?_
    ·obtain⟨v5,h8,h9⟩:=au h9;cases h9;exact⟨so (os [9,12,15,19] (bT (dK h1)) (os [24,27,30,33,37] (bT h2) (os [42,45,48,51,54,58] (bT h5) (os [63,66,69,73] (bT h7) [(28,⟨_,_, .ch (i:=(0:Int)) (by decide) h3⟩),(34,cL (wA N (IntKind.i32.wrap (v2.toNat:Int)) v3 h4)),(46,⟨_,_, .rq (cb:=[(bp v1),(.fn 131 [])]) (h:=[]) (l:=[]) (by kernel_rfl) (by kernel_rfl) (by kernel_rfl) (by kernel_rfl) (Oq N v1 v4 h6)⟩),(67,cL (abn N v1 v5 h8))])))),by kernel_rfl⟩
    cases h9;exact⟨so (os [9,12,15,19] (bT (dK h1)) (os [24,27,30,33,37] (bT h2) (os [42,45,48,51,54,58] (bT h5) (os [63,66,69,73] (bF h7) [(28,⟨_,_, .ch (i:=(0:Int)) (by decide) h3⟩),(34,cL (wA N (IntKind.i32.wrap (v2.toNat:Int)) v3 h4)),(46,⟨_,_, .rq (cb:=[(bp v1),(.fn 131 [])]) (h:=[]) (l:=[]) (by kernel_rfl) (by kernel_rfl) (by kernel_rfl) (by kernel_rfl) (Oq N v1 v4 h6)⟩)])))),by kernel_rfl⟩
   cases h9;exact⟨so (os [9,12,15,19] (bT (dK h1)) (os [24,27,30,33,37] (bT h2) (os [42,45,48,51,54,58] (bF h5) (os [63,66,69,73] (bF rfl) [(28,⟨_,_, .ch (i:=(0:Int)) (by decide) h3⟩),(34,cL (wA N (IntKind.i32.wrap (v2.toNat:Int)) v3 h4))])))),by kernel_rfl⟩
  cases h9;exact⟨so (os [9,12,15,19] (bT (dK h1)) (os [24,27,30,33,37] (bF h2) (os [42,45,48,51,54,58,63,66,69,73] (bF rfl) []))),by kernel_rfl⟩
 cases J;exact wr ak []
def sV(N:Nat)(v1:agV)(v2:Int)(v3:aY)(v4:agU (agV×Int)):agW (Int×(agU (agV×Int))):=
 Option.bind (ri N v1) fun v5=>
 bif v5 then
  bif ((gi v4 v1 0) !=(0:Int))then
   some ((8:Int),v4)
  else
   bif (Nat.blt v4.length 9223372036854775807)then
   some ((0:Int),((v1,v2)::v4))
   else none
 else
  some ((7:Int),v4)
theorem II(N:Nat)(v1:agV)(v2:Int)(v3:aY)(v4:agU (agV×Int))(r:Int×(agU (agV×Int)))(J:sV N v1 v2 v3 v4=some r):bD Tryz.prog 60 [(.ptr 0 0),(bp v1),(ao v2)] [.cells (dx v3 [(.mp 1)]), .map (dp v4)] fun r1 h1=>r1=(ao r.1)∧h1=[.cells (dx v3 [(.mp 1)]), .map (dp r.2)]:=by
 rw[sV]at J;refine dS 2 Tryz.func60 (by kernel_rfl) (by kernel_rfl) (agd rfl) ?_;obtain⟨v5,h1,J⟩:=au J;refine ax ak [[],[(4,cL (Dm N v1 v5 h1))]] ?_;refine bc J (fun h2 J=> ?_) fun h2 J=> ?_
 ·refine ax ak [[(0,bF (dH h2))],[(17,⟨_,_, .eq (BE false v4 v1)⟩)]] ?_;refine bc J (fun h3 J=> ?_) fun h3 J=> ?_
  ·cases J;exact bH ak [[(0,bT h3)],[]]
  obtain⟨h4,J⟩:=dO J;cases J;exact bH ak [[(0,bF h3)],[(19,⟨_,_, .sd (o:= .none) (Kl h4)⟩)],[]]
 cases J;exact bH ak [[(0,bT (dK h2))],[]]
def gv(N:Nat)(v2:Bool):agW Bool:=
 bif v2 then
  some true
 else
  some false
def zl(N:Nat)(v1:agV):agW Bool:=
 bif (bL v1==bL (bs [115,105,122,101]))then
  gv N (bL v1==bL (bs [115,105,122,101]))
 else
  bif (bL v1==bL (bs [119,104,101,114,101]))then
   gv N (bL v1==bL (bs [119,104,101,114,101]))
  else
   bif (bL v1==bL (bs [105,110]))then
    gv N (bL v1==bL (bs [105,110]))
   else
    bif (bL v1==bL (bs [100,101,102]))then
     gv N (bL v1==bL (bs [100,101,102]))
    else
     bif (bL v1==bL (bs [111,117,116]))then
      gv N (bL v1==bL (bs [111,117,116]))
     else
      bif (bL v1==bL (bs [115,117,109]))then
       gv N (bL v1==bL (bs [115,117,109]))
      else
       bif (bL v1==bL (bs [112,114,111,100]))then
        gv N (bL v1==bL (bs [112,114,111,100]))
       else
        bif (bL v1==bL (bs [109,105,110]))then
         gv N (bL v1==bL (bs [109,105,110]))
        else
         bif (bL v1==bL (bs [109,97,120]))then
          gv N (bL v1==bL (bs [109,97,120]))
         else
          bif (bL v1==bL (bs [115,99,97,110]))then
           gv N (bL v1==bL (bs [115,99,97,110]))
          else
           bif (bL v1==bL (bs [111,118,101,114]))then
            gv N (bL v1==bL (bs [111,118,101,114]))
           else
            bif (bL v1==bL (bs [105,102]))then
             gv N (bL v1==bL (bs [105,102]))
            else
             bif (bL v1==bL (bs [99,97,115,116]))then
              gv N (bL v1==bL (bs [99,97,115,116]))
             else
              bif (bL v1==bL (bs [102,114,97,99]))then
               gv N (bL v1==bL (bs [102,114,97,99]))
              else
               bif (bL v1==bL (bs [105,110,116]))then
                gv N (bL v1==bL (bs [105,110,116]))
               else
                bif (bL v1==bL (bs [102,105,120]))then
                 gv N (bL v1==bL (bs [102,105,120]))
                else
                 bif (bL v1==bL (bs [99,101,105,108]))then
                  gv N (bL v1==bL (bs [99,101,105,108]))
                 else
                  bif (bL v1==bL (bs [102,108,111,111,114]))then
                   gv N (bL v1==bL (bs [102,108,111,111,114]))
                  else
                   bif (bL v1==bL (bs [122,101,114,111]))then
                    gv N (bL v1==bL (bs [122,101,114,111]))
                   else
                    bif (bL v1==bL (bs [101,118,101,110]))then
                     gv N (bL v1==bL (bs [101,118,101,110]))
                    else
                     bif (bL v1==bL (bs [115,97,116]))then
                      gv N (bL v1==bL (bs [115,97,116]))
                     else
                      gv N (bL v1==bL (bs [119,114,97,112]))
theorem LK(N:Nat)(v1:agV)(r:Bool)(J:zl N v1=some r):bA Tryz.prog 158 [(bp v1)] (·=(aU r)):=by
 rw[zl]at J;refine bZ Tryz.func158 (by kernel_rfl) (by kernel_rfl) ?_;refine ni ak 1 [[],[],[]] [4] 0 (fun(v2:Bool)=>⟨27,[(4,(aU v2))],[]⟩) (fun(v2:Bool)=>gv N v2=some r) ?_ ?_
 ·intro f1 ba;refine bc J (fun h2 J=> ?_) fun h2 J=> ?_
  ·exact dN ak ba (bL v1==bL (bs [115,105,122,101])) [[(0,bT h2)]] J
  refine ax ak [[(0,bF h2)],[]] ?_;refine bc J (fun h3 J=> ?_) fun h3 J=> ?_
  ·exact dN ak ba (bL v1==bL (bs [119,104,101,114,101])) [[(0,bT h3)]] J
  refine ax ak [[(0,bF h3)],[]] ?_;refine bc J (fun h4 J=> ?_) fun h4 J=> ?_
  ·exact dN ak ba (bL v1==bL (bs [105,110])) [[(0,bT h4)]] J
  refine ax ak [[(0,bF h4)],[]] ?_;refine bc J (fun h5 J=> ?_) fun h5 J=> ?_
  ·exact dN ak ba (bL v1==bL (bs [100,101,102])) [[(0,bT h5)]] J
  refine ax ak [[(0,bF h5)],[]] ?_;refine bc J (fun h6 J=> ?_) fun h6 J=> ?_
  ·exact dN ak ba (bL v1==bL (bs [111,117,116])) [[(0,bT h6)]] J
  refine ax ak [[(0,bF h6)],[]] ?_;refine bc J (fun h7 J=> ?_) fun h7 J=> ?_
  ·exact dN ak ba (bL v1==bL (bs [115,117,109])) [[(0,bT h7)]] J
  refine ax ak [[(0,bF h7)],[]] ?_;refine bc J (fun h8 J=> ?_) fun h8 J=> ?_
  ·exact dN ak ba (bL v1==bL (bs [112,114,111,100])) [[(0,bT h8)]] J
  refine ax ak [[(0,bF h8)],[]] ?_;refine bc J (fun h9 J=> ?_) fun h9 J=> ?_
  ·exact dN ak ba (bL v1==bL (bs [109,105,110])) [[(0,bT h9)]] J
  refine ax ak [[(0,bF h9)],[]] ?_;refine bc J (fun aJ J=> ?_) fun aJ J=> ?_
  ·exact dN ak ba (bL v1==bL (bs [109,97,120])) [[(0,bT aJ)]] J
  refine ax ak [[(0,bF aJ)],[]] ?_;refine bc J (fun bQ J=> ?_) fun bQ J=> ?_
  ·exact dN ak ba (bL v1==bL (bs [115,99,97,110])) [[(0,bT bQ)]] J
  refine ax ak [[(0,bF bQ)],[]] ?_;refine bc J (fun cl J=> ?_) fun cl J=> ?_
  ·exact dN ak ba (bL v1==bL (bs [111,118,101,114])) [[(0,bT cl)]] J
  refine ax ak [[(0,bF cl)],[]] ?_;refine bc J (fun dg J=> ?_) fun dg J=> ?_
  ·exact dN ak ba (bL v1==bL (bs [105,102])) [[(0,bT dg)]] J
  refine ax ak [[(0,bF dg)],[]] ?_;refine bc J (fun cg J=> ?_) fun cg J=> ?_
  ·exact dN ak ba (bL v1==bL (bs [99,97,115,116])) [[(0,bT cg)]] J
  refine ax ak [[(0,bF cg)],[]] ?_;refine bc J (fun cV J=> ?_) fun cV J=> ?_
  ·exact dN ak ba (bL v1==bL (bs [102,114,97,99])) [[(0,bT cV)]] J
  refine ax ak [[(0,bF cV)],[]] ?_;refine bc J (fun b9 J=> ?_) fun b9 J=> ?_
  ·exact dN ak ba (bL v1==bL (bs [105,110,116])) [[(0,bT b9)]] J
  refine ax ak [[(0,bF b9)],[]] ?_;refine bc J (fun c8 J=> ?_) fun c8 J=> ?_
  ·exact dN ak ba (bL v1==bL (bs [102,105,120])) [[(0,bT c8)]] J
  refine ax ak [[(0,bF c8)],[]] ?_;refine bc J (fun cr J=> ?_) fun cr J=> ?_
  ·exact dN ak ba (bL v1==bL (bs [99,101,105,108])) [[(0,bT cr)]] J
  refine ax ak [[(0,bF cr)],[]] ?_;refine bc J (fun dk J=> ?_) fun dk J=> ?_
  ·exact dN ak ba (bL v1==bL (bs [102,108,111,111,114])) [[(0,bT dk)]] J
  refine ax ak [[(0,bF dk)],[]] ?_;refine bc J (fun eY J=> ?_) fun eY J=> ?_
  ·exact dN ak ba (bL v1==bL (bs [122,101,114,111])) [[(0,bT eY)]] J
  refine ax ak [[(0,bF eY)],[]] ?_;refine bc J (fun gB J=> ?_) fun gB J=> ?_
  ·exact dN ak ba (bL v1==bL (bs [101,118,101,110])) [[(0,bT gB)]] J
  refine ax ak [[(0,bF gB)],[]] ?_;refine bc J (fun gn J=> ?_) fun gn J=> ?_
  ·exact dN ak ba (bL v1==bL (bs [115,97,116])) [[(0,bT gn)]] J
  exact dN ak ba (bL v1==bL (bs [119,114,97,112])) [[(0,bF gn)],[]] J
 rintro v2 J
 try dsimp only at J
 rw[gv]at J;refine bc J (fun h1 J=> ?_) fun h1 J=> ?_
 ·cases J;exact wr ak [[(0,bT h1)],[]]
 cases J;exact wr ak [[(0,bF h1)],[]]
def ru(N:Nat)(v1:agV):Nat→Int→agW Bool
 |0,_=>none
 |v5+1,v6=>
  bif (decide (v6<(v1.size:Int)))then
   bif (decide ((0:Int)≤v6))then
   Option.bind (v1[(v6).toNat]?) fun v7=>
   Option.bind (bif (decide ((v7.toNat:Int)<(97:Int)))then(bif (decide ((v7.toNat:Int)<(48:Int)))then some ((v7.toNat:Int) !=(95:Int))else(bif (decide ((v7.toNat:Int)>(57:Int)))then some ((v7.toNat:Int) !=(95:Int))else some false))else(bif (decide ((v7.toNat:Int)>(122:Int)))then(bif (decide ((v7.toNat:Int)<(48:Int)))then some ((v7.toNat:Int) !=(95:Int))else(bif (decide ((v7.toNat:Int)>(57:Int)))then some ((v7.toNat:Int) !=(95:Int))else some false))else some false)) fun v8=>
   bif v8 then
    some false
   else
    (fun bE=>ru N v1 v5 bE) (a8 (v6+(1:Int)))
   else none
  else
   some true
def xV(N:Nat)(v1:agV):agW Bool:=
 Option.bind (bif (decide ((v1.size:Int)<(1:Int)))then some true else(bif (decide ((v1.size:Int)>(16:Int)))then some true else Option.bind (zl N v1) fun v2=>
 (bif v2 then some true else Option.bind (v1[0]?) fun v3=>
 (bif (decide ((v3.toNat:Int)<(97:Int)))then some true else some (decide ((v3.toNat:Int)>(122:Int))))))) fun v4=>
 bif v4 then
  some false
 else
  ru N v1 N (0:Int)
theorem zP(N:Nat)(v1:agV)(r:Bool)(J:xV N v1=some r):bA Tryz.prog 123 [(bp v1)] (·=(aU r)):=by
 rw[xV]at J;refine bZ Tryz.func123 (by kernel_rfl) (by kernel_rfl) ?_;refine ax ak [[]] ?_;obtain⟨v4,h7,J⟩:=au J;refine dn ak [(26,(aU v4))] [] ?_ ?_
 ·refine bc h7 (fun h1 h7=> ?_) fun h1 h7=> ?_
  ·cases h7;exact⟨so (os [12,15,18,22] (bT h1) (os [27,30,34,39,42,45,49,54,57,60,64] (bT rfl) [])),by kernel_rfl⟩
  refine bc h7 (fun h2 h7=> ?_) fun h2 h7=> ?_
  ·cases h7;exact⟨so (os [12,15,18,22] (bF h1) (os [27,30,34] (bT h2) (os [39,42,45,49,54,57,60,64] (bT rfl) []))),by kernel_rfl⟩
  obtain⟨v2,h3,h7⟩:=au h7;refine bc h7 (fun h4 h7=> ?_) fun h4 h7=> ?_
  ·cases h7;exact⟨so (os [12,15,18,22] (bF h1) (os [27,30,34] (bF h2) (os [39,42,45,49] (bT h4) (os [54,57,60,64] (bT rfl) [(31,cL (LK N v1 v2 h3))])))),by kernel_rfl⟩
  obtain⟨v3,h5,h7⟩:=au h7;refine bc h7 (fun h6 h7=> ?_) fun h6 h7=> ?_
  ·cases h7;exact⟨so (os [12,15,18,22] (bF h1) (os [27,30,34] (bF h2) (os [39,42,45,49] (bF h4) (os [54,57,60,64] (bT h6) [(31,cL (LK N v1 v2 h3)),(43,⟨_,_, .ch (i:=(0:Int)) (by decide) h5⟩)])))),by kernel_rfl⟩
  cases h7;exact⟨so (os [12,15,18,22] (bF h1) (os [27,30,34] (bF h2) (os [39,42,45,49] (bF h4) (os [43,58] (⟨_,_, .ch (i:=(0:Int)) (by decide) h5⟩) (os [54,57,60,64] (bF h6) [(31,cL (LK N v1 v2 h3))]))))),by kernel_rfl⟩
 refine bc J (fun h8 J=> ?_) fun h8 J=> ?_
 ·cases J;exact wr ak [[(0,bT h8)],[]]
 refine c9 ak 1 [[(0,bF h8)],[]] [0,28,29] 0 (fun((v5,v6):Nat×Int)=>⟨54,[(0,(bp v1)),(28,(ao (v1.size:Int))),(29,(ao v6))],[]⟩) (fun((v5,v6):Nat×Int)=>ru N v1 v5 v6=some r) (fun((v5,v6):Nat×Int)=>v5) (N,(0:Int)) J ?_;rintro⟨v5,v6⟩ J f1 ba
 try dsimp only at J
 cases v5 with
 |zero=>
  rw[ru]at J;cases J
 |succ v5=>
  rw[ru]at J;refine ax ak [[]] ?_;refine bc J (fun h9 J=> ?_) fun h9 J=> ?_
  ·obtain⟨bQ,J⟩:=dO J;obtain⟨v7,aJ,J⟩:=au J;refine ax ak [[(0,bT h9)],[],[(7,⟨_,_, .ch (i:=v6) (of_decide_eq_true bQ) aJ⟩)]] ?_;obtain⟨v8,cr,J⟩:=au J;refine dn ak [(52,(aU v8))] [] ?_ ?_
   ·refine bc cr (fun cl cr=> ?_) fun cl cr=> ?_
    ·refine bc cr (fun dg cr=> ?_) fun dg cr=> ?_
     ·cases cr;exact⟨so (os [9,12,16] (bT cl) (os [21,24,27,36,40,45,48,52] (bT rfl) (os [30,33,37] (bT dg) []))),by kernel_rfl⟩
     refine bc cr (fun cg cr=> ?_) fun cg cr=> ?_
     ·cases cr;exact⟨so (os [9,12,16] (bT cl) (os [21,24,27,36,40] (bT rfl) (os [30,33,37] (bF dg) (os [45,48,52] (bT cg) [])))),by kernel_rfl⟩
     cases cr;exact⟨so (os [9,12,16] (bT cl) (os [21,24,27,36,40] (bT rfl) (os [30,33,37] (bF dg) (os [45,48,52] (bF cg) [])))),by kernel_rfl⟩
    refine bc cr (fun cV cr=> ?_) fun cV cr=> ?_
    ·refine bc cr (fun b9 cr=> ?_) fun b9 cr=> ?_
     ·cases cr;exact⟨so (os [9,12,16] (bF cl) (os [21,24,27,36,40] (bT cV) (os [30,33,37] (bT b9) (os [45,48,52] (bT rfl) [])))),by kernel_rfl⟩
     refine bc cr (fun c8 cr=> ?_) fun c8 cr=> ?_
     ·cases cr;exact⟨so (os [9,12,16] (bF cl) (os [21,24,27,36,40] (bT cV) (os [30,33,37] (bF b9) (os [45,48,52] (bT c8) [])))),by kernel_rfl⟩
     cases cr;exact⟨so (os [9,12,16] (bF cl) (os [21,24,27,36,40] (bT cV) (os [30,33,37] (bF b9) (os [45,48,52] (bF c8) [])))),by kernel_rfl⟩
    cases cr;exact⟨so (os [9,12,16] (bF cl) (os [21,24,27,36,40] (bF cV) (os [30,33] uN (os [45,48,52] (bF rfl) [])))),by kernel_rfl⟩
   refine bc J (fun dk J=> ?_) fun dk J=> ?_
   ·cases J;exact wr ak [[(0,bT dk)],[]]
   exact cU ak ba (v5,(a8 (v6+(1:Int)))) [[(0,bF dk)],[]] J
  cases J;exact wr ak [[(0,bF h9)],[]]
def uW(N:Nat)(v1:aw):agU aF→Nat→agW Int
 |[],_=>
  some (0:Int)
 |v4::v5,v2=>
  Option.bind (xV N v4.aq) fun v6=>
  Option.bind (bif v6 then(bif (v4.cZ.toInt==(0:Int))then some true else(bif (decide ((v2:Int)>(0:Int)))then bif (decide ((0:Int)≤(a8 ((v2:Int)-(1:Int)))))then
  Option.bind (v1.xL[((a8 ((v2:Int)-(1:Int)))).toNat]?) fun v7=>
  some (!(Op.bytesLess (bL v7.aq) (bL v4.aq)))
  else none else some false))else some true) fun v8=>
  bif v8 then
   some (1:Int)
  else
   (uW N v1 v5 (v2+1))
def pz(N:Nat)(v1:aw):agW Int:=
 uW N v1 v1.xL 0
theorem vh(N:Nat)(v1:aw)(r:Int)(J:pz N v1=some r):bA Tryz.prog 124 [(bY v1)] (·=(ao r)):=by
 rw[pz]at J;refine bZ Tryz.func124 (by kernel_rfl) (by kernel_rfl) ?_;refine ax ak [[],[(7,oL v1.xL cS)]] ?_;refine dj 6 (bJ v1.xL) (by kernel_rfl) fun h1=> ?_;have h2:=cP cS h1;refine c9 ak 1 [] [1,6,7,8] 1 (fun((v2,v3):Nat×(agU aF))=>⟨39,[(1,(.ptr 0 0)),(6,(.d (.sl (bJ v1.xL)))),(7,(ao (v1.xL.length:Int))),(8,(ao (v2:Int)))],[.cells (bY v1).cells]⟩) (fun((v2,v3):Nat×(agU aF))=>v1.xL.drop v2=v3∧uW N v1 v3 v2=some r) (fun((v2,v3):Nat×(agU aF))=>v3.length) (0,v1.xL) ⟨rfl,J⟩ ?_;rintro⟨v2,v3⟩ ⟨h3,J⟩ f1 ba;cases v3 with
 |nil=>
  rw[uW]at J;cases J;exact wr ak [[],[(0,bF (ck h3))],[]]
 |cons v4 v5=>
  rw[uW]at J;refine ax ak [[],[(0,bT (cf h3))],[(4,oE (gV (bS h3)))]] ?_;obtain⟨v6,h4,J⟩:=au J;obtain⟨v8,aJ,J⟩:=au J;refine dn ak [(37,(aU v8))] [.cells (bY v1).cells, .cells (mh v4).cells] ?_ ?_
  ·refine bc aJ (fun h5 aJ=> ?_) fun h5 aJ=> ?_
   ·refine bc aJ (fun h6 aJ=> ?_) fun h6 aJ=> ?_
    ·cases aJ;exact⟨so (os [15,18,21,25] (bF (dH h5)) (os [30,33,36,69,73] (bT h6) (os [39,42,45,48,51,54,57,60,63,66] uN [(7,cL (zP N v4.aq v6 h4))]))),by kernel_rfl⟩
    refine bc aJ (fun h7 aJ=> ?_) fun h7 aJ=> ?_
    ·obtain⟨h9,aJ⟩:=dO aJ;obtain⟨v7,h8,aJ⟩:=au aJ;cases aJ;exact⟨so (os [15,18,21,25] (bF (dH h5)) (os [30,33,36,69,73] (bF h6) (os [39,42,45,48,51,54,57,60,63,66,70] (bT h7) [(7,cL (zP N v4.aq v6 h4)),(52,⟨_,_, .el (xs:=bJ v1.xL) (i:=(a8 ((v2:Int)-(1:Int)))) (of_decide_eq_true h9) (gV h8)⟩)]))),by kernel_rfl⟩
    cases aJ;exact⟨so (os [15,18,21,25] (bF (dH h5)) (os [30,33,36,69,73] (bF h6) (os [39,42,45,48,51,54,57,60,63,66,70] (bF h7) [(7,cL (zP N v4.aq v6 h4))]))),by kernel_rfl⟩
   cases aJ;exact⟨so (os [15,18,21,25] (bT (dK h5)) (os [30,33,36,69,73] (bT rfl) (os [39,42,45,48,51,54,57,60,63,66] uN [(7,cL (zP N v4.aq v6 h4))]))),by kernel_rfl⟩
  refine bc J (fun bQ J=> ?_) fun bQ J=> ?_
  ·cases J;exact wr ak [[(0,bT bQ)],[]]
  exact cU ak ba (v2+1,v5) [[(0,bF bQ)],[(2,oq (cx h3 rfl h2))]] ⟨ct h3,J⟩
def Gz(N:Nat)(v1:cv):agW Int:=
 Option.bind (pz N v1.aL) fun v2=>
 some v2
theorem XL(N:Nat)(v1:cv)(r:Int)(J:Gz N v1=some r):bA Tryz.prog 97 [(lV v1)] (·=(ao r)):=by
 rw[Gz]at J;refine bZ Tryz.func97 (by kernel_rfl) (by kernel_rfl) ?_;obtain⟨v2,h1,J⟩:=au J;obtain rfl:=sj J;exact wr ak [[],[(7,cL (vh N v1.aL v2 h1))]]
def tS(N:Nat)(v3:agU (agV×Int)):agU aF→Nat→agW Int
 |[],_=>
  some (0:Int)
 |v7::v8,v5=>
  bif ((gi v3 v7.aq 0) !=(1:Int))then
   some (9:Int)
  else
   (tS N v3 v8 (v5+1))
def vn(N:Nat)(v1:aw)(v2:aY)(v3:agU (agV×Int)):agW Int:=
 Option.bind (pz N v1) fun v4=>
 bif (v4 !=(0:Int))then
  some (1:Int)
 else
  tS N v3 v1.xL 0
theorem KX(N:Nat)(v1:aw)(v2:aY)(v3:agU (agV×Int))(r:Int)(J:vn N v1 v2 v3=some r):bD Tryz.prog 98 [(.ptr 0 0),(bY v1)] [.cells (dx v2 [(.mp 1)]), .map (dp v3)] fun r1 h1=>r1=(ao r)∧h1=[.cells (dx v2 [(.mp 1)]), .map (dp v3)]:=by
 rw[vn]at J;refine dS 2 Tryz.func98 (by kernel_rfl) (by kernel_rfl) (agd rfl) ?_;obtain⟨v4,h1,J⟩:=au J;refine ax ak [[],[(4,cL (vh N v1 v4 h1))]] ?_;refine bc J (fun h2 J=> ?_) fun h2 J=> ?_
 ·cases J;exact bH ak [[(0,bT h2)],[]]
 refine ax ak [[(0,bF h2)],[(7,oL v1.xL cS)]] ?_;refine dj 11 (bJ v1.xL) (by kernel_rfl) fun h3=> ?_;have h4:=cP cS h3;refine c9 ak 1 [] [0,11,12,13] 3 (fun((v5,v6):Nat×(agU aF))=>⟨26,[(0,(.ptr 0 0)),(11,(.d (.sl (bJ v1.xL)))),(12,(ao (v1.xL.length:Int))),(13,(ao (v5:Int)))],[.cells (dx v2 [(.mp 1)]), .map (dp v3), .cells (bY v1).cells]⟩) (fun((v5,v6):Nat×(agU aF))=>v1.xL.drop v5=v6∧tS N v3 v6 v5=some r) (fun((v5,v6):Nat×(agU aF))=>v6.length) (0,v1.xL) ⟨rfl,J⟩ ?_;rintro⟨v5,v6⟩ ⟨h5,J⟩ f1 ba;cases v6 with
 |nil=>
  rw[tS]at J;cases J;exact bH ak [[],[(0,bF (ck h5))],[]]
 |cons v7 v8=>
  rw[tS]at J;refine ax ak [[],[(0,bT (cf h5))],[(1,oE (gV (bS h5)))],[(20,⟨_,_, .eq (BE false v3 v7.aq)⟩)]] ?_;refine bc J (fun h6 J=> ?_) fun h6 J=> ?_
  ·cases J;exact bH ak [[(0,bT h6)],[]]
  exact cU ak ba (v5+1,v8) [[(0,bF h6)],[(2,oq (cx h5 rfl h4))]] ⟨ct h5,J⟩
def yO(N:Nat)(v1:cv)(v2:aY)(v3:agU (agV×Int)):agW Int:=
 Option.bind (Gz N v1) fun v4=>
 bif (v4 !=(0:Int))then
  some (1:Int)
 else
  Option.bind (vn N v1.aL v2 v3) fun v5=>
  some v5
theorem Yv(N:Nat)(v1:cv)(v2:aY)(v3:agU (agV×Int))(r:Int)(J:yO N v1 v2 v3=some r):bD Tryz.prog 61 [(.ptr 0 0),(lV v1)] [.cells (dx v2 [(.mp 1)]), .map (dp v3)] fun r1 h1=>r1=(ao r)∧h1=[.cells (dx v2 [(.mp 1)]), .map (dp v3)]:=by
 rw[yO]at J;refine dS 2 Tryz.func61 (by kernel_rfl) (by kernel_rfl) (agd rfl) ?_;obtain⟨v4,h1,J⟩:=au J;refine ax ak [[],[(4,cL (XL N v1 v4 h1))]] ?_;refine bc J (fun h2 J=> ?_) fun h2 J=> ?_
 ·cases J;exact bH ak [[(0,bT h2)],[]]
 obtain⟨v5,h3,J⟩:=au J;obtain rfl:=sj J;exact bH ak [[(0,bF h2)],[(10,⟨_,_, .rq (cb:=[(.ptr 0 0),(bY v1.aL)]) (h:=[.cells (dx v2 [(.mp 1)]), .map (dp v3), .cells (lV v1).cells]) (l:=[0,1]) (by kernel_rfl) (by kernel_rfl) (by kernel_rfl) (by kernel_rfl) (KX N v1.aL v2 v3 v5 h3)⟩)]]
def CO(N:Nat)(v1:bn):agW Bool:=
 some ((v1.bW==v1.bW)&&((v1.ca==(0:Int))&&((v1.cF==(0:Int))&&((v1.cE==(0:Int))&&((v1.cJ==(0:Int))&&true)))))
theorem adv(N:Nat)(v1:bn)(r:Bool)(J:CO N v1=some r):bA Tryz.prog 163 [(gO v1)] (·=(aU r)):=by
 rw[CO]at J;refine bZ Tryz.func163 (by kernel_rfl) (by kernel_rfl) ?_;cases J;exact wr ak [[],[]]
def yo(N:Nat)(v1:bn):agW Int:=
 Option.bind (bif (decide (v1.cE≥(1:Int)))then(bif (decide (v1.cE≤(4:Int)))then(bif (v1.cJ==(1:Int))then some true else some (v1.cJ==(2:Int)))else some false)else some false) fun v2=>
 Option.bind (bif (v1.bW !=(2:Int))then some true else(bif (decide (v1.ca<(2:Int)))then some true else(bif (decide (v1.ca>(31:Int)))then some true else(bif (decide (v1.cF<(0:Int)))then some true else(bif (decide (v1.cF>(30:Int)))then some true else some (!v2)))))) fun v3=>
 bif v3 then
  some (10:Int)
 else
  some (0:Int)
theorem Bu(N:Nat)(v1:bn)(r:Int)(J:yo N v1=some r):bA Tryz.prog 164 [(gO v1)] (·=(ao r)):=by
 rw[yo]at J;refine bZ Tryz.func164 (by kernel_rfl) (by kernel_rfl) ?_;refine ax ak [[]] ?_;obtain⟨v2,h4,J⟩:=au J;refine dn ak [(3,(aU v2))] [.cells (gO v1).cells] ?_ ?_
 ·refine bc h4 (fun h1 h4=> ?_) fun h1 h4=> ?_
  ·refine bc h4 (fun h2 h4=> ?_) fun h2 h4=> ?_
   ·refine bc h4 (fun h3 h4=> ?_) fun h3 h4=> ?_
    ·cases h4;exact⟨so (os [12,15,18,22] (bT h1) (os [27,30,33,36,48,52] (bT h2) (os [39,42,45,49] (bT h3) []))),by kernel_rfl⟩
    cases h4;exact⟨so (os [12,15,18,22] (bT h1) (os [27,30,33,36,48,52] (bT h2) (os [39,42,45,49] (bF h3) []))),by kernel_rfl⟩
   cases h4;exact⟨so (os [12,15,18,22] (bT h1) (os [27,30,33,36,48,52] (bF h2) (os [39,42,45] uN []))),by kernel_rfl⟩
  cases h4;exact⟨so (os [12,15,18,22] (bF h1) (os [27,30,33,36,48,52] (bF rfl) (os [39,42,45] uN []))),by kernel_rfl⟩
 obtain⟨v3,aJ,J⟩:=au J;refine dn ak [(48,(aU v3))] [.cells (gO v1).cells] ?_ ?_
 ·refine bc aJ (fun h5 aJ=> ?_) fun h5 aJ=> ?_
  ·cases aJ;exact⟨so (os [12,15,18,22] (bT h5) (os [27,30,33,37,42,45,48,52,57,60,63,67,72,75,79] (bT rfl) [])),by kernel_rfl⟩
  refine bc aJ (fun h6 aJ=> ?_) fun h6 aJ=> ?_
  ·cases aJ;exact⟨so (os [12,15,18,22] (bF h5) (os [27,30,33,37] (bT h6) (os [42,45,48,52,57,60,63,67,72,75,79] (bT rfl) []))),by kernel_rfl⟩
  refine bc aJ (fun h7 aJ=> ?_) fun h7 aJ=> ?_
  ·cases aJ;exact⟨so (os [12,15,18,22] (bF h5) (os [27,30,33,37] (bF h6) (os [42,45,48,52] (bT h7) (os [57,60,63,67,72,75,79] (bT rfl) [])))),by kernel_rfl⟩
  refine bc aJ (fun h8 aJ=> ?_) fun h8 aJ=> ?_
  ·cases aJ;exact⟨so (os [12,15,18,22] (bF h5) (os [27,30,33,37] (bF h6) (os [42,45,48,52] (bF h7) (os [57,60,63,67] (bT h8) (os [72,75,79] (bT rfl) []))))),by kernel_rfl⟩
  refine bc aJ (fun h9 aJ=> ?_) fun h9 aJ=> ?_
  ·cases aJ;exact⟨so (os [12,15,18,22] (bF h5) (os [27,30,33,37] (bF h6) (os [42,45,48,52] (bF h7) (os [57,60,63,67] (bF h8) (os [72,75,79] (bT h9) []))))),by kernel_rfl⟩
  cases aJ;exact⟨so (os [12,15,18,22] (bF h5) (os [27,30,33,37] (bF h6) (os [42,45,48,52] (bF h7) (os [57,60,63,67] (bF h8) (os [72,75,79] (bF h9) []))))),by kernel_rfl⟩
 refine bc J (fun bQ J=> ?_) fun bQ J=> ?_
 ·cases J;exact wr ak [[(0,bT bQ)],[]]
 cases J;exact wr ak [[(0,bF bQ)],[]]
def BY(N:Nat)(v1:bn)(v2:Bool):agW Int:=
 bif v2 then
  Option.bind (CO N v1) fun v3=>
  bif v3 then
   some (0:Int)
  else
   some (10:Int)
 else
  bif (v1.bW==(2:Int))then
   Option.bind (yo N v1) fun v4=>
   bif (v4==(0:Int))then
    some (0:Int)
   else
    some (10:Int)
  else
   some (10:Int)
def su(N:Nat)(v1:bn):agW Int:=
 bif (v1.bW==(1:Int))then
  BY N v1 (v1.bW==(1:Int))
 else
  BY N v1 (v1.bW==(3:Int))
theorem CZ(N:Nat)(v1:bn)(r:Int)(J:su N v1=some r):bA Tryz.prog 133 [(gO v1)] (·=(ao r)):=by
 rw[su]at J;refine bZ Tryz.func133 (by kernel_rfl) (by kernel_rfl) ?_;refine ni ak 1 [[],[],[]] [1,4,5] 1 (fun(v2:Bool)=>⟨15,[(1,(.ptr 0 0)),(4,(ao v1.bW)),(5,(aU v2))],[.cells (gO v1).cells]⟩) (fun(v2:Bool)=>BY N v1 v2=some r) ?_ ?_
 ·intro f1 ba;refine bc J (fun h7 J=> ?_) fun h7 J=> ?_
  ·exact dN ak ba (v1.bW==(1:Int)) [[(0,bT h7)]] J
  exact dN ak ba (v1.bW==(3:Int)) [[(0,bF h7)],[]] J
 rintro v2 J
 try dsimp only at J
 rw[BY]at J;refine bc J (fun h1 J=> ?_) fun h1 J=> ?_
 ·obtain⟨v3,h2,J⟩:=au J;refine ax ak [[(0,bT h1)],[(4,cL (adv N v1 v3 h2))]] ?_;refine bc J (fun h3 J=> ?_) fun h3 J=> ?_
  ·cases J;exact wr ak [[(0,bT h3)],[]]
  cases J;exact wr ak [[(0,bF h3)],[]]
 refine ax ak [[(0,bF h1)],[]] ?_;refine bc J (fun h4 J=> ?_) fun h4 J=> ?_
 ·obtain⟨v4,h5,J⟩:=au J;refine ax ak [[(0,bT h4)],[(4,cL (Bu N v1 v4 h5))]] ?_;refine bc J (fun h6 J=> ?_) fun h6 J=> ?_
  ·cases J;exact wr ak [[(0,bT h6)],[]]
  cases J;exact wr ak [[(0,bF h6)],[]]
 cases J;exact wr ak [[(0,bF h4)],[]]
def yW(N:Nat):agU Int→Nat→Int→agW Int
 |[],_,v7=>
  some v7
 |v5::v6,v3,v7=>
  (fun fx=>yW N v6 (v3+1) fx) (if v5>v7 then v5 else v7)
def Iq(N:Nat)(v1:agU Int):agW Int:=
 Option.bind (v1[0]?) fun v2=>
 yW N (v1.drop 1) 1 v2
def zp(N:Nat)(v1:agU Int):agW Int:=
 bif (decide ((v1.length:Int)<(1:Int)))then
  none
 else
  Iq N v1
theorem WM(N:Nat)(v1:agU Int)(r:Int)(J:zp N v1=some r):bA Tryz.prog 134 [(.d (.sl (nw v1)))] (·=(ao r)):=by
 rw[zp]at J;refine bZ Tryz.func134 (by kernel_rfl) (by kernel_rfl) ?_;refine ni ak 1 [[],[(4,oL v1 xJ)]] [0] 0 (fun(_:Unit)=>⟨25,[(0,(.d (.sl (nw v1))))],[]⟩) (fun(_:Unit)=>Iq N v1=some r) ?_ ?_
 ·intro f1 ba;refine bc J (fun h5 J=> ?_) fun h5 J=> ?_
  ·cases J
  exact dN ak ba () [[(0,bF h5)]] J
 rintro _ J
 try dsimp only at J
 rw[Iq]at J;obtain⟨v2,h1,J⟩:=au J;refine ax ak [[(4,oE (k:=0) (J9 h1))],[]] ?_;refine dj 0 (nw v1) (by kernel_rfl) fun h2=> ?_;have h3:=cP xJ h2;refine c9 ak 2 [] [0,3,4] 0 (fun((v3,v4,v7):Nat×(agU Int)×Int)=>⟨25,[(0,(.d (.sl (nw v1)))),(3,(ao v7)),(4,(ao (v3:Int)))],[]⟩) (fun((v3,v4,v7):Nat×(agU Int)×Int)=>v1.drop v3=v4∧yW N v4 v3 v7=some r) (fun((v3,v4,v7):Nat×(agU Int)×Int)=>v4.length) (1,(v1.drop 1),v2) ⟨rfl,J⟩ ?_;rintro⟨v3,v4,v7⟩ ⟨h4,J⟩ f2 fD;cases v4 with
 |nil=>
  rw[yW]at J;cases J;exact wr ak [[(7,oL v1 xJ)],[(0,bF (ck h4))],[]]
 |cons v5 v6=>
  rw[yW]at J;exact cU ak fD (v3+1,v6,(if v5>v7 then v5 else v7)) [[(7,oL v1 xJ)],[(0,bT (cf h4))],[(10,oE (J9 (bS h4)))],[(5,oq (cx h4 rfl h3))]] ⟨ct h4,J⟩
def rL(N:Nat)(v1:bn)(v2:agU Int):agW Int:=
 Option.bind (su N v1) fun v3=>
 bif (v3 !=(0:Int))then
  some (10:Int)
 else
  Option.bind (zp N v2) fun v4=>
  bif (decide (v4>(6:Int)))then
   some (11:Int)
  else
   some (0:Int)
theorem UU(N:Nat)(v1:bn)(v2:agU Int)(r:Int)(J:rL N v1 v2=some r):bA Tryz.prog 99 [(gO v1),(.d (.sl (nw v2)))] (·=(ao r)):=by
 rw[rL]at J;refine bZ Tryz.func99 (by kernel_rfl) (by kernel_rfl) ?_;obtain⟨v3,h1,J⟩:=au J;refine ax ak [[],[(4,cL (CZ N v1 v3 h1))]] ?_;refine bc J (fun h2 J=> ?_) fun h2 J=> ?_
 ·cases J;exact wr ak [[(0,bT h2)],[]]
 obtain⟨v4,h3,J⟩:=au J;refine ax ak [[(0,bF h2)],[(4,cL (WM N v2 v4 h3))]] ?_;refine bc J (fun h4 J=> ?_) fun h4 J=> ?_
 ·cases J;exact wr ak [[(0,bT h4)],[]]
 cases J;exact wr ak [[(0,bF h4)],[]]
def uB(N:Nat)(v4:Int×(agU (agV×Int)))(v2:aY):agU aw→Nat→agW (Int×(agU (agV×Int)))
 |[],_=>
  some ((0:Int),v4.2)
 |v8::v9,v6=>
  Option.bind (vn N v8 v2 v4.2) fun v10=>
  bif (v10 !=(0:Int))then
   some (v10,v4.2)
  else
   (uB N v4 v2 v9 (v6+1))
def yP(N:Nat)(v1:bN)(v2:aY)(v3:agU (agV×Int)):agW (Int×(agU (agV×Int))):=
 Option.bind (sV N v1.aq (2:Int) v2 v3) fun v4=>
 bif (v4.1 !=(0:Int))then
  some (v4.1,v4.2)
 else
  Option.bind (rL N v1.aC ([(v1.aS.length:Int)])) fun v5=>
  bif (v5 !=(0:Int))then
   some (v5,v4.2)
  else
   uB N v4 v2 v1.aS 0
theorem acH(N:Nat)(v1:bN)(v2:aY)(v3:agU (agV×Int))(r:Int×(agU (agV×Int)))(J:yP N v1 v2 v3=some r):bD Tryz.prog 62 [(.ptr 0 0),(lC v1)] [.cells (dx v2 [(.mp 1)]), .map (dp v3)] fun r1 h1=>r1=(ao r.1)∧h1=[.cells (dx v2 [(.mp 1)]), .map (dp r.2)]:=by
 rw[yP]at J;refine dS 2 Tryz.func62 (by kernel_rfl) (by kernel_rfl) (agd rfl) ?_;obtain⟨v4,h1,J⟩:=au J;refine ax ak [[],[(10,⟨_,_, .iN (cb:=[(.ptr 0 0),(bp v1.aq),(ao (2:Int))]) (h:=[.cells (dx v2 [(.mp 1)]), .map (dp v3), .cells (lC v1).cells]) (l:=[0,1]) (by kernel_rfl) (by kernel_rfl) (by kernel_rfl) (by kernel_rfl) (II N v1.aq (2:Int) v2 v3 v4 h1)⟩)],[]] ?_;refine bc J (fun h2 J=> ?_) fun h2 J=> ?_
 ·cases J;exact bH ak [[(0,bT h2)],[]]
 obtain⟨v5,h3,J⟩:=au J;refine ax ak [[(0,bF h2)],[(13,oL v1.aS cd),(19,cL (UU N v1.aC ([(v1.aS.length:Int)]) v5 h3))],[]] ?_;refine bc J (fun h4 J=> ?_) fun h4 J=> ?_
 ·cases J;exact bH ak [[(0,bT h4)],[]]
 refine ax ak [[(0,bF h4)],[(7,oL v1.aS cd)]] ?_;refine dj 28 (cH v1.aS) (by kernel_rfl) fun h5=> ?_;have h6:=cP cd h5;refine c9 ak 1 [] [0,28,29,30] 3 (fun((v6,v7):Nat×(agU aw))=>⟨41,[(0,(.ptr 0 0)),(28,(.d (.sl (cH v1.aS)))),(29,(ao (v1.aS.length:Int))),(30,(ao (v6:Int)))],[.cells (dx v2 [(.mp 1)]), .map (dp v4.2), .cells (lC v1).cells]⟩) (fun((v6,v7):Nat×(agU aw))=>v1.aS.drop v6=v7∧uB N v4 v2 v7 v6=some r) (fun((v6,v7):Nat×(agU aw))=>v7.length) (0,v1.aS) ⟨rfl,J⟩ ?_;rintro⟨v6,v7⟩ ⟨h7,J⟩ f1 ba;cases v7 with
 |nil=>
  rw[uB]at J;cases J;exact bH ak [[],[(0,bF (ck h7))],[]]
 |cons v8 v9=>
  rw[uB]at J;obtain⟨v10,h8,J⟩:=au J;refine ax ak [[],[(0,bT (cf h7))],[(1,oE (ku (bS h7)))],[(7,⟨_,_, .rq (cb:=[(.ptr 0 0),(bY v8)]) (h:=[.cells (dx v2 [(.mp 1)]), .map (dp v4.2), .cells (lC v1).cells, .cells (bY v8).cells]) (l:=[0,1]) (by kernel_rfl) (by kernel_rfl) (by kernel_rfl) (by kernel_rfl) (KX N v8 v2 v4.2 v10 h8)⟩)],[]] ?_;refine bc J (fun h9 J=> ?_) fun h9 J=> ?_
  ·cases J;exact bH ak [[(0,bT h9)],[]]
  exact cU ak ba (v6+1,v9) [[(0,bF h9)],[(2,oq (cx h7 rfl h6))]] ⟨ct h7,J⟩
def HT(N:Nat)(v1:Int):agW Unit:=bif decide ((0:Int)≤v1)&&Nat.ble (v1.toNat*48) 140737488355328 then some ()else none
theorem XQ(N:Nat)(v1:Int)(r:Unit)(J:HT N v1=some r):bD Tryz.prog 165 [.d (.v (.slice none 0 0)),(ao v1)] [] fun r1 h1=>r1= .own 0 []∧h1=[.front 64 3 0]:=by
 obtain⟨hb,_⟩:=dJ J;rw[af7]at hb;have e:Int.ofNat v1.toNat=v1:=Int.toNat_of_nonneg (of_decide_eq_true hb.1);have h:=YU hb.2;rw[e]at h;exact h
def tW(N:Nat):agU (agU bf)→Nat→(agU bf)→agW ((agU bf))
 |[],_,v12=>
  some v12
 |v10::v11,v8,v12=>
  bif (Nat.ble ((v12.length+v10.length)*48) 140737488355328)then
  (fun fx=>tW N v11 (v8+1) fx) (v12++v10)
  else none
def rz(N:Nat)(v1:agU (agU bf)):agU (agU bf)→Nat→Int→agW ((agU bf))
 |[],_,v6=>
  Option.bind (HT N v6) fun v7=>
  tW N v1 0 []
 |v4::v5,v2,v6=>
  bif (decide ((a8 (v6+(v4.length:Int)))<(0:Int)))then
   none
  else
   (fun bE=>rz N v1 v5 (v2+1) bE) (a8 (v6+(v4.length:Int)))
def w6(N:Nat)(v1:agU (agU bf)):agW ((agU bf)):=
 rz N v1 v1 0 (0:Int)
theorem Qt(N:Nat)(v1:agU (agU bf))(r:(agU bf))(J:w6 N v1=some r):bA Tryz.prog 135 [(.d (.sl (pD v1)))] (·=(.d (.sl (cm r)))):=by
 rw[w6]at J;refine bZ Tryz.func135 (by kernel_rfl) (by kernel_rfl) ?_;refine ax ak [[],[],[(4,oL v1 FN)]] ?_;refine dj 0 (pD v1) (by kernel_rfl) fun h1=> ?_;have h2:=cP FN h1;refine c9 ak 1 [] [0,3,9,10,11] 0 (fun((v2,v3,v6):Nat×(agU (agU bf))×Int)=>⟨36,[(0,(.d (.sl (pD v1)))),(3,(ao v6)),(9,(.d (.sl (pD v1)))),(10,(ao (v1.length:Int))),(11,(ao (v2:Int)))],[]⟩) (fun((v2,v3,v6):Nat×(agU (agU bf))×Int)=>v1.drop v2=v3∧rz N v1 v3 v2 v6=some r) (fun((v2,v3,v6):Nat×(agU (agU bf))×Int)=>v3.length) (0,v1,(0:Int)) ⟨rfl,J⟩ ?_;rintro⟨v2,v3,v6⟩ ⟨h3,J⟩ f1 ba;cases v3 with
 |nil=>
  rw[rz]at J;obtain⟨v7,h4,J⟩:=au J;refine ax ak [[],[(0,bF (ck h3))],[(4,⟨_,_, .je (XQ N v6 v7 h4)⟩)],[(4,oL v1 FN)]] ?_;refine dj 0 (pD v1) (by kernel_rfl) fun h5=> ?_;have h6:=cP FN h5;refine c9 ak 2 [] [6,25,26,27] 1 (fun((v8,v9,v12):Nat×(agU (agU bf))×(agU bf))=>⟨36,[(6,(.own 0 (cm v12))),(25,(.d (.sl (pD v1)))),(26,(ao (v1.length:Int))),(27,(ao (v8:Int)))],[.front 64 3 v12.length]⟩) (fun((v8,v9,v12):Nat×(agU (agU bf))×(agU bf))=>v1.drop v8=v9∧tW N v9 v8 v12=some r) (fun((v8,v9,v12):Nat×(agU (agU bf))×(agU bf))=>v9.length) (0,v1,[]) ⟨rfl,J⟩ ?_;rintro⟨v8,v9,v12⟩ ⟨h7,J⟩ f2 fD;cases v9 with
  |nil=>
   rw[tW]at J;cases J;exact wr ak [[],[(0,bF (ck h7))],[]]
  |cons v10 v11=>
   rw[tW]at J;obtain⟨h8,J⟩:=dO J;exact cU ak fD (v8+1,v11,(v12++v10)) [[],[(0,bT (cf h7))],[(1,oE (QE (bS h7)))],[(7,⟨_,_, .app (xs:=cm v12) (ys:=cm v10) (zs:=cm (v12++v10)) (n:=(v12++v10).length) cK.symm uq uq (by rw[(cK (l:=v12)),(cK (l:=v10))];exact(dQ h8 (by decide)).1) (by rw[(cK (l:=v12)),(cK (l:=v10))];exact(dQ h8 (by decide)).2) Lx (by first|(rw[(cK (l:=v12)),(cK (l:=v10))];done)|(rw[(cK (l:=v12)),(cK (l:=v10))];rfl)|(rw[(cK (l:=v12)),(cK (l:=v10)),af6];done)|(rw[(cK (l:=v12)),(cK (l:=v10)),af6];rfl)|(rw[(cK (l:=v12)),(cK (l:=v10)),agq]))⟩)],[(2,oq (cx h7 rfl h6))]] ⟨ct h7,J⟩
 |cons v4 v5=>
  rw[rz]at J;refine ax ak [[],[(0,bT (cf h3))],[(1,oE (QE (bS h3)))],[(7,oL v4 cK)],[]] ?_;refine bc J (fun h9 J=> ?_) fun h9 J=> ?_
  ·cases J
  exact cU ak ba (v2+1,v5,(a8 (v6+(v4.length:Int)))) [[(0,bF h9)],[(2,oq (cx h3 rfl h2))]] ⟨ct h3,J⟩
def vl(N:Nat)(v3:agU (agV×Int))(v2:aY):agU bf→Nat→(agU (agV×Bool))→agW Int
 |[],_,_=>
  some (0:Int)
 |v7::v8,v5,v9=>
  Option.bind (ri N v7.aq) fun v10=>
  bif v10 then
   Option.bind (bif (gi v9 v7.aq false)then some true else some ((gi v3 v7.aq 0)==(1:Int))) fun v11=>
   bif v11 then
    some (8:Int)
   else
    bif (Nat.blt v9.length 9223372036854775807)then
    Option.bind (vn N v7.ep v2 v3) fun v12=>
    bif (v12 !=(0:Int))then
     some v12
    else
     (fun bE=>vl N v3 v2 v8 (v5+1) bE) ((v7.aq,true)::v9)
    else none
  else
   some (7:Int)
def yE(N:Nat)(v1:aG)(v2:aY)(v3:agU (agV×Int)):agW Int:=
 Option.bind (w6 N ([v1.aS,v1.bI])) fun v4=>
 vl N v3 v2 v4 0 []
theorem abU(N:Nat)(v1:aG)(v2:aY)(v3:agU (agV×Int))(r:Int)(J:yE N v1 v2 v3=some r):bD Tryz.prog 100 [(.ptr 0 0),(cp v1)] [.cells (dx v2 [(.mp 1)]), .map (dp v3)] fun r1 h1=>r1=(ao r)∧h1=[.cells (dx v2 [(.mp 1)]), .map (dp v3)]:=by
 rw[yE]at J;refine dS 2 Tryz.func100 (by kernel_rfl) (by kernel_rfl) (agd rfl) ?_;obtain⟨v4,h1,J⟩:=au J;refine ax ak [[],[],[(16,cL (Qt N ([v1.aS,v1.bI]) v4 h1)),(19,oL v4 cK)]] ?_;refine dj 15 (cm v4) (by kernel_rfl) fun h2=> ?_;have h3:=cP cK h2;refine c9 ak 1 [] [0,5,15,16,17] 4 (fun((v5,v6,v9):Nat×(agU bf)×(agU (agV×Bool)))=>⟨52,[(0,(.ptr 0 0)),(5,(.mp 3)),(15,(.d (.sl (cm v4)))),(16,(ao (v4.length:Int))),(17,(ao (v5:Int)))],[.cells (dx v2 [(.mp 1)]), .map (dp v3), .cells (cp v1).cells, .map (xx v9)]⟩) (fun((v5,v6,v9):Nat×(agU bf)×(agU (agV×Bool)))=>v4.drop v5=v6∧vl N v3 v2 v6 v5 v9=some r) (fun((v5,v6,v9):Nat×(agU bf)×(agU (agV×Bool)))=>v6.length) (0,v4,[]) ⟨rfl,J⟩ ?_;rintro⟨v5,v6,v9⟩ ⟨h4,J⟩ f1 ba;cases v6 with
 |nil=>
  rw[vl]at J;cases J;exact bH ak [[],[(0,bF (ck h4))],[]]
 |cons v7 v8=>
  rw[vl]at J;obtain⟨v10,h5,J⟩:=au J;refine ax ak [[],[(0,bT (cf h4))],[(1,oE (rB (bS h4)))],[(7,cL (Dm N v7.aq v10 h5))]] ?_;refine bc J (fun h6 J=> ?_) fun h6 J=> ?_
  ·refine ax ak [[(0,bF (dH h6))]] ?_;obtain⟨v11,h8,J⟩:=au J;refine dn ak [(26,(aU v11))] [.cells (dx v2 [(.mp 1)]), .map (dp v3), .cells (cp v1).cells, .map (xx v9), .cells (pM v7).cells] ?_ ?_
   ·refine bc h8 (fun h7 h8=> ?_) fun h7 h8=> ?_
    ·cases h8;exact⟨so (os [15,18,21,24,27,30,33,36,40] (bT h7) [(11,⟨_,_, .eq (UN false v9 v7.aq)⟩)]),by kernel_rfl⟩
    cases h8;exact⟨so (os [15,18,21,24,27,30,33,36,40] (bF h7) [(11,⟨_,_, .eq (UN false v9 v7.aq)⟩),(35,⟨_,_, .eq (BE false v3 v7.aq)⟩)]),by kernel_rfl⟩
   refine bc J (fun h9 J=> ?_) fun h9 J=> ?_
   ·cases J;exact bH ak [[(0,bT h9)],[]]
   obtain⟨aJ,J⟩:=dO J;obtain⟨v12,bQ,J⟩:=au J;refine ax ak [[(0,bF h9)],[(10,⟨_,_, .sd (o:= .none) (abr aJ)⟩)],[(10,⟨_,_, .rq (cb:=[(.ptr 0 0),(bY v7.ep)]) (h:=[.cells (dx v2 [(.mp 1)]), .map (dp v3), .cells (cp v1).cells, .map (xx ((v7.aq,true)::v9)), .cells (pM v7).cells]) (l:=[0,1]) (by kernel_rfl) (by kernel_rfl) (by kernel_rfl) (by kernel_rfl) (KX N v7.ep v2 v3 v12 bQ)⟩)],[]] ?_;refine bc J (fun cl J=> ?_) fun cl J=> ?_
   ·cases J;exact bH ak [[(0,bT cl)],[]]
   exact cU ak ba (v5+1,v8,((v7.aq,true)::v9)) [[(0,bF cl)],[(2,oq (cx h4 rfl h3))]] ⟨ct h4,J⟩
  cases J;exact bH ak [[(0,bT (dK h6))],[]]
end Go.Proofs.YtphmhnabilhbgaaGreatDoor
