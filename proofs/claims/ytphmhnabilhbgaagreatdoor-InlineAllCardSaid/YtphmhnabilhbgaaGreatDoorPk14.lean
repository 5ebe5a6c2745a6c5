/-
  Part 14 of the proof: PQ8.
-/
import Derived.Test.YtphmhnabilhbgaaGreatDoorPk13
namespace Go.Proofs.YtphmhnabilhbgaaGreatDoor
open Go.RowKit
set_option maxRecDepth 100000
set_option maxHeartbeats 0
set_option linter.unusedVariables false
def cf4(v:aq)(r:aiE AV):aiE AV:=(ak v.aX)::(bw v.ao)::(bu v.db.xN)::(bu v.db.xD)::(ak v.aw.ck)::(ak v.aw.cq)::(ak v.aw.cJ)::(ak v.aw.cH)::(ak v.aw.cK)::(bu v.aK.xK)::(.d (.sl (bP v.aK.xL)))::(.d (.sl (bJ v.xIdx)))::r
def se(N:Nat)(v1:aQ):aiE aiF→Nat→Int→aiG (Int×Int)
 |[],_,_=>
  some ((0:Int),(0:Int))
 |v21::di,bK,cS=>
  Option.bind (z6 N v1 v21) fun v24=>
  bif v24.2.2 then
   bif (decide (((bK:Int)).toNat≤v1.cl.length))then
   Option.bind (oz N ((v1.cl.take ((bK:Int)).toNat).drop 0) v21) fun eC=>
   bif eC then
    some (cS,(8:Int))
   else
    (fun vY=>se N v1 di (bK+1) vY) (aV (cS+(1:Int)))
   else none
  else
   some (cS,(9:Int))
def qL(N:Nat)(v1:aQ):aiE aG→Nat→(aiE aiF)→Int→aiG (Int×Int)
 |[],_,_,aT=>
  se N v1 v1.cl 0 aT
 |aP::aW,aE,aH,aT=>
  Option.bind (De N v1 (aE:Int) aH) fun mi=>
  bif (mi !=(0:Int))then
   some (aT,mi)
  else
   bif (Nat.ble ((aH.length+1)*16) 140737488355328)then
   (fun lC vH=>qL N v1 aW (aE+1) lC vH) (aH++[aP.ao]) (aV (aT+(1:Int)))
   else none
def qz(N:Nat)(v1:aQ):aiE bX→Nat→(aiE aiF)→Int→aiG (Int×Int)
 |[],_,v11,v12=>
  qL N v1 v1.ay 0 v11 v12
 |v9::v10,v7,v11,v12=>
  Option.bind (D6 N v9 v1.ba v11) fun tB=>
  bif (tB !=(0:Int))then
   some (v12,tB)
  else
   bif (Nat.ble ((v11.length+1)*16) 140737488355328)then
   (fun fI qA=>qz N v1 v10 (v7+1) fI qA) (v11++[v9.ao]) (aV (v12+(1:Int)))
   else none
def uD(N:Nat)(v1:aQ):aiE cf→Nat→aiG (Int×Int)
 |[],_=>
  bif (Nat.ble ((0+v1.ba.length)*16) 140737488355328)then
  qz N v1 v1.a8 0 v1.ba (2:Int)
  else none
 |v5::v6,v3=>
  Option.bind (vn N v5.aK v1.ba) fun v28=>
  bif (v28 !=(0:Int))then
   some ((1:Int),v28)
  else
   (uD N v1 v6 (v3+1))
def vg(N:Nat)(v1:aQ):aiG (Int×Int):=
 Option.bind (Gc N v1) fun v2=>
 bif (v2 !=(0:Int))then
  some ((0:Int),v2)
 else
  uD N v1 v1.cm 0
theorem MN(N:Nat)(v1:aQ)(r:Int×Int)(J:vg N v1=some r):bg Tryz.prog 33 [(aS v1)] (·=(.cb [(ak r.1),(ak r.2)])):=by
 rw[vg]at J;refine bD Tryz.func33 (by kernel_rfl) (by kernel_rfl) ?_;obtain⟨v2,h1,J⟩:=ar J;refine au af [[],[(4,cL (aan N v1 v2 h1))],[]] ?_;refine bc J (fun h2 J=> ?_) fun h2 J=> ?_
 ·cases J;exact wr af [[(0,bT h2)],[]]
 refine au af [[(0,bF h2)],[]] ?_;refine dX 0 1 (bG v1.cm) (by kernel_rfl) fun h3=> ?_;have h4:=cd eO h3;refine cx af 1 [] [1,5] 1 (fun((v3,v4):Nat×(aiE cf))=>⟨136,[(1,(.ptr 0 0)),(5,(ak (v3:Int)))],[.cells (aS v1).cells]⟩) (fun((v3,v4):Nat×(aiE cf))=>v1.cm.drop v3=v4∧uD N v1 v4 v3=some r) (fun((v3,v4):Nat×(aiE cf))=>v4.length) (0,v1.cm) ⟨rfl,J⟩ ?_;rintro⟨v3,v4⟩ ⟨h5,J⟩ f1 aN;cases v4 with
 |nil=>
  rw[uD]at J;obtain⟨h6,J⟩:=dg J;refine au af [[(10,oL v1.cm eO)],[(0,bF (bO h5))],[(10,⟨_,_, .app (xs:=[]) (ys:=aB v1.ba) (zs:=aB v1.ba) (n:=v1.ba.length) rfl (fun _ hc=>absurd hc aiw) jq (by rw[(show([]:aiE (aiE D)).length=0 from rfl),(bC (l:=v1.ba))];exact(de h6 (by decide)).1) (by rw[(show([]:aiE (aiE D)).length=0 from rfl),(bC (l:=v1.ba))];exact(de h6 (by decide)).2) rfl (by first|(rw[(show([]:aiE (aiE D)).length=0 from rfl),(bC (l:=v1.ba))];done)|(rw[(show([]:aiE (aiE D)).length=0 from rfl),(bC (l:=v1.ba))];rfl)|(rw[(show([]:aiE (aiE D)).length=0 from rfl),(bC (l:=v1.ba)),ahQ];done)|(rw[(show([]:aiE (aiE D)).length=0 from rfl),(bC (l:=v1.ba)),ahQ];rfl)|(rw[(show([]:aiE (aiE D)).length=0 from rfl),(bC (l:=v1.ba)),ah9]))⟩)],[],[]] ?_;refine dX 0 2 (bI v1.a8) (by kernel_rfl) fun h7=> ?_;have h8:=cd ee h7;refine cx af 2 [] [1,7,8,9] 2 (fun((v7,v8,v11,v12):Nat×(aiE bX)×(aiE aiF)×Int)=>⟨136,[(1,(.ptr 0 0)),(7,(.own 1 (aB v11))),(8,(ak v12)),(9,(ak (v7:Int)))],[.cells (aS v1).cells, .front 9 1 v11.length]⟩) (fun((v7,v8,v11,v12):Nat×(aiE bX)×(aiE aiF)×Int)=>v1.a8.drop v7=v8∧qz N v1 v8 v7 v11 v12=some r) (fun((v7,v8,v11,v12):Nat×(aiE bX)×(aiE aiF)×Int)=>v8.length) (0,v1.a8,v1.ba,(2:Int)) ⟨rfl,J⟩ ?_
  rintro⟨v7,v8,v11,v12⟩ ⟨h9,J⟩ f2 dU;cases v8 with
  |nil=>
   rw[qz]at J;refine au af [[(10,oL v1.a8 ee)],[(0,bF (bO h9))],[]] ?_;refine dX 0 3 (b8 v1.ay) (by kernel_rfl) fun aA=> ?_;have a7:=cd du aA;refine cx af 3 [] [1,7,8,11] 2 (fun((aE,aC,aH,aT):Nat×(aiE aG)×(aiE aiF)×Int)=>⟨136,[(1,(.ptr 0 0)),(7,(.own 1 (aB aH))),(8,(ak aT)),(11,(ak (aE:Int)))],[.cells (aS v1).cells, .front 9 1 aH.length]⟩) (fun((aE,aC,aH,aT):Nat×(aiE aG)×(aiE aiF)×Int)=>v1.ay.drop aE=aC∧qL N v1 aC aE aH aT=some r) (fun((aE,aC,aH,aT):Nat×(aiE aG)×(aiE aiF)×Int)=>aC.length) (0,v1.ay,v11,v12) ⟨rfl,J⟩ ?_;rintro⟨aE,aC,aH,aT⟩ ⟨bk,J⟩ f3 jB;cases aC with
   |nil=>
    rw[qL]at J;refine au af [[(10,oL v1.ay du)],[(0,bF (bO bk))],[]] ?_;refine dX 0 4 (aB v1.cl) (by kernel_rfl) fun cg=> ?_;have bm:=cd bC cg;refine cx af 4 [] [1,8,13] 2 (fun((bK,v20,cS):Nat×(aiE aiF)×Int)=>⟨136,[(1,(.ptr 0 0)),(8,(ak cS)),(13,(ak (bK:Int)))],[.cells (aS v1).cells, .front 9 1 aH.length]⟩) (fun((bK,v20,cS):Nat×(aiE aiF)×Int)=>v1.cl.drop bK=v20∧se N v1 v20 bK cS=some r) (fun((bK,v20,cS):Nat×(aiE aiF)×Int)=>v20.length) (0,v1.cl,aT) ⟨rfl,J⟩ ?_;rintro⟨bK,v20,cS⟩ ⟨bQ,J⟩ f4 nQ;cases v20 with
    |nil=>
     rw[se]at J;cases J;exact wr af [[(10,oL v1.cl bC)],[(0,bF (bO bQ))],[]]
    |cons v21 di=>
     rw[se]at J;obtain⟨v24,bo,J⟩:=ar J;refine au af [[(10,oL v1.cl bC)],[(0,bT (bN bQ))],[(13,oE (kK (aU bQ))),(19,cL (LG N v1 v21 v24 bo))],[]] ?_;refine bc J (fun cC J=> ?_) fun cC J=> ?_
     ·obtain⟨bW,J⟩:=dg J;obtain⟨eC,dh,J⟩:=ar J;refine au af [[(0,bF (cG cC))],[(10,⟨_,_, .sub (xs:=aB v1.cl) (lo:=(0:Int)) (hi:=(bK:Int)) (by decide) (Nat.zero_le _) (of_decide_eq_true (aix (Int.natCast_nonneg _))) (by rw[bC];exact(of_decide_eq_true bW)) jq KG⟩),(22,oE (kK (aU bQ))),(28,cL (vG N ((v1.cl.take ((bK:Int)).toNat).drop 0) v21 eC dh))]] ?_;refine bc J (fun dH J=> ?_) fun dH J=> ?_
      ·cases J;exact wr af [[(0,bT dH)],[]]
      exact ct af nQ (bK+1,di,(aV (cS+(1:Int)))) [[(0,bF dH)],[],[(5,oq (bV bQ rfl bm))]] ⟨bR bQ,J⟩
     cases J;exact wr af [[(0,bT (cU cC))],[]]
   |cons aP aW=>
    rw[qL]at J;obtain⟨mi,eJ,J⟩:=ar J;refine au af [[(10,oL v1.ay du)],[(0,bT (bN bk))],[(10,cL (WM N v1 (aE:Int) aH mi eJ))],[]] ?_;refine bc J (fun fk J=> ?_) fun fk J=> ?_
    ·cases J;exact wr af [[(0,bT fk)],[]]
    obtain⟨fg,J⟩:=dg J;exact ct af jB (aE+1,aW,(aH++[aP.ao]),(aV (aT+(1:Int)))) [[(0,bF fk)],[(13,oE (fW (aU bk))),(25,⟨_,_, .app (xs:=aB aH) (ys:=aB [aP.ao]) (zs:=aB (aH++[aP.ao])) (n:=(aH++[aP.ao]).length) bC.symm jq jq (by rw[(bC (l:=aH)),(bC (l:=[aP.ao]))];exact(de fg (by decide)).1) (by rw[(bC (l:=aH)),(bC (l:=[aP.ao]))];exact(de fg (by decide)).2) Aq (by first|(rw[(bC (l:=aH)),(bC (l:=[aP.ao]))];done)|(rw[(bC (l:=aH)),(bC (l:=[aP.ao]))];rfl)|(rw[(bC (l:=aH)),(bC (l:=[aP.ao])),ahQ];done)|(rw[(bC (l:=aH)),(bC (l:=[aP.ao])),ahQ];rfl)|(rw[(bC (l:=aH)),(bC (l:=[aP.ao])),ah9]))⟩)],[],[(5,oq (bV bk rfl a7))]] ⟨bR bk,J⟩
  |cons v9 v10=>
   rw[qz]at J;obtain⟨tB,eN,J⟩:=ar J;refine au af [[(10,oL v1.a8 ee)],[(0,bT (bN h9))],[(10,oE (jV (aU h9))),(25,cL (afl N v9 v1.ba v11 tB eN))],[]] ?_;refine bc J (fun fu J=> ?_) fun fu J=> ?_
   ·cases J;exact wr af [[(0,bT fu)],[]]
   obtain⟨hX,J⟩:=dg J;exact ct af dU (v7+1,v10,(v11++[v9.ao]),(aV (v12+(1:Int)))) [[(0,bF fu)],[(13,oE (jV (aU h9))),(25,⟨_,_, .app (xs:=aB v11) (ys:=aB [v9.ao]) (zs:=aB (v11++[v9.ao])) (n:=(v11++[v9.ao]).length) bC.symm jq jq (by rw[(bC (l:=v11)),(bC (l:=[v9.ao]))];exact(de hX (by decide)).1) (by rw[(bC (l:=v11)),(bC (l:=[v9.ao]))];exact(de hX (by decide)).2) Aq (by first|(rw[(bC (l:=v11)),(bC (l:=[v9.ao]))];done)|(rw[(bC (l:=v11)),(bC (l:=[v9.ao]))];rfl)|(rw[(bC (l:=v11)),(bC (l:=[v9.ao])),ahQ];done)|(rw[(bC (l:=v11)),(bC (l:=[v9.ao])),ahQ];rfl)|(rw[(bC (l:=v11)),(bC (l:=[v9.ao])),ah9]))⟩)],[],[(5,oq (bV h9 rfl h8))]] ⟨bR h9,J⟩
 |cons v5 v6=>
  rw[uD]at J;obtain⟨v28,iW,J⟩:=ar J;refine au af [[(10,oL v1.cm eO)],[(0,bT (bN h5))],[(10,oE (sX (aU h5))),(25,cL (KD N v5.aK v1.ba v28 iW))],[]] ?_;refine bc J (fun lI J=> ?_) fun lI J=> ?_
  ·cases J;exact wr af [[(0,bT lI)],[]]
  exact ct af aN (v3+1,v6) [[(0,bF lI)],[(5,oq (bV h5 rfl h4))]] ⟨bR h5,J⟩
def xJ(N:Nat)(v2:aiF):aiE aG→Nat→aiG Int
 |[],_=>
  some (-1:Int)
 |v5::v6,v3=>
  bif (bL v5.ao==bL v2)then
   some (v3:Int)
  else
   (xJ N v2 v6 (v3+1))
def zd(N:Nat)(v1:aQ)(v2:aiF):aiG Int:=
 xJ N v2 v1.ay 0
theorem MI(N:Nat)(v1:aQ)(v2:aiF)(r:Int)(J:zd N v1 v2=some r):bg Tryz.prog 31 [(aS v1),(bw v2)] (·=(ak r)):=by
 rw[zd]at J;refine bD Tryz.func31 (by kernel_rfl) (by kernel_rfl) ?_;refine au af [[],[]] ?_;refine dX 0 3 (b8 v1.ay) (by kernel_rfl) fun h1=> ?_;have h2:=cd du h1;refine cx af 1 [] [1,2,5] 1 (fun((v3,v4):Nat×(aiE aG))=>⟨22,[(1,(bw v2)),(2,(.ptr 0 0)),(5,(ak (v3:Int)))],[.cells (aS v1).cells]⟩) (fun((v3,v4):Nat×(aiE aG))=>v1.ay.drop v3=v4∧xJ N v2 v4 v3=some r) (fun((v3,v4):Nat×(aiE aG))=>v4.length) (0,v1.ay) ⟨rfl,J⟩ ?_;rintro⟨v3,v4⟩ ⟨h3,J⟩ f1 aN;cases v4 with
 |nil=>
  rw[xJ]at J;cases J;exact wr af [[(10,oL v1.ay du)],[(0,bF (bO h3))],[]]
 |cons v5 v6=>
  rw[xJ]at J;refine au af [[(10,oL v1.ay du)],[(0,bT (bN h3))],[(10,oE (fW (aU h3)))]] ?_;refine bc J (fun h4 J=> ?_) fun h4 J=> ?_
  ·cases J;exact wr af [[(0,bT h4)],[]]
  exact ct af aN (v3+1,v6) [[(0,bF h4)],[(5,oq (bV h3 rfl h2))]] ⟨bR h3,J⟩
def tf(N:Nat):aiE az→Nat→Int→aiG Int
 |[],_,v7=>
  some v7
 |v5::v6,v3,v7=>
  bif (bL v5.bn==bL (bs []))then
   (fun b6=>tf N v6 (v3+1) b6) v7
  else
   (fun b6=>tf N v6 (v3+1) b6) (aV (v7+(1:Int)))
def xI(N:Nat)(SY:aq→aiG Int):aiE aq→Nat→Int→aiG Int
 |[],_,v12=>
  some v12
 |v10::v11,v8,v12=>
  Option.bind (SY v10) fun aE=>
  (fun fI=>xI N SY v11 (v8+1) fI) (aV (v12+aE))
def sM(N:Nat):Nat→aq→aiG Int
 |0,_=>none
 |d+1,v1=>
  Option.bind (bif (v1.aX==(1:Int))then some true else some (v1.aX==(2:Int))) fun v2=>
  bif v2 then
   some (0:Int)
  else
   bif (v1.aX==(3:Int))then
    tf N v1.xIdx 0 (1:Int)
   else
    xI N (sM N d) v1.aM 0 (1:Int)
def KU(N:Nat)(v1:aq):aiG Int:=sM N N v1
theorem Yx(N:Nat):∀d:Nat,(∀(v1:aq)(r:Int),sM N d v1=some r→bg Tryz.prog 44 [(aF v1)] (·=(ak r))):=by
 intro d
 induction d with
 |zero=>intro v1 r J;rw[sM]at J;cases J
 |succ d ih=>
  have ags:=ih;intro v1 r J;rw[sM]at J;refine bD Tryz.func44 (by kernel_rfl) (by kernel_rfl) ?_;refine au af [[]] ?_;obtain⟨v2,h2,J⟩:=ar J;refine cM af [(13,(aJ v2))] [.cells (aF v1).cells] ?_ ?_
  ·refine bc h2 (fun h1 h2=> ?_) fun h1 h2=> ?_
   ·cases h2;exact⟨so (os [12,15,18,22] (bT h1) []),by kernel_rfl⟩
   cases h2;exact⟨so (os [12,15,18,22] (bF h1) []),by kernel_rfl⟩
  refine bc J (fun h3 J=> ?_) fun h3 J=> ?_
  ·cases J;exact wr af [[(0,bT h3)],[]]
  refine au af [[(0,bF h3)],[],[]] ?_;refine bc J (fun h4 J=> ?_) fun h4 J=> ?_
  ·refine au af [[(0,bT h4)],[]] ?_;refine dX 0 11 (bJ v1.xIdx) (by kernel_rfl) fun h5=> ?_;have h6:=cd cn h5;refine cx af 1 [] [1,3,4] 1 (fun((v3,v4,v7):Nat×(aiE az)×Int)=>⟨50,[(1,(.ptr 0 0)),(3,(ak v7)),(4,(ak (v3:Int)))],[.cells (aF v1).cells]⟩) (fun((v3,v4,v7):Nat×(aiE az)×Int)=>v1.xIdx.drop v3=v4∧tf N v4 v3 v7=some r) (fun((v3,v4,v7):Nat×(aiE az)×Int)=>v4.length) (0,v1.xIdx,(1:Int)) ⟨rfl,J⟩ ?_;rintro⟨v3,v4,v7⟩ ⟨h7,J⟩ f1 aN;cases v4 with
   |nil=>
    rw[tf]at J;cases J;exact wr af [[(10,oL v1.xIdx cn)],[(0,bF (bO h7))],[]]
   |cons v5 v6=>
    rw[tf]at J;refine au af [[(10,oL v1.xIdx cn)],[(0,bT (bN h7))],[(10,oE (eH (aU h7)))]] ?_;refine bc J (fun h8 J=> ?_) fun h8 J=> ?_
    ·exact ct af aN (v3+1,v6,v7) [[(0,bF (cG h8))],[(5,oq (bV h7 rfl h6))]] ⟨bR h7,J⟩
    exact ct af aN (v3+1,v6,(aV (v7+(1:Int)))) [[(0,bT (cU h8))],[],[(5,oq (bV h7 rfl h6))]] ⟨bR h7,J⟩
  refine au af [[(0,bF h4)],[]] ?_;refine dX 0 12 (cT v1.aM) (by kernel_rfl) fun h9=> ?_;have aA:=cd b7 h9;refine cx af 2 [] [1,3,5] 1 (fun((v8,v9,v12):Nat×(aiE aq)×Int)=>⟨50,[(1,(.ptr 0 0)),(3,(ak v12)),(5,(ak (v8:Int)))],[.cells (aF v1).cells]⟩) (fun((v8,v9,v12):Nat×(aiE aq)×Int)=>v1.aM.drop v8=v9∧xI N (sM N d) v9 v8 v12=some r) (fun((v8,v9,v12):Nat×(aiE aq)×Int)=>v9.length) (0,v1.aM,(1:Int)) ⟨rfl,J⟩ ?_;rintro⟨v8,v9,v12⟩ ⟨a7,J⟩ f2 dU;cases v9 with
  |nil=>
   rw[xI]at J;cases J;exact wr af [[(10,oL v1.aM b7)],[(0,bF (bO a7))],[]]
  |cons v10 v11=>
   rw[xI]at J;obtain⟨aE,bk,J⟩:=ar J;exact ct af dU (v8+1,v11,(aV (v12+aE))) [[(10,oL v1.aM b7)],[(0,bT (bN a7))],[(13,oE (ik (aU a7))),(19,cL (ags v10 aE bk))],[(5,oq (bV a7 rfl aA))]] ⟨bR a7,J⟩
theorem acW(N:Nat)(v1:aq)(r:Int)(J:KU N v1=some r):bg Tryz.prog 44 [(aF v1)] (·=(ak r)):=(Yx N N) v1 r J
def vJ(N:Nat)(BL:aq→aiF→aiG Bool)(v2:aiF):aiE aq→Nat→aiG Bool
 |[],_=>
  some true
 |v9::v10,v7=>
  Option.bind (BL v9 v2) fun v11=>
  bif v11 then
   (vJ N BL v2 v10 (v7+1))
  else
   some false
def sm(N:Nat)(BL:aq→aiF→aiG Bool)(v2:aiF)(v1:aq):aiE az→Nat→aiG Bool
 |[],_=>
  vJ N BL v2 v1.aM 0
 |v5::v6,v3=>
  Option.bind (bif (bL v5.bn==bL v2)then some true else(bif (v1.aX==(3:Int))then(bif (bL v1.ao==bL v2)then some (!(bL v5.bn==bL (bs [])))else some false)else some false)) fun v12=>
  bif v12 then
   some false
  else
   (sm N BL v2 v1 v6 (v3+1))
def qC(N:Nat):Nat→aq→aiF→aiG Bool
 |0,_,_=>none
 |d+1,v1,v2=>
  sm N (qC N d) v2 v1 v1.xIdx 0
def L2(N:Nat)(v1:aq)(v2:aiF):aiG Bool:=qC N N v1 v2
theorem ago(N:Nat):∀d:Nat,(∀(v1:aq)(v2:aiF)(r:Bool),qC N d v1 v2=some r→bg Tryz.prog 38 [(aF v1),(bw v2)] (·=(aJ r))):=by
 intro d
 induction d with
 |zero=>intro v1 v2 r J;rw[qC]at J;cases J
 |succ d ih=>
  have agD:=ih;intro v1 v2 r J;rw[qC]at J;refine bD Tryz.func38 (by kernel_rfl) (by kernel_rfl) ?_;refine au af [[],[]] ?_;refine dX 0 11 (bJ v1.xIdx) (by kernel_rfl) fun h1=> ?_;have h2:=cd cn h1;refine cx af 1 [] [1,2,5] 1 (fun((v3,v4):Nat×(aiE az))=>⟨57,[(1,(bw v2)),(2,(.ptr 0 0)),(5,(ak (v3:Int)))],[.cells (aF v1).cells]⟩) (fun((v3,v4):Nat×(aiE az))=>v1.xIdx.drop v3=v4∧sm N (qC N d) v2 v1 v4 v3=some r) (fun((v3,v4):Nat×(aiE az))=>v4.length) (0,v1.xIdx) ⟨rfl,J⟩ ?_;rintro⟨v3,v4⟩ ⟨h3,J⟩ f1 aN;cases v4 with
  |nil=>
   rw[sm]at J;refine au af [[(10,oL v1.xIdx cn)],[(0,bF (bO h3))],[]] ?_;refine dX 0 12 (cT v1.aM) (by kernel_rfl) fun h4=> ?_;have h5:=cd b7 h4;refine cx af 2 [] [1,2,6] 1 (fun((v7,v8):Nat×(aiE aq))=>⟨57,[(1,(bw v2)),(2,(.ptr 0 0)),(6,(ak (v7:Int)))],[.cells (aF v1).cells]⟩) (fun((v7,v8):Nat×(aiE aq))=>v1.aM.drop v7=v8∧vJ N (qC N d) v2 v8 v7=some r) (fun((v7,v8):Nat×(aiE aq))=>v8.length) (0,v1.aM) ⟨rfl,J⟩ ?_;rintro⟨v7,v8⟩ ⟨h6,J⟩ f2 dU;cases v8 with
   |nil=>
    rw[vJ]at J;cases J;exact wr af [[(10,oL v1.aM b7)],[(0,bF (bO h6))],[]]
   |cons v9 v10=>
    rw[vJ]at J;obtain⟨v11,h7,J⟩:=ar J;refine au af [[(10,oL v1.aM b7)],[(0,bT (bN h6))],[(10,oE (ik (aU h6))),(19,cL (agD v9 v2 v11 h7))]] ?_;refine bc J (fun h8 J=> ?_) fun h8 J=> ?_
    ·exact ct af dU (v7+1,v10) [[(0,bF (cG h8))],[(5,oq (bV h6 rfl h5))]] ⟨bR h6,J⟩
    cases J;exact wr af [[(0,bT (cU h8))],[]]
  |cons v5 v6=>
   rw[sm]at J;refine au af [[(10,oL v1.xIdx cn)],[(0,bT (bN h3))]] ?_;obtain⟨v12,bk,J⟩:=ar J;refine cM af [(41,(aJ v12))] [.cells (aF v1).cells] ?_ ?_
   ·refine bc bk (fun h9 bk=> ?_) fun h9 bk=> ?_
    ·cases bk;exact⟨so (os [27,30,33,36,51,54,78,82] (bT h9) (os [39,42,45,48,57,60,63,66,69,72,75] uN [(10,oE (eH (aU h3)))])),by kernel_rfl⟩
    refine bc bk (fun aA bk=> ?_) fun aA bk=> ?_
    ·refine bc bk (fun a7 bk=> ?_) fun a7 bk=> ?_
     ·cases bk;exact⟨so (os [10,67] (oE (eH (aU h3))) (os [27,30,33,36,51,54,78,82] (bF h9) (os [39,42,45,48,52] (bT aA) (os [57,60,63,66,69,72,75,79] (bT a7) [])))),by kernel_rfl⟩
     cases bk;exact⟨so (os [27,30,33,36,51,54,78,82] (bF h9) (os [39,42,45,48,52] (bT aA) (os [57,60,63,66,69,72,75,79] (bF a7) [(10,oE (eH (aU h3)))]))),by kernel_rfl⟩
    cases bk;exact⟨so (os [27,30,33,36,51,54,78,82] (bF h9) (os [39,42,45,48,52] (bF aA) (os [57,60,63,66,69,72,75,79] (bF rfl) [(10,oE (eH (aU h3)))]))),by kernel_rfl⟩
   refine bc J (fun cg J=> ?_) fun cg J=> ?_
   ·cases J;exact wr af [[(0,bT cg)],[]]
   exact ct af aN (v3+1,v6) [[(0,bF cg)],[(5,oq (bV h3 rfl h2))]] ⟨bR h3,J⟩
theorem ab0(N:Nat)(v1:aq)(v2:aiF)(r:Bool)(J:L2 N v1 v2=some r):bg Tryz.prog 38 [(aF v1),(bw v2)] (·=(aJ r)):=(ago N N) v1 v2 r J
def x8(N:Nat)(v2:aiF):aiE aG→Nat→aiG Int
 |[],_=>
  some (0:Int)
 |v8::v9,v6=>
  Option.bind (L2 N v8.bx v2) fun v10=>
  bif v10 then
   (x8 N v2 v9 (v6+1))
  else
   some (1:Int)
def Ea(N:Nat)(v1:aQ)(v2:aiF):aiG Int:=
 Option.bind (vg N v1) fun v3=>
 bif (v3.2 !=(0:Int))then
  some v3.2
 else
  Option.bind (zd N v1 v2) fun v4=>
  bif (decide (v4<(0:Int)))then
   some (9:Int)
  else
   bif (decide ((0:Int)≤v4))then
   Option.bind (v1.ay[(v4).toNat]?) fun v5=>
   bif (v5.cP !=(0:Int))then
    some (1:Int)
   else
    x8 N v2 v1.ay 0
   else none
theorem aex(N:Nat)(v1:aQ)(v2:aiF)(r:Int)(J:Ea N v1 v2=some r):bg Tryz.prog 11 [(aS v1),(bw v2)] (·=(ak r)):=by
 rw[Ea]at J;refine bD Tryz.func11 (by kernel_rfl) (by kernel_rfl) ?_;obtain⟨v3,h1,J⟩:=ar J;refine au af [[],[(4,cL (MN N v1 v3 h1))],[]] ?_;refine bc J (fun h2 J=> ?_) fun h2 J=> ?_
 ·cases J;exact wr af [[(0,bT h2)],[]]
 obtain⟨v4,h3,J⟩:=ar J;refine au af [[(0,bF h2)],[(7,cL (MI N v1 v2 v4 h3))],[]] ?_;refine bc J (fun h4 J=> ?_) fun h4 J=> ?_
 ·cases J;exact wr af [[(0,bT h4)],[]]
 obtain⟨h6,J⟩:=dg J;obtain⟨v5,h5,J⟩:=ar J;refine au af [[(0,bF h4)],[(10,⟨_,_, .el (xs:=b8 v1.ay) (i:=v4) (of_decide_eq_true h6) (fW h5)⟩)]] ?_;refine bc J (fun h7 J=> ?_) fun h7 J=> ?_
 ·cases J;exact wr af [[(0,bT h7)],[]]
 refine au af [[(0,bF h7)],[]] ?_;refine dX 0 3 (b8 v1.ay) (by kernel_rfl) fun h8=> ?_;have h9:=cd du h8;refine cx af 1 [] [1,2,8] 1 (fun((v6,v7):Nat×(aiE aG))=>⟨45,[(1,(bw v2)),(2,(.ptr 0 0)),(8,(ak (v6:Int)))],[.cells (aS v1).cells]⟩) (fun((v6,v7):Nat×(aiE aG))=>v1.ay.drop v6=v7∧x8 N v2 v7 v6=some r) (fun((v6,v7):Nat×(aiE aG))=>v7.length) (0,v1.ay) ⟨rfl,J⟩ ?_;rintro⟨v6,v7⟩ ⟨aA,J⟩ f1 aN;cases v7 with
 |nil=>
  rw[x8]at J;cases J;exact wr af [[(10,oL v1.ay du)],[(0,bF (bO aA))],[]]
 |cons v8 v9=>
  rw[x8]at J;obtain⟨v10,a7,J⟩:=ar J;refine au af [[(10,oL v1.ay du)],[(0,bT (bN aA))],[(10,oE (fW (aU aA))),(22,cL (ab0 N v8.bx v2 v10 a7))]] ?_;refine bc J (fun bk J=> ?_) fun bk J=> ?_
  ·exact ct af aN (v6+1,v9) [[(0,bF (cG bk))],[(5,oq (bV aA rfl h9))]] ⟨bR aA,J⟩
  cases J;exact wr af [[(0,bT (cU bk))],[]]
def xX(N:Nat)(v1:ax):aiG Int:=
 Option.bind (qW N v1) fun v2=>
 bif v2 then
  some (0:Int)
 else
  some (1:Int)
theorem FU(N:Nat)(v1:ax)(r:Int)(J:xX N v1=some r):bg Tryz.prog 172 [(b9 v1)] (·=(ak r)):=by
 rw[xX]at J;refine bD Tryz.func172 (by kernel_rfl) (by kernel_rfl) ?_;obtain⟨v2,h1,J⟩:=ar J;refine au af [[],[(4,cL (Am N v1 v2 h1))]] ?_;refine bc J (fun h2 J=> ?_) fun h2 J=> ?_
 ·cases J;exact wr af [[(0,bF (cG h2))],[]]
 cases J;exact wr af [[(0,bT (cU h2))],[]]
def y5(N:Nat)(v1:Int64)(v2:Int64):aiG (Int64×Bool):=
 Option.bind (bif (v1.toInt==(0:Int))then some true else some (v2.toInt==(0:Int))) fun v3=>
 bif v3 then
  some ((0:Int64),true)
 else
  Option.bind (bif (v1.toInt==(-1:Int))then(bif (v2.toInt==(-9223372036854775808:Int))then some true else(bif (v2.toInt==(-1:Int))then(bif (v1.toInt==(-9223372036854775808:Int))then some true else bif (v2.toInt !=(0:Int))then
  some ((Int64.ofInt (((v1*v2).toInt).tdiv v2.toInt)).toInt !=v1.toInt)
  else none)else bif (v2.toInt !=(0:Int))then
  some ((Int64.ofInt (((v1*v2).toInt).tdiv v2.toInt)).toInt !=v1.toInt)
  else none))else(bif (v2.toInt==(-1:Int))then(bif (v1.toInt==(-9223372036854775808:Int))then some true else bif (v2.toInt !=(0:Int))then
  some ((Int64.ofInt (((v1*v2).toInt).tdiv v2.toInt)).toInt !=v1.toInt)
  else none)else bif (v2.toInt !=(0:Int))then
  some ((Int64.ofInt (((v1*v2).toInt).tdiv v2.toInt)).toInt !=v1.toInt)
  else none)) fun v4=>
  bif v4 then
   some ((0:Int64),false)
  else
   some ((v1*v2),true)
theorem Vj(N:Nat)(v1:Int64)(v2:Int64)(r:Int64×Bool)(J:y5 N v1 v2=some r):bg Tryz.prog 173 [(bu v1),(bu v2)] (·=(.cb [(bu r.1),(aJ r.2)])):=by
 rw[y5]at J;refine bD Tryz.func173 (by kernel_rfl) (by kernel_rfl) ?_;refine au af [[]] ?_;obtain⟨v3,h2,J⟩:=ar J;refine cM af [(12,(aJ v3))] [] ?_ ?_
 ·refine bc h2 (fun h1 h2=> ?_) fun h1 h2=> ?_
  ·cases h2;exact⟨so (os [9,12,16] (bT h1) []),by kernel_rfl⟩
  cases h2;exact⟨so (os [9,12,16] (bF h1) []),by kernel_rfl⟩
 refine bc J (fun h3 J=> ?_) fun h3 J=> ?_
 ·cases J;exact wr af [[(0,bT h3)],[]]
 refine au af [[(0,bF h3)],[(8,⟨_,_, .eq (SV v1 v2)⟩)]] ?_;obtain⟨v4,bm,J⟩:=ar J;refine cM af [(36,(aJ v4))] [] ?_ ?_
 ·refine bc bm (fun h4 bm=> ?_) fun h4 bm=> ?_
  ·refine bc bm (fun h5 bm=> ?_) fun h5 bm=> ?_
   ·cases bm;exact⟨so (os [9,12,16] (bT h4) (os [21,24,27,36,40] (bT h5) (os [30,33] uN (os [45,48,51,54,57,61] (bT rfl) [])))),by kernel_rfl⟩
   refine bc bm (fun h6 bm=> ?_) fun h6 bm=> ?_
   ·refine bc bm (fun h7 bm=> ?_) fun h7 bm=> ?_
    ·cases bm;exact⟨so (os [9,12,16] (bT h4) (os [21,24,27,36,40] (bF h5) (os [30,33,37] (bT h6) (os [45,48,51,54,57,61] (bT h7) [])))),by kernel_rfl⟩
    obtain⟨h8,bm⟩:=dg bm;cases bm;exact⟨so (os [9,12,16] (bT h4) (os [21,24,27,36,40] (bF h5) (os [30,33,37] (bT h6) (os [45,48,51,54,57,61] (bF h7) [(52,⟨_,_, .nz (b:=v2.toInt) (bne_iff_ne.1 h8)⟩),(53,⟨_,_, .eq (nF (((v1*v2).toInt).tdiv v2.toInt))⟩)])))),by kernel_rfl⟩
   obtain⟨h9,bm⟩:=dg bm;cases bm;exact⟨so (os [9,12,16] (bT h4) (os [21,24,27,36,40] (bF h5) (os [30,33,37] (bF h6) (os [45,48,51,54,57,61] (bF rfl) [(52,⟨_,_, .nz (b:=v2.toInt) (bne_iff_ne.1 h9)⟩),(53,⟨_,_, .eq (nF (((v1*v2).toInt).tdiv v2.toInt))⟩)])))),by kernel_rfl⟩
  refine bc bm (fun aA bm=> ?_) fun aA bm=> ?_
  ·refine bc bm (fun a7 bm=> ?_) fun a7 bm=> ?_
   ·cases bm;exact⟨so (os [9,12,16] (bF h4) (os [21,24,27,36,40] (bF rfl) (os [30,33,37] (bT aA) (os [45,48,51,54,57,61] (bT a7) [])))),by kernel_rfl⟩
   obtain⟨bk,bm⟩:=dg bm;cases bm;exact⟨so (os [9,12,16] (bF h4) (os [21,24,27,36,40] (bF rfl) (os [30,33,37] (bT aA) (os [45,48,51,54,57,61] (bF a7) [(52,⟨_,_, .nz (b:=v2.toInt) (bne_iff_ne.1 bk)⟩),(53,⟨_,_, .eq (nF (((v1*v2).toInt).tdiv v2.toInt))⟩)])))),by kernel_rfl⟩
  obtain⟨cg,bm⟩:=dg bm;cases bm;exact⟨so (os [9,12,16] (bF h4) (os [21,24,27,36,40,45,48,51,54,57,61] (bF rfl) (os [30,33,37] (bF aA) [(52,⟨_,_, .nz (b:=v2.toInt) (bne_iff_ne.1 cg)⟩),(53,⟨_,_, .eq (nF (((v1*v2).toInt).tdiv v2.toInt))⟩)]))),by kernel_rfl⟩
 refine bc J (fun bQ J=> ?_) fun bQ J=> ?_
 ·cases J;exact wr af [[(0,bT bQ)],[]]
 cases J;exact wr af [[(0,bF bQ)],[]]
def sx(N:Nat)(v4:Int64×Bool)(v2:Int64):aiE aD→Nat→(aiE aD)→aiG (ax×Int)
 |[],_,v9=>
  some ((⟨v4.1,v9⟩:ax),(0:Int))
 |v7::v8,v5,v9=>
  Option.bind (y5 N v7.dd v2) fun v10=>
  bif v10.2 then
   bif (Nat.ble ((v9.length+1)*24) 140737488355328)then
   (fun b6=>sx N v4 v2 v8 (v5+1) b6) (v9++[(⟨v7.ao,v10.1⟩:aD)])
   else none
  else
   some (dS,(3:Int))
def BM(N:Nat)(v1:ax)(v2:Int64):aiG (ax×Int):=
 Option.bind (xX N v1) fun v3=>
 bif (v3 !=(0:Int))then
  some (dS,(1:Int))
 else
  bif (v2.toInt==(0:Int))then
   some (dS,(0:Int))
  else
   Option.bind (y5 N v1.xK v2) fun v4=>
   bif v4.2 then
    sx N v4 v2 v1.xL 0 []
   else
    some (dS,(3:Int))
theorem ZC(N:Nat)(v1:ax)(v2:Int64)(r:ax×Int)(J:BM N v1 v2=some r):bg Tryz.prog 139 [(b9 v1),(bu v2)] (·=(.cb [(b9 r.1),(ak r.2)])):=by
 rw[BM]at J;refine bD Tryz.func139 (by kernel_rfl) (by kernel_rfl) ?_;obtain⟨v3,h1,J⟩:=ar J;refine au af [[],[(4,cL (FU N v1 v3 h1))]] ?_;refine bc J (fun h2 J=> ?_) fun h2 J=> ?_
 ·cases J;exact wr af [[(0,bT h2)],[]]
 refine au af [[(0,bF h2)],[]] ?_;refine bc J (fun h3 J=> ?_) fun h3 J=> ?_
 ·cases J;exact wr af [[(0,bT h3)],[]]
 obtain⟨v4,h4,J⟩:=ar J;refine au af [[(0,bF h3)],[(10,cL (Vj N v1.xK v2 v4 h4))],[]] ?_;refine bc J (fun h5 J=> ?_) fun h5 J=> ?_
 ·refine au af [[(0,bF (cG h5))],[],[]] ?_;refine nu 2 1 92 2 [] (.inr (by kernel_rfl)) ?_;refine dX 0 1 (bP v1.xL) (by kernel_rfl) fun h6=> ?_;have h7:=cd bZ h6;refine jt af 1 [] [1,2,4,8,9] 4 [] [(1,1)] (fun((v5,v6,v9):Nat×(aiE aD)×(aiE aD))=>⟨66,[(1,(bu v2)),(2,(.ptr 0 0)),(4,(.ptr 1 0)),(8,(.ptr 2 0)),(9,(ak (v5:Int)))],[.cells (b9 v1).cells, .cells m7, .cells [(bu v4.1),(.own 3 (bP v9))], .front 92 2 v9.length]⟩) (fun((v5,v6,v9):Nat×(aiE aD)×(aiE aD))=>v1.xL.drop v5=v6∧sx N v4 v2 v6 v5 v9=some r) (fun((v5,v6,v9):Nat×(aiE aD)×(aiE aD))=>v6.length) (0,v1.xL,[]) ⟨rfl,J⟩ ?_;rintro⟨v5,v6,v9⟩ ⟨h8,J⟩ f1 aN;cases v6 with
  |nil=>
   rw[sx]at J;cases J;exact wr af [[(10,oL v1.xL bZ)],[(0,bF (bO h8))],[]]
  |cons v7 v8=>
   rw[sx]at J;obtain⟨v10,h9,J⟩:=ar J;refine au af [[(10,oL v1.xL bZ)],[(0,bT (bN h8))],[(10,oE (eY (aU h8))),(22,cL (Vj N v7.dd v2 v10 h9))],[]] ?_;refine bc J (fun aA J=> ?_) fun aA J=> ?_
   ·obtain⟨a7,J⟩:=dg J;exact gN af aN (v5+1,v8,(v9++[(⟨v7.ao,v10.1⟩:aD)])) [[(0,bF (cG aA))],[(16,oE (eY (aU h8))),(34,⟨_,_, .app (xs:=bP v9) (ys:=bP [(⟨v7.ao,v10.1⟩:aD)]) (zs:=bP (v9++[(⟨v7.ao,v10.1⟩:aD)])) (n:=(v9++[(⟨v7.ao,v10.1⟩:aD)]).length) bZ.symm mm mm (by rw[(bZ (l:=v9)),(bZ (l:=[(⟨v7.ao,v10.1⟩:aD)]))];exact(de a7 (by decide)).1) (by rw[(bZ (l:=v9)),(bZ (l:=[(⟨v7.ao,v10.1⟩:aD)]))];exact(de a7 (by decide)).2) Gn (by first|(rw[(bZ (l:=v9)),(bZ (l:=[(⟨v7.ao,v10.1⟩:aD)]))];done)|(rw[(bZ (l:=v9)),(bZ (l:=[(⟨v7.ao,v10.1⟩:aD)]))];rfl)|(rw[(bZ (l:=v9)),(bZ (l:=[(⟨v7.ao,v10.1⟩:aD)])),ahQ];done)|(rw[(bZ (l:=v9)),(bZ (l:=[(⟨v7.ao,v10.1⟩:aD)])),ahQ];rfl)|(rw[(bZ (l:=v9)),(bZ (l:=[(⟨v7.ao,v10.1⟩:aD)])),ah9]))⟩)],[(5,oq (bV h8 rfl h7))]] ⟨bR h8,J⟩
   cases J;exact wr af [[(0,bT (cU aA))],[]]
 cases J;exact wr af [[(0,bT (cU h5))],[]]
def ye(N:Nat)(v1:Int64)(v2:Int64):aiG (Int64×Bool):=
 Option.bind (bif (decide (v2.toInt>(0:Int)))then(bif (decide (v1.toInt>((9223372036854775807:Int64)-v2).toInt))then some true else(bif (decide (v2.toInt<(0:Int)))then some (decide (v1.toInt<((-9223372036854775808:Int64)-v2).toInt))else some false))else(bif (decide (v2.toInt<(0:Int)))then some (decide (v1.toInt<((-9223372036854775808:Int64)-v2).toInt))else some false)) fun v3=>
 bif v3 then
  some ((0:Int64),false)
 else
  some ((v1+v2),true)
theorem QT(N:Nat)(v1:Int64)(v2:Int64)(r:Int64×Bool)(J:ye N v1 v2=some r):bg Tryz.prog 174 [(bu v1),(bu v2)] (·=(.cb [(bu r.1),(aJ r.2)])):=by
 rw[ye]at J;refine bD Tryz.func174 (by kernel_rfl) (by kernel_rfl) ?_;refine au af [[]] ?_;obtain⟨v3,h5,J⟩:=ar J;refine cM af [(23,(aJ v3))] [] ?_ ?_
 ·refine bc h5 (fun h1 h5=> ?_) fun h1 h5=> ?_
  ·refine bc h5 (fun h2 h5=> ?_) fun h2 h5=> ?_
   ·cases h5;exact⟨so (os [9,12,15,18,22] (bT h1) (os [27,30,33,48,52] (bT h2) (os [36,39,42,45] uN [(17,⟨_,_, .eq (u3 (9223372036854775807:Int64) v2)⟩)]))),by kernel_rfl⟩
   refine bc h5 (fun h3 h5=> ?_) fun h3 h5=> ?_
   ·obtain rfl:=sj h5;exact⟨so (os [9,12,15,18,22] (bT h1) (os [27,30,33,48,52] (bF h2) (os [36,39,42,45,49] (bT h3) [(17,⟨_,_, .eq (u3 (9223372036854775807:Int64) v2)⟩),(44,⟨_,_, .eq (u3 (-9223372036854775808:Int64) v2)⟩)]))),by kernel_rfl⟩
   cases h5;exact⟨so (os [9,12,15,18,22] (bT h1) (os [27,30,33,48,52] (bF h2) (os [36,39,42,45,49] (bF h3) [(17,⟨_,_, .eq (u3 (9223372036854775807:Int64) v2)⟩)]))),by kernel_rfl⟩
  refine bc h5 (fun h4 h5=> ?_) fun h4 h5=> ?_
  ·obtain rfl:=sj h5;exact⟨so (os [9,12,15,18,22] (bF h1) (os [27,30,33,48,52] (bF rfl) (os [36,39,42,45,49] (bT h4) [(44,⟨_,_, .eq (u3 (-9223372036854775808:Int64) v2)⟩)]))),by kernel_rfl⟩
  cases h5;exact⟨so (os [9,12,15,18,22] (bF h1) (os [27,30,33,48,52] (bF rfl) (os [36,39,42,45,49] (bF h4) []))),by kernel_rfl⟩
 refine bc J (fun h6 J=> ?_) fun h6 J=> ?_
 ·cases J;exact wr af [[(0,bT h6)],[]]
 cases J;exact wr af [[(0,bF h6)],[(8,⟨_,_, .eq (LV v1 v2)⟩)]]
def wH(N:Nat)(v3:aiE aiF)(v1:Nat)(v2:aiF):Nat→Int→aiG Bool
 |0,_=>none
 |v4+1,v5=>
  bif (Nat.beq v3.length v1)then
  bif (decide (v5<(v1:Int)))then
   bif (decide ((0:Int)≤v5))then
   Option.bind (v3[(v5).toNat]?) fun v6=>
   bif (bL v6==bL v2)then
    some true
   else
    (fun b6=>wH N v3 v1 v2 v4 b6) (aV (v5+(1:Int)))
   else none
  else
   some false
  else none
def Gj(N:Nat)(v1:Nat)(v2:aiF)(v3:aiE aiF):aiG Bool:=
 wH N v3 v1 v2 N (0:Int)
theorem afw(N:Nat)(v1:Nat)(v2:aiF)(v3:aiE aiF)(r:Bool)(J:Gj N v1 v2 v3=some r):bY Tryz.prog 15 [(.vec 0 0 v1 v1 1),(bw v2)] [.vec 9 1 (aO (v3.map cX))] fun r1 h1=>r1=(aJ r)∧h1=[.vec 9 1 (aO (v3.map cX))]:=by
 rw[Gj]at J;refine tu 1 Tryz.func15 rfl (by kernel_rfl) (ahX rfl) ?_;refine lP (s':=⟨18,[(0,(.vec 0 0 v1 v1 1)),(1,(bw v2))],[.vec 9 1 (aO (v3.map cX))]⟩) (by kernel_rfl) ?_;refine aR ?_;refine rg [] [] [.vec 9 1 (aO (v3.map cX))] (by kernel_rfl) ?_;refine aR ?_;refine aR ?_;refine rg [] [(5,(ak (0:Int)))] [.vec 9 1 (aO (v3.map cX))] (by kernel_rfl) ?_;refine fe ?_;refine oA [0,1,5] 1 [] [] (fun((v4,v5):Nat×Int)=>⟨18,[(0,(.vec 0 0 v1 v1 1)),(1,(bw v2)),(5,(ak v5))],[.vec 9 1 (aO (v3.map cX))]⟩) (fun((v4,v5):Nat×Int)=>wH N v3 v1 v2 v4 v5=some r) (fun((v4,v5):Nat×Int)=>v4) (N,(0:Int)) (ahX rfl) ⟨(gq (xs:=(v3.map cX)) fh),by kernel_rfl⟩ J ?_;rintro⟨v4,v5⟩ J
 try dsimp only at J
 cases v4 with
 |zero=>
  rw[wH]at J;cases J
 |succ v4=>
  rw[wH]at J;refine aR ?_;refine aR ?_;have h1:=fw J;replace J:=(dA h1).symm.trans J;refine rg [(7,⟨_,_, .pr .no (gJ (f:=cX) (ah3 h1))⟩)] [(9,(aJ (decide (v5<(v1:Int)))))] [.vec 9 1 (aO (v3.map cX))] (by kernel_rfl) ?_;rcases fQ (decide (v5<(v1:Int)))with h2|h2
  ·replace J:=(dA h2).symm.trans J;refine fB (t:=(decide (v5<(v1:Int)))) (by kernel_rfl) h2 ?_;refine et ?_;refine cv ?_;refine aR ?_;refine fe ?_;refine aR ?_;have h3:=fw J;replace J:=(dA h3).symm.trans J;obtain⟨v6,h4,J⟩:=ar J;refine rg [(7,⟨_,_, .pr (.ix ((v5).toNat)) (la (gJ (f:=cX) (ah3 h1)) (of_decide_eq_true h3) (of_decide_eq_true h2) rfl)⟩),(10,⟨_,_, .pr (.el ((cX v6).map AV.d)) (sB (f:=cX) (ah3 h1) h4)⟩)] [(17,(aJ (bL v6==bL v2)))] [.vec 9 1 (aO (v3.map cX))] (by kernel_rfl) ?_;rcases fQ (bL v6==bL v2)with h5|h5
   ·replace J:=(dA h5).symm.trans J;refine fB (t:=(bL v6==bL v2)) (by kernel_rfl) h5 ?_;refine aR ?_;refine rg [] [(4,(aJ true))] [.vec 9 1 (aO (v3.map cX))] (by kernel_rfl) ?_;refine dN (fq (ej (ej (fq (ej ?_)))));have hr:=ah8 J;subst hr;exact lU (gq (xs:=(v3.map cX)) fh) (by kernel_rfl)
   replace J:=(fS h5).symm.trans J;refine fv (t:=(bL v6==bL v2)) (by kernel_rfl) h5 ?_;refine et ?_;refine iA ?_;refine cv ?_;refine re [] [(5,(ak (aV (v5+(1:Int))))),(11,(ak (aV (v5+(1:Int))))),(10,(ak v5))] [.vec 9 1 (aO (v3.map cX))] (by kernel_rfl) ?_;refine cv ?_;exact⟨(v4,(aV (v5+(1:Int)))),⟨(gq (xs:=(v3.map cX)) fh),by kernel_rfl⟩,J,aiC _⟩
  replace J:=(fS h2).symm.trans J;refine fv (t:=(decide (v5<(v1:Int)))) (by kernel_rfl) h2 ?_;refine kZ (gH (gH (lJ rfl ?_)));refine cv ?_;refine aR ?_;refine rg [] [(4,(aJ false))] [.vec 9 1 (aO (v3.map cX))] (by kernel_rfl) ?_;refine dN ?_;have hr:=ah8 J;subst hr;exact lU (gq (xs:=(v3.map cX)) fh) (by kernel_rfl)
def tX(N:Nat)(v1:Nat):Nat→Int→(aiE aiF)→aiG (Nat×(aiE aiF))
 |0,_,_=>none
 |v5+1,v6,v7=>
  Option.bind (bif (decide (v6>(0:Int)))then bif (Nat.beq v7.length (v1+1))then
  bif (decide ((0:Int)≤(aV (v6-(1:Int)))))then
  bif (decide ((aV (v6-(1:Int)))<((v1+1):Int)))then
  Option.bind (v7[((aV (v6-(1:Int)))).toNat]?) fun v8=>
  bif (decide ((0:Int)≤v6))then
  bif (decide (v6<((v1+1):Int)))then
  Option.bind (v7[(v6).toNat]?) fun v9=>
  some (!((Op.bytesLess (bL v8) (bL v9))||(bL v8==bL v9)))
  else none
  else none
  else none
  else none
  else none else some false) fun v10=>
  bif v10 then
   bif (Nat.beq v7.length (v1+1))then
   bif (decide ((0:Int)≤v6))then
   bif (decide (v6<((v1+1):Int)))then
   Option.bind (v7[(v6).toNat]?) fun v11=>
   bif (decide ((0:Int)≤(aV (v6-(1:Int)))))then
   bif (decide ((aV (v6-(1:Int)))<((v1+1):Int)))then
   Option.bind (v7[((aV (v6-(1:Int)))).toNat]?) fun v12=>
   bif (Nat.beq (v7.set ((v6).toNat) v12).length (v1+1))then
   Option.bind ((v7.set ((v6).toNat) v12)[((aV (v6-(1:Int)))).toNat]?) fun aE=>
   (fun b6 dZ=>tX N v1 v5 b6 dZ) (aV (v6-(1:Int))) ((v7.set ((v6).toNat) v12).set (((aV (v6-(1:Int)))).toNat) v11)
   else none
   else none
   else none
   else none
   else none
   else none
  else
   some ((v1+1),v7)
def CO(N:Nat)(v1:Nat)(v2:aiF)(v3:aiE aiF):aiG (Nat×(aiE aiF)):=
 Option.bind (Gj N v1 v2 v3) fun v4=>
 bif v4 then
  some (v1,v3)
 else
  bif (Nat.beq v3.length v1)then
  bif (Nat.ble ((v1+1)*16) 140737488355328)then
  bif (Nat.beq (v3++[v2]).length (v1+1))then
  tX N v1 N (aV (((v1+1):Int)-(1:Int))) (v3++[v2])
  else none
  else none
  else none
theorem abc(N:Nat)(v1:Nat)(v2:aiF)(v3:aiE aiF)(r:Nat×(aiE aiF))(J:CO N v1 v2 v3=some r):bY Tryz.prog 208 [(.vec 0 0 v1 v1 1),(bw v2)] [.vec 9 1 (aO (v3.map cX))] fun r1 h1=>r1=(.vec 0 0 r.1 r.1 1)∧h1=[.vec 9 1 (aO (r.2.map cX))]:=by
 rw[CO]at J;refine tu 1 Tryz.func208 rfl (by kernel_rfl) (ahX rfl) ?_;refine lP (s':=⟨52,[(0,(.vec 0 0 v1 v1 1)),(1,(bw v2))],[.vec 9 1 (aO (v3.map cX))]⟩) (by kernel_rfl) ?_;refine aR ?_;refine rg [] [] [.vec 9 1 (aO (v3.map cX))] (by kernel_rfl) ?_;refine aR ?_;refine aR ?_;obtain⟨v4,h1,J⟩:=ar J;refine rg [(7,⟨_,_, .me (kH (xs:=(v3.map cX)) gZ) (kH (xs:=(v3.map cX)) gZ) (cQ:=[(.vec 0 0 v1 v1 1),(bw v2)]) (h:=[.vec 9 1 (aO (v3.map cX))]) (l:=[0]) (by kernel_rfl) (by kernel_rfl) (by kernel_rfl) (by kernel_rfl) (afw N v1 v2 v3 v4 h1)⟩)] [(9,(aJ v4))] [.vec 9 1 (aO (v3.map cX))] (by kernel_rfl) ?_;rcases fQ v4 with h2|h2
 ·replace J:=(dA h2).symm.trans J;refine fB (t:=v4) (by kernel_rfl) h2 ?_;refine aR ?_;refine rg [] [(4,(.vec 0 0 v1 v1 1))] [.vec 9 1 (aO (v3.map cX))] (by kernel_rfl) ?_;refine dN (ej ?_);have hr:=ah8 J;subst hr;exact lU (gq (xs:=(v3.map cX)) fh) (by kernel_rfl)
 replace J:=(fS h2).symm.trans J;refine fv (t:=v4) (by kernel_rfl) h2 ?_;refine et ?_;refine cv ?_;refine aR ?_;have h3:=fw J;replace J:=(dA h3).symm.trans J;have h4:=fw J;replace J:=(dA h4).symm.trans J;refine rg [(10,⟨_,_, .pr (.ap (aO ((v3++[v2]).map cX)) (aO (([v2]).map cX)) (v1+1) (v1+1)) (Vg (f:=cX) (h:=[.vec 9 1 (aO (v3.map cX))]) (y:=(.full (aB [v2]))) (k:=1) (ah3 h3) rfl (fun c hc=>jq c (by rw[mz];exact hc)) rfl rfl (de h4 (by decide)).1 (de h4 (by decide)).2)⟩)] [(0,(.vec 0 0 (v1+1) (v1+1) 1))] [.vec 9 1 (aO ((v3++[v2]).map cX))] (by kernel_rfl) ?_;refine aR ?_;refine aR ?_;have h5:=fw J;replace J:=(dA h5).symm.trans J;refine rg [(4,⟨_,_, .pr .no (gJ (f:=cX) (ah3 h5))⟩)] [(5,(ak (aV (((v1+1):Int)-(1:Int)))))] [.vec 9 1 (aO ((v3++[v2]).map cX))] (by kernel_rfl) ?_;refine fe ?_;refine oA [0,5] 1 [] [] (fun((v5,v6,v7):Nat×Int×(aiE aiF))=>⟨52,[(0,(.vec 0 0 (v1+1) (v1+1) 1)),(5,(ak v6))],[.vec 9 1 (aO (v7.map cX))]⟩) (fun((v5,v6,v7):Nat×Int×(aiE aiF))=>tX N v1 v5 v6 v7=some r) (fun((v5,v6,v7):Nat×Int×(aiE aiF))=>v5) (N,(aV (((v1+1):Int)-(1:Int))),(v3++[v2])) (ahX rfl) ⟨(gq (xs:=((v3++[v2]).map cX)) fh),by kernel_rfl⟩ J ?_
 rintro⟨v5,v6,v7⟩ J
 try dsimp only at J
 cases v5 with
 |zero=>
  rw[tX]at J;cases J
 |succ v5=>
  rw[tX]at J;refine aR ?_;refine aR ?_;obtain⟨v10,bm,J⟩:=ar J;refine WG af (by kernel_rfl) [(31,(aJ v10))] [.vec 9 1 (aO (v7.map cX))] ?_ ?_
  ·rcases fQ (decide (v6>(0:Int)))with h6|h6
   ·replace bm:=(dA h6).symm.trans bm;have h7:=fw bm;replace bm:=(dA h7).symm.trans bm;have h8:=fw bm;replace bm:=(dA h8).symm.trans bm;have h9:=fw bm;replace bm:=(dA h9).symm.trans bm;obtain⟨v8,aA,bm⟩:=ar bm;have a7:=fw bm;replace bm:=(dA a7).symm.trans bm;have bk:=fw bm;replace bm:=(dA bk).symm.trans bm;obtain⟨v9,cg,bm⟩:=ar bm;have he:=ah8 bm;subst he;exact⟨[(9,bT h6),(12,bT h6),(15,bT h6),(18,bT h6),(19,⟨_,_, .pr (.ix (((aV (v6-(1:Int)))).toNat)) (la (gJ (f:=cX) (ah3 h7)) (of_decide_eq_true h8) (of_decide_eq_true h9) rfl)⟩),(21,bT h6),(22,⟨_,_, .pr (.el ((cX v8).map AV.d)) (sB (f:=cX) (ah3 h7) aA)⟩),(24,bT h6),(27,bT h6),(30,bT h6),(31,⟨_,_, .pr (.ix ((v6).toNat)) (la (gJ (f:=cX) (ah3 h7)) (of_decide_eq_true a7) (of_decide_eq_true bk) rfl)⟩),(33,bT h6),(34,⟨_,_, .pr (.el ((cX v9).map AV.d)) (sB (f:=cX) (ah3 h7) cg)⟩),(36,bT h6),(40,bT h6)],by kernel_rfl⟩
   replace bm:=(fS h6).symm.trans bm;have he:=ah8 bm;subst he;exact⟨[(9,bF h6),(12,bF h6),(15,bF h6),(18,bF h6),(21,bF h6),(24,bF h6),(27,bF h6),(30,bF h6),(33,bF h6),(36,bF h6),(40,bF h6)],by kernel_rfl⟩
  rcases fQ v10 with bQ|bQ
  ·replace J:=(dA bQ).symm.trans J;refine fB (t:=v10) (by kernel_rfl) bQ ?_;refine et ?_;refine cv ?_;refine aR ?_;refine fe ?_;refine aR ?_;have bo:=fw J;replace J:=(dA bo).symm.trans J;have cC:=fw J;replace J:=(dA cC).symm.trans J;have bW:=fw J;replace J:=(dA bW).symm.trans J;obtain⟨v11,dh,J⟩:=ar J;refine rg [(7,⟨_,_, .pr (.ix ((v6).toNat)) (la (gJ (f:=cX) (ah3 bo)) (of_decide_eq_true cC) (of_decide_eq_true bW) rfl)⟩),(10,⟨_,_, .pr (.el ((cX v11).map AV.d)) (sB (f:=cX) (ah3 bo) dh)⟩)] [(6,(bw v11))] [.vec 9 1 (aO (v7.map cX))] (by kernel_rfl) ?_;refine aR ?_;have dH:=fw J;replace J:=(dA dH).symm.trans J;have eJ:=fw J;replace J:=(dA eJ).symm.trans J;obtain⟨v12,fk,J⟩:=ar J;refine rg [(16,⟨_,_, .pr (.ix (((aV (v6-(1:Int)))).toNat)) (la (gJ (f:=cX) (ah3 bo)) (of_decide_eq_true dH) (of_decide_eq_true eJ) rfl)⟩),(19,⟨_,_, .pr (.el ((cX v12).map AV.d)) (sB (f:=cX) (ah3 bo) fk)⟩),(22,⟨_,_, .pr (.ix ((v6).toNat)) (la (gJ (f:=cX) (ah3 bo)) (of_decide_eq_true cC) (of_decide_eq_true bW) rfl)⟩),(25,⟨_,_, .pr (.st ((cX v11).map AV.d) (aO ((v7.set ((v6).toNat) v12).map cX))) (yB (f:=cX) (j:=0) (y:=v12) (zs:=[(bw v12)]) (ah3 bo) dh rfl)⟩)] [] [.vec 9 1 (aO ((v7.set ((v6).toNat) v12).map cX))] (by kernel_rfl) ?_
   have fg:=fw J;replace J:=(dA fg).symm.trans J;obtain⟨aE,eN,J⟩:=ar J;refine re [(13,⟨_,_, .pr (.ix (((aV (v6-(1:Int)))).toNat)) (la (gJ (f:=cX) (ah3 fg)) (of_decide_eq_true dH) (of_decide_eq_true eJ) rfl)⟩),(16,⟨_,_, .pr (.st ((cX aE).map AV.d) (aO (((v7.set ((v6).toNat) v12).set (((aV (v6-(1:Int)))).toNat) v11).map cX))) (yB (f:=cX) (j:=0) (y:=v11) (zs:=[(bw v11)]) (ah3 fg) eN rfl)⟩)] [(50,(.dw 0 (((aV (v6-(1:Int)))).toNat) 0 (v1+1) 1)),(49,(bw v11)),(48,(ak (aV (v6-(1:Int))))),(47,(ak v6)),(46,(.vec 0 0 (v1+1) (v1+1) 1))] [.vec 9 1 (aO (((v7.set ((v6).toNat) v12).set (((aV (v6-(1:Int)))).toNat) v11).map cX))] (by kernel_rfl) ?_;refine iA ?_;refine cv ?_;refine re [] [(5,(ak (aV (v6-(1:Int))))),(33,(ak (aV (v6-(1:Int))))),(32,(ak v6))] [.vec 9 1 (aO (((v7.set ((v6).toNat) v12).set (((aV (v6-(1:Int)))).toNat) v11).map cX))] (by kernel_rfl) ?_;refine cv ?_;exact⟨(v5,(aV (v6-(1:Int))),((v7.set ((v6).toNat) v12).set (((aV (v6-(1:Int)))).toNat) v11)),⟨(gq (xs:=(((v7.set ((v6).toNat) v12).set (((aV (v6-(1:Int)))).toNat) v11).map cX)) fh),by kernel_rfl⟩,J,aiC _⟩
  replace J:=(fS bQ).symm.trans J;refine fv (t:=v10) (by kernel_rfl) bQ ?_;refine kZ (gH (gH (lJ rfl ?_)));refine cv ?_;refine aR ?_;refine rg [] [(4,(.vec 0 0 (v1+1) (v1+1) 1))] [.vec 9 1 (aO (v7.map cX))] (by kernel_rfl) ?_;refine dN ?_;have hr:=ah8 J;subst hr;exact lU (gq (xs:=(v7.map cX)) fh) (by kernel_rfl)
def vw(N:Nat)(gz:Nat→(aiE aiF)→aiG ((aiE aiF))):aiE aD→Nat→Nat→(aiE aiF)→aiG ((aiE aiF))
 |[],_,v12,aE=>
  gz v12 aE
 |v10::v11,v8,v12,aE=>
  Option.bind (CO N v12 v10.ao aE) fun aC=>
  (fun fI qA=>vw N gz v11 (v8+1) fI qA) aC.1 aC.2
def oT(N:Nat):aiE ax→Nat→Nat→(aiE aiF)→aiG ((aiE aiF))
 |[],_,v6,v7=>
  bif (Nat.beq v7.length v6)then
  some v7
  else none
 |v4::v5,v2,v6,v7=>
  vw N (fun b6 dZ=>oT N v5 (v2+1) b6 dZ) v4.xL 0 v6 v7
def Bu(N:Nat)(v1:aiE ax):aiG ((aiE aiF)):=
 oT N v1 0 0 []
theorem aau(N:Nat)(v1:aiE ax)(r:(aiE aiF))(J:Bu N v1=some r):bg Tryz.prog 175 [(.d (.sl (cz v1)))] (·=(.d (.sl (aB r)))):=by
 rw[Bu]at J;refine qg Tryz.func175 rfl (by kernel_rfl) ?_;refine gF [0] 0 (ah0 _) (s':=⟨34,[(0,(.d (.sl (cz v1))))],[]⟩) (by kernel_rfl) ?_;refine aR ?_;refine rg [] [] [] (by kernel_rfl) ?_;refine aR ?_;refine rg [] [(3,(.d (.v (.slice none 0 0))))] [] (by kernel_rfl) ?_;refine aR ?_;refine aR ?_;refine rg [] [(4,(ak (0:Int)))] [] (by kernel_rfl) ?_;refine fe ?_;refine H4 3 9 1 (by kernel_rfl) ?_;refine pF 0 (cz v1) (by kernel_rfl) fun h1=> ?_;have h2:=cd bM h1;refine oA [0,3,4] 1 [] [] (fun((v2,v3,v6,v7):Nat×(aiE ax)×Nat×(aiE aiF))=>⟨34,[(0,(.d (.sl (cz v1)))),(3,(.vec 0 0 v6 v6 1)),(4,(ak (v2:Int)))],[.vec 9 1 (aO (v7.map cX))]⟩) (fun((v2,v3,v6,v7):Nat×(aiE ax)×Nat×(aiE aiF))=>v1.drop v2=v3∧oT N v3 v2 v6 v7=some r) (fun((v2,v3,v6,v7):Nat×(aiE ax)×Nat×(aiE aiF))=>v3.length) (0,v1,0,[]) (ahX rfl) ⟨(gq (xs:=(([]:aiE aiF).map cX)) fh),by kernel_rfl⟩ ⟨rfl,J⟩ ?_;rintro⟨v2,v3,v6,v7⟩ ⟨h3,J⟩;cases v3 with
 |nil=>
  rw[oT]at J;refine aR ?_;refine aR ?_;refine rg [(7,oL v1 bM)] [(9,(aJ (decide ((v2:Int)<(v1.length:Int)))))] [.vec 9 1 (aO (v7.map cX))] (by kernel_rfl) ?_;refine fv (t:=(decide ((v2:Int)<(v1.length:Int)))) (by kernel_rfl) (bO h3) ?_;refine kZ (gH (gH (lJ rfl ?_)));refine cv ?_;refine aR ?_;refine rg [] [(2,(.vec 0 0 v6 v6 1))] [.vec 9 1 (aO (v7.map cX))] (by kernel_rfl) ?_;have h4:=fw J;replace J:=(dA h4).symm.trans J;refine FW [2] 0 (v7.map cX) (aB v7) (L:=v6) [.vec 9 1 (aO (v7.map cX))] 1 rfl (oY (fun _=>rfl) _) (qi (ah3 h4)) (mz _) (by kernel_rfl) (.gY .nil) ?_;refine lP (s':=⟨34,[(2,(.d (.sl (aB v7))))],[.gone]⟩) (by kernel_rfl) ?_;refine dN ?_;have hr:=ah8 J;subst hr;exact gn (by kernel_rfl)
 |cons v4 v5=>
  rw[oT]at J;refine aR ?_;refine aR ?_;refine rg [(7,oL v1 bM)] [(9,(aJ (decide ((v2:Int)<(v1.length:Int)))))] [.vec 9 1 (aO (v7.map cX))] (by kernel_rfl) ?_;refine fB (t:=(decide ((v2:Int)<(v1.length:Int)))) (by kernel_rfl) (bN h3) ?_;refine et ?_;refine cv ?_;refine aR ?_;refine fe ?_;refine aR ?_;refine rg [] [(5,(ak (0:Int)))] [.vec 9 1 (aO (v7.map cX))] (by kernel_rfl) ?_;refine fe ?_;refine pF 0 (cz v1) (by kernel_rfl) fun h5=> ?_;have h6:v4.xL.length≤maxLen:=by rw[←bZ];exact qH (DJ (j:=1) (d:= .sl (bP v4.xL)) h5 (hY (aU h3)) rfl)
  refine oA [0,3,4,5] 1 [] [] (fun((v8,v9,v12,aE):Nat×(aiE aD)×Nat×(aiE aiF))=>⟨34,[(0,(.d (.sl (cz v1)))),(3,(.vec 0 0 v12 v12 1)),(4,(ak (v2:Int))),(5,(ak (v8:Int)))],[.vec 9 1 (aO (aE.map cX))]⟩) (fun((v8,v9,v12,aE):Nat×(aiE aD)×Nat×(aiE aiF))=>v4.xL.drop v8=v9∧vw N (fun b6 dZ=>oT N v5 (v2+1) b6 dZ) v9 v8 v12 aE=some r) (fun((v8,v9,v12,aE):Nat×(aiE aD)×Nat×(aiE aiF))=>v9.length) (0,v4.xL,v6,v7) (ahX rfl) ⟨(gq (xs:=(v7.map cX)) fh),by kernel_rfl⟩ ⟨rfl,J⟩ ?_;rintro⟨v8,v9,v12,aE⟩ ⟨h7,J⟩;cases v9 with
  |nil=>
   rw[vw]at J;refine aR ?_;refine aR ?_;refine rg [(10,oE (hY (aU h3))),(19,oL v4.xL bZ)] [(19,(aJ (decide ((v8:Int)<(v4.xL.length:Int)))))] [.vec 9 1 (aO (aE.map cX))] (by kernel_rfl) ?_;refine fv (t:=(decide ((v8:Int)<(v4.xL.length:Int)))) (by kernel_rfl) (bO h7) ?_;refine kZ (gH (gH (lJ rfl ?_)));refine iA ?_;refine cv ?_;refine re [(5,oq (bV h3 rfl h2))] [(4,(ak ((v2+1:Nat):Int))),(11,(ak ((v2+1:Nat):Int))),(10,(ak (v2:Int)))] [.vec 9 1 (aO (aE.map cX))] (by kernel_rfl) ?_;refine cv ?_;exact⟨(v2+1,v5,v12,aE),⟨(gq (xs:=(aE.map cX)) fh),by kernel_rfl⟩,⟨bR h3,J⟩,aiC _⟩
  |cons v10 v11=>
   rw[vw]at J;refine aR ?_;refine aR ?_;refine rg [(10,oE (hY (aU h3))),(19,oL v4.xL bZ)] [(19,(aJ (decide ((v8:Int)<(v4.xL.length:Int)))))] [.vec 9 1 (aO (aE.map cX))] (by kernel_rfl) ?_;refine fB (t:=(decide ((v8:Int)<(v4.xL.length:Int)))) (by kernel_rfl) (bN h7) ?_;refine et ?_;refine cv ?_;refine aR ?_;refine fe ?_;obtain⟨aC,h8,J⟩:=ar J;refine re [(10,oE (hY (aU h3))),(22,oE (eY (aU h7))),(31,⟨_,_, .me (kH (xs:=(aE.map cX)) gZ) (kH (xs:=(aC.2.map cX)) gZ) (cQ:=[(.vec 0 0 v12 v12 1),(bw v10.ao)]) (h:=[.vec 9 1 (aO (aE.map cX))]) (l:=[0]) (by kernel_rfl) (by kernel_rfl) (by kernel_rfl) (by kernel_rfl) (abc N v12 v10.ao aE aC h8)⟩)] [(3,(.vec 0 0 aC.1 aC.1 1)),(32,(.vec 0 0 aC.1 aC.1 1)),(31,(bw v10.ao)),(30,(.bt [wc v10] 0 0)),(29,(.bt [wc v10] 0 0)),(28,(ak (v8:Int))),(27,(.d (.sl (bP v4.xL)))),(26,(.bt [j0 v4] 0 1)),(25,(.bt [j0 v4] 0 0)),(24,(ak (v2:Int))),(23,(.d (.sl (cz v1)))),(22,(.vec 0 0 v12 v12 1))] [.vec 9 1 (aO (aC.2.map cX))] (by kernel_rfl) ?_;refine iA ?_;refine cv ?_;refine re [(5,oq (bV h7 rfl h6))] [(5,(ak ((v8+1:Nat):Int))),(21,(ak ((v8+1:Nat):Int))),(20,(ak (v8:Int)))] [.vec 9 1 (aO (aC.2.map cX))] (by kernel_rfl) ?_
   refine cv ?_;exact⟨(v8+1,v11,aC.1,aC.2),⟨(gq (xs:=(aC.2.map cX)) fh),by kernel_rfl⟩,⟨bR h7,J⟩,aiC _⟩
def w8(N:Nat)(v2:aiF):aiE aD→Nat→aiG Int64
 |[],_=>
  some (0:Int64)
 |v5::v6,v3=>
  bif (bL v5.ao==bL v2)then
   some v5.dd
  else
   (w8 N v2 v6 (v3+1))
def Bm(N:Nat)(v1:ax)(v2:aiF):aiG Int64:=
 w8 N v2 v1.xL 0
theorem QV(N:Nat)(v1:ax)(v2:aiF)(r:Int64)(J:Bm N v1 v2=some r):bg Tryz.prog 176 [(b9 v1),(bw v2)] (·=(bu r)):=by
 rw[Bm]at J;refine bD Tryz.func176 (by kernel_rfl) (by kernel_rfl) ?_;refine au af [[],[]] ?_;refine dX 0 1 (bP v1.xL) (by kernel_rfl) fun h1=> ?_;have h2:=cd bZ h1;refine cx af 1 [] [1,2,5] 1 (fun((v3,v4):Nat×(aiE aD))=>⟨27,[(1,(bw v2)),(2,(.ptr 0 0)),(5,(ak (v3:Int)))],[.cells (b9 v1).cells]⟩) (fun((v3,v4):Nat×(aiE aD))=>v1.xL.drop v3=v4∧w8 N v2 v4 v3=some r) (fun((v3,v4):Nat×(aiE aD))=>v4.length) (0,v1.xL) ⟨rfl,J⟩ ?_;rintro⟨v3,v4⟩ ⟨h3,J⟩ f1 aN;cases v4 with
 |nil=>
  rw[w8]at J;cases J;exact wr af [[(10,oL v1.xL bZ)],[(0,bF (bO h3))],[]]
 |cons v5 v6=>
  rw[w8]at J;refine au af [[(10,oL v1.xL bZ)],[(0,bT (bN h3))],[(10,oE (eY (aU h3)))]] ?_;refine bc J (fun h4 J=> ?_) fun h4 J=> ?_
  ·cases J;exact wr af [[(0,bT h4)],[(10,oE (eY (aU h3)))]]
  exact ct af aN (v3+1,v6) [[(0,bF h4)],[(5,oq (bV h3 rfl h2))]] ⟨bR h3,J⟩
def qK(N:Nat)(v6:Int64×Bool)(v1:ax)(v2:ax):aiE aiF→Nat→(aiE aD)→aiG (ax×Int)
 |[],_,v12=>
  some ((⟨v6.1,v12⟩:ax),(0:Int))
 |v10::v11,v8,v12=>
  Option.bind (Bm N v1 v10) fun aE=>
  Option.bind (Bm N v2 v10) fun aC=>
  Option.bind (ye N aE aC) fun aP=>
  bif aP.2 then
   bif (aP.1.toInt !=(0:Int))then
    bif (Nat.ble ((v12.length+1)*24) 140737488355328)then
    (fun b6=>qK N v6 v1 v2 v11 (v8+1) b6) (v12++[(⟨v10,aP.1⟩:aD)])
    else none
   else
    (fun b6=>qK N v6 v1 v2 v11 (v8+1) b6) v12
  else
   some (dS,(3:Int))
def Ao(N:Nat)(v1:ax)(v2:ax):aiG (ax×Int):=
 Option.bind (xX N v1) fun v3=>
 Option.bind (bif (v3 !=(0:Int))then some true else Option.bind (xX N v2) fun v4=>
 some (v4 !=(0:Int))) fun v5=>
 bif v5 then
  some (dS,(1:Int))
 else
  Option.bind (ye N v1.xK v2.xK) fun v6=>
  bif v6.2 then
   Option.bind (Bu N ([v1,v2])) fun v7=>
   qK N v6 v1 v2 v7 0 []
  else
   some (dS,(3:Int))
theorem Wl(N:Nat)(v1:ax)(v2:ax)(r:ax×Int)(J:Ao N v1 v2=some r):bg Tryz.prog 140 [(b9 v1),(b9 v2)] (·=(.cb [(b9 r.1),(ak r.2)])):=by
 rw[Ao]at J;refine bD Tryz.func140 (by kernel_rfl) (by kernel_rfl) ?_;refine au af [[]] ?_;obtain⟨v3,h1,J⟩:=ar J;obtain⟨v5,h4,J⟩:=ar J;refine cM af [(20,(aJ v5))] [.cells (b9 v1).cells, .cells (b9 v2).cells, .cells m7] ?_ ?_
 ·refine bc h4 (fun h2 h4=> ?_) fun h2 h4=> ?_
  ·cases h4;exact⟨so (os [12,15,18,22] (bT h2) [(4,cL (FU N v1 v3 h1))]),by kernel_rfl⟩
  obtain⟨v4,h3,h4⟩:=ar h4;cases h4;exact⟨so (os [12,15,18,22] (bF h2) [(4,cL (FU N v1 v3 h1)),(16,cL (FU N v2 v4 h3))]),by kernel_rfl⟩
 refine bc J (fun h5 J=> ?_) fun h5 J=> ?_
 ·cases J;exact wr af [[(0,bT h5)],[]]
 obtain⟨v6,h6,J⟩:=ar J;refine au af [[(0,bF h5)],[(13,cL (QT N v1.xK v2.xK v6 h6))],[]] ?_;refine bc J (fun h7 J=> ?_) fun h7 J=> ?_
 ·obtain⟨v7,h8,J⟩:=ar J;refine au af [[(0,bF (cG h7))],[],[(10,cL (aau N ([v1,v2]) v7 h8))],[]] ?_;refine nu 3 1 92 2 [] (.inr (by kernel_rfl)) ?_;refine dq 9 (aB v7) (by kernel_rfl) fun h9=> ?_;have aA:=cd bC h9;refine jt af 1 [] [2,3,4,8,9,10] 5 [] [(2,1)] (fun((v8,v9,v12):Nat×(aiE aiF)×(aiE aD))=>⟨78,[(2,(.ptr 0 0)),(3,(.ptr 1 0)),(4,(.ptr 2 0)),(8,(.ptr 3 0)),(9,(.d (.sl (aB v7)))),(10,(ak (v8:Int)))],[.cells (b9 v1).cells, .cells (b9 v2).cells, .cells m7, .cells [(bu v6.1),(.own 4 (bP v12))], .front 92 2 v12.length]⟩) (fun((v8,v9,v12):Nat×(aiE aiF)×(aiE aD))=>v7.drop v8=v9∧qK N v6 v1 v2 v9 v8 v12=some r) (fun((v8,v9,v12):Nat×(aiE aiF)×(aiE aD))=>v9.length) (0,v7,[]) ⟨rfl,J⟩ ?_;rintro⟨v8,v9,v12⟩ ⟨a7,J⟩ f1 aN;cases v9 with
  |nil=>
   rw[qK]at J;cases J;exact wr af [[(7,oL v7 bC)],[(0,bF (bO a7))],[]]
  |cons v10 v11=>
   rw[qK]at J;obtain⟨aE,bk,J⟩:=ar J;obtain⟨aC,cg,J⟩:=ar J;obtain⟨aP,bm,J⟩:=ar J;refine au af [[(7,oL v7 bC)],[(0,bT (bN a7))],[(10,oE (kK (aU a7))),(16,cL (QV N v1 v10 aE bk)),(28,oE (kK (aU a7))),(34,cL (QV N v2 v10 aC cg)),(37,cL (QT N aE aC aP bm))],[]] ?_;refine bc J (fun bQ J=> ?_) fun bQ J=> ?_
   ·refine au af [[(0,bF (cG bQ))],[]] ?_;refine bc J (fun bo J=> ?_) fun bo J=> ?_
    ·obtain⟨cC,J⟩:=dg J;exact gN af aN (v8+1,v11,(v12++[(⟨v10,aP.1⟩:aD)])) [[(0,bT bo)],[(13,oE (kK (aU a7))),(28,⟨_,_, .app (xs:=bP v12) (ys:=bP [(⟨v10,aP.1⟩:aD)]) (zs:=bP (v12++[(⟨v10,aP.1⟩:aD)])) (n:=(v12++[(⟨v10,aP.1⟩:aD)]).length) bZ.symm mm mm (by rw[(bZ (l:=v12)),(bZ (l:=[(⟨v10,aP.1⟩:aD)]))];exact(de cC (by decide)).1) (by rw[(bZ (l:=v12)),(bZ (l:=[(⟨v10,aP.1⟩:aD)]))];exact(de cC (by decide)).2) Gn (by first|(rw[(bZ (l:=v12)),(bZ (l:=[(⟨v10,aP.1⟩:aD)]))];done)|(rw[(bZ (l:=v12)),(bZ (l:=[(⟨v10,aP.1⟩:aD)]))];rfl)|(rw[(bZ (l:=v12)),(bZ (l:=[(⟨v10,aP.1⟩:aD)])),ahQ];done)|(rw[(bZ (l:=v12)),(bZ (l:=[(⟨v10,aP.1⟩:aD)])),ahQ];rfl)|(rw[(bZ (l:=v12)),(bZ (l:=[(⟨v10,aP.1⟩:aD)])),ah9]))⟩)],[(5,oq (bV a7 rfl aA))]] ⟨bR a7,J⟩
    exact gN af aN (v8+1,v11,v12) [[(0,bF bo)],[(5,oq (bV a7 rfl aA))]] ⟨bR a7,J⟩
   cases J;exact wr af [[(0,bT (cU bQ))],[]]
 cases J;exact wr af [[(0,bT (cU h7))],[]]
def jN(N:Nat)(v5:aD)(v7:Int64)(v8:aiE aD)(gz:Int64→(aiE aD)→aiG (ax×Int))(v1:iu):aiE bj→Nat→Int64→(aiE aD)→aiG (ax×Int)
 |[],_,aE,aC=>
  Option.bind (BM N (⟨aE,aC⟩:ax) v5.dd) fun aP=>
  bif (aP.2 !=(0:Int))then
   some (dS,aP.2)
  else
   Option.bind (Ao N (⟨v7,v8⟩:ax) aP.1) fun aW=>
   bif (aW.2 !=(0:Int))then
    some (dS,aW.2)
   else
    gz aW.1.xK aW.1.xL
 |v11::v12,v9,aE,aC=>
  bif (bL v11.ao==bL v5.ao)then
   Option.bind (v1.JL[((v9:Int)).toNat]?) fun aH=>
   (fun fI qA=>jN N v5 v7 v8 gz v1 v12 (v9+1) fI qA) aH.aK.xK aH.aK.xL
  else
   (fun fI qA=>jN N v5 v7 v8 gz v1 v12 (v9+1) fI qA) aE aC
def tN(N:Nat)(v1:iu):aiE aD→Nat→Int64→(aiE aD)→aiG (ax×Int)
 |[],_,v7,v8=>
  some ((⟨v7,v8⟩:ax),(0:Int))
 |v5::v6,v3,v7,v8=>
  jN N v5 v7 v8 (fun b6 dZ=>tN N v1 v6 (v3+1) b6 dZ) v1 v1.wQ 0 (0:Int64) ([(⟨v5.ao,(1:Int64)⟩:aD)])
def Az(N:Nat)(v1:iu)(v2:ax):aiG (ax×Int):=
 tN N v1 v2.xL 0 v2.xK []
theorem Mg(N:Nat)(v1:iu)(v2:ax)(r:ax×Int)(J:Az N v1 v2=some r):bg Tryz.prog 104 [(tp v1),(b9 v2)] (·=(.cb [(b9 r.1),(ak r.2)])):=by
 rw[Az]at J;refine bD Tryz.func104 (by kernel_rfl) (by kernel_rfl) ?_;refine au af [[],[],[]] ?_;refine dX 1 1 (bP v2.xL) (by kernel_rfl) fun h1=> ?_;have h2:=cd bZ h1;refine jt af 1 [] [2,3,4,6,7] 4 [] [(2,1)] (fun((v3,v4,v7,v8):Nat×(aiE aD)×Int64×(aiE aD))=>⟨86,[(2,(.ptr 0 0)),(3,(.ptr 1 0)),(4,(.ptr 2 0)),(6,(.ptr 3 0)),(7,(ak (v3:Int)))],[.cells (tp v1).cells, .cells (b9 v2).cells, .cells m7, .cells [(bu v7),(.d (.sl (bP v8)))]]⟩) (fun((v3,v4,v7,v8):Nat×(aiE aD)×Int64×(aiE aD))=>v2.xL.drop v3=v4∧tN N v1 v4 v3 v7 v8=some r) (fun((v3,v4,v7,v8):Nat×(aiE aD)×Int64×(aiE aD))=>v4.length) (0,v2.xL,v2.xK,[]) ⟨rfl,J⟩ ?_;rintro⟨v3,v4,v7,v8⟩ ⟨h3,J⟩ f1 aN;cases v4 with
 |nil=>
  rw[tN]at J;cases J;exact wr af [[(10,oL v2.xL bZ)],[(0,bF (bO h3))],[]]
 |cons v5 v6=>
  rw[tN]at J;refine au af [[(10,oL v2.xL bZ)],[(0,bT (bN h3))],[(10,oE (eY (aU h3)))],[]] ?_;refine dX 0 0 (cu v1.wQ) (by kernel_rfl) fun h4=> ?_;have h5:=cd b5 h4;refine jt af 2 [] [2,3,4,6,7,8,9] 5 [] [(2,1)] (fun((v9,v10,aE,aC):Nat×(aiE bj)×Int64×(aiE aD))=>⟨86,[(2,(.ptr 0 0)),(3,(.ptr 1 0)),(4,(.ptr 2 0)),(6,(.ptr 3 0)),(7,(ak (v3:Int))),(8,(.ptr 4 0)),(9,(ak (v9:Int)))],[.cells (tp v1).cells, .cells (b9 v2).cells, .cells m7, .cells [(bu v7),(.d (.sl (bP v8)))], .cells [(bu aE),(.d (.sl (bP aC)))]]⟩) (fun((v9,v10,aE,aC):Nat×(aiE bj)×Int64×(aiE aD))=>v1.wQ.drop v9=v10∧jN N v5 v7 v8 (fun b6 dZ=>tN N v1 v6 (v3+1) b6 dZ) v1 v10 v9 aE aC=some r) (fun((v9,v10,aE,aC):Nat×(aiE bj)×Int64×(aiE aD))=>v10.length) (0,v1.wQ,(0:Int64),[(⟨v5.ao,(1:Int64)⟩:aD)]) ⟨rfl,J⟩ ?_;rintro⟨v9,v10,aE,aC⟩ ⟨h6,J⟩ f2 dU;cases v10 with
  |nil=>
   rw[jN]at J;obtain⟨aP,h7,J⟩:=ar J;refine au af [[(10,oL v1.wQ b5)],[(0,bF (bO h6))],[(13,oE (eY (aU h3))),(22,cL (ZC N (⟨aE,aC⟩:ax) v5.dd aP h7))],[]] ?_;refine bc J (fun h8 J=> ?_) fun h8 J=> ?_
   ·cases J;exact wr af [[(0,bT h8)],[]]
   obtain⟨aW,h9,J⟩:=ar J;refine au af [[(0,bF h8)],[(7,cL (Wl N (⟨v7,v8⟩:ax) aP.1 aW h9))],[]] ?_;refine bc J (fun aA J=> ?_) fun aA J=> ?_
   ·cases J;exact wr af [[(0,bT aA)],[]]
   exact gN af aN (v3+1,v6,aW.1.xK,aW.1.xL) [[(0,bF aA)],[],[(5,oq (bV h3 rfl h2))]] ⟨bR h3,J⟩
  |cons v11 v12=>
   rw[jN]at J;refine au af [[(10,oL v1.wQ b5)],[(0,bT (bN h6))],[(10,oE (jK (aU h6))),(28,oE (eY (aU h3)))]] ?_;refine bc J (fun a7 J=> ?_) fun a7 J=> ?_
   ·obtain⟨aH,bk,J⟩:=ar J;exact gN af dU (v9+1,v12,aH.aK.xK,aH.aK.xL) [[(0,bT a7)],[(10,oE (eH bk))],[(5,oq (bV h6 rfl h5))]] ⟨bR h6,J⟩
   exact gN af dU (v9+1,v12,aE,aC) [[(0,bF a7)],[(5,oq (bV h6 rfl h5))]] ⟨bR h6,J⟩
def qX(N:Nat)(v2:aq)(v3:ax×Int)(v8:aiE az)(BU:iu→aq→aiG (aq×Int))(v1:iu):aiE aq→Nat→(aiE aq)→aiG (aq×Int)
 |[],_,aP=>
  some ((⟨v2.aX,v2.ao,v2.db,v2.aw,v3.1,v8,aP⟩:aq),(0:Int))
 |aE::aC,v11,aP=>
  Option.bind (BU v1 aE) fun aW=>
  bif (aW.2 !=(0:Int))then
   some (fV,aW.2)
  else
   bif (Nat.ble ((aP.length+1)*160) 140737488355328)then
   (fun fI=>qX N v2 v3 v8 BU v1 aC (v11+1) fI) (aP++[aW.1])
   else none
def uu(N:Nat)(v8:aiE az)(gz:(aiE az)→Int64→(aiE aD)→aiG (aq×Int))(aH:ax×Int)(v6:az)(v1:iu):aiE ax→Nat→Int64→(aiE aD)→(aiE ax)→aiG (aq×Int)
 |[],_,di,cS,v24=>
  bif (Nat.ble ((v8.length+1)*72) 140737488355328)then
  gz (v8++[(⟨aH.1,v6.bn,v24⟩:az)]) di cS
  else none
 |v20::v21,aT,_,_,v24=>
  Option.bind (Az N v1 v20) fun eC=>
  bif (eC.2 !=(0:Int))then
   some (fV,eC.2)
  else
   bif (Nat.ble ((v24.length+1)*32) 140737488355328)then
   (fun lC vH aa2=>uu N v8 gz aH v6 v1 v21 (aT+1) lC vH aa2) eC.1.xK eC.1.xL (v24++[eC.1])
   else none
def o9(N:Nat)(v2:aq)(v3:ax×Int)(BU:iu→aq→aiG (aq×Int))(v1:iu):aiE az→Nat→(aiE az)→Int64→(aiE aD)→aiG (aq×Int)
 |[],_,v8,_,_=>
  qX N v2 v3 v8 BU v1 v2.aM 0 []
 |v6::v7,v4,v8,_,_=>
  Option.bind (Az N v1 v6.aK) fun aH=>
  bif (aH.2 !=(0:Int))then
   some (fV,aH.2)
  else
   uu N v8 (fun b6 dZ b1_2=>o9 N v2 v3 BU v1 v7 (v4+1) b6 dZ b1_2) aH v6 v1 v6.bp 0 aH.1.xK aH.1.xL []
def ot(N:Nat):Nat→iu→aq→aiG (aq×Int)
 |0,_,_=>none
 |d+1,v1,v2=>
  Option.bind (Az N v1 v2.aK) fun v3=>
  bif (v3.2 !=(0:Int))then
   some (fV,v3.2)
  else
   o9 N v2 v3 (ot N d) v1 v2.xIdx 0 [] v3.1.xK v3.1.xL
def HZ(N:Nat)(v1:iu)(v2:aq):aiG (aq×Int):=ot N N v1 v2
theorem agj(N:Nat):∀d:Nat,(∀(v1:iu)(v2:aq)(r:aq×Int),ot N d v1 v2=some r→bg Tryz.prog 64 [(tp v1),(aF v2)] (·=(.cb [(aF r.1),(ak r.2)]))):=by
 intro d
 induction d with
 |zero=>intro v1 v2 r J;rw[ot]at J;cases J
 |succ d ih=>
  have Wp:=ih;intro v1 v2 r J;rw[ot]at J;refine bD Tryz.func64 (by kernel_rfl) (by kernel_rfl) ?_;obtain⟨v3,h1,J⟩:=ar J;refine au af [[],[],[(10,cL (Mg N v1 v2.aK v3 h1))],[]] ?_;refine bc J (fun h2 J=> ?_) fun h2 J=> ?_
  ·cases J;exact wr af [[(0,bT h2)],[]]
  refine au af [[(0,bF h2)],[],[],[],[]] ?_;refine nu 3 11 80 4 [] (.inr (by kernel_rfl)) ?_;refine dX 1 11 (bJ v2.xIdx) (by kernel_rfl) fun h3=> ?_;have h4:=cd cn h3;refine jt af 1 [] [2,3,4,6,7,9] 6 [] [(2,10),(2,11),(2,12),(3,12)] (fun((v4,v5,v8,v9,v10):Nat×(aiE az)×(aiE az)×Int64×(aiE aD))=>⟨131,[(2,(.ptr 0 0)),(3,(.ptr 1 0)),(4,(.ptr 2 0)),(6,(.ptr 3 0)),(7,(.ptr 4 0)),(9,(ak (v4:Int)))],[.cells (tp v1).cells, .cells (aF v2).cells, .cells ir, .cells (mu v2 [(bu v3.1.xK),(.d (.sl (bP v3.1.xL))),(.own 5 (bJ v8)),(.d (.v (.slice none 0 0)))]), .cells [(bu v9),(.d (.sl (bP v10)))], .front 80 4 v8.length]⟩) (fun((v4,v5,v8,v9,v10):Nat×(aiE az)×(aiE az)×Int64×(aiE aD))=>v2.xIdx.drop v4=v5∧o9 N v2 v3 (ot N d) v1 v5 v4 v8 v9 v10=some r) (fun((v4,v5,v8,v9,v10):Nat×(aiE az)×(aiE az)×Int64×(aiE aD))=>v5.length) (0,v2.xIdx,[],v3.1.xK,v3.1.xL) ⟨rfl,J⟩ ?_;rintro⟨v4,v5,v8,v9,v10⟩ ⟨h5,J⟩ f1 aN;cases v5 with
  |nil=>
   rw[o9]at J;refine au af [[(10,oL v2.xIdx cn)],[(0,bF (bO h5))],[]] ?_;refine nu 3 12 52 13 [] (.inr (by kernel_rfl)) ?_;refine dX 1 12 (cT v2.aM) (by kernel_rfl) fun h6=> ?_;have h7:=cd b7 h6;refine jt af 2 [] [2,3,4,6,12] 7 [] [(2,10),(2,11),(2,12)] (fun((v11,v12,aP):Nat×(aiE aq)×(aiE aq))=>⟨131,[(2,(.ptr 0 0)),(3,(.ptr 1 0)),(4,(.ptr 2 0)),(6,(.ptr 3 0)),(12,(ak (v11:Int)))],[.cells (tp v1).cells, .cells (aF v2).cells, .cells ir, .cells (mu v2 [(bu v3.1.xK),(.d (.sl (bP v3.1.xL))),(.own 5 (bJ v8)),(.own 6 (cT aP))]), .cells [(bu v9),(.d (.sl (bP v10)))], .front 80 4 v8.length, .front 52 13 aP.length]⟩) (fun((v11,v12,aP):Nat×(aiE aq)×(aiE aq))=>v2.aM.drop v11=v12∧qX N v2 v3 v8 (ot N d) v1 v12 v11 aP=some r) (fun((v11,v12,aP):Nat×(aiE aq)×(aiE aq))=>v12.length) (0,v2.aM,[]) ⟨rfl,J⟩ ?_;rintro⟨v11,v12,aP⟩ ⟨h8,J⟩ f2 dU;cases v12 with
   |nil=>
    rw[qX]at J;cases J;exact wr af [[(10,oL v2.aM b7)],[(0,bF (bO h8))],[]]
   |cons aE aC=>
    rw[qX]at J;obtain⟨aW,h9,J⟩:=ar J;refine au af [[(10,oL v2.aM b7)],[(0,bT (bN h8))],[(13,oE (ik (aU h8))),(19,cL (Wp v1 aE aW h9))],[]] ?_;refine bc J (fun aA J=> ?_) fun aA J=> ?_
    ·cases J;exact wr af [[(0,bT aA)],[]]
    obtain⟨a7,J⟩:=dg J;exact gN af dU (v11+1,aC,(aP++[aW.1])) [[(0,bF aA)],[(11,⟨_,_, .eq (congrArg AV.full (kL [aW.1]).symm)⟩),(13,⟨_,_, .app (xs:=cT aP) (ys:=cT [aW.1]) (zs:=cT (aP++[aW.1])) (n:=(aP++[aW.1]).length) b7.symm rC rC (by rw[(b7 (l:=aP)),(b7 (l:=[aW.1]))];exact(de a7 (by decide)).1) (by rw[(b7 (l:=aP)),(b7 (l:=[aW.1]))];exact(de a7 (by decide)).2) HS (by first|(rw[(b7 (l:=aP)),(b7 (l:=[aW.1]))];done)|(rw[(b7 (l:=aP)),(b7 (l:=[aW.1]))];rfl)|(rw[(b7 (l:=aP)),(b7 (l:=[aW.1])),ahQ];done)|(rw[(b7 (l:=aP)),(b7 (l:=[aW.1])),ahQ];rfl)|(rw[(b7 (l:=aP)),(b7 (l:=[aW.1])),ah9]))⟩)],[(5,oq (bV h8 rfl h7))]] ⟨bR h8,J⟩
  |cons v6 v7=>
   rw[o9]at J;obtain⟨aH,bk,J⟩:=ar J;refine au af [[(10,oL v2.xIdx cn)],[(0,bT (bN h5))],[(10,oE (eH (aU h5)))],[(13,oE (eH (aU h5))),(22,cL (Mg N v1 v6.aK aH bk))],[]] ?_;refine bc J (fun cg J=> ?_) fun cg J=> ?_
   ·cases J;exact wr af [[(0,bT cg)],[]]
   refine au af [[(0,bF cg)],[],[]] ?_;refine nu 6 3 48 2 [] (.inr (by kernel_rfl)) ?_;refine dX 1 11 (bJ v2.xIdx) (by kernel_rfl) fun bm=> ?_;have bQ:v6.bp.length≤maxLen:=by rw[←bM];exact qH (DJ (j:=3) (d:= .sl (cz v6.bp)) bm (eH (aU h5)) rfl)
   refine jt af 3 [] [2,3,4,6,7,9,10,11] 8 [] [(2,10),(2,11),(2,12),(3,12)] (fun((aT,bK,di,cS,v24):Nat×(aiE ax)×Int64×(aiE aD)×(aiE ax))=>⟨131,[(2,(.ptr 0 0)),(3,(.ptr 1 0)),(4,(.ptr 2 0)),(6,(.ptr 3 0)),(7,(.ptr 4 0)),(9,(ak (v4:Int))),(10,(.ptr 6 0)),(11,(ak (aT:Int)))],[.cells (tp v1).cells, .cells (aF v2).cells, .cells ir, .cells (mu v2 [(bu v3.1.xK),(.d (.sl (bP v3.1.xL))),(.own 5 (bJ v8)),(.d (.v (.slice none 0 0)))]), .cells [(bu di),(.d (.sl (bP cS)))], .front 80 4 v8.length, .cells [(bu aH.1.xK),(.d (.sl (bP aH.1.xL))),(bw v6.bn),(.own 7 (cz v24))], .front 48 2 v24.length]⟩) (fun((aT,bK,di,cS,v24):Nat×(aiE ax)×Int64×(aiE aD)×(aiE ax))=>v6.bp.drop aT=bK∧uu N v8 (fun b6 dZ b1_2=>o9 N v2 v3 (ot N d) v1 v7 (v4+1) b6 dZ b1_2) aH v6 v1 bK aT di cS v24=some r) (fun((aT,bK,di,cS,v24):Nat×(aiE ax)×Int64×(aiE aD)×(aiE ax))=>bK.length) (0,v6.bp,aH.1.xK,aH.1.xL,[]) ⟨rfl,J⟩ ?_;rintro⟨aT,bK,di,cS,v24⟩ ⟨bo,J⟩ f3 jB;cases bK with
   |nil=>
    rw[uu]at J;obtain⟨cC,J⟩:=dg J;exact gN af aN (v4+1,v7,(v8++[(⟨aH.1,v6.bn,v24⟩:az)]),di,cS) [[(13,oE (eH (aU h5))),(22,oL v6.bp bM)],[(0,bF (bO bo))],[(13,⟨_,_, .app (xs:=bJ v8) (ys:=bJ [(⟨aH.1,v6.bn,v24⟩:az)]) (zs:=bJ (v8++[(⟨aH.1,v6.bn,v24⟩:az)])) (n:=(v8++[(⟨aH.1,v6.bn,v24⟩:az)]).length) cn.symm vW vW (by rw[(cn (l:=v8)),(cn (l:=[(⟨aH.1,v6.bn,v24⟩:az)]))];exact(de cC (by decide)).1) (by rw[(cn (l:=v8)),(cn (l:=[(⟨aH.1,v6.bn,v24⟩:az)]))];exact(de cC (by decide)).2) Lg (by first|(rw[(cn (l:=v8)),(cn (l:=[(⟨aH.1,v6.bn,v24⟩:az)]))];done)|(rw[(cn (l:=v8)),(cn (l:=[(⟨aH.1,v6.bn,v24⟩:az)]))];rfl)|(rw[(cn (l:=v8)),(cn (l:=[(⟨aH.1,v6.bn,v24⟩:az)])),ahQ];done)|(rw[(cn (l:=v8)),(cn (l:=[(⟨aH.1,v6.bn,v24⟩:az)])),ahQ];rfl)|(rw[(cn (l:=v8)),(cn (l:=[(⟨aH.1,v6.bn,v24⟩:az)])),ah9]))⟩)],[(5,oq (bV h5 rfl h4))]] ⟨bR h5,J⟩
   |cons v20 v21=>
    rw[uu]at J;obtain⟨eC,bW,J⟩:=ar J;refine au af [[(13,oE (eH (aU h5))),(22,oL v6.bp bM)],[(0,bT (bN bo))],[(13,oE (eH (aU h5))),(25,oE (hY (aU bo))),(31,cL (Mg N v1 v20 eC bW))],[]] ?_;refine bc J (fun dh J=> ?_) fun dh J=> ?_
    ·cases J;exact wr af [[(0,bT dh)],[]]
    obtain⟨dH,J⟩:=dg J;exact gN af jB (aT+1,v21,eC.1.xK,eC.1.xL,(v24++[eC.1])) [[(0,bF dh)],[(13,⟨_,_, .app (xs:=cz v24) (ys:=cz [eC.1]) (zs:=cz (v24++[eC.1])) (n:=(v24++[eC.1]).length) bM.symm nI nI (by rw[(bM (l:=v24)),(bM (l:=[eC.1]))];exact(de dH (by decide)).1) (by rw[(bM (l:=v24)),(bM (l:=[eC.1]))];exact(de dH (by decide)).2) Bw (by first|(rw[(bM (l:=v24)),(bM (l:=[eC.1]))];done)|(rw[(bM (l:=v24)),(bM (l:=[eC.1]))];rfl)|(rw[(bM (l:=v24)),(bM (l:=[eC.1])),ahQ];done)|(rw[(bM (l:=v24)),(bM (l:=[eC.1])),ahQ];rfl)|(rw[(bM (l:=v24)),(bM (l:=[eC.1])),ah9]))⟩)],[(5,oq (bV bo rfl bQ))]] ⟨bR bo,J⟩
theorem aht(N:Nat)(v1:iu)(v2:aq)(r:aq×Int)(J:HZ N v1 v2=some r):bg Tryz.prog 64 [(tp v1),(aF v2)] (·=(.cb [(aF r.1),(ak r.2)])):=(agj N N) v1 v2 r J
def qT(N:Nat)(v1:aq)(OV:aq→aG→aiG (aq×Int))(v2:aG):aiE aq→Nat→(aiE aq)→aiG (aq×Int)
 |[],_,v9=>
  some ((⟨v1.aX,v1.ao,v1.db,v1.aw,v1.aK,v1.xIdx,v9⟩:aq),(0:Int))
 |v7::v8,v5,v9=>
  Option.bind (OV v7 v2) fun v10=>
  bif (v10.2 !=(0:Int))then
   some (fV,v10.2)
  else
   bif (Nat.ble ((v9.length+1)*160) 140737488355328)then
   (fun b6=>qT N v1 OV v2 v8 (v5+1) b6) (v9++[v10.1])
   else none
def oD(N:Nat):Nat→aq→aG→aiG (aq×Int)
 |0,_,_=>none
 |d+1,v1,v2=>
  Option.bind (bif (v1.aX==(3:Int))then some (bL v1.ao==bL v2.ao)else some false) fun v3=>
  bif v3 then
   Option.bind (HZ N (⟨v2.aI,v1.xIdx⟩:iu) v2.bx) fun v4=>
   some (v4.1,v4.2)
  else
   qT N v1 (oD N d) v2 v1.aM 0 []
def Fm(N:Nat)(v1:aq)(v2:aG):aiG (aq×Int):=oD N N v1 v2
theorem ahh(N:Nat):∀d:Nat,(∀(v1:aq)(v2:aG)(r:aq×Int),oD N d v1 v2=some r→bg Tryz.prog 32 [(aF v1),(cy v2)] (·=(.cb [(aF r.1),(ak r.2)]))):=by
 intro d
 induction d with
 |zero=>intro v1 v2 r J;rw[oD]at J;cases J
 |succ d ih=>
  have adQ:=ih;intro v1 v2 r J;rw[oD]at J;refine bD Tryz.func32 (by kernel_rfl) (by kernel_rfl) ?_;refine au af [[]] ?_;obtain⟨v3,h2,J⟩:=ar J;refine cM af [(19,(aJ v3))] [.cells (aF v1).cells, .cells (cy v2).cells, .cells ir] ?_ ?_
  ·refine bc h2 (fun h1 h2=> ?_) fun h1 h2=> ?_
   ·cases h2;exact⟨so (os [12,15,18,21,24,28] (bT h1) []),by kernel_rfl⟩
   cases h2;exact⟨so (os [12,15,18,21,24,28] (bF h1) []),by kernel_rfl⟩
  refine bc J (fun h3 J=> ?_) fun h3 J=> ?_
  ·obtain⟨v4,h4,J⟩:=ar J;cases J;exact wr af [[(0,bT h3)],[(22,cL (aht N (⟨v2.aI,v1.xIdx⟩:iu) v2.bx v4 h4))]]
  refine au af [[(0,bF h3)],[],[],[]] ?_;refine nu 3 12 52 13 [] (.inr (by kernel_rfl)) ?_;refine dX 0 12 (cT v1.aM) (by kernel_rfl) fun h5=> ?_;have h6:=cd b7 h5;refine jt af 1 [] [2,3,4,6,7] 5 [] [(2,10),(2,11),(2,12)] (fun((v5,v6,v9):Nat×(aiE aq)×(aiE aq))=>⟨60,[(2,(.ptr 0 0)),(3,(.ptr 1 0)),(4,(.ptr 2 0)),(6,(.ptr 3 0)),(7,(ak (v5:Int)))],[.cells (aF v1).cells, .cells (cy v2).cells, .cells ir, .cells (cf4 v1 [(.own 4 (cT v9))]), .front 52 13 v9.length]⟩) (fun((v5,v6,v9):Nat×(aiE aq)×(aiE aq))=>v1.aM.drop v5=v6∧qT N v1 (oD N d) v2 v6 v5 v9=some r) (fun((v5,v6,v9):Nat×(aiE aq)×(aiE aq))=>v6.length) (0,v1.aM,[]) ⟨rfl,J⟩ ?_;rintro⟨v5,v6,v9⟩ ⟨h7,J⟩ f1 aN;cases v6 with
  |nil=>
   rw[qT]at J;cases J;exact wr af [[(10,oL v1.aM b7)],[(0,bF (bO h7))],[]]
  |cons v7 v8=>
   rw[qT]at J;obtain⟨v10,h8,J⟩:=ar J;refine au af [[(10,oL v1.aM b7)],[(0,bT (bN h7))],[(10,oE (ik (aU h7))),(19,cL (adQ v7 v2 v10 h8))],[]] ?_;refine bc J (fun h9 J=> ?_) fun h9 J=> ?_
   ·cases J;exact wr af [[(0,bT h9)],[]]
   obtain⟨aA,J⟩:=dg J;exact gN af aN (v5+1,v8,(v9++[v10.1])) [[(0,bF h9)],[(11,⟨_,_, .eq (congrArg AV.full (kL [v10.1]).symm)⟩),(13,⟨_,_, .app (xs:=cT v9) (ys:=cT [v10.1]) (zs:=cT (v9++[v10.1])) (n:=(v9++[v10.1]).length) b7.symm rC rC (by rw[(b7 (l:=v9)),(b7 (l:=[v10.1]))];exact(de aA (by decide)).1) (by rw[(b7 (l:=v9)),(b7 (l:=[v10.1]))];exact(de aA (by decide)).2) HS (by first|(rw[(b7 (l:=v9)),(b7 (l:=[v10.1]))];done)|(rw[(b7 (l:=v9)),(b7 (l:=[v10.1]))];rfl)|(rw[(b7 (l:=v9)),(b7 (l:=[v10.1])),ahQ];done)|(rw[(b7 (l:=v9)),(b7 (l:=[v10.1])),ahQ];rfl)|(rw[(b7 (l:=v9)),(b7 (l:=[v10.1])),ah9]))⟩)],[(5,oq (bV h7 rfl h6))]] ⟨bR h7,J⟩
theorem adw(N:Nat)(v1:aq)(v2:aG)(r:aq×Int)(J:Fm N v1 v2=some r):bg Tryz.prog 32 [(aF v1),(cy v2)] (·=(.cb [(aF r.1),(ak r.2)])):=(ahh N N) v1 v2 r J
end Go.Proofs.YtphmhnabilhbgaaGreatDoor
