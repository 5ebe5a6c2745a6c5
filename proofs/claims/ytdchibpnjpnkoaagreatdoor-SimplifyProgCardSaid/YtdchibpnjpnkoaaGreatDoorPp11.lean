/-
  Part 11 of the proof: PQ2.
-/
import Derived.Test.YtdchibpnjpnkoaaGreatDoorPp10
namespace Go.Proofs.YtdchibpnjpnkoaaGreatDoor
open Go.RowKit
set_option maxRecDepth 100000
set_option maxHeartbeats 0
set_option linter.unusedVariables false
theorem k01{α β γ:Type}{a:Option α}{b:α->Option β}{f:α->β->Option γ}{r:γ}(h:Option.bind a (λx=>Option.bind (b x) (f x))=some r):∃x,a=some x/\∃y,b x=some y/\f x y=some r:=have⟨x,p,h⟩:=dC h;have⟨y,q,h⟩:=dC h;⟨x,p,y,q,h⟩
theorem k00{α β:Type}{P:α->β->Prop}(a:α)(b:β)(h:P a b:=by kernel_rfl):∃a b,P a b:=⟨a,b,h⟩
def fA:an:=⟨(0:Int),(bs []),bW,cY,dq,[],[]⟩
def ET:gS:=⟨cY,false⟩
def ft:asn AV:=[(aw (0:Int)),(bq (bs [])),(aW (0:Int64)),(aW (0:Int64)),(aw (0:Int)),(aw (0:Int)),(aw (0:Int)),(aw (0:Int)),(aw (0:Int)),(aW (0:Int64)),(.d (.v (.slice none 0 0))),(.d (.v (.slice none 0 0))),(.d (.v (.slice none 0 0)))]
def gZ:asn AV:=[(aW (0:Int64)),(aW (0:Int64))]
def rW:asn AV:=[(aw (0:Int)),(aw (0:Int)),(aw (0:Int)),(aw (0:Int)),(aw (0:Int)),(az false)]
def wx:asn AV:=[(aW (0:Int64)),(.d (.v (.slice none 0 0)))]
def RH(v:an)(r:asn AV):asn AV:=(aw v.ar)::(bq v.aC)::(aW v.bD.xN)::(aW v.bD.xD)::(aw v.ay.aO)::(aw v.ay.bo)::(aw v.ay.bE)::(aw v.ay.bN)::(aw v.ay.bM)::r
def cf1(v:aE)(r:asn AV):asn AV:=(aw v.aO)::(aw v.bo)::(aw v.bE)::(aw v.bN)::(aw v.bM)::r
def uR(N:Nat)(v8:asn aZ)(v3:asn aZ)(v9:asn an)(v1:an)(v2:aH×Int)(GK:an->asp (an×Int)):asn an->Nat->(asn an)->asp (an×Int)
 |[],_,aV=>
  bif (Nat.beq v8.length v3.length)then
  bif (Nat.beq aV.length v9.length)then
  some ((⟨v1.ar,v1.aC,v1.bD,v1.ay,v2.1,v8,aV⟩:an),(0:Int))
  else none
  else none
 |v12::aF,v10,aV=>
  (GK v12).bind λbt=>
  bif (Nat.beq aV.length v9.length)then
  bif (decide ((v10:Int)<(v9.length:Int)))then
  Option.bind (aV[v10]?) λbK=>
  bif (bt.2 !=0)then
   some (fA,bt.2)
  else
   (λiP=>uR N v8 v3 v9 v1 v2 GK aF (v10+1) iP) (aV.set v10 bt.1)
  else none
  else none
def uD(N:Nat)(bX:asn aH)(pg:(asn aZ)->asp (an×Int))(v8:asn aZ)(v4:Nat)(bC:aH×Int)(aR:aZ):asn aH->Nat->(asn aH)->asp (an×Int)
 |[],_,v24=>
  bif (Nat.beq v24.length bX.length)then
  pg ((v8.set v4 (⟨bC.1,aR.bS,aR.bH⟩:aZ)).set v4 (⟨(⟨bC.1,aR.bS,aR.bH⟩:aZ).aM,(⟨bC.1,aR.bS,aR.bH⟩:aZ).bS,v24⟩:aZ))
  else none
 |cM::cF,v20,v24=>
  (BF N cM).bind λn6=>
  bif (Nat.beq v24.length bX.length)then
  bif (decide ((v20:Int)<(bX.length:Int)))then
  Option.bind (v24[v20]?) λqo=>
  bif (n6.2 !=0)then
   some (fA,n6.2)
  else
   (λnQ=>uD N bX pg v8 v4 bC aR cF (v20+1) nQ) (v24.set v20 n6.1)
  else none
  else none
def sO(N:Nat)(v1:an)(v3:asn aZ)(v2:aH×Int)(GK:an->asp (an×Int)):asn aZ->Nat->(asn aZ)->asp (an×Int)
 |[],_,v8=>
  (OZ N v1.ax).bind λv9=>
  uR N v8 v3 v9 v1 v2 GK v1.ax 0 v9
 |v6::v7,v4,v8=>
  (BF N v6.aM).bind λbC=>
  bif (Nat.beq v8.length v3.length)then
  bif (decide ((v4:Int)<(v3.length:Int)))then
  Option.bind (v8[v4]?) λaR=>
  bif (bC.2 !=0)then
   some (fA,bC.2)
  else
   (OG N v6.bH).bind λbX=>
   bif (Nat.beq (v8.set v4 (⟨bC.1,aR.bS,aR.bH⟩:aZ)).length v3.length)then
   uD N bX (λcD=>sO N v1 v3 v2 GK v7 (v4+1) cD) v8 v4 bC aR v6.bH 0 bX
   else none
  else none
  else none
def rj(N:Nat):Nat->an->asp (an×Int)
 |0,_=>none
 |d+1,v1=>
  (BF N v1.aM).bind λv2=>
  bif (v2.2 !=0)then
   some (fA,v2.2)
  else
   (Oa N v1.xIdx).bind λv3=>
   sO N v1 v3 v2 (rj N d) v1.xIdx 0 v3
def O2(N:Nat)(v1:an):asp (an×Int):=rj N N v1
def T5(v1:an)(l:asn ao):asn ao:= .cells (aA v1).cells:: .cells ft::l
def HI(v1:an)(v2:aH×Int)(v3:asn aZ)(l:asn ao):asn ao:=T5 v1 (.cells (RH v1 [(aW v2.1.xK),(.d (.sl (cz v2.1.xL))),(.vec 3 0 v3.length v3.length 4),(.d (.sl (dn v1.ax)))])::l)
def VJ(v1:an)(v2:aH×Int)(v3:asn aZ)(v9:asn an)(v8:asn aZ)(aV:asn an)(l:asn ao):asn ao:=T5 v1 (.cells (RH v1 [(aW v2.1.xK),(.d (.sl (cz v2.1.xL))),(.vec 3 0 v3.length v3.length 4),(.vec 4 0 v9.length v9.length 13)]):: .vec 59 4 (bn (v8.map fZ)):: .vec 51 13 (bn (aV.map dd))::l)
theorem ans(N:Nat):∀d:Nat,(∀{v1:an}{r:an×Int},rj N d v1=some r->KH 60 [(aA v1),(.fn 61 [])] [] (.aX [(aA r.1),(aw r.2)]) []):=by
 intro d
 induction d with
 |zero=>intro v1 r J;rw[rj]at J;cases J
 |succ d ih=>
  have alg:= @ih;intro v1 r J;rw[rj]at J;refine Is 0 Tryz.func60 ?_;obtain⟨v2,h1,J⟩:=dC J;refine kx cn [[],[],[],[(10,cK Oc h1)],[]] ?_;apply bc J<;>intro h2 J
  ·cases J;exact u9 cn [[(0,bT h2)],[]]
  obtain⟨v3,h3,J⟩:=dC J;refine kx cn [[(0,bF h2)],[(7,oX og (ua (xs:=(v3.map fZ)) og) [(.d (.sl (cU v1.xIdx)))] (T5 v1 [.cells (RH v1 [(aW v2.1.xK),(.d (.sl (cz v2.1.xL))),(.d (.sl (cU v1.xIdx))),(.d (.sl (dn v1.ax)))])]) [] (afk h3))],[(7,oL v1.xIdx eD)]] ?_;refine yV nf 32 v1.xIdx λh5=> ?_;refine yi cn 1 [] [1,2,4,6,32,33,34] 4 [] [(1,10),(1,11),(1,12)] (λ((v4,v5,v8):Nat×(asn aZ)×(asn aZ))=>⟨119,[(1,(.fn 61 [])),(2,(.ptr 0 0)),(4,(.ptr 1 0)),(6,(.ptr 2 0)),(32,(.d (.sl (cU v1.xIdx)))),(33,(aw (v1.xIdx.length:Int))),(34,(aw (v4:Int)))],(HI v1 v2 v3 [.vec 59 4 (bn (v8.map fZ))])⟩) (λ((v4,v5,v8):Nat×(asn aZ)×(asn aZ))=>v1.xIdx.drop v4=v5/\sO N v1 v3 v2 (rj N d) v5 v4 v8=some r) (λ((v4,v5,v8):Nat×(asn aZ)×(asn aZ))=>v5.length) (0,v1.xIdx,v3) ⟨rfl,J⟩ ?_ (dS:=[.iX (v3.map fZ)]);rintro⟨v4,v5,v8⟩ ⟨h6,J⟩ f1 aD;cases v5 with
  |nil=>
   rw[sO]at J;obtain⟨v9,h7,J⟩:=dC J;refine kx cn [[],[(0,bF (b5 h6))],[(7,oX og (ua (xs:=(v9.map dd)) og) [(.d (.sl (dn v1.ax)))] (HI v1 v2 v3 [.vec 59 4 (bn (v8.map fZ))]) [] (afH h7))],[(7,oL v1.ax dZ)]] ?_;refine yV lR 96 v1.ax λh9=> ?_;refine yi cn 2 [] [1,4,6,96,97,98] 5 [] [(1,10),(1,11),(1,12)] (λ((v10,v11,aV):Nat×(asn an)×(asn an))=>⟨119,[(1,(.fn 61 [])),(4,(.ptr 1 0)),(6,(.ptr 2 0)),(96,(.d (.sl (dn v1.ax)))),(97,(aw (v1.ax.length:Int))),(98,(aw (v10:Int)))],(VJ v1 v2 v3 v9 v8 aV [])⟩) (λ((v10,v11,aV):Nat×(asn an)×(asn an))=>v1.ax.drop v10=v11/\uR N v8 v3 v9 v1 v2 (rj N d) v11 v10 aV=some r) (λ((v10,v11,aV):Nat×(asn an)×(asn an))=>v11.length) (0,v1.ax,v9) ⟨rfl,J⟩ ?_ (dS:=[.iX (v8.map fZ), .iX (v9.map dd)]);rintro⟨v10,v11,aV⟩ ⟨aK,J⟩ f2 dI;cases v11 with
   |nil=>
    rw[uR]at J;obtain⟨aL,J⟩:=l5 J;obtain⟨aT,J⟩:=l5 J;refine kx cn [[],[(0,bF (b5 aK))]] ?_;refine xn [4,6] 3 (cU v8) v3.length 1 59 4 [.iX (v8.map fZ), .iX (aV.map dd)] (uY (arM aL)) (sb _) (vh (λ_=>rfl) _) ?_;refine xn [4,6] 4 (dn aV) v9.length 1 51 13 [.iX (aV.map dd)] (uY (arM aT)) (gh _) (vh (λ_=>rfl) _) ?_;cases J;exact u9 cn [[]]
   |cons v12 aF=>
    rw[uR]at J;obtain⟨bt,bu,J⟩:=dC J;obtain⟨bf,J⟩:=l5 J;obtain⟨a7,J⟩:=l5 J;obtain⟨bK,bm,J⟩:=dC J;refine kx cn [[],[(0,bT (bU aK))],[(4,oE (bx (ba aK)))],[(16,oQ [(aA v12),(.fn 61 [])] (VJ v1 v2 v3 v9 v8 aV [.cells (aA v12).cells]) [] (alg bu)),(28,⟨_,_, .pr (.ix v10) (mj (iL (f:=dd) (arM bf)) (Int.natCast_nonneg _) (of_decide_eq_true a7) (arZ _))⟩),(31,⟨_,_, .pr (.st ((dd bK).map AV.d) (bn ((aV.set v10 bt.1).map dd))) (wO (f:=dd) (j:=0) (y:=bt.1) (zs:=[(aw bt.1.ar),(bq bt.1.aC),(aW bt.1.bD.xN),(aW bt.1.bD.xD),(aw bt.1.ay.aO),(aw bt.1.ay.bo),(aw bt.1.ay.bE),(aw bt.1.ay.bN),(aw bt.1.ay.bM),(aW bt.1.aM.xK),(.d (.sl (cz bt.1.aM.xL))),(.d (.sl (cU bt.1.xIdx))),(.d (.sl (dn bt.1.ax)))]) (arM bf) bm rfl)⟩)],[]] ?_;apply bc J<;>intro bQ J
    ·cases J;exact u9 cn [[(0,bT bQ)],[]]
    exact C1 cn dI (v10+1,aF,(aV.set v10 bt.1)) [[(0,bF bQ)],[(2,oq (ca aK rfl h9))]] ⟨l6 aK,J⟩ (dS:=[.iX (v8.map fZ), .iX ((aV.set v10 bt.1).map dd)])
  |cons v6 v7=>
   rw[sO]at J;obtain⟨bC,cA,J⟩:=dC J;obtain⟨cv,J⟩:=l5 J;obtain⟨b8,J⟩:=l5 J;obtain⟨aR,cJ,J⟩:=dC J;refine kx cn [[],[(0,bT (bU h6))],[(4,oE (gX (ba h6)))],[(19,cK Oc cA),(31,⟨_,_, .pr (.ix v4) (mj (iL (f:=fZ) (arM cv)) (Int.natCast_nonneg _) (of_decide_eq_true b8) (arZ _))⟩),(34,⟨_,_, .pr .no trivial⟩),(37,⟨_,_, .pr (.st ((fZ aR).map AV.d) (bn ((v8.set v4 (⟨bC.1,aR.bS,aR.bH⟩:aZ)).map fZ))) (wO (f:=fZ) (j:=0) (y:=(⟨bC.1,aR.bS,aR.bH⟩:aZ)) (zs:=[(aW bC.1.xK),(.d (.sl (cz bC.1.xL)))]) (arM cv) cJ rfl)⟩)],[]] ?_;apply bc J<;>intro cS J
   ·cases J;exact u9 cn [[(0,bT cS)],[]]
   obtain⟨bX,dw,J⟩:=dC J;obtain⟨eC,J⟩:=l5 J;refine kx cn [[(0,bF cS)],[(16,oX og (ua (xs:=(bX.map kQ)) og) [(.d (.sl (dk v6.bH)))] (HI v1 v2 v3 [.vec 59 4 (bn ((v8.set v4 (⟨bC.1,aR.bS,aR.bH⟩:aZ)).map fZ)), .cells (aIndex v6).cells]) [] (aeZ dw)),(19,⟨_,_, .pr (.ix v4) (mj (iL (f:=fZ) (arM eC)) (Int.natCast_nonneg _) (of_decide_eq_true b8) (arZ _))⟩),(22,⟨_,_, .pr .no trivial⟩),(25,⟨_,_, .pr (.st ((fZ (⟨bC.1,aR.bS,aR.bH⟩:aZ)).map AV.d) ((bn ((v8.set v4 (⟨bC.1,aR.bS,aR.bH⟩:aZ)).map fZ)).set v4 [(aW (⟨bC.1,aR.bS,aR.bH⟩:aZ).aM.xK),(.d (.sl (cz (⟨bC.1,aR.bS,aR.bH⟩:aZ).aM.xL))),(bq (⟨bC.1,aR.bS,aR.bH⟩:aZ).bS),(.vec 5 0 bX.length bX.length 2)])) (ae2 (f:=fZ) (j:=3) (r:=[(aW (⟨bC.1,aR.bS,aR.bH⟩:aZ).aM.xK),(.d (.sl (cz (⟨bC.1,aR.bS,aR.bH⟩:aZ).aM.xL))),(bq (⟨bC.1,aR.bS,aR.bH⟩:aZ).bS),(.vec 5 0 bX.length bX.length 2)]) (zs:=[(.vec 5 0 bX.length bX.length 2)]) (arM eC) (adf cJ) rfl)⟩)],[(7,oL v6.bH dR)]] ?_;refine yV od 64 v6.bH λim=> ?_;refine yi cn 3 [] [1,2,4,6,8,32,33,34,64,65,66] 6 [] [(1,10),(1,11),(1,12)] (λ((v20,v21,v24):Nat×(asn aH)×(asn aH))=>⟨119,[(1,(.fn 61 [])),(2,(.ptr 0 0)),(4,(.ptr 1 0)),(6,(.ptr 2 0)),(8,(aw (v4:Int))),(32,(.d (.sl (cU v1.xIdx)))),(33,(aw (v1.xIdx.length:Int))),(34,(aw (v4:Int))),(64,(.d (.sl (dk v6.bH)))),(65,(aw (v6.bH.length:Int))),(66,(aw (v20:Int)))],(HI v1 v2 v3 [.vec 59 4 ((bn ((v8.set v4 (⟨bC.1,aR.bS,aR.bH⟩:aZ)).map fZ)).set v4 [(aW (⟨bC.1,aR.bS,aR.bH⟩:aZ).aM.xK),(.d (.sl (cz (⟨bC.1,aR.bS,aR.bH⟩:aZ).aM.xL))),(bq (⟨bC.1,aR.bS,aR.bH⟩:aZ).bS),(.vec 5 0 bX.length bX.length 2)]), .cells (aIndex v6).cells, .vec 36 2 (bn (v24.map kQ))])⟩) (λ((v20,v21,v24):Nat×(asn aH)×(asn aH))=>v6.bH.drop v20=v21/\uD N bX (λcD=>sO N v1 v3 v2 (rj N d) v7 (v4+1) cD) v8 v4 bC aR v21 v20 v24=some r) (λ((v20,v21,v24):Nat×(asn aH)×(asn aH))=>v21.length) (0,v6.bH,bX) ⟨rfl,J⟩ ?_ (dS:=[.row ((v8.set v4 (⟨bC.1,aR.bS,aR.bH⟩:aZ)).map fZ) v4 [(aW (⟨bC.1,aR.bS,aR.bH⟩:aZ).aM.xK),(.d (.sl (cz (⟨bC.1,aR.bS,aR.bH⟩:aZ).aM.xL))),(bq (⟨bC.1,aR.bS,aR.bH⟩:aZ).bS),(.vec 5 0 bX.length bX.length 2)], .iX (bX.map kQ)])
   rintro⟨v20,v21,v24⟩ ⟨fu,J⟩ f3 iI;cases v21 with
   |nil=>
    rw[uD]at J;obtain⟨gw,J⟩:=l5 J;refine kx cn [[],[(0,bF (b5 fu))]] ?_;refine xn [1,2,4,6,32,33,34] 5 (dk v24) bX.length 0 36 2 [.row fZ (v8.set v4 (⟨bC.1,aR.bS,aR.bH⟩:aZ)) v4 [(aW (⟨bC.1,aR.bS,aR.bH⟩:aZ).aM.xK),(.d (.sl (cz (⟨bC.1,aR.bS,aR.bH⟩:aZ).aM.xL))),(bq (⟨bC.1,aR.bS,aR.bH⟩:aZ).bS),(.vec 5 0 bX.length bX.length 2)] (⟨(⟨bC.1,aR.bS,aR.bH⟩:aZ).aM,(⟨bC.1,aR.bS,aR.bH⟩:aZ).bS,v24⟩:aZ) 1, .iX (v24.map kQ)] (uY (arM gw)) (tJ _) (vh (λ_=>rfl) _) ?_;exact C1 cn aD (v4+1,v7,((v8.set v4 (⟨bC.1,aR.bS,aR.bH⟩:aZ)).set v4 (⟨(⟨bC.1,aR.bS,aR.bH⟩:aZ).aM,(⟨bC.1,aR.bS,aR.bH⟩:aZ).bS,v24⟩:aZ))) [[(2,oq (ca h6 rfl h5))]] ⟨l6 h6,J⟩ (dS:=[.iX (((v8.set v4 (⟨bC.1,aR.bS,aR.bH⟩:aZ)).set v4 (⟨(⟨bC.1,aR.bS,aR.bH⟩:aZ).aM,(⟨bC.1,aR.bS,aR.bH⟩:aZ).bS,v24⟩:aZ)).map fZ)])
   |cons cM cF=>
    rw[uD]at J;obtain⟨n6,mD,J⟩:=dC J;obtain⟨vu,J⟩:=l5 J;obtain⟨x8,J⟩:=l5 J;obtain⟨qo,Oo,J⟩:=dC J;refine kx cn [[],[(0,bT (bU fu))],[(4,oE (kT (ba fu)))],[(10,⟨_,_, .pr (.ix v4) (mj (af8 (i:=v4) (r:=[(aW (⟨bC.1,aR.bS,aR.bH⟩:aZ).aM.xK),(.d (.sl (cz (⟨bC.1,aR.bS,aR.bH⟩:aZ).aM.xL))),(bq (⟨bC.1,aR.bS,aR.bH⟩:aZ).bS),(.vec 5 0 bX.length bX.length 2)]) (f:=fZ) (arM eC)) (Int.natCast_nonneg _) (of_decide_eq_true b8) (arZ _))⟩),(13,⟨_,_, .pr .no trivial⟩),(16,⟨_,_, .pr (.el [(aW (⟨bC.1,aR.bS,aR.bH⟩:aZ).aM.xK),(.d (.sl (cz (⟨bC.1,aR.bS,aR.bH⟩:aZ).aM.xL))),(bq (⟨bC.1,aR.bS,aR.bH⟩:aZ).bS),(.vec 5 0 bX.length bX.length 2)]) (aef (f:=fZ) [(aW (⟨bC.1,aR.bS,aR.bH⟩:aZ).aM.xK),(.d (.sl (cz (⟨bC.1,aR.bS,aR.bH⟩:aZ).aM.xL))),(bq (⟨bC.1,aR.bS,aR.bH⟩:aZ).bS),(.vec 5 0 bX.length bX.length 2)] (arM eC) (adf cJ))⟩),(28,cK Oc mD),(40,⟨_,_, .pr (.ix v20) (mj (iL (f:=kQ) (arM vu)) (Int.natCast_nonneg _) (of_decide_eq_true x8) (arZ _))⟩),(43,⟨_,_, .pr (.st ((kQ qo).map AV.d) (bn ((v24.set v20 n6.1).map kQ))) (wO (f:=kQ) (j:=0) (y:=n6.1) (zs:=[(aW n6.1.xK),(.d (.sl (cz n6.1.xL)))]) (arM vu) Oo rfl)⟩)],[]] ?_
    apply bc J<;>intro T6 J
    ·cases J;exact u9 cn [[(0,bT T6)],[]]
    exact C1 cn iI (v20+1,cF,(v24.set v20 n6.1)) [[(0,bF T6)],[(2,oq (ca fu rfl im))]] ⟨l6 fu,J⟩ (dS:=[.row ((v8.set v4 (⟨bC.1,aR.bS,aR.bH⟩:aZ)).map fZ) v4 [(aW (⟨bC.1,aR.bS,aR.bH⟩:aZ).aM.xK),(.d (.sl (cz (⟨bC.1,aR.bS,aR.bH⟩:aZ).aM.xL))),(bq (⟨bC.1,aR.bS,aR.bH⟩:aZ).bS),(.vec 5 0 bX.length bX.length 2)], .iX ((v24.set v20 n6.1).map kQ)])
theorem akK{N v1 r}(J:O2 N v1=some r):KH 60 [(aA v1),(.fn 61 [])] [] (.aX [(aA r.1),(aw r.2)]) []:=(ans N N) J
def vY(N:Nat)(v1:an):asp an:=
 (O2 N v1).bind λv2=>
 some v2.1
theorem Td{N v1}:KO 29 [(aA v1)] aA (vY N v1):=
 fw Tryz.func29 (aq λv2 h1=>gR [[],[(4,oQ [(aA v1),(.fn 61 [])] [.cells (aA v1).cells, .cells ft] [] (akK h1))],[]])
def xF(N:Nat)(v2:Bool):asp Bool:=
 bif v2 then
  some true
 else
  some false
def SS(N:Nat)(v1:fm):asp Bool:=
 bif (v1.yE.ar==4)then
  xF N (v1.yE.ar==4)
 else
  bif (v1.yE.ar==5)then
   xF N (v1.yE.ar==5)
  else
   bif (v1.yE.ar==6)then
    xF N (v1.yE.ar==6)
   else
    bif (v1.yE.ar==7)then
     xF N (v1.yE.ar==7)
    else
     bif (v1.yE.ar==9)then
      xF N (v1.yE.ar==9)
     else
      xF N (v1.yE.ar==10)
theorem XI{N v1}:KO 141 [(dm v1)] az (SS N v1):=
 fw Tryz.func141 (ir 1 [[],[],[]] [6] 1 (λ(v2:Bool)=>⟨13,[(6,(az v2))],[.cells (dm v1).cells]⟩) (xF N) (λf1 aD=>au (λh2=>gm aD (v1.yE.ar==4) [[t0 h2]]) λh2=>gA [[f0 h2],[]] (au (λh3=>gm aD (v1.yE.ar==5) [[t0 h3]]) λh3=>gA [[f0 h3],[]] (au (λh4=>gm aD (v1.yE.ar==6) [[t0 h4]]) λh4=>gA [[f0 h4],[]] (au (λh5=>gm aD (v1.yE.ar==7) [[t0 h5]]) λh5=>gA [[f0 h5],[]] (au (λh6=>gm aD (v1.yE.ar==9) [[t0 h6]]) λh6=>gm aD (v1.yE.ar==10) [[f0 h6],[]]))))) (λv2=>aP λh1=>gR [[f0 h1],[]]))
def JX(N:Nat)(v1:aE):asn aG->Nat->asp Int
 |[],_=>
  some (0:Int)
 |v6::v7,v4=>
  (tF N v1 v6).bind λv8=>
  bif v8 then
   (JX N v1 v7 (v4+1))
  else
   some (1:Int)
def qW(N:Nat)(v1:aE)(v2:asn aG):asp Int:=
 (ve N v1).bind λv3=>
 bif (v3 !=0)then
  some v3
 else
  JX N v1 v2 0
theorem AZ{N v1 v2}:KO 288 [(bY v1),(.d (.sl (rQ v2)))] aw (qW N v1 v2):=
 fw Tryz.func288 (aq λv3 h1=>gA [[],[(4,cK Lh h1)],[]] (aP λh2=>gA [[f0 h2],[(4,oL v2 VZ)]] (gT alS 1 v2 λh4=>dO 1 [] [2,13,14,15] 1 (λv4=>⟨24,[(2,(.ptr 0 0)),(13,(.d (.sl (rQ v2)))),(14,(aw (v2.length:Int))),(15,(aw (v4:Int)))],[.cells (bY v1).cells]⟩) (λv4 h5 f1=>gR [[],[f0 (b5 h5)],[]]) (λv4 v6 v7 h5 f1 aD=>aq λv8 h6=>gA [[],[t0 (bU h5)],[(1,oE (ahg (ba h5)))],[(7,cK Pc h6)]] (eg λh7=>gb aD () [[f0 (bV h7)],[(2,oq (ca h5 rfl h4))]] h5)))))
def PC(N:Nat)(v1:aE)(v2:Int64)(v3:Int64):asp (Int64×Int):=
 some ((-v2),(0:Int))
theorem af7{N v1 v2 v3}:KO 280 [(bY v1),(aW v2),(aW v3)] (λr=> .aX [(aW r.1),(aw r.2)]) (PC N v1 v2 v3):=
 fw Tryz.func280 (gR [[],[(5,⟨_,_, .eq (lX v2)⟩)]])
def Sz(N:Nat)(v1:Int64)(v2:Int)(v3:Int):asp (Int64×Bool):=
 (zX N v2).bind λv4=>
 Option.bind (bif v4 then(bif (v3 !=1)then some (v3 !=2)else some false)else some true) λv5=>
 bif v5 then
  some ((0:Int64),false)
 else
  (DQ N v2).bind λv6=>
  (Fp N v2).bind λv7=>
  Option.bind (bif (decide (v1.toInt>=v6.toInt))then some (decide (v1.toInt<=v7.toInt))else some false) λv8=>
  bif v8 then
   some (v1,false)
  else
   Option.bind (bif (v3==1)then some (decide (v1.toInt<v6.toInt))else some false) λv9=>
   bif v9 then
    some (v6,true)
   else
    bif (v3==1)then
     some (v7,true)
    else
     bif (decide ((0:Int)<=(IntKind.u64.wrap (aI ((64:Int)-v2)))))then
     some ((Int64.ofInt (((Int64.ofInt (IntKind.u64.wrap ((IntKind.u64.wrap v1.toInt)*2^(min ((IntKind.u64.wrap (aI ((64:Int)-v2)))).toNat (IntKind.bits .u64))))).toInt).fdiv (2^(min ((IntKind.u64.wrap (aI ((64:Int)-v2)))).toNat (IntKind.bits .i64))))),true)
     else none
theorem apQ{N v1 v2 v3}:KO 290 [(aW v1),(aw v2),(aw v3)] (λr=> .aX [(aW r.1),(az r.2)]) (Sz N v1 v2 v3):=
 fw Tryz.func290 (gA [[]] (aq λv4 h1=>gG (λv5=>[(21,(az v5))]) (λ_=>[]) (bz (4,cK Om h1) (au (λh2=>aY (3,bF (bV h2)) (au (λh3=>gE [(6,bT h3)] [(28,bT h3)]) λh3=>gE [(6,bF h3)] [(28,bF h3)])) λh2=>gE [(3,bT (cx h2)),(6,uN)] [])) λv5=>aP λh5=>aq λv6 h6=>aq λv7 h7=>gA [[f0 h5],[(4,cK WQ h6),(10,cK aaP h7)]] (gG (λv8=>[(26,(az v8))]) (λ_=>[]) (au (λh8=>gE [(3,bT h8)] []) λh8=>gE [(3,bF h8)] []) λv8=>aP λaK=>gA [[f0 aK]] (gG (λv9=>[(36,(az v9))]) (λ_=>[]) (au (λaL=>gE [(2,bT aL)] []) λaL=>gE [(2,bF aL)] []) λv9=>dM λ_=>aP λbf=>cO λa7=>gR [[f0 bf],[],[(10,⟨_,_, .nn (b:=(IntKind.u64.wrap (aI ((64:Int)-v2)))) (of_decide_eq_true a7)⟩),(14,⟨_,_, .eq (fM (IntKind.u64.wrap ((IntKind.u64.wrap v1.toInt)*2^(min ((IntKind.u64.wrap (aI ((64:Int)-v2)))).toNat (IntKind.bits .u64)))))⟩),(19,⟨_,_, .nn (b:=(IntKind.u64.wrap (aI ((64:Int)-v2)))) (of_decide_eq_true a7)⟩),(20,⟨_,_, .eq (afC (Int64.ofInt (IntKind.u64.wrap ((IntKind.u64.wrap v1.toInt)*2^(min ((IntKind.u64.wrap (aI ((64:Int)-v2)))).toNat (IntKind.bits .u64))))) (min ((IntKind.u64.wrap (aI ((64:Int)-v2)))).toNat (IntKind.bits .i64)))⟩)]]))))
def oa(N:Nat)(v1:aE)(v2:Int64):asp aG:=
 (Sz N v2 v1.bo v1.bM).bind λv3=>
 some (⟨v3.1,(1:Int64)⟩:aG)
theorem Ba{N v1 v2}:KO 239 [(bY v1),(aW v2)] a8 (oa N v1 v2):=
 fw Tryz.func239 (aq λv3 h1=>gR [[],[(16,cK apQ h1)],[]])
def Qc(N:Nat)(v1:aE)(v2:aG)(v3:aG):asp (aG×Int):=
 Option.bind (qW N v1 ([v2,v3])) λv4=>
 bif (v4 !=0)then
  some (bW,v4)
 else
  (PC N v1 v2.xN v3.xN).bind λv5=>
  bif (v5.2 !=0)then
   some (bW,v5.2)
  else
   (oa N v1 v5.1).bind λv6=>
   some (v6,(0:Int))
theorem apK{N v1 v2 v3}:KP 279 [(.agg [(.fn 280 [])]),(bY v1),(a8 v2),(a8 v3)] [] (λr=> .aX [(a8 r.1),(aw r.2)]) (λ_=>[]) (Qc N v1 v2 v3):=
 fh 0 Tryz.func279 (aq λv4 h1=>gA [[],[(13,cK AZ h1)],[]] (au (λh2=>gH [[t0 h2],[]]) λh2=>aq λv5 h3=>gA [[f0 h2],[(22,cK af7 h3)],[]] (au (λh4=>gH [[t0 h4],[]]) λh4=>aq λv6 h5=>gH [[f0 h4],[(7,cK Ba h5)]])))
def GB(N:Nat)(v1:aE)(v2:aG):asp (aG×Int):=
 (Qc N v1 v2 v2).bind λv3=>
 some (v3.1,v3.2)
theorem al8{N v1 v2}:KO 226 [(bY v1),(a8 v2)] (λr=> .aX [(a8 r.1),(aw r.2)]) (GB N v1 v2):=
 fw Tryz.func226 (aq λv3 h1=>gR [[],[(13,oQ [(.agg [(.fn 280 [])]),(bY v1),(a8 v2),(a8 v2)] [.cells (bY v1).cells, .cells (a8 v2).cells, .cells gZ] [] (apK _ h1))]])
def IY(N:Nat)(v1:aE)(v2:aG):asp (aG×Int):=
 bif (v1.aO==2)then
  (GB N v1 v2).bind λv3=>
  some (v3.1,v3.2)
 else
  some ((⟨(-v2.xN),v2.xD⟩:aG),(0:Int))
theorem apb{N v1 v2}:KO 192 [(bY v1),(a8 v2)] (λr=> .aX [(a8 r.1),(aw r.2)]) (IY N v1 v2):=
 fw Tryz.func192 (gA [[],[]] (au (λh1=>aq λv3 h2=>gR [[t0 h1],[(7,cK al8 h2)]]) λh1=>gR [[f0 h1],[(8,⟨_,_, .eq (lX v2.xN)⟩)]]))
def Cg(N:Nat)(v1:Int64)(v2:Int64):asp Int:=
 bif (decide (v1.toInt<v2.toInt))then
  some (-1:Int)
 else
  bif (decide (v1.toInt>v2.toInt))then
   some (1:Int)
  else
   some (0:Int)
theorem Ol{N v1 v2}:KO 281 [(aW v1),(aW v2)] aw (Cg N v1 v2):=
 fw Tryz.func281 (gA [[],[]] (dM λ_=>aP λh2=>gR [[f0 h2],[]]))
def Pn(N:Nat)(v1:aG)(v2:aG):asp Int:=
 (kr N v1).bind λv3=>
 Option.bind (bif v3 then (kr N v2).bind λv4=>
 some v4 else some false) λv5=>
 bif v5 then
  Option.bind (Cg N (v1.xN*v2.xD) (v2.xN*v1.xD)) λv6=>
  some v6
 else
  (Cg N v1.xN v2.xN).bind λv7=>
  bif (v7 !=0)then
   some v7
  else
   (Cg N v1.xD v2.xD).bind λv8=>
   some v8
theorem amr{N v1 v2}:KO 227 [(a8 v1),(a8 v2)] aw (Pn N v1 v2):=
 fw Tryz.func227 (gA [[]] (aq λv3 h1=>gG (λv5=>[(11,(az v5))]) (λ_=>[.cells (a8 v1).cells, .cells (a8 v2).cells]) (bz (4,cK m6 h1) (au (λh2=>aq λv4 h3=>gE [(2,bT h2)] [(13,cK m6 h3)]) λh2=>gE [(2,bF h2)] [])) λv5=>au (λh5=>aq λv6 h6=>gR [[t0 h5],[(14,⟨_,_, .eq (eY v1.xN v2.xD)⟩),(29,⟨_,_, .eq (eY v2.xN v1.xD)⟩),(31,cK Ol h6)]]) λh5=>aq λv7 h7=>gA [[f0 h5],[(13,cK Ol h7)],[]] (aP λh8=>aq λv8 h9=>gR [[f0 h8],[(13,cK Ol h9)]])))
def Ey(N:Nat)(v1:aE)(v2:aG)(v3:aG):asp Int:=
 (qn N v1 v2).bind λv4=>
 Option.bind (bif v4 then (qn N v1 v3).bind λv5=>
 some (!v5)else some true) λv6=>
 bif v6 then
  some (0:Int)
 else
  bif (v1.aO==1)then
   (Pn N v2 v3).bind λv7=>
   some v7
  else
   bif (decide (v2.xN.toInt<v3.xN.toInt))then
    some (-1:Int)
   else
    bif (decide (v2.xN.toInt>v3.xN.toInt))then
     some (1:Int)
    else
     some (0:Int)
theorem YI{N v1 v2 v3}:KO 193 [(bY v1),(a8 v2),(a8 v3)] aw (Ey N v1 v2 v3):=
 fw Tryz.func193 (gA [[]] (aq λv4 h1=>gG (λv6=>[(7,(az v6))]) (λ_=>[.cells (bY v1).cells, .cells (a8 v2).cells, .cells (a8 v3).cells]) (bz (7,cK BN h1) (au (λh2=>aq λv5 h3=>gE [(4,bF (bV h2))] [(22,cK BN h3)]) λh2=>gE [(4,bT (cx h2))] [])) λv6=>dM λ_=>au (λh6=>aq λv7 h7=>gR [[t0 h6],[(7,cK amr h7)]]) λh6=>gA [[f0 h6],[]] (dM λ_=>aP λh9=>gR [[f0 h9],[]])))
def EV(N:Nat)(v1:Int)(v2:Int64)(v3:Int64):asp (aG×Int):=
 bif (v1==4)then
  Option.bind (p8 N (v2+v3)) λv4=>
  bif v4 then
   some ((⟨(v2+v3),(1:Int64)⟩:aG),(0:Int))
  else
   some (bW,(3:Int))
 else
  bif (v1==5)then
   Option.bind (p8 N (v2-v3)) λv5=>
   bif v5 then
    some ((⟨(v2-v3),(1:Int64)⟩:aG),(0:Int))
   else
    some (bW,(3:Int))
  else
   bif (v1==6)then
    Option.bind (p8 N (v2*v3)) λv6=>
    bif v6 then
     some ((⟨(v2*v3),(1:Int64)⟩:aG),(0:Int))
    else
     some (bW,(3:Int))
   else
    bif (v3.toInt==0)then
     some (bW,(4:Int))
    else
     bif (v3.toInt !=0)then
     Option.bind (bif ((Int64.ofInt ((v2.toInt).tmod v3.toInt)).toInt !=0)then some (!((decide (v2.toInt<0))==(decide (v3.toInt<0))))else some false) λv7=>
     bif v7 then
      Option.bind (p8 N ((Int64.ofInt ((v2.toInt).tdiv v3.toInt))-(1:Int64))) λv8=>
      bif v8 then
       some ((⟨((Int64.ofInt ((v2.toInt).tdiv v3.toInt))-(1:Int64)),(1:Int64)⟩:aG),(0:Int))
      else
       some (bW,(3:Int))
     else
      Option.bind (p8 N (Int64.ofInt ((v2.toInt).tdiv v3.toInt))) λv9=>
      bif v9 then
       some ((⟨(Int64.ofInt ((v2.toInt).tdiv v3.toInt)),(1:Int64)⟩:aG),(0:Int))
      else
       some (bW,(3:Int))
     else none
theorem aky{N v1 v2 v3}:KO 228 [(aw v1),(aW v2),(aW v3)] (λr=> .aX [(a8 r.1),(aw r.2)]) (EV N v1 v2 v3):=
 fw Tryz.func228 (gA [[],[],[],[]] (au (λh1=>aq λv4 h2=>gA [[t0 h1],[(8,⟨_,_, .eq (mY v2 v3)⟩)],[(4,cK Cf h2)]] (m0 λh3=>gR [[t0 (cx h3)],[]])) λh1=>gA [[f0 h1],[]] (au (λh4=>aq λv5 h5=>gA [[t0 h4],[(8,⟨_,_, .eq (jX v2 v3)⟩)],[(4,cK Cf h5)]] (m0 λh6=>gR [[t0 (cx h6)],[]])) λh4=>gA [[f0 h4],[]] (au (λh7=>aq λv6 h8=>gA [[t0 h7],[(8,⟨_,_, .eq (eY v2 v3)⟩)],[(4,cK Cf h8)]] (m0 λh9=>gR [[t0 (cx h9)],[]])) λh7=>gA [[f0 h7],[]] (aP λaK=>cO λaL=>gA [[f0 aK],[(7,⟨_,_, .nz (b:=v3.toInt) (bne_iff_ne.1 aL)⟩),(8,⟨_,_, .eq (fM ((v2.toInt).tdiv v3.toInt))⟩)]] (gG (λv7=>[(26,(az v7))]) (λ_=>[.cells gZ]) (bz (7,⟨_,_, .nz (b:=v3.toInt) (bne_iff_ne.1 aL)⟩) (bz (8,⟨_,_, .eq (JM v2 v3.toInt)⟩) (au (λaT=>gE [(4,bT aT)] []) λaT=>gE [(4,bF aT)] []))) λv7=>au (λbf=>aq λv8 a7=>gA [[t0 bf],[(5,⟨_,_, .eq (jX (Int64.ofInt ((v2.toInt).tdiv v3.toInt)) (1:Int64))⟩)],[(4,cK Cf a7)]] (m0 λbm=>gR [[t0 (cx bm)],[]])) λbf=>aq λv9 bQ=>gA [[f0 bf],[(4,cK Cf bQ)]] (m0 λcA=>gR [[t0 (cx cA)],[]])))))))
def RA(N:Nat)(v1:aE)(v2:Int64)(v3:Int64):asp (Int64×Int):=
 some ((v2+v3),(0:Int))
theorem al5{N v1 v2 v3}:KO 282 [(bY v1),(aW v2),(aW v3)] (λr=> .aX [(aW r.1),(aw r.2)]) (RA N v1 v2 v3):=
 fw Tryz.func282 (gR [[],[(8,⟨_,_, .eq (mY v2 v3)⟩)]])
def TE(N:Nat)(v1:aE)(v2:aG)(v3:aG):asp (aG×Int):=
 Option.bind (qW N v1 ([v2,v3])) λv4=>
 bif (v4 !=0)then
  some (bW,v4)
 else
  (RA N v1 v2.xN v3.xN).bind λv5=>
  bif (v5.2 !=0)then
   some (bW,v5.2)
  else
   (oa N v1 v5.1).bind λv6=>
   some (v6,(0:Int))
theorem aen{N v1 v2 v3}:KP 279 [(.agg [(.fn 282 [])]),(bY v1),(a8 v2),(a8 v3)] [] (λr=> .aX [(a8 r.1),(aw r.2)]) (λ_=>[]) (TE N v1 v2 v3):=
 fh 0 Tryz.func279 (aq λv4 h1=>gA [[],[(13,cK AZ h1)],[]] (au (λh2=>gH [[t0 h2],[]]) λh2=>aq λv5 h3=>gA [[f0 h2],[(22,cK al5 h3)],[]] (au (λh4=>gH [[t0 h4],[]]) λh4=>aq λv6 h5=>gH [[f0 h4],[(7,cK Ba h5)]])))
def FA(N:Nat)(v1:aE)(v2:aG)(v3:aG):asp (aG×Int):=
 (TE N v1 v2 v3).bind λv4=>
 some (v4.1,v4.2)
theorem aez{N v1 v2 v3}:KO 229 [(bY v1),(a8 v2),(a8 v3)] (λr=> .aX [(a8 r.1),(aw r.2)]) (FA N v1 v2 v3):=
 fw Tryz.func229 (aq λv4 h1=>gR [[],[(13,oQ [(.agg [(.fn 282 [])]),(bY v1),(a8 v2),(a8 v3)] [.cells (bY v1).cells, .cells (a8 v2).cells, .cells (a8 v3).cells, .cells gZ] [] (aen _ h1))]])
def Qv(N:Nat)(v1:aE)(v2:Int64)(v3:Int64):asp (Int64×Int):=
 some ((v2-v3),(0:Int))
theorem aoi{N v1 v2 v3}:KO 283 [(bY v1),(aW v2),(aW v3)] (λr=> .aX [(aW r.1),(aw r.2)]) (Qv N v1 v2 v3):=
 fw Tryz.func283 (gR [[],[(8,⟨_,_, .eq (jX v2 v3)⟩)]])
def O9(N:Nat)(v1:aE)(v2:aG)(v3:aG):asp (aG×Int):=
 Option.bind (qW N v1 ([v2,v3])) λv4=>
 bif (v4 !=0)then
  some (bW,v4)
 else
  (Qv N v1 v2.xN v3.xN).bind λv5=>
  bif (v5.2 !=0)then
   some (bW,v5.2)
  else
   (oa N v1 v5.1).bind λv6=>
   some (v6,(0:Int))
theorem agk{N v1 v2 v3}:KP 279 [(.agg [(.fn 283 [])]),(bY v1),(a8 v2),(a8 v3)] [] (λr=> .aX [(a8 r.1),(aw r.2)]) (λ_=>[]) (O9 N v1 v2 v3):=
 fh 0 Tryz.func279 (aq λv4 h1=>gA [[],[(13,cK AZ h1)],[]] (au (λh2=>gH [[t0 h2],[]]) λh2=>aq λv5 h3=>gA [[f0 h2],[(22,cK aoi h3)],[]] (au (λh4=>gH [[t0 h4],[]]) λh4=>aq λv6 h5=>gH [[f0 h4],[(7,cK Ba h5)]])))
def Dp(N:Nat)(v1:aE)(v2:aG)(v3:aG):asp (aG×Int):=
 (O9 N v1 v2 v3).bind λv4=>
 some (v4.1,v4.2)
theorem an6{N v1 v2 v3}:KO 230 [(bY v1),(a8 v2),(a8 v3)] (λr=> .aX [(a8 r.1),(aw r.2)]) (Dp N v1 v2 v3):=
 fw Tryz.func230 (aq λv4 h1=>gR [[],[(13,oQ [(.agg [(.fn 283 [])]),(bY v1),(a8 v2),(a8 v3)] [.cells (bY v1).cells, .cells (a8 v2).cells, .cells (a8 v3).cells, .cells gZ] [] (agk _ h1))]])
def EC(N:Nat)(v1:Int):asp Bool:=
 Option.bind (bif (decide (v1>=1))then some (decide (v1<=4))else some false) λv2=>
 some v2
theorem WK{N v1}:KO 289 [(aw v1)] az (EC N v1):=
 fw Tryz.func289 (gA [[]] (gG (λv2=>[(2,(az v2))]) (λ_=>[]) (au (λh1=>gE [(2,bT h1)] []) λh1=>gE [(2,bF h1)] []) λv2=>gR []))
def GM(N:Nat)(v1:Int64):asp Int:=
 bif (decide (v1.toInt<0))then
  some (IntKind.u64.wrap (0-(IntKind.u64.wrap v1.toInt)))
 else
  some (IntKind.u64.wrap v1.toInt)
theorem X4{N v1}:KO 310 [(aW v1)] (λr=> .d (.v (.int .u64 r))) (GM N v1):=
 fw Tryz.func310 (gA [[],[]] (aP λh1=>gR [[f0 h1],[]]))
def SP(N:Nat)(v1 v2:Int)(v3:Bool)(v4:Int):asp Int:=bif v2 !=0then some (tG v1 v2 v3 v4)else none
theorem ann{N v1 v2 v3 v4 r}(J:SP N v1 v2 v3 v4=some r):gD Tryz.prog 309 [(.d (.v (.int .u64 v1))),(.d (.v (.int .u64 v2))),(az v3),(aw v4)] (·=(.d (.v (.int .u64 r)))):=alO v1 v2 v3 v4 r J
def Ay(N:Nat)(v1:Int64)(v2:Int64)(v3:Int):asp (Int64×Int):=
 (EC N v3).bind λv4=>
 bif v4 then
  bif (v2.toInt==0)then
   some ((0:Int64),(4:Int))
  else
   (GM N v1).bind λv5=>
   (GM N v2).bind λv6=>
   Option.bind (SP N v5 v6 (!((decide (v1.toInt<0))==(decide (v2.toInt<0)))) v3) λv7=>
   bif ((decide (v1.toInt<0))==(decide (v2.toInt<0)))then
    bif (decide (v7>=9223372036854775808))then
     some ((0:Int64),(3:Int))
    else
     some ((Int64.ofInt v7),(0:Int))
   else
    some ((Int64.ofInt (IntKind.u64.wrap (0-v7))),(0:Int))
 else
  some ((0:Int64),(1:Int))
theorem T9{N v1 v2 v3}:KO 285 [(aW v1),(aW v2),(aw v3)] (λr=> .aX [(aW r.1),(aw r.2)]) (Ay N v1 v2 v3):=
 fw Tryz.func285 (aq λv4 h1=>gA [[],[(4,cK WK h1)]] (eg λh2=>gA [[f0 (bV h2)],[]] (aP λh3=>aq λv5 h4=>aq λv6 h5=>aq λv7 h6=>gA [[f0 h3],[],[(4,cK X4 h4),(10,cK X4 h5),(19,cL (ann h6))],[]] (au (λh7=>gA [[f0 (bV h7)],[]] (aP λh8=>gR [[f0 h8],[(5,⟨_,_, .eq (fM v7)⟩)]])) λh7=>gR [[t0 (cx h7)],[(8,⟨_,_, .eq (fM (IntKind.u64.wrap (0-v7)))⟩)]]))))
def Rt(N:Nat)(v1:aE)(v2:Int64)(v3:Int64):asp (Int64×Int):=
 bif (decide ((0:Int)<=v1.bE))then
 Option.bind (Ay N (v2*v3) (Int64.ofInt ((1:Int)*2^(min (v1.bE).toNat (IntKind.bits .i64)))) v1.bN) λv4=>
 some (v4.1,v4.2)
 else none
theorem aqq{N v1 v2 v3}:KO 284 [(bY v1),(aW v2),(aW v3)] (λr=> .aX [(aW r.1),(aw r.2)]) (Rt N v1 v2 v3):=
 fw Tryz.func284 (cO λh1=>aq λv4 h2=>gR [[],[(8,⟨_,_, .eq (eY v2 v3)⟩),(16,⟨_,_, .nn (b:=v1.bE) (of_decide_eq_true h1)⟩),(17,⟨_,_, .eq (fM ((1:Int)*2^(min (v1.bE).toNat (IntKind.bits .i64))))⟩),(25,cK T9 h2)]])
def Ui(N:Nat)(v1:aE)(v2:aG)(v3:aG):asp (aG×Int):=
 Option.bind (qW N v1 ([v2,v3])) λv4=>
 bif (v4 !=0)then
  some (bW,v4)
 else
  (Rt N v1 v2.xN v3.xN).bind λv5=>
  bif (v5.2 !=0)then
   some (bW,v5.2)
  else
   (oa N v1 v5.1).bind λv6=>
   some (v6,(0:Int))
theorem anG{N v1 v2 v3}:KP 279 [(.agg [(.fn 284 [])]),(bY v1),(a8 v2),(a8 v3)] [] (λr=> .aX [(a8 r.1),(aw r.2)]) (λ_=>[]) (Ui N v1 v2 v3):=
 fh 0 Tryz.func279 (aq λv4 h1=>gA [[],[(13,cK AZ h1)],[]] (au (λh2=>gH [[t0 h2],[]]) λh2=>aq λv5 h3=>gA [[f0 h2],[(22,cK aqq h3)],[]] (au (λh4=>gH [[t0 h4],[]]) λh4=>aq λv6 h5=>gH [[f0 h4],[(7,cK Ba h5)]])))
def FK(N:Nat)(v1:aE)(v2:aG)(v3:aG):asp (aG×Int):=
 (Ui N v1 v2 v3).bind λv4=>
 some (v4.1,v4.2)
theorem amU{N v1 v2 v3}:KO 231 [(bY v1),(a8 v2),(a8 v3)] (λr=> .aX [(a8 r.1),(aw r.2)]) (FK N v1 v2 v3):=
 fw Tryz.func231 (aq λv4 h1=>gR [[],[(13,oQ [(.agg [(.fn 284 [])]),(bY v1),(a8 v2),(a8 v3)] [.cells (bY v1).cells, .cells (a8 v2).cells, .cells (a8 v3).cells, .cells gZ] [] (anG _ h1))]])
def TS(N:Nat)(v1:aE)(v2:Int64)(v3:Int64):asp (Int64×Int):=
 bif (decide ((0:Int)<=v1.bE))then
 Option.bind (Ay N (Int64.ofInt (v2.toInt*2^(min (v1.bE).toNat (IntKind.bits .i64)))) v3 v1.bN) λv4=>
 some (v4.1,v4.2)
 else none
theorem aoC{N v1 v2 v3}:KO 286 [(bY v1),(aW v2),(aW v3)] (λr=> .aX [(aW r.1),(aw r.2)]) (TS N v1 v2 v3):=
 fw Tryz.func286 (cO λh1=>aq λv4 h2=>gR [[],[(10,⟨_,_, .nn (b:=v1.bE) (of_decide_eq_true h1)⟩),(11,⟨_,_, .eq (fM (v2.toInt*2^(min (v1.bE).toNat (IntKind.bits .i64))))⟩),(22,cK T9 h2)]])
def Ue(N:Nat)(v1:aE)(v2:aG)(v3:aG):asp (aG×Int):=
 Option.bind (qW N v1 ([v2,v3])) λv4=>
 bif (v4 !=0)then
  some (bW,v4)
 else
  (TS N v1 v2.xN v3.xN).bind λv5=>
  bif (v5.2 !=0)then
   some (bW,v5.2)
  else
   (oa N v1 v5.1).bind λv6=>
   some (v6,(0:Int))
theorem aqz{N v1 v2 v3}:KP 279 [(.agg [(.fn 286 [])]),(bY v1),(a8 v2),(a8 v3)] [] (λr=> .aX [(a8 r.1),(aw r.2)]) (λ_=>[]) (Ue N v1 v2 v3):=
 fh 0 Tryz.func279 (aq λv4 h1=>gA [[],[(13,cK AZ h1)],[]] (au (λh2=>gH [[t0 h2],[]]) λh2=>aq λv5 h3=>gA [[f0 h2],[(22,cK aoC h3)],[]] (au (λh4=>gH [[t0 h4],[]]) λh4=>aq λv6 h5=>gH [[f0 h4],[(7,cK Ba h5)]])))
def Fm(N:Nat)(v1:aE)(v2:aG)(v3:aG):asp (aG×Int):=
 (Ue N v1 v2 v3).bind λv4=>
 some (v4.1,v4.2)
theorem aok{N v1 v2 v3}:KO 232 [(bY v1),(a8 v2),(a8 v3)] (λr=> .aX [(a8 r.1),(aw r.2)]) (Fm N v1 v2 v3):=
 fw Tryz.func232 (aq λv4 h1=>gR [[],[(13,oQ [(.agg [(.fn 286 [])]),(bY v1),(a8 v2),(a8 v3)] [.cells (bY v1).cells, .cells (a8 v2).cells, .cells (a8 v3).cells, .cells gZ] [] (aqz _ h1))]])
def sK(N:Nat)(v1:Int64)(v2:Int64):asp (aG×Int):=
 bif (v2.toInt==0)then
  some (bW,(4:Int))
 else
  (B7 N v1).bind λv3=>
  (B7 N v2).bind λv4=>
  (Bq N v3 v4).bind λv5=>
  bif (v5 !=0)then
  Option.bind (bif (decide ((IntKind.u64.wrap ((v3).tdiv v5))>2147483647))then some true else some (decide ((IntKind.u64.wrap ((v4).tdiv v5))>2147483647))) λv6=>
  bif v6 then
   some (bW,(3:Int))
  else
   bif ((decide (v1.toInt<0))==(decide (v2.toInt<0)))then
    some ((⟨(Int64.ofInt (IntKind.u64.wrap ((v3).tdiv v5))),(Int64.ofInt (IntKind.u64.wrap ((v4).tdiv v5)))⟩:aG),(0:Int))
   else
    some ((⟨(-(Int64.ofInt (IntKind.u64.wrap ((v3).tdiv v5)))),(Int64.ofInt (IntKind.u64.wrap ((v4).tdiv v5)))⟩:aG),(0:Int))
  else none
theorem EU{N v1 v2}:KO 287 [(aW v1),(aW v2)] (λr=> .aX [(a8 r.1),(aw r.2)]) (sK N v1 v2):=
 fw Tryz.func287 (gA [[],[]] (aP λh1=>aq λv3 h2=>aq λv4 h3=>aq λv5 h4=>cO λh5=>gA [[f0 h1],[],[(4,cK Sq h2),(10,cK Sq h3)],[(7,cK abS h4)],[(7,⟨_,_, .nz (b:=v5) (bne_iff_ne.1 h5)⟩),(16,⟨_,_, .nz (b:=v5) (bne_iff_ne.1 h5)⟩)]] (gG (λv6=>[(36,(az v6))]) (λ_=>[.cells gZ]) (au (λh7=>gE [(2,bT h7)] []) λh7=>gE [(2,bF h7)] []) λv6=>dM λ_=>au (λaK=>gR [[f0 (bV aK)],[(5,⟨_,_, .eq (fM (IntKind.u64.wrap ((v3).tdiv v5)))⟩),(11,⟨_,_, .eq (fM (IntKind.u64.wrap ((v4).tdiv v5)))⟩)]]) λaK=>gR [[t0 (cx aK)],[(5,⟨_,_, .eq (fM (IntKind.u64.wrap ((v3).tdiv v5)))⟩),(8,⟨_,_, .eq (lX (Int64.ofInt (IntKind.u64.wrap ((v3).tdiv v5))))⟩),(14,⟨_,_, .eq (fM (IntKind.u64.wrap ((v4).tdiv v5)))⟩)]])))
def Ds(N:Nat)(v1:aG)(v2:aG):asp (aG×Int):=
 (kr N v1).bind λv3=>
 Option.bind (bif v3 then (kr N v2).bind λv4=>
 some (!v4)else some true) λv5=>
 bif v5 then
  some (bW,(1:Int))
 else
  Option.bind (sK N ((v1.xN*v2.xD)+(v2.xN*v1.xD)) (v1.xD*v2.xD)) λv6=>
  some (v6.1,v6.2)
theorem apx{N v1 v2}:KO 233 [(a8 v1),(a8 v2)] (λr=> .aX [(a8 r.1),(aw r.2)]) (Ds N v1 v2):=
 fw Tryz.func233 (gA [[]] (aq λv3 h1=>gG (λv5=>[(13,(az v5))]) (λ_=>[.cells (a8 v1).cells, .cells (a8 v2).cells, .cells gZ]) (bz (4,cK m6 h1) (au (λh2=>aq λv4 h3=>gE [(3,bF (bV h2))] [(16,cK m6 h3)]) λh2=>gE [(3,bT (cx h2))] [])) λv5=>aP λh5=>aq λv6 h6=>gR [[f0 h5],[(14,⟨_,_, .eq (eY v1.xN v2.xD)⟩),(29,⟨_,_, .eq (eY v2.xN v1.xD)⟩),(32,⟨_,_, .eq (mY (v1.xN*v2.xD) (v2.xN*v1.xD))⟩),(47,⟨_,_, .eq (eY v1.xD v2.xD)⟩),(49,cK EU h6)]]))
def DE(N:Nat)(v1:aG)(v2:aG):asp (aG×Int):=
 (kr N v1).bind λv3=>
 Option.bind (bif v3 then (kr N v2).bind λv4=>
 some (!v4)else some true) λv5=>
 bif v5 then
  some (bW,(1:Int))
 else
  Option.bind (sK N ((v1.xN*v2.xD)-(v2.xN*v1.xD)) (v1.xD*v2.xD)) λv6=>
  some (v6.1,v6.2)
theorem ais{N v1 v2}:KO 234 [(a8 v1),(a8 v2)] (λr=> .aX [(a8 r.1),(aw r.2)]) (DE N v1 v2):=
 fw Tryz.func234 (gA [[]] (aq λv3 h1=>gG (λv5=>[(13,(az v5))]) (λ_=>[.cells (a8 v1).cells, .cells (a8 v2).cells, .cells gZ]) (bz (4,cK m6 h1) (au (λh2=>aq λv4 h3=>gE [(3,bF (bV h2))] [(16,cK m6 h3)]) λh2=>gE [(3,bT (cx h2))] [])) λv5=>aP λh5=>aq λv6 h6=>gR [[f0 h5],[(14,⟨_,_, .eq (eY v1.xN v2.xD)⟩),(29,⟨_,_, .eq (eY v2.xN v1.xD)⟩),(32,⟨_,_, .eq (jX (v1.xN*v2.xD) (v2.xN*v1.xD))⟩),(47,⟨_,_, .eq (eY v1.xD v2.xD)⟩),(49,cK EU h6)]]))
def EG(N:Nat)(v1:aG)(v2:aG):asp (aG×Int):=
 (kr N v1).bind λv3=>
 Option.bind (bif v3 then (kr N v2).bind λv4=>
 some (!v4)else some true) λv5=>
 bif v5 then
  some (bW,(1:Int))
 else
  Option.bind (sK N (v1.xN*v2.xN) (v1.xD*v2.xD)) λv6=>
  some (v6.1,v6.2)
theorem ank{N v1 v2}:KO 235 [(a8 v1),(a8 v2)] (λr=> .aX [(a8 r.1),(aw r.2)]) (EG N v1 v2):=
 fw Tryz.func235 (gA [[]] (aq λv3 h1=>gG (λv5=>[(13,(az v5))]) (λ_=>[.cells (a8 v1).cells, .cells (a8 v2).cells, .cells gZ]) (bz (4,cK m6 h1) (au (λh2=>aq λv4 h3=>gE [(3,bF (bV h2))] [(16,cK m6 h3)]) λh2=>gE [(3,bT (cx h2))] [])) λv5=>aP λh5=>aq λv6 h6=>gR [[f0 h5],[(14,⟨_,_, .eq (eY v1.xN v2.xN)⟩),(29,⟨_,_, .eq (eY v1.xD v2.xD)⟩),(31,cK EU h6)]]))
def Gm(N:Nat)(v1:aG)(v2:aG):asp (aG×Int):=
 (kr N v1).bind λv3=>
 Option.bind (bif v3 then (kr N v2).bind λv4=>
 some (!v4)else some true) λv5=>
 bif v5 then
  some (bW,(1:Int))
 else
  Option.bind (sK N (v1.xN*v2.xD) (v1.xD*v2.xN)) λv6=>
  some (v6.1,v6.2)
theorem aji{N v1 v2}:KO 236 [(a8 v1),(a8 v2)] (λr=> .aX [(a8 r.1),(aw r.2)]) (Gm N v1 v2):=
 fw Tryz.func236 (gA [[]] (aq λv3 h1=>gG (λv5=>[(13,(az v5))]) (λ_=>[.cells (a8 v1).cells, .cells (a8 v2).cells, .cells gZ]) (bz (4,cK m6 h1) (au (λh2=>aq λv4 h3=>gE [(3,bF (bV h2))] [(16,cK m6 h3)]) λh2=>gE [(3,bT (cx h2))] [])) λv5=>aP λh5=>aq λv6 h6=>gR [[f0 h5],[(14,⟨_,_, .eq (eY v1.xN v2.xD)⟩),(29,⟨_,_, .eq (eY v1.xD v2.xN)⟩),(31,cK EU h6)]]))
def I2(N:Nat)(v1:Int)(v2:aE)(v3:aG)(v4:aG):asp (aG×Int):=
 bif (v2.aO==3)then
  (EV N v1 v3.xN v4.xN).bind λv5=>
  some (v5.1,v5.2)
 else
  Option.bind (bif (v1==4)then some (v2.aO==2)else some false) λv6=>
  bif v6 then
   (FA N v2 v3 v4).bind λv7=>
   some (v7.1,v7.2)
  else
   Option.bind (bif (v1==5)then some (v2.aO==2)else some false) λv8=>
   bif v8 then
    (Dp N v2 v3 v4).bind λv9=>
    some (v9.1,v9.2)
   else
    Option.bind (bif (v1==6)then some (v2.aO==2)else some false) λv10=>
    bif v10 then
     (FK N v2 v3 v4).bind λv11=>
     some (v11.1,v11.2)
    else
     bif (v2.aO==2)then
      (Fm N v2 v3 v4).bind λv12=>
      some (v12.1,v12.2)
     else
      bif (v1==4)then
       (Ds N v3 v4).bind λaF=>
       some (aF.1,aF.2)
      else
       bif (v1==5)then
        (DE N v3 v4).bind λaV=>
        some (aV.1,aV.2)
       else
        bif (v1==6)then
         (EG N v3 v4).bind λbt=>
         some (bt.1,bt.2)
        else
         (Gm N v3 v4).bind λbK=>
         some (bK.1,bK.2)
def Q4(v2:aE)(v3:aG)(v4:aG)(l:asn ao):asn ao:= .cells (bY v2).cells:: .cells (a8 v3).cells:: .cells (a8 v4).cells:: .cells gZ::l
theorem agT{N v1 v2 v3 v4}:KO 194 [(aw v1),(bY v2),(a8 v3),(a8 v4)] (λr=> .aX [(a8 r.1),(aw r.2)]) (I2 N v1 v2 v3 v4):=
 fw Tryz.func194 (gA [[],[],[]] (au (λh1=>aq λv5 h2=>gR [[t0 h1],[(16,cK aky h2)]]) λh1=>gA [[f0 h1]] (gG (λv6=>[(26,(az v6))]) (λ_=>(Q4 v2 v3 v4 [])) (au (λh3=>gE [(2,bT h3)] []) λh3=>gE [(2,bF h3)] []) λv6=>au (λh5=>aq λv7 h6=>gR [[t0 h5],[(10,cK aez h6)]]) λh5=>gA [[f0 h5]] (gG (λv8=>[(38,(az v8))]) (λ_=>(Q4 v2 v3 v4 [])) (au (λh7=>gE [(2,bT h7)] []) λh7=>gE [(2,bF h7)] []) λv8=>au (λh9=>aq λv9 aK=>gR [[t0 h9],[(10,cK an6 aK)]]) λh9=>gA [[f0 h9]] (gG (λv10=>[(50,(az v10))]) (λ_=>(Q4 v2 v3 v4 [])) (au (λaL=>gE [(2,bT aL)] []) λaL=>gE [(2,bF aL)] []) λv10=>au (λbu=>aq λv11 bf=>gR [[t0 bu],[(10,cK amU bf)]]) λbu=>gA [[f0 bu],[]] (au (λa7=>aq λv12 bm=>gR [[t0 a7],[(10,cK aok bm)]]) λa7=>gA [[f0 a7],[]] (au (λbQ=>aq λaF cA=>gR [[t0 bQ],[(7,cK apx cA)]]) λbQ=>gA [[f0 bQ],[]] (au (λcv=>aq λaV b8=>gR [[t0 cv],[(7,cK ais b8)]]) λcv=>gA [[f0 cv],[]] (au (λcJ=>aq λbt cS=>gR [[t0 cJ],[(7,cK ank cS)]]) λcJ=>aq λbK dw=>gR [[f0 cJ],[(7,cK aji dw)]])))))))))
def Cu(N:Nat)(v2:aE)(v3:aG)(v4:aG)(v1:Int)(v11:Bool):asp (aG×Int):=
 bif v11 then
  (Ey N v2 v3 v4).bind λv12=>
  Option.bind (bif ((decide (v12>0))==(v1==9))then some (v12 !=0)else some false) λaF=>
  bif aF then
   some (v4,(0:Int))
  else
   some (v3,(0:Int))
 else
  (I2 N v1 v2 v3 v4).bind λaV=>
  some (aV.1,aV.2)
def F9(N:Nat)(v1:Int)(v2:aE)(v3:aG)(v4:aG):asp (aG×Int):=
 Option.bind (bif (decide (v1<4))then some true else some (decide (v1>10))) λv5=>
 bif v5 then
  some (bW,(1:Int))
 else
  (nY N v2).bind λv6=>
  bif (v6 !=0)then
   some (bW,(10:Int))
  else
   (qn N v2 v3).bind λv7=>
   Option.bind (bif v7 then(bif (v1 !=8)then (qn N v2 v4).bind λv8=>
   some (!v8)else some false)else some true) λv9=>
   bif v9 then
    some (bW,(1:Int))
   else
    bif (v1==8)then
     (IY N v2 v3).bind λv10=>
     some (v10.1,v10.2)
    else
     bif (v1==9)then
      Cu N v2 v3 v4 v1 (v1==9)
     else
      Cu N v2 v3 v4 v1 (v1==10)
def IL(v2:aE)(v3:aG)(v4:aG)(l:asn ao):asn ao:= .cells (bY v2).cells:: .cells (a8 v3).cells:: .cells (a8 v4).cells:: .cells gZ::l
theorem apm{N v1 v2 v3 v4}:KO 142 [(aw v1),(bY v2),(a8 v3),(a8 v4)] (λr=> .aX [(a8 r.1),(aw r.2)]) (F9 N v1 v2 v3 v4):=
 fw Tryz.func142 (gA [[]] (gG (λv5=>[(11,(az v5))]) (λ_=>(IL v2 v3 v4 [])) (au (λh1=>gE [(2,bT h1)] []) λh1=>gE [(2,bF h1)] []) λv5=>aP λh3=>aq λv6 h4=>gA [[f0 h3],[(4,cK rl h4)]] (aP λh5=>gA [[f0 h5]] (aq λv7 h6=>gG (λv9=>[(24,(az v9))]) (λ_=>(IL v2 v3 v4 [])) (bz (7,cK BN h6) (au (λh7=>aY (4,bF (bV h7)) (au (λh8=>aq λv8 h9=>gE [(7,bT h8)] [(31,cK BN h9),(37,bT h8)]) λh8=>gE [(7,bF h8)] [(37,bF h8)])) λh7=>gE [(4,bT (cx h7)),(7,uN)] [])) λv9=>aP λaL=>gA [[f0 aL],[],[]] (au (λaT=>aq λv10 bu=>gR [[t0 aT],[(7,cK apb bu)]]) λaT=>ir 1 [[f0 aT],[]] [0,5,6,7,8,48] 4 (λ(v11:Bool)=>⟨73,[(0,(aw v1)),(5,(.ptr 0 0)),(6,(.ptr 1 0)),(7,(.ptr 2 0)),(8,(.ptr 3 0)),(48,(az v11))],(IL v2 v3 v4 [])⟩) (Cu N v2 v3 v4 v1) (λf1 aD=>au (λb8=>gm aD (v1==9) [[t0 b8]]) λb8=>gm aD (v1==10) [[f0 b8],[]]) (λv11=>au (λbf=>aq λv12 a7=>gA [[t0 bf],[(10,cK YI a7)]] (gG (λaF=>[(63,(az aF))]) (λ_=>(IL v2 v3 v4 [])) (au (λbm=>gE [(5,bT bm)] []) λbm=>gE [(5,bF bm)] []) λaF=>aP λcA=>gR [[f0 cA],[]])) λbf=>aq λaV cv=>gR [[f0 bf],[(13,cK agT cv)]]))))))
def sr(N:Nat)(v1:aE)(v2:aG):asp an:=
 some (⟨(1:Int),(bs []),v2,v1,dq,[],[]⟩:an)
theorem EB{N v1 v2}:KO 143 [(bY v1),(a8 v2)] aA (sr N v1 v2):=
 fw Tryz.func143 (gR [[],[]])
def Gn(N:Nat)(v1:fm):asp (an×Bool):=
 (SS N v1).bind λv2=>
 Option.bind (bif v2 then some false else some (v1.yE.ar !=8)) λv3=>
 bif v3 then
  some (fA,false)
 else
  Option.bind (v1.yE.ax[0]?) λv4=>
  bif (decide ((0:Int)<=(aI ((v1.yE.ax.length:Int)-(1:Int)))))then
  Option.bind (v1.yE.ax[((aI ((v1.yE.ax.length:Int)-(1:Int)))).toNat]?) λv5=>
  Option.bind (bif (v4.ar !=1)then some true else(bif (v5.ar !=1)then some true else some (!((v4.ay.aO==v5.ay.aO)&&((v4.ay.bo==v5.ay.bo)&&((v4.ay.bE==v5.ay.bE)&&((v4.ay.bN==v5.ay.bN)&&((v4.ay.bM==v5.ay.bM)&&true)))))))) λv6=>
  bif v6 then
   some (fA,false)
  else
   (F9 N v1.yE.ar v4.ay v4.bD v5.bD).bind λv7=>
   (sr N v4.ay v7.1).bind λv8=>
   some (v8,(v7.2==0))
  else none
theorem aii{N v1}:KO 100 [(dm v1)] (λr=> .aX [(aA r.1),(az r.2)]) (Gn N v1):=
 fw Tryz.func100 (gA [[]] (aq λv2 h1=>gG (λv3=>[(16,(az v3))]) (λ_=>[.cells (dm v1).cells, .cells ft]) (bz (4,cK XI h1) (au (λh2=>gE [(3,bF (bV h2))] []) λh2=>gE [(3,bT (cx h2))] [])) λv3=>aP λh4=>aq λv4 h5=>cO λh7=>aq λv5 h6=>gA [[f0 h4],[(10,oE (k:=0) (bx h5))],[(19,oL v1.yE.ax dZ),(25,⟨_,_, .el (xs:=dn v1.yE.ax) (i:=(aI ((v1.yE.ax.length:Int)-(1:Int)))) (of_decide_eq_true h7) (bx h6)⟩)]] (gG (λv6=>[(47,(az v6))]) (λ_=>[.cells (dm v1).cells, .cells ft, .cells (aA v4).cells, .cells (aA v5).cells]) (au (λh8=>gE [(3,bT h8),(8,bT rfl)] []) λh8=>aY (3,bF h8) (au (λh9=>gE [(8,bT h9)] []) λh9=>gE [(8,bF h9)] [])) λv6=>aP λaL=>aq λv7 aT=>aq λv8 bu=>gR [[f0 aL],[(28,cK apm aT)],[(10,cK EB bu)]])))
def Gt(N:Nat)(v9:an×Bool)(v10:aso)(v11:Int)(v12:aso)(aF:Int64)(aV:Int64)(bt:Int)(bK:Int)(bC:Int)(aR:Int)(bX:Int)(v20:Int64)(v21:asn bB)(cM:asn aZ)(cF:asn an):asp (Bool×aso×an):=
 some (v9.2,v10,(⟨v11,v12,(⟨aF,aV⟩:aG),(⟨bt,bK,bC,aR,bX⟩:aE),(⟨v20,v21⟩:aH),cM,cF⟩:an))
def Am(N:Nat)(v1:fm)(v2:aso)(v3:aso)(v4:Int)(v5:aso)(v6:aG)(v7:aE)(v8:Int64):asp (Bool×aso×an):=
 (Gn N v1).bind λv9=>
 bif v9.2 then
  Gt N v9 v2 v9.1.ar v9.1.aC v9.1.bD.xN v9.1.bD.xD v9.1.ay.aO v9.1.ay.bo v9.1.ay.bE v9.1.ay.bN v9.1.ay.bM v9.1.aM.xK v9.1.aM.xL v9.1.xIdx v9.1.ax
 else
  Gt N v9 v3 v4 v5 v6.xN v6.xD v7.aO v7.bo v7.bE v7.bN v7.bM v8 [] [] []
theorem ahS{N v1 v2 v3 v4 v5 v6 v7 v8 r}(J:Am N v1 v2 v3 v4 v5 v6 v7 v8=some r):KH 99 [(dm v1),(.fn 100 []),(bq v2),(.ptr 0 0),(.ptr 1 0)] ([.cells [(bq v3)], .cells ((aw v4)::(bq v5)::(aW v6.xN)::(aW v6.xD)::cf1 v7 [(aW v8),(.d (.v (.slice none 0 0))),(.d (.v (.slice none 0 0))),(.d (.v (.slice none 0 0)))])]) (az r.1) ([.cells [(bq r.2.1)], .cells (aA r.2.2).cells]):=by
 rw[Am]at J;refine Is 2 Tryz.func99 ?_;obtain⟨v9,h1,J⟩:=dC J;refine LV cn 1 [[],[(7,cK aii h1)],[]] [12] 4 (λ((v10,v11,v12,aF,aV,bt,bK,bC,aR,bX,v20,v21,cM,cF):aso×Int×aso×Int64×Int64×Int×Int×Int×Int×Int×Int64×(asn bB)×(asn aZ)×(asn an))=>⟨27,[(12,(az v9.2))],[.cells [(bq v10)], .cells [(aw v11),(bq v12),(aW aF),(aW aV),(aw bt),(aw bK),(aw bC),(aw aR),(aw bX),(aW v20),(.d (.sl (cz v21))),(.d (.sl (cU cM))),(.d (.sl (dn cF)))], .cells (dm v1).cells, .cells (aA v9.1).cells]⟩) (λ((v10,v11,v12,aF,aV,bt,bK,bC,aR,bX,v20,v21,cM,cF):aso×Int×aso×Int64×Int64×Int×Int×Int×Int×Int×Int64×(asn bB)×(asn aZ)×(asn an))=>Gt N v9 v10 v11 v12 aF aV bt bK bC aR bX v20 v21 cM cF=some r) ?_ ?_
 ·intro f1 aD;apply bc J<;>intro h2 J
  ·exact NX cn aD (v2,v9.1.ar,v9.1.aC,v9.1.bD.xN,v9.1.bD.xD,v9.1.ay.aO,v9.1.ay.bo,v9.1.ay.bE,v9.1.ay.bN,v9.1.ay.bM,v9.1.aM.xK,v9.1.aM.xL,v9.1.xIdx,v9.1.ax) [[(0,bT h2)],[]] J
  exact NX cn aD (v3,v4,v5,v6.xN,v6.xD,v7.aO,v7.bo,v7.bE,v7.bN,v7.bM,v8,[],[],[]) [[(0,bF h2)]] J
 rintro⟨v10,v11,v12,aF,aV,bt,bK,bC,aR,bX,v20,v21,cM,cF⟩ J
 try dsimp only at J
 rw[Gt]at J;cases J;exact u9 cn [[]]
def SI(N:Nat)(v1:aE)(v2:aG):asp (aG×Int):=
 Option.bind (qW N v1 [v2]) λv3=>
 bif (v3 !=0)then
  some (bW,v3)
 else
  bif (decide ((0:Int)<=v1.bE))then
  Option.bind (sK N v2.xN (Int64.ofInt ((1:Int)*2^(min (v1.bE).toNat (IntKind.bits .i64))))) λv4=>
  some (v4.1,v4.2)
  else none
theorem apN{N v1 v2}:KO 237 [(bY v1),(a8 v2)] (λr=> .aX [(a8 r.1),(aw r.2)]) (SI N v1 v2):=
 fw Tryz.func237 (aq λv3 h1=>gA [[],[(10,cK AZ h1)],[]] (aP λh2=>cO λh3=>aq λv4 h4=>gR [[f0 h2],[(13,⟨_,_, .nn (b:=v1.bE) (of_decide_eq_true h3)⟩),(14,⟨_,_, .eq (fM ((1:Int)*2^(min (v1.bE).toNat (IntKind.bits .i64))))⟩),(16,cK EU h4)]]))
def Ms(N:Nat)(v1:aE)(v2:aG):asp aG:=
 bif (v1.aO==2)then
  (SI N v1 v2).bind λv3=>
  some v3.1
 else
  some v2
theorem ako{N v1 v2}:KO 195 [(bY v1),(a8 v2)] a8 (Ms N v1 v2):=
 fw Tryz.func195 (gA [[],[]] (fp λh1=>aq λv3 h2=>gR [[t0 h1],[(7,cK apN h2)],[]]))
def Kl(N:Nat)(v3:Int64):asp Int64:=
 some v3
def Fk(N:Nat)(v1:aG):asp Int64:=
 (kr N v1).bind λv2=>
 bif v2 then
  bif (v1.xD.toInt !=0)then
  bif (decide ((Int64.ofInt ((v1.xN.toInt).tmod v1.xD.toInt)).toInt<0))then
   Kl N ((Int64.ofInt ((v1.xN.toInt).tdiv v1.xD.toInt))-(1:Int64))
  else
   Kl N (Int64.ofInt ((v1.xN.toInt).tdiv v1.xD.toInt))
  else none
 else
  some (0:Int64)
theorem am2{N v1}:KO 196 [(a8 v1)] aW (Fk N v1):=
 fw Tryz.func196 (aq λv2 h1=>gA [[],[(4,cK m6 h1)]] (eg λh2=>cO λh3=>ir 1 [[f0 (bV h2)],[(13,⟨_,_, .nz (b:=v1.xD.toInt) (bne_iff_ne.1 h3)⟩),(14,⟨_,_, .eq (fM ((v1.xN.toInt).tdiv v1.xD.toInt))⟩)],[(13,⟨_,_, .nz (b:=v1.xD.toInt) (bne_iff_ne.1 h3)⟩),(14,⟨_,_, .eq (JM v1.xN v1.xD.toInt)⟩)]] [3] 1 (λ(v3:Int64)=>⟨21,[(3,(aW v3))],[.cells (a8 v1).cells]⟩) (Kl N) (λf1 aD=>au (λh4=>gm aD ((Int64.ofInt ((v1.xN.toInt).tdiv v1.xD.toInt))-(1:Int64)) [[t0 h4],[(5,⟨_,_, .eq (jX (Int64.ofInt ((v1.xN.toInt).tdiv v1.xD.toInt)) (1:Int64))⟩)]]) λh4=>gm aD (Int64.ofInt ((v1.xN.toInt).tdiv v1.xD.toInt)) [[f0 h4]]) (λv3=>gR [[]])))
def Uq(N:Nat)(v1:aG)(v2:Int)(v3:Int):asp (Int64×Int):=
 (kr N v1).bind λv4=>
 Option.bind (bif v4 then(bif (decide (v2<0))then some true else(bif (decide (v2>30))then some true else (EC N v3).bind λv5=>
 some (!v5)))else some true) λv6=>
 bif v6 then
  some ((0:Int64),(1:Int))
 else
  bif (decide ((0:Int)<=(IntKind.u64.wrap v2)))then
  Option.bind (Ay N (Int64.ofInt (v1.xN.toInt*2^(min ((IntKind.u64.wrap v2)).toNat (IntKind.bits .i64)))) v1.xD v3) λv7=>
  some (v7.1,v7.2)
  else none
theorem alE{N v1 v2 v3}:KO 238 [(a8 v1),(aw v2),(aw v3)] (λr=> .aX [(aW r.1),(aw r.2)]) (Uq N v1 v2 v3):=
 fw Tryz.func238 (gA [[]] (aq λv4 h1=>gG (λv6=>[(23,(az v6))]) (λ_=>[.cells (a8 v1).cells]) (bz (4,cK m6 h1) (au (λh2=>aY (3,bF (bV h2)) (au (λh3=>gE [(7,bT h3),(11,bT rfl)] []) λh3=>aY (7,bF h3) (au (λh4=>gE [(11,bT h4)] []) λh4=>aq λv5 h5=>gE [(11,bF h4)] [(40,cK WK h5)]))) λh2=>gE [(3,bT (cx h2)),(7,bT rfl),(11,bT rfl)] [])) λv6=>aP λh7=>cO λh8=>aq λv7 h9=>gR [[f0 h7],[(13,⟨_,_, .nn (b:=(IntKind.u64.wrap v2)) (of_decide_eq_true h8)⟩),(14,⟨_,_, .eq (fM (v1.xN.toInt*2^(min ((IntKind.u64.wrap v2)).toNat (IntKind.bits .i64))))⟩),(25,cK T9 h9)]]))
def HE(N:Nat)(v1:aE)(v2:aG):asp (aG×Int):=
 (ve N v1).bind λv3=>
 bif (v3 !=0)then
  some (bW,v3)
 else
  (Uq N v2 v1.bE v1.bN).bind λv4=>
  Option.bind (bif (v4.2 !=0)then some true else (kr N v2).bind λv5=>
  some (!v5)) λv6=>
  bif v6 then
   some (bW,(1:Int))
  else
   (oa N v1 v4.1).bind λv7=>
   some (v7,(0:Int))
theorem apf{N v1 v2}:KO 197 [(bY v1),(a8 v2)] (λr=> .aX [(a8 r.1),(aw r.2)]) (HE N v1 v2):=
 fw Tryz.func197 (aq λv3 h1=>gA [[],[(4,cK Lh h1)],[]] (aP λh2=>aq λv4 h3=>gA [[f0 h2],[(16,cK alE h3)]] (gG (λv6=>[(30,(az v6))]) (λ_=>[.cells (bY v1).cells, .cells (a8 v2).cells, .cells gZ]) (au (λh4=>gE [(2,bT h4)] []) λh4=>aq λv5 h5=>gE [(2,bF h4)] [(13,cK m6 h5)]) λv6=>aP λh7=>aq λv7 h8=>gR [[f0 h7],[(7,cK Ba h8)]])))
def EJ(N:Nat)(v1:aE)(v2:aE)(v3:aG):asp (aG×Int):=
 (nY N v1).bind λv4=>
 Option.bind (bif (v4 !=0)then some true else (nY N v2).bind λv5=>
 some (v5 !=0)) λv6=>
 bif v6 then
  some (bW,(10:Int))
 else
  (qn N v1 v3).bind λv7=>
  bif v7 then
   (Ms N v1 v3).bind λv8=>
   bif (v2.aO==3)then
    (Fk N v8).bind λv9=>
    some ((⟨v9,(1:Int64)⟩:aG),(0:Int))
   else
    bif (v2.aO==2)then
     (HE N v2 v8).bind λv10=>
     some (v10.1,v10.2)
    else
     some (v8,(0:Int))
  else
   some (bW,(1:Int))
theorem agx{N v1 v2 v3}:KO 144 [(bY v1),(bY v2),(a8 v3)] (λr=> .aX [(a8 r.1),(aw r.2)]) (EJ N v1 v2 v3):=
 fw Tryz.func144 (gA [[]] (aq λv4 h1=>gG (λv6=>[(9,(az v6))]) (λ_=>[.cells (bY v1).cells, .cells (bY v2).cells, .cells (a8 v3).cells, .cells gZ]) (bz (4,cK rl h1) (au (λh2=>gE [(3,bT h2)] []) λh2=>aq λv5 h3=>gE [(3,bF h2)] [(16,cK rl h3)])) λv6=>aP λh5=>aq λv7 h6=>gA [[f0 h5],[(7,cK BN h6)]] (eg λh7=>aq λv8 h8=>gA [[f0 (bV h7)],[(7,cK ako h8)],[],[]] (au (λh9=>aq λv9 aK=>gR [[t0 h9],[(4,cK am2 aK)]]) λh9=>gA [[f0 h9],[]] (fp λaL=>aq λv10 aT=>gR [[t0 aL],[(7,cK apf aT)]])))))
def zG(N:Nat)(v1:gS)(v2:gS):asp gS:=
 bif v1.dQ then
  some v1
 else
  some v2
theorem Zk{N v1 v2}:KO 112 [(mG v1),(mG v2)] mG (zG N v1 v2):=
 fw Tryz.func112 (gA [[],[]] (aP λh1=>gR [[f0 h1],[]]))
def zi(N:Nat)(v1:an)(oD:an->asp gS)(v10:Bool):asp gS:=
 bif v10 then
  Option.bind (v1.ax[0]?) λv11=>
  (oD v11).bind λv12=>
  Option.bind (v1.ax[1]?) λaF=>
  (oD aF).bind λaV=>
  (zG N v12 aV).bind λbt=>
  some bt
 else
  some ET
def Pq(N:Nat)(v1:an)(oD:an->asp gS)(v2:Bool):asp gS:=
 bif v2 then
  some (⟨v1.ay,true⟩:gS)
 else
  bif (v1.ar==2)then
   some (⟨(⟨(3:Int),(0:Int),(0:Int),(0:Int),(0:Int)⟩:aE),true⟩:gS)
  else
   bif (v1.ar==8)then
    Option.bind (v1.ax[0]?) λv3=>
    (oD v3).bind λv4=>
    some v4
   else
    bif (v1.ar==11)then
     Option.bind (v1.ax[1]?) λv5=>
     (oD v5).bind λv6=>
     Option.bind (bif v6.dQ then Option.bind (v1.ax[2]?) λv7=>
     (oD v7).bind λv8=>
     some (((v6.yT.aO==v8.yT.aO)&&((v6.yT.bo==v8.yT.bo)&&((v6.yT.bE==v8.yT.bE)&&((v6.yT.bN==v8.yT.bN)&&((v6.yT.bM==v8.yT.bM)&&true)))))&&((v6.dQ==v8.dQ)&&true))else some false) λv9=>
     bif v9 then
      some v6
     else
      some ET
    else
     bif (v1.ar==4)then
      zi N v1 oD (v1.ar==4)
     else
      bif (v1.ar==5)then
       zi N v1 oD (v1.ar==5)
      else
       bif (v1.ar==6)then
        zi N v1 oD (v1.ar==6)
       else
        bif (v1.ar==7)then
         zi N v1 oD (v1.ar==7)
        else
         bif (v1.ar==9)then
          zi N v1 oD (v1.ar==9)
         else
          zi N v1 oD (v1.ar==10)
def lV(N:Nat):Nat->an->asp gS
 |0,_=>none
 |d+1,v1=>
  bif (v1.ar==1)then
   Pq N v1 (lV N d) (v1.ar==1)
  else
   Pq N v1 (lV N d) (v1.ar==12)
def qV(N:Nat)(v1:an):asp gS:=lV N N v1
def R8(v1:an)(l:asn ao):asn ao:= .cells (aA v1).cells:: .cells rW::l
theorem amj(N:Nat):∀d:Nat,(∀{v1:an},KO 111 [(aA v1)] mG (lV N d v1)):=by
 intro d
 induction d with
 |zero=>intro v1 r J;rw[lV]at J;cases J
 |succ d ih=>
  have E0:= @ih;intro v1;rw[lV];exact fw Tryz.func111 (ir 1 [[],[],[]] [1,2,5,6] 2 (λ(v2:Bool)=>⟨61,[(1,(.ptr 0 0)),(2,(.ptr 1 0)),(5,(aw v1.ar)),(6,(az v2))],(R8 v1 [])⟩) (Pq N v1 (lV N d)) (λf1 aD=>au (λfF=>gm aD (v1.ar==1) [[(0,bT fF)]]) λfF=>gm aD (v1.ar==12) [[(0,bF fF)],[]]) (λv2=>dM λ_=>dM λ_=>au (λh3=>aq λv3 h4=>aq λv4 h5=>gR [[(0,bT h3)],[(7,oE (k:=0) (bx h4)),(13,cK E0 h5)]]) λh3=>gA [[(0,bF h3)],[]] (au (λh6=>aq λv5 h7=>aq λv6 h8=>gA [[(0,bT h6)],[(7,oE (k:=1) (bx h7)),(13,cK E0 h8)]] (gG (λv9=>[(40,(az v9))]) (λ_=>(R8 v1 [.cells (mG v6).cells])) (au (λh9=>aq λv7 aK=>aq λv8 aL=>gE [(2,bT h9)] [(19,oE (k:=2) (bx aK)),(25,cK E0 aL)]) λh9=>gE [(2,bF h9)] []) λv9=>aP λbu=>gR [[(0,bF bu)],[]])) λh6=>ir 2 [[(0,bF h6)],[]] [1,2,42] 2 (λ(v10:Bool)=>⟨61,[(1,(.ptr 0 0)),(2,(.ptr 1 0)),(42,(az v10))],(R8 v1 [])⟩) (zi N v1 (lV N d)) (λf2 dI=>au (λb8=>gm dI (v1.ar==4) [[(0,bT b8)]]) λb8=>gA [[(0,bF b8)],[]] (au (λcJ=>gm dI (v1.ar==5) [[(0,bT cJ)]]) λcJ=>gA [[(0,bF cJ)],[]] (au (λcS=>gm dI (v1.ar==6) [[(0,bT cS)]]) λcS=>gA [[(0,bF cS)],[]] (au (λdw=>gm dI (v1.ar==7) [[(0,bT dw)]]) λdw=>gA [[(0,bF dw)],[]] (au (λeC=>gm dI (v1.ar==9) [[(0,bT eC)]]) λeC=>gm dI (v1.ar==10) [[(0,bF eC)],[]]))))) (λv10=>fp λbf=>aq λv11 a7=>aq λv12 bm=>aq λaF bQ=>aq λaV cA=>aq λbt cv=>gR [[(0,bT bf)],[(7,oE (k:=0) (bx a7)),(13,cK E0 bm),(22,oE (k:=1) (bx bQ)),(28,cK E0 cA),(31,cK Zk cv)]]))))
theorem K3{N v1}:KO 111 [(aA v1)] mG (qV N v1):=(amj N N)
def LG(N:Nat)(v1:fm):asp (an×Bool):=
 bif (v1.yE.ar !=12)then
  some (fA,false)
 else
  Option.bind (v1.yE.ax[0]?) λv2=>
  bif (v2.ar==1)then
   (EJ N v2.ay v1.yE.ay v2.bD).bind λv3=>
   (sr N v1.yE.ay v3.1).bind λv4=>
   some (v4,(v3.2==0))
  else
   (qV N v2).bind λv5=>
   Option.bind (bif v5.dQ then some ((v5.yT.aO==v1.yE.ay.aO)&&((v5.yT.bo==v1.yE.ay.bo)&&((v5.yT.bE==v1.yE.ay.bE)&&((v5.yT.bN==v1.yE.ay.bN)&&((v5.yT.bM==v1.yE.ay.bM)&&true)))))else some false) λv6=>
   some (v2,v6)
theorem aix{N v1}:KO 101 [(dm v1)] (λr=> .aX [(aA r.1),(az r.2)]) (LG N v1):=
 fw Tryz.func101 (gA [[],[]] (aP λh1=>aq λv2 h2=>gA [[f0 h1],[(10,oE (k:=0) (bx h2))],[]] (au (λh3=>aq λv3 h4=>aq λv4 h5=>gR [[t0 h3],[(22,cK agx h4)],[(13,cK EB h5)]]) λh3=>aq λv5 h6=>gA [[f0 h3],[(4,cK K3 h6)]] (gU 5 (λv6=>[(3,(az v6))]) (λ_=>[.cells (dm v1).cells, .cells (aA v2).cells, .cells (aA v2).cells, .cells (mG v5).cells]) (au (λh7=>gE [(3,bT h7)] []) λh7=>gE [(3,bF h7)] []) λv6=>gR []))))
def Uu(N:Nat)(v5:an×Bool)(v6:aso)(v7:an):asp (Bool×aso×an):=
 some (v5.2,v6,v7)
def Tg(N:Nat)(v1:fm)(v2:aso)(v3:aso)(v4:an):asp (Bool×aso×an):=
 (LG N v1).bind λv5=>
 bif v5.2 then
  Uu N v5 v2 v5.1
 else
  Uu N v5 v3 v4
theorem anP{N v1 v2 v3 v4}:KP 99 [(dm v1),(.fn 101 []),(bq v2),(.ptr 0 0),(.ptr 1 0)] [.cells [(bq v3)], .cells (aA v4).cells] (λr=>az r.1) (λr=>[.cells [(bq r.2.1)], .cells (aA r.2.2).cells]) (Tg N v1 v2 v3 v4):=
 fh 2 Tryz.func99 (aq λv5 h1=>nF 1 [[],[(7,cK aix h1)],[]] [12] 4 (λ(v6:aso)(v7:an)=>⟨27,[(12,(az v5.2))],[.cells [(bq v6)], .cells (aA v7).cells, .cells (dm v1).cells, .cells (aA v5.1).cells]⟩) (Uu N v5) (λf1 aD=>au (λh2=>gm aD (v2,v5.1) [[t0 h2],[]]) λh2=>gm aD (v3,v4) [[f0 h2]]) (λv6 v7=>gH [[]]))
def Qr(N:Nat)(v1:Int64):asp aH:=
 some (⟨v1,[]⟩:aH)
theorem ao4{N v1}:KO 240 [(aW v1)] bZ (Qr N v1):=
 fw Tryz.func240 (gR [[],[]])
def sw(N:Nat)(v1:an):asp (aH×Bool):=
 bif (v1.ar==2)then
  some (v1.aM,true)
 else
  Option.bind (bif (v1.ar==1)then some (v1.ay.aO==3)else some false) λv2=>
  bif v2 then
   (Qr N v1.bD.xN).bind λv3=>
   some (v3,true)
  else
   some (dq,false)
theorem IP{N v1}:KO 198 [(aA v1)] (λr=> .aX [(bZ r.1),(az r.2)]) (sw N v1):=
 fw Tryz.func198 (gA [[],[]] (aP λh1=>gA [[f0 h1]] (gG (λv2=>[(10,(az v2))]) (λ_=>[.cells (aA v1).cells, .cells wx]) (au (λh2=>gE [(3,bT h2)] []) λh2=>gE [(3,bF h2)] []) λv2=>fp λh4=>aq λv3 h5=>gR [[t0 h4],[(10,cK ao4 h5)]])))
def DV(N:Nat)(v1:Int64):asp Int:=
 bif (decide (v1.toInt<0))then
  some (IntKind.u64.wrap (0-(IntKind.u64.wrap v1.toInt)))
 else
  some (IntKind.u64.wrap v1.toInt)
theorem aai{N v1}:KO 245 [(aW v1)] (λr=> .d (.v (.int .u64 r))) (DV N v1):=
 fw Tryz.func245 (gA [[],[]] (aP λh1=>gR [[f0 h1],[]]))
def K7(N:Nat)(v1:Int)(v2:Int):asp (Int×Int):=
 some ((IntKind.u64.wrap ((IntKind.u64.wrap ((IntKind.u64.wrap (((v1).fdiv (2^(min ((32:Int)).toNat (IntKind.bits .u64))))*((v2).fdiv (2^(min ((32:Int)).toNat (IntKind.bits .u64))))))+(((IntKind.u64.wrap ((IntKind.u64.wrap (((v1).fdiv (2^(min ((32:Int)).toNat (IntKind.bits .u64))))*(IntKind.u64.wrap ((BitVec.ofInt (IntKind.bits .u64) v2&&&BitVec.ofInt (IntKind.bits .u64) (4294967295:Int)).toNat:Int))))+(((IntKind.u64.wrap ((IntKind.u64.wrap ((BitVec.ofInt (IntKind.bits .u64) v1&&&BitVec.ofInt (IntKind.bits .u64) (4294967295:Int)).toNat:Int))*(IntKind.u64.wrap ((BitVec.ofInt (IntKind.bits .u64) v2&&&BitVec.ofInt (IntKind.bits .u64) (4294967295:Int)).toNat:Int))))).fdiv (2^(min ((32:Int)).toNat (IntKind.bits .u64))))))).fdiv (2^(min ((32:Int)).toNat (IntKind.bits .u64))))))+(((IntKind.u64.wrap ((IntKind.u64.wrap ((IntKind.u64.wrap ((BitVec.ofInt (IntKind.bits .u64) v1&&&BitVec.ofInt (IntKind.bits .u64) (4294967295:Int)).toNat:Int))*((v2).fdiv (2^(min ((32:Int)).toNat (IntKind.bits .u64))))))+(IntKind.u64.wrap ((BitVec.ofInt (IntKind.bits .u64) (IntKind.u64.wrap ((IntKind.u64.wrap (((v1).fdiv (2^(min ((32:Int)).toNat (IntKind.bits .u64))))*(IntKind.u64.wrap ((BitVec.ofInt (IntKind.bits .u64) v2&&&BitVec.ofInt (IntKind.bits .u64) (4294967295:Int)).toNat:Int))))+(((IntKind.u64.wrap ((IntKind.u64.wrap ((BitVec.ofInt (IntKind.bits .u64) v1&&&BitVec.ofInt (IntKind.bits .u64) (4294967295:Int)).toNat:Int))*(IntKind.u64.wrap ((BitVec.ofInt (IntKind.bits .u64) v2&&&BitVec.ofInt (IntKind.bits .u64) (4294967295:Int)).toNat:Int))))).fdiv (2^(min ((32:Int)).toNat (IntKind.bits .u64))))))&&&BitVec.ofInt (IntKind.bits .u64) (4294967295:Int)).toNat:Int))))).fdiv (2^(min ((32:Int)).toNat (IntKind.bits .u64)))))),(IntKind.u64.wrap (v1*v2)))
theorem aeB{N v1 v2}:KO 244 [(.d (.v (.int .u64 v1))),(.d (.v (.int .u64 v2)))] (λr=> .aX [(.d (.v (.int .u64 r.1))),(.d (.v (.int .u64 r.2)))]) (K7 N v1 v2):=
 fw Tryz.func244 (gR [[],[],[(4,⟨_,_, .nn (b:=32) (by decide)⟩),(19,⟨_,_, .nn (b:=32) (by decide)⟩)],[(10,⟨_,_, .nn (b:=32) (by decide)⟩)],[(4,⟨_,_, .nn (b:=32) (by decide)⟩),(10,⟨_,_, .nn (b:=32) (by decide)⟩),(19,⟨_,_, .nn (b:=32) (by decide)⟩),(28,⟨_,_, .nn (b:=32) (by decide)⟩)]])
def Hc(N:Nat)(v1:Int64)(v2:Int64):asp (Int64×Bool):=
 (DV N v1).bind λv3=>
 (DV N v2).bind λv4=>
 (K7 N v3 v4).bind λv5=>
 Option.bind (bif (v5.1 !=0)then some true else(bif (decide (v5.2>9223372036854775808))then some true else(bif (v5.2==9223372036854775808)then some (!(!((decide (v1.toInt<0))==(decide (v2.toInt<0)))))else some false))) λv6=>
 bif v6 then
  some ((0:Int64),false)
 else
  bif ((decide (v1.toInt<0))==(decide (v2.toInt<0)))then
   some ((Int64.ofInt v5.2),true)
  else
   some ((Int64.ofInt (IntKind.u64.wrap (0-v5.2))),true)
theorem acd{N v1 v2}:KO 201 [(aW v1),(aW v2)] (λr=> .aX [(aW r.1),(az r.2)]) (Hc N v1 v2):=
 fw Tryz.func201 (aq λv3 h1=>aq λv4 h2=>aq λv5 h3=>gA [[],[(4,cK aai h1),(10,cK aai h2),(13,cK aeB h3)],[]] (gG (λv6=>[(22,(az v6))]) (λ_=>[]) (au (λh4=>gE [(2,bT h4),(6,bT rfl),(9,uN)] []) λh4=>aY (2,bF h4) (au (λh5=>gE [(6,bT h5),(9,uN)] []) λh5=>aY (6,bF h5) (au (λh6=>gE [(9,bT h6)] [(37,bT h6)]) λh6=>gE [(9,bF h6)] [(37,bF h6)]))) λv6=>dM λ_=>au (λh9=>gR [[f0 (bV h9)],[(5,⟨_,_, .eq (fM v5.2)⟩)]]) λh9=>gR [[t0 (cx h9)],[(8,⟨_,_, .eq (fM (IntKind.u64.wrap (0-v5.2)))⟩)]]))
def D5(N:Nat)(v4:Int64×Bool)(v2:Int64):asn bB->Nat->Bool->(asn bB)->asp (aH×Int)
 |[],_,v9,v10=>
  bif v9 then
   some ((⟨v4.1,v10⟩:aH),(0:Int))
  else
   some (dq,(3:Int))
 |v7::v8,v5,v9,v10=>
  (Hc N v7.dE v2).bind λv11=>
  (bif v9 then some v11.2 else some false).bind λv12=>
  bif (Nat.ble ((v10.length+1)*24) 140737488355328)then
  (λcD gy=>D5 N v4 v2 v8 (v5+1) cD gy) v12 (v10++[(⟨v7.aC,v11.1⟩:bB)])
  else none
def uW(N:Nat)(v1:aH)(v2:Int64):asp (aH×Int):=
 (uu N v1).bind λv3=>
 bif (v3 !=0)then
  some (dq,(1:Int))
 else
  bif (v2.toInt==0)then
   some (dq,(0:Int))
  else
   (Hc N v1.xK v2).bind λv4=>
   D5 N v4 v2 v1.xL 0 v4.2 []
theorem RN{N v1 v2}:KO 147 [(bZ v1),(aW v2)] (λr=> .aX [(bZ r.1),(aw r.2)]) (uW N v1 v2):=
 fw Tryz.func147 (aq λv3 h1=>gA [[],[(4,cK z6 h1)]] (dM λ_=>aP λh3=>aq λv4 h4=>gA [[f0 h3],[(10,cK acd h4)],[],[(7,oL v1.xL dL)]] (li (λ_=>(GF 2 1 79 2 [] (.inr (by kernel_rfl)) ·)) (gT mV 30 v1.xL λh6=>gx2 1 [] [1,4,7,8,30,31,32] 4 [] [(1,1)] (λv5(v9:Bool)(v10:(asn bB))=>⟨61,[(1,(aW v2)),(4,(.ptr 1 0)),(7,(az v9)),(8,(.ptr 2 0)),(30,(.d (.sl (cz v1.xL)))),(31,(aw (v1.xL.length:Int))),(32,(aw (v5:Int)))],[.cells (bZ v1).cells, .cells wx, .cells [(aW v4.1),(.own 3 (cz v10))], .front 79 2 v10.length]⟩) (λv5 v9 v10 h7 f1=>gA [[],[f0 (b5 h7)],[]] (m0 λh8=>gR [[t0 (cx h8)],[]])) (λv5 v7 v8 v9 v10 h7 f1 aD=>aq λv11 h9=>gA [[],[t0 (bU h7)],[(1,oE (ga (ba h7)))],[(10,cK acd h9)]] (gG (λv12=>[(7,(az v12))]) (λ_=>[.cells (bZ v1).cells, .cells wx, .cells [(aW v4.1),(.own 3 (cz v10))], .front 79 2 v10.length, .cells (NI v7).cells]) (au (λaK=>gE [(1,bT aK)] []) λaK=>gE [(1,bF aK)] []) λv12=>cO λaT=>y8 aD (v12,(v10++[(⟨v7.aC,v11.1⟩:bB)])) [[(22,oA mV v10 ([(⟨v7.aC,v11.1⟩:bB)]) aT)],[(2,oq (ca h7 rfl h6))]] h7))))))
def EZ(N:Nat)(v1:Int64)(v2:Int64):asp (Int64×Bool):=
 some ((v1+v2),((decide ((v1+v2).toInt>v1.toInt))==(decide (v2.toInt>0))))
theorem WA{N v1 v2}:KO 241 [(aW v1),(aW v2)] (λr=> .aX [(aW r.1),(az r.2)]) (EZ N v1 v2):=
 fw Tryz.func241 (gR [[],[(8,⟨_,_, .eq (mY v1 v2)⟩)],[]])
def BH(N:Nat)(v1:aso)(v2:Int64)(v3:Int64)(v4:Bool)(v5:Int64)(v6:asn bB):asp (Bool×(asn bB)):=
 (EZ N v2 v3).bind λv7=>
 (bif v4 then some v7.2 else some false).bind λv8=>
 bif (v7.1.toInt !=0)then
  bif (Nat.ble ((v6.length+1)*24) 140737488355328)then
  some (v8,(v6++[(⟨v1,v7.1⟩:bB)]))
  else none
 else
  some (v8,v6)
theorem PE{N v1 v2 v3 v4 v5 v6}:KP 243 [(bq v1),(aW v2),(aW v3),(.ptr 0 0),(.ptr 1 0)] [.cells [(az v4)], .cells [(aW v5),(.own 2 (cz v6))], .front 79 2 v6.length] (λ_=> .aX []) (λr=>[.cells [(az r.1)], .cells [(aW v5),(.own 2 (cz r.2))], .front 79 2 r.2.length]) (BH N v1 v2 v3 v4 v5 v6):=
 fh 3 Tryz.func243 (aq λv7 h1=>gA [[(7,cK WA h1)]] (gG (λ_=>[]) (λv8=>[.cells [(az v8)], .cells [(aW v5),(.own 2 (cz v6))], .front 79 2 v6.length]) (au (λh2=>gE [(1,bT h2)] []) λh2=>gE [(1,bF h2)] []) λv8=>gA [[]] (au (λh4=>cO λh5=>gH [[t0 h4],[(19,oA mV v6 ([(⟨v1,v7.1⟩:bB)]) h5)]]) λh4=>gH [[f0 h4]])))
def nt(N:Nat)(v4:Int64):Nat->(asn bB)->(asn bB)->Bool->(asn bB)->asp (Bool×(asn bB))
 |0,_,_,_,_=>none
 |v5+1,v6,v7,v8,v9=>
  Option.bind (bif (decide ((v6.length:Int)>0))then some true else some (decide ((v7.length:Int)>0))) λv10=>
  bif v10 then
   Option.bind (bif ((v7.length:Int)==0)then some true else(bif (decide ((v6.length:Int)>0))then Option.bind (v6[0]?) λv11=>
   Option.bind (v7[0]?) λv12=>
   some (Op.bytesLess (bL v11.aC) (bL v12.aC))else some false)) λaF=>
   bif aF then
    Option.bind (v6[0]?) λaV=>
    Option.bind (BH N aV.aC aV.dE (0:Int64) v8 v4 v9) λbt=>
    bif (decide (1<=v6.length))then
    (λcD gy ta zy=>nt N v4 v5 cD gy ta zy) (v6.drop 1) v7 bt.1 bt.2
    else none
   else
    Option.bind (bif ((v6.length:Int)==0)then some true else Option.bind (v7[0]?) λbK=>
    Option.bind (v6[0]?) λbC=>
    some (Op.bytesLess (bL bK.aC) (bL bC.aC))) λaR=>
    bif aR then
     Option.bind (v7[0]?) λbX=>
     Option.bind (BH N bX.aC (0:Int64) bX.dE v8 v4 v9) λv20=>
     bif (decide (1<=v7.length))then
     (λcD gy ta zy=>nt N v4 v5 cD gy ta zy) v6 (v7.drop 1) v20.1 v20.2
     else none
    else
     Option.bind (v6[0]?) λv21=>
     Option.bind (v7[0]?) λcM=>
     (BH N v21.aC v21.dE cM.dE v8 v4 v9).bind λcF=>
     bif (decide (1<=v6.length))then
     bif (decide (1<=v7.length))then
     (λcD gy ta zy=>nt N v4 v5 cD gy ta zy) (v6.drop 1) (v7.drop 1) cF.1 cF.2
     else none
     else none
  else
   some (v8,v9)
def J6(N:Nat)(v1:asn bB)(v2:asn bB)(v3:Bool)(v4:Int64):asp (Bool×(asn bB)):=
 nt N v4 N v1 v2 v3 []
def zQ(v8:Bool)(v4:Int64)(v9:asn bB)(l:asn ao):asn ao:= .cells [(az v8)]:: .cells [(aW v4),(.own 2 (cz v9))]:: .front 79 2 v9.length::l
def Qz(bt:Bool×(asn bB))(v4:Int64)(l:asn ao):asn ao:= .cells [(az bt.1)]:: .cells [(aW v4),(.own 2 (cz bt.2))]:: .front 79 2 bt.2.length::l
theorem aiK{N v1 v2 v3 v4 r}(J:J6 N v1 v2 v3 v4=some r):KH 242 [(.d (.sl (cz v1))),(.d (.sl (cz v2))),(.fn 243 [(.ptr 0 0),(.ptr 1 0)])] ([.cells [(az v3)], .cells [(aW v4),(.d (.v (.slice none 0 0)))]]) (.aX []) ([.cells [(az r.1)], .cells [(aW v4),(.own 2 (cz r.2))], .front 79 2 r.2.length]):=by
 rw[J6]at J;refine Is 3 Tryz.func242 ?_;refine GF 1 1 79 2 [] (.inr (by kernel_rfl)) ?_;refine Jw cn 1 [] [0,1,2] 3 (λ((v5,v6,v7,v8,v9):Nat×(asn bB)×(asn bB)×Bool×(asn bB))=>⟨91,[(0,(.d (.sl (cz v6)))),(1,(.d (.sl (cz v7)))),(2,(.fn 243 [(.ptr 0 0),(.ptr 1 0)]))],(zQ v8 v4 v9 [])⟩) (λ((v5,v6,v7,v8,v9):Nat×(asn bB)×(asn bB)×Bool×(asn bB))=>nt N v4 v5 v6 v7 v8 v9=some r) (λ((v5,v6,v7,v8,v9):Nat×(asn bB)×(asn bB)×Bool×(asn bB))=>v5) (N,v1,v2,v3,[]) J ?_;rintro⟨v5,v6,v7,v8,v9⟩ J f1 aD
 try dsimp only at J
 cases v5 with
 |zero=>
  rw[nt]at J;cases J
 |succ v5=>
  rw[nt]at J;obtain⟨v10,h2,J⟩:=dC J;refine JR cn [(13,(az v10))] (zQ v8 v4 v9 []) ?_ ?_
  ·apply bc h2<;>intro h1 h2
   ·cases h2;exact k00 [(3,bT h1)] [(4,oL v6 dL)]
   cases h2;exact k00 [(3,bF h1)] [(4,oL v6 dL),(16,oL v7 dL)]
  apply bc J<;>intro h3 J
  ·refine kx cn [[(0,bT h3)]] ?_;obtain⟨aF,h8,J⟩:=dC J;refine JR cn [(32,(az aF))] (zQ v8 v4 v9 []) ?_ ?_
   ·apply bc h8<;>intro h4 h8
    ·cases h8;exact k00 [(3,bT h4),(7,uN)] [(4,oL v7 dL)]
    apply bc h8<;>intro h5 h8
    ·obtain⟨v11,h6,v12,h7,h8⟩:=k01 h8;cases h8;exact k00 [(3,bF h4),(7,bT h5)] [(4,oL v7 dL),(16,oL v6 dL),(28,oE (k:=0) (ga h6)),(40,oE (k:=0) (ga h7)),(52,bT h5)]
    cases h8;exact k00 [(3,bF h4),(7,bF h5)] [(4,oL v7 dL),(16,oL v6 dL),(52,bF h5)]
   apply bc J<;>intro h9 J
   ·refine kx cn [[(0,bT h9)]] ?_;obtain⟨aV,aK,bt,aL,J⟩:=k01 J;refine RK cn [(7,oE (k:=0) (ga aK)),(19,oE (k:=0) (ga aK)),(28,oR [(bq aV.aC),(aW aV.dE),(aW (0:Int64)),(.ptr 0 0),(.ptr 1 0)] (zQ v8 v4 v9 []) [0,1,2] (PE _ aL))] [] (Qz bt v4 []) ?_;obtain⟨aT,J⟩:=l5 J;exact An cn aD (v5,(v6.drop 1),v7,bt.1,bt.2) [[(4,⟨_,_, .ER (xs:=cz v6) (lo:=1) (by decide) (by rw[dL];exact(of_decide_eq_true aT)) Cr IG⟩)]] J
   refine kx cn [[(0,bF h9)]] ?_;obtain⟨aR,bm,J⟩:=dC J;refine JR cn [(64,(az aR))] (zQ v8 v4 v9 []) ?_ ?_
   ·apply bc bm<;>intro bu bm
    ·cases bm;exact k00 [(3,bT bu)] [(4,oL v6 dL)]
    obtain⟨bK,bf,bC,a7,bm⟩:=k01 bm;cases bm;exact k00 [(3,bF bu)] [(4,oL v6 dL),(16,oE (k:=0) (ga bf)),(28,oE (k:=0) (ga a7))]
   apply bc J<;>intro bQ J
   ·refine kx cn [[(0,bT bQ)]] ?_;obtain⟨bX,cA,v20,cv,J⟩:=k01 J;refine RK cn [(7,oE (k:=0) (ga cA)),(19,oE (k:=0) (ga cA)),(28,oR [(bq bX.aC),(aW (0:Int64)),(aW bX.dE),(.ptr 0 0),(.ptr 1 0)] (zQ v8 v4 v9 []) [0,1,2] (PE _ cv))] [] (Qz v20 v4 []) ?_;obtain⟨b8,J⟩:=l5 J;exact An cn aD (v5,v6,(v7.drop 1),v20.1,v20.2) [[(4,⟨_,_, .ER (xs:=cz v7) (lo:=1) (by decide) (by rw[dL];exact(of_decide_eq_true b8)) Cr IG⟩)]] J
   refine kx cn [[(0,bF bQ)]] ?_;obtain⟨v21,cJ,cM,cS,J⟩:=k01 J;obtain⟨cF,dw,J⟩:=dC J;refine RK cn [(7,oE (k:=0) (ga cJ)),(19,oE (k:=0) (ga cJ)),(31,oE (k:=0) (ga cS)),(40,oR [(bq v21.aC),(aW v21.dE),(aW cM.dE),(.ptr 0 0),(.ptr 1 0)] (zQ v8 v4 v9 []) [0,1,2] (PE _ dw))] [] (Qz cF v4 []) ?_;obtain⟨eC,J⟩:=l5 J;obtain⟨fF,J⟩:=l5 J;exact An cn aD (v5,(v6.drop 1),(v7.drop 1),cF.1,cF.2) [[(4,⟨_,_, .ER (xs:=cz v6) (lo:=1) (by decide) (by rw[dL];exact(of_decide_eq_true eC)) Cr IG⟩),(10,⟨_,_, .ER (xs:=cz v7) (lo:=1) (by decide) (by rw[dL];exact(of_decide_eq_true fF)) Cr IG⟩)]] J
  cases J;exact u9 cn [[(0,bF h3)]]
def yn(N:Nat)(v1:aH)(v2:aH):asp (aH×Int):=
 (uu N v1).bind λv3=>
 Option.bind (bif (v3 !=0)then some true else (uu N v2).bind λv4=>
 some (v4 !=0)) λv5=>
 bif v5 then
  some (dq,(1:Int))
 else
  (EZ N v1.xK v2.xK).bind λv6=>
  (J6 N v1.xL v2.xL v6.2 v6.1).bind λv7=>
  bif v7.1 then
   some ((⟨v6.1,v7.2⟩:aH),(0:Int))
  else
   some (dq,(3:Int))
theorem ZL{N v1 v2}:KO 200 [(bZ v1),(bZ v2)] (λr=> .aX [(bZ r.1),(aw r.2)]) (yn N v1 v2):=
 fw Tryz.func200 (gA [[]] (aq λv3 h1=>gG (λv5=>[(15,(az v5))]) (λ_=>[.cells (bZ v1).cells, .cells (bZ v2).cells, .cells wx]) (bz (4,cK z6 h1) (au (λh2=>gE [(3,bT h2)] []) λh2=>aq λv4 h3=>gE [(3,bF h2)] [(16,cK z6 h3)])) λv5=>aP λh5=>aq λv6 h6=>aq λv7 h7=>gA [[f0 h5],[],[],[(13,cK WA h6)],[(16,oR [(.d (.sl (cz v1.xL))),(.d (.sl (cz v2.xL))),(.fn 243 [(.ptr 4 0),(.ptr 3 0)])] [.cells (bZ v1).cells, .cells (bZ v2).cells, .cells wx, .cells [(aW v6.1),(.d (.v (.slice none 0 0)))], .cells [(az v6.2)]] [4,3] (aiK h7))],[]] (m0 λh8=>gR [[t0 (cx h8)],[]])))
def BY(N:Nat)(v1:aH)(v2:aH):asp (aH×Bool):=
 Option.bind (uW N v2 (-1:Int64)) λv3=>
 bif (v3.2 !=0)then
  some (dq,false)
 else
  (yn N v1 v3.1).bind λv4=>
  some (v4.1,(v4.2==0))
theorem UL{N v1 v2}:KO 199 [(bZ v1),(bZ v2)] (λr=> .aX [(bZ r.1),(az r.2)]) (BY N v1 v2):=
 fw Tryz.func199 (aq λv3 h1=>gA [[],[(4,cK RN h1)],[]] (aP λh2=>aq λv4 h3=>gR [[f0 h2],[(7,cK ZL h3)],[]]))
def Gq(N:Nat)(v1:aH):asp an:=
 some (⟨(2:Int),(bs []),bW,cY,v1,[],[]⟩:an)
theorem J8{N v1}:KO 148 [(bZ v1)] aA (Gq N v1):=
 fw Tryz.func148 (gR [[],[]])
end Go.Proofs.YtdchibpnjpnkoaaGreatDoor
