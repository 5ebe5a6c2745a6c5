/-
  Part 11 of the proof: PQ2.
-/
import Derived.Test.YtpgmcallngdceaaGreatDoorSe10
namespace Go.Proofs.YtpgmcallngdceaaGreatDoor
open Go.RowKit
set_option maxRecDepth 100000
set_option maxHeartbeats 0
set_option linter.unusedVariables false
def eo:an:=⟨(0:Int),(bs []),bg,ca,bV,[],[]⟩
def ef:ak3 AV:=[(aw (0:Int)),(aS (bs [])),(aI (0:Int64)),(aI (0:Int64)),(aw (0:Int)),(aw (0:Int)),(aw (0:Int)),(aw (0:Int)),(aw (0:Int)),(aI (0:Int64)),(.d (.v (.slice none 0 0))),(.d (.v (.slice none 0 0))),(.d (.v (.slice none 0 0)))]
def fA:ak3 AV:=[(aI (0:Int64)),(aI (0:Int64))]
def N5(v:an)(r:ak3 AV):ak3 AV:=(aw v.ar)::(aS v.aV)::(aI v.ba.xN)::(aI v.ba.xD)::(aw v.aD.a8)::(aw v.aD.bz)::(aw v.aD.xFrac)::(aw v.aD.bK)::(aw v.aD.bM)::r
def cf1(v:aC)(r:ak3 AV):ak3 AV:=(aw v.a8)::(aw v.bz)::(aw v.xFrac)::(aw v.bK)::(aw v.bM)::r
def wU(N:Nat):ak3 an→ak5 Int
 |[]=>
  some (0:Int)
 |v5::v6=>
  Option.bind (C7 N v5) fun v7=>
  bif (v7 !=(0:Int))then
   some v7
  else
   (wU N v6)
def BZ(N:Nat)(v1:an):ak5 Int:=
 Option.bind (Ju N v1) fun v2=>
 bif (decide (v2>(40:Int)))then
  some (13:Int)
 else
  Option.bind (vj N v1) fun v3=>
  bif (decide (v3>(2000:Int)))then
   some (2:Int)
  else
   Option.bind (J1 N v1) fun v4=>
   wU N (cz v4)
def mZ(v1:an)(l:ak3 aq):ak3 aq:= .cells (aA v1).cells:: .cells [(aw (0:Int))]::l
def MP(v1:an)(iO:Code)(iN:Code)(v4:an)(v5:an)(l:ak3 aq):ak3 aq:=mZ v1 (.lp .busy 13 iO iN (dz 19 [(2,(.ptr 1 0)),(12,(.fn 65 [(.bE [cJ v4] 0 0)]))]):: .cells (aA v5).cells::l)
theorem ae1(N:Nat)(v1:an)(r:Int)(hF:BZ N v1=some r):aG Tryz.prog 25 [(aA v1)] (·=(aw r)):=by
 rw[BZ]at hF;refine AG Tryz.func25 rfl (by kernel_rfl) ?_;refine jf [0] 0 (akq _) (s':=⟨19,[(0,(aA v1))],[]⟩) (by kernel_rfl) ?_;refine bH ?_;refine rg [] [(1,(.ptr 0 0)),(2,(.ptr 1 0))] (mZ v1 []) (by kernel_rfl) ?_;refine bH ?_;refine bH ?_;obtain⟨v2,h1,hF⟩:=ao hF;refine rg [(4,cL (acE N v1 v2 h1))] [(7,(aB (decide (v2>(40:Int)))))] (mZ v1 []) (by kernel_rfl) ?_;rcases jS (decide (v2>(40:Int)))with h2|h2
 ·replace hF:=(eI h2).symm.trans hF;refine kp (t:=(decide (v2>(40:Int)))) (by kernel_rfl) h2 ?_;refine bH ?_;refine rg [] [] [.cells (aA v1).cells, .cells [(aw (13:Int))]] (by kernel_rfl) ?_;refine dU (fu ?_);have hr:=aky hF;subst hr;exact jV (by kernel_rfl)
 replace hF:=(kd h2).symm.trans hF;refine jZ (t:=(decide (v2>(40:Int)))) (by kernel_rfl) h2 ?_;refine fM ?_;refine cA ?_;refine bH ?_;refine bH ?_;obtain⟨v3,h3,hF⟩:=ao hF;refine rg [(4,cL (uS N v1 v3 h3))] [(10,(aB (decide (v3>(2000:Int)))))] (mZ v1 []) (by kernel_rfl) ?_;rcases jS (decide (v3>(2000:Int)))with h4|h4
 ·replace hF:=(eI h4).symm.trans hF;refine kp (t:=(decide (v3>(2000:Int)))) (by kernel_rfl) h4 ?_;refine bH ?_;refine rg [] [] [.cells (aA v1).cells, .cells [(aw (2:Int))]] (by kernel_rfl) ?_;refine dU (fu ?_);have hr:=aky hF;subst hr;exact jV (by kernel_rfl)
 replace hF:=(kd h4).symm.trans hF;refine jZ (t:=(decide (v3>(2000:Int)))) (by kernel_rfl) h4 ?_;refine fM ?_;refine cA ?_;refine bH ?_;refine bH ?_;obtain⟨v4,h5,hF⟩:=ao hF;refine rg [(4,cL (U4 N v1 v4 h5))] [(12,(.fn 65 [(.bE [cJ v4] 0 0)]))] (mZ v1 []) (by kernel_rfl) ?_;refine gO ?_;refine jf [2,12] 2 (akn rfl) (s':=⟨19,[(2,(.ptr 1 0)),(12,(.fn 65 [(.bE [cJ v4] 0 0)]))],(mZ v1 [])⟩) (by kernel_rfl) ?_;refine OI (m:=2) (enc:=aA) (xs:=(cz v4)) (by kernel_rfl) (T4 v4) (fun(_:Unit)=>(mZ v1 [])) (fun(_:Unit) l=>wU N l=some r) () (by kernel_rfl) hF (by rintro _;rfl) (by rintro _;kernel_rfl) (by kernel_rfl) rfl ?_ ?_
 ·rintro _ v5 v6 hF h6 iO iN
  try dsimp only at hF
  rw[wU]at hF;refine jf [2,13] 3 (akq _) (s':=⟨19,[(2,(.ptr 1 0)),(13,(aA v5))],(mZ v1 [.lp .ready 13 iO iN (dz 19 [(2,(.ptr 1 0)),(12,(.fn 65 [(.bE [cJ v4] 0 0)]))])])⟩) (by kernel_rfl) ?_;refine re [] [(3,(.ptr 3 0))] (mZ v1 [.lp .ready 13 iO iN (dz 19 [(2,(.ptr 1 0)),(12,(.fn 65 [(.bE [cJ v4] 0 0)]))]), .cells (aA v5).cells]) (by kernel_rfl) ?_;refine cA ?_;refine⟨(mZ v1 []),[.cells (aA v5).cells],rfl,(by kernel_rfl),?_⟩;refine jf [2,3] 4 (akn rfl) (s':=⟨19,[(2,(.ptr 1 0)),(3,(.ptr 3 0))],(MP v1 iO iN v4 v5 [])⟩) (by kernel_rfl) ?_;refine gO ?_;refine bH ?_;obtain⟨v7,h7,hF⟩:=ao hF;refine rg [(4,cL (ai2 N v5 v7 h7))] [(4,(aw v7))] (MP v1 iO iN v4 v5 []) (by kernel_rfl) ?_;refine bH ?_;refine rg [] [(17,(aB (v7 !=(0:Int))))] (MP v1 iO iN v4 v5 []) (by kernel_rfl) ?_;rcases jS (v7 !=(0:Int))with h8|h8
  ·replace hF:=(eI h8).symm.trans hF;refine kp (t:=(v7 !=(0:Int))) (by kernel_rfl) h8 ?_;refine bH ?_;refine rg [] [] [.cells (aA v1).cells, .cells [(aw v7)], .lp .busy 13 iO iN (dz 19 [(2,(.ptr 1 0)),(12,(.fn 65 [(.bE [cJ v4] 0 0)]))]), .cells (aA v5).cells] (by kernel_rfl) ?_;refine dU (gv ?_);refine UZ [.cells (aA v1).cells, .cells [(aw v7)]] rfl (by kernel_rfl) (by kernel_rfl) ?_;refine(gv (fu ?_));have hr:=aky hF;subst hr;exact jV (by kernel_rfl)
  replace hF:=(kd h8).symm.trans hF;refine jZ (t:=(v7 !=(0:Int))) (by kernel_rfl) h8 ?_;refine fM ?_;refine ln ?_;refine MI (mZ v1 []) rfl (by kernel_rfl) (by kernel_rfl) ?_;exact⟨(),(by kernel_rfl),hF⟩
 rintro _ hF
 try dsimp only at hF
 rw[wU]at hF;refine ln ?_;refine cA ?_;refine bH ?_;refine rg [] [] (mZ v1 [.gone]) (by kernel_rfl) ?_;refine dU ?_;have hr:=aky hF;subst hr;exact jV (by kernel_rfl)
def MR(N:Nat)(v1:ak3 aU):ak5 (ak3 aU):=bif Nat.ble (v1.length*24) 140737488355328 then some v1 else none
theorem ajN(N:Nat)(v1 r:ak3 aU)(hF:MR N v1=some r):aG Tryz.prog 55 [(.d (.sl (b5 v1)))] (·=(.d (.sl (b5 r)))):=by
 obtain⟨hb,rfl⟩:=dt hF;have hc:=ph hb (by decide);exact aif Ad (by rw[dg];exact hc.1) (by rw[dg];exact hc.2)
def xn(N:Nat)(v1:aF):ak5 (aF×Int):=
 Option.bind (MR N v1.xL) fun v2=>
 some ((⟨v1.xK,v2⟩:aF),(0:Int))
theorem LF(N:Nat)(v1:aF)(r:aF×Int)(hF:xn N v1=some r):aG Tryz.prog 54 [(b9 v1)] (·=(.bk [(b9 r.1),(aw r.2)])):=by
 rw[xn]at hF;refine aR Tryz.func54 ?_;obtain⟨v2,h1,hF⟩:=ao hF;cases hF;exact wr af [[],[(13,cL (ajN N v1.xL v2 h1))]]
def NT(N:Nat)(v1:ak3 aH):ak5 (ak3 aH):=bif Nat.ble (v1.length*72) 140737488355328 then some v1 else none
theorem Zp(N:Nat)(v1 r:ak3 aH)(hF:NT N v1=some r):bQ Tryz.prog 101 [(.d (.sl (cm v1)))] [] fun r1 h1=>r1=(.vec 0 0 r.length r.length 4)∧h1=[.vec 60 4 (bq (r.map eY))]:=by
 obtain⟨hb,rfl⟩:=dt hF;have hc:=ph hb (by decide);have h1:=aeb (xs:=cm v1) Td (by rw[dP];exact hc.1) (by rw[dP];exact hc.2);have h2:bq (v1.map eY)=bq (cm v1):=by rw[qD]
 have h3:=dP (l:=v1);rw[h3]at h1;rw[h2];exact h1
def L6(N:Nat)(v1:ak3 aF):ak5 (ak3 aF):=bif Nat.ble (v1.length*32) 140737488355328 then some v1 else none
theorem YJ(N:Nat)(v1 r:ak3 aF)(hF:L6 N v1=some r):bQ Tryz.prog 102 [(.d (.sl (du v1)))] [] fun r1 h1=>r1=(.vec 0 0 r.length r.length 2)∧h1=[.vec 28 2 (bq (r.map iY))]:=by
 obtain⟨hb,rfl⟩:=dt hF;have hc:=ph hb (by decide);have h1:=aca (xs:=du v1) WV (by rw[eV];exact hc.1) (by rw[eV];exact hc.2);have h2:bq (v1.map iY)=bq (du v1):=by rw[qp]
 have h3:=eV (l:=v1);rw[h3]at h1;rw[h2];exact h1
def Ov(N:Nat)(v1:ak3 an):ak5 (ak3 an):=bif Nat.ble (v1.length*160) 140737488355328 then some v1 else none
theorem af5(N:Nat)(v1 r:ak3 an)(hF:Ov N v1=some r):bQ Tryz.prog 103 [(.d (.sl (cq v1)))] [] fun r1 h1=>r1=(.vec 0 0 r.length r.length 13)∧h1=[.vec 32 13 (bq (r.map cJ))]:=by
 obtain⟨hb,rfl⟩:=dt hF;have hc:=ph hb (by decide);have h1:=XQ (xs:=cq v1) Hm (by rw[dC];exact hc.1) (by rw[dC];exact hc.2);have h2:bq (v1.map cJ)=bq (cq v1):=by rw[fa]
 have h3:=dC (l:=v1);rw[h3]at h1;rw[h2];exact h1
def th(N:Nat)(v8:ak3 aH)(v3:ak3 aH)(v9:ak3 an)(v1:an)(v2:aF×Int)(CR:an→ak5 (an×Int)):ak3 an→Nat→(ak3 an)→ak5 (an×Int)
 |[],_,bu=>
  bif (Nat.beq v8.length v3.length)then
  bif (Nat.beq bu.length v9.length)then
  some ((⟨v1.ar,v1.aV,v1.ba,v1.aD,v2.1,v8,bu⟩:an),(0:Int))
  else none
  else none
 |v12::aX,v10,bu=>
  Option.bind (CR v12) fun bN=>
  bif (Nat.beq bu.length v9.length)then
  bif (decide ((v10:Int)<(v9.length:Int)))then
  Option.bind (bu[v10]?) fun dh=>
  bif (bN.2 !=(0:Int))then
   some (eo,bN.2)
  else
   (fun rP=>th N v8 v3 v9 v1 v2 CR aX (v10+1) rP) (bu.set v10 bN.1)
  else none
  else none
def sL(N:Nat)(cC:ak3 aF)(mw:(ak3 aH)→ak5 (an×Int))(v8:ak3 aH)(v4:Nat)(bX:aF×Int)(bx:aH):ak3 aF→Nat→(ak3 aF)→ak5 (an×Int)
 |[],_,v24=>
  bif (Nat.beq v24.length cC.length)then
  mw ((v8.set v4 (⟨bX.1,bx.xFrom,bx.bD⟩:aH)).set v4 (⟨(⟨bX.1,bx.xFrom,bx.bD⟩:aH).aM,(⟨bX.1,bx.xFrom,bx.bD⟩:aH).xFrom,v24⟩:aH))
  else none
 |fe::dx,v20,v24=>
  Option.bind (xn N fe) fun nt=>
  bif (Nat.beq v24.length cC.length)then
  bif (decide ((v20:Int)<(cC.length:Int)))then
  Option.bind (v24[v20]?) fun QT=>
  bif (nt.2 !=(0:Int))then
   some (eo,nt.2)
  else
   (fun Dc=>sL N cC mw v8 v4 bX bx dx (v20+1) Dc) (v24.set v20 nt.1)
  else none
  else none
def rC(N:Nat)(v1:an)(v3:ak3 aH)(v2:aF×Int)(CR:an→ak5 (an×Int)):ak3 aH→Nat→(ak3 aH)→ak5 (an×Int)
 |[],_,v8=>
  Option.bind (Ov N v1.ax) fun v9=>
  th N v8 v3 v9 v1 v2 CR v1.ax 0 v9
 |v6::v7,v4,v8=>
  Option.bind (xn N v6.aM) fun bX=>
  bif (Nat.beq v8.length v3.length)then
  bif (decide ((v4:Int)<(v3.length:Int)))then
  Option.bind (v8[v4]?) fun bx=>
  bif (bX.2 !=(0:Int))then
   some (eo,bX.2)
  else
   Option.bind (L6 N v6.bD) fun cC=>
   bif (Nat.beq (v8.set v4 (⟨bX.1,bx.xFrom,bx.bD⟩:aH)).length v3.length)then
   sL N cC (fun cX=>rC N v1 v3 v2 CR v7 (v4+1) cX) v8 v4 bX bx v6.bD 0 cC
   else none
  else none
  else none
def pI(N:Nat):Nat→an→ak5 (an×Int)
 |0,_=>none
 |d+1,v1=>
  Option.bind (xn N v1.aM) fun v2=>
  bif (v2.2 !=(0:Int))then
   some (eo,v2.2)
  else
   Option.bind (NT N v1.xIdx) fun v3=>
   rC N v1 v3 v2 (pI N d) v1.xIdx 0 v3
def KO(N:Nat)(v1:an):ak5 (an×Int):=pI N N v1
def Nr(v1:an)(l:ak3 aq):ak3 aq:= .cells (aA v1).cells:: .cells ef::l
def Jn(v1:an)(v2:aF×Int)(v3:ak3 aH)(l:ak3 aq):ak3 aq:=Nr v1 (.cells (N5 v1 [(aI v2.1.xK),(.d (.sl (b5 v2.1.xL))),(.vec 3 0 v3.length v3.length 4),(.d (.sl (cq v1.ax)))])::l)
def TH(v1:an)(v2:aF×Int)(v3:ak3 aH)(v9:ak3 an)(v8:ak3 aH)(bu:ak3 an)(l:ak3 aq):ak3 aq:=Nr v1 (.cells (N5 v1 [(aI v2.1.xK),(.d (.sl (b5 v2.1.xL))),(.vec 3 0 v3.length v3.length 4),(.vec 4 0 v9.length v9.length 13)]):: .vec 60 4 (bq (v8.map eY)):: .vec 32 13 (bq (bu.map cJ))::l)
theorem acp(N:Nat):∀d:Nat,(∀(v1:an)(r:an×Int),pI N d v1=some r→bQ Tryz.prog 53 [(aA v1),(.fn 54 [])] [] fun r1 h1=>r1=(.bk [(aA r.1),(aw r.2)])∧h1=[]):=by
 intro d
 induction d with
 |zero=>intro v1 r hF;rw[pI]at hF;cases hF
 |succ d ih=>
  have ahy:=ih;intro v1 r hF;rw[pI]at hF;refine eE 0 Tryz.func53 ?_;obtain⟨v2,h1,hF⟩:=ao hF;refine au af [[],[],[],[(10,cL (LF N v1.aM v2 h1))],[]] ?_;refine bc hF (fun h2 hF=> ?_) fun h2 hF=> ?_
  ·cases hF;exact cK af [[(0,bT h2)],[]]
  obtain⟨v3,h3,hF⟩:=ao hF;refine au af [[(0,bF h2)],[(7,oX pf (xE (xs:=(v3.map eY)) pf) [(.d (.sl (cm v1.xIdx)))] (Nr v1 [.cells (N5 v1 [(aI v2.1.xK),(.d (.sl (b5 v2.1.xL))),(.d (.sl (cm v1.xIdx))),(.d (.sl (cq v1.ax)))])]) [] (Zp N v1.xIdx v3 h3))],[(7,oL v1.xIdx dP)]] ?_;refine fP mV 32 v1.xIdx fun h5=> ?_;refine pP af 1 [] [1,2,4,6,32,33,34] 4 [] [(1,10),(1,11),(1,12)] (fun((v4,v5,v8):Nat×(ak3 aH)×(ak3 aH))=>⟨119,[(1,(.fn 54 [])),(2,(.ptr 0 0)),(4,(.ptr 1 0)),(6,(.ptr 2 0)),(32,(.d (.sl (cm v1.xIdx)))),(33,(aw (v1.xIdx.length:Int))),(34,(aw (v4:Int)))],(Jn v1 v2 v3 [.vec 60 4 (bq (v8.map eY))])⟩) (fun((v4,v5,v8):Nat×(ak3 aH)×(ak3 aH))=>v1.xIdx.drop v4=v5∧rC N v1 v3 v2 (pI N d) v5 v4 v8=some r) (fun((v4,v5,v8):Nat×(ak3 aH)×(ak3 aH))=>v5.length) (0,v1.xIdx,v3) ⟨rfl,hF⟩ ?_ (iT:=[.jm (v3.map eY)]);rintro⟨v4,v5,v8⟩ ⟨h6,hF⟩ f1 aO;cases v5 with
  |nil=>
   rw[rC]at hF;obtain⟨v9,h7,hF⟩:=ao hF;refine au af [[],[(0,bF (cM h6))],[(7,oX pf (xE (xs:=(v9.map cJ)) pf) [(.d (.sl (cq v1.ax)))] (Jn v1 v2 v3 [.vec 60 4 (bq (v8.map eY))]) [] (af5 N v1.ax v9 h7))],[(7,oL v1.ax dC)]] ?_;refine fP lf 96 v1.ax fun h9=> ?_;refine pP af 2 [] [1,4,6,96,97,98] 5 [] [(1,10),(1,11),(1,12)] (fun((v10,v11,bu):Nat×(ak3 an)×(ak3 an))=>⟨119,[(1,(.fn 54 [])),(4,(.ptr 1 0)),(6,(.ptr 2 0)),(96,(.d (.sl (cq v1.ax)))),(97,(aw (v1.ax.length:Int))),(98,(aw (v10:Int)))],(TH v1 v2 v3 v9 v8 bu [])⟩) (fun((v10,v11,bu):Nat×(ak3 an)×(ak3 an))=>v1.ax.drop v10=v11∧th N v8 v3 v9 v1 v2 (pI N d) v11 v10 bu=some r) (fun((v10,v11,bu):Nat×(ak3 an)×(ak3 an))=>v11.length) (0,v1.ax,v9) ⟨rfl,hF⟩ ?_ (iT:=[.jm (v8.map eY), .jm (v9.map cJ)]);rintro⟨v10,v11,bu⟩ ⟨az,hF⟩ f2 eH;cases v11 with
   |nil=>
    rw[th]at hF;obtain⟨aE,hF⟩:=dp hF;obtain⟨aK,hF⟩:=dp hF;refine au af [[],[(0,bF (cM az))]] ?_;refine BY [4,6] 3 (cm v8) v3.length 1 60 4 [.jm (v8.map eY), .jm (bu.map cJ)] (yt (akt aE)) (qD _) (yq (fun _=>rfl) _) ?_;refine BY [4,6] 4 (cq bu) v9.length 1 32 13 [.jm (bu.map cJ)] (yt (akt aK)) (fa _) (yq (fun _=>rfl) _) ?_;cases hF;exact cK af [[]]
   |cons v12 aX=>
    rw[th]at hF;obtain⟨bN,aY,hF⟩:=ao hF;obtain⟨aJ,hF⟩:=dp hF;obtain⟨bp,hF⟩:=dp hF;obtain⟨dh,aL,hF⟩:=ao hF;refine au af [[],[(0,bT (cF az))],[(4,oE (bt (cd az)))],[(16,oQ [(aA v12),(.fn 54 [])] (TH v1 v2 v3 v9 v8 bu [.cells (aA v12).cells]) [] (ahy v12 bN aY)),(28,⟨_,_, .pr (.ix v10) (lB (gK (f:=cJ) (akt aJ)) (Int.natCast_nonneg _) (of_decide_eq_true bp) (akG _))⟩),(31,⟨_,_, .pr (.st ((cJ dh).map AV.d) (bq ((bu.set v10 bN.1).map cJ))) (vt (f:=cJ) (j:=0) (y:=bN.1) (zs:=[(aw bN.1.ar),(aS bN.1.aV),(aI bN.1.ba.xN),(aI bN.1.ba.xD),(aw bN.1.aD.a8),(aw bN.1.aD.bz),(aw bN.1.aD.xFrac),(aw bN.1.aD.bK),(aw bN.1.aD.bM),(aI bN.1.aM.xK),(.d (.sl (b5 bN.1.aM.xL))),(.d (.sl (cm bN.1.xIdx))),(.d (.sl (cq bN.1.ax)))]) (akt aJ) aL rfl)⟩)],[]] ?_;refine bc hF (fun bn hF=> ?_) fun bn hF=> ?_
    ·cases hF;exact cK af [[(0,bT bn)],[]]
    exact ni af eH (v10+1,aX,(bu.set v10 bN.1)) [[(0,bF bn)],[(2,oq (dj az rfl h9))]] ⟨jN az,hF⟩ (iT:=[.jm (v8.map eY), .jm ((bu.set v10 bN.1).map cJ)])
  |cons v6 v7=>
   rw[rC]at hF;obtain⟨bX,aZ,hF⟩:=ao hF;obtain⟨bU,hF⟩:=dp hF;obtain⟨bC,hF⟩:=dp hF;obtain⟨bx,cl,hF⟩:=ao hF;refine au af [[],[(0,bT (cF h6))],[(4,oE (fI (cd h6)))],[(19,cL (LF N v6.aM bX aZ)),(31,⟨_,_, .pr (.ix v4) (lB (gK (f:=eY) (akt bU)) (Int.natCast_nonneg _) (of_decide_eq_true bC) (akG _))⟩),(34,⟨_,_, .pr .no trivial⟩),(37,⟨_,_, .pr (.st ((eY bx).map AV.d) (bq ((v8.set v4 (⟨bX.1,bx.xFrom,bx.bD⟩:aH)).map eY))) (vt (f:=eY) (j:=0) (y:=(⟨bX.1,bx.xFrom,bx.bD⟩:aH)) (zs:=[(aI bX.1.xK),(.d (.sl (b5 bX.1.xL)))]) (akt bU) cl rfl)⟩)],[]] ?_;refine bc hF (fun bw hF=> ?_) fun bw hF=> ?_
   ·cases hF;exact cK af [[(0,bT bw)],[]]
   obtain⟨cC,cT,hF⟩:=ao hF;obtain⟨cE,hF⟩:=dp hF;refine au af [[(0,bF bw)],[(16,oX pf (xE (xs:=(cC.map iY)) pf) [(.d (.sl (du v6.bD)))] (Jn v1 v2 v3 [.vec 60 4 (bq ((v8.set v4 (⟨bX.1,bx.xFrom,bx.bD⟩:aH)).map eY)), .cells (gA v6).cells]) [] (YJ N v6.bD cC cT)),(19,⟨_,_, .pr (.ix v4) (lB (gK (f:=eY) (akt cE)) (Int.natCast_nonneg _) (of_decide_eq_true bC) (akG _))⟩),(22,⟨_,_, .pr .no trivial⟩),(25,⟨_,_, .pr (.st ((eY (⟨bX.1,bx.xFrom,bx.bD⟩:aH)).map AV.d) ((bq ((v8.set v4 (⟨bX.1,bx.xFrom,bx.bD⟩:aH)).map eY)).set v4 [(aI (⟨bX.1,bx.xFrom,bx.bD⟩:aH).aM.xK),(.d (.sl (b5 (⟨bX.1,bx.xFrom,bx.bD⟩:aH).aM.xL))),(aS (⟨bX.1,bx.xFrom,bx.bD⟩:aH).xFrom),(.vec 5 0 cC.length cC.length 2)])) (ai7 (f:=eY) (j:=3) (r:=[(aI (⟨bX.1,bx.xFrom,bx.bD⟩:aH).aM.xK),(.d (.sl (b5 (⟨bX.1,bx.xFrom,bx.bD⟩:aH).aM.xL))),(aS (⟨bX.1,bx.xFrom,bx.bD⟩:aH).xFrom),(.vec 5 0 cC.length cC.length 2)]) (zs:=[(.vec 5 0 cC.length cC.length 2)]) (akt cE) (WX cl) rfl)⟩)],[(7,oL v6.bD eV)]] ?_;refine fP L7 64 v6.bD fun fb=> ?_;refine pP af 3 [] [1,2,4,6,8,32,33,34,64,65,66] 6 [] [(1,10),(1,11),(1,12)] (fun((v20,v21,v24):Nat×(ak3 aF)×(ak3 aF))=>⟨119,[(1,(.fn 54 [])),(2,(.ptr 0 0)),(4,(.ptr 1 0)),(6,(.ptr 2 0)),(8,(aw (v4:Int))),(32,(.d (.sl (cm v1.xIdx)))),(33,(aw (v1.xIdx.length:Int))),(34,(aw (v4:Int))),(64,(.d (.sl (du v6.bD)))),(65,(aw (v6.bD.length:Int))),(66,(aw (v20:Int)))],(Jn v1 v2 v3 [.vec 60 4 ((bq ((v8.set v4 (⟨bX.1,bx.xFrom,bx.bD⟩:aH)).map eY)).set v4 [(aI (⟨bX.1,bx.xFrom,bx.bD⟩:aH).aM.xK),(.d (.sl (b5 (⟨bX.1,bx.xFrom,bx.bD⟩:aH).aM.xL))),(aS (⟨bX.1,bx.xFrom,bx.bD⟩:aH).xFrom),(.vec 5 0 cC.length cC.length 2)]), .cells (gA v6).cells, .vec 28 2 (bq (v24.map iY))])⟩) (fun((v20,v21,v24):Nat×(ak3 aF)×(ak3 aF))=>v6.bD.drop v20=v21∧sL N cC (fun cX=>rC N v1 v3 v2 (pI N d) v7 (v4+1) cX) v8 v4 bX bx v21 v20 v24=some r) (fun((v20,v21,v24):Nat×(ak3 aF)×(ak3 aF))=>v21.length) (0,v6.bD,cC) ⟨rfl,hF⟩ ?_ (iT:=[.row ((v8.set v4 (⟨bX.1,bx.xFrom,bx.bD⟩:aH)).map eY) v4 [(aI (⟨bX.1,bx.xFrom,bx.bD⟩:aH).aM.xK),(.d (.sl (b5 (⟨bX.1,bx.xFrom,bx.bD⟩:aH).aM.xL))),(aS (⟨bX.1,bx.xFrom,bx.bD⟩:aH).xFrom),(.vec 5 0 cC.length cC.length 2)], .jm (cC.map iY)])
   rintro⟨v20,v21,v24⟩ ⟨gr,hF⟩ f3 mW;cases v21 with
   |nil=>
    rw[sL]at hF;obtain⟨h28,hF⟩:=dp hF;refine au af [[],[(0,bF (cM gr))]] ?_;refine BY [1,2,4,6,32,33,34] 5 (du v24) cC.length 0 28 2 [.row eY (v8.set v4 (⟨bX.1,bx.xFrom,bx.bD⟩:aH)) v4 [(aI (⟨bX.1,bx.xFrom,bx.bD⟩:aH).aM.xK),(.d (.sl (b5 (⟨bX.1,bx.xFrom,bx.bD⟩:aH).aM.xL))),(aS (⟨bX.1,bx.xFrom,bx.bD⟩:aH).xFrom),(.vec 5 0 cC.length cC.length 2)] (⟨(⟨bX.1,bx.xFrom,bx.bD⟩:aH).aM,(⟨bX.1,bx.xFrom,bx.bD⟩:aH).xFrom,v24⟩:aH) 1, .jm (v24.map iY)] (yt (akt h28)) (qp _) (yq (fun _=>rfl) _) ?_;exact ni af aO (v4+1,v7,((v8.set v4 (⟨bX.1,bx.xFrom,bx.bD⟩:aH)).set v4 (⟨(⟨bX.1,bx.xFrom,bx.bD⟩:aH).aM,(⟨bX.1,bx.xFrom,bx.bD⟩:aH).xFrom,v24⟩:aH))) [[(2,oq (dj h6 rfl h5))]] ⟨jN h6,hF⟩ (iT:=[.jm (((v8.set v4 (⟨bX.1,bx.xFrom,bx.bD⟩:aH)).set v4 (⟨(⟨bX.1,bx.xFrom,bx.bD⟩:aH).aM,(⟨bX.1,bx.xFrom,bx.bD⟩:aH).xFrom,v24⟩:aH)).map eY)])
   |cons fe dx=>
    rw[sL]at hF;obtain⟨nt,rI,hF⟩:=ao hF;obtain⟨cO,hF⟩:=dp hF;obtain⟨C0,hF⟩:=dp hF;obtain⟨QT,LD,hF⟩:=ao hF;refine au af [[],[(0,bT (cF gr))],[(4,oE (mR (cd gr)))],[(10,⟨_,_, .pr (.ix v4) (lB (aic (i:=v4) (r:=[(aI (⟨bX.1,bx.xFrom,bx.bD⟩:aH).aM.xK),(.d (.sl (b5 (⟨bX.1,bx.xFrom,bx.bD⟩:aH).aM.xL))),(aS (⟨bX.1,bx.xFrom,bx.bD⟩:aH).xFrom),(.vec 5 0 cC.length cC.length 2)]) (f:=eY) (akt cE)) (Int.natCast_nonneg _) (of_decide_eq_true bC) (akG _))⟩),(13,⟨_,_, .pr .no trivial⟩),(16,⟨_,_, .pr (.el [(aI (⟨bX.1,bx.xFrom,bx.bD⟩:aH).aM.xK),(.d (.sl (b5 (⟨bX.1,bx.xFrom,bx.bD⟩:aH).aM.xL))),(aS (⟨bX.1,bx.xFrom,bx.bD⟩:aH).xFrom),(.vec 5 0 cC.length cC.length 2)]) (X8 (f:=eY) [(aI (⟨bX.1,bx.xFrom,bx.bD⟩:aH).aM.xK),(.d (.sl (b5 (⟨bX.1,bx.xFrom,bx.bD⟩:aH).aM.xL))),(aS (⟨bX.1,bx.xFrom,bx.bD⟩:aH).xFrom),(.vec 5 0 cC.length cC.length 2)] (akt cE) (WX cl))⟩),(28,cL (LF N fe nt rI)),(40,⟨_,_, .pr (.ix v20) (lB (gK (f:=iY) (akt cO)) (Int.natCast_nonneg _) (of_decide_eq_true C0) (akG _))⟩),(43,⟨_,_, .pr (.st ((iY QT).map AV.d) (bq ((v24.set v20 nt.1).map iY))) (vt (f:=iY) (j:=0) (y:=nt.1) (zs:=[(aI nt.1.xK),(.d (.sl (b5 nt.1.xL)))]) (akt cO) LD rfl)⟩)],[]] ?_
    refine bc hF (fun nB hF=> ?_) fun nB hF=> ?_
    ·cases hF;exact cK af [[(0,bT nB)],[]]
    exact ni af mW (v20+1,dx,(v24.set v20 nt.1)) [[(0,bF nB)],[(2,oq (dj gr rfl fb))]] ⟨jN gr,hF⟩ (iT:=[.row ((v8.set v4 (⟨bX.1,bx.xFrom,bx.bD⟩:aH)).map eY) v4 [(aI (⟨bX.1,bx.xFrom,bx.bD⟩:aH).aM.xK),(.d (.sl (b5 (⟨bX.1,bx.xFrom,bx.bD⟩:aH).aM.xL))),(aS (⟨bX.1,bx.xFrom,bx.bD⟩:aH).xFrom),(.vec 5 0 cC.length cC.length 2)], .jm ((v24.set v20 nt.1).map iY)])
theorem acC(N:Nat)(v1:an)(r:an×Int)(hF:KO N v1=some r):bQ Tryz.prog 53 [(aA v1),(.fn 54 [])] [] fun r1 h1=>r1=(.bk [(aA r.1),(aw r.2)])∧h1=[]:=(acp N N) v1 r hF
def tH(N:Nat)(v1:an):ak5 an:=
 Option.bind (KO N v1) fun v2=>
 some v2.1
theorem Wv(N:Nat)(v1:an)(r:an)(hF:tH N v1=some r):aG Tryz.prog 26 [(aA v1)] (·=(aA r)):=by
 rw[tH]at hF;refine aR Tryz.func26 ?_;obtain⟨v2,h1,hF⟩:=ao hF;cases hF;exact wr af [[],[(4,oQ [(aA v1),(.fn 54 [])] [.cells (aA v1).cells, .cells ef] [] (acC N v1 v2 h1))],[]]
def tk(N:Nat)(v2:Bool):ak5 Bool:=
 bif v2 then
  some true
 else
  some false
def HP(N:Nat)(v1:cB):ak5 Bool:=
 bif (v1.yE.ar==(4:Int))then
  tk N (v1.yE.ar==(4:Int))
 else
  bif (v1.yE.ar==(5:Int))then
   tk N (v1.yE.ar==(5:Int))
  else
   bif (v1.yE.ar==(6:Int))then
    tk N (v1.yE.ar==(6:Int))
   else
    bif (v1.yE.ar==(7:Int))then
     tk N (v1.yE.ar==(7:Int))
    else
     bif (v1.yE.ar==(9:Int))then
      tk N (v1.yE.ar==(9:Int))
     else
      tk N (v1.yE.ar==(10:Int))
theorem Lu(N:Nat)(v1:cB)(r:Bool)(hF:HP N v1=some r):aG Tryz.prog 178 [(bI v1)] (·=(aB r)):=by
 rw[HP]at hF;refine aR Tryz.func178 ?_;refine gY af r 1 [[],[],[]] [6] 1 (fun(v2:Bool)=>⟨13,[(6,(aB v2))],[.cells (bI v1).cells]⟩) (tk N) ?_ ?_
 ·intro f1 aO;refine bc hF (fun h2 hF=> ?_) fun h2 hF=> ?_
  ·exact bP af aO (v1.yE.ar==(4:Int)) [[(0,bT h2)]] hF
  refine au af [[(0,bF h2)],[]] ?_;refine bc hF (fun h3 hF=> ?_) fun h3 hF=> ?_
  ·exact bP af aO (v1.yE.ar==(5:Int)) [[(0,bT h3)]] hF
  refine au af [[(0,bF h3)],[]] ?_;refine bc hF (fun h4 hF=> ?_) fun h4 hF=> ?_
  ·exact bP af aO (v1.yE.ar==(6:Int)) [[(0,bT h4)]] hF
  refine au af [[(0,bF h4)],[]] ?_;refine bc hF (fun h5 hF=> ?_) fun h5 hF=> ?_
  ·exact bP af aO (v1.yE.ar==(7:Int)) [[(0,bT h5)]] hF
  refine au af [[(0,bF h5)],[]] ?_;refine bc hF (fun h6 hF=> ?_) fun h6 hF=> ?_
  ·exact bP af aO (v1.yE.ar==(9:Int)) [[(0,bT h6)]] hF
  exact bP af aO (v1.yE.ar==(10:Int)) [[(0,bF h6)],[]] hF
 intro v2 hF;rw[tk]at hF;refine bc hF (fun h1 hF=> ?_) fun h1 hF=> ?_
 ·cases hF;exact wr af [[(0,bT h1)],[]]
 cases hF;exact wr af [[(0,bF h1)],[]]
def vc(N:Nat)(v1:aC):ak3 ay→Nat→ak5 Int
 |[],_=>
  some (0:Int)
 |v6::v7,v4=>
  Option.bind (pa N v1 v6) fun v8=>
  bif v8 then
   (vc N v1 v7 (v4+1))
  else
   some (1:Int)
def nD(N:Nat)(v1:aC)(v2:ak3 ay):ak5 Int:=
 Option.bind (qU N v1) fun v3=>
 bif (v3 !=(0:Int))then
  some v3
 else
  vc N v1 v2 0
theorem ya(N:Nat)(v1:aC)(v2:ak3 ay)(r:Int)(hF:nD N v1 v2=some r):aG Tryz.prog 309 [(bY v1),(.d (.sl (pW v2)))] (·=(aw r)):=by
 rw[nD]at hF;refine aR Tryz.func309 ?_;obtain⟨v3,h1,hF⟩:=ao hF;refine au af [[],[(4,cL (vN N v1 v3 h1))],[]] ?_;refine bc hF (fun h2 hF=> ?_) fun h2 hF=> ?_
 ·cases hF;exact wr af [[(0,bT h2)],[]]
 refine au af [[(0,bF h2)],[(4,oL v2 SF)]] ?_;refine fP X3 1 v2 fun h4=> ?_;refine fJ af 1 [] [2,13,14,15] 1 v2 (fun v4=>⟨24,[(2,(.ptr 0 0)),(13,(.d (.sl (pW v2)))),(14,(aw (v2.length:Int))),(15,(aw (v4:Int)))],[.cells (bY v1).cells]⟩) (vc N v1) hF ?_ ?_
 ·intro v4 h5 hF f1;rw[vc]at hF;cases hF;exact wr af [[],[(0,bF (cM h5))],[]]
 intro v4 v6 v7 h5 hF f1 aO;rw[vc]at hF;obtain⟨v8,h6,hF⟩:=ao hF;refine au af [[],[(0,bT (cF h5))],[(1,oE (ahq (cd h5)))],[(7,cL (MA N v1 v6 v8 h6))]] ?_;refine bc hF (fun h7 hF=> ?_) fun h7 hF=> ?_
 ·exact wb af aO () [[(0,bF (bG h7))],[(2,oq (dj h5 rfl h4))]] h5 hF
 cases hF;exact wr af [[(0,bT (bS h7))],[]]
def GX(N:Nat)(v1:aC)(v2:Int64)(v3:Int64):ak5 (Int64×Int):=
 some ((-v2),(0:Int))
theorem ZW(N:Nat)(v1:aC)(v2:Int64)(v3:Int64)(r:Int64×Int)(hF:GX N v1 v2 v3=some r):aG Tryz.prog 315 [(bY v1),(aI v2),(aI v3)] (·=(.bk [(aI r.1),(aw r.2)])):=by
 rw[GX]at hF;refine aR Tryz.func315 ?_;cases hF;exact wr af [[],[(5,⟨_,_, .eq (jO v2)⟩)]]
def He(N:Nat)(v1:Int64)(v2:Int)(v3:Int):ak5 (Int64×Bool):=
 Option.bind (vF N v2) fun v4=>
 Option.bind (bif v4 then(bif (v3 !=(1:Int))then some (v3 !=(2:Int))else some false)else some true) fun v5=>
 bif v5 then
  some ((0:Int64),false)
 else
  Option.bind (AD N v2) fun v6=>
  Option.bind (yL N v2) fun v7=>
  Option.bind (bif (decide (v1.toInt≥v6.toInt))then some (decide (v1.toInt≤v7.toInt))else some false) fun v8=>
  bif v8 then
   some (v1,false)
  else
   Option.bind (bif (v3==(1:Int))then some (decide (v1.toInt<v6.toInt))else some false) fun v9=>
   bif v9 then
    some (v6,true)
   else
    bif (v3==(1:Int))then
     some (v7,true)
    else
     bif (decide ((0:Int)≤(IntKind.u64.wrap (aQ ((64:Int)-v2)))))then
     some ((Int64.ofInt (((Int64.ofInt (IntKind.u64.wrap ((IntKind.u64.wrap v1.toInt)*2^(min ((IntKind.u64.wrap (aQ ((64:Int)-v2)))).toNat (IntKind.bits .u64))))).toInt).fdiv (2^(min ((IntKind.u64.wrap (aQ ((64:Int)-v2)))).toNat (IntKind.bits .i64))))),true)
     else none
theorem adY(N:Nat)(v1:Int64)(v2:Int)(v3:Int)(r:Int64×Bool)(hF:He N v1 v2 v3=some r):aG Tryz.prog 313 [(aI v1),(aw v2),(aw v3)] (·=(.bk [(aI r.1),(aB r.2)])):=by
 rw[He]at hF;refine aR Tryz.func313 ?_;refine au af [[]] ?_;obtain⟨v4,h1,hF⟩:=ao hF;obtain⟨v5,h4,hF⟩:=ao hF;refine bf af [(21,(aB v5))] [] ?_ ?_
 ·refine bc h4 (fun h2 h4=> ?_) fun h2 h4=> ?_
  ·refine bc h4 (fun h3 h4=> ?_) fun h3 h4=> ?_
   ·cases h4;exact⟨[(3,bF (bG h2)),(6,bT h3)],[(4,cL (BV N v2 v4 h1)),(28,bT h3)],by kernel_rfl⟩
   cases h4;exact⟨[(3,bF (bG h2)),(6,bF h3)],[(4,cL (BV N v2 v4 h1)),(28,bF h3)],by kernel_rfl⟩
  cases h4;exact⟨[(3,bT (bS h2)),(6,uN)],[(4,cL (BV N v2 v4 h1))],by kernel_rfl⟩
 refine bc hF (fun h5 hF=> ?_) fun h5 hF=> ?_
 ·cases hF;exact wr af [[(0,bT h5)],[]]
 obtain⟨v6,h6,hF⟩:=ao hF;obtain⟨v7,h7,hF⟩:=ao hF;refine au af [[(0,bF h5)],[(4,cL (Pw N v2 v6 h6)),(10,cL (P8 N v2 v7 h7))]] ?_;obtain⟨v8,h9,hF⟩:=ao hF;refine bf af [(26,(aB v8))] [] ?_ ?_
 ·refine bc h9 (fun h8 h9=> ?_) fun h8 h9=> ?_
  ·cases h9;exact⟨[(3,bT h8)],[],by kernel_rfl⟩
  cases h9;exact⟨[(3,bF h8)],[],by kernel_rfl⟩
 refine bc hF (fun az hF=> ?_) fun az hF=> ?_
 ·cases hF;exact wr af [[(0,bT az)],[]]
 refine au af [[(0,bF az)]] ?_;obtain⟨v9,aK,hF⟩:=ao hF;refine bf af [(36,(aB v9))] [] ?_ ?_
 ·refine bc aK (fun aE aK=> ?_) fun aE aK=> ?_
  ·cases aK;exact⟨[(2,bT aE)],[],by kernel_rfl⟩
  cases aK;exact⟨[(2,bF aE)],[],by kernel_rfl⟩
 refine bc hF (fun aY hF=> ?_) fun aY hF=> ?_
 ·cases hF;exact wr af [[(0,bT aY)],[]]
 refine au af [[(0,bF aY)],[]] ?_;refine bc hF (fun aJ hF=> ?_) fun aJ hF=> ?_
 ·cases hF;exact wr af [[(0,bT aJ)],[]]
 obtain⟨bp,hF⟩:=dp hF;cases hF;exact wr af [[(0,bF aJ)],[],[(10,⟨_,_, .nn (b:=(IntKind.u64.wrap (aQ ((64:Int)-v2)))) (of_decide_eq_true bp)⟩),(14,⟨_,_, .eq (eP (IntKind.u64.wrap ((IntKind.u64.wrap v1.toInt)*2^(min ((IntKind.u64.wrap (aQ ((64:Int)-v2)))).toNat (IntKind.bits .u64)))))⟩),(19,⟨_,_, .nn (b:=(IntKind.u64.wrap (aQ ((64:Int)-v2)))) (of_decide_eq_true bp)⟩),(20,⟨_,_, .eq (agZ (Int64.ofInt (IntKind.u64.wrap ((IntKind.u64.wrap v1.toInt)*2^(min ((IntKind.u64.wrap (aQ ((64:Int)-v2)))).toNat (IntKind.bits .u64))))) (min ((IntKind.u64.wrap (aQ ((64:Int)-v2)))).toNat (IntKind.bits .i64)))⟩)]]
def lK(N:Nat)(v1:aC)(v2:Int64):ak5 ay:=
 Option.bind (He N v2 v1.bz v1.bM) fun v3=>
 some (⟨v3.1,(1:Int64)⟩:ay)
theorem yp(N:Nat)(v1:aC)(v2:Int64)(r:ay)(hF:lK N v1 v2=some r):aG Tryz.prog 269 [(bY v1),(aI v2)] (·=(bj r)):=by
 rw[lK]at hF;refine aR Tryz.func269 ?_;obtain⟨v3,h1,hF⟩:=ao hF;cases hF;exact wr af [[],[(16,cL (adY N v2 v1.bz v1.bM v3 h1))],[]]
def Ke(N:Nat)(v1:aC)(v2:ay)(v3:ay):ak5 (ay×Int):=
 Option.bind (nD N v1 ([v2,v3])) fun v4=>
 bif (v4 !=(0:Int))then
  some (bg,v4)
 else
  Option.bind (GX N v1 v2.xN v3.xN) fun v5=>
  bif (v5.2 !=(0:Int))then
   some (bg,v5.2)
  else
   Option.bind (lK N v1 v5.1) fun v6=>
   some (v6,(0:Int))
theorem aa7(N:Nat)(v1:aC)(v2:ay)(v3:ay)(r:ay×Int)(hF:Ke N v1 v2 v3=some r):bQ Tryz.prog 314 [(.agg [(.fn 315 [])]),(bY v1),(bj v2),(bj v3)] [] fun r1 h1=>r1=(.bk [(bj r.1),(aw r.2)])∧h1=[]:=by
 rw[Ke]at hF;refine eE 0 Tryz.func314 ?_;obtain⟨v4,h1,hF⟩:=ao hF;refine au af [[],[(13,cL (ya N v1 ([v2,v3]) v4 h1))],[]] ?_;refine bc hF (fun h2 hF=> ?_) fun h2 hF=> ?_
 ·cases hF;exact cK af [[(0,bT h2)],[]]
 obtain⟨v5,h3,hF⟩:=ao hF;refine au af [[(0,bF h2)],[(22,cL (ZW N v1 v2.xN v3.xN v5 h3))],[]] ?_;refine bc hF (fun h4 hF=> ?_) fun h4 hF=> ?_
 ·cases hF;exact cK af [[(0,bT h4)],[]]
 obtain⟨v6,h5,hF⟩:=ao hF;cases hF;exact cK af [[(0,bF h4)],[(7,cL (yp N v1 v5.1 v6 h5))]]
def Aj(N:Nat)(v1:aC)(v2:ay):ak5 (ay×Int):=
 Option.bind (Ke N v1 v2 v2) fun v3=>
 some (v3.1,v3.2)
theorem ajI(N:Nat)(v1:aC)(v2:ay)(r:ay×Int)(hF:Aj N v1 v2=some r):aG Tryz.prog 270 [(bY v1),(bj v2)] (·=(.bk [(bj r.1),(aw r.2)])):=by
 rw[Aj]at hF;refine aR Tryz.func270 ?_;obtain⟨v3,h1,hF⟩:=ao hF;cases hF;exact wr af [[],[(13,oQ [(.agg [(.fn 315 [])]),(bY v1),(bj v2),(bj v2)] [.cells (bY v1).cells, .cells (bj v2).cells, .cells fA] [] (aa7 N v1 v2 v2 v3 h1))]]
def DC(N:Nat)(v1:aC)(v2:ay):ak5 (ay×Int):=
 bif (v1.a8==(2:Int))then
  Option.bind (Aj N v1 v2) fun v3=>
  some (v3.1,v3.2)
 else
  some ((⟨(-v2.xN),v2.xD⟩:ay),(0:Int))
theorem adi(N:Nat)(v1:aC)(v2:ay)(r:ay×Int)(hF:DC N v1 v2=some r):aG Tryz.prog 222 [(bY v1),(bj v2)] (·=(.bk [(bj r.1),(aw r.2)])):=by
 rw[DC]at hF;refine aR Tryz.func222 ?_;refine au af [[],[]] ?_;refine bc hF (fun h1 hF=> ?_) fun h1 hF=> ?_
 ·obtain⟨v3,h2,hF⟩:=ao hF;cases hF;exact wr af [[(0,bT h1)],[(7,cL (ajI N v1 v2 v3 h2))]]
 cases hF;exact wr af [[(0,bF h1)],[(8,⟨_,_, .eq (jO v2.xN)⟩)]]
def vL(N:Nat)(v1:Int64)(v2:Int64):ak5 Int:=
 bif (decide (v1.toInt<v2.toInt))then
  some (-1:Int)
 else
  bif (decide (v1.toInt>v2.toInt))then
   some (1:Int)
  else
   some (0:Int)
theorem MN(N:Nat)(v1:Int64)(v2:Int64)(r:Int)(hF:vL N v1 v2=some r):aG Tryz.prog 266 [(aI v1),(aI v2)] (·=(aw r)):=by
 rw[vL]at hF;refine aR Tryz.func266 ?_;refine au af [[],[]] ?_;refine bc hF (fun h1 hF=> ?_) fun h1 hF=> ?_
 ·cases hF;exact wr af [[(0,bT h1)],[]]
 refine au af [[(0,bF h1)],[]] ?_;refine bc hF (fun h2 hF=> ?_) fun h2 hF=> ?_
 ·cases hF;exact wr af [[(0,bT h2)],[]]
 cases hF;exact wr af [[(0,bF h2)],[]]
def Hh(N:Nat)(v1:ay)(v2:ay):ak5 Int:=
 Option.bind (im N v1) fun v3=>
 Option.bind (bif v3 then Option.bind (im N v2) fun v4=>
 some v4 else some false) fun v5=>
 bif v5 then
  Option.bind (vL N (v1.xN*v2.xD) (v2.xN*v1.xD)) fun v6=>
  some v6
 else
  Option.bind (vL N v1.xN v2.xN) fun v7=>
  bif (v7 !=(0:Int))then
   some v7
  else
   Option.bind (vL N v1.xD v2.xD) fun v8=>
   some v8
theorem ago(N:Nat)(v1:ay)(v2:ay)(r:Int)(hF:Hh N v1 v2=some r):aG Tryz.prog 210 [(bj v1),(bj v2)] (·=(aw r)):=by
 rw[Hh]at hF;refine aR Tryz.func210 ?_;refine au af [[]] ?_;obtain⟨v3,h1,hF⟩:=ao hF;obtain⟨v5,h4,hF⟩:=ao hF;refine bf af [(11,(aB v5))] [.cells (bj v1).cells, .cells (bj v2).cells] ?_ ?_
 ·refine bc h4 (fun h2 h4=> ?_) fun h2 h4=> ?_
  ·obtain⟨v4,h3,h4⟩:=ao h4;obtain rfl:=sj h4;exact⟨[(2,bT h2)],[(4,cL (gF N v1 v3 h1)),(13,cL (gF N v2 v4 h3))],by kernel_rfl⟩
  cases h4;exact⟨[(2,bF h2)],[(4,cL (gF N v1 v3 h1))],by kernel_rfl⟩
 refine bc hF (fun h5 hF=> ?_) fun h5 hF=> ?_
 ·obtain⟨v6,h6,hF⟩:=ao hF;obtain rfl:=sj hF;exact wr af [[(0,bT h5)],[(14,⟨_,_, .eq (dS v1.xN v2.xD)⟩),(29,⟨_,_, .eq (dS v2.xN v1.xD)⟩),(31,cL (MN N (v1.xN*v2.xD) (v2.xN*v1.xD) v6 h6))]]
 obtain⟨v7,h7,hF⟩:=ao hF;refine au af [[(0,bF h5)],[(13,cL (MN N v1.xN v2.xN v7 h7))],[]] ?_;refine bc hF (fun h8 hF=> ?_) fun h8 hF=> ?_
 ·cases hF;exact wr af [[(0,bT h8)],[]]
 obtain⟨v8,h9,hF⟩:=ao hF;obtain rfl:=sj hF;exact wr af [[(0,bF h8)],[(13,cL (MN N v1.xD v2.xD v8 h9))]]
def A3(N:Nat)(v1:aC)(v2:ay)(v3:ay):ak5 Int:=
 Option.bind (mK N v1 v2) fun v4=>
 Option.bind (bif v4 then Option.bind (mK N v1 v3) fun v5=>
 some (!v5)else some true) fun v6=>
 bif v6 then
  some (0:Int)
 else
  bif (v1.a8==(1:Int))then
   Option.bind (Hh N v2 v3) fun v7=>
   some v7
  else
   bif (decide (v2.xN.toInt<v3.xN.toInt))then
    some (-1:Int)
   else
    bif (decide (v2.xN.toInt>v3.xN.toInt))then
     some (1:Int)
    else
     some (0:Int)
theorem Uo(N:Nat)(v1:aC)(v2:ay)(v3:ay)(r:Int)(hF:A3 N v1 v2 v3=some r):aG Tryz.prog 140 [(bY v1),(bj v2),(bj v3)] (·=(aw r)):=by
 rw[A3]at hF;refine aR Tryz.func140 ?_;refine au af [[]] ?_;obtain⟨v4,h1,hF⟩:=ao hF;obtain⟨v6,h4,hF⟩:=ao hF;refine bf af [(7,(aB v6))] [.cells (bY v1).cells, .cells (bj v2).cells, .cells (bj v3).cells] ?_ ?_
 ·refine bc h4 (fun h2 h4=> ?_) fun h2 h4=> ?_
  ·obtain⟨v5,h3,h4⟩:=ao h4;cases h4;exact⟨[(4,bF (bG h2))],[(7,cL (qe N v1 v2 v4 h1)),(22,cL (qe N v1 v3 v5 h3))],by kernel_rfl⟩
  cases h4;exact⟨[(4,bT (bS h2))],[(7,cL (qe N v1 v2 v4 h1))],by kernel_rfl⟩
 refine bc hF (fun h5 hF=> ?_) fun h5 hF=> ?_
 ·cases hF;exact wr af [[(0,bT h5)],[]]
 refine au af [[(0,bF h5)],[]] ?_;refine bc hF (fun h6 hF=> ?_) fun h6 hF=> ?_
 ·obtain⟨v7,h7,hF⟩:=ao hF;obtain rfl:=sj hF;exact wr af [[(0,bT h6)],[(7,cL (ago N v2 v3 v7 h7))]]
 refine au af [[(0,bF h6)],[]] ?_;refine bc hF (fun h8 hF=> ?_) fun h8 hF=> ?_
 ·cases hF;exact wr af [[(0,bT h8)],[]]
 refine au af [[(0,bF h8)],[]] ?_;refine bc hF (fun h9 hF=> ?_) fun h9 hF=> ?_
 ·cases hF;exact wr af [[(0,bT h9)],[]]
 cases hF;exact wr af [[(0,bF h9)],[]]
def yf(N:Nat)(v1:Int)(v2:Int64)(v3:Int64):ak5 (ay×Int):=
 bif (v1==(4:Int))then
  Option.bind (mY N (v2+v3)) fun v4=>
  bif v4 then
   some ((⟨(v2+v3),(1:Int64)⟩:ay),(0:Int))
  else
   some (bg,(3:Int))
 else
  bif (v1==(5:Int))then
   Option.bind (mY N (v2-v3)) fun v5=>
   bif v5 then
    some ((⟨(v2-v3),(1:Int64)⟩:ay),(0:Int))
   else
    some (bg,(3:Int))
  else
   bif (v1==(6:Int))then
    Option.bind (mY N (v2*v3)) fun v6=>
    bif v6 then
     some ((⟨(v2*v3),(1:Int64)⟩:ay),(0:Int))
    else
     some (bg,(3:Int))
   else
    bif (v3.toInt==(0:Int))then
     some (bg,(4:Int))
    else
     bif (v3.toInt !=(0:Int))then
     Option.bind (bif ((Int64.ofInt ((v2.toInt).tmod v3.toInt)).toInt !=(0:Int))then some (!((decide (v2.toInt<(0:Int)))==(decide (v3.toInt<(0:Int)))))else some false) fun v7=>
     bif v7 then
      Option.bind (mY N ((Int64.ofInt ((v2.toInt).tdiv v3.toInt))-(1:Int64))) fun v8=>
      bif v8 then
       some ((⟨((Int64.ofInt ((v2.toInt).tdiv v3.toInt))-(1:Int64)),(1:Int64)⟩:ay),(0:Int))
      else
       some (bg,(3:Int))
     else
      Option.bind (mY N (Int64.ofInt ((v2.toInt).tdiv v3.toInt))) fun v9=>
      bif v9 then
       some ((⟨(Int64.ofInt ((v2.toInt).tdiv v3.toInt)),(1:Int64)⟩:ay),(0:Int))
      else
       some (bg,(3:Int))
     else none
theorem ajt(N:Nat)(v1:Int)(v2:Int64)(v3:Int64)(r:ay×Int)(hF:yf N v1 v2 v3=some r):aG Tryz.prog 271 [(aw v1),(aI v2),(aI v3)] (·=(.bk [(bj r.1),(aw r.2)])):=by
 rw[yf]at hF;refine aR Tryz.func271 ?_;refine au af [[],[],[],[]] ?_;refine bc hF (fun h1 hF=> ?_) fun h1 hF=> ?_
 ·obtain⟨v4,h2,hF⟩:=ao hF;refine au af [[(0,bT h1)],[(8,⟨_,_, .eq (lA v2 v3)⟩)],[(4,cL (yw N (v2+v3) v4 h2))]] ?_;refine bc hF (fun h3 hF=> ?_) fun h3 hF=> ?_
  ·cases hF;exact wr af [[(0,bF (bG h3))],[]]
  cases hF;exact wr af [[(0,bT (bS h3))],[]]
 refine au af [[(0,bF h1)],[]] ?_;refine bc hF (fun h4 hF=> ?_) fun h4 hF=> ?_
 ·obtain⟨v5,h5,hF⟩:=ao hF;refine au af [[(0,bT h4)],[(8,⟨_,_, .eq (gk v2 v3)⟩)],[(4,cL (yw N (v2-v3) v5 h5))]] ?_;refine bc hF (fun h6 hF=> ?_) fun h6 hF=> ?_
  ·cases hF;exact wr af [[(0,bF (bG h6))],[]]
  cases hF;exact wr af [[(0,bT (bS h6))],[]]
 refine au af [[(0,bF h4)],[]] ?_;refine bc hF (fun h7 hF=> ?_) fun h7 hF=> ?_
 ·obtain⟨v6,h8,hF⟩:=ao hF;refine au af [[(0,bT h7)],[(8,⟨_,_, .eq (dS v2 v3)⟩)],[(4,cL (yw N (v2*v3) v6 h8))]] ?_;refine bc hF (fun h9 hF=> ?_) fun h9 hF=> ?_
  ·cases hF;exact wr af [[(0,bF (bG h9))],[]]
  cases hF;exact wr af [[(0,bT (bS h9))],[]]
 refine au af [[(0,bF h7)],[]] ?_;refine bc hF (fun az hF=> ?_) fun az hF=> ?_
 ·cases hF;exact wr af [[(0,bT az)],[]]
 obtain⟨aE,hF⟩:=dp hF;refine au af [[(0,bF az)],[(7,⟨_,_, .nz (b:=v3.toInt) (bne_iff_ne.1 aE)⟩),(8,⟨_,_, .eq (eP ((v2.toInt).tdiv v3.toInt))⟩)]] ?_;obtain⟨v7,aY,hF⟩:=ao hF;refine bf af [(26,(aB v7))] [.cells fA] ?_ ?_
 ·refine bc aY (fun aK aY=> ?_) fun aK aY=> ?_
  ·cases aY;exact⟨[(4,bT aK)],[(7,⟨_,_, .nz (b:=v3.toInt) (bne_iff_ne.1 aE)⟩),(8,⟨_,_, .eq (Ep v2 v3.toInt)⟩)],by kernel_rfl⟩
  cases aY;exact⟨[(4,bF aK)],[(7,⟨_,_, .nz (b:=v3.toInt) (bne_iff_ne.1 aE)⟩),(8,⟨_,_, .eq (Ep v2 v3.toInt)⟩)],by kernel_rfl⟩
 refine bc hF (fun aJ hF=> ?_) fun aJ hF=> ?_
 ·obtain⟨v8,bp,hF⟩:=ao hF;refine au af [[(0,bT aJ)],[(5,⟨_,_, .eq (gk (Int64.ofInt ((v2.toInt).tdiv v3.toInt)) (1:Int64))⟩)],[(4,cL (yw N ((Int64.ofInt ((v2.toInt).tdiv v3.toInt))-(1:Int64)) v8 bp))]] ?_;refine bc hF (fun aL hF=> ?_) fun aL hF=> ?_
  ·cases hF;exact wr af [[(0,bF (bG aL))],[]]
  cases hF;exact wr af [[(0,bT (bS aL))],[]]
 obtain⟨v9,bn,hF⟩:=ao hF;refine au af [[(0,bF aJ)],[(4,cL (yw N (Int64.ofInt ((v2.toInt).tdiv v3.toInt)) v9 bn))]] ?_;refine bc hF (fun aZ hF=> ?_) fun aZ hF=> ?_
 ·cases hF;exact wr af [[(0,bF (bG aZ))],[]]
 cases hF;exact wr af [[(0,bT (bS aZ))],[]]
def Hv(N:Nat)(v1:aC)(v2:Int64)(v3:Int64):ak5 (Int64×Int):=
 some ((v2+v3),(0:Int))
theorem aaY(N:Nat)(v1:aC)(v2:Int64)(v3:Int64)(r:Int64×Int)(hF:Hv N v1 v2 v3=some r):aG Tryz.prog 316 [(bY v1),(aI v2),(aI v3)] (·=(.bk [(aI r.1),(aw r.2)])):=by
 rw[Hv]at hF;refine aR Tryz.func316 ?_;cases hF;exact wr af [[],[(8,⟨_,_, .eq (lA v2 v3)⟩)]]
def FU(N:Nat)(v1:aC)(v2:ay)(v3:ay):ak5 (ay×Int):=
 Option.bind (nD N v1 ([v2,v3])) fun v4=>
 bif (v4 !=(0:Int))then
  some (bg,v4)
 else
  Option.bind (Hv N v1 v2.xN v3.xN) fun v5=>
  bif (v5.2 !=(0:Int))then
   some (bg,v5.2)
  else
   Option.bind (lK N v1 v5.1) fun v6=>
   some (v6,(0:Int))
theorem agK(N:Nat)(v1:aC)(v2:ay)(v3:ay)(r:ay×Int)(hF:FU N v1 v2 v3=some r):bQ Tryz.prog 314 [(.agg [(.fn 316 [])]),(bY v1),(bj v2),(bj v3)] [] fun r1 h1=>r1=(.bk [(bj r.1),(aw r.2)])∧h1=[]:=by
 rw[FU]at hF;refine eE 0 Tryz.func314 ?_;obtain⟨v4,h1,hF⟩:=ao hF;refine au af [[],[(13,cL (ya N v1 ([v2,v3]) v4 h1))],[]] ?_;refine bc hF (fun h2 hF=> ?_) fun h2 hF=> ?_
 ·cases hF;exact cK af [[(0,bT h2)],[]]
 obtain⟨v5,h3,hF⟩:=ao hF;refine au af [[(0,bF h2)],[(22,cL (aaY N v1 v2.xN v3.xN v5 h3))],[]] ?_;refine bc hF (fun h4 hF=> ?_) fun h4 hF=> ?_
 ·cases hF;exact cK af [[(0,bT h4)],[]]
 obtain⟨v6,h5,hF⟩:=ao hF;cases hF;exact cK af [[(0,bF h4)],[(7,cL (yp N v1 v5.1 v6 h5))]]
def yd(N:Nat)(v1:aC)(v2:ay)(v3:ay):ak5 (ay×Int):=
 Option.bind (FU N v1 v2 v3) fun v4=>
 some (v4.1,v4.2)
theorem afp(N:Nat)(v1:aC)(v2:ay)(v3:ay)(r:ay×Int)(hF:yd N v1 v2 v3=some r):aG Tryz.prog 272 [(bY v1),(bj v2),(bj v3)] (·=(.bk [(bj r.1),(aw r.2)])):=by
 rw[yd]at hF;refine aR Tryz.func272 ?_;obtain⟨v4,h1,hF⟩:=ao hF;cases hF;exact wr af [[],[(13,oQ [(.agg [(.fn 316 [])]),(bY v1),(bj v2),(bj v3)] [.cells (bY v1).cells, .cells (bj v2).cells, .cells (bj v3).cells, .cells fA] [] (agK N v1 v2 v3 v4 h1))]]
def Ge(N:Nat)(v1:aC)(v2:Int64)(v3:Int64):ak5 (Int64×Int):=
 some ((v2-v3),(0:Int))
theorem Yj(N:Nat)(v1:aC)(v2:Int64)(v3:Int64)(r:Int64×Int)(hF:Ge N v1 v2 v3=some r):aG Tryz.prog 317 [(bY v1),(aI v2),(aI v3)] (·=(.bk [(aI r.1),(aw r.2)])):=by
 rw[Ge]at hF;refine aR Tryz.func317 ?_;cases hF;exact wr af [[],[(8,⟨_,_, .eq (gk v2 v3)⟩)]]
def HW(N:Nat)(v1:aC)(v2:ay)(v3:ay):ak5 (ay×Int):=
 Option.bind (nD N v1 ([v2,v3])) fun v4=>
 bif (v4 !=(0:Int))then
  some (bg,v4)
 else
  Option.bind (Ge N v1 v2.xN v3.xN) fun v5=>
  bif (v5.2 !=(0:Int))then
   some (bg,v5.2)
  else
   Option.bind (lK N v1 v5.1) fun v6=>
   some (v6,(0:Int))
theorem aix(N:Nat)(v1:aC)(v2:ay)(v3:ay)(r:ay×Int)(hF:HW N v1 v2 v3=some r):bQ Tryz.prog 314 [(.agg [(.fn 317 [])]),(bY v1),(bj v2),(bj v3)] [] fun r1 h1=>r1=(.bk [(bj r.1),(aw r.2)])∧h1=[]:=by
 rw[HW]at hF;refine eE 0 Tryz.func314 ?_;obtain⟨v4,h1,hF⟩:=ao hF;refine au af [[],[(13,cL (ya N v1 ([v2,v3]) v4 h1))],[]] ?_;refine bc hF (fun h2 hF=> ?_) fun h2 hF=> ?_
 ·cases hF;exact cK af [[(0,bT h2)],[]]
 obtain⟨v5,h3,hF⟩:=ao hF;refine au af [[(0,bF h2)],[(22,cL (Yj N v1 v2.xN v3.xN v5 h3))],[]] ?_;refine bc hF (fun h4 hF=> ?_) fun h4 hF=> ?_
 ·cases hF;exact cK af [[(0,bT h4)],[]]
 obtain⟨v6,h5,hF⟩:=ao hF;cases hF;exact cK af [[(0,bF h4)],[(7,cL (yp N v1 v5.1 v6 h5))]]
def Bf(N:Nat)(v1:aC)(v2:ay)(v3:ay):ak5 (ay×Int):=
 Option.bind (HW N v1 v2 v3) fun v4=>
 some (v4.1,v4.2)
theorem aeU(N:Nat)(v1:aC)(v2:ay)(v3:ay)(r:ay×Int)(hF:Bf N v1 v2 v3=some r):aG Tryz.prog 273 [(bY v1),(bj v2),(bj v3)] (·=(.bk [(bj r.1),(aw r.2)])):=by
 rw[Bf]at hF;refine aR Tryz.func273 ?_;obtain⟨v4,h1,hF⟩:=ao hF;cases hF;exact wr af [[],[(13,oQ [(.agg [(.fn 317 [])]),(bY v1),(bj v2),(bj v3)] [.cells (bY v1).cells, .cells (bj v2).cells, .cells (bj v3).cells, .cells fA] [] (aix N v1 v2 v3 v4 h1))]]
def Bm(N:Nat)(v1:Int):ak5 Bool:=
 Option.bind (bif (decide (v1≥(1:Int)))then some (decide (v1≤(4:Int)))else some false) fun v2=>
 some v2
theorem Tb(N:Nat)(v1:Int)(r:Bool)(hF:Bm N v1=some r):aG Tryz.prog 311 [(aw v1)] (·=(aB r)):=by
 rw[Bm]at hF;refine aR Tryz.func311 ?_;refine au af [[]] ?_;obtain⟨v2,h2,hF⟩:=ao hF;refine bf af [(2,(aB v2))] [] ?_ ?_
 ·refine bc h2 (fun h1 h2=> ?_) fun h1 h2=> ?_
  ·cases h2;exact⟨[(2,bT h1)],[],by kernel_rfl⟩
  cases h2;exact⟨[(2,bF h1)],[],by kernel_rfl⟩
 cases hF;exact wr af []
def yA(N:Nat)(v1:Int64):ak5 Int:=
 bif (decide (v1.toInt<(0:Int)))then
  some (IntKind.u64.wrap (0-(IntKind.u64.wrap v1.toInt)))
 else
  some (IntKind.u64.wrap v1.toInt)
theorem UY(N:Nat)(v1:Int64)(r:Int)(hF:yA N v1=some r):aG Tryz.prog 336 [(aI v1)] (·=(.d (.v (.int .u64 r)))):=by
 rw[yA]at hF;refine aR Tryz.func336 ?_;refine au af [[],[]] ?_;refine bc hF (fun h1 hF=> ?_) fun h1 hF=> ?_
 ·cases hF;exact wr af [[(0,bT h1)],[]]
 cases hF;exact wr af [[(0,bF h1)],[]]
def KN(N:Nat)(v1 v2:Int)(v3:Bool)(v4:Int):ak5 Int:=bif v2 !=(0:Int)then some (rQ v1 v2 v3 v4)else none
theorem ajs(N:Nat)(v1 v2:Int)(v3:Bool)(v4:Int)(r:Int)(hF:KN N v1 v2 v3 v4=some r):aG Tryz.prog 335 [(.d (.v (.int .u64 v1))),(.d (.v (.int .u64 v2))),(aB v3),(aw v4)] (·=(.d (.v (.int .u64 r)))):=ag1 v1 v2 v3 v4 r hF
def vZ(N:Nat)(v1:Int64)(v2:Int64)(v3:Int):ak5 (Int64×Int):=
 Option.bind (Bm N v3) fun v4=>
 bif v4 then
  bif (v2.toInt==(0:Int))then
   some ((0:Int64),(4:Int))
  else
   Option.bind (yA N v1) fun v5=>
   Option.bind (yA N v2) fun v6=>
   Option.bind (KN N v5 v6 (!((decide (v1.toInt<(0:Int)))==(decide (v2.toInt<(0:Int))))) v3) fun v7=>
   bif ((decide (v1.toInt<(0:Int)))==(decide (v2.toInt<(0:Int))))then
    bif (decide (v7≥(9223372036854775808:Int)))then
     some ((0:Int64),(3:Int))
    else
     some ((Int64.ofInt v7),(0:Int))
   else
    some ((Int64.ofInt (IntKind.u64.wrap (0-v7))),(0:Int))
 else
  some ((0:Int64),(1:Int))
theorem K4(N:Nat)(v1:Int64)(v2:Int64)(v3:Int)(r:Int64×Int)(hF:vZ N v1 v2 v3=some r):aG Tryz.prog 312 [(aI v1),(aI v2),(aw v3)] (·=(.bk [(aI r.1),(aw r.2)])):=by
 rw[vZ]at hF;refine aR Tryz.func312 ?_;obtain⟨v4,h1,hF⟩:=ao hF;refine au af [[],[(4,cL (Tb N v3 v4 h1))]] ?_;refine bc hF (fun h2 hF=> ?_) fun h2 hF=> ?_
 ·refine au af [[(0,bF (bG h2))],[]] ?_;refine bc hF (fun h3 hF=> ?_) fun h3 hF=> ?_
  ·cases hF;exact wr af [[(0,bT h3)],[]]
  obtain⟨v5,h4,hF⟩:=ao hF;obtain⟨v6,h5,hF⟩:=ao hF;obtain⟨v7,h6,hF⟩:=ao hF;refine au af [[(0,bF h3)],[],[(4,cL (UY N v1 v5 h4)),(10,cL (UY N v2 v6 h5)),(19,cL (ajs N v5 v6 (!((decide (v1.toInt<(0:Int)))==(decide (v2.toInt<(0:Int))))) v3 v7 h6))],[]] ?_;refine bc hF (fun h7 hF=> ?_) fun h7 hF=> ?_
  ·refine au af [[(0,bF (bG h7))],[]] ?_;refine bc hF (fun h8 hF=> ?_) fun h8 hF=> ?_
   ·cases hF;exact wr af [[(0,bT h8)],[]]
   cases hF;exact wr af [[(0,bF h8)],[(5,⟨_,_, .eq (eP v7)⟩)]]
  cases hF;exact wr af [[(0,bT (bS h7))],[(8,⟨_,_, .eq (eP (IntKind.u64.wrap (0-v7)))⟩)]]
 cases hF;exact wr af [[(0,bT (bS h2))],[]]
def IE(N:Nat)(v1:aC)(v2:Int64)(v3:Int64):ak5 (Int64×Int):=
 bif (decide ((0:Int)≤v1.xFrac))then
 Option.bind (vZ N (v2*v3) (Int64.ofInt ((1:Int)*2^(min (v1.xFrac).toNat (IntKind.bits .i64)))) v1.bK) fun v4=>
 some (v4.1,v4.2)
 else none
theorem aeL(N:Nat)(v1:aC)(v2:Int64)(v3:Int64)(r:Int64×Int)(hF:IE N v1 v2 v3=some r):aG Tryz.prog 318 [(bY v1),(aI v2),(aI v3)] (·=(.bk [(aI r.1),(aw r.2)])):=by
 rw[IE]at hF;refine aR Tryz.func318 ?_;obtain⟨h1,hF⟩:=dp hF;obtain⟨v4,h2,hF⟩:=ao hF;cases hF;exact wr af [[],[(8,⟨_,_, .eq (dS v2 v3)⟩),(16,⟨_,_, .nn (b:=v1.xFrac) (of_decide_eq_true h1)⟩),(17,⟨_,_, .eq (eP ((1:Int)*2^(min (v1.xFrac).toNat (IntKind.bits .i64))))⟩),(25,cL (K4 N (v2*v3) (Int64.ofInt ((1:Int)*2^(min (v1.xFrac).toNat (IntKind.bits .i64)))) v1.bK v4 h2))]]
def Gn(N:Nat)(v1:aC)(v2:ay)(v3:ay):ak5 (ay×Int):=
 Option.bind (nD N v1 ([v2,v3])) fun v4=>
 bif (v4 !=(0:Int))then
  some (bg,v4)
 else
  Option.bind (IE N v1 v2.xN v3.xN) fun v5=>
  bif (v5.2 !=(0:Int))then
   some (bg,v5.2)
  else
   Option.bind (lK N v1 v5.1) fun v6=>
   some (v6,(0:Int))
theorem agt(N:Nat)(v1:aC)(v2:ay)(v3:ay)(r:ay×Int)(hF:Gn N v1 v2 v3=some r):bQ Tryz.prog 314 [(.agg [(.fn 318 [])]),(bY v1),(bj v2),(bj v3)] [] fun r1 h1=>r1=(.bk [(bj r.1),(aw r.2)])∧h1=[]:=by
 rw[Gn]at hF;refine eE 0 Tryz.func314 ?_;obtain⟨v4,h1,hF⟩:=ao hF;refine au af [[],[(13,cL (ya N v1 ([v2,v3]) v4 h1))],[]] ?_;refine bc hF (fun h2 hF=> ?_) fun h2 hF=> ?_
 ·cases hF;exact cK af [[(0,bT h2)],[]]
 obtain⟨v5,h3,hF⟩:=ao hF;refine au af [[(0,bF h2)],[(22,cL (aeL N v1 v2.xN v3.xN v5 h3))],[]] ?_;refine bc hF (fun h4 hF=> ?_) fun h4 hF=> ?_
 ·cases hF;exact cK af [[(0,bT h4)],[]]
 obtain⟨v6,h5,hF⟩:=ao hF;cases hF;exact cK af [[(0,bF h4)],[(7,cL (yp N v1 v5.1 v6 h5))]]
def zW(N:Nat)(v1:aC)(v2:ay)(v3:ay):ak5 (ay×Int):=
 Option.bind (Gn N v1 v2 v3) fun v4=>
 some (v4.1,v4.2)
theorem ab1(N:Nat)(v1:aC)(v2:ay)(v3:ay)(r:ay×Int)(hF:zW N v1 v2 v3=some r):aG Tryz.prog 274 [(bY v1),(bj v2),(bj v3)] (·=(.bk [(bj r.1),(aw r.2)])):=by
 rw[zW]at hF;refine aR Tryz.func274 ?_;obtain⟨v4,h1,hF⟩:=ao hF;cases hF;exact wr af [[],[(13,oQ [(.agg [(.fn 318 [])]),(bY v1),(bj v2),(bj v3)] [.cells (bY v1).cells, .cells (bj v2).cells, .cells (bj v3).cells, .cells fA] [] (agt N v1 v2 v3 v4 h1))]]
def Gr(N:Nat)(v1:aC)(v2:Int64)(v3:Int64):ak5 (Int64×Int):=
 bif (decide ((0:Int)≤v1.xFrac))then
 Option.bind (vZ N (Int64.ofInt (v2.toInt*2^(min (v1.xFrac).toNat (IntKind.bits .i64)))) v3 v1.bK) fun v4=>
 some (v4.1,v4.2)
 else none
theorem aeV(N:Nat)(v1:aC)(v2:Int64)(v3:Int64)(r:Int64×Int)(hF:Gr N v1 v2 v3=some r):aG Tryz.prog 319 [(bY v1),(aI v2),(aI v3)] (·=(.bk [(aI r.1),(aw r.2)])):=by
 rw[Gr]at hF;refine aR Tryz.func319 ?_;obtain⟨h1,hF⟩:=dp hF;obtain⟨v4,h2,hF⟩:=ao hF;cases hF;exact wr af [[],[(10,⟨_,_, .nn (b:=v1.xFrac) (of_decide_eq_true h1)⟩),(11,⟨_,_, .eq (eP (v2.toInt*2^(min (v1.xFrac).toNat (IntKind.bits .i64))))⟩),(22,cL (K4 N (Int64.ofInt (v2.toInt*2^(min (v1.xFrac).toNat (IntKind.bits .i64)))) v3 v1.bK v4 h2))]]
def Hq(N:Nat)(v1:aC)(v2:ay)(v3:ay):ak5 (ay×Int):=
 Option.bind (nD N v1 ([v2,v3])) fun v4=>
 bif (v4 !=(0:Int))then
  some (bg,v4)
 else
  Option.bind (Gr N v1 v2.xN v3.xN) fun v5=>
  bif (v5.2 !=(0:Int))then
   some (bg,v5.2)
  else
   Option.bind (lK N v1 v5.1) fun v6=>
   some (v6,(0:Int))
theorem ai4(N:Nat)(v1:aC)(v2:ay)(v3:ay)(r:ay×Int)(hF:Hq N v1 v2 v3=some r):bQ Tryz.prog 314 [(.agg [(.fn 319 [])]),(bY v1),(bj v2),(bj v3)] [] fun r1 h1=>r1=(.bk [(bj r.1),(aw r.2)])∧h1=[]:=by
 rw[Hq]at hF;refine eE 0 Tryz.func314 ?_;obtain⟨v4,h1,hF⟩:=ao hF;refine au af [[],[(13,cL (ya N v1 ([v2,v3]) v4 h1))],[]] ?_;refine bc hF (fun h2 hF=> ?_) fun h2 hF=> ?_
 ·cases hF;exact cK af [[(0,bT h2)],[]]
 obtain⟨v5,h3,hF⟩:=ao hF;refine au af [[(0,bF h2)],[(22,cL (aeV N v1 v2.xN v3.xN v5 h3))],[]] ?_;refine bc hF (fun h4 hF=> ?_) fun h4 hF=> ?_
 ·cases hF;exact cK af [[(0,bT h4)],[]]
 obtain⟨v6,h5,hF⟩:=ao hF;cases hF;exact cK af [[(0,bF h4)],[(7,cL (yp N v1 v5.1 v6 h5))]]
def zh(N:Nat)(v1:aC)(v2:ay)(v3:ay):ak5 (ay×Int):=
 Option.bind (Hq N v1 v2 v3) fun v4=>
 some (v4.1,v4.2)
theorem ahO(N:Nat)(v1:aC)(v2:ay)(v3:ay)(r:ay×Int)(hF:zh N v1 v2 v3=some r):aG Tryz.prog 275 [(bY v1),(bj v2),(bj v3)] (·=(.bk [(bj r.1),(aw r.2)])):=by
 rw[zh]at hF;refine aR Tryz.func275 ?_;obtain⟨v4,h1,hF⟩:=ao hF;cases hF;exact wr af [[],[(13,oQ [(.agg [(.fn 319 [])]),(bY v1),(bj v2),(bj v3)] [.cells (bY v1).cells, .cells (bj v2).cells, .cells (bj v3).cells, .cells fA] [] (ai4 N v1 v2 v3 v4 h1))]]
def o7(N:Nat)(v1:Int64)(v2:Int64):ak5 (ay×Int):=
 bif (v2.toInt==(0:Int))then
  some (bg,(4:Int))
 else
  Option.bind (uR N v1) fun v3=>
  Option.bind (uR N v2) fun v4=>
  Option.bind (xh N v3 v4) fun v5=>
  bif (v5 !=(0:Int))then
  Option.bind (bif (decide ((IntKind.u64.wrap ((v3).tdiv v5))>(2147483647:Int)))then some true else some (decide ((IntKind.u64.wrap ((v4).tdiv v5))>(2147483647:Int)))) fun v6=>
  bif v6 then
   some (bg,(3:Int))
  else
   bif ((decide (v1.toInt<(0:Int)))==(decide (v2.toInt<(0:Int))))then
    some ((⟨(Int64.ofInt (IntKind.u64.wrap ((v3).tdiv v5))),(Int64.ofInt (IntKind.u64.wrap ((v4).tdiv v5)))⟩:ay),(0:Int))
   else
    some ((⟨(-(Int64.ofInt (IntKind.u64.wrap ((v3).tdiv v5)))),(Int64.ofInt (IntKind.u64.wrap ((v4).tdiv v5)))⟩:ay),(0:Int))
  else none
theorem El(N:Nat)(v1:Int64)(v2:Int64)(r:ay×Int)(hF:o7 N v1 v2=some r):aG Tryz.prog 310 [(aI v1),(aI v2)] (·=(.bk [(bj r.1),(aw r.2)])):=by
 rw[o7]at hF;refine aR Tryz.func310 ?_;refine au af [[],[]] ?_;refine bc hF (fun h1 hF=> ?_) fun h1 hF=> ?_
 ·cases hF;exact wr af [[(0,bT h1)],[]]
 obtain⟨v3,h2,hF⟩:=ao hF;obtain⟨v4,h3,hF⟩:=ao hF;obtain⟨v5,h4,hF⟩:=ao hF;obtain⟨h5,hF⟩:=dp hF;refine au af [[(0,bF h1)],[],[(4,cL (Mu N v1 v3 h2)),(10,cL (Mu N v2 v4 h3))],[(7,cL (VS N v3 v4 v5 h4))],[(7,⟨_,_, .nz (b:=v5) (bne_iff_ne.1 h5)⟩),(16,⟨_,_, .nz (b:=v5) (bne_iff_ne.1 h5)⟩)]] ?_;obtain⟨v6,h8,hF⟩:=ao hF;refine bf af [(36,(aB v6))] [.cells fA] ?_ ?_
 ·refine bc h8 (fun h7 h8=> ?_) fun h7 h8=> ?_
  ·cases h8;exact⟨[(2,bT h7)],[],by kernel_rfl⟩
  cases h8;exact⟨[(2,bF h7)],[],by kernel_rfl⟩
 refine bc hF (fun h9 hF=> ?_) fun h9 hF=> ?_
 ·cases hF;exact wr af [[(0,bT h9)],[]]
 refine au af [[(0,bF h9)],[]] ?_;refine bc hF (fun az hF=> ?_) fun az hF=> ?_
 ·cases hF;exact wr af [[(0,bF (bG az))],[(5,⟨_,_, .eq (eP (IntKind.u64.wrap ((v3).tdiv v5)))⟩),(11,⟨_,_, .eq (eP (IntKind.u64.wrap ((v4).tdiv v5)))⟩)]]
 cases hF;exact wr af [[(0,bT (bS az))],[(5,⟨_,_, .eq (eP (IntKind.u64.wrap ((v3).tdiv v5)))⟩),(8,⟨_,_, .eq (jO (Int64.ofInt (IntKind.u64.wrap ((v3).tdiv v5))))⟩),(14,⟨_,_, .eq (eP (IntKind.u64.wrap ((v4).tdiv v5)))⟩)]]
def zP(N:Nat)(v1:ay)(v2:ay):ak5 (ay×Int):=
 Option.bind (im N v1) fun v3=>
 Option.bind (bif v3 then Option.bind (im N v2) fun v4=>
 some (!v4)else some true) fun v5=>
 bif v5 then
  some (bg,(1:Int))
 else
  Option.bind (o7 N ((v1.xN*v2.xD)+(v2.xN*v1.xD)) (v1.xD*v2.xD)) fun v6=>
  some (v6.1,v6.2)
theorem ahX(N:Nat)(v1:ay)(v2:ay)(r:ay×Int)(hF:zP N v1 v2=some r):aG Tryz.prog 276 [(bj v1),(bj v2)] (·=(.bk [(bj r.1),(aw r.2)])):=by
 rw[zP]at hF;refine aR Tryz.func276 ?_;refine au af [[]] ?_;obtain⟨v3,h1,hF⟩:=ao hF;obtain⟨v5,h4,hF⟩:=ao hF;refine bf af [(13,(aB v5))] [.cells (bj v1).cells, .cells (bj v2).cells, .cells fA] ?_ ?_
 ·refine bc h4 (fun h2 h4=> ?_) fun h2 h4=> ?_
  ·obtain⟨v4,h3,h4⟩:=ao h4;cases h4;exact⟨[(3,bF (bG h2))],[(4,cL (gF N v1 v3 h1)),(16,cL (gF N v2 v4 h3))],by kernel_rfl⟩
  cases h4;exact⟨[(3,bT (bS h2))],[(4,cL (gF N v1 v3 h1))],by kernel_rfl⟩
 refine bc hF (fun h5 hF=> ?_) fun h5 hF=> ?_
 ·cases hF;exact wr af [[(0,bT h5)],[]]
 obtain⟨v6,h6,hF⟩:=ao hF;cases hF;exact wr af [[(0,bF h5)],[(14,⟨_,_, .eq (dS v1.xN v2.xD)⟩),(29,⟨_,_, .eq (dS v2.xN v1.xD)⟩),(32,⟨_,_, .eq (lA (v1.xN*v2.xD) (v2.xN*v1.xD))⟩),(47,⟨_,_, .eq (dS v1.xD v2.xD)⟩),(49,cL (El N ((v1.xN*v2.xD)+(v2.xN*v1.xD)) (v1.xD*v2.xD) v6 h6))]]
def Aq(N:Nat)(v1:ay)(v2:ay):ak5 (ay×Int):=
 Option.bind (im N v1) fun v3=>
 Option.bind (bif v3 then Option.bind (im N v2) fun v4=>
 some (!v4)else some true) fun v5=>
 bif v5 then
  some (bg,(1:Int))
 else
  Option.bind (o7 N ((v1.xN*v2.xD)-(v2.xN*v1.xD)) (v1.xD*v2.xD)) fun v6=>
  some (v6.1,v6.2)
theorem afQ(N:Nat)(v1:ay)(v2:ay)(r:ay×Int)(hF:Aq N v1 v2=some r):aG Tryz.prog 277 [(bj v1),(bj v2)] (·=(.bk [(bj r.1),(aw r.2)])):=by
 rw[Aq]at hF;refine aR Tryz.func277 ?_;refine au af [[]] ?_;obtain⟨v3,h1,hF⟩:=ao hF;obtain⟨v5,h4,hF⟩:=ao hF;refine bf af [(13,(aB v5))] [.cells (bj v1).cells, .cells (bj v2).cells, .cells fA] ?_ ?_
 ·refine bc h4 (fun h2 h4=> ?_) fun h2 h4=> ?_
  ·obtain⟨v4,h3,h4⟩:=ao h4;cases h4;exact⟨[(3,bF (bG h2))],[(4,cL (gF N v1 v3 h1)),(16,cL (gF N v2 v4 h3))],by kernel_rfl⟩
  cases h4;exact⟨[(3,bT (bS h2))],[(4,cL (gF N v1 v3 h1))],by kernel_rfl⟩
 refine bc hF (fun h5 hF=> ?_) fun h5 hF=> ?_
 ·cases hF;exact wr af [[(0,bT h5)],[]]
 obtain⟨v6,h6,hF⟩:=ao hF;cases hF;exact wr af [[(0,bF h5)],[(14,⟨_,_, .eq (dS v1.xN v2.xD)⟩),(29,⟨_,_, .eq (dS v2.xN v1.xD)⟩),(32,⟨_,_, .eq (gk (v1.xN*v2.xD) (v2.xN*v1.xD))⟩),(47,⟨_,_, .eq (dS v1.xD v2.xD)⟩),(49,cL (El N ((v1.xN*v2.xD)-(v2.xN*v1.xD)) (v1.xD*v2.xD) v6 h6))]]
def yG(N:Nat)(v1:ay)(v2:ay):ak5 (ay×Int):=
 Option.bind (im N v1) fun v3=>
 Option.bind (bif v3 then Option.bind (im N v2) fun v4=>
 some (!v4)else some true) fun v5=>
 bif v5 then
  some (bg,(1:Int))
 else
  Option.bind (o7 N (v1.xN*v2.xN) (v1.xD*v2.xD)) fun v6=>
  some (v6.1,v6.2)
theorem aco(N:Nat)(v1:ay)(v2:ay)(r:ay×Int)(hF:yG N v1 v2=some r):aG Tryz.prog 278 [(bj v1),(bj v2)] (·=(.bk [(bj r.1),(aw r.2)])):=by
 rw[yG]at hF;refine aR Tryz.func278 ?_;refine au af [[]] ?_;obtain⟨v3,h1,hF⟩:=ao hF;obtain⟨v5,h4,hF⟩:=ao hF;refine bf af [(13,(aB v5))] [.cells (bj v1).cells, .cells (bj v2).cells, .cells fA] ?_ ?_
 ·refine bc h4 (fun h2 h4=> ?_) fun h2 h4=> ?_
  ·obtain⟨v4,h3,h4⟩:=ao h4;cases h4;exact⟨[(3,bF (bG h2))],[(4,cL (gF N v1 v3 h1)),(16,cL (gF N v2 v4 h3))],by kernel_rfl⟩
  cases h4;exact⟨[(3,bT (bS h2))],[(4,cL (gF N v1 v3 h1))],by kernel_rfl⟩
 refine bc hF (fun h5 hF=> ?_) fun h5 hF=> ?_
 ·cases hF;exact wr af [[(0,bT h5)],[]]
 obtain⟨v6,h6,hF⟩:=ao hF;cases hF;exact wr af [[(0,bF h5)],[(14,⟨_,_, .eq (dS v1.xN v2.xN)⟩),(29,⟨_,_, .eq (dS v1.xD v2.xD)⟩),(31,cL (El N (v1.xN*v2.xN) (v1.xD*v2.xD) v6 h6))]]
def AR(N:Nat)(v1:ay)(v2:ay):ak5 (ay×Int):=
 Option.bind (im N v1) fun v3=>
 Option.bind (bif v3 then Option.bind (im N v2) fun v4=>
 some (!v4)else some true) fun v5=>
 bif v5 then
  some (bg,(1:Int))
 else
  Option.bind (o7 N (v1.xN*v2.xD) (v1.xD*v2.xN)) fun v6=>
  some (v6.1,v6.2)
theorem ah6(N:Nat)(v1:ay)(v2:ay)(r:ay×Int)(hF:AR N v1 v2=some r):aG Tryz.prog 279 [(bj v1),(bj v2)] (·=(.bk [(bj r.1),(aw r.2)])):=by
 rw[AR]at hF;refine aR Tryz.func279 ?_;refine au af [[]] ?_;obtain⟨v3,h1,hF⟩:=ao hF;obtain⟨v5,h4,hF⟩:=ao hF;refine bf af [(13,(aB v5))] [.cells (bj v1).cells, .cells (bj v2).cells, .cells fA] ?_ ?_
 ·refine bc h4 (fun h2 h4=> ?_) fun h2 h4=> ?_
  ·obtain⟨v4,h3,h4⟩:=ao h4;cases h4;exact⟨[(3,bF (bG h2))],[(4,cL (gF N v1 v3 h1)),(16,cL (gF N v2 v4 h3))],by kernel_rfl⟩
  cases h4;exact⟨[(3,bT (bS h2))],[(4,cL (gF N v1 v3 h1))],by kernel_rfl⟩
 refine bc hF (fun h5 hF=> ?_) fun h5 hF=> ?_
 ·cases hF;exact wr af [[(0,bT h5)],[]]
 obtain⟨v6,h6,hF⟩:=ao hF;cases hF;exact wr af [[(0,bF h5)],[(14,⟨_,_, .eq (dS v1.xN v2.xD)⟩),(29,⟨_,_, .eq (dS v1.xD v2.xN)⟩),(31,cL (El N (v1.xN*v2.xD) (v1.xD*v2.xN) v6 h6))]]
def DI(N:Nat)(v1:Int)(v2:aC)(v3:ay)(v4:ay):ak5 (ay×Int):=
 bif (v2.a8==(3:Int))then
  Option.bind (yf N v1 v3.xN v4.xN) fun v5=>
  some (v5.1,v5.2)
 else
  Option.bind (bif (v1==(4:Int))then some (v2.a8==(2:Int))else some false) fun v6=>
  bif v6 then
   Option.bind (yd N v2 v3 v4) fun v7=>
   some (v7.1,v7.2)
  else
   Option.bind (bif (v1==(5:Int))then some (v2.a8==(2:Int))else some false) fun v8=>
   bif v8 then
    Option.bind (Bf N v2 v3 v4) fun v9=>
    some (v9.1,v9.2)
   else
    Option.bind (bif (v1==(6:Int))then some (v2.a8==(2:Int))else some false) fun v10=>
    bif v10 then
     Option.bind (zW N v2 v3 v4) fun v11=>
     some (v11.1,v11.2)
    else
     bif (v2.a8==(2:Int))then
      Option.bind (zh N v2 v3 v4) fun v12=>
      some (v12.1,v12.2)
     else
      bif (v1==(4:Int))then
       Option.bind (zP N v3 v4) fun aX=>
       some (aX.1,aX.2)
      else
       bif (v1==(5:Int))then
        Option.bind (Aq N v3 v4) fun bu=>
        some (bu.1,bu.2)
       else
        bif (v1==(6:Int))then
         Option.bind (yG N v3 v4) fun bN=>
         some (bN.1,bN.2)
        else
         Option.bind (AR N v3 v4) fun dh=>
         some (dh.1,dh.2)
def Mz(v2:aC)(v3:ay)(v4:ay)(l:ak3 aq):ak3 aq:= .cells (bY v2).cells:: .cells (bj v3).cells:: .cells (bj v4).cells:: .cells fA::l
theorem aiG(N:Nat)(v1:Int)(v2:aC)(v3:ay)(v4:ay)(r:ay×Int)(hF:DI N v1 v2 v3 v4=some r):aG Tryz.prog 223 [(aw v1),(bY v2),(bj v3),(bj v4)] (·=(.bk [(bj r.1),(aw r.2)])):=by
 rw[DI]at hF;refine aR Tryz.func223 ?_;refine au af [[],[],[]] ?_;refine bc hF (fun h1 hF=> ?_) fun h1 hF=> ?_
 ·obtain⟨v5,h2,hF⟩:=ao hF;cases hF;exact wr af [[(0,bT h1)],[(16,cL (ajt N v1 v3.xN v4.xN v5 h2))]]
 refine au af [[(0,bF h1)]] ?_;obtain⟨v6,h4,hF⟩:=ao hF;refine bf af [(26,(aB v6))] (Mz v2 v3 v4 []) ?_ ?_
 ·refine bc h4 (fun h3 h4=> ?_) fun h3 h4=> ?_
  ·cases h4;exact⟨[(2,bT h3)],[],by kernel_rfl⟩
  cases h4;exact⟨[(2,bF h3)],[],by kernel_rfl⟩
 refine bc hF (fun h5 hF=> ?_) fun h5 hF=> ?_
 ·obtain⟨v7,h6,hF⟩:=ao hF;cases hF;exact wr af [[(0,bT h5)],[(10,cL (afp N v2 v3 v4 v7 h6))]]
 refine au af [[(0,bF h5)]] ?_;obtain⟨v8,h8,hF⟩:=ao hF;refine bf af [(38,(aB v8))] (Mz v2 v3 v4 []) ?_ ?_
 ·refine bc h8 (fun h7 h8=> ?_) fun h7 h8=> ?_
  ·cases h8;exact⟨[(2,bT h7)],[],by kernel_rfl⟩
  cases h8;exact⟨[(2,bF h7)],[],by kernel_rfl⟩
 refine bc hF (fun h9 hF=> ?_) fun h9 hF=> ?_
 ·obtain⟨v9,az,hF⟩:=ao hF;cases hF;exact wr af [[(0,bT h9)],[(10,cL (aeU N v2 v3 v4 v9 az))]]
 refine au af [[(0,bF h9)]] ?_;obtain⟨v10,aK,hF⟩:=ao hF;refine bf af [(50,(aB v10))] (Mz v2 v3 v4 []) ?_ ?_
 ·refine bc aK (fun aE aK=> ?_) fun aE aK=> ?_
  ·cases aK;exact⟨[(2,bT aE)],[],by kernel_rfl⟩
  cases aK;exact⟨[(2,bF aE)],[],by kernel_rfl⟩
 refine bc hF (fun aY hF=> ?_) fun aY hF=> ?_
 ·obtain⟨v11,aJ,hF⟩:=ao hF;cases hF;exact wr af [[(0,bT aY)],[(10,cL (ab1 N v2 v3 v4 v11 aJ))]]
 refine au af [[(0,bF aY)],[]] ?_;refine bc hF (fun bp hF=> ?_) fun bp hF=> ?_
 ·obtain⟨v12,aL,hF⟩:=ao hF;cases hF;exact wr af [[(0,bT bp)],[(10,cL (ahO N v2 v3 v4 v12 aL))]]
 refine au af [[(0,bF bp)],[]] ?_;refine bc hF (fun bn hF=> ?_) fun bn hF=> ?_
 ·obtain⟨aX,aZ,hF⟩:=ao hF;cases hF;exact wr af [[(0,bT bn)],[(7,cL (ahX N v3 v4 aX aZ))]]
 refine au af [[(0,bF bn)],[]] ?_;refine bc hF (fun bU hF=> ?_) fun bU hF=> ?_
 ·obtain⟨bu,bC,hF⟩:=ao hF;cases hF;exact wr af [[(0,bT bU)],[(7,cL (afQ N v3 v4 bu bC))]]
 refine au af [[(0,bF bU)],[]] ?_;refine bc hF (fun cl hF=> ?_) fun cl hF=> ?_
 ·obtain⟨bN,bw,hF⟩:=ao hF;cases hF;exact wr af [[(0,bT cl)],[(7,cL (aco N v3 v4 bN bw))]]
 obtain⟨dh,cT,hF⟩:=ao hF;cases hF;exact wr af [[(0,bF cl)],[(7,cL (ah6 N v3 v4 dh cT))]]
def vo(N:Nat)(v2:aC)(v3:ay)(v4:ay)(v1:Int)(v11:Bool):ak5 (ay×Int):=
 bif v11 then
  Option.bind (A3 N v2 v3 v4) fun v12=>
  Option.bind (bif ((decide (v12>(0:Int)))==(v1==(9:Int)))then some (v12 !=(0:Int))else some false) fun aX=>
  bif aX then
   some (v4,(0:Int))
  else
   some (v3,(0:Int))
 else
  Option.bind (DI N v1 v2 v3 v4) fun bu=>
  some (bu.1,bu.2)
def yy(N:Nat)(v1:Int)(v2:aC)(v3:ay)(v4:ay):ak5 (ay×Int):=
 Option.bind (bif (decide (v1<(4:Int)))then some true else some (decide (v1>(10:Int)))) fun v5=>
 bif v5 then
  some (bg,(1:Int))
 else
  Option.bind (l7 N v2) fun v6=>
  bif (v6 !=(0:Int))then
   some (bg,(10:Int))
  else
   Option.bind (mK N v2 v3) fun v7=>
   Option.bind (bif v7 then(bif (v1 !=(8:Int))then Option.bind (mK N v2 v4) fun v8=>
   some (!v8)else some false)else some true) fun v9=>
   bif v9 then
    some (bg,(1:Int))
   else
    bif (v1==(8:Int))then
     Option.bind (DC N v2 v3) fun v10=>
     some (v10.1,v10.2)
    else
     bif (v1==(9:Int))then
      vo N v2 v3 v4 v1 (v1==(9:Int))
     else
      vo N v2 v3 v4 v1 (v1==(10:Int))
def Hj(v2:aC)(v3:ay)(v4:ay)(l:ak3 aq):ak3 aq:= .cells (bY v2).cells:: .cells (bj v3).cells:: .cells (bj v4).cells:: .cells fA::l
theorem acD(N:Nat)(v1:Int)(v2:aC)(v3:ay)(v4:ay)(r:ay×Int)(hF:yy N v1 v2 v3 v4=some r):aG Tryz.prog 144 [(aw v1),(bY v2),(bj v3),(bj v4)] (·=(.bk [(bj r.1),(aw r.2)])):=by
 rw[yy]at hF;refine aR Tryz.func144 ?_;refine au af [[]] ?_;obtain⟨v5,h2,hF⟩:=ao hF;refine bf af [(11,(aB v5))] (Hj v2 v3 v4 []) ?_ ?_
 ·refine bc h2 (fun h1 h2=> ?_) fun h1 h2=> ?_
  ·cases h2;exact⟨[(2,bT h1)],[],by kernel_rfl⟩
  cases h2;exact⟨[(2,bF h1)],[],by kernel_rfl⟩
 refine bc hF (fun h3 hF=> ?_) fun h3 hF=> ?_
 ·cases hF;exact wr af [[(0,bT h3)],[]]
 obtain⟨v6,h4,hF⟩:=ao hF;refine au af [[(0,bF h3)],[(4,cL (nx N v2 v6 h4))]] ?_;refine bc hF (fun h5 hF=> ?_) fun h5 hF=> ?_
 ·cases hF;exact wr af [[(0,bT h5)],[]]
 refine au af [[(0,bF h5)]] ?_;obtain⟨v7,h6,hF⟩:=ao hF;obtain⟨v9,az,hF⟩:=ao hF;refine bf af [(24,(aB v9))] (Hj v2 v3 v4 []) ?_ ?_
 ·refine bc az (fun h7 az=> ?_) fun h7 az=> ?_
  ·refine bc az (fun h8 az=> ?_) fun h8 az=> ?_
   ·obtain⟨v8,h9,az⟩:=ao az;cases az;exact⟨[(4,bF (bG h7)),(7,bT h8)],[(7,cL (qe N v2 v3 v7 h6)),(31,cL (qe N v2 v4 v8 h9)),(37,bT h8)],by kernel_rfl⟩
   cases az;exact⟨[(4,bF (bG h7)),(7,bF h8)],[(7,cL (qe N v2 v3 v7 h6)),(37,bF h8)],by kernel_rfl⟩
  cases az;exact⟨[(4,bT (bS h7)),(7,uN)],[(7,cL (qe N v2 v3 v7 h6))],by kernel_rfl⟩
 refine bc hF (fun aE hF=> ?_) fun aE hF=> ?_
 ·cases hF;exact wr af [[(0,bT aE)],[]]
 refine au af [[(0,bF aE)],[],[]] ?_;refine bc hF (fun aK hF=> ?_) fun aK hF=> ?_
 ·obtain⟨v10,aY,hF⟩:=ao hF;cases hF;exact wr af [[(0,bT aK)],[(7,cL (adi N v2 v3 v10 aY))]]
 refine gY af r 1 [[(0,bF aK)],[]] [0,5,6,7,8,48] 4 (fun(v11:Bool)=>⟨73,[(0,(aw v1)),(5,(.ptr 0 0)),(6,(.ptr 1 0)),(7,(.ptr 2 0)),(8,(.ptr 3 0)),(48,(aB v11))],(Hj v2 v3 v4 [])⟩) (vo N v2 v3 v4 v1) ?_ ?_
 ·intro f1 aO;refine bc hF (fun bC hF=> ?_) fun bC hF=> ?_
  ·exact bP af aO (v1==(9:Int)) [[(0,bT bC)]] hF
  exact bP af aO (v1==(10:Int)) [[(0,bF bC)],[]] hF
 intro v11 hF;rw[vo]at hF;refine bc hF (fun aJ hF=> ?_) fun aJ hF=> ?_
 ·obtain⟨v12,bp,hF⟩:=ao hF;refine au af [[(0,bT aJ)],[(10,cL (Uo N v2 v3 v4 v12 bp))]] ?_;obtain⟨aX,bn,hF⟩:=ao hF;refine bf af [(63,(aB aX))] (Hj v2 v3 v4 []) ?_ ?_
  ·refine bc bn (fun aL bn=> ?_) fun aL bn=> ?_
   ·cases bn;exact⟨[(5,bT aL)],[],by kernel_rfl⟩
   cases bn;exact⟨[(5,bF aL)],[],by kernel_rfl⟩
  refine bc hF (fun aZ hF=> ?_) fun aZ hF=> ?_
  ·cases hF;exact wr af [[(0,bT aZ)],[]]
  cases hF;exact wr af [[(0,bF aZ)],[]]
 obtain⟨bu,bU,hF⟩:=ao hF;cases hF;exact wr af [[(0,bF aJ)],[(13,cL (aiG N v1 v2 v3 v4 bu bU))]]
def oK(N:Nat)(v1:aC)(v2:ay):ak5 an:=
 some (⟨(1:Int),(bs []),v2,v1,bV,[],[]⟩:an)
theorem se(N:Nat)(v1:aC)(v2:ay)(r:an)(hF:oK N v1 v2=some r):aG Tryz.prog 179 [(bY v1),(bj v2)] (·=(aA r)):=by
 rw[oK]at hF;refine aR Tryz.func179 ?_;cases hF;exact wr af [[],[]]
def yo(N:Nat)(v1:cB):ak5 (an×Bool):=
 Option.bind (HP N v1) fun v2=>
 Option.bind (bif v2 then some false else some (v1.yE.ar !=(8:Int))) fun v3=>
 bif v3 then
  some (eo,false)
 else
  Option.bind (v1.yE.ax[0]?) fun v4=>
  bif (decide ((0:Int)≤(aQ ((v1.yE.ax.length:Int)-(1:Int)))))then
  Option.bind (v1.yE.ax[((aQ ((v1.yE.ax.length:Int)-(1:Int)))).toNat]?) fun v5=>
  Option.bind (bif (v4.ar !=(1:Int))then some true else(bif (v5.ar !=(1:Int))then some true else some (!((v4.aD.a8==v5.aD.a8)&&((v4.aD.bz==v5.aD.bz)&&((v4.aD.xFrac==v5.aD.xFrac)&&((v4.aD.bK==v5.aD.bK)&&((v4.aD.bM==v5.aD.bM)&&true)))))))) fun v6=>
  bif v6 then
   some (eo,false)
  else
   Option.bind (yy N v1.yE.ar v4.aD v4.ba v5.ba) fun v7=>
   Option.bind (oK N v4.aD v7.1) fun v8=>
   some (v8,(v7.2==(0:Int)))
  else none
theorem aee(N:Nat)(v1:cB)(r:an×Bool)(hF:yo N v1=some r):aG Tryz.prog 105 [(bI v1)] (·=(.bk [(aA r.1),(aB r.2)])):=by
 rw[yo]at hF;refine aR Tryz.func105 ?_;refine au af [[]] ?_;obtain⟨v2,h1,hF⟩:=ao hF;obtain⟨v3,h3,hF⟩:=ao hF;refine bf af [(16,(aB v3))] [.cells (bI v1).cells, .cells ef] ?_ ?_
 ·refine bc h3 (fun h2 h3=> ?_) fun h2 h3=> ?_
  ·cases h3;exact⟨[(3,bF (bG h2))],[(4,cL (Lu N v1 v2 h1))],by kernel_rfl⟩
  cases h3;exact⟨[(3,bT (bS h2))],[(4,cL (Lu N v1 v2 h1))],by kernel_rfl⟩
 refine bc hF (fun h4 hF=> ?_) fun h4 hF=> ?_
 ·cases hF;exact wr af [[(0,bT h4)],[]]
 obtain⟨v4,h5,hF⟩:=ao hF;obtain⟨h7,hF⟩:=dp hF;obtain⟨v5,h6,hF⟩:=ao hF;refine au af [[(0,bF h4)],[(10,oE (k:=0) (bt h5))],[(19,oL v1.yE.ax dC),(25,⟨_,_, .el (xs:=cq v1.yE.ax) (i:=(aQ ((v1.yE.ax.length:Int)-(1:Int)))) (of_decide_eq_true h7) (bt h6)⟩)]] ?_;obtain⟨v6,az,hF⟩:=ao hF;refine bf af [(47,(aB v6))] [.cells (bI v1).cells, .cells ef, .cells (aA v4).cells, .cells (aA v5).cells] ?_ ?_
 ·refine bc az (fun h8 az=> ?_) fun h8 az=> ?_
  ·cases az;exact⟨[(3,bT h8),(8,bT rfl)],[],by kernel_rfl⟩
  refine bc az (fun h9 az=> ?_) fun h9 az=> ?_
  ·cases az;exact⟨[(3,bF h8),(8,bT h9)],[],by kernel_rfl⟩
  cases az;exact⟨[(3,bF h8),(8,bF h9)],[],by kernel_rfl⟩
 refine bc hF (fun aE hF=> ?_) fun aE hF=> ?_
 ·cases hF;exact wr af [[(0,bT aE)],[]]
 obtain⟨v7,aK,hF⟩:=ao hF;obtain⟨v8,aY,hF⟩:=ao hF;cases hF;exact wr af [[(0,bF aE)],[(28,cL (acD N v1.yE.ar v4.aD v4.ba v5.ba v7 aK))],[(10,cL (se N v4.aD v7.1 v8 aY))]]
def HZ(N:Nat)(v9:an×Bool)(v10:ak4)(v11:Int)(v12:ak4)(aX:Int64)(bu:Int64)(bN:Int)(dh:Int)(bX:Int)(bx:Int)(cC:Int)(v20:Int64)(v21:ak3 aU)(fe:ak3 aH)(dx:ak3 an):ak5 (Bool×ak4×Int×ak4×Int64×Int64×Int×Int×Int×Int×Int×Int64×(ak3 aU)×(ak3 aH)×(ak3 an)):=
 some (v9.2,v10,v11,v12,aX,bu,bN,dh,bX,bx,cC,v20,v21,fe,dx)
def B7(N:Nat)(v1:cB)(v2:ak4)(v3:ak4)(v4:Int)(v5:ak4)(v6:ay)(v7:aC)(v8:Int64):ak5 (Bool×ak4×Int×ak4×Int64×Int64×Int×Int×Int×Int×Int×Int64×(ak3 aU)×(ak3 aH)×(ak3 an)):=
 Option.bind (yo N v1) fun v9=>
 bif v9.2 then
  HZ N v9 v2 v9.1.ar v9.1.aV v9.1.ba.xN v9.1.ba.xD v9.1.aD.a8 v9.1.aD.bz v9.1.aD.xFrac v9.1.aD.bK v9.1.aD.bM v9.1.aM.xK v9.1.aM.xL v9.1.xIdx v9.1.ax
 else
  HZ N v9 v3 v4 v5 v6.xN v6.xD v7.a8 v7.bz v7.xFrac v7.bK v7.bM v8 [] [] []
theorem nF(N:Nat)(v1:cB)(v2:ak4)(v3:ak4)(v4:Int)(v5:ak4)(v6:ay)(v7:aC)(v8:Int64)(r:Bool×ak4×Int×ak4×Int64×Int64×Int×Int×Int×Int×Int×Int64×(ak3 aU)×(ak3 aH)×(ak3 an))(hF:B7 N v1 v2 v3 v4 v5 v6 v7 v8=some r):bQ Tryz.prog 104 [(bI v1),(.fn 105 []),(aS v2),(.ptr 0 0),(.ptr 1 0)] [.cells [(aS v3)], .cells ((aw v4)::(aS v5)::(aI v6.xN)::(aI v6.xD)::cf1 v7 [(aI v8),(.d (.v (.slice none 0 0))),(.d (.v (.slice none 0 0))),(.d (.v (.slice none 0 0)))])] fun r1 h1=>r1=(aB r.1)∧h1=[.cells [(aS r.2.1)], .cells [(aw r.2.2.1),(aS r.2.2.2.1),(aI r.2.2.2.2.1),(aI r.2.2.2.2.2.1),(aw r.2.2.2.2.2.2.1),(aw r.2.2.2.2.2.2.2.1),(aw r.2.2.2.2.2.2.2.2.1),(aw r.2.2.2.2.2.2.2.2.2.1),(aw r.2.2.2.2.2.2.2.2.2.2.1),(aI r.2.2.2.2.2.2.2.2.2.2.2.1),(.d (.sl (b5 r.2.2.2.2.2.2.2.2.2.2.2.2.1))),(.d (.sl (cm r.2.2.2.2.2.2.2.2.2.2.2.2.2.1))),(.d (.sl (cq r.2.2.2.2.2.2.2.2.2.2.2.2.2.2)))]]:=by
 rw[B7]at hF;refine eE 2 Tryz.func104 ?_;obtain⟨v9,h1,hF⟩:=ao hF;refine Jl af 1 [[],[(7,cL (aee N v1 v9 h1))],[]] [12] 4 (fun((v10,v11,v12,aX,bu,bN,dh,bX,bx,cC,v20,v21,fe,dx):ak4×Int×ak4×Int64×Int64×Int×Int×Int×Int×Int×Int64×(ak3 aU)×(ak3 aH)×(ak3 an))=>⟨27,[(12,(aB v9.2))],[.cells [(aS v10)], .cells [(aw v11),(aS v12),(aI aX),(aI bu),(aw bN),(aw dh),(aw bX),(aw bx),(aw cC),(aI v20),(.d (.sl (b5 v21))),(.d (.sl (cm fe))),(.d (.sl (cq dx)))], .cells (bI v1).cells, .cells (aA v9.1).cells]⟩) (fun((v10,v11,v12,aX,bu,bN,dh,bX,bx,cC,v20,v21,fe,dx):ak4×Int×ak4×Int64×Int64×Int×Int×Int×Int×Int×Int64×(ak3 aU)×(ak3 aH)×(ak3 an))=>HZ N v9 v10 v11 v12 aX bu bN dh bX bx cC v20 v21 fe dx=some r) ?_ ?_
 ·intro f1 aO;refine bc hF (fun h2 hF=> ?_) fun h2 hF=> ?_
  ·exact bP af aO (v2,v9.1.ar,v9.1.aV,v9.1.ba.xN,v9.1.ba.xD,v9.1.aD.a8,v9.1.aD.bz,v9.1.aD.xFrac,v9.1.aD.bK,v9.1.aD.bM,v9.1.aM.xK,v9.1.aM.xL,v9.1.xIdx,v9.1.ax) [[(0,bT h2)],[]] hF
  exact bP af aO (v3,v4,v5,v6.xN,v6.xD,v7.a8,v7.bz,v7.xFrac,v7.bK,v7.bM,v8,[],[],[]) [[(0,bF h2)]] hF
 rintro⟨v10,v11,v12,aX,bu,bN,dh,bX,bx,cC,v20,v21,fe,dx⟩ hF
 try dsimp only at hF
 rw[HZ]at hF;cases hF;exact cK af [[]]
def FX(N:Nat)(v1:aC)(v2:ay):ak5 (ay×Int):=
 Option.bind (nD N v1 [v2]) fun v3=>
 bif (v3 !=(0:Int))then
  some (bg,v3)
 else
  bif (decide ((0:Int)≤v1.xFrac))then
  Option.bind (o7 N v2.xN (Int64.ofInt ((1:Int)*2^(min (v1.xFrac).toNat (IntKind.bits .i64))))) fun v4=>
  some (v4.1,v4.2)
  else none
theorem abZ(N:Nat)(v1:aC)(v2:ay)(r:ay×Int)(hF:FX N v1 v2=some r):aG Tryz.prog 267 [(bY v1),(bj v2)] (·=(.bk [(bj r.1),(aw r.2)])):=by
 rw[FX]at hF;refine aR Tryz.func267 ?_;obtain⟨v3,h1,hF⟩:=ao hF;refine au af [[],[(10,cL (ya N v1 [v2] v3 h1))],[]] ?_;refine bc hF (fun h2 hF=> ?_) fun h2 hF=> ?_
 ·cases hF;exact wr af [[(0,bT h2)],[]]
 obtain⟨h3,hF⟩:=dp hF;obtain⟨v4,h4,hF⟩:=ao hF;cases hF;exact wr af [[(0,bF h2)],[(13,⟨_,_, .nn (b:=v1.xFrac) (of_decide_eq_true h3)⟩),(14,⟨_,_, .eq (eP ((1:Int)*2^(min (v1.xFrac).toNat (IntKind.bits .i64))))⟩),(16,cL (El N v2.xN (Int64.ofInt ((1:Int)*2^(min (v1.xFrac).toNat (IntKind.bits .i64)))) v4 h4))]]
def Cj(N:Nat)(v1:aC)(v2:ay):ak5 ay:=
 bif (v1.a8==(2:Int))then
  Option.bind (FX N v1 v2) fun v3=>
  some v3.1
 else
  some v2
theorem adA(N:Nat)(v1:aC)(v2:ay)(r:ay)(hF:Cj N v1 v2=some r):aG Tryz.prog 219 [(bY v1),(bj v2)] (·=(bj r)):=by
 rw[Cj]at hF;refine aR Tryz.func219 ?_;refine au af [[],[]] ?_;refine bc hF (fun h1 hF=> ?_) fun h1 hF=> ?_
 ·obtain⟨v3,h2,hF⟩:=ao hF;cases hF;exact wr af [[(0,bT h1)],[(7,cL (abZ N v1 v2 v3 h2))],[]]
 cases hF;exact wr af [[(0,bF h1)],[]]
def DH(N:Nat)(v3:Int64):ak5 Int64:=
 some v3
def AN(N:Nat)(v1:ay):ak5 Int64:=
 Option.bind (im N v1) fun v2=>
 bif v2 then
  bif (v1.xD.toInt !=(0:Int))then
  bif (decide ((Int64.ofInt ((v1.xN.toInt).tmod v1.xD.toInt)).toInt<(0:Int)))then
   DH N ((Int64.ofInt ((v1.xN.toInt).tdiv v1.xD.toInt))-(1:Int64))
  else
   DH N (Int64.ofInt ((v1.xN.toInt).tdiv v1.xD.toInt))
  else none
 else
  some (0:Int64)
theorem ahw(N:Nat)(v1:ay)(r:Int64)(hF:AN N v1=some r):aG Tryz.prog 220 [(bj v1)] (·=(aI r)):=by
 rw[AN]at hF;refine aR Tryz.func220 ?_;obtain⟨v2,h1,hF⟩:=ao hF;refine au af [[],[(4,cL (gF N v1 v2 h1))]] ?_;refine bc hF (fun h2 hF=> ?_) fun h2 hF=> ?_
 ·obtain⟨h3,hF⟩:=dp hF;refine gY af r 1 [[(0,bF (bG h2))],[(13,⟨_,_, .nz (b:=v1.xD.toInt) (bne_iff_ne.1 h3)⟩),(14,⟨_,_, .eq (eP ((v1.xN.toInt).tdiv v1.xD.toInt))⟩)],[(13,⟨_,_, .nz (b:=v1.xD.toInt) (bne_iff_ne.1 h3)⟩),(14,⟨_,_, .eq (Ep v1.xN v1.xD.toInt)⟩)]] [3] 1 (fun(v3:Int64)=>⟨21,[(3,(aI v3))],[.cells (bj v1).cells]⟩) (DH N) ?_ ?_
  ·intro f1 aO;refine bc hF (fun h4 hF=> ?_) fun h4 hF=> ?_
   ·exact bP af aO ((Int64.ofInt ((v1.xN.toInt).tdiv v1.xD.toInt))-(1:Int64)) [[(0,bT h4)],[(5,⟨_,_, .eq (gk (Int64.ofInt ((v1.xN.toInt).tdiv v1.xD.toInt)) (1:Int64))⟩)]] hF
   exact bP af aO (Int64.ofInt ((v1.xN.toInt).tdiv v1.xD.toInt)) [[(0,bF h4)]] hF
  intro v3 hF;rw[DH]at hF;cases hF;exact wr af [[]]
 cases hF;exact wr af [[(0,bT (bS h2))],[]]
def Ij(N:Nat)(v1:ay)(v2:Int)(v3:Int):ak5 (Int64×Int):=
 Option.bind (im N v1) fun v4=>
 Option.bind (bif v4 then(bif (decide (v2<(0:Int)))then some true else(bif (decide (v2>(30:Int)))then some true else Option.bind (Bm N v3) fun v5=>
 some (!v5)))else some true) fun v6=>
 bif v6 then
  some ((0:Int64),(1:Int))
 else
  bif (decide ((0:Int)≤(IntKind.u64.wrap v2)))then
  Option.bind (vZ N (Int64.ofInt (v1.xN.toInt*2^(min ((IntKind.u64.wrap v2)).toNat (IntKind.bits .i64)))) v1.xD v3) fun v7=>
  some (v7.1,v7.2)
  else none
theorem ac6(N:Nat)(v1:ay)(v2:Int)(v3:Int)(r:Int64×Int)(hF:Ij N v1 v2 v3=some r):aG Tryz.prog 268 [(bj v1),(aw v2),(aw v3)] (·=(.bk [(aI r.1),(aw r.2)])):=by
 rw[Ij]at hF;refine aR Tryz.func268 ?_;refine au af [[]] ?_;obtain⟨v4,h1,hF⟩:=ao hF;obtain⟨v6,h6,hF⟩:=ao hF;refine bf af [(23,(aB v6))] [.cells (bj v1).cells] ?_ ?_
 ·refine bc h6 (fun h2 h6=> ?_) fun h2 h6=> ?_
  ·refine bc h6 (fun h3 h6=> ?_) fun h3 h6=> ?_
   ·cases h6;exact⟨[(3,bF (bG h2)),(7,bT h3),(11,bT rfl)],[(4,cL (gF N v1 v4 h1))],by kernel_rfl⟩
   refine bc h6 (fun h4 h6=> ?_) fun h4 h6=> ?_
   ·cases h6;exact⟨[(3,bF (bG h2)),(7,bF h3),(11,bT h4)],[(4,cL (gF N v1 v4 h1))],by kernel_rfl⟩
   obtain⟨v5,h5,h6⟩:=ao h6;cases h6;exact⟨[(3,bF (bG h2)),(7,bF h3),(11,bF h4)],[(4,cL (gF N v1 v4 h1)),(40,cL (Tb N v3 v5 h5))],by kernel_rfl⟩
  cases h6;exact⟨[(3,bT (bS h2)),(7,bT rfl),(11,bT rfl)],[(4,cL (gF N v1 v4 h1))],by kernel_rfl⟩
 refine bc hF (fun h7 hF=> ?_) fun h7 hF=> ?_
 ·cases hF;exact wr af [[(0,bT h7)],[]]
 obtain⟨h8,hF⟩:=dp hF;obtain⟨v7,h9,hF⟩:=ao hF;cases hF;exact wr af [[(0,bF h7)],[(13,⟨_,_, .nn (b:=(IntKind.u64.wrap v2)) (of_decide_eq_true h8)⟩),(14,⟨_,_, .eq (eP (v1.xN.toInt*2^(min ((IntKind.u64.wrap v2)).toNat (IntKind.bits .i64))))⟩),(25,cL (K4 N (Int64.ofInt (v1.xN.toInt*2^(min ((IntKind.u64.wrap v2)).toNat (IntKind.bits .i64)))) v1.xD v3 v7 h9))]]
end Go.Proofs.YtpgmcallngdceaaGreatDoor
