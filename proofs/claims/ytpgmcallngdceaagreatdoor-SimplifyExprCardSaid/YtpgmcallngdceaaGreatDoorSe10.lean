/-
  Part 10 of the proof: PQ1.
-/
import Derived.Test.YtpgmcallngdceaaGreatDoorSe9
namespace Go.Proofs.YtpgmcallngdceaaGreatDoor
open Go.RowKit
set_option maxRecDepth 100000
set_option maxHeartbeats 0
set_option linter.unusedVariables false
def bV:aF:=⟨(0:Int64),[]⟩
def bg:ay:=⟨(0:Int64),(0:Int64)⟩
def ca:aC:=⟨(0:Int),(0:Int),(0:Int),(0:Int),(0:Int)⟩
def pL(N:Nat)(v2:Int)(rJ:an→Int→ak5 Int):ak3 an→Nat→Int→ak5 Int
 |[],_,v12=>
  some v12
 |v10::v11,v8,v12=>
  bif (decide (v12≤v2))then
   Option.bind (rJ v10 (aQ (v2-v12))) fun aX=>
   (fun rP=>pL N v2 rJ v11 (v8+1) rP) (aQ (v12+aX))
  else
   some v12
def wv(N:Nat)(mw:Int→ak5 Int)(v2:Int):ak3 aF→Nat→Int→ak5 Int
 |[],_,bx=>
  mw bx
 |dh::bX,bu,bx=>
  bif (decide (bx≤v2))then
   (fun Dc=>wv N mw v2 bX (bu+1) Dc) (aQ (bx+(dh.xL.length:Int)))
  else
   mw bx
def qn(N:Nat)(v2:Int)(rJ:an→Int→ak5 Int):ak3 an→Nat→Int→ak5 Int
 |[],_,dx=>
  some dx
 |v21::fe,cC,dx=>
  bif (decide (dx≤v2))then
   Option.bind (rJ v21 (aQ (v2-dx))) fun v24=>
   (fun aea=>qn N v2 rJ fe (cC+1) aea) (aQ (dx+v24))
  else
   some dx
def pO(N:Nat)(v2:Int)(rJ:an→Int→ak5 Int)(v1:an):ak3 aH→Nat→Int→ak5 Int
 |[],_,v7=>
  pL N v2 rJ v1.ax 0 v7
 |v5::v6,v3,v7=>
  bif (decide (v7≤v2))then
   wv N (fun cX=>pO N v2 rJ v1 v6 (v3+1) cX) v2 v5.bD 0 (aQ ((aQ (v7+(v5.aM.xL.length:Int)))+(v5.bD.length:Int)))
  else
   qn N v2 rJ v1.ax 0 v7
def lT(N:Nat):Nat→an→Int→ak5 Int
 |0,_,_=>none
 |d+1,v1,v2=>
  pO N v2 (lT N d) v1 v1.xIdx 0 (aQ ((aQ ((1:Int)+(v1.aM.xL.length:Int)))+(v1.xIdx.length:Int)))
def OM(N:Nat)(v1:an)(v2:Int):ak5 Int:=lT N N v1 v2
theorem ahu(N:Nat):∀d:Nat,(∀(v1:an)(v2:Int)(r:Int),lT N d v1 v2=some r→aG Tryz.prog 7 [(aA v1),(aw v2)] (·=(aw r))):=by
 intro d
 induction d with
 |zero=>intro v1 v2 r hF;rw[lT]at hF;cases hF
 |succ d ih=>
  have Wj:=ih;intro v1 v2 r hF;rw[lT]at hF;refine aR Tryz.func7 ?_;refine au af [[],[(10,oL v1.aM.xL dg),(22,oL v1.xIdx dP)],[]] ?_;refine kh mV 0 11 v1.xIdx fun h2=> ?_;refine qX af 1 [] [1,2,5,6] 1 v1.xIdx (fun v3(v7:Int)=>⟨101,[(1,(aw v2)),(2,(.ptr 0 0)),(5,(aw v7)),(6,(aw (v3:Int)))],[.cells (aA v1).cells]⟩) (pO N v2 (lT N d) v1) (aQ ((aQ ((1:Int)+(v1.aM.xL.length:Int)))+(v1.xIdx.length:Int))) hF ?_ ?_
  ·intro v3 v7 h3 hF f1;rw[pO]at hF;refine au af [[(10,oL v1.xIdx dP),(18,bF (cM h3)),(21,bF (cM h3)),(24,bF (cM h3)),(28,bF (cM h3))],[(0,bF rfl)],[]] ?_;refine kh lf 0 12 v1.ax fun h5=> ?_;refine qX af 2 [] [1,2,5,8] 1 v1.ax (fun v8(v12:Int)=>⟨101,[(1,(aw v2)),(2,(.ptr 0 0)),(5,(aw v12)),(8,(aw (v8:Int)))],[.cells (aA v1).cells]⟩) (pL N v2 (lT N d)) v7 hF ?_ ?_
   ·intro v8 v12 h6 hF f2;rw[pL]at hF;cases hF;exact wr af [[(10,oL v1.ax dC),(18,bF (cM h6)),(21,bF (cM h6)),(24,bF (cM h6)),(28,bF (cM h6))],[(0,bF rfl)],[]]
   intro v8 v10 v11 v12 h6 hF f2 eH;rw[pL]at hF;refine au af [[(10,oL v1.ax dC),(18,bT (cF h6)),(21,bT (cF h6)),(24,bT (cF h6)),(28,bT (cF h6))]] ?_;refine bc hF (fun h7 hF=> ?_) fun h7 hF=> ?_
   ·obtain⟨aX,h8,hF⟩:=ao hF;exact wb af eH (aQ (v12+aX)) [[(0,bT h7)],[(13,oE (bt (cd h6))),(28,cL (Wj v10 (aQ (v2-v12)) aX h8))],[(5,oq (dj h6 rfl h5))]] h6 hF
   cases hF;exact wr af [[(0,bF h7)],[]]
  intro v3 v5 v6 v7 h3 hF f1 aO;rw[pO]at hF;refine au af [[(10,oL v1.xIdx dP),(18,bT (cF h3)),(21,bT (cF h3)),(24,bT (cF h3)),(28,bT (cF h3))]] ?_;refine bc hF (fun h9 hF=> ?_) fun h9 hF=> ?_
  ·refine au af [[(0,bT h9)],[(13,oE (fI (cd h3))),(25,oL v5.aM.xL dg),(40,oE (fI (cd h3))),(49,oL v5.bD eV)],[]] ?_;refine OJ 0 11 (cm v1.xIdx) (by kernel_rfl) fun az=> ?_;have aE:v5.bD.length≤maxLen:=by rw[←eV];exact xq (On (j:=3) (d:= .sl (du v5.bD)) az (fI (cd h3)) rfl)
   refine qX af 3 [] [1,2,5,6,7] 1 v5.bD (fun bu(bx:Int)=>⟨101,[(1,(aw v2)),(2,(.ptr 0 0)),(5,(aw bx)),(6,(aw (v3:Int))),(7,(aw (bu:Int)))],[.cells (aA v1).cells]⟩) (wv N (fun cX=>pO N v2 (lT N d) v1 v6 (v3+1) cX) v2) (aQ ((aQ (v7+(v5.aM.xL.length:Int)))+(v5.bD.length:Int))) hF ?_ ?_
   ·intro bu bx aK hF f3;rw[wv]at hF;exact wb af aO bx [[(13,oE (fI (cd h3))),(22,oL v5.bD eV),(30,bF (cM aK)),(33,bF (cM aK)),(36,bF (cM aK)),(40,bF (cM aK))],[(0,bF rfl)],[(5,oq (dj h3 rfl h2))]] h3 hF
   intro bu dh bX bx aK hF f3 mW;rw[wv]at hF;refine au af [[(13,oE (fI (cd h3))),(22,oL v5.bD eV),(30,bT (cF aK)),(33,bT (cF aK)),(36,bT (cF aK)),(40,bT (cF aK))]] ?_;refine bc hF (fun aY hF=> ?_) fun aY hF=> ?_
   ·exact wb af mW (aQ (bx+(dh.xL.length:Int))) [[(0,bT aY)],[(13,oE (fI (cd h3))),(25,oE (mR (cd aK))),(34,oL dh.xL dg)],[(5,oq (dj aK rfl aE))]] aK hF
   exact wb af aO bx [[(0,bF aY)],[(5,oq (dj h3 rfl h2))]] h3 hF
  refine au af [[(0,bF h9)],[]] ?_;refine kh lf 0 12 v1.ax fun bp=> ?_;refine qX af 4 [] [1,2,5,8] 1 v1.ax (fun cC(dx:Int)=>⟨101,[(1,(aw v2)),(2,(.ptr 0 0)),(5,(aw dx)),(8,(aw (cC:Int)))],[.cells (aA v1).cells]⟩) (qn N v2 (lT N d)) v7 hF ?_ ?_
  ·intro cC dx aL hF f4;rw[qn]at hF;cases hF;exact wr af [[(10,oL v1.ax dC),(18,bF (cM aL)),(21,bF (cM aL)),(24,bF (cM aL)),(28,bF (cM aL))],[(0,bF rfl)],[]]
  intro cC v21 fe dx aL hF f4 yz;rw[qn]at hF;refine au af [[(10,oL v1.ax dC),(18,bT (cF aL)),(21,bT (cF aL)),(24,bT (cF aL)),(28,bT (cF aL))]] ?_;refine bc hF (fun bn hF=> ?_) fun bn hF=> ?_
  ·obtain⟨v24,aZ,hF⟩:=ao hF;exact wb af yz (aQ (dx+v24)) [[(0,bT bn)],[(13,oE (bt (cd aL))),(28,cL (Wj v21 (aQ (v2-dx)) v24 aZ))],[(5,oq (dj aL rfl bp))]] aL hF
  cases hF;exact wr af [[(0,bF bn)],[]]
theorem aep(N:Nat)(v1:an)(v2:Int)(r:Int)(hF:OM N v1 v2=some r):aG Tryz.prog 7 [(aA v1),(aw v2)] (·=(aw r)):=(ahu N N) v1 v2 r hF
def BT(N:Nat)(v1:ak4):ak5 aF:=
 some (⟨(0:Int64),[(⟨v1,(1:Int64)⟩:aU)]⟩:aF)
theorem PB(N:Nat)(v1:ak4)(r:aF)(hF:BT N v1=some r):aG Tryz.prog 21 [(aS v1)] (·=(b9 r)):=by
 rw[BT]at hF;refine aR Tryz.func21 ?_;cases hF;exact wr af [[],[]]
def AA(N:Nat)(v1:aC)(v2:Int64):ak5 an:=
 some (⟨(1:Int),(bs []),(⟨v2,(1:Int64)⟩:ay),v1,bV,[],[]⟩:an)
theorem rH(N:Nat)(v1:aC)(v2:Int64)(r:an)(hF:AA N v1 v2=some r):aG Tryz.prog 23 [(bY v1),(aI v2)] (·=(aA r)):=by
 rw[AA]at hF;refine aR Tryz.func23 ?_;cases hF;exact wr af [[],[]]
def Bh(N:Nat)(v1:Int)(v2:an)(v3:an):ak5 an:=
 some (⟨v1,(bs []),bg,ca,bV,[],[v2,v3]⟩:an)
theorem qT(N:Nat)(v1:Int)(v2:an)(v3:an)(r:an)(hF:Bh N v1 v2 v3=some r):aG Tryz.prog 22 [(aw v1),(aA v2),(aA v3)] (·=(aA r)):=by
 rw[Bh]at hF;refine aR Tryz.func22 ?_;cases hF;exact wr af [[],[(11,⟨_,_, .eq (congrArg AV.full (fa [v2,v3]).symm)⟩)]]
def Hu(N:Nat)(v1:aC):ak5 Bool:=
 some ((v1.a8==v1.a8)&&((v1.bz==(0:Int))&&((v1.xFrac==(0:Int))&&((v1.bK==(0:Int))&&((v1.bM==(0:Int))&&true)))))
theorem ags(N:Nat)(v1:aC)(r:Bool)(hF:Hu N v1=some r):aG Tryz.prog 49 [(bY v1)] (·=(aB r)):=by
 rw[Hu]at hF;refine aR Tryz.func49 ?_;cases hF;exact wr af [[],[]]
def qU(N:Nat)(v1:aC):ak5 Int:=
 Option.bind (bif (decide (v1.bK≥(1:Int)))then(bif (decide (v1.bK≤(4:Int)))then(bif (v1.bM==(1:Int))then some true else some (v1.bM==(2:Int)))else some false)else some false) fun v2=>
 Option.bind (bif (v1.a8 !=(2:Int))then some true else(bif (decide (v1.bz<(2:Int)))then some true else(bif (decide (v1.bz>(31:Int)))then some true else(bif (decide (v1.xFrac<(0:Int)))then some true else(bif (decide (v1.xFrac>(30:Int)))then some true else some (!v2)))))) fun v3=>
 bif v3 then
  some (10:Int)
 else
  some (0:Int)
theorem vN(N:Nat)(v1:aC)(r:Int)(hF:qU N v1=some r):aG Tryz.prog 50 [(bY v1)] (·=(aw r)):=by
 rw[qU]at hF;refine aR Tryz.func50 ?_;refine au af [[]] ?_;obtain⟨v2,h4,hF⟩:=ao hF;refine bf af [(3,(aB v2))] [.cells (bY v1).cells] ?_ ?_
 ·refine bc h4 (fun h1 h4=> ?_) fun h1 h4=> ?_
  ·refine bc h4 (fun h2 h4=> ?_) fun h2 h4=> ?_
   ·refine bc h4 (fun h3 h4=> ?_) fun h3 h4=> ?_
    ·cases h4;exact⟨[(3,bT h1),(8,bT h2),(12,bT h3)],[(49,bT h3)],by kernel_rfl⟩
    cases h4;exact⟨[(3,bT h1),(8,bT h2),(12,bF h3)],[(49,bF h3)],by kernel_rfl⟩
   cases h4;exact⟨[(3,bT h1),(8,bF h2),(12,uN)],[],by kernel_rfl⟩
  cases h4;exact⟨[(3,bF h1),(8,bF rfl),(12,uN)],[],by kernel_rfl⟩
 obtain⟨v3,az,hF⟩:=ao hF;refine bf af [(48,(aB v3))] [.cells (bY v1).cells] ?_ ?_
 ·refine bc az (fun h5 az=> ?_) fun h5 az=> ?_
  ·cases az;exact⟨[(3,bT h5),(8,bT rfl),(13,bT rfl),(18,bT rfl),(23,bT rfl)],[],by kernel_rfl⟩
  refine bc az (fun h6 az=> ?_) fun h6 az=> ?_
  ·cases az;exact⟨[(3,bF h5),(8,bT h6),(13,bT rfl),(18,bT rfl),(23,bT rfl)],[],by kernel_rfl⟩
  refine bc az (fun h7 az=> ?_) fun h7 az=> ?_
  ·cases az;exact⟨[(3,bF h5),(8,bF h6),(13,bT h7),(18,bT rfl),(23,bT rfl)],[],by kernel_rfl⟩
  refine bc az (fun h8 az=> ?_) fun h8 az=> ?_
  ·cases az;exact⟨[(3,bF h5),(8,bF h6),(13,bF h7),(18,bT h8),(23,bT rfl)],[],by kernel_rfl⟩
  refine bc az (fun h9 az=> ?_) fun h9 az=> ?_
  ·cases az;exact⟨[(3,bF h5),(8,bF h6),(13,bF h7),(18,bF h8),(23,bT h9)],[],by kernel_rfl⟩
  cases az;exact⟨[(3,bF h5),(8,bF h6),(13,bF h7),(18,bF h8),(23,bF h9)],[],by kernel_rfl⟩
 refine bc hF (fun aE hF=> ?_) fun aE hF=> ?_
 ·cases hF;exact wr af [[(0,bT aE)],[]]
 cases hF;exact wr af [[(0,bF aE)],[]]
def Eb(N:Nat)(v1:aC)(v2:Bool):ak5 Int:=
 bif v2 then
  Option.bind (Hu N v1) fun v3=>
  bif v3 then
   some (0:Int)
  else
   some (10:Int)
 else
  bif (v1.a8==(2:Int))then
   Option.bind (qU N v1) fun v4=>
   bif (v4==(0:Int))then
    some (0:Int)
   else
    some (10:Int)
  else
   some (10:Int)
def l7(N:Nat)(v1:aC):ak5 Int:=
 bif (v1.a8==(1:Int))then
  Eb N v1 (v1.a8==(1:Int))
 else
  Eb N v1 (v1.a8==(3:Int))
theorem nx(N:Nat)(v1:aC)(r:Int)(hF:l7 N v1=some r):aG Tryz.prog 24 [(bY v1)] (·=(aw r)):=by
 rw[l7]at hF;refine aR Tryz.func24 ?_;refine gY af r 1 [[],[],[]] [1,4,5] 1 (fun(v2:Bool)=>⟨15,[(1,(.ptr 0 0)),(4,(aw v1.a8)),(5,(aB v2))],[.cells (bY v1).cells]⟩) (Eb N v1) ?_ ?_
 ·intro f1 aO;refine bc hF (fun h7 hF=> ?_) fun h7 hF=> ?_
  ·exact bP af aO (v1.a8==(1:Int)) [[(0,bT h7)]] hF
  exact bP af aO (v1.a8==(3:Int)) [[(0,bF h7)],[]] hF
 intro v2 hF;rw[Eb]at hF;refine bc hF (fun h1 hF=> ?_) fun h1 hF=> ?_
 ·obtain⟨v3,h2,hF⟩:=ao hF;refine au af [[(0,bT h1)],[(4,cL (ags N v1 v3 h2))]] ?_;refine bc hF (fun h3 hF=> ?_) fun h3 hF=> ?_
  ·cases hF;exact wr af [[(0,bT h3)],[]]
  cases hF;exact wr af [[(0,bF h3)],[]]
 refine au af [[(0,bF h1)],[]] ?_;refine bc hF (fun h4 hF=> ?_) fun h4 hF=> ?_
 ·obtain⟨v4,h5,hF⟩:=ao hF;refine au af [[(0,bT h4)],[(4,cL (vN N v1 v4 h5))]] ?_;refine bc hF (fun h6 hF=> ?_) fun h6 hF=> ?_
  ·cases hF;exact wr af [[(0,bT h6)],[]]
  cases hF;exact wr af [[(0,bF h6)],[]]
 cases hF;exact wr af [[(0,bF h4)],[]]
def wA(N:Nat)(SR:an→Int→ak5 Int)(v2:Int):ak3 an→Nat→Int→ak5 Int
 |[],_,v7=>
  some v7
 |v5::v6,v3,v7=>
  Option.bind (SR v5 (aQ (v2-(1:Int)))) fun v8=>
  (fun cX=>wA N SR v2 v6 (v3+1) cX) (if(aQ ((1:Int)+v8))>v7 then(aQ ((1:Int)+v8))else v7)
def oe(N:Nat):Nat→an→Int→ak5 Int
 |0,_,_=>none
 |d+1,v1,v2=>
  bif (decide (v2≤(1:Int)))then
   some v2
  else
   wA N (oe N d) v2 v1.ax 0 (1:Int)
def Ph(N:Nat)(v1:an)(v2:Int):ak5 Int:=oe N N v1 v2
theorem ajl(N:Nat):∀d:Nat,(∀(v1:an)(v2:Int)(r:Int),oe N d v1 v2=some r→aG Tryz.prog 93 [(aA v1),(aw v2)] (·=(aw r))):=by
 intro d
 induction d with
 |zero=>intro v1 v2 r hF;rw[oe]at hF;cases hF
 |succ d ih=>
  have ajd:=ih;intro v1 v2 r hF;rw[oe]at hF;refine aR Tryz.func93 ?_;refine au af [[],[]] ?_;refine bc hF (fun h1 hF=> ?_) fun h1 hF=> ?_
  ·cases hF;exact wr af [[(0,bT h1)],[]]
  refine au af [[(0,bF h1)],[],[(7,oL v1.ax dC)]] ?_;refine fP lf 12 v1.ax fun h3=> ?_;refine qX af 1 [] [1,5,12,13,14] 1 v1.ax (fun v3(v7:Int)=>⟨27,[(1,(aw v2)),(5,(aw v7)),(12,(.d (.sl (cq v1.ax)))),(13,(aw (v1.ax.length:Int))),(14,(aw (v3:Int)))],[.cells (aA v1).cells]⟩) (wA N (oe N d) v2) (1:Int) hF ?_ ?_
  ·intro v3 v7 h4 hF f1;rw[wA]at hF;cases hF;exact wr af [[],[(0,bF (cM h4))],[]]
  intro v3 v5 v6 v7 h4 hF f1 aO;rw[wA]at hF;obtain⟨v8,h5,hF⟩:=ao hF;exact wb af aO (if(aQ ((1:Int)+v8))>v7 then(aQ ((1:Int)+v8))else v7) [[],[(0,bT (cF h4))],[(1,oE (bt (cd h4)))],[(13,cL (ajd v5 (aQ (v2-(1:Int))) v8 h5))],[(2,oq (dj h4 rfl h3))]] h4 hF
theorem air(N:Nat)(v1:an)(v2:Int)(r:Int)(hF:Ph N v1 v2=some r):aG Tryz.prog 93 [(aA v1),(aw v2)] (·=(aw r)):=(ajl N N) v1 v2 r hF
def Ju(N:Nat)(v1:an):ak5 Int:=
 Option.bind (Ph N v1 (41:Int)) fun v2=>
 some v2
theorem acE(N:Nat)(v1:an)(r:Int)(hF:Ju N v1=some r):aG Tryz.prog 51 [(aA v1)] (·=(aw r)):=by
 rw[Ju]at hF;refine aR Tryz.func51 ?_;obtain⟨v2,h1,hF⟩:=ao hF;obtain rfl:=sj hF;exact wr af [[],[(4,cL (air N v1 (41:Int) v2 h1))]]
def J1(N:Nat)(v1:an):ak5 an:=some v1
theorem U4(N:Nat)(v1 r:an)(hF:J1 N v1=some r):aG Tryz.prog 38 [(aA v1)] (·=(.fn 65 [(.bE [cJ r] 0 0)])):=by
 cases hF;exact aiF v1
def tt(N:Nat):ak3 an→Int→ak5 Int
 |[],v3=>
  some v3
 |_::v5,v3=>
  bif (decide ((aQ (v3+(1:Int)))>(2000:Int)))then
   some (aQ (v3+(1:Int)))
  else
   (fun cX=>tt N v5 cX) (aQ (v3+(1:Int)))
def vj(N:Nat)(v1:an):ak5 Int:=
 Option.bind (J1 N v1) fun v2=>
 tt N (cz v2) (0:Int)
def EA(v1:an)(v3:Int)(l:ak3 aq):ak3 aq:= .cells (aA v1).cells:: .cells [(aw (aQ (v3+(1:Int))))]::l
def pc(v1:an)(v3:Int)(l:ak3 aq):ak3 aq:= .cells (aA v1).cells:: .cells [(aw v3)]::l
def qV(v1:an)(l:ak3 aq):ak3 aq:= .cells (aA v1).cells:: .cells [(aw (0:Int))]::l
theorem uS(N:Nat)(v1:an)(r:Int)(hF:vj N v1=some r):aG Tryz.prog 14 [(aA v1)] (·=(aw r)):=by
 rw[vj]at hF;refine AG Tryz.func14 rfl (by kernel_rfl) ?_;refine jf [0] 0 (akq _) (s':=⟨12,[(0,(aA v1))],[]⟩) (by kernel_rfl) ?_;refine bH ?_;refine rg [] [(1,(.ptr 0 0))] [.cells (aA v1).cells] (by kernel_rfl) ?_;refine bH ?_;refine rg [] [(3,(.ptr 1 0))] (qV v1 []) (by kernel_rfl) ?_;refine bH ?_;refine bH ?_;obtain⟨v2,h1,hF⟩:=ao hF;refine rg [(4,cL (U4 N v1 v2 h1))] [(5,(.fn 65 [(.bE [cJ v2] 0 0)]))] (qV v1 []) (by kernel_rfl) ?_;refine gO ?_;refine jf [3,5] 2 (akn rfl) (s':=⟨12,[(3,(.ptr 1 0)),(5,(.fn 65 [(.bE [cJ v2] 0 0)]))],(qV v1 [])⟩) (by kernel_rfl) ?_;refine OI (m:=2) (enc:=aA) (xs:=(cz v2)) (by kernel_rfl) (T4 v2) (fun(v3:Int)=>(pc v1 v3 [])) (fun(v3:Int) l=>tt N l v3=some r) (0:Int) (by kernel_rfl) hF (by rintro v3;rfl) (by rintro v3;kernel_rfl) (by kernel_rfl) rfl ?_ ?_
 ·rintro v3 v4 v5 hF h2 iO iN
  try dsimp only at hF
  rw[tt]at hF;refine jf [3] 3 (akq _) (s':=⟨12,[(3,(.ptr 1 0))],(pc v1 v3 [.lp .ready 6 iO iN (dz 12 [(3,(.ptr 1 0)),(5,(.fn 65 [(.bE [cJ v2] 0 0)]))])])⟩) (by kernel_rfl) ?_;refine fM ?_;refine cA ?_;refine⟨(pc v1 v3 []),[],rfl,(by kernel_rfl),?_⟩;refine jf [3] 3 (akn rfl) (s':=⟨12,[(3,(.ptr 1 0))],(pc v1 v3 [.lp .busy 6 iO iN (dz 12 [(3,(.ptr 1 0)),(5,(.fn 65 [(.bE [cJ v2] 0 0)]))])])⟩) (by kernel_rfl) ?_;refine gO ?_;refine bH ?_;refine rg [] [] (EA v1 v3 [.lp .busy 6 iO iN (dz 12 [(3,(.ptr 1 0)),(5,(.fn 65 [(.bE [cJ v2] 0 0)]))])]) (by kernel_rfl) ?_;refine bH ?_;refine rg [] [(10,(aB (decide ((aQ (v3+(1:Int)))>(2000:Int)))))] (EA v1 v3 [.lp .busy 6 iO iN (dz 12 [(3,(.ptr 1 0)),(5,(.fn 65 [(.bE [cJ v2] 0 0)]))])]) (by kernel_rfl) ?_;rcases jS (decide ((aQ (v3+(1:Int)))>(2000:Int)))with h3|h3
  ·replace hF:=(eI h3).symm.trans hF;refine kp (t:=(decide ((aQ (v3+(1:Int)))>(2000:Int)))) (by kernel_rfl) h3 ?_;refine pC (ZZ rfl ?_);refine afD (EA v1 v3 []) rfl (by kernel_rfl) (by kernel_rfl) ?_;refine(sf rfl ?_);refine cA ?_;refine bH ?_;refine rg [] [(2,(aw (aQ (v3+(1:Int)))))] (EA v1 v3 [.gone]) (by kernel_rfl) ?_;refine dU ?_;have hr:=aky hF;subst hr;exact jV (by kernel_rfl)
  replace hF:=(kd h3).symm.trans hF;refine jZ (t:=(decide ((aQ (v3+(1:Int)))>(2000:Int)))) (by kernel_rfl) h3 ?_;refine fM ?_;refine ln ?_;refine MI (EA v1 v3 []) rfl (by kernel_rfl) (by kernel_rfl) ?_;exact⟨(aQ (v3+(1:Int))),(by kernel_rfl),hF⟩
 rintro v3 hF
 try dsimp only at hF
 rw[tt]at hF;refine ln ?_;refine cA ?_;refine bH ?_;refine rg [] [(2,(aw v3))] (pc v1 v3 [.gone]) (by kernel_rfl) ?_;refine dU ?_;have hr:=aky hF;subst hr;exact jV (by kernel_rfl)
def A5(N:Nat)(v1:aF):ak5 Bool:=
 Option.bind (bif (v1.xK.toInt==(0:Int))then some ((v1.xL.length:Int)==(0:Int))else some false) fun v2=>
 some v2
theorem Sg(N:Nat)(v1:aF)(r:Bool)(hF:A5 N v1=some r):aG Tryz.prog 165 [(b9 v1)] (·=(aB r)):=by
 rw[A5]at hF;refine aR Tryz.func165 ?_;refine au af [[]] ?_;obtain⟨v2,h2,hF⟩:=ao hF;refine bf af [(2,(aB v2))] [.cells (b9 v1).cells] ?_ ?_
 ·refine bc h2 (fun h1 h2=> ?_) fun h1 h2=> ?_
  ·cases h2;exact⟨[(3,bT h1)],[(19,oL v1.xL dg)],by kernel_rfl⟩
  cases h2;exact⟨[(3,bF h1)],[],by kernel_rfl⟩
 cases hF;exact wr af []
def D0(N:Nat)(v1:aH):ak5 Bool:=
 bif (bL v1.xFrom==bL (bs []))then
  some ((v1.bD.length:Int)==(0:Int))
 else
  Option.bind (A5 N v1.aM) fun v2=>
  some v2
theorem Zj(N:Nat)(v1:aH)(r:Bool)(hF:D0 N v1=some r):aG Tryz.prog 168 [(gA v1)] (·=(aB r)):=by
 rw[D0]at hF;refine aR Tryz.func168 ?_;refine au af [[],[]] ?_;refine bc hF (fun h1 hF=> ?_) fun h1 hF=> ?_
 ·cases hF;exact wr af [[(0,bT h1)],[(7,oL v1.bD eV)]]
 obtain⟨v2,h2,hF⟩:=ao hF;obtain rfl:=sj hF;exact wr af [[(0,bF h1)],[(7,cL (Sg N v1.aM v2 h2))]]
def Hn(N:Nat)(v1:aH):ak5 Bool:=
 Option.bind (D0 N v1) fun v2=>
 some (!v2)
theorem Y0(N:Nat)(v1:aH)(r:Bool)(hF:Hn N v1=some r):aG Tryz.prog 167 [(gA v1)] (·=(aB r)):=by
 rw[Hn]at hF;refine aR Tryz.func167 ?_;obtain⟨v2,h1,hF⟩:=ao hF;cases hF;exact wr af [[],[(4,cL (Zj N v1 v2 h1))]]
def vP(N:Nat):ak3 aH→Nat→ak5 Int
 |[],_=>
  some (-1:Int)
 |v4::v5,v2=>
  Option.bind (Hn N v4) fun v6=>
  bif v6 then
   some (v2:Int)
  else
   (vP N v5 (v2+1))
def Jr(N:Nat)(v1:ak3 aH):ak5 Int:=
 vP N v1 0
theorem Zq(N:Nat)(v1:ak3 aH)(r:Int)(hF:Jr N v1=some r):bQ Tryz.prog 232 [(.d (.sl (cm v1))),(.fn 167 [])] [] fun r1 h1=>r1=(aw r)∧h1=[]:=by
 rw[Jr]at hF;refine eE 0 Tryz.func232 ?_;refine au af [[],[(4,oL v1 dP)]] ?_;refine fP mV 0 v1 fun h2=> ?_;refine fJ af 1 [] [0,1,7,8] 0 v1 (fun v2=>⟨19,[(0,(.d (.sl (cm v1)))),(1,(.fn 167 [])),(7,(aw (v1.length:Int))),(8,(aw (v2:Int)))],[]⟩) (vP N) hF ?_ ?_
 ·intro v2 h3 hF f1;rw[vP]at hF;cases hF;exact cK af [[],[(0,bF (cM h3))],[]]
 intro v2 v4 v5 h3 hF f1 aO;rw[vP]at hF;obtain⟨v6,h4,hF⟩:=ao hF;refine au af [[],[(0,bT (cF h3))],[],[(10,oE (fI (cd h3))),(16,cL (Y0 N v4 v6 h4))]] ?_;refine bc hF (fun h5 hF=> ?_) fun h5 hF=> ?_
 ·cases hF;exact cK af [[(0,bT h5)],[]]
 exact wb af aO () [[(0,bF h5)],[(2,oq (dj h3 rfl h2))]] h3 hF
def Fl(N:Nat)(v1:ak3 aH):ak5 Bool:=
 Option.bind (Jr N v1) fun v2=>
 some (decide (v2≥(0:Int)))
theorem aew(N:Nat)(v1:ak3 aH)(r:Bool)(hF:Fl N v1=some r):bQ Tryz.prog 166 [(.d (.sl (cm v1))),(.fn 167 [])] [] fun r1 h1=>r1=(aB r)∧h1=[]:=by
 rw[Fl]at hF;refine eE 0 Tryz.func166 ?_;obtain⟨v2,h1,hF⟩:=ao hF;cases hF;exact cK af [[],[(7,oQ [(.d (.sl (cm v1))),(.fn 167 [])] [] [] (Zq N v1 v2 h1))]]
def FH(N:Nat)(v1:an):ak5 Bool:=
 Option.bind (bif (v1.ar==(1:Int))then some true else some (v1.ar==(12:Int))) fun v2=>
 Option.bind (bif (decide (v1.ar<(1:Int)))then some true else some (decide (v1.ar>(18:Int)))) fun v3=>
 bif v3 then
  some false
 else
  Option.bind (bif (v1.ar==(1:Int))then some false else some (!((v1.ba.xN.toInt==(0:Int64).toInt)&&((v1.ba.xD.toInt==(0:Int64).toInt)&&true)))) fun v4=>
  bif v4 then
   some false
  else
   Option.bind (bif v2 then some false else some (!((v1.aD.a8==(0:Int))&&((v1.aD.bz==(0:Int))&&((v1.aD.xFrac==(0:Int))&&((v1.aD.bK==(0:Int))&&((v1.aD.bM==(0:Int))&&true))))))) fun v5=>
   bif v5 then
    some false
   else
    Option.bind (bif (v1.ar==(2:Int))then some false else Option.bind (A5 N v1.aM) fun v6=>
    some (!v6)) fun v7=>
    bif v7 then
     some false
    else
     Option.bind (bif (v1.ar==(3:Int))then some false else(bif (bL v1.aV==bL (bs []))then some (decide ((v1.xIdx.length:Int)>(0:Int)))else some true)) fun v8=>
     bif v8 then
      some false
     else
      Option.bind (Fl N v1.xIdx) fun v9=>
      some (!v9)
def mG(v1:an)(l:ak3 aq):ak3 aq:= .cells (aA v1).cells::l
theorem af4(N:Nat)(v1:an)(r:Bool)(hF:FH N v1=some r):aG Tryz.prog 94 [(aA v1)] (·=(aB r)):=by
 rw[FH]at hF;refine aR Tryz.func94 ?_;refine au af [[]] ?_;obtain⟨v2,h2,hF⟩:=ao hF;refine bf af [(3,(aB (v1.ar==(1:Int)))),(4,(aB v2))] (mG v1 []) ?_ ?_
 ·refine bc h2 (fun h1 h2=> ?_) fun h1 h2=> ?_
  ·cases h2;exact⟨[(6,bT h1)],[],by kernel_rfl⟩
  cases h2;exact⟨[(6,bF h1)],[],by kernel_rfl⟩
 refine au af [[]] ?_;obtain⟨v3,h4,hF⟩:=ao hF;refine bf af [(24,(aB v3))] (mG v1 []) ?_ ?_
 ·refine bc h4 (fun h3 h4=> ?_) fun h3 h4=> ?_
  ·cases h4;exact⟨[(3,bT h3)],[],by kernel_rfl⟩
  cases h4;exact⟨[(3,bF h3)],[],by kernel_rfl⟩
 refine bc hF (fun h5 hF=> ?_) fun h5 hF=> ?_
 ·cases hF;exact wr af [[(0,bT h5)],[]]
 refine au af [[(0,bF h5)]] ?_;obtain⟨v4,h7,hF⟩:=ao hF;refine bf af [(33,(aB v4))] (mG v1 []) ?_ ?_
 ·refine bc h7 (fun h6 h7=> ?_) fun h6 h7=> ?_
  ·cases h7;exact⟨[(2,bF (bG h6))],[],by kernel_rfl⟩
  cases h7;exact⟨[(2,bT (bS h6))],[],by kernel_rfl⟩
 refine bc hF (fun h8 hF=> ?_) fun h8 hF=> ?_
 ·cases hF;exact wr af [[(0,bT h8)],[]]
 refine au af [[(0,bF h8)]] ?_;obtain⟨v5,az,hF⟩:=ao hF;refine bf af [(42,(aB v5))] (mG v1 []) ?_ ?_
 ·refine bc az (fun h9 az=> ?_) fun h9 az=> ?_
  ·cases az;exact⟨[(2,bF (bG h9))],[],by kernel_rfl⟩
  cases az;exact⟨[(2,bT (bS h9))],[],by kernel_rfl⟩
 refine bc hF (fun aE hF=> ?_) fun aE hF=> ?_
 ·cases hF;exact wr af [[(0,bT aE)],[]]
 refine au af [[(0,bF aE)]] ?_;obtain⟨v7,aJ,hF⟩:=ao hF;refine bf af [(51,(aB v7))] (mG v1 []) ?_ ?_
 ·refine bc aJ (fun aK aJ=> ?_) fun aK aJ=> ?_
  ·cases aJ;exact⟨[(2,bF (bG aK))],[],by kernel_rfl⟩
  obtain⟨v6,aY,aJ⟩:=ao aJ;cases aJ;exact⟨[(2,bT (bS aK))],[(16,cL (Sg N v1.aM v6 aY))],by kernel_rfl⟩
 refine bc hF (fun bp hF=> ?_) fun bp hF=> ?_
 ·cases hF;exact wr af [[(0,bT bp)],[]]
 refine au af [[(0,bF bp)]] ?_;obtain⟨v8,aZ,hF⟩:=ao hF;refine bf af [(60,(aB v8))] (mG v1 []) ?_ ?_
 ·refine bc aZ (fun aL aZ=> ?_) fun aL aZ=> ?_
  ·cases aZ;exact⟨[(2,bF (bG aL)),(6,uN)],[],by kernel_rfl⟩
  refine bc aZ (fun bn aZ=> ?_) fun bn aZ=> ?_
  ·cases aZ;exact⟨[(2,bT (bS aL)),(6,bF (bG bn))],[(28,oL v1.xIdx dP),(34,bF (bG bn))],by kernel_rfl⟩
  cases aZ;exact⟨[(2,bT (bS aL)),(6,bT (bS bn))],[(34,bT (bS bn))],by kernel_rfl⟩
 refine bc hF (fun bU hF=> ?_) fun bU hF=> ?_
 ·cases hF;exact wr af [[(0,bT bU)],[]]
 obtain⟨v9,bC,hF⟩:=ao hF;cases hF;exact wr af [[(0,bF bU)],[(7,oQ [(.d (.sl (cm v1.xIdx))),(.fn 167 [])] (mG v1 []) [] (aew N v1.xIdx v9 bC))]]
def As(N:Nat)(v1:Int):ak5 Bool:=
 Option.bind (bif (decide (v1≥(97:Int)))then some (decide (v1≤(122:Int)))else some false) fun v2=>
 some v2
theorem zX(N:Nat)(v1:Int)(r:Bool)(hF:As N v1=some r):aG Tryz.prog 224 [(.d (.v (.int .i32 v1)))] (·=(aB r)):=by
 rw[As]at hF;refine aR Tryz.func224 ?_;refine au af [[]] ?_;obtain⟨v2,h2,hF⟩:=ao hF;refine bf af [(2,(aB v2))] [] ?_ ?_
 ·refine bc h2 (fun h1 h2=> ?_) fun h1 h2=> ?_
  ·cases h2;exact⟨[(2,bT h1)],[],by kernel_rfl⟩
  cases h2;exact⟨[(2,bF h1)],[],by kernel_rfl⟩
 cases hF;exact wr af []
def Fg(N:Nat)(v1:Int):ak5 Bool:=
 Option.bind (bif (decide (v1≥(48:Int)))then some (decide (v1≤(57:Int)))else some false) fun v2=>
 some v2
theorem VQ(N:Nat)(v1:Int)(r:Bool)(hF:Fg N v1=some r):aG Tryz.prog 280 [(.d (.v (.int .i32 v1)))] (·=(aB r)):=by
 rw[Fg]at hF;refine aR Tryz.func280 ?_;refine au af [[]] ?_;obtain⟨v2,h2,hF⟩:=ao hF;refine bf af [(2,(aB v2))] [] ?_ ?_
 ·refine bc h2 (fun h1 h2=> ?_) fun h1 h2=> ?_
  ·cases h2;exact⟨[(2,bT h1)],[],by kernel_rfl⟩
  cases h2;exact⟨[(2,bF h1)],[],by kernel_rfl⟩
 cases hF;exact wr af []
def FB(N:Nat)(v1:Int):ak5 Bool:=
 Option.bind (As N v1) fun v2=>
 Option.bind (bif v2 then some true else Option.bind (Fg N v1) fun v3=>
 (bif v3 then some true else some (v1==(95:Int)))) fun v4=>
 some v4
theorem adx(N:Nat)(v1:Int)(r:Bool)(hF:FB N v1=some r):aG Tryz.prog 226 [(.d (.v (.int .i32 v1)))] (·=(aB r)):=by
 rw[FB]at hF;refine aR Tryz.func226 ?_;refine au af [[]] ?_;obtain⟨v2,h1,hF⟩:=ao hF;obtain⟨v4,h5,hF⟩:=ao hF;refine bf af [(2,(aB v4))] [] ?_ ?_
 ·refine bc h5 (fun h2 h5=> ?_) fun h2 h5=> ?_
  ·cases h5;exact⟨[(2,bT h2),(6,bT rfl)],[(4,cL (zX N v1 v2 h1))],by kernel_rfl⟩
  obtain⟨v3,h3,h5⟩:=ao h5;refine bc h5 (fun h4 h5=> ?_) fun h4 h5=> ?_
  ·cases h5;exact⟨[(2,bF h2),(6,bT h4)],[(4,cL (zX N v1 v2 h1)),(13,cL (VQ N v1 v3 h3))],by kernel_rfl⟩
  cases h5;exact⟨[(2,bF h2),(6,bF h4)],[(4,cL (zX N v1 v2 h1)),(13,cL (VQ N v1 v3 h3))],by kernel_rfl⟩
 cases hF;exact wr af []
def AM(N:Nat)(v1:ak4):Nat→Int→ak5 Int
 |0,_=>none
 |v2+1,v3=>
  Option.bind (bif (decide (v3<(v1.size:Int)))then bif (decide ((0:Int)≤v3))then
  Option.bind (v1[(v3).toNat]?) fun v4=>
  Option.bind (FB N (IntKind.i32.wrap (v4.toNat:Int))) fun v5=>
  some v5
  else none else some false) fun v6=>
  bif v6 then
   (fun cX=>AM N v1 v2 cX) (aQ (v3+(1:Int)))
  else
   some v3
def Bw(N:Nat)(v1:ak4):ak5 Int:=
 AM N v1 N (0:Int)
theorem Vq(N:Nat)(v1:ak4)(r:Int)(hF:Bw N v1=some r):bQ Tryz.prog 225 [(aS v1),(.fn 226 [])] [] fun r1 h1=>r1=(aw r)∧h1=[]:=by
 rw[Bw]at hF;refine eE 0 Tryz.func225 ?_;refine KF af 1 [[],[]] [0,1,5] 0 (fun(v3:Int)=>⟨21,[(0,(aS v1)),(1,(.fn 226 [])),(5,(aw v3))],[]⟩) (AM N v1) N (0:Int) hF ?_;intro v2 v3 hF f1 aO;rw[AM]at hF;obtain⟨v6,h5,hF⟩:=ao hF;refine bf af [(17,(aB v6))] [] ?_ ?_
 ·refine bc h5 (fun h1 h5=> ?_) fun h1 h5=> ?_
  ·obtain⟨h3,h5⟩:=dp h5;obtain⟨v4,h2,h5⟩:=ao h5;obtain⟨v5,h4,h5⟩:=ao h5;obtain rfl:=sj h5;exact⟨[(4,bT h1)],[(25,⟨_,_, .ch (i:=v3) (of_decide_eq_true h3) h2⟩),(31,cL (adx N (IntKind.i32.wrap (v4.toNat:Int)) v5 h4))],by kernel_rfl⟩
  cases h5;exact⟨[(4,bF h1)],[],by kernel_rfl⟩
 refine bc hF (fun h6 hF=> ?_) fun h6 hF=> ?_
 ·exact AE af aO (aQ (v3+(1:Int))) [[(0,bT h6)],[]] hF
 cases hF;exact cK af [[(0,bF h6)],[]]
def NV(N:Nat):ak5 (ak3 ak4):=some lO
theorem ahH(N:Nat)(r:ak3 ak4)(hF:NV N=some r):aG Tryz.prog 281 [] (·=(.d (.sl (gx r)))):=by
 cases hF;exact af2
def wD(N:Nat)(v2:ak4):ak3 ak4→Nat→ak5 Int
 |[],_=>
  some (-1:Int)
 |v5::v6,v3=>
  bif (bL v2==bL v5)then
   some (v3:Int)
  else
   (wD N v2 v6 (v3+1))
def Jb(N:Nat)(v1:ak3 ak4)(v2:ak4):ak5 Int:=
 wD N v2 v1 0
theorem abF(N:Nat)(v1:ak3 ak4)(v2:ak4)(r:Int)(hF:Jb N v1 v2=some r):aG Tryz.prog 157 [(.d (.sl (gx v1))),(aS v2)] (·=(aw r)):=by
 rw[Jb]at hF;refine aR Tryz.func157 ?_;refine au af [[],[(4,oL v1 AH)]] ?_;refine fP M8 0 v1 fun h2=> ?_;refine fJ af 1 [] [0,1,7,8] 0 v1 (fun v3=>⟨19,[(0,(.d (.sl (gx v1)))),(1,(aS v2)),(7,(aw (v1.length:Int))),(8,(aw (v3:Int)))],[]⟩) (wD N v2) hF ?_ ?_
 ·intro v3 h3 hF f1;rw[wD]at hF;cases hF;exact wr af [[],[(0,bF (cM h3))],[]]
 intro v3 v5 v6 h3 hF f1 aO;rw[wD]at hF;refine au af [[],[(0,bT (cF h3))],[],[(10,oE (EH (cd h3)))]] ?_;refine bc hF (fun h4 hF=> ?_) fun h4 hF=> ?_
 ·cases hF;exact wr af [[(0,bT h4)],[]]
 exact wb af aO () [[(0,bF h4)],[(2,oq (dj h3 rfl h2))]] h3 hF
def Gx(N:Nat)(v1:ak3 ak4)(v2:ak4):ak5 Bool:=
 Option.bind (Jb N v1 v2) fun v3=>
 some (decide (v3≥(0:Int)))
theorem aa5(N:Nat)(v1:ak3 ak4)(v2:ak4)(r:Bool)(hF:Gx N v1 v2=some r):aG Tryz.prog 84 [(.d (.sl (gx v1))),(aS v2)] (·=(aB r)):=by
 rw[Gx]at hF;refine aR Tryz.func84 ?_;obtain⟨v3,h1,hF⟩:=ao hF;cases hF;exact wr af [[],[(7,cL (abF N v1 v2 v3 h1))]]
def ES(N:Nat)(v1:ak4):ak5 Bool:=
 Option.bind (NV N) fun v2=>
 Option.bind (Gx N v2 v1) fun v3=>
 some v3
theorem aiE(N:Nat)(v1:ak4)(r:Bool)(hF:ES N v1=some r):aG Tryz.prog 227 [(aS v1)] (·=(aB r)):=by
 rw[ES]at hF;refine aR Tryz.func227 ?_;obtain⟨v2,h1,hF⟩:=ao hF;obtain⟨v3,h2,hF⟩:=ao hF;obtain rfl:=sj hF;exact wr af [[],[(1,cL (ahH N v2 h1)),(7,cL (aa5 N v2 v1 v3 h2))]]
def yU(N:Nat)(v1:ak4):ak5 Bool:=
 Option.bind (bif (bL v1==bL (bs []))then some false else(bif (decide ((v1.size:Int)≤(16:Int)))then Option.bind (v1[0]?) fun v2=>
 Option.bind (As N (IntKind.i32.wrap (v2.toNat:Int))) fun v3=>
 (bif v3 then Option.bind (Bw N v1) fun v4=>
 (bif (v4==(v1.size:Int))then Option.bind (ES N v1) fun v5=>
 some (!v5)else some false)else some false)else some false)) fun v6=>
 some v6
theorem S0(N:Nat)(v1:ak4)(r:Bool)(hF:yU N v1=some r):aG Tryz.prog 149 [(aS v1)] (·=(aB r)):=by
 rw[yU]at hF;refine aR Tryz.func149 ?_;refine au af [[]] ?_;obtain⟨v6,h9,hF⟩:=ao hF;refine bf af [(2,(aB v6))] [] ?_ ?_
 ·refine bc h9 (fun h1 h9=> ?_) fun h1 h9=> ?_
  ·cases h9;exact⟨[(2,bF (bG h1)),(7,bF rfl),(13,bF rfl),(20,bF rfl)],[],by kernel_rfl⟩
  refine bc h9 (fun h2 h9=> ?_) fun h2 h9=> ?_
  ·obtain⟨v2,h3,h9⟩:=ao h9;obtain⟨v3,h4,h9⟩:=ao h9;refine bc h9 (fun h5 h9=> ?_) fun h5 h9=> ?_
   ·obtain⟨v4,h6,h9⟩:=ao h9;refine bc h9 (fun h7 h9=> ?_) fun h7 h9=> ?_
    ·obtain⟨v5,h8,h9⟩:=ao h9;cases h9;exact⟨[(2,bT (bS h1)),(7,bT h2),(13,bT h5),(20,bT h7)],[(28,⟨_,_, .ch (i:=(0:Int)) (by decide) h3⟩),(34,cL (zX N (IntKind.i32.wrap (v2.toNat:Int)) v3 h4)),(46,oQ [(aS v1),(.fn 226 [])] [] [] (Vq N v1 v4 h6)),(67,cL (aiE N v1 v5 h8))],by kernel_rfl⟩
    cases h9;exact⟨[(2,bT (bS h1)),(7,bT h2),(13,bT h5),(20,bF h7)],[(28,⟨_,_, .ch (i:=(0:Int)) (by decide) h3⟩),(34,cL (zX N (IntKind.i32.wrap (v2.toNat:Int)) v3 h4)),(46,oQ [(aS v1),(.fn 226 [])] [] [] (Vq N v1 v4 h6))],by kernel_rfl⟩
   cases h9;exact⟨[(2,bT (bS h1)),(7,bT h2),(13,bF h5),(20,bF rfl)],[(28,⟨_,_, .ch (i:=(0:Int)) (by decide) h3⟩),(34,cL (zX N (IntKind.i32.wrap (v2.toNat:Int)) v3 h4))],by kernel_rfl⟩
  cases h9;exact⟨[(2,bT (bS h1)),(7,bF h2),(13,bF rfl),(20,bF rfl)],[],by kernel_rfl⟩
 cases hF;exact wr af []
def DA(N:Nat)(v1:aH):ak5 Bool:=
 Option.bind (bif (bL v1.xFrom==bL (bs []))then some false else Option.bind (yU N v1.xFrom) fun v2=>
 some (!v2)) fun v3=>
 some v3
theorem afr(N:Nat)(v1:aH)(r:Bool)(hF:DA N v1=some r):aG Tryz.prog 169 [(gA v1)] (·=(aB r)):=by
 rw[DA]at hF;refine aR Tryz.func169 ?_;refine au af [[]] ?_;obtain⟨v3,h3,hF⟩:=ao hF;refine bf af [(2,(aB v3))] [.cells (gA v1).cells] ?_ ?_
 ·refine bc h3 (fun h1 h3=> ?_) fun h1 h3=> ?_
  ·cases h3;exact⟨[(3,bF (bG h1))],[],by kernel_rfl⟩
  obtain⟨v2,h2,h3⟩:=ao h3;cases h3;exact⟨[(3,bT (bS h1))],[(19,cL (S0 N v1.xFrom v2 h2))],by kernel_rfl⟩
 cases hF;exact wr af []
def wy(N:Nat):ak3 aH→Nat→ak5 Int
 |[],_=>
  some (-1:Int)
 |v4::v5,v2=>
  Option.bind (DA N v4) fun v6=>
  bif v6 then
   some (v2:Int)
  else
   (wy N v5 (v2+1))
def IS(N:Nat)(v1:ak3 aH):ak5 Int:=
 wy N v1 0
theorem ahU(N:Nat)(v1:ak3 aH)(r:Int)(hF:IS N v1=some r):bQ Tryz.prog 232 [(.d (.sl (cm v1))),(.fn 169 [])] [] fun r1 h1=>r1=(aw r)∧h1=[]:=by
 rw[IS]at hF;refine eE 0 Tryz.func232 ?_;refine au af [[],[(4,oL v1 dP)]] ?_;refine fP mV 0 v1 fun h2=> ?_;refine fJ af 1 [] [0,1,7,8] 0 v1 (fun v2=>⟨19,[(0,(.d (.sl (cm v1)))),(1,(.fn 169 [])),(7,(aw (v1.length:Int))),(8,(aw (v2:Int)))],[]⟩) (wy N) hF ?_ ?_
 ·intro v2 h3 hF f1;rw[wy]at hF;cases hF;exact cK af [[],[(0,bF (cM h3))],[]]
 intro v2 v4 v5 h3 hF f1 aO;rw[wy]at hF;obtain⟨v6,h4,hF⟩:=ao hF;refine au af [[],[(0,bT (cF h3))],[],[(10,oE (fI (cd h3))),(16,cL (afr N v4 v6 h4))]] ?_;refine bc hF (fun h5 hF=> ?_) fun h5 hF=> ?_
 ·cases hF;exact cK af [[(0,bT h5)],[]]
 exact wb af aO () [[(0,bF h5)],[(2,oq (dj h3 rfl h2))]] h3 hF
def HK(N:Nat)(v1:ak3 aH):ak5 Bool:=
 Option.bind (IS N v1) fun v2=>
 some (decide (v2≥(0:Int)))
theorem YY(N:Nat)(v1:ak3 aH)(r:Bool)(hF:HK N v1=some r):bQ Tryz.prog 166 [(.d (.sl (cm v1))),(.fn 169 [])] [] fun r1 h1=>r1=(aB r)∧h1=[]:=by
 rw[HK]at hF;refine eE 0 Tryz.func166 ?_;obtain⟨v2,h1,hF⟩:=ao hF;cases hF;exact cK af [[],[(7,oQ [(.d (.sl (cm v1))),(.fn 169 [])] [] [] (ahU N v1 v2 h1))]]
def DJ(N:Nat)(v1:an):ak5 Bool:=
 Option.bind (bif (v1.ar==(3:Int))then Option.bind (yU N v1.aV) fun v2=>
 some (!v2)else some false) fun v3=>
 bif v3 then
  some false
 else
  Option.bind (HK N v1.xIdx) fun v4=>
  some (!v4)
theorem aaV(N:Nat)(v1:an)(r:Bool)(hF:DJ N v1=some r):aG Tryz.prog 95 [(aA v1)] (·=(aB r)):=by
 rw[DJ]at hF;refine aR Tryz.func95 ?_;refine au af [[]] ?_;obtain⟨v3,h3,hF⟩:=ao hF;refine bf af [(11,(aB v3))] [.cells (aA v1).cells] ?_ ?_
 ·refine bc h3 (fun h1 h3=> ?_) fun h1 h3=> ?_
  ·obtain⟨v2,h2,h3⟩:=ao h3;cases h3;exact⟨[(3,bT h1)],[(19,cL (S0 N v1.aV v2 h2))],by kernel_rfl⟩
  cases h3;exact⟨[(3,bF h1)],[],by kernel_rfl⟩
 refine bc hF (fun h4 hF=> ?_) fun h4 hF=> ?_
 ·cases hF;exact wr af [[(0,bT h4)],[]]
 obtain⟨v4,h5,hF⟩:=ao hF;cases hF;exact wr af [[(0,bF h4)],[(7,oQ [(.d (.sl (cm v1.xIdx))),(.fn 169 [])] [.cells (aA v1).cells] [] (YY N v1.xIdx v4 h5))]]
def z7(N:Nat)(v1:Int)(v3:Bool):ak5 Int:=
 bif v3 then
  some (1:Int)
 else
  bif (v1==(11:Int))then
   some (3:Int)
  else
   some (2:Int)
def AU(N:Nat)(v1:Int)(v2:Bool):ak5 Int:=
 bif v2 then
  some (0:Int)
 else
  bif (v1==(8:Int))then
   z7 N v1 (v1==(8:Int))
  else
   bif (v1==(12:Int))then
    z7 N v1 (v1==(12:Int))
   else
    z7 N v1 (v1==(18:Int))
def Ec(N:Nat)(v1:Int):ak5 Int:=
 bif (v1==(1:Int))then
  AU N v1 (v1==(1:Int))
 else
  bif (v1==(2:Int))then
   AU N v1 (v1==(2:Int))
  else
   AU N v1 (v1==(3:Int))
theorem T6(N:Nat)(v1:Int)(r:Int)(hF:Ec N v1=some r):aG Tryz.prog 170 [(aw v1)] (·=(aw r)):=by
 rw[Ec]at hF;refine aR Tryz.func170 ?_;refine gY af r 1 [[],[],[]] [3,4] 0 (fun(v2:Bool)=>⟨14,[(3,(aw v1)),(4,(aB v2))],[]⟩) (AU N v1) ?_ ?_
 ·intro f1 aO;refine bc hF (fun h6 hF=> ?_) fun h6 hF=> ?_
  ·exact bP af aO (v1==(1:Int)) [[(0,bT h6)]] hF
  refine au af [[(0,bF h6)],[]] ?_;refine bc hF (fun h7 hF=> ?_) fun h7 hF=> ?_
  ·exact bP af aO (v1==(2:Int)) [[(0,bT h7)]] hF
  exact bP af aO (v1==(3:Int)) [[(0,bF h7)],[]] hF
 intro v2 hF;rw[AU]at hF;refine bc hF (fun h1 hF=> ?_) fun h1 hF=> ?_
 ·cases hF;exact wr af [[(0,bT h1)],[]]
 refine gY af r 2 [[(0,bF h1)],[]] [3,8] 0 (fun(v3:Bool)=>⟨14,[(3,(aw v1)),(8,(aB v3))],[]⟩) (z7 N v1) ?_ ?_
 ·intro f2 eH;refine bc hF (fun h4 hF=> ?_) fun h4 hF=> ?_
  ·exact bP af eH (v1==(8:Int)) [[(0,bT h4)]] hF
  refine au af [[(0,bF h4)],[]] ?_;refine bc hF (fun h5 hF=> ?_) fun h5 hF=> ?_
  ·exact bP af eH (v1==(12:Int)) [[(0,bT h5)]] hF
  exact bP af eH (v1==(18:Int)) [[(0,bF h5)],[]] hF
 intro v3 hF;rw[z7]at hF;refine bc hF (fun h2 hF=> ?_) fun h2 hF=> ?_
 ·cases hF;exact wr af [[(0,bT h2)],[]]
 refine au af [[(0,bF h2)],[]] ?_;refine bc hF (fun h3 hF=> ?_) fun h3 hF=> ?_
 ·cases hF;exact wr af [[(0,bT h3)],[]]
 cases hF;exact wr af [[(0,bF h3)],[]]
def Jy(N:Nat)(v1:aH):ak5 Bool:=
 some (decide ((v1.bD.length:Int)>(6:Int)))
theorem aa8(N:Nat)(v1:aH)(r:Bool)(hF:Jy N v1=some r):aG Tryz.prog 171 [(gA v1)] (·=(aB r)):=by
 rw[Jy]at hF;refine aR Tryz.func171 ?_;cases hF;exact wr af [[],[(7,oL v1.bD eV)]]
def w7(N:Nat):ak3 aH→Nat→ak5 Int
 |[],_=>
  some (-1:Int)
 |v4::v5,v2=>
  Option.bind (Jy N v4) fun v6=>
  bif v6 then
   some (v2:Int)
  else
   (w7 N v5 (v2+1))
def Jp(N:Nat)(v1:ak3 aH):ak5 Int:=
 w7 N v1 0
theorem Z6(N:Nat)(v1:ak3 aH)(r:Int)(hF:Jp N v1=some r):bQ Tryz.prog 232 [(.d (.sl (cm v1))),(.fn 171 [])] [] fun r1 h1=>r1=(aw r)∧h1=[]:=by
 rw[Jp]at hF;refine eE 0 Tryz.func232 ?_;refine au af [[],[(4,oL v1 dP)]] ?_;refine fP mV 0 v1 fun h2=> ?_;refine fJ af 1 [] [0,1,7,8] 0 v1 (fun v2=>⟨19,[(0,(.d (.sl (cm v1)))),(1,(.fn 171 [])),(7,(aw (v1.length:Int))),(8,(aw (v2:Int)))],[]⟩) (w7 N) hF ?_ ?_
 ·intro v2 h3 hF f1;rw[w7]at hF;cases hF;exact cK af [[],[(0,bF (cM h3))],[]]
 intro v2 v4 v5 h3 hF f1 aO;rw[w7]at hF;obtain⟨v6,h4,hF⟩:=ao hF;refine au af [[],[(0,bT (cF h3))],[],[(10,oE (fI (cd h3))),(16,cL (aa8 N v4 v6 h4))]] ?_;refine bc hF (fun h5 hF=> ?_) fun h5 hF=> ?_
 ·cases hF;exact cK af [[(0,bT h5)],[]]
 exact wb af aO () [[(0,bF h5)],[(2,oq (dj h3 rfl h2))]] h3 hF
def IZ(N:Nat)(v1:ak3 aH):ak5 Bool:=
 Option.bind (Jp N v1) fun v2=>
 some (decide (v2≥(0:Int)))
theorem Zm(N:Nat)(v1:ak3 aH)(r:Bool)(hF:IZ N v1=some r):bQ Tryz.prog 166 [(.d (.sl (cm v1))),(.fn 171 [])] [] fun r1 h1=>r1=(aB r)∧h1=[]:=by
 rw[IZ]at hF;refine eE 0 Tryz.func166 ?_;obtain⟨v2,h1,hF⟩:=ao hF;cases hF;exact cK af [[],[(7,oQ [(.d (.sl (cm v1))),(.fn 171 [])] [] [] (Z6 N v1 v2 h1))]]
def Cx(N:Nat)(v1:an):ak5 Bool:=
 Option.bind (Ec N v1.ar) fun v2=>
 Option.bind (bif ((v1.ax.length:Int) !=v2)then some true else some (decide ((v1.xIdx.length:Int)>(6:Int)))) fun v3=>
 bif v3 then
  some false
 else
  Option.bind (IZ N v1.xIdx) fun v4=>
  some (!v4)
theorem Yx(N:Nat)(v1:an)(r:Bool)(hF:Cx N v1=some r):aG Tryz.prog 96 [(aA v1)] (·=(aB r)):=by
 rw[Cx]at hF;refine aR Tryz.func96 ?_;refine au af [[]] ?_;obtain⟨v2,h1,hF⟩:=ao hF;obtain⟨v3,h3,hF⟩:=ao hF;refine bf af [(15,(aB v3))] [.cells (aA v1).cells] ?_ ?_
 ·refine bc h3 (fun h2 h3=> ?_) fun h2 h3=> ?_
  ·cases h3;exact⟨[(7,bT h2)],[(7,oL v1.ax dC),(16,cL (T6 N v1.ar v2 h1))],by kernel_rfl⟩
  cases h3;exact⟨[(7,bF h2)],[(7,oL v1.ax dC),(16,cL (T6 N v1.ar v2 h1)),(31,oL v1.xIdx dP)],by kernel_rfl⟩
 refine bc hF (fun h4 hF=> ?_) fun h4 hF=> ?_
 ·cases hF;exact wr af [[(0,bT h4)],[]]
 obtain⟨v4,h5,hF⟩:=ao hF;cases hF;exact wr af [[(0,bF h4)],[(7,oQ [(.d (.sl (cm v1.xIdx))),(.fn 171 [])] [.cells (aA v1).cells] [] (Zm N v1.xIdx v4 h5))]]
def yb(N:Nat)(v1:an):ak5 Bool:=
 Option.bind (bif (decide ((13:Int)≤v1.ar))then some (decide (v1.ar≤(18:Int)))else some false) fun v2=>
 some v2
theorem WS(N:Nat)(v1:an)(r:Bool)(hF:yb N v1=some r):aG Tryz.prog 28 [(aA v1)] (·=(aB r)):=by
 rw[yb]at hF;refine aR Tryz.func28 ?_;refine au af [[]] ?_;obtain⟨v2,h2,hF⟩:=ao hF;refine bf af [(2,(aB v2))] [.cells (aA v1).cells] ?_ ?_
 ·refine bc h2 (fun h1 h2=> ?_) fun h1 h2=> ?_
  ·cases h2;exact⟨[(3,bT h1)],[],by kernel_rfl⟩
  cases h2;exact⟨[(3,bF h1)],[],by kernel_rfl⟩
 cases hF;exact wr af []
def Aw(N:Nat)(v1:Int)(v2:Int)(v3:Bool):ak5 Bool:=
 bif v3 then
  some true
 else
  Option.bind (bif (v1==(11:Int))then some (v2==(0:Int))else some false) fun v4=>
  some v4
def BN(N:Nat)(v1:Int)(v2:Int):ak5 Bool:=
 bif (v1==(16:Int))then
  Aw N v1 v2 (v1==(16:Int))
 else
  bif (v1==(17:Int))then
   Aw N v1 v2 (v1==(17:Int))
  else
   Aw N v1 v2 (v1==(18:Int))
theorem aa3(N:Nat)(v1:Int)(v2:Int)(r:Bool)(hF:BN N v1 v2=some r):aG Tryz.prog 172 [(aw v1),(aw v2)] (·=(aB r)):=by
 rw[BN]at hF;refine aR Tryz.func172 ?_;refine gY af r 1 [[],[],[]] [0,1,6] 0 (fun(v3:Bool)=>⟨16,[(0,(aw v1)),(1,(aw v2)),(6,(aB v3))],[]⟩) (Aw N v1 v2) ?_ ?_
 ·intro f1 aO;refine bc hF (fun h4 hF=> ?_) fun h4 hF=> ?_
  ·exact bP af aO (v1==(16:Int)) [[(0,bT h4)]] hF
  refine au af [[(0,bF h4)],[]] ?_;refine bc hF (fun h5 hF=> ?_) fun h5 hF=> ?_
  ·exact bP af aO (v1==(17:Int)) [[(0,bT h5)]] hF
  exact bP af aO (v1==(18:Int)) [[(0,bF h5)],[]] hF
 intro v3 hF;rw[Aw]at hF;refine bc hF (fun h1 hF=> ?_) fun h1 hF=> ?_
 ·cases hF;exact wr af [[(0,bT h1)],[]]
 refine au af [[(0,bF h1)]] ?_;obtain⟨v4,h3,hF⟩:=ao hF;refine bf af [(4,(aB v4))] [] ?_ ?_
 ·refine bc h3 (fun h2 h3=> ?_) fun h2 h3=> ?_
  ·cases h3;exact⟨[(2,bT h2)],[],by kernel_rfl⟩
  cases h3;exact⟨[(2,bF h2)],[],by kernel_rfl⟩
 cases hF;exact wr af []
def xz(N:Nat)(v1:an):ak3 an→Nat→ak5 Bool
 |[],_=>
  some true
 |v7::v8,v5=>
  Option.bind (yb N v7) fun v9=>
  Option.bind (BN N v1.ar (v5:Int)) fun v10=>
  bif (v9==v10)then
   (xz N v1 v8 (v5+1))
  else
   some false
def Cs(N:Nat)(v1:an):ak5 Bool:=
 Option.bind (bif (v1.ar==(1:Int))then Option.bind (l7 N v1.aD) fun v2=>
 some (v2 !=(0:Int))else(bif (v1.ar==(12:Int))then Option.bind (l7 N v1.aD) fun v3=>
 some (v3 !=(0:Int))else some false)) fun v4=>
 bif v4 then
  some false
 else
  xz N v1 v1.ax 0
theorem aeB(N:Nat)(v1:an)(r:Bool)(hF:Cs N v1=some r):aG Tryz.prog 97 [(aA v1)] (·=(aB r)):=by
 rw[Cs]at hF;refine aR Tryz.func97 ?_;refine au af [[]] ?_;obtain⟨v4,h5,hF⟩:=ao hF;refine bf af [(18,(aB v4))] [.cells (aA v1).cells] ?_ ?_
 ·refine bc h5 (fun h1 h5=> ?_) fun h1 h5=> ?_
  ·obtain⟨v2,h2,h5⟩:=ao h5;cases h5;exact⟨[(3,bT h1),(8,bT rfl)],[(34,cL (nx N v1.aD v2 h2))],by kernel_rfl⟩
  refine bc h5 (fun h3 h5=> ?_) fun h3 h5=> ?_
  ·obtain⟨v3,h4,h5⟩:=ao h5;cases h5;exact⟨[(3,bF h1),(8,bT h3)],[(34,cL (nx N v1.aD v3 h4))],by kernel_rfl⟩
  cases h5;exact⟨[(3,bF h1),(8,bF h3)],[],by kernel_rfl⟩
 refine bc hF (fun h6 hF=> ?_) fun h6 hF=> ?_
 ·cases hF;exact wr af [[(0,bT h6)],[]]
 refine au af [[(0,bF h6)],[(7,oL v1.ax dC)]] ?_;refine fP lf 20 v1.ax fun h8=> ?_;refine fJ af 1 [] [1,20,21,22] 1 v1.ax (fun v5=>⟨35,[(1,(.ptr 0 0)),(20,(.d (.sl (cq v1.ax)))),(21,(aw (v1.ax.length:Int))),(22,(aw (v5:Int)))],[.cells (aA v1).cells]⟩) (xz N v1) hF ?_ ?_
 ·intro v5 h9 hF f1;rw[xz]at hF;cases hF;exact wr af [[],[(0,bF (cM h9))],[]]
 intro v5 v7 v8 h9 hF f1 aO;rw[xz]at hF;obtain⟨v9,az,hF⟩:=ao hF;obtain⟨v10,aE,hF⟩:=ao hF;refine au af [[],[(0,bT (cF h9))],[(4,oE (bt (cd h9)))],[(4,cL (WS N v7 v9 az)),(16,cL (aa3 N v1.ar (v5:Int) v10 aE))]] ?_;refine bc hF (fun aK hF=> ?_) fun aK hF=> ?_
 ·exact wb af aO () [[(0,bF (bG aK))],[(2,oq (dj h9 rfl h8))]] h9 hF
 cases hF;exact wr af [[(0,bT (bS aK))],[]]
def vF(N:Nat)(v1:Int):ak5 Bool:=
 Option.bind (bif (decide (v1≥(2:Int)))then some (decide (v1≤(31:Int)))else some false) fun v2=>
 some v2
theorem BV(N:Nat)(v1:Int)(r:Bool)(hF:vF N v1=some r):aG Tryz.prog 288 [(aw v1)] (·=(aB r)):=by
 rw[vF]at hF;refine aR Tryz.func288 ?_;refine au af [[]] ?_;obtain⟨v2,h2,hF⟩:=ao hF;refine bf af [(2,(aB v2))] [] ?_ ?_
 ·refine bc h2 (fun h1 h2=> ?_) fun h1 h2=> ?_
  ·cases h2;exact⟨[(2,bT h1)],[],by kernel_rfl⟩
  cases h2;exact⟨[(2,bF h1)],[],by kernel_rfl⟩
 cases hF;exact wr af []
def AD(N:Nat)(v1:Int):ak5 Int64:=
 Option.bind (vF N v1) fun v2=>
 bif v2 then
  bif (decide ((0:Int)≤(IntKind.u64.wrap (aQ (v1-(1:Int))))))then
  some (-(Int64.ofInt ((1:Int)*2^(min ((IntKind.u64.wrap (aQ (v1-(1:Int))))).toNat (IntKind.bits .i64)))))
  else none
 else
  some (0:Int64)
theorem Pw(N:Nat)(v1:Int)(r:Int64)(hF:AD N v1=some r):aG Tryz.prog 233 [(aw v1)] (·=(aI r)):=by
 rw[AD]at hF;refine aR Tryz.func233 ?_;obtain⟨v2,h1,hF⟩:=ao hF;refine au af [[],[(4,cL (BV N v1 v2 h1))]] ?_;refine bc hF (fun h2 hF=> ?_) fun h2 hF=> ?_
 ·obtain⟨h3,hF⟩:=dp hF;cases hF;exact wr af [[(0,bF (bG h2))],[(10,⟨_,_, .nn (b:=(IntKind.u64.wrap (aQ (v1-(1:Int))))) (of_decide_eq_true h3)⟩),(11,⟨_,_, .eq (eP ((1:Int)*2^(min ((IntKind.u64.wrap (aQ (v1-(1:Int))))).toNat (IntKind.bits .i64))))⟩),(14,⟨_,_, .eq (jO (Int64.ofInt ((1:Int)*2^(min ((IntKind.u64.wrap (aQ (v1-(1:Int))))).toNat (IntKind.bits .i64)))))⟩)]]
 cases hF;exact wr af [[(0,bT (bS h2))],[]]
def yL(N:Nat)(v1:Int):ak5 Int64:=
 Option.bind (vF N v1) fun v2=>
 bif v2 then
  bif (decide ((0:Int)≤(IntKind.u64.wrap (aQ (v1-(1:Int))))))then
  some ((Int64.ofInt ((1:Int)*2^(min ((IntKind.u64.wrap (aQ (v1-(1:Int))))).toNat (IntKind.bits .i64))))-(1:Int64))
  else none
 else
  some (0:Int64)
theorem P8(N:Nat)(v1:Int)(r:Int64)(hF:yL N v1=some r):aG Tryz.prog 234 [(aw v1)] (·=(aI r)):=by
 rw[yL]at hF;refine aR Tryz.func234 ?_;obtain⟨v2,h1,hF⟩:=ao hF;refine au af [[],[(4,cL (BV N v1 v2 h1))]] ?_;refine bc hF (fun h2 hF=> ?_) fun h2 hF=> ?_
 ·obtain⟨h3,hF⟩:=dp hF;cases hF;exact wr af [[(0,bF (bG h2))],[(10,⟨_,_, .nn (b:=(IntKind.u64.wrap (aQ (v1-(1:Int))))) (of_decide_eq_true h3)⟩),(11,⟨_,_, .eq (eP ((1:Int)*2^(min ((IntKind.u64.wrap (aQ (v1-(1:Int))))).toNat (IntKind.bits .i64))))⟩),(14,⟨_,_, .eq (gk (Int64.ofInt ((1:Int)*2^(min ((IntKind.u64.wrap (aQ (v1-(1:Int))))).toNat (IntKind.bits .i64)))) (1:Int64))⟩)]]
 cases hF;exact wr af [[(0,bT (bS h2))],[]]
def pa(N:Nat)(v1:aC)(v2:ay):ak5 Bool:=
 Option.bind (qU N v1) fun v3=>
 Option.bind (bif (v3==(0:Int))then(bif (v2.xD.toInt==(1:Int))then Option.bind (AD N v1.bz) fun v4=>
 (bif (decide (v2.xN.toInt≥v4.toInt))then Option.bind (yL N v1.bz) fun v5=>
 some (decide (v2.xN.toInt≤v5.toInt))else some false)else some false)else some false) fun v6=>
 some v6
theorem MA(N:Nat)(v1:aC)(v2:ay)(r:Bool)(hF:pa N v1 v2=some r):aG Tryz.prog 173 [(bY v1),(bj v2)] (·=(aB r)):=by
 rw[pa]at hF;refine aR Tryz.func173 ?_;refine au af [[]] ?_;obtain⟨v3,h1,hF⟩:=ao hF;obtain⟨v6,h7,hF⟩:=ao hF;refine bf af [(4,(aB v6))] [.cells (bY v1).cells, .cells (bj v2).cells] ?_ ?_
 ·refine bc h7 (fun h2 h7=> ?_) fun h2 h7=> ?_
  ·refine bc h7 (fun h3 h7=> ?_) fun h3 h7=> ?_
   ·obtain⟨v4,h4,h7⟩:=ao h7;refine bc h7 (fun h5 h7=> ?_) fun h5 h7=> ?_
    ·obtain⟨v5,h6,h7⟩:=ao h7;cases h7;exact⟨[(3,bT h2),(8,bT h3),(16,bT h5)],[(4,cL (vN N v1 v3 h1)),(40,cL (Pw N v1.bz v4 h4)),(64,cL (P8 N v1.bz v5 h6))],by kernel_rfl⟩
    cases h7;exact⟨[(3,bT h2),(8,bT h3),(16,bF h5)],[(4,cL (vN N v1 v3 h1)),(40,cL (Pw N v1.bz v4 h4))],by kernel_rfl⟩
   cases h7;exact⟨[(3,bT h2),(8,bF h3),(16,bF rfl)],[(4,cL (vN N v1 v3 h1))],by kernel_rfl⟩
  cases h7;exact⟨[(3,bF h2),(8,bF rfl),(16,bF rfl)],[(4,cL (vN N v1 v3 h1))],by kernel_rfl⟩
 cases hF;exact wr af []
def mY(N:Nat)(v1:Int64):ak5 Bool:=
 Option.bind (bif (decide (v1.toInt≥(-2147483647:Int)))then some (decide (v1.toInt≤(2147483647:Int)))else some false) fun v2=>
 some v2
theorem yw(N:Nat)(v1:Int64)(r:Bool)(hF:mY N v1=some r):aG Tryz.prog 174 [(aI v1)] (·=(aB r)):=by
 rw[mY]at hF;refine aR Tryz.func174 ?_;refine au af [[]] ?_;obtain⟨v2,h2,hF⟩:=ao hF;refine bf af [(2,(aB v2))] [] ?_ ?_
 ·refine bc h2 (fun h1 h2=> ?_) fun h1 h2=> ?_
  ·cases h2;exact⟨[(2,bT h1)],[],by kernel_rfl⟩
  cases h2;exact⟨[(2,bF h1)],[],by kernel_rfl⟩
 cases hF;exact wr af []
def IF(N:Nat)(v1:Int64):ak5 Bool:=
 Option.bind (bif (decide (v1.toInt≥(-2147483647:Int)))then some (decide (v1.toInt≤(2147483647:Int)))else some false) fun v2=>
 some v2
theorem Xz(N:Nat)(v1:Int64)(r:Bool)(hF:IF N v1=some r):aG Tryz.prog 235 [(aI v1)] (·=(aB r)):=by
 rw[IF]at hF;refine aR Tryz.func235 ?_;refine au af [[]] ?_;obtain⟨v2,h2,hF⟩:=ao hF;refine bf af [(2,(aB v2))] [] ?_ ?_
 ·refine bc h2 (fun h1 h2=> ?_) fun h1 h2=> ?_
  ·cases h2;exact⟨[(2,bT h1)],[],by kernel_rfl⟩
  cases h2;exact⟨[(2,bF h1)],[],by kernel_rfl⟩
 cases hF;exact wr af []
def uR(N:Nat)(v1:Int64):ak5 Int:=
 bif (decide (v1.toInt<(0:Int)))then
  some (IntKind.u64.wrap (0-(IntKind.u64.wrap v1.toInt)))
 else
  some (IntKind.u64.wrap v1.toInt)
theorem Mu(N:Nat)(v1:Int64)(r:Int)(hF:uR N v1=some r):aG Tryz.prog 237 [(aI v1)] (·=(.d (.v (.int .u64 r)))):=by
 rw[uR]at hF;refine aR Tryz.func237 ?_;refine au af [[],[]] ?_;refine bc hF (fun h1 hF=> ?_) fun h1 hF=> ?_
 ·cases hF;exact wr af [[(0,bT h1)],[]]
 cases hF;exact wr af [[(0,bF h1)],[]]
def xZ(N:Nat):Nat→Int→Int→ak5 Int
 |0,_,_=>none
 |v3+1,v4,v5=>
  bif (v5 !=(0:Int))then
   (fun cX fX=>xZ N v3 cX fX) v5 ((v4).tmod v5)
  else
   some v4
def xh(N:Nat)(v1:Int)(v2:Int):ak5 Int:=
 xZ N N v1 v2
theorem VS(N:Nat)(v1:Int)(v2:Int)(r:Int)(hF:xh N v1 v2=some r):aG Tryz.prog 236 [(.d (.v (.int .u64 v1))),(.d (.v (.int .u64 v2)))] (·=(.d (.v (.int .u64 r)))):=by
 rw[xh]at hF;refine aR Tryz.func236 ?_;refine OP af 1 [[]] [0,1] 0 (fun(v4:Int)(v5:Int)=>⟨12,[(0,(.d (.v (.int .u64 v4)))),(1,(.d (.v (.int .u64 v5))))],[]⟩) (xZ N) N v1 v2 hF ?_;intro v3 v4 v5 hF f1 aO;rw[xZ]at hF;refine au af [[]] ?_;refine bc hF (fun h1 hF=> ?_) fun h1 hF=> ?_
 ·exact AE af aO (v5,((v4).tmod v5)) [[(0,bT h1)],[(10,⟨_,_, .nz (b:=v5) (bne_iff_ne.1 h1)⟩)]] hF
 cases hF;exact wr af [[(0,bF h1)],[]]
def im(N:Nat)(v1:ay):ak5 Bool:=
 Option.bind (bif (decide (v1.xD.toInt≥(1:Int)))then(bif (decide (v1.xD.toInt≤(2147483647:Int)))then Option.bind (IF N v1.xN) fun v2=>
 (bif v2 then Option.bind (uR N v1.xN) fun v3=>
 Option.bind (xh N v3 (IntKind.u64.wrap v1.xD.toInt)) fun v4=>
 some (v4==(1:Int))else some false)else some false)else some false) fun v5=>
 some v5
theorem gF(N:Nat)(v1:ay)(r:Bool)(hF:im N v1=some r):aG Tryz.prog 175 [(bj v1)] (·=(aB r)):=by
 rw[im]at hF;refine aR Tryz.func175 ?_;refine au af [[]] ?_;obtain⟨v5,h7,hF⟩:=ao hF;refine bf af [(2,(aB v5))] [.cells (bj v1).cells] ?_ ?_
 ·refine bc h7 (fun h1 h7=> ?_) fun h1 h7=> ?_
  ·refine bc h7 (fun h2 h7=> ?_) fun h2 h7=> ?_
   ·obtain⟨v2,h3,h7⟩:=ao h7;refine bc h7 (fun h4 h7=> ?_) fun h4 h7=> ?_
    ·obtain⟨v3,h5,h7⟩:=ao h7;obtain⟨v4,h6,h7⟩:=ao h7;cases h7;exact⟨[(3,bT h1),(8,bT h2),(13,bT h4)],[(34,cL (Xz N v1.xN v2 h3)),(49,cL (Mu N v1.xN v3 h5)),(61,cL (VS N v3 (IntKind.u64.wrap v1.xD.toInt) v4 h6))],by kernel_rfl⟩
    cases h7;exact⟨[(3,bT h1),(8,bT h2),(13,bF h4)],[(34,cL (Xz N v1.xN v2 h3))],by kernel_rfl⟩
   cases h7;exact⟨[(3,bT h1),(8,bF h2),(13,bF rfl)],[],by kernel_rfl⟩
  cases h7;exact⟨[(3,bF h1),(8,bF rfl),(13,bF rfl)],[],by kernel_rfl⟩
 cases hF;exact wr af []
def mK(N:Nat)(v1:aC)(v2:ay):ak5 Bool:=
 Option.bind (l7 N v1) fun v3=>
 bif (v3 !=(0:Int))then
  some false
 else
  bif (v1.a8==(2:Int))then
   Option.bind (pa N v1 v2) fun v4=>
   some v4
  else
   bif (v1.a8==(3:Int))then
    Option.bind (bif (v2.xD.toInt==(1:Int))then Option.bind (mY N v2.xN) fun v5=>
    some v5 else some false) fun v6=>
    some v6
   else
    Option.bind (im N v2) fun v7=>
    some v7
theorem qe(N:Nat)(v1:aC)(v2:ay)(r:Bool)(hF:mK N v1 v2=some r):aG Tryz.prog 98 [(bY v1),(bj v2)] (·=(aB r)):=by
 rw[mK]at hF;refine aR Tryz.func98 ?_;obtain⟨v3,h1,hF⟩:=ao hF;refine au af [[],[(4,cL (nx N v1 v3 h1))]] ?_;refine bc hF (fun h2 hF=> ?_) fun h2 hF=> ?_
 ·cases hF;exact wr af [[(0,bT h2)],[]]
 refine au af [[(0,bF h2)],[],[]] ?_;refine bc hF (fun h3 hF=> ?_) fun h3 hF=> ?_
 ·obtain⟨v4,h4,hF⟩:=ao hF;obtain rfl:=sj hF;exact wr af [[(0,bT h3)],[(7,cL (MA N v1 v2 v4 h4))]]
 refine au af [[(0,bF h3)],[]] ?_;refine bc hF (fun h5 hF=> ?_) fun h5 hF=> ?_
 ·refine au af [[(0,bT h5)]] ?_;obtain⟨v6,h8,hF⟩:=ao hF;refine bf af [(4,(aB v6))] [.cells (bY v1).cells, .cells (bj v2).cells] ?_ ?_
  ·refine bc h8 (fun h6 h8=> ?_) fun h6 h8=> ?_
   ·obtain⟨v5,h7,h8⟩:=ao h8;obtain rfl:=sj h8;exact⟨[(3,bT h6)],[(19,cL (yw N v2.xN v5 h7))],by kernel_rfl⟩
   cases h8;exact⟨[(3,bF h6)],[],by kernel_rfl⟩
  cases hF;exact wr af []
 obtain⟨v7,h9,hF⟩:=ao hF;obtain rfl:=sj hF;exact wr af [[(0,bF h5)],[(4,cL (gF N v2 v7 h9))]]
def L5(N:Nat)(v1:an):ak5 an:=some v1
theorem Yy(N:Nat)(v1 r:an)(hF:L5 N v1=some r):aG Tryz.prog 99 [(aA v1)] (·=(.fn 176 [(.bE [cJ r] 0 0)])):=by
 cases hF;exact aev v1
def fR(N:Nat)(v2:Bool):ak5 Bool:=
 bif v2 then
  some true
 else
  some false
def Cg(N:Nat)(v1:ak4):ak5 Bool:=
 bif (bL v1==bL (bs [115,105,122,101]))then
  fR N (bL v1==bL (bs [115,105,122,101]))
 else
  bif (bL v1==bL (bs [119,104,101,114,101]))then
   fR N (bL v1==bL (bs [119,104,101,114,101]))
  else
   bif (bL v1==bL (bs [105,110]))then
    fR N (bL v1==bL (bs [105,110]))
   else
    bif (bL v1==bL (bs [100,101,102]))then
     fR N (bL v1==bL (bs [100,101,102]))
    else
     bif (bL v1==bL (bs [111,117,116]))then
      fR N (bL v1==bL (bs [111,117,116]))
     else
      bif (bL v1==bL (bs [115,117,109]))then
       fR N (bL v1==bL (bs [115,117,109]))
      else
       bif (bL v1==bL (bs [112,114,111,100]))then
        fR N (bL v1==bL (bs [112,114,111,100]))
       else
        bif (bL v1==bL (bs [109,105,110]))then
         fR N (bL v1==bL (bs [109,105,110]))
        else
         bif (bL v1==bL (bs [109,97,120]))then
          fR N (bL v1==bL (bs [109,97,120]))
         else
          bif (bL v1==bL (bs [115,99,97,110]))then
           fR N (bL v1==bL (bs [115,99,97,110]))
          else
           bif (bL v1==bL (bs [111,118,101,114]))then
            fR N (bL v1==bL (bs [111,118,101,114]))
           else
            bif (bL v1==bL (bs [105,102]))then
             fR N (bL v1==bL (bs [105,102]))
            else
             bif (bL v1==bL (bs [99,97,115,116]))then
              fR N (bL v1==bL (bs [99,97,115,116]))
             else
              bif (bL v1==bL (bs [102,114,97,99]))then
               fR N (bL v1==bL (bs [102,114,97,99]))
              else
               bif (bL v1==bL (bs [105,110,116]))then
                fR N (bL v1==bL (bs [105,110,116]))
               else
                bif (bL v1==bL (bs [102,105,120]))then
                 fR N (bL v1==bL (bs [102,105,120]))
                else
                 bif (bL v1==bL (bs [99,101,105,108]))then
                  fR N (bL v1==bL (bs [99,101,105,108]))
                 else
                  bif (bL v1==bL (bs [102,108,111,111,114]))then
                   fR N (bL v1==bL (bs [102,108,111,111,114]))
                  else
                   bif (bL v1==bL (bs [122,101,114,111]))then
                    fR N (bL v1==bL (bs [122,101,114,111]))
                   else
                    bif (bL v1==bL (bs [101,118,101,110]))then
                     fR N (bL v1==bL (bs [101,118,101,110]))
                    else
                     bif (bL v1==bL (bs [115,97,116]))then
                      fR N (bL v1==bL (bs [115,97,116]))
                     else
                      fR N (bL v1==bL (bs [119,114,97,112]))
theorem KE(N:Nat)(v1:ak4)(r:Bool)(hF:Cg N v1=some r):aG Tryz.prog 238 [(aS v1)] (·=(aB r)):=by
 rw[Cg]at hF;refine aR Tryz.func238 ?_;refine gY af r 1 [[],[],[]] [4] 0 (fun(v2:Bool)=>⟨27,[(4,(aB v2))],[]⟩) (fR N) ?_ ?_
 ·intro f1 aO;refine bc hF (fun h2 hF=> ?_) fun h2 hF=> ?_
  ·exact bP af aO (bL v1==bL (bs [115,105,122,101])) [[(0,bT h2)]] hF
  refine au af [[(0,bF h2)],[]] ?_;refine bc hF (fun h3 hF=> ?_) fun h3 hF=> ?_
  ·exact bP af aO (bL v1==bL (bs [119,104,101,114,101])) [[(0,bT h3)]] hF
  refine au af [[(0,bF h3)],[]] ?_;refine bc hF (fun h4 hF=> ?_) fun h4 hF=> ?_
  ·exact bP af aO (bL v1==bL (bs [105,110])) [[(0,bT h4)]] hF
  refine au af [[(0,bF h4)],[]] ?_;refine bc hF (fun h5 hF=> ?_) fun h5 hF=> ?_
  ·exact bP af aO (bL v1==bL (bs [100,101,102])) [[(0,bT h5)]] hF
  refine au af [[(0,bF h5)],[]] ?_;refine bc hF (fun h6 hF=> ?_) fun h6 hF=> ?_
  ·exact bP af aO (bL v1==bL (bs [111,117,116])) [[(0,bT h6)]] hF
  refine au af [[(0,bF h6)],[]] ?_;refine bc hF (fun h7 hF=> ?_) fun h7 hF=> ?_
  ·exact bP af aO (bL v1==bL (bs [115,117,109])) [[(0,bT h7)]] hF
  refine au af [[(0,bF h7)],[]] ?_;refine bc hF (fun h8 hF=> ?_) fun h8 hF=> ?_
  ·exact bP af aO (bL v1==bL (bs [112,114,111,100])) [[(0,bT h8)]] hF
  refine au af [[(0,bF h8)],[]] ?_;refine bc hF (fun h9 hF=> ?_) fun h9 hF=> ?_
  ·exact bP af aO (bL v1==bL (bs [109,105,110])) [[(0,bT h9)]] hF
  refine au af [[(0,bF h9)],[]] ?_;refine bc hF (fun az hF=> ?_) fun az hF=> ?_
  ·exact bP af aO (bL v1==bL (bs [109,97,120])) [[(0,bT az)]] hF
  refine au af [[(0,bF az)],[]] ?_;refine bc hF (fun aE hF=> ?_) fun aE hF=> ?_
  ·exact bP af aO (bL v1==bL (bs [115,99,97,110])) [[(0,bT aE)]] hF
  refine au af [[(0,bF aE)],[]] ?_;refine bc hF (fun aK hF=> ?_) fun aK hF=> ?_
  ·exact bP af aO (bL v1==bL (bs [111,118,101,114])) [[(0,bT aK)]] hF
  refine au af [[(0,bF aK)],[]] ?_;refine bc hF (fun aY hF=> ?_) fun aY hF=> ?_
  ·exact bP af aO (bL v1==bL (bs [105,102])) [[(0,bT aY)]] hF
  refine au af [[(0,bF aY)],[]] ?_;refine bc hF (fun aJ hF=> ?_) fun aJ hF=> ?_
  ·exact bP af aO (bL v1==bL (bs [99,97,115,116])) [[(0,bT aJ)]] hF
  refine au af [[(0,bF aJ)],[]] ?_;refine bc hF (fun bp hF=> ?_) fun bp hF=> ?_
  ·exact bP af aO (bL v1==bL (bs [102,114,97,99])) [[(0,bT bp)]] hF
  refine au af [[(0,bF bp)],[]] ?_;refine bc hF (fun aL hF=> ?_) fun aL hF=> ?_
  ·exact bP af aO (bL v1==bL (bs [105,110,116])) [[(0,bT aL)]] hF
  refine au af [[(0,bF aL)],[]] ?_;refine bc hF (fun bn hF=> ?_) fun bn hF=> ?_
  ·exact bP af aO (bL v1==bL (bs [102,105,120])) [[(0,bT bn)]] hF
  refine au af [[(0,bF bn)],[]] ?_;refine bc hF (fun aZ hF=> ?_) fun aZ hF=> ?_
  ·exact bP af aO (bL v1==bL (bs [99,101,105,108])) [[(0,bT aZ)]] hF
  refine au af [[(0,bF aZ)],[]] ?_;refine bc hF (fun bU hF=> ?_) fun bU hF=> ?_
  ·exact bP af aO (bL v1==bL (bs [102,108,111,111,114])) [[(0,bT bU)]] hF
  refine au af [[(0,bF bU)],[]] ?_;refine bc hF (fun bC hF=> ?_) fun bC hF=> ?_
  ·exact bP af aO (bL v1==bL (bs [122,101,114,111])) [[(0,bT bC)]] hF
  refine au af [[(0,bF bC)],[]] ?_;refine bc hF (fun cl hF=> ?_) fun cl hF=> ?_
  ·exact bP af aO (bL v1==bL (bs [101,118,101,110])) [[(0,bT cl)]] hF
  refine au af [[(0,bF cl)],[]] ?_;refine bc hF (fun bw hF=> ?_) fun bw hF=> ?_
  ·exact bP af aO (bL v1==bL (bs [115,97,116])) [[(0,bT bw)]] hF
  exact bP af aO (bL v1==bL (bs [119,114,97,112])) [[(0,bF bw)],[]] hF
 intro v2 hF;rw[fR]at hF;refine bc hF (fun h1 hF=> ?_) fun h1 hF=> ?_
 ·cases hF;exact wr af [[(0,bT h1)],[]]
 cases hF;exact wr af [[(0,bF h1)],[]]
def wB(N:Nat)(v1:ak4):Nat→Int→ak5 Bool
 |0,_=>none
 |v5+1,v6=>
  bif (decide (v6<(v1.size:Int)))then
   bif (decide ((0:Int)≤v6))then
   Option.bind (v1[(v6).toNat]?) fun v7=>
   Option.bind (bif (decide ((v7.toNat:Int)<(97:Int)))then(bif (decide ((v7.toNat:Int)<(48:Int)))then some ((v7.toNat:Int) !=(95:Int))else(bif (decide ((v7.toNat:Int)>(57:Int)))then some ((v7.toNat:Int) !=(95:Int))else some false))else(bif (decide ((v7.toNat:Int)>(122:Int)))then(bif (decide ((v7.toNat:Int)<(48:Int)))then some ((v7.toNat:Int) !=(95:Int))else(bif (decide ((v7.toNat:Int)>(57:Int)))then some ((v7.toNat:Int) !=(95:Int))else some false))else some false)) fun v8=>
   bif v8 then
    some false
   else
    (fun cX=>wB N v1 v5 cX) (aQ (v6+(1:Int)))
   else none
  else
   some true
def Fz(N:Nat)(v1:ak4):ak5 Bool:=
 Option.bind (bif (decide ((v1.size:Int)<(1:Int)))then some true else(bif (decide ((v1.size:Int)>(16:Int)))then some true else Option.bind (Cg N v1) fun v2=>
 (bif v2 then some true else Option.bind (v1[0]?) fun v3=>
 (bif (decide ((v3.toNat:Int)<(97:Int)))then some true else some (decide ((v3.toNat:Int)>(122:Int))))))) fun v4=>
 bif v4 then
  some false
 else
  wB N v1 N (0:Int)
theorem HF(N:Nat)(v1:ak4)(r:Bool)(hF:Fz N v1=some r):aG Tryz.prog 177 [(aS v1)] (·=(aB r)):=by
 rw[Fz]at hF;refine aR Tryz.func177 ?_;refine au af [[]] ?_;obtain⟨v4,h7,hF⟩:=ao hF;refine bf af [(26,(aB v4))] [] ?_ ?_
 ·refine bc h7 (fun h1 h7=> ?_) fun h1 h7=> ?_
  ·cases h7;exact⟨[(3,bT h1),(8,bT rfl),(12,bT rfl),(17,bT rfl)],[],by kernel_rfl⟩
  refine bc h7 (fun h2 h7=> ?_) fun h2 h7=> ?_
  ·cases h7;exact⟨[(3,bF h1),(8,bT h2),(12,bT rfl),(17,bT rfl)],[],by kernel_rfl⟩
  obtain⟨v2,h3,h7⟩:=ao h7;refine bc h7 (fun h4 h7=> ?_) fun h4 h7=> ?_
  ·cases h7;exact⟨[(3,bF h1),(8,bF h2),(12,bT h4),(17,bT rfl)],[(31,cL (KE N v1 v2 h3))],by kernel_rfl⟩
  obtain⟨v3,h5,h7⟩:=ao h7;refine bc h7 (fun h6 h7=> ?_) fun h6 h7=> ?_
  ·cases h7;exact⟨[(3,bF h1),(8,bF h2),(12,bF h4),(17,bT h6)],[(31,cL (KE N v1 v2 h3)),(43,⟨_,_, .ch (i:=(0:Int)) (by decide) h5⟩)],by kernel_rfl⟩
  cases h7;exact⟨[(3,bF h1),(8,bF h2),(12,bF h4),(17,bF h6)],[(31,cL (KE N v1 v2 h3)),(43,⟨_,_, .ch (i:=(0:Int)) (by decide) h5⟩),(58,⟨_,_, .ch (i:=(0:Int)) (by decide) h5⟩)],by kernel_rfl⟩
 refine bc hF (fun h8 hF=> ?_) fun h8 hF=> ?_
 ·cases hF;exact wr af [[(0,bT h8)],[]]
 refine KF af 1 [[(0,bF h8)],[]] [0,28,29] 0 (fun(v6:Int)=>⟨54,[(0,(aS v1)),(28,(aw (v1.size:Int))),(29,(aw v6))],[]⟩) (wB N v1) N (0:Int) hF ?_;intro v5 v6 hF f1 aO;rw[wB]at hF;refine au af [[]] ?_;refine bc hF (fun h9 hF=> ?_) fun h9 hF=> ?_
 ·obtain⟨aE,hF⟩:=dp hF;obtain⟨v7,az,hF⟩:=ao hF;refine au af [[(0,bT h9)],[],[(7,⟨_,_, .ch (i:=v6) (of_decide_eq_true aE) az⟩)]] ?_;obtain⟨v8,aZ,hF⟩:=ao hF;refine bf af [(52,(aB v8))] [] ?_ ?_
  ·refine bc aZ (fun aK aZ=> ?_) fun aK aZ=> ?_
   ·refine bc aZ (fun aY aZ=> ?_) fun aY aZ=> ?_
    ·cases aZ;exact⟨[(2,bT aK),(6,bT rfl),(9,bT aY),(14,bT rfl)],[(37,bT aY)],by kernel_rfl⟩
    refine bc aZ (fun aJ aZ=> ?_) fun aJ aZ=> ?_
    ·cases aZ;exact⟨[(2,bT aK),(6,bT rfl),(9,bF aY),(14,bT aJ)],[(37,bF aY)],by kernel_rfl⟩
    cases aZ;exact⟨[(2,bT aK),(6,bT rfl),(9,bF aY),(14,bF aJ)],[(37,bF aY)],by kernel_rfl⟩
   refine bc aZ (fun bp aZ=> ?_) fun bp aZ=> ?_
   ·refine bc aZ (fun aL aZ=> ?_) fun aL aZ=> ?_
    ·cases aZ;exact⟨[(2,bF aK),(6,bT bp),(9,bT aL),(14,bT rfl)],[(37,bT aL)],by kernel_rfl⟩
    refine bc aZ (fun bn aZ=> ?_) fun bn aZ=> ?_
    ·cases aZ;exact⟨[(2,bF aK),(6,bT bp),(9,bF aL),(14,bT bn)],[(37,bF aL)],by kernel_rfl⟩
    cases aZ;exact⟨[(2,bF aK),(6,bT bp),(9,bF aL),(14,bF bn)],[(37,bF aL)],by kernel_rfl⟩
   cases aZ;exact⟨[(2,bF aK),(6,bF bp),(9,uN),(14,bF rfl)],[],by kernel_rfl⟩
  refine bc hF (fun bU hF=> ?_) fun bU hF=> ?_
  ·cases hF;exact wr af [[(0,bT bU)],[]]
  exact AE af aO (aQ (v6+(1:Int))) [[(0,bF bU)],[]] hF
 cases hF;exact wr af [[(0,bF h9)],[]]
def vl(N:Nat)(v1:aF):ak3 aU→Nat→ak5 Int
 |[],_=>
  some (0:Int)
 |v4::v5,v2=>
  Option.bind (Fz N v4.aV) fun v6=>
  Option.bind (bif v6 then(bif (v4.cN.toInt==(0:Int))then some true else(bif (decide ((v2:Int)>(0:Int)))then bif (decide ((0:Int)≤(aQ ((v2:Int)-(1:Int)))))then
  Option.bind (v1.xL[((aQ ((v2:Int)-(1:Int)))).toNat]?) fun v7=>
  some (!(Op.bytesLess (bL v7.aV) (bL v4.aV)))
  else none else some false))else some true) fun v8=>
  bif v8 then
   some (1:Int)
  else
   (vl N v1 v5 (v2+1))
def vf(N:Nat)(v1:aF):ak5 Int:=
 vl N v1 v1.xL 0
theorem Cq(N:Nat)(v1:aF)(r:Int)(hF:vf N v1=some r):aG Tryz.prog 100 [(b9 v1)] (·=(aw r)):=by
 rw[vf]at hF;refine aR Tryz.func100 ?_;refine au af [[],[(7,oL v1.xL dg)]] ?_;refine fP n7 6 v1.xL fun h2=> ?_;refine fJ af 1 [] [1,6,7,8] 1 v1.xL (fun v2=>⟨39,[(1,(.ptr 0 0)),(6,(.d (.sl (b5 v1.xL)))),(7,(aw (v1.xL.length:Int))),(8,(aw (v2:Int)))],[.cells (b9 v1).cells]⟩) (vl N v1) hF ?_ ?_
 ·intro v2 h3 hF f1;rw[vl]at hF;cases hF;exact wr af [[],[(0,bF (cM h3))],[]]
 intro v2 v4 v5 h3 hF f1 aO;rw[vl]at hF;refine au af [[],[(0,bT (cF h3))],[(4,oE (eQ (cd h3)))]] ?_;obtain⟨v6,h4,hF⟩:=ao hF;obtain⟨v8,az,hF⟩:=ao hF;refine bf af [(37,(aB v8))] [.cells (b9 v1).cells, .cells (Hp v4).cells] ?_ ?_
 ·refine bc az (fun h5 az=> ?_) fun h5 az=> ?_
  ·refine bc az (fun h6 az=> ?_) fun h6 az=> ?_
   ·cases az;exact⟨[(4,bF (bG h5)),(9,bT h6),(12,uN)],[(7,cL (HF N v4.aV v6 h4))],by kernel_rfl⟩
   refine bc az (fun h7 az=> ?_) fun h7 az=> ?_
   ·obtain⟨h9,az⟩:=dp az;obtain⟨v7,h8,az⟩:=ao az;cases az;exact⟨[(4,bF (bG h5)),(9,bF h6),(12,bT h7)],[(7,cL (HF N v4.aV v6 h4)),(52,⟨_,_, .el (xs:=b5 v1.xL) (i:=(aQ ((v2:Int)-(1:Int)))) (of_decide_eq_true h9) (eQ h8)⟩),(70,bT h7)],by kernel_rfl⟩
   cases az;exact⟨[(4,bF (bG h5)),(9,bF h6),(12,bF h7)],[(7,cL (HF N v4.aV v6 h4)),(70,bF h7)],by kernel_rfl⟩
  cases az;exact⟨[(4,bT (bS h5)),(9,bT rfl),(12,uN)],[(7,cL (HF N v4.aV v6 h4))],by kernel_rfl⟩
 refine bc hF (fun aE hF=> ?_) fun aE hF=> ?_
 ·cases hF;exact wr af [[(0,bT aE)],[]]
 exact wb af aO () [[(0,bF aE)],[(2,oq (dj h3 rfl h2))]] h3 hF
def tX(N:Nat):ak3 aF→ak5 Int
 |[]=>
  some (0:Int)
 |v9::v10=>
  Option.bind (vf N v9) fun v11=>
  bif (v11 !=(0:Int))then
   some (1:Int)
  else
   (tX N v10)
def C7(N:Nat)(v1:an):ak5 Int:=
 Option.bind (FH N v1) fun v2=>
 bif v2 then
  Option.bind (DJ N v1) fun v3=>
  bif v3 then
   Option.bind (Cx N v1) fun v4=>
   bif v4 then
    Option.bind (Cs N v1) fun v5=>
    bif v5 then
     Option.bind (bif (v1.ar==(1:Int))then Option.bind (mK N v1.aD v1.ba) fun v6=>
     some (!v6)else some false) fun v7=>
     bif v7 then
      some (1:Int)
     else
      Option.bind (L5 N v1) fun v8=>
      tX N (mT v8)
    else
     some (10:Int)
   else
    some (11:Int)
  else
   some (7:Int)
 else
  some (5:Int)
def ku(v1:an)(l:ak3 aq):ak3 aq:= .cells (aA v1).cells:: .cells [(aw (0:Int))]::l
def wX(v1:an)(l:ak3 aq):ak3 aq:= .cells (aA v1).cells::l
theorem ai2(N:Nat)(v1:an)(r:Int)(hF:C7 N v1=some r):aG Tryz.prog 52 [(aA v1)] (·=(aw r)):=by
 rw[C7]at hF;refine AG Tryz.func52 rfl (by kernel_rfl) ?_;refine jf [0] 0 (akq _) (s':=⟨38,[(0,(aA v1))],[]⟩) (by kernel_rfl) ?_;refine bH ?_;refine rg [] [(1,(.ptr 0 0)),(2,(.ptr 1 0))] (ku v1 []) (by kernel_rfl) ?_;refine bH ?_;refine gO ?_;refine bH ?_;obtain⟨v2,h1,hF⟩:=ao hF;refine rg [(4,cL (af4 N v1 v2 h1))] [(4,(aB (!v2)))] (ku v1 []) (by kernel_rfl) ?_;rcases jS v2 with h2|h2
 ·replace hF:=(eI h2).symm.trans hF;refine jZ (t:=(!v2)) (by kernel_rfl) (bG h2) ?_;refine bH ?_;obtain⟨v3,h3,hF⟩:=ao hF;refine rg [(4,cL (aaV N v1 v3 h3))] [(8,(aB (!v3)))] (ku v1 []) (by kernel_rfl) ?_;rcases jS v3 with h4|h4
  ·replace hF:=(eI h4).symm.trans hF;refine jZ (t:=(!v3)) (by kernel_rfl) (bG h4) ?_;refine bH ?_;obtain⟨v4,h5,hF⟩:=ao hF;refine rg [(4,cL (Yx N v1 v4 h5))] [(12,(aB (!v4)))] (ku v1 []) (by kernel_rfl) ?_;rcases jS v4 with h6|h6
   ·replace hF:=(eI h6).symm.trans hF;refine jZ (t:=(!v4)) (by kernel_rfl) (bG h6) ?_;refine bH ?_;obtain⟨v5,h7,hF⟩:=ao hF;refine rg [(4,cL (aeB N v1 v5 h7))] [(16,(aB (!v5)))] (ku v1 []) (by kernel_rfl) ?_;rcases jS v5 with h8|h8
    ·replace hF:=(eI h8).symm.trans hF;refine jZ (t:=(!v5)) (by kernel_rfl) (bG h8) ?_;refine bH ?_;obtain⟨v7,aE,hF⟩:=ao hF;refine rgE [(20,(aB v7))] (ku v1 []) ?_ ?_
     ·rcases jS (v1.ar==(1:Int))with h9|h9
      ·replace aE:=(eI h9).symm.trans aE;obtain⟨v6,az,aE⟩:=ao aE;have he:=aky aE;subst he;exact⟨[(12,bT h9),(15,bT h9),(18,bT h9),(21,bT h9),(24,bT h9),(25,cL (qe N v1.aD v1.ba v6 az)),(27,bT h9),(31,bT h9)],by kernel_rfl⟩
      replace aE:=(kd h9).symm.trans aE;have he:=aky aE;subst he;exact⟨[(12,bF h9),(15,bF h9),(18,bF h9),(21,bF h9),(24,bF h9),(27,bF h9),(31,bF h9)],by kernel_rfl⟩
     rcases jS v7 with aK|aK
     ·replace hF:=(eI aK).symm.trans hF;refine kp (t:=v7) (by kernel_rfl) aK ?_;refine bH ?_;refine rg [] [] (wX v1 [.cells [(aw (1:Int))]]) (by kernel_rfl) ?_;refine dU (gv (fu ?_));have hr:=aky hF;subst hr;exact jV (by kernel_rfl)
     replace hF:=(kd aK).symm.trans hF;refine jZ (t:=v7) (by kernel_rfl) aK ?_;refine fM ?_;refine ln ?_;refine cA ?_;refine bH ?_;refine bH ?_;obtain⟨v8,aY,hF⟩:=ao hF;refine rg [(4,cL (Yy N v1 v8 aY))] [(33,(.fn 176 [(.bE [cJ v8] 0 0)]))] (ku v1 []) (by kernel_rfl) ?_;refine gO ?_;refine jf [2,33] 2 (akn rfl) (s':=⟨38,[(2,(.ptr 1 0)),(33,(.fn 176 [(.bE [cJ v8] 0 0)]))],(ku v1 [])⟩) (by kernel_rfl) ?_;refine OI (m:=2) (enc:=b9) (xs:=(mT v8)) (by kernel_rfl) (aih v8) (fun(_:Unit)=>(ku v1 [])) (fun(_:Unit) l=>tX N l=some r) () (by kernel_rfl) hF (by rintro _;rfl) (by rintro _;kernel_rfl) (by kernel_rfl) rfl ?_ ?_
     ·rintro _ v9 v10 hF aJ iO iN
      try dsimp only at hF
      rw[tX]at hF;refine jf [2,34] 3 (akq _) (s':=⟨38,[(2,(.ptr 1 0)),(34,(b9 v9))],(ku v1 [.lp .ready 34 iO iN (dz 38 [(2,(.ptr 1 0)),(33,(.fn 176 [(.bE [cJ v8] 0 0)]))])])⟩) (by kernel_rfl) ?_;refine re [] [(3,(.ptr 3 0))] (ku v1 [.lp .ready 34 iO iN (dz 38 [(2,(.ptr 1 0)),(33,(.fn 176 [(.bE [cJ v8] 0 0)]))]), .cells (b9 v9).cells]) (by kernel_rfl) ?_;refine cA ?_;refine⟨(ku v1 []),[.cells (b9 v9).cells],rfl,(by kernel_rfl),?_⟩;refine jf [2,3] 4 (akn rfl) (s':=⟨38,[(2,(.ptr 1 0)),(3,(.ptr 3 0))],(ku v1 [.lp .busy 34 iO iN (dz 38 [(2,(.ptr 1 0)),(33,(.fn 176 [(.bE [cJ v8] 0 0)]))]), .cells (b9 v9).cells])⟩) (by kernel_rfl) ?_;refine gO ?_;refine bH ?_;obtain⟨v11,bp,hF⟩:=ao hF;refine rg [(4,cL (Cq N v9 v11 bp))] [(37,(aB (v11 !=(0:Int))))] (ku v1 [.lp .busy 34 iO iN (dz 38 [(2,(.ptr 1 0)),(33,(.fn 176 [(.bE [cJ v8] 0 0)]))]), .cells (b9 v9).cells]) (by kernel_rfl) ?_;rcases jS (v11 !=(0:Int))with aL|aL
      ·replace hF:=(eI aL).symm.trans hF;refine kp (t:=(v11 !=(0:Int))) (by kernel_rfl) aL ?_;refine bH ?_;refine rg [] [] (wX v1 [.cells [(aw (1:Int))], .lp .busy 34 iO iN (dz 38 [(2,(.ptr 1 0)),(33,(.fn 176 [(.bE [cJ v8] 0 0)]))]), .cells (b9 v9).cells]) (by kernel_rfl) ?_;refine dU (gv ?_);refine UZ (wX v1 [.cells [(aw (1:Int))]]) rfl (by kernel_rfl) (by kernel_rfl) ?_;refine(gv (fu ?_));have hr:=aky hF;subst hr;exact jV (by kernel_rfl)
      replace hF:=(kd aL).symm.trans hF;refine jZ (t:=(v11 !=(0:Int))) (by kernel_rfl) aL ?_;refine fM ?_;refine ln ?_;refine MI (ku v1 []) rfl (by kernel_rfl) (by kernel_rfl) ?_;exact⟨(),(by kernel_rfl),hF⟩
     rintro _ hF
     try dsimp only at hF
     rw[tX]at hF;refine ln ?_;refine cA ?_;refine bH ?_;refine rg [] [] (ku v1 [.gone]) (by kernel_rfl) ?_;refine dU ?_;have hr:=aky hF;subst hr;exact jV (by kernel_rfl)
    replace hF:=(kd h8).symm.trans hF;refine kp (t:=(!v5)) (by kernel_rfl) (bS h8) ?_;refine bH ?_;refine rg [] [] (wX v1 [.cells [(aw (10:Int))]]) (by kernel_rfl) ?_;refine dU (gv (fu ?_));have hr:=aky hF;subst hr;exact jV (by kernel_rfl)
   replace hF:=(kd h6).symm.trans hF;refine kp (t:=(!v4)) (by kernel_rfl) (bS h6) ?_;refine bH ?_;refine rg [] [] (wX v1 [.cells [(aw (11:Int))]]) (by kernel_rfl) ?_;refine dU (gv (fu ?_));have hr:=aky hF;subst hr;exact jV (by kernel_rfl)
  replace hF:=(kd h4).symm.trans hF;refine kp (t:=(!v3)) (by kernel_rfl) (bS h4) ?_;refine bH ?_;refine rg [] [] (wX v1 [.cells [(aw (7:Int))]]) (by kernel_rfl) ?_;refine dU (gv (fu ?_));have hr:=aky hF;subst hr;exact jV (by kernel_rfl)
 replace hF:=(kd h2).symm.trans hF;refine kp (t:=(!v2)) (by kernel_rfl) (bS h2) ?_;refine bH ?_;refine rg [] [] (wX v1 [.cells [(aw (5:Int))]]) (by kernel_rfl) ?_;refine dU (gv (fu ?_));have hr:=aky hF;subst hr;exact jV (by kernel_rfl)
end Go.Proofs.YtpgmcallngdceaaGreatDoor
