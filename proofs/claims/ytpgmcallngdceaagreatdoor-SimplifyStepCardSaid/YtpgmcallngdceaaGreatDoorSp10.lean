/-
  Part 10 of the proof: PQ1.
-/
import Derived.Test.YtpgmcallngdceaaGreatDoorSp9
namespace Go.Proofs.YtpgmcallngdceaaGreatDoor
open Go.RowKit
set_option maxRecDepth 100000
set_option maxHeartbeats 0
set_option linter.unusedVariables false
def zLin:aF:=⟨(0:Int64),[]⟩
def bg:ay:=⟨(0:Int64),(0:Int64)⟩
def b8:aD:=⟨(0:Int),(0:Int),(0:Int),(0:Int),(0:Int)⟩
def py(N:Nat)(v2:Int)(rF:an→Int→akd Int):akb an→Nat→Int→akd Int
 |[],_,v12=>
  some v12
 |v10::v11,v8,v12=>
  bif (decide (v12≤v2))then
   Option.bind (rF v10 (aS (v2-v12))) fun aZ=>
   (fun pW=>py N v2 rF v11 (v8+1) pW) (aS (v12+aZ))
  else
   some v12
def wi(N:Nat)(ma:Int→akd Int)(v2:Int):akb aF→Nat→Int→akd Int
 |[],_,bx=>
  ma bx
 |de::bW,bu,bx=>
  bif (decide (bx≤v2))then
   (fun CJ=>wi N ma v2 bW (bu+1) CJ) (aS (bx+(de.xL.length:Int)))
  else
   ma bx
def pP(N:Nat)(v2:Int)(rF:an→Int→akd Int):akb an→Nat→Int→akd Int
 |[],_,dt=>
  some dt
 |v21::eX,cA,dt=>
  bif (decide (dt≤v2))then
   Option.bind (rF v21 (aS (v2-dt))) fun v24=>
   (fun aeq=>pP N v2 rF eX (cA+1) aeq) (aS (dt+v24))
  else
   some dt
def n4(N:Nat)(v2:Int)(rF:an→Int→akd Int)(v1:an):akb aI→Nat→Int→akd Int
 |[],_,v7=>
  py N v2 rF v1.ax 0 v7
 |v5::v6,v3,v7=>
  bif (decide (v7≤v2))then
   wi N (fun cX=>n4 N v2 rF v1 v6 (v3+1) cX) v2 v5.bC 0 (aS ((aS (v7+(v5.aK.xL.length:Int)))+(v5.bC.length:Int)))
  else
   pP N v2 rF v1.ax 0 v7
def lZ(N:Nat):Nat→an→Int→akd Int
 |0,_,_=>none
 |d+1,v1,v2=>
  n4 N v2 (lZ N d) v1 v1.xIdx 0 (aS ((aS ((1:Int)+(v1.aK.xL.length:Int)))+(v1.xIdx.length:Int)))
def Oh(N:Nat)(v1:an)(v2:Int):akd Int:=lZ N N v1 v2
theorem Yy(N:Nat):∀d:Nat,(∀(v1:an)(v2:Int)(r:Int),lZ N d v1 v2=some r→aG Tryz.prog 7 [(aA v1),(aw v2)] (·=(aw r))):=by
 intro d
 induction d with
 |zero=>intro v1 v2 r hF;rw[lZ]at hF;cases hF
 |succ d ih=>
  have Tl:=ih;intro v1 v2 r hF;rw[lZ]at hF;refine aP Tryz.func7 ?_;refine au af [[],[(10,oL v1.aK.xL dd),(22,oL v1.xIdx dP)],[]] ?_;refine jZ ml 0 11 v1.xIdx fun h2=> ?_;refine qp af 1 [] [1,2,5,6] 1 v1.xIdx (fun v3(v7:Int)=>⟨101,[(1,(aw v2)),(2,(.ptr 0 0)),(5,(aw v7)),(6,(aw (v3:Int)))],[.cells (aA v1).cells]⟩) (n4 N v2 (lZ N d) v1) (aS ((aS ((1:Int)+(v1.aK.xL.length:Int)))+(v1.xIdx.length:Int))) hF ?_ ?_
  ·intro v3 v7 h3 hF f1;rw[n4]at hF;refine au af [[(10,oL v1.xIdx dP),(18,bF (cJ h3)),(21,bF (cJ h3)),(24,bF (cJ h3)),(28,bF (cJ h3))],[(0,bF rfl)],[]] ?_;refine jZ kX 0 12 v1.ax fun h5=> ?_;refine qp af 2 [] [1,2,5,8] 1 v1.ax (fun v8(v12:Int)=>⟨101,[(1,(aw v2)),(2,(.ptr 0 0)),(5,(aw v12)),(8,(aw (v8:Int)))],[.cells (aA v1).cells]⟩) (py N v2 (lZ N d)) v7 hF ?_ ?_
   ·intro v8 v12 h6 hF f2;rw[py]at hF;cases hF;exact wr af [[(10,oL v1.ax dD),(18,bF (cJ h6)),(21,bF (cJ h6)),(24,bF (cJ h6)),(28,bF (cJ h6))],[(0,bF rfl)],[]]
   intro v8 v10 v11 v12 h6 hF f2 eD;rw[py]at hF;refine au af [[(10,oL v1.ax dD),(18,bT (cD h6)),(21,bT (cD h6)),(24,bT (cD h6)),(28,bT (cD h6))]] ?_;refine bc hF (fun h7 hF=> ?_) fun h7 hF=> ?_
   ·obtain⟨aZ,h8,hF⟩:=ao hF;exact wb af eD (aS (v12+aZ)) [[(0,bT h7)],[(13,oE (bq (cd h6))),(28,cL (Tl v10 (aS (v2-v12)) aZ h8))],[(5,oq (dh h6 rfl h5))]] h6 hF
   cases hF;exact wr af [[(0,bF h7)],[]]
  intro v3 v5 v6 v7 h3 hF f1 aO;rw[n4]at hF;refine au af [[(10,oL v1.xIdx dP),(18,bT (cD h3)),(21,bT (cD h3)),(24,bT (cD h3)),(28,bT (cD h3))]] ?_;refine bc hF (fun h9 hF=> ?_) fun h9 hF=> ?_
  ·refine au af [[(0,bT h9)],[(13,oE (fz (cd h3))),(25,oL v5.aK.xL dd),(40,oE (fz (cd h3))),(49,oL v5.bC eG)],[]] ?_;refine Lo 0 11 (cl v1.xIdx) (by kernel_rfl) fun az=> ?_;have aE:v5.bC.length≤maxLen:=by rw[←eG];exact uy (NO (j:=3) (d:= .sl (du v5.bC)) az (fz (cd h3)) rfl)
   refine qp af 3 [] [1,2,5,6,7] 1 v5.bC (fun bu(bx:Int)=>⟨101,[(1,(aw v2)),(2,(.ptr 0 0)),(5,(aw bx)),(6,(aw (v3:Int))),(7,(aw (bu:Int)))],[.cells (aA v1).cells]⟩) (wi N (fun cX=>n4 N v2 (lZ N d) v1 v6 (v3+1) cX) v2) (aS ((aS (v7+(v5.aK.xL.length:Int)))+(v5.bC.length:Int))) hF ?_ ?_
   ·intro bu bx aN hF f3;rw[wi]at hF;exact wb af aO bx [[(13,oE (fz (cd h3))),(22,oL v5.bC eG),(30,bF (cJ aN)),(33,bF (cJ aN)),(36,bF (cJ aN)),(40,bF (cJ aN))],[(0,bF rfl)],[(5,oq (dh h3 rfl h2))]] h3 hF
   intro bu de bW bx aN hF f3 mh;rw[wi]at hF;refine au af [[(13,oE (fz (cd h3))),(22,oL v5.bC eG),(30,bT (cD aN)),(33,bT (cD aN)),(36,bT (cD aN)),(40,bT (cD aN))]] ?_;refine bc hF (fun aY hF=> ?_) fun aY hF=> ?_
   ·exact wb af mh (aS (bx+(de.xL.length:Int))) [[(0,bT aY)],[(13,oE (fz (cd h3))),(25,oE (mS (cd aN))),(34,oL de.xL dd)],[(5,oq (dh aN rfl aE))]] aN hF
   exact wb af aO bx [[(0,bF aY)],[(5,oq (dh h3 rfl h2))]] h3 hF
  refine au af [[(0,bF h9)],[]] ?_;refine jZ kX 0 12 v1.ax fun bt=> ?_;refine qp af 4 [] [1,2,5,8] 1 v1.ax (fun cA(dt:Int)=>⟨101,[(1,(aw v2)),(2,(.ptr 0 0)),(5,(aw dt)),(8,(aw (cA:Int)))],[.cells (aA v1).cells]⟩) (pP N v2 (lZ N d)) v7 hF ?_ ?_
  ·intro cA dt aM hF f4;rw[pP]at hF;cases hF;exact wr af [[(10,oL v1.ax dD),(18,bF (cJ aM)),(21,bF (cJ aM)),(24,bF (cJ aM)),(28,bF (cJ aM))],[(0,bF rfl)],[]]
  intro cA v21 eX dt aM hF f4 yD;rw[pP]at hF;refine au af [[(10,oL v1.ax dD),(18,bT (cD aM)),(21,bT (cD aM)),(24,bT (cD aM)),(28,bT (cD aM))]] ?_;refine bc hF (fun bp hF=> ?_) fun bp hF=> ?_
  ·obtain⟨v24,a7,hF⟩:=ao hF;exact wb af yD (aS (dt+v24)) [[(0,bT bp)],[(13,oE (bq (cd aM))),(28,cL (Tl v21 (aS (v2-dt)) v24 a7))],[(5,oq (dh aM rfl bt))]] aM hF
  cases hF;exact wr af [[(0,bF bp)],[]]
theorem XX(N:Nat)(v1:an)(v2:Int)(r:Int)(hF:Oh N v1 v2=some r):aG Tryz.prog 7 [(aA v1),(aw v2)] (·=(aw r)):=(Yy N N) v1 v2 r hF
def Fg(N:Nat)(v1:akc):akd aF:=
 some (⟨(0:Int64),[(⟨v1,(1:Int64)⟩:aU)]⟩:aF)
theorem N8(N:Nat)(v1:akc)(r:aF)(hF:Fg N v1=some r):aG Tryz.prog 21 [(aR v1)] (·=(b9 r)):=by
 rw[Fg]at hF;refine aP Tryz.func21 ?_;cases hF;exact wr af [[],[]]
def y7(N:Nat)(v1:aD)(v2:Int64):akd an:=
 some (⟨(1:Int),(bs []),(⟨v2,(1:Int64)⟩:ay),v1,zLin,[],[]⟩:an)
theorem qY(N:Nat)(v1:aD)(v2:Int64)(r:an)(hF:y7 N v1 v2=some r):aG Tryz.prog 23 [(b4 v1),(aH v2)] (·=(aA r)):=by
 rw[y7]at hF;refine aP Tryz.func23 ?_;cases hF;exact wr af [[],[]]
def Ah(N:Nat)(v1:Int)(v2:an)(v3:an):akd an:=
 some (⟨v1,(bs []),bg,b8,zLin,[],[v2,v3]⟩:an)
theorem pV(N:Nat)(v1:Int)(v2:an)(v3:an)(r:an)(hF:Ah N v1 v2 v3=some r):aG Tryz.prog 22 [(aw v1),(aA v2),(aA v3)] (·=(aA r)):=by
 rw[Ah]at hF;refine aP Tryz.func22 ?_;cases hF;exact wr af [[],[(11,⟨_,_, .eq (congrArg AV.full (eR [v2,v3]).symm)⟩)]]
def FV(N:Nat)(v1:aD):akd Bool:=
 some ((v1.a8==v1.a8)&&((v1.bz==(0:Int))&&((v1.bE==(0:Int))&&((v1.bK==(0:Int))&&((v1.bI==(0:Int))&&true)))))
theorem ab7(N:Nat)(v1:aD)(r:Bool)(hF:FV N v1=some r):aG Tryz.prog 49 [(b4 v1)] (·=(aB r)):=by
 rw[FV]at hF;refine aP Tryz.func49 ?_;cases hF;exact wr af [[],[]]
def q8(N:Nat)(v1:aD):akd Int:=
 Option.bind (bif (decide (v1.bK≥(1:Int)))then(bif (decide (v1.bK≤(4:Int)))then(bif (v1.bI==(1:Int))then some true else some (v1.bI==(2:Int)))else some false)else some false) fun v2=>
 Option.bind (bif (v1.a8 !=(2:Int))then some true else(bif (decide (v1.bz<(2:Int)))then some true else(bif (decide (v1.bz>(31:Int)))then some true else(bif (decide (v1.bE<(0:Int)))then some true else(bif (decide (v1.bE>(30:Int)))then some true else some (!v2)))))) fun v3=>
 bif v3 then
  some (10:Int)
 else
  some (0:Int)
theorem uM(N:Nat)(v1:aD)(r:Int)(hF:q8 N v1=some r):aG Tryz.prog 50 [(b4 v1)] (·=(aw r)):=by
 rw[q8]at hF;refine aP Tryz.func50 ?_;refine au af [[]] ?_;obtain⟨v2,h4,hF⟩:=ao hF;refine bf af [(3,(aB v2))] [.cells (b4 v1).cells] ?_ ?_
 ·refine bc h4 (fun h1 h4=> ?_) fun h1 h4=> ?_
  ·refine bc h4 (fun h2 h4=> ?_) fun h2 h4=> ?_
   ·refine bc h4 (fun h3 h4=> ?_) fun h3 h4=> ?_
    ·cases h4;exact⟨[(3,bT h1),(8,bT h2),(12,bT h3)],[(49,bT h3)],by kernel_rfl⟩
    cases h4;exact⟨[(3,bT h1),(8,bT h2),(12,bF h3)],[(49,bF h3)],by kernel_rfl⟩
   cases h4;exact⟨[(3,bT h1),(8,bF h2),(12,uN)],[],by kernel_rfl⟩
  cases h4;exact⟨[(3,bF h1),(8,bF rfl),(12,uN)],[],by kernel_rfl⟩
 obtain⟨v3,az,hF⟩:=ao hF;refine bf af [(48,(aB v3))] [.cells (b4 v1).cells] ?_ ?_
 ·refine bc az (fun h5 az=> ?_) fun h5 az=> ?_
  ·cases az;exact⟨[(3,bT h5),(8,bT rfl),(13,bT rfl),(18,bT rfl),(23,bT rfl)],[],by kernel_rfl⟩
  refine bc az (fun h6 az=> ?_) fun h6 az=> ?_
  ·cases az;exact⟨[(3,bF h5),(8,bT h6),(13,bT rfl),(18,bT rfl),(23,bT rfl)],[],by kernel_rfl⟩
  refine bc az (fun h7 az=> ?_) fun h7 az=> ?_
  ·cases az;exact⟨[(3,bF h5),(8,bF h6),(13,bT h7),(18,bT rfl),(23,bT rfl)],[],by kernel_rfl⟩
  refine bc az (fun h8 az=> ?_) fun h8 az=> ?_
  ·cases az;exact⟨[(3,bF h5),(8,bF h6),(13,bF h7),(18,bT h8),(23,bT rfl)],[],by kernel_rfl⟩
  refine bc az (fun h9 az=> ?_) fun h9 az=> ?_
  ·cases az;exact⟨[(3,bF h5),(8,bF h6),(13,bF h7),(18,bF h8),(23,bT h9)],[],by kernel_rfl⟩
  cases az;exact⟨[(3,bF h5),(8,bF h6),(13,bF h7),(18,bF h8),(23,bF h9)],[],by kernel_rfl⟩
 refine bc hF (fun aE hF=> ?_) fun aE hF=> ?_
 ·cases hF;exact wr af [[(0,bT aE)],[]]
 cases hF;exact wr af [[(0,bF aE)],[]]
def CX(N:Nat)(v1:aD)(v2:Bool):akd Int:=
 bif v2 then
  Option.bind (FV N v1) fun v3=>
  bif v3 then
   some (0:Int)
  else
   some (10:Int)
 else
  bif (v1.a8==(2:Int))then
   Option.bind (q8 N v1) fun v4=>
   bif (v4==(0:Int))then
    some (0:Int)
   else
    some (10:Int)
  else
   some (10:Int)
def lR(N:Nat)(v1:aD):akd Int:=
 bif (v1.a8==(1:Int))then
  CX N v1 (v1.a8==(1:Int))
 else
  CX N v1 (v1.a8==(3:Int))
theorem m5(N:Nat)(v1:aD)(r:Int)(hF:lR N v1=some r):aG Tryz.prog 24 [(b4 v1)] (·=(aw r)):=by
 rw[lR]at hF;refine aP Tryz.func24 ?_;refine gN af r 1 [[],[],[]] [1,4,5] 1 (fun(v2:Bool)=>⟨15,[(1,(.ptr 0 0)),(4,(aw v1.a8)),(5,(aB v2))],[.cells (b4 v1).cells]⟩) (CX N v1) ?_ ?_
 ·intro f1 aO;refine bc hF (fun h7 hF=> ?_) fun h7 hF=> ?_
  ·exact bM af aO (v1.a8==(1:Int)) [[(0,bT h7)]] hF
  exact bM af aO (v1.a8==(3:Int)) [[(0,bF h7)],[]] hF
 intro v2 hF;rw[CX]at hF;refine bc hF (fun h1 hF=> ?_) fun h1 hF=> ?_
 ·obtain⟨v3,h2,hF⟩:=ao hF;refine au af [[(0,bT h1)],[(4,cL (ab7 N v1 v3 h2))]] ?_;refine bc hF (fun h3 hF=> ?_) fun h3 hF=> ?_
  ·cases hF;exact wr af [[(0,bT h3)],[]]
  cases hF;exact wr af [[(0,bF h3)],[]]
 refine au af [[(0,bF h1)],[]] ?_;refine bc hF (fun h4 hF=> ?_) fun h4 hF=> ?_
 ·obtain⟨v4,h5,hF⟩:=ao hF;refine au af [[(0,bT h4)],[(4,cL (uM N v1 v4 h5))]] ?_;refine bc hF (fun h6 hF=> ?_) fun h6 hF=> ?_
  ·cases hF;exact wr af [[(0,bT h6)],[]]
  cases hF;exact wr af [[(0,bF h6)],[]]
 cases hF;exact wr af [[(0,bF h4)],[]]
def vQ(N:Nat)(Q6:an→Int→akd Int)(v2:Int):akb an→Nat→Int→akd Int
 |[],_,v7=>
  some v7
 |v5::v6,v3,v7=>
  Option.bind (Q6 v5 (aS (v2-(1:Int)))) fun v8=>
  (fun cX=>vQ N Q6 v2 v6 (v3+1) cX) (if(aS ((1:Int)+v8))>v7 then(aS ((1:Int)+v8))else v7)
def m3(N:Nat):Nat→an→Int→akd Int
 |0,_,_=>none
 |d+1,v1,v2=>
  bif (decide (v2≤(1:Int)))then
   some v2
  else
   vQ N (m3 N d) v2 v1.ax 0 (1:Int)
def Lv(N:Nat)(v1:an)(v2:Int):akd Int:=m3 N N v1 v2
theorem Zp(N:Nat):∀d:Nat,(∀(v1:an)(v2:Int)(r:Int),m3 N d v1 v2=some r→aG Tryz.prog 93 [(aA v1),(aw v2)] (·=(aw r))):=by
 intro d
 induction d with
 |zero=>intro v1 v2 r hF;rw[m3]at hF;cases hF
 |succ d ih=>
  have aed:=ih;intro v1 v2 r hF;rw[m3]at hF;refine aP Tryz.func93 ?_;refine au af [[],[]] ?_;refine bc hF (fun h1 hF=> ?_) fun h1 hF=> ?_
  ·cases hF;exact wr af [[(0,bT h1)],[]]
  refine au af [[(0,bF h1)],[],[(7,oL v1.ax dD)]] ?_;refine fO kX 12 v1.ax fun h3=> ?_;refine qp af 1 [] [1,5,12,13,14] 1 v1.ax (fun v3(v7:Int)=>⟨27,[(1,(aw v2)),(5,(aw v7)),(12,(.d (.sl (cq v1.ax)))),(13,(aw (v1.ax.length:Int))),(14,(aw (v3:Int)))],[.cells (aA v1).cells]⟩) (vQ N (m3 N d) v2) (1:Int) hF ?_ ?_
  ·intro v3 v7 h4 hF f1;rw[vQ]at hF;cases hF;exact wr af [[],[(0,bF (cJ h4))],[]]
  intro v3 v5 v6 v7 h4 hF f1 aO;rw[vQ]at hF;obtain⟨v8,h5,hF⟩:=ao hF;exact wb af aO (if(aS ((1:Int)+v8))>v7 then(aS ((1:Int)+v8))else v7) [[],[(0,bT (cD h4))],[(1,oE (bq (cd h4)))],[(13,cL (aed v5 (aS (v2-(1:Int))) v8 h5))],[(2,oq (dh h4 rfl h3))]] h4 hF
theorem aax(N:Nat)(v1:an)(v2:Int)(r:Int)(hF:Lv N v1 v2=some r):aG Tryz.prog 93 [(aA v1),(aw v2)] (·=(aw r)):=(Zp N N) v1 v2 r hF
def IF(N:Nat)(v1:an):akd Int:=
 Option.bind (Lv N v1 (41:Int)) fun v2=>
 some v2
theorem Zx(N:Nat)(v1:an)(r:Int)(hF:IF N v1=some r):aG Tryz.prog 51 [(aA v1)] (·=(aw r)):=by
 rw[IF]at hF;refine aP Tryz.func51 ?_;obtain⟨v2,h1,hF⟩:=ao hF;obtain rfl:=sj hF;exact wr af [[],[(4,cL (aax N v1 (41:Int) v2 h1))]]
def G7(N:Nat)(v1:an):akd an:=some v1
theorem VB(N:Nat)(v1 r:an)(hF:G7 N v1=some r):aG Tryz.prog 38 [(aA v1)] (·=(.fn 65 [(.bD [cF r] 0 0)])):=by
 cases hF;exact agE v1
def tI(N:Nat):akb an→Int→akd Int
 |[],v3=>
  some v3
 |_::v5,v3=>
  bif (decide ((aS (v3+(1:Int)))>(2000:Int)))then
   some (aS (v3+(1:Int)))
  else
   (fun cX=>tI N v5 cX) (aS (v3+(1:Int)))
def Dv(N:Nat)(v1:an):akd Int:=
 Option.bind (G7 N v1) fun v2=>
 tI N (cQ v2) (0:Int)
def CW(v1:an)(v3:Int)(l:akb aq):akb aq:= .cells (aA v1).cells:: .cells [(aw (aS (v3+(1:Int))))]::l
def pg(v1:an)(v3:Int)(l:akb aq):akb aq:= .cells (aA v1).cells:: .cells [(aw v3)]::l
def qR(v1:an)(l:akb aq):akb aq:= .cells (aA v1).cells:: .cells [(aw (0:Int))]::l
theorem acH(N:Nat)(v1:an)(r:Int)(hF:Dv N v1=some r):aG Tryz.prog 14 [(aA v1)] (·=(aw r)):=by
 rw[Dv]at hF;refine yW Tryz.func14 rfl (by kernel_rfl) ?_;refine ja [0] 0 (ajy _) (s':=⟨12,[(0,(aA v1))],[]⟩) (by kernel_rfl) ?_;refine bG ?_;refine rg [] [(1,(.ptr 0 0))] [.cells (aA v1).cells] (by kernel_rfl) ?_;refine bG ?_;refine rg [] [(3,(.ptr 1 0))] (qR v1 []) (by kernel_rfl) ?_;refine bG ?_;refine bG ?_;obtain⟨v2,h1,hF⟩:=ao hF;refine rg [(4,cL (VB N v1 v2 h1))] [(5,(.fn 65 [(.bD [cF v2] 0 0)]))] (qR v1 []) (by kernel_rfl) ?_;refine gv ?_;refine ja [3,5] 2 (ajv rfl) (s':=⟨12,[(3,(.ptr 1 0)),(5,(.fn 65 [(.bD [cF v2] 0 0)]))],(qR v1 [])⟩) (by kernel_rfl) ?_;refine N9 (m:=2) (enc:=aA) (xs:=(cQ v2)) (by kernel_rfl) (T3 v2) (fun(v3:Int)=>(pg v1 v3 [])) (fun(v3:Int) l=>tI N l v3=some r) (0:Int) (by kernel_rfl) hF (by rintro v3;rfl) (by rintro v3;kernel_rfl) (by kernel_rfl) rfl ?_ ?_
 ·rintro v3 v4 v5 hF h2 iN iH
  try dsimp only at hF
  rw[tI]at hF;refine ja [3] 3 (ajy _) (s':=⟨12,[(3,(.ptr 1 0))],(pg v1 v3 [.lp .ready 6 iN iH (dy 12 [(3,(.ptr 1 0)),(5,(.fn 65 [(.bD [cF v2] 0 0)]))])])⟩) (by kernel_rfl) ?_;refine fG ?_;refine cz ?_;refine⟨(pg v1 v3 []),[],rfl,(by kernel_rfl),?_⟩;refine ja [3] 3 (ajv rfl) (s':=⟨12,[(3,(.ptr 1 0))],(pg v1 v3 [.lp .busy 6 iN iH (dy 12 [(3,(.ptr 1 0)),(5,(.fn 65 [(.bD [cF v2] 0 0)]))])])⟩) (by kernel_rfl) ?_;refine gv ?_;refine bG ?_;refine rg [] [] (CW v1 v3 [.lp .busy 6 iN iH (dy 12 [(3,(.ptr 1 0)),(5,(.fn 65 [(.bD [cF v2] 0 0)]))])]) (by kernel_rfl) ?_;refine bG ?_;refine rg [] [(10,(aB (decide ((aS (v3+(1:Int)))>(2000:Int)))))] (CW v1 v3 [.lp .busy 6 iN iH (dy 12 [(3,(.ptr 1 0)),(5,(.fn 65 [(.bD [cF v2] 0 0)]))])]) (by kernel_rfl) ?_;rcases jQ (decide ((aS (v3+(1:Int)))>(2000:Int)))with h3|h3
  ·replace hF:=(eC h3).symm.trans hF;refine kd (t:=(decide ((aS (v3+(1:Int)))>(2000:Int)))) (by kernel_rfl) h3 ?_;refine pk (XN rfl ?_);refine abQ (CW v1 v3 []) rfl (by kernel_rfl) (by kernel_rfl) ?_;refine(tu rfl ?_);refine cz ?_;refine bG ?_;refine rg [] [(2,(aw (aS (v3+(1:Int)))))] (CW v1 v3 [.gone]) (by kernel_rfl) ?_;refine dV ?_;have hr:=ajG hF;subst hr;exact jI (by kernel_rfl)
  replace hF:=(jG h3).symm.trans hF;refine j6 (t:=(decide ((aS (v3+(1:Int)))>(2000:Int)))) (by kernel_rfl) h3 ?_;refine fG ?_;refine la ?_;refine MC (CW v1 v3 []) rfl (by kernel_rfl) (by kernel_rfl) ?_;exact⟨(aS (v3+(1:Int))),(by kernel_rfl),hF⟩
 rintro v3 hF
 try dsimp only at hF
 rw[tI]at hF;refine la ?_;refine cz ?_;refine bG ?_;refine rg [] [(2,(aw v3))] (pg v1 v3 [.gone]) (by kernel_rfl) ?_;refine dV ?_;have hr:=ajG hF;subst hr;exact jI (by kernel_rfl)
def yC(N:Nat)(v1:aF):akd Bool:=
 Option.bind (bif (v1.xK.toInt==(0:Int))then some ((v1.xL.length:Int)==(0:Int))else some false) fun v2=>
 some v2
theorem Te(N:Nat)(v1:aF)(r:Bool)(hF:yC N v1=some r):aG Tryz.prog 165 [(b9 v1)] (·=(aB r)):=by
 rw[yC]at hF;refine aP Tryz.func165 ?_;refine au af [[]] ?_;obtain⟨v2,h2,hF⟩:=ao hF;refine bf af [(2,(aB v2))] [.cells (b9 v1).cells] ?_ ?_
 ·refine bc h2 (fun h1 h2=> ?_) fun h1 h2=> ?_
  ·cases h2;exact⟨[(3,bT h1)],[(19,oL v1.xL dd)],by kernel_rfl⟩
  cases h2;exact⟨[(3,bF h1)],[],by kernel_rfl⟩
 cases hF;exact wr af []
def C2(N:Nat)(v1:aI):akd Bool:=
 bif (bL v1.bU==bL (bs []))then
  some ((v1.bC.length:Int)==(0:Int))
 else
  Option.bind (yC N v1.aK) fun v2=>
  some v2
theorem YA(N:Nat)(v1:aI)(r:Bool)(hF:C2 N v1=some r):aG Tryz.prog 168 [(gB v1)] (·=(aB r)):=by
 rw[C2]at hF;refine aP Tryz.func168 ?_;refine au af [[],[]] ?_;refine bc hF (fun h1 hF=> ?_) fun h1 hF=> ?_
 ·cases hF;exact wr af [[(0,bT h1)],[(7,oL v1.bC eG)]]
 obtain⟨v2,h2,hF⟩:=ao hF;obtain rfl:=sj hF;exact wr af [[(0,bF h1)],[(7,cL (Te N v1.aK v2 h2))]]
def Gs(N:Nat)(v1:aI):akd Bool:=
 Option.bind (C2 N v1) fun v2=>
 some (!v2)
theorem ag3(N:Nat)(v1:aI)(r:Bool)(hF:Gs N v1=some r):aG Tryz.prog 167 [(gB v1)] (·=(aB r)):=by
 rw[Gs]at hF;refine aP Tryz.func167 ?_;obtain⟨v2,h1,hF⟩:=ao hF;cases hF;exact wr af [[],[(4,cL (YA N v1 v2 h1))]]
def vC(N:Nat):akb aI→Nat→akd Int
 |[],_=>
  some (-1:Int)
 |v4::v5,v2=>
  Option.bind (Gs N v4) fun v6=>
  bif v6 then
   some (v2:Int)
  else
   (vC N v5 (v2+1))
def HI(N:Nat)(v1:akb aI):akd Int:=
 vC N v1 0
theorem afD(N:Nat)(v1:akb aI)(r:Int)(hF:HI N v1=some r):bO Tryz.prog 232 [(.d (.sl (cl v1))),(.fn 167 [])] [] fun r1 h1=>r1=(aw r)∧h1=[]:=by
 rw[HI]at hF;refine eB 0 Tryz.func232 ?_;refine au af [[],[(4,oL v1 dP)]] ?_;refine fO ml 0 v1 fun h2=> ?_;refine fE af 1 [] [0,1,7,8] 0 v1 (fun v2=>⟨19,[(0,(.d (.sl (cl v1)))),(1,(.fn 167 [])),(7,(aw (v1.length:Int))),(8,(aw (v2:Int)))],[]⟩) (vC N) hF ?_ ?_
 ·intro v2 h3 hF f1;rw[vC]at hF;cases hF;exact cG af [[],[(0,bF (cJ h3))],[]]
 intro v2 v4 v5 h3 hF f1 aO;rw[vC]at hF;obtain⟨v6,h4,hF⟩:=ao hF;refine au af [[],[(0,bT (cD h3))],[],[(10,oE (fz (cd h3))),(16,cL (ag3 N v4 v6 h4))]] ?_;refine bc hF (fun h5 hF=> ?_) fun h5 hF=> ?_
 ·cases hF;exact cG af [[(0,bT h5)],[]]
 exact wb af aO () [[(0,bF h5)],[(2,oq (dh h3 rfl h2))]] h3 hF
def EU(N:Nat)(v1:akb aI):akd Bool:=
 Option.bind (HI N v1) fun v2=>
 some (decide (v2≥(0:Int)))
theorem ahU(N:Nat)(v1:akb aI)(r:Bool)(hF:EU N v1=some r):bO Tryz.prog 166 [(.d (.sl (cl v1))),(.fn 167 [])] [] fun r1 h1=>r1=(aB r)∧h1=[]:=by
 rw[EU]at hF;refine eB 0 Tryz.func166 ?_;obtain⟨v2,h1,hF⟩:=ao hF;cases hF;exact cG af [[],[(7,oQ [(.d (.sl (cl v1))),(.fn 167 [])] [] [] (afD N v1 v2 h1))]]
def EC(N:Nat)(v1:an):akd Bool:=
 Option.bind (bif (v1.ar==(1:Int))then some true else some (v1.ar==(12:Int))) fun v2=>
 Option.bind (bif (decide (v1.ar<(1:Int)))then some true else some (decide (v1.ar>(18:Int)))) fun v3=>
 bif v3 then
  some false
 else
  Option.bind (bif (v1.ar==(1:Int))then some false else some (!((v1.ba.xN.toInt==(0:Int64).toInt)&&((v1.ba.xD.toInt==(0:Int64).toInt)&&true)))) fun v4=>
  bif v4 then
   some false
  else
   Option.bind (bif v2 then some false else some (!((v1.aC.a8==(0:Int))&&((v1.aC.bz==(0:Int))&&((v1.aC.bE==(0:Int))&&((v1.aC.bK==(0:Int))&&((v1.aC.bI==(0:Int))&&true))))))) fun v5=>
   bif v5 then
    some false
   else
    Option.bind (bif (v1.ar==(2:Int))then some false else Option.bind (yC N v1.aK) fun v6=>
    some (!v6)) fun v7=>
    bif v7 then
     some false
    else
     Option.bind (bif (v1.ar==(3:Int))then some false else(bif (bL v1.aV==bL (bs []))then some (decide ((v1.xIdx.length:Int)>(0:Int)))else some true)) fun v8=>
     bif v8 then
      some false
     else
      Option.bind (EU N v1.xIdx) fun v9=>
      some (!v9)
def mM(v1:an)(l:akb aq):akb aq:= .cells (aA v1).cells::l
theorem W3(N:Nat)(v1:an)(r:Bool)(hF:EC N v1=some r):aG Tryz.prog 94 [(aA v1)] (·=(aB r)):=by
 rw[EC]at hF;refine aP Tryz.func94 ?_;refine au af [[]] ?_;obtain⟨v2,h2,hF⟩:=ao hF;refine bf af [(3,(aB (v1.ar==(1:Int)))),(4,(aB v2))] (mM v1 []) ?_ ?_
 ·refine bc h2 (fun h1 h2=> ?_) fun h1 h2=> ?_
  ·cases h2;exact⟨[(6,bT h1)],[],by kernel_rfl⟩
  cases h2;exact⟨[(6,bF h1)],[],by kernel_rfl⟩
 refine au af [[]] ?_;obtain⟨v3,h4,hF⟩:=ao hF;refine bf af [(24,(aB v3))] (mM v1 []) ?_ ?_
 ·refine bc h4 (fun h3 h4=> ?_) fun h3 h4=> ?_
  ·cases h4;exact⟨[(3,bT h3)],[],by kernel_rfl⟩
  cases h4;exact⟨[(3,bF h3)],[],by kernel_rfl⟩
 refine bc hF (fun h5 hF=> ?_) fun h5 hF=> ?_
 ·cases hF;exact wr af [[(0,bT h5)],[]]
 refine au af [[(0,bF h5)]] ?_;obtain⟨v4,h7,hF⟩:=ao hF;refine bf af [(33,(aB v4))] (mM v1 []) ?_ ?_
 ·refine bc h7 (fun h6 h7=> ?_) fun h6 h7=> ?_
  ·cases h7;exact⟨[(2,bF (not_t h6))],[],by kernel_rfl⟩
  cases h7;exact⟨[(2,bT (bS h6))],[],by kernel_rfl⟩
 refine bc hF (fun h8 hF=> ?_) fun h8 hF=> ?_
 ·cases hF;exact wr af [[(0,bT h8)],[]]
 refine au af [[(0,bF h8)]] ?_;obtain⟨v5,az,hF⟩:=ao hF;refine bf af [(42,(aB v5))] (mM v1 []) ?_ ?_
 ·refine bc az (fun h9 az=> ?_) fun h9 az=> ?_
  ·cases az;exact⟨[(2,bF (not_t h9))],[],by kernel_rfl⟩
  cases az;exact⟨[(2,bT (bS h9))],[],by kernel_rfl⟩
 refine bc hF (fun aE hF=> ?_) fun aE hF=> ?_
 ·cases hF;exact wr af [[(0,bT aE)],[]]
 refine au af [[(0,bF aE)]] ?_;obtain⟨v7,aJ,hF⟩:=ao hF;refine bf af [(51,(aB v7))] (mM v1 []) ?_ ?_
 ·refine bc aJ (fun aN aJ=> ?_) fun aN aJ=> ?_
  ·cases aJ;exact⟨[(2,bF (not_t aN))],[],by kernel_rfl⟩
  obtain⟨v6,aY,aJ⟩:=ao aJ;cases aJ;exact⟨[(2,bT (bS aN))],[(16,cL (Te N v1.aK v6 aY))],by kernel_rfl⟩
 refine bc hF (fun bt hF=> ?_) fun bt hF=> ?_
 ·cases hF;exact wr af [[(0,bT bt)],[]]
 refine au af [[(0,bF bt)]] ?_;obtain⟨v8,a7,hF⟩:=ao hF;refine bf af [(60,(aB v8))] (mM v1 []) ?_ ?_
 ·refine bc a7 (fun aM a7=> ?_) fun aM a7=> ?_
  ·cases a7;exact⟨[(2,bF (not_t aM)),(6,uN)],[],by kernel_rfl⟩
  refine bc a7 (fun bp a7=> ?_) fun bp a7=> ?_
  ·cases a7;exact⟨[(2,bT (bS aM)),(6,bF (not_t bp))],[(28,oL v1.xIdx dP),(34,bF (not_t bp))],by kernel_rfl⟩
  cases a7;exact⟨[(2,bT (bS aM)),(6,bT (bS bp))],[(34,bT (bS bp))],by kernel_rfl⟩
 refine bc hF (fun bR hF=> ?_) fun bR hF=> ?_
 ·cases hF;exact wr af [[(0,bT bR)],[]]
 obtain⟨v9,b5,hF⟩:=ao hF;cases hF;exact wr af [[(0,bF bR)],[(7,oQ [(.d (.sl (cl v1.xIdx))),(.fn 167 [])] (mM v1 []) [] (ahU N v1.xIdx v9 b5))]]
def xu(N:Nat)(v1:Int):akd Bool:=
 Option.bind (bif (decide (v1≥(97:Int)))then some (decide (v1≤(122:Int)))else some false) fun v2=>
 some v2
theorem zV(N:Nat)(v1:Int)(r:Bool)(hF:xu N v1=some r):aG Tryz.prog 224 [(.d (.v (.int .i32 v1)))] (·=(aB r)):=by
 rw[xu]at hF;refine aP Tryz.func224 ?_;refine au af [[]] ?_;obtain⟨v2,h2,hF⟩:=ao hF;refine bf af [(2,(aB v2))] [] ?_ ?_
 ·refine bc h2 (fun h1 h2=> ?_) fun h1 h2=> ?_
  ·cases h2;exact⟨[(2,bT h1)],[],by kernel_rfl⟩
  cases h2;exact⟨[(2,bF h1)],[],by kernel_rfl⟩
 cases hF;exact wr af []
def D9(N:Nat)(v1:Int):akd Bool:=
 Option.bind (bif (decide (v1≥(48:Int)))then some (decide (v1≤(57:Int)))else some false) fun v2=>
 some v2
theorem Ui(N:Nat)(v1:Int)(r:Bool)(hF:D9 N v1=some r):aG Tryz.prog 280 [(.d (.v (.int .i32 v1)))] (·=(aB r)):=by
 rw[D9]at hF;refine aP Tryz.func280 ?_;refine au af [[]] ?_;obtain⟨v2,h2,hF⟩:=ao hF;refine bf af [(2,(aB v2))] [] ?_ ?_
 ·refine bc h2 (fun h1 h2=> ?_) fun h1 h2=> ?_
  ·cases h2;exact⟨[(2,bT h1)],[],by kernel_rfl⟩
  cases h2;exact⟨[(2,bF h1)],[],by kernel_rfl⟩
 cases hF;exact wr af []
def EB(N:Nat)(v1:Int):akd Bool:=
 Option.bind (xu N v1) fun v2=>
 Option.bind (bif v2 then some true else Option.bind (D9 N v1) fun v3=>
 (bif v3 then some true else some (v1==(95:Int)))) fun v4=>
 some v4
theorem aah(N:Nat)(v1:Int)(r:Bool)(hF:EB N v1=some r):aG Tryz.prog 226 [(.d (.v (.int .i32 v1)))] (·=(aB r)):=by
 rw[EB]at hF;refine aP Tryz.func226 ?_;refine au af [[]] ?_;obtain⟨v2,h1,hF⟩:=ao hF;obtain⟨v4,h5,hF⟩:=ao hF;refine bf af [(2,(aB v4))] [] ?_ ?_
 ·refine bc h5 (fun h2 h5=> ?_) fun h2 h5=> ?_
  ·cases h5;exact⟨[(2,bT h2),(6,bT rfl)],[(4,cL (zV N v1 v2 h1))],by kernel_rfl⟩
  obtain⟨v3,h3,h5⟩:=ao h5;refine bc h5 (fun h4 h5=> ?_) fun h4 h5=> ?_
  ·cases h5;exact⟨[(2,bF h2),(6,bT h4)],[(4,cL (zV N v1 v2 h1)),(13,cL (Ui N v1 v3 h3))],by kernel_rfl⟩
  cases h5;exact⟨[(2,bF h2),(6,bF h4)],[(4,cL (zV N v1 v2 h1)),(13,cL (Ui N v1 v3 h3))],by kernel_rfl⟩
 cases hF;exact wr af []
def yM(N:Nat)(v1:akc):Nat→Int→akd Int
 |0,_=>none
 |v2+1,v3=>
  Option.bind (bif (decide (v3<(v1.size:Int)))then bif (decide ((0:Int)≤v3))then
  Option.bind (v1[(v3).toNat]?) fun v4=>
  Option.bind (EB N (IntKind.i32.wrap (v4.toNat:Int))) fun v5=>
  some v5
  else none else some false) fun v6=>
  bif v6 then
   (fun cX=>yM N v1 v2 cX) (aS (v3+(1:Int)))
  else
   some v3
def DQ(N:Nat)(v1:akc):akd Int:=
 yM N v1 N (0:Int)
theorem RC(N:Nat)(v1:akc)(r:Int)(hF:DQ N v1=some r):bO Tryz.prog 225 [(aR v1),(.fn 226 [])] [] fun r1 h1=>r1=(aw r)∧h1=[]:=by
 rw[DQ]at hF;refine eB 0 Tryz.func225 ?_;refine K5 af 1 [[],[]] [0,1,5] 0 (fun(v3:Int)=>⟨21,[(0,(aR v1)),(1,(.fn 226 [])),(5,(aw v3))],[]⟩) (yM N v1) N (0:Int) hF ?_;intro v2 v3 hF f1 aO;rw[yM]at hF;obtain⟨v6,h5,hF⟩:=ao hF;refine bf af [(17,(aB v6))] [] ?_ ?_
 ·refine bc h5 (fun h1 h5=> ?_) fun h1 h5=> ?_
  ·obtain⟨h3,h5⟩:=dn h5;obtain⟨v4,h2,h5⟩:=ao h5;obtain⟨v5,h4,h5⟩:=ao h5;obtain rfl:=sj h5;exact⟨[(4,bT h1)],[(25,⟨_,_, .ch (i:=v3) (of_decide_eq_true h3) h2⟩),(31,cL (aah N (IntKind.i32.wrap (v4.toNat:Int)) v5 h4))],by kernel_rfl⟩
  cases h5;exact⟨[(4,bF h1)],[],by kernel_rfl⟩
 refine bc hF (fun h6 hF=> ?_) fun h6 hF=> ?_
 ·exact yw af aO (aS (v3+(1:Int))) [[(0,bT h6)],[]] hF
 cases hF;exact cG af [[(0,bF h6)],[]]
def OX(N:Nat):akd (akb akc):=some lQ
theorem aiz(N:Nat)(r:akb akc)(hF:OX N=some r):aG Tryz.prog 281 [] (·=(.d (.sl (gw r)))):=by
 cases hF;exact ac9
def u9(N:Nat)(v2:akc):akb akc→Nat→akd Int
 |[],_=>
  some (-1:Int)
 |v5::v6,v3=>
  bif (bL v2==bL v5)then
   some (v3:Int)
  else
   (u9 N v2 v6 (v3+1))
def Fq(N:Nat)(v1:akb akc)(v2:akc):akd Int:=
 u9 N v2 v1 0
theorem abY(N:Nat)(v1:akb akc)(v2:akc)(r:Int)(hF:Fq N v1 v2=some r):aG Tryz.prog 157 [(.d (.sl (gw v1))),(aR v2)] (·=(aw r)):=by
 rw[Fq]at hF;refine aP Tryz.func157 ?_;refine au af [[],[(4,oL v1 zc)]] ?_;refine fO LU 0 v1 fun h2=> ?_;refine fE af 1 [] [0,1,7,8] 0 v1 (fun v3=>⟨19,[(0,(.d (.sl (gw v1)))),(1,(aR v2)),(7,(aw (v1.length:Int))),(8,(aw (v3:Int)))],[]⟩) (u9 N v2) hF ?_ ?_
 ·intro v3 h3 hF f1;rw[u9]at hF;cases hF;exact wr af [[],[(0,bF (cJ h3))],[]]
 intro v3 v5 v6 h3 hF f1 aO;rw[u9]at hF;refine au af [[],[(0,bT (cD h3))],[],[(10,oE (DJ (cd h3)))]] ?_;refine bc hF (fun h4 hF=> ?_) fun h4 hF=> ?_
 ·cases hF;exact wr af [[(0,bT h4)],[]]
 exact wb af aO () [[(0,bF h4)],[(2,oq (dh h3 rfl h2))]] h3 hF
def Gk(N:Nat)(v1:akb akc)(v2:akc):akd Bool:=
 Option.bind (Fq N v1 v2) fun v3=>
 some (decide (v3≥(0:Int)))
theorem X9(N:Nat)(v1:akb akc)(v2:akc)(r:Bool)(hF:Gk N v1 v2=some r):aG Tryz.prog 84 [(.d (.sl (gw v1))),(aR v2)] (·=(aB r)):=by
 rw[Gk]at hF;refine aP Tryz.func84 ?_;obtain⟨v3,h1,hF⟩:=ao hF;cases hF;exact wr af [[],[(7,cL (abY N v1 v2 v3 h1))]]
def Ci(N:Nat)(v1:akc):akd Bool:=
 Option.bind (OX N) fun v2=>
 Option.bind (Gk N v2 v1) fun v3=>
 some v3
theorem ahY(N:Nat)(v1:akc)(r:Bool)(hF:Ci N v1=some r):aG Tryz.prog 227 [(aR v1)] (·=(aB r)):=by
 rw[Ci]at hF;refine aP Tryz.func227 ?_;obtain⟨v2,h1,hF⟩:=ao hF;obtain⟨v3,h2,hF⟩:=ao hF;obtain rfl:=sj hF;exact wr af [[],[(1,cL (aiz N v2 h1)),(7,cL (X9 N v2 v1 v3 h2))]]
def Ar(N:Nat)(v1:akc):akd Bool:=
 Option.bind (bif (bL v1==bL (bs []))then some false else(bif (decide ((v1.size:Int)≤(16:Int)))then Option.bind (v1[0]?) fun v2=>
 Option.bind (xu N (IntKind.i32.wrap (v2.toNat:Int))) fun v3=>
 (bif v3 then Option.bind (DQ N v1) fun v4=>
 (bif (v4==(v1.size:Int))then Option.bind (Ci N v1) fun v5=>
 some (!v5)else some false)else some false)else some false)) fun v6=>
 some v6
theorem Tj(N:Nat)(v1:akc)(r:Bool)(hF:Ar N v1=some r):aG Tryz.prog 149 [(aR v1)] (·=(aB r)):=by
 rw[Ar]at hF;refine aP Tryz.func149 ?_;refine au af [[]] ?_;obtain⟨v6,h9,hF⟩:=ao hF;refine bf af [(2,(aB v6))] [] ?_ ?_
 ·refine bc h9 (fun h1 h9=> ?_) fun h1 h9=> ?_
  ·cases h9;exact⟨[(2,bF (not_t h1)),(7,bF rfl),(13,bF rfl),(20,bF rfl)],[],by kernel_rfl⟩
  refine bc h9 (fun h2 h9=> ?_) fun h2 h9=> ?_
  ·obtain⟨v2,h3,h9⟩:=ao h9;obtain⟨v3,h4,h9⟩:=ao h9;refine bc h9 (fun h5 h9=> ?_) fun h5 h9=> ?_
   ·obtain⟨v4,h6,h9⟩:=ao h9;refine bc h9 (fun h7 h9=> ?_) fun h7 h9=> ?_
    ·obtain⟨v5,h8,h9⟩:=ao h9;cases h9;exact⟨[(2,bT (bS h1)),(7,bT h2),(13,bT h5),(20,bT h7)],[(28,⟨_,_, .ch (i:=(0:Int)) (by decide) h3⟩),(34,cL (zV N (IntKind.i32.wrap (v2.toNat:Int)) v3 h4)),(46,oQ [(aR v1),(.fn 226 [])] [] [] (RC N v1 v4 h6)),(67,cL (ahY N v1 v5 h8))],by kernel_rfl⟩
    cases h9;exact⟨[(2,bT (bS h1)),(7,bT h2),(13,bT h5),(20,bF h7)],[(28,⟨_,_, .ch (i:=(0:Int)) (by decide) h3⟩),(34,cL (zV N (IntKind.i32.wrap (v2.toNat:Int)) v3 h4)),(46,oQ [(aR v1),(.fn 226 [])] [] [] (RC N v1 v4 h6))],by kernel_rfl⟩
   cases h9;exact⟨[(2,bT (bS h1)),(7,bT h2),(13,bF h5),(20,bF rfl)],[(28,⟨_,_, .ch (i:=(0:Int)) (by decide) h3⟩),(34,cL (zV N (IntKind.i32.wrap (v2.toNat:Int)) v3 h4))],by kernel_rfl⟩
  cases h9;exact⟨[(2,bT (bS h1)),(7,bF h2),(13,bF rfl),(20,bF rfl)],[],by kernel_rfl⟩
 cases hF;exact wr af []
def Bj(N:Nat)(v1:aI):akd Bool:=
 Option.bind (bif (bL v1.bU==bL (bs []))then some false else Option.bind (Ar N v1.bU) fun v2=>
 some (!v2)) fun v3=>
 some v3
theorem XP(N:Nat)(v1:aI)(r:Bool)(hF:Bj N v1=some r):aG Tryz.prog 169 [(gB v1)] (·=(aB r)):=by
 rw[Bj]at hF;refine aP Tryz.func169 ?_;refine au af [[]] ?_;obtain⟨v3,h3,hF⟩:=ao hF;refine bf af [(2,(aB v3))] [.cells (gB v1).cells] ?_ ?_
 ·refine bc h3 (fun h1 h3=> ?_) fun h1 h3=> ?_
  ·cases h3;exact⟨[(3,bF (not_t h1))],[],by kernel_rfl⟩
  obtain⟨v2,h2,h3⟩:=ao h3;cases h3;exact⟨[(3,bT (bS h1))],[(19,cL (Tj N v1.bU v2 h2))],by kernel_rfl⟩
 cases hF;exact wr af []
def wC(N:Nat):akb aI→Nat→akd Int
 |[],_=>
  some (-1:Int)
 |v4::v5,v2=>
  Option.bind (Bj N v4) fun v6=>
  bif v6 then
   some (v2:Int)
  else
   (wC N v5 (v2+1))
def IX(N:Nat)(v1:akb aI):akd Int:=
 wC N v1 0
theorem aeW(N:Nat)(v1:akb aI)(r:Int)(hF:IX N v1=some r):bO Tryz.prog 232 [(.d (.sl (cl v1))),(.fn 169 [])] [] fun r1 h1=>r1=(aw r)∧h1=[]:=by
 rw[IX]at hF;refine eB 0 Tryz.func232 ?_;refine au af [[],[(4,oL v1 dP)]] ?_;refine fO ml 0 v1 fun h2=> ?_;refine fE af 1 [] [0,1,7,8] 0 v1 (fun v2=>⟨19,[(0,(.d (.sl (cl v1)))),(1,(.fn 169 [])),(7,(aw (v1.length:Int))),(8,(aw (v2:Int)))],[]⟩) (wC N) hF ?_ ?_
 ·intro v2 h3 hF f1;rw[wC]at hF;cases hF;exact cG af [[],[(0,bF (cJ h3))],[]]
 intro v2 v4 v5 h3 hF f1 aO;rw[wC]at hF;obtain⟨v6,h4,hF⟩:=ao hF;refine au af [[],[(0,bT (cD h3))],[],[(10,oE (fz (cd h3))),(16,cL (XP N v4 v6 h4))]] ?_;refine bc hF (fun h5 hF=> ?_) fun h5 hF=> ?_
 ·cases hF;exact cG af [[(0,bT h5)],[]]
 exact wb af aO () [[(0,bF h5)],[(2,oq (dh h3 rfl h2))]] h3 hF
def Il(N:Nat)(v1:akb aI):akd Bool:=
 Option.bind (IX N v1) fun v2=>
 some (decide (v2≥(0:Int)))
theorem aia(N:Nat)(v1:akb aI)(r:Bool)(hF:Il N v1=some r):bO Tryz.prog 166 [(.d (.sl (cl v1))),(.fn 169 [])] [] fun r1 h1=>r1=(aB r)∧h1=[]:=by
 rw[Il]at hF;refine eB 0 Tryz.func166 ?_;obtain⟨v2,h1,hF⟩:=ao hF;cases hF;exact cG af [[],[(7,oQ [(.d (.sl (cl v1))),(.fn 169 [])] [] [] (aeW N v1 v2 h1))]]
def E7(N:Nat)(v1:an):akd Bool:=
 Option.bind (bif (v1.ar==(3:Int))then Option.bind (Ar N v1.aV) fun v2=>
 some (!v2)else some false) fun v3=>
 bif v3 then
  some false
 else
  Option.bind (Il N v1.xIdx) fun v4=>
  some (!v4)
theorem afd(N:Nat)(v1:an)(r:Bool)(hF:E7 N v1=some r):aG Tryz.prog 95 [(aA v1)] (·=(aB r)):=by
 rw[E7]at hF;refine aP Tryz.func95 ?_;refine au af [[]] ?_;obtain⟨v3,h3,hF⟩:=ao hF;refine bf af [(11,(aB v3))] [.cells (aA v1).cells] ?_ ?_
 ·refine bc h3 (fun h1 h3=> ?_) fun h1 h3=> ?_
  ·obtain⟨v2,h2,h3⟩:=ao h3;cases h3;exact⟨[(3,bT h1)],[(19,cL (Tj N v1.aV v2 h2))],by kernel_rfl⟩
  cases h3;exact⟨[(3,bF h1)],[],by kernel_rfl⟩
 refine bc hF (fun h4 hF=> ?_) fun h4 hF=> ?_
 ·cases hF;exact wr af [[(0,bT h4)],[]]
 obtain⟨v4,h5,hF⟩:=ao hF;cases hF;exact wr af [[(0,bF h4)],[(7,oQ [(.d (.sl (cl v1.xIdx))),(.fn 169 [])] [.cells (aA v1).cells] [] (aia N v1.xIdx v4 h5))]]
def Al(N:Nat)(v1:Int)(v3:Bool):akd Int:=
 bif v3 then
  some (1:Int)
 else
  bif (v1==(11:Int))then
   some (3:Int)
  else
   some (2:Int)
def ye(N:Nat)(v1:Int)(v2:Bool):akd Int:=
 bif v2 then
  some (0:Int)
 else
  bif (v1==(8:Int))then
   Al N v1 (v1==(8:Int))
  else
   bif (v1==(12:Int))then
    Al N v1 (v1==(12:Int))
   else
    Al N v1 (v1==(18:Int))
def A4(N:Nat)(v1:Int):akd Int:=
 bif (v1==(1:Int))then
  ye N v1 (v1==(1:Int))
 else
  bif (v1==(2:Int))then
   ye N v1 (v1==(2:Int))
  else
   ye N v1 (v1==(3:Int))
theorem Uy(N:Nat)(v1:Int)(r:Int)(hF:A4 N v1=some r):aG Tryz.prog 170 [(aw v1)] (·=(aw r)):=by
 rw[A4]at hF;refine aP Tryz.func170 ?_;refine gN af r 1 [[],[],[]] [3,4] 0 (fun(v2:Bool)=>⟨14,[(3,(aw v1)),(4,(aB v2))],[]⟩) (ye N v1) ?_ ?_
 ·intro f1 aO;refine bc hF (fun h6 hF=> ?_) fun h6 hF=> ?_
  ·exact bM af aO (v1==(1:Int)) [[(0,bT h6)]] hF
  refine au af [[(0,bF h6)],[]] ?_;refine bc hF (fun h7 hF=> ?_) fun h7 hF=> ?_
  ·exact bM af aO (v1==(2:Int)) [[(0,bT h7)]] hF
  exact bM af aO (v1==(3:Int)) [[(0,bF h7)],[]] hF
 intro v2 hF;rw[ye]at hF;refine bc hF (fun h1 hF=> ?_) fun h1 hF=> ?_
 ·cases hF;exact wr af [[(0,bT h1)],[]]
 refine gN af r 2 [[(0,bF h1)],[]] [3,8] 0 (fun(v3:Bool)=>⟨14,[(3,(aw v1)),(8,(aB v3))],[]⟩) (Al N v1) ?_ ?_
 ·intro f2 eD;refine bc hF (fun h4 hF=> ?_) fun h4 hF=> ?_
  ·exact bM af eD (v1==(8:Int)) [[(0,bT h4)]] hF
  refine au af [[(0,bF h4)],[]] ?_;refine bc hF (fun h5 hF=> ?_) fun h5 hF=> ?_
  ·exact bM af eD (v1==(12:Int)) [[(0,bT h5)]] hF
  exact bM af eD (v1==(18:Int)) [[(0,bF h5)],[]] hF
 intro v3 hF;rw[Al]at hF;refine bc hF (fun h2 hF=> ?_) fun h2 hF=> ?_
 ·cases hF;exact wr af [[(0,bT h2)],[]]
 refine au af [[(0,bF h2)],[]] ?_;refine bc hF (fun h3 hF=> ?_) fun h3 hF=> ?_
 ·cases hF;exact wr af [[(0,bT h3)],[]]
 cases hF;exact wr af [[(0,bF h3)],[]]
def Jp(N:Nat)(v1:aI):akd Bool:=
 some (decide ((v1.bC.length:Int)>(6:Int)))
theorem Zq(N:Nat)(v1:aI)(r:Bool)(hF:Jp N v1=some r):aG Tryz.prog 171 [(gB v1)] (·=(aB r)):=by
 rw[Jp]at hF;refine aP Tryz.func171 ?_;cases hF;exact wr af [[],[(7,oL v1.bC eG)]]
def uQ(N:Nat):akb aI→Nat→akd Int
 |[],_=>
  some (-1:Int)
 |v4::v5,v2=>
  Option.bind (Jp N v4) fun v6=>
  bif v6 then
   some (v2:Int)
  else
   (uQ N v5 (v2+1))
def Hk(N:Nat)(v1:akb aI):akd Int:=
 uQ N v1 0
theorem aer(N:Nat)(v1:akb aI)(r:Int)(hF:Hk N v1=some r):bO Tryz.prog 232 [(.d (.sl (cl v1))),(.fn 171 [])] [] fun r1 h1=>r1=(aw r)∧h1=[]:=by
 rw[Hk]at hF;refine eB 0 Tryz.func232 ?_;refine au af [[],[(4,oL v1 dP)]] ?_;refine fO ml 0 v1 fun h2=> ?_;refine fE af 1 [] [0,1,7,8] 0 v1 (fun v2=>⟨19,[(0,(.d (.sl (cl v1)))),(1,(.fn 171 [])),(7,(aw (v1.length:Int))),(8,(aw (v2:Int)))],[]⟩) (uQ N) hF ?_ ?_
 ·intro v2 h3 hF f1;rw[uQ]at hF;cases hF;exact cG af [[],[(0,bF (cJ h3))],[]]
 intro v2 v4 v5 h3 hF f1 aO;rw[uQ]at hF;obtain⟨v6,h4,hF⟩:=ao hF;refine au af [[],[(0,bT (cD h3))],[],[(10,oE (fz (cd h3))),(16,cL (Zq N v4 v6 h4))]] ?_;refine bc hF (fun h5 hF=> ?_) fun h5 hF=> ?_
 ·cases hF;exact cG af [[(0,bT h5)],[]]
 exact wb af aO () [[(0,bF h5)],[(2,oq (dh h3 rfl h2))]] h3 hF
def GB(N:Nat)(v1:akb aI):akd Bool:=
 Option.bind (Hk N v1) fun v2=>
 some (decide (v2≥(0:Int)))
theorem abq(N:Nat)(v1:akb aI)(r:Bool)(hF:GB N v1=some r):bO Tryz.prog 166 [(.d (.sl (cl v1))),(.fn 171 [])] [] fun r1 h1=>r1=(aB r)∧h1=[]:=by
 rw[GB]at hF;refine eB 0 Tryz.func166 ?_;obtain⟨v2,h1,hF⟩:=ao hF;cases hF;exact cG af [[],[(7,oQ [(.d (.sl (cl v1))),(.fn 171 [])] [] [] (aer N v1 v2 h1))]]
def Fh(N:Nat)(v1:an):akd Bool:=
 Option.bind (A4 N v1.ar) fun v2=>
 Option.bind (bif ((v1.ax.length:Int) !=v2)then some true else some (decide ((v1.xIdx.length:Int)>(6:Int)))) fun v3=>
 bif v3 then
  some false
 else
  Option.bind (GB N v1.xIdx) fun v4=>
  some (!v4)
theorem ab9(N:Nat)(v1:an)(r:Bool)(hF:Fh N v1=some r):aG Tryz.prog 96 [(aA v1)] (·=(aB r)):=by
 rw[Fh]at hF;refine aP Tryz.func96 ?_;refine au af [[]] ?_;obtain⟨v2,h1,hF⟩:=ao hF;obtain⟨v3,h3,hF⟩:=ao hF;refine bf af [(15,(aB v3))] [.cells (aA v1).cells] ?_ ?_
 ·refine bc h3 (fun h2 h3=> ?_) fun h2 h3=> ?_
  ·cases h3;exact⟨[(7,bT h2)],[(7,oL v1.ax dD),(16,cL (Uy N v1.ar v2 h1))],by kernel_rfl⟩
  cases h3;exact⟨[(7,bF h2)],[(7,oL v1.ax dD),(16,cL (Uy N v1.ar v2 h1)),(31,oL v1.xIdx dP)],by kernel_rfl⟩
 refine bc hF (fun h4 hF=> ?_) fun h4 hF=> ?_
 ·cases hF;exact wr af [[(0,bT h4)],[]]
 obtain⟨v4,h5,hF⟩:=ao hF;cases hF;exact wr af [[(0,bF h4)],[(7,oQ [(.d (.sl (cl v1.xIdx))),(.fn 171 [])] [.cells (aA v1).cells] [] (abq N v1.xIdx v4 h5))]]
def zg(N:Nat)(v1:an):akd Bool:=
 Option.bind (bif (decide ((13:Int)≤v1.ar))then some (decide (v1.ar≤(18:Int)))else some false) fun v2=>
 some v2
theorem T6(N:Nat)(v1:an)(r:Bool)(hF:zg N v1=some r):aG Tryz.prog 28 [(aA v1)] (·=(aB r)):=by
 rw[zg]at hF;refine aP Tryz.func28 ?_;refine au af [[]] ?_;obtain⟨v2,h2,hF⟩:=ao hF;refine bf af [(2,(aB v2))] [.cells (aA v1).cells] ?_ ?_
 ·refine bc h2 (fun h1 h2=> ?_) fun h1 h2=> ?_
  ·cases h2;exact⟨[(3,bT h1)],[],by kernel_rfl⟩
  cases h2;exact⟨[(3,bF h1)],[],by kernel_rfl⟩
 cases hF;exact wr af []
def yO(N:Nat)(v1:Int)(v2:Int)(v3:Bool):akd Bool:=
 bif v3 then
  some true
 else
  Option.bind (bif (v1==(11:Int))then some (v2==(0:Int))else some false) fun v4=>
  some v4
def Dt(N:Nat)(v1:Int)(v2:Int):akd Bool:=
 bif (v1==(16:Int))then
  yO N v1 v2 (v1==(16:Int))
 else
  bif (v1==(17:Int))then
   yO N v1 v2 (v1==(17:Int))
  else
   yO N v1 v2 (v1==(18:Int))
theorem agI(N:Nat)(v1:Int)(v2:Int)(r:Bool)(hF:Dt N v1 v2=some r):aG Tryz.prog 172 [(aw v1),(aw v2)] (·=(aB r)):=by
 rw[Dt]at hF;refine aP Tryz.func172 ?_;refine gN af r 1 [[],[],[]] [0,1,6] 0 (fun(v3:Bool)=>⟨16,[(0,(aw v1)),(1,(aw v2)),(6,(aB v3))],[]⟩) (yO N v1 v2) ?_ ?_
 ·intro f1 aO;refine bc hF (fun h4 hF=> ?_) fun h4 hF=> ?_
  ·exact bM af aO (v1==(16:Int)) [[(0,bT h4)]] hF
  refine au af [[(0,bF h4)],[]] ?_;refine bc hF (fun h5 hF=> ?_) fun h5 hF=> ?_
  ·exact bM af aO (v1==(17:Int)) [[(0,bT h5)]] hF
  exact bM af aO (v1==(18:Int)) [[(0,bF h5)],[]] hF
 intro v3 hF;rw[yO]at hF;refine bc hF (fun h1 hF=> ?_) fun h1 hF=> ?_
 ·cases hF;exact wr af [[(0,bT h1)],[]]
 refine au af [[(0,bF h1)]] ?_;obtain⟨v4,h3,hF⟩:=ao hF;refine bf af [(4,(aB v4))] [] ?_ ?_
 ·refine bc h3 (fun h2 h3=> ?_) fun h2 h3=> ?_
  ·cases h3;exact⟨[(2,bT h2)],[],by kernel_rfl⟩
  cases h3;exact⟨[(2,bF h2)],[],by kernel_rfl⟩
 cases hF;exact wr af []
def uG(N:Nat)(v1:an):akb an→Nat→akd Bool
 |[],_=>
  some true
 |v7::v8,v5=>
  Option.bind (zg N v7) fun v9=>
  Option.bind (Dt N v1.ar (v5:Int)) fun v10=>
  bif (v9==v10)then
   (uG N v1 v8 (v5+1))
  else
   some false
def BV(N:Nat)(v1:an):akd Bool:=
 Option.bind (bif (v1.ar==(1:Int))then Option.bind (lR N v1.aC) fun v2=>
 some (v2 !=(0:Int))else(bif (v1.ar==(12:Int))then Option.bind (lR N v1.aC) fun v3=>
 some (v3 !=(0:Int))else some false)) fun v4=>
 bif v4 then
  some false
 else
  uG N v1 v1.ax 0
theorem aay(N:Nat)(v1:an)(r:Bool)(hF:BV N v1=some r):aG Tryz.prog 97 [(aA v1)] (·=(aB r)):=by
 rw[BV]at hF;refine aP Tryz.func97 ?_;refine au af [[]] ?_;obtain⟨v4,h5,hF⟩:=ao hF;refine bf af [(18,(aB v4))] [.cells (aA v1).cells] ?_ ?_
 ·refine bc h5 (fun h1 h5=> ?_) fun h1 h5=> ?_
  ·obtain⟨v2,h2,h5⟩:=ao h5;cases h5;exact⟨[(3,bT h1),(8,bT rfl)],[(34,cL (m5 N v1.aC v2 h2))],by kernel_rfl⟩
  refine bc h5 (fun h3 h5=> ?_) fun h3 h5=> ?_
  ·obtain⟨v3,h4,h5⟩:=ao h5;cases h5;exact⟨[(3,bF h1),(8,bT h3)],[(34,cL (m5 N v1.aC v3 h4))],by kernel_rfl⟩
  cases h5;exact⟨[(3,bF h1),(8,bF h3)],[],by kernel_rfl⟩
 refine bc hF (fun h6 hF=> ?_) fun h6 hF=> ?_
 ·cases hF;exact wr af [[(0,bT h6)],[]]
 refine au af [[(0,bF h6)],[(7,oL v1.ax dD)]] ?_;refine fO kX 20 v1.ax fun h8=> ?_;refine fE af 1 [] [1,20,21,22] 1 v1.ax (fun v5=>⟨35,[(1,(.ptr 0 0)),(20,(.d (.sl (cq v1.ax)))),(21,(aw (v1.ax.length:Int))),(22,(aw (v5:Int)))],[.cells (aA v1).cells]⟩) (uG N v1) hF ?_ ?_
 ·intro v5 h9 hF f1;rw[uG]at hF;cases hF;exact wr af [[],[(0,bF (cJ h9))],[]]
 intro v5 v7 v8 h9 hF f1 aO;rw[uG]at hF;obtain⟨v9,az,hF⟩:=ao hF;obtain⟨v10,aE,hF⟩:=ao hF;refine au af [[],[(0,bT (cD h9))],[(4,oE (bq (cd h9)))],[(4,cL (T6 N v7 v9 az)),(16,cL (agI N v1.ar (v5:Int) v10 aE))]] ?_;refine bc hF (fun aN hF=> ?_) fun aN hF=> ?_
 ·exact wb af aO () [[(0,bF (not_t aN))],[(2,oq (dh h9 rfl h8))]] h9 hF
 cases hF;exact wr af [[(0,bT (bS aN))],[]]
def ug(N:Nat)(v1:Int):akd Bool:=
 Option.bind (bif (decide (v1≥(2:Int)))then some (decide (v1≤(31:Int)))else some false) fun v2=>
 some v2
theorem Dp(N:Nat)(v1:Int)(r:Bool)(hF:ug N v1=some r):aG Tryz.prog 288 [(aw v1)] (·=(aB r)):=by
 rw[ug]at hF;refine aP Tryz.func288 ?_;refine au af [[]] ?_;obtain⟨v2,h2,hF⟩:=ao hF;refine bf af [(2,(aB v2))] [] ?_ ?_
 ·refine bc h2 (fun h1 h2=> ?_) fun h1 h2=> ?_
  ·cases h2;exact⟨[(2,bT h1)],[],by kernel_rfl⟩
  cases h2;exact⟨[(2,bF h1)],[],by kernel_rfl⟩
 cases hF;exact wr af []
def zX(N:Nat)(v1:Int):akd Int64:=
 Option.bind (ug N v1) fun v2=>
 bif v2 then
  bif (decide ((0:Int)≤(IntKind.u64.wrap (aS (v1-(1:Int))))))then
  some (-(Int64.ofInt ((1:Int)*2^(min ((IntKind.u64.wrap (aS (v1-(1:Int))))).toNat (IntKind.bits .i64)))))
  else none
 else
  some (0:Int64)
theorem OM(N:Nat)(v1:Int)(r:Int64)(hF:zX N v1=some r):aG Tryz.prog 233 [(aw v1)] (·=(aH r)):=by
 rw[zX]at hF;refine aP Tryz.func233 ?_;obtain⟨v2,h1,hF⟩:=ao hF;refine au af [[],[(4,cL (Dp N v1 v2 h1))]] ?_;refine bc hF (fun h2 hF=> ?_) fun h2 hF=> ?_
 ·obtain⟨h3,hF⟩:=dn hF;cases hF;exact wr af [[(0,bF (not_t h2))],[(10,⟨_,_, .nn (b:=(IntKind.u64.wrap (aS (v1-(1:Int))))) (of_decide_eq_true h3)⟩),(11,⟨_,_, .eq (eK ((1:Int)*2^(min ((IntKind.u64.wrap (aS (v1-(1:Int))))).toNat (IntKind.bits .i64))))⟩),(14,⟨_,_, .eq (jn (Int64.ofInt ((1:Int)*2^(min ((IntKind.u64.wrap (aS (v1-(1:Int))))).toNat (IntKind.bits .i64)))))⟩)]]
 cases hF;exact wr af [[(0,bT (bS h2))],[]]
def xm(N:Nat)(v1:Int):akd Int64:=
 Option.bind (ug N v1) fun v2=>
 bif v2 then
  bif (decide ((0:Int)≤(IntKind.u64.wrap (aS (v1-(1:Int))))))then
  some ((Int64.ofInt ((1:Int)*2^(min ((IntKind.u64.wrap (aS (v1-(1:Int))))).toNat (IntKind.bits .i64))))-(1:Int64))
  else none
 else
  some (0:Int64)
theorem UG(N:Nat)(v1:Int)(r:Int64)(hF:xm N v1=some r):aG Tryz.prog 234 [(aw v1)] (·=(aH r)):=by
 rw[xm]at hF;refine aP Tryz.func234 ?_;obtain⟨v2,h1,hF⟩:=ao hF;refine au af [[],[(4,cL (Dp N v1 v2 h1))]] ?_;refine bc hF (fun h2 hF=> ?_) fun h2 hF=> ?_
 ·obtain⟨h3,hF⟩:=dn hF;cases hF;exact wr af [[(0,bF (not_t h2))],[(10,⟨_,_, .nn (b:=(IntKind.u64.wrap (aS (v1-(1:Int))))) (of_decide_eq_true h3)⟩),(11,⟨_,_, .eq (eK ((1:Int)*2^(min ((IntKind.u64.wrap (aS (v1-(1:Int))))).toNat (IntKind.bits .i64))))⟩),(14,⟨_,_, .eq (ga (Int64.ofInt ((1:Int)*2^(min ((IntKind.u64.wrap (aS (v1-(1:Int))))).toNat (IntKind.bits .i64)))) (1:Int64))⟩)]]
 cases hF;exact wr af [[(0,bT (bS h2))],[]]
def n3(N:Nat)(v1:aD)(v2:ay):akd Bool:=
 Option.bind (q8 N v1) fun v3=>
 Option.bind (bif (v3==(0:Int))then(bif (v2.xD.toInt==(1:Int))then Option.bind (zX N v1.bz) fun v4=>
 (bif (decide (v2.xN.toInt≥v4.toInt))then Option.bind (xm N v1.bz) fun v5=>
 some (decide (v2.xN.toInt≤v5.toInt))else some false)else some false)else some false) fun v6=>
 some v6
theorem LF(N:Nat)(v1:aD)(v2:ay)(r:Bool)(hF:n3 N v1 v2=some r):aG Tryz.prog 173 [(b4 v1),(bj v2)] (·=(aB r)):=by
 rw[n3]at hF;refine aP Tryz.func173 ?_;refine au af [[]] ?_;obtain⟨v3,h1,hF⟩:=ao hF;obtain⟨v6,h7,hF⟩:=ao hF;refine bf af [(4,(aB v6))] [.cells (b4 v1).cells, .cells (bj v2).cells] ?_ ?_
 ·refine bc h7 (fun h2 h7=> ?_) fun h2 h7=> ?_
  ·refine bc h7 (fun h3 h7=> ?_) fun h3 h7=> ?_
   ·obtain⟨v4,h4,h7⟩:=ao h7;refine bc h7 (fun h5 h7=> ?_) fun h5 h7=> ?_
    ·obtain⟨v5,h6,h7⟩:=ao h7;cases h7;exact⟨[(3,bT h2),(8,bT h3),(16,bT h5)],[(4,cL (uM N v1 v3 h1)),(40,cL (OM N v1.bz v4 h4)),(64,cL (UG N v1.bz v5 h6))],by kernel_rfl⟩
    cases h7;exact⟨[(3,bT h2),(8,bT h3),(16,bF h5)],[(4,cL (uM N v1 v3 h1)),(40,cL (OM N v1.bz v4 h4))],by kernel_rfl⟩
   cases h7;exact⟨[(3,bT h2),(8,bF h3),(16,bF rfl)],[(4,cL (uM N v1 v3 h1))],by kernel_rfl⟩
  cases h7;exact⟨[(3,bF h2),(8,bF rfl),(16,bF rfl)],[(4,cL (uM N v1 v3 h1))],by kernel_rfl⟩
 cases hF;exact wr af []
def l8(N:Nat)(v1:Int64):akd Bool:=
 Option.bind (bif (decide (v1.toInt≥(-2147483647:Int)))then some (decide (v1.toInt≤(2147483647:Int)))else some false) fun v2=>
 some v2
theorem zK(N:Nat)(v1:Int64)(r:Bool)(hF:l8 N v1=some r):aG Tryz.prog 174 [(aH v1)] (·=(aB r)):=by
 rw[l8]at hF;refine aP Tryz.func174 ?_;refine au af [[]] ?_;obtain⟨v2,h2,hF⟩:=ao hF;refine bf af [(2,(aB v2))] [] ?_ ?_
 ·refine bc h2 (fun h1 h2=> ?_) fun h1 h2=> ?_
  ·cases h2;exact⟨[(2,bT h1)],[],by kernel_rfl⟩
  cases h2;exact⟨[(2,bF h1)],[],by kernel_rfl⟩
 cases hF;exact wr af []
def GP(N:Nat)(v1:Int64):akd Bool:=
 Option.bind (bif (decide (v1.toInt≥(-2147483647:Int)))then some (decide (v1.toInt≤(2147483647:Int)))else some false) fun v2=>
 some v2
theorem Tu(N:Nat)(v1:Int64)(r:Bool)(hF:GP N v1=some r):aG Tryz.prog 235 [(aH v1)] (·=(aB r)):=by
 rw[GP]at hF;refine aP Tryz.func235 ?_;refine au af [[]] ?_;obtain⟨v2,h2,hF⟩:=ao hF;refine bf af [(2,(aB v2))] [] ?_ ?_
 ·refine bc h2 (fun h1 h2=> ?_) fun h1 h2=> ?_
  ·cases h2;exact⟨[(2,bT h1)],[],by kernel_rfl⟩
  cases h2;exact⟨[(2,bF h1)],[],by kernel_rfl⟩
 cases hF;exact wr af []
def uA(N:Nat)(v1:Int64):akd Int:=
 bif (decide (v1.toInt<(0:Int)))then
  some (IntKind.u64.wrap (0-(IntKind.u64.wrap v1.toInt)))
 else
  some (IntKind.u64.wrap v1.toInt)
theorem KN(N:Nat)(v1:Int64)(r:Int)(hF:uA N v1=some r):aG Tryz.prog 237 [(aH v1)] (·=(.d (.v (.int .u64 r)))):=by
 rw[uA]at hF;refine aP Tryz.func237 ?_;refine au af [[],[]] ?_;refine bc hF (fun h1 hF=> ?_) fun h1 hF=> ?_
 ·cases hF;exact wr af [[(0,bT h1)],[]]
 cases hF;exact wr af [[(0,bF h1)],[]]
def zf(N:Nat):Nat→Int→Int→akd Int
 |0,_,_=>none
 |v3+1,v4,v5=>
  bif (v5 !=(0:Int))then
   (fun cX gh=>zf N v3 cX gh) v5 ((v4).tmod v5)
  else
   some v4
def vF(N:Nat)(v1:Int)(v2:Int):akd Int:=
 zf N N v1 v2
theorem O7(N:Nat)(v1:Int)(v2:Int)(r:Int)(hF:vF N v1 v2=some r):aG Tryz.prog 236 [(.d (.v (.int .u64 v1))),(.d (.v (.int .u64 v2)))] (·=(.d (.v (.int .u64 r)))):=by
 rw[vF]at hF;refine aP Tryz.func236 ?_;refine NZ af 1 [[]] [0,1] 0 (fun(v4:Int)(v5:Int)=>⟨12,[(0,(.d (.v (.int .u64 v4)))),(1,(.d (.v (.int .u64 v5))))],[]⟩) (zf N) N v1 v2 hF ?_;intro v3 v4 v5 hF f1 aO;rw[zf]at hF;refine au af [[]] ?_;refine bc hF (fun h1 hF=> ?_) fun h1 hF=> ?_
 ·exact yw af aO (v5,((v4).tmod v5)) [[(0,bT h1)],[(10,⟨_,_, .nz (b:=v5) (bne_iff_ne.1 h1)⟩)]] hF
 cases hF;exact wr af [[(0,bF h1)],[]]
def ie(N:Nat)(v1:ay):akd Bool:=
 Option.bind (bif (decide (v1.xD.toInt≥(1:Int)))then(bif (decide (v1.xD.toInt≤(2147483647:Int)))then Option.bind (GP N v1.xN) fun v2=>
 (bif v2 then Option.bind (uA N v1.xN) fun v3=>
 Option.bind (vF N v3 (IntKind.u64.wrap v1.xD.toInt)) fun v4=>
 some (v4==(1:Int))else some false)else some false)else some false) fun v5=>
 some v5
theorem gG(N:Nat)(v1:ay)(r:Bool)(hF:ie N v1=some r):aG Tryz.prog 175 [(bj v1)] (·=(aB r)):=by
 rw[ie]at hF;refine aP Tryz.func175 ?_;refine au af [[]] ?_;obtain⟨v5,h7,hF⟩:=ao hF;refine bf af [(2,(aB v5))] [.cells (bj v1).cells] ?_ ?_
 ·refine bc h7 (fun h1 h7=> ?_) fun h1 h7=> ?_
  ·refine bc h7 (fun h2 h7=> ?_) fun h2 h7=> ?_
   ·obtain⟨v2,h3,h7⟩:=ao h7;refine bc h7 (fun h4 h7=> ?_) fun h4 h7=> ?_
    ·obtain⟨v3,h5,h7⟩:=ao h7;obtain⟨v4,h6,h7⟩:=ao h7;cases h7;exact⟨[(3,bT h1),(8,bT h2),(13,bT h4)],[(34,cL (Tu N v1.xN v2 h3)),(49,cL (KN N v1.xN v3 h5)),(61,cL (O7 N v3 (IntKind.u64.wrap v1.xD.toInt) v4 h6))],by kernel_rfl⟩
    cases h7;exact⟨[(3,bT h1),(8,bT h2),(13,bF h4)],[(34,cL (Tu N v1.xN v2 h3))],by kernel_rfl⟩
   cases h7;exact⟨[(3,bT h1),(8,bF h2),(13,bF rfl)],[],by kernel_rfl⟩
  cases h7;exact⟨[(3,bF h1),(8,bF rfl),(13,bF rfl)],[],by kernel_rfl⟩
 cases hF;exact wr af []
def mq(N:Nat)(v1:aD)(v2:ay):akd Bool:=
 Option.bind (lR N v1) fun v3=>
 bif (v3 !=(0:Int))then
  some false
 else
  bif (v1.a8==(2:Int))then
   Option.bind (n3 N v1 v2) fun v4=>
   some v4
  else
   bif (v1.a8==(3:Int))then
    Option.bind (bif (v2.xD.toInt==(1:Int))then Option.bind (l8 N v2.xN) fun v5=>
    some v5 else some false) fun v6=>
    some v6
   else
    Option.bind (ie N v2) fun v7=>
    some v7
theorem qa(N:Nat)(v1:aD)(v2:ay)(r:Bool)(hF:mq N v1 v2=some r):aG Tryz.prog 98 [(b4 v1),(bj v2)] (·=(aB r)):=by
 rw[mq]at hF;refine aP Tryz.func98 ?_;obtain⟨v3,h1,hF⟩:=ao hF;refine au af [[],[(4,cL (m5 N v1 v3 h1))]] ?_;refine bc hF (fun h2 hF=> ?_) fun h2 hF=> ?_
 ·cases hF;exact wr af [[(0,bT h2)],[]]
 refine au af [[(0,bF h2)],[],[]] ?_;refine bc hF (fun h3 hF=> ?_) fun h3 hF=> ?_
 ·obtain⟨v4,h4,hF⟩:=ao hF;obtain rfl:=sj hF;exact wr af [[(0,bT h3)],[(7,cL (LF N v1 v2 v4 h4))]]
 refine au af [[(0,bF h3)],[]] ?_;refine bc hF (fun h5 hF=> ?_) fun h5 hF=> ?_
 ·refine au af [[(0,bT h5)]] ?_;obtain⟨v6,h8,hF⟩:=ao hF;refine bf af [(4,(aB v6))] [.cells (b4 v1).cells, .cells (bj v2).cells] ?_ ?_
  ·refine bc h8 (fun h6 h8=> ?_) fun h6 h8=> ?_
   ·obtain⟨v5,h7,h8⟩:=ao h8;obtain rfl:=sj h8;exact⟨[(3,bT h6)],[(19,cL (zK N v2.xN v5 h7))],by kernel_rfl⟩
   cases h8;exact⟨[(3,bF h6)],[],by kernel_rfl⟩
  cases hF;exact wr af []
 obtain⟨v7,h9,hF⟩:=ao hF;obtain rfl:=sj hF;exact wr af [[(0,bF h5)],[(4,cL (gG N v2 v7 h9))]]
def Of(N:Nat)(v1:an):akd an:=some v1
theorem ags(N:Nat)(v1 r:an)(hF:Of N v1=some r):aG Tryz.prog 99 [(aA v1)] (·=(.fn 176 [(.bD [cF r] 0 0)])):=by
 cases hF;exact aa7 v1
def fR(N:Nat)(v2:Bool):akd Bool:=
 bif v2 then
  some true
 else
  some false
def Dh(N:Nat)(v1:akc):akd Bool:=
 bif (bL v1==bL (bs [115,105,122,101]))then
  fR N (bL v1==bL (bs [115,105,122,101]))
 else
  bif (bL v1==bL (bs [119,104,101,114,101]))then
   fR N (bL v1==bL (bs [119,104,101,114,101]))
  else
   bif (bL v1==bL (bs [105,110]))then
    fR N (bL v1==bL (bs [105,110]))
   else
    bif (bL v1==bL (bs [100,101,102]))then
     fR N (bL v1==bL (bs [100,101,102]))
    else
     bif (bL v1==bL (bs [111,117,116]))then
      fR N (bL v1==bL (bs [111,117,116]))
     else
      bif (bL v1==bL (bs [115,117,109]))then
       fR N (bL v1==bL (bs [115,117,109]))
      else
       bif (bL v1==bL (bs [112,114,111,100]))then
        fR N (bL v1==bL (bs [112,114,111,100]))
       else
        bif (bL v1==bL (bs [109,105,110]))then
         fR N (bL v1==bL (bs [109,105,110]))
        else
         bif (bL v1==bL (bs [109,97,120]))then
          fR N (bL v1==bL (bs [109,97,120]))
         else
          bif (bL v1==bL (bs [115,99,97,110]))then
           fR N (bL v1==bL (bs [115,99,97,110]))
          else
           bif (bL v1==bL (bs [111,118,101,114]))then
            fR N (bL v1==bL (bs [111,118,101,114]))
           else
            bif (bL v1==bL (bs [105,102]))then
             fR N (bL v1==bL (bs [105,102]))
            else
             bif (bL v1==bL (bs [99,97,115,116]))then
              fR N (bL v1==bL (bs [99,97,115,116]))
             else
              bif (bL v1==bL (bs [102,114,97,99]))then
               fR N (bL v1==bL (bs [102,114,97,99]))
              else
               bif (bL v1==bL (bs [105,110,116]))then
                fR N (bL v1==bL (bs [105,110,116]))
               else
                bif (bL v1==bL (bs [102,105,120]))then
                 fR N (bL v1==bL (bs [102,105,120]))
                else
                 bif (bL v1==bL (bs [99,101,105,108]))then
                  fR N (bL v1==bL (bs [99,101,105,108]))
                 else
                  bif (bL v1==bL (bs [102,108,111,111,114]))then
                   fR N (bL v1==bL (bs [102,108,111,111,114]))
                  else
                   bif (bL v1==bL (bs [122,101,114,111]))then
                    fR N (bL v1==bL (bs [122,101,114,111]))
                   else
                    bif (bL v1==bL (bs [101,118,101,110]))then
                     fR N (bL v1==bL (bs [101,118,101,110]))
                    else
                     bif (bL v1==bL (bs [115,97,116]))then
                      fR N (bL v1==bL (bs [115,97,116]))
                     else
                      fR N (bL v1==bL (bs [119,114,97,112]))
theorem LD(N:Nat)(v1:akc)(r:Bool)(hF:Dh N v1=some r):aG Tryz.prog 238 [(aR v1)] (·=(aB r)):=by
 rw[Dh]at hF;refine aP Tryz.func238 ?_;refine gN af r 1 [[],[],[]] [4] 0 (fun(v2:Bool)=>⟨27,[(4,(aB v2))],[]⟩) (fR N) ?_ ?_
 ·intro f1 aO;refine bc hF (fun h2 hF=> ?_) fun h2 hF=> ?_
  ·exact bM af aO (bL v1==bL (bs [115,105,122,101])) [[(0,bT h2)]] hF
  refine au af [[(0,bF h2)],[]] ?_;refine bc hF (fun h3 hF=> ?_) fun h3 hF=> ?_
  ·exact bM af aO (bL v1==bL (bs [119,104,101,114,101])) [[(0,bT h3)]] hF
  refine au af [[(0,bF h3)],[]] ?_;refine bc hF (fun h4 hF=> ?_) fun h4 hF=> ?_
  ·exact bM af aO (bL v1==bL (bs [105,110])) [[(0,bT h4)]] hF
  refine au af [[(0,bF h4)],[]] ?_;refine bc hF (fun h5 hF=> ?_) fun h5 hF=> ?_
  ·exact bM af aO (bL v1==bL (bs [100,101,102])) [[(0,bT h5)]] hF
  refine au af [[(0,bF h5)],[]] ?_;refine bc hF (fun h6 hF=> ?_) fun h6 hF=> ?_
  ·exact bM af aO (bL v1==bL (bs [111,117,116])) [[(0,bT h6)]] hF
  refine au af [[(0,bF h6)],[]] ?_;refine bc hF (fun h7 hF=> ?_) fun h7 hF=> ?_
  ·exact bM af aO (bL v1==bL (bs [115,117,109])) [[(0,bT h7)]] hF
  refine au af [[(0,bF h7)],[]] ?_;refine bc hF (fun h8 hF=> ?_) fun h8 hF=> ?_
  ·exact bM af aO (bL v1==bL (bs [112,114,111,100])) [[(0,bT h8)]] hF
  refine au af [[(0,bF h8)],[]] ?_;refine bc hF (fun h9 hF=> ?_) fun h9 hF=> ?_
  ·exact bM af aO (bL v1==bL (bs [109,105,110])) [[(0,bT h9)]] hF
  refine au af [[(0,bF h9)],[]] ?_;refine bc hF (fun az hF=> ?_) fun az hF=> ?_
  ·exact bM af aO (bL v1==bL (bs [109,97,120])) [[(0,bT az)]] hF
  refine au af [[(0,bF az)],[]] ?_;refine bc hF (fun aE hF=> ?_) fun aE hF=> ?_
  ·exact bM af aO (bL v1==bL (bs [115,99,97,110])) [[(0,bT aE)]] hF
  refine au af [[(0,bF aE)],[]] ?_;refine bc hF (fun aN hF=> ?_) fun aN hF=> ?_
  ·exact bM af aO (bL v1==bL (bs [111,118,101,114])) [[(0,bT aN)]] hF
  refine au af [[(0,bF aN)],[]] ?_;refine bc hF (fun aY hF=> ?_) fun aY hF=> ?_
  ·exact bM af aO (bL v1==bL (bs [105,102])) [[(0,bT aY)]] hF
  refine au af [[(0,bF aY)],[]] ?_;refine bc hF (fun aJ hF=> ?_) fun aJ hF=> ?_
  ·exact bM af aO (bL v1==bL (bs [99,97,115,116])) [[(0,bT aJ)]] hF
  refine au af [[(0,bF aJ)],[]] ?_;refine bc hF (fun bt hF=> ?_) fun bt hF=> ?_
  ·exact bM af aO (bL v1==bL (bs [102,114,97,99])) [[(0,bT bt)]] hF
  refine au af [[(0,bF bt)],[]] ?_;refine bc hF (fun aM hF=> ?_) fun aM hF=> ?_
  ·exact bM af aO (bL v1==bL (bs [105,110,116])) [[(0,bT aM)]] hF
  refine au af [[(0,bF aM)],[]] ?_;refine bc hF (fun bp hF=> ?_) fun bp hF=> ?_
  ·exact bM af aO (bL v1==bL (bs [102,105,120])) [[(0,bT bp)]] hF
  refine au af [[(0,bF bp)],[]] ?_;refine bc hF (fun a7 hF=> ?_) fun a7 hF=> ?_
  ·exact bM af aO (bL v1==bL (bs [99,101,105,108])) [[(0,bT a7)]] hF
  refine au af [[(0,bF a7)],[]] ?_;refine bc hF (fun bR hF=> ?_) fun bR hF=> ?_
  ·exact bM af aO (bL v1==bL (bs [102,108,111,111,114])) [[(0,bT bR)]] hF
  refine au af [[(0,bF bR)],[]] ?_;refine bc hF (fun b5 hF=> ?_) fun b5 hF=> ?_
  ·exact bM af aO (bL v1==bL (bs [122,101,114,111])) [[(0,bT b5)]] hF
  refine au af [[(0,bF b5)],[]] ?_;refine bc hF (fun ck hF=> ?_) fun ck hF=> ?_
  ·exact bM af aO (bL v1==bL (bs [101,118,101,110])) [[(0,bT ck)]] hF
  refine au af [[(0,bF ck)],[]] ?_;refine bc hF (fun bw hF=> ?_) fun bw hF=> ?_
  ·exact bM af aO (bL v1==bL (bs [115,97,116])) [[(0,bT bw)]] hF
  exact bM af aO (bL v1==bL (bs [119,114,97,112])) [[(0,bF bw)],[]] hF
 intro v2 hF;rw[fR]at hF;refine bc hF (fun h1 hF=> ?_) fun h1 hF=> ?_
 ·cases hF;exact wr af [[(0,bT h1)],[]]
 cases hF;exact wr af [[(0,bF h1)],[]]
def xe(N:Nat)(v1:akc):Nat→Int→akd Bool
 |0,_=>none
 |v5+1,v6=>
  bif (decide (v6<(v1.size:Int)))then
   bif (decide ((0:Int)≤v6))then
   Option.bind (v1[(v6).toNat]?) fun v7=>
   Option.bind (bif (decide ((v7.toNat:Int)<(97:Int)))then(bif (decide ((v7.toNat:Int)<(48:Int)))then some ((v7.toNat:Int) !=(95:Int))else(bif (decide ((v7.toNat:Int)>(57:Int)))then some ((v7.toNat:Int) !=(95:Int))else some false))else(bif (decide ((v7.toNat:Int)>(122:Int)))then(bif (decide ((v7.toNat:Int)<(48:Int)))then some ((v7.toNat:Int) !=(95:Int))else(bif (decide ((v7.toNat:Int)>(57:Int)))then some ((v7.toNat:Int) !=(95:Int))else some false))else some false)) fun v8=>
   bif v8 then
    some false
   else
    (fun cX=>xe N v1 v5 cX) (aS (v6+(1:Int)))
   else none
  else
   some true
def CH(N:Nat)(v1:akc):akd Bool:=
 Option.bind (bif (decide ((v1.size:Int)<(1:Int)))then some true else(bif (decide ((v1.size:Int)>(16:Int)))then some true else Option.bind (Dh N v1) fun v2=>
 (bif v2 then some true else Option.bind (v1[0]?) fun v3=>
 (bif (decide ((v3.toNat:Int)<(97:Int)))then some true else some (decide ((v3.toNat:Int)>(122:Int))))))) fun v4=>
 bif v4 then
  some false
 else
  xe N v1 N (0:Int)
theorem IL(N:Nat)(v1:akc)(r:Bool)(hF:CH N v1=some r):aG Tryz.prog 177 [(aR v1)] (·=(aB r)):=by
 rw[CH]at hF;refine aP Tryz.func177 ?_;refine au af [[]] ?_;obtain⟨v4,h7,hF⟩:=ao hF;refine bf af [(26,(aB v4))] [] ?_ ?_
 ·refine bc h7 (fun h1 h7=> ?_) fun h1 h7=> ?_
  ·cases h7;exact⟨[(3,bT h1),(8,bT rfl),(12,bT rfl),(17,bT rfl)],[],by kernel_rfl⟩
  refine bc h7 (fun h2 h7=> ?_) fun h2 h7=> ?_
  ·cases h7;exact⟨[(3,bF h1),(8,bT h2),(12,bT rfl),(17,bT rfl)],[],by kernel_rfl⟩
  obtain⟨v2,h3,h7⟩:=ao h7;refine bc h7 (fun h4 h7=> ?_) fun h4 h7=> ?_
  ·cases h7;exact⟨[(3,bF h1),(8,bF h2),(12,bT h4),(17,bT rfl)],[(31,cL (LD N v1 v2 h3))],by kernel_rfl⟩
  obtain⟨v3,h5,h7⟩:=ao h7;refine bc h7 (fun h6 h7=> ?_) fun h6 h7=> ?_
  ·cases h7;exact⟨[(3,bF h1),(8,bF h2),(12,bF h4),(17,bT h6)],[(31,cL (LD N v1 v2 h3)),(43,⟨_,_, .ch (i:=(0:Int)) (by decide) h5⟩)],by kernel_rfl⟩
  cases h7;exact⟨[(3,bF h1),(8,bF h2),(12,bF h4),(17,bF h6)],[(31,cL (LD N v1 v2 h3)),(43,⟨_,_, .ch (i:=(0:Int)) (by decide) h5⟩),(58,⟨_,_, .ch (i:=(0:Int)) (by decide) h5⟩)],by kernel_rfl⟩
 refine bc hF (fun h8 hF=> ?_) fun h8 hF=> ?_
 ·cases hF;exact wr af [[(0,bT h8)],[]]
 refine K5 af 1 [[(0,bF h8)],[]] [0,28,29] 0 (fun(v6:Int)=>⟨54,[(0,(aR v1)),(28,(aw (v1.size:Int))),(29,(aw v6))],[]⟩) (xe N v1) N (0:Int) hF ?_;intro v5 v6 hF f1 aO;rw[xe]at hF;refine au af [[]] ?_;refine bc hF (fun h9 hF=> ?_) fun h9 hF=> ?_
 ·obtain⟨aE,hF⟩:=dn hF;obtain⟨v7,az,hF⟩:=ao hF;refine au af [[(0,bT h9)],[],[(7,⟨_,_, .ch (i:=v6) (of_decide_eq_true aE) az⟩)]] ?_;obtain⟨v8,a7,hF⟩:=ao hF;refine bf af [(52,(aB v8))] [] ?_ ?_
  ·refine bc a7 (fun aN a7=> ?_) fun aN a7=> ?_
   ·refine bc a7 (fun aY a7=> ?_) fun aY a7=> ?_
    ·cases a7;exact⟨[(2,bT aN),(6,bT rfl),(9,bT aY),(14,bT rfl)],[(37,bT aY)],by kernel_rfl⟩
    refine bc a7 (fun aJ a7=> ?_) fun aJ a7=> ?_
    ·cases a7;exact⟨[(2,bT aN),(6,bT rfl),(9,bF aY),(14,bT aJ)],[(37,bF aY)],by kernel_rfl⟩
    cases a7;exact⟨[(2,bT aN),(6,bT rfl),(9,bF aY),(14,bF aJ)],[(37,bF aY)],by kernel_rfl⟩
   refine bc a7 (fun bt a7=> ?_) fun bt a7=> ?_
   ·refine bc a7 (fun aM a7=> ?_) fun aM a7=> ?_
    ·cases a7;exact⟨[(2,bF aN),(6,bT bt),(9,bT aM),(14,bT rfl)],[(37,bT aM)],by kernel_rfl⟩
    refine bc a7 (fun bp a7=> ?_) fun bp a7=> ?_
    ·cases a7;exact⟨[(2,bF aN),(6,bT bt),(9,bF aM),(14,bT bp)],[(37,bF aM)],by kernel_rfl⟩
    cases a7;exact⟨[(2,bF aN),(6,bT bt),(9,bF aM),(14,bF bp)],[(37,bF aM)],by kernel_rfl⟩
   cases a7;exact⟨[(2,bF aN),(6,bF bt),(9,uN),(14,bF rfl)],[],by kernel_rfl⟩
  refine bc hF (fun bR hF=> ?_) fun bR hF=> ?_
  ·cases hF;exact wr af [[(0,bT bR)],[]]
  exact yw af aO (aS (v6+(1:Int))) [[(0,bF bR)],[]] hF
 cases hF;exact wr af [[(0,bF h9)],[]]
def xd(N:Nat)(v1:aF):akb aU→Nat→akd Int
 |[],_=>
  some (0:Int)
 |v4::v5,v2=>
  Option.bind (CH N v4.aV) fun v6=>
  Option.bind (bif v6 then(bif (v4.cH.toInt==(0:Int))then some true else(bif (decide ((v2:Int)>(0:Int)))then bif (decide ((0:Int)≤(aS ((v2:Int)-(1:Int)))))then
  Option.bind (v1.xL[((aS ((v2:Int)-(1:Int)))).toNat]?) fun v7=>
  some (!(Op.bytesLess (bL v7.aV) (bL v4.aV)))
  else none else some false))else some true) fun v8=>
  bif v8 then
   some (1:Int)
  else
   (xd N v1 v5 (v2+1))
def vr(N:Nat)(v1:aF):akd Int:=
 xd N v1 v1.xL 0
theorem B9(N:Nat)(v1:aF)(r:Int)(hF:vr N v1=some r):aG Tryz.prog 100 [(b9 v1)] (·=(aw r)):=by
 rw[vr]at hF;refine aP Tryz.func100 ?_;refine au af [[],[(7,oL v1.xL dd)]] ?_;refine fO nG 6 v1.xL fun h2=> ?_;refine fE af 1 [] [1,6,7,8] 1 v1.xL (fun v2=>⟨39,[(1,(.ptr 0 0)),(6,(.d (.sl (bZ v1.xL)))),(7,(aw (v1.xL.length:Int))),(8,(aw (v2:Int)))],[.cells (b9 v1).cells]⟩) (xd N v1) hF ?_ ?_
 ·intro v2 h3 hF f1;rw[xd]at hF;cases hF;exact wr af [[],[(0,bF (cJ h3))],[]]
 intro v2 v4 v5 h3 hF f1 aO;rw[xd]at hF;refine au af [[],[(0,bT (cD h3))],[(4,oE (eN (cd h3)))]] ?_;obtain⟨v6,h4,hF⟩:=ao hF;obtain⟨v8,az,hF⟩:=ao hF;refine bf af [(37,(aB v8))] [.cells (b9 v1).cells, .cells (GN v4).cells] ?_ ?_
 ·refine bc az (fun h5 az=> ?_) fun h5 az=> ?_
  ·refine bc az (fun h6 az=> ?_) fun h6 az=> ?_
   ·cases az;exact⟨[(4,bF (not_t h5)),(9,bT h6),(12,uN)],[(7,cL (IL N v4.aV v6 h4))],by kernel_rfl⟩
   refine bc az (fun h7 az=> ?_) fun h7 az=> ?_
   ·obtain⟨h9,az⟩:=dn az;obtain⟨v7,h8,az⟩:=ao az;cases az;exact⟨[(4,bF (not_t h5)),(9,bF h6),(12,bT h7)],[(7,cL (IL N v4.aV v6 h4)),(52,⟨_,_, .el (xs:=bZ v1.xL) (i:=(aS ((v2:Int)-(1:Int)))) (of_decide_eq_true h9) (eN h8)⟩),(70,bT h7)],by kernel_rfl⟩
   cases az;exact⟨[(4,bF (not_t h5)),(9,bF h6),(12,bF h7)],[(7,cL (IL N v4.aV v6 h4)),(70,bF h7)],by kernel_rfl⟩
  cases az;exact⟨[(4,bT (bS h5)),(9,bT rfl),(12,uN)],[(7,cL (IL N v4.aV v6 h4))],by kernel_rfl⟩
 refine bc hF (fun aE hF=> ?_) fun aE hF=> ?_
 ·cases hF;exact wr af [[(0,bT aE)],[]]
 exact wb af aO () [[(0,bF aE)],[(2,oq (dh h3 rfl h2))]] h3 hF
def sq(N:Nat):akb aF→akd Int
 |[]=>
  some (0:Int)
 |v9::v10=>
  Option.bind (vr N v9) fun v11=>
  bif (v11 !=(0:Int))then
   some (1:Int)
  else
   (sq N v10)
def Dl(N:Nat)(v1:an):akd Int:=
 Option.bind (EC N v1) fun v2=>
 bif v2 then
  Option.bind (E7 N v1) fun v3=>
  bif v3 then
   Option.bind (Fh N v1) fun v4=>
   bif v4 then
    Option.bind (BV N v1) fun v5=>
    bif v5 then
     Option.bind (bif (v1.ar==(1:Int))then Option.bind (mq N v1.aC v1.ba) fun v6=>
     some (!v6)else some false) fun v7=>
     bif v7 then
      some (1:Int)
     else
      Option.bind (Of N v1) fun v8=>
      sq N (mI v8)
    else
     some (10:Int)
   else
    some (11:Int)
  else
   some (7:Int)
 else
  some (5:Int)
def jW(v1:an)(l:akb aq):akb aq:= .cells (aA v1).cells:: .cells [(aw (0:Int))]::l
def uF(v1:an)(l:akb aq):akb aq:= .cells (aA v1).cells::l
theorem ah5(N:Nat)(v1:an)(r:Int)(hF:Dl N v1=some r):aG Tryz.prog 52 [(aA v1)] (·=(aw r)):=by
 rw[Dl]at hF;refine yW Tryz.func52 rfl (by kernel_rfl) ?_;refine ja [0] 0 (ajy _) (s':=⟨38,[(0,(aA v1))],[]⟩) (by kernel_rfl) ?_;refine bG ?_;refine rg [] [(1,(.ptr 0 0)),(2,(.ptr 1 0))] (jW v1 []) (by kernel_rfl) ?_;refine bG ?_;refine gv ?_;refine bG ?_;obtain⟨v2,h1,hF⟩:=ao hF;refine rg [(4,cL (W3 N v1 v2 h1))] [(4,(aB (!v2)))] (jW v1 []) (by kernel_rfl) ?_;rcases jQ v2 with h2|h2
 ·replace hF:=(eC h2).symm.trans hF;refine j6 (t:=(!v2)) (by kernel_rfl) (not_t h2) ?_;refine bG ?_;obtain⟨v3,h3,hF⟩:=ao hF;refine rg [(4,cL (afd N v1 v3 h3))] [(8,(aB (!v3)))] (jW v1 []) (by kernel_rfl) ?_;rcases jQ v3 with h4|h4
  ·replace hF:=(eC h4).symm.trans hF;refine j6 (t:=(!v3)) (by kernel_rfl) (not_t h4) ?_;refine bG ?_;obtain⟨v4,h5,hF⟩:=ao hF;refine rg [(4,cL (ab9 N v1 v4 h5))] [(12,(aB (!v4)))] (jW v1 []) (by kernel_rfl) ?_;rcases jQ v4 with h6|h6
   ·replace hF:=(eC h6).symm.trans hF;refine j6 (t:=(!v4)) (by kernel_rfl) (not_t h6) ?_;refine bG ?_;obtain⟨v5,h7,hF⟩:=ao hF;refine rg [(4,cL (aay N v1 v5 h7))] [(16,(aB (!v5)))] (jW v1 []) (by kernel_rfl) ?_;rcases jQ v5 with h8|h8
    ·replace hF:=(eC h8).symm.trans hF;refine j6 (t:=(!v5)) (by kernel_rfl) (not_t h8) ?_;refine bG ?_;obtain⟨v7,aE,hF⟩:=ao hF;refine YQ [(20,(aB v7))] (jW v1 []) ?_ ?_
     ·rcases jQ (v1.ar==(1:Int))with h9|h9
      ·replace aE:=(eC h9).symm.trans aE;obtain⟨v6,az,aE⟩:=ao aE;have he:=ajG aE;subst he;exact⟨[(12,bT h9),(15,bT h9),(18,bT h9),(21,bT h9),(24,bT h9),(25,cL (qa N v1.aC v1.ba v6 az)),(27,bT h9),(31,bT h9)],by kernel_rfl⟩
      replace aE:=(jG h9).symm.trans aE;have he:=ajG aE;subst he;exact⟨[(12,bF h9),(15,bF h9),(18,bF h9),(21,bF h9),(24,bF h9),(27,bF h9),(31,bF h9)],by kernel_rfl⟩
     rcases jQ v7 with aN|aN
     ·replace hF:=(eC aN).symm.trans hF;refine kd (t:=v7) (by kernel_rfl) aN ?_;refine bG ?_;refine rg [] [] (uF v1 [.cells [(aw (1:Int))]]) (by kernel_rfl) ?_;refine dV (gi (fp ?_));have hr:=ajG hF;subst hr;exact jI (by kernel_rfl)
     replace hF:=(jG aN).symm.trans hF;refine j6 (t:=v7) (by kernel_rfl) aN ?_;refine fG ?_;refine la ?_;refine cz ?_;refine bG ?_;refine bG ?_;obtain⟨v8,aY,hF⟩:=ao hF;refine rg [(4,cL (ags N v1 v8 aY))] [(33,(.fn 176 [(.bD [cF v8] 0 0)]))] (jW v1 []) (by kernel_rfl) ?_;refine gv ?_;refine ja [2,33] 2 (ajv rfl) (s':=⟨38,[(2,(.ptr 1 0)),(33,(.fn 176 [(.bD [cF v8] 0 0)]))],(jW v1 [])⟩) (by kernel_rfl) ?_;refine N9 (m:=2) (enc:=b9) (xs:=(mI v8)) (by kernel_rfl) (XO v8) (fun(_:Unit)=>(jW v1 [])) (fun(_:Unit) l=>sq N l=some r) () (by kernel_rfl) hF (by rintro _;rfl) (by rintro _;kernel_rfl) (by kernel_rfl) rfl ?_ ?_
     ·rintro _ v9 v10 hF aJ iN iH
      try dsimp only at hF
      rw[sq]at hF;refine ja [2,34] 3 (ajy _) (s':=⟨38,[(2,(.ptr 1 0)),(34,(b9 v9))],(jW v1 [.lp .ready 34 iN iH (dy 38 [(2,(.ptr 1 0)),(33,(.fn 176 [(.bD [cF v8] 0 0)]))])])⟩) (by kernel_rfl) ?_;refine re [] [(3,(.ptr 3 0))] (jW v1 [.lp .ready 34 iN iH (dy 38 [(2,(.ptr 1 0)),(33,(.fn 176 [(.bD [cF v8] 0 0)]))]), .cells (b9 v9).cells]) (by kernel_rfl) ?_;refine cz ?_;refine⟨(jW v1 []),[.cells (b9 v9).cells],rfl,(by kernel_rfl),?_⟩;refine ja [2,3] 4 (ajv rfl) (s':=⟨38,[(2,(.ptr 1 0)),(3,(.ptr 3 0))],(jW v1 [.lp .busy 34 iN iH (dy 38 [(2,(.ptr 1 0)),(33,(.fn 176 [(.bD [cF v8] 0 0)]))]), .cells (b9 v9).cells])⟩) (by kernel_rfl) ?_;refine gv ?_;refine bG ?_;obtain⟨v11,bt,hF⟩:=ao hF;refine rg [(4,cL (B9 N v9 v11 bt))] [(37,(aB (v11 !=(0:Int))))] (jW v1 [.lp .busy 34 iN iH (dy 38 [(2,(.ptr 1 0)),(33,(.fn 176 [(.bD [cF v8] 0 0)]))]), .cells (b9 v9).cells]) (by kernel_rfl) ?_;rcases jQ (v11 !=(0:Int))with aM|aM
      ·replace hF:=(eC aM).symm.trans hF;refine kd (t:=(v11 !=(0:Int))) (by kernel_rfl) aM ?_;refine bG ?_;refine rg [] [] (uF v1 [.cells [(aw (1:Int))], .lp .busy 34 iN iH (dy 38 [(2,(.ptr 1 0)),(33,(.fn 176 [(.bD [cF v8] 0 0)]))]), .cells (b9 v9).cells]) (by kernel_rfl) ?_;refine dV (gi ?_);refine Vg (uF v1 [.cells [(aw (1:Int))]]) rfl (by kernel_rfl) (by kernel_rfl) ?_;refine(gi (fp ?_));have hr:=ajG hF;subst hr;exact jI (by kernel_rfl)
      replace hF:=(jG aM).symm.trans hF;refine j6 (t:=(v11 !=(0:Int))) (by kernel_rfl) aM ?_;refine fG ?_;refine la ?_;refine MC (jW v1 []) rfl (by kernel_rfl) (by kernel_rfl) ?_;exact⟨(),(by kernel_rfl),hF⟩
     rintro _ hF
     try dsimp only at hF
     rw[sq]at hF;refine la ?_;refine cz ?_;refine bG ?_;refine rg [] [] (jW v1 [.gone]) (by kernel_rfl) ?_;refine dV ?_;have hr:=ajG hF;subst hr;exact jI (by kernel_rfl)
    replace hF:=(jG h8).symm.trans hF;refine kd (t:=(!v5)) (by kernel_rfl) (bS h8) ?_;refine bG ?_;refine rg [] [] (uF v1 [.cells [(aw (10:Int))]]) (by kernel_rfl) ?_;refine dV (gi (fp ?_));have hr:=ajG hF;subst hr;exact jI (by kernel_rfl)
   replace hF:=(jG h6).symm.trans hF;refine kd (t:=(!v4)) (by kernel_rfl) (bS h6) ?_;refine bG ?_;refine rg [] [] (uF v1 [.cells [(aw (11:Int))]]) (by kernel_rfl) ?_;refine dV (gi (fp ?_));have hr:=ajG hF;subst hr;exact jI (by kernel_rfl)
  replace hF:=(jG h4).symm.trans hF;refine kd (t:=(!v3)) (by kernel_rfl) (bS h4) ?_;refine bG ?_;refine rg [] [] (uF v1 [.cells [(aw (7:Int))]]) (by kernel_rfl) ?_;refine dV (gi (fp ?_));have hr:=ajG hF;subst hr;exact jI (by kernel_rfl)
 replace hF:=(jG h2).symm.trans hF;refine kd (t:=(!v2)) (by kernel_rfl) (bS h2) ?_;refine bG ?_;refine rg [] [] (uF v1 [.cells [(aw (5:Int))]]) (by kernel_rfl) ?_;refine dV (gi (fp ?_));have hr:=ajG hF;subst hr;exact jI (by kernel_rfl)
end Go.Proofs.YtpgmcallngdceaaGreatDoor
