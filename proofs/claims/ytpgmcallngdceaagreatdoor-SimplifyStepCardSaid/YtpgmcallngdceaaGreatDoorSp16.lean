/-
  Part 16 of the proof: PQ7.
-/
import Derived.Test.YtpgmcallngdceaaGreatDoorSp15
namespace Go.Proofs.YtpgmcallngdceaaGreatDoor
open Go.RowKit
set_option maxRecDepth 100000
set_option maxHeartbeats 0
set_option linter.unusedVariables false
def Gd:et:=⟨b8,false⟩
def yP(N:Nat)(v7:Int64)(v8:Int64):akd (ay×Int):=
 Option.bind (sU N v7 v8) fun v9=>
 Option.bind (bif (decide (v9.toInt>(2147483647:Int)))then some true else some (decide (v9.toInt<(-2147483647:Int)))) fun v10=>
 bif v10 then
  some (bg,(3:Int))
 else
  some ((⟨v9,(1:Int64)⟩:ay),(0:Int))
def DB(N:Nat)(v1:Int)(v2:Int64)(v3:Int64):akd (ay×Int):=
 bif (v1==(4:Int))then
  Option.bind (bif (decide ((v2+v3).toInt>(2147483647:Int)))then some true else some (decide ((v2+v3).toInt<(-2147483647:Int)))) fun v4=>
  bif v4 then
   some (bg,(3:Int))
  else
   some ((⟨(v2+v3),(1:Int64)⟩:ay),(0:Int))
 else
  bif (v1==(5:Int))then
   Option.bind (bif (decide ((v2-v3).toInt>(2147483647:Int)))then some true else some (decide ((v2-v3).toInt<(-2147483647:Int)))) fun v5=>
   bif v5 then
    some (bg,(3:Int))
   else
    some ((⟨(v2-v3),(1:Int64)⟩:ay),(0:Int))
  else
   bif (v1==(6:Int))then
    Option.bind (bif (decide ((v2*v3).toInt>(2147483647:Int)))then some true else some (decide ((v2*v3).toInt<(-2147483647:Int)))) fun v6=>
    bif v6 then
     some (bg,(3:Int))
    else
     some ((⟨(v2*v3),(1:Int64)⟩:ay),(0:Int))
   else
    bif (v1==(7:Int))then
     bif (v3.toInt==(0:Int))then
      some (bg,(4:Int))
     else
      bif (decide (v3.toInt<(0:Int)))then
       yP N (-v2) (-v3)
      else
       yP N v2 v3
    else
     Option.bind (bif (decide ((-v2).toInt>(2147483647:Int)))then some true else some (decide ((-v2).toInt<(-2147483647:Int)))) fun v11=>
     bif v11 then
      some (bg,(3:Int))
     else
      some ((⟨(-v2),(1:Int64)⟩:ay),(0:Int))
def xt(l:akb aq):akb aq:= .cells fx::l
theorem abm(N:Nat)(v1:Int)(v2:Int64)(v3:Int64)(r:ay×Int)(hF:DB N v1 v2 v3=some r):aG Tryz.prog 249 [(aw v1),(aH v2),(aH v3)] (·=(.bk [(bj r.1),(aw r.2)])):=by
 rw[DB]at hF;refine aP Tryz.func249 ?_;refine au af [[],[(5,⟨_,_, .eq (jn v2)⟩)],[],[]] ?_;refine bc hF (fun h1 hF=> ?_) fun h1 hF=> ?_
 ·refine au af [[(0,bT h1)],[(8,⟨_,_, .eq (lg v2 v3)⟩)]] ?_;obtain⟨v4,h3,hF⟩:=ao hF;refine bf af [(46,(aB v4))] (xt []) ?_ ?_
  ·refine bc h3 (fun h2 h3=> ?_) fun h2 h3=> ?_
   ·cases h3;exact⟨[(2,bT h2)],[],by kernel_rfl⟩
   cases h3;exact⟨[(2,bF h2)],[],by kernel_rfl⟩
  refine bc hF (fun h4 hF=> ?_) fun h4 hF=> ?_
  ·cases hF;exact wr af [[(0,bT h4)],[]]
  cases hF;exact wr af [[(0,bF h4)],[]]
 refine au af [[(0,bF h1)],[]] ?_;refine bc hF (fun h5 hF=> ?_) fun h5 hF=> ?_
 ·refine au af [[(0,bT h5)],[(8,⟨_,_, .eq (ga v2 v3)⟩)]] ?_;obtain⟨v5,h7,hF⟩:=ao hF;refine bf af [(46,(aB v5))] (xt []) ?_ ?_
  ·refine bc h7 (fun h6 h7=> ?_) fun h6 h7=> ?_
   ·cases h7;exact⟨[(2,bT h6)],[],by kernel_rfl⟩
   cases h7;exact⟨[(2,bF h6)],[],by kernel_rfl⟩
  refine bc hF (fun h8 hF=> ?_) fun h8 hF=> ?_
  ·cases hF;exact wr af [[(0,bT h8)],[]]
  cases hF;exact wr af [[(0,bF h8)],[]]
 refine au af [[(0,bF h5)],[]] ?_;refine bc hF (fun h9 hF=> ?_) fun h9 hF=> ?_
 ·refine au af [[(0,bT h9)],[(8,⟨_,_, .eq (dN v2 v3)⟩)]] ?_;obtain⟨v6,aE,hF⟩:=ao hF;refine bf af [(46,(aB v6))] (xt []) ?_ ?_
  ·refine bc aE (fun az aE=> ?_) fun az aE=> ?_
   ·cases aE;exact⟨[(2,bT az)],[],by kernel_rfl⟩
   cases aE;exact⟨[(2,bF az)],[],by kernel_rfl⟩
  refine bc hF (fun aN hF=> ?_) fun aN hF=> ?_
  ·cases hF;exact wr af [[(0,bT aN)],[]]
  cases hF;exact wr af [[(0,bF aN)],[]]
 refine au af [[(0,bF h9)],[]] ?_;refine bc hF (fun aY hF=> ?_) fun aY hF=> ?_
 ·refine au af [[(0,bT aY)],[]] ?_;refine bc hF (fun aJ hF=> ?_) fun aJ hF=> ?_
  ·cases hF;exact wr af [[(0,bT aJ)],[]]
  refine lE af r 1 [[(0,bF aJ)],[]] [1,2,6] 1 (fun(v7:Int64)(v8:Int64)=>⟨50,[(1,(aH v7)),(2,(aH v8)),(6,(.ptr 0 0))],(xt [])⟩) (yP N) ?_ ?_
  ·intro f1 aO;refine bc hF (fun bR hF=> ?_) fun bR hF=> ?_
   ·exact bM af aO ((-v2),(-v3)) [[(0,bT bR)],[(5,⟨_,_, .eq (jn v2)⟩)],[(5,⟨_,_, .eq (jn v3)⟩)]] hF
   exact bM af aO (v2,v3) [[(0,bF bR)]] hF
  intro v7 v8 hF;rw[yP]at hF;obtain⟨v9,bt,hF⟩:=ao hF;refine au af [[(7,cL (Iq N v7 v8 v9 bt))]] ?_;obtain⟨v10,bp,hF⟩:=ao hF;refine bf af [(46,(aB v10))] (xt []) ?_ ?_
  ·refine bc bp (fun aM bp=> ?_) fun aM bp=> ?_
   ·cases bp;exact⟨[(2,bT aM)],[],by kernel_rfl⟩
   cases bp;exact⟨[(2,bF aM)],[],by kernel_rfl⟩
  refine bc hF (fun a7 hF=> ?_) fun a7 hF=> ?_
  ·cases hF;exact wr af [[(0,bT a7)],[]]
  cases hF;exact wr af [[(0,bF a7)],[]]
 refine au af [[(0,bF aY)]] ?_;obtain⟨v11,ck,hF⟩:=ao hF;refine bf af [(46,(aB v11))] (xt []) ?_ ?_
 ·refine bc ck (fun b5 ck=> ?_) fun b5 ck=> ?_
  ·cases ck;exact⟨[(2,bT b5)],[],by kernel_rfl⟩
  cases ck;exact⟨[(2,bF b5)],[],by kernel_rfl⟩
 refine bc hF (fun bw hF=> ?_) fun bw hF=> ?_
 ·cases hF;exact wr af [[(0,bT bw)],[]]
 cases hF;exact wr af [[(0,bF bw)],[]]
def zA(N:Nat)(v1:Int64):akd Int:=
 bif (decide (v1.toInt<(0:Int)))then
  some (IntKind.u64.wrap ((IntKind.u64.wrap (-(v1+(1:Int64))).toInt)+(1:Int)))
 else
  some (IntKind.u64.wrap v1.toInt)
theorem V1(N:Nat)(v1:Int64)(r:Int)(hF:zA N v1=some r):aG Tryz.prog 334 [(aH v1)] (·=(.d (.v (.int .u64 r)))):=by
 rw[zA]at hF;refine aP Tryz.func334 ?_;refine au af [[],[]] ?_;refine bc hF (fun h1 hF=> ?_) fun h1 hF=> ?_
 ·cases hF;exact wr af [[(0,bT h1)],[(5,⟨_,_, .eq (lg v1 (1:Int64))⟩),(8,⟨_,_, .eq (jn (v1+(1:Int64)))⟩)]]
 cases hF;exact wr af [[(0,bF h1)],[]]
def zi(N:Nat):Nat→Int→Int→akd Int
 |0,_,_=>none
 |v3+1,v4,v5=>
  bif (v5 !=(0:Int))then
   (fun cX gh=>zi N v3 cX gh) v5 ((v4).tmod v5)
  else
   some v4
def G6(N:Nat)(v1:Int)(v2:Int):akd Int:=
 zi N N v1 v2
theorem adS(N:Nat)(v1:Int)(v2:Int)(r:Int)(hF:G6 N v1 v2=some r):aG Tryz.prog 342 [(.d (.v (.int .u64 v1))),(.d (.v (.int .u64 v2)))] (·=(.d (.v (.int .u64 r)))):=by
 rw[G6]at hF;refine aP Tryz.func342 ?_;refine NZ af 1 [[]] [0,1] 0 (fun(v4:Int)(v5:Int)=>⟨12,[(0,(.d (.v (.int .u64 v4)))),(1,(.d (.v (.int .u64 v5))))],[]⟩) (zi N) N v1 v2 hF ?_;intro v3 v4 v5 hF f1 aO;rw[zi]at hF;refine au af [[]] ?_;refine bc hF (fun h1 hF=> ?_) fun h1 hF=> ?_
 ·exact yw af aO (v5,((v4).tmod v5)) [[(0,bT h1)],[(10,⟨_,_, .nz (b:=v5) (bne_iff_ne.1 h1)⟩)]] hF
 cases hF;exact wr af [[(0,bF h1)],[]]
def IS(N:Nat)(v1:Bool)(v2:Int)(v3:Int):akd (ay×Int):=
 Option.bind (G6 N v2 v3) fun v4=>
 bif (v4 !=(0:Int))then
 Option.bind (bif (decide ((IntKind.u64.wrap ((v2).tdiv v4))>(2147483647:Int)))then some true else some (decide ((IntKind.u64.wrap ((v3).tdiv v4))>(2147483647:Int)))) fun v5=>
 bif v5 then
  some (bg,(3:Int))
 else
  bif v1 then
   some ((⟨(-(Int64.ofInt (IntKind.u64.wrap ((v2).tdiv v4)))),(Int64.ofInt (IntKind.u64.wrap ((v3).tdiv v4)))⟩:ay),(0:Int))
  else
   some ((⟨(Int64.ofInt (IntKind.u64.wrap ((v2).tdiv v4))),(Int64.ofInt (IntKind.u64.wrap ((v3).tdiv v4)))⟩:ay),(0:Int))
 else none
theorem aa3(N:Nat)(v1:Bool)(v2:Int)(v3:Int)(r:ay×Int)(hF:IS N v1 v2 v3=some r):aG Tryz.prog 333 [(aB v1),(.d (.v (.int .u64 v2))),(.d (.v (.int .u64 v3)))] (·=(.bk [(bj r.1),(aw r.2)])):=by
 rw[IS]at hF;refine aP Tryz.func333 ?_;obtain⟨v4,h1,hF⟩:=ao hF;obtain⟨h2,hF⟩:=dn hF;refine au af [[],[(7,cL (adS N v2 v3 v4 h1))],[(7,⟨_,_, .nz (b:=v4) (bne_iff_ne.1 h2)⟩)],[(7,⟨_,_, .nz (b:=v4) (bne_iff_ne.1 h2)⟩)]] ?_;obtain⟨v5,h5,hF⟩:=ao hF;refine bf af [(23,(aB v5))] [.cells fx] ?_ ?_
 ·refine bc h5 (fun h4 h5=> ?_) fun h4 h5=> ?_
  ·cases h5;exact⟨[(2,bT h4)],[],by kernel_rfl⟩
  cases h5;exact⟨[(2,bF h4)],[],by kernel_rfl⟩
 refine bc hF (fun h6 hF=> ?_) fun h6 hF=> ?_
 ·cases hF;exact wr af [[(0,bT h6)],[]]
 refine au af [[(0,bF h6)],[]] ?_;refine bc hF (fun h7 hF=> ?_) fun h7 hF=> ?_
 ·cases hF;exact wr af [[(0,bT h7)],[(5,⟨_,_, .eq (eK (IntKind.u64.wrap ((v2).tdiv v4)))⟩),(8,⟨_,_, .eq (jn (Int64.ofInt (IntKind.u64.wrap ((v2).tdiv v4))))⟩),(14,⟨_,_, .eq (eK (IntKind.u64.wrap ((v3).tdiv v4)))⟩)]]
 cases hF;exact wr af [[(0,bF h7)],[(5,⟨_,_, .eq (eK (IntKind.u64.wrap ((v2).tdiv v4)))⟩),(11,⟨_,_, .eq (eK (IntKind.u64.wrap ((v3).tdiv v4)))⟩)]]
def ry(N:Nat)(v1:Int64)(v2:Int64):akd (ay×Int):=
 bif (v2.toInt==(0:Int))then
  some (bg,(4:Int))
 else
  Option.bind (zA N v1) fun v3=>
  Option.bind (zA N v2) fun v4=>
  Option.bind (IS N (!((decide (v1.toInt<(0:Int)))==(decide (v2.toInt<(0:Int))))) v3 v4) fun v5=>
  some (v5.1,v5.2)
theorem Bi(N:Nat)(v1:Int64)(v2:Int64)(r:ay×Int)(hF:ry N v1 v2=some r):aG Tryz.prog 306 [(aH v1),(aH v2)] (·=(.bk [(bj r.1),(aw r.2)])):=by
 rw[ry]at hF;refine aP Tryz.func306 ?_;refine au af [[],[]] ?_;refine bc hF (fun h1 hF=> ?_) fun h1 hF=> ?_
 ·cases hF;exact wr af [[(0,bT h1)],[]]
 obtain⟨v3,h2,hF⟩:=ao hF;obtain⟨v4,h3,hF⟩:=ao hF;obtain⟨v5,h4,hF⟩:=ao hF;cases hF;exact wr af [[(0,bF h1)],[(19,cL (V1 N v1 v3 h2)),(25,cL (V1 N v2 v4 h3)),(28,cL (aa3 N (!((decide (v1.toInt<(0:Int)))==(decide (v2.toInt<(0:Int))))) v3 v4 v5 h4))]]
def Dq(N:Nat)(v1:ay)(v2:ay):akd (ay×Int):=
 Option.bind (kL N v1) fun v3=>
 Option.bind (bif v3 then Option.bind (kL N v2) fun v4=>
 some (!v4)else some true) fun v5=>
 bif v5 then
  some (bg,(1:Int))
 else
  Option.bind (ry N ((v1.xN*v2.xD)+(v2.xN*v1.xD)) (v1.xD*v2.xD)) fun v6=>
  some (v6.1,v6.2)
theorem adX(N:Nat)(v1:ay)(v2:ay)(r:ay×Int)(hF:Dq N v1 v2=some r):aG Tryz.prog 250 [(bj v1),(bj v2)] (·=(.bk [(bj r.1),(aw r.2)])):=by
 rw[Dq]at hF;refine aP Tryz.func250 ?_;refine au af [[]] ?_;obtain⟨v3,h1,hF⟩:=ao hF;obtain⟨v5,h4,hF⟩:=ao hF;refine bf af [(13,(aB v5))] [.cells (bj v1).cells, .cells (bj v2).cells, .cells fx] ?_ ?_
 ·refine bc h4 (fun h2 h4=> ?_) fun h2 h4=> ?_
  ·obtain⟨v4,h3,h4⟩:=ao h4;cases h4;exact⟨[(3,bF (not_t h2))],[(4,cL (jY N v1 v3 h1)),(16,cL (jY N v2 v4 h3))],by kernel_rfl⟩
  cases h4;exact⟨[(3,bT (bS h2))],[(4,cL (jY N v1 v3 h1))],by kernel_rfl⟩
 refine bc hF (fun h5 hF=> ?_) fun h5 hF=> ?_
 ·cases hF;exact wr af [[(0,bT h5)],[]]
 obtain⟨v6,h6,hF⟩:=ao hF;cases hF;exact wr af [[(0,bF h5)],[(14,⟨_,_, .eq (dN v1.xN v2.xD)⟩),(29,⟨_,_, .eq (dN v2.xN v1.xD)⟩),(32,⟨_,_, .eq (lg (v1.xN*v2.xD) (v2.xN*v1.xD))⟩),(47,⟨_,_, .eq (dN v1.xD v2.xD)⟩),(49,cL (Bi N ((v1.xN*v2.xD)+(v2.xN*v1.xD)) (v1.xD*v2.xD) v6 h6))]]
def DG(N:Nat)(v1:ay)(v2:ay):akd (ay×Int):=
 Option.bind (kL N v1) fun v3=>
 Option.bind (bif v3 then Option.bind (kL N v2) fun v4=>
 some (!v4)else some true) fun v5=>
 bif v5 then
  some (bg,(1:Int))
 else
  Option.bind (ry N ((v1.xN*v2.xD)-(v2.xN*v1.xD)) (v1.xD*v2.xD)) fun v6=>
  some (v6.1,v6.2)
theorem ZB(N:Nat)(v1:ay)(v2:ay)(r:ay×Int)(hF:DG N v1 v2=some r):aG Tryz.prog 251 [(bj v1),(bj v2)] (·=(.bk [(bj r.1),(aw r.2)])):=by
 rw[DG]at hF;refine aP Tryz.func251 ?_;refine au af [[]] ?_;obtain⟨v3,h1,hF⟩:=ao hF;obtain⟨v5,h4,hF⟩:=ao hF;refine bf af [(13,(aB v5))] [.cells (bj v1).cells, .cells (bj v2).cells, .cells fx] ?_ ?_
 ·refine bc h4 (fun h2 h4=> ?_) fun h2 h4=> ?_
  ·obtain⟨v4,h3,h4⟩:=ao h4;cases h4;exact⟨[(3,bF (not_t h2))],[(4,cL (jY N v1 v3 h1)),(16,cL (jY N v2 v4 h3))],by kernel_rfl⟩
  cases h4;exact⟨[(3,bT (bS h2))],[(4,cL (jY N v1 v3 h1))],by kernel_rfl⟩
 refine bc hF (fun h5 hF=> ?_) fun h5 hF=> ?_
 ·cases hF;exact wr af [[(0,bT h5)],[]]
 obtain⟨v6,h6,hF⟩:=ao hF;cases hF;exact wr af [[(0,bF h5)],[(14,⟨_,_, .eq (dN v1.xN v2.xD)⟩),(29,⟨_,_, .eq (dN v2.xN v1.xD)⟩),(32,⟨_,_, .eq (ga (v1.xN*v2.xD) (v2.xN*v1.xD))⟩),(47,⟨_,_, .eq (dN v1.xD v2.xD)⟩),(49,cL (Bi N ((v1.xN*v2.xD)-(v2.xN*v1.xD)) (v1.xD*v2.xD) v6 h6))]]
def EP(N:Nat)(v1:ay)(v2:ay):akd (ay×Int):=
 Option.bind (kL N v1) fun v3=>
 Option.bind (bif v3 then Option.bind (kL N v2) fun v4=>
 some (!v4)else some true) fun v5=>
 bif v5 then
  some (bg,(1:Int))
 else
  Option.bind (ry N (v1.xN*v2.xN) (v1.xD*v2.xD)) fun v6=>
  some (v6.1,v6.2)
theorem ahv(N:Nat)(v1:ay)(v2:ay)(r:ay×Int)(hF:EP N v1 v2=some r):aG Tryz.prog 252 [(bj v1),(bj v2)] (·=(.bk [(bj r.1),(aw r.2)])):=by
 rw[EP]at hF;refine aP Tryz.func252 ?_;refine au af [[]] ?_;obtain⟨v3,h1,hF⟩:=ao hF;obtain⟨v5,h4,hF⟩:=ao hF;refine bf af [(13,(aB v5))] [.cells (bj v1).cells, .cells (bj v2).cells, .cells fx] ?_ ?_
 ·refine bc h4 (fun h2 h4=> ?_) fun h2 h4=> ?_
  ·obtain⟨v4,h3,h4⟩:=ao h4;cases h4;exact⟨[(3,bF (not_t h2))],[(4,cL (jY N v1 v3 h1)),(16,cL (jY N v2 v4 h3))],by kernel_rfl⟩
  cases h4;exact⟨[(3,bT (bS h2))],[(4,cL (jY N v1 v3 h1))],by kernel_rfl⟩
 refine bc hF (fun h5 hF=> ?_) fun h5 hF=> ?_
 ·cases hF;exact wr af [[(0,bT h5)],[]]
 obtain⟨v6,h6,hF⟩:=ao hF;cases hF;exact wr af [[(0,bF h5)],[(14,⟨_,_, .eq (dN v1.xN v2.xN)⟩),(29,⟨_,_, .eq (dN v1.xD v2.xD)⟩),(31,cL (Bi N (v1.xN*v2.xN) (v1.xD*v2.xD) v6 h6))]]
def BR(N:Nat)(v1:ay)(v2:ay):akd (ay×Int):=
 Option.bind (kL N v1) fun v3=>
 Option.bind (bif v3 then Option.bind (kL N v2) fun v4=>
 some (!v4)else some true) fun v5=>
 bif v5 then
  some (bg,(1:Int))
 else
  Option.bind (ry N (v1.xN*v2.xD) (v1.xD*v2.xN)) fun v6=>
  some (v6.1,v6.2)
theorem ah4(N:Nat)(v1:ay)(v2:ay)(r:ay×Int)(hF:BR N v1 v2=some r):aG Tryz.prog 253 [(bj v1),(bj v2)] (·=(.bk [(bj r.1),(aw r.2)])):=by
 rw[BR]at hF;refine aP Tryz.func253 ?_;refine au af [[]] ?_;obtain⟨v3,h1,hF⟩:=ao hF;obtain⟨v5,h4,hF⟩:=ao hF;refine bf af [(13,(aB v5))] [.cells (bj v1).cells, .cells (bj v2).cells, .cells fx] ?_ ?_
 ·refine bc h4 (fun h2 h4=> ?_) fun h2 h4=> ?_
  ·obtain⟨v4,h3,h4⟩:=ao h4;cases h4;exact⟨[(3,bF (not_t h2))],[(4,cL (jY N v1 v3 h1)),(16,cL (jY N v2 v4 h3))],by kernel_rfl⟩
  cases h4;exact⟨[(3,bT (bS h2))],[(4,cL (jY N v1 v3 h1))],by kernel_rfl⟩
 refine bc hF (fun h5 hF=> ?_) fun h5 hF=> ?_
 ·cases hF;exact wr af [[(0,bT h5)],[]]
 obtain⟨v6,h6,hF⟩:=ao hF;cases hF;exact wr af [[(0,bF h5)],[(14,⟨_,_, .eq (dN v1.xN v2.xD)⟩),(29,⟨_,_, .eq (dN v1.xD v2.xN)⟩),(31,cL (Bi N (v1.xN*v2.xD) (v1.xD*v2.xN) v6 h6))]]
def CU(N:Nat)(v1:ay):akd ay:=
 Option.bind (kL N v1) fun v2=>
 bif v2 then
  some (⟨(-v1.xN),v1.xD⟩:ay)
 else
  some bg
theorem ad5(N:Nat)(v1:ay)(r:ay)(hF:CU N v1=some r):aG Tryz.prog 254 [(bj v1)] (·=(bj r)):=by
 rw[CU]at hF;refine aP Tryz.func254 ?_;obtain⟨v2,h1,hF⟩:=ao hF;refine au af [[],[(4,cL (jY N v1 v2 h1))]] ?_;refine bc hF (fun h2 hF=> ?_) fun h2 hF=> ?_
 ·cases hF;exact wr af [[(0,bF (not_t h2))],[(8,⟨_,_, .eq (jn v1.xN)⟩)]]
 cases hF;exact wr af [[(0,bT (bS h2))],[]]
def rX(N:Nat)(v1:Int)(v2:aD)(v3:ay)(v4:ay):akd (ay×Int):=
 Option.bind (bif (decide (v1<(4:Int)))then some true else some (decide (v1>(10:Int)))) fun v5=>
 bif v5 then
  some (bg,(1:Int))
 else
  Option.bind (lB N v2) fun v6=>
  bif v6 then
   Option.bind (mB N v2 v3) fun v7=>
   Option.bind (bif v7 then(bif (v1 !=(8:Int))then Option.bind (mB N v2 v4) fun v8=>
   some (!v8)else some false)else some true) fun v9=>
   bif v9 then
    some (bg,(1:Int))
   else
    Option.bind (bif (v1==(9:Int))then some true else some (v1==(10:Int))) fun v10=>
    bif v10 then
     Option.bind (y4 N v2 v3 v4) fun v11=>
     bif ((decide (v11>(0:Int)))==(v1==(9:Int)))then
      some (v4,(0:Int))
     else
      some (v3,(0:Int))
    else
     bif (v2.a8==(2:Int))then
      Option.bind (CQ N v1 v2 v3.xN v4.xN) fun v12=>
      some (v12.1,v12.2)
     else
      bif (v2.a8==(3:Int))then
       Option.bind (DB N v1 v3.xN v4.xN) fun aZ=>
       some (aZ.1,aZ.2)
      else
       bif (v1==(4:Int))then
        Option.bind (Dq N v3 v4) fun bu=>
        some (bu.1,bu.2)
       else
        bif (v1==(5:Int))then
         Option.bind (DG N v3 v4) fun bQ=>
         some (bQ.1,bQ.2)
        else
         bif (v1==(6:Int))then
          Option.bind (EP N v3 v4) fun de=>
          some (de.1,de.2)
         else
          bif (v1==(7:Int))then
           Option.bind (BR N v3 v4) fun bW=>
           some (bW.1,bW.2)
          else
           Option.bind (CU N v3) fun bx=>
           some (bx,(0:Int))
  else
   some (bg,(10:Int))
def Lq(v2:aD)(v3:ay)(v4:ay)(l:akb aq):akb aq:= .cells (b4 v2).cells:: .cells (bj v3).cells:: .cells (bj v4).cells:: .cells fx::l
theorem Ve(N:Nat)(v1:Int)(v2:aD)(v3:ay)(v4:ay)(r:ay×Int)(hF:rX N v1 v2 v3 v4=some r):aG Tryz.prog 195 [(aw v1),(b4 v2),(bj v3),(bj v4)] (·=(.bk [(bj r.1),(aw r.2)])):=by
 rw[rX]at hF;refine aP Tryz.func195 ?_;refine au af [[]] ?_;obtain⟨v5,h2,hF⟩:=ao hF;refine bf af [(15,(aB v5))] (Lq v2 v3 v4 []) ?_ ?_
 ·refine bc h2 (fun h1 h2=> ?_) fun h1 h2=> ?_
  ·cases h2;exact⟨[(2,bT h1)],[],by kernel_rfl⟩
  cases h2;exact⟨[(2,bF h1)],[],by kernel_rfl⟩
 refine bc hF (fun h3 hF=> ?_) fun h3 hF=> ?_
 ·cases hF;exact wr af [[(0,bT h3)],[]]
 obtain⟨v6,h4,hF⟩:=ao hF;refine au af [[(0,bF h3)],[(4,cL (mL N v2 v6 h4))]] ?_;refine bc hF (fun h5 hF=> ?_) fun h5 hF=> ?_
 ·refine au af [[(0,bF (not_t h5))]] ?_;obtain⟨v7,h6,hF⟩:=ao hF;obtain⟨v9,az,hF⟩:=ao hF;refine bf af [(34,(aB v9))] (Lq v2 v3 v4 []) ?_ ?_
  ·refine bc az (fun h7 az=> ?_) fun h7 az=> ?_
   ·refine bc az (fun h8 az=> ?_) fun h8 az=> ?_
    ·obtain⟨v8,h9,az⟩:=ao az;cases az;exact⟨[(4,bF (not_t h7)),(7,bT h8)],[(7,cL (oV N v2 v3 v7 h6)),(31,cL (oV N v2 v4 v8 h9)),(37,bT h8)],by kernel_rfl⟩
    cases az;exact⟨[(4,bF (not_t h7)),(7,bF h8)],[(7,cL (oV N v2 v3 v7 h6)),(37,bF h8)],by kernel_rfl⟩
   cases az;exact⟨[(4,bT (bS h7)),(7,uN)],[(7,cL (oV N v2 v3 v7 h6))],by kernel_rfl⟩
  refine bc hF (fun aE hF=> ?_) fun aE hF=> ?_
  ·cases hF;exact wr af [[(0,bT aE)],[]]
  refine au af [[(0,bF aE)]] ?_;obtain⟨v10,aY,hF⟩:=ao hF;refine bf af [(41,(aB v10))] (Lq v2 v3 v4 []) ?_ ?_
  ·refine bc aY (fun aN aY=> ?_) fun aN aY=> ?_
   ·cases aY;exact⟨[(2,bT aN)],[],by kernel_rfl⟩
   cases aY;exact⟨[(2,bF aN)],[],by kernel_rfl⟩
  refine bc hF (fun aJ hF=> ?_) fun aJ hF=> ?_
  ·obtain⟨v11,bt,hF⟩:=ao hF;refine au af [[(0,bT aJ)],[(10,cL (Pe N v2 v3 v4 v11 bt))]] ?_;refine bc hF (fun aM hF=> ?_) fun aM hF=> ?_
   ·cases hF;exact wr af [[(0,bT aM)],[]]
   cases hF;exact wr af [[(0,bF aM)],[]]
  refine au af [[(0,bF aJ)],[]] ?_;refine bc hF (fun bp hF=> ?_) fun bp hF=> ?_
  ·obtain⟨v12,a7,hF⟩:=ao hF;cases hF;exact wr af [[(0,bT bp)],[(19,cL (acw N v1 v2 v3.xN v4.xN v12 a7))]]
  refine au af [[(0,bF bp)],[]] ?_;refine bc hF (fun bR hF=> ?_) fun bR hF=> ?_
  ·obtain⟨aZ,b5,hF⟩:=ao hF;cases hF;exact wr af [[(0,bT bR)],[(16,cL (abm N v1 v3.xN v4.xN aZ b5))]]
  refine au af [[(0,bF bR)],[],[]] ?_;refine bc hF (fun ck hF=> ?_) fun ck hF=> ?_
  ·obtain⟨bu,bw,hF⟩:=ao hF;cases hF;exact wr af [[(0,bT ck)],[(7,cL (adX N v3 v4 bu bw))]]
  refine au af [[(0,bF ck)],[]] ?_;refine bc hF (fun cP hF=> ?_) fun cP hF=> ?_
  ·obtain⟨bQ,cC,hF⟩:=ao hF;cases hF;exact wr af [[(0,bT cP)],[(7,cL (ZB N v3 v4 bQ cC))]]
  refine au af [[(0,bF cP)],[]] ?_;refine bc hF (fun eI hF=> ?_) fun eI hF=> ?_
  ·obtain⟨de,eY,hF⟩:=ao hF;cases hF;exact wr af [[(0,bT eI)],[(7,cL (ahv N v3 v4 de eY))]]
  refine au af [[(0,bF eI)],[]] ?_;refine bc hF (fun gd hF=> ?_) fun gd hF=> ?_
  ·obtain⟨bW,gX,hF⟩:=ao hF;cases hF;exact wr af [[(0,bT gd)],[(7,cL (ah4 N v3 v4 bW gX))]]
  obtain⟨bx,qT,hF⟩:=ao hF;cases hF;exact wr af [[(0,bF gd)],[(4,cL (ad5 N v3 bx qT))]]
 cases hF;exact wr af [[(0,bT (bS h5))],[]]
def nx(N:Nat)(v1:aD)(v2:ay):akd an:=
 some (⟨(1:Int),(bs []),v2,v1,zLin,[],[]⟩:an)
theorem p8(N:Nat)(v1:aD)(v2:ay)(r:an)(hF:nx N v1 v2=some r):aG Tryz.prog 196 [(b4 v1),(bj v2)] (·=(aA r)):=by
 rw[nx]at hF;refine aP Tryz.func196 ?_;cases hF;exact wr af [[],[]]
def MP(N:Nat)(v1:Int):akd Bool:=
 Option.bind (bif (decide (v1≥(4:Int)))then(bif (decide (v1≤(10:Int)))then some (v1 !=(8:Int))else some false)else some false) fun v2=>
 some v2
theorem JE(N:Nat)(v1:Int)(r:Bool)(hF:MP N v1=some r):aG Tryz.prog 197 [(aw v1)] (·=(aB r)):=by
 rw[MP]at hF;refine aP Tryz.func197 ?_;refine au af [[]] ?_;obtain⟨v2,h3,hF⟩:=ao hF;refine bf af [(2,(aB v2))] [] ?_ ?_
 ·refine bc h3 (fun h1 h3=> ?_) fun h1 h3=> ?_
  ·refine bc h3 (fun h2 h3=> ?_) fun h2 h3=> ?_
   ·cases h3;exact⟨[(2,bT h1),(6,bT h2)],[],by kernel_rfl⟩
   cases h3;exact⟨[(2,bT h1),(6,bF h2)],[],by kernel_rfl⟩
  cases h3;exact⟨[(2,bF h1),(6,bF rfl)],[],by kernel_rfl⟩
 cases hF;exact wr af []
def Cs(N:Nat)(v1:an):akd (an×Bool):=
 Option.bind (bif (v1.ar==(8:Int))then Option.bind (v1.ax[0]?) fun v2=>
 some (v2.ar==(1:Int))else some false) fun v3=>
 bif v3 then
  Option.bind (v1.ax[0]?) fun v4=>
  Option.bind (rX N (8:Int) v4.aC v4.ba v4.ba) fun v5=>
  Option.bind (nx N v4.aC v5.1) fun v6=>
  some (v6,(v5.2==(0:Int)))
 else
  Option.bind (MP N v1.ar) fun v7=>
  Option.bind (bif v7 then Option.bind (v1.ax[0]?) fun v8=>
  (bif (v8.ar !=(1:Int))then some true else Option.bind (v1.ax[1]?) fun v9=>
  (bif (v9.ar !=(1:Int))then some true else some (!((v8.aC.a8==v9.aC.a8)&&((v8.aC.bz==v9.aC.bz)&&((v8.aC.bE==v9.aC.bE)&&((v8.aC.bK==v9.aC.bK)&&((v8.aC.bI==v9.aC.bI)&&true))))))))else some true) fun v10=>
  bif v10 then
   some (v1,false)
  else
   Option.bind (v1.ax[0]?) fun v11=>
   Option.bind (v1.ax[1]?) fun v12=>
   Option.bind (rX N v1.ar v11.aC v11.ba v12.ba) fun aZ=>
   Option.bind (nx N v11.aC aZ.1) fun bu=>
   some (bu,(aZ.2==(0:Int)))
theorem Xf(N:Nat)(v1:an)(r:an×Bool)(hF:Cs N v1=some r):aG Tryz.prog 125 [(aA v1)] (·=(.bk [(aA r.1),(aB r.2)])):=by
 rw[Cs]at hF;refine aP Tryz.func125 ?_;refine au af [[]] ?_;obtain⟨v3,h3,hF⟩:=ao hF;refine bf af [(19,(aB v3))] [.cells (aA v1).cells, .cells ep] ?_ ?_
 ·refine bc h3 (fun h1 h3=> ?_) fun h1 h3=> ?_
  ·obtain⟨v2,h2,h3⟩:=ao h3;cases h3;exact⟨[(3,bT h1)],[(19,oE (k:=0) (bq h2))],by kernel_rfl⟩
  cases h3;exact⟨[(3,bF h1)],[],by kernel_rfl⟩
 refine bc hF (fun h4 hF=> ?_) fun h4 hF=> ?_
 ·obtain⟨v4,h5,hF⟩:=ao hF;obtain⟨v5,h6,hF⟩:=ao hF;obtain⟨v6,h7,hF⟩:=ao hF;cases hF;exact wr af [[(0,bT h4)],[(7,oE (k:=0) (bq h5))],[(19,cL (Ve N (8:Int) v4.aC v4.ba v4.ba v5 h6))],[(10,cL (p8 N v4.aC v5.1 v6 h7))]]
 refine au af [[(0,bF h4)]] ?_;obtain⟨v7,h8,hF⟩:=ao hF;obtain⟨v10,aJ,hF⟩:=ao hF;refine bf af [(72,(aB v10))] [.cells (aA v1).cells, .cells ep] ?_ ?_
 ·refine bc aJ (fun h9 aJ=> ?_) fun h9 aJ=> ?_
  ·obtain⟨v8,az,aJ⟩:=ao aJ;refine bc aJ (fun aE aJ=> ?_) fun aE aJ=> ?_
   ·cases aJ;exact⟨[(4,bF (not_t h9)),(12,bT aE),(20,bT rfl)],[(7,cL (JE N v1.ar v7 h8)),(22,oE (k:=0) (bq az))],by kernel_rfl⟩
   obtain⟨v9,aN,aJ⟩:=ao aJ;refine bc aJ (fun aY aJ=> ?_) fun aY aJ=> ?_
   ·cases aJ;exact⟨[(4,bF (not_t h9)),(12,bF aE),(20,bT aY)],[(7,cL (JE N v1.ar v7 h8)),(22,oE (k:=0) (bq az)),(46,oE (k:=1) (bq aN))],by kernel_rfl⟩
   cases aJ;exact⟨[(4,bF (not_t h9)),(12,bF aE),(20,bF aY)],[(7,cL (JE N v1.ar v7 h8)),(22,oE (k:=0) (bq az)),(46,oE (k:=1) (bq aN)),(70,oE (k:=0) (bq az)),(85,oE (k:=1) (bq aN))],by kernel_rfl⟩
  cases aJ;exact⟨[(4,bT (bS h9)),(12,bT rfl),(20,bT rfl)],[(7,cL (JE N v1.ar v7 h8))],by kernel_rfl⟩
 refine bc hF (fun bt hF=> ?_) fun bt hF=> ?_
 ·cases hF;exact wr af [[(0,bT bt)],[]]
 obtain⟨v11,aM,hF⟩:=ao hF;obtain⟨v12,bp,hF⟩:=ao hF;obtain⟨aZ,a7,hF⟩:=ao hF;obtain⟨bu,bR,hF⟩:=ao hF;cases hF;exact wr af [[(0,bF bt)],[(13,oE (k:=0) (bq aM)),(28,oE (k:=0) (bq aM)),(43,oE (k:=1) (bq bp)),(52,cL (Ve N v1.ar v11.aC v11.ba v12.ba aZ a7))],[(7,oE (k:=0) (bq aM)),(19,cL (p8 N v11.aC aZ.1 bu bR))]]
def EE(N:Nat)(v3:Int64)(v4:Int64):akd ay:=
 some (⟨v3,v4⟩:ay)
def Bm(N:Nat)(v1:aD)(v2:ay):akd ay:=
 bif (v1.a8==(2:Int))then
  Option.bind (pZ N v1) fun v5=>
  Option.bind (ry N v2.xN v5) fun v6=>
  EE N v6.1.xN v6.1.xD
 else
  EE N v2.xN v2.xD
theorem aij(N:Nat)(v1:aD)(v2:ay)(r:ay)(hF:Bm N v1 v2=some r):aG Tryz.prog 255 [(b4 v1),(bj v2)] (·=(bj r)):=by
 rw[Bm]at hF;refine aP Tryz.func255 ?_;refine lE af r 1 [[],[]] [3,4] 3 (fun(v3:Int64)(v4:Int64)=>⟨17,[(3,(.ptr 1 0)),(4,(.ptr 2 0))],[.cells (b4 v1).cells, .cells [(aH v3),(aH v4)], .cells fx]⟩) (EE N) ?_ ?_
 ·intro f1 aO;refine bc hF (fun h1 hF=> ?_) fun h1 hF=> ?_
  ·obtain⟨v5,h2,hF⟩:=ao hF;obtain⟨v6,h3,hF⟩:=ao hF;exact bM af aO (v6.1.xN,v6.1.xD) [[(0,bT h1)],[(10,cL (Cm N v1 v5 h2)),(13,cL (Bi N v2.xN v5 v6 h3))]] hF
  exact bM af aO (v2.xN,v2.xD) [[(0,bF h1)]] hF
 intro v3 v4 hF;rw[EE]at hF;cases hF;exact wr af [[]]
def yA(N:Nat)(v1:aD)(v2:aD)(v3:ay):akd (ay×Int):=
 Option.bind (lB N v1) fun v4=>
 Option.bind (bif v4 then Option.bind (lB N v2) fun v5=>
 some (!v5)else some true) fun v6=>
 bif v6 then
  some (bg,(10:Int))
 else
  Option.bind (mB N v1 v3) fun v7=>
  bif v7 then
   Option.bind (Bm N v1 v3) fun v8=>
   bif (v2.a8==(3:Int))then
    Option.bind (sU N v8.xN v8.xD) fun v9=>
    some ((⟨v9,(1:Int64)⟩:ay),(0:Int))
   else
    bif (v2.a8==(2:Int))then
     Option.bind (pZ N v2) fun v10=>
     Option.bind (ux N (v8.xN*v10) v8.xD v2.bK) fun v11=>
     Option.bind (oG N v2 v11) fun v12=>
     some (v12,(0:Int))
    else
     some (v8,(0:Int))
  else
   some (bg,(1:Int))
theorem aaQ(N:Nat)(v1:aD)(v2:aD)(v3:ay)(r:ay×Int)(hF:yA N v1 v2 v3=some r):aG Tryz.prog 198 [(b4 v1),(b4 v2),(bj v3)] (·=(.bk [(bj r.1),(aw r.2)])):=by
 rw[yA]at hF;refine aP Tryz.func198 ?_;refine au af [[]] ?_;obtain⟨v4,h1,hF⟩:=ao hF;obtain⟨v6,h4,hF⟩:=ao hF;refine bf af [(16,(aB v6))] [.cells (b4 v1).cells, .cells (b4 v2).cells, .cells (bj v3).cells, .cells fx] ?_ ?_
 ·refine bc h4 (fun h2 h4=> ?_) fun h2 h4=> ?_
  ·obtain⟨v5,h3,h4⟩:=ao h4;cases h4;exact⟨[(3,bF (not_t h2))],[(4,cL (mL N v1 v4 h1)),(16,cL (mL N v2 v5 h3))],by kernel_rfl⟩
  cases h4;exact⟨[(3,bT (bS h2))],[(4,cL (mL N v1 v4 h1))],by kernel_rfl⟩
 refine bc hF (fun h5 hF=> ?_) fun h5 hF=> ?_
 ·cases hF;exact wr af [[(0,bT h5)],[]]
 obtain⟨v7,h6,hF⟩:=ao hF;refine au af [[(0,bF h5)],[(7,cL (oV N v1 v3 v7 h6))]] ?_;refine bc hF (fun h7 hF=> ?_) fun h7 hF=> ?_
 ·obtain⟨v8,h8,hF⟩:=ao hF;refine au af [[(0,bF (not_t h7))],[(7,cL (aij N v1 v3 v8 h8))],[]] ?_;refine bc hF (fun h9 hF=> ?_) fun h9 hF=> ?_
  ·obtain⟨v9,az,hF⟩:=ao hF;cases hF;exact wr af [[(0,bT h9)],[(13,cL (Iq N v8.xN v8.xD v9 az))]]
  refine au af [[(0,bF h9)],[]] ?_;refine bc hF (fun aE hF=> ?_) fun aE hF=> ?_
  ·obtain⟨v10,aN,hF⟩:=ao hF;obtain⟨v11,aY,hF⟩:=ao hF;obtain⟨v12,aJ,hF⟩:=ao hF;cases hF;exact wr af [[(0,bT aE)],[(13,cL (Cm N v2 v10 aN)),(17,⟨_,_, .eq (dN v8.xN v10)⟩),(31,cL (K9 N (v8.xN*v10) v8.xD v2.bK v11 aY)),(34,cL (Am N v2 v11 v12 aJ))]]
  cases hF;exact wr af [[(0,bF aE)],[]]
 cases hF;exact wr af [[(0,bT (bS h7))],[]]
mutual
def kp(N:Nat):Nat→an→akd et
 |0,_=>none
 |d+1,v1=>
  Option.bind (bif (v1.ar==(1:Int))then some true else some (v1.ar==(12:Int))) fun v2=>
  bif v2 then
   some (⟨v1.aC,true⟩:et)
  else
   bif (v1.ar==(2:Int))then
    some (⟨(⟨(3:Int),(0:Int),(0:Int),(0:Int),(0:Int)⟩:aD),true⟩:et)
   else
    bif (v1.ar==(8:Int))then
     Option.bind (v1.ax[0]?) fun v3=>
     Option.bind ((kp N d) v3) fun v4=>
     some v4
    else
     Option.bind (bif (decide (v1.ar≥(4:Int)))then some (decide (v1.ar≤(10:Int)))else some false) fun v5=>
     bif v5 then
      Option.bind (v1.ax[0]?) fun v6=>
      Option.bind (v1.ax[1]?) fun v7=>
      Option.bind ((q7 N d) v6 v7) fun v8=>
      some v8
     else
      bif (v1.ar==(11:Int))then
       Option.bind (v1.ax[1]?) fun v9=>
       Option.bind ((kp N d) v9) fun v10=>
       Option.bind (v1.ax[2]?) fun v11=>
       Option.bind ((kp N d) v11) fun v12=>
       Option.bind (bif v10.w5 then(bif v12.w5 then some ((v10.xT.a8==v12.xT.a8)&&((v10.xT.bz==v12.xT.bz)&&((v10.xT.bE==v12.xT.bE)&&((v10.xT.bK==v12.xT.bK)&&((v10.xT.bI==v12.xT.bI)&&true)))))else some false)else some false) fun aZ=>
       bif aZ then
        some v10
       else
        some Gd
      else
       some Gd
def q7(N:Nat):Nat→an→an→akd et
 |0,_,_=>none
 |d+1,v1,v2=>
  Option.bind ((kp N d) v1) fun v3=>
  bif v3.w5 then
   some v3
  else
   Option.bind ((kp N d) v2) fun v4=>
   some v4
end
def xY(N:Nat)(v1:an):akd et:=kp N N v1
def BW(N:Nat)(v1:an)(v2:an):akd et:=q7 N N v1 v2
theorem Ur(N:Nat):∀d:Nat,(∀(v1:an)(r:et),kp N d v1=some r→aG Tryz.prog 137 [(aA v1)] (·=(fW r)))∧(∀(v1:an)(v2:an)(r:et),q7 N d v1 v2=some r→aG Tryz.prog 136 [(aA v1),(aA v2)] (·=(fW r))):=by
 intro d
 induction d with
 |zero=>exact⟨fun v1 r hF=>(by rw[kp]at hF;cases hF),fun v1 v2 r hF=>(by rw[q7]at hF;cases hF)⟩
 |succ d ih=>
  have Eo:=ih.1;have YD:=ih.2;refine⟨?_,?_⟩
  ·intro v1 r hF;rw[kp]at hF;refine aP Tryz.func137 ?_;refine au af [[]] ?_;obtain⟨v2,h2,hF⟩:=ao hF;refine bf af [(5,(aB v2))] [.cells (aA v1).cells, .cells qQ] ?_ ?_
   ·refine bc h2 (fun h1 h2=> ?_) fun h1 h2=> ?_
    ·cases h2;exact⟨[(3,bT h1)],[],by kernel_rfl⟩
    cases h2;exact⟨[(3,bF h1)],[],by kernel_rfl⟩
   refine bc hF (fun h3 hF=> ?_) fun h3 hF=> ?_
   ·cases hF;exact wr af [[(0,bT h3)],[]]
   refine au af [[(0,bF h3)],[]] ?_;refine bc hF (fun h4 hF=> ?_) fun h4 hF=> ?_
   ·cases hF;exact wr af [[(0,bT h4)],[]]
   refine au af [[(0,bF h4)],[]] ?_;refine bc hF (fun h5 hF=> ?_) fun h5 hF=> ?_
   ·obtain⟨v3,h6,hF⟩:=ao hF;obtain⟨v4,h7,hF⟩:=ao hF;obtain rfl:=sj hF;exact wr af [[(0,bT h5)],[(7,oE (k:=0) (bq h6)),(13,cL (Eo v3 v4 h7))]]
   refine au af [[(0,bF h5)]] ?_;obtain⟨v5,h9,hF⟩:=ao hF;refine bf af [(32,(aB v5))] [.cells (aA v1).cells, .cells qQ] ?_ ?_
   ·refine bc h9 (fun h8 h9=> ?_) fun h8 h9=> ?_
    ·cases h9;exact⟨[(3,bT h8)],[],by kernel_rfl⟩
    cases h9;exact⟨[(3,bF h8)],[],by kernel_rfl⟩
   refine bc hF (fun az hF=> ?_) fun az hF=> ?_
   ·obtain⟨v6,aE,hF⟩:=ao hF;obtain⟨v7,aN,hF⟩:=ao hF;obtain⟨v8,aY,hF⟩:=ao hF;obtain rfl:=sj hF;exact wr af [[(0,bT az)],[(7,oE (k:=0) (bq aE)),(19,oE (k:=1) (bq aN)),(25,cL (YD v6 v7 v8 aY))]]
   refine au af [[(0,bF az)],[]] ?_;refine bc hF (fun aJ hF=> ?_) fun aJ hF=> ?_
   ·refine au af [[(0,bT aJ)]] ?_;obtain⟨v9,bt,hF⟩:=ao hF;obtain⟨v10,aM,hF⟩:=ao hF;obtain⟨v11,bp,hF⟩:=ao hF;obtain⟨v12,a7,hF⟩:=ao hF;refine mo 2 af [(3,(.ptr 2 0)),(4,(.ptr 3 0))] [.cells (aA v1).cells, .cells qQ, .cells (fW v10).cells, .cells (fW v12).cells] ⟨[(7,oE (k:=1) (bq bt)),(13,cL (Eo v9 v10 aM)),(22,oE (k:=2) (bq bp)),(28,cL (Eo v11 v12 a7))],by kernel_rfl⟩ ?_;obtain⟨aZ,ck,hF⟩:=ao hF;refine bf af [(76,(aB aZ))] [.cells (aA v1).cells, .cells qQ, .cells (fW v10).cells, .cells (fW v12).cells] ?_ ?_
    ·refine bc ck (fun bR ck=> ?_) fun bR ck=> ?_
     ·refine bc ck (fun b5 ck=> ?_) fun b5 ck=> ?_
      ·cases ck;exact⟨[(2,bT bR),(6,bT b5)],[],by kernel_rfl⟩
      cases ck;exact⟨[(2,bT bR),(6,bF b5)],[],by kernel_rfl⟩
     cases ck;exact⟨[(2,bF bR),(6,bF rfl)],[],by kernel_rfl⟩
    refine bc hF (fun bw hF=> ?_) fun bw hF=> ?_
    ·cases hF;exact wr af [[(0,bT bw)],[]]
    cases hF;exact wr af [[(0,bF bw)],[]]
   cases hF;exact wr af [[(0,bF aJ)],[]]
  intro v1 v2 r hF;rw[q7]at hF;refine aP Tryz.func136 ?_;obtain⟨v3,h1,hF⟩:=ao hF;refine au af [[],[(4,cL (Eo v1 v3 h1))],[]] ?_;refine bc hF (fun h2 hF=> ?_) fun h2 hF=> ?_
  ·cases hF;exact wr af [[(0,bT h2)],[]]
  obtain⟨v4,h3,hF⟩:=ao hF;obtain rfl:=sj hF;exact wr af [[(0,bF h2)],[(4,cL (Eo v2 v4 h3))]]
theorem VW(N:Nat)(v1:an)(r:et)(hF:xY N v1=some r):aG Tryz.prog 137 [(aA v1)] (·=(fW r)):=(Ur N N).1 v1 r hF
theorem afp(N:Nat)(v1:an)(v2:an)(r:et)(hF:BW N v1 v2=some r):aG Tryz.prog 136 [(aA v1),(aA v2)] (·=(fW r)):=(Ur N N).2 v1 v2 r hF
def CR(N:Nat)(v1:an):akd (an×Bool):=
 bif (v1.ar !=(12:Int))then
  some (v1,false)
 else
  Option.bind (v1.ax[0]?) fun v2=>
  bif (v2.ar==(1:Int))then
   Option.bind (yA N v2.aC v1.aC v2.ba) fun v3=>
   Option.bind (nx N v1.aC v3.1) fun v4=>
   some (v4,(v3.2==(0:Int)))
  else
   Option.bind (xY N v2) fun v5=>
   Option.bind (bif v5.w5 then some ((v5.xT.a8==v1.aC.a8)&&((v5.xT.bz==v1.aC.bz)&&((v5.xT.bE==v1.aC.bE)&&((v5.xT.bK==v1.aC.bK)&&((v5.xT.bI==v1.aC.bI)&&true)))))else some false) fun v6=>
   some (v2,v6)
theorem acU(N:Nat)(v1:an)(r:an×Bool)(hF:CR N v1=some r):aG Tryz.prog 126 [(aA v1)] (·=(.bk [(aA r.1),(aB r.2)])):=by
 rw[CR]at hF;refine aP Tryz.func126 ?_;refine au af [[],[]] ?_;refine bc hF (fun h1 hF=> ?_) fun h1 hF=> ?_
 ·cases hF;exact wr af [[(0,bT h1)],[]]
 obtain⟨v2,h2,hF⟩:=ao hF;refine au af [[(0,bF h1)],[(7,oE (k:=0) (bq h2))],[]] ?_;refine bc hF (fun h3 hF=> ?_) fun h3 hF=> ?_
 ·obtain⟨v3,h4,hF⟩:=ao hF;obtain⟨v4,h5,hF⟩:=ao hF;cases hF;exact wr af [[(0,bT h3)],[(19,cL (aaQ N v2.aC v1.aC v2.ba v3 h4))],[(10,cL (p8 N v1.aC v3.1 v4 h5))]]
 obtain⟨v5,h6,hF⟩:=ao hF;refine au af [[(0,bF h3)],[(4,cL (VW N v2 v5 h6))]] ?_;obtain⟨v6,h8,hF⟩:=ao hF;refine JL 5 af [(3,(aB v6))] [.cells (aA v1).cells, .cells (aA v2).cells, .cells (aA v2).cells, .cells (fW v5).cells] ?_ ?_
 ·refine bc h8 (fun h7 h8=> ?_) fun h7 h8=> ?_
  ·cases h8;exact⟨[(3,bT h7)],[],by kernel_rfl⟩
  cases h8;exact⟨[(3,bF h7)],[],by kernel_rfl⟩
 cases hF;exact wr af []
def vv(N:Nat)(v1:aF):akd Int:=
 Option.bind (tS N v1) fun v2=>
 bif v2 then
  some (0:Int)
 else
  some (1:Int)
theorem IJ(N:Nat)(v1:aF)(r:Int)(hF:vv N v1=some r):aG Tryz.prog 260 [(b9 v1)] (·=(aw r)):=by
 rw[vv]at hF;refine aP Tryz.func260 ?_;obtain⟨v2,h1,hF⟩:=ao hF;refine au af [[],[(4,cL (CO N v1 v2 h1))]] ?_;refine bc hF (fun h2 hF=> ?_) fun h2 hF=> ?_
 ·cases hF;exact wr af [[(0,bF (not_t h2))],[]]
 cases hF;exact wr af [[(0,bT (bS h2))],[]]
def AA(N:Nat)(v1:Int64)(v2:Int64):akd (Int64×Bool):=
 Option.bind (bif (v1.toInt==(0:Int))then some true else some (v2.toInt==(0:Int))) fun v3=>
 bif v3 then
  some ((0:Int64),true)
 else
  Option.bind (bif (v1.toInt==(-1:Int))then(bif (v2.toInt==(-9223372036854775808:Int))then some true else(bif (v2.toInt==(-1:Int))then(bif (v1.toInt==(-9223372036854775808:Int))then some true else bif (v2.toInt !=(0:Int))then
  some ((Int64.ofInt (((v1*v2).toInt).tdiv v2.toInt)).toInt !=v1.toInt)
  else none)else bif (v2.toInt !=(0:Int))then
  some ((Int64.ofInt (((v1*v2).toInt).tdiv v2.toInt)).toInt !=v1.toInt)
  else none))else(bif (v2.toInt==(-1:Int))then(bif (v1.toInt==(-9223372036854775808:Int))then some true else bif (v2.toInt !=(0:Int))then
  some ((Int64.ofInt (((v1*v2).toInt).tdiv v2.toInt)).toInt !=v1.toInt)
  else none)else bif (v2.toInt !=(0:Int))then
  some ((Int64.ofInt (((v1*v2).toInt).tdiv v2.toInt)).toInt !=v1.toInt)
  else none)) fun v4=>
  bif v4 then
   some ((0:Int64),false)
  else
   some ((v1*v2),true)
theorem UW(N:Nat)(v1:Int64)(v2:Int64)(r:Int64×Bool)(hF:AA N v1 v2=some r):aG Tryz.prog 261 [(aH v1),(aH v2)] (·=(.bk [(aH r.1),(aB r.2)])):=by
 rw[AA]at hF;refine aP Tryz.func261 ?_;refine au af [[]] ?_;obtain⟨v3,h2,hF⟩:=ao hF;refine bf af [(12,(aB v3))] [] ?_ ?_
 ·refine bc h2 (fun h1 h2=> ?_) fun h1 h2=> ?_
  ·cases h2;exact⟨[(2,bT h1)],[],by kernel_rfl⟩
  cases h2;exact⟨[(2,bF h1)],[],by kernel_rfl⟩
 refine bc hF (fun h3 hF=> ?_) fun h3 hF=> ?_
 ·cases hF;exact wr af [[(0,bT h3)],[]]
 refine au af [[(0,bF h3)],[(8,⟨_,_, .eq (dN v1 v2)⟩)]] ?_;obtain⟨v4,aJ,hF⟩:=ao hF;refine bf af [(36,(aB v4))] [] ?_ ?_
 ·refine bc aJ (fun h4 aJ=> ?_) fun h4 aJ=> ?_
  ·refine bc aJ (fun h5 aJ=> ?_) fun h5 aJ=> ?_
   ·cases aJ;exact⟨[(2,bT h4),(6,bT h5),(9,uN),(14,bT rfl)],[],by kernel_rfl⟩
   refine bc aJ (fun h6 aJ=> ?_) fun h6 aJ=> ?_
   ·refine bc aJ (fun h7 aJ=> ?_) fun h7 aJ=> ?_
    ·cases aJ;exact⟨[(2,bT h4),(6,bF h5),(9,bT h6),(14,bT h7)],[(37,bT h6)],by kernel_rfl⟩
    obtain⟨h8,aJ⟩:=dn aJ;cases aJ;exact⟨[(2,bT h4),(6,bF h5),(9,bT h6),(14,bF h7)],[(37,bT h6),(52,⟨_,_, .nz (b:=v2.toInt) (bne_iff_ne.1 h8)⟩),(53,⟨_,_, .eq (eK (((v1*v2).toInt).tdiv v2.toInt))⟩)],by kernel_rfl⟩
   obtain⟨h9,aJ⟩:=dn aJ;cases aJ;exact⟨[(2,bT h4),(6,bF h5),(9,bF h6),(14,bF rfl)],[(37,bF h6),(52,⟨_,_, .nz (b:=v2.toInt) (bne_iff_ne.1 h9)⟩),(53,⟨_,_, .eq (eK (((v1*v2).toInt).tdiv v2.toInt))⟩)],by kernel_rfl⟩
  refine bc aJ (fun az aJ=> ?_) fun az aJ=> ?_
  ·refine bc aJ (fun aE aJ=> ?_) fun aE aJ=> ?_
   ·cases aJ;exact⟨[(2,bF h4),(6,bF rfl),(9,bT az),(14,bT aE)],[(37,bT az)],by kernel_rfl⟩
   obtain⟨aN,aJ⟩:=dn aJ;cases aJ;exact⟨[(2,bF h4),(6,bF rfl),(9,bT az),(14,bF aE)],[(37,bT az),(52,⟨_,_, .nz (b:=v2.toInt) (bne_iff_ne.1 aN)⟩),(53,⟨_,_, .eq (eK (((v1*v2).toInt).tdiv v2.toInt))⟩)],by kernel_rfl⟩
  obtain⟨aY,aJ⟩:=dn aJ;cases aJ;exact⟨[(2,bF h4),(6,bF rfl),(9,bF az),(14,bF rfl)],[(37,bF az),(52,⟨_,_, .nz (b:=v2.toInt) (bne_iff_ne.1 aY)⟩),(53,⟨_,_, .eq (eK (((v1*v2).toInt).tdiv v2.toInt))⟩)],by kernel_rfl⟩
 refine bc hF (fun bt hF=> ?_) fun bt hF=> ?_
 ·cases hF;exact wr af [[(0,bT bt)],[]]
 cases hF;exact wr af [[(0,bF bt)],[]]
def tU(N:Nat)(v4:Int64×Bool)(v2:Int64):akb aU→Nat→(akb aU)→akd (aF×Int)
 |[],_,v9=>
  some ((⟨v4.1,v9⟩:aF),(0:Int))
 |v7::v8,v5,v9=>
  Option.bind (AA N v7.cH v2) fun v10=>
  bif v10.2 then
   bif (Nat.ble ((v9.length+1)*24) 140737488355328)then
   (fun cX=>tU N v4 v2 v8 (v5+1) cX) (v9++[(⟨v7.aV,v10.1⟩:aU)])
   else none
  else
   some (zLin,(3:Int))
def qO(N:Nat)(v1:aF)(v2:Int64):akd (aF×Int):=
 Option.bind (vv N v1) fun v3=>
 bif (v3 !=(0:Int))then
  some (zLin,(1:Int))
 else
  bif (v2.toInt==(0:Int))then
   some (zLin,(0:Int))
  else
   Option.bind (AA N v1.xK v2) fun v4=>
   bif v4.2 then
    tU N v4 v2 v1.xL 0 []
   else
    some (zLin,(3:Int))
theorem M3(N:Nat)(v1:aF)(v2:Int64)(r:aF×Int)(hF:qO N v1 v2=some r):aG Tryz.prog 199 [(b9 v1),(aH v2)] (·=(.bk [(b9 r.1),(aw r.2)])):=by
 rw[qO]at hF;refine aP Tryz.func199 ?_;obtain⟨v3,h1,hF⟩:=ao hF;refine au af [[],[(4,cL (IJ N v1 v3 h1))]] ?_;refine bc hF (fun h2 hF=> ?_) fun h2 hF=> ?_
 ·cases hF;exact wr af [[(0,bT h2)],[]]
 refine au af [[(0,bF h2)],[]] ?_;refine bc hF (fun h3 hF=> ?_) fun h3 hF=> ?_
 ·cases hF;exact wr af [[(0,bT h3)],[]]
 obtain⟨v4,h4,hF⟩:=ao hF;refine au af [[(0,bF h3)],[(10,cL (UW N v1.xK v2 v4 h4))],[]] ?_;refine bc hF (fun h5 hF=> ?_) fun h5 hF=> ?_
 ·refine au af [[(0,bF (not_t h5))],[],[]] ?_;refine JI 2 1 114 2 [] (.inr (by kernel_rfl)) ?_;refine jZ nG 0 1 v1.xL fun h7=> ?_;refine rp af 1 [] [1,2,4,8,9] 4 [] [(1,1)] (fun((v5,v6,v9):Nat×(akb aU)×(akb aU))=>⟨66,[(1,(aH v2)),(2,(.ptr 0 0)),(4,(.ptr 1 0)),(8,(.ptr 2 0)),(9,(aw (v5:Int)))],[.cells (b9 v1).cells, .cells s8, .cells [(aH v4.1),(.own 3 (bZ v9))], .front 114 2 v9.length]⟩) (fun((v5,v6,v9):Nat×(akb aU)×(akb aU))=>v1.xL.drop v5=v6∧tU N v4 v2 v6 v5 v9=some r) (fun((v5,v6,v9):Nat×(akb aU)×(akb aU))=>v6.length) (0,v1.xL,[]) ⟨rfl,hF⟩ ?_;rintro⟨v5,v6,v9⟩ ⟨h8,hF⟩ f1 aO;cases v6 with
  |nil=>
   rw[tU]at hF;cases hF;exact wr af [[(10,oL v1.xL dd)],[(0,bF (cJ h8))],[]]
  |cons v7 v8=>
   rw[tU]at hF;obtain⟨v10,h9,hF⟩:=ao hF;refine au af [[(10,oL v1.xL dd)],[(0,bT (cD h8))],[(10,oE (eN (cd h8))),(22,cL (UW N v7.cH v2 v10 h9))],[]] ?_;refine bc hF (fun az hF=> ?_) fun az hF=> ?_
   ·obtain⟨aE,hF⟩:=dn hF;exact ot af aO (v5+1,v8,(v9++[(⟨v7.aV,v10.1⟩:aU)])) [[(0,bF (not_t az))],[(16,oE (eN (cd h8))),(34,oA nG v9 ([(⟨v7.aV,v10.1⟩:aU)]) aE)],[(5,oq (dh h8 rfl h7))]] ⟨ju h8,hF⟩
   cases hF;exact wr af [[(0,bT (bS az))],[]]
 cases hF;exact wr af [[(0,bT (bS h5))],[]]
def ku(N:Nat)(v1:an):akd Bool:=
 Option.bind (bif (v1.ar==(1:Int))then some (v1.aC.a8==(3:Int))else some false) fun v2=>
 some v2
theorem tL(N:Nat)(v1:an)(r:Bool)(hF:ku N v1=some r):aG Tryz.prog 201 [(aA v1)] (·=(aB r)):=by
 rw[ku]at hF;refine aP Tryz.func201 ?_;refine au af [[]] ?_;obtain⟨v2,h2,hF⟩:=ao hF;refine bf af [(2,(aB v2))] [.cells (aA v1).cells] ?_ ?_
 ·refine bc h2 (fun h1 h2=> ?_) fun h1 h2=> ?_
  ·cases h2;exact⟨[(3,bT h1)],[],by kernel_rfl⟩
  cases h2;exact⟨[(3,bF h1)],[],by kernel_rfl⟩
 cases hF;exact wr af []
def ph(N:Nat)(v1:an):akd (aF×Bool):=
 Option.bind (ku N v1) fun v2=>
 bif v2 then
  some ((⟨v1.ba.xN,[]⟩:aF),true)
 else
  some (v1.aK,(v1.ar==(2:Int)))
theorem FP(N:Nat)(v1:an)(r:aF×Bool)(hF:ph N v1=some r):aG Tryz.prog 200 [(aA v1)] (·=(.bk [(b9 r.1),(aB r.2)])):=by
 rw[ph]at hF;refine aP Tryz.func200 ?_;obtain⟨v2,h1,hF⟩:=ao hF;refine au af [[],[(4,cL (tL N v1 v2 h1))]] ?_;refine bc hF (fun h2 hF=> ?_) fun h2 hF=> ?_
 ·cases hF;exact wr af [[(0,bT h2)],[]]
 refine au af [[(0,bF h2)]] ?_;refine mo 2 af [(3,(aB (v1.ar==(2:Int))))] [.cells (aA v1).cells, .cells (b9 v1.aK).cells] ⟨[],by kernel_rfl⟩ ?_;cases hF;exact wr af []
def xX(N:Nat)(v1:Int64)(v2:Int64):akd (Int64×Bool):=
 Option.bind (bif (decide (v2.toInt>(0:Int)))then(bif (decide (v1.toInt>((9223372036854775807:Int64)-v2).toInt))then some true else(bif (decide (v2.toInt<(0:Int)))then some (decide (v1.toInt<((-9223372036854775808:Int64)-v2).toInt))else some false))else(bif (decide (v2.toInt<(0:Int)))then some (decide (v1.toInt<((-9223372036854775808:Int64)-v2).toInt))else some false)) fun v3=>
 bif v3 then
  some ((0:Int64),false)
 else
  some ((v1+v2),true)
theorem UY(N:Nat)(v1:Int64)(v2:Int64)(r:Int64×Bool)(hF:xX N v1 v2=some r):aG Tryz.prog 262 [(aH v1),(aH v2)] (·=(.bk [(aH r.1),(aB r.2)])):=by
 rw[xX]at hF;refine aP Tryz.func262 ?_;refine au af [[]] ?_;obtain⟨v3,h5,hF⟩:=ao hF;refine bf af [(23,(aB v3))] [] ?_ ?_
 ·refine bc h5 (fun h1 h5=> ?_) fun h1 h5=> ?_
  ·refine bc h5 (fun h2 h5=> ?_) fun h2 h5=> ?_
   ·cases h5;exact⟨[(2,bT h1),(8,bT h2),(11,uN)],[(17,⟨_,_, .eq (ga (9223372036854775807:Int64) v2)⟩)],by kernel_rfl⟩
   refine bc h5 (fun h3 h5=> ?_) fun h3 h5=> ?_
   ·obtain rfl:=sj h5;exact⟨[(2,bT h1),(8,bF h2),(11,bT h3)],[(17,⟨_,_, .eq (ga (9223372036854775807:Int64) v2)⟩),(44,⟨_,_, .eq (ga (-9223372036854775808:Int64) v2)⟩),(49,bT h3)],by kernel_rfl⟩
   cases h5;exact⟨[(2,bT h1),(8,bF h2),(11,bF h3)],[(17,⟨_,_, .eq (ga (9223372036854775807:Int64) v2)⟩),(49,bF h3)],by kernel_rfl⟩
  refine bc h5 (fun h4 h5=> ?_) fun h4 h5=> ?_
  ·obtain rfl:=sj h5;exact⟨[(2,bF h1),(8,bF rfl),(11,bT h4)],[(44,⟨_,_, .eq (ga (-9223372036854775808:Int64) v2)⟩),(49,bT h4)],by kernel_rfl⟩
  cases h5;exact⟨[(2,bF h1),(8,bF rfl),(11,bF h4)],[(49,bF h4)],by kernel_rfl⟩
 refine bc hF (fun h6 hF=> ?_) fun h6 hF=> ?_
 ·cases hF;exact wr af [[(0,bT h6)],[]]
 cases hF;exact wr af [[(0,bF h6)],[(8,⟨_,_, .eq (lg v1 v2)⟩)]]
def xf(N:Nat)(v3:akb akc)(v1:Nat)(v2:akc):Nat→Int→akd Bool
 |0,_=>none
 |v4+1,v5=>
  bif (Nat.beq v3.length v1)then
  bif (decide (v5<(v1:Int)))then
   bif (decide ((0:Int)≤v5))then
   Option.bind (v3[(v5).toNat]?) fun v6=>
   bif (bL v6==bL v2)then
    some true
   else
    (fun cX=>xf N v3 v1 v2 v4 cX) (aS (v5+(1:Int)))
   else none
  else
   some false
  else none
def FM(N:Nat)(v1:Nat)(v2:akc)(v3:akb akc):akd Bool:=
 xf N v3 v1 v2 N (0:Int)
def qv(v3:akb akc)(l:akb aq):akb aq:= .vec 9 1 (bo (v3.map cB))::l
theorem adO(N:Nat)(v1:Nat)(v2:akc)(v3:akb akc)(r:Bool)(hF:FM N v1 v2 v3=some r):bO Tryz.prog 90 [(.vec 0 0 v1 v1 1),(aR v2)] [.vec 9 1 (bo (v3.map cB))] fun r1 h1=>r1=(aB r)∧h1=[.vec 9 1 (bo (v3.map cB))]:=by
 rw[FM]at hF;refine Cn 1 Tryz.func90 rfl (by kernel_rfl) (ajv rfl) ?_;refine CL (s':=⟨18,[(0,(.vec 0 0 v1 v1 1)),(1,(aR v2))],(qv v3 [])⟩) (by kernel_rfl) ?_;refine bG ?_;refine rg [] [] (qv v3 []) (by kernel_rfl) ?_;refine bG ?_;refine bG ?_;refine rg [] [(5,(aw (0:Int)))] (qv v3 []) (by kernel_rfl) ?_;refine gv ?_;refine E1 [0,1,5] 1 [] [] (fun((v4,v5):Nat×Int)=>⟨18,[(0,(.vec 0 0 v1 v1 1)),(1,(aR v2)),(5,(aw v5))],(qv v3 [])⟩) (fun((v4,v5):Nat×Int)=>xf N v3 v1 v2 v4 v5=some r) (fun((v4,v5):Nat×Int)=>v4) (N,(0:Int)) (ajv rfl) ⟨(iL (xs:=(v3.map cB)) gU),by kernel_rfl⟩ hF ?_;rintro⟨v4,v5⟩ hF
 try dsimp only at hF
 cases v4 with
 |zero=>
  rw[xf]at hF;cases hF
 |succ v4=>
  rw[xf]at hF;refine bG ?_;refine bG ?_;have h1:=jw hF;replace hF:=(eC h1).symm.trans hF;refine rg [(7,⟨_,_, .pr .no (gK (f:=cB) (ajB h1))⟩)] [(9,(aB (decide (v5<(v1:Int)))))] (qv v3 []) (by kernel_rfl) ?_;rcases jQ (decide (v5<(v1:Int)))with h2|h2
  ·replace hF:=(eC h2).symm.trans hF;refine kd (t:=(decide (v5<(v1:Int)))) (by kernel_rfl) h2 ?_;refine fG ?_;refine cz ?_;refine bG ?_;refine gv ?_;refine bG ?_;have h3:=jw hF;replace hF:=(eC h3).symm.trans hF;obtain⟨v6,h4,hF⟩:=ao hF;refine rg [(7,⟨_,_, .pr (.ix ((v5).toNat)) (kZ (gK (f:=cB) (ajB h1)) (of_decide_eq_true h3) (of_decide_eq_true h2) rfl)⟩),(10,⟨_,_, .pr (.el ((cB v6).map AV.d)) (Bv (f:=cB) (ajB h1) h4)⟩)] [(17,(aB (bL v6==bL v2)))] (qv v3 []) (by kernel_rfl) ?_;rcases jQ (bL v6==bL v2)with h5|h5
   ·replace hF:=(eC h5).symm.trans hF;refine kd (t:=(bL v6==bL v2)) (by kernel_rfl) h5 ?_;refine bG ?_;refine rg [] [(4,(aB true))] (qv v3 []) (by kernel_rfl) ?_;refine dV (gi (fp (fp (gi (fp ?_)))));have hr:=ajG hF;subst hr;exact pn (iL (xs:=(v3.map cB)) gU) (by kernel_rfl)
   replace hF:=(jG h5).symm.trans hF;refine j6 (t:=(bL v6==bL v2)) (by kernel_rfl) h5 ?_;refine fG ?_;refine la ?_;refine cz ?_;refine re [] [(5,(aw (aS (v5+(1:Int))))),(11,(aw (aS (v5+(1:Int))))),(10,(aw v5))] (qv v3 []) (by kernel_rfl) ?_;refine cz ?_;exact⟨(v4,(aS (v5+(1:Int)))),⟨(iL (xs:=(v3.map cB)) gU),by kernel_rfl⟩,hF,aj9 _⟩
  replace hF:=(jG h2).symm.trans hF;refine j6 (t:=(decide (v5<(v1:Int)))) (by kernel_rfl) h2 ?_;refine pk (lf (lf (tu rfl ?_)));refine cz ?_;refine bG ?_;refine rg [] [(4,(aB false))] (qv v3 []) (by kernel_rfl) ?_;refine dV ?_;have hr:=ajG hF;subst hr;exact pn (iL (xs:=(v3.map cB)) gU) (by kernel_rfl)
def tk(N:Nat)(v1:Nat):Nat→Int→(akb akc)→akd (Nat×(akb akc))
 |0,_,_=>none
 |v5+1,v6,v7=>
  Option.bind (bif (decide (v6>(0:Int)))then bif (Nat.beq v7.length (v1+1))then
  bif (decide ((0:Int)≤(aS (v6-(1:Int)))))then
  bif (decide ((aS (v6-(1:Int)))<((v1+1):Int)))then
  Option.bind (v7[((aS (v6-(1:Int)))).toNat]?) fun v8=>
  bif (decide ((0:Int)≤v6))then
  bif (decide (v6<((v1+1):Int)))then
  Option.bind (v7[(v6).toNat]?) fun v9=>
  some (!((Op.bytesLess (bL v8) (bL v9))||(bL v8==bL v9)))
  else none
  else none
  else none
  else none
  else none else some false) fun v10=>
  bif v10 then
   bif (Nat.beq v7.length (v1+1))then
   bif (decide ((0:Int)≤v6))then
   bif (decide (v6<((v1+1):Int)))then
   Option.bind (v7[(v6).toNat]?) fun v11=>
   bif (decide ((0:Int)≤(aS (v6-(1:Int)))))then
   bif (decide ((aS (v6-(1:Int)))<((v1+1):Int)))then
   Option.bind (v7[((aS (v6-(1:Int)))).toNat]?) fun v12=>
   bif (Nat.beq (v7.set ((v6).toNat) v12).length (v1+1))then
   Option.bind ((v7.set ((v6).toNat) v12)[((aS (v6-(1:Int)))).toNat]?) fun aZ=>
   (fun cX gh=>tk N v1 v5 cX gh) (aS (v6-(1:Int))) ((v7.set ((v6).toNat) v12).set (((aS (v6-(1:Int)))).toNat) v11)
   else none
   else none
   else none
   else none
   else none
   else none
  else
   some ((v1+1),v7)
def BT(N:Nat)(v1:Nat)(v2:akc)(v3:akb akc):akd (Nat×(akb akc)):=
 Option.bind (FM N v1 v2 v3) fun v4=>
 bif v4 then
  some (v1,v3)
 else
  bif (Nat.beq v3.length v1)then
  bif (Nat.ble ((v1+1)*16) 140737488355328)then
  bif (Nat.beq (v3++[v2]).length (v1+1))then
  tk N v1 N (aS (((v1+1):Int)-(1:Int))) (v3++[v2])
  else none
  else none
  else none
def Ao(v3:akb akc)(l:akb aq):akb aq:= .vec 9 1 (bo (v3.map cB))::l
theorem Yw(N:Nat)(v1:Nat)(v2:akc)(v3:akb akc)(r:Nat×(akb akc))(hF:BT N v1 v2 v3=some r):bO Tryz.prog 307 [(.vec 0 0 v1 v1 1),(aR v2)] [.vec 9 1 (bo (v3.map cB))] fun r1 h1=>r1=(.vec 0 0 r.1 r.1 1)∧h1=[.vec 9 1 (bo (r.2.map cB))]:=by
 rw[BT]at hF;refine Cn 1 Tryz.func307 rfl (by kernel_rfl) (ajv rfl) ?_;refine CL (s':=⟨52,[(0,(.vec 0 0 v1 v1 1)),(1,(aR v2))],(Ao v3 [])⟩) (by kernel_rfl) ?_;refine bG ?_;refine rg [] [] (Ao v3 []) (by kernel_rfl) ?_;refine bG ?_;refine bG ?_;obtain⟨v4,h1,hF⟩:=ao hF;refine rg [(7,oX (vM (xs:=(v3.map cB)) po) (vM (xs:=(v3.map cB)) po) [(.vec 0 0 v1 v1 1),(aR v2)] (Ao v3 []) [0] (adO N v1 v2 v3 v4 h1))] [(9,(aB v4))] (Ao v3 []) (by kernel_rfl) ?_;rcases jQ v4 with h2|h2
 ·replace hF:=(eC h2).symm.trans hF;refine kd (t:=v4) (by kernel_rfl) h2 ?_;refine bG ?_;refine rg [] [(4,(.vec 0 0 v1 v1 1))] (Ao v3 []) (by kernel_rfl) ?_;refine dV (fp ?_);have hr:=ajG hF;subst hr;exact pn (iL (xs:=(v3.map cB)) gU) (by kernel_rfl)
 replace hF:=(jG h2).symm.trans hF;refine j6 (t:=v4) (by kernel_rfl) h2 ?_;refine fG ?_;refine cz ?_;refine bG ?_;have h3:=jw hF;replace hF:=(eC h3).symm.trans hF;have h4:=jw hF;replace hF:=(eC h4).symm.trans hF;refine rg [(10,⟨_,_, .pr (.ap (bo ((v3++[v2]).map cB)) (bo (([v2]).map cB)) (v1+1) (v1+1)) (agD (f:=cB) (h:=(Ao v3 [])) (y:=(.full (gw [v2]))) (k:=1) (ajB h3) rfl (fun c hc=>QW c (by rw[qL];exact hc)) rfl rfl (o0 h4 (by decide)).1 (o0 h4 (by decide)).2)⟩)] [(0,(.vec 0 0 (v1+1) (v1+1) 1))] [.vec 9 1 (bo ((v3++[v2]).map cB))] (by kernel_rfl) ?_;refine bG ?_;refine bG ?_;have h5:=jw hF;replace hF:=(eC h5).symm.trans hF;refine rg [(4,⟨_,_, .pr .no (gK (f:=cB) (ajB h5))⟩)] [(5,(aw (aS (((v1+1):Int)-(1:Int)))))] [.vec 9 1 (bo ((v3++[v2]).map cB))] (by kernel_rfl) ?_;refine gv ?_;refine E1 [0,5] 1 [] [] (fun((v5,v6,v7):Nat×Int×(akb akc))=>⟨52,[(0,(.vec 0 0 (v1+1) (v1+1) 1)),(5,(aw v6))],[.vec 9 1 (bo (v7.map cB))]⟩) (fun((v5,v6,v7):Nat×Int×(akb akc))=>tk N v1 v5 v6 v7=some r) (fun((v5,v6,v7):Nat×Int×(akb akc))=>v5) (N,(aS (((v1+1):Int)-(1:Int))),(v3++[v2])) (ajv rfl) ⟨(iL (xs:=((v3++[v2]).map cB)) gU),by kernel_rfl⟩ hF ?_
 rintro⟨v5,v6,v7⟩ hF
 try dsimp only at hF
 cases v5 with
 |zero=>
  rw[tk]at hF;cases hF
 |succ v5=>
  rw[tk]at hF;refine bG ?_;refine bG ?_;obtain⟨v10,aJ,hF⟩:=ao hF;refine rdE af (by kernel_rfl) [(31,(aB v10))] [.vec 9 1 (bo (v7.map cB))] ?_ ?_
  ·rcases jQ (decide (v6>(0:Int)))with h6|h6
   ·replace aJ:=(eC h6).symm.trans aJ;have h7:=jw aJ;replace aJ:=(eC h7).symm.trans aJ;have h8:=jw aJ;replace aJ:=(eC h8).symm.trans aJ;have h9:=jw aJ;replace aJ:=(eC h9).symm.trans aJ;obtain⟨v8,az,aJ⟩:=ao aJ;have aE:=jw aJ;replace aJ:=(eC aE).symm.trans aJ;have aN:=jw aJ;replace aJ:=(eC aN).symm.trans aJ;obtain⟨v9,aY,aJ⟩:=ao aJ;have he:=ajG aJ;subst he;exact⟨[(9,bT h6),(12,bT h6),(15,bT h6),(18,bT h6),(19,⟨_,_, .pr (.ix (((aS (v6-(1:Int)))).toNat)) (kZ (gK (f:=cB) (ajB h7)) (of_decide_eq_true h8) (of_decide_eq_true h9) rfl)⟩),(21,bT h6),(22,⟨_,_, .pr (.el ((cB v8).map AV.d)) (Bv (f:=cB) (ajB h7) az)⟩),(24,bT h6),(27,bT h6),(30,bT h6),(31,⟨_,_, .pr (.ix ((v6).toNat)) (kZ (gK (f:=cB) (ajB h7)) (of_decide_eq_true aE) (of_decide_eq_true aN) rfl)⟩),(33,bT h6),(34,⟨_,_, .pr (.el ((cB v9).map AV.d)) (Bv (f:=cB) (ajB h7) aY)⟩),(36,bT h6),(40,bT h6)],by kernel_rfl⟩
   replace aJ:=(jG h6).symm.trans aJ;have he:=ajG aJ;subst he;exact⟨[(9,bF h6),(12,bF h6),(15,bF h6),(18,bF h6),(21,bF h6),(24,bF h6),(27,bF h6),(30,bF h6),(33,bF h6),(36,bF h6),(40,bF h6)],by kernel_rfl⟩
  rcases jQ v10 with bt|bt
  ·replace hF:=(eC bt).symm.trans hF;refine kd (t:=v10) (by kernel_rfl) bt ?_;refine fG ?_;refine cz ?_;refine bG ?_;refine gv ?_;refine bG ?_;have aM:=jw hF;replace hF:=(eC aM).symm.trans hF;have bp:=jw hF;replace hF:=(eC bp).symm.trans hF;have a7:=jw hF;replace hF:=(eC a7).symm.trans hF;obtain⟨v11,bR,hF⟩:=ao hF;refine rg [(7,⟨_,_, .pr (.ix ((v6).toNat)) (kZ (gK (f:=cB) (ajB aM)) (of_decide_eq_true bp) (of_decide_eq_true a7) rfl)⟩),(10,⟨_,_, .pr (.el ((cB v11).map AV.d)) (Bv (f:=cB) (ajB aM) bR)⟩)] [(6,(aR v11))] [.vec 9 1 (bo (v7.map cB))] (by kernel_rfl) ?_;refine bG ?_;have b5:=jw hF;replace hF:=(eC b5).symm.trans hF;have ck:=jw hF;replace hF:=(eC ck).symm.trans hF;obtain⟨v12,bw,hF⟩:=ao hF;refine rg [(16,⟨_,_, .pr (.ix (((aS (v6-(1:Int)))).toNat)) (kZ (gK (f:=cB) (ajB aM)) (of_decide_eq_true b5) (of_decide_eq_true ck) rfl)⟩),(19,⟨_,_, .pr (.el ((cB v12).map AV.d)) (Bv (f:=cB) (ajB aM) bw)⟩),(22,⟨_,_, .pr (.ix ((v6).toNat)) (kZ (gK (f:=cB) (ajB aM)) (of_decide_eq_true bp) (of_decide_eq_true a7) rfl)⟩),(25,⟨_,_, .pr (.st ((cB v11).map AV.d) (bo ((v7.set ((v6).toNat) v12).map cB))) (vV (f:=cB) (j:=0) (y:=v12) (zs:=[(aR v12)]) (ajB aM) bR rfl)⟩)] [] [.vec 9 1 (bo ((v7.set ((v6).toNat) v12).map cB))] (by kernel_rfl) ?_
   have cP:=jw hF;replace hF:=(eC cP).symm.trans hF;obtain⟨aZ,cC,hF⟩:=ao hF;refine re [(13,⟨_,_, .pr (.ix (((aS (v6-(1:Int)))).toNat)) (kZ (gK (f:=cB) (ajB cP)) (of_decide_eq_true b5) (of_decide_eq_true ck) rfl)⟩),(16,⟨_,_, .pr (.st ((cB aZ).map AV.d) (bo (((v7.set ((v6).toNat) v12).set (((aS (v6-(1:Int)))).toNat) v11).map cB))) (vV (f:=cB) (j:=0) (y:=v11) (zs:=[(aR v11)]) (ajB cP) cC rfl)⟩)] [(50,(.cN 0 (((aS (v6-(1:Int)))).toNat) 0 (v1+1) 1)),(49,(aR v11)),(48,(aw (aS (v6-(1:Int))))),(47,(aw v6)),(46,(.vec 0 0 (v1+1) (v1+1) 1))] [.vec 9 1 (bo (((v7.set ((v6).toNat) v12).set (((aS (v6-(1:Int)))).toNat) v11).map cB))] (by kernel_rfl) ?_;refine la ?_;refine cz ?_;refine re [] [(5,(aw (aS (v6-(1:Int))))),(33,(aw (aS (v6-(1:Int))))),(32,(aw v6))] [.vec 9 1 (bo (((v7.set ((v6).toNat) v12).set (((aS (v6-(1:Int)))).toNat) v11).map cB))] (by kernel_rfl) ?_;refine cz ?_;exact⟨(v5,(aS (v6-(1:Int))),((v7.set ((v6).toNat) v12).set (((aS (v6-(1:Int)))).toNat) v11)),⟨(iL (xs:=(((v7.set ((v6).toNat) v12).set (((aS (v6-(1:Int)))).toNat) v11).map cB)) gU),by kernel_rfl⟩,hF,aj9 _⟩
  replace hF:=(jG bt).symm.trans hF;refine j6 (t:=v10) (by kernel_rfl) bt ?_;refine pk (lf (lf (tu rfl ?_)));refine cz ?_;refine bG ?_;refine rg [] [(4,(.vec 0 0 (v1+1) (v1+1) 1))] [.vec 9 1 (bo (v7.map cB))] (by kernel_rfl) ?_;refine dV ?_;have hr:=ajG hF;subst hr;exact pn (iL (xs:=(v7.map cB)) gU) (by kernel_rfl)
def uD(N:Nat)(ma:Nat→(akb akc)→akd ((akb akc))):akb aU→Nat→Nat→(akb akc)→akd ((akb akc))
 |[],_,v12,aZ=>
  ma v12 aZ
 |v10::v11,v8,v12,aZ=>
  Option.bind (BT N v12 v10.aV aZ) fun bu=>
  (fun pW ag4=>uD N ma v11 (v8+1) pW ag4) bu.1 bu.2
def oa(N:Nat):akb aF→Nat→Nat→(akb akc)→akd ((akb akc))
 |[],_,v6,v7=>
  bif (Nat.beq v7.length v6)then
  some v7
  else none
 |v4::v5,v2,v6,v7=>
  uD N (fun cX gh=>oa N v5 (v2+1) cX gh) v4.xL 0 v6 v7
def DM(N:Nat)(v1:akb aF):akd ((akb akc)):=
 oa N v1 0 0 []
def AG(v7:akb akc)(l:akb aq):akb aq:= .vec 9 1 (bo (v7.map cB))::l
def Df(aZ:akb akc)(l:akb aq):akb aq:= .vec 9 1 (bo (aZ.map cB))::l
theorem acX(N:Nat)(v1:akb aF)(r:(akb akc))(hF:DM N v1=some r):aG Tryz.prog 263 [(.d (.sl (du v1)))] (·=(.d (.sl (gw r)))):=by
 rw[DM]at hF;refine yW Tryz.func263 rfl (by kernel_rfl) ?_;refine ja [0] 0 (ajy _) (s':=⟨34,[(0,(.d (.sl (du v1))))],[]⟩) (by kernel_rfl) ?_;refine bG ?_;refine rg [] [] [] (by kernel_rfl) ?_;refine bG ?_;refine rg [] [(3,(.d (.v (.slice none 0 0))))] [] (by kernel_rfl) ?_;refine bG ?_;refine bG ?_;refine rg [] [(4,(aw (0:Int)))] [] (by kernel_rfl) ?_;refine gv ?_;refine Jm 3 9 1 (by kernel_rfl) ?_;refine xk 0 (du v1) (by kernel_rfl) fun h1=> ?_;have h2:=JV eG h1;refine E1 [0,3,4] 1 [] [] (fun((v2,v3,v6,v7):Nat×(akb aF)×Nat×(akb akc))=>⟨34,[(0,(.d (.sl (du v1)))),(3,(.vec 0 0 v6 v6 1)),(4,(aw (v2:Int)))],(AG v7 [])⟩) (fun((v2,v3,v6,v7):Nat×(akb aF)×Nat×(akb akc))=>v1.drop v2=v3∧oa N v3 v2 v6 v7=some r) (fun((v2,v3,v6,v7):Nat×(akb aF)×Nat×(akb akc))=>v3.length) (0,v1,0,[]) (ajv rfl) ⟨(iL (xs:=(([]:akb akc).map cB)) gU),by kernel_rfl⟩ ⟨rfl,hF⟩ ?_;rintro⟨v2,v3,v6,v7⟩ ⟨h3,hF⟩;cases v3 with
 |nil=>
  rw[oa]at hF;refine bG ?_;refine bG ?_;refine rg [(7,oL v1 eG)] [(9,(aB (decide ((v2:Int)<(v1.length:Int)))))] (AG v7 []) (by kernel_rfl) ?_;refine j6 (t:=(decide ((v2:Int)<(v1.length:Int)))) (by kernel_rfl) (cJ h3) ?_;refine pk (lf (lf (tu rfl ?_)));refine cz ?_;refine bG ?_;refine rg [] [(2,(.vec 0 0 v6 v6 1))] (AG v7 []) (by kernel_rfl) ?_;have h4:=jw hF;replace hF:=(eC h4).symm.trans hF;refine ahD [2] 0 (v7.map cB) (gw v7) (L:=v6) (AG v7 []) 1 rfl (xy (fun _=>rfl) _) (y9 (ajB h4)) (qL _) (by kernel_rfl) (.iY .nil) ?_;refine CL (s':=⟨34,[(2,(.d (.sl (gw v7))))],[.gone]⟩) (by kernel_rfl) ?_;refine dV ?_;have hr:=ajG hF;subst hr;exact jI (by kernel_rfl)
 |cons v4 v5=>
  rw[oa]at hF;refine bG ?_;refine bG ?_;refine rg [(7,oL v1 eG)] [(9,(aB (decide ((v2:Int)<(v1.length:Int)))))] (AG v7 []) (by kernel_rfl) ?_;refine kd (t:=(decide ((v2:Int)<(v1.length:Int)))) (by kernel_rfl) (cD h3) ?_;refine fG ?_;refine cz ?_;refine bG ?_;refine gv ?_;refine bG ?_;refine rg [] [(5,(aw (0:Int)))] (AG v7 []) (by kernel_rfl) ?_;refine gv ?_;refine xk 0 (du v1) (by kernel_rfl) fun h5=> ?_;have h6:v4.xL.length≤maxLen:=by rw[←dd];exact uy (NO (j:=1) (d:= .sl (bZ v4.xL)) h5 (mS (cd h3)) rfl)
  refine E1 [0,3,4,5] 1 [] [] (fun((v8,v9,v12,aZ):Nat×(akb aU)×Nat×(akb akc))=>⟨34,[(0,(.d (.sl (du v1)))),(3,(.vec 0 0 v12 v12 1)),(4,(aw (v2:Int))),(5,(aw (v8:Int)))],(Df aZ [])⟩) (fun((v8,v9,v12,aZ):Nat×(akb aU)×Nat×(akb akc))=>v4.xL.drop v8=v9∧uD N (fun cX gh=>oa N v5 (v2+1) cX gh) v9 v8 v12 aZ=some r) (fun((v8,v9,v12,aZ):Nat×(akb aU)×Nat×(akb akc))=>v9.length) (0,v4.xL,v6,v7) (ajv rfl) ⟨(iL (xs:=(v7.map cB)) gU),by kernel_rfl⟩ ⟨rfl,hF⟩ ?_;rintro⟨v8,v9,v12,aZ⟩ ⟨h7,hF⟩;cases v9 with
  |nil=>
   rw[uD]at hF;refine bG ?_;refine bG ?_;refine rg [(10,oE (mS (cd h3))),(19,oL v4.xL dd)] [(19,(aB (decide ((v8:Int)<(v4.xL.length:Int)))))] (Df aZ []) (by kernel_rfl) ?_;refine j6 (t:=(decide ((v8:Int)<(v4.xL.length:Int)))) (by kernel_rfl) (cJ h7) ?_;refine pk (lf (lf (tu rfl ?_)));refine la ?_;refine cz ?_;refine re [(5,oq (dh h3 rfl h2))] [(4,(aw ((v2+1:Nat):Int))),(11,(aw ((v2+1:Nat):Int))),(10,(aw (v2:Int)))] (Df aZ []) (by kernel_rfl) ?_;refine cz ?_;exact⟨(v2+1,v5,v12,aZ),⟨(iL (xs:=(aZ.map cB)) gU),by kernel_rfl⟩,⟨ju h3,hF⟩,aj9 _⟩
  |cons v10 v11=>
   rw[uD]at hF;refine bG ?_;refine bG ?_;refine rg [(10,oE (mS (cd h3))),(19,oL v4.xL dd)] [(19,(aB (decide ((v8:Int)<(v4.xL.length:Int)))))] (Df aZ []) (by kernel_rfl) ?_;refine kd (t:=(decide ((v8:Int)<(v4.xL.length:Int)))) (by kernel_rfl) (cD h7) ?_;refine fG ?_;refine cz ?_;refine bG ?_;refine gv ?_;obtain⟨bu,h8,hF⟩:=ao hF;refine re [(10,oE (mS (cd h3))),(22,oE (eN (cd h7))),(31,oX (vM (xs:=(aZ.map cB)) po) (vM (xs:=(bu.2.map cB)) po) [(.vec 0 0 v12 v12 1),(aR v10.aV)] (Df aZ []) [0] (Yw N v12 v10.aV aZ bu h8))] [(3,(.vec 0 0 bu.1 bu.1 1)),(32,(.vec 0 0 bu.1 bu.1 1)),(31,(aR v10.aV)),(30,(.bD [wH v10] 0 0)),(29,(.bD [wH v10] 0 0)),(28,(aw (v8:Int))),(27,(.d (.sl (bZ v4.xL)))),(26,(.bD [jc v4] 0 1)),(25,(.bD [jc v4] 0 0)),(24,(aw (v2:Int))),(23,(.d (.sl (du v1)))),(22,(.vec 0 0 v12 v12 1))] [.vec 9 1 (bo (bu.2.map cB))] (by kernel_rfl) ?_;refine la ?_;refine cz ?_;refine re [(5,oq (dh h7 rfl h6))] [(5,(aw ((v8+1:Nat):Int))),(21,(aw ((v8+1:Nat):Int))),(20,(aw (v8:Int)))] [.vec 9 1 (bo (bu.2.map cB))] (by kernel_rfl) ?_;refine cz ?_;exact⟨(v8+1,v11,bu.1,bu.2),⟨(iL (xs:=(bu.2.map cB)) gU),by kernel_rfl⟩,⟨ju h7,hF⟩,aj9 _⟩
def vL(N:Nat)(v2:akc):akb aU→Nat→akd Int64
 |[],_=>
  some (0:Int64)
 |v5::v6,v3=>
  bif (bL v5.aV==bL v2)then
   some v5.cH
  else
   (vL N v2 v6 (v3+1))
def Br(N:Nat)(v1:aF)(v2:akc):akd Int64:=
 vL N v2 v1.xL 0
theorem Wz(N:Nat)(v1:aF)(v2:akc)(r:Int64)(hF:Br N v1 v2=some r):aG Tryz.prog 264 [(b9 v1),(aR v2)] (·=(aH r)):=by
 rw[Br]at hF;refine aP Tryz.func264 ?_;refine au af [[],[]] ?_;refine jZ nG 0 1 v1.xL fun h2=> ?_;refine fE af 1 [] [1,2,5] 1 v1.xL (fun v3=>⟨27,[(1,(aR v2)),(2,(.ptr 0 0)),(5,(aw (v3:Int)))],[.cells (b9 v1).cells]⟩) (vL N v2) hF ?_ ?_
 ·intro v3 h3 hF f1;rw[vL]at hF;cases hF;exact wr af [[(10,oL v1.xL dd)],[(0,bF (cJ h3))],[]]
 intro v3 v5 v6 h3 hF f1 aO;rw[vL]at hF;refine au af [[(10,oL v1.xL dd)],[(0,bT (cD h3))],[(10,oE (eN (cd h3)))]] ?_;refine bc hF (fun h4 hF=> ?_) fun h4 hF=> ?_
 ·cases hF;exact wr af [[(0,bT h4)],[(10,oE (eN (cd h3)))]]
 exact wb af aO () [[(0,bF h4)],[(5,oq (dh h3 rfl h2))]] h3 hF
def p6(N:Nat)(v6:Int64×Bool)(v1:aF)(v2:aF):akb akc→Nat→(akb aU)→akd (aF×Int)
 |[],_,v12=>
  some ((⟨v6.1,v12⟩:aF),(0:Int))
 |v10::v11,v8,v12=>
  Option.bind (Br N v1 v10) fun aZ=>
  Option.bind (Br N v2 v10) fun bu=>
  Option.bind (xX N aZ bu) fun bQ=>
  bif bQ.2 then
   bif (bQ.1.toInt !=(0:Int))then
    bif (Nat.ble ((v12.length+1)*24) 140737488355328)then
    (fun cX=>p6 N v6 v1 v2 v11 (v8+1) cX) (v12++[(⟨v10,bQ.1⟩:aU)])
    else none
   else
    (fun cX=>p6 N v6 v1 v2 v11 (v8+1) cX) v12
  else
   some (zLin,(3:Int))
def rm(N:Nat)(v1:aF)(v2:aF):akd (aF×Int):=
 Option.bind (vv N v1) fun v3=>
 Option.bind (bif (v3 !=(0:Int))then some true else Option.bind (vv N v2) fun v4=>
 some (v4 !=(0:Int))) fun v5=>
 bif v5 then
  some (zLin,(1:Int))
 else
  Option.bind (xX N v1.xK v2.xK) fun v6=>
  bif v6.2 then
   Option.bind (DM N ([v1,v2])) fun v7=>
   p6 N v6 v1 v2 v7 0 []
  else
   some (zLin,(3:Int))
theorem Qk(N:Nat)(v1:aF)(v2:aF)(r:aF×Int)(hF:rm N v1 v2=some r):aG Tryz.prog 202 [(b9 v1),(b9 v2)] (·=(.bk [(b9 r.1),(aw r.2)])):=by
 rw[rm]at hF;refine aP Tryz.func202 ?_;refine au af [[]] ?_;obtain⟨v3,h1,hF⟩:=ao hF;obtain⟨v5,h4,hF⟩:=ao hF;refine bf af [(20,(aB v5))] [.cells (b9 v1).cells, .cells (b9 v2).cells, .cells s8] ?_ ?_
 ·refine bc h4 (fun h2 h4=> ?_) fun h2 h4=> ?_
  ·cases h4;exact⟨[(3,bT h2)],[(4,cL (IJ N v1 v3 h1))],by kernel_rfl⟩
  obtain⟨v4,h3,h4⟩:=ao h4;cases h4;exact⟨[(3,bF h2)],[(4,cL (IJ N v1 v3 h1)),(16,cL (IJ N v2 v4 h3))],by kernel_rfl⟩
 refine bc hF (fun h5 hF=> ?_) fun h5 hF=> ?_
 ·cases hF;exact wr af [[(0,bT h5)],[]]
 obtain⟨v6,h6,hF⟩:=ao hF;refine au af [[(0,bF h5)],[(13,cL (UY N v1.xK v2.xK v6 h6))],[]] ?_;refine bc hF (fun h7 hF=> ?_) fun h7 hF=> ?_
 ·obtain⟨v7,h8,hF⟩:=ao hF;refine au af [[(0,bF (not_t h7))],[],[(10,cL (acX N ([v1,v2]) v7 h8))],[]] ?_;refine JI 3 1 114 2 [] (.inr (by kernel_rfl)) ?_;refine fO LU 9 v7 fun az=> ?_;refine rp af 1 [] [2,3,4,8,9,10] 5 [] [(2,1)] (fun((v8,v9,v12):Nat×(akb akc)×(akb aU))=>⟨78,[(2,(.ptr 0 0)),(3,(.ptr 1 0)),(4,(.ptr 2 0)),(8,(.ptr 3 0)),(9,(.d (.sl (gw v7)))),(10,(aw (v8:Int)))],[.cells (b9 v1).cells, .cells (b9 v2).cells, .cells s8, .cells [(aH v6.1),(.own 4 (bZ v12))], .front 114 2 v12.length]⟩) (fun((v8,v9,v12):Nat×(akb akc)×(akb aU))=>v7.drop v8=v9∧p6 N v6 v1 v2 v9 v8 v12=some r) (fun((v8,v9,v12):Nat×(akb akc)×(akb aU))=>v9.length) (0,v7,[]) ⟨rfl,hF⟩ ?_;rintro⟨v8,v9,v12⟩ ⟨aE,hF⟩ f1 aO;cases v9 with
  |nil=>
   rw[p6]at hF;cases hF;exact wr af [[(7,oL v7 zc)],[(0,bF (cJ aE))],[]]
  |cons v10 v11=>
   rw[p6]at hF;obtain⟨aZ,aN,hF⟩:=ao hF;obtain⟨bu,aY,hF⟩:=ao hF;obtain⟨bQ,aJ,hF⟩:=ao hF;refine au af [[(7,oL v7 zc)],[(0,bT (cD aE))],[(10,oE (DJ (cd aE))),(16,cL (Wz N v1 v10 aZ aN)),(28,oE (DJ (cd aE))),(34,cL (Wz N v2 v10 bu aY)),(37,cL (UY N aZ bu bQ aJ))],[]] ?_;refine bc hF (fun bt hF=> ?_) fun bt hF=> ?_
   ·refine au af [[(0,bF (not_t bt))],[]] ?_;refine bc hF (fun aM hF=> ?_) fun aM hF=> ?_
    ·obtain⟨bp,hF⟩:=dn hF;exact ot af aO (v8+1,v11,(v12++[(⟨v10,bQ.1⟩:aU)])) [[(0,bT aM)],[(13,oE (DJ (cd aE))),(28,oA nG v12 ([(⟨v10,bQ.1⟩:aU)]) bp)],[(5,oq (dh aE rfl az))]] ⟨ju aE,hF⟩
    exact ot af aO (v8+1,v11,v12) [[(0,bF aM)],[(5,oq (dh aE rfl az))]] ⟨ju aE,hF⟩
   cases hF;exact wr af [[(0,bT (bS bt))],[]]
 cases hF;exact wr af [[(0,bT (bS h7))],[]]
def rO(N:Nat)(v1:aF)(v2:aF):akd (aF×Bool):=
 Option.bind (qO N v2 (-1:Int64)) fun v3=>
 bif (v3.2 !=(0:Int))then
  some (zLin,false)
 else
  Option.bind (rm N v1 v3.1) fun v4=>
  some (v4.1,(v4.2==(0:Int)))
theorem SF(N:Nat)(v1:aF)(v2:aF)(r:aF×Bool)(hF:rO N v1 v2=some r):aG Tryz.prog 203 [(b9 v1),(b9 v2)] (·=(.bk [(b9 r.1),(aB r.2)])):=by
 rw[rO]at hF;refine aP Tryz.func203 ?_;obtain⟨v3,h1,hF⟩:=ao hF;refine au af [[],[(4,cL (M3 N v2 (-1:Int64) v3 h1))],[]] ?_;refine bc hF (fun h2 hF=> ?_) fun h2 hF=> ?_
 ·cases hF;exact wr af [[(0,bT h2)],[]]
 obtain⟨v4,h3,hF⟩:=ao hF;cases hF;exact wr af [[(0,bF h2)],[(7,cL (Qk N v1 v3.1 v4 h3))],[]]
end Go.Proofs.YtpgmcallngdceaaGreatDoor
