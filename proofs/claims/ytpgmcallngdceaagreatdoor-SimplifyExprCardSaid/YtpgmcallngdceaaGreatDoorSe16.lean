/-
  Part 16 of the proof: PQ7.
-/
import Derived.Test.YtpgmcallngdceaaGreatDoorSe15
namespace Go.Proofs.YtpgmcallngdceaaGreatDoor
open Go.RowKit
set_option maxRecDepth 100000
set_option maxHeartbeats 0
set_option linter.unusedVariables false
def F5:eC:=⟨ca,false⟩
def zn(N:Nat)(v7:Int64)(v8:Int64):ak5 (ay×Int):=
 Option.bind (tN N v7 v8) fun v9=>
 Option.bind (bif (decide (v9.toInt>(2147483647:Int)))then some true else some (decide (v9.toInt<(-2147483647:Int)))) fun v10=>
 bif v10 then
  some (bg,(3:Int))
 else
  some ((⟨v9,(1:Int64)⟩:ay),(0:Int))
def CD(N:Nat)(v1:Int)(v2:Int64)(v3:Int64):ak5 (ay×Int):=
 bif (v1==(4:Int))then
  Option.bind (bif (decide ((v2+v3).toInt>(2147483647:Int)))then some true else some (decide ((v2+v3).toInt<(-2147483647:Int)))) fun v4=>
  bif v4 then
   some (bg,(3:Int))
  else
   some ((⟨(v2+v3),(1:Int64)⟩:ay),(0:Int))
 else
  bif (v1==(5:Int))then
   Option.bind (bif (decide ((v2-v3).toInt>(2147483647:Int)))then some true else some (decide ((v2-v3).toInt<(-2147483647:Int)))) fun v5=>
   bif v5 then
    some (bg,(3:Int))
   else
    some ((⟨(v2-v3),(1:Int64)⟩:ay),(0:Int))
  else
   bif (v1==(6:Int))then
    Option.bind (bif (decide ((v2*v3).toInt>(2147483647:Int)))then some true else some (decide ((v2*v3).toInt<(-2147483647:Int)))) fun v6=>
    bif v6 then
     some (bg,(3:Int))
    else
     some ((⟨(v2*v3),(1:Int64)⟩:ay),(0:Int))
   else
    bif (v1==(7:Int))then
     bif (v3.toInt==(0:Int))then
      some (bg,(4:Int))
     else
      bif (decide (v3.toInt<(0:Int)))then
       zn N (-v2) (-v3)
      else
       zn N v2 v3
    else
     Option.bind (bif (decide ((-v2).toInt>(2147483647:Int)))then some true else some (decide ((-v2).toInt<(-2147483647:Int)))) fun v11=>
     bif v11 then
      some (bg,(3:Int))
     else
      some ((⟨(-v2),(1:Int64)⟩:ay),(0:Int))
def yJ(l:ak3 aq):ak3 aq:= .cells fA::l
theorem ab8(N:Nat)(v1:Int)(v2:Int64)(v3:Int64)(r:ay×Int)(hF:CD N v1 v2 v3=some r):aG Tryz.prog 249 [(aw v1),(aI v2),(aI v3)] (·=(.bk [(bj r.1),(aw r.2)])):=by
 rw[CD]at hF;refine aR Tryz.func249 ?_;refine au af [[],[(5,⟨_,_, .eq (jO v2)⟩)],[],[]] ?_;refine bc hF (fun h1 hF=> ?_) fun h1 hF=> ?_
 ·refine au af [[(0,bT h1)],[(8,⟨_,_, .eq (lA v2 v3)⟩)]] ?_;obtain⟨v4,h3,hF⟩:=ao hF;refine bf af [(46,(aB v4))] (yJ []) ?_ ?_
  ·refine bc h3 (fun h2 h3=> ?_) fun h2 h3=> ?_
   ·cases h3;exact⟨[(2,bT h2)],[],by kernel_rfl⟩
   cases h3;exact⟨[(2,bF h2)],[],by kernel_rfl⟩
  refine bc hF (fun h4 hF=> ?_) fun h4 hF=> ?_
  ·cases hF;exact wr af [[(0,bT h4)],[]]
  cases hF;exact wr af [[(0,bF h4)],[]]
 refine au af [[(0,bF h1)],[]] ?_;refine bc hF (fun h5 hF=> ?_) fun h5 hF=> ?_
 ·refine au af [[(0,bT h5)],[(8,⟨_,_, .eq (gk v2 v3)⟩)]] ?_;obtain⟨v5,h7,hF⟩:=ao hF;refine bf af [(46,(aB v5))] (yJ []) ?_ ?_
  ·refine bc h7 (fun h6 h7=> ?_) fun h6 h7=> ?_
   ·cases h7;exact⟨[(2,bT h6)],[],by kernel_rfl⟩
   cases h7;exact⟨[(2,bF h6)],[],by kernel_rfl⟩
  refine bc hF (fun h8 hF=> ?_) fun h8 hF=> ?_
  ·cases hF;exact wr af [[(0,bT h8)],[]]
  cases hF;exact wr af [[(0,bF h8)],[]]
 refine au af [[(0,bF h5)],[]] ?_;refine bc hF (fun h9 hF=> ?_) fun h9 hF=> ?_
 ·refine au af [[(0,bT h9)],[(8,⟨_,_, .eq (dS v2 v3)⟩)]] ?_;obtain⟨v6,aE,hF⟩:=ao hF;refine bf af [(46,(aB v6))] (yJ []) ?_ ?_
  ·refine bc aE (fun az aE=> ?_) fun az aE=> ?_
   ·cases aE;exact⟨[(2,bT az)],[],by kernel_rfl⟩
   cases aE;exact⟨[(2,bF az)],[],by kernel_rfl⟩
  refine bc hF (fun aK hF=> ?_) fun aK hF=> ?_
  ·cases hF;exact wr af [[(0,bT aK)],[]]
  cases hF;exact wr af [[(0,bF aK)],[]]
 refine au af [[(0,bF h9)],[]] ?_;refine bc hF (fun aY hF=> ?_) fun aY hF=> ?_
 ·refine au af [[(0,bT aY)],[]] ?_;refine bc hF (fun aJ hF=> ?_) fun aJ hF=> ?_
  ·cases hF;exact wr af [[(0,bT aJ)],[]]
  refine mc af r 1 [[(0,bF aJ)],[]] [1,2,6] 1 (fun(v7:Int64)(v8:Int64)=>⟨50,[(1,(aI v7)),(2,(aI v8)),(6,(.ptr 0 0))],(yJ [])⟩) (zn N) ?_ ?_
  ·intro f1 aO;refine bc hF (fun bU hF=> ?_) fun bU hF=> ?_
   ·exact bP af aO ((-v2),(-v3)) [[(0,bT bU)],[(5,⟨_,_, .eq (jO v2)⟩)],[(5,⟨_,_, .eq (jO v3)⟩)]] hF
   exact bP af aO (v2,v3) [[(0,bF bU)]] hF
  intro v7 v8 hF;rw[zn]at hF;obtain⟨v9,bp,hF⟩:=ao hF;refine au af [[(7,cL (HG N v7 v8 v9 bp))]] ?_;obtain⟨v10,bn,hF⟩:=ao hF;refine bf af [(46,(aB v10))] (yJ []) ?_ ?_
  ·refine bc bn (fun aL bn=> ?_) fun aL bn=> ?_
   ·cases bn;exact⟨[(2,bT aL)],[],by kernel_rfl⟩
   cases bn;exact⟨[(2,bF aL)],[],by kernel_rfl⟩
  refine bc hF (fun aZ hF=> ?_) fun aZ hF=> ?_
  ·cases hF;exact wr af [[(0,bT aZ)],[]]
  cases hF;exact wr af [[(0,bF aZ)],[]]
 refine au af [[(0,bF aY)]] ?_;obtain⟨v11,cl,hF⟩:=ao hF;refine bf af [(46,(aB v11))] (yJ []) ?_ ?_
 ·refine bc cl (fun bC cl=> ?_) fun bC cl=> ?_
  ·cases cl;exact⟨[(2,bT bC)],[],by kernel_rfl⟩
  cases cl;exact⟨[(2,bF bC)],[],by kernel_rfl⟩
 refine bc hF (fun bw hF=> ?_) fun bw hF=> ?_
 ·cases hF;exact wr af [[(0,bT bw)],[]]
 cases hF;exact wr af [[(0,bF bw)],[]]
def yj(N:Nat)(v1:Int64):ak5 Int:=
 bif (decide (v1.toInt<(0:Int)))then
  some (IntKind.u64.wrap ((IntKind.u64.wrap (-(v1+(1:Int64))).toInt)+(1:Int)))
 else
  some (IntKind.u64.wrap v1.toInt)
theorem Qw(N:Nat)(v1:Int64)(r:Int)(hF:yj N v1=some r):aG Tryz.prog 334 [(aI v1)] (·=(.d (.v (.int .u64 r)))):=by
 rw[yj]at hF;refine aR Tryz.func334 ?_;refine au af [[],[]] ?_;refine bc hF (fun h1 hF=> ?_) fun h1 hF=> ?_
 ·cases hF;exact wr af [[(0,bT h1)],[(5,⟨_,_, .eq (lA v1 (1:Int64))⟩),(8,⟨_,_, .eq (jO (v1+(1:Int64)))⟩)]]
 cases hF;exact wr af [[(0,bF h1)],[]]
def yB(N:Nat):Nat→Int→Int→ak5 Int
 |0,_,_=>none
 |v3+1,v4,v5=>
  bif (v5 !=(0:Int))then
   (fun cX fX=>yB N v3 cX fX) v5 ((v4).tmod v5)
  else
   some v4
def GR(N:Nat)(v1:Int)(v2:Int):ak5 Int:=
 yB N N v1 v2
theorem aaP(N:Nat)(v1:Int)(v2:Int)(r:Int)(hF:GR N v1 v2=some r):aG Tryz.prog 342 [(.d (.v (.int .u64 v1))),(.d (.v (.int .u64 v2)))] (·=(.d (.v (.int .u64 r)))):=by
 rw[GR]at hF;refine aR Tryz.func342 ?_;refine OP af 1 [[]] [0,1] 0 (fun(v4:Int)(v5:Int)=>⟨12,[(0,(.d (.v (.int .u64 v4)))),(1,(.d (.v (.int .u64 v5))))],[]⟩) (yB N) N v1 v2 hF ?_;intro v3 v4 v5 hF f1 aO;rw[yB]at hF;refine au af [[]] ?_;refine bc hF (fun h1 hF=> ?_) fun h1 hF=> ?_
 ·exact AE af aO (v5,((v4).tmod v5)) [[(0,bT h1)],[(10,⟨_,_, .nz (b:=v5) (bne_iff_ne.1 h1)⟩)]] hF
 cases hF;exact wr af [[(0,bF h1)],[]]
def Kc(N:Nat)(v1:Bool)(v2:Int)(v3:Int):ak5 (ay×Int):=
 Option.bind (GR N v2 v3) fun v4=>
 bif (v4 !=(0:Int))then
 Option.bind (bif (decide ((IntKind.u64.wrap ((v2).tdiv v4))>(2147483647:Int)))then some true else some (decide ((IntKind.u64.wrap ((v3).tdiv v4))>(2147483647:Int)))) fun v5=>
 bif v5 then
  some (bg,(3:Int))
 else
  bif v1 then
   some ((⟨(-(Int64.ofInt (IntKind.u64.wrap ((v2).tdiv v4)))),(Int64.ofInt (IntKind.u64.wrap ((v3).tdiv v4)))⟩:ay),(0:Int))
  else
   some ((⟨(Int64.ofInt (IntKind.u64.wrap ((v2).tdiv v4))),(Int64.ofInt (IntKind.u64.wrap ((v3).tdiv v4)))⟩:ay),(0:Int))
 else none
theorem ZT(N:Nat)(v1:Bool)(v2:Int)(v3:Int)(r:ay×Int)(hF:Kc N v1 v2 v3=some r):aG Tryz.prog 333 [(aB v1),(.d (.v (.int .u64 v2))),(.d (.v (.int .u64 v3)))] (·=(.bk [(bj r.1),(aw r.2)])):=by
 rw[Kc]at hF;refine aR Tryz.func333 ?_;obtain⟨v4,h1,hF⟩:=ao hF;obtain⟨h2,hF⟩:=dp hF;refine au af [[],[(7,cL (aaP N v2 v3 v4 h1))],[(7,⟨_,_, .nz (b:=v4) (bne_iff_ne.1 h2)⟩)],[(7,⟨_,_, .nz (b:=v4) (bne_iff_ne.1 h2)⟩)]] ?_;obtain⟨v5,h5,hF⟩:=ao hF;refine bf af [(23,(aB v5))] [.cells fA] ?_ ?_
 ·refine bc h5 (fun h4 h5=> ?_) fun h4 h5=> ?_
  ·cases h5;exact⟨[(2,bT h4)],[],by kernel_rfl⟩
  cases h5;exact⟨[(2,bF h4)],[],by kernel_rfl⟩
 refine bc hF (fun h6 hF=> ?_) fun h6 hF=> ?_
 ·cases hF;exact wr af [[(0,bT h6)],[]]
 refine au af [[(0,bF h6)],[]] ?_;refine bc hF (fun h7 hF=> ?_) fun h7 hF=> ?_
 ·cases hF;exact wr af [[(0,bT h7)],[(5,⟨_,_, .eq (eP (IntKind.u64.wrap ((v2).tdiv v4)))⟩),(8,⟨_,_, .eq (jO (Int64.ofInt (IntKind.u64.wrap ((v2).tdiv v4))))⟩),(14,⟨_,_, .eq (eP (IntKind.u64.wrap ((v3).tdiv v4)))⟩)]]
 cases hF;exact wr af [[(0,bF h7)],[(5,⟨_,_, .eq (eP (IntKind.u64.wrap ((v2).tdiv v4)))⟩),(11,⟨_,_, .eq (eP (IntKind.u64.wrap ((v3).tdiv v4)))⟩)]]
def rV(N:Nat)(v1:Int64)(v2:Int64):ak5 (ay×Int):=
 bif (v2.toInt==(0:Int))then
  some (bg,(4:Int))
 else
  Option.bind (yj N v1) fun v3=>
  Option.bind (yj N v2) fun v4=>
  Option.bind (Kc N (!((decide (v1.toInt<(0:Int)))==(decide (v2.toInt<(0:Int))))) v3 v4) fun v5=>
  some (v5.1,v5.2)
theorem Cu(N:Nat)(v1:Int64)(v2:Int64)(r:ay×Int)(hF:rV N v1 v2=some r):aG Tryz.prog 306 [(aI v1),(aI v2)] (·=(.bk [(bj r.1),(aw r.2)])):=by
 rw[rV]at hF;refine aR Tryz.func306 ?_;refine au af [[],[]] ?_;refine bc hF (fun h1 hF=> ?_) fun h1 hF=> ?_
 ·cases hF;exact wr af [[(0,bT h1)],[]]
 obtain⟨v3,h2,hF⟩:=ao hF;obtain⟨v4,h3,hF⟩:=ao hF;obtain⟨v5,h4,hF⟩:=ao hF;cases hF;exact wr af [[(0,bF h1)],[(19,cL (Qw N v1 v3 h2)),(25,cL (Qw N v2 v4 h3)),(28,cL (ZT N (!((decide (v1.toInt<(0:Int)))==(decide (v2.toInt<(0:Int))))) v3 v4 v5 h4))]]
def FK(N:Nat)(v1:ay)(v2:ay):ak5 (ay×Int):=
 Option.bind (kH N v1) fun v3=>
 Option.bind (bif v3 then Option.bind (kH N v2) fun v4=>
 some (!v4)else some true) fun v5=>
 bif v5 then
  some (bg,(1:Int))
 else
  Option.bind (rV N ((v1.xN*v2.xD)+(v2.xN*v1.xD)) (v1.xD*v2.xD)) fun v6=>
  some (v6.1,v6.2)
theorem aaq(N:Nat)(v1:ay)(v2:ay)(r:ay×Int)(hF:FK N v1 v2=some r):aG Tryz.prog 250 [(bj v1),(bj v2)] (·=(.bk [(bj r.1),(aw r.2)])):=by
 rw[FK]at hF;refine aR Tryz.func250 ?_;refine au af [[]] ?_;obtain⟨v3,h1,hF⟩:=ao hF;obtain⟨v5,h4,hF⟩:=ao hF;refine bf af [(13,(aB v5))] [.cells (bj v1).cells, .cells (bj v2).cells, .cells fA] ?_ ?_
 ·refine bc h4 (fun h2 h4=> ?_) fun h2 h4=> ?_
  ·obtain⟨v4,h3,h4⟩:=ao h4;cases h4;exact⟨[(3,bF (bG h2))],[(4,cL (jQ N v1 v3 h1)),(16,cL (jQ N v2 v4 h3))],by kernel_rfl⟩
  cases h4;exact⟨[(3,bT (bS h2))],[(4,cL (jQ N v1 v3 h1))],by kernel_rfl⟩
 refine bc hF (fun h5 hF=> ?_) fun h5 hF=> ?_
 ·cases hF;exact wr af [[(0,bT h5)],[]]
 obtain⟨v6,h6,hF⟩:=ao hF;cases hF;exact wr af [[(0,bF h5)],[(14,⟨_,_, .eq (dS v1.xN v2.xD)⟩),(29,⟨_,_, .eq (dS v2.xN v1.xD)⟩),(32,⟨_,_, .eq (lA (v1.xN*v2.xD) (v2.xN*v1.xD))⟩),(47,⟨_,_, .eq (dS v1.xD v2.xD)⟩),(49,cL (Cu N ((v1.xN*v2.xD)+(v2.xN*v1.xD)) (v1.xD*v2.xD) v6 h6))]]
def Eg(N:Nat)(v1:ay)(v2:ay):ak5 (ay×Int):=
 Option.bind (kH N v1) fun v3=>
 Option.bind (bif v3 then Option.bind (kH N v2) fun v4=>
 some (!v4)else some true) fun v5=>
 bif v5 then
  some (bg,(1:Int))
 else
  Option.bind (rV N ((v1.xN*v2.xD)-(v2.xN*v1.xD)) (v1.xD*v2.xD)) fun v6=>
  some (v6.1,v6.2)
theorem ahZ(N:Nat)(v1:ay)(v2:ay)(r:ay×Int)(hF:Eg N v1 v2=some r):aG Tryz.prog 251 [(bj v1),(bj v2)] (·=(.bk [(bj r.1),(aw r.2)])):=by
 rw[Eg]at hF;refine aR Tryz.func251 ?_;refine au af [[]] ?_;obtain⟨v3,h1,hF⟩:=ao hF;obtain⟨v5,h4,hF⟩:=ao hF;refine bf af [(13,(aB v5))] [.cells (bj v1).cells, .cells (bj v2).cells, .cells fA] ?_ ?_
 ·refine bc h4 (fun h2 h4=> ?_) fun h2 h4=> ?_
  ·obtain⟨v4,h3,h4⟩:=ao h4;cases h4;exact⟨[(3,bF (bG h2))],[(4,cL (jQ N v1 v3 h1)),(16,cL (jQ N v2 v4 h3))],by kernel_rfl⟩
  cases h4;exact⟨[(3,bT (bS h2))],[(4,cL (jQ N v1 v3 h1))],by kernel_rfl⟩
 refine bc hF (fun h5 hF=> ?_) fun h5 hF=> ?_
 ·cases hF;exact wr af [[(0,bT h5)],[]]
 obtain⟨v6,h6,hF⟩:=ao hF;cases hF;exact wr af [[(0,bF h5)],[(14,⟨_,_, .eq (dS v1.xN v2.xD)⟩),(29,⟨_,_, .eq (dS v2.xN v1.xD)⟩),(32,⟨_,_, .eq (gk (v1.xN*v2.xD) (v2.xN*v1.xD))⟩),(47,⟨_,_, .eq (dS v1.xD v2.xD)⟩),(49,cL (Cu N ((v1.xN*v2.xD)-(v2.xN*v1.xD)) (v1.xD*v2.xD) v6 h6))]]
def D5(N:Nat)(v1:ay)(v2:ay):ak5 (ay×Int):=
 Option.bind (kH N v1) fun v3=>
 Option.bind (bif v3 then Option.bind (kH N v2) fun v4=>
 some (!v4)else some true) fun v5=>
 bif v5 then
  some (bg,(1:Int))
 else
  Option.bind (rV N (v1.xN*v2.xN) (v1.xD*v2.xD)) fun v6=>
  some (v6.1,v6.2)
theorem afJ(N:Nat)(v1:ay)(v2:ay)(r:ay×Int)(hF:D5 N v1 v2=some r):aG Tryz.prog 252 [(bj v1),(bj v2)] (·=(.bk [(bj r.1),(aw r.2)])):=by
 rw[D5]at hF;refine aR Tryz.func252 ?_;refine au af [[]] ?_;obtain⟨v3,h1,hF⟩:=ao hF;obtain⟨v5,h4,hF⟩:=ao hF;refine bf af [(13,(aB v5))] [.cells (bj v1).cells, .cells (bj v2).cells, .cells fA] ?_ ?_
 ·refine bc h4 (fun h2 h4=> ?_) fun h2 h4=> ?_
  ·obtain⟨v4,h3,h4⟩:=ao h4;cases h4;exact⟨[(3,bF (bG h2))],[(4,cL (jQ N v1 v3 h1)),(16,cL (jQ N v2 v4 h3))],by kernel_rfl⟩
  cases h4;exact⟨[(3,bT (bS h2))],[(4,cL (jQ N v1 v3 h1))],by kernel_rfl⟩
 refine bc hF (fun h5 hF=> ?_) fun h5 hF=> ?_
 ·cases hF;exact wr af [[(0,bT h5)],[]]
 obtain⟨v6,h6,hF⟩:=ao hF;cases hF;exact wr af [[(0,bF h5)],[(14,⟨_,_, .eq (dS v1.xN v2.xN)⟩),(29,⟨_,_, .eq (dS v1.xD v2.xD)⟩),(31,cL (Cu N (v1.xN*v2.xN) (v1.xD*v2.xD) v6 h6))]]
def Dx(N:Nat)(v1:ay)(v2:ay):ak5 (ay×Int):=
 Option.bind (kH N v1) fun v3=>
 Option.bind (bif v3 then Option.bind (kH N v2) fun v4=>
 some (!v4)else some true) fun v5=>
 bif v5 then
  some (bg,(1:Int))
 else
  Option.bind (rV N (v1.xN*v2.xD) (v1.xD*v2.xN)) fun v6=>
  some (v6.1,v6.2)
theorem ahn(N:Nat)(v1:ay)(v2:ay)(r:ay×Int)(hF:Dx N v1 v2=some r):aG Tryz.prog 253 [(bj v1),(bj v2)] (·=(.bk [(bj r.1),(aw r.2)])):=by
 rw[Dx]at hF;refine aR Tryz.func253 ?_;refine au af [[]] ?_;obtain⟨v3,h1,hF⟩:=ao hF;obtain⟨v5,h4,hF⟩:=ao hF;refine bf af [(13,(aB v5))] [.cells (bj v1).cells, .cells (bj v2).cells, .cells fA] ?_ ?_
 ·refine bc h4 (fun h2 h4=> ?_) fun h2 h4=> ?_
  ·obtain⟨v4,h3,h4⟩:=ao h4;cases h4;exact⟨[(3,bF (bG h2))],[(4,cL (jQ N v1 v3 h1)),(16,cL (jQ N v2 v4 h3))],by kernel_rfl⟩
  cases h4;exact⟨[(3,bT (bS h2))],[(4,cL (jQ N v1 v3 h1))],by kernel_rfl⟩
 refine bc hF (fun h5 hF=> ?_) fun h5 hF=> ?_
 ·cases hF;exact wr af [[(0,bT h5)],[]]
 obtain⟨v6,h6,hF⟩:=ao hF;cases hF;exact wr af [[(0,bF h5)],[(14,⟨_,_, .eq (dS v1.xN v2.xD)⟩),(29,⟨_,_, .eq (dS v1.xD v2.xN)⟩),(31,cL (Cu N (v1.xN*v2.xD) (v1.xD*v2.xN) v6 h6))]]
def Ft(N:Nat)(v1:ay):ak5 ay:=
 Option.bind (kH N v1) fun v2=>
 bif v2 then
  some (⟨(-v1.xN),v1.xD⟩:ay)
 else
  some bg
theorem abr(N:Nat)(v1:ay)(r:ay)(hF:Ft N v1=some r):aG Tryz.prog 254 [(bj v1)] (·=(bj r)):=by
 rw[Ft]at hF;refine aR Tryz.func254 ?_;obtain⟨v2,h1,hF⟩:=ao hF;refine au af [[],[(4,cL (jQ N v1 v2 h1))]] ?_;refine bc hF (fun h2 hF=> ?_) fun h2 hF=> ?_
 ·cases hF;exact wr af [[(0,bF (bG h2))],[(8,⟨_,_, .eq (jO v1.xN)⟩)]]
 cases hF;exact wr af [[(0,bT (bS h2))],[]]
def sy(N:Nat)(v1:Int)(v2:aC)(v3:ay)(v4:ay):ak5 (ay×Int):=
 Option.bind (bif (decide (v1<(4:Int)))then some true else some (decide (v1>(10:Int)))) fun v5=>
 bif v5 then
  some (bg,(1:Int))
 else
  Option.bind (ma N v2) fun v6=>
  bif v6 then
   Option.bind (mA N v2 v3) fun v7=>
   Option.bind (bif v7 then(bif (v1 !=(8:Int))then Option.bind (mA N v2 v4) fun v8=>
   some (!v8)else some false)else some true) fun v9=>
   bif v9 then
    some (bg,(1:Int))
   else
    Option.bind (bif (v1==(9:Int))then some true else some (v1==(10:Int))) fun v10=>
    bif v10 then
     Option.bind (yV N v2 v3 v4) fun v11=>
     bif ((decide (v11>(0:Int)))==(v1==(9:Int)))then
      some (v4,(0:Int))
     else
      some (v3,(0:Int))
    else
     bif (v2.a8==(2:Int))then
      Option.bind (EB N v1 v2 v3.xN v4.xN) fun v12=>
      some (v12.1,v12.2)
     else
      bif (v2.a8==(3:Int))then
       Option.bind (CD N v1 v3.xN v4.xN) fun aX=>
       some (aX.1,aX.2)
      else
       bif (v1==(4:Int))then
        Option.bind (FK N v3 v4) fun bu=>
        some (bu.1,bu.2)
       else
        bif (v1==(5:Int))then
         Option.bind (Eg N v3 v4) fun bN=>
         some (bN.1,bN.2)
        else
         bif (v1==(6:Int))then
          Option.bind (D5 N v3 v4) fun dh=>
          some (dh.1,dh.2)
         else
          bif (v1==(7:Int))then
           Option.bind (Dx N v3 v4) fun bX=>
           some (bX.1,bX.2)
          else
           Option.bind (Ft N v3) fun bx=>
           some (bx,(0:Int))
  else
   some (bg,(10:Int))
def Oe(v2:aC)(v3:ay)(v4:ay)(l:ak3 aq):ak3 aq:= .cells (bY v2).cells:: .cells (bj v3).cells:: .cells (bj v4).cells:: .cells fA::l
theorem Xx(N:Nat)(v1:Int)(v2:aC)(v3:ay)(v4:ay)(r:ay×Int)(hF:sy N v1 v2 v3 v4=some r):aG Tryz.prog 195 [(aw v1),(bY v2),(bj v3),(bj v4)] (·=(.bk [(bj r.1),(aw r.2)])):=by
 rw[sy]at hF;refine aR Tryz.func195 ?_;refine au af [[]] ?_;obtain⟨v5,h2,hF⟩:=ao hF;refine bf af [(15,(aB v5))] (Oe v2 v3 v4 []) ?_ ?_
 ·refine bc h2 (fun h1 h2=> ?_) fun h1 h2=> ?_
  ·cases h2;exact⟨[(2,bT h1)],[],by kernel_rfl⟩
  cases h2;exact⟨[(2,bF h1)],[],by kernel_rfl⟩
 refine bc hF (fun h3 hF=> ?_) fun h3 hF=> ?_
 ·cases hF;exact wr af [[(0,bT h3)],[]]
 obtain⟨v6,h4,hF⟩:=ao hF;refine au af [[(0,bF h3)],[(4,cL (mO N v2 v6 h4))]] ?_;refine bc hF (fun h5 hF=> ?_) fun h5 hF=> ?_
 ·refine au af [[(0,bF (bG h5))]] ?_;obtain⟨v7,h6,hF⟩:=ao hF;obtain⟨v9,az,hF⟩:=ao hF;refine bf af [(34,(aB v9))] (Oe v2 v3 v4 []) ?_ ?_
  ·refine bc az (fun h7 az=> ?_) fun h7 az=> ?_
   ·refine bc az (fun h8 az=> ?_) fun h8 az=> ?_
    ·obtain⟨v8,h9,az⟩:=ao az;cases az;exact⟨[(4,bF (bG h7)),(7,bT h8)],[(7,cL (pe N v2 v3 v7 h6)),(31,cL (pe N v2 v4 v8 h9)),(37,bT h8)],by kernel_rfl⟩
    cases az;exact⟨[(4,bF (bG h7)),(7,bF h8)],[(7,cL (pe N v2 v3 v7 h6)),(37,bF h8)],by kernel_rfl⟩
   cases az;exact⟨[(4,bT (bS h7)),(7,uN)],[(7,cL (pe N v2 v3 v7 h6))],by kernel_rfl⟩
  refine bc hF (fun aE hF=> ?_) fun aE hF=> ?_
  ·cases hF;exact wr af [[(0,bT aE)],[]]
  refine au af [[(0,bF aE)]] ?_;obtain⟨v10,aY,hF⟩:=ao hF;refine bf af [(41,(aB v10))] (Oe v2 v3 v4 []) ?_ ?_
  ·refine bc aY (fun aK aY=> ?_) fun aK aY=> ?_
   ·cases aY;exact⟨[(2,bT aK)],[],by kernel_rfl⟩
   cases aY;exact⟨[(2,bF aK)],[],by kernel_rfl⟩
  refine bc hF (fun aJ hF=> ?_) fun aJ hF=> ?_
  ·obtain⟨v11,bp,hF⟩:=ao hF;refine au af [[(0,bT aJ)],[(10,cL (UC N v2 v3 v4 v11 bp))]] ?_;refine bc hF (fun aL hF=> ?_) fun aL hF=> ?_
   ·cases hF;exact wr af [[(0,bT aL)],[]]
   cases hF;exact wr af [[(0,bF aL)],[]]
  refine au af [[(0,bF aJ)],[]] ?_;refine bc hF (fun bn hF=> ?_) fun bn hF=> ?_
  ·obtain⟨v12,aZ,hF⟩:=ao hF;cases hF;exact wr af [[(0,bT bn)],[(19,cL (XW N v1 v2 v3.xN v4.xN v12 aZ))]]
  refine au af [[(0,bF bn)],[]] ?_;refine bc hF (fun bU hF=> ?_) fun bU hF=> ?_
  ·obtain⟨aX,bC,hF⟩:=ao hF;cases hF;exact wr af [[(0,bT bU)],[(16,cL (ab8 N v1 v3.xN v4.xN aX bC))]]
  refine au af [[(0,bF bU)],[],[]] ?_;refine bc hF (fun cl hF=> ?_) fun cl hF=> ?_
  ·obtain⟨bu,bw,hF⟩:=ao hF;cases hF;exact wr af [[(0,bT cl)],[(7,cL (aaq N v3 v4 bu bw))]]
  refine au af [[(0,bF cl)],[]] ?_;refine bc hF (fun cT hF=> ?_) fun cT hF=> ?_
  ·obtain⟨bN,cE,hF⟩:=ao hF;cases hF;exact wr af [[(0,bT cT)],[(7,cL (ahZ N v3 v4 bN cE))]]
  refine au af [[(0,bF cT)],[]] ?_;refine bc hF (fun eR hF=> ?_) fun eR hF=> ?_
  ·obtain⟨dh,fb,hF⟩:=ao hF;cases hF;exact wr af [[(0,bT eR)],[(7,cL (afJ N v3 v4 dh fb))]]
  refine au af [[(0,bF eR)],[]] ?_;refine bc hF (fun gr hF=> ?_) fun gr hF=> ?_
  ·obtain⟨bX,h28,hF⟩:=ao hF;cases hF;exact wr af [[(0,bT gr)],[(7,cL (ahn N v3 v4 bX h28))]]
  obtain⟨bx,rI,hF⟩:=ao hF;cases hF;exact wr af [[(0,bF gr)],[(4,cL (abr N v3 bx rI))]]
 cases hF;exact wr af [[(0,bT (bS h5))],[]]
def nA(N:Nat)(v1:aC)(v2:ay):ak5 an:=
 some (⟨(1:Int),(bs []),v2,v1,bV,[],[]⟩:an)
theorem p8(N:Nat)(v1:aC)(v2:ay)(r:an)(hF:nA N v1 v2=some r):aG Tryz.prog 196 [(bY v1),(bj v2)] (·=(aA r)):=by
 rw[nA]at hF;refine aR Tryz.func196 ?_;cases hF;exact wr af [[],[]]
def Po(N:Nat)(v1:Int):ak5 Bool:=
 Option.bind (bif (decide (v1≥(4:Int)))then(bif (decide (v1≤(10:Int)))then some (v1 !=(8:Int))else some false)else some false) fun v2=>
 some v2
theorem IY(N:Nat)(v1:Int)(r:Bool)(hF:Po N v1=some r):aG Tryz.prog 197 [(aw v1)] (·=(aB r)):=by
 rw[Po]at hF;refine aR Tryz.func197 ?_;refine au af [[]] ?_;obtain⟨v2,h3,hF⟩:=ao hF;refine bf af [(2,(aB v2))] [] ?_ ?_
 ·refine bc h3 (fun h1 h3=> ?_) fun h1 h3=> ?_
  ·refine bc h3 (fun h2 h3=> ?_) fun h2 h3=> ?_
   ·cases h3;exact⟨[(2,bT h1),(6,bT h2)],[],by kernel_rfl⟩
   cases h3;exact⟨[(2,bT h1),(6,bF h2)],[],by kernel_rfl⟩
  cases h3;exact⟨[(2,bF h1),(6,bF rfl)],[],by kernel_rfl⟩
 cases hF;exact wr af []
def BM(N:Nat)(v1:an):ak5 (an×Bool):=
 Option.bind (bif (v1.ar==(8:Int))then Option.bind (v1.ax[0]?) fun v2=>
 some (v2.ar==(1:Int))else some false) fun v3=>
 bif v3 then
  Option.bind (v1.ax[0]?) fun v4=>
  Option.bind (sy N (8:Int) v4.aD v4.ba v4.ba) fun v5=>
  Option.bind (nA N v4.aD v5.1) fun v6=>
  some (v6,(v5.2==(0:Int)))
 else
  Option.bind (Po N v1.ar) fun v7=>
  Option.bind (bif v7 then Option.bind (v1.ax[0]?) fun v8=>
  (bif (v8.ar !=(1:Int))then some true else Option.bind (v1.ax[1]?) fun v9=>
  (bif (v9.ar !=(1:Int))then some true else some (!((v8.aD.a8==v9.aD.a8)&&((v8.aD.bz==v9.aD.bz)&&((v8.aD.xFrac==v9.aD.xFrac)&&((v8.aD.bK==v9.aD.bK)&&((v8.aD.bM==v9.aD.bM)&&true))))))))else some true) fun v10=>
  bif v10 then
   some (v1,false)
  else
   Option.bind (v1.ax[0]?) fun v11=>
   Option.bind (v1.ax[1]?) fun v12=>
   Option.bind (sy N v1.ar v11.aD v11.ba v12.ba) fun aX=>
   Option.bind (nA N v11.aD aX.1) fun bu=>
   some (bu,(aX.2==(0:Int)))
theorem aeS(N:Nat)(v1:an)(r:an×Bool)(hF:BM N v1=some r):aG Tryz.prog 125 [(aA v1)] (·=(.bk [(aA r.1),(aB r.2)])):=by
 rw[BM]at hF;refine aR Tryz.func125 ?_;refine au af [[]] ?_;obtain⟨v3,h3,hF⟩:=ao hF;refine bf af [(19,(aB v3))] [.cells (aA v1).cells, .cells ef] ?_ ?_
 ·refine bc h3 (fun h1 h3=> ?_) fun h1 h3=> ?_
  ·obtain⟨v2,h2,h3⟩:=ao h3;cases h3;exact⟨[(3,bT h1)],[(19,oE (k:=0) (bt h2))],by kernel_rfl⟩
  cases h3;exact⟨[(3,bF h1)],[],by kernel_rfl⟩
 refine bc hF (fun h4 hF=> ?_) fun h4 hF=> ?_
 ·obtain⟨v4,h5,hF⟩:=ao hF;obtain⟨v5,h6,hF⟩:=ao hF;obtain⟨v6,h7,hF⟩:=ao hF;cases hF;exact wr af [[(0,bT h4)],[(7,oE (k:=0) (bt h5))],[(19,cL (Xx N (8:Int) v4.aD v4.ba v4.ba v5 h6))],[(10,cL (p8 N v4.aD v5.1 v6 h7))]]
 refine au af [[(0,bF h4)]] ?_;obtain⟨v7,h8,hF⟩:=ao hF;obtain⟨v10,aJ,hF⟩:=ao hF;refine bf af [(72,(aB v10))] [.cells (aA v1).cells, .cells ef] ?_ ?_
 ·refine bc aJ (fun h9 aJ=> ?_) fun h9 aJ=> ?_
  ·obtain⟨v8,az,aJ⟩:=ao aJ;refine bc aJ (fun aE aJ=> ?_) fun aE aJ=> ?_
   ·cases aJ;exact⟨[(4,bF (bG h9)),(12,bT aE),(20,bT rfl)],[(7,cL (IY N v1.ar v7 h8)),(22,oE (k:=0) (bt az))],by kernel_rfl⟩
   obtain⟨v9,aK,aJ⟩:=ao aJ;refine bc aJ (fun aY aJ=> ?_) fun aY aJ=> ?_
   ·cases aJ;exact⟨[(4,bF (bG h9)),(12,bF aE),(20,bT aY)],[(7,cL (IY N v1.ar v7 h8)),(22,oE (k:=0) (bt az)),(46,oE (k:=1) (bt aK))],by kernel_rfl⟩
   cases aJ;exact⟨[(4,bF (bG h9)),(12,bF aE),(20,bF aY)],[(7,cL (IY N v1.ar v7 h8)),(22,oE (k:=0) (bt az)),(46,oE (k:=1) (bt aK)),(70,oE (k:=0) (bt az)),(85,oE (k:=1) (bt aK))],by kernel_rfl⟩
  cases aJ;exact⟨[(4,bT (bS h9)),(12,bT rfl),(20,bT rfl)],[(7,cL (IY N v1.ar v7 h8))],by kernel_rfl⟩
 refine bc hF (fun bp hF=> ?_) fun bp hF=> ?_
 ·cases hF;exact wr af [[(0,bT bp)],[]]
 obtain⟨v11,aL,hF⟩:=ao hF;obtain⟨v12,bn,hF⟩:=ao hF;obtain⟨aX,aZ,hF⟩:=ao hF;obtain⟨bu,bU,hF⟩:=ao hF;cases hF;exact wr af [[(0,bF bp)],[(13,oE (k:=0) (bt aL)),(28,oE (k:=0) (bt aL)),(43,oE (k:=1) (bt bn)),(52,cL (Xx N v1.ar v11.aD v11.ba v12.ba aX aZ))],[(7,oE (k:=0) (bt aL)),(19,cL (p8 N v11.aD aX.1 bu bU))]]
def Bz(N:Nat)(v3:Int64)(v4:Int64):ak5 ay:=
 some (⟨v3,v4⟩:ay)
def CX(N:Nat)(v1:aC)(v2:ay):ak5 ay:=
 bif (v1.a8==(2:Int))then
  Option.bind (q9 N v1) fun v5=>
  Option.bind (rV N v2.xN v5) fun v6=>
  Bz N v6.1.xN v6.1.xD
 else
  Bz N v2.xN v2.xD
theorem acP(N:Nat)(v1:aC)(v2:ay)(r:ay)(hF:CX N v1 v2=some r):aG Tryz.prog 255 [(bY v1),(bj v2)] (·=(bj r)):=by
 rw[CX]at hF;refine aR Tryz.func255 ?_;refine mc af r 1 [[],[]] [3,4] 3 (fun(v3:Int64)(v4:Int64)=>⟨17,[(3,(.ptr 1 0)),(4,(.ptr 2 0))],[.cells (bY v1).cells, .cells [(aI v3),(aI v4)], .cells fA]⟩) (Bz N) ?_ ?_
 ·intro f1 aO;refine bc hF (fun h1 hF=> ?_) fun h1 hF=> ?_
  ·obtain⟨v5,h2,hF⟩:=ao hF;obtain⟨v6,h3,hF⟩:=ao hF;exact bP af aO (v6.1.xN,v6.1.xD) [[(0,bT h1)],[(10,cL (BR N v1 v5 h2)),(13,cL (Cu N v2.xN v5 v6 h3))]] hF
  exact bP af aO (v2.xN,v2.xD) [[(0,bF h1)]] hF
 intro v3 v4 hF;rw[Bz]at hF;cases hF;exact wr af [[]]
def A8(N:Nat)(v1:aC)(v2:aC)(v3:ay):ak5 (ay×Int):=
 Option.bind (ma N v1) fun v4=>
 Option.bind (bif v4 then Option.bind (ma N v2) fun v5=>
 some (!v5)else some true) fun v6=>
 bif v6 then
  some (bg,(10:Int))
 else
  Option.bind (mA N v1 v3) fun v7=>
  bif v7 then
   Option.bind (CX N v1 v3) fun v8=>
   bif (v2.a8==(3:Int))then
    Option.bind (tN N v8.xN v8.xD) fun v9=>
    some ((⟨v9,(1:Int64)⟩:ay),(0:Int))
   else
    bif (v2.a8==(2:Int))then
     Option.bind (q9 N v2) fun v10=>
     Option.bind (vu N (v8.xN*v10) v8.xD v2.bK) fun v11=>
     Option.bind (pR N v2 v11) fun v12=>
     some (v12,(0:Int))
    else
     some (v8,(0:Int))
  else
   some (bg,(1:Int))
theorem ahB(N:Nat)(v1:aC)(v2:aC)(v3:ay)(r:ay×Int)(hF:A8 N v1 v2 v3=some r):aG Tryz.prog 198 [(bY v1),(bY v2),(bj v3)] (·=(.bk [(bj r.1),(aw r.2)])):=by
 rw[A8]at hF;refine aR Tryz.func198 ?_;refine au af [[]] ?_;obtain⟨v4,h1,hF⟩:=ao hF;obtain⟨v6,h4,hF⟩:=ao hF;refine bf af [(16,(aB v6))] [.cells (bY v1).cells, .cells (bY v2).cells, .cells (bj v3).cells, .cells fA] ?_ ?_
 ·refine bc h4 (fun h2 h4=> ?_) fun h2 h4=> ?_
  ·obtain⟨v5,h3,h4⟩:=ao h4;cases h4;exact⟨[(3,bF (bG h2))],[(4,cL (mO N v1 v4 h1)),(16,cL (mO N v2 v5 h3))],by kernel_rfl⟩
  cases h4;exact⟨[(3,bT (bS h2))],[(4,cL (mO N v1 v4 h1))],by kernel_rfl⟩
 refine bc hF (fun h5 hF=> ?_) fun h5 hF=> ?_
 ·cases hF;exact wr af [[(0,bT h5)],[]]
 obtain⟨v7,h6,hF⟩:=ao hF;refine au af [[(0,bF h5)],[(7,cL (pe N v1 v3 v7 h6))]] ?_;refine bc hF (fun h7 hF=> ?_) fun h7 hF=> ?_
 ·obtain⟨v8,h8,hF⟩:=ao hF;refine au af [[(0,bF (bG h7))],[(7,cL (acP N v1 v3 v8 h8))],[]] ?_;refine bc hF (fun h9 hF=> ?_) fun h9 hF=> ?_
  ·obtain⟨v9,az,hF⟩:=ao hF;cases hF;exact wr af [[(0,bT h9)],[(13,cL (HG N v8.xN v8.xD v9 az))]]
  refine au af [[(0,bF h9)],[]] ?_;refine bc hF (fun aE hF=> ?_) fun aE hF=> ?_
  ·obtain⟨v10,aK,hF⟩:=ao hF;obtain⟨v11,aY,hF⟩:=ao hF;obtain⟨v12,aJ,hF⟩:=ao hF;cases hF;exact wr af [[(0,bT aE)],[(13,cL (BR N v2 v10 aK)),(17,⟨_,_, .eq (dS v8.xN v10)⟩),(31,cL (K6 N (v8.xN*v10) v8.xD v2.bK v11 aY)),(34,cL (yZ N v2 v11 v12 aJ))]]
  cases hF;exact wr af [[(0,bF aE)],[]]
 cases hF;exact wr af [[(0,bT (bS h7))],[]]
mutual
def kI(N:Nat):Nat→an→ak5 eC
 |0,_=>none
 |d+1,v1=>
  Option.bind (bif (v1.ar==(1:Int))then some true else some (v1.ar==(12:Int))) fun v2=>
  bif v2 then
   some (⟨v1.aD,true⟩:eC)
  else
   bif (v1.ar==(2:Int))then
    some (⟨(⟨(3:Int),(0:Int),(0:Int),(0:Int),(0:Int)⟩:aC),true⟩:eC)
   else
    bif (v1.ar==(8:Int))then
     Option.bind (v1.ax[0]?) fun v3=>
     Option.bind ((kI N d) v3) fun v4=>
     some v4
    else
     Option.bind (bif (decide (v1.ar≥(4:Int)))then some (decide (v1.ar≤(10:Int)))else some false) fun v5=>
     bif v5 then
      Option.bind (v1.ax[0]?) fun v6=>
      Option.bind (v1.ax[1]?) fun v7=>
      Option.bind ((rL N d) v6 v7) fun v8=>
      some v8
     else
      bif (v1.ar==(11:Int))then
       Option.bind (v1.ax[1]?) fun v9=>
       Option.bind ((kI N d) v9) fun v10=>
       Option.bind (v1.ax[2]?) fun v11=>
       Option.bind ((kI N d) v11) fun v12=>
       Option.bind (bif v10.vK then(bif v12.vK then some ((v10.xT.a8==v12.xT.a8)&&((v10.xT.bz==v12.xT.bz)&&((v10.xT.xFrac==v12.xT.xFrac)&&((v10.xT.bK==v12.xT.bK)&&((v10.xT.bM==v12.xT.bM)&&true)))))else some false)else some false) fun aX=>
       bif aX then
        some v10
       else
        some F5
      else
       some F5
def rL(N:Nat):Nat→an→an→ak5 eC
 |0,_,_=>none
 |d+1,v1,v2=>
  Option.bind ((kI N d) v1) fun v3=>
  bif v3.vK then
   some v3
  else
   Option.bind ((kI N d) v2) fun v4=>
   some v4
end
def g_brocaderef21_derived(N:Nat)(v1:an):ak5 eC:=kI N N v1
def Fj(N:Nat)(v1:an)(v2:an):ak5 eC:=rL N N v1 v2
theorem SM(N:Nat):∀d:Nat,(∀(v1:an)(r:eC),kI N d v1=some r→aG Tryz.prog 137 [(aA v1)] (·=(gg r)))∧(∀(v1:an)(v2:an)(r:eC),rL N d v1 v2=some r→aG Tryz.prog 136 [(aA v1),(aA v2)] (·=(gg r))):=by
 intro d
 induction d with
 |zero=>exact⟨fun v1 r hF=>(by rw[kI]at hF;cases hF),fun v1 v2 r hF=>(by rw[rL]at hF;cases hF)⟩
 |succ d ih=>
  have CI:=ih.1;have adm:=ih.2;refine⟨?_,?_⟩
  ·intro v1 r hF;rw[kI]at hF;refine aR Tryz.func137 ?_;refine au af [[]] ?_;obtain⟨v2,h2,hF⟩:=ao hF;refine bf af [(5,(aB v2))] [.cells (aA v1).cells, .cells qv] ?_ ?_
   ·refine bc h2 (fun h1 h2=> ?_) fun h1 h2=> ?_
    ·cases h2;exact⟨[(3,bT h1)],[],by kernel_rfl⟩
    cases h2;exact⟨[(3,bF h1)],[],by kernel_rfl⟩
   refine bc hF (fun h3 hF=> ?_) fun h3 hF=> ?_
   ·cases hF;exact wr af [[(0,bT h3)],[]]
   refine au af [[(0,bF h3)],[]] ?_;refine bc hF (fun h4 hF=> ?_) fun h4 hF=> ?_
   ·cases hF;exact wr af [[(0,bT h4)],[]]
   refine au af [[(0,bF h4)],[]] ?_;refine bc hF (fun h5 hF=> ?_) fun h5 hF=> ?_
   ·obtain⟨v3,h6,hF⟩:=ao hF;obtain⟨v4,h7,hF⟩:=ao hF;obtain rfl:=sj hF;exact wr af [[(0,bT h5)],[(7,oE (k:=0) (bt h6)),(13,cL (CI v3 v4 h7))]]
   refine au af [[(0,bF h5)]] ?_;obtain⟨v5,h9,hF⟩:=ao hF;refine bf af [(32,(aB v5))] [.cells (aA v1).cells, .cells qv] ?_ ?_
   ·refine bc h9 (fun h8 h9=> ?_) fun h8 h9=> ?_
    ·cases h9;exact⟨[(3,bT h8)],[],by kernel_rfl⟩
    cases h9;exact⟨[(3,bF h8)],[],by kernel_rfl⟩
   refine bc hF (fun az hF=> ?_) fun az hF=> ?_
   ·obtain⟨v6,aE,hF⟩:=ao hF;obtain⟨v7,aK,hF⟩:=ao hF;obtain⟨v8,aY,hF⟩:=ao hF;obtain rfl:=sj hF;exact wr af [[(0,bT az)],[(7,oE (k:=0) (bt aE)),(19,oE (k:=1) (bt aK)),(25,cL (adm v6 v7 v8 aY))]]
   refine au af [[(0,bF az)],[]] ?_;refine bc hF (fun aJ hF=> ?_) fun aJ hF=> ?_
   ·refine au af [[(0,bT aJ)]] ?_;obtain⟨v9,bp,hF⟩:=ao hF;obtain⟨v10,aL,hF⟩:=ao hF;obtain⟨v11,bn,hF⟩:=ao hF;obtain⟨v12,aZ,hF⟩:=ao hF;refine mq 2 af [(3,(.ptr 2 0)),(4,(.ptr 3 0))] [.cells (aA v1).cells, .cells qv, .cells (gg v10).cells, .cells (gg v12).cells] ⟨[(7,oE (k:=1) (bt bp)),(13,cL (CI v9 v10 aL)),(22,oE (k:=2) (bt bn)),(28,cL (CI v11 v12 aZ))],by kernel_rfl⟩ ?_;obtain⟨aX,cl,hF⟩:=ao hF;refine bf af [(76,(aB aX))] [.cells (aA v1).cells, .cells qv, .cells (gg v10).cells, .cells (gg v12).cells] ?_ ?_
    ·refine bc cl (fun bU cl=> ?_) fun bU cl=> ?_
     ·refine bc cl (fun bC cl=> ?_) fun bC cl=> ?_
      ·cases cl;exact⟨[(2,bT bU),(6,bT bC)],[],by kernel_rfl⟩
      cases cl;exact⟨[(2,bT bU),(6,bF bC)],[],by kernel_rfl⟩
     cases cl;exact⟨[(2,bF bU),(6,bF rfl)],[],by kernel_rfl⟩
    refine bc hF (fun bw hF=> ?_) fun bw hF=> ?_
    ·cases hF;exact wr af [[(0,bT bw)],[]]
    cases hF;exact wr af [[(0,bF bw)],[]]
   cases hF;exact wr af [[(0,bF aJ)],[]]
  intro v1 v2 r hF;rw[rL]at hF;refine aR Tryz.func136 ?_;obtain⟨v3,h1,hF⟩:=ao hF;refine au af [[],[(4,cL (CI v1 v3 h1))],[]] ?_;refine bc hF (fun h2 hF=> ?_) fun h2 hF=> ?_
  ·cases hF;exact wr af [[(0,bT h2)],[]]
  obtain⟨v4,h3,hF⟩:=ao hF;obtain rfl:=sj hF;exact wr af [[(0,bF h2)],[(4,cL (CI v2 v4 h3))]]
theorem Tu(N:Nat)(v1:an)(r:eC)(hF:g_brocaderef21_derived N v1=some r):aG Tryz.prog 137 [(aA v1)] (·=(gg r)):=(SM N N).1 v1 r hF
theorem Yo(N:Nat)(v1:an)(v2:an)(r:eC)(hF:Fj N v1 v2=some r):aG Tryz.prog 136 [(aA v1),(aA v2)] (·=(gg r)):=(SM N N).2 v1 v2 r hF
def Ck(N:Nat)(v1:an):ak5 (an×Bool):=
 bif (v1.ar !=(12:Int))then
  some (v1,false)
 else
  Option.bind (v1.ax[0]?) fun v2=>
  bif (v2.ar==(1:Int))then
   Option.bind (A8 N v2.aD v1.aD v2.ba) fun v3=>
   Option.bind (nA N v1.aD v3.1) fun v4=>
   some (v4,(v3.2==(0:Int)))
  else
   Option.bind (g_brocaderef21_derived N v2) fun v5=>
   Option.bind (bif v5.vK then some ((v5.xT.a8==v1.aD.a8)&&((v5.xT.bz==v1.aD.bz)&&((v5.xT.xFrac==v1.aD.xFrac)&&((v5.xT.bK==v1.aD.bK)&&((v5.xT.bM==v1.aD.bM)&&true)))))else some false) fun v6=>
   some (v2,v6)
theorem X2(N:Nat)(v1:an)(r:an×Bool)(hF:Ck N v1=some r):aG Tryz.prog 126 [(aA v1)] (·=(.bk [(aA r.1),(aB r.2)])):=by
 rw[Ck]at hF;refine aR Tryz.func126 ?_;refine au af [[],[]] ?_;refine bc hF (fun h1 hF=> ?_) fun h1 hF=> ?_
 ·cases hF;exact wr af [[(0,bT h1)],[]]
 obtain⟨v2,h2,hF⟩:=ao hF;refine au af [[(0,bF h1)],[(7,oE (k:=0) (bt h2))],[]] ?_;refine bc hF (fun h3 hF=> ?_) fun h3 hF=> ?_
 ·obtain⟨v3,h4,hF⟩:=ao hF;obtain⟨v4,h5,hF⟩:=ao hF;cases hF;exact wr af [[(0,bT h3)],[(19,cL (ahB N v2.aD v1.aD v2.ba v3 h4))],[(10,cL (p8 N v1.aD v3.1 v4 h5))]]
 obtain⟨v5,h6,hF⟩:=ao hF;refine au af [[(0,bF h3)],[(4,cL (Tu N v2 v5 h6))]] ?_;obtain⟨v6,h8,hF⟩:=ao hF;refine Gt 5 af [(3,(aB v6))] [.cells (aA v1).cells, .cells (aA v2).cells, .cells (aA v2).cells, .cells (gg v5).cells] ?_ ?_
 ·refine bc h8 (fun h7 h8=> ?_) fun h7 h8=> ?_
  ·cases h8;exact⟨[(3,bT h7)],[],by kernel_rfl⟩
  cases h8;exact⟨[(3,bF h7)],[],by kernel_rfl⟩
 cases hF;exact wr af []
def xF(N:Nat)(v1:aF):ak5 Int:=
 Option.bind (uc N v1) fun v2=>
 bif v2 then
  some (0:Int)
 else
  some (1:Int)
theorem II(N:Nat)(v1:aF)(r:Int)(hF:xF N v1=some r):aG Tryz.prog 260 [(b9 v1)] (·=(aw r)):=by
 rw[xF]at hF;refine aR Tryz.func260 ?_;obtain⟨v2,h1,hF⟩:=ao hF;refine au af [[],[(4,cL (DN N v1 v2 h1))]] ?_;refine bc hF (fun h2 hF=> ?_) fun h2 hF=> ?_
 ·cases hF;exact wr af [[(0,bF (bG h2))],[]]
 cases hF;exact wr af [[(0,bT (bS h2))],[]]
def AW(N:Nat)(v1:Int64)(v2:Int64):ak5 (Int64×Bool):=
 Option.bind (bif (v1.toInt==(0:Int))then some true else some (v2.toInt==(0:Int))) fun v3=>
 bif v3 then
  some ((0:Int64),true)
 else
  Option.bind (bif (v1.toInt==(-1:Int))then(bif (v2.toInt==(-9223372036854775808:Int))then some true else(bif (v2.toInt==(-1:Int))then(bif (v1.toInt==(-9223372036854775808:Int))then some true else bif (v2.toInt !=(0:Int))then
  some ((Int64.ofInt (((v1*v2).toInt).tdiv v2.toInt)).toInt !=v1.toInt)
  else none)else bif (v2.toInt !=(0:Int))then
  some ((Int64.ofInt (((v1*v2).toInt).tdiv v2.toInt)).toInt !=v1.toInt)
  else none))else(bif (v2.toInt==(-1:Int))then(bif (v1.toInt==(-9223372036854775808:Int))then some true else bif (v2.toInt !=(0:Int))then
  some ((Int64.ofInt (((v1*v2).toInt).tdiv v2.toInt)).toInt !=v1.toInt)
  else none)else bif (v2.toInt !=(0:Int))then
  some ((Int64.ofInt (((v1*v2).toInt).tdiv v2.toInt)).toInt !=v1.toInt)
  else none)) fun v4=>
  bif v4 then
   some ((0:Int64),false)
  else
   some ((v1*v2),true)
theorem Uz(N:Nat)(v1:Int64)(v2:Int64)(r:Int64×Bool)(hF:AW N v1 v2=some r):aG Tryz.prog 261 [(aI v1),(aI v2)] (·=(.bk [(aI r.1),(aB r.2)])):=by
 rw[AW]at hF;refine aR Tryz.func261 ?_;refine au af [[]] ?_;obtain⟨v3,h2,hF⟩:=ao hF;refine bf af [(12,(aB v3))] [] ?_ ?_
 ·refine bc h2 (fun h1 h2=> ?_) fun h1 h2=> ?_
  ·cases h2;exact⟨[(2,bT h1)],[],by kernel_rfl⟩
  cases h2;exact⟨[(2,bF h1)],[],by kernel_rfl⟩
 refine bc hF (fun h3 hF=> ?_) fun h3 hF=> ?_
 ·cases hF;exact wr af [[(0,bT h3)],[]]
 refine au af [[(0,bF h3)],[(8,⟨_,_, .eq (dS v1 v2)⟩)]] ?_;obtain⟨v4,aJ,hF⟩:=ao hF;refine bf af [(36,(aB v4))] [] ?_ ?_
 ·refine bc aJ (fun h4 aJ=> ?_) fun h4 aJ=> ?_
  ·refine bc aJ (fun h5 aJ=> ?_) fun h5 aJ=> ?_
   ·cases aJ;exact⟨[(2,bT h4),(6,bT h5),(9,uN),(14,bT rfl)],[],by kernel_rfl⟩
   refine bc aJ (fun h6 aJ=> ?_) fun h6 aJ=> ?_
   ·refine bc aJ (fun h7 aJ=> ?_) fun h7 aJ=> ?_
    ·cases aJ;exact⟨[(2,bT h4),(6,bF h5),(9,bT h6),(14,bT h7)],[(37,bT h6)],by kernel_rfl⟩
    obtain⟨h8,aJ⟩:=dp aJ;cases aJ;exact⟨[(2,bT h4),(6,bF h5),(9,bT h6),(14,bF h7)],[(37,bT h6),(52,⟨_,_, .nz (b:=v2.toInt) (bne_iff_ne.1 h8)⟩),(53,⟨_,_, .eq (eP (((v1*v2).toInt).tdiv v2.toInt))⟩)],by kernel_rfl⟩
   obtain⟨h9,aJ⟩:=dp aJ;cases aJ;exact⟨[(2,bT h4),(6,bF h5),(9,bF h6),(14,bF rfl)],[(37,bF h6),(52,⟨_,_, .nz (b:=v2.toInt) (bne_iff_ne.1 h9)⟩),(53,⟨_,_, .eq (eP (((v1*v2).toInt).tdiv v2.toInt))⟩)],by kernel_rfl⟩
  refine bc aJ (fun az aJ=> ?_) fun az aJ=> ?_
  ·refine bc aJ (fun aE aJ=> ?_) fun aE aJ=> ?_
   ·cases aJ;exact⟨[(2,bF h4),(6,bF rfl),(9,bT az),(14,bT aE)],[(37,bT az)],by kernel_rfl⟩
   obtain⟨aK,aJ⟩:=dp aJ;cases aJ;exact⟨[(2,bF h4),(6,bF rfl),(9,bT az),(14,bF aE)],[(37,bT az),(52,⟨_,_, .nz (b:=v2.toInt) (bne_iff_ne.1 aK)⟩),(53,⟨_,_, .eq (eP (((v1*v2).toInt).tdiv v2.toInt))⟩)],by kernel_rfl⟩
  obtain⟨aY,aJ⟩:=dp aJ;cases aJ;exact⟨[(2,bF h4),(6,bF rfl),(9,bF az),(14,bF rfl)],[(37,bF az),(52,⟨_,_, .nz (b:=v2.toInt) (bne_iff_ne.1 aY)⟩),(53,⟨_,_, .eq (eP (((v1*v2).toInt).tdiv v2.toInt))⟩)],by kernel_rfl⟩
 refine bc hF (fun bp hF=> ?_) fun bp hF=> ?_
 ·cases hF;exact wr af [[(0,bT bp)],[]]
 cases hF;exact wr af [[(0,bF bp)],[]]
def um(N:Nat)(v4:Int64×Bool)(v2:Int64):ak3 aU→Nat→(ak3 aU)→ak5 (aF×Int)
 |[],_,v9=>
  some ((⟨v4.1,v9⟩:aF),(0:Int))
 |v7::v8,v5,v9=>
  Option.bind (AW N v7.cN v2) fun v10=>
  bif v10.2 then
   bif (Nat.ble ((v9.length+1)*24) 140737488355328)then
   (fun cX=>um N v4 v2 v8 (v5+1) cX) (v9++[(⟨v7.aV,v10.1⟩:aU)])
   else none
  else
   some (bV,(3:Int))
def rF(N:Nat)(v1:aF)(v2:Int64):ak5 (aF×Int):=
 Option.bind (xF N v1) fun v3=>
 bif (v3 !=(0:Int))then
  some (bV,(1:Int))
 else
  bif (v2.toInt==(0:Int))then
   some (bV,(0:Int))
  else
   Option.bind (AW N v1.xK v2) fun v4=>
   bif v4.2 then
    um N v4 v2 v1.xL 0 []
   else
    some (bV,(3:Int))
theorem MM(N:Nat)(v1:aF)(v2:Int64)(r:aF×Int)(hF:rF N v1 v2=some r):aG Tryz.prog 199 [(b9 v1),(aI v2)] (·=(.bk [(b9 r.1),(aw r.2)])):=by
 rw[rF]at hF;refine aR Tryz.func199 ?_;obtain⟨v3,h1,hF⟩:=ao hF;refine au af [[],[(4,cL (II N v1 v3 h1))]] ?_;refine bc hF (fun h2 hF=> ?_) fun h2 hF=> ?_
 ·cases hF;exact wr af [[(0,bT h2)],[]]
 refine au af [[(0,bF h2)],[]] ?_;refine bc hF (fun h3 hF=> ?_) fun h3 hF=> ?_
 ·cases hF;exact wr af [[(0,bT h3)],[]]
 obtain⟨v4,h4,hF⟩:=ao hF;refine au af [[(0,bF h3)],[(10,cL (Uz N v1.xK v2 v4 h4))],[]] ?_;refine bc hF (fun h5 hF=> ?_) fun h5 hF=> ?_
 ·refine au af [[(0,bF (bG h5))],[],[]] ?_;refine Ki 2 1 114 2 [] (.inr (by kernel_rfl)) ?_;refine kh n7 0 1 v1.xL fun h7=> ?_;refine pP af 1 [] [1,2,4,8,9] 4 [] [(1,1)] (fun((v5,v6,v9):Nat×(ak3 aU)×(ak3 aU))=>⟨66,[(1,(aI v2)),(2,(.ptr 0 0)),(4,(.ptr 1 0)),(8,(.ptr 2 0)),(9,(aw (v5:Int)))],[.cells (b9 v1).cells, .cells sQ, .cells [(aI v4.1),(.own 3 (b5 v9))], .front 114 2 v9.length]⟩) (fun((v5,v6,v9):Nat×(ak3 aU)×(ak3 aU))=>v1.xL.drop v5=v6∧um N v4 v2 v6 v5 v9=some r) (fun((v5,v6,v9):Nat×(ak3 aU)×(ak3 aU))=>v6.length) (0,v1.xL,[]) ⟨rfl,hF⟩ ?_;rintro⟨v5,v6,v9⟩ ⟨h8,hF⟩ f1 aO;cases v6 with
  |nil=>
   rw[um]at hF;cases hF;exact wr af [[(10,oL v1.xL dg)],[(0,bF (cM h8))],[]]
  |cons v7 v8=>
   rw[um]at hF;obtain⟨v10,h9,hF⟩:=ao hF;refine au af [[(10,oL v1.xL dg)],[(0,bT (cF h8))],[(10,oE (eQ (cd h8))),(22,cL (Uz N v7.cN v2 v10 h9))],[]] ?_;refine bc hF (fun az hF=> ?_) fun az hF=> ?_
   ·obtain⟨aE,hF⟩:=dp hF;exact ni af aO (v5+1,v8,(v9++[(⟨v7.aV,v10.1⟩:aU)])) [[(0,bF (bG az))],[(16,oE (eQ (cd h8))),(34,oA n7 v9 ([(⟨v7.aV,v10.1⟩:aU)]) aE)],[(5,oq (dj h8 rfl h7))]] ⟨jN h8,hF⟩
   cases hF;exact wr af [[(0,bT (bS az))],[]]
 cases hF;exact wr af [[(0,bT (bS h5))],[]]
def kQ(N:Nat)(v1:an):ak5 Bool:=
 Option.bind (bif (v1.ar==(1:Int))then some (v1.aD.a8==(3:Int))else some false) fun v2=>
 some v2
theorem sA(N:Nat)(v1:an)(r:Bool)(hF:kQ N v1=some r):aG Tryz.prog 201 [(aA v1)] (·=(aB r)):=by
 rw[kQ]at hF;refine aR Tryz.func201 ?_;refine au af [[]] ?_;obtain⟨v2,h2,hF⟩:=ao hF;refine bf af [(2,(aB v2))] [.cells (aA v1).cells] ?_ ?_
 ·refine bc h2 (fun h1 h2=> ?_) fun h1 h2=> ?_
  ·cases h2;exact⟨[(3,bT h1)],[],by kernel_rfl⟩
  cases h2;exact⟨[(3,bF h1)],[],by kernel_rfl⟩
 cases hF;exact wr af []
def oH(N:Nat)(v1:an):ak5 (aF×Bool):=
 Option.bind (kQ N v1) fun v2=>
 bif v2 then
  some ((⟨v1.ba.xN,[]⟩:aF),true)
 else
  some (v1.aM,(v1.ar==(2:Int)))
theorem F9(N:Nat)(v1:an)(r:aF×Bool)(hF:oH N v1=some r):aG Tryz.prog 200 [(aA v1)] (·=(.bk [(b9 r.1),(aB r.2)])):=by
 rw[oH]at hF;refine aR Tryz.func200 ?_;obtain⟨v2,h1,hF⟩:=ao hF;refine au af [[],[(4,cL (sA N v1 v2 h1))]] ?_;refine bc hF (fun h2 hF=> ?_) fun h2 hF=> ?_
 ·cases hF;exact wr af [[(0,bT h2)],[]]
 refine au af [[(0,bF h2)]] ?_;refine mq 2 af [(3,(aB (v1.ar==(2:Int))))] [.cells (aA v1).cells, .cells (b9 v1.aM).cells] ⟨[],by kernel_rfl⟩ ?_;cases hF;exact wr af []
def zM(N:Nat)(v1:Int64)(v2:Int64):ak5 (Int64×Bool):=
 Option.bind (bif (decide (v2.toInt>(0:Int)))then(bif (decide (v1.toInt>((9223372036854775807:Int64)-v2).toInt))then some true else(bif (decide (v2.toInt<(0:Int)))then some (decide (v1.toInt<((-9223372036854775808:Int64)-v2).toInt))else some false))else(bif (decide (v2.toInt<(0:Int)))then some (decide (v1.toInt<((-9223372036854775808:Int64)-v2).toInt))else some false)) fun v3=>
 bif v3 then
  some ((0:Int64),false)
 else
  some ((v1+v2),true)
theorem TP(N:Nat)(v1:Int64)(v2:Int64)(r:Int64×Bool)(hF:zM N v1 v2=some r):aG Tryz.prog 262 [(aI v1),(aI v2)] (·=(.bk [(aI r.1),(aB r.2)])):=by
 rw[zM]at hF;refine aR Tryz.func262 ?_;refine au af [[]] ?_;obtain⟨v3,h5,hF⟩:=ao hF;refine bf af [(23,(aB v3))] [] ?_ ?_
 ·refine bc h5 (fun h1 h5=> ?_) fun h1 h5=> ?_
  ·refine bc h5 (fun h2 h5=> ?_) fun h2 h5=> ?_
   ·cases h5;exact⟨[(2,bT h1),(8,bT h2),(11,uN)],[(17,⟨_,_, .eq (gk (9223372036854775807:Int64) v2)⟩)],by kernel_rfl⟩
   refine bc h5 (fun h3 h5=> ?_) fun h3 h5=> ?_
   ·obtain rfl:=sj h5;exact⟨[(2,bT h1),(8,bF h2),(11,bT h3)],[(17,⟨_,_, .eq (gk (9223372036854775807:Int64) v2)⟩),(44,⟨_,_, .eq (gk (-9223372036854775808:Int64) v2)⟩),(49,bT h3)],by kernel_rfl⟩
   cases h5;exact⟨[(2,bT h1),(8,bF h2),(11,bF h3)],[(17,⟨_,_, .eq (gk (9223372036854775807:Int64) v2)⟩),(49,bF h3)],by kernel_rfl⟩
  refine bc h5 (fun h4 h5=> ?_) fun h4 h5=> ?_
  ·obtain rfl:=sj h5;exact⟨[(2,bF h1),(8,bF rfl),(11,bT h4)],[(44,⟨_,_, .eq (gk (-9223372036854775808:Int64) v2)⟩),(49,bT h4)],by kernel_rfl⟩
  cases h5;exact⟨[(2,bF h1),(8,bF rfl),(11,bF h4)],[(49,bF h4)],by kernel_rfl⟩
 refine bc hF (fun h6 hF=> ?_) fun h6 hF=> ?_
 ·cases hF;exact wr af [[(0,bT h6)],[]]
 cases hF;exact wr af [[(0,bF h6)],[(8,⟨_,_, .eq (lA v1 v2)⟩)]]
def wj(N:Nat)(v3:ak3 ak4)(v1:Nat)(v2:ak4):Nat→Int→ak5 Bool
 |0,_=>none
 |v4+1,v5=>
  bif (Nat.beq v3.length v1)then
  bif (decide (v5<(v1:Int)))then
   bif (decide ((0:Int)≤v5))then
   Option.bind (v3[(v5).toNat]?) fun v6=>
   bif (bL v6==bL v2)then
    some true
   else
    (fun cX=>wj N v3 v1 v2 v4 cX) (aQ (v5+(1:Int)))
   else none
  else
   some false
  else none
def H6(N:Nat)(v1:Nat)(v2:ak4)(v3:ak3 ak4):ak5 Bool:=
 wj N v3 v1 v2 N (0:Int)
def qc(v3:ak3 ak4)(l:ak3 aq):ak3 aq:= .vec 9 1 (bq (v3.map cG))::l
theorem ad7(N:Nat)(v1:Nat)(v2:ak4)(v3:ak3 ak4)(r:Bool)(hF:H6 N v1 v2 v3=some r):bQ Tryz.prog 90 [(.vec 0 0 v1 v1 1),(aS v2)] [.vec 9 1 (bq (v3.map cG))] fun r1 h1=>r1=(aB r)∧h1=[.vec 9 1 (bq (v3.map cG))]:=by
 rw[H6]at hF;refine D9 1 Tryz.func90 rfl (by kernel_rfl) (akn rfl) ?_;refine B8 (s':=⟨18,[(0,(.vec 0 0 v1 v1 1)),(1,(aS v2))],(qc v3 [])⟩) (by kernel_rfl) ?_;refine bH ?_;refine rg [] [] (qc v3 []) (by kernel_rfl) ?_;refine bH ?_;refine bH ?_;refine rg [] [(5,(aw (0:Int)))] (qc v3 []) (by kernel_rfl) ?_;refine gO ?_;refine CA [0,1,5] 1 [] [] (fun((v4,v5):Nat×Int)=>⟨18,[(0,(.vec 0 0 v1 v1 1)),(1,(aS v2)),(5,(aw v5))],(qc v3 [])⟩) (fun((v4,v5):Nat×Int)=>wj N v3 v1 v2 v4 v5=some r) (fun((v4,v5):Nat×Int)=>v4) (N,(0:Int)) (akn rfl) ⟨(iL (xs:=(v3.map cG)) vmN),by kernel_rfl⟩ hF ?_;rintro⟨v4,v5⟩ hF
 try dsimp only at hF
 cases v4 with
 |zero=>
  rw[wj]at hF;cases hF
 |succ v4=>
  rw[wj]at hF;refine bH ?_;refine bH ?_;have h1:=jD hF;replace hF:=(eI h1).symm.trans hF;refine rg [(7,⟨_,_, .pr .no (gK (f:=cG) (akt h1))⟩)] [(9,(aB (decide (v5<(v1:Int)))))] (qc v3 []) (by kernel_rfl) ?_;rcases jS (decide (v5<(v1:Int)))with h2|h2
  ·replace hF:=(eI h2).symm.trans hF;refine kp (t:=(decide (v5<(v1:Int)))) (by kernel_rfl) h2 ?_;refine fM ?_;refine cA ?_;refine bH ?_;refine gO ?_;refine bH ?_;have h3:=jD hF;replace hF:=(eI h3).symm.trans hF;obtain⟨v6,h4,hF⟩:=ao hF;refine rg [(7,⟨_,_, .pr (.ix ((v5).toNat)) (lB (gK (f:=cG) (akt h1)) (of_decide_eq_true h3) (of_decide_eq_true h2) rfl)⟩),(10,⟨_,_, .pr (.el ((cG v6).map AV.d)) (CJ (f:=cG) (akt h1) h4)⟩)] [(17,(aB (bL v6==bL v2)))] (qc v3 []) (by kernel_rfl) ?_;rcases jS (bL v6==bL v2)with h5|h5
   ·replace hF:=(eI h5).symm.trans hF;refine kp (t:=(bL v6==bL v2)) (by kernel_rfl) h5 ?_;refine bH ?_;refine rg [] [(4,(aB true))] (qc v3 []) (by kernel_rfl) ?_;refine dU (gv (fu (fu (gv (fu ?_)))));have hr:=aky hF;subst hr;exact o9 (iL (xs:=(v3.map cG)) vmN) (by kernel_rfl)
   replace hF:=(kd h5).symm.trans hF;refine jZ (t:=(bL v6==bL v2)) (by kernel_rfl) h5 ?_;refine fM ?_;refine ln ?_;refine cA ?_;refine re [] [(5,(aw (aQ (v5+(1:Int))))),(11,(aw (aQ (v5+(1:Int))))),(10,(aw v5))] (qc v3 []) (by kernel_rfl) ?_;refine cA ?_;exact⟨(v4,(aQ (v5+(1:Int)))),⟨(iL (xs:=(v3.map cG)) vmN),by kernel_rfl⟩,hF,ak1 _⟩
  replace hF:=(kd h2).symm.trans hF;refine jZ (t:=(decide (v5<(v1:Int)))) (by kernel_rfl) h2 ?_;refine pC (lF (lF (sf rfl ?_)));refine cA ?_;refine bH ?_;refine rg [] [(4,(aB false))] (qc v3 []) (by kernel_rfl) ?_;refine dU ?_;have hr:=aky hF;subst hr;exact o9 (iL (xs:=(v3.map cG)) vmN) (by kernel_rfl)
def sO(N:Nat)(v1:Nat):Nat→Int→(ak3 ak4)→ak5 (Nat×(ak3 ak4))
 |0,_,_=>none
 |v5+1,v6,v7=>
  Option.bind (bif (decide (v6>(0:Int)))then bif (Nat.beq v7.length (v1+1))then
  bif (decide ((0:Int)≤(aQ (v6-(1:Int)))))then
  bif (decide ((aQ (v6-(1:Int)))<((v1+1):Int)))then
  Option.bind (v7[((aQ (v6-(1:Int)))).toNat]?) fun v8=>
  bif (decide ((0:Int)≤v6))then
  bif (decide (v6<((v1+1):Int)))then
  Option.bind (v7[(v6).toNat]?) fun v9=>
  some (!((Op.bytesLess (bL v8) (bL v9))||(bL v8==bL v9)))
  else none
  else none
  else none
  else none
  else none else some false) fun v10=>
  bif v10 then
   bif (Nat.beq v7.length (v1+1))then
   bif (decide ((0:Int)≤v6))then
   bif (decide (v6<((v1+1):Int)))then
   Option.bind (v7[(v6).toNat]?) fun v11=>
   bif (decide ((0:Int)≤(aQ (v6-(1:Int)))))then
   bif (decide ((aQ (v6-(1:Int)))<((v1+1):Int)))then
   Option.bind (v7[((aQ (v6-(1:Int)))).toNat]?) fun v12=>
   bif (Nat.beq (v7.set ((v6).toNat) v12).length (v1+1))then
   Option.bind ((v7.set ((v6).toNat) v12)[((aQ (v6-(1:Int)))).toNat]?) fun aX=>
   (fun cX fX=>sO N v1 v5 cX fX) (aQ (v6-(1:Int))) ((v7.set ((v6).toNat) v12).set (((aQ (v6-(1:Int)))).toNat) v11)
   else none
   else none
   else none
   else none
   else none
   else none
  else
   some ((v1+1),v7)
def Dk(N:Nat)(v1:Nat)(v2:ak4)(v3:ak3 ak4):ak5 (Nat×(ak3 ak4)):=
 Option.bind (H6 N v1 v2 v3) fun v4=>
 bif v4 then
  some (v1,v3)
 else
  bif (Nat.beq v3.length v1)then
  bif (Nat.ble ((v1+1)*16) 140737488355328)then
  bif (Nat.beq (v3++[v2]).length (v1+1))then
  sO N v1 N (aQ (((v1+1):Int)-(1:Int))) (v3++[v2])
  else none
  else none
  else none
def Al(v3:ak3 ak4)(l:ak3 aq):ak3 aq:= .vec 9 1 (bq (v3.map cG))::l
theorem ZM(N:Nat)(v1:Nat)(v2:ak4)(v3:ak3 ak4)(r:Nat×(ak3 ak4))(hF:Dk N v1 v2 v3=some r):bQ Tryz.prog 307 [(.vec 0 0 v1 v1 1),(aS v2)] [.vec 9 1 (bq (v3.map cG))] fun r1 h1=>r1=(.vec 0 0 r.1 r.1 1)∧h1=[.vec 9 1 (bq (r.2.map cG))]:=by
 rw[Dk]at hF;refine D9 1 Tryz.func307 rfl (by kernel_rfl) (akn rfl) ?_;refine B8 (s':=⟨52,[(0,(.vec 0 0 v1 v1 1)),(1,(aS v2))],(Al v3 [])⟩) (by kernel_rfl) ?_;refine bH ?_;refine rg [] [] (Al v3 []) (by kernel_rfl) ?_;refine bH ?_;refine bH ?_;obtain⟨v4,h1,hF⟩:=ao hF;refine rg [(7,oX (xE (xs:=(v3.map cG)) pf) (xE (xs:=(v3.map cG)) pf) [(.vec 0 0 v1 v1 1),(aS v2)] (Al v3 []) [0] (ad7 N v1 v2 v3 v4 h1))] [(9,(aB v4))] (Al v3 []) (by kernel_rfl) ?_;rcases jS v4 with h2|h2
 ·replace hF:=(eI h2).symm.trans hF;refine kp (t:=v4) (by kernel_rfl) h2 ?_;refine bH ?_;refine rg [] [(4,(.vec 0 0 v1 v1 1))] (Al v3 []) (by kernel_rfl) ?_;refine dU (fu ?_);have hr:=aky hF;subst hr;exact o9 (iL (xs:=(v3.map cG)) vmN) (by kernel_rfl)
 replace hF:=(kd h2).symm.trans hF;refine jZ (t:=v4) (by kernel_rfl) h2 ?_;refine fM ?_;refine cA ?_;refine bH ?_;have h3:=jD hF;replace hF:=(eI h3).symm.trans hF;have h4:=jD hF;replace hF:=(eI h4).symm.trans hF;refine rg [(10,⟨_,_, .pr (.ap (bq ((v3++[v2]).map cG)) (bq (([v2]).map cG)) (v1+1) (v1+1)) (afe (f:=cG) (h:=(Al v3 [])) (y:=(.full (gx [v2]))) (k:=1) (akt h3) rfl (fun c hc=>TQ c (by rw[ru];exact hc)) rfl rfl (ph h4 (by decide)).1 (ph h4 (by decide)).2)⟩)] [(0,(.vec 0 0 (v1+1) (v1+1) 1))] [.vec 9 1 (bq ((v3++[v2]).map cG))] (by kernel_rfl) ?_;refine bH ?_;refine bH ?_;have h5:=jD hF;replace hF:=(eI h5).symm.trans hF;refine rg [(4,⟨_,_, .pr .no (gK (f:=cG) (akt h5))⟩)] [(5,(aw (aQ (((v1+1):Int)-(1:Int)))))] [.vec 9 1 (bq ((v3++[v2]).map cG))] (by kernel_rfl) ?_;refine gO ?_;refine CA [0,5] 1 [] [] (fun((v5,v6,v7):Nat×Int×(ak3 ak4))=>⟨52,[(0,(.vec 0 0 (v1+1) (v1+1) 1)),(5,(aw v6))],[.vec 9 1 (bq (v7.map cG))]⟩) (fun((v5,v6,v7):Nat×Int×(ak3 ak4))=>sO N v1 v5 v6 v7=some r) (fun((v5,v6,v7):Nat×Int×(ak3 ak4))=>v5) (N,(aQ (((v1+1):Int)-(1:Int))),(v3++[v2])) (akn rfl) ⟨(iL (xs:=((v3++[v2]).map cG)) vmN),by kernel_rfl⟩ hF ?_
 rintro⟨v5,v6,v7⟩ hF
 try dsimp only at hF
 cases v5 with
 |zero=>
  rw[sO]at hF;cases hF
 |succ v5=>
  rw[sO]at hF;refine bH ?_;refine bH ?_;obtain⟨v10,aJ,hF⟩:=ao hF;refine rdE af (by kernel_rfl) [(31,(aB v10))] [.vec 9 1 (bq (v7.map cG))] ?_ ?_
  ·rcases jS (decide (v6>(0:Int)))with h6|h6
   ·replace aJ:=(eI h6).symm.trans aJ;have h7:=jD aJ;replace aJ:=(eI h7).symm.trans aJ;have h8:=jD aJ;replace aJ:=(eI h8).symm.trans aJ;have h9:=jD aJ;replace aJ:=(eI h9).symm.trans aJ;obtain⟨v8,az,aJ⟩:=ao aJ;have aE:=jD aJ;replace aJ:=(eI aE).symm.trans aJ;have aK:=jD aJ;replace aJ:=(eI aK).symm.trans aJ;obtain⟨v9,aY,aJ⟩:=ao aJ;have he:=aky aJ;subst he;exact⟨[(9,bT h6),(12,bT h6),(15,bT h6),(18,bT h6),(19,⟨_,_, .pr (.ix (((aQ (v6-(1:Int)))).toNat)) (lB (gK (f:=cG) (akt h7)) (of_decide_eq_true h8) (of_decide_eq_true h9) rfl)⟩),(21,bT h6),(22,⟨_,_, .pr (.el ((cG v8).map AV.d)) (CJ (f:=cG) (akt h7) az)⟩),(24,bT h6),(27,bT h6),(30,bT h6),(31,⟨_,_, .pr (.ix ((v6).toNat)) (lB (gK (f:=cG) (akt h7)) (of_decide_eq_true aE) (of_decide_eq_true aK) rfl)⟩),(33,bT h6),(34,⟨_,_, .pr (.el ((cG v9).map AV.d)) (CJ (f:=cG) (akt h7) aY)⟩),(36,bT h6),(40,bT h6)],by kernel_rfl⟩
   replace aJ:=(kd h6).symm.trans aJ;have he:=aky aJ;subst he;exact⟨[(9,bF h6),(12,bF h6),(15,bF h6),(18,bF h6),(21,bF h6),(24,bF h6),(27,bF h6),(30,bF h6),(33,bF h6),(36,bF h6),(40,bF h6)],by kernel_rfl⟩
  rcases jS v10 with bp|bp
  ·replace hF:=(eI bp).symm.trans hF;refine kp (t:=v10) (by kernel_rfl) bp ?_;refine fM ?_;refine cA ?_;refine bH ?_;refine gO ?_;refine bH ?_;have aL:=jD hF;replace hF:=(eI aL).symm.trans hF;have bn:=jD hF;replace hF:=(eI bn).symm.trans hF;have aZ:=jD hF;replace hF:=(eI aZ).symm.trans hF;obtain⟨v11,bU,hF⟩:=ao hF;refine rg [(7,⟨_,_, .pr (.ix ((v6).toNat)) (lB (gK (f:=cG) (akt aL)) (of_decide_eq_true bn) (of_decide_eq_true aZ) rfl)⟩),(10,⟨_,_, .pr (.el ((cG v11).map AV.d)) (CJ (f:=cG) (akt aL) bU)⟩)] [(6,(aS v11))] [.vec 9 1 (bq (v7.map cG))] (by kernel_rfl) ?_;refine bH ?_;have bC:=jD hF;replace hF:=(eI bC).symm.trans hF;have cl:=jD hF;replace hF:=(eI cl).symm.trans hF;obtain⟨v12,bw,hF⟩:=ao hF;refine rg [(16,⟨_,_, .pr (.ix (((aQ (v6-(1:Int)))).toNat)) (lB (gK (f:=cG) (akt aL)) (of_decide_eq_true bC) (of_decide_eq_true cl) rfl)⟩),(19,⟨_,_, .pr (.el ((cG v12).map AV.d)) (CJ (f:=cG) (akt aL) bw)⟩),(22,⟨_,_, .pr (.ix ((v6).toNat)) (lB (gK (f:=cG) (akt aL)) (of_decide_eq_true bn) (of_decide_eq_true aZ) rfl)⟩),(25,⟨_,_, .pr (.st ((cG v11).map AV.d) (bq ((v7.set ((v6).toNat) v12).map cG))) (vt (f:=cG) (j:=0) (y:=v12) (zs:=[(aS v12)]) (akt aL) bU rfl)⟩)] [] [.vec 9 1 (bq ((v7.set ((v6).toNat) v12).map cG))] (by kernel_rfl) ?_
   have cT:=jD hF;replace hF:=(eI cT).symm.trans hF;obtain⟨aX,cE,hF⟩:=ao hF;refine re [(13,⟨_,_, .pr (.ix (((aQ (v6-(1:Int)))).toNat)) (lB (gK (f:=cG) (akt cT)) (of_decide_eq_true bC) (of_decide_eq_true cl) rfl)⟩),(16,⟨_,_, .pr (.st ((cG aX).map AV.d) (bq (((v7.set ((v6).toNat) v12).set (((aQ (v6-(1:Int)))).toNat) v11).map cG))) (vt (f:=cG) (j:=0) (y:=v11) (zs:=[(aS v11)]) (akt cT) cE rfl)⟩)] [(50,(.cQ 0 (((aQ (v6-(1:Int)))).toNat) 0 (v1+1) 1)),(49,(aS v11)),(48,(aw (aQ (v6-(1:Int))))),(47,(aw v6)),(46,(.vec 0 0 (v1+1) (v1+1) 1))] [.vec 9 1 (bq (((v7.set ((v6).toNat) v12).set (((aQ (v6-(1:Int)))).toNat) v11).map cG))] (by kernel_rfl) ?_;refine ln ?_;refine cA ?_;refine re [] [(5,(aw (aQ (v6-(1:Int))))),(33,(aw (aQ (v6-(1:Int))))),(32,(aw v6))] [.vec 9 1 (bq (((v7.set ((v6).toNat) v12).set (((aQ (v6-(1:Int)))).toNat) v11).map cG))] (by kernel_rfl) ?_;refine cA ?_;exact⟨(v5,(aQ (v6-(1:Int))),((v7.set ((v6).toNat) v12).set (((aQ (v6-(1:Int)))).toNat) v11)),⟨(iL (xs:=(((v7.set ((v6).toNat) v12).set (((aQ (v6-(1:Int)))).toNat) v11).map cG)) vmN),by kernel_rfl⟩,hF,ak1 _⟩
  replace hF:=(kd bp).symm.trans hF;refine jZ (t:=v10) (by kernel_rfl) bp ?_;refine pC (lF (lF (sf rfl ?_)));refine cA ?_;refine bH ?_;refine rg [] [(4,(.vec 0 0 (v1+1) (v1+1) 1))] [.vec 9 1 (bq (v7.map cG))] (by kernel_rfl) ?_;refine dU ?_;have hr:=aky hF;subst hr;exact o9 (iL (xs:=(v7.map cG)) vmN) (by kernel_rfl)
def xc(N:Nat)(mw:Nat→(ak3 ak4)→ak5 ((ak3 ak4))):ak3 aU→Nat→Nat→(ak3 ak4)→ak5 ((ak3 ak4))
 |[],_,v12,aX=>
  mw v12 aX
 |v10::v11,v8,v12,aX=>
  Option.bind (Dk N v12 v10.aV aX) fun bu=>
  (fun rP acf=>xc N mw v11 (v8+1) rP acf) bu.1 bu.2
def pH(N:Nat):ak3 aF→Nat→Nat→(ak3 ak4)→ak5 ((ak3 ak4))
 |[],_,v6,v7=>
  bif (Nat.beq v7.length v6)then
  some v7
  else none
 |v4::v5,v2,v6,v7=>
  xc N (fun cX fX=>pH N v5 (v2+1) cX fX) v4.xL 0 v6 v7
def Cm(N:Nat)(v1:ak3 aF):ak5 ((ak3 ak4)):=
 pH N v1 0 0 []
def AB(v7:ak3 ak4)(l:ak3 aq):ak3 aq:= .vec 9 1 (bq (v7.map cG))::l
def EJ(aX:ak3 ak4)(l:ak3 aq):ak3 aq:= .vec 9 1 (bq (aX.map cG))::l
theorem ain(N:Nat)(v1:ak3 aF)(r:(ak3 ak4))(hF:Cm N v1=some r):aG Tryz.prog 263 [(.d (.sl (du v1)))] (·=(.d (.sl (gx r)))):=by
 rw[Cm]at hF;refine AG Tryz.func263 rfl (by kernel_rfl) ?_;refine jf [0] 0 (akq _) (s':=⟨34,[(0,(.d (.sl (du v1))))],[]⟩) (by kernel_rfl) ?_;refine bH ?_;refine rg [] [] [] (by kernel_rfl) ?_;refine bH ?_;refine rg [] [(3,(.d (.v (.slice none 0 0))))] [] (by kernel_rfl) ?_;refine bH ?_;refine bH ?_;refine rg [] [(4,(aw (0:Int)))] [] (by kernel_rfl) ?_;refine gO ?_;refine HJ 3 9 1 (by kernel_rfl) ?_;refine yM 0 (du v1) (by kernel_rfl) fun h1=> ?_;have h2:=Kx eV h1;refine CA [0,3,4] 1 [] [] (fun((v2,v3,v6,v7):Nat×(ak3 aF)×Nat×(ak3 ak4))=>⟨34,[(0,(.d (.sl (du v1)))),(3,(.vec 0 0 v6 v6 1)),(4,(aw (v2:Int)))],(AB v7 [])⟩) (fun((v2,v3,v6,v7):Nat×(ak3 aF)×Nat×(ak3 ak4))=>v1.drop v2=v3∧pH N v3 v2 v6 v7=some r) (fun((v2,v3,v6,v7):Nat×(ak3 aF)×Nat×(ak3 ak4))=>v3.length) (0,v1,0,[]) (akn rfl) ⟨(iL (xs:=(([]:ak3 ak4).map cG)) vmN),by kernel_rfl⟩ ⟨rfl,hF⟩ ?_;rintro⟨v2,v3,v6,v7⟩ ⟨h3,hF⟩;cases v3 with
 |nil=>
  rw[pH]at hF;refine bH ?_;refine bH ?_;refine rg [(7,oL v1 eV)] [(9,(aB (decide ((v2:Int)<(v1.length:Int)))))] (AB v7 []) (by kernel_rfl) ?_;refine jZ (t:=(decide ((v2:Int)<(v1.length:Int)))) (by kernel_rfl) (cM h3) ?_;refine pC (lF (lF (sf rfl ?_)));refine cA ?_;refine bH ?_;refine rg [] [(2,(.vec 0 0 v6 v6 1))] (AB v7 []) (by kernel_rfl) ?_;have h4:=jD hF;replace hF:=(eI h4).symm.trans hF;refine ac1 [2] 0 (v7.map cG) (gx v7) (L:=v6) (AB v7 []) 1 rfl (yq (fun _=>rfl) _) (yt (akt h4)) (ru _) (by kernel_rfl) (.jm .nil) ?_;refine B8 (s':=⟨34,[(2,(.d (.sl (gx v7))))],[.gone]⟩) (by kernel_rfl) ?_;refine dU ?_;have hr:=aky hF;subst hr;exact jV (by kernel_rfl)
 |cons v4 v5=>
  rw[pH]at hF;refine bH ?_;refine bH ?_;refine rg [(7,oL v1 eV)] [(9,(aB (decide ((v2:Int)<(v1.length:Int)))))] (AB v7 []) (by kernel_rfl) ?_;refine kp (t:=(decide ((v2:Int)<(v1.length:Int)))) (by kernel_rfl) (cF h3) ?_;refine fM ?_;refine cA ?_;refine bH ?_;refine gO ?_;refine bH ?_;refine rg [] [(5,(aw (0:Int)))] (AB v7 []) (by kernel_rfl) ?_;refine gO ?_;refine yM 0 (du v1) (by kernel_rfl) fun h5=> ?_;have h6:v4.xL.length≤maxLen:=by rw[←dg];exact xq (On (j:=1) (d:= .sl (b5 v4.xL)) h5 (mR (cd h3)) rfl)
  refine CA [0,3,4,5] 1 [] [] (fun((v8,v9,v12,aX):Nat×(ak3 aU)×Nat×(ak3 ak4))=>⟨34,[(0,(.d (.sl (du v1)))),(3,(.vec 0 0 v12 v12 1)),(4,(aw (v2:Int))),(5,(aw (v8:Int)))],(EJ aX [])⟩) (fun((v8,v9,v12,aX):Nat×(ak3 aU)×Nat×(ak3 ak4))=>v4.xL.drop v8=v9∧xc N (fun cX fX=>pH N v5 (v2+1) cX fX) v9 v8 v12 aX=some r) (fun((v8,v9,v12,aX):Nat×(ak3 aU)×Nat×(ak3 ak4))=>v9.length) (0,v4.xL,v6,v7) (akn rfl) ⟨(iL (xs:=(v7.map cG)) vmN),by kernel_rfl⟩ ⟨rfl,hF⟩ ?_;rintro⟨v8,v9,v12,aX⟩ ⟨h7,hF⟩;cases v9 with
  |nil=>
   rw[xc]at hF;refine bH ?_;refine bH ?_;refine rg [(10,oE (mR (cd h3))),(19,oL v4.xL dg)] [(19,(aB (decide ((v8:Int)<(v4.xL.length:Int)))))] (EJ aX []) (by kernel_rfl) ?_;refine jZ (t:=(decide ((v8:Int)<(v4.xL.length:Int)))) (by kernel_rfl) (cM h7) ?_;refine pC (lF (lF (sf rfl ?_)));refine ln ?_;refine cA ?_;refine re [(5,oq (dj h3 rfl h2))] [(4,(aw ((v2+1:Nat):Int))),(11,(aw ((v2+1:Nat):Int))),(10,(aw (v2:Int)))] (EJ aX []) (by kernel_rfl) ?_;refine cA ?_;exact⟨(v2+1,v5,v12,aX),⟨(iL (xs:=(aX.map cG)) vmN),by kernel_rfl⟩,⟨jN h3,hF⟩,ak1 _⟩
  |cons v10 v11=>
   rw[xc]at hF;refine bH ?_;refine bH ?_;refine rg [(10,oE (mR (cd h3))),(19,oL v4.xL dg)] [(19,(aB (decide ((v8:Int)<(v4.xL.length:Int)))))] (EJ aX []) (by kernel_rfl) ?_;refine kp (t:=(decide ((v8:Int)<(v4.xL.length:Int)))) (by kernel_rfl) (cF h7) ?_;refine fM ?_;refine cA ?_;refine bH ?_;refine gO ?_;obtain⟨bu,h8,hF⟩:=ao hF;refine re [(10,oE (mR (cd h3))),(22,oE (eQ (cd h7))),(31,oX (xE (xs:=(aX.map cG)) pf) (xE (xs:=(bu.2.map cG)) pf) [(.vec 0 0 v12 v12 1),(aS v10.aV)] (EJ aX []) [0] (ZM N v12 v10.aV aX bu h8))] [(3,(.vec 0 0 bu.1 bu.1 1)),(32,(.vec 0 0 bu.1 bu.1 1)),(31,(aS v10.aV)),(30,(.bE [uK v10] 0 0)),(29,(.bE [uK v10] 0 0)),(28,(aw (v8:Int))),(27,(.d (.sl (b5 v4.xL)))),(26,(.bE [iY v4] 0 1)),(25,(.bE [iY v4] 0 0)),(24,(aw (v2:Int))),(23,(.d (.sl (du v1)))),(22,(.vec 0 0 v12 v12 1))] [.vec 9 1 (bq (bu.2.map cG))] (by kernel_rfl) ?_;refine ln ?_;refine cA ?_;refine re [(5,oq (dj h7 rfl h6))] [(5,(aw ((v8+1:Nat):Int))),(21,(aw ((v8+1:Nat):Int))),(20,(aw (v8:Int)))] [.vec 9 1 (bq (bu.2.map cG))] (by kernel_rfl) ?_;refine cA ?_;exact⟨(v8+1,v11,bu.1,bu.2),⟨(iL (xs:=(bu.2.map cG)) vmN),by kernel_rfl⟩,⟨jN h7,hF⟩,ak1 _⟩
def vJ(N:Nat)(v2:ak4):ak3 aU→Nat→ak5 Int64
 |[],_=>
  some (0:Int64)
 |v5::v6,v3=>
  bif (bL v5.aV==bL v2)then
   some v5.cN
  else
   (vJ N v2 v6 (v3+1))
def Fu(N:Nat)(v1:aF)(v2:ak4):ak5 Int64:=
 vJ N v2 v1.xL 0
theorem VP(N:Nat)(v1:aF)(v2:ak4)(r:Int64)(hF:Fu N v1 v2=some r):aG Tryz.prog 264 [(b9 v1),(aS v2)] (·=(aI r)):=by
 rw[Fu]at hF;refine aR Tryz.func264 ?_;refine au af [[],[]] ?_;refine kh n7 0 1 v1.xL fun h2=> ?_;refine fJ af 1 [] [1,2,5] 1 v1.xL (fun v3=>⟨27,[(1,(aS v2)),(2,(.ptr 0 0)),(5,(aw (v3:Int)))],[.cells (b9 v1).cells]⟩) (vJ N v2) hF ?_ ?_
 ·intro v3 h3 hF f1;rw[vJ]at hF;cases hF;exact wr af [[(10,oL v1.xL dg)],[(0,bF (cM h3))],[]]
 intro v3 v5 v6 h3 hF f1 aO;rw[vJ]at hF;refine au af [[(10,oL v1.xL dg)],[(0,bT (cF h3))],[(10,oE (eQ (cd h3)))]] ?_;refine bc hF (fun h4 hF=> ?_) fun h4 hF=> ?_
 ·cases hF;exact wr af [[(0,bT h4)],[(10,oE (eQ (cd h3)))]]
 exact wb af aO () [[(0,bF h4)],[(5,oq (dj h3 rfl h2))]] h3 hF
def qN(N:Nat)(v6:Int64×Bool)(v1:aF)(v2:aF):ak3 ak4→Nat→(ak3 aU)→ak5 (aF×Int)
 |[],_,v12=>
  some ((⟨v6.1,v12⟩:aF),(0:Int))
 |v10::v11,v8,v12=>
  Option.bind (Fu N v1 v10) fun aX=>
  Option.bind (Fu N v2 v10) fun bu=>
  Option.bind (zM N aX bu) fun bN=>
  bif bN.2 then
   bif (bN.1.toInt !=(0:Int))then
    bif (Nat.ble ((v12.length+1)*24) 140737488355328)then
    (fun cX=>qN N v6 v1 v2 v11 (v8+1) cX) (v12++[(⟨v10,bN.1⟩:aU)])
    else none
   else
    (fun cX=>qN N v6 v1 v2 v11 (v8+1) cX) v12
  else
   some (bV,(3:Int))
def qo(N:Nat)(v1:aF)(v2:aF):ak5 (aF×Int):=
 Option.bind (xF N v1) fun v3=>
 Option.bind (bif (v3 !=(0:Int))then some true else Option.bind (xF N v2) fun v4=>
 some (v4 !=(0:Int))) fun v5=>
 bif v5 then
  some (bV,(1:Int))
 else
  Option.bind (zM N v1.xK v2.xK) fun v6=>
  bif v6.2 then
   Option.bind (Cm N ([v1,v2])) fun v7=>
   qN N v6 v1 v2 v7 0 []
  else
   some (bV,(3:Int))
theorem R5(N:Nat)(v1:aF)(v2:aF)(r:aF×Int)(hF:qo N v1 v2=some r):aG Tryz.prog 202 [(b9 v1),(b9 v2)] (·=(.bk [(b9 r.1),(aw r.2)])):=by
 rw[qo]at hF;refine aR Tryz.func202 ?_;refine au af [[]] ?_;obtain⟨v3,h1,hF⟩:=ao hF;obtain⟨v5,h4,hF⟩:=ao hF;refine bf af [(20,(aB v5))] [.cells (b9 v1).cells, .cells (b9 v2).cells, .cells sQ] ?_ ?_
 ·refine bc h4 (fun h2 h4=> ?_) fun h2 h4=> ?_
  ·cases h4;exact⟨[(3,bT h2)],[(4,cL (II N v1 v3 h1))],by kernel_rfl⟩
  obtain⟨v4,h3,h4⟩:=ao h4;cases h4;exact⟨[(3,bF h2)],[(4,cL (II N v1 v3 h1)),(16,cL (II N v2 v4 h3))],by kernel_rfl⟩
 refine bc hF (fun h5 hF=> ?_) fun h5 hF=> ?_
 ·cases hF;exact wr af [[(0,bT h5)],[]]
 obtain⟨v6,h6,hF⟩:=ao hF;refine au af [[(0,bF h5)],[(13,cL (TP N v1.xK v2.xK v6 h6))],[]] ?_;refine bc hF (fun h7 hF=> ?_) fun h7 hF=> ?_
 ·obtain⟨v7,h8,hF⟩:=ao hF;refine au af [[(0,bF (bG h7))],[],[(10,cL (ain N ([v1,v2]) v7 h8))],[]] ?_;refine Ki 3 1 114 2 [] (.inr (by kernel_rfl)) ?_;refine fP M8 9 v7 fun az=> ?_;refine pP af 1 [] [2,3,4,8,9,10] 5 [] [(2,1)] (fun((v8,v9,v12):Nat×(ak3 ak4)×(ak3 aU))=>⟨78,[(2,(.ptr 0 0)),(3,(.ptr 1 0)),(4,(.ptr 2 0)),(8,(.ptr 3 0)),(9,(.d (.sl (gx v7)))),(10,(aw (v8:Int)))],[.cells (b9 v1).cells, .cells (b9 v2).cells, .cells sQ, .cells [(aI v6.1),(.own 4 (b5 v12))], .front 114 2 v12.length]⟩) (fun((v8,v9,v12):Nat×(ak3 ak4)×(ak3 aU))=>v7.drop v8=v9∧qN N v6 v1 v2 v9 v8 v12=some r) (fun((v8,v9,v12):Nat×(ak3 ak4)×(ak3 aU))=>v9.length) (0,v7,[]) ⟨rfl,hF⟩ ?_;rintro⟨v8,v9,v12⟩ ⟨aE,hF⟩ f1 aO;cases v9 with
  |nil=>
   rw[qN]at hF;cases hF;exact wr af [[(7,oL v7 AH)],[(0,bF (cM aE))],[]]
  |cons v10 v11=>
   rw[qN]at hF;obtain⟨aX,aK,hF⟩:=ao hF;obtain⟨bu,aY,hF⟩:=ao hF;obtain⟨bN,aJ,hF⟩:=ao hF;refine au af [[(7,oL v7 AH)],[(0,bT (cF aE))],[(10,oE (EH (cd aE))),(16,cL (VP N v1 v10 aX aK)),(28,oE (EH (cd aE))),(34,cL (VP N v2 v10 bu aY)),(37,cL (TP N aX bu bN aJ))],[]] ?_;refine bc hF (fun bp hF=> ?_) fun bp hF=> ?_
   ·refine au af [[(0,bF (bG bp))],[]] ?_;refine bc hF (fun aL hF=> ?_) fun aL hF=> ?_
    ·obtain⟨bn,hF⟩:=dp hF;exact ni af aO (v8+1,v11,(v12++[(⟨v10,bN.1⟩:aU)])) [[(0,bT aL)],[(13,oE (EH (cd aE))),(28,oA n7 v12 ([(⟨v10,bN.1⟩:aU)]) bn)],[(5,oq (dj aE rfl az))]] ⟨jN aE,hF⟩
    exact ni af aO (v8+1,v11,v12) [[(0,bF aL)],[(5,oq (dj aE rfl az))]] ⟨jN aE,hF⟩
   cases hF;exact wr af [[(0,bT (bS bp))],[]]
 cases hF;exact wr af [[(0,bT (bS h7))],[]]
def sr(N:Nat)(v1:aF)(v2:aF):ak5 (aF×Bool):=
 Option.bind (rF N v2 (-1:Int64)) fun v3=>
 bif (v3.2 !=(0:Int))then
  some (bV,false)
 else
  Option.bind (qo N v1 v3.1) fun v4=>
  some (v4.1,(v4.2==(0:Int)))
theorem Vj(N:Nat)(v1:aF)(v2:aF)(r:aF×Bool)(hF:sr N v1 v2=some r):aG Tryz.prog 203 [(b9 v1),(b9 v2)] (·=(.bk [(b9 r.1),(aB r.2)])):=by
 rw[sr]at hF;refine aR Tryz.func203 ?_;obtain⟨v3,h1,hF⟩:=ao hF;refine au af [[],[(4,cL (MM N v2 (-1:Int64) v3 h1))],[]] ?_;refine bc hF (fun h2 hF=> ?_) fun h2 hF=> ?_
 ·cases hF;exact wr af [[(0,bT h2)],[]]
 obtain⟨v4,h3,hF⟩:=ao hF;cases hF;exact wr af [[(0,bF h2)],[(7,cL (R5 N v1 v3.1 v4 h3))],[]]
end Go.Proofs.YtpgmcallngdceaaGreatDoor
