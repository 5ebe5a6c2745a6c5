/-
  Part 12 of the proof: PQ3.
-/
import Derived.Test.YtpgmcallngdceaaGreatDoorSe11
namespace Go.Proofs.YtpgmcallngdceaaGreatDoor
open Go.RowKit
set_option maxRecDepth 100000
set_option maxHeartbeats 0
set_option linter.unusedVariables false
def EC:dW:=⟨ca,false⟩
def qv:ak3 AV:=[(aw (0:Int)),(aw (0:Int)),(aw (0:Int)),(aw (0:Int)),(aw (0:Int)),(aB false)]
def sQ:ak3 AV:=[(aI (0:Int64)),(.d (.v (.slice none 0 0)))]
def Bg(N:Nat)(v1:aC)(v2:ay):ak5 (ay×Int):=
 Option.bind (qU N v1) fun v3=>
 bif (v3 !=(0:Int))then
  some (bg,v3)
 else
  Option.bind (Ij N v2 v1.xFrac v1.bK) fun v4=>
  Option.bind (bif (v4.2 !=(0:Int))then some true else Option.bind (im N v2) fun v5=>
  some (!v5)) fun v6=>
  bif v6 then
   some (bg,(1:Int))
  else
   Option.bind (lK N v1 v4.1) fun v7=>
   some (v7,(0:Int))
theorem ah3(N:Nat)(v1:aC)(v2:ay)(r:ay×Int)(hF:Bg N v1 v2=some r):aG Tryz.prog 221 [(bY v1),(bj v2)] (·=(.bk [(bj r.1),(aw r.2)])):=by
 rw[Bg]at hF;refine aR Tryz.func221 ?_;obtain⟨v3,h1,hF⟩:=ao hF;refine au af [[],[(4,cL (vN N v1 v3 h1))],[]] ?_;refine bc hF (fun h2 hF=> ?_) fun h2 hF=> ?_
 ·cases hF;exact wr af [[(0,bT h2)],[]]
 obtain⟨v4,h3,hF⟩:=ao hF;refine au af [[(0,bF h2)],[(16,cL (ac6 N v2 v1.xFrac v1.bK v4 h3))]] ?_;obtain⟨v6,h6,hF⟩:=ao hF;refine bf af [(30,(aB v6))] [.cells (bY v1).cells, .cells (bj v2).cells, .cells fA] ?_ ?_
 ·refine bc h6 (fun h4 h6=> ?_) fun h4 h6=> ?_
  ·cases h6;exact⟨[(2,bT h4)],[],by kernel_rfl⟩
  obtain⟨v5,h5,h6⟩:=ao h6;cases h6;exact⟨[(2,bF h4)],[(13,cL (gF N v2 v5 h5))],by kernel_rfl⟩
 refine bc hF (fun h7 hF=> ?_) fun h7 hF=> ?_
 ·cases hF;exact wr af [[(0,bT h7)],[]]
 obtain⟨v7,h8,hF⟩:=ao hF;cases hF;exact wr af [[(0,bF h7)],[(7,cL (yp N v1 v4.1 v7 h8))]]
def Bb(N:Nat)(v1:aC)(v2:aC)(v3:ay):ak5 (ay×Int):=
 Option.bind (l7 N v1) fun v4=>
 Option.bind (bif (v4 !=(0:Int))then some true else Option.bind (l7 N v2) fun v5=>
 some (v5 !=(0:Int))) fun v6=>
 bif v6 then
  some (bg,(10:Int))
 else
  Option.bind (mK N v1 v3) fun v7=>
  bif v7 then
   Option.bind (Cj N v1 v3) fun v8=>
   bif (v2.a8==(3:Int))then
    Option.bind (AN N v8) fun v9=>
    some ((⟨v9,(1:Int64)⟩:ay),(0:Int))
   else
    bif (v2.a8==(2:Int))then
     Option.bind (Bg N v2 v8) fun v10=>
     some (v10.1,v10.2)
    else
     some (v8,(0:Int))
  else
   some (bg,(1:Int))
theorem ZR(N:Nat)(v1:aC)(v2:aC)(v3:ay)(r:ay×Int)(hF:Bb N v1 v2 v3=some r):aG Tryz.prog 143 [(bY v1),(bY v2),(bj v3)] (·=(.bk [(bj r.1),(aw r.2)])):=by
 rw[Bb]at hF;refine aR Tryz.func143 ?_;refine au af [[]] ?_;obtain⟨v4,h1,hF⟩:=ao hF;obtain⟨v6,h4,hF⟩:=ao hF;refine bf af [(9,(aB v6))] [.cells (bY v1).cells, .cells (bY v2).cells, .cells (bj v3).cells, .cells fA] ?_ ?_
 ·refine bc h4 (fun h2 h4=> ?_) fun h2 h4=> ?_
  ·cases h4;exact⟨[(3,bT h2)],[(4,cL (nx N v1 v4 h1))],by kernel_rfl⟩
  obtain⟨v5,h3,h4⟩:=ao h4;cases h4;exact⟨[(3,bF h2)],[(4,cL (nx N v1 v4 h1)),(16,cL (nx N v2 v5 h3))],by kernel_rfl⟩
 refine bc hF (fun h5 hF=> ?_) fun h5 hF=> ?_
 ·cases hF;exact wr af [[(0,bT h5)],[]]
 obtain⟨v7,h6,hF⟩:=ao hF;refine au af [[(0,bF h5)],[(7,cL (qe N v1 v3 v7 h6))]] ?_;refine bc hF (fun h7 hF=> ?_) fun h7 hF=> ?_
 ·obtain⟨v8,h8,hF⟩:=ao hF;refine au af [[(0,bF (bG h7))],[(7,cL (adA N v1 v3 v8 h8))],[],[]] ?_;refine bc hF (fun h9 hF=> ?_) fun h9 hF=> ?_
  ·obtain⟨v9,az,hF⟩:=ao hF;cases hF;exact wr af [[(0,bT h9)],[(4,cL (ahw N v8 v9 az))]]
  refine au af [[(0,bF h9)],[]] ?_;refine bc hF (fun aE hF=> ?_) fun aE hF=> ?_
  ·obtain⟨v10,aK,hF⟩:=ao hF;cases hF;exact wr af [[(0,bT aE)],[(7,cL (ah3 N v2 v8 v10 aK))]]
  cases hF;exact wr af [[(0,bF aE)],[]]
 cases hF;exact wr af [[(0,bT (bS h7))],[]]
def sm(N:Nat)(v1:dW)(v2:dW):ak5 dW:=
 bif v1.dn then
  some v1
 else
  some v2
theorem Q2(N:Nat)(v1:dW)(v2:dW)(r:dW)(hF:sm N v1 v2=some r):aG Tryz.prog 117 [(kK v1),(kK v2)] (·=(kK r)):=by
 rw[sm]at hF;refine aR Tryz.func117 ?_;refine au af [[],[]] ?_;refine bc hF (fun h1 hF=> ?_) fun h1 hF=> ?_
 ·cases hF;exact wr af [[(0,bT h1)],[]]
 cases hF;exact wr af [[(0,bF h1)],[]]
def sx(N:Nat)(v1:an)(mE:an→ak5 dW)(v10:Bool):ak5 dW:=
 bif v10 then
  Option.bind (v1.ax[0]?) fun v11=>
  Option.bind (mE v11) fun v12=>
  Option.bind (v1.ax[1]?) fun aX=>
  Option.bind (mE aX) fun bu=>
  Option.bind (sm N v12 bu) fun bN=>
  some bN
 else
  some EC
def HR(N:Nat)(v1:an)(mE:an→ak5 dW)(v2:Bool):ak5 dW:=
 bif v2 then
  some (⟨v1.aD,true⟩:dW)
 else
  bif (v1.ar==(2:Int))then
   some (⟨(⟨(3:Int),(0:Int),(0:Int),(0:Int),(0:Int)⟩:aC),true⟩:dW)
  else
   bif (v1.ar==(8:Int))then
    Option.bind (v1.ax[0]?) fun v3=>
    Option.bind (mE v3) fun v4=>
    some v4
   else
    bif (v1.ar==(11:Int))then
     Option.bind (v1.ax[1]?) fun v5=>
     Option.bind (mE v5) fun v6=>
     Option.bind (bif v6.dn then Option.bind (v1.ax[2]?) fun v7=>
     Option.bind (mE v7) fun v8=>
     some (((v6.yT.a8==v8.yT.a8)&&((v6.yT.bz==v8.yT.bz)&&((v6.yT.xFrac==v8.yT.xFrac)&&((v6.yT.bK==v8.yT.bK)&&((v6.yT.bM==v8.yT.bM)&&true)))))&&((v6.dn==v8.dn)&&true))else some false) fun v9=>
     bif v9 then
      some v6
     else
      some EC
    else
     bif (v1.ar==(4:Int))then
      sx N v1 mE (v1.ar==(4:Int))
     else
      bif (v1.ar==(5:Int))then
       sx N v1 mE (v1.ar==(5:Int))
      else
       bif (v1.ar==(6:Int))then
        sx N v1 mE (v1.ar==(6:Int))
       else
        bif (v1.ar==(7:Int))then
         sx N v1 mE (v1.ar==(7:Int))
        else
         bif (v1.ar==(9:Int))then
          sx N v1 mE (v1.ar==(9:Int))
         else
          sx N v1 mE (v1.ar==(10:Int))
def j7(N:Nat):Nat→an→ak5 dW
 |0,_=>none
 |d+1,v1=>
  bif (v1.ar==(1:Int))then
   HR N v1 (j7 N d) (v1.ar==(1:Int))
  else
   HR N v1 (j7 N d) (v1.ar==(12:Int))
def pA(N:Nat)(v1:an):ak5 dW:=j7 N N v1
def Oy(v1:an)(l:ak3 aq):ak3 aq:= .cells (aA v1).cells:: .cells qv::l
theorem ahD(N:Nat):∀d:Nat,(∀(v1:an)(r:dW),j7 N d v1=some r→aG Tryz.prog 116 [(aA v1)] (·=(kK r))):=by
 intro d
 induction d with
 |zero=>intro v1 r hF;rw[j7]at hF;cases hF
 |succ d ih=>
  have FQ:=ih;intro v1 r hF;rw[j7]at hF;refine aR Tryz.func116 ?_;refine gY af r 1 [[],[],[]] [1,2,5,6] 2 (fun(v2:Bool)=>⟨61,[(1,(.ptr 0 0)),(2,(.ptr 1 0)),(5,(aw v1.ar)),(6,(aB v2))],(Oy v1 [])⟩) (HR N v1 (j7 N d)) ?_ ?_
  ·intro f1 aO;refine bc hF (fun eR hF=> ?_) fun eR hF=> ?_
   ·exact bP af aO (v1.ar==(1:Int)) [[(0,bT eR)]] hF
   exact bP af aO (v1.ar==(12:Int)) [[(0,bF eR)],[]] hF
  intro v2 hF;rw[HR]at hF;refine bc hF (fun h1 hF=> ?_) fun h1 hF=> ?_
  ·cases hF;exact wr af [[(0,bT h1)],[]]
  refine au af [[(0,bF h1)],[]] ?_;refine bc hF (fun h2 hF=> ?_) fun h2 hF=> ?_
  ·cases hF;exact wr af [[(0,bT h2)],[]]
  refine au af [[(0,bF h2)],[]] ?_;refine bc hF (fun h3 hF=> ?_) fun h3 hF=> ?_
  ·obtain⟨v3,h4,hF⟩:=ao hF;obtain⟨v4,h5,hF⟩:=ao hF;obtain rfl:=sj hF;exact wr af [[(0,bT h3)],[(7,oE (k:=0) (bt h4)),(13,cL (FQ v3 v4 h5))]]
  refine au af [[(0,bF h3)],[]] ?_;refine bc hF (fun h6 hF=> ?_) fun h6 hF=> ?_
  ·obtain⟨v5,h7,hF⟩:=ao hF;obtain⟨v6,h8,hF⟩:=ao hF;refine au af [[(0,bT h6)],[(7,oE (k:=1) (bt h7)),(13,cL (FQ v5 v6 h8))]] ?_;obtain⟨v9,aK,hF⟩:=ao hF;refine bf af [(40,(aB v9))] (Oy v1 [.cells (kK v6).cells]) ?_ ?_
   ·refine bc aK (fun h9 aK=> ?_) fun h9 aK=> ?_
    ·obtain⟨v7,az,aK⟩:=ao aK;obtain⟨v8,aE,aK⟩:=ao aK;cases aK;exact⟨[(2,bT h9)],[(19,oE (k:=2) (bt az)),(25,cL (FQ v7 v8 aE))],by kernel_rfl⟩
    cases aK;exact⟨[(2,bF h9)],[],by kernel_rfl⟩
   refine bc hF (fun aY hF=> ?_) fun aY hF=> ?_
   ·cases hF;exact wr af [[(0,bT aY)],[]]
   cases hF;exact wr af [[(0,bF aY)],[]]
  refine gY af r 2 [[(0,bF h6)],[]] [1,2,42] 2 (fun(v10:Bool)=>⟨61,[(1,(.ptr 0 0)),(2,(.ptr 1 0)),(42,(aB v10))],(Oy v1 [])⟩) (sx N v1 (j7 N d)) ?_ ?_
  ·intro f2 eH;refine bc hF (fun bC hF=> ?_) fun bC hF=> ?_
   ·exact bP af eH (v1.ar==(4:Int)) [[(0,bT bC)]] hF
   refine au af [[(0,bF bC)],[]] ?_;refine bc hF (fun cl hF=> ?_) fun cl hF=> ?_
   ·exact bP af eH (v1.ar==(5:Int)) [[(0,bT cl)]] hF
   refine au af [[(0,bF cl)],[]] ?_;refine bc hF (fun bw hF=> ?_) fun bw hF=> ?_
   ·exact bP af eH (v1.ar==(6:Int)) [[(0,bT bw)]] hF
   refine au af [[(0,bF bw)],[]] ?_;refine bc hF (fun cT hF=> ?_) fun cT hF=> ?_
   ·exact bP af eH (v1.ar==(7:Int)) [[(0,bT cT)]] hF
   refine au af [[(0,bF cT)],[]] ?_;refine bc hF (fun cE hF=> ?_) fun cE hF=> ?_
   ·exact bP af eH (v1.ar==(9:Int)) [[(0,bT cE)]] hF
   exact bP af eH (v1.ar==(10:Int)) [[(0,bF cE)],[]] hF
  intro v10 hF;rw[sx]at hF;refine bc hF (fun aJ hF=> ?_) fun aJ hF=> ?_
  ·obtain⟨v11,bp,hF⟩:=ao hF;obtain⟨v12,aL,hF⟩:=ao hF;obtain⟨aX,bn,hF⟩:=ao hF;obtain⟨bu,aZ,hF⟩:=ao hF;obtain⟨bN,bU,hF⟩:=ao hF;obtain rfl:=sj hF;exact wr af [[(0,bT aJ)],[(7,oE (k:=0) (bt bp)),(13,cL (FQ v11 v12 aL)),(22,oE (k:=1) (bt bn)),(28,cL (FQ aX bu aZ)),(31,cL (Q2 N v12 bu bN bU))]]
  cases hF;exact wr af [[(0,bF aJ)],[]]
theorem JF(N:Nat)(v1:an)(r:dW)(hF:pA N v1=some r):aG Tryz.prog 116 [(aA v1)] (·=(kK r)):=(ahD N N) v1 r hF
def BU(N:Nat)(v1:cB):ak5 (an×Bool):=
 bif (v1.yE.ar !=(12:Int))then
  some (eo,false)
 else
  Option.bind (v1.yE.ax[0]?) fun v2=>
  bif (v2.ar==(1:Int))then
   Option.bind (Bb N v2.aD v1.yE.aD v2.ba) fun v3=>
   Option.bind (oK N v1.yE.aD v3.1) fun v4=>
   some (v4,(v3.2==(0:Int)))
  else
   Option.bind (pA N v2) fun v5=>
   Option.bind (bif v5.dn then some ((v5.yT.a8==v1.yE.aD.a8)&&((v5.yT.bz==v1.yE.aD.bz)&&((v5.yT.xFrac==v1.yE.aD.xFrac)&&((v5.yT.bK==v1.yE.aD.bK)&&((v5.yT.bM==v1.yE.aD.bM)&&true)))))else some false) fun v6=>
   some (v2,v6)
theorem aaA(N:Nat)(v1:cB)(r:an×Bool)(hF:BU N v1=some r):aG Tryz.prog 106 [(bI v1)] (·=(.bk [(aA r.1),(aB r.2)])):=by
 rw[BU]at hF;refine aR Tryz.func106 ?_;refine au af [[],[]] ?_;refine bc hF (fun h1 hF=> ?_) fun h1 hF=> ?_
 ·cases hF;exact wr af [[(0,bT h1)],[]]
 obtain⟨v2,h2,hF⟩:=ao hF;refine au af [[(0,bF h1)],[(10,oE (k:=0) (bt h2))],[]] ?_;refine bc hF (fun h3 hF=> ?_) fun h3 hF=> ?_
 ·obtain⟨v3,h4,hF⟩:=ao hF;obtain⟨v4,h5,hF⟩:=ao hF;cases hF;exact wr af [[(0,bT h3)],[(22,cL (ZR N v2.aD v1.yE.aD v2.ba v3 h4))],[(13,cL (se N v1.yE.aD v3.1 v4 h5))]]
 obtain⟨v5,h6,hF⟩:=ao hF;refine au af [[(0,bF h3)],[(4,cL (JF N v2 v5 h6))]] ?_;obtain⟨v6,h8,hF⟩:=ao hF;refine Gt 5 af [(3,(aB v6))] [.cells (bI v1).cells, .cells (aA v2).cells, .cells (aA v2).cells, .cells (kK v5).cells] ?_ ?_
 ·refine bc h8 (fun h7 h8=> ?_) fun h7 h8=> ?_
  ·cases h8;exact⟨[(3,bT h7)],[],by kernel_rfl⟩
  cases h8;exact⟨[(3,bF h7)],[],by kernel_rfl⟩
 cases hF;exact wr af []
def I0(N:Nat)(v5:an×Bool)(v6:ak4)(v7:an):ak5 (Bool×ak4×Int×ak4×Int64×Int64×Int×Int×Int×Int×Int×Int64×(ak3 aU)×(ak3 aH)×(ak3 an)):=
 some (v5.2,v6,v7.ar,v7.aV,v7.ba.xN,v7.ba.xD,v7.aD.a8,v7.aD.bz,v7.aD.xFrac,v7.aD.bK,v7.aD.bM,v7.aM.xK,v7.aM.xL,v7.xIdx,v7.ax)
def Gs(N:Nat)(v1:cB)(v2:ak4)(v3:ak4)(v4:an):ak5 (Bool×ak4×Int×ak4×Int64×Int64×Int×Int×Int×Int×Int×Int64×(ak3 aU)×(ak3 aH)×(ak3 an)):=
 Option.bind (BU N v1) fun v5=>
 bif v5.2 then
  I0 N v5 v2 v5.1
 else
  I0 N v5 v3 v4
theorem oI(N:Nat)(v1:cB)(v2:ak4)(v3:ak4)(v4:an)(r:Bool×ak4×Int×ak4×Int64×Int64×Int×Int×Int×Int×Int×Int64×(ak3 aU)×(ak3 aH)×(ak3 an))(hF:Gs N v1 v2 v3 v4=some r):bQ Tryz.prog 104 [(bI v1),(.fn 106 []),(aS v2),(.ptr 0 0),(.ptr 1 0)] [.cells [(aS v3)], .cells (aA v4).cells] fun r1 h1=>r1=(aB r.1)∧h1=[.cells [(aS r.2.1)], .cells [(aw r.2.2.1),(aS r.2.2.2.1),(aI r.2.2.2.2.1),(aI r.2.2.2.2.2.1),(aw r.2.2.2.2.2.2.1),(aw r.2.2.2.2.2.2.2.1),(aw r.2.2.2.2.2.2.2.2.1),(aw r.2.2.2.2.2.2.2.2.2.1),(aw r.2.2.2.2.2.2.2.2.2.2.1),(aI r.2.2.2.2.2.2.2.2.2.2.2.1),(.d (.sl (b5 r.2.2.2.2.2.2.2.2.2.2.2.2.1))),(.d (.sl (cm r.2.2.2.2.2.2.2.2.2.2.2.2.2.1))),(.d (.sl (cq r.2.2.2.2.2.2.2.2.2.2.2.2.2.2)))]]:=by
 rw[Gs]at hF;refine eE 2 Tryz.func104 ?_;obtain⟨v5,h1,hF⟩:=ao hF;refine mc af r 1 [[],[(7,cL (aaA N v1 v5 h1))],[]] [12] 4 (fun(v6:ak4)(v7:an)=>⟨27,[(12,(aB v5.2))],[.cells [(aS v6)], .cells (aA v7).cells, .cells (bI v1).cells, .cells (aA v5.1).cells]⟩) (I0 N v5) ?_ ?_
 ·intro f1 aO;refine bc hF (fun h2 hF=> ?_) fun h2 hF=> ?_
  ·exact bP af aO (v2,v5.1) [[(0,bT h2)],[]] hF
  exact bP af aO (v3,v4) [[(0,bF h2)]] hF
 intro v6 v7 hF;rw[I0]at hF;cases hF;exact cK af [[]]
def HN(N:Nat)(v1:Int64):ak5 aF:=
 some (⟨v1,[]⟩:aF)
theorem ahC(N:Nat)(v1:Int64)(r:aF)(hF:HN N v1=some r):aG Tryz.prog 289 [(aI v1)] (·=(b9 r)):=by
 rw[HN]at hF;refine aR Tryz.func289 ?_;cases hF;exact wr af [[],[]]
def oh(N:Nat)(v1:an):ak5 (aF×Bool):=
 bif (v1.ar==(2:Int))then
  some (v1.aM,true)
 else
  Option.bind (bif (v1.ar==(1:Int))then some (v1.aD.a8==(3:Int))else some false) fun v2=>
  bif v2 then
   Option.bind (HN N v1.ba.xN) fun v3=>
   some (v3,true)
  else
   some (bV,false)
theorem H7(N:Nat)(v1:an)(r:aF×Bool)(hF:oh N v1=some r):aG Tryz.prog 239 [(aA v1)] (·=(.bk [(b9 r.1),(aB r.2)])):=by
 rw[oh]at hF;refine aR Tryz.func239 ?_;refine au af [[],[]] ?_;refine bc hF (fun h1 hF=> ?_) fun h1 hF=> ?_
 ·cases hF;exact wr af [[(0,bT h1)],[]]
 refine au af [[(0,bF h1)]] ?_;obtain⟨v2,h3,hF⟩:=ao hF;refine bf af [(10,(aB v2))] [.cells (aA v1).cells, .cells sQ] ?_ ?_
 ·refine bc h3 (fun h2 h3=> ?_) fun h2 h3=> ?_
  ·cases h3;exact⟨[(3,bT h2)],[],by kernel_rfl⟩
  cases h3;exact⟨[(3,bF h2)],[],by kernel_rfl⟩
 refine bc hF (fun h4 hF=> ?_) fun h4 hF=> ?_
 ·obtain⟨v3,h5,hF⟩:=ao hF;cases hF;exact wr af [[(0,bT h4)],[(10,cL (ahC N v1.ba.xN v3 h5))]]
 cases hF;exact wr af [[(0,bF h4)],[]]
def zU(N:Nat)(v1:Int64):ak5 Int:=
 bif (decide (v1.toInt<(0:Int)))then
  some (IntKind.u64.wrap (0-(IntKind.u64.wrap v1.toInt)))
 else
  some (IntKind.u64.wrap v1.toInt)
theorem VI(N:Nat)(v1:Int64)(r:Int)(hF:zU N v1=some r):aG Tryz.prog 212 [(aI v1)] (·=(.d (.v (.int .u64 r)))):=by
 rw[zU]at hF;refine aR Tryz.func212 ?_;refine au af [[],[]] ?_;refine bc hF (fun h1 hF=> ?_) fun h1 hF=> ?_
 ·cases hF;exact wr af [[(0,bT h1)],[]]
 cases hF;exact wr af [[(0,bF h1)],[]]
def Cd(N:Nat)(v1:Int)(v2:Int):ak5 (Int×Int):=
 some ((IntKind.u64.wrap ((IntKind.u64.wrap ((IntKind.u64.wrap (((v1).fdiv (2^(min ((32:Int)).toNat (IntKind.bits .u64))))*((v2).fdiv (2^(min ((32:Int)).toNat (IntKind.bits .u64))))))+(((IntKind.u64.wrap ((IntKind.u64.wrap (((v1).fdiv (2^(min ((32:Int)).toNat (IntKind.bits .u64))))*(IntKind.u64.wrap ((BitVec.ofInt (IntKind.bits .u64) v2&&&BitVec.ofInt (IntKind.bits .u64) (4294967295:Int)).toNat:Int))))+(((IntKind.u64.wrap ((IntKind.u64.wrap ((BitVec.ofInt (IntKind.bits .u64) v1&&&BitVec.ofInt (IntKind.bits .u64) (4294967295:Int)).toNat:Int))*(IntKind.u64.wrap ((BitVec.ofInt (IntKind.bits .u64) v2&&&BitVec.ofInt (IntKind.bits .u64) (4294967295:Int)).toNat:Int))))).fdiv (2^(min ((32:Int)).toNat (IntKind.bits .u64))))))).fdiv (2^(min ((32:Int)).toNat (IntKind.bits .u64))))))+(((IntKind.u64.wrap ((IntKind.u64.wrap ((IntKind.u64.wrap ((BitVec.ofInt (IntKind.bits .u64) v1&&&BitVec.ofInt (IntKind.bits .u64) (4294967295:Int)).toNat:Int))*((v2).fdiv (2^(min ((32:Int)).toNat (IntKind.bits .u64))))))+(IntKind.u64.wrap ((BitVec.ofInt (IntKind.bits .u64) (IntKind.u64.wrap ((IntKind.u64.wrap (((v1).fdiv (2^(min ((32:Int)).toNat (IntKind.bits .u64))))*(IntKind.u64.wrap ((BitVec.ofInt (IntKind.bits .u64) v2&&&BitVec.ofInt (IntKind.bits .u64) (4294967295:Int)).toNat:Int))))+(((IntKind.u64.wrap ((IntKind.u64.wrap ((BitVec.ofInt (IntKind.bits .u64) v1&&&BitVec.ofInt (IntKind.bits .u64) (4294967295:Int)).toNat:Int))*(IntKind.u64.wrap ((BitVec.ofInt (IntKind.bits .u64) v2&&&BitVec.ofInt (IntKind.bits .u64) (4294967295:Int)).toNat:Int))))).fdiv (2^(min ((32:Int)).toNat (IntKind.bits .u64))))))&&&BitVec.ofInt (IntKind.bits .u64) (4294967295:Int)).toNat:Int))))).fdiv (2^(min ((32:Int)).toNat (IntKind.bits .u64)))))),(IntKind.u64.wrap (v1*v2)))
theorem abO(N:Nat)(v1:Int)(v2:Int)(r:Int×Int)(hF:Cd N v1 v2=some r):aG Tryz.prog 215 [(.d (.v (.int .u64 v1))),(.d (.v (.int .u64 v2)))] (·=(.bk [(.d (.v (.int .u64 r.1))),(.d (.v (.int .u64 r.2)))])):=by
 rw[Cd]at hF;refine aR Tryz.func215 ?_;cases hF;exact wr af [[],[],[(4,⟨_,_, .nn (b:=(32:Int)) (by decide)⟩),(19,⟨_,_, .nn (b:=(32:Int)) (by decide)⟩)],[(10,⟨_,_, .nn (b:=(32:Int)) (by decide)⟩)],[(4,⟨_,_, .nn (b:=(32:Int)) (by decide)⟩),(10,⟨_,_, .nn (b:=(32:Int)) (by decide)⟩),(19,⟨_,_, .nn (b:=(32:Int)) (by decide)⟩),(28,⟨_,_, .nn (b:=(32:Int)) (by decide)⟩)]]
def z8(N:Nat)(v1:Int64)(v2:Int64):ak5 (Int64×Bool):=
 Option.bind (zU N v1) fun v3=>
 Option.bind (zU N v2) fun v4=>
 Option.bind (Cd N v3 v4) fun v5=>
 Option.bind (bif (v5.1 !=(0:Int))then some true else(bif (decide (v5.2>(9223372036854775808:Int)))then some true else(bif (v5.2==(9223372036854775808:Int))then some (!(!((decide (v1.toInt<(0:Int)))==(decide (v2.toInt<(0:Int))))))else some false))) fun v6=>
 bif v6 then
  some ((0:Int64),false)
 else
  bif ((decide (v1.toInt<(0:Int)))==(decide (v2.toInt<(0:Int))))then
   some ((Int64.ofInt v5.2),true)
  else
   some ((Int64.ofInt (IntKind.u64.wrap (0-v5.2))),true)
theorem RY(N:Nat)(v1:Int64)(v2:Int64)(r:Int64×Bool)(hF:z8 N v1 v2=some r):aG Tryz.prog 242 [(aI v1),(aI v2)] (·=(.bk [(aI r.1),(aB r.2)])):=by
 rw[z8]at hF;refine aR Tryz.func242 ?_;obtain⟨v3,h1,hF⟩:=ao hF;obtain⟨v4,h2,hF⟩:=ao hF;obtain⟨v5,h3,hF⟩:=ao hF;refine au af [[],[(4,cL (VI N v1 v3 h1)),(10,cL (VI N v2 v4 h2)),(13,cL (abO N v3 v4 v5 h3))],[]] ?_;obtain⟨v6,h7,hF⟩:=ao hF;refine bf af [(22,(aB v6))] [] ?_ ?_
 ·refine bc h7 (fun h4 h7=> ?_) fun h4 h7=> ?_
  ·cases h7;exact⟨[(2,bT h4),(6,bT rfl),(9,uN)],[],by kernel_rfl⟩
  refine bc h7 (fun h5 h7=> ?_) fun h5 h7=> ?_
  ·cases h7;exact⟨[(2,bF h4),(6,bT h5),(9,uN)],[],by kernel_rfl⟩
  refine bc h7 (fun h6 h7=> ?_) fun h6 h7=> ?_
  ·cases h7;exact⟨[(2,bF h4),(6,bF h5),(9,bT h6)],[(37,bT h6)],by kernel_rfl⟩
  cases h7;exact⟨[(2,bF h4),(6,bF h5),(9,bF h6)],[(37,bF h6)],by kernel_rfl⟩
 refine bc hF (fun h8 hF=> ?_) fun h8 hF=> ?_
 ·cases hF;exact wr af [[(0,bT h8)],[]]
 refine au af [[(0,bF h8)],[]] ?_;refine bc hF (fun h9 hF=> ?_) fun h9 hF=> ?_
 ·cases hF;exact wr af [[(0,bF (bG h9))],[(5,⟨_,_, .eq (eP v5.2)⟩)]]
 cases hF;exact wr af [[(0,bT (bS h9))],[(8,⟨_,_, .eq (eP (IntKind.u64.wrap (0-v5.2)))⟩)]]
def s5(N:Nat)(v4:Int64×Bool)(v2:Int64):ak3 aU→Nat→Bool→(ak3 aU)→ak5 (aF×Int)
 |[],_,v9,v10=>
  bif v9 then
   some ((⟨v4.1,v10⟩:aF),(0:Int))
  else
   some (bV,(3:Int))
 |v7::v8,v5,v9,v10=>
  Option.bind (z8 N v7.cN v2) fun v11=>
  Option.bind (bif v9 then some v11.2 else some false) fun v12=>
  bif (Nat.ble ((v10.length+1)*24) 140737488355328)then
  (fun cX fX=>s5 N v4 v2 v8 (v5+1) cX fX) v12 (v10++[(⟨v7.aV,v11.1⟩:aU)])
  else none
def rD(N:Nat)(v1:aF)(v2:Int64):ak5 (aF×Int):=
 Option.bind (vf N v1) fun v3=>
 bif (v3 !=(0:Int))then
  some (bV,(1:Int))
 else
  bif (v2.toInt==(0:Int))then
   some (bV,(0:Int))
  else
   Option.bind (z8 N v1.xK v2) fun v4=>
   s5 N v4 v2 v1.xL 0 v4.2 []
theorem L0(N:Nat)(v1:aF)(v2:Int64)(r:aF×Int)(hF:rD N v1 v2=some r):aG Tryz.prog 182 [(b9 v1),(aI v2)] (·=(.bk [(b9 r.1),(aw r.2)])):=by
 rw[rD]at hF;refine aR Tryz.func182 ?_;obtain⟨v3,h1,hF⟩:=ao hF;refine au af [[],[(4,cL (Cq N v1 v3 h1))]] ?_;refine bc hF (fun h2 hF=> ?_) fun h2 hF=> ?_
 ·cases hF;exact wr af [[(0,bT h2)],[]]
 refine au af [[(0,bF h2)],[]] ?_;refine bc hF (fun h3 hF=> ?_) fun h3 hF=> ?_
 ·cases hF;exact wr af [[(0,bT h3)],[]]
 obtain⟨v4,h4,hF⟩:=ao hF;refine au af [[(0,bF h3)],[(10,cL (RY N v1.xK v2 v4 h4))],[],[(7,oL v1.xL dg)]] ?_;refine Ki 2 1 114 2 [] (.inr (by kernel_rfl)) ?_;refine fP n7 30 v1.xL fun h6=> ?_;refine pP af 1 [] [1,4,7,8,30,31,32] 4 [] [(1,1)] (fun((v5,v6,v9,v10):Nat×(ak3 aU)×Bool×(ak3 aU))=>⟨61,[(1,(aI v2)),(4,(.ptr 1 0)),(7,(aB v9)),(8,(.ptr 2 0)),(30,(.d (.sl (b5 v1.xL)))),(31,(aw (v1.xL.length:Int))),(32,(aw (v5:Int)))],[.cells (b9 v1).cells, .cells sQ, .cells [(aI v4.1),(.own 3 (b5 v10))], .front 114 2 v10.length]⟩) (fun((v5,v6,v9,v10):Nat×(ak3 aU)×Bool×(ak3 aU))=>v1.xL.drop v5=v6∧s5 N v4 v2 v6 v5 v9 v10=some r) (fun((v5,v6,v9,v10):Nat×(ak3 aU)×Bool×(ak3 aU))=>v6.length) (0,v1.xL,v4.2,[]) ⟨rfl,hF⟩ ?_;rintro⟨v5,v6,v9,v10⟩ ⟨h7,hF⟩ f1 aO;cases v6 with
 |nil=>
  rw[s5]at hF;refine au af [[],[(0,bF (cM h7))],[]] ?_;refine bc hF (fun h8 hF=> ?_) fun h8 hF=> ?_
  ·cases hF;exact wr af [[(0,bF (bG h8))],[]]
  cases hF;exact wr af [[(0,bT (bS h8))],[]]
 |cons v7 v8=>
  rw[s5]at hF;obtain⟨v11,h9,hF⟩:=ao hF;refine au af [[],[(0,bT (cF h7))],[(1,oE (eQ (cd h7)))],[(10,cL (RY N v7.cN v2 v11 h9))]] ?_;obtain⟨v12,aE,hF⟩:=ao hF;refine bf af [(7,(aB v12))] [.cells (b9 v1).cells, .cells sQ, .cells [(aI v4.1),(.own 3 (b5 v10))], .front 114 2 v10.length, .cells (Hp v7).cells] ?_ ?_
  ·refine bc aE (fun az aE=> ?_) fun az aE=> ?_
   ·cases aE;exact⟨[(1,bT az)],[],by kernel_rfl⟩
   cases aE;exact⟨[(1,bF az)],[],by kernel_rfl⟩
  obtain⟨aK,hF⟩:=dp hF;exact ni af aO (v5+1,v8,v12,(v10++[(⟨v7.aV,v11.1⟩:aU)])) [[(22,oA n7 v10 ([(⟨v7.aV,v11.1⟩:aU)]) aK)],[(2,oq (dj h7 rfl h6))]] ⟨jN h7,hF⟩
def A4(N:Nat)(v1:Int64)(v2:Int64):ak5 (Int64×Bool):=
 some ((v1+v2),((decide ((v1+v2).toInt>v1.toInt))==(decide (v2.toInt>(0:Int)))))
theorem Xg(N:Nat)(v1:Int64)(v2:Int64)(r:Int64×Bool)(hF:A4 N v1 v2=some r):aG Tryz.prog 290 [(aI v1),(aI v2)] (·=(.bk [(aI r.1),(aB r.2)])):=by
 rw[A4]at hF;refine aR Tryz.func290 ?_;cases hF;exact wr af [[],[(8,⟨_,_, .eq (lA v1 v2)⟩)],[]]
def vR(N:Nat)(v1:ak4)(v2:Int64)(v3:Int64)(v4:Bool)(v5:Int64)(v6:ak3 aU):ak5 (Bool×(ak3 aU)):=
 Option.bind (A4 N v2 v3) fun v7=>
 Option.bind (bif v4 then some v7.2 else some false) fun v8=>
 bif (v7.1.toInt !=(0:Int))then
  bif (Nat.ble ((v6.length+1)*24) 140737488355328)then
  some (v8,(v6++[(⟨v1,v7.1⟩:aU)]))
  else none
 else
  some (v8,v6)
theorem O3(N:Nat)(v1:ak4)(v2:Int64)(v3:Int64)(v4:Bool)(v5:Int64)(v6:ak3 aU)(r:Bool×(ak3 aU))(hF:vR N v1 v2 v3 v4 v5 v6=some r):bQ Tryz.prog 292 [(aS v1),(aI v2),(aI v3),(.ptr 0 0),(.ptr 1 0)] [.cells [(aB v4)], .cells [(aI v5),(.own 2 (b5 v6))], .front 114 2 v6.length] fun r1 h1=>r1=(.bk [])∧h1=[.cells [(aB r.1)], .cells [(aI v5),(.own 2 (b5 r.2))], .front 114 2 r.2.length]:=by
 rw[vR]at hF;refine eE 3 Tryz.func292 ?_;obtain⟨v7,h1,hF⟩:=ao hF;refine au af [[(7,cL (Xg N v2 v3 v7 h1))]] ?_;obtain⟨v8,h3,hF⟩:=ao hF;refine bf af [] [.cells [(aB v8)], .cells [(aI v5),(.own 2 (b5 v6))], .front 114 2 v6.length] ?_ ?_
 ·refine bc h3 (fun h2 h3=> ?_) fun h2 h3=> ?_
  ·cases h3;exact⟨[(1,bT h2)],[],by kernel_rfl⟩
  cases h3;exact⟨[(1,bF h2)],[],by kernel_rfl⟩
 refine au af [[]] ?_;refine bc hF (fun h4 hF=> ?_) fun h4 hF=> ?_
 ·obtain⟨h5,hF⟩:=dp hF;cases hF;exact cK af [[(0,bT h4)],[(19,oA n7 v6 ([(⟨v1,v7.1⟩:aU)]) h5)]]
 cases hF;exact cK af [[(0,bF h4)]]
def lq(N:Nat)(v4:Int64):Nat→(ak3 aU)→(ak3 aU)→Bool→(ak3 aU)→ak5 (Bool×(ak3 aU))
 |0,_,_,_,_=>none
 |v5+1,v6,v7,v8,v9=>
  Option.bind (bif (decide ((v6.length:Int)>(0:Int)))then some true else some (decide ((v7.length:Int)>(0:Int)))) fun v10=>
  bif v10 then
   Option.bind (bif ((v7.length:Int)==(0:Int))then some true else(bif (decide ((v6.length:Int)>(0:Int)))then Option.bind (v6[0]?) fun v11=>
   Option.bind (v7[0]?) fun v12=>
   some (Op.bytesLess (bL v11.aV) (bL v12.aV))else some false)) fun aX=>
   bif aX then
    Option.bind (v6[0]?) fun bu=>
    Option.bind (vR N bu.aV bu.cN (0:Int64) v8 v4 v9) fun bN=>
    bif (decide (1≤v6.length))then
    (fun cX fX vM xv=>lq N v4 v5 cX fX vM xv) (v6.drop 1) v7 bN.1 bN.2
    else none
   else
    Option.bind (bif ((v6.length:Int)==(0:Int))then some true else Option.bind (v7[0]?) fun dh=>
    Option.bind (v6[0]?) fun bX=>
    some (Op.bytesLess (bL dh.aV) (bL bX.aV))) fun bx=>
    bif bx then
     Option.bind (v7[0]?) fun cC=>
     Option.bind (vR N cC.aV (0:Int64) cC.cN v8 v4 v9) fun v20=>
     bif (decide (1≤v7.length))then
     (fun cX fX vM xv=>lq N v4 v5 cX fX vM xv) v6 (v7.drop 1) v20.1 v20.2
     else none
    else
     Option.bind (v6[0]?) fun v21=>
     Option.bind (v7[0]?) fun fe=>
     Option.bind (vR N v21.aV v21.cN fe.cN v8 v4 v9) fun dx=>
     bif (decide (1≤v6.length))then
     bif (decide (1≤v7.length))then
     (fun cX fX vM xv=>lq N v4 v5 cX fX vM xv) (v6.drop 1) (v7.drop 1) dx.1 dx.2
     else none
     else none
  else
   some (v8,v9)
def Hx(N:Nat)(v1:ak3 aU)(v2:ak3 aU)(v3:Bool)(v4:Int64):ak5 (Bool×(ak3 aU)):=
 lq N v4 N v1 v2 v3 []
def vx(v8:Bool)(v4:Int64)(v9:ak3 aU)(l:ak3 aq):ak3 aq:= .cells [(aB v8)]:: .cells [(aI v4),(.own 2 (b5 v9))]:: .front 114 2 v9.length::l
theorem agB(N:Nat)(v1:ak3 aU)(v2:ak3 aU)(v3:Bool)(v4:Int64)(r:Bool×(ak3 aU))(hF:Hx N v1 v2 v3 v4=some r):bQ Tryz.prog 291 [(.d (.sl (b5 v1))),(.d (.sl (b5 v2))),(.fn 292 [(.ptr 0 0),(.ptr 1 0)])] [.cells [(aB v3)], .cells [(aI v4),(.d (.v (.slice none 0 0)))]] fun r1 h1=>r1=(.bk [])∧h1=[.cells [(aB r.1)], .cells [(aI v4),(.own 2 (b5 r.2))], .front 114 2 r.2.length]:=by
 rw[Hx]at hF;refine eE 3 Tryz.func291 ?_;refine Ki 1 1 114 2 [] (.inr (by kernel_rfl)) ?_;refine Om af 1 [] [0,1,2] 3 (fun((v5,v6,v7,v8,v9):Nat×(ak3 aU)×(ak3 aU)×Bool×(ak3 aU))=>⟨91,[(0,(.d (.sl (b5 v6)))),(1,(.d (.sl (b5 v7)))),(2,(.fn 292 [(.ptr 0 0),(.ptr 1 0)]))],(vx v8 v4 v9 [])⟩) (fun((v5,v6,v7,v8,v9):Nat×(ak3 aU)×(ak3 aU)×Bool×(ak3 aU))=>lq N v4 v5 v6 v7 v8 v9=some r) (fun((v5,v6,v7,v8,v9):Nat×(ak3 aU)×(ak3 aU)×Bool×(ak3 aU))=>v5) (N,v1,v2,v3,[]) hF ?_;rintro⟨v5,v6,v7,v8,v9⟩ hF f1 aO
 try dsimp only at hF
 cases v5 with
 |zero=>
  rw[lq]at hF;cases hF
 |succ v5=>
  rw[lq]at hF;obtain⟨v10,h2,hF⟩:=ao hF;refine bf af [(13,(aB v10))] (vx v8 v4 v9 []) ?_ ?_
  ·refine bc h2 (fun h1 h2=> ?_) fun h1 h2=> ?_
   ·cases h2;exact⟨[(3,bT h1)],[(4,oL v6 dg)],by kernel_rfl⟩
   cases h2;exact⟨[(3,bF h1)],[(4,oL v6 dg),(16,oL v7 dg)],by kernel_rfl⟩
  refine bc hF (fun h3 hF=> ?_) fun h3 hF=> ?_
  ·refine au af [[(0,bT h3)]] ?_;obtain⟨aX,h8,hF⟩:=ao hF;refine bf af [(32,(aB aX))] (vx v8 v4 v9 []) ?_ ?_
   ·refine bc h8 (fun h4 h8=> ?_) fun h4 h8=> ?_
    ·cases h8;exact⟨[(3,bT h4),(7,uN)],[(4,oL v7 dg)],by kernel_rfl⟩
    refine bc h8 (fun h5 h8=> ?_) fun h5 h8=> ?_
    ·obtain⟨v11,h6,h8⟩:=ao h8;obtain⟨v12,h7,h8⟩:=ao h8;cases h8;exact⟨[(3,bF h4),(7,bT h5)],[(4,oL v7 dg),(16,oL v6 dg),(28,oE (k:=0) (eQ h6)),(40,oE (k:=0) (eQ h7)),(52,bT h5)],by kernel_rfl⟩
    cases h8;exact⟨[(3,bF h4),(7,bF h5)],[(4,oL v7 dg),(16,oL v6 dg),(52,bF h5)],by kernel_rfl⟩
   refine bc hF (fun h9 hF=> ?_) fun h9 hF=> ?_
   ·refine au af [[(0,bT h9)]] ?_;obtain⟨bu,az,hF⟩:=ao hF;obtain⟨bN,aE,hF⟩:=ao hF;refine K7 af [(7,oE (k:=0) (eQ az)),(19,oE (k:=0) (eQ az)),(28,oR [(aS bu.aV),(aI bu.cN),(aI (0:Int64)),(.ptr 0 0),(.ptr 1 0)] (vx v8 v4 v9 []) [0,1,2] (O3 N bu.aV bu.cN (0:Int64) v8 v4 v9 bN aE))] [] [.cells [(aB bN.1)], .cells [(aI v4),(.own 2 (b5 bN.2))], .front 114 2 bN.2.length] ?_;obtain⟨aK,hF⟩:=dp hF;exact B4 af aO (v5,(v6.drop 1),v7,bN.1,bN.2) [[(4,⟨_,_, .FA (xs:=b5 v6) (lo:=(1:Int)) (by decide) (by rw[dg];exact(of_decide_eq_true aK)) Ad Gd⟩)]] hF
   refine au af [[(0,bF h9)]] ?_;obtain⟨bx,aL,hF⟩:=ao hF;refine bf af [(64,(aB bx))] (vx v8 v4 v9 []) ?_ ?_
   ·refine bc aL (fun aY aL=> ?_) fun aY aL=> ?_
    ·cases aL;exact⟨[(3,bT aY)],[(4,oL v6 dg)],by kernel_rfl⟩
    obtain⟨dh,aJ,aL⟩:=ao aL;obtain⟨bX,bp,aL⟩:=ao aL;cases aL;exact⟨[(3,bF aY)],[(4,oL v6 dg),(16,oE (k:=0) (eQ aJ)),(28,oE (k:=0) (eQ bp))],by kernel_rfl⟩
   refine bc hF (fun bn hF=> ?_) fun bn hF=> ?_
   ·refine au af [[(0,bT bn)]] ?_;obtain⟨cC,aZ,hF⟩:=ao hF;obtain⟨v20,bU,hF⟩:=ao hF;refine K7 af [(7,oE (k:=0) (eQ aZ)),(19,oE (k:=0) (eQ aZ)),(28,oR [(aS cC.aV),(aI (0:Int64)),(aI cC.cN),(.ptr 0 0),(.ptr 1 0)] (vx v8 v4 v9 []) [0,1,2] (O3 N cC.aV (0:Int64) cC.cN v8 v4 v9 v20 bU))] [] [.cells [(aB v20.1)], .cells [(aI v4),(.own 2 (b5 v20.2))], .front 114 2 v20.2.length] ?_;obtain⟨bC,hF⟩:=dp hF;exact B4 af aO (v5,v6,(v7.drop 1),v20.1,v20.2) [[(4,⟨_,_, .FA (xs:=b5 v7) (lo:=(1:Int)) (by decide) (by rw[dg];exact(of_decide_eq_true bC)) Ad Gd⟩)]] hF
   refine au af [[(0,bF bn)]] ?_;obtain⟨v21,cl,hF⟩:=ao hF;obtain⟨fe,bw,hF⟩:=ao hF;obtain⟨dx,cT,hF⟩:=ao hF;refine K7 af [(7,oE (k:=0) (eQ cl)),(19,oE (k:=0) (eQ cl)),(31,oE (k:=0) (eQ bw)),(40,oR [(aS v21.aV),(aI v21.cN),(aI fe.cN),(.ptr 0 0),(.ptr 1 0)] (vx v8 v4 v9 []) [0,1,2] (O3 N v21.aV v21.cN fe.cN v8 v4 v9 dx cT))] [] [.cells [(aB dx.1)], .cells [(aI v4),(.own 2 (b5 dx.2))], .front 114 2 dx.2.length] ?_;obtain⟨cE,hF⟩:=dp hF;obtain⟨eR,hF⟩:=dp hF;exact B4 af aO (v5,(v6.drop 1),(v7.drop 1),dx.1,dx.2) [[(4,⟨_,_, .FA (xs:=b5 v6) (lo:=(1:Int)) (by decide) (by rw[dg];exact(of_decide_eq_true cE)) Ad Gd⟩),(10,⟨_,_, .FA (xs:=b5 v7) (lo:=(1:Int)) (by decide) (by rw[dg];exact(of_decide_eq_true eR)) Ad Gd⟩)]] hF
  cases hF;exact cK af [[(0,bF h3)]]
def tY(N:Nat)(v1:aF)(v2:aF):ak5 (aF×Int):=
 Option.bind (vf N v1) fun v3=>
 Option.bind (bif (v3 !=(0:Int))then some true else Option.bind (vf N v2) fun v4=>
 some (v4 !=(0:Int))) fun v5=>
 bif v5 then
  some (bV,(1:Int))
 else
  Option.bind (A4 N v1.xK v2.xK) fun v6=>
  Option.bind (Hx N v1.xL v2.xL v6.2 v6.1) fun v7=>
  bif v7.1 then
   some ((⟨v6.1,v7.2⟩:aF),(0:Int))
  else
   some (bV,(3:Int))
theorem QA(N:Nat)(v1:aF)(v2:aF)(r:aF×Int)(hF:tY N v1 v2=some r):aG Tryz.prog 241 [(b9 v1),(b9 v2)] (·=(.bk [(b9 r.1),(aw r.2)])):=by
 rw[tY]at hF;refine aR Tryz.func241 ?_;refine au af [[]] ?_;obtain⟨v3,h1,hF⟩:=ao hF;obtain⟨v5,h4,hF⟩:=ao hF;refine bf af [(15,(aB v5))] [.cells (b9 v1).cells, .cells (b9 v2).cells, .cells sQ] ?_ ?_
 ·refine bc h4 (fun h2 h4=> ?_) fun h2 h4=> ?_
  ·cases h4;exact⟨[(3,bT h2)],[(4,cL (Cq N v1 v3 h1))],by kernel_rfl⟩
  obtain⟨v4,h3,h4⟩:=ao h4;cases h4;exact⟨[(3,bF h2)],[(4,cL (Cq N v1 v3 h1)),(16,cL (Cq N v2 v4 h3))],by kernel_rfl⟩
 refine bc hF (fun h5 hF=> ?_) fun h5 hF=> ?_
 ·cases hF;exact wr af [[(0,bT h5)],[]]
 obtain⟨v6,h6,hF⟩:=ao hF;obtain⟨v7,h7,hF⟩:=ao hF;refine au af [[(0,bF h5)],[],[],[(13,cL (Xg N v1.xK v2.xK v6 h6))],[(16,oR [(.d (.sl (b5 v1.xL))),(.d (.sl (b5 v2.xL))),(.fn 292 [(.ptr 4 0),(.ptr 3 0)])] [.cells (b9 v1).cells, .cells (b9 v2).cells, .cells sQ, .cells [(aI v6.1),(.d (.v (.slice none 0 0)))], .cells [(aB v6.2)]] [4,3] (agB N v1.xL v2.xL v6.2 v6.1 v7 h7))],[]] ?_;refine bc hF (fun h8 hF=> ?_) fun h8 hF=> ?_
 ·cases hF;exact wr af [[(0,bF (bG h8))],[]]
 cases hF;exact wr af [[(0,bT (bS h8))],[]]
def uU(N:Nat)(v1:aF)(v2:aF):ak5 (aF×Bool):=
 Option.bind (rD N v2 (-1:Int64)) fun v3=>
 bif (v3.2 !=(0:Int))then
  some (bV,false)
 else
  Option.bind (tY N v1 v3.1) fun v4=>
  some (v4.1,(v4.2==(0:Int)))
theorem Rt(N:Nat)(v1:aF)(v2:aF)(r:aF×Bool)(hF:uU N v1 v2=some r):aG Tryz.prog 240 [(b9 v1),(b9 v2)] (·=(.bk [(b9 r.1),(aB r.2)])):=by
 rw[uU]at hF;refine aR Tryz.func240 ?_;obtain⟨v3,h1,hF⟩:=ao hF;refine au af [[],[(4,cL (L0 N v2 (-1:Int64) v3 h1))],[]] ?_;refine bc hF (fun h2 hF=> ?_) fun h2 hF=> ?_
 ·cases hF;exact wr af [[(0,bT h2)],[]]
 obtain⟨v4,h3,hF⟩:=ao hF;cases hF;exact wr af [[(0,bF h2)],[(7,cL (QA N v1 v3.1 v4 h3))],[]]
def zx(N:Nat)(v1:aF):ak5 an:=
 some (⟨(2:Int),(bs []),bg,ca,v1,[],[]⟩:an)
theorem Hr(N:Nat)(v1:aF)(r:an)(hF:zx N v1=some r):aG Tryz.prog 183 [(b9 v1)] (·=(aA r)):=by
 rw[zx]at hF;refine aR Tryz.func183 ?_;cases hF;exact wr af [[],[]]
def DV(N:Nat)(v1:an):ak5 (an×Bool):=
 Option.bind (v1.ax[0]?) fun v2=>
 Option.bind (oh N v2) fun v3=>
 Option.bind (v1.ax[1]?) fun v4=>
 Option.bind (oh N v4) fun v5=>
 Option.bind (bif v3.2 then(bif v5.2 then(bif (v2.ar !=(2:Int))then some (v4.ar !=(2:Int))else some false)else some true)else some true) fun v6=>
 bif v6 then
  some (eo,false)
 else
  bif (v1.ar==(5:Int))then
   Option.bind (uU N v3.1 v5.1) fun v7=>
   Option.bind (zx N v7.1) fun v8=>
   some (v8,v7.2)
  else
   Option.bind (tY N v3.1 v5.1) fun v9=>
   Option.bind (zx N v9.1) fun v10=>
   some (v10,(v9.2==(0:Int)))
theorem adh(N:Nat)(v1:an)(r:an×Bool)(hF:DV N v1=some r):aG Tryz.prog 180 [(aA v1)] (·=(.bk [(aA r.1),(aB r.2)])):=by
 rw[DV]at hF;refine aR Tryz.func180 ?_;obtain⟨v2,h1,hF⟩:=ao hF;obtain⟨v3,h2,hF⟩:=ao hF;obtain⟨v4,h3,hF⟩:=ao hF;obtain⟨v5,h4,hF⟩:=ao hF;refine au af [[],[(7,oE (k:=0) (bt h1)),(13,cL (H7 N v2 v3 h2))],[(7,oE (k:=1) (bt h3)),(13,cL (H7 N v4 v5 h4))]] ?_;obtain⟨v6,h8,hF⟩:=ao hF;refine bf af [(49,(aB v6))] [.cells (aA v1).cells, .cells ef, .cells (b9 v3.1).cells, .cells (b9 v5.1).cells] ?_ ?_
 ·refine bc h8 (fun h5 h8=> ?_) fun h5 h8=> ?_
  ·refine bc h8 (fun h6 h8=> ?_) fun h6 h8=> ?_
   ·refine bc h8 (fun h7 h8=> ?_) fun h7 h8=> ?_
    ·cases h8;exact⟨[(2,bF (bG h5)),(6,bF (bG h6)),(13,bT h7)],[(28,oE (k:=0) (bt h1)),(49,oE (k:=1) (bt h3)),(61,bT h7)],by kernel_rfl⟩
    cases h8;exact⟨[(2,bF (bG h5)),(6,bF (bG h6)),(13,bF h7)],[(28,oE (k:=0) (bt h1)),(61,bF h7)],by kernel_rfl⟩
   cases h8;exact⟨[(2,bF (bG h5)),(6,bT (bS h6)),(13,uN)],[],by kernel_rfl⟩
  cases h8;exact⟨[(2,bT (bS h5)),(6,bT rfl),(13,uN)],[],by kernel_rfl⟩
 refine bc hF (fun h9 hF=> ?_) fun h9 hF=> ?_
 ·cases hF;exact wr af [[(0,bT h9)],[]]
 refine au af [[(0,bF h9)],[]] ?_;refine bc hF (fun az hF=> ?_) fun az hF=> ?_
 ·obtain⟨v7,aE,hF⟩:=ao hF;obtain⟨v8,aK,hF⟩:=ao hF;cases hF;exact wr af [[(0,bT az)],[(7,cL (Rt N v3.1 v5.1 v7 aE))],[(4,cL (Hr N v7.1 v8 aK))]]
 obtain⟨v9,aY,hF⟩:=ao hF;obtain⟨v10,aJ,hF⟩:=ao hF;cases hF;exact wr af [[(0,bF az)],[(7,cL (QA N v3.1 v5.1 v9 aY))],[(4,cL (Hr N v9.1 v10 aJ))]]
def AF(N:Nat)(v3:an)(v4:an):ak5 (an×Bool):=
 Option.bind (bif (v3.ar !=(2:Int))then some true else(bif (v4.ar !=(1:Int))then some true else some (v4.aD.a8 !=(3:Int)))) fun v5=>
 bif v5 then
  some (eo,false)
 else
  Option.bind (rD N v3.aM v4.ba.xN) fun v6=>
  Option.bind (zx N v6.1) fun v7=>
  some (v7,(v6.2==(0:Int)))
def Fo(N:Nat)(v1:an)(v2:an):ak5 (an×Bool):=
 bif (v1.ar==(1:Int))then
  AF N v2 v1
 else
  AF N v1 v2
theorem acA(N:Nat)(v1:an)(v2:an)(r:an×Bool)(hF:Fo N v1 v2=some r):aG Tryz.prog 181 [(aA v1),(aA v2)] (·=(.bk [(aA r.1),(aB r.2)])):=by
 rw[Fo]at hF;refine aR Tryz.func181 ?_;refine EL af 1 [[],[]] [2,3,4] 3 [] [(2,10),(2,11),(2,12)] (fun((v3,v4):an×an)=>⟨41,[(2,(.ptr 0 0)),(3,(.ptr 1 0)),(4,(.ptr 2 0))],[.cells (aA v3).cells, .cells (aA v4).cells, .cells ef]⟩) (fun((v3,v4):an×an)=>AF N v3 v4=some r) ?_ ?_
 ·intro f1 aO;refine bc hF (fun h7 hF=> ?_) fun h7 hF=> ?_
  ·exact lM af aO (v2,v1) [[(0,bT h7)],[]] hF
  exact lM af aO (v1,v2) [[(0,bF h7)]] hF
 rintro⟨v3,v4⟩ hF
 try dsimp only at hF
 rw[AF]at hF;obtain⟨v5,h3,hF⟩:=ao hF;refine bf af [(26,(aB v5))] [.cells (aA v3).cells, .cells (aA v4).cells, .cells ef] ?_ ?_
 ·refine bc h3 (fun h1 h3=> ?_) fun h1 h3=> ?_
  ·cases h3;exact⟨[(3,bT h1),(8,bT rfl)],[],by kernel_rfl⟩
  refine bc h3 (fun h2 h3=> ?_) fun h2 h3=> ?_
  ·cases h3;exact⟨[(3,bF h1),(8,bT h2)],[],by kernel_rfl⟩
  cases h3;exact⟨[(3,bF h1),(8,bF h2)],[],by kernel_rfl⟩
 refine bc hF (fun h4 hF=> ?_) fun h4 hF=> ?_
 ·cases hF;exact wr af [[(0,bT h4)],[]]
 obtain⟨v6,h5,hF⟩:=ao hF;obtain⟨v7,h6,hF⟩:=ao hF;cases hF;exact wr af [[(0,bF h4)],[(16,cL (L0 N v3.aM v4.ba.xN v6 h5))],[(4,cL (Hr N v6.1 v7 h6))]]
def HQ(N:Nat)(v1:cB)(v4:Bool):ak5 (an×Bool):=
 bif v4 then
  Option.bind (DV N v1.yE) fun v5=>
  some (v5.1,v5.2)
 else
  bif (v1.yE.ar==(6:Int))then
   Option.bind (v1.yE.ax[0]?) fun v6=>
   Option.bind (v1.yE.ax[1]?) fun v7=>
   Option.bind (Fo N v6 v7) fun v8=>
   some (v8.1,v8.2)
  else
   bif (v1.yE.ar==(8:Int))then
    Option.bind (v1.yE.ax[0]?) fun v9=>
    bif (v9.ar==(2:Int))then
     Option.bind (rD N v9.aM (-1:Int64)) fun v10=>
     Option.bind (zx N v10.1) fun v11=>
     some (v11,(v10.2==(0:Int)))
    else
     some (eo,false)
   else
    some (eo,false)
def FC(N:Nat)(v1:cB):ak5 (an×Bool):=
 bif (v1.yE.ar==(2:Int))then
  Option.bind (oK N (⟨(3:Int),(0:Int),(0:Int),(0:Int),(0:Int)⟩:aC) (⟨v1.yE.aM.xK,(1:Int64)⟩:ay)) fun v2=>
  Option.bind (bif ((v1.yE.aM.xL.length:Int)==(0:Int))then(bif (decide (v1.yE.aM.xK.toInt≥(-2147483647:Int)))then some (decide (v1.yE.aM.xK.toInt≤(2147483647:Int)))else some false)else some false) fun v3=>
  some (v2,v3)
 else
  bif (v1.yE.ar==(4:Int))then
   HQ N v1 (v1.yE.ar==(4:Int))
  else
   HQ N v1 (v1.yE.ar==(5:Int))
theorem afI(N:Nat)(v1:cB)(r:an×Bool)(hF:FC N v1=some r):aG Tryz.prog 107 [(bI v1)] (·=(.bk [(aA r.1),(aB r.2)])):=by
 rw[FC]at hF;refine aR Tryz.func107 ?_;refine au af [[],[],[],[]] ?_;refine bc hF (fun h1 hF=> ?_) fun h1 hF=> ?_
 ·refine au af [[(0,bT h1)],[]] ?_;obtain⟨v2,h2,hF⟩:=ao hF;obtain⟨v3,h5,hF⟩:=ao hF;refine bf af [(3,(aB v3))] [.cells (bI v1).cells, .cells (aA v2).cells, .cells (aA v1.yE).cells] ?_ ?_
  ·refine bc h5 (fun h3 h5=> ?_) fun h3 h5=> ?_
   ·refine bc h5 (fun h4 h5=> ?_) fun h4 h5=> ?_
    ·cases h5;exact⟨[(9,bT h3),(13,bT h4)],[(10,cL (se N (⟨(3:Int),(0:Int),(0:Int),(0:Int),(0:Int)⟩:aC) (⟨v1.yE.aM.xK,(1:Int64)⟩:ay) v2 h2)),(22,oL v1.yE.aM.xL dg)],by kernel_rfl⟩
    cases h5;exact⟨[(9,bT h3),(13,bF h4)],[(10,cL (se N (⟨(3:Int),(0:Int),(0:Int),(0:Int),(0:Int)⟩:aC) (⟨v1.yE.aM.xK,(1:Int64)⟩:ay) v2 h2)),(22,oL v1.yE.aM.xL dg)],by kernel_rfl⟩
   cases h5;exact⟨[(9,bF h3),(13,bF rfl)],[(10,cL (se N (⟨(3:Int),(0:Int),(0:Int),(0:Int),(0:Int)⟩:aC) (⟨v1.yE.aM.xK,(1:Int64)⟩:ay) v2 h2)),(22,oL v1.yE.aM.xL dg)],by kernel_rfl⟩
  cases hF;exact wr af []
 refine EL af 1 [[(0,bF h1)],[]] [2,4,11,34] 3 [] [(1,10),(1,11),(1,12)] (fun(v4:Bool)=>⟨76,[(2,(.ptr 1 0)),(4,(.ptr 2 0)),(11,(aw v1.yE.ar)),(34,(aB v4))],[.cells (bI v1).cells, .cells ef, .cells (aA v1.yE).cells]⟩) (fun(v4:Bool)=>HQ N v1 v4=some r) ?_ ?_
 ·intro f1 aO;refine bc hF (fun bn hF=> ?_) fun bn hF=> ?_
  ·exact lM af aO (v1.yE.ar==(4:Int)) [[(0,bT bn)]] hF
  exact lM af aO (v1.yE.ar==(5:Int)) [[(0,bF bn)],[]] hF
 rintro v4 hF
 try dsimp only at hF
 rw[HQ]at hF;refine bc hF (fun h6 hF=> ?_) fun h6 hF=> ?_
 ·obtain⟨v5,h7,hF⟩:=ao hF;cases hF;exact wr af [[(0,bT h6)],[(4,cL (adh N v1.yE v5 h7))]]
 refine au af [[(0,bF h6)],[]] ?_;refine bc hF (fun h8 hF=> ?_) fun h8 hF=> ?_
 ·obtain⟨v6,h9,hF⟩:=ao hF;obtain⟨v7,az,hF⟩:=ao hF;obtain⟨v8,aE,hF⟩:=ao hF;cases hF;exact wr af [[(0,bT h8)],[(7,oE (k:=0) (bt h9)),(19,oE (k:=1) (bt az)),(25,cL (acA N v6 v7 v8 aE))]]
 refine au af [[(0,bF h8)],[]] ?_;refine bc hF (fun aK hF=> ?_) fun aK hF=> ?_
 ·obtain⟨v9,aY,hF⟩:=ao hF;refine au af [[(0,bT aK)],[(7,oE (k:=0) (bt aY))]] ?_;refine bc hF (fun aJ hF=> ?_) fun aJ hF=> ?_
  ·obtain⟨v10,bp,hF⟩:=ao hF;obtain⟨v11,aL,hF⟩:=ao hF;cases hF;exact wr af [[(0,bT aJ)],[(7,oE (k:=0) (bt aY)),(16,cL (L0 N v9.aM (-1:Int64) v10 bp))],[(4,cL (Hr N v10.1 v11 aL))]]
  cases hF;exact wr af [[(0,bF aJ)],[]]
 cases hF;exact wr af [[(0,bF aK)],[]]
def GF(N:Nat)(v5:an×Bool)(v6:ak4)(v7:an):ak5 (Bool×ak4×Int×ak4×Int64×Int64×Int×Int×Int×Int×Int×Int64×(ak3 aU)×(ak3 aH)×(ak3 an)):=
 some (v5.2,v6,v7.ar,v7.aV,v7.ba.xN,v7.ba.xD,v7.aD.a8,v7.aD.bz,v7.aD.xFrac,v7.aD.bK,v7.aD.bM,v7.aM.xK,v7.aM.xL,v7.xIdx,v7.ax)
def JE(N:Nat)(v1:cB)(v2:ak4)(v3:ak4)(v4:an):ak5 (Bool×ak4×Int×ak4×Int64×Int64×Int×Int×Int×Int×Int×Int64×(ak3 aU)×(ak3 aH)×(ak3 an)):=
 Option.bind (FC N v1) fun v5=>
 bif v5.2 then
  GF N v5 v2 v5.1
 else
  GF N v5 v3 v4
theorem qh(N:Nat)(v1:cB)(v2:ak4)(v3:ak4)(v4:an)(r:Bool×ak4×Int×ak4×Int64×Int64×Int×Int×Int×Int×Int×Int64×(ak3 aU)×(ak3 aH)×(ak3 an))(hF:JE N v1 v2 v3 v4=some r):bQ Tryz.prog 104 [(bI v1),(.fn 107 []),(aS v2),(.ptr 0 0),(.ptr 1 0)] [.cells [(aS v3)], .cells (aA v4).cells] fun r1 h1=>r1=(aB r.1)∧h1=[.cells [(aS r.2.1)], .cells [(aw r.2.2.1),(aS r.2.2.2.1),(aI r.2.2.2.2.1),(aI r.2.2.2.2.2.1),(aw r.2.2.2.2.2.2.1),(aw r.2.2.2.2.2.2.2.1),(aw r.2.2.2.2.2.2.2.2.1),(aw r.2.2.2.2.2.2.2.2.2.1),(aw r.2.2.2.2.2.2.2.2.2.2.1),(aI r.2.2.2.2.2.2.2.2.2.2.2.1),(.d (.sl (b5 r.2.2.2.2.2.2.2.2.2.2.2.2.1))),(.d (.sl (cm r.2.2.2.2.2.2.2.2.2.2.2.2.2.1))),(.d (.sl (cq r.2.2.2.2.2.2.2.2.2.2.2.2.2.2)))]]:=by
 rw[JE]at hF;refine eE 2 Tryz.func104 ?_;obtain⟨v5,h1,hF⟩:=ao hF;refine mc af r 1 [[],[(7,cL (afI N v1 v5 h1))],[]] [12] 4 (fun(v6:ak4)(v7:an)=>⟨27,[(12,(aB v5.2))],[.cells [(aS v6)], .cells (aA v7).cells, .cells (bI v1).cells, .cells (aA v5.1).cells]⟩) (GF N v5) ?_ ?_
 ·intro f1 aO;refine bc hF (fun h2 hF=> ?_) fun h2 hF=> ?_
  ·exact bP af aO (v2,v5.1) [[(0,bT h2)],[]] hF
  exact bP af aO (v3,v4) [[(0,bF h2)]] hF
 intro v6 v7 hF;rw[GF]at hF;cases hF;exact cK af [[]]
def sb(N:Nat)(v1:Int)(v2:Int):ak5 Bool:=
 bif (v1==(13:Int))then
  some (decide (v2<(0:Int)))
 else
  bif (v1==(14:Int))then
   some (decide (v2≤(0:Int)))
  else
   some (v2==(0:Int))
theorem GL(N:Nat)(v1:Int)(v2:Int)(r:Bool)(hF:sb N v1 v2=some r):aG Tryz.prog 293 [(aw v1),(aw v2)] (·=(aB r)):=by
 rw[sb]at hF;refine aR Tryz.func293 ?_;refine au af [[],[],[]] ?_;refine bc hF (fun h1 hF=> ?_) fun h1 hF=> ?_
 ·cases hF;exact wr af [[(0,bT h1)],[]]
 refine au af [[(0,bF h1)],[]] ?_;refine bc hF (fun h2 hF=> ?_) fun h2 hF=> ?_
 ·cases hF;exact wr af [[(0,bT h2)],[]]
 cases hF;exact wr af [[(0,bF h2)],[]]
def DX(N:Nat)(v1:Int):ak5 Bool:=
 some (v1 !=v1)
theorem Vg(N:Nat)(v1:Int)(r:Bool)(hF:DX N v1=some r):aG Tryz.prog 323 [(aw v1)] (·=(aB r)):=by
 rw[DX]at hF;refine aR Tryz.func323 ?_;cases hF;exact wr af [[],[]]
def mf(N:Nat)(v1:Int)(v2:Int):ak5 Int:=
 Option.bind (DX N v1) fun v3=>
 Option.bind (DX N v2) fun v4=>
 bif v3 then
  bif v4 then
   some (0:Int)
  else
   some (-1:Int)
 else
  bif v4 then
   some (1:Int)
  else
   bif (decide (v1<v2))then
    some (-1:Int)
   else
    bif (decide (v1>v2))then
     some (1:Int)
    else
     some (0:Int)
theorem qG(N:Nat)(v1:Int)(v2:Int)(r:Int)(hF:mf N v1 v2=some r):aG Tryz.prog 295 [(aw v1),(aw v2)] (·=(aw r)):=by
 rw[mf]at hF;refine aR Tryz.func295 ?_;obtain⟨v3,h1,hF⟩:=ao hF;obtain⟨v4,h2,hF⟩:=ao hF;refine au af [[],[(4,cL (Vg N v1 v3 h1))],[(4,cL (Vg N v2 v4 h2))],[]] ?_;refine bc hF (fun h3 hF=> ?_) fun h3 hF=> ?_
 ·refine au af [[(0,bT h3)],[]] ?_;refine bc hF (fun h4 hF=> ?_) fun h4 hF=> ?_
  ·cases hF;exact wr af [[(0,bT h4)],[]]
  cases hF;exact wr af [[(0,bF h4)],[]]
 refine au af [[(0,bF h3)],[]] ?_;refine bc hF (fun h5 hF=> ?_) fun h5 hF=> ?_
 ·cases hF;exact wr af [[(0,bT h5)],[]]
 refine au af [[(0,bF h5)],[]] ?_;refine bc hF (fun h6 hF=> ?_) fun h6 hF=> ?_
 ·cases hF;exact wr af [[(0,bT h6)],[]]
 refine au af [[(0,bF h6)],[]] ?_;refine bc hF (fun h7 hF=> ?_) fun h7 hF=> ?_
 ·cases hF;exact wr af [[(0,bT h7)],[]]
 cases hF;exact wr af [[(0,bF h7)],[]]
def Ed(N:Nat)(v1 v2:ak4):ak5 Int:=some (F4 v1 v2)
theorem Oc(N:Nat)(v1 v2:ak4)(r:Int)(hF:Ed N v1 v2=some r):aG Tryz.prog 296 [(aS v1),(aS v2)] (·=(aw r)):=by
 cases hF;exact aey v1 v2
def BP(N:Nat)(v1:Int64):ak5 Bool:=
 some (v1.toInt !=v1.toInt)
theorem RP(N:Nat)(v1:Int64)(r:Bool)(hF:BP N v1=some r):aG Tryz.prog 325 [(aI v1)] (·=(aB r)):=by
 rw[BP]at hF;refine aR Tryz.func325 ?_;cases hF;exact wr af [[],[]]
def zG(N:Nat)(v1:Int64)(v2:Int64):ak5 Int:=
 Option.bind (BP N v1) fun v3=>
 Option.bind (BP N v2) fun v4=>
 bif v3 then
  bif v4 then
   some (0:Int)
  else
   some (-1:Int)
 else
  bif v4 then
   some (1:Int)
  else
   bif (decide (v1.toInt<v2.toInt))then
    some (-1:Int)
   else
    bif (decide (v1.toInt>v2.toInt))then
     some (1:Int)
    else
     some (0:Int)
theorem Um(N:Nat)(v1:Int64)(v2:Int64)(r:Int)(hF:zG N v1 v2=some r):aG Tryz.prog 297 [(aI v1),(aI v2)] (·=(aw r)):=by
 rw[zG]at hF;refine aR Tryz.func297 ?_;obtain⟨v3,h1,hF⟩:=ao hF;obtain⟨v4,h2,hF⟩:=ao hF;refine au af [[],[(4,cL (RP N v1 v3 h1))],[(4,cL (RP N v2 v4 h2))],[]] ?_;refine bc hF (fun h3 hF=> ?_) fun h3 hF=> ?_
 ·refine au af [[(0,bT h3)],[]] ?_;refine bc hF (fun h4 hF=> ?_) fun h4 hF=> ?_
  ·cases hF;exact wr af [[(0,bT h4)],[]]
  cases hF;exact wr af [[(0,bF h4)],[]]
 refine au af [[(0,bF h3)],[]] ?_;refine bc hF (fun h5 hF=> ?_) fun h5 hF=> ?_
 ·cases hF;exact wr af [[(0,bT h5)],[]]
 refine au af [[(0,bF h5)],[]] ?_;refine bc hF (fun h6 hF=> ?_) fun h6 hF=> ?_
 ·cases hF;exact wr af [[(0,bT h6)],[]]
 refine au af [[(0,bF h6)],[]] ?_;refine bc hF (fun h7 hF=> ?_) fun h7 hF=> ?_
 ·cases hF;exact wr af [[(0,bT h7)],[]]
 cases hF;exact wr af [[(0,bF h7)],[]]
def u9(N:Nat):ak3 Int→Nat→ak5 Int
 |[],_=>
  some (0:Int)
 |v4::v5,v2=>
  bif (v4 !=(0:Int))then
   some v4
  else
   (u9 N v5 (v2+1))
def AT(N:Nat)(v1:ak3 Int):ak5 Int:=
 u9 N v1 0
theorem QH(N:Nat)(v1:ak3 Int)(r:Int)(hF:AT N v1=some r):aG Tryz.prog 294 [(.d (.sl (oZ v1)))] (·=(aw r)):=by
 rw[AT]at hF;refine aR Tryz.func294 ?_;refine au af [[],[],[(4,oL v1 Su)]] ?_;refine fP adU 0 v1 fun h2=> ?_;refine fJ af 1 [] [3,6,7,8] 0 v1 (fun v2=>⟨18,[(3,(aw (0:Int))),(6,(.d (.sl (oZ v1)))),(7,(aw (v1.length:Int))),(8,(aw (v2:Int)))],[]⟩) (u9 N) hF ?_ ?_
 ·intro v2 h3 hF f1;rw[u9]at hF;cases hF;exact wr af [[],[(0,bF (cM h3))],[]]
 intro v2 v4 v5 h3 hF f1 aO;rw[u9]at hF;refine au af [[],[(0,bT (cF h3))],[(1,oE (aeZ (cd h3)))],[]] ?_;refine bc hF (fun h4 hF=> ?_) fun h4 hF=> ?_
 ·cases hF;exact wr af [[(0,bT h4)],[]]
 exact wb af aO () [[(0,bF h4)],[(2,oq (dj h3 rfl h2))]] h3 hF
def Dp(N:Nat)(v1:aC)(v2:aC):ak5 Int:=
 Option.bind (mf N v1.a8 v2.a8) fun v3=>
 Option.bind (mf N v1.bz v2.bz) fun v4=>
 Option.bind (mf N v1.xFrac v2.xFrac) fun v5=>
 Option.bind (mf N v1.bK v2.bK) fun v6=>
 Option.bind (mf N v1.bM v2.bM) fun v7=>
 Option.bind (AT N ([v3,v4,v5,v6,v7])) fun v8=>
 some v8
theorem abd(N:Nat)(v1:aC)(v2:aC)(r:Int)(hF:Dp N v1 v2=some r):aG Tryz.prog 298 [(bY v1),(bY v2)] (·=(aw r)):=by
 rw[Dp]at hF;refine aR Tryz.func298 ?_;obtain⟨v3,h1,hF⟩:=ao hF;obtain⟨v4,h2,hF⟩:=ao hF;obtain⟨v5,h3,hF⟩:=ao hF;obtain⟨v6,h4,hF⟩:=ao hF;obtain⟨v7,h5,hF⟩:=ao hF;obtain⟨v8,h6,hF⟩:=ao hF;obtain rfl:=sj hF;exact wr af [[],[(13,cL (qG N v1.a8 v2.a8 v3 h1)),(28,cL (qG N v1.bz v2.bz v4 h2)),(43,cL (qG N v1.xFrac v2.xFrac v5 h3)),(58,cL (qG N v1.bK v2.bK v6 h4)),(73,cL (qG N v1.bM v2.bM v7 h5)),(79,cL (QH N ([v3,v4,v5,v6,v7]) v8 h6))]]
def A6(N:Nat)(v1:Int64)(v2:Int64):ak5 Int:=
 bif (decide (v1.toInt<v2.toInt))then
  some (-1:Int)
 else
  bif (decide (v1.toInt>v2.toInt))then
   some (1:Int)
  else
   some (0:Int)
theorem RW(N:Nat)(v1:Int64)(v2:Int64)(r:Int)(hF:A6 N v1 v2=some r):aG Tryz.prog 328 [(aI v1),(aI v2)] (·=(aw r)):=by
 rw[A6]at hF;refine aR Tryz.func328 ?_;refine au af [[],[]] ?_;refine bc hF (fun h1 hF=> ?_) fun h1 hF=> ?_
 ·cases hF;exact wr af [[(0,bT h1)],[]]
 refine au af [[(0,bF h1)],[]] ?_;refine bc hF (fun h2 hF=> ?_) fun h2 hF=> ?_
 ·cases hF;exact wr af [[(0,bT h2)],[]]
 cases hF;exact wr af [[(0,bF h2)],[]]
def Dv(N:Nat)(v1:aU)(v2:aU):ak5 Int:=
 bif (bL v1.aV==bL v2.aV)then
  Option.bind (A6 N v1.cN v2.cN) fun v3=>
  some v3
 else
  Option.bind (Ed N v1.aV v2.aV) fun v4=>
  some v4
theorem acV(N:Nat)(v1:aU)(v2:aU)(r:Int)(hF:Dv N v1 v2=some r):aG Tryz.prog 327 [(Hp v1),(Hp v2)] (·=(aw r)):=by
 rw[Dv]at hF;refine aR Tryz.func327 ?_;refine au af [[],[]] ?_;refine bc hF (fun h1 hF=> ?_) fun h1 hF=> ?_
 ·obtain⟨v3,h2,hF⟩:=ao hF;obtain rfl:=sj hF;exact wr af [[(0,bF (bG h1))],[(13,cL (RW N v1.cN v2.cN v3 h2))]]
 obtain⟨v4,h3,hF⟩:=ao hF;obtain rfl:=sj hF;exact wr af [[(0,bT (bS h1))],[(13,cL (Oc N v1.aV v2.aV v4 h3))]]
def pN(N:Nat)(v1:ak3 aU)(v2:ak3 aU):ak3 aU→Nat→ak5 Int
 |[],_=>
  bif (decide ((v1.length:Int)<(v2.length:Int)))then
   some (-1:Int)
  else
   some (0:Int)
 |v5::v6,v3=>
  bif (decide ((v3:Int)≥(v2.length:Int)))then
   some (1:Int)
  else
   Option.bind (v2[((v3:Int)).toNat]?) fun v7=>
   Option.bind (Dv N v5 v7) fun v8=>
   bif (v8 !=(0:Int))then
    some v8
   else
    (pN N v1 v2 v6 (v3+1))
def G6(N:Nat)(v1:ak3 aU)(v2:ak3 aU):ak5 Int:=
 pN N v1 v2 v1 0
theorem Y5(N:Nat)(v1:ak3 aU)(v2:ak3 aU)(r:Int)(hF:G6 N v1 v2=some r):bQ Tryz.prog 326 [(.d (.sl (b5 v1))),(.d (.sl (b5 v2))),(.fn 327 [])] [] fun r1 h1=>r1=(aw r)∧h1=[]:=by
 rw[G6]at hF;refine eE 0 Tryz.func326 ?_;refine au af [[],[(4,oL v1 dg)]] ?_;refine fP n7 0 v1 fun h2=> ?_;refine fJ af 1 [] [0,1,2,11,12,13] 0 v1 (fun v3=>⟨39,[(0,(.d (.sl (b5 v1)))),(1,(.d (.sl (b5 v2)))),(2,(.fn 327 [])),(11,(.d (.sl (b5 v1)))),(12,(aw (v1.length:Int))),(13,(aw (v3:Int)))],[]⟩) (pN N v1 v2) hF ?_ ?_
 ·intro v3 h3 hF f1;rw[pN]at hF;refine au af [[],[(0,bF (cM h3))],[(4,oL v1 dg),(10,oL v2 dg)]] ?_;refine bc hF (fun h4 hF=> ?_) fun h4 hF=> ?_
  ·cases hF;exact cK af [[(0,bT h4)],[]]
  cases hF;exact cK af [[(0,bF h4)],[]]
 intro v3 v5 v6 h3 hF f1 aO;rw[pN]at hF;refine au af [[],[(0,bT (cF h3))],[(4,oE (eQ (cd h3)))],[(7,oL v2 dg)]] ?_;refine bc hF (fun h5 hF=> ?_) fun h5 hF=> ?_
 ·cases hF;exact cK af [[(0,bT h5)],[]]
 obtain⟨v7,h6,hF⟩:=ao hF;obtain⟨v8,h8,hF⟩:=ao hF;refine au af [[(0,bF h5)],[(7,oE (eQ h6))],[(10,cL (acV N v5 v7 v8 h8))],[]] ?_;refine bc hF (fun h9 hF=> ?_) fun h9 hF=> ?_
 ·cases hF;exact cK af [[(0,bT h9)],[]]
 exact wb af aO () [[(0,bF h9)],[(2,oq (dj h3 rfl h2))]] h3 hF
def uP(N:Nat)(v1:aF)(v2:aF):ak5 Int:=
 Option.bind (G6 N v1.xL v2.xL) fun v3=>
 bif (v3 !=(0:Int))then
  some v3
 else
  Option.bind (A6 N v1.xK v2.xK) fun v4=>
  some v4
theorem Nc(N:Nat)(v1:aF)(v2:aF)(r:Int)(hF:uP N v1 v2=some r):aG Tryz.prog 299 [(b9 v1),(b9 v2)] (·=(aw r)):=by
 rw[uP]at hF;refine aR Tryz.func299 ?_;obtain⟨v3,h1,hF⟩:=ao hF;refine au af [[],[(13,oQ [(.d (.sl (b5 v1.xL))),(.d (.sl (b5 v2.xL))),(.fn 327 [])] [.cells (b9 v1).cells, .cells (b9 v2).cells] [] (Y5 N v1.xL v2.xL v3 h1))],[]] ?_;refine bc hF (fun h2 hF=> ?_) fun h2 hF=> ?_
 ·cases hF;exact wr af [[(0,bT h2)],[]]
 obtain⟨v4,h3,hF⟩:=ao hF;obtain rfl:=sj hF;exact wr af [[(0,bF h2)],[(13,cL (RW N v1.xK v2.xK v4 h3))]]
def ou(N:Nat)(v1:ak3 aF)(v2:ak3 aF):ak3 aF→Nat→ak5 Int
 |[],_=>
  bif (decide ((v1.length:Int)<(v2.length:Int)))then
   some (-1:Int)
  else
   some (0:Int)
 |v5::v6,v3=>
  bif (decide ((v3:Int)≥(v2.length:Int)))then
   some (1:Int)
  else
   Option.bind (v2[((v3:Int)).toNat]?) fun v7=>
   Option.bind (uP N v5 v7) fun v8=>
   bif (v8 !=(0:Int))then
    some v8
   else
    (ou N v1 v2 v6 (v3+1))
def JK(N:Nat)(v1:ak3 aF)(v2:ak3 aF):ak5 Int:=
 ou N v1 v2 v1 0
theorem acF(N:Nat)(v1:ak3 aF)(v2:ak3 aF)(r:Int)(hF:JK N v1 v2=some r):bQ Tryz.prog 341 [(.d (.sl (du v1))),(.d (.sl (du v2))),(.fn 299 [])] [] fun r1 h1=>r1=(aw r)∧h1=[]:=by
 rw[JK]at hF;refine eE 0 Tryz.func341 ?_;refine au af [[],[(4,oL v1 eV)]] ?_;refine fP L7 0 v1 fun h2=> ?_;refine fJ af 1 [] [0,1,2,11,12,13] 0 v1 (fun v3=>⟨39,[(0,(.d (.sl (du v1)))),(1,(.d (.sl (du v2)))),(2,(.fn 299 [])),(11,(.d (.sl (du v1)))),(12,(aw (v1.length:Int))),(13,(aw (v3:Int)))],[]⟩) (ou N v1 v2) hF ?_ ?_
 ·intro v3 h3 hF f1;rw[ou]at hF;refine au af [[],[(0,bF (cM h3))],[(4,oL v1 eV),(10,oL v2 eV)]] ?_;refine bc hF (fun h4 hF=> ?_) fun h4 hF=> ?_
  ·cases hF;exact cK af [[(0,bT h4)],[]]
  cases hF;exact cK af [[(0,bF h4)],[]]
 intro v3 v5 v6 h3 hF f1 aO;rw[ou]at hF;refine au af [[],[(0,bT (cF h3))],[(4,oE (mR (cd h3)))],[(7,oL v2 eV)]] ?_;refine bc hF (fun h5 hF=> ?_) fun h5 hF=> ?_
 ·cases hF;exact cK af [[(0,bT h5)],[]]
 obtain⟨v7,h6,hF⟩:=ao hF;obtain⟨v8,h8,hF⟩:=ao hF;refine au af [[(0,bF h5)],[(7,oE (mR h6))],[(10,cL (Nc N v5 v7 v8 h8))],[]] ?_;refine bc hF (fun h9 hF=> ?_) fun h9 hF=> ?_
 ·cases hF;exact cK af [[(0,bT h9)],[]]
 exact wb af aO () [[(0,bF h9)],[(2,oq (dj h3 rfl h2))]] h3 hF
def C6(N:Nat)(v1:ak3 aF)(v2:ak3 aF):ak5 Int:=
 Option.bind (mf N (v1.length:Int) (v2.length:Int)) fun v3=>
 bif (v3 !=(0:Int))then
  some v3
 else
  Option.bind (JK N v1 v2) fun v4=>
  some v4
theorem Yv(N:Nat)(v1:ak3 aF)(v2:ak3 aF)(r:Int)(hF:C6 N v1 v2=some r):bQ Tryz.prog 330 [(.d (.sl (du v1))),(.d (.sl (du v2))),(.fn 299 [])] [] fun r1 h1=>r1=(aw r)∧h1=[]:=by
 rw[C6]at hF;refine eE 0 Tryz.func330 ?_;obtain⟨v3,h1,hF⟩:=ao hF;refine au af [[],[(4,oL v1 eV),(10,oL v2 eV),(13,cL (qG N (v1.length:Int) (v2.length:Int) v3 h1))],[]] ?_;refine bc hF (fun h2 hF=> ?_) fun h2 hF=> ?_
 ·cases hF;exact cK af [[(0,bT h2)],[]]
 obtain⟨v4,h3,hF⟩:=ao hF;obtain rfl:=sj hF;exact cK af [[(0,bF h2)],[(10,oQ [(.d (.sl (du v1))),(.d (.sl (du v2))),(.fn 299 [])] [] [] (acF N v1 v2 v4 h3))]]
def E7(N:Nat)(v1:aH)(v2:aH):ak5 Int:=
 Option.bind (Ed N v1.xFrom v2.xFrom) fun v3=>
 bif (v3 !=(0:Int))then
  some v3
 else
  Option.bind (uP N v1.aM v2.aM) fun v4=>
  bif (v4 !=(0:Int))then
   some v4
  else
   Option.bind (C6 N v1.bD v2.bD) fun v5=>
   some v5
theorem aik(N:Nat)(v1:aH)(v2:aH)(r:Int)(hF:E7 N v1 v2=some r):aG Tryz.prog 301 [(gA v1),(gA v2)] (·=(aw r)):=by
 rw[E7]at hF;refine aR Tryz.func301 ?_;obtain⟨v3,h1,hF⟩:=ao hF;refine au af [[],[(13,cL (Oc N v1.xFrom v2.xFrom v3 h1))],[]] ?_;refine bc hF (fun h2 hF=> ?_) fun h2 hF=> ?_
 ·cases hF;exact wr af [[(0,bT h2)],[]]
 obtain⟨v4,h3,hF⟩:=ao hF;refine au af [[(0,bF h2)],[(13,cL (Nc N v1.aM v2.aM v4 h3))],[]] ?_;refine bc hF (fun h4 hF=> ?_) fun h4 hF=> ?_
 ·cases hF;exact wr af [[(0,bT h4)],[]]
 obtain⟨v5,h5,hF⟩:=ao hF;obtain rfl:=sj hF;exact wr af [[(0,bF h4)],[(13,oQ [(.d (.sl (du v1.bD))),(.d (.sl (du v2.bD))),(.fn 299 [])] [.cells (gA v1).cells, .cells (gA v2).cells] [] (Yv N v1.bD v2.bD v5 h5))]]
def oz(N:Nat)(v1:ak3 aH)(v2:ak3 aH):ak3 aH→Nat→ak5 Int
 |[],_=>
  bif (decide ((v1.length:Int)<(v2.length:Int)))then
   some (-1:Int)
  else
   some (0:Int)
 |v5::v6,v3=>
  bif (decide ((v3:Int)≥(v2.length:Int)))then
   some (1:Int)
  else
   Option.bind (v2[((v3:Int)).toNat]?) fun v7=>
   Option.bind (E7 N v5 v7) fun v8=>
   bif (v8 !=(0:Int))then
    some v8
   else
    (oz N v1 v2 v6 (v3+1))
def F3(N:Nat)(v1:ak3 aH)(v2:ak3 aH):ak5 Int:=
 oz N v1 v2 v1 0
theorem X1(N:Nat)(v1:ak3 aH)(v2:ak3 aH)(r:Int)(hF:F3 N v1 v2=some r):bQ Tryz.prog 329 [(.d (.sl (cm v1))),(.d (.sl (cm v2))),(.fn 301 [])] [] fun r1 h1=>r1=(aw r)∧h1=[]:=by
 rw[F3]at hF;refine eE 0 Tryz.func329 ?_;refine au af [[],[(4,oL v1 dP)]] ?_;refine fP mV 0 v1 fun h2=> ?_;refine fJ af 1 [] [0,1,2,11,12,13] 0 v1 (fun v3=>⟨39,[(0,(.d (.sl (cm v1)))),(1,(.d (.sl (cm v2)))),(2,(.fn 301 [])),(11,(.d (.sl (cm v1)))),(12,(aw (v1.length:Int))),(13,(aw (v3:Int)))],[]⟩) (oz N v1 v2) hF ?_ ?_
 ·intro v3 h3 hF f1;rw[oz]at hF;refine au af [[],[(0,bF (cM h3))],[(4,oL v1 dP),(10,oL v2 dP)]] ?_;refine bc hF (fun h4 hF=> ?_) fun h4 hF=> ?_
  ·cases hF;exact cK af [[(0,bT h4)],[]]
  cases hF;exact cK af [[(0,bF h4)],[]]
 intro v3 v5 v6 h3 hF f1 aO;rw[oz]at hF;refine au af [[],[(0,bT (cF h3))],[(4,oE (fI (cd h3)))],[(7,oL v2 dP)]] ?_;refine bc hF (fun h5 hF=> ?_) fun h5 hF=> ?_
 ·cases hF;exact cK af [[(0,bT h5)],[]]
 obtain⟨v7,h6,hF⟩:=ao hF;obtain⟨v8,h8,hF⟩:=ao hF;refine au af [[(0,bF h5)],[(7,oE (fI h6))],[(10,cL (aik N v5 v7 v8 h8))],[]] ?_;refine bc hF (fun h9 hF=> ?_) fun h9 hF=> ?_
 ·cases hF;exact cK af [[(0,bT h9)],[]]
 exact wb af aO () [[(0,bF h9)],[(2,oq (dj h3 rfl h2))]] h3 hF
def EU(N:Nat)(v1:ak3 aH)(v2:ak3 aH):ak5 Int:=
 Option.bind (mf N (v1.length:Int) (v2.length:Int)) fun v3=>
 bif (v3 !=(0:Int))then
  some v3
 else
  Option.bind (F3 N v1 v2) fun v4=>
  some v4
theorem ajc(N:Nat)(v1:ak3 aH)(v2:ak3 aH)(r:Int)(hF:EU N v1 v2=some r):bQ Tryz.prog 300 [(.d (.sl (cm v1))),(.d (.sl (cm v2))),(.fn 301 [])] [] fun r1 h1=>r1=(aw r)∧h1=[]:=by
 rw[EU]at hF;refine eE 0 Tryz.func300 ?_;obtain⟨v3,h1,hF⟩:=ao hF;refine au af [[],[(4,oL v1 dP),(10,oL v2 dP),(13,cL (qG N (v1.length:Int) (v2.length:Int) v3 h1))],[]] ?_;refine bc hF (fun h2 hF=> ?_) fun h2 hF=> ?_
 ·cases hF;exact cK af [[(0,bT h2)],[]]
 obtain⟨v4,h3,hF⟩:=ao hF;obtain rfl:=sj hF;exact cK af [[(0,bF h2)],[(10,oQ [(.d (.sl (cm v1))),(.d (.sl (cm v2))),(.fn 301 [])] [] [] (X1 N v1 v2 v4 h3))]]
def oO(N:Nat)(v1:ak3 an)(v2:ak3 an)(Tj:an→an→ak5 Int):ak3 an→Nat→ak5 Int
 |[],_=>
  bif (decide ((v1.length:Int)<(v2.length:Int)))then
   some (-1:Int)
  else
   some (0:Int)
 |v5::v6,v3=>
  bif (decide ((v3:Int)≥(v2.length:Int)))then
   some (1:Int)
  else
   Option.bind (v2[((v3:Int)).toNat]?) fun v7=>
   Option.bind (Tj v5 v7) fun v8=>
   bif (v8 !=(0:Int))then
    some v8
   else
    (oO N v1 v2 Tj v6 (v3+1))
mutual
def rf(N:Nat):Nat→an→an→ak5 Int
 |0,_,_=>none
 |d+1,v1,v2=>
  Option.bind (mf N v1.ar v2.ar) fun v3=>
  Option.bind (Ed N v1.aV v2.aV) fun v4=>
  Option.bind (zG N v1.ba.xN v2.ba.xN) fun v5=>
  Option.bind (zG N v1.ba.xD v2.ba.xD) fun v6=>
  Option.bind (Dp N v1.aD v2.aD) fun v7=>
  Option.bind (uP N v1.aM v2.aM) fun v8=>
  Option.bind (AT N ([v3,v4,v5,v6,v7,v8])) fun v9=>
  bif (v9 !=(0:Int))then
   some v9
  else
   Option.bind (EU N v1.xIdx v2.xIdx) fun v10=>
   bif (v10 !=(0:Int))then
    some v10
   else
    Option.bind ((Ey N d) v1.ax v2.ax) fun v11=>
    some v11
def Ey(N:Nat):Nat→(ak3 an)→(ak3 an)→ak5 Int
 |0,_,_=>none
 |d+1,v1,v2=>
  Option.bind (mf N (v1.length:Int) (v2.length:Int)) fun v3=>
  bif (v3 !=(0:Int))then
   some v3
  else
   Option.bind ((FP N d) v1 v2) fun v4=>
   some v4
def FP(N:Nat):Nat→(ak3 an)→(ak3 an)→ak5 Int
 |0,_,_=>none
 |d+1,v1,v2=>
  oO N v1 v2 (rf N d) v1 0
end
def NJ(N:Nat)(v1:an)(v2:an):ak5 Int:=rf N N v1 v2
theorem aiu(N:Nat):∀d:Nat,(∀(v1:an)(v2:an)(r:Int),rf N d v1 v2=some r→aG Tryz.prog 244 [(aA v1),(aA v2)] (·=(aw r)))∧(∀(v1:ak3 an)(v2:ak3 an)(r:Int),Ey N d v1 v2=some r→bQ Tryz.prog 302 [(.d (.sl (cq v1))),(.d (.sl (cq v2))),(.fn 244 [])] [] fun r1 h1=>r1=(aw r)∧h1=[])∧(∀(v1:ak3 an)(v2:ak3 an)(r:Int),FP N d v1 v2=some r→bQ Tryz.prog 331 [(.d (.sl (cq v1))),(.d (.sl (cq v2))),(.fn 244 [])] [] fun r1 h1=>r1=(aw r)∧h1=[]):=by
 intro d
 induction d with
 |zero=>exact⟨fun v1 v2 r hF=>(by rw[rf]at hF;cases hF),fun v1 v2 r hF=>(by rw[Ey]at hF;cases hF),fun v1 v2 r hF=>(by rw[FP]at hF;cases hF)⟩
 |succ d ih=>
  have ag4:=ih.1;have ahb:=ih.2.1;have adn:=ih.2.2;refine⟨?_,?_,?_⟩
  ·intro v1 v2 r hF;rw[rf]at hF;refine aR Tryz.func244 ?_;obtain⟨v3,h1,hF⟩:=ao hF;obtain⟨v4,h2,hF⟩:=ao hF;obtain⟨v5,h3,hF⟩:=ao hF;obtain⟨v6,h4,hF⟩:=ao hF;obtain⟨v7,h5,hF⟩:=ao hF;obtain⟨v8,h6,hF⟩:=ao hF;obtain⟨v9,h7,hF⟩:=ao hF;refine au af [[],[(13,cL (qG N v1.ar v2.ar v3 h1)),(28,cL (Oc N v1.aV v2.aV v4 h2)),(49,cL (Um N v1.ba.xN v2.ba.xN v5 h3)),(70,cL (Um N v1.ba.xD v2.ba.xD v6 h4)),(85,cL (abd N v1.aD v2.aD v7 h5)),(100,cL (Nc N v1.aM v2.aM v8 h6)),(106,cL (QH N ([v3,v4,v5,v6,v7,v8]) v9 h7))],[]] ?_;refine bc hF (fun h8 hF=> ?_) fun h8 hF=> ?_
   ·cases hF;exact wr af [[(0,bT h8)],[]]
   obtain⟨v10,h9,hF⟩:=ao hF;refine au af [[(0,bF h8)],[(13,oQ [(.d (.sl (cm v1.xIdx))),(.d (.sl (cm v2.xIdx))),(.fn 301 [])] [.cells (aA v1).cells, .cells (aA v2).cells] [] (ajc N v1.xIdx v2.xIdx v10 h9))],[]] ?_;refine bc hF (fun az hF=> ?_) fun az hF=> ?_
   ·cases hF;exact wr af [[(0,bT az)],[]]
   obtain⟨v11,aE,hF⟩:=ao hF;obtain rfl:=sj hF;exact wr af [[(0,bF az)],[(13,oQ [(.d (.sl (cq v1.ax))),(.d (.sl (cq v2.ax))),(.fn 244 [])] [.cells (aA v1).cells, .cells (aA v2).cells] [] (ahb v1.ax v2.ax v11 aE))]]
  ·intro v1 v2 r hF;rw[Ey]at hF;refine eE 0 Tryz.func302 ?_;obtain⟨v3,h1,hF⟩:=ao hF;refine au af [[],[(4,oL v1 dC),(10,oL v2 dC),(13,cL (qG N (v1.length:Int) (v2.length:Int) v3 h1))],[]] ?_;refine bc hF (fun h2 hF=> ?_) fun h2 hF=> ?_
   ·cases hF;exact cK af [[(0,bT h2)],[]]
   obtain⟨v4,h3,hF⟩:=ao hF;obtain rfl:=sj hF;exact cK af [[(0,bF h2)],[(10,oQ [(.d (.sl (cq v1))),(.d (.sl (cq v2))),(.fn 244 [])] [] [] (adn v1 v2 v4 h3))]]
  intro v1 v2 r hF;rw[FP]at hF;refine eE 0 Tryz.func331 ?_;refine au af [[],[(4,oL v1 dC)]] ?_;refine fP lf 0 v1 fun h2=> ?_;refine fJ af 1 [] [0,1,2,11,12,13] 0 v1 (fun v3=>⟨39,[(0,(.d (.sl (cq v1)))),(1,(.d (.sl (cq v2)))),(2,(.fn 244 [])),(11,(.d (.sl (cq v1)))),(12,(aw (v1.length:Int))),(13,(aw (v3:Int)))],[]⟩) (oO N v1 v2 (rf N d)) hF ?_ ?_
  ·intro v3 h3 hF f1;rw[oO]at hF;refine au af [[],[(0,bF (cM h3))],[(4,oL v1 dC),(10,oL v2 dC)]] ?_;refine bc hF (fun h4 hF=> ?_) fun h4 hF=> ?_
   ·cases hF;exact cK af [[(0,bT h4)],[]]
   cases hF;exact cK af [[(0,bF h4)],[]]
  intro v3 v5 v6 h3 hF f1 aO;rw[oO]at hF;refine au af [[],[(0,bT (cF h3))],[(4,oE (bt (cd h3)))],[(7,oL v2 dC)]] ?_;refine bc hF (fun h5 hF=> ?_) fun h5 hF=> ?_
  ·cases hF;exact cK af [[(0,bT h5)],[]]
  obtain⟨v7,h6,hF⟩:=ao hF;obtain⟨v8,h8,hF⟩:=ao hF;refine au af [[(0,bF h5)],[(7,oE (bt h6))],[(10,cL (ag4 v5 v7 v8 h8))],[]] ?_;refine bc hF (fun h9 hF=> ?_) fun h9 hF=> ?_
  ·cases hF;exact cK af [[(0,bT h9)],[]]
  exact wb af aO () [[(0,bF h9)],[(2,oq (dj h3 rfl h2))]] h3 hF
theorem adv(N:Nat)(v1:an)(v2:an)(r:Int)(hF:NJ N v1 v2=some r):aG Tryz.prog 244 [(aA v1),(aA v2)] (·=(aw r)):=(aiu N N).1 v1 v2 r hF
def nf(N:Nat)(v1:an)(v2:an):ak5 Bool:=
 Option.bind (NJ N v1 v2) fun v3=>
 some (v3==(0:Int))
theorem Cn(N:Nat)(v1:an)(v2:an)(r:Bool)(hF:nf N v1 v2=some r):aG Tryz.prog 185 [(aA v1),(aA v2)] (·=(aB r)):=by
 rw[nf]at hF;refine aR Tryz.func185 ?_;obtain⟨v3,h1,hF⟩:=ao hF;cases hF;exact wr af [[],[(7,cL (adv N v1 v2 v3 h1))]]
def Ah(N:Nat)(v2:an)(v3:an)(v1:an):ak5 (Bool×Bool):=
 Option.bind (nf N v2 v3) fun v10=>
 bif v10 then
  some ((v1.ar !=(13:Int)),true)
 else
  some (false,false)
def tq(N:Nat)(v1:an):ak5 (Bool×Bool):=
 Option.bind (v1.ax[0]?) fun v2=>
 Option.bind (v1.ax[1]?) fun v3=>
 Option.bind (bif (v2.ar==(1:Int))then(bif (v3.ar==(1:Int))then some ((v2.aD.a8==v3.aD.a8)&&((v2.aD.bz==v3.aD.bz)&&((v2.aD.xFrac==v3.aD.xFrac)&&((v2.aD.bK==v3.aD.bK)&&((v2.aD.bM==v3.aD.bM)&&true)))))else some false)else some false) fun v4=>
 bif v4 then
  Option.bind (A3 N v2.aD v2.ba v3.ba) fun v5=>
  Option.bind (sb N v1.ar v5) fun v6=>
  some (v6,true)
 else
  Option.bind (oh N v2) fun v7=>
  Option.bind (oh N v3) fun v8=>
  Option.bind (bif v7.2 then some v8.2 else some false) fun v9=>
  bif v9 then
   Option.bind (uU N v7.1 v8.1) fun v11=>
   Option.bind (bif v11.2 then some ((v11.1.xL.length:Int)==(0:Int))else some false) fun v12=>
   bif v12 then
    bif (decide (v11.1.xK.toInt<(0:Int)))then
     Option.bind (sb N v1.ar (-1:Int)) fun aX=>
     some (aX,true)
    else
     bif (decide (v11.1.xK.toInt>(0:Int)))then
      Option.bind (sb N v1.ar (1:Int)) fun bu=>
      some (bu,true)
     else
      Option.bind (sb N v1.ar (0:Int)) fun bN=>
      some (bN,true)
   else
    Ah N v2 v3 v1
  else
   Ah N v2 v3 v1
def Cp(v1:an)(v2:an)(v3:an)(l:ak3 aq):ak3 aq:= .cells (aA v1).cells:: .cells (aA v2).cells:: .cells (aA v3).cells::l
theorem afg(N:Nat)(v1:an)(r:Bool×Bool)(hF:tq N v1=some r):aG Tryz.prog 243 [(aA v1)] (·=(.bk [(aB r.1),(aB r.2)])):=by
 rw[tq]at hF;refine aR Tryz.func243 ?_;refine au af [[]] ?_;obtain⟨v2,h1,hF⟩:=ao hF;obtain⟨v3,h2,hF⟩:=ao hF;refine mq 20 af [(4,(.ptr 1 0)),(5,(.ptr 2 0))] (Cp v1 v2 v3 []) ⟨[(7,oE (k:=0) (bt h1)),(19,oE (k:=1) (bt h2))],by kernel_rfl⟩ ?_;obtain⟨v4,h5,hF⟩:=ao hF;refine bf af [(35,(aB v4))] (Cp v1 v2 v3 []) ?_ ?_
 ·refine bc h5 (fun h3 h5=> ?_) fun h3 h5=> ?_
  ·refine bc h5 (fun h4 h5=> ?_) fun h4 h5=> ?_
   ·cases h5;exact⟨[(3,bT h3),(8,bT h4)],[],by kernel_rfl⟩
   cases h5;exact⟨[(3,bT h3),(8,bF h4)],[],by kernel_rfl⟩
  cases h5;exact⟨[(3,bF h3),(8,bF rfl)],[],by kernel_rfl⟩
 refine bc hF (fun h6 hF=> ?_) fun h6 hF=> ?_
 ·obtain⟨v5,h7,hF⟩:=ao hF;obtain⟨v6,h8,hF⟩:=ao hF;cases hF;exact wr af [[(0,bT h6)],[(25,cL (Uo N v2.aD v2.ba v3.ba v5 h7)),(28,cL (GL N v1.ar v5 v6 h8))]]
 obtain⟨v7,h9,hF⟩:=ao hF;obtain⟨v8,az,hF⟩:=ao hF;refine au af [[(0,bF h6)],[(4,cL (H7 N v2 v7 h9))],[(4,cL (H7 N v3 v8 az))]] ?_;obtain⟨v9,aK,hF⟩:=ao hF;refine bf af [(59,(aB v9))] (Cp v1 v2 v3 [.cells (b9 v7.1).cells, .cells (b9 v8.1).cells]) ?_ ?_
 ·refine bc aK (fun aE aK=> ?_) fun aE aK=> ?_
  ·cases aK;exact⟨[(1,bT aE)],[],by kernel_rfl⟩
  cases aK;exact⟨[(1,bF aE)],[],by kernel_rfl⟩
 refine Xb af r 1 [] [1,4,5] 5 ⟨91,[(1,(.ptr 0 0)),(4,(.ptr 1 0)),(5,(.ptr 2 0))],(Cp v1 v2 v3 [.cells (b9 v7.1).cells, .cells (b9 v8.1).cells])⟩ (Ah N v2 v3 v1) ?_ ?_
 ·intro f1 aO;refine bc hF (fun bp hF=> ?_) fun bp hF=> ?_
  ·obtain⟨v11,aL,hF⟩:=ao hF;refine au af [[(0,bT bp)],[(7,cL (Rt N v7.1 v8.1 v11 aL))]] ?_;obtain⟨v12,aZ,hF⟩:=ao hF;refine bf af [(72,(aB v12))] (Cp v1 v2 v3 [.cells (b9 v7.1).cells, .cells (b9 v8.1).cells, .cells (b9 v11.1).cells]) ?_ ?_
   ·refine bc aZ (fun bn aZ=> ?_) fun bn aZ=> ?_
    ·cases aZ;exact⟨[(1,bT bn)],[(13,oL v11.1.xL dg)],by kernel_rfl⟩
    cases aZ;exact⟨[(1,bF bn)],[],by kernel_rfl⟩
   refine bc hF (fun bU hF=> ?_) fun bU hF=> ?_
   ·refine au af [[(0,bT bU)],[],[]] ?_;refine bc hF (fun bC hF=> ?_) fun bC hF=> ?_
    ·obtain⟨aX,cl,hF⟩:=ao hF;cases hF;exact wr af [[(0,bT bC)],[],[(10,cL (GL N v1.ar (-1:Int) aX cl))]]
    refine au af [[(0,bF bC)],[]] ?_;refine bc hF (fun bw hF=> ?_) fun bw hF=> ?_
    ·obtain⟨bu,cT,hF⟩:=ao hF;cases hF;exact wr af [[(0,bT bw)],[],[(10,cL (GL N v1.ar (1:Int) bu cT))]]
    obtain⟨bN,cE,hF⟩:=ao hF;cases hF;exact wr af [[(0,bF bw)],[(10,cL (GL N v1.ar (0:Int) bN cE))]]
   exact bP af aO () [[(0,bF bU)]] hF
  exact bP af aO () [[(0,bF bp)]] hF
 intro hF;rw[Ah]at hF;obtain⟨v10,aY,hF⟩:=ao hF;refine au af [[(7,cL (Cn N v2 v3 v10 aY))]] ?_;refine bc hF (fun aJ hF=> ?_) fun aJ hF=> ?_
 ·cases hF;exact wr af [[(0,bT aJ)],[]]
 cases hF;exact wr af [[(0,bF aJ)],[]]
end Go.Proofs.YtpgmcallngdceaaGreatDoor
