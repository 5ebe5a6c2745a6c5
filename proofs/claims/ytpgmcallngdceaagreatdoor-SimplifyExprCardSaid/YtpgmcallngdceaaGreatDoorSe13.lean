/-
  Part 13 of the proof: PQ4.
-/
import Derived.Test.YtpgmcallngdceaaGreatDoorSe12
namespace Go.Proofs.YtpgmcallngdceaaGreatDoor
open Go.RowKit
set_option maxRecDepth 100000
set_option maxHeartbeats 0
set_option linter.unusedVariables false
def J2(N:Nat)(v1:an)(Ab:an→ak5 (Bool×Bool))(v7:Bool):ak5 (Bool×Bool):=
 bif v7 then
  Option.bind (v1.ax[0]?) fun v8=>
  Option.bind (Ab v8) fun v9=>
  Option.bind (v1.ax[1]?) fun v10=>
  Option.bind (Ab v10) fun v11=>
  Option.bind (bif v9.2 then(bif (v9.1==(v1.ar==(17:Int)))then some true else(bif v11.2 then some (v11.1==(v1.ar==(17:Int)))else some false))else(bif v11.2 then some (v11.1==(v1.ar==(17:Int)))else some false)) fun v12=>
  bif v12 then
   some ((v1.ar==(17:Int)),true)
  else
   Option.bind (bif (v1.ar==(17:Int))then(bif v9.2 then some (false,v11.2)else some (false,false))else(bif v9.2 then some (v11.2,v11.2)else some (false,false))) fun aX=>
   some (aX.1,aX.2)
 else
  some (false,false)
def De(N:Nat)(v1:an)(Ab:an→ak5 (Bool×Bool))(v2:Bool):ak5 (Bool×Bool):=
 bif v2 then
  Option.bind (tq N v1) fun v3=>
  some (v3.1,v3.2)
 else
  bif (v1.ar==(18:Int))then
   Option.bind (v1.ax[0]?) fun v4=>
   Option.bind (Ab v4) fun v5=>
   Option.bind (bif v5.2 then some (!v5.1)else some false) fun v6=>
   some (v6,v5.2)
  else
   bif (v1.ar==(16:Int))then
    J2 N v1 Ab (v1.ar==(16:Int))
   else
    J2 N v1 Ab (v1.ar==(17:Int))
def jw(N:Nat):Nat→an→ak5 (Bool×Bool)
 |0,_=>none
 |d+1,v1=>
  bif (v1.ar==(13:Int))then
   De N v1 (jw N d) (v1.ar==(13:Int))
  else
   bif (v1.ar==(14:Int))then
    De N v1 (jw N d) (v1.ar==(14:Int))
   else
    De N v1 (jw N d) (v1.ar==(15:Int))
def xw(N:Nat)(v1:an):ak5 (Bool×Bool):=jw N N v1
def Dy(v1:an)(l:ak3 aq):ak3 aq:= .cells (aA v1).cells::l
theorem Yg(N:Nat):∀d:Nat,(∀(v1:an)(r:Bool×Bool),jw N d v1=some r→aG Tryz.prog 184 [(aA v1)] (·=(.bk [(aB r.1),(aB r.2)]))):=by
 intro d
 induction d with
 |zero=>intro v1 r hF;rw[jw]at hF;cases hF
 |succ d ih=>
  have Kw:=ih;intro v1 r hF;rw[jw]at hF;refine aR Tryz.func184 ?_;refine gY af r 1 [[],[],[]] [1,12,13] 1 (fun(v2:Bool)=>⟨86,[(1,(.ptr 0 0)),(12,(aw v1.ar)),(13,(aB v2))],(Dy v1 [])⟩) (De N v1 (jw N d)) ?_ ?_
  ·intro f1 aO;refine bc hF (fun cE hF=> ?_) fun cE hF=> ?_
   ·exact bP af aO (v1.ar==(13:Int)) [[(0,bT cE)]] hF
   refine au af [[(0,bF cE)],[]] ?_;refine bc hF (fun eR hF=> ?_) fun eR hF=> ?_
   ·exact bP af aO (v1.ar==(14:Int)) [[(0,bT eR)]] hF
   exact bP af aO (v1.ar==(15:Int)) [[(0,bF eR)],[]] hF
  intro v2 hF;rw[De]at hF;refine bc hF (fun h1 hF=> ?_) fun h1 hF=> ?_
  ·obtain⟨v3,h2,hF⟩:=ao hF;cases hF;exact wr af [[(0,bT h1)],[(4,cL (afg N v1 v3 h2))]]
  refine au af [[(0,bF h1)],[]] ?_;refine bc hF (fun h3 hF=> ?_) fun h3 hF=> ?_
  ·obtain⟨v4,h4,hF⟩:=ao hF;obtain⟨v5,h5,hF⟩:=ao hF;refine au af [[(0,bT h3)],[(7,oE (k:=0) (bt h4)),(13,cL (Kw v4 v5 h5))]] ?_;obtain⟨v6,h7,hF⟩:=ao hF;refine bf af [(2,(aB v6)),(3,(aB v5.2))] (Dy v1 []) ?_ ?_
   ·refine bc h7 (fun h6 h7=> ?_) fun h6 h7=> ?_
    ·cases h7;exact⟨[(1,bT h6)],[],by kernel_rfl⟩
    cases h7;exact⟨[(1,bF h6)],[],by kernel_rfl⟩
   cases hF;exact wr af []
  refine gY af r 2 [[(0,bF h3)],[]] [1,37] 1 (fun(v7:Bool)=>⟨86,[(1,(.ptr 0 0)),(37,(aB v7))],(Dy v1 [])⟩) (J2 N v1 (jw N d)) ?_ ?_
  ·intro f2 eH;refine bc hF (fun cT hF=> ?_) fun cT hF=> ?_
   ·exact bP af eH (v1.ar==(16:Int)) [[(0,bT cT)]] hF
   exact bP af eH (v1.ar==(17:Int)) [[(0,bF cT)],[]] hF
  intro v7 hF;rw[J2]at hF;refine bc hF (fun h8 hF=> ?_) fun h8 hF=> ?_
  ·obtain⟨v8,h9,hF⟩:=ao hF;obtain⟨v9,az,hF⟩:=ao hF;obtain⟨v10,aE,hF⟩:=ao hF;obtain⟨v11,aK,hF⟩:=ao hF;refine au af [[(0,bT h8)],[(7,oE (k:=0) (bt h9)),(13,cL (Kw v8 v9 az))],[(7,oE (k:=1) (bt aE)),(13,cL (Kw v10 v11 aK))],[]] ?_;obtain⟨v12,bn,hF⟩:=ao hF;refine bf af [(72,(aB v12))] (Dy v1 []) ?_ ?_
   ·refine bc bn (fun aY bn=> ?_) fun aY bn=> ?_
    ·refine bc bn (fun aJ bn=> ?_) fun aJ bn=> ?_
     ·cases bn;exact⟨[(1,bT aY),(6,bT aJ),(8,uN)],[],by kernel_rfl⟩
     refine bc bn (fun bp bn=> ?_) fun bp bn=> ?_
     ·cases bn;exact⟨[(1,bT aY),(6,bF aJ),(8,bT bp)],[(37,bT bp)],by kernel_rfl⟩
     cases bn;exact⟨[(1,bT aY),(6,bF aJ),(8,bF bp)],[(37,bF bp)],by kernel_rfl⟩
    refine bc bn (fun aL bn=> ?_) fun aL bn=> ?_
    ·cases bn;exact⟨[(1,bF aY),(6,bF rfl),(8,bT aL)],[(37,bT aL)],by kernel_rfl⟩
    cases bn;exact⟨[(1,bF aY),(6,bF rfl),(8,bF aL)],[(37,bF aL)],by kernel_rfl⟩
   refine bc hF (fun aZ hF=> ?_) fun aZ hF=> ?_
   ·cases hF;exact wr af [[(0,bT aZ)],[]]
   refine au af [[(0,bF aZ)]] ?_;obtain⟨aX,bw,hF⟩:=ao hF;refine bf af [(2,(aB aX.1)),(3,(aB aX.2))] (Dy v1 []) ?_ ?_
   ·refine bc bw (fun bU bw=> ?_) fun bU bw=> ?_
    ·refine bc bw (fun bC bw=> ?_) fun bC bw=> ?_
     ·cases bw;exact⟨[(2,bF (bG bU)),(5,bF rfl),(9,bT bC)],[],by kernel_rfl⟩
     cases bw;exact⟨[(2,bF (bG bU)),(5,bF rfl),(9,bF bC)],[],by kernel_rfl⟩
    refine bc bw (fun cl bw=> ?_) fun cl bw=> ?_
    ·cases bw;exact⟨[(2,bT (bS bU)),(5,bT cl),(9,bT cl)],[],by kernel_rfl⟩
    cases bw;exact⟨[(2,bT (bS bU)),(5,bF cl),(9,bF cl)],[],by kernel_rfl⟩
   cases hF;exact wr af []
  cases hF;exact wr af [[(0,bF h8)],[]]
theorem Ny(N:Nat)(v1:an)(r:Bool×Bool)(hF:xw N v1=some r):aG Tryz.prog 184 [(aA v1)] (·=(.bk [(aB r.1),(aB r.2)])):=(Yg N N) v1 r hF
def EV(N:Nat)(v1:cB):ak5 (an×Bool):=
 bif (v1.yE.ar !=(11:Int))then
  some (eo,false)
 else
  Option.bind (v1.yE.ax[0]?) fun v2=>
  Option.bind (xw N v2) fun v3=>
  bif v3.1 then
   Option.bind (v1.yE.ax[1]?) fun v4=>
   some (v4,v3.2)
  else
   Option.bind (v1.yE.ax[2]?) fun v5=>
   some (v5,v3.2)
theorem aiM(N:Nat)(v1:cB)(r:an×Bool)(hF:EV N v1=some r):aG Tryz.prog 108 [(bI v1)] (·=(.bk [(aA r.1),(aB r.2)])):=by
 rw[EV]at hF;refine aR Tryz.func108 ?_;refine au af [[],[]] ?_;refine bc hF (fun h1 hF=> ?_) fun h1 hF=> ?_
 ·cases hF;exact wr af [[(0,bT h1)],[]]
 obtain⟨v2,h2,hF⟩:=ao hF;obtain⟨v3,h3,hF⟩:=ao hF;refine au af [[(0,bF h1)],[(10,oE (k:=0) (bt h2)),(16,cL (Ny N v2 v3 h3))],[]] ?_;refine bc hF (fun h4 hF=> ?_) fun h4 hF=> ?_
 ·obtain⟨v4,h5,hF⟩:=ao hF;cases hF;exact wr af [[(0,bT h4)],[(10,oE (k:=1) (bt h5))]]
 obtain⟨v5,h6,hF⟩:=ao hF;cases hF;exact wr af [[(0,bF h4)],[(10,oE (k:=2) (bt h6))]]
def IW(N:Nat)(v5:an×Bool)(v6:ak4)(v7:an):ak5 (Bool×ak4×Int×ak4×Int64×Int64×Int×Int×Int×Int×Int×Int64×(ak3 aU)×(ak3 aH)×(ak3 an)):=
 some (v5.2,v6,v7.ar,v7.aV,v7.ba.xN,v7.ba.xD,v7.aD.a8,v7.aD.bz,v7.aD.xFrac,v7.aD.bK,v7.aD.bM,v7.aM.xK,v7.aM.xL,v7.xIdx,v7.ax)
def Is(N:Nat)(v1:cB)(v2:ak4)(v3:ak4)(v4:an):ak5 (Bool×ak4×Int×ak4×Int64×Int64×Int×Int×Int×Int×Int×Int64×(ak3 aU)×(ak3 aH)×(ak3 an)):=
 Option.bind (EV N v1) fun v5=>
 bif v5.2 then
  IW N v5 v2 v5.1
 else
  IW N v5 v3 v4
theorem tZ(N:Nat)(v1:cB)(v2:ak4)(v3:ak4)(v4:an)(r:Bool×ak4×Int×ak4×Int64×Int64×Int×Int×Int×Int×Int×Int64×(ak3 aU)×(ak3 aH)×(ak3 an))(hF:Is N v1 v2 v3 v4=some r):bQ Tryz.prog 104 [(bI v1),(.fn 108 []),(aS v2),(.ptr 0 0),(.ptr 1 0)] [.cells [(aS v3)], .cells (aA v4).cells] fun r1 h1=>r1=(aB r.1)∧h1=[.cells [(aS r.2.1)], .cells [(aw r.2.2.1),(aS r.2.2.2.1),(aI r.2.2.2.2.1),(aI r.2.2.2.2.2.1),(aw r.2.2.2.2.2.2.1),(aw r.2.2.2.2.2.2.2.1),(aw r.2.2.2.2.2.2.2.2.1),(aw r.2.2.2.2.2.2.2.2.2.1),(aw r.2.2.2.2.2.2.2.2.2.2.1),(aI r.2.2.2.2.2.2.2.2.2.2.2.1),(.d (.sl (b5 r.2.2.2.2.2.2.2.2.2.2.2.2.1))),(.d (.sl (cm r.2.2.2.2.2.2.2.2.2.2.2.2.2.1))),(.d (.sl (cq r.2.2.2.2.2.2.2.2.2.2.2.2.2.2)))]]:=by
 rw[Is]at hF;refine eE 2 Tryz.func104 ?_;obtain⟨v5,h1,hF⟩:=ao hF;refine mc af r 1 [[],[(7,cL (aiM N v1 v5 h1))],[]] [12] 4 (fun(v6:ak4)(v7:an)=>⟨27,[(12,(aB v5.2))],[.cells [(aS v6)], .cells (aA v7).cells, .cells (bI v1).cells, .cells (aA v5.1).cells]⟩) (IW N v5) ?_ ?_
 ·intro f1 aO;refine bc hF (fun h2 hF=> ?_) fun h2 hF=> ?_
  ·exact bP af aO (v2,v5.1) [[(0,bT h2)],[]] hF
  exact bP af aO (v3,v4) [[(0,bF h2)]] hF
 intro v6 v7 hF;rw[IW]at hF;cases hF;exact cK af [[]]
def yK(N:Nat)(v1:cB)(v5:Bool):ak5 (an×Bool):=
 bif v5 then
  Option.bind (v1.yE.ax[0]?) fun v6=>
  Option.bind (v1.yE.ax[1]?) fun v7=>
  Option.bind (nf N v6 v7) fun v8=>
  some (v6,v8)
 else
  some (eo,false)
def Dd(N:Nat)(v1:cB):ak5 (an×Bool):=
 bif (v1.yE.ar==(11:Int))then
  Option.bind (v1.yE.ax[1]?) fun v2=>
  Option.bind (v1.yE.ax[2]?) fun v3=>
  Option.bind (nf N v2 v3) fun v4=>
  some (v2,v4)
 else
  bif (v1.yE.ar==(9:Int))then
   yK N v1 (v1.yE.ar==(9:Int))
  else
   bif (v1.yE.ar==(10:Int))then
    yK N v1 (v1.yE.ar==(10:Int))
   else
    bif (v1.yE.ar==(16:Int))then
     yK N v1 (v1.yE.ar==(16:Int))
    else
     yK N v1 (v1.yE.ar==(17:Int))
theorem ZQ(N:Nat)(v1:cB)(r:an×Bool)(hF:Dd N v1=some r):aG Tryz.prog 109 [(bI v1)] (·=(.bk [(aA r.1),(aB r.2)])):=by
 rw[Dd]at hF;refine aR Tryz.func109 ?_;refine au af [[],[],[]] ?_;refine bc hF (fun h1 hF=> ?_) fun h1 hF=> ?_
 ·obtain⟨v2,h2,hF⟩:=ao hF;obtain⟨v3,h3,hF⟩:=ao hF;obtain⟨v4,h4,hF⟩:=ao hF;cases hF;exact wr af [[(0,bT h1)],[(10,oE (k:=1) (bt h2)),(25,oE (k:=1) (bt h2)),(40,oE (k:=2) (bt h3)),(46,cL (Cn N v2 v3 v4 h4))]]
 refine EL af 1 [[(0,bF h1)],[]] [1,2,25] 2 [] [(1,10),(1,11),(1,12)] (fun(v5:Bool)=>⟨47,[(1,(.ptr 0 0)),(2,(.ptr 1 0)),(25,(aB v5))],[.cells (bI v1).cells, .cells ef]⟩) (fun(v5:Bool)=>yK N v1 v5=some r) ?_ ?_
 ·intro f1 aO;refine bc hF (fun h9 hF=> ?_) fun h9 hF=> ?_
  ·exact lM af aO (v1.yE.ar==(9:Int)) [[(0,bT h9)]] hF
  refine au af [[(0,bF h9)],[]] ?_;refine bc hF (fun az hF=> ?_) fun az hF=> ?_
  ·exact lM af aO (v1.yE.ar==(10:Int)) [[(0,bT az)]] hF
  refine au af [[(0,bF az)],[]] ?_;refine bc hF (fun aE hF=> ?_) fun aE hF=> ?_
  ·exact lM af aO (v1.yE.ar==(16:Int)) [[(0,bT aE)]] hF
  exact lM af aO (v1.yE.ar==(17:Int)) [[(0,bF aE)],[]] hF
 rintro v5 hF
 try dsimp only at hF
 rw[yK]at hF;refine bc hF (fun h5 hF=> ?_) fun h5 hF=> ?_
 ·obtain⟨v6,h6,hF⟩:=ao hF;obtain⟨v7,h7,hF⟩:=ao hF;obtain⟨v8,h8,hF⟩:=ao hF;cases hF;exact wr af [[(0,bT h5)],[(10,oE (k:=0) (bt h6)),(25,oE (k:=0) (bt h6)),(40,oE (k:=1) (bt h7)),(46,cL (Cn N v6 v7 v8 h8))]]
 cases hF;exact wr af [[(0,bF h5)],[]]
def Jm(N:Nat)(v5:an×Bool)(v6:ak4)(v7:an):ak5 (Bool×ak4×Int×ak4×Int64×Int64×Int×Int×Int×Int×Int×Int64×(ak3 aU)×(ak3 aH)×(ak3 an)):=
 some (v5.2,v6,v7.ar,v7.aV,v7.ba.xN,v7.ba.xD,v7.aD.a8,v7.aD.bz,v7.aD.xFrac,v7.aD.bK,v7.aD.bM,v7.aM.xK,v7.aM.xL,v7.xIdx,v7.ax)
def Gj(N:Nat)(v1:cB)(v2:ak4)(v3:ak4)(v4:an):ak5 (Bool×ak4×Int×ak4×Int64×Int64×Int×Int×Int×Int×Int×Int64×(ak3 aU)×(ak3 aH)×(ak3 an)):=
 Option.bind (Dd N v1) fun v5=>
 bif v5.2 then
  Jm N v5 v2 v5.1
 else
  Jm N v5 v3 v4
theorem wH(N:Nat)(v1:cB)(v2:ak4)(v3:ak4)(v4:an)(r:Bool×ak4×Int×ak4×Int64×Int64×Int×Int×Int×Int×Int×Int64×(ak3 aU)×(ak3 aH)×(ak3 an))(hF:Gj N v1 v2 v3 v4=some r):bQ Tryz.prog 104 [(bI v1),(.fn 109 []),(aS v2),(.ptr 0 0),(.ptr 1 0)] [.cells [(aS v3)], .cells (aA v4).cells] fun r1 h1=>r1=(aB r.1)∧h1=[.cells [(aS r.2.1)], .cells [(aw r.2.2.1),(aS r.2.2.2.1),(aI r.2.2.2.2.1),(aI r.2.2.2.2.2.1),(aw r.2.2.2.2.2.2.1),(aw r.2.2.2.2.2.2.2.1),(aw r.2.2.2.2.2.2.2.2.1),(aw r.2.2.2.2.2.2.2.2.2.1),(aw r.2.2.2.2.2.2.2.2.2.2.1),(aI r.2.2.2.2.2.2.2.2.2.2.2.1),(.d (.sl (b5 r.2.2.2.2.2.2.2.2.2.2.2.2.1))),(.d (.sl (cm r.2.2.2.2.2.2.2.2.2.2.2.2.2.1))),(.d (.sl (cq r.2.2.2.2.2.2.2.2.2.2.2.2.2.2)))]]:=by
 rw[Gj]at hF;refine eE 2 Tryz.func104 ?_;obtain⟨v5,h1,hF⟩:=ao hF;refine mc af r 1 [[],[(7,cL (ZQ N v1 v5 h1))],[]] [12] 4 (fun(v6:ak4)(v7:an)=>⟨27,[(12,(aB v5.2))],[.cells [(aS v6)], .cells (aA v7).cells, .cells (bI v1).cells, .cells (aA v5.1).cells]⟩) (Jm N v5) ?_ ?_
 ·intro f1 aO;refine bc hF (fun h2 hF=> ?_) fun h2 hF=> ?_
  ·exact bP af aO (v2,v5.1) [[(0,bT h2)],[]] hF
  exact bP af aO (v3,v4) [[(0,bF h2)]] hF
 intro v6 v7 hF;rw[Jm]at hF;cases hF;exact cK af [[]]
def uV(N:Nat)(v1:aC):ak5 ay:=
 Option.bind (l7 N v1) fun v2=>
 bif (v2 !=(0:Int))then
  some bg
 else
  some (⟨(0:Int64),(1:Int64)⟩:ay)
theorem PO(N:Nat)(v1:aC)(r:ay)(hF:uV N v1=some r):aG Tryz.prog 189 [(bY v1)] (·=(bj r)):=by
 rw[uV]at hF;refine aR Tryz.func189 ?_;obtain⟨v2,h1,hF⟩:=ao hF;refine au af [[],[(4,cL (nx N v1 v2 h1))]] ?_;refine bc hF (fun h2 hF=> ?_) fun h2 hF=> ?_
 ·cases hF;exact wr af [[(0,bT h2)],[]]
 cases hF;exact wr af [[(0,bF h2)],[]]
def jh(N:Nat)(v1:an):ak5 Bool:=
 Option.bind (bif (v1.ar==(1:Int))then Option.bind (uV N v1.aD) fun v2=>
 some ((v1.ba.xN.toInt==v2.xN.toInt)&&((v1.ba.xD.toInt==v2.xD.toInt)&&true))else some false) fun v3=>
 some v3
theorem vm(N:Nat)(v1:an)(r:Bool)(hF:jh N v1=some r):aG Tryz.prog 186 [(aA v1)] (·=(aB r)):=by
 rw[jh]at hF;refine aR Tryz.func186 ?_;refine au af [[]] ?_;obtain⟨v3,h3,hF⟩:=ao hF;refine bf af [(2,(aB v3))] [.cells (aA v1).cells] ?_ ?_
 ·refine bc h3 (fun h1 h3=> ?_) fun h1 h3=> ?_
  ·obtain⟨v2,h2,h3⟩:=ao h3;cases h3;exact⟨[(3,bT h1)],[(25,cL (PO N v1.aD v2 h2))],by kernel_rfl⟩
  cases h3;exact⟨[(3,bF h1)],[],by kernel_rfl⟩
 cases hF;exact wr af []
def px(N:Nat)(v1:Int)(v2:ak3 an):ak5 an:=
 some (⟨v1,(bs []),bg,ca,bV,[],v2⟩:an)
theorem w6(N:Nat)(v1:Int)(v2:ak3 an)(r:an)(hF:px N v1 v2=some r):aG Tryz.prog 187 [(aw v1),(.d (.sl (cq v2)))] (·=(aA r)):=by
 rw[px]at hF;refine aR Tryz.func187 ?_;cases hF;exact wr af [[],[]]
def Cw(N:Nat)(v1:cB):ak5 (an×Bool):=
 Option.bind (HP N v1) fun v2=>
 bif v2 then
  Option.bind (v1.yE.ax[0]?) fun v3=>
  Option.bind (v1.yE.ax[1]?) fun v4=>
  bif (v1.yE.ar==(4:Int))then
   Option.bind (jh N v4) fun v5=>
   bif v5 then
    some (v3,true)
   else
    Option.bind (jh N v3) fun v6=>
    some (v4,v6)
  else
   bif (v1.yE.ar==(5:Int))then
    Option.bind (jh N v4) fun v7=>
    bif v7 then
     some (v3,true)
    else
     Option.bind (px N (8:Int) [v4]) fun v8=>
     Option.bind (jh N v3) fun v9=>
     some (v8,v9)
   else
    bif (v1.yE.ar==(6:Int))then
     Option.bind (jh N v4) fun v10=>
     bif v10 then
      some (v4,true)
     else
      Option.bind (jh N v3) fun v11=>
      some (v3,v11)
    else
     bif (v1.yE.ar==(7:Int))then
      Option.bind (jh N v3) fun v12=>
      some (v3,v12)
     else
      some (eo,false)
 else
  some (eo,false)
theorem ZX(N:Nat)(v1:cB)(r:an×Bool)(hF:Cw N v1=some r):aG Tryz.prog 110 [(bI v1)] (·=(.bk [(aA r.1),(aB r.2)])):=by
 rw[Cw]at hF;refine aR Tryz.func110 ?_;obtain⟨v2,h1,hF⟩:=ao hF;refine au af [[],[(4,cL (Lu N v1 v2 h1))]] ?_;refine bc hF (fun h2 hF=> ?_) fun h2 hF=> ?_
 ·refine au af [[(0,bF (bG h2))]] ?_;obtain⟨v3,h3,hF⟩:=ao hF;obtain⟨v4,h4,hF⟩:=ao hF;refine mq 20 af [(4,(.ptr 2 0)),(5,(.ptr 3 0))] [.cells (bI v1).cells, .cells ef, .cells (aA v3).cells, .cells (aA v4).cells] ⟨[(10,oE (k:=0) (bt h3)),(25,oE (k:=1) (bt h4))],by kernel_rfl⟩ ?_;refine au af [[],[]] ?_;refine bc hF (fun h5 hF=> ?_) fun h5 hF=> ?_
  ·obtain⟨v5,h6,hF⟩:=ao hF;refine au af [[(0,bT h5)],[(4,cL (vm N v4 v5 h6))]] ?_;refine bc hF (fun h7 hF=> ?_) fun h7 hF=> ?_
   ·cases hF;exact wr af [[(0,bT h7)],[]]
   obtain⟨v6,h8,hF⟩:=ao hF;cases hF;exact wr af [[(0,bF h7)],[(7,cL (vm N v3 v6 h8))]]
  refine au af [[(0,bF h5)],[]] ?_;refine bc hF (fun h9 hF=> ?_) fun h9 hF=> ?_
  ·obtain⟨v7,az,hF⟩:=ao hF;refine au af [[(0,bT h9)],[(4,cL (vm N v4 v7 az))]] ?_;refine bc hF (fun aE hF=> ?_) fun aE hF=> ?_
   ·cases hF;exact wr af [[(0,bT aE)],[]]
   obtain⟨v8,aK,hF⟩:=ao hF;obtain⟨v9,aY,hF⟩:=ao hF;cases hF;exact wr af [[(0,bF aE)],[(5,⟨_,_, .eq (congrArg AV.full (fa [v4]).symm)⟩),(7,cL (w6 N (8:Int) [v4] v8 aK)),(13,cL (vm N v3 v9 aY))]]
  refine au af [[(0,bF h9)],[]] ?_;refine bc hF (fun aJ hF=> ?_) fun aJ hF=> ?_
  ·obtain⟨v10,bp,hF⟩:=ao hF;refine au af [[(0,bT aJ)],[(4,cL (vm N v4 v10 bp))]] ?_;refine bc hF (fun aL hF=> ?_) fun aL hF=> ?_
   ·cases hF;exact wr af [[(0,bT aL)],[]]
   obtain⟨v11,bn,hF⟩:=ao hF;cases hF;exact wr af [[(0,bF aL)],[(7,cL (vm N v3 v11 bn))]]
  refine au af [[(0,bF aJ)],[]] ?_;refine bc hF (fun aZ hF=> ?_) fun aZ hF=> ?_
  ·obtain⟨v12,bU,hF⟩:=ao hF;cases hF;exact wr af [[(0,bT aZ)],[(7,cL (vm N v3 v12 bU))]]
  cases hF;exact wr af [[(0,bF aZ)],[]]
 cases hF;exact wr af [[(0,bT (bS h2))],[]]
def Gm(N:Nat)(v5:an×Bool)(v6:ak4)(v7:an):ak5 (Bool×ak4×Int×ak4×Int64×Int64×Int×Int×Int×Int×Int×Int64×(ak3 aU)×(ak3 aH)×(ak3 an)):=
 some (v5.2,v6,v7.ar,v7.aV,v7.ba.xN,v7.ba.xD,v7.aD.a8,v7.aD.bz,v7.aD.xFrac,v7.aD.bK,v7.aD.bM,v7.aM.xK,v7.aM.xL,v7.xIdx,v7.ax)
def Ka(N:Nat)(v1:cB)(v2:ak4)(v3:ak4)(v4:an):ak5 (Bool×ak4×Int×ak4×Int64×Int64×Int×Int×Int×Int×Int×Int64×(ak3 aU)×(ak3 aH)×(ak3 an)):=
 Option.bind (Cw N v1) fun v5=>
 bif v5.2 then
  Gm N v5 v2 v5.1
 else
  Gm N v5 v3 v4
theorem Ai(N:Nat)(v1:cB)(v2:ak4)(v3:ak4)(v4:an)(r:Bool×ak4×Int×ak4×Int64×Int64×Int×Int×Int×Int×Int×Int64×(ak3 aU)×(ak3 aH)×(ak3 an))(hF:Ka N v1 v2 v3 v4=some r):bQ Tryz.prog 104 [(bI v1),(.fn 110 []),(aS v2),(.ptr 0 0),(.ptr 1 0)] [.cells [(aS v3)], .cells (aA v4).cells] fun r1 h1=>r1=(aB r.1)∧h1=[.cells [(aS r.2.1)], .cells [(aw r.2.2.1),(aS r.2.2.2.1),(aI r.2.2.2.2.1),(aI r.2.2.2.2.2.1),(aw r.2.2.2.2.2.2.1),(aw r.2.2.2.2.2.2.2.1),(aw r.2.2.2.2.2.2.2.2.1),(aw r.2.2.2.2.2.2.2.2.2.1),(aw r.2.2.2.2.2.2.2.2.2.2.1),(aI r.2.2.2.2.2.2.2.2.2.2.2.1),(.d (.sl (b5 r.2.2.2.2.2.2.2.2.2.2.2.2.1))),(.d (.sl (cm r.2.2.2.2.2.2.2.2.2.2.2.2.2.1))),(.d (.sl (cq r.2.2.2.2.2.2.2.2.2.2.2.2.2.2)))]]:=by
 rw[Ka]at hF;refine eE 2 Tryz.func104 ?_;obtain⟨v5,h1,hF⟩:=ao hF;refine mc af r 1 [[],[(7,cL (ZX N v1 v5 h1))],[]] [12] 4 (fun(v6:ak4)(v7:an)=>⟨27,[(12,(aB v5.2))],[.cells [(aS v6)], .cells (aA v7).cells, .cells (bI v1).cells, .cells (aA v5.1).cells]⟩) (Gm N v5) ?_ ?_
 ·intro f1 aO;refine bc hF (fun h2 hF=> ?_) fun h2 hF=> ?_
  ·exact bP af aO (v2,v5.1) [[(0,bT h2)],[]] hF
  exact bP af aO (v3,v4) [[(0,bF h2)]] hF
 intro v6 v7 hF;rw[Gm]at hF;cases hF;exact cK af [[]]
def wR(N:Nat)(v1:aC):ak5 (ay×Int):=
 Option.bind (l7 N v1) fun v2=>
 bif (v2 !=(0:Int))then
  some (bg,(10:Int))
 else
  bif (v1.a8 !=(2:Int))then
   some ((⟨(1:Int64),(1:Int64)⟩:ay),(0:Int))
  else
   bif (decide ((0:Int)≤v1.xFrac))then
   Option.bind (pa N v1 (⟨(Int64.ofInt ((1:Int)*2^(min (v1.xFrac).toNat (IntKind.bits .i64)))),(1:Int64)⟩:ay)) fun v3=>
   bif v3 then
    some ((⟨(Int64.ofInt ((1:Int)*2^(min (v1.xFrac).toNat (IntKind.bits .i64)))),(1:Int64)⟩:ay),(0:Int))
   else
    some (bg,(3:Int))
   else none
theorem UU(N:Nat)(v1:aC)(r:ay×Int)(hF:wR N v1=some r):aG Tryz.prog 190 [(bY v1)] (·=(.bk [(bj r.1),(aw r.2)])):=by
 rw[wR]at hF;refine aR Tryz.func190 ?_;obtain⟨v2,h1,hF⟩:=ao hF;refine au af [[],[(4,cL (nx N v1 v2 h1))]] ?_;refine bc hF (fun h2 hF=> ?_) fun h2 hF=> ?_
 ·cases hF;exact wr af [[(0,bT h2)],[]]
 refine au af [[(0,bF h2)],[]] ?_;refine bc hF (fun h3 hF=> ?_) fun h3 hF=> ?_
 ·cases hF;exact wr af [[(0,bT h3)],[]]
 obtain⟨h4,hF⟩:=dp hF;obtain⟨v3,h5,hF⟩:=ao hF;refine au af [[(0,bF h3)],[(7,⟨_,_, .nn (b:=v1.xFrac) (of_decide_eq_true h4)⟩),(8,⟨_,_, .eq (eP ((1:Int)*2^(min (v1.xFrac).toNat (IntKind.bits .i64))))⟩)],[(7,cL (MA N v1 (⟨(Int64.ofInt ((1:Int)*2^(min (v1.xFrac).toNat (IntKind.bits .i64)))),(1:Int64)⟩:ay) v3 h5))]] ?_;refine bc hF (fun h6 hF=> ?_) fun h6 hF=> ?_
 ·cases hF;exact wr af [[(0,bF (bG h6))],[]]
 cases hF;exact wr af [[(0,bT (bS h6))],[]]
def qH(N:Nat)(v1:an):ak5 Bool:=
 bif (v1.ar !=(1:Int))then
  some false
 else
  Option.bind (wR N v1.aD) fun v2=>
  Option.bind (bif (v2.2==(0:Int))then some ((v1.ba.xN.toInt==v2.1.xN.toInt)&&((v1.ba.xD.toInt==v2.1.xD.toInt)&&true))else some false) fun v3=>
  some v3
theorem Uk(N:Nat)(v1:an)(r:Bool)(hF:qH N v1=some r):aG Tryz.prog 188 [(aA v1)] (·=(aB r)):=by
 rw[qH]at hF;refine aR Tryz.func188 ?_;refine au af [[],[]] ?_;refine bc hF (fun h1 hF=> ?_) fun h1 hF=> ?_
 ·cases hF;exact wr af [[(0,bT h1)],[]]
 obtain⟨v2,h2,hF⟩:=ao hF;refine au af [[(0,bF h1)],[(7,cL (UU N v1.aD v2 h2))]] ?_;obtain⟨v3,h4,hF⟩:=ao hF;refine bf af [(2,(aB v3))] [.cells (aA v1).cells, .cells (bj v2.1).cells] ?_ ?_
 ·refine bc h4 (fun h3 h4=> ?_) fun h3 h4=> ?_
  ·cases h4;exact⟨[(2,bT h3)],[],by kernel_rfl⟩
  cases h4;exact⟨[(2,bF h3)],[],by kernel_rfl⟩
 cases hF;exact wr af []
def FI(N:Nat)(v1:cB):ak5 (an×Bool):=
 Option.bind (bif (v1.yE.ar !=(6:Int))then some (v1.yE.ar !=(7:Int))else some false) fun v2=>
 bif v2 then
  some (eo,false)
 else
  Option.bind (v1.yE.ax[0]?) fun v3=>
  Option.bind (v1.yE.ax[1]?) fun v4=>
  Option.bind (qH N v4) fun v5=>
  bif v5 then
   some (v3,true)
  else
   Option.bind (bif (v1.yE.ar==(6:Int))then Option.bind (qH N v3) fun v6=>
   some v6 else some false) fun v7=>
   some (v4,v7)
def QO(v1:cB)(l:ak3 aq):ak3 aq:= .cells (bI v1).cells:: .cells ef::l
theorem ad6(N:Nat)(v1:cB)(r:an×Bool)(hF:FI N v1=some r):aG Tryz.prog 111 [(bI v1)] (·=(.bk [(aA r.1),(aB r.2)])):=by
 rw[FI]at hF;refine aR Tryz.func111 ?_;refine au af [[]] ?_;obtain⟨v2,h2,hF⟩:=ao hF;refine bf af [(15,(aB v2))] (QO v1 []) ?_ ?_
 ·refine bc h2 (fun h1 h2=> ?_) fun h1 h2=> ?_
  ·cases h2;exact⟨[(4,bT h1)],[],by kernel_rfl⟩
  cases h2;exact⟨[(4,bF h1)],[],by kernel_rfl⟩
 refine bc hF (fun h3 hF=> ?_) fun h3 hF=> ?_
 ·cases hF;exact wr af [[(0,bT h3)],[]]
 refine au af [[(0,bF h3)]] ?_;obtain⟨v3,h4,hF⟩:=ao hF;obtain⟨v4,h5,hF⟩:=ao hF;refine mq 20 af [(4,(.ptr 2 0)),(5,(.ptr 3 0))] (QO v1 [.cells (aA v3).cells, .cells (aA v4).cells]) ⟨[(10,oE (k:=0) (bt h4)),(25,oE (k:=1) (bt h5))],by kernel_rfl⟩ ?_;obtain⟨v5,h6,hF⟩:=ao hF;refine au af [[(4,cL (Uk N v4 v5 h6))]] ?_;refine bc hF (fun h7 hF=> ?_) fun h7 hF=> ?_
 ·cases hF;exact wr af [[(0,bT h7)],[]]
 refine au af [[(0,bF h7)]] ?_;obtain⟨v7,az,hF⟩:=ao hF;refine bf af [(3,(aB v7))] [.cells (bI v1).cells, .cells (aA v4).cells, .cells (aA v3).cells, .cells (aA v4).cells] ?_ ?_
 ·refine bc az (fun h8 az=> ?_) fun h8 az=> ?_
  ·obtain⟨v6,h9,az⟩:=ao az;obtain rfl:=sj az;exact⟨[(5,bT h8)],[(22,cL (Uk N v3 v6 h9))],by kernel_rfl⟩
  cases az;exact⟨[(5,bF h8)],[],by kernel_rfl⟩
 cases hF;exact wr af []
def Iq(N:Nat)(v5:an×Bool)(v6:ak4)(v7:an):ak5 (Bool×ak4×Int×ak4×Int64×Int64×Int×Int×Int×Int×Int×Int64×(ak3 aU)×(ak3 aH)×(ak3 an)):=
 some (v5.2,v6,v7.ar,v7.aV,v7.ba.xN,v7.ba.xD,v7.aD.a8,v7.aD.bz,v7.aD.xFrac,v7.aD.bK,v7.aD.bM,v7.aM.xK,v7.aM.xL,v7.xIdx,v7.ax)
def JQ(N:Nat)(v1:cB)(v2:ak4)(v3:ak4)(v4:an):ak5 (Bool×ak4×Int×ak4×Int64×Int64×Int×Int×Int×Int×Int×Int64×(ak3 aU)×(ak3 aH)×(ak3 an)):=
 Option.bind (FI N v1) fun v5=>
 bif v5.2 then
  Iq N v5 v2 v5.1
 else
  Iq N v5 v3 v4
theorem CW(N:Nat)(v1:cB)(v2:ak4)(v3:ak4)(v4:an)(r:Bool×ak4×Int×ak4×Int64×Int64×Int×Int×Int×Int×Int×Int64×(ak3 aU)×(ak3 aH)×(ak3 an))(hF:JQ N v1 v2 v3 v4=some r):bQ Tryz.prog 104 [(bI v1),(.fn 111 []),(aS v2),(.ptr 0 0),(.ptr 1 0)] [.cells [(aS v3)], .cells (aA v4).cells] fun r1 h1=>r1=(aB r.1)∧h1=[.cells [(aS r.2.1)], .cells [(aw r.2.2.1),(aS r.2.2.2.1),(aI r.2.2.2.2.1),(aI r.2.2.2.2.2.1),(aw r.2.2.2.2.2.2.1),(aw r.2.2.2.2.2.2.2.1),(aw r.2.2.2.2.2.2.2.2.1),(aw r.2.2.2.2.2.2.2.2.2.1),(aw r.2.2.2.2.2.2.2.2.2.2.1),(aI r.2.2.2.2.2.2.2.2.2.2.2.1),(.d (.sl (b5 r.2.2.2.2.2.2.2.2.2.2.2.2.1))),(.d (.sl (cm r.2.2.2.2.2.2.2.2.2.2.2.2.2.1))),(.d (.sl (cq r.2.2.2.2.2.2.2.2.2.2.2.2.2.2)))]]:=by
 rw[JQ]at hF;refine eE 2 Tryz.func104 ?_;obtain⟨v5,h1,hF⟩:=ao hF;refine mc af r 1 [[],[(7,cL (ad6 N v1 v5 h1))],[]] [12] 4 (fun(v6:ak4)(v7:an)=>⟨27,[(12,(aB v5.2))],[.cells [(aS v6)], .cells (aA v7).cells, .cells (bI v1).cells, .cells (aA v5.1).cells]⟩) (Iq N v5) ?_ ?_
 ·intro f1 aO;refine bc hF (fun h2 hF=> ?_) fun h2 hF=> ?_
  ·exact bP af aO (v2,v5.1) [[(0,bT h2)],[]] hF
  exact bP af aO (v3,v4) [[(0,bF h2)]] hF
 intro v6 v7 hF;rw[Iq]at hF;cases hF;exact cK af [[]]
def EO(N:Nat)(v1:cB):ak5 (an×Bool):=
 Option.bind (bif (v1.yE.ar !=(5:Int))then(bif (v1.yE.ar !=(7:Int))then some true else(bif v1.gN.dn then Option.bind (v1.yE.ax[0]?) fun v2=>
 Option.bind (v1.yE.ax[1]?) fun v3=>
 Option.bind (nf N v2 v3) fun v4=>
 some (!v4)else some true))else(bif v1.gN.dn then Option.bind (v1.yE.ax[0]?) fun v5=>
 Option.bind (v1.yE.ax[1]?) fun v6=>
 Option.bind (nf N v5 v6) fun v7=>
 some (!v7)else some true)) fun v8=>
 bif v8 then
  some (eo,false)
 else
  bif (v1.yE.ar==(5:Int))then
   Option.bind (uV N v1.gN.yT) fun v9=>
   Option.bind (oK N v1.gN.yT v9) fun v10=>
   some (v10,true)
  else
   Option.bind (wR N v1.gN.yT) fun v11=>
   Option.bind (oK N v1.gN.yT v11.1) fun v12=>
   Option.bind (bif (v1.gN.yT.a8 !=(2:Int))then some (v11.2==(0:Int))else some false) fun aX=>
   some (v12,aX)
theorem aiX(N:Nat)(v1:cB)(r:an×Bool)(hF:EO N v1=some r):aG Tryz.prog 112 [(bI v1)] (·=(.bk [(aA r.1),(aB r.2)])):=by
 rw[EO]at hF;refine aR Tryz.func112 ?_;refine au af [[]] ?_;obtain⟨v8,aE,hF⟩:=ao hF;refine bf af [(36,(aB v8))] [.cells (bI v1).cells, .cells ef] ?_ ?_
 ·refine bc aE (fun h1 aE=> ?_) fun h1 aE=> ?_
  ·refine bc aE (fun h2 aE=> ?_) fun h2 aE=> ?_
   ·cases aE;exact⟨[(4,bT h1),(10,bT h2),(16,bT rfl)],[],by kernel_rfl⟩
   refine bc aE (fun h3 aE=> ?_) fun h3 aE=> ?_
   ·obtain⟨v2,h4,aE⟩:=ao aE;obtain⟨v3,h5,aE⟩:=ao aE;obtain⟨v4,h6,aE⟩:=ao aE;cases aE;exact⟨[(4,bT h1),(10,bF h2),(16,bF (bG h3))],[(61,oE (k:=0) (bt h4)),(76,oE (k:=1) (bt h5)),(82,cL (Cn N v2 v3 v4 h6))],by kernel_rfl⟩
   cases aE;exact⟨[(4,bT h1),(10,bF h2),(16,bT (bS h3))],[],by kernel_rfl⟩
  refine bc aE (fun h7 aE=> ?_) fun h7 aE=> ?_
  ·obtain⟨v5,h8,aE⟩:=ao aE;obtain⟨v6,h9,aE⟩:=ao aE;obtain⟨v7,az,aE⟩:=ao aE;cases aE;exact⟨[(4,bF h1),(10,bF rfl),(16,bF (bG h7))],[(61,oE (k:=0) (bt h8)),(76,oE (k:=1) (bt h9)),(82,cL (Cn N v5 v6 v7 az))],by kernel_rfl⟩
  cases aE;exact⟨[(4,bF h1),(10,bF rfl),(16,bT (bS h7))],[],by kernel_rfl⟩
 refine bc hF (fun aK hF=> ?_) fun aK hF=> ?_
 ·cases hF;exact wr af [[(0,bT aK)],[]]
 refine au af [[(0,bF aK)],[],[]] ?_;refine bc hF (fun aY hF=> ?_) fun aY hF=> ?_
 ·obtain⟨v9,aJ,hF⟩:=ao hF;obtain⟨v10,bp,hF⟩:=ao hF;cases hF;exact wr af [[(0,bT aY)],[(7,cL (PO N v1.gN.yT v9 aJ)),(10,cL (se N v1.gN.yT v9 v10 bp))]]
 obtain⟨v11,aL,hF⟩:=ao hF;refine au af [[(0,bF aY)],[(4,cL (UU N v1.gN.yT v11 aL))]] ?_;obtain⟨v12,bn,hF⟩:=ao hF;obtain⟨aX,bU,hF⟩:=ao hF;refine bf af [(3,(aB aX))] [.cells (bI v1).cells, .cells (aA v12).cells, .cells (bY v1.gN.yT).cells, .cells (bj v11.1).cells] ?_ ?_
 ·refine bc bU (fun aZ bU=> ?_) fun aZ bU=> ?_
  ·cases bU;exact⟨[(6,bT aZ)],[(7,cL (se N v1.gN.yT v11.1 v12 bn))],by kernel_rfl⟩
  cases bU;exact⟨[(6,bF aZ)],[(7,cL (se N v1.gN.yT v11.1 v12 bn))],by kernel_rfl⟩
 cases hF;exact wr af []
def GN(N:Nat)(v5:an×Bool)(v6:ak4)(v7:an):ak5 (Bool×ak4×Int×ak4×Int64×Int64×Int×Int×Int×Int×Int×Int64×(ak3 aU)×(ak3 aH)×(ak3 an)):=
 some (v5.2,v6,v7.ar,v7.aV,v7.ba.xN,v7.ba.xD,v7.aD.a8,v7.aD.bz,v7.aD.xFrac,v7.aD.bK,v7.aD.bM,v7.aM.xK,v7.aM.xL,v7.xIdx,v7.ax)
def GO(N:Nat)(v1:cB)(v2:ak4)(v3:ak4)(v4:an):ak5 (Bool×ak4×Int×ak4×Int64×Int64×Int×Int×Int×Int×Int×Int64×(ak3 aU)×(ak3 aH)×(ak3 an)):=
 Option.bind (EO N v1) fun v5=>
 bif v5.2 then
  GN N v5 v2 v5.1
 else
  GN N v5 v3 v4
theorem Gf(N:Nat)(v1:cB)(v2:ak4)(v3:ak4)(v4:an)(r:Bool×ak4×Int×ak4×Int64×Int64×Int×Int×Int×Int×Int×Int64×(ak3 aU)×(ak3 aH)×(ak3 an))(hF:GO N v1 v2 v3 v4=some r):bQ Tryz.prog 104 [(bI v1),(.fn 112 []),(aS v2),(.ptr 0 0),(.ptr 1 0)] [.cells [(aS v3)], .cells (aA v4).cells] fun r1 h1=>r1=(aB r.1)∧h1=[.cells [(aS r.2.1)], .cells [(aw r.2.2.1),(aS r.2.2.2.1),(aI r.2.2.2.2.1),(aI r.2.2.2.2.2.1),(aw r.2.2.2.2.2.2.1),(aw r.2.2.2.2.2.2.2.1),(aw r.2.2.2.2.2.2.2.2.1),(aw r.2.2.2.2.2.2.2.2.2.1),(aw r.2.2.2.2.2.2.2.2.2.2.1),(aI r.2.2.2.2.2.2.2.2.2.2.2.1),(.d (.sl (b5 r.2.2.2.2.2.2.2.2.2.2.2.2.1))),(.d (.sl (cm r.2.2.2.2.2.2.2.2.2.2.2.2.2.1))),(.d (.sl (cq r.2.2.2.2.2.2.2.2.2.2.2.2.2.2)))]]:=by
 rw[GO]at hF;refine eE 2 Tryz.func104 ?_;obtain⟨v5,h1,hF⟩:=ao hF;refine mc af r 1 [[],[(7,cL (aiX N v1 v5 h1))],[]] [12] 4 (fun(v6:ak4)(v7:an)=>⟨27,[(12,(aB v5.2))],[.cells [(aS v6)], .cells (aA v7).cells, .cells (bI v1).cells, .cells (aA v5.1).cells]⟩) (GN N v5) ?_ ?_
 ·intro f1 aO;refine bc hF (fun h2 hF=> ?_) fun h2 hF=> ?_
  ·exact bP af aO (v2,v5.1) [[(0,bT h2)],[]] hF
  exact bP af aO (v3,v4) [[(0,bF h2)]] hF
 intro v6 v7 hF;rw[GN]at hF;cases hF;exact cK af [[]]
def Dq(N:Nat)(v1:cB):ak5 (an×Bool):=
 Option.bind (bif v1.gN.dn then(bif (v1.gN.yT.a8==(2:Int))then(bif (v1.gN.yT.bM !=(2:Int))then some true else some ((v1.yE.ax.length:Int)==(0:Int)))else some ((v1.yE.ax.length:Int)==(0:Int)))else some true) fun v2=>
 bif v2 then
  some (eo,false)
 else
  Option.bind (v1.yE.ax[0]?) fun v3=>
  bif (decide ((0:Int)≤(aQ ((v1.yE.ax.length:Int)-(1:Int)))))then
  Option.bind (v1.yE.ax[((aQ ((v1.yE.ax.length:Int)-(1:Int)))).toNat]?) fun v4=>
  Option.bind (bif (v1.yE.ar==(8:Int))then some (v3.ar==(8:Int))else some false) fun v5=>
  bif v5 then
   Option.bind (v3.ax[0]?) fun v6=>
   some (v6,true)
  else
   Option.bind (bif (v1.yE.ar==(4:Int))then some (v4.ar==(8:Int))else some false) fun v7=>
   bif v7 then
    Option.bind (v4.ax[0]?) fun v8=>
    Option.bind (px N (5:Int) ([v3,v8])) fun v9=>
    some (v9,true)
   else
    Option.bind (bif (v1.yE.ar==(4:Int))then some (v3.ar==(8:Int))else some false) fun v10=>
    bif v10 then
     Option.bind (v3.ax[0]?) fun v11=>
     Option.bind (px N (5:Int) ([v4,v11])) fun v12=>
     some (v12,true)
    else
     Option.bind (bif (v1.yE.ar==(5:Int))then some (v4.ar==(8:Int))else some false) fun aX=>
     bif aX then
      Option.bind (v4.ax[0]?) fun bu=>
      Option.bind (px N (4:Int) ([v3,bu])) fun bN=>
      some (bN,true)
     else
      some (eo,false)
  else none
def TM(v1:cB)(l:ak3 aq):ak3 aq:= .cells (bI v1).cells:: .cells ef::l
def Cy(v1:cB)(v3:an)(v4:an)(l:ak3 aq):ak3 aq:=TM v1 (.cells (aA v3).cells:: .cells (aA v4).cells::l)
theorem Zi(N:Nat)(v1:cB)(r:an×Bool)(hF:Dq N v1=some r):aG Tryz.prog 113 [(bI v1)] (·=(.bk [(aA r.1),(aB r.2)])):=by
 rw[Dq]at hF;refine aR Tryz.func113 ?_;refine au af [[]] ?_;obtain⟨v2,h4,hF⟩:=ao hF;refine bf af [(30,(aB v2))] (TM v1 []) ?_ ?_
 ·refine bc h4 (fun h1 h4=> ?_) fun h1 h4=> ?_
  ·refine bc h4 (fun h2 h4=> ?_) fun h2 h4=> ?_
   ·refine bc h4 (fun h3 h4=> ?_) fun h3 h4=> ?_
    ·cases h4;exact⟨[(4,bF (bG h1)),(10,bT h2),(18,bT h3)],[(49,bT h2)],by kernel_rfl⟩
    cases h4;exact⟨[(4,bF (bG h1)),(10,bT h2),(18,bF h3)],[(49,bT h2),(67,oL v1.yE.ax dC)],by kernel_rfl⟩
   cases h4;exact⟨[(4,bF (bG h1)),(10,bF h2),(18,bF rfl)],[(49,bF h2),(67,oL v1.yE.ax dC)],by kernel_rfl⟩
  cases h4;exact⟨[(4,bT (bS h1)),(10,uN),(18,bT rfl)],[],by kernel_rfl⟩
 refine bc hF (fun h5 hF=> ?_) fun h5 hF=> ?_
 ·cases hF;exact wr af [[(0,bT h5)],[]]
 refine au af [[(0,bF h5)]] ?_;obtain⟨v3,h6,hF⟩:=ao hF;obtain⟨h8,hF⟩:=dp hF;obtain⟨v4,h7,hF⟩:=ao hF;refine mq 78 af [(4,(.ptr 2 0)),(5,(.ptr 3 0))] (Cy v1 v3 v4 []) ⟨[(10,oE (k:=0) (bt h6)),(34,oL v1.yE.ax dC),(40,⟨_,_, .el (xs:=cq v1.yE.ax) (i:=(aQ ((v1.yE.ax.length:Int)-(1:Int)))) (of_decide_eq_true h8) (bt h7)⟩)],by kernel_rfl⟩ ?_;obtain⟨v5,az,hF⟩:=ao hF;refine bf af [(47,(aB v5))] (Cy v1 v3 v4 []) ?_ ?_
 ·refine bc az (fun h9 az=> ?_) fun h9 az=> ?_
  ·cases az;exact⟨[(4,bT h9)],[],by kernel_rfl⟩
  cases az;exact⟨[(4,bF h9)],[],by kernel_rfl⟩
 refine bc hF (fun aE hF=> ?_) fun aE hF=> ?_
 ·obtain⟨v6,aK,hF⟩:=ao hF;cases hF;exact wr af [[(0,bT aE)],[(7,oE (k:=0) (bt aK))]]
 refine au af [[(0,bF aE)]] ?_;obtain⟨v7,aJ,hF⟩:=ao hF;refine bf af [(61,(aB v7))] (Cy v1 v3 v4 []) ?_ ?_
 ·refine bc aJ (fun aY aJ=> ?_) fun aY aJ=> ?_
  ·cases aJ;exact⟨[(4,bT aY)],[],by kernel_rfl⟩
  cases aJ;exact⟨[(4,bF aY)],[],by kernel_rfl⟩
 refine bc hF (fun bp hF=> ?_) fun bp hF=> ?_
 ·obtain⟨v8,aL,hF⟩:=ao hF;obtain⟨v9,bn,hF⟩:=ao hF;cases hF;exact wr af [[(0,bT bp)],[(10,oE (k:=0) (bt aL)),(17,⟨_,_, .eq (congrArg AV.full (fa [v3,v8]).symm)⟩),(19,cL (w6 N (5:Int) ([v3,v8]) v9 bn))]]
 refine au af [[(0,bF bp)]] ?_;obtain⟨v10,bU,hF⟩:=ao hF;refine bf af [(78,(aB v10))] (Cy v1 v3 v4 []) ?_ ?_
 ·refine bc bU (fun aZ bU=> ?_) fun aZ bU=> ?_
  ·cases bU;exact⟨[(4,bT aZ)],[],by kernel_rfl⟩
  cases bU;exact⟨[(4,bF aZ)],[],by kernel_rfl⟩
 refine bc hF (fun bC hF=> ?_) fun bC hF=> ?_
 ·obtain⟨v11,cl,hF⟩:=ao hF;obtain⟨v12,bw,hF⟩:=ao hF;cases hF;exact wr af [[(0,bT bC)],[(10,oE (k:=0) (bt cl)),(17,⟨_,_, .eq (congrArg AV.full (fa [v4,v11]).symm)⟩),(19,cL (w6 N (5:Int) ([v4,v11]) v12 bw))]]
 refine au af [[(0,bF bC)]] ?_;obtain⟨aX,cE,hF⟩:=ao hF;refine bf af [(95,(aB aX))] (Cy v1 v3 v4 []) ?_ ?_
 ·refine bc cE (fun cT cE=> ?_) fun cT cE=> ?_
  ·cases cE;exact⟨[(4,bT cT)],[],by kernel_rfl⟩
  cases cE;exact⟨[(4,bF cT)],[],by kernel_rfl⟩
 refine bc hF (fun eR hF=> ?_) fun eR hF=> ?_
 ·obtain⟨bu,fb,hF⟩:=ao hF;obtain⟨bN,gr,hF⟩:=ao hF;cases hF;exact wr af [[(0,bT eR)],[(10,oE (k:=0) (bt fb)),(17,⟨_,_, .eq (congrArg AV.full (fa [v3,bu]).symm)⟩),(19,cL (w6 N (4:Int) ([v3,bu]) bN gr))]]
 cases hF;exact wr af [[(0,bF eR)],[]]
def I3(N:Nat)(v5:an×Bool)(v6:ak4)(v7:an):ak5 (Bool×ak4×Int×ak4×Int64×Int64×Int×Int×Int×Int×Int×Int64×(ak3 aU)×(ak3 aH)×(ak3 an)):=
 some (v5.2,v6,v7.ar,v7.aV,v7.ba.xN,v7.ba.xD,v7.aD.a8,v7.aD.bz,v7.aD.xFrac,v7.aD.bK,v7.aD.bM,v7.aM.xK,v7.aM.xL,v7.xIdx,v7.ax)
def GK(N:Nat)(v1:cB)(v2:ak4)(v3:ak4)(v4:an):ak5 (Bool×ak4×Int×ak4×Int64×Int64×Int×Int×Int×Int×Int×Int64×(ak3 aU)×(ak3 aH)×(ak3 an)):=
 Option.bind (Dq N v1) fun v5=>
 bif v5.2 then
  I3 N v5 v2 v5.1
 else
  I3 N v5 v3 v4
theorem Mj(N:Nat)(v1:cB)(v2:ak4)(v3:ak4)(v4:an)(r:Bool×ak4×Int×ak4×Int64×Int64×Int×Int×Int×Int×Int×Int64×(ak3 aU)×(ak3 aH)×(ak3 an))(hF:GK N v1 v2 v3 v4=some r):bQ Tryz.prog 104 [(bI v1),(.fn 113 []),(aS v2),(.ptr 0 0),(.ptr 1 0)] [.cells [(aS v3)], .cells (aA v4).cells] fun r1 h1=>r1=(aB r.1)∧h1=[.cells [(aS r.2.1)], .cells [(aw r.2.2.1),(aS r.2.2.2.1),(aI r.2.2.2.2.1),(aI r.2.2.2.2.2.1),(aw r.2.2.2.2.2.2.1),(aw r.2.2.2.2.2.2.2.1),(aw r.2.2.2.2.2.2.2.2.1),(aw r.2.2.2.2.2.2.2.2.2.1),(aw r.2.2.2.2.2.2.2.2.2.2.1),(aI r.2.2.2.2.2.2.2.2.2.2.2.1),(.d (.sl (b5 r.2.2.2.2.2.2.2.2.2.2.2.2.1))),(.d (.sl (cm r.2.2.2.2.2.2.2.2.2.2.2.2.2.1))),(.d (.sl (cq r.2.2.2.2.2.2.2.2.2.2.2.2.2.2)))]]:=by
 rw[GK]at hF;refine eE 2 Tryz.func104 ?_;obtain⟨v5,h1,hF⟩:=ao hF;refine mc af r 1 [[],[(7,cL (Zi N v1 v5 h1))],[]] [12] 4 (fun(v6:ak4)(v7:an)=>⟨27,[(12,(aB v5.2))],[.cells [(aS v6)], .cells (aA v7).cells, .cells (bI v1).cells, .cells (aA v5.1).cells]⟩) (I3 N v5) ?_ ?_
 ·intro f1 aO;refine bc hF (fun h2 hF=> ?_) fun h2 hF=> ?_
  ·exact bP af aO (v2,v5.1) [[(0,bT h2)],[]] hF
  exact bP af aO (v3,v4) [[(0,bF h2)]] hF
 intro v6 v7 hF;rw[I3]at hF;cases hF;exact cK af [[]]
def BQ(N:Nat)(v1:cB):ak5 (an×Bool):=
 Option.bind (bif (v1.yE.ar !=(18:Int))then some (v1.yE.ar !=(11:Int))else some false) fun v2=>
 bif v2 then
  some (eo,false)
 else
  Option.bind (v1.yE.ax[0]?) fun v3=>
  bif (v1.yE.ar==(11:Int))then
   bif (v3.ar !=(18:Int))then
    some (eo,false)
   else
    Option.bind (v3.ax[0]?) fun v4=>
    Option.bind (v1.yE.ax[2]?) fun v5=>
    Option.bind (v1.yE.ax[1]?) fun v6=>
    Option.bind (px N (11:Int) ([v4,v5,v6])) fun v7=>
    some (v7,true)
  else
   bif (v3.ar==(18:Int))then
    Option.bind (v3.ax[0]?) fun v8=>
    some (v8,true)
   else
    bif (v3.ar==(13:Int))then
     Option.bind (v3.ax[1]?) fun v9=>
     Option.bind (v3.ax[0]?) fun v10=>
     Option.bind (px N (14:Int) ([v9,v10])) fun v11=>
     some (v11,true)
    else
     bif (v3.ar==(14:Int))then
      Option.bind (v3.ax[1]?) fun v12=>
      Option.bind (v3.ax[0]?) fun aX=>
      Option.bind (px N (13:Int) ([v12,aX])) fun bu=>
      some (bu,true)
     else
      some (eo,false)
theorem ajK(N:Nat)(v1:cB)(r:an×Bool)(hF:BQ N v1=some r):aG Tryz.prog 114 [(bI v1)] (·=(.bk [(aA r.1),(aB r.2)])):=by
 rw[BQ]at hF;refine aR Tryz.func114 ?_;refine au af [[]] ?_;obtain⟨v2,h2,hF⟩:=ao hF;refine bf af [(14,(aB v2))] [.cells (bI v1).cells, .cells ef] ?_ ?_
 ·refine bc h2 (fun h1 h2=> ?_) fun h1 h2=> ?_
  ·cases h2;exact⟨[(4,bT h1)],[],by kernel_rfl⟩
  cases h2;exact⟨[(4,bF h1)],[],by kernel_rfl⟩
 refine bc hF (fun h3 hF=> ?_) fun h3 hF=> ?_
 ·cases hF;exact wr af [[(0,bT h3)],[]]
 obtain⟨v3,h4,hF⟩:=ao hF;refine au af [[(0,bF h3)],[(10,oE (k:=0) (bt h4))],[]] ?_;refine bc hF (fun h5 hF=> ?_) fun h5 hF=> ?_
 ·refine au af [[(0,bT h5)],[]] ?_;refine bc hF (fun h6 hF=> ?_) fun h6 hF=> ?_
  ·cases hF;exact wr af [[(0,bT h6)],[]]
  obtain⟨v4,h7,hF⟩:=ao hF;obtain⟨v5,h8,hF⟩:=ao hF;obtain⟨v6,h9,hF⟩:=ao hF;obtain⟨v7,az,hF⟩:=ao hF;cases hF;exact wr af [[(0,bF h6)],[(7,oE (k:=0) (bt h7)),(22,oE (k:=2) (bt h8)),(37,oE (k:=1) (bt h9)),(44,⟨_,_, .eq (congrArg AV.full (fa [v4,v5,v6]).symm)⟩),(46,cL (w6 N (11:Int) ([v4,v5,v6]) v7 az))]]
 refine au af [[(0,bF h5)],[]] ?_;refine bc hF (fun aE hF=> ?_) fun aE hF=> ?_
 ·obtain⟨v8,aK,hF⟩:=ao hF;cases hF;exact wr af [[(0,bT aE)],[(7,oE (k:=0) (bt aK))]]
 refine au af [[(0,bF aE)],[]] ?_;refine bc hF (fun aY hF=> ?_) fun aY hF=> ?_
 ·obtain⟨v9,aJ,hF⟩:=ao hF;obtain⟨v10,bp,hF⟩:=ao hF;obtain⟨v11,aL,hF⟩:=ao hF;cases hF;exact wr af [[(0,bT aY)],[(7,oE (k:=1) (bt aJ)),(19,oE (k:=0) (bt bp)),(26,⟨_,_, .eq (congrArg AV.full (fa [v9,v10]).symm)⟩),(28,cL (w6 N (14:Int) ([v9,v10]) v11 aL))]]
 refine au af [[(0,bF aY)],[]] ?_;refine bc hF (fun bn hF=> ?_) fun bn hF=> ?_
 ·obtain⟨v12,aZ,hF⟩:=ao hF;obtain⟨aX,bU,hF⟩:=ao hF;obtain⟨bu,bC,hF⟩:=ao hF;cases hF;exact wr af [[(0,bT bn)],[(7,oE (k:=1) (bt aZ)),(19,oE (k:=0) (bt bU)),(26,⟨_,_, .eq (congrArg AV.full (fa [v12,aX]).symm)⟩),(28,cL (w6 N (13:Int) ([v12,aX]) bu bC))]]
 cases hF;exact wr af [[(0,bF bn)],[]]
def It(N:Nat)(v5:an×Bool)(v6:ak4)(v7:an):ak5 (Bool×ak4×Int×ak4×Int64×Int64×Int×Int×Int×Int×Int×Int64×(ak3 aU)×(ak3 aH)×(ak3 an)):=
 some (v5.2,v6,v7.ar,v7.aV,v7.ba.xN,v7.ba.xD,v7.aD.a8,v7.aD.bz,v7.aD.xFrac,v7.aD.bK,v7.aD.bM,v7.aM.xK,v7.aM.xL,v7.xIdx,v7.ax)
def I8(N:Nat)(v1:cB)(v2:ak4)(v3:ak4)(v4:an):ak5 (Bool×ak4×Int×ak4×Int64×Int64×Int×Int×Int×Int×Int×Int64×(ak3 aU)×(ak3 aH)×(ak3 an)):=
 Option.bind (BQ N v1) fun v5=>
 bif v5.2 then
  It N v5 v2 v5.1
 else
  It N v5 v3 v4
theorem S9(N:Nat)(v1:cB)(v2:ak4)(v3:ak4)(v4:an)(r:Bool×ak4×Int×ak4×Int64×Int64×Int×Int×Int×Int×Int×Int64×(ak3 aU)×(ak3 aH)×(ak3 an))(hF:I8 N v1 v2 v3 v4=some r):bQ Tryz.prog 104 [(bI v1),(.fn 114 []),(aS v2),(.ptr 0 0),(.ptr 1 0)] [.cells [(aS v3)], .cells (aA v4).cells] fun r1 h1=>r1=(aB r.1)∧h1=[.cells [(aS r.2.1)], .cells [(aw r.2.2.1),(aS r.2.2.2.1),(aI r.2.2.2.2.1),(aI r.2.2.2.2.2.1),(aw r.2.2.2.2.2.2.1),(aw r.2.2.2.2.2.2.2.1),(aw r.2.2.2.2.2.2.2.2.1),(aw r.2.2.2.2.2.2.2.2.2.1),(aw r.2.2.2.2.2.2.2.2.2.2.1),(aI r.2.2.2.2.2.2.2.2.2.2.2.1),(.d (.sl (b5 r.2.2.2.2.2.2.2.2.2.2.2.2.1))),(.d (.sl (cm r.2.2.2.2.2.2.2.2.2.2.2.2.2.1))),(.d (.sl (cq r.2.2.2.2.2.2.2.2.2.2.2.2.2.2)))]]:=by
 rw[I8]at hF;refine eE 2 Tryz.func104 ?_;obtain⟨v5,h1,hF⟩:=ao hF;refine mc af r 1 [[],[(7,cL (ajK N v1 v5 h1))],[]] [12] 4 (fun(v6:ak4)(v7:an)=>⟨27,[(12,(aB v5.2))],[.cells [(aS v6)], .cells (aA v7).cells, .cells (bI v1).cells, .cells (aA v5.1).cells]⟩) (It N v5) ?_ ?_
 ·intro f1 aO;refine bc hF (fun h2 hF=> ?_) fun h2 hF=> ?_
  ·exact bP af aO (v2,v5.1) [[(0,bT h2)],[]] hF
  exact bP af aO (v3,v4) [[(0,bF h2)]] hF
 intro v6 v7 hF;rw[It]at hF;cases hF;exact cK af [[]]
def CZ(N:Nat)(v1:cB):ak5 (an×Bool):=
 Option.bind (bif (v1.yE.ar !=(16:Int))then some (v1.yE.ar !=(17:Int))else some false) fun v2=>
 bif v2 then
  some (eo,false)
 else
  Option.bind (v1.yE.ax[0]?) fun v3=>
  Option.bind (xw N v3) fun v4=>
  Option.bind (bif v4.2 then some (v4.1==(v1.yE.ar==(16:Int)))else some false) fun v5=>
  bif v5 then
   Option.bind (v1.yE.ax[1]?) fun v6=>
   some (v6,true)
  else
   Option.bind (v1.yE.ax[1]?) fun v7=>
   Option.bind (xw N v7) fun v8=>
   Option.bind (bif v8.2 then some (v8.1==(v1.yE.ar==(16:Int)))else some false) fun v9=>
   some (v3,v9)
def Tg(v1:cB)(l:ak3 aq):ak3 aq:= .cells (bI v1).cells:: .cells ef::l
theorem abK(N:Nat)(v1:cB)(r:an×Bool)(hF:CZ N v1=some r):aG Tryz.prog 115 [(bI v1)] (·=(.bk [(aA r.1),(aB r.2)])):=by
 rw[CZ]at hF;refine aR Tryz.func115 ?_;refine au af [[]] ?_;obtain⟨v2,h2,hF⟩:=ao hF;refine bf af [(18,(aB v2))] (Tg v1 []) ?_ ?_
 ·refine bc h2 (fun h1 h2=> ?_) fun h1 h2=> ?_
  ·cases h2;exact⟨[(4,bT h1)],[],by kernel_rfl⟩
  cases h2;exact⟨[(4,bF h1)],[],by kernel_rfl⟩
 refine bc hF (fun h3 hF=> ?_) fun h3 hF=> ?_
 ·cases hF;exact wr af [[(0,bT h3)],[]]
 obtain⟨v3,h4,hF⟩:=ao hF;obtain⟨v4,h5,hF⟩:=ao hF;refine au af [[(0,bF h3)],[],[(10,oE (k:=0) (bt h4)),(16,cL (Ny N v3 v4 h5))]] ?_;obtain⟨v5,h7,hF⟩:=ao hF;refine bf af [(38,(aB v5))] (Tg v1 []) ?_ ?_
 ·refine bc h7 (fun h6 h7=> ?_) fun h6 h7=> ?_
  ·cases h7;exact⟨[(1,bT h6)],[],by kernel_rfl⟩
  cases h7;exact⟨[(1,bF h6)],[],by kernel_rfl⟩
 refine bc hF (fun h8 hF=> ?_) fun h8 hF=> ?_
 ·obtain⟨v6,h9,hF⟩:=ao hF;cases hF;exact wr af [[(0,bT h8)],[(10,oE (k:=1) (bt h9))]]
 obtain⟨v7,az,hF⟩:=ao hF;obtain⟨v8,aE,hF⟩:=ao hF;refine au af [[(0,bF h8)],[(10,oE (k:=1) (bt az)),(16,cL (Ny N v7 v8 aE))]] ?_;obtain⟨v9,aY,hF⟩:=ao hF;refine bf af [(3,(aB v9))] [.cells (bI v1).cells, .cells (aA v3).cells] ?_ ?_
 ·refine bc aY (fun aK aY=> ?_) fun aK aY=> ?_
  ·cases aY;exact⟨[(6,bT aK)],[(10,oE (k:=0) (bt h4))],by kernel_rfl⟩
  cases aY;exact⟨[(6,bF aK)],[(10,oE (k:=0) (bt h4))],by kernel_rfl⟩
 cases hF;exact wr af []
def Gk(N:Nat)(v5:an×Bool)(v6:ak4)(v7:an):ak5 (Bool×ak4×Int×ak4×Int64×Int64×Int×Int×Int×Int×Int×Int64×(ak3 aU)×(ak3 aH)×(ak3 an)):=
 some (v5.2,v6,v7.ar,v7.aV,v7.ba.xN,v7.ba.xD,v7.aD.a8,v7.aD.bz,v7.aD.xFrac,v7.aD.bK,v7.aD.bM,v7.aM.xK,v7.aM.xL,v7.xIdx,v7.ax)
def IA(N:Nat)(v1:cB)(v2:ak4)(v3:ak4)(v4:an):ak5 (Bool×ak4×Int×ak4×Int64×Int64×Int×Int×Int×Int×Int×Int64×(ak3 aU)×(ak3 aH)×(ak3 an)):=
 Option.bind (CZ N v1) fun v5=>
 bif v5.2 then
  Gk N v5 v2 v5.1
 else
  Gk N v5 v3 v4
theorem ah0(N:Nat)(v1:cB)(v2:ak4)(v3:ak4)(v4:an)(r:Bool×ak4×Int×ak4×Int64×Int64×Int×Int×Int×Int×Int×Int64×(ak3 aU)×(ak3 aH)×(ak3 an))(hF:IA N v1 v2 v3 v4=some r):bQ Tryz.prog 104 [(bI v1),(.fn 115 []),(aS v2),(.ptr 0 0),(.ptr 1 0)] [.cells [(aS v3)], .cells (aA v4).cells] fun r1 h1=>r1=(aB r.1)∧h1=[.cells [(aS r.2.1)], .cells [(aw r.2.2.1),(aS r.2.2.2.1),(aI r.2.2.2.2.1),(aI r.2.2.2.2.2.1),(aw r.2.2.2.2.2.2.1),(aw r.2.2.2.2.2.2.2.1),(aw r.2.2.2.2.2.2.2.2.1),(aw r.2.2.2.2.2.2.2.2.2.1),(aw r.2.2.2.2.2.2.2.2.2.2.1),(aI r.2.2.2.2.2.2.2.2.2.2.2.1),(.d (.sl (b5 r.2.2.2.2.2.2.2.2.2.2.2.2.1))),(.d (.sl (cm r.2.2.2.2.2.2.2.2.2.2.2.2.2.1))),(.d (.sl (cq r.2.2.2.2.2.2.2.2.2.2.2.2.2.2)))]]:=by
 rw[IA]at hF;refine eE 2 Tryz.func104 ?_;obtain⟨v5,h1,hF⟩:=ao hF;refine mc af r 1 [[],[(7,cL (abK N v1 v5 h1))],[]] [12] 4 (fun(v6:ak4)(v7:an)=>⟨27,[(12,(aB v5.2))],[.cells [(aS v6)], .cells (aA v7).cells, .cells (bI v1).cells, .cells (aA v5.1).cells]⟩) (Gk N v5) ?_ ?_
 ·intro f1 aO;refine bc hF (fun h2 hF=> ?_) fun h2 hF=> ?_
  ·exact bP af aO (v2,v5.1) [[(0,bT h2)],[]] hF
  exact bP af aO (v3,v4) [[(0,bF h2)]] hF
 intro v6 v7 hF;rw[Gk]at hF;cases hF;exact cK af [[]]
end Go.Proofs.YtpgmcallngdceaaGreatDoor
