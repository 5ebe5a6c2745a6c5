/-
  Part 17 of the proof: PQ8.
-/
import Derived.Test.YtpgmcallngdceaaGreatDoorSe16
namespace Go.Proofs.YtpgmcallngdceaaGreatDoor
open Go.RowKit
set_option maxRecDepth 100000
set_option maxHeartbeats 0
set_option linter.unusedVariables false
def tM(N:Nat)(v21:an)(fe:Int64)(dx:ak3 aU):ak5 (an×Bool):=
 Option.bind (rF N (⟨fe,dx⟩:aF) v21.ba.xN) fun v24=>
 some ((⟨(2:Int),(bs []),bg,ca,v24.1,[],[]⟩:an),(v24.2==(0:Int)))
def FG(N:Nat)(v1:an):ak5 (an×Bool):=
 bif (v1.ar==(2:Int))then
  Option.bind (nA N (⟨(3:Int),(0:Int),(0:Int),(0:Int),(0:Int)⟩:aC) (⟨v1.aM.xK,(1:Int64)⟩:ay)) fun v2=>
  Option.bind (bif ((v1.aM.xL.length:Int)==(0:Int))then(bif (decide (v1.aM.xK.toInt≤(2147483647:Int)))then some (decide (v1.aM.xK.toInt≥(-2147483647:Int)))else some false)else some false) fun v3=>
  some (v2,v3)
 else
  bif (v1.ar==(8:Int))then
   Option.bind (v1.ax[0]?) fun v4=>
   Option.bind (rF N v4.aM (-1:Int64)) fun v5=>
   Option.bind (bif (v4.ar==(2:Int))then some (v5.2==(0:Int))else some false) fun v6=>
   some ((⟨(2:Int),(bs []),bg,ca,v5.1,[],[]⟩:an),v6)
  else
   Option.bind (bif (v1.ar !=(4:Int))then(bif (v1.ar !=(5:Int))then some (v1.ar !=(6:Int))else some false)else some false) fun v7=>
   bif v7 then
    some (v1,false)
   else
    Option.bind (v1.ax[0]?) fun v8=>
    Option.bind (v1.ax[1]?) fun v9=>
    Option.bind (oH N v8) fun v10=>
    Option.bind (oH N v9) fun v11=>
    Option.bind (bif v10.2 then(bif v11.2 then Option.bind (kQ N v8) fun v12=>
    (bif v12 then Option.bind (kQ N v9) fun aX=>
    some aX else some false)else some true)else some true) fun bu=>
    bif bu then
     some (v1,false)
    else
     bif (v1.ar==(4:Int))then
      Option.bind (qo N v10.1 v11.1) fun bN=>
      some ((⟨(2:Int),(bs []),bg,ca,bN.1,[],[]⟩:an),(bN.2==(0:Int)))
     else
      bif (v1.ar==(5:Int))then
       Option.bind (sr N v10.1 v11.1) fun dh=>
       some ((⟨(2:Int),(bs []),bg,ca,dh.1,[],[]⟩:an),dh.2)
      else
       Option.bind (kQ N v8) fun bX=>
       Option.bind (bif bX then some false else Option.bind (kQ N v9) fun bx=>
       some (!bx)) fun cC=>
       bif cC then
        some (v1,false)
       else
        Option.bind (kQ N v8) fun v20=>
        bif v20 then
         tM N v8 v11.1.xK v11.1.xL
        else
         tM N v9 v10.1.xK v10.1.xL
def LV(v1:an)(l:ak3 aq):ak3 aq:= .cells (aA v1).cells:: .cells ef::l
def M0(v1:an)(v8:an)(v9:an)(l:ak3 aq):ak3 aq:=LV v1 (.cells (aA v8).cells:: .cells (aA v9).cells::l)
theorem aeO(N:Nat)(v1:an)(r:an×Bool)(hF:FG N v1=some r):aG Tryz.prog 127 [(aA v1)] (·=(.bk [(aA r.1),(aB r.2)])):=by
 rw[FG]at hF;refine aR Tryz.func127 ?_;refine au af [[],[]] ?_;refine bc hF (fun h1 hF=> ?_) fun h1 hF=> ?_
 ·refine au af [[(0,bT h1)]] ?_;obtain⟨v2,h2,hF⟩:=ao hF;obtain⟨v3,h5,hF⟩:=ao hF;refine Gt 2 af [(3,(aB v3))] [.cells (aA v1).cells, .cells (aA v2).cells] ?_ ?_
  ·refine bc h5 (fun h3 h5=> ?_) fun h3 h5=> ?_
   ·refine bc h5 (fun h4 h5=> ?_) fun h4 h5=> ?_
    ·cases h5;exact⟨[(11,bT h3),(17,bT h4)],[(16,cL (p8 N (⟨(3:Int),(0:Int),(0:Int),(0:Int),(0:Int)⟩:aC) (⟨v1.aM.xK,(1:Int64)⟩:ay) v2 h2)),(28,oL v1.aM.xL dg)],by kernel_rfl⟩
    cases h5;exact⟨[(11,bT h3),(17,bF h4)],[(16,cL (p8 N (⟨(3:Int),(0:Int),(0:Int),(0:Int),(0:Int)⟩:aC) (⟨v1.aM.xK,(1:Int64)⟩:ay) v2 h2)),(28,oL v1.aM.xL dg)],by kernel_rfl⟩
   cases h5;exact⟨[(11,bF h3),(17,bF rfl)],[(16,cL (p8 N (⟨(3:Int),(0:Int),(0:Int),(0:Int),(0:Int)⟩:aC) (⟨v1.aM.xK,(1:Int64)⟩:ay) v2 h2)),(28,oL v1.aM.xL dg)],by kernel_rfl⟩
  cases hF;exact wr af []
 refine au af [[(0,bF h1)],[]] ?_;refine bc hF (fun h6 hF=> ?_) fun h6 hF=> ?_
 ·obtain⟨v4,h7,hF⟩:=ao hF;obtain⟨v5,h8,hF⟩:=ao hF;refine au af [[(0,bT h6)],[(7,oE (k:=0) (bt h7)),(16,cL (MM N v4.aM (-1:Int64) v5 h8))]] ?_;obtain⟨v6,az,hF⟩:=ao hF;refine bf af [(3,(aB v6))] [.cells (aA v1).cells, .cells [(aw (2:Int)),(aS (bs [])),(aI (0:Int64)),(aI (0:Int64)),(aw (0:Int)),(aw (0:Int)),(aw (0:Int)),(aw (0:Int)),(aw (0:Int)),(aI v5.1.xK),(.d (.sl (b5 v5.1.xL))),(.d (.v (.slice none 0 0))),(.d (.v (.slice none 0 0)))], .cells (b9 v5.1).cells] ?_ ?_
  ·refine bc az (fun h9 az=> ?_) fun h9 az=> ?_
   ·cases az;exact⟨[(8,bT h9)],[(13,oE (k:=0) (bt h7))],by kernel_rfl⟩
   cases az;exact⟨[(8,bF h9)],[(13,oE (k:=0) (bt h7))],by kernel_rfl⟩
  cases hF;exact wr af []
 refine au af [[(0,bF h6)]] ?_;obtain⟨v7,aY,hF⟩:=ao hF;refine bf af [(80,(aB v7))] (LV v1 []) ?_ ?_
 ·refine bc aY (fun aE aY=> ?_) fun aE aY=> ?_
  ·refine bc aY (fun aK aY=> ?_) fun aK aY=> ?_
   ·cases aY;exact⟨[(3,bT aE),(8,bT aK)],[],by kernel_rfl⟩
   cases aY;exact⟨[(3,bT aE),(8,bF aK)],[],by kernel_rfl⟩
  cases aY;exact⟨[(3,bF aE),(8,bF rfl)],[],by kernel_rfl⟩
 refine bc hF (fun aJ hF=> ?_) fun aJ hF=> ?_
 ·cases hF;exact wr af [[(0,bT aJ)],[]]
 refine au af [[(0,bF aJ)]] ?_;obtain⟨v8,bp,hF⟩:=ao hF;obtain⟨v9,aL,hF⟩:=ao hF;refine mq 20 af [(6,(.ptr 2 0)),(7,(.ptr 3 0))] (M0 v1 v8 v9 []) ⟨[(7,oE (k:=0) (bt bp)),(19,oE (k:=1) (bt aL))],by kernel_rfl⟩ ?_;obtain⟨v10,bn,hF⟩:=ao hF;obtain⟨v11,aZ,hF⟩:=ao hF;refine au af [[(4,cL (F9 N v8 v10 bn))],[(4,cL (F9 N v9 v11 aZ))]] ?_;obtain⟨bu,cE,hF⟩:=ao hF;refine bf af [(113,(aB bu))] (M0 v1 v8 v9 [.cells (b9 v10.1).cells, .cells (b9 v11.1).cells]) ?_ ?_
 ·refine bc cE (fun bU cE=> ?_) fun bU cE=> ?_
  ·refine bc cE (fun bC cE=> ?_) fun bC cE=> ?_
   ·obtain⟨v12,cl,cE⟩:=ao cE;refine bc cE (fun bw cE=> ?_) fun bw cE=> ?_
    ·obtain⟨aX,cT,cE⟩:=ao cE;obtain rfl:=sj cE;exact⟨[(2,bF (bG bU)),(6,bF (bG bC)),(9,bT bw)],[(25,cL (sA N v8 v12 cl)),(34,cL (sA N v9 aX cT)),(37,bT bw)],by kernel_rfl⟩
    cases cE;exact⟨[(2,bF (bG bU)),(6,bF (bG bC)),(9,bF bw)],[(25,cL (sA N v8 v12 cl)),(37,bF bw)],by kernel_rfl⟩
   cases cE;exact⟨[(2,bF (bG bU)),(6,bT (bS bC)),(9,uN)],[],by kernel_rfl⟩
  cases cE;exact⟨[(2,bT (bS bU)),(6,bT rfl),(9,uN)],[],by kernel_rfl⟩
 refine bc hF (fun eR hF=> ?_) fun eR hF=> ?_
 ·cases hF;exact wr af [[(0,bT eR)],[]]
 refine au af [[(0,bF eR)],[]] ?_;refine bc hF (fun fb hF=> ?_) fun fb hF=> ?_
 ·obtain⟨bN,gr,hF⟩:=ao hF;cases hF;exact wr af [[(0,bT fb)],[(7,cL (R5 N v10.1 v11.1 bN gr))],[]]
 refine au af [[(0,bF fb)],[]] ?_;refine bc hF (fun h28 hF=> ?_) fun h28 hF=> ?_
 ·obtain⟨dh,rI,hF⟩:=ao hF;cases hF;exact wr af [[(0,bT h28)],[(7,cL (Vj N v10.1 v11.1 dh rI))],[]]
 refine au af [[(0,bF h28)]] ?_;obtain⟨bX,cO,hF⟩:=ao hF;obtain⟨cC,nB,hF⟩:=ao hF;refine bf af [(147,(aB cC))] (M0 v1 v8 v9 [.cells (b9 v10.1).cells, .cells (b9 v11.1).cells]) ?_ ?_
 ·refine bc nB (fun C0 nB=> ?_) fun C0 nB=> ?_
  ·cases nB;exact⟨[(3,bF (bG C0))],[(4,cL (sA N v8 bX cO))],by kernel_rfl⟩
  obtain⟨bx,LD,nB⟩:=ao nB;cases nB;exact⟨[(3,bT (bS C0))],[(4,cL (sA N v8 bX cO)),(16,cL (sA N v9 bx LD))],by kernel_rfl⟩
 refine bc hF (fun NI hF=> ?_) fun NI hF=> ?_
 ·cases hF;exact wr af [[(0,bT NI)],[]]
 obtain⟨v20,YK,hF⟩:=ao hF;refine EL af 1 [[(0,bF NI)],[(4,cL (sA N v8 v20 YK))]] [2,7,8] 6 [] [(1,10),(1,11),(1,12)] (fun((v21,fe,dx):an×Int64×(ak3 aU))=>⟨165,[(2,(.ptr 1 0)),(7,(.ptr 3 0)),(8,(.ptr 4 0))],(LV v1 [.cells (aA v8).cells, .cells (aA v21).cells, .cells [(aI fe),(.d (.sl (b5 dx)))], .cells (b9 v11.1).cells])⟩) (fun((v21,fe,dx):an×Int64×(ak3 aU))=>tM N v21 fe dx=some r) ?_ ?_
 ·intro f1 aO;refine bc hF (fun MX hF=> ?_) fun MX hF=> ?_
  ·exact lM af aO (v8,v11.1.xK,v11.1.xL) [[(0,bT MX)],[],[]] hF
  exact lM af aO (v9,v10.1.xK,v10.1.xL) [[(0,bF MX)]] hF
 rintro⟨v21,fe,dx⟩ hF
 try dsimp only at hF
 rw[tM]at hF;obtain⟨v24,Y2,hF⟩:=ao hF;cases hF;exact wr af [[(13,cL (MM N (⟨fe,dx⟩:aF) v21.ba.xN v24 Y2))],[]]
def yl(N:Nat)(v1:Int)(v2:Int):ak5 Bool:=
 Option.bind (bif (v1==(15:Int))then(bif (v2==(0:Int))then some true else(bif (v1==(14:Int))then(bif (decide (v2≤(0:Int)))then some true else(bif (v1==(13:Int))then some (decide (v2<(0:Int)))else some false))else(bif (v1==(13:Int))then some (decide (v2<(0:Int)))else some false)))else(bif (v1==(14:Int))then(bif (decide (v2≤(0:Int)))then some true else(bif (v1==(13:Int))then some (decide (v2<(0:Int)))else some false))else(bif (v1==(13:Int))then some (decide (v2<(0:Int)))else some false))) fun v3=>
 some v3
theorem RN(N:Nat)(v1:Int)(v2:Int)(r:Bool)(hF:yl N v1 v2=some r):aG Tryz.prog 308 [(aw v1),(aw v2)] (·=(aB r)):=by
 rw[yl]at hF;refine aR Tryz.func308 ?_;refine au af [[]] ?_;obtain⟨v3,aE,hF⟩:=ao hF;refine bf af [(4,(aB v3))] [] ?_ ?_
 ·refine bc aE (fun h1 aE=> ?_) fun h1 aE=> ?_
  ·refine bc aE (fun h2 aE=> ?_) fun h2 aE=> ?_
   ·cases aE;exact⟨[(2,bT h1),(6,bT h2),(9,uN),(14,bT rfl),(17,uN)],[],by kernel_rfl⟩
   refine bc aE (fun h3 aE=> ?_) fun h3 aE=> ?_
   ·refine bc aE (fun h4 aE=> ?_) fun h4 aE=> ?_
    ·cases aE;exact⟨[(2,bT h1),(6,bF h2),(9,bT h3),(14,bT h4),(17,uN)],[(37,bT h3)],by kernel_rfl⟩
    refine bc aE (fun h5 aE=> ?_) fun h5 aE=> ?_
    ·cases aE;exact⟨[(2,bT h1),(6,bF h2),(9,bT h3),(14,bF h4),(17,bT h5)],[(37,bT h3),(61,bT h5)],by kernel_rfl⟩
    cases aE;exact⟨[(2,bT h1),(6,bF h2),(9,bT h3),(14,bF h4),(17,bF h5)],[(37,bT h3),(61,bF h5)],by kernel_rfl⟩
   refine bc aE (fun h6 aE=> ?_) fun h6 aE=> ?_
   ·cases aE;exact⟨[(2,bT h1),(6,bF h2),(9,bF h3),(14,bF rfl),(17,bT h6)],[(37,bF h3),(61,bT h6)],by kernel_rfl⟩
   cases aE;exact⟨[(2,bT h1),(6,bF h2),(9,bF h3),(14,bF rfl),(17,bF h6)],[(37,bF h3),(61,bF h6)],by kernel_rfl⟩
  refine bc aE (fun h7 aE=> ?_) fun h7 aE=> ?_
  ·refine bc aE (fun h8 aE=> ?_) fun h8 aE=> ?_
   ·cases aE;exact⟨[(2,bF h1),(6,bF rfl),(9,bT h7),(14,bT h8),(17,uN)],[(37,bT h7)],by kernel_rfl⟩
   refine bc aE (fun h9 aE=> ?_) fun h9 aE=> ?_
   ·cases aE;exact⟨[(2,bF h1),(6,bF rfl),(9,bT h7),(14,bF h8),(17,bT h9)],[(37,bT h7),(61,bT h9)],by kernel_rfl⟩
   cases aE;exact⟨[(2,bF h1),(6,bF rfl),(9,bT h7),(14,bF h8),(17,bF h9)],[(37,bT h7),(61,bF h9)],by kernel_rfl⟩
  refine bc aE (fun az aE=> ?_) fun az aE=> ?_
  ·cases aE;exact⟨[(2,bF h1),(6,bF rfl),(9,bF h7),(14,bF rfl),(17,bT az)],[(37,bF h7),(61,bT az)],by kernel_rfl⟩
  cases aE;exact⟨[(2,bF h1),(6,bF rfl),(9,bF h7),(14,bF rfl),(17,bF az)],[(37,bF h7),(61,bF az)],by kernel_rfl⟩
 cases hF;exact wr af []
def zi(N:Nat)(v2:an)(v3:an)(v1:an):ak5 (Bool×Bool):=
 Option.bind (jk N v2 v3) fun v10=>
 bif v10 then
  some ((v1.ar !=(13:Int)),true)
 else
  some (false,false)
def yu(N:Nat)(v1:an)(bu:Int):ak5 (Bool×Bool):=
 Option.bind (yl N v1.ar bu) fun bN=>
 some (bN,true)
def DW(N:Nat)(v11:aF×Bool)(v1:an)(aX:Int):ak5 (Bool×Bool):=
 bif (decide (v11.1.xK.toInt>(0:Int)))then
  yu N v1 (1:Int)
 else
  yu N v1 aX
def ui(N:Nat)(v1:an):ak5 (Bool×Bool):=
 Option.bind (v1.ax[0]?) fun v2=>
 Option.bind (v1.ax[1]?) fun v3=>
 Option.bind (bif (v2.ar==(1:Int))then(bif (v3.ar==(1:Int))then some ((v2.aD.a8==v3.aD.a8)&&((v2.aD.bz==v3.aD.bz)&&((v2.aD.xFrac==v3.aD.xFrac)&&((v2.aD.bK==v3.aD.bK)&&((v2.aD.bM==v3.aD.bM)&&true)))))else some false)else some false) fun v4=>
 bif v4 then
  Option.bind (yV N v2.aD v2.ba v3.ba) fun v5=>
  Option.bind (yl N v1.ar v5) fun v6=>
  some (v6,true)
 else
  Option.bind (oH N v2) fun v7=>
  Option.bind (oH N v3) fun v8=>
  Option.bind (bif v7.2 then some v8.2 else some false) fun v9=>
  bif v9 then
   Option.bind (sr N v7.1 v8.1) fun v11=>
   Option.bind (bif v11.2 then some ((v11.1.xL.length:Int)==(0:Int))else some false) fun v12=>
   bif v12 then
    bif (decide (v11.1.xK.toInt<(0:Int)))then
     DW N v11 v1 (-1:Int)
    else
     DW N v11 v1 (0:Int)
   else
    zi N v2 v3 v1
  else
   zi N v2 v3 v1
def FN(v1:an)(v2:an)(v3:an)(v7:aF×Bool)(v8:aF×Bool)(l:ak3 aq):ak3 aq:= .cells (aA v1).cells:: .cells (aA v2).cells:: .cells (aA v3).cells:: .cells (b9 v7.1).cells:: .cells (b9 v8.1).cells::l
theorem ahx(N:Nat)(v1:an)(r:Bool×Bool)(hF:ui N v1=some r):aG Tryz.prog 265 [(aA v1)] (·=(.bk [(aB r.1),(aB r.2)])):=by
 rw[ui]at hF;refine aR Tryz.func265 ?_;refine au af [[]] ?_;obtain⟨v2,h1,hF⟩:=ao hF;obtain⟨v3,h2,hF⟩:=ao hF;refine mq 20 af [(4,(.ptr 1 0)),(5,(.ptr 2 0))] [.cells (aA v1).cells, .cells (aA v2).cells, .cells (aA v3).cells] ⟨[(7,oE (k:=0) (bt h1)),(19,oE (k:=1) (bt h2))],by kernel_rfl⟩ ?_;obtain⟨v4,h5,hF⟩:=ao hF;refine bf af [(35,(aB v4))] [.cells (aA v1).cells, .cells (aA v2).cells, .cells (aA v3).cells] ?_ ?_
 ·refine bc h5 (fun h3 h5=> ?_) fun h3 h5=> ?_
  ·refine bc h5 (fun h4 h5=> ?_) fun h4 h5=> ?_
   ·cases h5;exact⟨[(3,bT h3),(8,bT h4)],[],by kernel_rfl⟩
   cases h5;exact⟨[(3,bT h3),(8,bF h4)],[],by kernel_rfl⟩
  cases h5;exact⟨[(3,bF h3),(8,bF rfl)],[],by kernel_rfl⟩
 refine bc hF (fun h6 hF=> ?_) fun h6 hF=> ?_
 ·obtain⟨v5,h7,hF⟩:=ao hF;obtain⟨v6,h8,hF⟩:=ao hF;cases hF;exact wr af [[(0,bT h6)],[(25,cL (UC N v2.aD v2.ba v3.ba v5 h7)),(28,cL (RN N v1.ar v5 v6 h8))]]
 obtain⟨v7,h9,hF⟩:=ao hF;obtain⟨v8,az,hF⟩:=ao hF;refine au af [[(0,bF h6)],[(4,cL (F9 N v2 v7 h9))],[(4,cL (F9 N v3 v8 az))]] ?_;obtain⟨v9,aK,hF⟩:=ao hF;refine bf af [(59,(aB v9))] (FN v1 v2 v3 v7 v8 []) ?_ ?_
 ·refine bc aK (fun aE aK=> ?_) fun aE aK=> ?_
  ·cases aK;exact⟨[(1,bT aE)],[],by kernel_rfl⟩
  cases aK;exact⟨[(1,bF aE)],[],by kernel_rfl⟩
 refine Xb af r 1 [] [1,4,5] 5 ⟨89,[(1,(.ptr 0 0)),(4,(.ptr 1 0)),(5,(.ptr 2 0))],(FN v1 v2 v3 v7 v8 [])⟩ (zi N v2 v3 v1) ?_ ?_
 ·intro f1 aO;refine bc hF (fun bp hF=> ?_) fun bp hF=> ?_
  ·obtain⟨v11,aL,hF⟩:=ao hF;refine au af [[(0,bT bp)],[(7,cL (Vj N v7.1 v8.1 v11 aL))]] ?_;obtain⟨v12,aZ,hF⟩:=ao hF;refine bf af [(72,(aB v12))] (FN v1 v2 v3 v7 v8 [.cells (b9 v11.1).cells]) ?_ ?_
   ·refine bc aZ (fun bn aZ=> ?_) fun bn aZ=> ?_
    ·cases aZ;exact⟨[(1,bT bn)],[(13,oL v11.1.xL dg)],by kernel_rfl⟩
    cases aZ;exact⟨[(1,bF bn)],[],by kernel_rfl⟩
   refine bc hF (fun bU hF=> ?_) fun bU hF=> ?_
   ·refine gY af r 2 [[(0,bT bU)],[],[]] [1,10,12] 6 (fun(aX:Int)=>⟨89,[(1,(.ptr 0 0)),(10,(.ptr 5 0)),(12,(aw aX))],(FN v1 v2 v3 v7 v8 [.cells (b9 v11.1).cells])⟩) (DW N v11 v1) ?_ ?_
    ·intro f2 eH;refine bc hF (fun bw hF=> ?_) fun bw hF=> ?_
     ·exact bP af eH (-1:Int) [[(0,bT bw)],[]] hF
     exact bP af eH (0:Int) [[(0,bF bw)]] hF
    intro aX hF;rw[DW]at hF;refine gY af r 3 [[]] [1,12] 6 (fun(bu:Int)=>⟨89,[(1,(.ptr 0 0)),(12,(aw bu))],(FN v1 v2 v3 v7 v8 [.cells (b9 v11.1).cells])⟩) (yu N v1) ?_ ?_
    ·intro f3 mW;refine bc hF (fun cl hF=> ?_) fun cl hF=> ?_
     ·exact bP af mW (1:Int) [[(0,bT cl)],[]] hF
     exact bP af mW aX [[(0,bF cl)]] hF
    intro bu hF;rw[yu]at hF;obtain⟨bN,bC,hF⟩:=ao hF;cases hF;exact wr af [[(10,cL (RN N v1.ar bu bN bC))]]
   exact bP af aO () [[(0,bF bU)]] hF
  exact bP af aO () [[(0,bF bp)]] hF
 intro hF;rw[zi]at hF;obtain⟨v10,aY,hF⟩:=ao hF;refine au af [[(7,cL (dN N v2 v3 v10 aY))]] ?_;refine bc hF (fun aJ hF=> ?_) fun aJ hF=> ?_
 ·cases hF;exact wr af [[(0,bT aJ)],[]]
 cases hF;exact wr af [[(0,bF aJ)],[]]
def kD(N:Nat):Nat→an→ak5 (Bool×Bool)
 |0,_=>none
 |d+1,v1=>
  Option.bind (bif (decide (v1.ar≥(13:Int)))then some (decide (v1.ar≤(15:Int)))else some false) fun v2=>
  bif v2 then
   Option.bind (ui N v1) fun v3=>
   some (v3.1,v3.2)
  else
   bif (v1.ar==(18:Int))then
    Option.bind (v1.ax[0]?) fun v4=>
    Option.bind ((kD N d) v4) fun v5=>
    Option.bind (bif v5.2 then some (!v5.1)else some false) fun v6=>
    some (v6,v5.2)
   else
    Option.bind (v1.ax[0]?) fun v7=>
    Option.bind ((kD N d) v7) fun v8=>
    Option.bind (v1.ax[1]?) fun v9=>
    Option.bind ((kD N d) v9) fun v10=>
    Option.bind (bif v8.2 then(bif (v8.1==(v1.ar==(17:Int)))then some true else(bif v10.2 then some (v10.1==(v1.ar==(17:Int)))else some false))else(bif v10.2 then some (v10.1==(v1.ar==(17:Int)))else some false)) fun v11=>
    bif v11 then
     some ((v1.ar==(17:Int)),true)
    else
     Option.bind (bif (v1.ar==(17:Int))then(bif v8.2 then some (false,v10.2)else some (false,false))else(bif v8.2 then some (v10.2,v10.2)else some (false,false))) fun v12=>
     some (v12.1,v12.2)
def vT(N:Nat)(v1:an):ak5 (Bool×Bool):=kD N N v1
theorem Zs(N:Nat):∀d:Nat,(∀(v1:an)(r:Bool×Bool),kD N d v1=some r→aG Tryz.prog 204 [(aA v1)] (·=(.bk [(aB r.1),(aB r.2)]))):=by
 intro d
 induction d with
 |zero=>intro v1 r hF;rw[kD]at hF;cases hF
 |succ d ih=>
  have Nd:=ih;intro v1 r hF;rw[kD]at hF;refine aR Tryz.func204 ?_;refine au af [[]] ?_;obtain⟨v2,h2,hF⟩:=ao hF;refine bf af [(18,(aB v2))] [.cells (aA v1).cells] ?_ ?_
  ·refine bc h2 (fun h1 h2=> ?_) fun h1 h2=> ?_
   ·cases h2;exact⟨[(3,bT h1)],[],by kernel_rfl⟩
   cases h2;exact⟨[(3,bF h1)],[],by kernel_rfl⟩
  refine bc hF (fun h3 hF=> ?_) fun h3 hF=> ?_
  ·obtain⟨v3,h4,hF⟩:=ao hF;cases hF;exact wr af [[(0,bT h3)],[(4,cL (ahx N v1 v3 h4))]]
  refine au af [[(0,bF h3)],[]] ?_;refine bc hF (fun h5 hF=> ?_) fun h5 hF=> ?_
  ·obtain⟨v4,h6,hF⟩:=ao hF;obtain⟨v5,h7,hF⟩:=ao hF;refine au af [[(0,bT h5)],[(7,oE (k:=0) (bt h6)),(13,cL (Nd v4 v5 h7))]] ?_;obtain⟨v6,h9,hF⟩:=ao hF;refine bf af [(2,(aB v6)),(3,(aB v5.2))] [.cells (aA v1).cells] ?_ ?_
   ·refine bc h9 (fun h8 h9=> ?_) fun h8 h9=> ?_
    ·cases h9;exact⟨[(1,bT h8)],[],by kernel_rfl⟩
    cases h9;exact⟨[(1,bF h8)],[],by kernel_rfl⟩
   cases hF;exact wr af []
  obtain⟨v7,az,hF⟩:=ao hF;obtain⟨v8,aE,hF⟩:=ao hF;obtain⟨v9,aK,hF⟩:=ao hF;obtain⟨v10,aY,hF⟩:=ao hF;refine au af [[(0,bF h5)],[(7,oE (k:=0) (bt az)),(13,cL (Nd v7 v8 aE))],[(7,oE (k:=1) (bt aK)),(13,cL (Nd v9 v10 aY))],[]] ?_;obtain⟨v11,aZ,hF⟩:=ao hF;refine bf af [(72,(aB v11))] [.cells (aA v1).cells] ?_ ?_
  ·refine bc aZ (fun aJ aZ=> ?_) fun aJ aZ=> ?_
   ·refine bc aZ (fun bp aZ=> ?_) fun bp aZ=> ?_
    ·cases aZ;exact⟨[(1,bT aJ),(6,bT bp),(8,uN)],[],by kernel_rfl⟩
    refine bc aZ (fun aL aZ=> ?_) fun aL aZ=> ?_
    ·cases aZ;exact⟨[(1,bT aJ),(6,bF bp),(8,bT aL)],[(37,bT aL)],by kernel_rfl⟩
    cases aZ;exact⟨[(1,bT aJ),(6,bF bp),(8,bF aL)],[(37,bF aL)],by kernel_rfl⟩
   refine bc aZ (fun bn aZ=> ?_) fun bn aZ=> ?_
   ·cases aZ;exact⟨[(1,bF aJ),(6,bF rfl),(8,bT bn)],[(37,bT bn)],by kernel_rfl⟩
   cases aZ;exact⟨[(1,bF aJ),(6,bF rfl),(8,bF bn)],[(37,bF bn)],by kernel_rfl⟩
  refine bc hF (fun bU hF=> ?_) fun bU hF=> ?_
  ·cases hF;exact wr af [[(0,bT bU)],[]]
  refine au af [[(0,bF bU)]] ?_;obtain⟨v12,cT,hF⟩:=ao hF;refine bf af [(2,(aB v12.1)),(3,(aB v12.2))] [.cells (aA v1).cells] ?_ ?_
  ·refine bc cT (fun bC cT=> ?_) fun bC cT=> ?_
   ·refine bc cT (fun cl cT=> ?_) fun cl cT=> ?_
    ·cases cT;exact⟨[(2,bF (bG bC)),(5,bF rfl),(9,bT cl)],[],by kernel_rfl⟩
    cases cT;exact⟨[(2,bF (bG bC)),(5,bF rfl),(9,bF cl)],[],by kernel_rfl⟩
   refine bc cT (fun bw cT=> ?_) fun bw cT=> ?_
   ·cases cT;exact⟨[(2,bT (bS bC)),(5,bT bw),(9,bT bw)],[],by kernel_rfl⟩
   cases cT;exact⟨[(2,bT (bS bC)),(5,bF bw),(9,bF bw)],[],by kernel_rfl⟩
  cases hF;exact wr af []
theorem Mk(N:Nat)(v1:an)(r:Bool×Bool)(hF:vT N v1=some r):aG Tryz.prog 204 [(aA v1)] (·=(.bk [(aB r.1),(aB r.2)])):=(Zs N N) v1 r hF
def Dl(N:Nat)(v1:an):ak5 (an×Bool):=
 bif (v1.ar !=(11:Int))then
  some (v1,false)
 else
  Option.bind (v1.ax[0]?) fun v2=>
  Option.bind (vT N v2) fun v3=>
  bif v3.1 then
   Option.bind (v1.ax[1]?) fun v4=>
   some (v4,v3.2)
  else
   Option.bind (v1.ax[2]?) fun v5=>
   some (v5,v3.2)
theorem ahY(N:Nat)(v1:an)(r:an×Bool)(hF:Dl N v1=some r):aG Tryz.prog 128 [(aA v1)] (·=(.bk [(aA r.1),(aB r.2)])):=by
 rw[Dl]at hF;refine aR Tryz.func128 ?_;refine au af [[],[]] ?_;refine bc hF (fun h1 hF=> ?_) fun h1 hF=> ?_
 ·cases hF;exact wr af [[(0,bT h1)],[]]
 obtain⟨v2,h2,hF⟩:=ao hF;obtain⟨v3,h3,hF⟩:=ao hF;refine au af [[(0,bF h1)],[(7,oE (k:=0) (bt h2)),(13,cL (Mk N v2 v3 h3))],[]] ?_;refine bc hF (fun h4 hF=> ?_) fun h4 hF=> ?_
 ·obtain⟨v4,h5,hF⟩:=ao hF;cases hF;exact wr af [[(0,bT h4)],[(7,oE (k:=1) (bt h5))]]
 obtain⟨v5,h6,hF⟩:=ao hF;cases hF;exact wr af [[(0,bF h4)],[(7,oE (k:=2) (bt h6))]]
def Et(N:Nat)(v1:an):ak5 (an×Bool):=
 bif (v1.ar==(11:Int))then
  Option.bind (v1.ax[1]?) fun v2=>
  Option.bind (v1.ax[2]?) fun v3=>
  Option.bind (jk N v2 v3) fun v4=>
  some (v2,v4)
 else
  Option.bind (bif (v1.ar==(9:Int))then some true else(bif (v1.ar==(10:Int))then some true else(bif (v1.ar==(16:Int))then some true else some (v1.ar==(17:Int))))) fun v5=>
  bif v5 then
   Option.bind (v1.ax[0]?) fun v6=>
   Option.bind (v1.ax[1]?) fun v7=>
   Option.bind (jk N v6 v7) fun v8=>
   some (v6,v8)
  else
   some (v1,false)
theorem aaz(N:Nat)(v1:an)(r:an×Bool)(hF:Et N v1=some r):aG Tryz.prog 129 [(aA v1)] (·=(.bk [(aA r.1),(aB r.2)])):=by
 rw[Et]at hF;refine aR Tryz.func129 ?_;refine au af [[],[]] ?_;refine bc hF (fun h1 hF=> ?_) fun h1 hF=> ?_
 ·obtain⟨v2,h2,hF⟩:=ao hF;obtain⟨v3,h3,hF⟩:=ao hF;obtain⟨v4,h4,hF⟩:=ao hF;cases hF;exact wr af [[(0,bT h1)],[(7,oE (k:=1) (bt h2)),(19,oE (k:=1) (bt h2)),(31,oE (k:=2) (bt h3)),(37,cL (dN N v2 v3 v4 h4))]]
 refine au af [[(0,bF h1)]] ?_;obtain⟨v5,h8,hF⟩:=ao hF;refine bf af [(37,(aB v5))] [.cells (aA v1).cells, .cells ef] ?_ ?_
 ·refine bc h8 (fun h5 h8=> ?_) fun h5 h8=> ?_
  ·cases h8;exact⟨[(3,bT h5),(8,bT rfl),(13,bT rfl)],[],by kernel_rfl⟩
  refine bc h8 (fun h6 h8=> ?_) fun h6 h8=> ?_
  ·cases h8;exact⟨[(3,bF h5),(8,bT h6),(13,bT rfl)],[],by kernel_rfl⟩
  refine bc h8 (fun h7 h8=> ?_) fun h7 h8=> ?_
  ·cases h8;exact⟨[(3,bF h5),(8,bF h6),(13,bT h7)],[],by kernel_rfl⟩
  cases h8;exact⟨[(3,bF h5),(8,bF h6),(13,bF h7)],[],by kernel_rfl⟩
 refine bc hF (fun h9 hF=> ?_) fun h9 hF=> ?_
 ·obtain⟨v6,az,hF⟩:=ao hF;obtain⟨v7,aE,hF⟩:=ao hF;obtain⟨v8,aK,hF⟩:=ao hF;cases hF;exact wr af [[(0,bT h9)],[(7,oE (k:=0) (bt az)),(19,oE (k:=0) (bt az)),(31,oE (k:=1) (bt aE)),(37,cL (dN N v6 v7 v8 aK))]]
 cases hF;exact wr af [[(0,bF h9)],[]]
def wV(N:Nat)(v1:aC):ak5 ay:=
 Option.bind (ma N v1) fun v2=>
 bif v2 then
  some (⟨(0:Int64),(1:Int64)⟩:ay)
 else
  some bg
theorem V4(N:Nat)(v1:aC)(r:ay)(hF:wV N v1=some r):aG Tryz.prog 207 [(bY v1)] (·=(bj r)):=by
 rw[wV]at hF;refine aR Tryz.func207 ?_;obtain⟨v2,h1,hF⟩:=ao hF;refine au af [[],[(4,cL (mO N v1 v2 h1))]] ?_;refine bc hF (fun h2 hF=> ?_) fun h2 hF=> ?_
 ·cases hF;exact wr af [[(0,bF (bG h2))],[]]
 cases hF;exact wr af [[(0,bT (bS h2))],[]]
def nQ(N:Nat)(v1:an):ak5 Bool:=
 Option.bind (bif (v1.ar==(1:Int))then Option.bind (wV N v1.aD) fun v2=>
 some ((v1.ba.xN.toInt==v2.xN.toInt)&&((v1.ba.xD.toInt==v2.xD.toInt)&&true))else some false) fun v3=>
 some v3
theorem w9(N:Nat)(v1:an)(r:Bool)(hF:nQ N v1=some r):aG Tryz.prog 205 [(aA v1)] (·=(aB r)):=by
 rw[nQ]at hF;refine aR Tryz.func205 ?_;refine au af [[]] ?_;obtain⟨v3,h3,hF⟩:=ao hF;refine bf af [(2,(aB v3))] [.cells (aA v1).cells] ?_ ?_
 ·refine bc h3 (fun h1 h3=> ?_) fun h1 h3=> ?_
  ·obtain⟨v2,h2,h3⟩:=ao h3;cases h3;exact⟨[(3,bT h1)],[(25,cL (V4 N v1.aD v2 h2))],by kernel_rfl⟩
  cases h3;exact⟨[(3,bF h1)],[],by kernel_rfl⟩
 cases hF;exact wr af []
def wq(N:Nat)(v3:an)(v1:an)(v4:an)(v7:Bool):ak5 (an×Bool):=
 bif v7 then
  some (v3,true)
 else
  Option.bind (bif (v1.ar==(4:Int))then Option.bind (nQ N v3) fun v8=>
  some v8 else some false) fun v9=>
  bif v9 then
   some (v4,true)
  else
   Option.bind (bif (v1.ar==(5:Int))then Option.bind (nQ N v3) fun v10=>
   some v10 else some false) fun v11=>
   bif v11 then
    some ((⟨(8:Int),(bs []),bg,ca,bV,[],[v4]⟩:an),true)
   else
    Option.bind (bif (v1.ar==(6:Int))then Option.bind (nQ N v4) fun v12=>
    some v12 else some false) fun aX=>
    bif aX then
     some (v4,true)
    else
     Option.bind (bif (v1.ar==(6:Int))then Option.bind (nQ N v3) fun bu=>
     some bu else(bif (v1.ar==(7:Int))then Option.bind (nQ N v3) fun bN=>
     some bN else some false)) fun dh=>
     some (v3,dh)
def Dj(N:Nat)(v1:an):ak5 (an×Bool):=
 Option.bind (bif (decide (v1.ar<(4:Int)))then some true else some (decide (v1.ar>(7:Int)))) fun v2=>
 bif v2 then
  some (v1,false)
 else
  Option.bind (v1.ax[0]?) fun v3=>
  Option.bind (v1.ax[1]?) fun v4=>
  Option.bind (bif (v1.ar==(4:Int))then Option.bind (nQ N v4) fun v5=>
  some v5 else some false) fun v6=>
  bif v6 then
   wq N v3 v1 v4 v6
  else
   bif (v1.ar==(5:Int))then
    Option.bind (nQ N v4) fun bX=>
    wq N v3 v1 v4 bX
   else
    wq N v3 v1 v4 false
def VC(v1:an)(l:ak3 aq):ak3 aq:= .cells (aA v1).cells:: .cells ef::l
def zV(v1:an)(v3:an)(v4:an)(l:ak3 aq):ak3 aq:=VC v1 (.cells (aA v3).cells:: .cells (aA v4).cells::l)
theorem af6(N:Nat)(v1:an)(r:an×Bool)(hF:Dj N v1=some r):aG Tryz.prog 130 [(aA v1)] (·=(.bk [(aA r.1),(aB r.2)])):=by
 rw[Dj]at hF;refine aR Tryz.func130 ?_;refine au af [[]] ?_;obtain⟨v2,h2,hF⟩:=ao hF;refine bf af [(13,(aB v2))] (VC v1 []) ?_ ?_
 ·refine bc h2 (fun h1 h2=> ?_) fun h1 h2=> ?_
  ·cases h2;exact⟨[(3,bT h1)],[],by kernel_rfl⟩
  cases h2;exact⟨[(3,bF h1)],[],by kernel_rfl⟩
 refine bc hF (fun h3 hF=> ?_) fun h3 hF=> ?_
 ·cases hF;exact wr af [[(0,bT h3)],[]]
 refine au af [[(0,bF h3)]] ?_;obtain⟨v3,h4,hF⟩:=ao hF;obtain⟨v4,h5,hF⟩:=ao hF;refine mq 20 af [(4,(.ptr 2 0)),(5,(.ptr 3 0))] (zV v1 v3 v4 []) ⟨[(7,oE (k:=0) (bt h4)),(19,oE (k:=1) (bt h5))],by kernel_rfl⟩ ?_;obtain⟨v6,h8,hF⟩:=ao hF;refine bf af [(23,(aB v6))] (zV v1 v3 v4 []) ?_ ?_
 ·refine bc h8 (fun h6 h8=> ?_) fun h6 h8=> ?_
  ·obtain⟨v5,h7,h8⟩:=ao h8;obtain rfl:=sj h8;exact⟨[(3,bT h6)],[(16,cL (w9 N v4 v5 h7))],by kernel_rfl⟩
  cases h8;exact⟨[(3,bF h6)],[],by kernel_rfl⟩
 refine EL af 1 [] [1,2,4,5,23] 4 [] [(1,10),(1,11),(1,12)] (fun(v7:Bool)=>⟨81,[(1,(.ptr 0 0)),(2,(.ptr 1 0)),(4,(.ptr 2 0)),(5,(.ptr 3 0)),(23,(aB v7))],(zV v1 v3 v4 [])⟩) (fun(v7:Bool)=>wq N v3 v1 v4 v7=some r) ?_ ?_
 ·intro f1 aO;refine bc hF (fun gr hF=> ?_) fun gr hF=> ?_
  ·exact lM af aO v6 [[(0,bT gr)]] hF
  refine bc hF (fun h28 hF=> ?_) fun h28 hF=> ?_
  ·obtain⟨bX,rI,hF⟩:=ao hF;exact lM af aO bX [[(0,bF gr)],[(12,bT h28),(15,bT h28),(16,cL (w9 N v4 bX rI)),(19,bT h28)]] hF
  exact lM af aO false [[(0,bF gr)],[(12,bF h28),(15,bF h28),(19,bF h28)]] hF
 rintro v7 hF
 try dsimp only at hF
 rw[wq]at hF;refine bc hF (fun h9 hF=> ?_) fun h9 hF=> ?_
 ·cases hF;exact wr af [[(0,bT h9)],[]]
 refine au af [[(0,bF h9)]] ?_;obtain⟨v9,aK,hF⟩:=ao hF;refine bf af [(39,(aB v9))] (zV v1 v3 v4 []) ?_ ?_
 ·refine bc aK (fun az aK=> ?_) fun az aK=> ?_
  ·obtain⟨v8,aE,aK⟩:=ao aK;obtain rfl:=sj aK;exact⟨[(3,bT az)],[(16,cL (w9 N v3 v8 aE))],by kernel_rfl⟩
  cases aK;exact⟨[(3,bF az)],[],by kernel_rfl⟩
 refine bc hF (fun aY hF=> ?_) fun aY hF=> ?_
 ·cases hF;exact wr af [[(0,bT aY)],[]]
 refine au af [[(0,bF aY)]] ?_;obtain⟨v11,aL,hF⟩:=ao hF;refine bf af [(48,(aB v11))] (zV v1 v3 v4 []) ?_ ?_
 ·refine bc aL (fun aJ aL=> ?_) fun aJ aL=> ?_
  ·obtain⟨v10,bp,aL⟩:=ao aL;obtain rfl:=sj aL;exact⟨[(3,bT aJ)],[(16,cL (w9 N v3 v10 bp))],by kernel_rfl⟩
  cases aL;exact⟨[(3,bF aJ)],[],by kernel_rfl⟩
 refine bc hF (fun bn hF=> ?_) fun bn hF=> ?_
 ·cases hF;exact wr af [[(0,bT bn)],[(5,⟨_,_, .eq (congrArg AV.full (fa [v4]).symm)⟩)]]
 refine au af [[(0,bF bn)]] ?_;obtain⟨aX,bC,hF⟩:=ao hF;refine bf af [(59,(aB aX))] (zV v1 v3 v4 []) ?_ ?_
 ·refine bc bC (fun aZ bC=> ?_) fun aZ bC=> ?_
  ·obtain⟨v12,bU,bC⟩:=ao bC;obtain rfl:=sj bC;exact⟨[(3,bT aZ)],[(16,cL (w9 N v4 v12 bU))],by kernel_rfl⟩
  cases bC;exact⟨[(3,bF aZ)],[],by kernel_rfl⟩
 refine bc hF (fun cl hF=> ?_) fun cl hF=> ?_
 ·cases hF;exact wr af [[(0,bT cl)],[]]
 refine au af [[(0,bF cl)]] ?_;obtain⟨dh,fb,hF⟩:=ao hF;refine bf af [(3,(aB dh))] [.cells (aA v1).cells, .cells (aA v3).cells, .cells (aA v3).cells, .cells (aA v4).cells] ?_ ?_
 ·refine bc fb (fun bw fb=> ?_) fun bw fb=> ?_
  ·obtain⟨bu,cT,fb⟩:=ao fb;obtain rfl:=sj fb;exact⟨[(4,bT bw),(9,bT rfl)],[(34,cL (w9 N v3 bu cT))],by kernel_rfl⟩
  refine bc fb (fun cE fb=> ?_) fun cE fb=> ?_
  ·obtain⟨bN,eR,fb⟩:=ao fb;obtain rfl:=sj fb;exact⟨[(4,bF bw),(9,bT cE)],[(34,cL (w9 N v3 bN eR))],by kernel_rfl⟩
  cases fb;exact⟨[(4,bF bw),(9,bF cE)],[],by kernel_rfl⟩
 cases hF;exact wr af []
def EF(N:Nat)(v1:aC)(v3:Int64):ak5 (ay×Int):=
 Option.bind (mA N v1 (⟨v3,(1:Int64)⟩:ay)) fun v4=>
 bif v4 then
  some ((⟨v3,(1:Int64)⟩:ay),(0:Int))
 else
  some (bg,(3:Int))
def vb(N:Nat)(v1:aC):ak5 (ay×Int):=
 Option.bind (ma N v1) fun v2=>
 bif v2 then
  bif (v1.a8==(2:Int))then
   Option.bind (q9 N v1) fun v5=>
   EF N v1 v5
  else
   EF N v1 (1:Int64)
 else
  some (bg,(10:Int))
theorem VK(N:Nat)(v1:aC)(r:ay×Int)(hF:vb N v1=some r):aG Tryz.prog 208 [(bY v1)] (·=(.bk [(bj r.1),(aw r.2)])):=by
 rw[vb]at hF;refine aR Tryz.func208 ?_;obtain⟨v2,h1,hF⟩:=ao hF;refine au af [[],[(4,cL (mO N v1 v2 h1))]] ?_;refine bc hF (fun h2 hF=> ?_) fun h2 hF=> ?_
 ·refine gY af r 1 [[(0,bF (bG h2))],[],[]] [1,2,4] 3 (fun(v3:Int64)=>⟨22,[(1,(.ptr 0 0)),(2,(.ptr 1 0)),(4,(.ptr 2 0))],[.cells (bY v1).cells, .cells fA, .cells [(aI v3),(aI (1:Int64))]]⟩) (EF N v1) ?_ ?_
  ·intro f1 aO;refine bc hF (fun h5 hF=> ?_) fun h5 hF=> ?_
   ·obtain⟨v5,h6,hF⟩:=ao hF;exact bP af aO v5 [[(0,bT h5)],[(4,cL (BR N v1 v5 h6))]] hF
   exact bP af aO (1:Int64) [[(0,bF h5)]] hF
  intro v3 hF;rw[EF]at hF;obtain⟨v4,h3,hF⟩:=ao hF;refine au af [[(7,cL (pe N v1 (⟨v3,(1:Int64)⟩:ay) v4 h3))]] ?_;refine bc hF (fun h4 hF=> ?_) fun h4 hF=> ?_
  ·cases hF;exact wr af [[(0,bF (bG h4))],[]]
  cases hF;exact wr af [[(0,bT (bS h4))],[]]
 cases hF;exact wr af [[(0,bT (bS h2))],[]]
def q6(N:Nat)(v1:an):ak5 Bool:=
 bif (v1.ar !=(1:Int))then
  some false
 else
  Option.bind (vb N v1.aD) fun v2=>
  Option.bind (bif (v2.2==(0:Int))then some ((v1.ba.xN.toInt==v2.1.xN.toInt)&&((v1.ba.xD.toInt==v2.1.xD.toInt)&&true))else some false) fun v3=>
  some v3
theorem Xq(N:Nat)(v1:an)(r:Bool)(hF:q6 N v1=some r):aG Tryz.prog 206 [(aA v1)] (·=(aB r)):=by
 rw[q6]at hF;refine aR Tryz.func206 ?_;refine au af [[],[]] ?_;refine bc hF (fun h1 hF=> ?_) fun h1 hF=> ?_
 ·cases hF;exact wr af [[(0,bT h1)],[]]
 obtain⟨v2,h2,hF⟩:=ao hF;refine au af [[(0,bF h1)],[(7,cL (VK N v1.aD v2 h2))]] ?_;obtain⟨v3,h4,hF⟩:=ao hF;refine bf af [(2,(aB v3))] [.cells (aA v1).cells, .cells (bj v2.1).cells] ?_ ?_
 ·refine bc h4 (fun h3 h4=> ?_) fun h3 h4=> ?_
  ·cases h4;exact⟨[(2,bT h3)],[],by kernel_rfl⟩
  cases h4;exact⟨[(2,bF h3)],[],by kernel_rfl⟩
 cases hF;exact wr af []
def Dr(N:Nat)(v1:an):ak5 (an×Bool):=
 Option.bind (bif (v1.ar !=(6:Int))then some (v1.ar !=(7:Int))else some false) fun v2=>
 bif v2 then
  some (v1,false)
 else
  Option.bind (v1.ax[1]?) fun v3=>
  Option.bind (q6 N v3) fun v4=>
  bif v4 then
   Option.bind (v1.ax[0]?) fun v5=>
   some (v5,true)
  else
   Option.bind (bif (v1.ar==(6:Int))then Option.bind (v1.ax[0]?) fun v6=>
   Option.bind (q6 N v6) fun v7=>
   some v7 else some false) fun v8=>
   some (v3,v8)
theorem aeh(N:Nat)(v1:an)(r:an×Bool)(hF:Dr N v1=some r):aG Tryz.prog 131 [(aA v1)] (·=(.bk [(aA r.1),(aB r.2)])):=by
 rw[Dr]at hF;refine aR Tryz.func131 ?_;refine au af [[]] ?_;obtain⟨v2,h2,hF⟩:=ao hF;refine bf af [(11,(aB v2))] [.cells (aA v1).cells, .cells ef] ?_ ?_
 ·refine bc h2 (fun h1 h2=> ?_) fun h1 h2=> ?_
  ·cases h2;exact⟨[(3,bT h1)],[],by kernel_rfl⟩
  cases h2;exact⟨[(3,bF h1)],[],by kernel_rfl⟩
 refine bc hF (fun h3 hF=> ?_) fun h3 hF=> ?_
 ·cases hF;exact wr af [[(0,bT h3)],[]]
 obtain⟨v3,h4,hF⟩:=ao hF;obtain⟨v4,h5,hF⟩:=ao hF;refine au af [[(0,bF h3)],[(7,oE (k:=1) (bt h4)),(13,cL (Xq N v3 v4 h5))]] ?_;refine bc hF (fun h6 hF=> ?_) fun h6 hF=> ?_
 ·obtain⟨v5,h7,hF⟩:=ao hF;cases hF;exact wr af [[(0,bT h6)],[(7,oE (k:=0) (bt h7))]]
 refine au af [[(0,bF h6)]] ?_;obtain⟨v8,aE,hF⟩:=ao hF;refine bf af [(3,(aB v8))] [.cells (aA v1).cells, .cells (aA v3).cells] ?_ ?_
 ·refine bc aE (fun h8 aE=> ?_) fun h8 aE=> ?_
  ·obtain⟨v6,h9,aE⟩:=ao aE;obtain⟨v7,az,aE⟩:=ao aE;obtain rfl:=sj aE;exact⟨[(7,bT h8)],[(7,oE (k:=1) (bt h4)),(31,oE (k:=0) (bt h9)),(37,cL (Xq N v6 v7 az))],by kernel_rfl⟩
  cases aE;exact⟨[(7,bF h8)],[(7,oE (k:=1) (bt h4))],by kernel_rfl⟩
 cases hF;exact wr af []
def Bx(N:Nat)(v1:an)(v2:eC):ak5 (an×Bool):=
 Option.bind (bif v2.vK then(bif (v1.ar !=(5:Int))then(bif (v1.ar !=(7:Int))then some true else Option.bind (v1.ax[0]?) fun v3=>
 Option.bind (v1.ax[1]?) fun v4=>
 Option.bind (jk N v3 v4) fun v5=>
 some (!v5))else Option.bind (v1.ax[0]?) fun v6=>
 Option.bind (v1.ax[1]?) fun v7=>
 Option.bind (jk N v6 v7) fun v8=>
 some (!v8))else some true) fun v9=>
 bif v9 then
  some (v1,false)
 else
  bif (v1.ar==(5:Int))then
   Option.bind (wV N v2.xT) fun v10=>
   Option.bind (nA N v2.xT v10) fun v11=>
   some (v11,true)
  else
   Option.bind (vb N v2.xT) fun v12=>
   Option.bind (nA N v2.xT v12.1) fun aX=>
   Option.bind (bif (v2.xT.a8 !=(2:Int))then some (v12.2==(0:Int))else some false) fun bu=>
   some (aX,bu)
theorem abi(N:Nat)(v1:an)(v2:eC)(r:an×Bool)(hF:Bx N v1 v2=some r):aG Tryz.prog 132 [(aA v1),(gg v2)] (·=(.bk [(aA r.1),(aB r.2)])):=by
 rw[Bx]at hF;refine aR Tryz.func132 ?_;refine au af [[]] ?_;obtain⟨v9,az,hF⟩:=ao hF;refine bf af [(32,(aB v9))] [.cells (aA v1).cells, .cells (gg v2).cells, .cells ef] ?_ ?_
 ·refine bc az (fun h1 az=> ?_) fun h1 az=> ?_
  ·refine bc az (fun h2 az=> ?_) fun h2 az=> ?_
   ·refine bc az (fun h3 az=> ?_) fun h3 az=> ?_
    ·cases az;exact⟨[(3,bF (bG h1)),(7,bT h2),(13,bT h3)],[(34,bT h2)],by kernel_rfl⟩
    obtain⟨v3,h4,az⟩:=ao az;obtain⟨v4,h5,az⟩:=ao az;obtain⟨v5,h6,az⟩:=ao az;cases az;exact⟨[(3,bF (bG h1)),(7,bT h2),(13,bF h3)],[(34,bT h2),(49,oE (k:=0) (bt h4)),(61,oE (k:=1) (bt h5)),(67,cL (dN N v3 v4 v5 h6))],by kernel_rfl⟩
   obtain⟨v6,h7,az⟩:=ao az;obtain⟨v7,h8,az⟩:=ao az;obtain⟨v8,h9,az⟩:=ao az;cases az;exact⟨[(3,bF (bG h1)),(7,bF h2),(13,bF rfl)],[(34,bF h2),(49,oE (k:=0) (bt h7)),(61,oE (k:=1) (bt h8)),(67,cL (dN N v6 v7 v8 h9))],by kernel_rfl⟩
  cases az;exact⟨[(3,bT (bS h1)),(7,uN),(13,bT rfl)],[],by kernel_rfl⟩
 refine bc hF (fun aE hF=> ?_) fun aE hF=> ?_
 ·cases hF;exact wr af [[(0,bT aE)],[]]
 refine au af [[(0,bF aE)],[]] ?_;refine bc hF (fun aK hF=> ?_) fun aK hF=> ?_
 ·obtain⟨v10,aY,hF⟩:=ao hF;obtain⟨v11,aJ,hF⟩:=ao hF;cases hF;exact wr af [[(0,bT aK)],[(13,cL (V4 N v2.xT v10 aY)),(16,cL (p8 N v2.xT v10 v11 aJ))]]
 obtain⟨v12,bp,hF⟩:=ao hF;refine au af [[(0,bF aK)],[(7,cL (VK N v2.xT v12 bp))]] ?_;obtain⟨aX,aL,hF⟩:=ao hF;obtain⟨bu,aZ,hF⟩:=ao hF;refine bf af [(5,(aB bu))] [.cells (aA v1).cells, .cells (gg v2).cells, .cells (aA aX).cells, .cells (bj v12.1).cells] ?_ ?_
 ·refine bc aZ (fun bn aZ=> ?_) fun bn aZ=> ?_
  ·cases aZ;exact⟨[(8,bT bn)],[(10,cL (p8 N v2.xT v12.1 aX aL))],by kernel_rfl⟩
  cases aZ;exact⟨[(8,bF bn)],[(10,cL (p8 N v2.xT v12.1 aX aL))],by kernel_rfl⟩
 cases hF;exact wr af []
def uZ(N:Nat)(v1:Int)(v2:an)(v3:an):ak5 an:=
 some (⟨v1,(bs []),bg,ca,bV,[],[v2,v3]⟩:an)
theorem BS(N:Nat)(v1:Int)(v2:an)(v3:an)(r:an)(hF:uZ N v1 v2 v3=some r):aG Tryz.prog 209 [(aw v1),(aA v2),(aA v3)] (·=(aA r)):=by
 rw[uZ]at hF;refine aR Tryz.func209 ?_;cases hF;exact wr af [[],[(11,⟨_,_, .eq (congrArg AV.full (fa [v2,v3]).symm)⟩)]]
def Ct(N:Nat)(v1:an)(v2:eC):ak5 (an×Bool):=
 Option.bind (bif v2.vK then(bif (v2.xT.a8==(2:Int))then some (v2.xT.bM !=(2:Int))else some false)else some true) fun v3=>
 bif v3 then
  some (v1,false)
 else
  Option.bind (bif (v1.ar==(8:Int))then Option.bind (v1.ax[0]?) fun v4=>
  some (v4.ar==(8:Int))else some false) fun v5=>
  bif v5 then
   Option.bind (v1.ax[0]?) fun v6=>
   Option.bind (v6.ax[0]?) fun v7=>
   some (v7,true)
  else
   Option.bind (bif (v1.ar !=(4:Int))then some (v1.ar !=(5:Int))else some false) fun v8=>
   bif v8 then
    some (v1,false)
   else
    Option.bind (v1.ax[0]?) fun v9=>
    Option.bind (v1.ax[1]?) fun v10=>
    Option.bind (bif (v10.ar==(8:Int))then some (v1.ar==(4:Int))else some false) fun v11=>
    bif v11 then
     Option.bind (v10.ax[0]?) fun v12=>
     Option.bind (uZ N (5:Int) v9 v12) fun aX=>
     some (aX,true)
    else
     Option.bind (bif (v9.ar==(8:Int))then some (v1.ar==(4:Int))else some false) fun bu=>
     bif bu then
      Option.bind (v9.ax[0]?) fun bN=>
      Option.bind (uZ N (5:Int) v10 bN) fun dh=>
      some (dh,true)
     else
      bif (v10.ar==(8:Int))then
       Option.bind (v10.ax[0]?) fun bX=>
       Option.bind (uZ N (4:Int) v9 bX) fun bx=>
       some (bx,true)
      else
       some (v1,false)
def Ax(v1:an)(v2:eC)(l:ak3 aq):ak3 aq:= .cells (aA v1).cells:: .cells (gg v2).cells:: .cells ef::l
theorem aem(N:Nat)(v1:an)(v2:eC)(r:an×Bool)(hF:Ct N v1 v2=some r):aG Tryz.prog 133 [(aA v1),(gg v2)] (·=(.bk [(aA r.1),(aB r.2)])):=by
 rw[Ct]at hF;refine aR Tryz.func133 ?_;refine au af [[]] ?_;obtain⟨v3,h3,hF⟩:=ao hF;refine bf af [(22,(aB v3))] (Ax v1 v2 []) ?_ ?_
 ·refine bc h3 (fun h1 h3=> ?_) fun h1 h3=> ?_
  ·refine bc h3 (fun h2 h3=> ?_) fun h2 h3=> ?_
   ·cases h3;exact⟨[(3,bF (bG h1)),(8,bT h2)],[(40,bT h2)],by kernel_rfl⟩
   cases h3;exact⟨[(3,bF (bG h1)),(8,bF h2)],[(40,bF h2)],by kernel_rfl⟩
  cases h3;exact⟨[(3,bT (bS h1)),(8,uN)],[],by kernel_rfl⟩
 refine bc hF (fun h4 hF=> ?_) fun h4 hF=> ?_
 ·cases hF;exact wr af [[(0,bT h4)],[]]
 refine au af [[(0,bF h4)]] ?_;obtain⟨v5,h7,hF⟩:=ao hF;refine bf af [(34,(aB v5))] (Ax v1 v2 []) ?_ ?_
 ·refine bc h7 (fun h5 h7=> ?_) fun h5 h7=> ?_
  ·obtain⟨v4,h6,h7⟩:=ao h7;cases h7;exact⟨[(3,bT h5)],[(19,oE (k:=0) (bt h6))],by kernel_rfl⟩
  cases h7;exact⟨[(3,bF h5)],[],by kernel_rfl⟩
 refine bc hF (fun h8 hF=> ?_) fun h8 hF=> ?_
 ·obtain⟨v6,h9,hF⟩:=ao hF;obtain⟨v7,az,hF⟩:=ao hF;cases hF;exact wr af [[(0,bT h8)],[(7,oE (k:=0) (bt h9)),(16,oE (k:=0) (bt az))]]
 refine au af [[(0,bF h8)]] ?_;obtain⟨v8,aK,hF⟩:=ao hF;refine bf af [(49,(aB v8))] (Ax v1 v2 []) ?_ ?_
 ·refine bc aK (fun aE aK=> ?_) fun aE aK=> ?_
  ·cases aK;exact⟨[(3,bT aE)],[],by kernel_rfl⟩
  cases aK;exact⟨[(3,bF aE)],[],by kernel_rfl⟩
 refine bc hF (fun aY hF=> ?_) fun aY hF=> ?_
 ·cases hF;exact wr af [[(0,bT aY)],[]]
 refine au af [[(0,bF aY)]] ?_;obtain⟨v9,aJ,hF⟩:=ao hF;obtain⟨v10,bp,hF⟩:=ao hF;refine mq 20 af [(6,(.ptr 3 0)),(7,(.ptr 4 0))] (Ax v1 v2 [.cells (aA v9).cells, .cells (aA v10).cells]) ⟨[(7,oE (k:=0) (bt aJ)),(19,oE (k:=1) (bt bp))],by kernel_rfl⟩ ?_;obtain⟨v11,bn,hF⟩:=ao hF;refine bf af [(66,(aB v11))] (Ax v1 v2 [.cells (aA v9).cells, .cells (aA v10).cells]) ?_ ?_
 ·refine bc bn (fun aL bn=> ?_) fun aL bn=> ?_
  ·cases bn;exact⟨[(3,bT aL)],[],by kernel_rfl⟩
  cases bn;exact⟨[(3,bF aL)],[],by kernel_rfl⟩
 refine bc hF (fun aZ hF=> ?_) fun aZ hF=> ?_
 ·obtain⟨v12,bU,hF⟩:=ao hF;obtain⟨aX,bC,hF⟩:=ao hF;cases hF;exact wr af [[(0,bT aZ)],[(10,oE (k:=0) (bt bU)),(16,cL (BS N (5:Int) v9 v12 aX bC))]]
 refine au af [[(0,bF aZ)]] ?_;obtain⟨bu,bw,hF⟩:=ao hF;refine bf af [(80,(aB bu))] (Ax v1 v2 [.cells (aA v9).cells, .cells (aA v10).cells]) ?_ ?_
 ·refine bc bw (fun cl bw=> ?_) fun cl bw=> ?_
  ·cases bw;exact⟨[(3,bT cl)],[],by kernel_rfl⟩
  cases bw;exact⟨[(3,bF cl)],[],by kernel_rfl⟩
 refine bc hF (fun cT hF=> ?_) fun cT hF=> ?_
 ·obtain⟨bN,cE,hF⟩:=ao hF;obtain⟨dh,eR,hF⟩:=ao hF;cases hF;exact wr af [[(0,bT cT)],[(10,oE (k:=0) (bt cE)),(16,cL (BS N (5:Int) v10 bN dh eR))]]
 refine au af [[(0,bF cT)],[]] ?_;refine bc hF (fun fb hF=> ?_) fun fb hF=> ?_
 ·obtain⟨bX,gr,hF⟩:=ao hF;obtain⟨bx,h28,hF⟩:=ao hF;cases hF;exact wr af [[(0,bT fb)],[(10,oE (k:=0) (bt gr)),(16,cL (BS N (4:Int) v9 bX bx h28))]]
 cases hF;exact wr af [[(0,bF fb)],[]]
def BJ(N:Nat)(v1:an):ak5 (an×Bool):=
 Option.bind (bif (v1.ar==(11:Int))then Option.bind (v1.ax[0]?) fun v2=>
 some (v2.ar==(18:Int))else some false) fun v3=>
 bif v3 then
  Option.bind (v1.ax[0]?) fun v4=>
  Option.bind (v4.ax[0]?) fun v5=>
  Option.bind (v1.ax[2]?) fun v6=>
  Option.bind (v1.ax[1]?) fun v7=>
  some ((⟨(11:Int),(bs []),bg,ca,bV,[],[v5,v6,v7]⟩:an),true)
 else
  bif (v1.ar !=(18:Int))then
   some (v1,false)
  else
   Option.bind (v1.ax[0]?) fun v8=>
   bif (v8.ar==(18:Int))then
    Option.bind (v8.ax[0]?) fun v9=>
    some (v9,true)
   else
    bif (v8.ar==(13:Int))then
     Option.bind (v8.ax[1]?) fun v10=>
     Option.bind (v8.ax[0]?) fun v11=>
     Option.bind (uZ N (14:Int) v10 v11) fun v12=>
     some (v12,true)
    else
     bif (v8.ar==(14:Int))then
      Option.bind (v8.ax[1]?) fun aX=>
      Option.bind (v8.ax[0]?) fun bu=>
      Option.bind (uZ N (13:Int) aX bu) fun bN=>
      some (bN,true)
     else
      some (v1,false)
theorem abD(N:Nat)(v1:an)(r:an×Bool)(hF:BJ N v1=some r):aG Tryz.prog 134 [(aA v1)] (·=(.bk [(aA r.1),(aB r.2)])):=by
 rw[BJ]at hF;refine aR Tryz.func134 ?_;refine au af [[]] ?_;obtain⟨v3,h3,hF⟩:=ao hF;refine bf af [(15,(aB v3))] [.cells (aA v1).cells, .cells ef] ?_ ?_
 ·refine bc h3 (fun h1 h3=> ?_) fun h1 h3=> ?_
  ·obtain⟨v2,h2,h3⟩:=ao h3;cases h3;exact⟨[(3,bT h1)],[(19,oE (k:=0) (bt h2))],by kernel_rfl⟩
  cases h3;exact⟨[(3,bF h1)],[],by kernel_rfl⟩
 refine bc hF (fun h4 hF=> ?_) fun h4 hF=> ?_
 ·obtain⟨v4,h5,hF⟩:=ao hF;obtain⟨v5,h6,hF⟩:=ao hF;obtain⟨v6,h7,hF⟩:=ao hF;obtain⟨v7,h8,hF⟩:=ao hF;cases hF;exact wr af [[(0,bT h4)],[(7,oE (k:=0) (bt h5)),(16,oE (k:=0) (bt h6)),(28,oE (k:=2) (bt h7)),(40,oE (k:=1) (bt h8)),(47,⟨_,_, .eq (congrArg AV.full (fa [v5,v6,v7]).symm)⟩)]]
 refine au af [[(0,bF h4)],[]] ?_;refine bc hF (fun h9 hF=> ?_) fun h9 hF=> ?_
 ·cases hF;exact wr af [[(0,bT h9)],[]]
 obtain⟨v8,az,hF⟩:=ao hF;refine au af [[(0,bF h9)],[(7,oE (k:=0) (bt az))],[],[]] ?_;refine bc hF (fun aE hF=> ?_) fun aE hF=> ?_
 ·obtain⟨v9,aK,hF⟩:=ao hF;cases hF;exact wr af [[(0,bT aE)],[(7,oE (k:=0) (bt aK))]]
 refine au af [[(0,bF aE)],[]] ?_;refine bc hF (fun aY hF=> ?_) fun aY hF=> ?_
 ·obtain⟨v10,aJ,hF⟩:=ao hF;obtain⟨v11,bp,hF⟩:=ao hF;obtain⟨v12,aL,hF⟩:=ao hF;cases hF;exact wr af [[(0,bT aY)],[(7,oE (k:=1) (bt aJ)),(19,oE (k:=0) (bt bp)),(25,cL (BS N (14:Int) v10 v11 v12 aL))]]
 refine au af [[(0,bF aY)],[]] ?_;refine bc hF (fun bn hF=> ?_) fun bn hF=> ?_
 ·obtain⟨aX,aZ,hF⟩:=ao hF;obtain⟨bu,bU,hF⟩:=ao hF;obtain⟨bN,bC,hF⟩:=ao hF;cases hF;exact wr af [[(0,bT bn)],[(7,oE (k:=1) (bt aZ)),(19,oE (k:=0) (bt bU)),(25,cL (BS N (13:Int) aX bu bN bC))]]
 cases hF;exact wr af [[(0,bF bn)],[]]
def FF(N:Nat)(v1:an):ak5 (an×Bool):=
 Option.bind (bif (v1.ar !=(16:Int))then some (v1.ar !=(17:Int))else some false) fun v2=>
 bif v2 then
  some (v1,false)
 else
  Option.bind (v1.ax[0]?) fun v3=>
  Option.bind (vT N v3) fun v4=>
  Option.bind (bif v4.2 then some (v4.1==(v1.ar==(16:Int)))else some false) fun v5=>
  bif v5 then
   Option.bind (v1.ax[1]?) fun v6=>
   some (v6,true)
  else
   Option.bind (v1.ax[1]?) fun v7=>
   Option.bind (vT N v7) fun v8=>
   Option.bind (bif v8.2 then some (v8.1==(v1.ar==(16:Int)))else some false) fun v9=>
   some (v3,v9)
def Qp(v1:an)(l:ak3 aq):ak3 aq:= .cells (aA v1).cells:: .cells ef::l
theorem aam(N:Nat)(v1:an)(r:an×Bool)(hF:FF N v1=some r):aG Tryz.prog 135 [(aA v1)] (·=(.bk [(aA r.1),(aB r.2)])):=by
 rw[FF]at hF;refine aR Tryz.func135 ?_;refine au af [[]] ?_;obtain⟨v2,h2,hF⟩:=ao hF;refine bf af [(15,(aB v2))] (Qp v1 []) ?_ ?_
 ·refine bc h2 (fun h1 h2=> ?_) fun h1 h2=> ?_
  ·cases h2;exact⟨[(3,bT h1)],[],by kernel_rfl⟩
  cases h2;exact⟨[(3,bF h1)],[],by kernel_rfl⟩
 refine bc hF (fun h3 hF=> ?_) fun h3 hF=> ?_
 ·cases hF;exact wr af [[(0,bT h3)],[]]
 obtain⟨v3,h4,hF⟩:=ao hF;obtain⟨v4,h5,hF⟩:=ao hF;refine au af [[(0,bF h3)],[(7,oE (k:=0) (bt h4)),(13,cL (Mk N v3 v4 h5))]] ?_;obtain⟨v5,h7,hF⟩:=ao hF;refine bf af [(32,(aB v5))] (Qp v1 []) ?_ ?_
 ·refine bc h7 (fun h6 h7=> ?_) fun h6 h7=> ?_
  ·cases h7;exact⟨[(1,bT h6)],[],by kernel_rfl⟩
  cases h7;exact⟨[(1,bF h6)],[],by kernel_rfl⟩
 refine bc hF (fun h8 hF=> ?_) fun h8 hF=> ?_
 ·obtain⟨v6,h9,hF⟩:=ao hF;cases hF;exact wr af [[(0,bT h8)],[(7,oE (k:=1) (bt h9))]]
 obtain⟨v7,az,hF⟩:=ao hF;obtain⟨v8,aE,hF⟩:=ao hF;refine au af [[(0,bF h8)],[(7,oE (k:=1) (bt az)),(13,cL (Mk N v7 v8 aE))]] ?_;obtain⟨v9,aY,hF⟩:=ao hF;refine Gt 2 af [(3,(aB v9))] [.cells (aA v1).cells, .cells (aA v3).cells] ?_ ?_
 ·refine bc aY (fun aK aY=> ?_) fun aK aY=> ?_
  ·cases aY;exact⟨[(5,bT aK)],[(7,oE (k:=0) (bt h4))],by kernel_rfl⟩
  cases aY;exact⟨[(5,bF aK)],[(7,oE (k:=0) (bt h4))],by kernel_rfl⟩
 cases hF;exact wr af []
def Gz(N:Nat)(v1:an)(v2:eC):ak5 (an×ak4×Bool):=
 Option.bind (BM N v1) fun v3=>
 bif v3.2 then
  some (v3.1,(bs [102,111,108,100]),true)
 else
  Option.bind (Ck N v1) fun v4=>
  bif v4.2 then
   some (v4.1,(bs [99,97,115,116]),true)
  else
   Option.bind (FG N v1) fun v5=>
   bif v5.2 then
    some (v5.1,(bs [105,110,100,101,120]),true)
   else
    Option.bind (Dl N v1) fun v6=>
    bif v6.2 then
     some (v6.1,(bs [105,102]),true)
    else
     Option.bind (Et N v1) fun v7=>
     bif v7.2 then
      some (v7.1,(bs [115,97,109,101]),true)
     else
      Option.bind (Dj N v1) fun v8=>
      bif v8.2 then
       some (v8.1,(bs [122,101,114,111]),true)
      else
       Option.bind (Dr N v1) fun v9=>
       bif v9.2 then
        some (v9.1,(bs [111,110,101]),true)
       else
        Option.bind (Bx N v1 v2) fun v10=>
        bif v10.2 then
         some (v10.1,(bs [99,97,110,99,101,108]),true)
        else
         Option.bind (Ct N v1 v2) fun v11=>
         bif v11.2 then
          some (v11.1,(bs [110,101,103,97,116,101]),true)
         else
          Option.bind (BJ N v1) fun v12=>
          bif v12.2 then
           some (v12.1,(bs [110,111,116]),true)
          else
           Option.bind (FF N v1) fun aX=>
           bif aX.2 then
            some (aX.1,(bs [108,111,103,105,99]),true)
           else
            some (v1,(bs []),false)
theorem aaU(N:Nat)(v1:an)(v2:eC)(r:an×ak4×Bool)(hF:Gz N v1 v2=some r):aG Tryz.prog 61 [(aA v1),(gg v2)] (·=(.bk [(aA r.1),(aS r.2.1),(aB r.2.2)])):=by
 rw[Gz]at hF;refine aR Tryz.func61 ?_;obtain⟨v3,h1,hF⟩:=ao hF;refine au af [[],[(4,cL (aeS N v1 v3 h1))],[]] ?_;refine bc hF (fun h2 hF=> ?_) fun h2 hF=> ?_
 ·cases hF;exact wr af [[(0,bT h2)],[]]
 obtain⟨v4,h3,hF⟩:=ao hF;refine au af [[(0,bF h2)],[(4,cL (X2 N v1 v4 h3))],[]] ?_;refine bc hF (fun h4 hF=> ?_) fun h4 hF=> ?_
 ·cases hF;exact wr af [[(0,bT h4)],[]]
 obtain⟨v5,h5,hF⟩:=ao hF;refine au af [[(0,bF h4)],[(4,cL (aeO N v1 v5 h5))],[]] ?_;refine bc hF (fun h6 hF=> ?_) fun h6 hF=> ?_
 ·cases hF;exact wr af [[(0,bT h6)],[]]
 obtain⟨v6,h7,hF⟩:=ao hF;refine au af [[(0,bF h6)],[(4,cL (ahY N v1 v6 h7))],[]] ?_;refine bc hF (fun h8 hF=> ?_) fun h8 hF=> ?_
 ·cases hF;exact wr af [[(0,bT h8)],[]]
 obtain⟨v7,h9,hF⟩:=ao hF;refine au af [[(0,bF h8)],[(4,cL (aaz N v1 v7 h9))],[]] ?_;refine bc hF (fun az hF=> ?_) fun az hF=> ?_
 ·cases hF;exact wr af [[(0,bT az)],[]]
 obtain⟨v8,aE,hF⟩:=ao hF;refine au af [[(0,bF az)],[(4,cL (af6 N v1 v8 aE))],[]] ?_;refine bc hF (fun aK hF=> ?_) fun aK hF=> ?_
 ·cases hF;exact wr af [[(0,bT aK)],[]]
 obtain⟨v9,aY,hF⟩:=ao hF;refine au af [[(0,bF aK)],[(4,cL (aeh N v1 v9 aY))],[]] ?_;refine bc hF (fun aJ hF=> ?_) fun aJ hF=> ?_
 ·cases hF;exact wr af [[(0,bT aJ)],[]]
 obtain⟨v10,bp,hF⟩:=ao hF;refine au af [[(0,bF aJ)],[(7,cL (abi N v1 v2 v10 bp))],[]] ?_;refine bc hF (fun aL hF=> ?_) fun aL hF=> ?_
 ·cases hF;exact wr af [[(0,bT aL)],[]]
 obtain⟨v11,bn,hF⟩:=ao hF;refine au af [[(0,bF aL)],[(7,cL (aem N v1 v2 v11 bn))],[]] ?_;refine bc hF (fun aZ hF=> ?_) fun aZ hF=> ?_
 ·cases hF;exact wr af [[(0,bT aZ)],[]]
 obtain⟨v12,bU,hF⟩:=ao hF;refine au af [[(0,bF aZ)],[(4,cL (abD N v1 v12 bU))],[]] ?_;refine bc hF (fun bC hF=> ?_) fun bC hF=> ?_
 ·cases hF;exact wr af [[(0,bT bC)],[]]
 obtain⟨aX,cl,hF⟩:=ao hF;refine au af [[(0,bF bC)],[(4,cL (aam N v1 aX cl))],[]] ?_;refine bc hF (fun bw hF=> ?_) fun bw hF=> ?_
 ·cases hF;exact wr af [[(0,bT bw)],[]]
 cases hF;exact wr af [[(0,bF bw)],[]]
def G8(N:Nat)(v1:an)(v2:Int)(v3:eC):ak5 eC:=
 Option.bind (bif (decide (v1.ar≥(4:Int)))then(bif (decide (v1.ar≤(10:Int)))then some true else(bif (v1.ar==(11:Int))then some (decide (v2>(0:Int)))else some false))else(bif (v1.ar==(11:Int))then some (decide (v2>(0:Int)))else some false)) fun v4=>
 bif v4 then
  some v3
 else
  Option.bind (bif (decide (v1.ar≥(13:Int)))then some (decide (v1.ar≤(15:Int)))else some false) fun v5=>
  bif v5 then
   Option.bind (v1.ax[0]?) fun v6=>
   Option.bind (v1.ax[1]?) fun v7=>
   Option.bind (Fj N v6 v7) fun v8=>
   some v8
  else
   bif (v1.ar==(12:Int))then
    Option.bind (v1.ax[0]?) fun v9=>
    Option.bind (g_brocaderef21_derived N v9) fun v10=>
    some v10
   else
    some F5
theorem Zl(N:Nat)(v1:an)(v2:Int)(v3:eC)(r:eC)(hF:G8 N v1 v2 v3=some r):aG Tryz.prog 62 [(aA v1),(aw v2),(gg v3)] (·=(gg r)):=by
 rw[G8]at hF;refine aR Tryz.func62 ?_;refine au af [[]] ?_;obtain⟨v4,h5,hF⟩:=ao hF;refine bf af [(7,(aB v4))] [.cells (aA v1).cells, .cells (gg v3).cells, .cells qv] ?_ ?_
 ·refine bc h5 (fun h1 h5=> ?_) fun h1 h5=> ?_
  ·refine bc h5 (fun h2 h5=> ?_) fun h2 h5=> ?_
   ·cases h5;exact⟨[(3,bT h1),(8,bT h2),(12,uN)],[],by kernel_rfl⟩
   refine bc h5 (fun h3 h5=> ?_) fun h3 h5=> ?_
   ·cases h5;exact⟨[(3,bT h1),(8,bF h2),(12,bT h3)],[(46,bT h3)],by kernel_rfl⟩
   cases h5;exact⟨[(3,bT h1),(8,bF h2),(12,bF h3)],[(46,bF h3)],by kernel_rfl⟩
  refine bc h5 (fun h4 h5=> ?_) fun h4 h5=> ?_
  ·cases h5;exact⟨[(3,bF h1),(8,bF rfl),(12,bT h4)],[(46,bT h4)],by kernel_rfl⟩
  cases h5;exact⟨[(3,bF h1),(8,bF rfl),(12,bF h4)],[(46,bF h4)],by kernel_rfl⟩
 refine bc hF (fun h6 hF=> ?_) fun h6 hF=> ?_
 ·cases hF;exact wr af [[(0,bT h6)],[]]
 refine au af [[(0,bF h6)]] ?_;obtain⟨v5,h8,hF⟩:=ao hF;refine bf af [(26,(aB v5))] [.cells (aA v1).cells, .cells (gg v3).cells, .cells qv] ?_ ?_
 ·refine bc h8 (fun h7 h8=> ?_) fun h7 h8=> ?_
  ·cases h8;exact⟨[(3,bT h7)],[],by kernel_rfl⟩
  cases h8;exact⟨[(3,bF h7)],[],by kernel_rfl⟩
 refine bc hF (fun h9 hF=> ?_) fun h9 hF=> ?_
 ·obtain⟨v6,az,hF⟩:=ao hF;obtain⟨v7,aE,hF⟩:=ao hF;obtain⟨v8,aK,hF⟩:=ao hF;obtain rfl:=sj hF;exact wr af [[(0,bT h9)],[(7,oE (k:=0) (bt az)),(19,oE (k:=1) (bt aE)),(25,cL (Yo N v6 v7 v8 aK))]]
 refine au af [[(0,bF h9)],[]] ?_;refine bc hF (fun aY hF=> ?_) fun aY hF=> ?_
 ·obtain⟨v9,aJ,hF⟩:=ao hF;obtain⟨v10,bp,hF⟩:=ao hF;obtain rfl:=sj hF;exact wr af [[(0,bT aY)],[(7,oE (k:=0) (bt aJ)),(13,cL (Tu N v9 v10 bp))]]
 cases hF;exact wr af [[(0,bF aY)],[]]
def wE(N:Nat)(v1:an)(v2:eC)(UK:an→eC→ak5 (an×ak4×Bool)):ak3 an→Nat→ak5 (an×ak4×Bool)
 |[],_=>
  some (v1,(bs []),false)
 |v6::v7,v4=>
  Option.bind (G8 N v1 (v4:Int) v2) fun v8=>
  Option.bind (UK v6 v8) fun v9=>
  bif v9.2.2 then
   bif (Nat.ble (v1.ax.length*160) 140737488355328)then
   Option.bind (v1.ax[v4]?) fun v10=>
   bif (Nat.beq (v1.ax.set v4 v9.1).length v1.ax.length)then
   some ((⟨v1.ar,v1.aV,v1.ba,v1.aD,v1.aM,v1.xIdx,(v1.ax.set v4 v9.1)⟩:an),v9.2.1,true)
   else none
   else none
  else
   (wE N v1 v2 UK v7 (v4+1))
def p9(N:Nat):Nat→an→eC→ak5 (an×ak4×Bool)
 |0,_,_=>none
 |d+1,v1,v2=>
  Option.bind (Gz N v1 v2) fun v3=>
  bif v3.2.2 then
   some (v3.1,v3.2.1,true)
  else
   wE N v1 v2 (p9 N d) v1.ax 0
def NC(N:Nat)(v1:an)(v2:eC):ak5 (an×ak4×Bool):=p9 N N v1 v2
theorem ajq(N:Nat):∀d:Nat,(∀(v1:an)(v2:eC)(r:an×ak4×Bool),p9 N d v1 v2=some r→aG Tryz.prog 31 [(aA v1),(gg v2)] (·=(.bk [(aA r.1),(aS r.2.1),(aB r.2.2)]))):=by
 intro d
 induction d with
 |zero=>intro v1 v2 r hF;rw[p9]at hF;cases hF
 |succ d ih=>
  have agb:=ih;intro v1 v2 r hF;rw[p9]at hF;refine aR Tryz.func31 ?_;obtain⟨v3,h1,hF⟩:=ao hF;refine au af [[],[(7,cL (aaU N v1 v2 v3 h1))],[]] ?_;refine bc hF (fun h2 hF=> ?_) fun h2 hF=> ?_
  ·cases hF;exact wr af [[(0,bT h2)],[]]
  refine au af [[(0,bF h2)],[]] ?_;refine kh lf 0 12 v1.ax fun h4=> ?_;refine pP af 1 [] [2,3,4,10] 4 [] [(2,10),(2,11),(2,12)] (fun((v4,v5):Nat×(ak3 an))=>⟨61,[(2,(.ptr 0 0)),(3,(.ptr 1 0)),(4,(.ptr 2 0)),(10,(aw (v4:Int)))],[.cells (aA v1).cells, .cells (gg v2).cells, .cells ef, .cells (aA v3.1).cells]⟩) (fun((v4,v5):Nat×(ak3 an))=>v1.ax.drop v4=v5∧wE N v1 v2 (p9 N d) v5 v4=some r) (fun((v4,v5):Nat×(ak3 an))=>v5.length) (0,v1.ax) ⟨rfl,hF⟩ ?_;rintro⟨v4,v5⟩ ⟨h5,hF⟩ f1 aO;cases v5 with
  |nil=>
   rw[wE]at hF;cases hF;exact wr af [[(10,oL v1.ax dC)],[(0,bF (cM h5))],[]]
  |cons v6 v7=>
   rw[wE]at hF;obtain⟨v8,h6,hF⟩:=ao hF;obtain⟨v9,h7,hF⟩:=ao hF;refine au af [[(10,oL v1.ax dC)],[(0,bT (cF h5))],[(10,oE (bt (cd h5))),(25,cL (Zl N v1 (v4:Int) v2 v8 h6)),(28,cL (agb v6 v8 v9 h7))],[]] ?_;refine bc hF (fun h8 hF=> ?_) fun h8 hF=> ?_
   ·obtain⟨h9,hF⟩:=dp hF;obtain⟨v10,az,hF⟩:=ao hF;obtain⟨aE,hF⟩:=dp hF;refine au af [[(0,bT h8)],[],[(2,⟨_,_, .eq (congrArg AV.full (fa []).symm)⟩),(10,⟨_,_, .pr (.ap (bq (v1.ax.map cJ)) (bq (v1.ax.map cJ)) v1.ax.length v1.ax.length) (Ue (f:=cJ) (E:=v1.ax) (h:=[.cells (aA v1).cells, .cells (gg v2).cells, .cells ef, .cells (aA v3.1).cells, .cells (aA v9.1).cells, .cells (aA v1).cells]) (k:=13) (ct:=160) (y:=(.d (.sl (cq v1.ax)))) (by rw[←fa];exact Hm) (congrArg some (fa _)) (ph h9 (by decide)).1 (ph h9 (by decide)).2)⟩)],[(13,⟨_,_, .pr (.ix v4) (lB (gK (f:=cJ) rfl) (Int.natCast_nonneg _) (of_decide_eq_true (cF h5)) (akG _))⟩),(16,⟨_,_, .pr (.st ((cJ v10).map AV.d) (bq ((v1.ax.set v4 v9.1).map cJ))) (vt (f:=cJ) (j:=0) (y:=v9.1) (zs:=[(aw v9.1.ar),(aS v9.1.aV),(aI v9.1.ba.xN),(aI v9.1.ba.xD),(aw v9.1.aD.a8),(aw v9.1.aD.bz),(aw v9.1.aD.xFrac),(aw v9.1.aD.bK),(aw v9.1.aD.bM),(aI v9.1.aM.xK),(.d (.sl (b5 v9.1.aM.xL))),(.d (.sl (cm v9.1.xIdx))),(.d (.sl (cq v9.1.ax)))]) rfl az rfl)⟩)]] ?_;refine BY [4,12,14] 6 (cq (v1.ax.set v4 v9.1)) v1.ax.length 1 32 13 [.jm ((v1.ax.set v4 v9.1).map cJ)] (yt (akt aE)) (fa _) (yq (fun _=>rfl) _) ?_
    cases hF;exact wr af [[]]
   exact ni af aO (v4+1,v7) [[(0,bF h8)],[(5,oq (dj h5 rfl h4))]] ⟨jN h5,hF⟩
theorem aci(N:Nat)(v1:an)(v2:eC)(r:an×ak4×Bool)(hF:NC N v1 v2=some r):aG Tryz.prog 31 [(aA v1),(gg v2)] (·=(.bk [(aA r.1),(aS r.2.1),(aB r.2.2)])):=(ajq N N) v1 v2 r hF
def sK(N:Nat)(v1:aC)(v2:an):ak5 (an×ak4×Bool):=
 Option.bind (ma N v1) fun v3=>
 Option.bind (bif v3 then Option.bind (Ej N v2) fun v4=>
 some (v4 !=(0:Int))else some true) fun v5=>
 bif v5 then
  some (v2,(bs []),false)
 else
  Option.bind (Jo N v1 v2) fun v6=>
  Option.bind (NC N v2 v6) fun v7=>
  some (v7.1,v7.2.1,v7.2.2)
theorem Ur(N:Nat)(v1:aC)(v2:an)(r:an×ak4×Bool)(hF:sK N v1 v2=some r):aG Tryz.prog 10 [(bY v1),(aA v2)] (·=(.bk [(aA r.1),(aS r.2.1),(aB r.2.2)])):=by
 rw[sK]at hF;refine aR Tryz.func10 ?_;refine au af [[]] ?_;obtain⟨v3,h1,hF⟩:=ao hF;obtain⟨v5,h4,hF⟩:=ao hF;refine bf af [(14,(aB v5))] [.cells (bY v1).cells, .cells (aA v2).cells, .cells ef] ?_ ?_
 ·refine bc h4 (fun h2 h4=> ?_) fun h2 h4=> ?_
  ·obtain⟨v4,h3,h4⟩:=ao h4;cases h4;exact⟨[(3,bF (bG h2))],[(4,cL (mO N v1 v3 h1)),(16,cL (afV N v2 v4 h3))],by kernel_rfl⟩
  cases h4;exact⟨[(3,bT (bS h2))],[(4,cL (mO N v1 v3 h1))],by kernel_rfl⟩
 refine bc hF (fun h5 hF=> ?_) fun h5 hF=> ?_
 ·cases hF;exact wr af [[(0,bT h5)],[]]
 obtain⟨v6,h6,hF⟩:=ao hF;obtain⟨v7,h7,hF⟩:=ao hF;cases hF;exact wr af [[(0,bF h5)],[(10,cL (ait N v1 v2 v6 h6)),(13,cL (aci N v2 v6 v7 h7))]]
def sC(N:Nat)(v1:aC):Nat→Int→Bool→an→an→ak5 (an×Int)
 |0,_,_,_,_=>none
 |v4+1,v5,v6,v7,v8=>
  bif v6 then
   Option.bind (sK N v1 v8) fun v9=>
   (fun cX fX vM xv=>sC N v1 v4 cX fX vM xv) (aQ (v5+(1:Int))) v9.2.2 v8 v9.1
  else
   some (v7,v5)
def Ds(N:Nat)(v1:aC)(v2:an):ak5 (an×Int):=
 Option.bind (sK N v1 v2) fun v3=>
 sC N v1 N (0:Int) v3.2.2 v2 v3.1
theorem acx(N:Nat)(v1:aC)(v2:an)(r:an×Int)(hF:Ds N v1 v2=some r):aG Tryz.prog 37 [(bY v1),(aA v2)] (·=(.bk [(aA r.1),(aw r.2)])):=by
 rw[Ds]at hF;refine aR Tryz.func37 ?_;obtain⟨v3,h1,hF⟩:=ao hF;refine pP af 1 [[],[],[(7,cL (Ur N v1 v2 v3 h1))]] [2,3,4,6,7,9] 4 [] [(2,10),(2,11),(2,12)] (fun((v4,v5,v6,v7,v8):Nat×Int×Bool×an×an)=>⟨31,[(2,(.ptr 0 0)),(3,(.ptr 1 0)),(4,(.ptr 2 0)),(6,(aw v5)),(7,(.ptr 3 0)),(9,(aB v6))],[.cells (bY v1).cells, .cells (aA v7).cells, .cells ef, .cells (aA v8).cells]⟩) (fun((v4,v5,v6,v7,v8):Nat×Int×Bool×an×an)=>sC N v1 v4 v5 v6 v7 v8=some r) (fun((v4,v5,v6,v7,v8):Nat×Int×Bool×an×an)=>v4) (N,(0:Int),v3.2.2,v2,v3.1) hF ?_;rintro⟨v4,v5,v6,v7,v8⟩ hF f1 aO
 try dsimp only at hF
 cases v4 with
 |zero=>
  rw[sC]at hF;cases hF
 |succ v4=>
  rw[sC]at hF;refine au af [[]] ?_;refine bc hF (fun h2 hF=> ?_) fun h2 hF=> ?_
  ·refine au af [[(0,bT h2)],[],[],[],[]] ?_;refine ad3 3 4 ?_;obtain⟨v9,h3,hF⟩:=ao hF;exact ni af aO (v4,(aQ (v5+(1:Int))),v9.2.2,v8,v9.1) [[(7,cL (Ur N v1 v8 v9 h3))]] hF
  cases hF;exact wr af [[(0,bF h2)],[]]
def HH(N:Nat)(v1:aC)(v2:an):ak5 an:=
 Option.bind (Ds N v1 v2) fun v3=>
 some v3.1
theorem u6(N:Nat)(v1:aC)(v2:an)(r:an)(hF:HH N v1 v2=some r):aG Tryz.prog 13 [(bY v1),(aA v2)] (·=(aA r)):=by
 rw[HH]at hF;refine aR Tryz.func13 ?_;obtain⟨v3,h1,hF⟩:=ao hF;cases hF;exact wr af [[],[(7,cL (acx N v1 v2 v3 h1))],[]]
def GB(N:Nat)(v1:aC)(v2:an):ak5 Bool:=
 Option.bind (OM N v2 (300:Int)) fun v3=>
 bif (decide (v3>(300:Int)))then
  Option.bind (yg N) fun v4=>
  some v4
 else
  Option.bind (uG N v1 v2) fun v5=>
  Option.bind (rh N v1 v5) fun v6=>
  Option.bind (HH N v1 v2) fun v7=>
  Option.bind (jk N v5 v7) fun v8=>
  Option.bind (bif v8 then Option.bind (jk N v5 v6.1) fun v9=>
  (bif v9 then(bif (bL v6.2.1==bL (bs []))then(bif v6.2.2 then some false else Option.bind (vj N v5) fun v10=>
  Option.bind (vj N v2) fun v11=>
  (bif (decide (v10≤v11))then Option.bind (zd N v5) fun v12=>
  Option.bind (zd N v2) fun aX=>
  (bif (decide (v12≤aX))then Option.bind (yg N) fun bu=>
  some bu else some false)else some false))else some false)else some false)else some false) fun bN=>
  some bN
theorem ae2(N:Nat)(v1:aC)(v2:an)(r:Bool)(hF:GB N v1 v2=some r):aG Tryz.prog 4 [(bY v1),(aA v2)] (·=(aB r)):=by
 rw[GB]at hF;refine aR Tryz.func4 ?_;obtain⟨v3,h1,hF⟩:=ao hF;refine au af [[],[(4,cL (aep N v2 (300:Int) v3 h1))]] ?_;refine bc hF (fun h2 hF=> ?_) fun h2 hF=> ?_
 ·obtain⟨v4,h3,hF⟩:=ao hF;obtain rfl:=sj hF;exact wr af [[(0,bT h2)],[(1,cL (VO N v4 h3))]]
 obtain⟨v5,h4,hF⟩:=ao hF;obtain⟨v6,h5,hF⟩:=ao hF;refine au af [[(0,bF h2)],[(7,cL (kY N v1 v2 v5 h4))],[(7,cL (MU N v1 v5 v6 h5))]] ?_;obtain⟨v7,h6,hF⟩:=ao hF;obtain⟨v8,h7,hF⟩:=ao hF;obtain⟨bN,bC,hF⟩:=ao hF;refine bf af [(4,(aB bN))] [.cells (bY v1).cells, .cells (aA v2).cells, .cells (aA v5).cells, .cells (aA v6.1).cells] ?_ ?_
 ·refine bc bC (fun h8 bC=> ?_) fun h8 bC=> ?_
  ·obtain⟨v9,h9,bC⟩:=ao bC;refine bc bC (fun az bC=> ?_) fun az bC=> ?_
   ·refine bc bC (fun aE bC=> ?_) fun aE bC=> ?_
    ·refine bc bC (fun aK bC=> ?_) fun aK bC=> ?_
     ·cases bC;exact⟨[(5,bT h8),(10,bT az),(14,bT aE),(18,bF (bG aK)),(25,bF rfl),(32,bF rfl)],[(10,cL (u6 N v1 v2 v7 h6)),(13,cL (dN N v5 v7 v8 h7)),(25,cL (dN N v5 v6.1 v9 h9))],by kernel_rfl⟩
     obtain⟨v10,aY,bC⟩:=ao bC;obtain⟨v11,aJ,bC⟩:=ao bC;refine bc bC (fun bp bC=> ?_) fun bp bC=> ?_
     ·obtain⟨v12,aL,bC⟩:=ao bC;obtain⟨aX,bn,bC⟩:=ao bC;refine bc bC (fun aZ bC=> ?_) fun aZ bC=> ?_
      ·obtain⟨bu,bU,bC⟩:=ao bC;obtain rfl:=sj bC;exact⟨[(5,bT h8),(10,bT az),(14,bT aE),(18,bT (bS aK)),(25,bT bp),(32,bT aZ)],[(10,cL (u6 N v1 v2 v7 h6)),(13,cL (dN N v5 v7 v8 h7)),(25,cL (dN N v5 v6.1 v9 h9)),(61,cL (uS N v5 v10 aY)),(67,cL (uS N v2 v11 aJ)),(82,cL (CM N v5 v12 aL)),(88,cL (CM N v2 aX bn)),(100,cL (VO N bu bU))],by kernel_rfl⟩
      cases bC;exact⟨[(5,bT h8),(10,bT az),(14,bT aE),(18,bT (bS aK)),(25,bT bp),(32,bF aZ)],[(10,cL (u6 N v1 v2 v7 h6)),(13,cL (dN N v5 v7 v8 h7)),(25,cL (dN N v5 v6.1 v9 h9)),(61,cL (uS N v5 v10 aY)),(67,cL (uS N v2 v11 aJ)),(82,cL (CM N v5 v12 aL)),(88,cL (CM N v2 aX bn))],by kernel_rfl⟩
     cases bC;exact⟨[(5,bT h8),(10,bT az),(14,bT aE),(18,bT (bS aK)),(25,bF bp),(32,bF rfl)],[(10,cL (u6 N v1 v2 v7 h6)),(13,cL (dN N v5 v7 v8 h7)),(25,cL (dN N v5 v6.1 v9 h9)),(61,cL (uS N v5 v10 aY)),(67,cL (uS N v2 v11 aJ))],by kernel_rfl⟩
    cases bC;exact⟨[(5,bT h8),(10,bT az),(14,bF aE),(18,bF rfl),(25,bF rfl),(32,bF rfl)],[(10,cL (u6 N v1 v2 v7 h6)),(13,cL (dN N v5 v7 v8 h7)),(25,cL (dN N v5 v6.1 v9 h9))],by kernel_rfl⟩
   cases bC;exact⟨[(5,bT h8),(10,bF az),(14,bF rfl),(18,bF rfl),(25,bF rfl),(32,bF rfl)],[(10,cL (u6 N v1 v2 v7 h6)),(13,cL (dN N v5 v7 v8 h7)),(25,cL (dN N v5 v6.1 v9 h9))],by kernel_rfl⟩
  cases bC;exact⟨[(5,bF h8),(10,bF rfl),(14,bF rfl),(18,bF rfl),(25,bF rfl),(32,bF rfl)],[(10,cL (u6 N v1 v2 v7 h6)),(13,cL (dN N v5 v7 v8 h7))],by kernel_rfl⟩
 cases hF;exact wr af []
end Go.Proofs.YtpgmcallngdceaaGreatDoor
