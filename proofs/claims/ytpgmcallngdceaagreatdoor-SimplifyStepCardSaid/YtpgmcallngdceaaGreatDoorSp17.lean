/-
  Part 17 of the proof: PQ8.
-/
import Derived.Test.YtpgmcallngdceaaGreatDoorSp16
namespace Go.Proofs.YtpgmcallngdceaaGreatDoor
open Go.RowKit
set_option maxRecDepth 100000
set_option maxHeartbeats 0
set_option linter.unusedVariables false
def sO(N:Nat)(v21:an)(eX:Int64)(dt:akb aU):akd (an×Bool):=
 Option.bind (qO N (⟨eX,dt⟩:aF) v21.ba.xN) fun v24=>
 some ((⟨(2:Int),(bs []),bg,b8,v24.1,[],[]⟩:an),(v24.2==(0:Int)))
def Ba(N:Nat)(v1:an):akd (an×Bool):=
 bif (v1.ar==(2:Int))then
  Option.bind (nx N (⟨(3:Int),(0:Int),(0:Int),(0:Int),(0:Int)⟩:aD) (⟨v1.aK.xK,(1:Int64)⟩:ay)) fun v2=>
  Option.bind (bif ((v1.aK.xL.length:Int)==(0:Int))then(bif (decide (v1.aK.xK.toInt≤(2147483647:Int)))then some (decide (v1.aK.xK.toInt≥(-2147483647:Int)))else some false)else some false) fun v3=>
  some (v2,v3)
 else
  bif (v1.ar==(8:Int))then
   Option.bind (v1.ax[0]?) fun v4=>
   Option.bind (qO N v4.aK (-1:Int64)) fun v5=>
   Option.bind (bif (v4.ar==(2:Int))then some (v5.2==(0:Int))else some false) fun v6=>
   some ((⟨(2:Int),(bs []),bg,b8,v5.1,[],[]⟩:an),v6)
  else
   Option.bind (bif (v1.ar !=(4:Int))then(bif (v1.ar !=(5:Int))then some (v1.ar !=(6:Int))else some false)else some false) fun v7=>
   bif v7 then
    some (v1,false)
   else
    Option.bind (v1.ax[0]?) fun v8=>
    Option.bind (v1.ax[1]?) fun v9=>
    Option.bind (ph N v8) fun v10=>
    Option.bind (ph N v9) fun v11=>
    Option.bind (bif v10.2 then(bif v11.2 then Option.bind (ku N v8) fun v12=>
    (bif v12 then Option.bind (ku N v9) fun aZ=>
    some aZ else some false)else some true)else some true) fun bu=>
    bif bu then
     some (v1,false)
    else
     bif (v1.ar==(4:Int))then
      Option.bind (rm N v10.1 v11.1) fun bQ=>
      some ((⟨(2:Int),(bs []),bg,b8,bQ.1,[],[]⟩:an),(bQ.2==(0:Int)))
     else
      bif (v1.ar==(5:Int))then
       Option.bind (rO N v10.1 v11.1) fun de=>
       some ((⟨(2:Int),(bs []),bg,b8,de.1,[],[]⟩:an),de.2)
      else
       Option.bind (ku N v8) fun bW=>
       Option.bind (bif bW then some false else Option.bind (ku N v9) fun bx=>
       some (!bx)) fun cA=>
       bif cA then
        some (v1,false)
       else
        Option.bind (ku N v8) fun v20=>
        bif v20 then
         sO N v8 v11.1.xK v11.1.xL
        else
         sO N v9 v10.1.xK v10.1.xL
def Ma(v1:an)(l:akb aq):akb aq:= .cells (aA v1).cells:: .cells ep::l
def KQ(v1:an)(v8:an)(v9:an)(l:akb aq):akb aq:=Ma v1 (.cells (aA v8).cells:: .cells (aA v9).cells::l)
theorem aem(N:Nat)(v1:an)(r:an×Bool)(hF:Ba N v1=some r):aG Tryz.prog 127 [(aA v1)] (·=(.bk [(aA r.1),(aB r.2)])):=by
 rw[Ba]at hF;refine aP Tryz.func127 ?_;refine au af [[],[]] ?_;refine bc hF (fun h1 hF=> ?_) fun h1 hF=> ?_
 ·refine au af [[(0,bT h1)]] ?_;obtain⟨v2,h2,hF⟩:=ao hF;obtain⟨v3,h5,hF⟩:=ao hF;refine JL 2 af [(3,(aB v3))] [.cells (aA v1).cells, .cells (aA v2).cells] ?_ ?_
  ·refine bc h5 (fun h3 h5=> ?_) fun h3 h5=> ?_
   ·refine bc h5 (fun h4 h5=> ?_) fun h4 h5=> ?_
    ·cases h5;exact⟨[(11,bT h3),(17,bT h4)],[(16,cL (p8 N (⟨(3:Int),(0:Int),(0:Int),(0:Int),(0:Int)⟩:aD) (⟨v1.aK.xK,(1:Int64)⟩:ay) v2 h2)),(28,oL v1.aK.xL dd)],by kernel_rfl⟩
    cases h5;exact⟨[(11,bT h3),(17,bF h4)],[(16,cL (p8 N (⟨(3:Int),(0:Int),(0:Int),(0:Int),(0:Int)⟩:aD) (⟨v1.aK.xK,(1:Int64)⟩:ay) v2 h2)),(28,oL v1.aK.xL dd)],by kernel_rfl⟩
   cases h5;exact⟨[(11,bF h3),(17,bF rfl)],[(16,cL (p8 N (⟨(3:Int),(0:Int),(0:Int),(0:Int),(0:Int)⟩:aD) (⟨v1.aK.xK,(1:Int64)⟩:ay) v2 h2)),(28,oL v1.aK.xL dd)],by kernel_rfl⟩
  cases hF;exact wr af []
 refine au af [[(0,bF h1)],[]] ?_;refine bc hF (fun h6 hF=> ?_) fun h6 hF=> ?_
 ·obtain⟨v4,h7,hF⟩:=ao hF;obtain⟨v5,h8,hF⟩:=ao hF;refine au af [[(0,bT h6)],[(7,oE (k:=0) (bq h7)),(16,cL (M3 N v4.aK (-1:Int64) v5 h8))]] ?_;obtain⟨v6,az,hF⟩:=ao hF;refine bf af [(3,(aB v6))] [.cells (aA v1).cells, .cells [(aw (2:Int)),(aR (bs [])),(aH (0:Int64)),(aH (0:Int64)),(aw (0:Int)),(aw (0:Int)),(aw (0:Int)),(aw (0:Int)),(aw (0:Int)),(aH v5.1.xK),(.d (.sl (bZ v5.1.xL))),(.d (.v (.slice none 0 0))),(.d (.v (.slice none 0 0)))], .cells (b9 v5.1).cells] ?_ ?_
  ·refine bc az (fun h9 az=> ?_) fun h9 az=> ?_
   ·cases az;exact⟨[(8,bT h9)],[(13,oE (k:=0) (bq h7))],by kernel_rfl⟩
   cases az;exact⟨[(8,bF h9)],[(13,oE (k:=0) (bq h7))],by kernel_rfl⟩
  cases hF;exact wr af []
 refine au af [[(0,bF h6)]] ?_;obtain⟨v7,aY,hF⟩:=ao hF;refine bf af [(80,(aB v7))] (Ma v1 []) ?_ ?_
 ·refine bc aY (fun aE aY=> ?_) fun aE aY=> ?_
  ·refine bc aY (fun aN aY=> ?_) fun aN aY=> ?_
   ·cases aY;exact⟨[(3,bT aE),(8,bT aN)],[],by kernel_rfl⟩
   cases aY;exact⟨[(3,bT aE),(8,bF aN)],[],by kernel_rfl⟩
  cases aY;exact⟨[(3,bF aE),(8,bF rfl)],[],by kernel_rfl⟩
 refine bc hF (fun aJ hF=> ?_) fun aJ hF=> ?_
 ·cases hF;exact wr af [[(0,bT aJ)],[]]
 refine au af [[(0,bF aJ)]] ?_;obtain⟨v8,bt,hF⟩:=ao hF;obtain⟨v9,aM,hF⟩:=ao hF;refine mo 20 af [(6,(.ptr 2 0)),(7,(.ptr 3 0))] (KQ v1 v8 v9 []) ⟨[(7,oE (k:=0) (bq bt)),(19,oE (k:=1) (bq aM))],by kernel_rfl⟩ ?_;obtain⟨v10,bp,hF⟩:=ao hF;obtain⟨v11,a7,hF⟩:=ao hF;refine au af [[(4,cL (FP N v8 v10 bp))],[(4,cL (FP N v9 v11 a7))]] ?_;obtain⟨bu,cC,hF⟩:=ao hF;refine bf af [(113,(aB bu))] (KQ v1 v8 v9 [.cells (b9 v10.1).cells, .cells (b9 v11.1).cells]) ?_ ?_
 ·refine bc cC (fun bR cC=> ?_) fun bR cC=> ?_
  ·refine bc cC (fun b5 cC=> ?_) fun b5 cC=> ?_
   ·obtain⟨v12,ck,cC⟩:=ao cC;refine bc cC (fun bw cC=> ?_) fun bw cC=> ?_
    ·obtain⟨aZ,cP,cC⟩:=ao cC;obtain rfl:=sj cC;exact⟨[(2,bF (not_t bR)),(6,bF (not_t b5)),(9,bT bw)],[(25,cL (tL N v8 v12 ck)),(34,cL (tL N v9 aZ cP)),(37,bT bw)],by kernel_rfl⟩
    cases cC;exact⟨[(2,bF (not_t bR)),(6,bF (not_t b5)),(9,bF bw)],[(25,cL (tL N v8 v12 ck)),(37,bF bw)],by kernel_rfl⟩
   cases cC;exact⟨[(2,bF (not_t bR)),(6,bT (bS b5)),(9,uN)],[],by kernel_rfl⟩
  cases cC;exact⟨[(2,bT (bS bR)),(6,bT rfl),(9,uN)],[],by kernel_rfl⟩
 refine bc hF (fun eI hF=> ?_) fun eI hF=> ?_
 ·cases hF;exact wr af [[(0,bT eI)],[]]
 refine au af [[(0,bF eI)],[]] ?_;refine bc hF (fun eY hF=> ?_) fun eY hF=> ?_
 ·obtain⟨bQ,gd,hF⟩:=ao hF;cases hF;exact wr af [[(0,bT eY)],[(7,cL (Qk N v10.1 v11.1 bQ gd))],[]]
 refine au af [[(0,bF eY)],[]] ?_;refine bc hF (fun gX hF=> ?_) fun gX hF=> ?_
 ·obtain⟨de,qT,hF⟩:=ao hF;cases hF;exact wr af [[(0,bT gX)],[(7,cL (SF N v10.1 v11.1 de qT))],[]]
 refine au af [[(0,bF gX)]] ?_;obtain⟨bW,cK,hF⟩:=ao hF;obtain⟨cA,nk,hF⟩:=ao hF;refine bf af [(147,(aB cA))] (KQ v1 v8 v9 [.cells (b9 v10.1).cells, .cells (b9 v11.1).cells]) ?_ ?_
 ·refine bc nk (fun Cr nk=> ?_) fun Cr nk=> ?_
  ·cases nk;exact⟨[(3,bF (not_t Cr))],[(4,cL (tL N v8 bW cK))],by kernel_rfl⟩
  obtain⟨bx,JW,nk⟩:=ao nk;cases nk;exact⟨[(3,bT (bS Cr))],[(4,cL (tL N v8 bW cK)),(16,cL (tL N v9 bx JW))],by kernel_rfl⟩
 refine bc hF (fun LW hF=> ?_) fun LW hF=> ?_
 ·cases hF;exact wr af [[(0,bT LW)],[]]
 obtain⟨v20,h35,hF⟩:=ao hF;refine BY af 1 [[(0,bF LW)],[(4,cL (tL N v8 v20 h35))]] [2,7,8] 6 [] [(1,10),(1,11),(1,12)] (fun((v21,eX,dt):an×Int64×(akb aU))=>⟨165,[(2,(.ptr 1 0)),(7,(.ptr 3 0)),(8,(.ptr 4 0))],(Ma v1 [.cells (aA v8).cells, .cells (aA v21).cells, .cells [(aH eX),(.d (.sl (bZ dt)))], .cells (b9 v11.1).cells])⟩) (fun((v21,eX,dt):an×Int64×(akb aU))=>sO N v21 eX dt=some r) ?_ ?_
 ·intro f1 aO;refine bc hF (fun MX hF=> ?_) fun MX hF=> ?_
  ·exact lI af aO (v8,v11.1.xK,v11.1.xL) [[(0,bT MX)],[],[]] hF
  exact lI af aO (v9,v10.1.xK,v10.1.xL) [[(0,bF MX)]] hF
 rintro⟨v21,eX,dt⟩ hF
 try dsimp only at hF
 rw[sO]at hF;obtain⟨v24,Yc,hF⟩:=ao hF;cases hF;exact wr af [[(13,cL (M3 N (⟨eX,dt⟩:aF) v21.ba.xN v24 Yc))],[]]
def zM(N:Nat)(v1:Int)(v2:Int):akd Bool:=
 Option.bind (bif (v1==(15:Int))then(bif (v2==(0:Int))then some true else(bif (v1==(14:Int))then(bif (decide (v2≤(0:Int)))then some true else(bif (v1==(13:Int))then some (decide (v2<(0:Int)))else some false))else(bif (v1==(13:Int))then some (decide (v2<(0:Int)))else some false)))else(bif (v1==(14:Int))then(bif (decide (v2≤(0:Int)))then some true else(bif (v1==(13:Int))then some (decide (v2<(0:Int)))else some false))else(bif (v1==(13:Int))then some (decide (v2<(0:Int)))else some false))) fun v3=>
 some v3
theorem WQ(N:Nat)(v1:Int)(v2:Int)(r:Bool)(hF:zM N v1 v2=some r):aG Tryz.prog 308 [(aw v1),(aw v2)] (·=(aB r)):=by
 rw[zM]at hF;refine aP Tryz.func308 ?_;refine au af [[]] ?_;obtain⟨v3,aE,hF⟩:=ao hF;refine bf af [(4,(aB v3))] [] ?_ ?_
 ·refine bc aE (fun h1 aE=> ?_) fun h1 aE=> ?_
  ·refine bc aE (fun h2 aE=> ?_) fun h2 aE=> ?_
   ·cases aE;exact⟨[(2,bT h1),(6,bT h2),(9,uN),(14,bT rfl),(17,uN)],[],by kernel_rfl⟩
   refine bc aE (fun h3 aE=> ?_) fun h3 aE=> ?_
   ·refine bc aE (fun h4 aE=> ?_) fun h4 aE=> ?_
    ·cases aE;exact⟨[(2,bT h1),(6,bF h2),(9,bT h3),(14,bT h4),(17,uN)],[(37,bT h3)],by kernel_rfl⟩
    refine bc aE (fun h5 aE=> ?_) fun h5 aE=> ?_
    ·cases aE;exact⟨[(2,bT h1),(6,bF h2),(9,bT h3),(14,bF h4),(17,bT h5)],[(37,bT h3),(61,bT h5)],by kernel_rfl⟩
    cases aE;exact⟨[(2,bT h1),(6,bF h2),(9,bT h3),(14,bF h4),(17,bF h5)],[(37,bT h3),(61,bF h5)],by kernel_rfl⟩
   refine bc aE (fun h6 aE=> ?_) fun h6 aE=> ?_
   ·cases aE;exact⟨[(2,bT h1),(6,bF h2),(9,bF h3),(14,bF rfl),(17,bT h6)],[(37,bF h3),(61,bT h6)],by kernel_rfl⟩
   cases aE;exact⟨[(2,bT h1),(6,bF h2),(9,bF h3),(14,bF rfl),(17,bF h6)],[(37,bF h3),(61,bF h6)],by kernel_rfl⟩
  refine bc aE (fun h7 aE=> ?_) fun h7 aE=> ?_
  ·refine bc aE (fun h8 aE=> ?_) fun h8 aE=> ?_
   ·cases aE;exact⟨[(2,bF h1),(6,bF rfl),(9,bT h7),(14,bT h8),(17,uN)],[(37,bT h7)],by kernel_rfl⟩
   refine bc aE (fun h9 aE=> ?_) fun h9 aE=> ?_
   ·cases aE;exact⟨[(2,bF h1),(6,bF rfl),(9,bT h7),(14,bF h8),(17,bT h9)],[(37,bT h7),(61,bT h9)],by kernel_rfl⟩
   cases aE;exact⟨[(2,bF h1),(6,bF rfl),(9,bT h7),(14,bF h8),(17,bF h9)],[(37,bT h7),(61,bF h9)],by kernel_rfl⟩
  refine bc aE (fun az aE=> ?_) fun az aE=> ?_
  ·cases aE;exact⟨[(2,bF h1),(6,bF rfl),(9,bF h7),(14,bF rfl),(17,bT az)],[(37,bF h7),(61,bT az)],by kernel_rfl⟩
  cases aE;exact⟨[(2,bF h1),(6,bF rfl),(9,bF h7),(14,bF rfl),(17,bF az)],[(37,bF h7),(61,bF az)],by kernel_rfl⟩
 cases hF;exact wr af []
def AI(N:Nat)(v2:an)(v3:an)(v1:an):akd (Bool×Bool):=
 Option.bind (jB N v2 v3) fun v10=>
 bif v10 then
  some ((v1.ar !=(13:Int)),true)
 else
  some (false,false)
def yU(N:Nat)(v1:an)(bu:Int):akd (Bool×Bool):=
 Option.bind (zM N v1.ar bu) fun bQ=>
 some (bQ,true)
def Db(N:Nat)(v11:aF×Bool)(v1:an)(aZ:Int):akd (Bool×Bool):=
 bif (decide (v11.1.xK.toInt>(0:Int)))then
  yU N v1 (1:Int)
 else
  yU N v1 aZ
def sM(N:Nat)(v1:an):akd (Bool×Bool):=
 Option.bind (v1.ax[0]?) fun v2=>
 Option.bind (v1.ax[1]?) fun v3=>
 Option.bind (bif (v2.ar==(1:Int))then(bif (v3.ar==(1:Int))then some ((v2.aC.a8==v3.aC.a8)&&((v2.aC.bz==v3.aC.bz)&&((v2.aC.bE==v3.aC.bE)&&((v2.aC.bK==v3.aC.bK)&&((v2.aC.bI==v3.aC.bI)&&true)))))else some false)else some false) fun v4=>
 bif v4 then
  Option.bind (y4 N v2.aC v2.ba v3.ba) fun v5=>
  Option.bind (zM N v1.ar v5) fun v6=>
  some (v6,true)
 else
  Option.bind (ph N v2) fun v7=>
  Option.bind (ph N v3) fun v8=>
  Option.bind (bif v7.2 then some v8.2 else some false) fun v9=>
  bif v9 then
   Option.bind (rO N v7.1 v8.1) fun v11=>
   Option.bind (bif v11.2 then some ((v11.1.xL.length:Int)==(0:Int))else some false) fun v12=>
   bif v12 then
    bif (decide (v11.1.xK.toInt<(0:Int)))then
     Db N v11 v1 (-1:Int)
    else
     Db N v11 v1 (0:Int)
   else
    AI N v2 v3 v1
  else
   AI N v2 v3 v1
def Ck(v1:an)(v2:an)(v3:an)(v7:aF×Bool)(v8:aF×Bool)(l:akb aq):akb aq:= .cells (aA v1).cells:: .cells (aA v2).cells:: .cells (aA v3).cells:: .cells (b9 v7.1).cells:: .cells (b9 v8.1).cells::l
theorem afu(N:Nat)(v1:an)(r:Bool×Bool)(hF:sM N v1=some r):aG Tryz.prog 265 [(aA v1)] (·=(.bk [(aB r.1),(aB r.2)])):=by
 rw[sM]at hF;refine aP Tryz.func265 ?_;refine au af [[]] ?_;obtain⟨v2,h1,hF⟩:=ao hF;obtain⟨v3,h2,hF⟩:=ao hF;refine mo 20 af [(4,(.ptr 1 0)),(5,(.ptr 2 0))] [.cells (aA v1).cells, .cells (aA v2).cells, .cells (aA v3).cells] ⟨[(7,oE (k:=0) (bq h1)),(19,oE (k:=1) (bq h2))],by kernel_rfl⟩ ?_;obtain⟨v4,h5,hF⟩:=ao hF;refine bf af [(35,(aB v4))] [.cells (aA v1).cells, .cells (aA v2).cells, .cells (aA v3).cells] ?_ ?_
 ·refine bc h5 (fun h3 h5=> ?_) fun h3 h5=> ?_
  ·refine bc h5 (fun h4 h5=> ?_) fun h4 h5=> ?_
   ·cases h5;exact⟨[(3,bT h3),(8,bT h4)],[],by kernel_rfl⟩
   cases h5;exact⟨[(3,bT h3),(8,bF h4)],[],by kernel_rfl⟩
  cases h5;exact⟨[(3,bF h3),(8,bF rfl)],[],by kernel_rfl⟩
 refine bc hF (fun h6 hF=> ?_) fun h6 hF=> ?_
 ·obtain⟨v5,h7,hF⟩:=ao hF;obtain⟨v6,h8,hF⟩:=ao hF;cases hF;exact wr af [[(0,bT h6)],[(25,cL (Pe N v2.aC v2.ba v3.ba v5 h7)),(28,cL (WQ N v1.ar v5 v6 h8))]]
 obtain⟨v7,h9,hF⟩:=ao hF;obtain⟨v8,az,hF⟩:=ao hF;refine au af [[(0,bF h6)],[(4,cL (FP N v2 v7 h9))],[(4,cL (FP N v3 v8 az))]] ?_;obtain⟨v9,aN,hF⟩:=ao hF;refine bf af [(59,(aB v9))] (Ck v1 v2 v3 v7 v8 []) ?_ ?_
 ·refine bc aN (fun aE aN=> ?_) fun aE aN=> ?_
  ·cases aN;exact⟨[(1,bT aE)],[],by kernel_rfl⟩
  cases aN;exact⟨[(1,bF aE)],[],by kernel_rfl⟩
 refine WD af r 1 [] [1,4,5] 5 ⟨89,[(1,(.ptr 0 0)),(4,(.ptr 1 0)),(5,(.ptr 2 0))],(Ck v1 v2 v3 v7 v8 [])⟩ (AI N v2 v3 v1) ?_ ?_
 ·intro f1 aO;refine bc hF (fun bt hF=> ?_) fun bt hF=> ?_
  ·obtain⟨v11,aM,hF⟩:=ao hF;refine au af [[(0,bT bt)],[(7,cL (SF N v7.1 v8.1 v11 aM))]] ?_;obtain⟨v12,a7,hF⟩:=ao hF;refine bf af [(72,(aB v12))] (Ck v1 v2 v3 v7 v8 [.cells (b9 v11.1).cells]) ?_ ?_
   ·refine bc a7 (fun bp a7=> ?_) fun bp a7=> ?_
    ·cases a7;exact⟨[(1,bT bp)],[(13,oL v11.1.xL dd)],by kernel_rfl⟩
    cases a7;exact⟨[(1,bF bp)],[],by kernel_rfl⟩
   refine bc hF (fun bR hF=> ?_) fun bR hF=> ?_
   ·refine gN af r 2 [[(0,bT bR)],[],[]] [1,10,12] 6 (fun(aZ:Int)=>⟨89,[(1,(.ptr 0 0)),(10,(.ptr 5 0)),(12,(aw aZ))],(Ck v1 v2 v3 v7 v8 [.cells (b9 v11.1).cells])⟩) (Db N v11 v1) ?_ ?_
    ·intro f2 eD;refine bc hF (fun bw hF=> ?_) fun bw hF=> ?_
     ·exact bM af eD (-1:Int) [[(0,bT bw)],[]] hF
     exact bM af eD (0:Int) [[(0,bF bw)]] hF
    intro aZ hF;rw[Db]at hF;refine gN af r 3 [[]] [1,12] 6 (fun(bu:Int)=>⟨89,[(1,(.ptr 0 0)),(12,(aw bu))],(Ck v1 v2 v3 v7 v8 [.cells (b9 v11.1).cells])⟩) (yU N v1) ?_ ?_
    ·intro f3 mh;refine bc hF (fun ck hF=> ?_) fun ck hF=> ?_
     ·exact bM af mh (1:Int) [[(0,bT ck)],[]] hF
     exact bM af mh aZ [[(0,bF ck)]] hF
    intro bu hF;rw[yU]at hF;obtain⟨bQ,b5,hF⟩:=ao hF;cases hF;exact wr af [[(10,cL (WQ N v1.ar bu bQ b5))]]
   exact bM af aO () [[(0,bF bR)]] hF
  exact bM af aO () [[(0,bF bt)]] hF
 intro hF;rw[AI]at hF;obtain⟨v10,aY,hF⟩:=ao hF;refine au af [[(7,cL (fe N v2 v3 v10 aY))]] ?_;refine bc hF (fun aJ hF=> ?_) fun aJ hF=> ?_
 ·cases hF;exact wr af [[(0,bT aJ)],[]]
 cases hF;exact wr af [[(0,bF aJ)],[]]
def kF(N:Nat):Nat→an→akd (Bool×Bool)
 |0,_=>none
 |d+1,v1=>
  Option.bind (bif (decide (v1.ar≥(13:Int)))then some (decide (v1.ar≤(15:Int)))else some false) fun v2=>
  bif v2 then
   Option.bind (sM N v1) fun v3=>
   some (v3.1,v3.2)
  else
   bif (v1.ar==(18:Int))then
    Option.bind (v1.ax[0]?) fun v4=>
    Option.bind ((kF N d) v4) fun v5=>
    Option.bind (bif v5.2 then some (!v5.1)else some false) fun v6=>
    some (v6,v5.2)
   else
    Option.bind (v1.ax[0]?) fun v7=>
    Option.bind ((kF N d) v7) fun v8=>
    Option.bind (v1.ax[1]?) fun v9=>
    Option.bind ((kF N d) v9) fun v10=>
    Option.bind (bif v8.2 then(bif (v8.1==(v1.ar==(17:Int)))then some true else(bif v10.2 then some (v10.1==(v1.ar==(17:Int)))else some false))else(bif v10.2 then some (v10.1==(v1.ar==(17:Int)))else some false)) fun v11=>
    bif v11 then
     some ((v1.ar==(17:Int)),true)
    else
     Option.bind (bif (v1.ar==(17:Int))then(bif v8.2 then some (false,v10.2)else some (false,false))else(bif v8.2 then some (v10.2,v10.2)else some (false,false))) fun v12=>
     some (v12.1,v12.2)
def vw(N:Nat)(v1:an):akd (Bool×Bool):=kF N N v1
theorem aeg(N:Nat):∀d:Nat,(∀(v1:an)(r:Bool×Bool),kF N d v1=some r→aG Tryz.prog 204 [(aA v1)] (·=(.bk [(aB r.1),(aB r.2)]))):=by
 intro d
 induction d with
 |zero=>intro v1 r hF;rw[kF]at hF;cases hF
 |succ d ih=>
  have Nj:=ih;intro v1 r hF;rw[kF]at hF;refine aP Tryz.func204 ?_;refine au af [[]] ?_;obtain⟨v2,h2,hF⟩:=ao hF;refine bf af [(18,(aB v2))] [.cells (aA v1).cells] ?_ ?_
  ·refine bc h2 (fun h1 h2=> ?_) fun h1 h2=> ?_
   ·cases h2;exact⟨[(3,bT h1)],[],by kernel_rfl⟩
   cases h2;exact⟨[(3,bF h1)],[],by kernel_rfl⟩
  refine bc hF (fun h3 hF=> ?_) fun h3 hF=> ?_
  ·obtain⟨v3,h4,hF⟩:=ao hF;cases hF;exact wr af [[(0,bT h3)],[(4,cL (afu N v1 v3 h4))]]
  refine au af [[(0,bF h3)],[]] ?_;refine bc hF (fun h5 hF=> ?_) fun h5 hF=> ?_
  ·obtain⟨v4,h6,hF⟩:=ao hF;obtain⟨v5,h7,hF⟩:=ao hF;refine au af [[(0,bT h5)],[(7,oE (k:=0) (bq h6)),(13,cL (Nj v4 v5 h7))]] ?_;obtain⟨v6,h9,hF⟩:=ao hF;refine bf af [(2,(aB v6)),(3,(aB v5.2))] [.cells (aA v1).cells] ?_ ?_
   ·refine bc h9 (fun h8 h9=> ?_) fun h8 h9=> ?_
    ·cases h9;exact⟨[(1,bT h8)],[],by kernel_rfl⟩
    cases h9;exact⟨[(1,bF h8)],[],by kernel_rfl⟩
   cases hF;exact wr af []
  obtain⟨v7,az,hF⟩:=ao hF;obtain⟨v8,aE,hF⟩:=ao hF;obtain⟨v9,aN,hF⟩:=ao hF;obtain⟨v10,aY,hF⟩:=ao hF;refine au af [[(0,bF h5)],[(7,oE (k:=0) (bq az)),(13,cL (Nj v7 v8 aE))],[(7,oE (k:=1) (bq aN)),(13,cL (Nj v9 v10 aY))],[]] ?_;obtain⟨v11,a7,hF⟩:=ao hF;refine bf af [(72,(aB v11))] [.cells (aA v1).cells] ?_ ?_
  ·refine bc a7 (fun aJ a7=> ?_) fun aJ a7=> ?_
   ·refine bc a7 (fun bt a7=> ?_) fun bt a7=> ?_
    ·cases a7;exact⟨[(1,bT aJ),(6,bT bt),(8,uN)],[],by kernel_rfl⟩
    refine bc a7 (fun aM a7=> ?_) fun aM a7=> ?_
    ·cases a7;exact⟨[(1,bT aJ),(6,bF bt),(8,bT aM)],[(37,bT aM)],by kernel_rfl⟩
    cases a7;exact⟨[(1,bT aJ),(6,bF bt),(8,bF aM)],[(37,bF aM)],by kernel_rfl⟩
   refine bc a7 (fun bp a7=> ?_) fun bp a7=> ?_
   ·cases a7;exact⟨[(1,bF aJ),(6,bF rfl),(8,bT bp)],[(37,bT bp)],by kernel_rfl⟩
   cases a7;exact⟨[(1,bF aJ),(6,bF rfl),(8,bF bp)],[(37,bF bp)],by kernel_rfl⟩
  refine bc hF (fun bR hF=> ?_) fun bR hF=> ?_
  ·cases hF;exact wr af [[(0,bT bR)],[]]
  refine au af [[(0,bF bR)]] ?_;obtain⟨v12,cP,hF⟩:=ao hF;refine bf af [(2,(aB v12.1)),(3,(aB v12.2))] [.cells (aA v1).cells] ?_ ?_
  ·refine bc cP (fun b5 cP=> ?_) fun b5 cP=> ?_
   ·refine bc cP (fun ck cP=> ?_) fun ck cP=> ?_
    ·cases cP;exact⟨[(2,bF (not_t b5)),(5,bF rfl),(9,bT ck)],[],by kernel_rfl⟩
    cases cP;exact⟨[(2,bF (not_t b5)),(5,bF rfl),(9,bF ck)],[],by kernel_rfl⟩
   refine bc cP (fun bw cP=> ?_) fun bw cP=> ?_
   ·cases cP;exact⟨[(2,bT (bS b5)),(5,bT bw),(9,bT bw)],[],by kernel_rfl⟩
   cases cP;exact⟨[(2,bT (bS b5)),(5,bF bw),(9,bF bw)],[],by kernel_rfl⟩
  cases hF;exact wr af []
theorem ON(N:Nat)(v1:an)(r:Bool×Bool)(hF:vw N v1=some r):aG Tryz.prog 204 [(aA v1)] (·=(.bk [(aB r.1),(aB r.2)])):=(aeg N N) v1 r hF
def Bd(N:Nat)(v1:an):akd (an×Bool):=
 bif (v1.ar !=(11:Int))then
  some (v1,false)
 else
  Option.bind (v1.ax[0]?) fun v2=>
  Option.bind (vw N v2) fun v3=>
  bif v3.1 then
   Option.bind (v1.ax[1]?) fun v4=>
   some (v4,v3.2)
  else
   Option.bind (v1.ax[2]?) fun v5=>
   some (v5,v3.2)
theorem XQ(N:Nat)(v1:an)(r:an×Bool)(hF:Bd N v1=some r):aG Tryz.prog 128 [(aA v1)] (·=(.bk [(aA r.1),(aB r.2)])):=by
 rw[Bd]at hF;refine aP Tryz.func128 ?_;refine au af [[],[]] ?_;refine bc hF (fun h1 hF=> ?_) fun h1 hF=> ?_
 ·cases hF;exact wr af [[(0,bT h1)],[]]
 obtain⟨v2,h2,hF⟩:=ao hF;obtain⟨v3,h3,hF⟩:=ao hF;refine au af [[(0,bF h1)],[(7,oE (k:=0) (bq h2)),(13,cL (ON N v2 v3 h3))],[]] ?_;refine bc hF (fun h4 hF=> ?_) fun h4 hF=> ?_
 ·obtain⟨v4,h5,hF⟩:=ao hF;cases hF;exact wr af [[(0,bT h4)],[(7,oE (k:=1) (bq h5))]]
 obtain⟨v5,h6,hF⟩:=ao hF;cases hF;exact wr af [[(0,bF h4)],[(7,oE (k:=2) (bq h6))]]
def C5(N:Nat)(v1:an):akd (an×Bool):=
 bif (v1.ar==(11:Int))then
  Option.bind (v1.ax[1]?) fun v2=>
  Option.bind (v1.ax[2]?) fun v3=>
  Option.bind (jB N v2 v3) fun v4=>
  some (v2,v4)
 else
  Option.bind (bif (v1.ar==(9:Int))then some true else(bif (v1.ar==(10:Int))then some true else(bif (v1.ar==(16:Int))then some true else some (v1.ar==(17:Int))))) fun v5=>
  bif v5 then
   Option.bind (v1.ax[0]?) fun v6=>
   Option.bind (v1.ax[1]?) fun v7=>
   Option.bind (jB N v6 v7) fun v8=>
   some (v6,v8)
  else
   some (v1,false)
theorem ae2(N:Nat)(v1:an)(r:an×Bool)(hF:C5 N v1=some r):aG Tryz.prog 129 [(aA v1)] (·=(.bk [(aA r.1),(aB r.2)])):=by
 rw[C5]at hF;refine aP Tryz.func129 ?_;refine au af [[],[]] ?_;refine bc hF (fun h1 hF=> ?_) fun h1 hF=> ?_
 ·obtain⟨v2,h2,hF⟩:=ao hF;obtain⟨v3,h3,hF⟩:=ao hF;obtain⟨v4,h4,hF⟩:=ao hF;cases hF;exact wr af [[(0,bT h1)],[(7,oE (k:=1) (bq h2)),(19,oE (k:=1) (bq h2)),(31,oE (k:=2) (bq h3)),(37,cL (fe N v2 v3 v4 h4))]]
 refine au af [[(0,bF h1)]] ?_;obtain⟨v5,h8,hF⟩:=ao hF;refine bf af [(37,(aB v5))] [.cells (aA v1).cells, .cells ep] ?_ ?_
 ·refine bc h8 (fun h5 h8=> ?_) fun h5 h8=> ?_
  ·cases h8;exact⟨[(3,bT h5),(8,bT rfl),(13,bT rfl)],[],by kernel_rfl⟩
  refine bc h8 (fun h6 h8=> ?_) fun h6 h8=> ?_
  ·cases h8;exact⟨[(3,bF h5),(8,bT h6),(13,bT rfl)],[],by kernel_rfl⟩
  refine bc h8 (fun h7 h8=> ?_) fun h7 h8=> ?_
  ·cases h8;exact⟨[(3,bF h5),(8,bF h6),(13,bT h7)],[],by kernel_rfl⟩
  cases h8;exact⟨[(3,bF h5),(8,bF h6),(13,bF h7)],[],by kernel_rfl⟩
 refine bc hF (fun h9 hF=> ?_) fun h9 hF=> ?_
 ·obtain⟨v6,az,hF⟩:=ao hF;obtain⟨v7,aE,hF⟩:=ao hF;obtain⟨v8,aN,hF⟩:=ao hF;cases hF;exact wr af [[(0,bT h9)],[(7,oE (k:=0) (bq az)),(19,oE (k:=0) (bq az)),(31,oE (k:=1) (bq aE)),(37,cL (fe N v6 v7 v8 aN))]]
 cases hF;exact wr af [[(0,bF h9)],[]]
def w6(N:Nat)(v1:aD):akd ay:=
 Option.bind (lB N v1) fun v2=>
 bif v2 then
  some (⟨(0:Int64),(1:Int64)⟩:ay)
 else
  some bg
theorem Uo(N:Nat)(v1:aD)(r:ay)(hF:w6 N v1=some r):aG Tryz.prog 207 [(b4 v1)] (·=(bj r)):=by
 rw[w6]at hF;refine aP Tryz.func207 ?_;obtain⟨v2,h1,hF⟩:=ao hF;refine au af [[],[(4,cL (mL N v1 v2 h1))]] ?_;refine bc hF (fun h2 hF=> ?_) fun h2 hF=> ?_
 ·cases hF;exact wr af [[(0,bF (not_t h2))],[]]
 cases hF;exact wr af [[(0,bT (bS h2))],[]]
def nO(N:Nat)(v1:an):akd Bool:=
 Option.bind (bif (v1.ar==(1:Int))then Option.bind (w6 N v1.aC) fun v2=>
 some ((v1.ba.xN.toInt==v2.xN.toInt)&&((v1.ba.xD.toInt==v2.xD.toInt)&&true))else some false) fun v3=>
 some v3
theorem vt(N:Nat)(v1:an)(r:Bool)(hF:nO N v1=some r):aG Tryz.prog 205 [(aA v1)] (·=(aB r)):=by
 rw[nO]at hF;refine aP Tryz.func205 ?_;refine au af [[]] ?_;obtain⟨v3,h3,hF⟩:=ao hF;refine bf af [(2,(aB v3))] [.cells (aA v1).cells] ?_ ?_
 ·refine bc h3 (fun h1 h3=> ?_) fun h1 h3=> ?_
  ·obtain⟨v2,h2,h3⟩:=ao h3;cases h3;exact⟨[(3,bT h1)],[(25,cL (Uo N v1.aC v2 h2))],by kernel_rfl⟩
  cases h3;exact⟨[(3,bF h1)],[],by kernel_rfl⟩
 cases hF;exact wr af []
def uC(N:Nat)(v3:an)(v1:an)(v4:an)(v7:Bool):akd (an×Bool):=
 bif v7 then
  some (v3,true)
 else
  Option.bind (bif (v1.ar==(4:Int))then Option.bind (nO N v3) fun v8=>
  some v8 else some false) fun v9=>
  bif v9 then
   some (v4,true)
  else
   Option.bind (bif (v1.ar==(5:Int))then Option.bind (nO N v3) fun v10=>
   some v10 else some false) fun v11=>
   bif v11 then
    some ((⟨(8:Int),(bs []),bg,b8,zLin,[],[v4]⟩:an),true)
   else
    Option.bind (bif (v1.ar==(6:Int))then Option.bind (nO N v4) fun v12=>
    some v12 else some false) fun aZ=>
    bif aZ then
     some (v4,true)
    else
     Option.bind (bif (v1.ar==(6:Int))then Option.bind (nO N v3) fun bu=>
     some bu else(bif (v1.ar==(7:Int))then Option.bind (nO N v3) fun bQ=>
     some bQ else some false)) fun de=>
     some (v3,de)
def Bw(N:Nat)(v1:an):akd (an×Bool):=
 Option.bind (bif (decide (v1.ar<(4:Int)))then some true else some (decide (v1.ar>(7:Int)))) fun v2=>
 bif v2 then
  some (v1,false)
 else
  Option.bind (v1.ax[0]?) fun v3=>
  Option.bind (v1.ax[1]?) fun v4=>
  Option.bind (bif (v1.ar==(4:Int))then Option.bind (nO N v4) fun v5=>
  some v5 else some false) fun v6=>
  bif v6 then
   uC N v3 v1 v4 v6
  else
   bif (v1.ar==(5:Int))then
    Option.bind (nO N v4) fun bW=>
    uC N v3 v1 v4 bW
   else
    uC N v3 v1 v4 false
def PU(v1:an)(l:akb aq):akb aq:= .cells (aA v1).cells:: .cells ep::l
def xA(v1:an)(v3:an)(v4:an)(l:akb aq):akb aq:=PU v1 (.cells (aA v3).cells:: .cells (aA v4).cells::l)
theorem adk(N:Nat)(v1:an)(r:an×Bool)(hF:Bw N v1=some r):aG Tryz.prog 130 [(aA v1)] (·=(.bk [(aA r.1),(aB r.2)])):=by
 rw[Bw]at hF;refine aP Tryz.func130 ?_;refine au af [[]] ?_;obtain⟨v2,h2,hF⟩:=ao hF;refine bf af [(13,(aB v2))] (PU v1 []) ?_ ?_
 ·refine bc h2 (fun h1 h2=> ?_) fun h1 h2=> ?_
  ·cases h2;exact⟨[(3,bT h1)],[],by kernel_rfl⟩
  cases h2;exact⟨[(3,bF h1)],[],by kernel_rfl⟩
 refine bc hF (fun h3 hF=> ?_) fun h3 hF=> ?_
 ·cases hF;exact wr af [[(0,bT h3)],[]]
 refine au af [[(0,bF h3)]] ?_;obtain⟨v3,h4,hF⟩:=ao hF;obtain⟨v4,h5,hF⟩:=ao hF;refine mo 20 af [(4,(.ptr 2 0)),(5,(.ptr 3 0))] (xA v1 v3 v4 []) ⟨[(7,oE (k:=0) (bq h4)),(19,oE (k:=1) (bq h5))],by kernel_rfl⟩ ?_;obtain⟨v6,h8,hF⟩:=ao hF;refine bf af [(23,(aB v6))] (xA v1 v3 v4 []) ?_ ?_
 ·refine bc h8 (fun h6 h8=> ?_) fun h6 h8=> ?_
  ·obtain⟨v5,h7,h8⟩:=ao h8;obtain rfl:=sj h8;exact⟨[(3,bT h6)],[(16,cL (vt N v4 v5 h7))],by kernel_rfl⟩
  cases h8;exact⟨[(3,bF h6)],[],by kernel_rfl⟩
 refine BY af 1 [] [1,2,4,5,23] 4 [] [(1,10),(1,11),(1,12)] (fun(v7:Bool)=>⟨81,[(1,(.ptr 0 0)),(2,(.ptr 1 0)),(4,(.ptr 2 0)),(5,(.ptr 3 0)),(23,(aB v7))],(xA v1 v3 v4 [])⟩) (fun(v7:Bool)=>uC N v3 v1 v4 v7=some r) ?_ ?_
 ·intro f1 aO;refine bc hF (fun gd hF=> ?_) fun gd hF=> ?_
  ·exact lI af aO v6 [[(0,bT gd)]] hF
  refine bc hF (fun gX hF=> ?_) fun gX hF=> ?_
  ·obtain⟨bW,qT,hF⟩:=ao hF;exact lI af aO bW [[(0,bF gd)],[(12,bT gX),(15,bT gX),(16,cL (vt N v4 bW qT)),(19,bT gX)]] hF
  exact lI af aO false [[(0,bF gd)],[(12,bF gX),(15,bF gX),(19,bF gX)]] hF
 rintro v7 hF
 try dsimp only at hF
 rw[uC]at hF;refine bc hF (fun h9 hF=> ?_) fun h9 hF=> ?_
 ·cases hF;exact wr af [[(0,bT h9)],[]]
 refine au af [[(0,bF h9)]] ?_;obtain⟨v9,aN,hF⟩:=ao hF;refine bf af [(39,(aB v9))] (xA v1 v3 v4 []) ?_ ?_
 ·refine bc aN (fun az aN=> ?_) fun az aN=> ?_
  ·obtain⟨v8,aE,aN⟩:=ao aN;obtain rfl:=sj aN;exact⟨[(3,bT az)],[(16,cL (vt N v3 v8 aE))],by kernel_rfl⟩
  cases aN;exact⟨[(3,bF az)],[],by kernel_rfl⟩
 refine bc hF (fun aY hF=> ?_) fun aY hF=> ?_
 ·cases hF;exact wr af [[(0,bT aY)],[]]
 refine au af [[(0,bF aY)]] ?_;obtain⟨v11,aM,hF⟩:=ao hF;refine bf af [(48,(aB v11))] (xA v1 v3 v4 []) ?_ ?_
 ·refine bc aM (fun aJ aM=> ?_) fun aJ aM=> ?_
  ·obtain⟨v10,bt,aM⟩:=ao aM;obtain rfl:=sj aM;exact⟨[(3,bT aJ)],[(16,cL (vt N v3 v10 bt))],by kernel_rfl⟩
  cases aM;exact⟨[(3,bF aJ)],[],by kernel_rfl⟩
 refine bc hF (fun bp hF=> ?_) fun bp hF=> ?_
 ·cases hF;exact wr af [[(0,bT bp)],[(5,⟨_,_, .eq (congrArg AV.full (eR [v4]).symm)⟩)]]
 refine au af [[(0,bF bp)]] ?_;obtain⟨aZ,b5,hF⟩:=ao hF;refine bf af [(59,(aB aZ))] (xA v1 v3 v4 []) ?_ ?_
 ·refine bc b5 (fun a7 b5=> ?_) fun a7 b5=> ?_
  ·obtain⟨v12,bR,b5⟩:=ao b5;obtain rfl:=sj b5;exact⟨[(3,bT a7)],[(16,cL (vt N v4 v12 bR))],by kernel_rfl⟩
  cases b5;exact⟨[(3,bF a7)],[],by kernel_rfl⟩
 refine bc hF (fun ck hF=> ?_) fun ck hF=> ?_
 ·cases hF;exact wr af [[(0,bT ck)],[]]
 refine au af [[(0,bF ck)]] ?_;obtain⟨de,eY,hF⟩:=ao hF;refine bf af [(3,(aB de))] [.cells (aA v1).cells, .cells (aA v3).cells, .cells (aA v3).cells, .cells (aA v4).cells] ?_ ?_
 ·refine bc eY (fun bw eY=> ?_) fun bw eY=> ?_
  ·obtain⟨bu,cP,eY⟩:=ao eY;obtain rfl:=sj eY;exact⟨[(4,bT bw),(9,bT rfl)],[(34,cL (vt N v3 bu cP))],by kernel_rfl⟩
  refine bc eY (fun cC eY=> ?_) fun cC eY=> ?_
  ·obtain⟨bQ,eI,eY⟩:=ao eY;obtain rfl:=sj eY;exact⟨[(4,bF bw),(9,bT cC)],[(34,cL (vt N v3 bQ eI))],by kernel_rfl⟩
  cases eY;exact⟨[(4,bF bw),(9,bF cC)],[],by kernel_rfl⟩
 cases hF;exact wr af []
def Cf(N:Nat)(v1:aD)(v3:Int64):akd (ay×Int):=
 Option.bind (mB N v1 (⟨v3,(1:Int64)⟩:ay)) fun v4=>
 bif v4 then
  some ((⟨v3,(1:Int64)⟩:ay),(0:Int))
 else
  some (bg,(3:Int))
def wz(N:Nat)(v1:aD):akd (ay×Int):=
 Option.bind (lB N v1) fun v2=>
 bif v2 then
  bif (v1.a8==(2:Int))then
   Option.bind (pZ N v1) fun v5=>
   Cf N v1 v5
  else
   Cf N v1 (1:Int64)
 else
  some (bg,(10:Int))
theorem RK(N:Nat)(v1:aD)(r:ay×Int)(hF:wz N v1=some r):aG Tryz.prog 208 [(b4 v1)] (·=(.bk [(bj r.1),(aw r.2)])):=by
 rw[wz]at hF;refine aP Tryz.func208 ?_;obtain⟨v2,h1,hF⟩:=ao hF;refine au af [[],[(4,cL (mL N v1 v2 h1))]] ?_;refine bc hF (fun h2 hF=> ?_) fun h2 hF=> ?_
 ·refine gN af r 1 [[(0,bF (not_t h2))],[],[]] [1,2,4] 3 (fun(v3:Int64)=>⟨22,[(1,(.ptr 0 0)),(2,(.ptr 1 0)),(4,(.ptr 2 0))],[.cells (b4 v1).cells, .cells fx, .cells [(aH v3),(aH (1:Int64))]]⟩) (Cf N v1) ?_ ?_
  ·intro f1 aO;refine bc hF (fun h5 hF=> ?_) fun h5 hF=> ?_
   ·obtain⟨v5,h6,hF⟩:=ao hF;exact bM af aO v5 [[(0,bT h5)],[(4,cL (Cm N v1 v5 h6))]] hF
   exact bM af aO (1:Int64) [[(0,bF h5)]] hF
  intro v3 hF;rw[Cf]at hF;obtain⟨v4,h3,hF⟩:=ao hF;refine au af [[(7,cL (oV N v1 (⟨v3,(1:Int64)⟩:ay) v4 h3))]] ?_;refine bc hF (fun h4 hF=> ?_) fun h4 hF=> ?_
  ·cases hF;exact wr af [[(0,bF (not_t h4))],[]]
  cases hF;exact wr af [[(0,bT (bS h4))],[]]
 cases hF;exact wr af [[(0,bT (bS h2))],[]]
def qj(N:Nat)(v1:an):akd Bool:=
 bif (v1.ar !=(1:Int))then
  some false
 else
  Option.bind (wz N v1.aC) fun v2=>
  Option.bind (bif (v2.2==(0:Int))then some ((v1.ba.xN.toInt==v2.1.xN.toInt)&&((v1.ba.xD.toInt==v2.1.xD.toInt)&&true))else some false) fun v3=>
  some v3
theorem SG(N:Nat)(v1:an)(r:Bool)(hF:qj N v1=some r):aG Tryz.prog 206 [(aA v1)] (·=(aB r)):=by
 rw[qj]at hF;refine aP Tryz.func206 ?_;refine au af [[],[]] ?_;refine bc hF (fun h1 hF=> ?_) fun h1 hF=> ?_
 ·cases hF;exact wr af [[(0,bT h1)],[]]
 obtain⟨v2,h2,hF⟩:=ao hF;refine au af [[(0,bF h1)],[(7,cL (RK N v1.aC v2 h2))]] ?_;obtain⟨v3,h4,hF⟩:=ao hF;refine bf af [(2,(aB v3))] [.cells (aA v1).cells, .cells (bj v2.1).cells] ?_ ?_
 ·refine bc h4 (fun h3 h4=> ?_) fun h3 h4=> ?_
  ·cases h4;exact⟨[(2,bT h3)],[],by kernel_rfl⟩
  cases h4;exact⟨[(2,bF h3)],[],by kernel_rfl⟩
 cases hF;exact wr af []
def BM(N:Nat)(v1:an):akd (an×Bool):=
 Option.bind (bif (v1.ar !=(6:Int))then some (v1.ar !=(7:Int))else some false) fun v2=>
 bif v2 then
  some (v1,false)
 else
  Option.bind (v1.ax[1]?) fun v3=>
  Option.bind (qj N v3) fun v4=>
  bif v4 then
   Option.bind (v1.ax[0]?) fun v5=>
   some (v5,true)
  else
   Option.bind (bif (v1.ar==(6:Int))then Option.bind (v1.ax[0]?) fun v6=>
   Option.bind (qj N v6) fun v7=>
   some v7 else some false) fun v8=>
   some (v3,v8)
theorem abG(N:Nat)(v1:an)(r:an×Bool)(hF:BM N v1=some r):aG Tryz.prog 131 [(aA v1)] (·=(.bk [(aA r.1),(aB r.2)])):=by
 rw[BM]at hF;refine aP Tryz.func131 ?_;refine au af [[]] ?_;obtain⟨v2,h2,hF⟩:=ao hF;refine bf af [(11,(aB v2))] [.cells (aA v1).cells, .cells ep] ?_ ?_
 ·refine bc h2 (fun h1 h2=> ?_) fun h1 h2=> ?_
  ·cases h2;exact⟨[(3,bT h1)],[],by kernel_rfl⟩
  cases h2;exact⟨[(3,bF h1)],[],by kernel_rfl⟩
 refine bc hF (fun h3 hF=> ?_) fun h3 hF=> ?_
 ·cases hF;exact wr af [[(0,bT h3)],[]]
 obtain⟨v3,h4,hF⟩:=ao hF;obtain⟨v4,h5,hF⟩:=ao hF;refine au af [[(0,bF h3)],[(7,oE (k:=1) (bq h4)),(13,cL (SG N v3 v4 h5))]] ?_;refine bc hF (fun h6 hF=> ?_) fun h6 hF=> ?_
 ·obtain⟨v5,h7,hF⟩:=ao hF;cases hF;exact wr af [[(0,bT h6)],[(7,oE (k:=0) (bq h7))]]
 refine au af [[(0,bF h6)]] ?_;obtain⟨v8,aE,hF⟩:=ao hF;refine bf af [(3,(aB v8))] [.cells (aA v1).cells, .cells (aA v3).cells] ?_ ?_
 ·refine bc aE (fun h8 aE=> ?_) fun h8 aE=> ?_
  ·obtain⟨v6,h9,aE⟩:=ao aE;obtain⟨v7,az,aE⟩:=ao aE;obtain rfl:=sj aE;exact⟨[(7,bT h8)],[(7,oE (k:=1) (bq h4)),(31,oE (k:=0) (bq h9)),(37,cL (SG N v6 v7 az))],by kernel_rfl⟩
  cases aE;exact⟨[(7,bF h8)],[(7,oE (k:=1) (bq h4))],by kernel_rfl⟩
 cases hF;exact wr af []
def B8(N:Nat)(v1:an)(v2:et):akd (an×Bool):=
 Option.bind (bif v2.w5 then(bif (v1.ar !=(5:Int))then(bif (v1.ar !=(7:Int))then some true else Option.bind (v1.ax[0]?) fun v3=>
 Option.bind (v1.ax[1]?) fun v4=>
 Option.bind (jB N v3 v4) fun v5=>
 some (!v5))else Option.bind (v1.ax[0]?) fun v6=>
 Option.bind (v1.ax[1]?) fun v7=>
 Option.bind (jB N v6 v7) fun v8=>
 some (!v8))else some true) fun v9=>
 bif v9 then
  some (v1,false)
 else
  bif (v1.ar==(5:Int))then
   Option.bind (w6 N v2.xT) fun v10=>
   Option.bind (nx N v2.xT v10) fun v11=>
   some (v11,true)
  else
   Option.bind (wz N v2.xT) fun v12=>
   Option.bind (nx N v2.xT v12.1) fun aZ=>
   Option.bind (bif (v2.xT.a8 !=(2:Int))then some (v12.2==(0:Int))else some false) fun bu=>
   some (aZ,bu)
theorem Xt(N:Nat)(v1:an)(v2:et)(r:an×Bool)(hF:B8 N v1 v2=some r):aG Tryz.prog 132 [(aA v1),(fW v2)] (·=(.bk [(aA r.1),(aB r.2)])):=by
 rw[B8]at hF;refine aP Tryz.func132 ?_;refine au af [[]] ?_;obtain⟨v9,az,hF⟩:=ao hF;refine bf af [(32,(aB v9))] [.cells (aA v1).cells, .cells (fW v2).cells, .cells ep] ?_ ?_
 ·refine bc az (fun h1 az=> ?_) fun h1 az=> ?_
  ·refine bc az (fun h2 az=> ?_) fun h2 az=> ?_
   ·refine bc az (fun h3 az=> ?_) fun h3 az=> ?_
    ·cases az;exact⟨[(3,bF (not_t h1)),(7,bT h2),(13,bT h3)],[(34,bT h2)],by kernel_rfl⟩
    obtain⟨v3,h4,az⟩:=ao az;obtain⟨v4,h5,az⟩:=ao az;obtain⟨v5,h6,az⟩:=ao az;cases az;exact⟨[(3,bF (not_t h1)),(7,bT h2),(13,bF h3)],[(34,bT h2),(49,oE (k:=0) (bq h4)),(61,oE (k:=1) (bq h5)),(67,cL (fe N v3 v4 v5 h6))],by kernel_rfl⟩
   obtain⟨v6,h7,az⟩:=ao az;obtain⟨v7,h8,az⟩:=ao az;obtain⟨v8,h9,az⟩:=ao az;cases az;exact⟨[(3,bF (not_t h1)),(7,bF h2),(13,bF rfl)],[(34,bF h2),(49,oE (k:=0) (bq h7)),(61,oE (k:=1) (bq h8)),(67,cL (fe N v6 v7 v8 h9))],by kernel_rfl⟩
  cases az;exact⟨[(3,bT (bS h1)),(7,uN),(13,bT rfl)],[],by kernel_rfl⟩
 refine bc hF (fun aE hF=> ?_) fun aE hF=> ?_
 ·cases hF;exact wr af [[(0,bT aE)],[]]
 refine au af [[(0,bF aE)],[]] ?_;refine bc hF (fun aN hF=> ?_) fun aN hF=> ?_
 ·obtain⟨v10,aY,hF⟩:=ao hF;obtain⟨v11,aJ,hF⟩:=ao hF;cases hF;exact wr af [[(0,bT aN)],[(13,cL (Uo N v2.xT v10 aY)),(16,cL (p8 N v2.xT v10 v11 aJ))]]
 obtain⟨v12,bt,hF⟩:=ao hF;refine au af [[(0,bF aN)],[(7,cL (RK N v2.xT v12 bt))]] ?_;obtain⟨aZ,aM,hF⟩:=ao hF;obtain⟨bu,a7,hF⟩:=ao hF;refine bf af [(5,(aB bu))] [.cells (aA v1).cells, .cells (fW v2).cells, .cells (aA aZ).cells, .cells (bj v12.1).cells] ?_ ?_
 ·refine bc a7 (fun bp a7=> ?_) fun bp a7=> ?_
  ·cases a7;exact⟨[(8,bT bp)],[(10,cL (p8 N v2.xT v12.1 aZ aM))],by kernel_rfl⟩
  cases a7;exact⟨[(8,bF bp)],[(10,cL (p8 N v2.xT v12.1 aZ aM))],by kernel_rfl⟩
 cases hF;exact wr af []
def uY(N:Nat)(v1:Int)(v2:an)(v3:an):akd an:=
 some (⟨v1,(bs []),bg,b8,zLin,[],[v2,v3]⟩:an)
theorem BF(N:Nat)(v1:Int)(v2:an)(v3:an)(r:an)(hF:uY N v1 v2 v3=some r):aG Tryz.prog 209 [(aw v1),(aA v2),(aA v3)] (·=(aA r)):=by
 rw[uY]at hF;refine aP Tryz.func209 ?_;cases hF;exact wr af [[],[(11,⟨_,_, .eq (congrArg AV.full (eR [v2,v3]).symm)⟩)]]
def Be(N:Nat)(v1:an)(v2:et):akd (an×Bool):=
 Option.bind (bif v2.w5 then(bif (v2.xT.a8==(2:Int))then some (v2.xT.bI !=(2:Int))else some false)else some true) fun v3=>
 bif v3 then
  some (v1,false)
 else
  Option.bind (bif (v1.ar==(8:Int))then Option.bind (v1.ax[0]?) fun v4=>
  some (v4.ar==(8:Int))else some false) fun v5=>
  bif v5 then
   Option.bind (v1.ax[0]?) fun v6=>
   Option.bind (v6.ax[0]?) fun v7=>
   some (v7,true)
  else
   Option.bind (bif (v1.ar !=(4:Int))then some (v1.ar !=(5:Int))else some false) fun v8=>
   bif v8 then
    some (v1,false)
   else
    Option.bind (v1.ax[0]?) fun v9=>
    Option.bind (v1.ax[1]?) fun v10=>
    Option.bind (bif (v10.ar==(8:Int))then some (v1.ar==(4:Int))else some false) fun v11=>
    bif v11 then
     Option.bind (v10.ax[0]?) fun v12=>
     Option.bind (uY N (5:Int) v9 v12) fun aZ=>
     some (aZ,true)
    else
     Option.bind (bif (v9.ar==(8:Int))then some (v1.ar==(4:Int))else some false) fun bu=>
     bif bu then
      Option.bind (v9.ax[0]?) fun bQ=>
      Option.bind (uY N (5:Int) v10 bQ) fun de=>
      some (de,true)
     else
      bif (v10.ar==(8:Int))then
       Option.bind (v10.ax[0]?) fun bW=>
       Option.bind (uY N (4:Int) v9 bW) fun bx=>
       some (bx,true)
      else
       some (v1,false)
def yp(v1:an)(v2:et)(l:akb aq):akb aq:= .cells (aA v1).cells:: .cells (fW v2).cells:: .cells ep::l
theorem Yl(N:Nat)(v1:an)(v2:et)(r:an×Bool)(hF:Be N v1 v2=some r):aG Tryz.prog 133 [(aA v1),(fW v2)] (·=(.bk [(aA r.1),(aB r.2)])):=by
 rw[Be]at hF;refine aP Tryz.func133 ?_;refine au af [[]] ?_;obtain⟨v3,h3,hF⟩:=ao hF;refine bf af [(22,(aB v3))] (yp v1 v2 []) ?_ ?_
 ·refine bc h3 (fun h1 h3=> ?_) fun h1 h3=> ?_
  ·refine bc h3 (fun h2 h3=> ?_) fun h2 h3=> ?_
   ·cases h3;exact⟨[(3,bF (not_t h1)),(8,bT h2)],[(40,bT h2)],by kernel_rfl⟩
   cases h3;exact⟨[(3,bF (not_t h1)),(8,bF h2)],[(40,bF h2)],by kernel_rfl⟩
  cases h3;exact⟨[(3,bT (bS h1)),(8,uN)],[],by kernel_rfl⟩
 refine bc hF (fun h4 hF=> ?_) fun h4 hF=> ?_
 ·cases hF;exact wr af [[(0,bT h4)],[]]
 refine au af [[(0,bF h4)]] ?_;obtain⟨v5,h7,hF⟩:=ao hF;refine bf af [(34,(aB v5))] (yp v1 v2 []) ?_ ?_
 ·refine bc h7 (fun h5 h7=> ?_) fun h5 h7=> ?_
  ·obtain⟨v4,h6,h7⟩:=ao h7;cases h7;exact⟨[(3,bT h5)],[(19,oE (k:=0) (bq h6))],by kernel_rfl⟩
  cases h7;exact⟨[(3,bF h5)],[],by kernel_rfl⟩
 refine bc hF (fun h8 hF=> ?_) fun h8 hF=> ?_
 ·obtain⟨v6,h9,hF⟩:=ao hF;obtain⟨v7,az,hF⟩:=ao hF;cases hF;exact wr af [[(0,bT h8)],[(7,oE (k:=0) (bq h9)),(16,oE (k:=0) (bq az))]]
 refine au af [[(0,bF h8)]] ?_;obtain⟨v8,aN,hF⟩:=ao hF;refine bf af [(49,(aB v8))] (yp v1 v2 []) ?_ ?_
 ·refine bc aN (fun aE aN=> ?_) fun aE aN=> ?_
  ·cases aN;exact⟨[(3,bT aE)],[],by kernel_rfl⟩
  cases aN;exact⟨[(3,bF aE)],[],by kernel_rfl⟩
 refine bc hF (fun aY hF=> ?_) fun aY hF=> ?_
 ·cases hF;exact wr af [[(0,bT aY)],[]]
 refine au af [[(0,bF aY)]] ?_;obtain⟨v9,aJ,hF⟩:=ao hF;obtain⟨v10,bt,hF⟩:=ao hF;refine mo 20 af [(6,(.ptr 3 0)),(7,(.ptr 4 0))] (yp v1 v2 [.cells (aA v9).cells, .cells (aA v10).cells]) ⟨[(7,oE (k:=0) (bq aJ)),(19,oE (k:=1) (bq bt))],by kernel_rfl⟩ ?_;obtain⟨v11,bp,hF⟩:=ao hF;refine bf af [(66,(aB v11))] (yp v1 v2 [.cells (aA v9).cells, .cells (aA v10).cells]) ?_ ?_
 ·refine bc bp (fun aM bp=> ?_) fun aM bp=> ?_
  ·cases bp;exact⟨[(3,bT aM)],[],by kernel_rfl⟩
  cases bp;exact⟨[(3,bF aM)],[],by kernel_rfl⟩
 refine bc hF (fun a7 hF=> ?_) fun a7 hF=> ?_
 ·obtain⟨v12,bR,hF⟩:=ao hF;obtain⟨aZ,b5,hF⟩:=ao hF;cases hF;exact wr af [[(0,bT a7)],[(10,oE (k:=0) (bq bR)),(16,cL (BF N (5:Int) v9 v12 aZ b5))]]
 refine au af [[(0,bF a7)]] ?_;obtain⟨bu,bw,hF⟩:=ao hF;refine bf af [(80,(aB bu))] (yp v1 v2 [.cells (aA v9).cells, .cells (aA v10).cells]) ?_ ?_
 ·refine bc bw (fun ck bw=> ?_) fun ck bw=> ?_
  ·cases bw;exact⟨[(3,bT ck)],[],by kernel_rfl⟩
  cases bw;exact⟨[(3,bF ck)],[],by kernel_rfl⟩
 refine bc hF (fun cP hF=> ?_) fun cP hF=> ?_
 ·obtain⟨bQ,cC,hF⟩:=ao hF;obtain⟨de,eI,hF⟩:=ao hF;cases hF;exact wr af [[(0,bT cP)],[(10,oE (k:=0) (bq cC)),(16,cL (BF N (5:Int) v10 bQ de eI))]]
 refine au af [[(0,bF cP)],[]] ?_;refine bc hF (fun eY hF=> ?_) fun eY hF=> ?_
 ·obtain⟨bW,gd,hF⟩:=ao hF;obtain⟨bx,gX,hF⟩:=ao hF;cases hF;exact wr af [[(0,bT eY)],[(10,oE (k:=0) (bq gd)),(16,cL (BF N (4:Int) v9 bW bx gX))]]
 cases hF;exact wr af [[(0,bF eY)],[]]
def Bx(N:Nat)(v1:an):akd (an×Bool):=
 Option.bind (bif (v1.ar==(11:Int))then Option.bind (v1.ax[0]?) fun v2=>
 some (v2.ar==(18:Int))else some false) fun v3=>
 bif v3 then
  Option.bind (v1.ax[0]?) fun v4=>
  Option.bind (v4.ax[0]?) fun v5=>
  Option.bind (v1.ax[2]?) fun v6=>
  Option.bind (v1.ax[1]?) fun v7=>
  some ((⟨(11:Int),(bs []),bg,b8,zLin,[],[v5,v6,v7]⟩:an),true)
 else
  bif (v1.ar !=(18:Int))then
   some (v1,false)
  else
   Option.bind (v1.ax[0]?) fun v8=>
   bif (v8.ar==(18:Int))then
    Option.bind (v8.ax[0]?) fun v9=>
    some (v9,true)
   else
    bif (v8.ar==(13:Int))then
     Option.bind (v8.ax[1]?) fun v10=>
     Option.bind (v8.ax[0]?) fun v11=>
     Option.bind (uY N (14:Int) v10 v11) fun v12=>
     some (v12,true)
    else
     bif (v8.ar==(14:Int))then
      Option.bind (v8.ax[1]?) fun aZ=>
      Option.bind (v8.ax[0]?) fun bu=>
      Option.bind (uY N (13:Int) aZ bu) fun bQ=>
      some (bQ,true)
     else
      some (v1,false)
theorem Yp(N:Nat)(v1:an)(r:an×Bool)(hF:Bx N v1=some r):aG Tryz.prog 134 [(aA v1)] (·=(.bk [(aA r.1),(aB r.2)])):=by
 rw[Bx]at hF;refine aP Tryz.func134 ?_;refine au af [[]] ?_;obtain⟨v3,h3,hF⟩:=ao hF;refine bf af [(15,(aB v3))] [.cells (aA v1).cells, .cells ep] ?_ ?_
 ·refine bc h3 (fun h1 h3=> ?_) fun h1 h3=> ?_
  ·obtain⟨v2,h2,h3⟩:=ao h3;cases h3;exact⟨[(3,bT h1)],[(19,oE (k:=0) (bq h2))],by kernel_rfl⟩
  cases h3;exact⟨[(3,bF h1)],[],by kernel_rfl⟩
 refine bc hF (fun h4 hF=> ?_) fun h4 hF=> ?_
 ·obtain⟨v4,h5,hF⟩:=ao hF;obtain⟨v5,h6,hF⟩:=ao hF;obtain⟨v6,h7,hF⟩:=ao hF;obtain⟨v7,h8,hF⟩:=ao hF;cases hF;exact wr af [[(0,bT h4)],[(7,oE (k:=0) (bq h5)),(16,oE (k:=0) (bq h6)),(28,oE (k:=2) (bq h7)),(40,oE (k:=1) (bq h8)),(47,⟨_,_, .eq (congrArg AV.full (eR [v5,v6,v7]).symm)⟩)]]
 refine au af [[(0,bF h4)],[]] ?_;refine bc hF (fun h9 hF=> ?_) fun h9 hF=> ?_
 ·cases hF;exact wr af [[(0,bT h9)],[]]
 obtain⟨v8,az,hF⟩:=ao hF;refine au af [[(0,bF h9)],[(7,oE (k:=0) (bq az))],[],[]] ?_;refine bc hF (fun aE hF=> ?_) fun aE hF=> ?_
 ·obtain⟨v9,aN,hF⟩:=ao hF;cases hF;exact wr af [[(0,bT aE)],[(7,oE (k:=0) (bq aN))]]
 refine au af [[(0,bF aE)],[]] ?_;refine bc hF (fun aY hF=> ?_) fun aY hF=> ?_
 ·obtain⟨v10,aJ,hF⟩:=ao hF;obtain⟨v11,bt,hF⟩:=ao hF;obtain⟨v12,aM,hF⟩:=ao hF;cases hF;exact wr af [[(0,bT aY)],[(7,oE (k:=1) (bq aJ)),(19,oE (k:=0) (bq bt)),(25,cL (BF N (14:Int) v10 v11 v12 aM))]]
 refine au af [[(0,bF aY)],[]] ?_;refine bc hF (fun bp hF=> ?_) fun bp hF=> ?_
 ·obtain⟨aZ,a7,hF⟩:=ao hF;obtain⟨bu,bR,hF⟩:=ao hF;obtain⟨bQ,b5,hF⟩:=ao hF;cases hF;exact wr af [[(0,bT bp)],[(7,oE (k:=1) (bq a7)),(19,oE (k:=0) (bq bR)),(25,cL (BF N (13:Int) aZ bu bQ b5))]]
 cases hF;exact wr af [[(0,bF bp)],[]]
def D8(N:Nat)(v1:an):akd (an×Bool):=
 Option.bind (bif (v1.ar !=(16:Int))then some (v1.ar !=(17:Int))else some false) fun v2=>
 bif v2 then
  some (v1,false)
 else
  Option.bind (v1.ax[0]?) fun v3=>
  Option.bind (vw N v3) fun v4=>
  Option.bind (bif v4.2 then some (v4.1==(v1.ar==(16:Int)))else some false) fun v5=>
  bif v5 then
   Option.bind (v1.ax[1]?) fun v6=>
   some (v6,true)
  else
   Option.bind (v1.ax[1]?) fun v7=>
   Option.bind (vw N v7) fun v8=>
   Option.bind (bif v8.2 then some (v8.1==(v1.ar==(16:Int)))else some false) fun v9=>
   some (v3,v9)
def Vp(v1:an)(l:akb aq):akb aq:= .cells (aA v1).cells:: .cells ep::l
theorem aaL(N:Nat)(v1:an)(r:an×Bool)(hF:D8 N v1=some r):aG Tryz.prog 135 [(aA v1)] (·=(.bk [(aA r.1),(aB r.2)])):=by
 rw[D8]at hF;refine aP Tryz.func135 ?_;refine au af [[]] ?_;obtain⟨v2,h2,hF⟩:=ao hF;refine bf af [(15,(aB v2))] (Vp v1 []) ?_ ?_
 ·refine bc h2 (fun h1 h2=> ?_) fun h1 h2=> ?_
  ·cases h2;exact⟨[(3,bT h1)],[],by kernel_rfl⟩
  cases h2;exact⟨[(3,bF h1)],[],by kernel_rfl⟩
 refine bc hF (fun h3 hF=> ?_) fun h3 hF=> ?_
 ·cases hF;exact wr af [[(0,bT h3)],[]]
 obtain⟨v3,h4,hF⟩:=ao hF;obtain⟨v4,h5,hF⟩:=ao hF;refine au af [[(0,bF h3)],[(7,oE (k:=0) (bq h4)),(13,cL (ON N v3 v4 h5))]] ?_;obtain⟨v5,h7,hF⟩:=ao hF;refine bf af [(32,(aB v5))] (Vp v1 []) ?_ ?_
 ·refine bc h7 (fun h6 h7=> ?_) fun h6 h7=> ?_
  ·cases h7;exact⟨[(1,bT h6)],[],by kernel_rfl⟩
  cases h7;exact⟨[(1,bF h6)],[],by kernel_rfl⟩
 refine bc hF (fun h8 hF=> ?_) fun h8 hF=> ?_
 ·obtain⟨v6,h9,hF⟩:=ao hF;cases hF;exact wr af [[(0,bT h8)],[(7,oE (k:=1) (bq h9))]]
 obtain⟨v7,az,hF⟩:=ao hF;obtain⟨v8,aE,hF⟩:=ao hF;refine au af [[(0,bF h8)],[(7,oE (k:=1) (bq az)),(13,cL (ON N v7 v8 aE))]] ?_;obtain⟨v9,aY,hF⟩:=ao hF;refine JL 2 af [(3,(aB v9))] [.cells (aA v1).cells, .cells (aA v3).cells] ?_ ?_
 ·refine bc aY (fun aN aY=> ?_) fun aN aY=> ?_
  ·cases aY;exact⟨[(5,bT aN)],[(7,oE (k:=0) (bq h4))],by kernel_rfl⟩
  cases aY;exact⟨[(5,bF aN)],[(7,oE (k:=0) (bq h4))],by kernel_rfl⟩
 cases hF;exact wr af []
def HA(N:Nat)(v1:an)(v2:et):akd (an×akc×Bool):=
 Option.bind (Cs N v1) fun v3=>
 bif v3.2 then
  some (v3.1,(bs [102,111,108,100]),true)
 else
  Option.bind (CR N v1) fun v4=>
  bif v4.2 then
   some (v4.1,(bs [99,97,115,116]),true)
  else
   Option.bind (Ba N v1) fun v5=>
   bif v5.2 then
    some (v5.1,(bs [105,110,100,101,120]),true)
   else
    Option.bind (Bd N v1) fun v6=>
    bif v6.2 then
     some (v6.1,(bs [105,102]),true)
    else
     Option.bind (C5 N v1) fun v7=>
     bif v7.2 then
      some (v7.1,(bs [115,97,109,101]),true)
     else
      Option.bind (Bw N v1) fun v8=>
      bif v8.2 then
       some (v8.1,(bs [122,101,114,111]),true)
      else
       Option.bind (BM N v1) fun v9=>
       bif v9.2 then
        some (v9.1,(bs [111,110,101]),true)
       else
        Option.bind (B8 N v1 v2) fun v10=>
        bif v10.2 then
         some (v10.1,(bs [99,97,110,99,101,108]),true)
        else
         Option.bind (Be N v1 v2) fun v11=>
         bif v11.2 then
          some (v11.1,(bs [110,101,103,97,116,101]),true)
         else
          Option.bind (Bx N v1) fun v12=>
          bif v12.2 then
           some (v12.1,(bs [110,111,116]),true)
          else
           Option.bind (D8 N v1) fun aZ=>
           bif aZ.2 then
            some (aZ.1,(bs [108,111,103,105,99]),true)
           else
            some (v1,(bs []),false)
theorem YX(N:Nat)(v1:an)(v2:et)(r:an×akc×Bool)(hF:HA N v1 v2=some r):aG Tryz.prog 61 [(aA v1),(fW v2)] (·=(.bk [(aA r.1),(aR r.2.1),(aB r.2.2)])):=by
 rw[HA]at hF;refine aP Tryz.func61 ?_;obtain⟨v3,h1,hF⟩:=ao hF;refine au af [[],[(4,cL (Xf N v1 v3 h1))],[]] ?_;refine bc hF (fun h2 hF=> ?_) fun h2 hF=> ?_
 ·cases hF;exact wr af [[(0,bT h2)],[]]
 obtain⟨v4,h3,hF⟩:=ao hF;refine au af [[(0,bF h2)],[(4,cL (acU N v1 v4 h3))],[]] ?_;refine bc hF (fun h4 hF=> ?_) fun h4 hF=> ?_
 ·cases hF;exact wr af [[(0,bT h4)],[]]
 obtain⟨v5,h5,hF⟩:=ao hF;refine au af [[(0,bF h4)],[(4,cL (aem N v1 v5 h5))],[]] ?_;refine bc hF (fun h6 hF=> ?_) fun h6 hF=> ?_
 ·cases hF;exact wr af [[(0,bT h6)],[]]
 obtain⟨v6,h7,hF⟩:=ao hF;refine au af [[(0,bF h6)],[(4,cL (XQ N v1 v6 h7))],[]] ?_;refine bc hF (fun h8 hF=> ?_) fun h8 hF=> ?_
 ·cases hF;exact wr af [[(0,bT h8)],[]]
 obtain⟨v7,h9,hF⟩:=ao hF;refine au af [[(0,bF h8)],[(4,cL (ae2 N v1 v7 h9))],[]] ?_;refine bc hF (fun az hF=> ?_) fun az hF=> ?_
 ·cases hF;exact wr af [[(0,bT az)],[]]
 obtain⟨v8,aE,hF⟩:=ao hF;refine au af [[(0,bF az)],[(4,cL (adk N v1 v8 aE))],[]] ?_;refine bc hF (fun aN hF=> ?_) fun aN hF=> ?_
 ·cases hF;exact wr af [[(0,bT aN)],[]]
 obtain⟨v9,aY,hF⟩:=ao hF;refine au af [[(0,bF aN)],[(4,cL (abG N v1 v9 aY))],[]] ?_;refine bc hF (fun aJ hF=> ?_) fun aJ hF=> ?_
 ·cases hF;exact wr af [[(0,bT aJ)],[]]
 obtain⟨v10,bt,hF⟩:=ao hF;refine au af [[(0,bF aJ)],[(7,cL (Xt N v1 v2 v10 bt))],[]] ?_;refine bc hF (fun aM hF=> ?_) fun aM hF=> ?_
 ·cases hF;exact wr af [[(0,bT aM)],[]]
 obtain⟨v11,bp,hF⟩:=ao hF;refine au af [[(0,bF aM)],[(7,cL (Yl N v1 v2 v11 bp))],[]] ?_;refine bc hF (fun a7 hF=> ?_) fun a7 hF=> ?_
 ·cases hF;exact wr af [[(0,bT a7)],[]]
 obtain⟨v12,bR,hF⟩:=ao hF;refine au af [[(0,bF a7)],[(4,cL (Yp N v1 v12 bR))],[]] ?_;refine bc hF (fun b5 hF=> ?_) fun b5 hF=> ?_
 ·cases hF;exact wr af [[(0,bT b5)],[]]
 obtain⟨aZ,ck,hF⟩:=ao hF;refine au af [[(0,bF b5)],[(4,cL (aaL N v1 aZ ck))],[]] ?_;refine bc hF (fun bw hF=> ?_) fun bw hF=> ?_
 ·cases hF;exact wr af [[(0,bT bw)],[]]
 cases hF;exact wr af [[(0,bF bw)],[]]
def Ic(N:Nat)(v1:an)(v2:Int)(v3:et):akd et:=
 Option.bind (bif (decide (v1.ar≥(4:Int)))then(bif (decide (v1.ar≤(10:Int)))then some true else(bif (v1.ar==(11:Int))then some (decide (v2>(0:Int)))else some false))else(bif (v1.ar==(11:Int))then some (decide (v2>(0:Int)))else some false)) fun v4=>
 bif v4 then
  some v3
 else
  Option.bind (bif (decide (v1.ar≥(13:Int)))then some (decide (v1.ar≤(15:Int)))else some false) fun v5=>
  bif v5 then
   Option.bind (v1.ax[0]?) fun v6=>
   Option.bind (v1.ax[1]?) fun v7=>
   Option.bind (BW N v6 v7) fun v8=>
   some v8
  else
   bif (v1.ar==(12:Int))then
    Option.bind (v1.ax[0]?) fun v9=>
    Option.bind (xY N v9) fun v10=>
    some v10
   else
    some Gd
theorem ae6(N:Nat)(v1:an)(v2:Int)(v3:et)(r:et)(hF:Ic N v1 v2 v3=some r):aG Tryz.prog 62 [(aA v1),(aw v2),(fW v3)] (·=(fW r)):=by
 rw[Ic]at hF;refine aP Tryz.func62 ?_;refine au af [[]] ?_;obtain⟨v4,h5,hF⟩:=ao hF;refine bf af [(7,(aB v4))] [.cells (aA v1).cells, .cells (fW v3).cells, .cells qQ] ?_ ?_
 ·refine bc h5 (fun h1 h5=> ?_) fun h1 h5=> ?_
  ·refine bc h5 (fun h2 h5=> ?_) fun h2 h5=> ?_
   ·cases h5;exact⟨[(3,bT h1),(8,bT h2),(12,uN)],[],by kernel_rfl⟩
   refine bc h5 (fun h3 h5=> ?_) fun h3 h5=> ?_
   ·cases h5;exact⟨[(3,bT h1),(8,bF h2),(12,bT h3)],[(46,bT h3)],by kernel_rfl⟩
   cases h5;exact⟨[(3,bT h1),(8,bF h2),(12,bF h3)],[(46,bF h3)],by kernel_rfl⟩
  refine bc h5 (fun h4 h5=> ?_) fun h4 h5=> ?_
  ·cases h5;exact⟨[(3,bF h1),(8,bF rfl),(12,bT h4)],[(46,bT h4)],by kernel_rfl⟩
  cases h5;exact⟨[(3,bF h1),(8,bF rfl),(12,bF h4)],[(46,bF h4)],by kernel_rfl⟩
 refine bc hF (fun h6 hF=> ?_) fun h6 hF=> ?_
 ·cases hF;exact wr af [[(0,bT h6)],[]]
 refine au af [[(0,bF h6)]] ?_;obtain⟨v5,h8,hF⟩:=ao hF;refine bf af [(26,(aB v5))] [.cells (aA v1).cells, .cells (fW v3).cells, .cells qQ] ?_ ?_
 ·refine bc h8 (fun h7 h8=> ?_) fun h7 h8=> ?_
  ·cases h8;exact⟨[(3,bT h7)],[],by kernel_rfl⟩
  cases h8;exact⟨[(3,bF h7)],[],by kernel_rfl⟩
 refine bc hF (fun h9 hF=> ?_) fun h9 hF=> ?_
 ·obtain⟨v6,az,hF⟩:=ao hF;obtain⟨v7,aE,hF⟩:=ao hF;obtain⟨v8,aN,hF⟩:=ao hF;obtain rfl:=sj hF;exact wr af [[(0,bT h9)],[(7,oE (k:=0) (bq az)),(19,oE (k:=1) (bq aE)),(25,cL (afp N v6 v7 v8 aN))]]
 refine au af [[(0,bF h9)],[]] ?_;refine bc hF (fun aY hF=> ?_) fun aY hF=> ?_
 ·obtain⟨v9,aJ,hF⟩:=ao hF;obtain⟨v10,bt,hF⟩:=ao hF;obtain rfl:=sj hF;exact wr af [[(0,bT aY)],[(7,oE (k:=0) (bq aJ)),(13,cL (VW N v9 v10 bt))]]
 cases hF;exact wr af [[(0,bF aY)],[]]
def uv(N:Nat)(v1:an)(v2:et)(Wx:an→et→akd (an×akc×Bool)):akb an→Nat→akd (an×akc×Bool)
 |[],_=>
  some (v1,(bs []),false)
 |v6::v7,v4=>
  Option.bind (Ic N v1 (v4:Int) v2) fun v8=>
  Option.bind (Wx v6 v8) fun v9=>
  bif v9.2.2 then
   bif (Nat.ble (v1.ax.length*160) 140737488355328)then
   Option.bind (v1.ax[v4]?) fun v10=>
   bif (Nat.beq (v1.ax.set v4 v9.1).length v1.ax.length)then
   some ((⟨v1.ar,v1.aV,v1.ba,v1.aC,v1.aK,v1.xIdx,(v1.ax.set v4 v9.1)⟩:an),v9.2.1,true)
   else none
   else none
  else
   (uv N v1 v2 Wx v7 (v4+1))
def qN(N:Nat):Nat→an→et→akd (an×akc×Bool)
 |0,_,_=>none
 |d+1,v1,v2=>
  Option.bind (HA N v1 v2) fun v3=>
  bif v3.2.2 then
   some (v3.1,v3.2.1,true)
  else
   uv N v1 v2 (qN N d) v1.ax 0
def Mf(N:Nat)(v1:an)(v2:et):akd (an×akc×Bool):=qN N N v1 v2
theorem aek(N:Nat):∀d:Nat,(∀(v1:an)(v2:et)(r:an×akc×Bool),qN N d v1 v2=some r→aG Tryz.prog 31 [(aA v1),(fW v2)] (·=(.bk [(aA r.1),(aR r.2.1),(aB r.2.2)]))):=by
 intro d
 induction d with
 |zero=>intro v1 v2 r hF;rw[qN]at hF;cases hF
 |succ d ih=>
  have adr:=ih;intro v1 v2 r hF;rw[qN]at hF;refine aP Tryz.func31 ?_;obtain⟨v3,h1,hF⟩:=ao hF;refine au af [[],[(7,cL (YX N v1 v2 v3 h1))],[]] ?_;refine bc hF (fun h2 hF=> ?_) fun h2 hF=> ?_
  ·cases hF;exact wr af [[(0,bT h2)],[]]
  refine au af [[(0,bF h2)],[]] ?_;refine jZ kX 0 12 v1.ax fun h4=> ?_;refine rp af 1 [] [2,3,4,10] 4 [] [(2,10),(2,11),(2,12)] (fun((v4,v5):Nat×(akb an))=>⟨61,[(2,(.ptr 0 0)),(3,(.ptr 1 0)),(4,(.ptr 2 0)),(10,(aw (v4:Int)))],[.cells (aA v1).cells, .cells (fW v2).cells, .cells ep, .cells (aA v3.1).cells]⟩) (fun((v4,v5):Nat×(akb an))=>v1.ax.drop v4=v5∧uv N v1 v2 (qN N d) v5 v4=some r) (fun((v4,v5):Nat×(akb an))=>v5.length) (0,v1.ax) ⟨rfl,hF⟩ ?_;rintro⟨v4,v5⟩ ⟨h5,hF⟩ f1 aO;cases v5 with
  |nil=>
   rw[uv]at hF;cases hF;exact wr af [[(10,oL v1.ax dD)],[(0,bF (cJ h5))],[]]
  |cons v6 v7=>
   rw[uv]at hF;obtain⟨v8,h6,hF⟩:=ao hF;obtain⟨v9,h7,hF⟩:=ao hF;refine au af [[(10,oL v1.ax dD)],[(0,bT (cD h5))],[(10,oE (bq (cd h5))),(25,cL (ae6 N v1 (v4:Int) v2 v8 h6)),(28,cL (adr v6 v8 v9 h7))],[]] ?_;refine bc hF (fun h8 hF=> ?_) fun h8 hF=> ?_
   ·obtain⟨h9,hF⟩:=dn hF;obtain⟨v10,az,hF⟩:=ao hF;obtain⟨aE,hF⟩:=dn hF;refine au af [[(0,bT h8)],[],[(2,⟨_,_, .eq (congrArg AV.full (eR []).symm)⟩),(10,⟨_,_, .pr (.ap (bo (v1.ax.map cF)) (bo (v1.ax.map cF)) v1.ax.length v1.ax.length) (QA (f:=cF) (E:=v1.ax) (h:=[.cells (aA v1).cells, .cells (fW v2).cells, .cells ep, .cells (aA v3.1).cells, .cells (aA v9.1).cells, .cells (aA v1).cells]) (k:=13) (ct:=160) (y:=(.d (.sl (cq v1.ax)))) (by rw[←eR];exact Hd) (congrArg some (eR _)) (o0 h9 (by decide)).1 (o0 h9 (by decide)).2)⟩)],[(13,⟨_,_, .pr (.ix v4) (kZ (gK (f:=cF) rfl) (Int.natCast_nonneg _) (of_decide_eq_true (cD h5)) (ajO _))⟩),(16,⟨_,_, .pr (.st ((cF v10).map AV.d) (bo ((v1.ax.set v4 v9.1).map cF))) (vV (f:=cF) (j:=0) (y:=v9.1) (zs:=[(aw v9.1.ar),(aR v9.1.aV),(aH v9.1.ba.xN),(aH v9.1.ba.xD),(aw v9.1.aC.a8),(aw v9.1.aC.bz),(aw v9.1.aC.bE),(aw v9.1.aC.bK),(aw v9.1.aC.bI),(aH v9.1.aK.xK),(.d (.sl (bZ v9.1.aK.xL))),(.d (.sl (cl v9.1.xIdx))),(.d (.sl (cq v9.1.ax)))]) rfl az rfl)⟩)]] ?_;refine A9 [4,12,14] 6 (cq (v1.ax.set v4 v9.1)) v1.ax.length 1 32 13 [.iY ((v1.ax.set v4 v9.1).map cF)] (y9 (ajB aE)) (eR _) (xy (fun _=>rfl) _) ?_
    cases hF;exact wr af [[]]
   exact ot af aO (v4+1,v7) [[(0,bF h8)],[(5,oq (dh h5 rfl h4))]] ⟨ju h5,hF⟩
theorem afm(N:Nat)(v1:an)(v2:et)(r:an×akc×Bool)(hF:Mf N v1 v2=some r):aG Tryz.prog 31 [(aA v1),(fW v2)] (·=(.bk [(aA r.1),(aR r.2.1),(aB r.2.2)])):=(aek N N) v1 v2 r hF
def DN(N:Nat)(v1:aD)(v2:an):akd (an×akc×Bool):=
 Option.bind (lB N v1) fun v3=>
 Option.bind (bif v3 then Option.bind (DP N v2) fun v4=>
 some (v4 !=(0:Int))else some true) fun v5=>
 bif v5 then
  some (v2,(bs []),false)
 else
  Option.bind (HT N v1 v2) fun v6=>
  Option.bind (Mf N v2 v6) fun v7=>
  some (v7.1,v7.2.1,v7.2.2)
theorem X3(N:Nat)(v1:aD)(v2:an)(r:an×akc×Bool)(hF:DN N v1 v2=some r):aG Tryz.prog 10 [(b4 v1),(aA v2)] (·=(.bk [(aA r.1),(aR r.2.1),(aB r.2.2)])):=by
 rw[DN]at hF;refine aP Tryz.func10 ?_;refine au af [[]] ?_;obtain⟨v3,h1,hF⟩:=ao hF;obtain⟨v5,h4,hF⟩:=ao hF;refine bf af [(14,(aB v5))] [.cells (b4 v1).cells, .cells (aA v2).cells, .cells ep] ?_ ?_
 ·refine bc h4 (fun h2 h4=> ?_) fun h2 h4=> ?_
  ·obtain⟨v4,h3,h4⟩:=ao h4;cases h4;exact⟨[(3,bF (not_t h2))],[(4,cL (mL N v1 v3 h1)),(16,cL (aio N v2 v4 h3))],by kernel_rfl⟩
  cases h4;exact⟨[(3,bT (bS h2))],[(4,cL (mL N v1 v3 h1))],by kernel_rfl⟩
 refine bc hF (fun h5 hF=> ?_) fun h5 hF=> ?_
 ·cases hF;exact wr af [[(0,bT h5)],[]]
 obtain⟨v6,h6,hF⟩:=ao hF;obtain⟨v7,h7,hF⟩:=ao hF;cases hF;exact wr af [[(0,bF h5)],[(10,cL (agY N v1 v2 v6 h6)),(13,cL (afm N v2 v6 v7 h7))]]
def H7(N:Nat)(v1:aD)(v2:an):akd Bool:=
 Option.bind (Oh N v2 (300:Int)) fun v3=>
 bif (decide (v3>(300:Int)))then
  Option.bind (zP N) fun v4=>
  some v4
 else
  Option.bind (vZ N v1 v2) fun v5=>
  Option.bind (DN N v1 v2) fun v6=>
  Option.bind (jB N v5.1 v6.1) fun v7=>
  Option.bind (bif v7 then(bif (bL v5.2.1==bL v6.2.1)then(bif (v5.2.2==v6.2.2)then Option.bind (zP N) fun v8=>
  some v8 else some false)else some false)else some false) fun v9=>
  some v9
theorem aat(N:Nat)(v1:aD)(v2:an)(r:Bool)(hF:H7 N v1 v2=some r):aG Tryz.prog 3 [(b4 v1),(aA v2)] (·=(aB r)):=by
 rw[H7]at hF;refine aP Tryz.func3 ?_;obtain⟨v3,h1,hF⟩:=ao hF;refine au af [[],[(4,cL (XX N v2 (300:Int) v3 h1))]] ?_;refine bc hF (fun h2 hF=> ?_) fun h2 hF=> ?_
 ·obtain⟨v4,h3,hF⟩:=ao hF;obtain rfl:=sj hF;exact wr af [[(0,bT h2)],[(1,cL (RL N v4 h3))]]
 obtain⟨v5,h4,hF⟩:=ao hF;obtain⟨v6,h5,hF⟩:=ao hF;refine au af [[(0,bF h2)],[(7,cL (Lk N v1 v2 v5 h4))],[(7,cL (X3 N v1 v2 v6 h5))]] ?_;obtain⟨v7,h6,hF⟩:=ao hF;obtain⟨v9,aE,hF⟩:=ao hF;refine bf af [(4,(aB v9))] [.cells (b4 v1).cells, .cells (aA v2).cells, .cells (aA v5.1).cells, .cells (aA v6.1).cells] ?_ ?_
 ·refine bc aE (fun h7 aE=> ?_) fun h7 aE=> ?_
  ·refine bc aE (fun h8 aE=> ?_) fun h8 aE=> ?_
   ·refine bc aE (fun h9 aE=> ?_) fun h9 aE=> ?_
    ·obtain⟨v8,az,aE⟩:=ao aE;obtain rfl:=sj aE;exact⟨[(3,bT h7),(8,bT h8),(13,bT h9)],[(7,cL (fe N v5.1 v6.1 v7 h6)),(43,cL (RL N v8 az))],by kernel_rfl⟩
    cases aE;exact⟨[(3,bT h7),(8,bT h8),(13,bF h9)],[(7,cL (fe N v5.1 v6.1 v7 h6))],by kernel_rfl⟩
   cases aE;exact⟨[(3,bT h7),(8,bF h8),(13,bF rfl)],[(7,cL (fe N v5.1 v6.1 v7 h6))],by kernel_rfl⟩
  cases aE;exact⟨[(3,bF h7),(8,bF rfl),(13,bF rfl)],[(7,cL (fe N v5.1 v6.1 v7 h6))],by kernel_rfl⟩
 cases hF;exact wr af []
end Go.Proofs.YtpgmcallngdceaaGreatDoor
