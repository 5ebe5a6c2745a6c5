/-
  Part 13 of the proof: PQ4.
-/
import Derived.Test.YtpgmcallngdceaaGreatDoorSp12
namespace Go.Proofs.YtpgmcallngdceaaGreatDoor
open Go.RowKit
set_option maxRecDepth 100000
set_option maxHeartbeats 0
set_option linter.unusedVariables false
def JM(N:Nat)(v1:an)(zB:an→akd (Bool×Bool))(v7:Bool):akd (Bool×Bool):=
 bif v7 then
  Option.bind (v1.ax[0]?) fun v8=>
  Option.bind (zB v8) fun v9=>
  Option.bind (v1.ax[1]?) fun v10=>
  Option.bind (zB v10) fun v11=>
  Option.bind (bif v9.2 then(bif (v9.1==(v1.ar==(17:Int)))then some true else(bif v11.2 then some (v11.1==(v1.ar==(17:Int)))else some false))else(bif v11.2 then some (v11.1==(v1.ar==(17:Int)))else some false)) fun v12=>
  bif v12 then
   some ((v1.ar==(17:Int)),true)
  else
   Option.bind (bif (v1.ar==(17:Int))then(bif v9.2 then some (false,v11.2)else some (false,false))else(bif v9.2 then some (v11.2,v11.2)else some (false,false))) fun aZ=>
   some (aZ.1,aZ.2)
 else
  some (false,false)
def EY(N:Nat)(v1:an)(zB:an→akd (Bool×Bool))(v2:Bool):akd (Bool×Bool):=
 bif v2 then
  Option.bind (sA N v1) fun v3=>
  some (v3.1,v3.2)
 else
  bif (v1.ar==(18:Int))then
   Option.bind (v1.ax[0]?) fun v4=>
   Option.bind (zB v4) fun v5=>
   Option.bind (bif v5.2 then some (!v5.1)else some false) fun v6=>
   some (v6,v5.2)
  else
   bif (v1.ar==(16:Int))then
    JM N v1 zB (v1.ar==(16:Int))
   else
    JM N v1 zB (v1.ar==(17:Int))
def jA(N:Nat):Nat→an→akd (Bool×Bool)
 |0,_=>none
 |d+1,v1=>
  bif (v1.ar==(13:Int))then
   EY N v1 (jA N d) (v1.ar==(13:Int))
  else
   bif (v1.ar==(14:Int))then
    EY N v1 (jA N d) (v1.ar==(14:Int))
   else
    EY N v1 (jA N d) (v1.ar==(15:Int))
def uE(N:Nat)(v1:an):akd (Bool×Bool):=jA N N v1
def Cq(v1:an)(l:akb aq):akb aq:= .cells (aA v1).cells::l
theorem ZX(N:Nat):∀d:Nat,(∀(v1:an)(r:Bool×Bool),jA N d v1=some r→aG Tryz.prog 184 [(aA v1)] (·=(.bk [(aB r.1),(aB r.2)]))):=by
 intro d
 induction d with
 |zero=>intro v1 r hF;rw[jA]at hF;cases hF
 |succ d ih=>
  have Mh:=ih;intro v1 r hF;rw[jA]at hF;refine aP Tryz.func184 ?_;refine gN af r 1 [[],[],[]] [1,12,13] 1 (fun(v2:Bool)=>⟨86,[(1,(.ptr 0 0)),(12,(aw v1.ar)),(13,(aB v2))],(Cq v1 [])⟩) (EY N v1 (jA N d)) ?_ ?_
  ·intro f1 aO;refine bc hF (fun cC hF=> ?_) fun cC hF=> ?_
   ·exact bM af aO (v1.ar==(13:Int)) [[(0,bT cC)]] hF
   refine au af [[(0,bF cC)],[]] ?_;refine bc hF (fun eI hF=> ?_) fun eI hF=> ?_
   ·exact bM af aO (v1.ar==(14:Int)) [[(0,bT eI)]] hF
   exact bM af aO (v1.ar==(15:Int)) [[(0,bF eI)],[]] hF
  intro v2 hF;rw[EY]at hF;refine bc hF (fun h1 hF=> ?_) fun h1 hF=> ?_
  ·obtain⟨v3,h2,hF⟩:=ao hF;cases hF;exact wr af [[(0,bT h1)],[(4,cL (abO N v1 v3 h2))]]
  refine au af [[(0,bF h1)],[]] ?_;refine bc hF (fun h3 hF=> ?_) fun h3 hF=> ?_
  ·obtain⟨v4,h4,hF⟩:=ao hF;obtain⟨v5,h5,hF⟩:=ao hF;refine au af [[(0,bT h3)],[(7,oE (k:=0) (bq h4)),(13,cL (Mh v4 v5 h5))]] ?_;obtain⟨v6,h7,hF⟩:=ao hF;refine bf af [(2,(aB v6)),(3,(aB v5.2))] (Cq v1 []) ?_ ?_
   ·refine bc h7 (fun h6 h7=> ?_) fun h6 h7=> ?_
    ·cases h7;exact⟨[(1,bT h6)],[],by kernel_rfl⟩
    cases h7;exact⟨[(1,bF h6)],[],by kernel_rfl⟩
   cases hF;exact wr af []
  refine gN af r 2 [[(0,bF h3)],[]] [1,37] 1 (fun(v7:Bool)=>⟨86,[(1,(.ptr 0 0)),(37,(aB v7))],(Cq v1 [])⟩) (JM N v1 (jA N d)) ?_ ?_
  ·intro f2 eD;refine bc hF (fun cP hF=> ?_) fun cP hF=> ?_
   ·exact bM af eD (v1.ar==(16:Int)) [[(0,bT cP)]] hF
   exact bM af eD (v1.ar==(17:Int)) [[(0,bF cP)],[]] hF
  intro v7 hF;rw[JM]at hF;refine bc hF (fun h8 hF=> ?_) fun h8 hF=> ?_
  ·obtain⟨v8,h9,hF⟩:=ao hF;obtain⟨v9,az,hF⟩:=ao hF;obtain⟨v10,aE,hF⟩:=ao hF;obtain⟨v11,aN,hF⟩:=ao hF;refine au af [[(0,bT h8)],[(7,oE (k:=0) (bq h9)),(13,cL (Mh v8 v9 az))],[(7,oE (k:=1) (bq aE)),(13,cL (Mh v10 v11 aN))],[]] ?_;obtain⟨v12,bp,hF⟩:=ao hF;refine bf af [(72,(aB v12))] (Cq v1 []) ?_ ?_
   ·refine bc bp (fun aY bp=> ?_) fun aY bp=> ?_
    ·refine bc bp (fun aJ bp=> ?_) fun aJ bp=> ?_
     ·cases bp;exact⟨[(1,bT aY),(6,bT aJ),(8,uN)],[],by kernel_rfl⟩
     refine bc bp (fun bt bp=> ?_) fun bt bp=> ?_
     ·cases bp;exact⟨[(1,bT aY),(6,bF aJ),(8,bT bt)],[(37,bT bt)],by kernel_rfl⟩
     cases bp;exact⟨[(1,bT aY),(6,bF aJ),(8,bF bt)],[(37,bF bt)],by kernel_rfl⟩
    refine bc bp (fun aM bp=> ?_) fun aM bp=> ?_
    ·cases bp;exact⟨[(1,bF aY),(6,bF rfl),(8,bT aM)],[(37,bT aM)],by kernel_rfl⟩
    cases bp;exact⟨[(1,bF aY),(6,bF rfl),(8,bF aM)],[(37,bF aM)],by kernel_rfl⟩
   refine bc hF (fun a7 hF=> ?_) fun a7 hF=> ?_
   ·cases hF;exact wr af [[(0,bT a7)],[]]
   refine au af [[(0,bF a7)]] ?_;obtain⟨aZ,bw,hF⟩:=ao hF;refine bf af [(2,(aB aZ.1)),(3,(aB aZ.2))] (Cq v1 []) ?_ ?_
   ·refine bc bw (fun bR bw=> ?_) fun bR bw=> ?_
    ·refine bc bw (fun b5 bw=> ?_) fun b5 bw=> ?_
     ·cases bw;exact⟨[(2,bF (not_t bR)),(5,bF rfl),(9,bT b5)],[],by kernel_rfl⟩
     cases bw;exact⟨[(2,bF (not_t bR)),(5,bF rfl),(9,bF b5)],[],by kernel_rfl⟩
    refine bc bw (fun ck bw=> ?_) fun ck bw=> ?_
    ·cases bw;exact⟨[(2,bT (bS bR)),(5,bT ck),(9,bT ck)],[],by kernel_rfl⟩
    cases bw;exact⟨[(2,bT (bS bR)),(5,bF ck),(9,bF ck)],[],by kernel_rfl⟩
   cases hF;exact wr af []
  cases hF;exact wr af [[(0,bF h8)],[]]
theorem Kz(N:Nat)(v1:an)(r:Bool×Bool)(hF:uE N v1=some r):aG Tryz.prog 184 [(aA v1)] (·=(.bk [(aB r.1),(aB r.2)])):=(ZX N N) v1 r hF
def DW(N:Nat)(v1:cy):akd (an×Bool):=
 bif (v1.yE.ar !=(11:Int))then
  some (ef,false)
 else
  Option.bind (v1.yE.ax[0]?) fun v2=>
  Option.bind (uE N v2) fun v3=>
  bif v3.1 then
   Option.bind (v1.yE.ax[1]?) fun v4=>
   some (v4,v3.2)
  else
   Option.bind (v1.yE.ax[2]?) fun v5=>
   some (v5,v3.2)
theorem acq(N:Nat)(v1:cy)(r:an×Bool)(hF:DW N v1=some r):aG Tryz.prog 108 [(bH v1)] (·=(.bk [(aA r.1),(aB r.2)])):=by
 rw[DW]at hF;refine aP Tryz.func108 ?_;refine au af [[],[]] ?_;refine bc hF (fun h1 hF=> ?_) fun h1 hF=> ?_
 ·cases hF;exact wr af [[(0,bT h1)],[]]
 obtain⟨v2,h2,hF⟩:=ao hF;obtain⟨v3,h3,hF⟩:=ao hF;refine au af [[(0,bF h1)],[(10,oE (k:=0) (bq h2)),(16,cL (Kz N v2 v3 h3))],[]] ?_;refine bc hF (fun h4 hF=> ?_) fun h4 hF=> ?_
 ·obtain⟨v4,h5,hF⟩:=ao hF;cases hF;exact wr af [[(0,bT h4)],[(10,oE (k:=1) (bq h5))]]
 obtain⟨v5,h6,hF⟩:=ao hF;cases hF;exact wr af [[(0,bF h4)],[(10,oE (k:=2) (bq h6))]]
def GM(N:Nat)(v5:an×Bool)(v6:akc)(v7:an):akd (Bool×akc×Int×akc×Int64×Int64×Int×Int×Int×Int×Int×Int64×(akb aU)×(akb aI)×(akb an)):=
 some (v5.2,v6,v7.ar,v7.aV,v7.ba.xN,v7.ba.xD,v7.aC.a8,v7.aC.bz,v7.aC.bE,v7.aC.bK,v7.aC.bI,v7.aK.xK,v7.aK.xL,v7.xIdx,v7.ax)
def Gv(N:Nat)(v1:cy)(v2:akc)(v3:akc)(v4:an):akd (Bool×akc×Int×akc×Int64×Int64×Int×Int×Int×Int×Int×Int64×(akb aU)×(akb aI)×(akb an)):=
 Option.bind (DW N v1) fun v5=>
 bif v5.2 then
  GM N v5 v2 v5.1
 else
  GM N v5 v3 v4
theorem tW(N:Nat)(v1:cy)(v2:akc)(v3:akc)(v4:an)(r:Bool×akc×Int×akc×Int64×Int64×Int×Int×Int×Int×Int×Int64×(akb aU)×(akb aI)×(akb an))(hF:Gv N v1 v2 v3 v4=some r):bO Tryz.prog 104 [(bH v1),(.fn 108 []),(aR v2),(.ptr 0 0),(.ptr 1 0)] [.cells [(aR v3)], .cells (aA v4).cells] fun r1 h1=>r1=(aB r.1)∧h1=[.cells [(aR r.2.1)], .cells [(aw r.2.2.1),(aR r.2.2.2.1),(aH r.2.2.2.2.1),(aH r.2.2.2.2.2.1),(aw r.2.2.2.2.2.2.1),(aw r.2.2.2.2.2.2.2.1),(aw r.2.2.2.2.2.2.2.2.1),(aw r.2.2.2.2.2.2.2.2.2.1),(aw r.2.2.2.2.2.2.2.2.2.2.1),(aH r.2.2.2.2.2.2.2.2.2.2.2.1),(.d (.sl (bZ r.2.2.2.2.2.2.2.2.2.2.2.2.1))),(.d (.sl (cl r.2.2.2.2.2.2.2.2.2.2.2.2.2.1))),(.d (.sl (cq r.2.2.2.2.2.2.2.2.2.2.2.2.2.2)))]]:=by
 rw[Gv]at hF;refine eB 2 Tryz.func104 ?_;obtain⟨v5,h1,hF⟩:=ao hF;refine lE af r 1 [[],[(7,cL (acq N v1 v5 h1))],[]] [12] 4 (fun(v6:akc)(v7:an)=>⟨27,[(12,(aB v5.2))],[.cells [(aR v6)], .cells (aA v7).cells, .cells (bH v1).cells, .cells (aA v5.1).cells]⟩) (GM N v5) ?_ ?_
 ·intro f1 aO;refine bc hF (fun h2 hF=> ?_) fun h2 hF=> ?_
  ·exact bM af aO (v2,v5.1) [[(0,bT h2)],[]] hF
  exact bM af aO (v3,v4) [[(0,bF h2)]] hF
 intro v6 v7 hF;rw[GM]at hF;cases hF;exact cG af [[]]
def yx(N:Nat)(v1:cy)(v5:Bool):akd (an×Bool):=
 bif v5 then
  Option.bind (v1.yE.ax[0]?) fun v6=>
  Option.bind (v1.yE.ax[1]?) fun v7=>
  Option.bind (nH N v6 v7) fun v8=>
  some (v6,v8)
 else
  some (ef,false)
def Dd(N:Nat)(v1:cy):akd (an×Bool):=
 bif (v1.yE.ar==(11:Int))then
  Option.bind (v1.yE.ax[1]?) fun v2=>
  Option.bind (v1.yE.ax[2]?) fun v3=>
  Option.bind (nH N v2 v3) fun v4=>
  some (v2,v4)
 else
  bif (v1.yE.ar==(9:Int))then
   yx N v1 (v1.yE.ar==(9:Int))
  else
   bif (v1.yE.ar==(10:Int))then
    yx N v1 (v1.yE.ar==(10:Int))
   else
    bif (v1.yE.ar==(16:Int))then
     yx N v1 (v1.yE.ar==(16:Int))
    else
     yx N v1 (v1.yE.ar==(17:Int))
theorem aft(N:Nat)(v1:cy)(r:an×Bool)(hF:Dd N v1=some r):aG Tryz.prog 109 [(bH v1)] (·=(.bk [(aA r.1),(aB r.2)])):=by
 rw[Dd]at hF;refine aP Tryz.func109 ?_;refine au af [[],[],[]] ?_;refine bc hF (fun h1 hF=> ?_) fun h1 hF=> ?_
 ·obtain⟨v2,h2,hF⟩:=ao hF;obtain⟨v3,h3,hF⟩:=ao hF;obtain⟨v4,h4,hF⟩:=ao hF;cases hF;exact wr af [[(0,bT h1)],[(10,oE (k:=1) (bq h2)),(25,oE (k:=1) (bq h2)),(40,oE (k:=2) (bq h3)),(46,cL (CK N v2 v3 v4 h4))]]
 refine BY af 1 [[(0,bF h1)],[]] [1,2,25] 2 [] [(1,10),(1,11),(1,12)] (fun(v5:Bool)=>⟨47,[(1,(.ptr 0 0)),(2,(.ptr 1 0)),(25,(aB v5))],[.cells (bH v1).cells, .cells ep]⟩) (fun(v5:Bool)=>yx N v1 v5=some r) ?_ ?_
 ·intro f1 aO;refine bc hF (fun h9 hF=> ?_) fun h9 hF=> ?_
  ·exact lI af aO (v1.yE.ar==(9:Int)) [[(0,bT h9)]] hF
  refine au af [[(0,bF h9)],[]] ?_;refine bc hF (fun az hF=> ?_) fun az hF=> ?_
  ·exact lI af aO (v1.yE.ar==(10:Int)) [[(0,bT az)]] hF
  refine au af [[(0,bF az)],[]] ?_;refine bc hF (fun aE hF=> ?_) fun aE hF=> ?_
  ·exact lI af aO (v1.yE.ar==(16:Int)) [[(0,bT aE)]] hF
  exact lI af aO (v1.yE.ar==(17:Int)) [[(0,bF aE)],[]] hF
 rintro v5 hF
 try dsimp only at hF
 rw[yx]at hF;refine bc hF (fun h5 hF=> ?_) fun h5 hF=> ?_
 ·obtain⟨v6,h6,hF⟩:=ao hF;obtain⟨v7,h7,hF⟩:=ao hF;obtain⟨v8,h8,hF⟩:=ao hF;cases hF;exact wr af [[(0,bT h5)],[(10,oE (k:=0) (bq h6)),(25,oE (k:=0) (bq h6)),(40,oE (k:=1) (bq h7)),(46,cL (CK N v6 v7 v8 h8))]]
 cases hF;exact wr af [[(0,bF h5)],[]]
def HL(N:Nat)(v5:an×Bool)(v6:akc)(v7:an):akd (Bool×akc×Int×akc×Int64×Int64×Int×Int×Int×Int×Int×Int64×(akb aU)×(akb aI)×(akb an)):=
 some (v5.2,v6,v7.ar,v7.aV,v7.ba.xN,v7.ba.xD,v7.aC.a8,v7.aC.bz,v7.aC.bE,v7.aC.bK,v7.aC.bI,v7.aK.xK,v7.aK.xL,v7.xIdx,v7.ax)
def FQ(N:Nat)(v1:cy)(v2:akc)(v3:akc)(v4:an):akd (Bool×akc×Int×akc×Int64×Int64×Int×Int×Int×Int×Int×Int64×(akb aU)×(akb aI)×(akb an)):=
 Option.bind (Dd N v1) fun v5=>
 bif v5.2 then
  HL N v5 v2 v5.1
 else
  HL N v5 v3 v4
theorem wu(N:Nat)(v1:cy)(v2:akc)(v3:akc)(v4:an)(r:Bool×akc×Int×akc×Int64×Int64×Int×Int×Int×Int×Int×Int64×(akb aU)×(akb aI)×(akb an))(hF:FQ N v1 v2 v3 v4=some r):bO Tryz.prog 104 [(bH v1),(.fn 109 []),(aR v2),(.ptr 0 0),(.ptr 1 0)] [.cells [(aR v3)], .cells (aA v4).cells] fun r1 h1=>r1=(aB r.1)∧h1=[.cells [(aR r.2.1)], .cells [(aw r.2.2.1),(aR r.2.2.2.1),(aH r.2.2.2.2.1),(aH r.2.2.2.2.2.1),(aw r.2.2.2.2.2.2.1),(aw r.2.2.2.2.2.2.2.1),(aw r.2.2.2.2.2.2.2.2.1),(aw r.2.2.2.2.2.2.2.2.2.1),(aw r.2.2.2.2.2.2.2.2.2.2.1),(aH r.2.2.2.2.2.2.2.2.2.2.2.1),(.d (.sl (bZ r.2.2.2.2.2.2.2.2.2.2.2.2.1))),(.d (.sl (cl r.2.2.2.2.2.2.2.2.2.2.2.2.2.1))),(.d (.sl (cq r.2.2.2.2.2.2.2.2.2.2.2.2.2.2)))]]:=by
 rw[FQ]at hF;refine eB 2 Tryz.func104 ?_;obtain⟨v5,h1,hF⟩:=ao hF;refine lE af r 1 [[],[(7,cL (aft N v1 v5 h1))],[]] [12] 4 (fun(v6:akc)(v7:an)=>⟨27,[(12,(aB v5.2))],[.cells [(aR v6)], .cells (aA v7).cells, .cells (bH v1).cells, .cells (aA v5.1).cells]⟩) (HL N v5) ?_ ?_
 ·intro f1 aO;refine bc hF (fun h2 hF=> ?_) fun h2 hF=> ?_
  ·exact bM af aO (v2,v5.1) [[(0,bT h2)],[]] hF
  exact bM af aO (v3,v4) [[(0,bF h2)]] hF
 intro v6 v7 hF;rw[HL]at hF;cases hF;exact cG af [[]]
def uT(N:Nat)(v1:aD):akd ay:=
 Option.bind (lR N v1) fun v2=>
 bif (v2 !=(0:Int))then
  some bg
 else
  some (⟨(0:Int64),(1:Int64)⟩:ay)
theorem TY(N:Nat)(v1:aD)(r:ay)(hF:uT N v1=some r):aG Tryz.prog 189 [(b4 v1)] (·=(bj r)):=by
 rw[uT]at hF;refine aP Tryz.func189 ?_;obtain⟨v2,h1,hF⟩:=ao hF;refine au af [[],[(4,cL (m5 N v1 v2 h1))]] ?_;refine bc hF (fun h2 hF=> ?_) fun h2 hF=> ?_
 ·cases hF;exact wr af [[(0,bT h2)],[]]
 cases hF;exact wr af [[(0,bF h2)],[]]
def iR(N:Nat)(v1:an):akd Bool:=
 Option.bind (bif (v1.ar==(1:Int))then Option.bind (uT N v1.aC) fun v2=>
 some ((v1.ba.xN.toInt==v2.xN.toInt)&&((v1.ba.xD.toInt==v2.xD.toInt)&&true))else some false) fun v3=>
 some v3
theorem vP(N:Nat)(v1:an)(r:Bool)(hF:iR N v1=some r):aG Tryz.prog 186 [(aA v1)] (·=(aB r)):=by
 rw[iR]at hF;refine aP Tryz.func186 ?_;refine au af [[]] ?_;obtain⟨v3,h3,hF⟩:=ao hF;refine bf af [(2,(aB v3))] [.cells (aA v1).cells] ?_ ?_
 ·refine bc h3 (fun h1 h3=> ?_) fun h1 h3=> ?_
  ·obtain⟨v2,h2,h3⟩:=ao h3;cases h3;exact⟨[(3,bT h1)],[(25,cL (TY N v1.aC v2 h2))],by kernel_rfl⟩
  cases h3;exact⟨[(3,bF h1)],[],by kernel_rfl⟩
 cases hF;exact wr af []
def oZ(N:Nat)(v1:Int)(v2:akb an):akd an:=
 some (⟨v1,(bs []),bg,b8,zLin,[],v2⟩:an)
theorem uK(N:Nat)(v1:Int)(v2:akb an)(r:an)(hF:oZ N v1 v2=some r):aG Tryz.prog 187 [(aw v1),(.d (.sl (cq v2)))] (·=(aA r)):=by
 rw[oZ]at hF;refine aP Tryz.func187 ?_;cases hF;exact wr af [[],[]]
def Cy(N:Nat)(v1:cy):akd (an×Bool):=
 Option.bind (Ik N v1) fun v2=>
 bif v2 then
  Option.bind (v1.yE.ax[0]?) fun v3=>
  Option.bind (v1.yE.ax[1]?) fun v4=>
  bif (v1.yE.ar==(4:Int))then
   Option.bind (iR N v4) fun v5=>
   bif v5 then
    some (v3,true)
   else
    Option.bind (iR N v3) fun v6=>
    some (v4,v6)
  else
   bif (v1.yE.ar==(5:Int))then
    Option.bind (iR N v4) fun v7=>
    bif v7 then
     some (v3,true)
    else
     Option.bind (oZ N (8:Int) [v4]) fun v8=>
     Option.bind (iR N v3) fun v9=>
     some (v8,v9)
   else
    bif (v1.yE.ar==(6:Int))then
     Option.bind (iR N v4) fun v10=>
     bif v10 then
      some (v4,true)
     else
      Option.bind (iR N v3) fun v11=>
      some (v3,v11)
    else
     bif (v1.yE.ar==(7:Int))then
      Option.bind (iR N v3) fun v12=>
      some (v3,v12)
     else
      some (ef,false)
 else
  some (ef,false)
theorem Xq(N:Nat)(v1:cy)(r:an×Bool)(hF:Cy N v1=some r):aG Tryz.prog 110 [(bH v1)] (·=(.bk [(aA r.1),(aB r.2)])):=by
 rw[Cy]at hF;refine aP Tryz.func110 ?_;obtain⟨v2,h1,hF⟩:=ao hF;refine au af [[],[(4,cL (JY N v1 v2 h1))]] ?_;refine bc hF (fun h2 hF=> ?_) fun h2 hF=> ?_
 ·refine au af [[(0,bF (not_t h2))]] ?_;obtain⟨v3,h3,hF⟩:=ao hF;obtain⟨v4,h4,hF⟩:=ao hF;refine mo 20 af [(4,(.ptr 2 0)),(5,(.ptr 3 0))] [.cells (bH v1).cells, .cells ep, .cells (aA v3).cells, .cells (aA v4).cells] ⟨[(10,oE (k:=0) (bq h3)),(25,oE (k:=1) (bq h4))],by kernel_rfl⟩ ?_;refine au af [[],[]] ?_;refine bc hF (fun h5 hF=> ?_) fun h5 hF=> ?_
  ·obtain⟨v5,h6,hF⟩:=ao hF;refine au af [[(0,bT h5)],[(4,cL (vP N v4 v5 h6))]] ?_;refine bc hF (fun h7 hF=> ?_) fun h7 hF=> ?_
   ·cases hF;exact wr af [[(0,bT h7)],[]]
   obtain⟨v6,h8,hF⟩:=ao hF;cases hF;exact wr af [[(0,bF h7)],[(7,cL (vP N v3 v6 h8))]]
  refine au af [[(0,bF h5)],[]] ?_;refine bc hF (fun h9 hF=> ?_) fun h9 hF=> ?_
  ·obtain⟨v7,az,hF⟩:=ao hF;refine au af [[(0,bT h9)],[(4,cL (vP N v4 v7 az))]] ?_;refine bc hF (fun aE hF=> ?_) fun aE hF=> ?_
   ·cases hF;exact wr af [[(0,bT aE)],[]]
   obtain⟨v8,aN,hF⟩:=ao hF;obtain⟨v9,aY,hF⟩:=ao hF;cases hF;exact wr af [[(0,bF aE)],[(5,⟨_,_, .eq (congrArg AV.full (eR [v4]).symm)⟩),(7,cL (uK N (8:Int) [v4] v8 aN)),(13,cL (vP N v3 v9 aY))]]
  refine au af [[(0,bF h9)],[]] ?_;refine bc hF (fun aJ hF=> ?_) fun aJ hF=> ?_
  ·obtain⟨v10,bt,hF⟩:=ao hF;refine au af [[(0,bT aJ)],[(4,cL (vP N v4 v10 bt))]] ?_;refine bc hF (fun aM hF=> ?_) fun aM hF=> ?_
   ·cases hF;exact wr af [[(0,bT aM)],[]]
   obtain⟨v11,bp,hF⟩:=ao hF;cases hF;exact wr af [[(0,bF aM)],[(7,cL (vP N v3 v11 bp))]]
  refine au af [[(0,bF aJ)],[]] ?_;refine bc hF (fun a7 hF=> ?_) fun a7 hF=> ?_
  ·obtain⟨v12,bR,hF⟩:=ao hF;cases hF;exact wr af [[(0,bT a7)],[(7,cL (vP N v3 v12 bR))]]
  cases hF;exact wr af [[(0,bF a7)],[]]
 cases hF;exact wr af [[(0,bT (bS h2))],[]]
def Hl(N:Nat)(v5:an×Bool)(v6:akc)(v7:an):akd (Bool×akc×Int×akc×Int64×Int64×Int×Int×Int×Int×Int×Int64×(akb aU)×(akb aI)×(akb an)):=
 some (v5.2,v6,v7.ar,v7.aV,v7.ba.xN,v7.ba.xD,v7.aC.a8,v7.aC.bz,v7.aC.bE,v7.aC.bK,v7.aC.bI,v7.aK.xK,v7.aK.xL,v7.xIdx,v7.ax)
def Hg(N:Nat)(v1:cy)(v2:akc)(v3:akc)(v4:an):akd (Bool×akc×Int×akc×Int64×Int64×Int×Int×Int×Int×Int×Int64×(akb aU)×(akb aI)×(akb an)):=
 Option.bind (Cy N v1) fun v5=>
 bif v5.2 then
  Hl N v5 v2 v5.1
 else
  Hl N v5 v3 v4
theorem Ax(N:Nat)(v1:cy)(v2:akc)(v3:akc)(v4:an)(r:Bool×akc×Int×akc×Int64×Int64×Int×Int×Int×Int×Int×Int64×(akb aU)×(akb aI)×(akb an))(hF:Hg N v1 v2 v3 v4=some r):bO Tryz.prog 104 [(bH v1),(.fn 110 []),(aR v2),(.ptr 0 0),(.ptr 1 0)] [.cells [(aR v3)], .cells (aA v4).cells] fun r1 h1=>r1=(aB r.1)∧h1=[.cells [(aR r.2.1)], .cells [(aw r.2.2.1),(aR r.2.2.2.1),(aH r.2.2.2.2.1),(aH r.2.2.2.2.2.1),(aw r.2.2.2.2.2.2.1),(aw r.2.2.2.2.2.2.2.1),(aw r.2.2.2.2.2.2.2.2.1),(aw r.2.2.2.2.2.2.2.2.2.1),(aw r.2.2.2.2.2.2.2.2.2.2.1),(aH r.2.2.2.2.2.2.2.2.2.2.2.1),(.d (.sl (bZ r.2.2.2.2.2.2.2.2.2.2.2.2.1))),(.d (.sl (cl r.2.2.2.2.2.2.2.2.2.2.2.2.2.1))),(.d (.sl (cq r.2.2.2.2.2.2.2.2.2.2.2.2.2.2)))]]:=by
 rw[Hg]at hF;refine eB 2 Tryz.func104 ?_;obtain⟨v5,h1,hF⟩:=ao hF;refine lE af r 1 [[],[(7,cL (Xq N v1 v5 h1))],[]] [12] 4 (fun(v6:akc)(v7:an)=>⟨27,[(12,(aB v5.2))],[.cells [(aR v6)], .cells (aA v7).cells, .cells (bH v1).cells, .cells (aA v5.1).cells]⟩) (Hl N v5) ?_ ?_
 ·intro f1 aO;refine bc hF (fun h2 hF=> ?_) fun h2 hF=> ?_
  ·exact bM af aO (v2,v5.1) [[(0,bT h2)],[]] hF
  exact bM af aO (v3,v4) [[(0,bF h2)]] hF
 intro v6 v7 hF;rw[Hl]at hF;cases hF;exact cG af [[]]
def vA(N:Nat)(v1:aD):akd (ay×Int):=
 Option.bind (lR N v1) fun v2=>
 bif (v2 !=(0:Int))then
  some (bg,(10:Int))
 else
  bif (v1.a8 !=(2:Int))then
   some ((⟨(1:Int64),(1:Int64)⟩:ay),(0:Int))
  else
   bif (decide ((0:Int)≤v1.bE))then
   Option.bind (n3 N v1 (⟨(Int64.ofInt ((1:Int)*2^(min (v1.bE).toNat (IntKind.bits .i64)))),(1:Int64)⟩:ay)) fun v3=>
   bif v3 then
    some ((⟨(Int64.ofInt ((1:Int)*2^(min (v1.bE).toNat (IntKind.bits .i64)))),(1:Int64)⟩:ay),(0:Int))
   else
    some (bg,(3:Int))
   else none
theorem QL(N:Nat)(v1:aD)(r:ay×Int)(hF:vA N v1=some r):aG Tryz.prog 190 [(b4 v1)] (·=(.bk [(bj r.1),(aw r.2)])):=by
 rw[vA]at hF;refine aP Tryz.func190 ?_;obtain⟨v2,h1,hF⟩:=ao hF;refine au af [[],[(4,cL (m5 N v1 v2 h1))]] ?_;refine bc hF (fun h2 hF=> ?_) fun h2 hF=> ?_
 ·cases hF;exact wr af [[(0,bT h2)],[]]
 refine au af [[(0,bF h2)],[]] ?_;refine bc hF (fun h3 hF=> ?_) fun h3 hF=> ?_
 ·cases hF;exact wr af [[(0,bT h3)],[]]
 obtain⟨h4,hF⟩:=dn hF;obtain⟨v3,h5,hF⟩:=ao hF;refine au af [[(0,bF h3)],[(7,⟨_,_, .nn (b:=v1.bE) (of_decide_eq_true h4)⟩),(8,⟨_,_, .eq (eK ((1:Int)*2^(min (v1.bE).toNat (IntKind.bits .i64))))⟩)],[(7,cL (LF N v1 (⟨(Int64.ofInt ((1:Int)*2^(min (v1.bE).toNat (IntKind.bits .i64)))),(1:Int64)⟩:ay) v3 h5))]] ?_;refine bc hF (fun h6 hF=> ?_) fun h6 hF=> ?_
 ·cases hF;exact wr af [[(0,bF (not_t h6))],[]]
 cases hF;exact wr af [[(0,bT (bS h6))],[]]
def qG(N:Nat)(v1:an):akd Bool:=
 bif (v1.ar !=(1:Int))then
  some false
 else
  Option.bind (vA N v1.aC) fun v2=>
  Option.bind (bif (v2.2==(0:Int))then some ((v1.ba.xN.toInt==v2.1.xN.toInt)&&((v1.ba.xD.toInt==v2.1.xD.toInt)&&true))else some false) fun v3=>
  some v3
theorem SL(N:Nat)(v1:an)(r:Bool)(hF:qG N v1=some r):aG Tryz.prog 188 [(aA v1)] (·=(aB r)):=by
 rw[qG]at hF;refine aP Tryz.func188 ?_;refine au af [[],[]] ?_;refine bc hF (fun h1 hF=> ?_) fun h1 hF=> ?_
 ·cases hF;exact wr af [[(0,bT h1)],[]]
 obtain⟨v2,h2,hF⟩:=ao hF;refine au af [[(0,bF h1)],[(7,cL (QL N v1.aC v2 h2))]] ?_;obtain⟨v3,h4,hF⟩:=ao hF;refine bf af [(2,(aB v3))] [.cells (aA v1).cells, .cells (bj v2.1).cells] ?_ ?_
 ·refine bc h4 (fun h3 h4=> ?_) fun h3 h4=> ?_
  ·cases h4;exact⟨[(2,bT h3)],[],by kernel_rfl⟩
  cases h4;exact⟨[(2,bF h3)],[],by kernel_rfl⟩
 cases hF;exact wr af []
def BC(N:Nat)(v1:cy):akd (an×Bool):=
 Option.bind (bif (v1.yE.ar !=(6:Int))then some (v1.yE.ar !=(7:Int))else some false) fun v2=>
 bif v2 then
  some (ef,false)
 else
  Option.bind (v1.yE.ax[0]?) fun v3=>
  Option.bind (v1.yE.ax[1]?) fun v4=>
  Option.bind (qG N v4) fun v5=>
  bif v5 then
   some (v3,true)
  else
   Option.bind (bif (v1.yE.ar==(6:Int))then Option.bind (qG N v3) fun v6=>
   some v6 else some false) fun v7=>
   some (v4,v7)
def Pd(v1:cy)(l:akb aq):akb aq:= .cells (bH v1).cells:: .cells ep::l
theorem ahm(N:Nat)(v1:cy)(r:an×Bool)(hF:BC N v1=some r):aG Tryz.prog 111 [(bH v1)] (·=(.bk [(aA r.1),(aB r.2)])):=by
 rw[BC]at hF;refine aP Tryz.func111 ?_;refine au af [[]] ?_;obtain⟨v2,h2,hF⟩:=ao hF;refine bf af [(15,(aB v2))] (Pd v1 []) ?_ ?_
 ·refine bc h2 (fun h1 h2=> ?_) fun h1 h2=> ?_
  ·cases h2;exact⟨[(4,bT h1)],[],by kernel_rfl⟩
  cases h2;exact⟨[(4,bF h1)],[],by kernel_rfl⟩
 refine bc hF (fun h3 hF=> ?_) fun h3 hF=> ?_
 ·cases hF;exact wr af [[(0,bT h3)],[]]
 refine au af [[(0,bF h3)]] ?_;obtain⟨v3,h4,hF⟩:=ao hF;obtain⟨v4,h5,hF⟩:=ao hF;refine mo 20 af [(4,(.ptr 2 0)),(5,(.ptr 3 0))] (Pd v1 [.cells (aA v3).cells, .cells (aA v4).cells]) ⟨[(10,oE (k:=0) (bq h4)),(25,oE (k:=1) (bq h5))],by kernel_rfl⟩ ?_;obtain⟨v5,h6,hF⟩:=ao hF;refine au af [[(4,cL (SL N v4 v5 h6))]] ?_;refine bc hF (fun h7 hF=> ?_) fun h7 hF=> ?_
 ·cases hF;exact wr af [[(0,bT h7)],[]]
 refine au af [[(0,bF h7)]] ?_;obtain⟨v7,az,hF⟩:=ao hF;refine bf af [(3,(aB v7))] [.cells (bH v1).cells, .cells (aA v4).cells, .cells (aA v3).cells, .cells (aA v4).cells] ?_ ?_
 ·refine bc az (fun h8 az=> ?_) fun h8 az=> ?_
  ·obtain⟨v6,h9,az⟩:=ao az;obtain rfl:=sj az;exact⟨[(5,bT h8)],[(22,cL (SL N v3 v6 h9))],by kernel_rfl⟩
  cases az;exact⟨[(5,bF h8)],[],by kernel_rfl⟩
 cases hF;exact wr af []
def Fw(N:Nat)(v5:an×Bool)(v6:akc)(v7:an):akd (Bool×akc×Int×akc×Int64×Int64×Int×Int×Int×Int×Int×Int64×(akb aU)×(akb aI)×(akb an)):=
 some (v5.2,v6,v7.ar,v7.aV,v7.ba.xN,v7.ba.xD,v7.aC.a8,v7.aC.bz,v7.aC.bE,v7.aC.bK,v7.aC.bI,v7.aK.xK,v7.aK.xL,v7.xIdx,v7.ax)
def Ga(N:Nat)(v1:cy)(v2:akc)(v3:akc)(v4:an):akd (Bool×akc×Int×akc×Int64×Int64×Int×Int×Int×Int×Int×Int64×(akb aU)×(akb aI)×(akb an)):=
 Option.bind (BC N v1) fun v5=>
 bif v5.2 then
  Fw N v5 v2 v5.1
 else
  Fw N v5 v3 v4
theorem BE(N:Nat)(v1:cy)(v2:akc)(v3:akc)(v4:an)(r:Bool×akc×Int×akc×Int64×Int64×Int×Int×Int×Int×Int×Int64×(akb aU)×(akb aI)×(akb an))(hF:Ga N v1 v2 v3 v4=some r):bO Tryz.prog 104 [(bH v1),(.fn 111 []),(aR v2),(.ptr 0 0),(.ptr 1 0)] [.cells [(aR v3)], .cells (aA v4).cells] fun r1 h1=>r1=(aB r.1)∧h1=[.cells [(aR r.2.1)], .cells [(aw r.2.2.1),(aR r.2.2.2.1),(aH r.2.2.2.2.1),(aH r.2.2.2.2.2.1),(aw r.2.2.2.2.2.2.1),(aw r.2.2.2.2.2.2.2.1),(aw r.2.2.2.2.2.2.2.2.1),(aw r.2.2.2.2.2.2.2.2.2.1),(aw r.2.2.2.2.2.2.2.2.2.2.1),(aH r.2.2.2.2.2.2.2.2.2.2.2.1),(.d (.sl (bZ r.2.2.2.2.2.2.2.2.2.2.2.2.1))),(.d (.sl (cl r.2.2.2.2.2.2.2.2.2.2.2.2.2.1))),(.d (.sl (cq r.2.2.2.2.2.2.2.2.2.2.2.2.2.2)))]]:=by
 rw[Ga]at hF;refine eB 2 Tryz.func104 ?_;obtain⟨v5,h1,hF⟩:=ao hF;refine lE af r 1 [[],[(7,cL (ahm N v1 v5 h1))],[]] [12] 4 (fun(v6:akc)(v7:an)=>⟨27,[(12,(aB v5.2))],[.cells [(aR v6)], .cells (aA v7).cells, .cells (bH v1).cells, .cells (aA v5.1).cells]⟩) (Fw N v5) ?_ ?_
 ·intro f1 aO;refine bc hF (fun h2 hF=> ?_) fun h2 hF=> ?_
  ·exact bM af aO (v2,v5.1) [[(0,bT h2)],[]] hF
  exact bM af aO (v3,v4) [[(0,bF h2)]] hF
 intro v6 v7 hF;rw[Fw]at hF;cases hF;exact cG af [[]]
def E0(N:Nat)(v1:cy):akd (an×Bool):=
 Option.bind (bif (v1.yE.ar !=(5:Int))then(bif (v1.yE.ar !=(7:Int))then some true else(bif v1.gu.dk then Option.bind (v1.yE.ax[0]?) fun v2=>
 Option.bind (v1.yE.ax[1]?) fun v3=>
 Option.bind (nH N v2 v3) fun v4=>
 some (!v4)else some true))else(bif v1.gu.dk then Option.bind (v1.yE.ax[0]?) fun v5=>
 Option.bind (v1.yE.ax[1]?) fun v6=>
 Option.bind (nH N v5 v6) fun v7=>
 some (!v7)else some true)) fun v8=>
 bif v8 then
  some (ef,false)
 else
  bif (v1.yE.ar==(5:Int))then
   Option.bind (uT N v1.gu.yT) fun v9=>
   Option.bind (oF N v1.gu.yT v9) fun v10=>
   some (v10,true)
  else
   Option.bind (vA N v1.gu.yT) fun v11=>
   Option.bind (oF N v1.gu.yT v11.1) fun v12=>
   Option.bind (bif (v1.gu.yT.a8 !=(2:Int))then some (v11.2==(0:Int))else some false) fun aZ=>
   some (v12,aZ)
theorem aiH(N:Nat)(v1:cy)(r:an×Bool)(hF:E0 N v1=some r):aG Tryz.prog 112 [(bH v1)] (·=(.bk [(aA r.1),(aB r.2)])):=by
 rw[E0]at hF;refine aP Tryz.func112 ?_;refine au af [[]] ?_;obtain⟨v8,aE,hF⟩:=ao hF;refine bf af [(36,(aB v8))] [.cells (bH v1).cells, .cells ep] ?_ ?_
 ·refine bc aE (fun h1 aE=> ?_) fun h1 aE=> ?_
  ·refine bc aE (fun h2 aE=> ?_) fun h2 aE=> ?_
   ·cases aE;exact⟨[(4,bT h1),(10,bT h2),(16,bT rfl)],[],by kernel_rfl⟩
   refine bc aE (fun h3 aE=> ?_) fun h3 aE=> ?_
   ·obtain⟨v2,h4,aE⟩:=ao aE;obtain⟨v3,h5,aE⟩:=ao aE;obtain⟨v4,h6,aE⟩:=ao aE;cases aE;exact⟨[(4,bT h1),(10,bF h2),(16,bF (not_t h3))],[(61,oE (k:=0) (bq h4)),(76,oE (k:=1) (bq h5)),(82,cL (CK N v2 v3 v4 h6))],by kernel_rfl⟩
   cases aE;exact⟨[(4,bT h1),(10,bF h2),(16,bT (bS h3))],[],by kernel_rfl⟩
  refine bc aE (fun h7 aE=> ?_) fun h7 aE=> ?_
  ·obtain⟨v5,h8,aE⟩:=ao aE;obtain⟨v6,h9,aE⟩:=ao aE;obtain⟨v7,az,aE⟩:=ao aE;cases aE;exact⟨[(4,bF h1),(10,bF rfl),(16,bF (not_t h7))],[(61,oE (k:=0) (bq h8)),(76,oE (k:=1) (bq h9)),(82,cL (CK N v5 v6 v7 az))],by kernel_rfl⟩
  cases aE;exact⟨[(4,bF h1),(10,bF rfl),(16,bT (bS h7))],[],by kernel_rfl⟩
 refine bc hF (fun aN hF=> ?_) fun aN hF=> ?_
 ·cases hF;exact wr af [[(0,bT aN)],[]]
 refine au af [[(0,bF aN)],[],[]] ?_;refine bc hF (fun aY hF=> ?_) fun aY hF=> ?_
 ·obtain⟨v9,aJ,hF⟩:=ao hF;obtain⟨v10,bt,hF⟩:=ao hF;cases hF;exact wr af [[(0,bT aY)],[(7,cL (TY N v1.gu.yT v9 aJ)),(10,cL (tH N v1.gu.yT v9 v10 bt))]]
 obtain⟨v11,aM,hF⟩:=ao hF;refine au af [[(0,bF aY)],[(4,cL (QL N v1.gu.yT v11 aM))]] ?_;obtain⟨v12,bp,hF⟩:=ao hF;obtain⟨aZ,bR,hF⟩:=ao hF;refine bf af [(3,(aB aZ))] [.cells (bH v1).cells, .cells (aA v12).cells, .cells (b4 v1.gu.yT).cells, .cells (bj v11.1).cells] ?_ ?_
 ·refine bc bR (fun a7 bR=> ?_) fun a7 bR=> ?_
  ·cases bR;exact⟨[(6,bT a7)],[(7,cL (tH N v1.gu.yT v11.1 v12 bp))],by kernel_rfl⟩
  cases bR;exact⟨[(6,bF a7)],[(7,cL (tH N v1.gu.yT v11.1 v12 bp))],by kernel_rfl⟩
 cases hF;exact wr af []
def Ix(N:Nat)(v5:an×Bool)(v6:akc)(v7:an):akd (Bool×akc×Int×akc×Int64×Int64×Int×Int×Int×Int×Int×Int64×(akb aU)×(akb aI)×(akb an)):=
 some (v5.2,v6,v7.ar,v7.aV,v7.ba.xN,v7.ba.xD,v7.aC.a8,v7.aC.bz,v7.aC.bE,v7.aC.bK,v7.aC.bI,v7.aK.xK,v7.aK.xL,v7.xIdx,v7.ax)
def Im(N:Nat)(v1:cy)(v2:akc)(v3:akc)(v4:an):akd (Bool×akc×Int×akc×Int64×Int64×Int×Int×Int×Int×Int×Int64×(akb aU)×(akb aI)×(akb an)):=
 Option.bind (E0 N v1) fun v5=>
 bif v5.2 then
  Ix N v5 v2 v5.1
 else
  Ix N v5 v3 v4
theorem HN(N:Nat)(v1:cy)(v2:akc)(v3:akc)(v4:an)(r:Bool×akc×Int×akc×Int64×Int64×Int×Int×Int×Int×Int×Int64×(akb aU)×(akb aI)×(akb an))(hF:Im N v1 v2 v3 v4=some r):bO Tryz.prog 104 [(bH v1),(.fn 112 []),(aR v2),(.ptr 0 0),(.ptr 1 0)] [.cells [(aR v3)], .cells (aA v4).cells] fun r1 h1=>r1=(aB r.1)∧h1=[.cells [(aR r.2.1)], .cells [(aw r.2.2.1),(aR r.2.2.2.1),(aH r.2.2.2.2.1),(aH r.2.2.2.2.2.1),(aw r.2.2.2.2.2.2.1),(aw r.2.2.2.2.2.2.2.1),(aw r.2.2.2.2.2.2.2.2.1),(aw r.2.2.2.2.2.2.2.2.2.1),(aw r.2.2.2.2.2.2.2.2.2.2.1),(aH r.2.2.2.2.2.2.2.2.2.2.2.1),(.d (.sl (bZ r.2.2.2.2.2.2.2.2.2.2.2.2.1))),(.d (.sl (cl r.2.2.2.2.2.2.2.2.2.2.2.2.2.1))),(.d (.sl (cq r.2.2.2.2.2.2.2.2.2.2.2.2.2.2)))]]:=by
 rw[Im]at hF;refine eB 2 Tryz.func104 ?_;obtain⟨v5,h1,hF⟩:=ao hF;refine lE af r 1 [[],[(7,cL (aiH N v1 v5 h1))],[]] [12] 4 (fun(v6:akc)(v7:an)=>⟨27,[(12,(aB v5.2))],[.cells [(aR v6)], .cells (aA v7).cells, .cells (bH v1).cells, .cells (aA v5.1).cells]⟩) (Ix N v5) ?_ ?_
 ·intro f1 aO;refine bc hF (fun h2 hF=> ?_) fun h2 hF=> ?_
  ·exact bM af aO (v2,v5.1) [[(0,bT h2)],[]] hF
  exact bM af aO (v3,v4) [[(0,bF h2)]] hF
 intro v6 v7 hF;rw[Ix]at hF;cases hF;exact cG af [[]]
def DX(N:Nat)(v1:cy):akd (an×Bool):=
 Option.bind (bif v1.gu.dk then(bif (v1.gu.yT.a8==(2:Int))then(bif (v1.gu.yT.bI !=(2:Int))then some true else some ((v1.yE.ax.length:Int)==(0:Int)))else some ((v1.yE.ax.length:Int)==(0:Int)))else some true) fun v2=>
 bif v2 then
  some (ef,false)
 else
  Option.bind (v1.yE.ax[0]?) fun v3=>
  bif (decide ((0:Int)≤(aS ((v1.yE.ax.length:Int)-(1:Int)))))then
  Option.bind (v1.yE.ax[((aS ((v1.yE.ax.length:Int)-(1:Int)))).toNat]?) fun v4=>
  Option.bind (bif (v1.yE.ar==(8:Int))then some (v3.ar==(8:Int))else some false) fun v5=>
  bif v5 then
   Option.bind (v3.ax[0]?) fun v6=>
   some (v6,true)
  else
   Option.bind (bif (v1.yE.ar==(4:Int))then some (v4.ar==(8:Int))else some false) fun v7=>
   bif v7 then
    Option.bind (v4.ax[0]?) fun v8=>
    Option.bind (oZ N (5:Int) ([v3,v8])) fun v9=>
    some (v9,true)
   else
    Option.bind (bif (v1.yE.ar==(4:Int))then some (v3.ar==(8:Int))else some false) fun v10=>
    bif v10 then
     Option.bind (v3.ax[0]?) fun v11=>
     Option.bind (oZ N (5:Int) ([v4,v11])) fun v12=>
     some (v12,true)
    else
     Option.bind (bif (v1.yE.ar==(5:Int))then some (v4.ar==(8:Int))else some false) fun aZ=>
     bif aZ then
      Option.bind (v4.ax[0]?) fun bu=>
      Option.bind (oZ N (4:Int) ([v3,bu])) fun bQ=>
      some (bQ,true)
     else
      some (ef,false)
  else none
def Sm(v1:cy)(l:akb aq):akb aq:= .cells (bH v1).cells:: .cells ep::l
def Bz(v1:cy)(v3:an)(v4:an)(l:akb aq):akb aq:=Sm v1 (.cells (aA v3).cells:: .cells (aA v4).cells::l)
theorem aaT(N:Nat)(v1:cy)(r:an×Bool)(hF:DX N v1=some r):aG Tryz.prog 113 [(bH v1)] (·=(.bk [(aA r.1),(aB r.2)])):=by
 rw[DX]at hF;refine aP Tryz.func113 ?_;refine au af [[]] ?_;obtain⟨v2,h4,hF⟩:=ao hF;refine bf af [(30,(aB v2))] (Sm v1 []) ?_ ?_
 ·refine bc h4 (fun h1 h4=> ?_) fun h1 h4=> ?_
  ·refine bc h4 (fun h2 h4=> ?_) fun h2 h4=> ?_
   ·refine bc h4 (fun h3 h4=> ?_) fun h3 h4=> ?_
    ·cases h4;exact⟨[(4,bF (not_t h1)),(10,bT h2),(18,bT h3)],[(49,bT h2)],by kernel_rfl⟩
    cases h4;exact⟨[(4,bF (not_t h1)),(10,bT h2),(18,bF h3)],[(49,bT h2),(67,oL v1.yE.ax dD)],by kernel_rfl⟩
   cases h4;exact⟨[(4,bF (not_t h1)),(10,bF h2),(18,bF rfl)],[(49,bF h2),(67,oL v1.yE.ax dD)],by kernel_rfl⟩
  cases h4;exact⟨[(4,bT (bS h1)),(10,uN),(18,bT rfl)],[],by kernel_rfl⟩
 refine bc hF (fun h5 hF=> ?_) fun h5 hF=> ?_
 ·cases hF;exact wr af [[(0,bT h5)],[]]
 refine au af [[(0,bF h5)]] ?_;obtain⟨v3,h6,hF⟩:=ao hF;obtain⟨h8,hF⟩:=dn hF;obtain⟨v4,h7,hF⟩:=ao hF;refine mo 78 af [(4,(.ptr 2 0)),(5,(.ptr 3 0))] (Bz v1 v3 v4 []) ⟨[(10,oE (k:=0) (bq h6)),(34,oL v1.yE.ax dD),(40,⟨_,_, .el (xs:=cq v1.yE.ax) (i:=(aS ((v1.yE.ax.length:Int)-(1:Int)))) (of_decide_eq_true h8) (bq h7)⟩)],by kernel_rfl⟩ ?_;obtain⟨v5,az,hF⟩:=ao hF;refine bf af [(47,(aB v5))] (Bz v1 v3 v4 []) ?_ ?_
 ·refine bc az (fun h9 az=> ?_) fun h9 az=> ?_
  ·cases az;exact⟨[(4,bT h9)],[],by kernel_rfl⟩
  cases az;exact⟨[(4,bF h9)],[],by kernel_rfl⟩
 refine bc hF (fun aE hF=> ?_) fun aE hF=> ?_
 ·obtain⟨v6,aN,hF⟩:=ao hF;cases hF;exact wr af [[(0,bT aE)],[(7,oE (k:=0) (bq aN))]]
 refine au af [[(0,bF aE)]] ?_;obtain⟨v7,aJ,hF⟩:=ao hF;refine bf af [(61,(aB v7))] (Bz v1 v3 v4 []) ?_ ?_
 ·refine bc aJ (fun aY aJ=> ?_) fun aY aJ=> ?_
  ·cases aJ;exact⟨[(4,bT aY)],[],by kernel_rfl⟩
  cases aJ;exact⟨[(4,bF aY)],[],by kernel_rfl⟩
 refine bc hF (fun bt hF=> ?_) fun bt hF=> ?_
 ·obtain⟨v8,aM,hF⟩:=ao hF;obtain⟨v9,bp,hF⟩:=ao hF;cases hF;exact wr af [[(0,bT bt)],[(10,oE (k:=0) (bq aM)),(17,⟨_,_, .eq (congrArg AV.full (eR [v3,v8]).symm)⟩),(19,cL (uK N (5:Int) ([v3,v8]) v9 bp))]]
 refine au af [[(0,bF bt)]] ?_;obtain⟨v10,bR,hF⟩:=ao hF;refine bf af [(78,(aB v10))] (Bz v1 v3 v4 []) ?_ ?_
 ·refine bc bR (fun a7 bR=> ?_) fun a7 bR=> ?_
  ·cases bR;exact⟨[(4,bT a7)],[],by kernel_rfl⟩
  cases bR;exact⟨[(4,bF a7)],[],by kernel_rfl⟩
 refine bc hF (fun b5 hF=> ?_) fun b5 hF=> ?_
 ·obtain⟨v11,ck,hF⟩:=ao hF;obtain⟨v12,bw,hF⟩:=ao hF;cases hF;exact wr af [[(0,bT b5)],[(10,oE (k:=0) (bq ck)),(17,⟨_,_, .eq (congrArg AV.full (eR [v4,v11]).symm)⟩),(19,cL (uK N (5:Int) ([v4,v11]) v12 bw))]]
 refine au af [[(0,bF b5)]] ?_;obtain⟨aZ,cC,hF⟩:=ao hF;refine bf af [(95,(aB aZ))] (Bz v1 v3 v4 []) ?_ ?_
 ·refine bc cC (fun cP cC=> ?_) fun cP cC=> ?_
  ·cases cC;exact⟨[(4,bT cP)],[],by kernel_rfl⟩
  cases cC;exact⟨[(4,bF cP)],[],by kernel_rfl⟩
 refine bc hF (fun eI hF=> ?_) fun eI hF=> ?_
 ·obtain⟨bu,eY,hF⟩:=ao hF;obtain⟨bQ,gd,hF⟩:=ao hF;cases hF;exact wr af [[(0,bT eI)],[(10,oE (k:=0) (bq eY)),(17,⟨_,_, .eq (congrArg AV.full (eR [v3,bu]).symm)⟩),(19,cL (uK N (4:Int) ([v3,bu]) bQ gd))]]
 cases hF;exact wr af [[(0,bF eI)],[]]
def JB(N:Nat)(v5:an×Bool)(v6:akc)(v7:an):akd (Bool×akc×Int×akc×Int64×Int64×Int×Int×Int×Int×Int×Int64×(akb aU)×(akb aI)×(akb an)):=
 some (v5.2,v6,v7.ar,v7.aV,v7.ba.xN,v7.ba.xD,v7.aC.a8,v7.aC.bz,v7.aC.bE,v7.aC.bK,v7.aC.bI,v7.aK.xK,v7.aK.xL,v7.xIdx,v7.ax)
def IA(N:Nat)(v1:cy)(v2:akc)(v3:akc)(v4:an):akd (Bool×akc×Int×akc×Int64×Int64×Int×Int×Int×Int×Int×Int64×(akb aU)×(akb aI)×(akb an)):=
 Option.bind (DX N v1) fun v5=>
 bif v5.2 then
  JB N v5 v2 v5.1
 else
  JB N v5 v3 v4
theorem NA(N:Nat)(v1:cy)(v2:akc)(v3:akc)(v4:an)(r:Bool×akc×Int×akc×Int64×Int64×Int×Int×Int×Int×Int×Int64×(akb aU)×(akb aI)×(akb an))(hF:IA N v1 v2 v3 v4=some r):bO Tryz.prog 104 [(bH v1),(.fn 113 []),(aR v2),(.ptr 0 0),(.ptr 1 0)] [.cells [(aR v3)], .cells (aA v4).cells] fun r1 h1=>r1=(aB r.1)∧h1=[.cells [(aR r.2.1)], .cells [(aw r.2.2.1),(aR r.2.2.2.1),(aH r.2.2.2.2.1),(aH r.2.2.2.2.2.1),(aw r.2.2.2.2.2.2.1),(aw r.2.2.2.2.2.2.2.1),(aw r.2.2.2.2.2.2.2.2.1),(aw r.2.2.2.2.2.2.2.2.2.1),(aw r.2.2.2.2.2.2.2.2.2.2.1),(aH r.2.2.2.2.2.2.2.2.2.2.2.1),(.d (.sl (bZ r.2.2.2.2.2.2.2.2.2.2.2.2.1))),(.d (.sl (cl r.2.2.2.2.2.2.2.2.2.2.2.2.2.1))),(.d (.sl (cq r.2.2.2.2.2.2.2.2.2.2.2.2.2.2)))]]:=by
 rw[IA]at hF;refine eB 2 Tryz.func104 ?_;obtain⟨v5,h1,hF⟩:=ao hF;refine lE af r 1 [[],[(7,cL (aaT N v1 v5 h1))],[]] [12] 4 (fun(v6:akc)(v7:an)=>⟨27,[(12,(aB v5.2))],[.cells [(aR v6)], .cells (aA v7).cells, .cells (bH v1).cells, .cells (aA v5.1).cells]⟩) (JB N v5) ?_ ?_
 ·intro f1 aO;refine bc hF (fun h2 hF=> ?_) fun h2 hF=> ?_
  ·exact bM af aO (v2,v5.1) [[(0,bT h2)],[]] hF
  exact bM af aO (v3,v4) [[(0,bF h2)]] hF
 intro v6 v7 hF;rw[JB]at hF;cases hF;exact cG af [[]]
def Fa(N:Nat)(v1:cy):akd (an×Bool):=
 Option.bind (bif (v1.yE.ar !=(18:Int))then some (v1.yE.ar !=(11:Int))else some false) fun v2=>
 bif v2 then
  some (ef,false)
 else
  Option.bind (v1.yE.ax[0]?) fun v3=>
  bif (v1.yE.ar==(11:Int))then
   bif (v3.ar !=(18:Int))then
    some (ef,false)
   else
    Option.bind (v3.ax[0]?) fun v4=>
    Option.bind (v1.yE.ax[2]?) fun v5=>
    Option.bind (v1.yE.ax[1]?) fun v6=>
    Option.bind (oZ N (11:Int) ([v4,v5,v6])) fun v7=>
    some (v7,true)
  else
   bif (v3.ar==(18:Int))then
    Option.bind (v3.ax[0]?) fun v8=>
    some (v8,true)
   else
    bif (v3.ar==(13:Int))then
     Option.bind (v3.ax[1]?) fun v9=>
     Option.bind (v3.ax[0]?) fun v10=>
     Option.bind (oZ N (14:Int) ([v9,v10])) fun v11=>
     some (v11,true)
    else
     bif (v3.ar==(14:Int))then
      Option.bind (v3.ax[1]?) fun v12=>
      Option.bind (v3.ax[0]?) fun aZ=>
      Option.bind (oZ N (13:Int) ([v12,aZ])) fun bu=>
      some (bu,true)
     else
      some (ef,false)
theorem aby(N:Nat)(v1:cy)(r:an×Bool)(hF:Fa N v1=some r):aG Tryz.prog 114 [(bH v1)] (·=(.bk [(aA r.1),(aB r.2)])):=by
 rw[Fa]at hF;refine aP Tryz.func114 ?_;refine au af [[]] ?_;obtain⟨v2,h2,hF⟩:=ao hF;refine bf af [(14,(aB v2))] [.cells (bH v1).cells, .cells ep] ?_ ?_
 ·refine bc h2 (fun h1 h2=> ?_) fun h1 h2=> ?_
  ·cases h2;exact⟨[(4,bT h1)],[],by kernel_rfl⟩
  cases h2;exact⟨[(4,bF h1)],[],by kernel_rfl⟩
 refine bc hF (fun h3 hF=> ?_) fun h3 hF=> ?_
 ·cases hF;exact wr af [[(0,bT h3)],[]]
 obtain⟨v3,h4,hF⟩:=ao hF;refine au af [[(0,bF h3)],[(10,oE (k:=0) (bq h4))],[]] ?_;refine bc hF (fun h5 hF=> ?_) fun h5 hF=> ?_
 ·refine au af [[(0,bT h5)],[]] ?_;refine bc hF (fun h6 hF=> ?_) fun h6 hF=> ?_
  ·cases hF;exact wr af [[(0,bT h6)],[]]
  obtain⟨v4,h7,hF⟩:=ao hF;obtain⟨v5,h8,hF⟩:=ao hF;obtain⟨v6,h9,hF⟩:=ao hF;obtain⟨v7,az,hF⟩:=ao hF;cases hF;exact wr af [[(0,bF h6)],[(7,oE (k:=0) (bq h7)),(22,oE (k:=2) (bq h8)),(37,oE (k:=1) (bq h9)),(44,⟨_,_, .eq (congrArg AV.full (eR [v4,v5,v6]).symm)⟩),(46,cL (uK N (11:Int) ([v4,v5,v6]) v7 az))]]
 refine au af [[(0,bF h5)],[]] ?_;refine bc hF (fun aE hF=> ?_) fun aE hF=> ?_
 ·obtain⟨v8,aN,hF⟩:=ao hF;cases hF;exact wr af [[(0,bT aE)],[(7,oE (k:=0) (bq aN))]]
 refine au af [[(0,bF aE)],[]] ?_;refine bc hF (fun aY hF=> ?_) fun aY hF=> ?_
 ·obtain⟨v9,aJ,hF⟩:=ao hF;obtain⟨v10,bt,hF⟩:=ao hF;obtain⟨v11,aM,hF⟩:=ao hF;cases hF;exact wr af [[(0,bT aY)],[(7,oE (k:=1) (bq aJ)),(19,oE (k:=0) (bq bt)),(26,⟨_,_, .eq (congrArg AV.full (eR [v9,v10]).symm)⟩),(28,cL (uK N (14:Int) ([v9,v10]) v11 aM))]]
 refine au af [[(0,bF aY)],[]] ?_;refine bc hF (fun bp hF=> ?_) fun bp hF=> ?_
 ·obtain⟨v12,a7,hF⟩:=ao hF;obtain⟨aZ,bR,hF⟩:=ao hF;obtain⟨bu,b5,hF⟩:=ao hF;cases hF;exact wr af [[(0,bT bp)],[(7,oE (k:=1) (bq a7)),(19,oE (k:=0) (bq bR)),(26,⟨_,_, .eq (congrArg AV.full (eR [v12,aZ]).symm)⟩),(28,cL (uK N (13:Int) ([v12,aZ]) bu b5))]]
 cases hF;exact wr af [[(0,bF bp)],[]]
def Gg(N:Nat)(v5:an×Bool)(v6:akc)(v7:an):akd (Bool×akc×Int×akc×Int64×Int64×Int×Int×Int×Int×Int×Int64×(akb aU)×(akb aI)×(akb an)):=
 some (v5.2,v6,v7.ar,v7.aV,v7.ba.xN,v7.ba.xD,v7.aC.a8,v7.aC.bz,v7.aC.bE,v7.aC.bK,v7.aC.bI,v7.aK.xK,v7.aK.xL,v7.xIdx,v7.ax)
def Gj(N:Nat)(v1:cy)(v2:akc)(v3:akc)(v4:an):akd (Bool×akc×Int×akc×Int64×Int64×Int×Int×Int×Int×Int×Int64×(akb aU)×(akb aI)×(akb an)):=
 Option.bind (Fa N v1) fun v5=>
 bif v5.2 then
  Gg N v5 v2 v5.1
 else
  Gg N v5 v3 v4
theorem RP(N:Nat)(v1:cy)(v2:akc)(v3:akc)(v4:an)(r:Bool×akc×Int×akc×Int64×Int64×Int×Int×Int×Int×Int×Int64×(akb aU)×(akb aI)×(akb an))(hF:Gj N v1 v2 v3 v4=some r):bO Tryz.prog 104 [(bH v1),(.fn 114 []),(aR v2),(.ptr 0 0),(.ptr 1 0)] [.cells [(aR v3)], .cells (aA v4).cells] fun r1 h1=>r1=(aB r.1)∧h1=[.cells [(aR r.2.1)], .cells [(aw r.2.2.1),(aR r.2.2.2.1),(aH r.2.2.2.2.1),(aH r.2.2.2.2.2.1),(aw r.2.2.2.2.2.2.1),(aw r.2.2.2.2.2.2.2.1),(aw r.2.2.2.2.2.2.2.2.1),(aw r.2.2.2.2.2.2.2.2.2.1),(aw r.2.2.2.2.2.2.2.2.2.2.1),(aH r.2.2.2.2.2.2.2.2.2.2.2.1),(.d (.sl (bZ r.2.2.2.2.2.2.2.2.2.2.2.2.1))),(.d (.sl (cl r.2.2.2.2.2.2.2.2.2.2.2.2.2.1))),(.d (.sl (cq r.2.2.2.2.2.2.2.2.2.2.2.2.2.2)))]]:=by
 rw[Gj]at hF;refine eB 2 Tryz.func104 ?_;obtain⟨v5,h1,hF⟩:=ao hF;refine lE af r 1 [[],[(7,cL (aby N v1 v5 h1))],[]] [12] 4 (fun(v6:akc)(v7:an)=>⟨27,[(12,(aB v5.2))],[.cells [(aR v6)], .cells (aA v7).cells, .cells (bH v1).cells, .cells (aA v5.1).cells]⟩) (Gg N v5) ?_ ?_
 ·intro f1 aO;refine bc hF (fun h2 hF=> ?_) fun h2 hF=> ?_
  ·exact bM af aO (v2,v5.1) [[(0,bT h2)],[]] hF
  exact bM af aO (v3,v4) [[(0,bF h2)]] hF
 intro v6 v7 hF;rw[Gg]at hF;cases hF;exact cG af [[]]
def DK(N:Nat)(v1:cy):akd (an×Bool):=
 Option.bind (bif (v1.yE.ar !=(16:Int))then some (v1.yE.ar !=(17:Int))else some false) fun v2=>
 bif v2 then
  some (ef,false)
 else
  Option.bind (v1.yE.ax[0]?) fun v3=>
  Option.bind (uE N v3) fun v4=>
  Option.bind (bif v4.2 then some (v4.1==(v1.yE.ar==(16:Int)))else some false) fun v5=>
  bif v5 then
   Option.bind (v1.yE.ax[1]?) fun v6=>
   some (v6,true)
  else
   Option.bind (v1.yE.ax[1]?) fun v7=>
   Option.bind (uE N v7) fun v8=>
   Option.bind (bif v8.2 then some (v8.1==(v1.yE.ar==(16:Int)))else some false) fun v9=>
   some (v3,v9)
def R0(v1:cy)(l:akb aq):akb aq:= .cells (bH v1).cells:: .cells ep::l
theorem adw(N:Nat)(v1:cy)(r:an×Bool)(hF:DK N v1=some r):aG Tryz.prog 115 [(bH v1)] (·=(.bk [(aA r.1),(aB r.2)])):=by
 rw[DK]at hF;refine aP Tryz.func115 ?_;refine au af [[]] ?_;obtain⟨v2,h2,hF⟩:=ao hF;refine bf af [(18,(aB v2))] (R0 v1 []) ?_ ?_
 ·refine bc h2 (fun h1 h2=> ?_) fun h1 h2=> ?_
  ·cases h2;exact⟨[(4,bT h1)],[],by kernel_rfl⟩
  cases h2;exact⟨[(4,bF h1)],[],by kernel_rfl⟩
 refine bc hF (fun h3 hF=> ?_) fun h3 hF=> ?_
 ·cases hF;exact wr af [[(0,bT h3)],[]]
 obtain⟨v3,h4,hF⟩:=ao hF;obtain⟨v4,h5,hF⟩:=ao hF;refine au af [[(0,bF h3)],[],[(10,oE (k:=0) (bq h4)),(16,cL (Kz N v3 v4 h5))]] ?_;obtain⟨v5,h7,hF⟩:=ao hF;refine bf af [(38,(aB v5))] (R0 v1 []) ?_ ?_
 ·refine bc h7 (fun h6 h7=> ?_) fun h6 h7=> ?_
  ·cases h7;exact⟨[(1,bT h6)],[],by kernel_rfl⟩
  cases h7;exact⟨[(1,bF h6)],[],by kernel_rfl⟩
 refine bc hF (fun h8 hF=> ?_) fun h8 hF=> ?_
 ·obtain⟨v6,h9,hF⟩:=ao hF;cases hF;exact wr af [[(0,bT h8)],[(10,oE (k:=1) (bq h9))]]
 obtain⟨v7,az,hF⟩:=ao hF;obtain⟨v8,aE,hF⟩:=ao hF;refine au af [[(0,bF h8)],[(10,oE (k:=1) (bq az)),(16,cL (Kz N v7 v8 aE))]] ?_;obtain⟨v9,aY,hF⟩:=ao hF;refine bf af [(3,(aB v9))] [.cells (bH v1).cells, .cells (aA v3).cells] ?_ ?_
 ·refine bc aY (fun aN aY=> ?_) fun aN aY=> ?_
  ·cases aY;exact⟨[(6,bT aN)],[(10,oE (k:=0) (bq h4))],by kernel_rfl⟩
  cases aY;exact⟨[(6,bF aN)],[(10,oE (k:=0) (bq h4))],by kernel_rfl⟩
 cases hF;exact wr af []
def Hz(N:Nat)(v5:an×Bool)(v6:akc)(v7:an):akd (Bool×akc×Int×akc×Int64×Int64×Int×Int×Int×Int×Int×Int64×(akb aU)×(akb aI)×(akb an)):=
 some (v5.2,v6,v7.ar,v7.aV,v7.ba.xN,v7.ba.xD,v7.aC.a8,v7.aC.bz,v7.aC.bE,v7.aC.bK,v7.aC.bI,v7.aK.xK,v7.aK.xL,v7.xIdx,v7.ax)
def Hc(N:Nat)(v1:cy)(v2:akc)(v3:akc)(v4:an):akd (Bool×akc×Int×akc×Int64×Int64×Int×Int×Int×Int×Int×Int64×(akb aU)×(akb aI)×(akb an)):=
 Option.bind (DK N v1) fun v5=>
 bif v5.2 then
  Hz N v5 v2 v5.1
 else
  Hz N v5 v3 v4
theorem ab3(N:Nat)(v1:cy)(v2:akc)(v3:akc)(v4:an)(r:Bool×akc×Int×akc×Int64×Int64×Int×Int×Int×Int×Int×Int64×(akb aU)×(akb aI)×(akb an))(hF:Hc N v1 v2 v3 v4=some r):bO Tryz.prog 104 [(bH v1),(.fn 115 []),(aR v2),(.ptr 0 0),(.ptr 1 0)] [.cells [(aR v3)], .cells (aA v4).cells] fun r1 h1=>r1=(aB r.1)∧h1=[.cells [(aR r.2.1)], .cells [(aw r.2.2.1),(aR r.2.2.2.1),(aH r.2.2.2.2.1),(aH r.2.2.2.2.2.1),(aw r.2.2.2.2.2.2.1),(aw r.2.2.2.2.2.2.2.1),(aw r.2.2.2.2.2.2.2.2.1),(aw r.2.2.2.2.2.2.2.2.2.1),(aw r.2.2.2.2.2.2.2.2.2.2.1),(aH r.2.2.2.2.2.2.2.2.2.2.2.1),(.d (.sl (bZ r.2.2.2.2.2.2.2.2.2.2.2.2.1))),(.d (.sl (cl r.2.2.2.2.2.2.2.2.2.2.2.2.2.1))),(.d (.sl (cq r.2.2.2.2.2.2.2.2.2.2.2.2.2.2)))]]:=by
 rw[Hc]at hF;refine eB 2 Tryz.func104 ?_;obtain⟨v5,h1,hF⟩:=ao hF;refine lE af r 1 [[],[(7,cL (adw N v1 v5 h1))],[]] [12] 4 (fun(v6:akc)(v7:an)=>⟨27,[(12,(aB v5.2))],[.cells [(aR v6)], .cells (aA v7).cells, .cells (bH v1).cells, .cells (aA v5.1).cells]⟩) (Hz N v5) ?_ ?_
 ·intro f1 aO;refine bc hF (fun h2 hF=> ?_) fun h2 hF=> ?_
  ·exact bM af aO (v2,v5.1) [[(0,bT h2)],[]] hF
  exact bM af aO (v3,v4) [[(0,bF h2)]] hF
 intro v6 v7 hF;rw[Hz]at hF;cases hF;exact cG af [[]]
end Go.Proofs.YtpgmcallngdceaaGreatDoor
