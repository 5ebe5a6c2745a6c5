/-
  Part 12 of the proof: PQ3.
-/
import Derived.Test.YtpgmcallngdceaaGreatDoorSp11
namespace Go.Proofs.YtpgmcallngdceaaGreatDoor
open Go.RowKit
set_option maxRecDepth 100000
set_option maxHeartbeats 0
set_option linter.unusedVariables false
def DC:dR:=⟨b8,false⟩
def qQ:akb AV:=[(aw (0:Int)),(aw (0:Int)),(aw (0:Int)),(aw (0:Int)),(aw (0:Int)),(aB false)]
def s8:akb AV:=[(aH (0:Int64)),(.d (.v (.slice none 0 0)))]
def zh(N:Nat)(v1:aD)(v2:ay):akd (ay×Int):=
 Option.bind (q8 N v1) fun v3=>
 bif (v3 !=(0:Int))then
  some (bg,v3)
 else
  Option.bind (FZ N v2 v1.bE v1.bK) fun v4=>
  Option.bind (bif (v4.2 !=(0:Int))then some true else Option.bind (ie N v2) fun v5=>
  some (!v5)) fun v6=>
  bif v6 then
   some (bg,(1:Int))
  else
   Option.bind (lJ N v1 v4.1) fun v7=>
   some (v7,(0:Int))
theorem aiG(N:Nat)(v1:aD)(v2:ay)(r:ay×Int)(hF:zh N v1 v2=some r):aG Tryz.prog 221 [(b4 v1),(bj v2)] (·=(.bk [(bj r.1),(aw r.2)])):=by
 rw[zh]at hF;refine aP Tryz.func221 ?_;obtain⟨v3,h1,hF⟩:=ao hF;refine au af [[],[(4,cL (uM N v1 v3 h1))],[]] ?_;refine bc hF (fun h2 hF=> ?_) fun h2 hF=> ?_
 ·cases hF;exact wr af [[(0,bT h2)],[]]
 obtain⟨v4,h3,hF⟩:=ao hF;refine au af [[(0,bF h2)],[(16,cL (adT N v2 v1.bE v1.bK v4 h3))]] ?_;obtain⟨v6,h6,hF⟩:=ao hF;refine bf af [(30,(aB v6))] [.cells (b4 v1).cells, .cells (bj v2).cells, .cells fx] ?_ ?_
 ·refine bc h6 (fun h4 h6=> ?_) fun h4 h6=> ?_
  ·cases h6;exact⟨[(2,bT h4)],[],by kernel_rfl⟩
  obtain⟨v5,h5,h6⟩:=ao h6;cases h6;exact⟨[(2,bF h4)],[(13,cL (gG N v2 v5 h5))],by kernel_rfl⟩
 refine bc hF (fun h7 hF=> ?_) fun h7 hF=> ?_
 ·cases hF;exact wr af [[(0,bT h7)],[]]
 obtain⟨v7,h8,hF⟩:=ao hF;cases hF;exact wr af [[(0,bF h7)],[(7,cL (zO N v1 v4.1 v7 h8))]]
def zD(N:Nat)(v1:aD)(v2:aD)(v3:ay):akd (ay×Int):=
 Option.bind (lR N v1) fun v4=>
 Option.bind (bif (v4 !=(0:Int))then some true else Option.bind (lR N v2) fun v5=>
 some (v5 !=(0:Int))) fun v6=>
 bif v6 then
  some (bg,(10:Int))
 else
  Option.bind (mq N v1 v3) fun v7=>
  bif v7 then
   Option.bind (DS N v1 v3) fun v8=>
   bif (v2.a8==(3:Int))then
    Option.bind (Ap N v8) fun v9=>
    some ((⟨v9,(1:Int64)⟩:ay),(0:Int))
   else
    bif (v2.a8==(2:Int))then
     Option.bind (zh N v2 v8) fun v10=>
     some (v10.1,v10.2)
    else
     some (v8,(0:Int))
  else
   some (bg,(1:Int))
theorem aiU(N:Nat)(v1:aD)(v2:aD)(v3:ay)(r:ay×Int)(hF:zD N v1 v2 v3=some r):aG Tryz.prog 143 [(b4 v1),(b4 v2),(bj v3)] (·=(.bk [(bj r.1),(aw r.2)])):=by
 rw[zD]at hF;refine aP Tryz.func143 ?_;refine au af [[]] ?_;obtain⟨v4,h1,hF⟩:=ao hF;obtain⟨v6,h4,hF⟩:=ao hF;refine bf af [(9,(aB v6))] [.cells (b4 v1).cells, .cells (b4 v2).cells, .cells (bj v3).cells, .cells fx] ?_ ?_
 ·refine bc h4 (fun h2 h4=> ?_) fun h2 h4=> ?_
  ·cases h4;exact⟨[(3,bT h2)],[(4,cL (m5 N v1 v4 h1))],by kernel_rfl⟩
  obtain⟨v5,h3,h4⟩:=ao h4;cases h4;exact⟨[(3,bF h2)],[(4,cL (m5 N v1 v4 h1)),(16,cL (m5 N v2 v5 h3))],by kernel_rfl⟩
 refine bc hF (fun h5 hF=> ?_) fun h5 hF=> ?_
 ·cases hF;exact wr af [[(0,bT h5)],[]]
 obtain⟨v7,h6,hF⟩:=ao hF;refine au af [[(0,bF h5)],[(7,cL (qa N v1 v3 v7 h6))]] ?_;refine bc hF (fun h7 hF=> ?_) fun h7 hF=> ?_
 ·obtain⟨v8,h8,hF⟩:=ao hF;refine au af [[(0,bF (not_t h7))],[(7,cL (aiv N v1 v3 v8 h8))],[],[]] ?_;refine bc hF (fun h9 hF=> ?_) fun h9 hF=> ?_
  ·obtain⟨v9,az,hF⟩:=ao hF;cases hF;exact wr af [[(0,bT h9)],[(4,cL (ac0 N v8 v9 az))]]
  refine au af [[(0,bF h9)],[]] ?_;refine bc hF (fun aE hF=> ?_) fun aE hF=> ?_
  ·obtain⟨v10,aN,hF⟩:=ao hF;cases hF;exact wr af [[(0,bT aE)],[(7,cL (aiG N v2 v8 v10 aN))]]
  cases hF;exact wr af [[(0,bF aE)],[]]
 cases hF;exact wr af [[(0,bT (bS h7))],[]]
def tn(N:Nat)(v1:dR)(v2:dR):akd dR:=
 bif v1.dk then
  some v1
 else
  some v2
theorem Vi(N:Nat)(v1:dR)(v2:dR)(r:dR)(hF:tn N v1 v2=some r):aG Tryz.prog 117 [(ky v1),(ky v2)] (·=(ky r)):=by
 rw[tn]at hF;refine aP Tryz.func117 ?_;refine au af [[],[]] ?_;refine bc hF (fun h1 hF=> ?_) fun h1 hF=> ?_
 ·cases hF;exact wr af [[(0,bT h1)],[]]
 cases hF;exact wr af [[(0,bF h1)],[]]
def tC(N:Nat)(v1:an)(mQ:an→akd dR)(v10:Bool):akd dR:=
 bif v10 then
  Option.bind (v1.ax[0]?) fun v11=>
  Option.bind (mQ v11) fun v12=>
  Option.bind (v1.ax[1]?) fun aZ=>
  Option.bind (mQ aZ) fun bu=>
  Option.bind (tn N v12 bu) fun bQ=>
  some bQ
 else
  some DC
def Hj(N:Nat)(v1:an)(mQ:an→akd dR)(v2:Bool):akd dR:=
 bif v2 then
  some (⟨v1.aC,true⟩:dR)
 else
  bif (v1.ar==(2:Int))then
   some (⟨(⟨(3:Int),(0:Int),(0:Int),(0:Int),(0:Int)⟩:aD),true⟩:dR)
  else
   bif (v1.ar==(8:Int))then
    Option.bind (v1.ax[0]?) fun v3=>
    Option.bind (mQ v3) fun v4=>
    some v4
   else
    bif (v1.ar==(11:Int))then
     Option.bind (v1.ax[1]?) fun v5=>
     Option.bind (mQ v5) fun v6=>
     Option.bind (bif v6.dk then Option.bind (v1.ax[2]?) fun v7=>
     Option.bind (mQ v7) fun v8=>
     some (((v6.yT.a8==v8.yT.a8)&&((v6.yT.bz==v8.yT.bz)&&((v6.yT.bE==v8.yT.bE)&&((v6.yT.bK==v8.yT.bK)&&((v6.yT.bI==v8.yT.bI)&&true)))))&&((v6.dk==v8.dk)&&true))else some false) fun v9=>
     bif v9 then
      some v6
     else
      some DC
    else
     bif (v1.ar==(4:Int))then
      tC N v1 mQ (v1.ar==(4:Int))
     else
      bif (v1.ar==(5:Int))then
       tC N v1 mQ (v1.ar==(5:Int))
      else
       bif (v1.ar==(6:Int))then
        tC N v1 mQ (v1.ar==(6:Int))
       else
        bif (v1.ar==(7:Int))then
         tC N v1 mQ (v1.ar==(7:Int))
        else
         bif (v1.ar==(9:Int))then
          tC N v1 mQ (v1.ar==(9:Int))
         else
          tC N v1 mQ (v1.ar==(10:Int))
def jO(N:Nat):Nat→an→akd dR
 |0,_=>none
 |d+1,v1=>
  bif (v1.ar==(1:Int))then
   Hj N v1 (jO N d) (v1.ar==(1:Int))
  else
   Hj N v1 (jO N d) (v1.ar==(12:Int))
def oH(N:Nat)(v1:an):akd dR:=jO N N v1
def Oo(v1:an)(l:akb aq):akb aq:= .cells (aA v1).cells:: .cells qQ::l
theorem XW(N:Nat):∀d:Nat,(∀(v1:an)(r:dR),jO N d v1=some r→aG Tryz.prog 116 [(aA v1)] (·=(ky r))):=by
 intro d
 induction d with
 |zero=>intro v1 r hF;rw[jO]at hF;cases hF
 |succ d ih=>
  have Bc:=ih;intro v1 r hF;rw[jO]at hF;refine aP Tryz.func116 ?_;refine gN af r 1 [[],[],[]] [1,2,5,6] 2 (fun(v2:Bool)=>⟨61,[(1,(.ptr 0 0)),(2,(.ptr 1 0)),(5,(aw v1.ar)),(6,(aB v2))],(Oo v1 [])⟩) (Hj N v1 (jO N d)) ?_ ?_
  ·intro f1 aO;refine bc hF (fun eI hF=> ?_) fun eI hF=> ?_
   ·exact bM af aO (v1.ar==(1:Int)) [[(0,bT eI)]] hF
   exact bM af aO (v1.ar==(12:Int)) [[(0,bF eI)],[]] hF
  intro v2 hF;rw[Hj]at hF;refine bc hF (fun h1 hF=> ?_) fun h1 hF=> ?_
  ·cases hF;exact wr af [[(0,bT h1)],[]]
  refine au af [[(0,bF h1)],[]] ?_;refine bc hF (fun h2 hF=> ?_) fun h2 hF=> ?_
  ·cases hF;exact wr af [[(0,bT h2)],[]]
  refine au af [[(0,bF h2)],[]] ?_;refine bc hF (fun h3 hF=> ?_) fun h3 hF=> ?_
  ·obtain⟨v3,h4,hF⟩:=ao hF;obtain⟨v4,h5,hF⟩:=ao hF;obtain rfl:=sj hF;exact wr af [[(0,bT h3)],[(7,oE (k:=0) (bq h4)),(13,cL (Bc v3 v4 h5))]]
  refine au af [[(0,bF h3)],[]] ?_;refine bc hF (fun h6 hF=> ?_) fun h6 hF=> ?_
  ·obtain⟨v5,h7,hF⟩:=ao hF;obtain⟨v6,h8,hF⟩:=ao hF;refine au af [[(0,bT h6)],[(7,oE (k:=1) (bq h7)),(13,cL (Bc v5 v6 h8))]] ?_;obtain⟨v9,aN,hF⟩:=ao hF;refine bf af [(40,(aB v9))] (Oo v1 [.cells (ky v6).cells]) ?_ ?_
   ·refine bc aN (fun h9 aN=> ?_) fun h9 aN=> ?_
    ·obtain⟨v7,az,aN⟩:=ao aN;obtain⟨v8,aE,aN⟩:=ao aN;cases aN;exact⟨[(2,bT h9)],[(19,oE (k:=2) (bq az)),(25,cL (Bc v7 v8 aE))],by kernel_rfl⟩
    cases aN;exact⟨[(2,bF h9)],[],by kernel_rfl⟩
   refine bc hF (fun aY hF=> ?_) fun aY hF=> ?_
   ·cases hF;exact wr af [[(0,bT aY)],[]]
   cases hF;exact wr af [[(0,bF aY)],[]]
  refine gN af r 2 [[(0,bF h6)],[]] [1,2,42] 2 (fun(v10:Bool)=>⟨61,[(1,(.ptr 0 0)),(2,(.ptr 1 0)),(42,(aB v10))],(Oo v1 [])⟩) (tC N v1 (jO N d)) ?_ ?_
  ·intro f2 eD;refine bc hF (fun b5 hF=> ?_) fun b5 hF=> ?_
   ·exact bM af eD (v1.ar==(4:Int)) [[(0,bT b5)]] hF
   refine au af [[(0,bF b5)],[]] ?_;refine bc hF (fun ck hF=> ?_) fun ck hF=> ?_
   ·exact bM af eD (v1.ar==(5:Int)) [[(0,bT ck)]] hF
   refine au af [[(0,bF ck)],[]] ?_;refine bc hF (fun bw hF=> ?_) fun bw hF=> ?_
   ·exact bM af eD (v1.ar==(6:Int)) [[(0,bT bw)]] hF
   refine au af [[(0,bF bw)],[]] ?_;refine bc hF (fun cP hF=> ?_) fun cP hF=> ?_
   ·exact bM af eD (v1.ar==(7:Int)) [[(0,bT cP)]] hF
   refine au af [[(0,bF cP)],[]] ?_;refine bc hF (fun cC hF=> ?_) fun cC hF=> ?_
   ·exact bM af eD (v1.ar==(9:Int)) [[(0,bT cC)]] hF
   exact bM af eD (v1.ar==(10:Int)) [[(0,bF cC)],[]] hF
  intro v10 hF;rw[tC]at hF;refine bc hF (fun aJ hF=> ?_) fun aJ hF=> ?_
  ·obtain⟨v11,bt,hF⟩:=ao hF;obtain⟨v12,aM,hF⟩:=ao hF;obtain⟨aZ,bp,hF⟩:=ao hF;obtain⟨bu,a7,hF⟩:=ao hF;obtain⟨bQ,bR,hF⟩:=ao hF;obtain rfl:=sj hF;exact wr af [[(0,bT aJ)],[(7,oE (k:=0) (bq bt)),(13,cL (Bc v11 v12 aM)),(22,oE (k:=1) (bq bp)),(28,cL (Bc aZ bu a7)),(31,cL (Vi N v12 bu bQ bR))]]
  cases hF;exact wr af [[(0,bF aJ)],[]]
theorem Ho(N:Nat)(v1:an)(r:dR)(hF:oH N v1=some r):aG Tryz.prog 116 [(aA v1)] (·=(ky r)):=(XW N N) v1 r hF
def EX(N:Nat)(v1:cy):akd (an×Bool):=
 bif (v1.yE.ar !=(12:Int))then
  some (ef,false)
 else
  Option.bind (v1.yE.ax[0]?) fun v2=>
  bif (v2.ar==(1:Int))then
   Option.bind (zD N v2.aC v1.yE.aC v2.ba) fun v3=>
   Option.bind (oF N v1.yE.aC v3.1) fun v4=>
   some (v4,(v3.2==(0:Int)))
  else
   Option.bind (oH N v2) fun v5=>
   Option.bind (bif v5.dk then some ((v5.yT.a8==v1.yE.aC.a8)&&((v5.yT.bz==v1.yE.aC.bz)&&((v5.yT.bE==v1.yE.aC.bE)&&((v5.yT.bK==v1.yE.aC.bK)&&((v5.yT.bI==v1.yE.aC.bI)&&true)))))else some false) fun v6=>
   some (v2,v6)
theorem aeG(N:Nat)(v1:cy)(r:an×Bool)(hF:EX N v1=some r):aG Tryz.prog 106 [(bH v1)] (·=(.bk [(aA r.1),(aB r.2)])):=by
 rw[EX]at hF;refine aP Tryz.func106 ?_;refine au af [[],[]] ?_;refine bc hF (fun h1 hF=> ?_) fun h1 hF=> ?_
 ·cases hF;exact wr af [[(0,bT h1)],[]]
 obtain⟨v2,h2,hF⟩:=ao hF;refine au af [[(0,bF h1)],[(10,oE (k:=0) (bq h2))],[]] ?_;refine bc hF (fun h3 hF=> ?_) fun h3 hF=> ?_
 ·obtain⟨v3,h4,hF⟩:=ao hF;obtain⟨v4,h5,hF⟩:=ao hF;cases hF;exact wr af [[(0,bT h3)],[(22,cL (aiU N v2.aC v1.yE.aC v2.ba v3 h4))],[(13,cL (tH N v1.yE.aC v3.1 v4 h5))]]
 obtain⟨v5,h6,hF⟩:=ao hF;refine au af [[(0,bF h3)],[(4,cL (Ho N v2 v5 h6))]] ?_;obtain⟨v6,h8,hF⟩:=ao hF;refine JL 5 af [(3,(aB v6))] [.cells (bH v1).cells, .cells (aA v2).cells, .cells (aA v2).cells, .cells (ky v5).cells] ?_ ?_
 ·refine bc h8 (fun h7 h8=> ?_) fun h7 h8=> ?_
  ·cases h8;exact⟨[(3,bT h7)],[],by kernel_rfl⟩
  cases h8;exact⟨[(3,bF h7)],[],by kernel_rfl⟩
 cases hF;exact wr af []
def Ir(N:Nat)(v5:an×Bool)(v6:akc)(v7:an):akd (Bool×akc×Int×akc×Int64×Int64×Int×Int×Int×Int×Int×Int64×(akb aU)×(akb aI)×(akb an)):=
 some (v5.2,v6,v7.ar,v7.aV,v7.ba.xN,v7.ba.xD,v7.aC.a8,v7.aC.bz,v7.aC.bE,v7.aC.bK,v7.aC.bI,v7.aK.xK,v7.aK.xL,v7.xIdx,v7.ax)
def GF(N:Nat)(v1:cy)(v2:akc)(v3:akc)(v4:an):akd (Bool×akc×Int×akc×Int64×Int64×Int×Int×Int×Int×Int×Int64×(akb aU)×(akb aI)×(akb an)):=
 Option.bind (EX N v1) fun v5=>
 bif v5.2 then
  Ir N v5 v2 v5.1
 else
  Ir N v5 v3 v4
theorem oW(N:Nat)(v1:cy)(v2:akc)(v3:akc)(v4:an)(r:Bool×akc×Int×akc×Int64×Int64×Int×Int×Int×Int×Int×Int64×(akb aU)×(akb aI)×(akb an))(hF:GF N v1 v2 v3 v4=some r):bO Tryz.prog 104 [(bH v1),(.fn 106 []),(aR v2),(.ptr 0 0),(.ptr 1 0)] [.cells [(aR v3)], .cells (aA v4).cells] fun r1 h1=>r1=(aB r.1)∧h1=[.cells [(aR r.2.1)], .cells [(aw r.2.2.1),(aR r.2.2.2.1),(aH r.2.2.2.2.1),(aH r.2.2.2.2.2.1),(aw r.2.2.2.2.2.2.1),(aw r.2.2.2.2.2.2.2.1),(aw r.2.2.2.2.2.2.2.2.1),(aw r.2.2.2.2.2.2.2.2.2.1),(aw r.2.2.2.2.2.2.2.2.2.2.1),(aH r.2.2.2.2.2.2.2.2.2.2.2.1),(.d (.sl (bZ r.2.2.2.2.2.2.2.2.2.2.2.2.1))),(.d (.sl (cl r.2.2.2.2.2.2.2.2.2.2.2.2.2.1))),(.d (.sl (cq r.2.2.2.2.2.2.2.2.2.2.2.2.2.2)))]]:=by
 rw[GF]at hF;refine eB 2 Tryz.func104 ?_;obtain⟨v5,h1,hF⟩:=ao hF;refine lE af r 1 [[],[(7,cL (aeG N v1 v5 h1))],[]] [12] 4 (fun(v6:akc)(v7:an)=>⟨27,[(12,(aB v5.2))],[.cells [(aR v6)], .cells (aA v7).cells, .cells (bH v1).cells, .cells (aA v5.1).cells]⟩) (Ir N v5) ?_ ?_
 ·intro f1 aO;refine bc hF (fun h2 hF=> ?_) fun h2 hF=> ?_
  ·exact bM af aO (v2,v5.1) [[(0,bT h2)],[]] hF
  exact bM af aO (v3,v4) [[(0,bF h2)]] hF
 intro v6 v7 hF;rw[Ir]at hF;cases hF;exact cG af [[]]
def Jj(N:Nat)(v1:Int64):akd aF:=
 some (⟨v1,[]⟩:aF)
theorem ab6(N:Nat)(v1:Int64)(r:aF)(hF:Jj N v1=some r):aG Tryz.prog 289 [(aH v1)] (·=(b9 r)):=by
 rw[Jj]at hF;refine aP Tryz.func289 ?_;cases hF;exact wr af [[],[]]
def og(N:Nat)(v1:an):akd (aF×Bool):=
 bif (v1.ar==(2:Int))then
  some (v1.aK,true)
 else
  Option.bind (bif (v1.ar==(1:Int))then some (v1.aC.a8==(3:Int))else some false) fun v2=>
  bif v2 then
   Option.bind (Jj N v1.ba.xN) fun v3=>
   some (v3,true)
  else
   some (zLin,false)
theorem IN(N:Nat)(v1:an)(r:aF×Bool)(hF:og N v1=some r):aG Tryz.prog 239 [(aA v1)] (·=(.bk [(b9 r.1),(aB r.2)])):=by
 rw[og]at hF;refine aP Tryz.func239 ?_;refine au af [[],[]] ?_;refine bc hF (fun h1 hF=> ?_) fun h1 hF=> ?_
 ·cases hF;exact wr af [[(0,bT h1)],[]]
 refine au af [[(0,bF h1)]] ?_;obtain⟨v2,h3,hF⟩:=ao hF;refine bf af [(10,(aB v2))] [.cells (aA v1).cells, .cells s8] ?_ ?_
 ·refine bc h3 (fun h2 h3=> ?_) fun h2 h3=> ?_
  ·cases h3;exact⟨[(3,bT h2)],[],by kernel_rfl⟩
  cases h3;exact⟨[(3,bF h2)],[],by kernel_rfl⟩
 refine bc hF (fun h4 hF=> ?_) fun h4 hF=> ?_
 ·obtain⟨v3,h5,hF⟩:=ao hF;cases hF;exact wr af [[(0,bT h4)],[(10,cL (ab6 N v1.ba.xN v3 h5))]]
 cases hF;exact wr af [[(0,bF h4)],[]]
def yX(N:Nat)(v1:Int64):akd Int:=
 bif (decide (v1.toInt<(0:Int)))then
  some (IntKind.u64.wrap (0-(IntKind.u64.wrap v1.toInt)))
 else
  some (IntKind.u64.wrap v1.toInt)
theorem Ps(N:Nat)(v1:Int64)(r:Int)(hF:yX N v1=some r):aG Tryz.prog 212 [(aH v1)] (·=(.d (.v (.int .u64 r)))):=by
 rw[yX]at hF;refine aP Tryz.func212 ?_;refine au af [[],[]] ?_;refine bc hF (fun h1 hF=> ?_) fun h1 hF=> ?_
 ·cases hF;exact wr af [[(0,bT h1)],[]]
 cases hF;exact wr af [[(0,bF h1)],[]]
def CM(N:Nat)(v1:Int)(v2:Int):akd (Int×Int):=
 some ((IntKind.u64.wrap ((IntKind.u64.wrap ((IntKind.u64.wrap (((v1).fdiv (2^(min ((32:Int)).toNat (IntKind.bits .u64))))*((v2).fdiv (2^(min ((32:Int)).toNat (IntKind.bits .u64))))))+(((IntKind.u64.wrap ((IntKind.u64.wrap (((v1).fdiv (2^(min ((32:Int)).toNat (IntKind.bits .u64))))*(IntKind.u64.wrap ((BitVec.ofInt (IntKind.bits .u64) v2&&&BitVec.ofInt (IntKind.bits .u64) (4294967295:Int)).toNat:Int))))+(((IntKind.u64.wrap ((IntKind.u64.wrap ((BitVec.ofInt (IntKind.bits .u64) v1&&&BitVec.ofInt (IntKind.bits .u64) (4294967295:Int)).toNat:Int))*(IntKind.u64.wrap ((BitVec.ofInt (IntKind.bits .u64) v2&&&BitVec.ofInt (IntKind.bits .u64) (4294967295:Int)).toNat:Int))))).fdiv (2^(min ((32:Int)).toNat (IntKind.bits .u64))))))).fdiv (2^(min ((32:Int)).toNat (IntKind.bits .u64))))))+(((IntKind.u64.wrap ((IntKind.u64.wrap ((IntKind.u64.wrap ((BitVec.ofInt (IntKind.bits .u64) v1&&&BitVec.ofInt (IntKind.bits .u64) (4294967295:Int)).toNat:Int))*((v2).fdiv (2^(min ((32:Int)).toNat (IntKind.bits .u64))))))+(IntKind.u64.wrap ((BitVec.ofInt (IntKind.bits .u64) (IntKind.u64.wrap ((IntKind.u64.wrap (((v1).fdiv (2^(min ((32:Int)).toNat (IntKind.bits .u64))))*(IntKind.u64.wrap ((BitVec.ofInt (IntKind.bits .u64) v2&&&BitVec.ofInt (IntKind.bits .u64) (4294967295:Int)).toNat:Int))))+(((IntKind.u64.wrap ((IntKind.u64.wrap ((BitVec.ofInt (IntKind.bits .u64) v1&&&BitVec.ofInt (IntKind.bits .u64) (4294967295:Int)).toNat:Int))*(IntKind.u64.wrap ((BitVec.ofInt (IntKind.bits .u64) v2&&&BitVec.ofInt (IntKind.bits .u64) (4294967295:Int)).toNat:Int))))).fdiv (2^(min ((32:Int)).toNat (IntKind.bits .u64))))))&&&BitVec.ofInt (IntKind.bits .u64) (4294967295:Int)).toNat:Int))))).fdiv (2^(min ((32:Int)).toNat (IntKind.bits .u64)))))),(IntKind.u64.wrap (v1*v2)))
theorem ad9(N:Nat)(v1:Int)(v2:Int)(r:Int×Int)(hF:CM N v1 v2=some r):aG Tryz.prog 215 [(.d (.v (.int .u64 v1))),(.d (.v (.int .u64 v2)))] (·=(.bk [(.d (.v (.int .u64 r.1))),(.d (.v (.int .u64 r.2)))])):=by
 rw[CM]at hF;refine aP Tryz.func215 ?_;cases hF;exact wr af [[],[],[(4,⟨_,_, .nn (b:=(32:Int)) (by decide)⟩),(19,⟨_,_, .nn (b:=(32:Int)) (by decide)⟩)],[(10,⟨_,_, .nn (b:=(32:Int)) (by decide)⟩)],[(4,⟨_,_, .nn (b:=(32:Int)) (by decide)⟩),(10,⟨_,_, .nn (b:=(32:Int)) (by decide)⟩),(19,⟨_,_, .nn (b:=(32:Int)) (by decide)⟩),(28,⟨_,_, .nn (b:=(32:Int)) (by decide)⟩)]]
def xp(N:Nat)(v1:Int64)(v2:Int64):akd (Int64×Bool):=
 Option.bind (yX N v1) fun v3=>
 Option.bind (yX N v2) fun v4=>
 Option.bind (CM N v3 v4) fun v5=>
 Option.bind (bif (v5.1 !=(0:Int))then some true else(bif (decide (v5.2>(9223372036854775808:Int)))then some true else(bif (v5.2==(9223372036854775808:Int))then some (!(!((decide (v1.toInt<(0:Int)))==(decide (v2.toInt<(0:Int))))))else some false))) fun v6=>
 bif v6 then
  some ((0:Int64),false)
 else
  bif ((decide (v1.toInt<(0:Int)))==(decide (v2.toInt<(0:Int))))then
   some ((Int64.ofInt v5.2),true)
  else
   some ((Int64.ofInt (IntKind.u64.wrap (0-v5.2))),true)
theorem TW(N:Nat)(v1:Int64)(v2:Int64)(r:Int64×Bool)(hF:xp N v1 v2=some r):aG Tryz.prog 242 [(aH v1),(aH v2)] (·=(.bk [(aH r.1),(aB r.2)])):=by
 rw[xp]at hF;refine aP Tryz.func242 ?_;obtain⟨v3,h1,hF⟩:=ao hF;obtain⟨v4,h2,hF⟩:=ao hF;obtain⟨v5,h3,hF⟩:=ao hF;refine au af [[],[(4,cL (Ps N v1 v3 h1)),(10,cL (Ps N v2 v4 h2)),(13,cL (ad9 N v3 v4 v5 h3))],[]] ?_;obtain⟨v6,h7,hF⟩:=ao hF;refine bf af [(22,(aB v6))] [] ?_ ?_
 ·refine bc h7 (fun h4 h7=> ?_) fun h4 h7=> ?_
  ·cases h7;exact⟨[(2,bT h4),(6,bT rfl),(9,uN)],[],by kernel_rfl⟩
  refine bc h7 (fun h5 h7=> ?_) fun h5 h7=> ?_
  ·cases h7;exact⟨[(2,bF h4),(6,bT h5),(9,uN)],[],by kernel_rfl⟩
  refine bc h7 (fun h6 h7=> ?_) fun h6 h7=> ?_
  ·cases h7;exact⟨[(2,bF h4),(6,bF h5),(9,bT h6)],[(37,bT h6)],by kernel_rfl⟩
  cases h7;exact⟨[(2,bF h4),(6,bF h5),(9,bF h6)],[(37,bF h6)],by kernel_rfl⟩
 refine bc hF (fun h8 hF=> ?_) fun h8 hF=> ?_
 ·cases hF;exact wr af [[(0,bT h8)],[]]
 refine au af [[(0,bF h8)],[]] ?_;refine bc hF (fun h9 hF=> ?_) fun h9 hF=> ?_
 ·cases hF;exact wr af [[(0,bF (not_t h9))],[(5,⟨_,_, .eq (eK v5.2)⟩)]]
 cases hF;exact wr af [[(0,bT (bS h9))],[(8,⟨_,_, .eq (eK (IntKind.u64.wrap (0-v5.2)))⟩)]]
def se(N:Nat)(v4:Int64×Bool)(v2:Int64):akb aU→Nat→Bool→(akb aU)→akd (aF×Int)
 |[],_,v9,v10=>
  bif v9 then
   some ((⟨v4.1,v10⟩:aF),(0:Int))
  else
   some (zLin,(3:Int))
 |v7::v8,v5,v9,v10=>
  Option.bind (xp N v7.cH v2) fun v11=>
  Option.bind (bif v9 then some v11.2 else some false) fun v12=>
  bif (Nat.ble ((v10.length+1)*24) 140737488355328)then
  (fun cX gh=>se N v4 v2 v8 (v5+1) cX gh) v12 (v10++[(⟨v7.aV,v11.1⟩:aU)])
  else none
def qc(N:Nat)(v1:aF)(v2:Int64):akd (aF×Int):=
 Option.bind (vr N v1) fun v3=>
 bif (v3 !=(0:Int))then
  some (zLin,(1:Int))
 else
  bif (v2.toInt==(0:Int))then
   some (zLin,(0:Int))
  else
   Option.bind (xp N v1.xK v2) fun v4=>
   se N v4 v2 v1.xL 0 v4.2 []
theorem J8(N:Nat)(v1:aF)(v2:Int64)(r:aF×Int)(hF:qc N v1 v2=some r):aG Tryz.prog 182 [(b9 v1),(aH v2)] (·=(.bk [(b9 r.1),(aw r.2)])):=by
 rw[qc]at hF;refine aP Tryz.func182 ?_;obtain⟨v3,h1,hF⟩:=ao hF;refine au af [[],[(4,cL (B9 N v1 v3 h1))]] ?_;refine bc hF (fun h2 hF=> ?_) fun h2 hF=> ?_
 ·cases hF;exact wr af [[(0,bT h2)],[]]
 refine au af [[(0,bF h2)],[]] ?_;refine bc hF (fun h3 hF=> ?_) fun h3 hF=> ?_
 ·cases hF;exact wr af [[(0,bT h3)],[]]
 obtain⟨v4,h4,hF⟩:=ao hF;refine au af [[(0,bF h3)],[(10,cL (TW N v1.xK v2 v4 h4))],[],[(7,oL v1.xL dd)]] ?_;refine JI 2 1 114 2 [] (.inr (by kernel_rfl)) ?_;refine fO nG 30 v1.xL fun h6=> ?_;refine rp af 1 [] [1,4,7,8,30,31,32] 4 [] [(1,1)] (fun((v5,v6,v9,v10):Nat×(akb aU)×Bool×(akb aU))=>⟨61,[(1,(aH v2)),(4,(.ptr 1 0)),(7,(aB v9)),(8,(.ptr 2 0)),(30,(.d (.sl (bZ v1.xL)))),(31,(aw (v1.xL.length:Int))),(32,(aw (v5:Int)))],[.cells (b9 v1).cells, .cells s8, .cells [(aH v4.1),(.own 3 (bZ v10))], .front 114 2 v10.length]⟩) (fun((v5,v6,v9,v10):Nat×(akb aU)×Bool×(akb aU))=>v1.xL.drop v5=v6∧se N v4 v2 v6 v5 v9 v10=some r) (fun((v5,v6,v9,v10):Nat×(akb aU)×Bool×(akb aU))=>v6.length) (0,v1.xL,v4.2,[]) ⟨rfl,hF⟩ ?_;rintro⟨v5,v6,v9,v10⟩ ⟨h7,hF⟩ f1 aO;cases v6 with
 |nil=>
  rw[se]at hF;refine au af [[],[(0,bF (cJ h7))],[]] ?_;refine bc hF (fun h8 hF=> ?_) fun h8 hF=> ?_
  ·cases hF;exact wr af [[(0,bF (not_t h8))],[]]
  cases hF;exact wr af [[(0,bT (bS h8))],[]]
 |cons v7 v8=>
  rw[se]at hF;obtain⟨v11,h9,hF⟩:=ao hF;refine au af [[],[(0,bT (cD h7))],[(1,oE (eN (cd h7)))],[(10,cL (TW N v7.cH v2 v11 h9))]] ?_;obtain⟨v12,aE,hF⟩:=ao hF;refine bf af [(7,(aB v12))] [.cells (b9 v1).cells, .cells s8, .cells [(aH v4.1),(.own 3 (bZ v10))], .front 114 2 v10.length, .cells (GN v7).cells] ?_ ?_
  ·refine bc aE (fun az aE=> ?_) fun az aE=> ?_
   ·cases aE;exact⟨[(1,bT az)],[],by kernel_rfl⟩
   cases aE;exact⟨[(1,bF az)],[],by kernel_rfl⟩
  obtain⟨aN,hF⟩:=dn hF;exact ot af aO (v5+1,v8,v12,(v10++[(⟨v7.aV,v11.1⟩:aU)])) [[(22,oA nG v10 ([(⟨v7.aV,v11.1⟩:aU)]) aN)],[(2,oq (dh h7 rfl h6))]] ⟨ju h7,hF⟩
def zx(N:Nat)(v1:Int64)(v2:Int64):akd (Int64×Bool):=
 some ((v1+v2),((decide ((v1+v2).toInt>v1.toInt))==(decide (v2.toInt>(0:Int)))))
theorem Wq(N:Nat)(v1:Int64)(v2:Int64)(r:Int64×Bool)(hF:zx N v1 v2=some r):aG Tryz.prog 290 [(aH v1),(aH v2)] (·=(.bk [(aH r.1),(aB r.2)])):=by
 rw[zx]at hF;refine aP Tryz.func290 ?_;cases hF;exact wr af [[],[(8,⟨_,_, .eq (lg v1 v2)⟩)],[]]
def uL(N:Nat)(v1:akc)(v2:Int64)(v3:Int64)(v4:Bool)(v5:Int64)(v6:akb aU):akd (Bool×(akb aU)):=
 Option.bind (zx N v2 v3) fun v7=>
 Option.bind (bif v4 then some v7.2 else some false) fun v8=>
 bif (v7.1.toInt !=(0:Int))then
  bif (Nat.ble ((v6.length+1)*24) 140737488355328)then
  some (v8,(v6++[(⟨v1,v7.1⟩:aU)]))
  else none
 else
  some (v8,v6)
theorem JX(N:Nat)(v1:akc)(v2:Int64)(v3:Int64)(v4:Bool)(v5:Int64)(v6:akb aU)(r:Bool×(akb aU))(hF:uL N v1 v2 v3 v4 v5 v6=some r):bO Tryz.prog 292 [(aR v1),(aH v2),(aH v3),(.ptr 0 0),(.ptr 1 0)] [.cells [(aB v4)], .cells [(aH v5),(.own 2 (bZ v6))], .front 114 2 v6.length] fun r1 h1=>r1=(.bk [])∧h1=[.cells [(aB r.1)], .cells [(aH v5),(.own 2 (bZ r.2))], .front 114 2 r.2.length]:=by
 rw[uL]at hF;refine eB 3 Tryz.func292 ?_;obtain⟨v7,h1,hF⟩:=ao hF;refine au af [[(7,cL (Wq N v2 v3 v7 h1))]] ?_;obtain⟨v8,h3,hF⟩:=ao hF;refine bf af [] [.cells [(aB v8)], .cells [(aH v5),(.own 2 (bZ v6))], .front 114 2 v6.length] ?_ ?_
 ·refine bc h3 (fun h2 h3=> ?_) fun h2 h3=> ?_
  ·cases h3;exact⟨[(1,bT h2)],[],by kernel_rfl⟩
  cases h3;exact⟨[(1,bF h2)],[],by kernel_rfl⟩
 refine au af [[]] ?_;refine bc hF (fun h4 hF=> ?_) fun h4 hF=> ?_
 ·obtain⟨h5,hF⟩:=dn hF;cases hF;exact cG af [[(0,bT h4)],[(19,oA nG v6 ([(⟨v1,v7.1⟩:aU)]) h5)]]
 cases hF;exact cG af [[(0,bF h4)]]
def kT(N:Nat)(v4:Int64):Nat→(akb aU)→(akb aU)→Bool→(akb aU)→akd (Bool×(akb aU))
 |0,_,_,_,_=>none
 |v5+1,v6,v7,v8,v9=>
  Option.bind (bif (decide ((v6.length:Int)>(0:Int)))then some true else some (decide ((v7.length:Int)>(0:Int)))) fun v10=>
  bif v10 then
   Option.bind (bif ((v7.length:Int)==(0:Int))then some true else(bif (decide ((v6.length:Int)>(0:Int)))then Option.bind (v6[0]?) fun v11=>
   Option.bind (v7[0]?) fun v12=>
   some (Op.bytesLess (bL v11.aV) (bL v12.aV))else some false)) fun aZ=>
   bif aZ then
    Option.bind (v6[0]?) fun bu=>
    Option.bind (uL N bu.aV bu.cH (0:Int64) v8 v4 v9) fun bQ=>
    bif (decide (1≤v6.length))then
    (fun cX gh D0 Da=>kT N v4 v5 cX gh D0 Da) (v6.drop 1) v7 bQ.1 bQ.2
    else none
   else
    Option.bind (bif ((v6.length:Int)==(0:Int))then some true else Option.bind (v7[0]?) fun de=>
    Option.bind (v6[0]?) fun bW=>
    some (Op.bytesLess (bL de.aV) (bL bW.aV))) fun bx=>
    bif bx then
     Option.bind (v7[0]?) fun cA=>
     Option.bind (uL N cA.aV (0:Int64) cA.cH v8 v4 v9) fun v20=>
     bif (decide (1≤v7.length))then
     (fun cX gh D0 Da=>kT N v4 v5 cX gh D0 Da) v6 (v7.drop 1) v20.1 v20.2
     else none
    else
     Option.bind (v6[0]?) fun v21=>
     Option.bind (v7[0]?) fun eX=>
     Option.bind (uL N v21.aV v21.cH eX.cH v8 v4 v9) fun dt=>
     bif (decide (1≤v6.length))then
     bif (decide (1≤v7.length))then
     (fun cX gh D0 Da=>kT N v4 v5 cX gh D0 Da) (v6.drop 1) (v7.drop 1) dt.1 dt.2
     else none
     else none
  else
   some (v8,v9)
def He(N:Nat)(v1:akb aU)(v2:akb aU)(v3:Bool)(v4:Int64):akd (Bool×(akb aU)):=
 kT N v4 N v1 v2 v3 []
def wY(v8:Bool)(v4:Int64)(v9:akb aU)(l:akb aq):akb aq:= .cells [(aB v8)]:: .cells [(aH v4),(.own 2 (bZ v9))]:: .front 114 2 v9.length::l
theorem afb(N:Nat)(v1:akb aU)(v2:akb aU)(v3:Bool)(v4:Int64)(r:Bool×(akb aU))(hF:He N v1 v2 v3 v4=some r):bO Tryz.prog 291 [(.d (.sl (bZ v1))),(.d (.sl (bZ v2))),(.fn 292 [(.ptr 0 0),(.ptr 1 0)])] [.cells [(aB v3)], .cells [(aH v4),(.d (.v (.slice none 0 0)))]] fun r1 h1=>r1=(.bk [])∧h1=[.cells [(aB r.1)], .cells [(aH v4),(.own 2 (bZ r.2))], .front 114 2 r.2.length]:=by
 rw[He]at hF;refine eB 3 Tryz.func291 ?_;refine JI 1 1 114 2 [] (.inr (by kernel_rfl)) ?_;refine LA af 1 [] [0,1,2] 3 (fun((v5,v6,v7,v8,v9):Nat×(akb aU)×(akb aU)×Bool×(akb aU))=>⟨91,[(0,(.d (.sl (bZ v6)))),(1,(.d (.sl (bZ v7)))),(2,(.fn 292 [(.ptr 0 0),(.ptr 1 0)]))],(wY v8 v4 v9 [])⟩) (fun((v5,v6,v7,v8,v9):Nat×(akb aU)×(akb aU)×Bool×(akb aU))=>kT N v4 v5 v6 v7 v8 v9=some r) (fun((v5,v6,v7,v8,v9):Nat×(akb aU)×(akb aU)×Bool×(akb aU))=>v5) (N,v1,v2,v3,[]) hF ?_;rintro⟨v5,v6,v7,v8,v9⟩ hF f1 aO
 try dsimp only at hF
 cases v5 with
 |zero=>
  rw[kT]at hF;cases hF
 |succ v5=>
  rw[kT]at hF;obtain⟨v10,h2,hF⟩:=ao hF;refine bf af [(13,(aB v10))] (wY v8 v4 v9 []) ?_ ?_
  ·refine bc h2 (fun h1 h2=> ?_) fun h1 h2=> ?_
   ·cases h2;exact⟨[(3,bT h1)],[(4,oL v6 dd)],by kernel_rfl⟩
   cases h2;exact⟨[(3,bF h1)],[(4,oL v6 dd),(16,oL v7 dd)],by kernel_rfl⟩
  refine bc hF (fun h3 hF=> ?_) fun h3 hF=> ?_
  ·refine au af [[(0,bT h3)]] ?_;obtain⟨aZ,h8,hF⟩:=ao hF;refine bf af [(32,(aB aZ))] (wY v8 v4 v9 []) ?_ ?_
   ·refine bc h8 (fun h4 h8=> ?_) fun h4 h8=> ?_
    ·cases h8;exact⟨[(3,bT h4),(7,uN)],[(4,oL v7 dd)],by kernel_rfl⟩
    refine bc h8 (fun h5 h8=> ?_) fun h5 h8=> ?_
    ·obtain⟨v11,h6,h8⟩:=ao h8;obtain⟨v12,h7,h8⟩:=ao h8;cases h8;exact⟨[(3,bF h4),(7,bT h5)],[(4,oL v7 dd),(16,oL v6 dd),(28,oE (k:=0) (eN h6)),(40,oE (k:=0) (eN h7)),(52,bT h5)],by kernel_rfl⟩
    cases h8;exact⟨[(3,bF h4),(7,bF h5)],[(4,oL v7 dd),(16,oL v6 dd),(52,bF h5)],by kernel_rfl⟩
   refine bc hF (fun h9 hF=> ?_) fun h9 hF=> ?_
   ·refine au af [[(0,bT h9)]] ?_;obtain⟨bu,az,hF⟩:=ao hF;obtain⟨bQ,aE,hF⟩:=ao hF;refine Mn af [(7,oE (k:=0) (eN az)),(19,oE (k:=0) (eN az)),(28,oR [(aR bu.aV),(aH bu.cH),(aH (0:Int64)),(.ptr 0 0),(.ptr 1 0)] (wY v8 v4 v9 []) [0,1,2] (JX N bu.aV bu.cH (0:Int64) v8 v4 v9 bQ aE))] [] [.cells [(aB bQ.1)], .cells [(aH v4),(.own 2 (bZ bQ.2))], .front 114 2 bQ.2.length] ?_;obtain⟨aN,hF⟩:=dn hF;exact Di af aO (v5,(v6.drop 1),v7,bQ.1,bQ.2) [[(4,⟨_,_, .CE (xs:=bZ v6) (lo:=(1:Int)) (by decide) (by rw[dd];exact(of_decide_eq_true aN)) xn HX⟩)]] hF
   refine au af [[(0,bF h9)]] ?_;obtain⟨bx,aM,hF⟩:=ao hF;refine bf af [(64,(aB bx))] (wY v8 v4 v9 []) ?_ ?_
   ·refine bc aM (fun aY aM=> ?_) fun aY aM=> ?_
    ·cases aM;exact⟨[(3,bT aY)],[(4,oL v6 dd)],by kernel_rfl⟩
    obtain⟨de,aJ,aM⟩:=ao aM;obtain⟨bW,bt,aM⟩:=ao aM;cases aM;exact⟨[(3,bF aY)],[(4,oL v6 dd),(16,oE (k:=0) (eN aJ)),(28,oE (k:=0) (eN bt))],by kernel_rfl⟩
   refine bc hF (fun bp hF=> ?_) fun bp hF=> ?_
   ·refine au af [[(0,bT bp)]] ?_;obtain⟨cA,a7,hF⟩:=ao hF;obtain⟨v20,bR,hF⟩:=ao hF;refine Mn af [(7,oE (k:=0) (eN a7)),(19,oE (k:=0) (eN a7)),(28,oR [(aR cA.aV),(aH (0:Int64)),(aH cA.cH),(.ptr 0 0),(.ptr 1 0)] (wY v8 v4 v9 []) [0,1,2] (JX N cA.aV (0:Int64) cA.cH v8 v4 v9 v20 bR))] [] [.cells [(aB v20.1)], .cells [(aH v4),(.own 2 (bZ v20.2))], .front 114 2 v20.2.length] ?_;obtain⟨b5,hF⟩:=dn hF;exact Di af aO (v5,v6,(v7.drop 1),v20.1,v20.2) [[(4,⟨_,_, .CE (xs:=bZ v7) (lo:=(1:Int)) (by decide) (by rw[dd];exact(of_decide_eq_true b5)) xn HX⟩)]] hF
   refine au af [[(0,bF bp)]] ?_;obtain⟨v21,ck,hF⟩:=ao hF;obtain⟨eX,bw,hF⟩:=ao hF;obtain⟨dt,cP,hF⟩:=ao hF;refine Mn af [(7,oE (k:=0) (eN ck)),(19,oE (k:=0) (eN ck)),(31,oE (k:=0) (eN bw)),(40,oR [(aR v21.aV),(aH v21.cH),(aH eX.cH),(.ptr 0 0),(.ptr 1 0)] (wY v8 v4 v9 []) [0,1,2] (JX N v21.aV v21.cH eX.cH v8 v4 v9 dt cP))] [] [.cells [(aB dt.1)], .cells [(aH v4),(.own 2 (bZ dt.2))], .front 114 2 dt.2.length] ?_;obtain⟨cC,hF⟩:=dn hF;obtain⟨eI,hF⟩:=dn hF;exact Di af aO (v5,(v6.drop 1),(v7.drop 1),dt.1,dt.2) [[(4,⟨_,_, .CE (xs:=bZ v6) (lo:=(1:Int)) (by decide) (by rw[dd];exact(of_decide_eq_true cC)) xn HX⟩),(10,⟨_,_, .CE (xs:=bZ v7) (lo:=(1:Int)) (by decide) (by rw[dd];exact(of_decide_eq_true eI)) xn HX⟩)]] hF
  cases hF;exact cG af [[(0,bF h3)]]
def uc(N:Nat)(v1:aF)(v2:aF):akd (aF×Int):=
 Option.bind (vr N v1) fun v3=>
 Option.bind (bif (v3 !=(0:Int))then some true else Option.bind (vr N v2) fun v4=>
 some (v4 !=(0:Int))) fun v5=>
 bif v5 then
  some (zLin,(1:Int))
 else
  Option.bind (zx N v1.xK v2.xK) fun v6=>
  Option.bind (He N v1.xL v2.xL v6.2 v6.1) fun v7=>
  bif v7.1 then
   some ((⟨v6.1,v7.2⟩:aF),(0:Int))
  else
   some (zLin,(3:Int))
theorem Qq(N:Nat)(v1:aF)(v2:aF)(r:aF×Int)(hF:uc N v1 v2=some r):aG Tryz.prog 241 [(b9 v1),(b9 v2)] (·=(.bk [(b9 r.1),(aw r.2)])):=by
 rw[uc]at hF;refine aP Tryz.func241 ?_;refine au af [[]] ?_;obtain⟨v3,h1,hF⟩:=ao hF;obtain⟨v5,h4,hF⟩:=ao hF;refine bf af [(15,(aB v5))] [.cells (b9 v1).cells, .cells (b9 v2).cells, .cells s8] ?_ ?_
 ·refine bc h4 (fun h2 h4=> ?_) fun h2 h4=> ?_
  ·cases h4;exact⟨[(3,bT h2)],[(4,cL (B9 N v1 v3 h1))],by kernel_rfl⟩
  obtain⟨v4,h3,h4⟩:=ao h4;cases h4;exact⟨[(3,bF h2)],[(4,cL (B9 N v1 v3 h1)),(16,cL (B9 N v2 v4 h3))],by kernel_rfl⟩
 refine bc hF (fun h5 hF=> ?_) fun h5 hF=> ?_
 ·cases hF;exact wr af [[(0,bT h5)],[]]
 obtain⟨v6,h6,hF⟩:=ao hF;obtain⟨v7,h7,hF⟩:=ao hF;refine au af [[(0,bF h5)],[],[],[(13,cL (Wq N v1.xK v2.xK v6 h6))],[(16,oR [(.d (.sl (bZ v1.xL))),(.d (.sl (bZ v2.xL))),(.fn 292 [(.ptr 4 0),(.ptr 3 0)])] [.cells (b9 v1).cells, .cells (b9 v2).cells, .cells s8, .cells [(aH v6.1),(.d (.v (.slice none 0 0)))], .cells [(aB v6.2)]] [4,3] (afb N v1.xL v2.xL v6.2 v6.1 v7 h7))],[]] ?_;refine bc hF (fun h8 hF=> ?_) fun h8 hF=> ?_
 ·cases hF;exact wr af [[(0,bF (not_t h8))],[]]
 cases hF;exact wr af [[(0,bT (bS h8))],[]]
def vy(N:Nat)(v1:aF)(v2:aF):akd (aF×Bool):=
 Option.bind (qc N v2 (-1:Int64)) fun v3=>
 bif (v3.2 !=(0:Int))then
  some (zLin,false)
 else
  Option.bind (uc N v1 v3.1) fun v4=>
  some (v4.1,(v4.2==(0:Int)))
theorem VR(N:Nat)(v1:aF)(v2:aF)(r:aF×Bool)(hF:vy N v1 v2=some r):aG Tryz.prog 240 [(b9 v1),(b9 v2)] (·=(.bk [(b9 r.1),(aB r.2)])):=by
 rw[vy]at hF;refine aP Tryz.func240 ?_;obtain⟨v3,h1,hF⟩:=ao hF;refine au af [[],[(4,cL (J8 N v2 (-1:Int64) v3 h1))],[]] ?_;refine bc hF (fun h2 hF=> ?_) fun h2 hF=> ?_
 ·cases hF;exact wr af [[(0,bT h2)],[]]
 obtain⟨v4,h3,hF⟩:=ao hF;cases hF;exact wr af [[(0,bF h2)],[(7,cL (Qq N v1 v3.1 v4 h3))],[]]
def AM(N:Nat)(v1:aF):akd an:=
 some (⟨(2:Int),(bs []),bg,b8,v1,[],[]⟩:an)
theorem Gb(N:Nat)(v1:aF)(r:an)(hF:AM N v1=some r):aG Tryz.prog 183 [(b9 v1)] (·=(aA r)):=by
 rw[AM]at hF;refine aP Tryz.func183 ?_;cases hF;exact wr af [[],[]]
def Et(N:Nat)(v1:an):akd (an×Bool):=
 Option.bind (v1.ax[0]?) fun v2=>
 Option.bind (og N v2) fun v3=>
 Option.bind (v1.ax[1]?) fun v4=>
 Option.bind (og N v4) fun v5=>
 Option.bind (bif v3.2 then(bif v5.2 then(bif (v2.ar !=(2:Int))then some (v4.ar !=(2:Int))else some false)else some true)else some true) fun v6=>
 bif v6 then
  some (ef,false)
 else
  bif (v1.ar==(5:Int))then
   Option.bind (vy N v3.1 v5.1) fun v7=>
   Option.bind (AM N v7.1) fun v8=>
   some (v8,v7.2)
  else
   Option.bind (uc N v3.1 v5.1) fun v9=>
   Option.bind (AM N v9.1) fun v10=>
   some (v10,(v9.2==(0:Int)))
theorem ads(N:Nat)(v1:an)(r:an×Bool)(hF:Et N v1=some r):aG Tryz.prog 180 [(aA v1)] (·=(.bk [(aA r.1),(aB r.2)])):=by
 rw[Et]at hF;refine aP Tryz.func180 ?_;obtain⟨v2,h1,hF⟩:=ao hF;obtain⟨v3,h2,hF⟩:=ao hF;obtain⟨v4,h3,hF⟩:=ao hF;obtain⟨v5,h4,hF⟩:=ao hF;refine au af [[],[(7,oE (k:=0) (bq h1)),(13,cL (IN N v2 v3 h2))],[(7,oE (k:=1) (bq h3)),(13,cL (IN N v4 v5 h4))]] ?_;obtain⟨v6,h8,hF⟩:=ao hF;refine bf af [(49,(aB v6))] [.cells (aA v1).cells, .cells ep, .cells (b9 v3.1).cells, .cells (b9 v5.1).cells] ?_ ?_
 ·refine bc h8 (fun h5 h8=> ?_) fun h5 h8=> ?_
  ·refine bc h8 (fun h6 h8=> ?_) fun h6 h8=> ?_
   ·refine bc h8 (fun h7 h8=> ?_) fun h7 h8=> ?_
    ·cases h8;exact⟨[(2,bF (not_t h5)),(6,bF (not_t h6)),(13,bT h7)],[(28,oE (k:=0) (bq h1)),(49,oE (k:=1) (bq h3)),(61,bT h7)],by kernel_rfl⟩
    cases h8;exact⟨[(2,bF (not_t h5)),(6,bF (not_t h6)),(13,bF h7)],[(28,oE (k:=0) (bq h1)),(61,bF h7)],by kernel_rfl⟩
   cases h8;exact⟨[(2,bF (not_t h5)),(6,bT (bS h6)),(13,uN)],[],by kernel_rfl⟩
  cases h8;exact⟨[(2,bT (bS h5)),(6,bT rfl),(13,uN)],[],by kernel_rfl⟩
 refine bc hF (fun h9 hF=> ?_) fun h9 hF=> ?_
 ·cases hF;exact wr af [[(0,bT h9)],[]]
 refine au af [[(0,bF h9)],[]] ?_;refine bc hF (fun az hF=> ?_) fun az hF=> ?_
 ·obtain⟨v7,aE,hF⟩:=ao hF;obtain⟨v8,aN,hF⟩:=ao hF;cases hF;exact wr af [[(0,bT az)],[(7,cL (VR N v3.1 v5.1 v7 aE))],[(4,cL (Gb N v7.1 v8 aN))]]
 obtain⟨v9,aY,hF⟩:=ao hF;obtain⟨v10,aJ,hF⟩:=ao hF;cases hF;exact wr af [[(0,bF az)],[(7,cL (Qq N v3.1 v5.1 v9 aY))],[(4,cL (Gb N v9.1 v10 aJ))]]
def xO(N:Nat)(v3:an)(v4:an):akd (an×Bool):=
 Option.bind (bif (v3.ar !=(2:Int))then some true else(bif (v4.ar !=(1:Int))then some true else some (v4.aC.a8 !=(3:Int)))) fun v5=>
 bif v5 then
  some (ef,false)
 else
  Option.bind (qc N v3.aK v4.ba.xN) fun v6=>
  Option.bind (AM N v6.1) fun v7=>
  some (v7,(v6.2==(0:Int)))
def Ec(N:Nat)(v1:an)(v2:an):akd (an×Bool):=
 bif (v1.ar==(1:Int))then
  xO N v2 v1
 else
  xO N v1 v2
theorem ah3(N:Nat)(v1:an)(v2:an)(r:an×Bool)(hF:Ec N v1 v2=some r):aG Tryz.prog 181 [(aA v1),(aA v2)] (·=(.bk [(aA r.1),(aB r.2)])):=by
 rw[Ec]at hF;refine aP Tryz.func181 ?_;refine BY af 1 [[],[]] [2,3,4] 3 [] [(2,10),(2,11),(2,12)] (fun((v3,v4):an×an)=>⟨41,[(2,(.ptr 0 0)),(3,(.ptr 1 0)),(4,(.ptr 2 0))],[.cells (aA v3).cells, .cells (aA v4).cells, .cells ep]⟩) (fun((v3,v4):an×an)=>xO N v3 v4=some r) ?_ ?_
 ·intro f1 aO;refine bc hF (fun h7 hF=> ?_) fun h7 hF=> ?_
  ·exact lI af aO (v2,v1) [[(0,bT h7)],[]] hF
  exact lI af aO (v1,v2) [[(0,bF h7)]] hF
 rintro⟨v3,v4⟩ hF
 try dsimp only at hF
 rw[xO]at hF;obtain⟨v5,h3,hF⟩:=ao hF;refine bf af [(26,(aB v5))] [.cells (aA v3).cells, .cells (aA v4).cells, .cells ep] ?_ ?_
 ·refine bc h3 (fun h1 h3=> ?_) fun h1 h3=> ?_
  ·cases h3;exact⟨[(3,bT h1),(8,bT rfl)],[],by kernel_rfl⟩
  refine bc h3 (fun h2 h3=> ?_) fun h2 h3=> ?_
  ·cases h3;exact⟨[(3,bF h1),(8,bT h2)],[],by kernel_rfl⟩
  cases h3;exact⟨[(3,bF h1),(8,bF h2)],[],by kernel_rfl⟩
 refine bc hF (fun h4 hF=> ?_) fun h4 hF=> ?_
 ·cases hF;exact wr af [[(0,bT h4)],[]]
 obtain⟨v6,h5,hF⟩:=ao hF;obtain⟨v7,h6,hF⟩:=ao hF;cases hF;exact wr af [[(0,bF h4)],[(16,cL (J8 N v3.aK v4.ba.xN v6 h5))],[(4,cL (Gb N v6.1 v7 h6))]]
def HE(N:Nat)(v1:cy)(v4:Bool):akd (an×Bool):=
 bif v4 then
  Option.bind (Et N v1.yE) fun v5=>
  some (v5.1,v5.2)
 else
  bif (v1.yE.ar==(6:Int))then
   Option.bind (v1.yE.ax[0]?) fun v6=>
   Option.bind (v1.yE.ax[1]?) fun v7=>
   Option.bind (Ec N v6 v7) fun v8=>
   some (v8.1,v8.2)
  else
   bif (v1.yE.ar==(8:Int))then
    Option.bind (v1.yE.ax[0]?) fun v9=>
    bif (v9.ar==(2:Int))then
     Option.bind (qc N v9.aK (-1:Int64)) fun v10=>
     Option.bind (AM N v10.1) fun v11=>
     some (v11,(v10.2==(0:Int)))
    else
     some (ef,false)
   else
    some (ef,false)
def DI(N:Nat)(v1:cy):akd (an×Bool):=
 bif (v1.yE.ar==(2:Int))then
  Option.bind (oF N (⟨(3:Int),(0:Int),(0:Int),(0:Int),(0:Int)⟩:aD) (⟨v1.yE.aK.xK,(1:Int64)⟩:ay)) fun v2=>
  Option.bind (bif ((v1.yE.aK.xL.length:Int)==(0:Int))then(bif (decide (v1.yE.aK.xK.toInt≥(-2147483647:Int)))then some (decide (v1.yE.aK.xK.toInt≤(2147483647:Int)))else some false)else some false) fun v3=>
  some (v2,v3)
 else
  bif (v1.yE.ar==(4:Int))then
   HE N v1 (v1.yE.ar==(4:Int))
  else
   HE N v1 (v1.yE.ar==(5:Int))
theorem agi(N:Nat)(v1:cy)(r:an×Bool)(hF:DI N v1=some r):aG Tryz.prog 107 [(bH v1)] (·=(.bk [(aA r.1),(aB r.2)])):=by
 rw[DI]at hF;refine aP Tryz.func107 ?_;refine au af [[],[],[],[]] ?_;refine bc hF (fun h1 hF=> ?_) fun h1 hF=> ?_
 ·refine au af [[(0,bT h1)],[]] ?_;obtain⟨v2,h2,hF⟩:=ao hF;obtain⟨v3,h5,hF⟩:=ao hF;refine bf af [(3,(aB v3))] [.cells (bH v1).cells, .cells (aA v2).cells, .cells (aA v1.yE).cells] ?_ ?_
  ·refine bc h5 (fun h3 h5=> ?_) fun h3 h5=> ?_
   ·refine bc h5 (fun h4 h5=> ?_) fun h4 h5=> ?_
    ·cases h5;exact⟨[(9,bT h3),(13,bT h4)],[(10,cL (tH N (⟨(3:Int),(0:Int),(0:Int),(0:Int),(0:Int)⟩:aD) (⟨v1.yE.aK.xK,(1:Int64)⟩:ay) v2 h2)),(22,oL v1.yE.aK.xL dd)],by kernel_rfl⟩
    cases h5;exact⟨[(9,bT h3),(13,bF h4)],[(10,cL (tH N (⟨(3:Int),(0:Int),(0:Int),(0:Int),(0:Int)⟩:aD) (⟨v1.yE.aK.xK,(1:Int64)⟩:ay) v2 h2)),(22,oL v1.yE.aK.xL dd)],by kernel_rfl⟩
   cases h5;exact⟨[(9,bF h3),(13,bF rfl)],[(10,cL (tH N (⟨(3:Int),(0:Int),(0:Int),(0:Int),(0:Int)⟩:aD) (⟨v1.yE.aK.xK,(1:Int64)⟩:ay) v2 h2)),(22,oL v1.yE.aK.xL dd)],by kernel_rfl⟩
  cases hF;exact wr af []
 refine BY af 1 [[(0,bF h1)],[]] [2,4,11,34] 3 [] [(1,10),(1,11),(1,12)] (fun(v4:Bool)=>⟨76,[(2,(.ptr 1 0)),(4,(.ptr 2 0)),(11,(aw v1.yE.ar)),(34,(aB v4))],[.cells (bH v1).cells, .cells ep, .cells (aA v1.yE).cells]⟩) (fun(v4:Bool)=>HE N v1 v4=some r) ?_ ?_
 ·intro f1 aO;refine bc hF (fun bp hF=> ?_) fun bp hF=> ?_
  ·exact lI af aO (v1.yE.ar==(4:Int)) [[(0,bT bp)]] hF
  exact lI af aO (v1.yE.ar==(5:Int)) [[(0,bF bp)],[]] hF
 rintro v4 hF
 try dsimp only at hF
 rw[HE]at hF;refine bc hF (fun h6 hF=> ?_) fun h6 hF=> ?_
 ·obtain⟨v5,h7,hF⟩:=ao hF;cases hF;exact wr af [[(0,bT h6)],[(4,cL (ads N v1.yE v5 h7))]]
 refine au af [[(0,bF h6)],[]] ?_;refine bc hF (fun h8 hF=> ?_) fun h8 hF=> ?_
 ·obtain⟨v6,h9,hF⟩:=ao hF;obtain⟨v7,az,hF⟩:=ao hF;obtain⟨v8,aE,hF⟩:=ao hF;cases hF;exact wr af [[(0,bT h8)],[(7,oE (k:=0) (bq h9)),(19,oE (k:=1) (bq az)),(25,cL (ah3 N v6 v7 v8 aE))]]
 refine au af [[(0,bF h8)],[]] ?_;refine bc hF (fun aN hF=> ?_) fun aN hF=> ?_
 ·obtain⟨v9,aY,hF⟩:=ao hF;refine au af [[(0,bT aN)],[(7,oE (k:=0) (bq aY))]] ?_;refine bc hF (fun aJ hF=> ?_) fun aJ hF=> ?_
  ·obtain⟨v10,bt,hF⟩:=ao hF;obtain⟨v11,aM,hF⟩:=ao hF;cases hF;exact wr af [[(0,bT aJ)],[(7,oE (k:=0) (bq aY)),(16,cL (J8 N v9.aK (-1:Int64) v10 bt))],[(4,cL (Gb N v10.1 v11 aM))]]
  cases hF;exact wr af [[(0,bF aJ)],[]]
 cases hF;exact wr af [[(0,bF aN)],[]]
def Ig(N:Nat)(v5:an×Bool)(v6:akc)(v7:an):akd (Bool×akc×Int×akc×Int64×Int64×Int×Int×Int×Int×Int×Int64×(akb aU)×(akb aI)×(akb an)):=
 some (v5.2,v6,v7.ar,v7.aV,v7.ba.xN,v7.ba.xD,v7.aC.a8,v7.aC.bz,v7.aC.bE,v7.aC.bK,v7.aC.bI,v7.aK.xK,v7.aK.xL,v7.xIdx,v7.ax)
def IY(N:Nat)(v1:cy)(v2:akc)(v3:akc)(v4:an):akd (Bool×akc×Int×akc×Int64×Int64×Int×Int×Int×Int×Int×Int64×(akb aU)×(akb aI)×(akb an)):=
 Option.bind (DI N v1) fun v5=>
 bif v5.2 then
  Ig N v5 v2 v5.1
 else
  Ig N v5 v3 v4
theorem qn(N:Nat)(v1:cy)(v2:akc)(v3:akc)(v4:an)(r:Bool×akc×Int×akc×Int64×Int64×Int×Int×Int×Int×Int×Int64×(akb aU)×(akb aI)×(akb an))(hF:IY N v1 v2 v3 v4=some r):bO Tryz.prog 104 [(bH v1),(.fn 107 []),(aR v2),(.ptr 0 0),(.ptr 1 0)] [.cells [(aR v3)], .cells (aA v4).cells] fun r1 h1=>r1=(aB r.1)∧h1=[.cells [(aR r.2.1)], .cells [(aw r.2.2.1),(aR r.2.2.2.1),(aH r.2.2.2.2.1),(aH r.2.2.2.2.2.1),(aw r.2.2.2.2.2.2.1),(aw r.2.2.2.2.2.2.2.1),(aw r.2.2.2.2.2.2.2.2.1),(aw r.2.2.2.2.2.2.2.2.2.1),(aw r.2.2.2.2.2.2.2.2.2.2.1),(aH r.2.2.2.2.2.2.2.2.2.2.2.1),(.d (.sl (bZ r.2.2.2.2.2.2.2.2.2.2.2.2.1))),(.d (.sl (cl r.2.2.2.2.2.2.2.2.2.2.2.2.2.1))),(.d (.sl (cq r.2.2.2.2.2.2.2.2.2.2.2.2.2.2)))]]:=by
 rw[IY]at hF;refine eB 2 Tryz.func104 ?_;obtain⟨v5,h1,hF⟩:=ao hF;refine lE af r 1 [[],[(7,cL (agi N v1 v5 h1))],[]] [12] 4 (fun(v6:akc)(v7:an)=>⟨27,[(12,(aB v5.2))],[.cells [(aR v6)], .cells (aA v7).cells, .cells (bH v1).cells, .cells (aA v5.1).cells]⟩) (Ig N v5) ?_ ?_
 ·intro f1 aO;refine bc hF (fun h2 hF=> ?_) fun h2 hF=> ?_
  ·exact bM af aO (v2,v5.1) [[(0,bT h2)],[]] hF
  exact bM af aO (v3,v4) [[(0,bF h2)]] hF
 intro v6 v7 hF;rw[Ig]at hF;cases hF;exact cG af [[]]
def tw(N:Nat)(v1:Int)(v2:Int):akd Bool:=
 bif (v1==(13:Int))then
  some (decide (v2<(0:Int)))
 else
  bif (v1==(14:Int))then
   some (decide (v2≤(0:Int)))
  else
   some (v2==(0:Int))
theorem Gl(N:Nat)(v1:Int)(v2:Int)(r:Bool)(hF:tw N v1 v2=some r):aG Tryz.prog 293 [(aw v1),(aw v2)] (·=(aB r)):=by
 rw[tw]at hF;refine aP Tryz.func293 ?_;refine au af [[],[],[]] ?_;refine bc hF (fun h1 hF=> ?_) fun h1 hF=> ?_
 ·cases hF;exact wr af [[(0,bT h1)],[]]
 refine au af [[(0,bF h1)],[]] ?_;refine bc hF (fun h2 hF=> ?_) fun h2 hF=> ?_
 ·cases hF;exact wr af [[(0,bT h2)],[]]
 cases hF;exact wr af [[(0,bF h2)],[]]
def E6(N:Nat)(v1:Int):akd Bool:=
 some (v1 !=v1)
theorem Qe(N:Nat)(v1:Int)(r:Bool)(hF:E6 N v1=some r):aG Tryz.prog 323 [(aw v1)] (·=(aB r)):=by
 rw[E6]at hF;refine aP Tryz.func323 ?_;cases hF;exact wr af [[],[]]
def lO(N:Nat)(v1:Int)(v2:Int):akd Int:=
 Option.bind (E6 N v1) fun v3=>
 Option.bind (E6 N v2) fun v4=>
 bif v3 then
  bif v4 then
   some (0:Int)
  else
   some (-1:Int)
 else
  bif v4 then
   some (1:Int)
  else
   bif (decide (v1<v2))then
    some (-1:Int)
   else
    bif (decide (v1>v2))then
     some (1:Int)
    else
     some (0:Int)
theorem qe(N:Nat)(v1:Int)(v2:Int)(r:Int)(hF:lO N v1 v2=some r):aG Tryz.prog 295 [(aw v1),(aw v2)] (·=(aw r)):=by
 rw[lO]at hF;refine aP Tryz.func295 ?_;obtain⟨v3,h1,hF⟩:=ao hF;obtain⟨v4,h2,hF⟩:=ao hF;refine au af [[],[(4,cL (Qe N v1 v3 h1))],[(4,cL (Qe N v2 v4 h2))],[]] ?_;refine bc hF (fun h3 hF=> ?_) fun h3 hF=> ?_
 ·refine au af [[(0,bT h3)],[]] ?_;refine bc hF (fun h4 hF=> ?_) fun h4 hF=> ?_
  ·cases hF;exact wr af [[(0,bT h4)],[]]
  cases hF;exact wr af [[(0,bF h4)],[]]
 refine au af [[(0,bF h3)],[]] ?_;refine bc hF (fun h5 hF=> ?_) fun h5 hF=> ?_
 ·cases hF;exact wr af [[(0,bT h5)],[]]
 refine au af [[(0,bF h5)],[]] ?_;refine bc hF (fun h6 hF=> ?_) fun h6 hF=> ?_
 ·cases hF;exact wr af [[(0,bT h6)],[]]
 refine au af [[(0,bF h6)],[]] ?_;refine bc hF (fun h7 hF=> ?_) fun h7 hF=> ?_
 ·cases hF;exact wr af [[(0,bT h7)],[]]
 cases hF;exact wr af [[(0,bF h7)],[]]
def Ch(N:Nat)(v1 v2:akc):akd Int:=some (Iw v1 v2)
theorem Kd(N:Nat)(v1 v2:akc)(r:Int)(hF:Ch N v1 v2=some r):aG Tryz.prog 296 [(aR v1),(aR v2)] (·=(aw r)):=by
 cases hF;exact aeI v1 v2
def BX(N:Nat)(v1:Int64):akd Bool:=
 some (v1.toInt !=v1.toInt)
theorem QB(N:Nat)(v1:Int64)(r:Bool)(hF:BX N v1=some r):aG Tryz.prog 325 [(aH v1)] (·=(aB r)):=by
 rw[BX]at hF;refine aP Tryz.func325 ?_;cases hF;exact wr af [[],[]]
def zq(N:Nat)(v1:Int64)(v2:Int64):akd Int:=
 Option.bind (BX N v1) fun v3=>
 Option.bind (BX N v2) fun v4=>
 bif v3 then
  bif v4 then
   some (0:Int)
  else
   some (-1:Int)
 else
  bif v4 then
   some (1:Int)
  else
   bif (decide (v1.toInt<v2.toInt))then
    some (-1:Int)
   else
    bif (decide (v1.toInt>v2.toInt))then
     some (1:Int)
    else
     some (0:Int)
theorem RY(N:Nat)(v1:Int64)(v2:Int64)(r:Int)(hF:zq N v1 v2=some r):aG Tryz.prog 297 [(aH v1),(aH v2)] (·=(aw r)):=by
 rw[zq]at hF;refine aP Tryz.func297 ?_;obtain⟨v3,h1,hF⟩:=ao hF;obtain⟨v4,h2,hF⟩:=ao hF;refine au af [[],[(4,cL (QB N v1 v3 h1))],[(4,cL (QB N v2 v4 h2))],[]] ?_;refine bc hF (fun h3 hF=> ?_) fun h3 hF=> ?_
 ·refine au af [[(0,bT h3)],[]] ?_;refine bc hF (fun h4 hF=> ?_) fun h4 hF=> ?_
  ·cases hF;exact wr af [[(0,bT h4)],[]]
  cases hF;exact wr af [[(0,bF h4)],[]]
 refine au af [[(0,bF h3)],[]] ?_;refine bc hF (fun h5 hF=> ?_) fun h5 hF=> ?_
 ·cases hF;exact wr af [[(0,bT h5)],[]]
 refine au af [[(0,bF h5)],[]] ?_;refine bc hF (fun h6 hF=> ?_) fun h6 hF=> ?_
 ·cases hF;exact wr af [[(0,bT h6)],[]]
 refine au af [[(0,bF h6)],[]] ?_;refine bc hF (fun h7 hF=> ?_) fun h7 hF=> ?_
 ·cases hF;exact wr af [[(0,bT h7)],[]]
 cases hF;exact wr af [[(0,bF h7)],[]]
def vJ(N:Nat):akb Int→Nat→akd Int
 |[],_=>
  some (0:Int)
 |v4::v5,v2=>
  bif (v4 !=(0:Int))then
   some v4
  else
   (vJ N v5 (v2+1))
def Aj(N:Nat)(v1:akb Int):akd Int:=
 vJ N v1 0
theorem PV(N:Nat)(v1:akb Int)(r:Int)(hF:Aj N v1=some r):aG Tryz.prog 294 [(.d (.sl (oc v1)))] (·=(aw r)):=by
 rw[Aj]at hF;refine aP Tryz.func294 ?_;refine au af [[],[],[(4,oL v1 VJ)]] ?_;refine fO agh 0 v1 fun h2=> ?_;refine fE af 1 [] [3,6,7,8] 0 v1 (fun v2=>⟨18,[(3,(aw (0:Int))),(6,(.d (.sl (oc v1)))),(7,(aw (v1.length:Int))),(8,(aw (v2:Int)))],[]⟩) (vJ N) hF ?_ ?_
 ·intro v2 h3 hF f1;rw[vJ]at hF;cases hF;exact wr af [[],[(0,bF (cJ h3))],[]]
 intro v2 v4 v5 h3 hF f1 aO;rw[vJ]at hF;refine au af [[],[(0,bT (cD h3))],[(1,oE (aa2 (cd h3)))],[]] ?_;refine bc hF (fun h4 hF=> ?_) fun h4 hF=> ?_
 ·cases hF;exact wr af [[(0,bT h4)],[]]
 exact wb af aO () [[(0,bF h4)],[(2,oq (dh h3 rfl h2))]] h3 hF
def CF(N:Nat)(v1:aD)(v2:aD):akd Int:=
 Option.bind (lO N v1.a8 v2.a8) fun v3=>
 Option.bind (lO N v1.bz v2.bz) fun v4=>
 Option.bind (lO N v1.bE v2.bE) fun v5=>
 Option.bind (lO N v1.bK v2.bK) fun v6=>
 Option.bind (lO N v1.bI v2.bI) fun v7=>
 Option.bind (Aj N ([v3,v4,v5,v6,v7])) fun v8=>
 some v8
theorem adt(N:Nat)(v1:aD)(v2:aD)(r:Int)(hF:CF N v1 v2=some r):aG Tryz.prog 298 [(b4 v1),(b4 v2)] (·=(aw r)):=by
 rw[CF]at hF;refine aP Tryz.func298 ?_;obtain⟨v3,h1,hF⟩:=ao hF;obtain⟨v4,h2,hF⟩:=ao hF;obtain⟨v5,h3,hF⟩:=ao hF;obtain⟨v6,h4,hF⟩:=ao hF;obtain⟨v7,h5,hF⟩:=ao hF;obtain⟨v8,h6,hF⟩:=ao hF;obtain rfl:=sj hF;exact wr af [[],[(13,cL (qe N v1.a8 v2.a8 v3 h1)),(28,cL (qe N v1.bz v2.bz v4 h2)),(43,cL (qe N v1.bE v2.bE v5 h3)),(58,cL (qe N v1.bK v2.bK v6 h4)),(73,cL (qe N v1.bI v2.bI v7 h5)),(79,cL (PV N ([v3,v4,v5,v6,v7]) v8 h6))]]
def xo(N:Nat)(v1:Int64)(v2:Int64):akd Int:=
 bif (decide (v1.toInt<v2.toInt))then
  some (-1:Int)
 else
  bif (decide (v1.toInt>v2.toInt))then
   some (1:Int)
  else
   some (0:Int)
theorem T4(N:Nat)(v1:Int64)(v2:Int64)(r:Int)(hF:xo N v1 v2=some r):aG Tryz.prog 328 [(aH v1),(aH v2)] (·=(aw r)):=by
 rw[xo]at hF;refine aP Tryz.func328 ?_;refine au af [[],[]] ?_;refine bc hF (fun h1 hF=> ?_) fun h1 hF=> ?_
 ·cases hF;exact wr af [[(0,bT h1)],[]]
 refine au af [[(0,bF h1)],[]] ?_;refine bc hF (fun h2 hF=> ?_) fun h2 hF=> ?_
 ·cases hF;exact wr af [[(0,bT h2)],[]]
 cases hF;exact wr af [[(0,bF h2)],[]]
def BS(N:Nat)(v1:aU)(v2:aU):akd Int:=
 bif (bL v1.aV==bL v2.aV)then
  Option.bind (xo N v1.cH v2.cH) fun v3=>
  some v3
 else
  Option.bind (Ch N v1.aV v2.aV) fun v4=>
  some v4
theorem Z9(N:Nat)(v1:aU)(v2:aU)(r:Int)(hF:BS N v1 v2=some r):aG Tryz.prog 327 [(GN v1),(GN v2)] (·=(aw r)):=by
 rw[BS]at hF;refine aP Tryz.func327 ?_;refine au af [[],[]] ?_;refine bc hF (fun h1 hF=> ?_) fun h1 hF=> ?_
 ·obtain⟨v3,h2,hF⟩:=ao hF;obtain rfl:=sj hF;exact wr af [[(0,bF (not_t h1))],[(13,cL (T4 N v1.cH v2.cH v3 h2))]]
 obtain⟨v4,h3,hF⟩:=ao hF;obtain rfl:=sj hF;exact wr af [[(0,bT (bS h1))],[(13,cL (Kd N v1.aV v2.aV v4 h3))]]
def o7(N:Nat)(v1:akb aU)(v2:akb aU):akb aU→Nat→akd Int
 |[],_=>
  bif (decide ((v1.length:Int)<(v2.length:Int)))then
   some (-1:Int)
  else
   some (0:Int)
 |v5::v6,v3=>
  bif (decide ((v3:Int)≥(v2.length:Int)))then
   some (1:Int)
  else
   Option.bind (v2[((v3:Int)).toNat]?) fun v7=>
   Option.bind (BS N v5 v7) fun v8=>
   bif (v8 !=(0:Int))then
    some v8
   else
    (o7 N v1 v2 v6 (v3+1))
def H5(N:Nat)(v1:akb aU)(v2:akb aU):akd Int:=
 o7 N v1 v2 v1 0
theorem aar(N:Nat)(v1:akb aU)(v2:akb aU)(r:Int)(hF:H5 N v1 v2=some r):bO Tryz.prog 326 [(.d (.sl (bZ v1))),(.d (.sl (bZ v2))),(.fn 327 [])] [] fun r1 h1=>r1=(aw r)∧h1=[]:=by
 rw[H5]at hF;refine eB 0 Tryz.func326 ?_;refine au af [[],[(4,oL v1 dd)]] ?_;refine fO nG 0 v1 fun h2=> ?_;refine fE af 1 [] [0,1,2,11,12,13] 0 v1 (fun v3=>⟨39,[(0,(.d (.sl (bZ v1)))),(1,(.d (.sl (bZ v2)))),(2,(.fn 327 [])),(11,(.d (.sl (bZ v1)))),(12,(aw (v1.length:Int))),(13,(aw (v3:Int)))],[]⟩) (o7 N v1 v2) hF ?_ ?_
 ·intro v3 h3 hF f1;rw[o7]at hF;refine au af [[],[(0,bF (cJ h3))],[(4,oL v1 dd),(10,oL v2 dd)]] ?_;refine bc hF (fun h4 hF=> ?_) fun h4 hF=> ?_
  ·cases hF;exact cG af [[(0,bT h4)],[]]
  cases hF;exact cG af [[(0,bF h4)],[]]
 intro v3 v5 v6 h3 hF f1 aO;rw[o7]at hF;refine au af [[],[(0,bT (cD h3))],[(4,oE (eN (cd h3)))],[(7,oL v2 dd)]] ?_;refine bc hF (fun h5 hF=> ?_) fun h5 hF=> ?_
 ·cases hF;exact cG af [[(0,bT h5)],[]]
 obtain⟨v7,h6,hF⟩:=ao hF;obtain⟨v8,h8,hF⟩:=ao hF;refine au af [[(0,bF h5)],[(7,oE (eN h6))],[(10,cL (Z9 N v5 v7 v8 h8))],[]] ?_;refine bc hF (fun h9 hF=> ?_) fun h9 hF=> ?_
 ·cases hF;exact cG af [[(0,bT h9)],[]]
 exact wb af aO () [[(0,bF h9)],[(2,oq (dh h3 rfl h2))]] h3 hF
def wy(N:Nat)(v1:aF)(v2:aF):akd Int:=
 Option.bind (H5 N v1.xL v2.xL) fun v3=>
 bif (v3 !=(0:Int))then
  some v3
 else
  Option.bind (xo N v1.xK v2.xK) fun v4=>
  some v4
theorem Ky(N:Nat)(v1:aF)(v2:aF)(r:Int)(hF:wy N v1 v2=some r):aG Tryz.prog 299 [(b9 v1),(b9 v2)] (·=(aw r)):=by
 rw[wy]at hF;refine aP Tryz.func299 ?_;obtain⟨v3,h1,hF⟩:=ao hF;refine au af [[],[(13,oQ [(.d (.sl (bZ v1.xL))),(.d (.sl (bZ v2.xL))),(.fn 327 [])] [.cells (b9 v1).cells, .cells (b9 v2).cells] [] (aar N v1.xL v2.xL v3 h1))],[]] ?_;refine bc hF (fun h2 hF=> ?_) fun h2 hF=> ?_
 ·cases hF;exact wr af [[(0,bT h2)],[]]
 obtain⟨v4,h3,hF⟩:=ao hF;obtain rfl:=sj hF;exact wr af [[(0,bF h2)],[(13,cL (T4 N v1.xK v2.xK v4 h3))]]
def oS(N:Nat)(v1:akb aF)(v2:akb aF):akb aF→Nat→akd Int
 |[],_=>
  bif (decide ((v1.length:Int)<(v2.length:Int)))then
   some (-1:Int)
  else
   some (0:Int)
 |v5::v6,v3=>
  bif (decide ((v3:Int)≥(v2.length:Int)))then
   some (1:Int)
  else
   Option.bind (v2[((v3:Int)).toNat]?) fun v7=>
   Option.bind (wy N v5 v7) fun v8=>
   bif (v8 !=(0:Int))then
    some v8
   else
    (oS N v1 v2 v6 (v3+1))
def Gf(N:Nat)(v1:akb aF)(v2:akb aF):akd Int:=
 oS N v1 v2 v1 0
theorem afg(N:Nat)(v1:akb aF)(v2:akb aF)(r:Int)(hF:Gf N v1 v2=some r):bO Tryz.prog 341 [(.d (.sl (du v1))),(.d (.sl (du v2))),(.fn 299 [])] [] fun r1 h1=>r1=(aw r)∧h1=[]:=by
 rw[Gf]at hF;refine eB 0 Tryz.func341 ?_;refine au af [[],[(4,oL v1 eG)]] ?_;refine fO Lh 0 v1 fun h2=> ?_;refine fE af 1 [] [0,1,2,11,12,13] 0 v1 (fun v3=>⟨39,[(0,(.d (.sl (du v1)))),(1,(.d (.sl (du v2)))),(2,(.fn 299 [])),(11,(.d (.sl (du v1)))),(12,(aw (v1.length:Int))),(13,(aw (v3:Int)))],[]⟩) (oS N v1 v2) hF ?_ ?_
 ·intro v3 h3 hF f1;rw[oS]at hF;refine au af [[],[(0,bF (cJ h3))],[(4,oL v1 eG),(10,oL v2 eG)]] ?_;refine bc hF (fun h4 hF=> ?_) fun h4 hF=> ?_
  ·cases hF;exact cG af [[(0,bT h4)],[]]
  cases hF;exact cG af [[(0,bF h4)],[]]
 intro v3 v5 v6 h3 hF f1 aO;rw[oS]at hF;refine au af [[],[(0,bT (cD h3))],[(4,oE (mS (cd h3)))],[(7,oL v2 eG)]] ?_;refine bc hF (fun h5 hF=> ?_) fun h5 hF=> ?_
 ·cases hF;exact cG af [[(0,bT h5)],[]]
 obtain⟨v7,h6,hF⟩:=ao hF;obtain⟨v8,h8,hF⟩:=ao hF;refine au af [[(0,bF h5)],[(7,oE (mS h6))],[(10,cL (Ky N v5 v7 v8 h8))],[]] ?_;refine bc hF (fun h9 hF=> ?_) fun h9 hF=> ?_
 ·cases hF;exact cG af [[(0,bT h9)],[]]
 exact wb af aO () [[(0,bF h9)],[(2,oq (dh h3 rfl h2))]] h3 hF
def BN(N:Nat)(v1:akb aF)(v2:akb aF):akd Int:=
 Option.bind (lO N (v1.length:Int) (v2.length:Int)) fun v3=>
 bif (v3 !=(0:Int))then
  some v3
 else
  Option.bind (Gf N v1 v2) fun v4=>
  some v4
theorem ae3(N:Nat)(v1:akb aF)(v2:akb aF)(r:Int)(hF:BN N v1 v2=some r):bO Tryz.prog 330 [(.d (.sl (du v1))),(.d (.sl (du v2))),(.fn 299 [])] [] fun r1 h1=>r1=(aw r)∧h1=[]:=by
 rw[BN]at hF;refine eB 0 Tryz.func330 ?_;obtain⟨v3,h1,hF⟩:=ao hF;refine au af [[],[(4,oL v1 eG),(10,oL v2 eG),(13,cL (qe N (v1.length:Int) (v2.length:Int) v3 h1))],[]] ?_;refine bc hF (fun h2 hF=> ?_) fun h2 hF=> ?_
 ·cases hF;exact cG af [[(0,bT h2)],[]]
 obtain⟨v4,h3,hF⟩:=ao hF;obtain rfl:=sj hF;exact cG af [[(0,bF h2)],[(10,oQ [(.d (.sl (du v1))),(.d (.sl (du v2))),(.fn 299 [])] [] [] (afg N v1 v2 v4 h3))]]
def C6(N:Nat)(v1:aI)(v2:aI):akd Int:=
 Option.bind (Ch N v1.bU v2.bU) fun v3=>
 bif (v3 !=(0:Int))then
  some v3
 else
  Option.bind (wy N v1.aK v2.aK) fun v4=>
  bif (v4 !=(0:Int))then
   some v4
  else
   Option.bind (BN N v1.bC v2.bC) fun v5=>
   some v5
theorem acJ(N:Nat)(v1:aI)(v2:aI)(r:Int)(hF:C6 N v1 v2=some r):aG Tryz.prog 301 [(gB v1),(gB v2)] (·=(aw r)):=by
 rw[C6]at hF;refine aP Tryz.func301 ?_;obtain⟨v3,h1,hF⟩:=ao hF;refine au af [[],[(13,cL (Kd N v1.bU v2.bU v3 h1))],[]] ?_;refine bc hF (fun h2 hF=> ?_) fun h2 hF=> ?_
 ·cases hF;exact wr af [[(0,bT h2)],[]]
 obtain⟨v4,h3,hF⟩:=ao hF;refine au af [[(0,bF h2)],[(13,cL (Ky N v1.aK v2.aK v4 h3))],[]] ?_;refine bc hF (fun h4 hF=> ?_) fun h4 hF=> ?_
 ·cases hF;exact wr af [[(0,bT h4)],[]]
 obtain⟨v5,h5,hF⟩:=ao hF;obtain rfl:=sj hF;exact wr af [[(0,bF h4)],[(13,oQ [(.d (.sl (du v1.bC))),(.d (.sl (du v2.bC))),(.fn 299 [])] [.cells (gB v1).cells, .cells (gB v2).cells] [] (ae3 N v1.bC v2.bC v5 h5))]]
def om(N:Nat)(v1:akb aI)(v2:akb aI):akb aI→Nat→akd Int
 |[],_=>
  bif (decide ((v1.length:Int)<(v2.length:Int)))then
   some (-1:Int)
  else
   some (0:Int)
 |v5::v6,v3=>
  bif (decide ((v3:Int)≥(v2.length:Int)))then
   some (1:Int)
  else
   Option.bind (v2[((v3:Int)).toNat]?) fun v7=>
   Option.bind (C6 N v5 v7) fun v8=>
   bif (v8 !=(0:Int))then
    some v8
   else
    (om N v1 v2 v6 (v3+1))
def GS(N:Nat)(v1:akb aI)(v2:akb aI):akd Int:=
 om N v1 v2 v1 0
theorem adC(N:Nat)(v1:akb aI)(v2:akb aI)(r:Int)(hF:GS N v1 v2=some r):bO Tryz.prog 329 [(.d (.sl (cl v1))),(.d (.sl (cl v2))),(.fn 301 [])] [] fun r1 h1=>r1=(aw r)∧h1=[]:=by
 rw[GS]at hF;refine eB 0 Tryz.func329 ?_;refine au af [[],[(4,oL v1 dP)]] ?_;refine fO ml 0 v1 fun h2=> ?_;refine fE af 1 [] [0,1,2,11,12,13] 0 v1 (fun v3=>⟨39,[(0,(.d (.sl (cl v1)))),(1,(.d (.sl (cl v2)))),(2,(.fn 301 [])),(11,(.d (.sl (cl v1)))),(12,(aw (v1.length:Int))),(13,(aw (v3:Int)))],[]⟩) (om N v1 v2) hF ?_ ?_
 ·intro v3 h3 hF f1;rw[om]at hF;refine au af [[],[(0,bF (cJ h3))],[(4,oL v1 dP),(10,oL v2 dP)]] ?_;refine bc hF (fun h4 hF=> ?_) fun h4 hF=> ?_
  ·cases hF;exact cG af [[(0,bT h4)],[]]
  cases hF;exact cG af [[(0,bF h4)],[]]
 intro v3 v5 v6 h3 hF f1 aO;rw[om]at hF;refine au af [[],[(0,bT (cD h3))],[(4,oE (fz (cd h3)))],[(7,oL v2 dP)]] ?_;refine bc hF (fun h5 hF=> ?_) fun h5 hF=> ?_
 ·cases hF;exact cG af [[(0,bT h5)],[]]
 obtain⟨v7,h6,hF⟩:=ao hF;obtain⟨v8,h8,hF⟩:=ao hF;refine au af [[(0,bF h5)],[(7,oE (fz h6))],[(10,cL (acJ N v5 v7 v8 h8))],[]] ?_;refine bc hF (fun h9 hF=> ?_) fun h9 hF=> ?_
 ·cases hF;exact cG af [[(0,bT h9)],[]]
 exact wb af aO () [[(0,bF h9)],[(2,oq (dh h3 rfl h2))]] h3 hF
def Ey(N:Nat)(v1:akb aI)(v2:akb aI):akd Int:=
 Option.bind (lO N (v1.length:Int) (v2.length:Int)) fun v3=>
 bif (v3 !=(0:Int))then
  some v3
 else
  Option.bind (GS N v1 v2) fun v4=>
  some v4
theorem agx(N:Nat)(v1:akb aI)(v2:akb aI)(r:Int)(hF:Ey N v1 v2=some r):bO Tryz.prog 300 [(.d (.sl (cl v1))),(.d (.sl (cl v2))),(.fn 301 [])] [] fun r1 h1=>r1=(aw r)∧h1=[]:=by
 rw[Ey]at hF;refine eB 0 Tryz.func300 ?_;obtain⟨v3,h1,hF⟩:=ao hF;refine au af [[],[(4,oL v1 dP),(10,oL v2 dP),(13,cL (qe N (v1.length:Int) (v2.length:Int) v3 h1))],[]] ?_;refine bc hF (fun h2 hF=> ?_) fun h2 hF=> ?_
 ·cases hF;exact cG af [[(0,bT h2)],[]]
 obtain⟨v4,h3,hF⟩:=ao hF;obtain rfl:=sj hF;exact cG af [[(0,bF h2)],[(10,oQ [(.d (.sl (cl v1))),(.d (.sl (cl v2))),(.fn 301 [])] [] [] (adC N v1 v2 v4 h3))]]
def px(N:Nat)(v1:akb an)(v2:akb an)(Vc:an→an→akd Int):akb an→Nat→akd Int
 |[],_=>
  bif (decide ((v1.length:Int)<(v2.length:Int)))then
   some (-1:Int)
  else
   some (0:Int)
 |v5::v6,v3=>
  bif (decide ((v3:Int)≥(v2.length:Int)))then
   some (1:Int)
  else
   Option.bind (v2[((v3:Int)).toNat]?) fun v7=>
   Option.bind (Vc v5 v7) fun v8=>
   bif (v8 !=(0:Int))then
    some v8
   else
    (px N v1 v2 Vc v6 (v3+1))
mutual
def qJ(N:Nat):Nat→an→an→akd Int
 |0,_,_=>none
 |d+1,v1,v2=>
  Option.bind (lO N v1.ar v2.ar) fun v3=>
  Option.bind (Ch N v1.aV v2.aV) fun v4=>
  Option.bind (zq N v1.ba.xN v2.ba.xN) fun v5=>
  Option.bind (zq N v1.ba.xD v2.ba.xD) fun v6=>
  Option.bind (CF N v1.aC v2.aC) fun v7=>
  Option.bind (wy N v1.aK v2.aK) fun v8=>
  Option.bind (Aj N ([v3,v4,v5,v6,v7,v8])) fun v9=>
  bif (v9 !=(0:Int))then
   some v9
  else
   Option.bind (Ey N v1.xIdx v2.xIdx) fun v10=>
   bif (v10 !=(0:Int))then
    some v10
   else
    Option.bind ((BH N d) v1.ax v2.ax) fun v11=>
    some v11
def BH(N:Nat):Nat→(akb an)→(akb an)→akd Int
 |0,_,_=>none
 |d+1,v1,v2=>
  Option.bind (lO N (v1.length:Int) (v2.length:Int)) fun v3=>
  bif (v3 !=(0:Int))then
   some v3
  else
   Option.bind ((DY N d) v1 v2) fun v4=>
   some v4
def DY(N:Nat):Nat→(akb an)→(akb an)→akd Int
 |0,_,_=>none
 |d+1,v1,v2=>
  px N v1 v2 (qJ N d) v1 0
end
def KY(N:Nat)(v1:an)(v2:an):akd Int:=qJ N N v1 v2
theorem adP(N:Nat):∀d:Nat,(∀(v1:an)(v2:an)(r:Int),qJ N d v1 v2=some r→aG Tryz.prog 244 [(aA v1),(aA v2)] (·=(aw r)))∧(∀(v1:akb an)(v2:akb an)(r:Int),BH N d v1 v2=some r→bO Tryz.prog 302 [(.d (.sl (cq v1))),(.d (.sl (cq v2))),(.fn 244 [])] [] fun r1 h1=>r1=(aw r)∧h1=[])∧(∀(v1:akb an)(v2:akb an)(r:Int),DY N d v1 v2=some r→bO Tryz.prog 331 [(.d (.sl (cq v1))),(.d (.sl (cq v2))),(.fn 244 [])] [] fun r1 h1=>r1=(aw r)∧h1=[]):=by
 intro d
 induction d with
 |zero=>exact⟨fun v1 v2 r hF=>(by rw[qJ]at hF;cases hF),fun v1 v2 r hF=>(by rw[BH]at hF;cases hF),fun v1 v2 r hF=>(by rw[DY]at hF;cases hF)⟩
 |succ d ih=>
  have acz:=ih.1;have acI:=ih.2.1;have XS:=ih.2.2;refine⟨?_,?_,?_⟩
  ·intro v1 v2 r hF;rw[qJ]at hF;refine aP Tryz.func244 ?_;obtain⟨v3,h1,hF⟩:=ao hF;obtain⟨v4,h2,hF⟩:=ao hF;obtain⟨v5,h3,hF⟩:=ao hF;obtain⟨v6,h4,hF⟩:=ao hF;obtain⟨v7,h5,hF⟩:=ao hF;obtain⟨v8,h6,hF⟩:=ao hF;obtain⟨v9,h7,hF⟩:=ao hF;refine au af [[],[(13,cL (qe N v1.ar v2.ar v3 h1)),(28,cL (Kd N v1.aV v2.aV v4 h2)),(49,cL (RY N v1.ba.xN v2.ba.xN v5 h3)),(70,cL (RY N v1.ba.xD v2.ba.xD v6 h4)),(85,cL (adt N v1.aC v2.aC v7 h5)),(100,cL (Ky N v1.aK v2.aK v8 h6)),(106,cL (PV N ([v3,v4,v5,v6,v7,v8]) v9 h7))],[]] ?_;refine bc hF (fun h8 hF=> ?_) fun h8 hF=> ?_
   ·cases hF;exact wr af [[(0,bT h8)],[]]
   obtain⟨v10,h9,hF⟩:=ao hF;refine au af [[(0,bF h8)],[(13,oQ [(.d (.sl (cl v1.xIdx))),(.d (.sl (cl v2.xIdx))),(.fn 301 [])] [.cells (aA v1).cells, .cells (aA v2).cells] [] (agx N v1.xIdx v2.xIdx v10 h9))],[]] ?_;refine bc hF (fun az hF=> ?_) fun az hF=> ?_
   ·cases hF;exact wr af [[(0,bT az)],[]]
   obtain⟨v11,aE,hF⟩:=ao hF;obtain rfl:=sj hF;exact wr af [[(0,bF az)],[(13,oQ [(.d (.sl (cq v1.ax))),(.d (.sl (cq v2.ax))),(.fn 244 [])] [.cells (aA v1).cells, .cells (aA v2).cells] [] (acI v1.ax v2.ax v11 aE))]]
  ·intro v1 v2 r hF;rw[BH]at hF;refine eB 0 Tryz.func302 ?_;obtain⟨v3,h1,hF⟩:=ao hF;refine au af [[],[(4,oL v1 dD),(10,oL v2 dD),(13,cL (qe N (v1.length:Int) (v2.length:Int) v3 h1))],[]] ?_;refine bc hF (fun h2 hF=> ?_) fun h2 hF=> ?_
   ·cases hF;exact cG af [[(0,bT h2)],[]]
   obtain⟨v4,h3,hF⟩:=ao hF;obtain rfl:=sj hF;exact cG af [[(0,bF h2)],[(10,oQ [(.d (.sl (cq v1))),(.d (.sl (cq v2))),(.fn 244 [])] [] [] (XS v1 v2 v4 h3))]]
  intro v1 v2 r hF;rw[DY]at hF;refine eB 0 Tryz.func331 ?_;refine au af [[],[(4,oL v1 dD)]] ?_;refine fO kX 0 v1 fun h2=> ?_;refine fE af 1 [] [0,1,2,11,12,13] 0 v1 (fun v3=>⟨39,[(0,(.d (.sl (cq v1)))),(1,(.d (.sl (cq v2)))),(2,(.fn 244 [])),(11,(.d (.sl (cq v1)))),(12,(aw (v1.length:Int))),(13,(aw (v3:Int)))],[]⟩) (px N v1 v2 (qJ N d)) hF ?_ ?_
  ·intro v3 h3 hF f1;rw[px]at hF;refine au af [[],[(0,bF (cJ h3))],[(4,oL v1 dD),(10,oL v2 dD)]] ?_;refine bc hF (fun h4 hF=> ?_) fun h4 hF=> ?_
   ·cases hF;exact cG af [[(0,bT h4)],[]]
   cases hF;exact cG af [[(0,bF h4)],[]]
  intro v3 v5 v6 h3 hF f1 aO;rw[px]at hF;refine au af [[],[(0,bT (cD h3))],[(4,oE (bq (cd h3)))],[(7,oL v2 dD)]] ?_;refine bc hF (fun h5 hF=> ?_) fun h5 hF=> ?_
  ·cases hF;exact cG af [[(0,bT h5)],[]]
  obtain⟨v7,h6,hF⟩:=ao hF;obtain⟨v8,h8,hF⟩:=ao hF;refine au af [[(0,bF h5)],[(7,oE (bq h6))],[(10,cL (acz v5 v7 v8 h8))],[]] ?_;refine bc hF (fun h9 hF=> ?_) fun h9 hF=> ?_
  ·cases hF;exact cG af [[(0,bT h9)],[]]
  exact wb af aO () [[(0,bF h9)],[(2,oq (dh h3 rfl h2))]] h3 hF
theorem ady(N:Nat)(v1:an)(v2:an)(r:Int)(hF:KY N v1 v2=some r):aG Tryz.prog 244 [(aA v1),(aA v2)] (·=(aw r)):=(adP N N).1 v1 v2 r hF
def nH(N:Nat)(v1:an)(v2:an):akd Bool:=
 Option.bind (KY N v1 v2) fun v3=>
 some (v3==(0:Int))
theorem CK(N:Nat)(v1:an)(v2:an)(r:Bool)(hF:nH N v1 v2=some r):aG Tryz.prog 185 [(aA v1),(aA v2)] (·=(aB r)):=by
 rw[nH]at hF;refine aP Tryz.func185 ?_;obtain⟨v3,h1,hF⟩:=ao hF;cases hF;exact wr af [[],[(7,cL (ady N v1 v2 v3 h1))]]
def yu(N:Nat)(v2:an)(v3:an)(v1:an):akd (Bool×Bool):=
 Option.bind (nH N v2 v3) fun v10=>
 bif v10 then
  some ((v1.ar !=(13:Int)),true)
 else
  some (false,false)
def sA(N:Nat)(v1:an):akd (Bool×Bool):=
 Option.bind (v1.ax[0]?) fun v2=>
 Option.bind (v1.ax[1]?) fun v3=>
 Option.bind (bif (v2.ar==(1:Int))then(bif (v3.ar==(1:Int))then some ((v2.aC.a8==v3.aC.a8)&&((v2.aC.bz==v3.aC.bz)&&((v2.aC.bE==v3.aC.bE)&&((v2.aC.bK==v3.aC.bK)&&((v2.aC.bI==v3.aC.bI)&&true)))))else some false)else some false) fun v4=>
 bif v4 then
  Option.bind (yV N v2.aC v2.ba v3.ba) fun v5=>
  Option.bind (tw N v1.ar v5) fun v6=>
  some (v6,true)
 else
  Option.bind (og N v2) fun v7=>
  Option.bind (og N v3) fun v8=>
  Option.bind (bif v7.2 then some v8.2 else some false) fun v9=>
  bif v9 then
   Option.bind (vy N v7.1 v8.1) fun v11=>
   Option.bind (bif v11.2 then some ((v11.1.xL.length:Int)==(0:Int))else some false) fun v12=>
   bif v12 then
    bif (decide (v11.1.xK.toInt<(0:Int)))then
     Option.bind (tw N v1.ar (-1:Int)) fun aZ=>
     some (aZ,true)
    else
     bif (decide (v11.1.xK.toInt>(0:Int)))then
      Option.bind (tw N v1.ar (1:Int)) fun bu=>
      some (bu,true)
     else
      Option.bind (tw N v1.ar (0:Int)) fun bQ=>
      some (bQ,true)
   else
    yu N v2 v3 v1
  else
   yu N v2 v3 v1
def DV(v1:an)(v2:an)(v3:an)(l:akb aq):akb aq:= .cells (aA v1).cells:: .cells (aA v2).cells:: .cells (aA v3).cells::l
theorem abO(N:Nat)(v1:an)(r:Bool×Bool)(hF:sA N v1=some r):aG Tryz.prog 243 [(aA v1)] (·=(.bk [(aB r.1),(aB r.2)])):=by
 rw[sA]at hF;refine aP Tryz.func243 ?_;refine au af [[]] ?_;obtain⟨v2,h1,hF⟩:=ao hF;obtain⟨v3,h2,hF⟩:=ao hF;refine mo 20 af [(4,(.ptr 1 0)),(5,(.ptr 2 0))] (DV v1 v2 v3 []) ⟨[(7,oE (k:=0) (bq h1)),(19,oE (k:=1) (bq h2))],by kernel_rfl⟩ ?_;obtain⟨v4,h5,hF⟩:=ao hF;refine bf af [(35,(aB v4))] (DV v1 v2 v3 []) ?_ ?_
 ·refine bc h5 (fun h3 h5=> ?_) fun h3 h5=> ?_
  ·refine bc h5 (fun h4 h5=> ?_) fun h4 h5=> ?_
   ·cases h5;exact⟨[(3,bT h3),(8,bT h4)],[],by kernel_rfl⟩
   cases h5;exact⟨[(3,bT h3),(8,bF h4)],[],by kernel_rfl⟩
  cases h5;exact⟨[(3,bF h3),(8,bF rfl)],[],by kernel_rfl⟩
 refine bc hF (fun h6 hF=> ?_) fun h6 hF=> ?_
 ·obtain⟨v5,h7,hF⟩:=ao hF;obtain⟨v6,h8,hF⟩:=ao hF;cases hF;exact wr af [[(0,bT h6)],[(25,cL (VO N v2.aC v2.ba v3.ba v5 h7)),(28,cL (Gl N v1.ar v5 v6 h8))]]
 obtain⟨v7,h9,hF⟩:=ao hF;obtain⟨v8,az,hF⟩:=ao hF;refine au af [[(0,bF h6)],[(4,cL (IN N v2 v7 h9))],[(4,cL (IN N v3 v8 az))]] ?_;obtain⟨v9,aN,hF⟩:=ao hF;refine bf af [(59,(aB v9))] (DV v1 v2 v3 [.cells (b9 v7.1).cells, .cells (b9 v8.1).cells]) ?_ ?_
 ·refine bc aN (fun aE aN=> ?_) fun aE aN=> ?_
  ·cases aN;exact⟨[(1,bT aE)],[],by kernel_rfl⟩
  cases aN;exact⟨[(1,bF aE)],[],by kernel_rfl⟩
 refine WD af r 1 [] [1,4,5] 5 ⟨91,[(1,(.ptr 0 0)),(4,(.ptr 1 0)),(5,(.ptr 2 0))],(DV v1 v2 v3 [.cells (b9 v7.1).cells, .cells (b9 v8.1).cells])⟩ (yu N v2 v3 v1) ?_ ?_
 ·intro f1 aO;refine bc hF (fun bt hF=> ?_) fun bt hF=> ?_
  ·obtain⟨v11,aM,hF⟩:=ao hF;refine au af [[(0,bT bt)],[(7,cL (VR N v7.1 v8.1 v11 aM))]] ?_;obtain⟨v12,a7,hF⟩:=ao hF;refine bf af [(72,(aB v12))] (DV v1 v2 v3 [.cells (b9 v7.1).cells, .cells (b9 v8.1).cells, .cells (b9 v11.1).cells]) ?_ ?_
   ·refine bc a7 (fun bp a7=> ?_) fun bp a7=> ?_
    ·cases a7;exact⟨[(1,bT bp)],[(13,oL v11.1.xL dd)],by kernel_rfl⟩
    cases a7;exact⟨[(1,bF bp)],[],by kernel_rfl⟩
   refine bc hF (fun bR hF=> ?_) fun bR hF=> ?_
   ·refine au af [[(0,bT bR)],[],[]] ?_;refine bc hF (fun b5 hF=> ?_) fun b5 hF=> ?_
    ·obtain⟨aZ,ck,hF⟩:=ao hF;cases hF;exact wr af [[(0,bT b5)],[],[(10,cL (Gl N v1.ar (-1:Int) aZ ck))]]
    refine au af [[(0,bF b5)],[]] ?_;refine bc hF (fun bw hF=> ?_) fun bw hF=> ?_
    ·obtain⟨bu,cP,hF⟩:=ao hF;cases hF;exact wr af [[(0,bT bw)],[],[(10,cL (Gl N v1.ar (1:Int) bu cP))]]
    obtain⟨bQ,cC,hF⟩:=ao hF;cases hF;exact wr af [[(0,bF bw)],[(10,cL (Gl N v1.ar (0:Int) bQ cC))]]
   exact bM af aO () [[(0,bF bR)]] hF
  exact bM af aO () [[(0,bF bt)]] hF
 intro hF;rw[yu]at hF;obtain⟨v10,aY,hF⟩:=ao hF;refine au af [[(7,cL (CK N v2 v3 v10 aY))]] ?_;refine bc hF (fun aJ hF=> ?_) fun aJ hF=> ?_
 ·cases hF;exact wr af [[(0,bT aJ)],[]]
 cases hF;exact wr af [[(0,bF aJ)],[]]
end Go.Proofs.YtpgmcallngdceaaGreatDoor
