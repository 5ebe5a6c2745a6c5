/-
  Part 13 of the proof: PE7, PE8, PE9, PAll, ValNames, ValNode, LinP, ValTree, ValTree2, ValidLaw, InVal1, InVal2, InLin, InLin2, InLin3, EvA, EvB, EvC, SmV, SmVR, SmVF, EvD, InVal3, InVal4, EvE, EvF, EvG, EvH, Wts, EvI.
-/
import Derived.Test.YtnnapanbbbcalaaGreatDoorPr12
import Derived.Laws.Bits64
namespace Go.Proofs.YtnnapanbbbcalaaGreatDoor
open Go.RowKit
set_option maxRecDepth 100000
set_option maxHeartbeats 0
set_option linter.unusedVariables false
def uQ:cm:=⟨(0:Int),(0:Int),(0:Int),(0:Int),(0:Int),(0:Int)⟩
def rL(N:Nat)(v2:ak4 aX):ak4 dK->Nat->Int->Int->Int->Int->Int->Int->Int->Int->Int->Int->Int->Int->ak6 (Int64×Int)
 |[],_,v20,v21,e8,dH,v24,fi,eP,gJ,v28,j6,v30,v31=>
  Option.bind (BC N (⟨v20,v21,e8,dH,v24,fi⟩:cm) (⟨eP,gJ,v28,j6,v30,v31⟩:cm)) λyj=>
  bif yj then
   Option.bind (zD N (⟨eP,gJ,v28,j6,v30,v31⟩:cm) (⟨v20,v21,e8,dH,v24,fi⟩:cm)) λiS=>
   Option.bind (bif (iS.cX !=0)then some true else(bif (iS.cS !=0)then some true else(bif (iS.cJ !=0)then some true else(bif (iS.cF !=0)then some true else some (decide ((IntKind.u64.wrap (iS.cu+(IntKind.u64.wrap (iS.cC*(4294967296:Int)))))>9223372036854775808)))))) λPm=>
   bif Pm then
    some ((0:Int64),(3:Int))
   else
    some (((-(Int64.ofInt (IntKind.u64.wrap ((IntKind.u64.wrap (iS.cu+(IntKind.u64.wrap (iS.cC*(4294967296:Int)))))-(1:Int)))))-(1:Int64)),(0:Int))
  else
   Option.bind (zD N (⟨v20,v21,e8,dH,v24,fi⟩:cm) (⟨eP,gJ,v28,j6,v30,v31⟩:cm)) λnm=>
   Option.bind (bif (nm.cX !=0)then some true else(bif (nm.cS !=0)then some true else(bif (nm.cJ !=0)then some true else(bif (nm.cF !=0)then some true else some (decide ((IntKind.u64.wrap (nm.cu+(IntKind.u64.wrap (nm.cC*(4294967296:Int)))))>9223372036854775807)))))) λLb=>
   bif Lb then
    some ((0:Int64),(3:Int))
   else
    some ((Int64.ofInt (IntKind.u64.wrap (nm.cu+(IntKind.u64.wrap (nm.cC*(4294967296:Int)))))),(0:Int))
 |bH::cd,bC,v20,v21,e8,dH,v24,fi,eP,gJ,v28,j6,v30,v31=>
  (MM N v2 bH.aF).bind λv37=>
  bif v37.2 then
   bif ((decide (v37.1.toInt<0))==(decide (bH.eN.toInt<0)))then
    (rP N v37.1).bind λU6=>
    (rP N bH.eN).bind λTi=>
    Option.bind (wq N (⟨v20,v21,e8,dH,v24,fi⟩:cm) U6 Ti) λv40=>
    (λgP vX Me Ov JD Nq MO KI NO Na Nn N1=>rL N v2 cd (bC+1) gP vX Me Ov JD Nq MO KI NO Na Nn N1) v40.cu v40.cC v40.cX v40.cS v40.cJ v40.cF eP gJ v28 j6 v30 v31
   else
    (rP N v37.1).bind λXg=>
    (rP N bH.eN).bind λXd=>
    Option.bind (wq N (⟨eP,gJ,v28,j6,v30,v31⟩:cm) Xg Xd) λmU=>
    (λgP vX Me Ov JD Nq MO KI NO Na Nn N1=>rL N v2 cd (bC+1) gP vX Me Ov JD Nq MO KI NO Na Nn N1) v20 v21 e8 dH v24 fi mU.cu mU.cC mU.cX mU.cS mU.cJ mU.cF
  else
   some ((0:Int64),(9:Int))
def F1(N:Nat)(v2:ak4 aX)(v1:bp)(v4:Int)(v5:Int)(v6:Int)(v7:Int)(v8:Int)(v9:Int)(v10:Int)(v11:Int)(v12:Int)(aA:Int)(aE:Int)(aP:Int):ak6 (Int64×Int):=
 rL N v2 v1.xL 0 v4 v5 v6 v7 v8 v9 v10 v11 v12 aA aE aP
def wI(N:Nat)(v1:bp)(v2:ak4 aX):ak6 (Int64×Int):=
 (Ik N v1).bind λv3=>
 bif (v3 !=0)then
  some ((0:Int64),(1:Int))
 else
  bif (decide (v1.xK.toInt<0))then
   (rP N v1.xK).bind λXu=>
   Option.bind (wq N uQ Xu (1:Int)) λmQ=>
   F1 N v2 v1 (0:Int) (0:Int) (0:Int) (0:Int) (0:Int) (0:Int) mQ.cu mQ.cC mQ.cX mQ.cS mQ.cJ mQ.cF
  else
   (rP N v1.xK).bind λv46=>
   Option.bind (wq N uQ v46 (1:Int)) λmF=>
   F1 N v2 v1 mF.cu mF.cC mF.cX mF.cS mF.cJ mF.cF (0:Int) (0:Int) (0:Int) (0:Int) (0:Int) (0:Int)
def E3(v1:bp)(v4:Int)(v5:Int)(v6:Int)(v7:Int)(v8:Int)(v9:Int)(v10:Int)(v11:Int)(v12:Int)(aA:Int)(aE:Int)(aP:Int)(l:ak4 ao):ak4 ao:= .cells (dN v1).cells:: .cells [(.d (.v (.int .u64 v4))),(.d (.v (.int .u64 v5))),(.d (.v (.int .u64 v6))),(.d (.v (.int .u64 v7))),(.d (.v (.int .u64 v8))),(.d (.v (.int .u64 v9)))]:: .cells [(.d (.v (.int .u64 v10))),(.d (.v (.int .u64 v11))),(.d (.v (.int .u64 v12))),(.d (.v (.int .u64 aA))),(.d (.v (.int .u64 aE))),(.d (.v (.int .u64 aP)))]::l
theorem QC{N v1 v2 r}(hF:wI N v1 v2=some r):KF 81 [(dN v1),(.d (.sl (aN v2)))] (.aW [(bG r.1),(aq r.2)]):=by
 rw[wI]at hF;refine Gc Tryz.func81 ?_;obtain⟨v3,J,hF⟩:=bg hF;refine gp bB [[],[(4,cK aeK J)]] ?_;apply bc hF<;>intro h2 hF
 ·cases hF;exact wr bB [[(0,bT h2)],[]]
 refine FX bB 1 [[(0,bF h2)],[],[]] [1,2,6,7] 3 (λ((v4,v5,v6,v7,v8,v9,v10,v11,v12,aA,aE,aP):Int×Int×Int×Int×Int×Int×Int×Int×Int×Int×Int×Int)=>⟨155,[(1,(.d (.sl (aN v2)))),(2,(.ptr 0 0)),(6,(.ptr 1 0)),(7,(.ptr 2 0))],(E3 v1 v4 v5 v6 v7 v8 v9 v10 v11 v12 aA aE aP [])⟩) (λ((v4,v5,v6,v7,v8,v9,v10,v11,v12,aA,aE,aP):Int×Int×Int×Int×Int×Int×Int×Int×Int×Int×Int×Int)=>F1 N v2 v1 v4 v5 v6 v7 v8 v9 v10 v11 v12 aA aE aP=some r) ?_ ?_
 ·intro f1 aG;apply bc hF<;>intro uE hF
  ·obtain⟨Xu,Gs,mQ,Ot,hF⟩:=k00 hF;exact kM bB aG ((0:Int),(0:Int),(0:Int),(0:Int),(0:Int),(0:Int),mQ.cu,mQ.cC,mQ.cX,mQ.cS,mQ.cJ,mQ.cF) [[(0,bT uE)],[(10,cK w5 Gs),(13,cK Gy Ot)]] hF
  obtain⟨v46,h34,mF,h35,hF⟩:=k00 hF;exact kM bB aG (mF.cu,mF.cC,mF.cX,mF.cS,mF.cJ,mF.cF,(0:Int),(0:Int),(0:Int),(0:Int),(0:Int),(0:Int)) [[(0,bF uE)],[(10,cK w5 h34),(13,cK Gy h35)]] hF
 rintro⟨v4,v5,v6,v7,v8,v9,v10,v11,v12,aA,aE,aP⟩ hF
 try dsimp only at hF
 rw[F1]at hF;refine gp bB [[]] ?_;refine SR tT 0 1 v1.xL λh4=> ?_;refine D8 bB 2 [] [1,2,6,7,8] 3 (λ((bC,bW,v20,v21,e8,dH,v24,fi,eP,gJ,v28,j6,v30,v31):Nat×(ak4 dK)×Int×Int×Int×Int×Int×Int×Int×Int×Int×Int×Int×Int)=>⟨155,[(1,(.d (.sl (aN v2)))),(2,(.ptr 0 0)),(6,(.ptr 1 0)),(7,(.ptr 2 0)),(8,(aq (bC:Int)))],(E3 v1 v20 v21 e8 dH v24 fi eP gJ v28 j6 v30 v31 [])⟩) (λ((bC,bW,v20,v21,e8,dH,v24,fi,eP,gJ,v28,j6,v30,v31):Nat×(ak4 dK)×Int×Int×Int×Int×Int×Int×Int×Int×Int×Int×Int×Int)=>v1.xL.drop bC=bW/\rL N v2 bW bC v20 v21 e8 dH v24 fi eP gJ v28 j6 v30 v31=some r) (λ((bC,bW,v20,v21,e8,dH,v24,fi,eP,gJ,v28,j6,v30,v31):Nat×(ak4 dK)×Int×Int×Int×Int×Int×Int×Int×Int×Int×Int×Int×Int)=>bW.length) (0,v1.xL,v4,v5,v6,v7,v8,v9,v10,v11,v12,aA,aE,aP) ⟨rfl,hF⟩ ?_;rintro⟨bC,bW,v20,v21,e8,dH,v24,fi,eP,gJ,v28,j6,v30,v31⟩ ⟨h5,hF⟩ f2 dT;cases bW with
 |nil=>
  rw[rL]at hF;obtain⟨yj,h6,hF⟩:=bg hF;refine gp bB [[(10,oL v1.xL iZ)],[(0,bF (bK h5))],[(7,cL (aiX h6))]] ?_;apply bc hF<;>intro h7 hF
  ·obtain⟨iS,h8,hF⟩:=bg hF;refine gp bB [[(0,bT h7)],[(7,cL (QD h8))],[(1,⟨_,_, .lt (z:=0) (n:=6) (by decide) (by decide)⟩),(7,⟨_,_, .lt (z:=1) (n:=6) (by decide) (by decide)⟩)]] ?_;obtain⟨Pm,bN,hF⟩:=bg hF;refine vB bB [(116,(ax Pm))] (E3 v1 v20 v21 e8 dH v24 fi eP gJ v28 j6 v30 v31 [.cells (eD iS).cells]) ?_ ?_
   ·apply bc bN<;>intro h9 bN
    ·cases bN;exact zH [(3,bT h9),(8,bT rfl),(13,bT rfl),(18,bT rfl)] [(1,⟨_,_, .lt (z:=2) (n:=6) (by decide) (by decide)⟩)]
    apply bc bN<;>intro aO bN
    ·cases bN;exact zH [(3,bF h9),(8,bT aO),(13,bT rfl),(18,bT rfl)] [(1,⟨_,_, .lt (z:=2) (n:=6) (by decide) (by decide)⟩),(13,⟨_,_, .lt (z:=3) (n:=6) (by decide) (by decide)⟩)]
    apply bc bN<;>intro aY bN
    ·cases bN;exact zH [(3,bF h9),(8,bF aO),(13,bT aY),(18,bT rfl)] [(1,⟨_,_, .lt (z:=2) (n:=6) (by decide) (by decide)⟩),(13,⟨_,_, .lt (z:=3) (n:=6) (by decide) (by decide)⟩),(28,⟨_,_, .lt (z:=4) (n:=6) (by decide) (by decide)⟩)]
    apply bc bN<;>intro aT bN
    ·cases bN;exact zH [(3,bF h9),(8,bF aO),(13,bF aY),(18,bT aT)] [(1,⟨_,_, .lt (z:=2) (n:=6) (by decide) (by decide)⟩),(13,⟨_,_, .lt (z:=3) (n:=6) (by decide) (by decide)⟩),(28,⟨_,_, .lt (z:=4) (n:=6) (by decide) (by decide)⟩),(43,⟨_,_, .lt (z:=5) (n:=6) (by decide) (by decide)⟩)]
    cases bN;exact zH [(3,bF h9),(8,bF aO),(13,bF aY),(18,bF aT)] [(1,⟨_,_, .lt (z:=2) (n:=6) (by decide) (by decide)⟩),(13,⟨_,_, .lt (z:=3) (n:=6) (by decide) (by decide)⟩),(28,⟨_,_, .lt (z:=4) (n:=6) (by decide) (by decide)⟩),(43,⟨_,_, .lt (z:=5) (n:=6) (by decide) (by decide)⟩)]
   apply bc hF<;>intro bZ hF
   ·cases hF;exact wr bB [[(0,bT bZ)],[]]
   cases hF;exact wr bB [[(0,bF bZ)],[(8,⟨_,_, .eq (jt (IntKind.u64.wrap ((IntKind.u64.wrap (iS.cu+(IntKind.u64.wrap (iS.cC*(4294967296:Int)))))-(1:Int))))⟩),(11,⟨_,_, .eq (sW (Int64.ofInt (IntKind.u64.wrap ((IntKind.u64.wrap (iS.cu+(IntKind.u64.wrap (iS.cC*(4294967296:Int)))))-(1:Int)))))⟩),(14,⟨_,_, .eq (vC (-(Int64.ofInt (IntKind.u64.wrap ((IntKind.u64.wrap (iS.cu+(IntKind.u64.wrap (iS.cC*(4294967296:Int)))))-(1:Int))))) (1:Int64))⟩)]]
  obtain⟨nm,bM,hF⟩:=bg hF;refine gp bB [[(0,bF h7)],[(7,cL (QD bM))],[(1,⟨_,_, .lt (z:=0) (n:=6) (by decide) (by decide)⟩),(7,⟨_,_, .lt (z:=1) (n:=6) (by decide) (by decide)⟩)]] ?_;obtain⟨Lb,dD,hF⟩:=bg hF;refine vB bB [(152,(ax Lb))] (E3 v1 v20 v21 e8 dH v24 fi eP gJ v28 j6 v30 v31 [.cells (eD nm).cells]) ?_ ?_
  ·apply bc dD<;>intro cn dD
   ·cases dD;exact zH [(3,bT cn),(8,bT rfl),(13,bT rfl),(18,bT rfl)] [(1,⟨_,_, .lt (z:=2) (n:=6) (by decide) (by decide)⟩)]
   apply bc dD<;>intro dj dD
   ·cases dD;exact zH [(3,bF cn),(8,bT dj),(13,bT rfl),(18,bT rfl)] [(1,⟨_,_, .lt (z:=2) (n:=6) (by decide) (by decide)⟩),(13,⟨_,_, .lt (z:=3) (n:=6) (by decide) (by decide)⟩)]
   apply bc dD<;>intro eC dD
   ·cases dD;exact zH [(3,bF cn),(8,bF dj),(13,bT eC),(18,bT rfl)] [(1,⟨_,_, .lt (z:=2) (n:=6) (by decide) (by decide)⟩),(13,⟨_,_, .lt (z:=3) (n:=6) (by decide) (by decide)⟩),(28,⟨_,_, .lt (z:=4) (n:=6) (by decide) (by decide)⟩)]
   apply bc dD<;>intro fu dD
   ·cases dD;exact zH [(3,bF cn),(8,bF dj),(13,bF eC),(18,bT fu)] [(1,⟨_,_, .lt (z:=2) (n:=6) (by decide) (by decide)⟩),(13,⟨_,_, .lt (z:=3) (n:=6) (by decide) (by decide)⟩),(28,⟨_,_, .lt (z:=4) (n:=6) (by decide) (by decide)⟩),(43,⟨_,_, .lt (z:=5) (n:=6) (by decide) (by decide)⟩)]
   cases dD;exact zH [(3,bF cn),(8,bF dj),(13,bF eC),(18,bF fu)] [(1,⟨_,_, .lt (z:=2) (n:=6) (by decide) (by decide)⟩),(13,⟨_,_, .lt (z:=3) (n:=6) (by decide) (by decide)⟩),(28,⟨_,_, .lt (z:=4) (n:=6) (by decide) (by decide)⟩),(43,⟨_,_, .lt (z:=5) (n:=6) (by decide) (by decide)⟩)]
  apply bc hF<;>intro fW hF
  ·cases hF;exact wr bB [[(0,bT fW)],[]]
  cases hF;exact wr bB [[(0,bF fW)],[(5,⟨_,_, .eq (jt (IntKind.u64.wrap (nm.cu+(IntKind.u64.wrap (nm.cC*(4294967296:Int))))))⟩)]]
 |cons bH cd=>
  rw[rL]at hF;obtain⟨v37,iu,hF⟩:=bg hF;refine gp bB [[(10,oL v1.xL iZ)],[(0,bT (bJ h5))],[(13,oE (lX (bm h5))),(22,cK ajW iu)],[]] ?_;apply bc hF<;>intro fe hF
  ·refine gp bB [[(0,bF (cH fe))],[(16,oE (lX (bm h5)))]] ?_;apply bc hF<;>intro fE hF
   ·obtain⟨U6,lO,Ti,mc,hF⟩:=k00 hF;obtain⟨v40,gq,hF⟩:=bg hF;exact CO bB dT (bC+1,cd,v40.cu,v40.cC,v40.cX,v40.cS,v40.cJ,v40.cF,eP,gJ,v28,j6,v30,v31) [[(0,bF (cH fE))],[(7,cK w5 lO),(19,oE (lX (bm h5))),(28,cK w5 mc),(31,cK Gy gq)],[(5,oq (bS h5 rfl h4))]] ⟨ly h5,hF⟩
   obtain⟨Xg,lA,Xd,pO,hF⟩:=k00 hF;obtain⟨mU,oM,hF⟩:=bg hF;exact CO bB dT (bC+1,cd,v20,v21,e8,dH,v24,fi,mU.cu,mU.cC,mU.cX,mU.cS,mU.cJ,mU.cF) [[(0,bT (dq fE))],[(7,cK w5 lA),(19,oE (lX (bm h5))),(28,cK w5 pO),(31,cK Gy oM)],[(5,oq (bS h5 rfl h4))]] ⟨ly h5,hF⟩
  cases hF;exact wr bB [[(0,bT (dq fe))],[]]
def G6(N:Nat):ak4 bp->Nat->ak6 Bool
 |[],_=>
  some false
 |v4::v5,v2=>
  bif (decide ((v4.xL.length:Int)>20))then
   some true
  else
   (G6 N v5 (v2+1))
def NX(N:Nat)(v1:ak4 bp):ak6 Bool:=
 G6 N v1 0
theorem abG{N v1}:KO 36 [(.d (.sl (eW v1)))] ax (NX N v1):=
 fw Tryz.func36 (gA [[],[]] (gT mv 0 v1 λh2=>dP 1 [] [0,3] 0 (λv2=>⟨17,[(0,(.d (.sl (eW v1)))),(3,(aq (v2:Int)))],[]⟩) (λv2 h3 f1=>gR [[(7,oL v1 fy)],[f0 (bK h3)],[]]) (λv2 v4 v5 h3 f1 aG=>gA [[(7,oL v1 fy)],[t0 (bJ h3)],[(7,oE (ng (bm h3))),(16,oL v4.xL iZ)]] (bj λh4=>gb aG () [[f0 h4],[(5,oq (bS h3 rfl h2))]] h3))))
def Ct(N:Nat)(aE:cv)(Qb:ak6 Bool):Nat->Int->ak6 Bool
 |0,_=>none
 |bH+1,cd=>
  bif (decide (cd<(aK ((aE.bo.length:Int)+(aE.cO.length:Int)))))then
   bif (Nat.ble ((0+aE.bo.length)*48) 140737488355328)then
   bif (Nat.ble ((aE.bo.length+aE.cO.length)*48) 140737488355328)then
   bif (decide ((0:Int)<=cd))then
   Option.bind ((aE.bo++aE.cO)[(cd).toNat]?) λv20=>
   bif (decide ((v20.ff.xL.length:Int)>20))then
    some true
   else
    (λvv=>Ct N aE Qb bH vv) (aK (cd+(1:Int)))
   else none
   else none
   else none
  else
   Qb
def Aj(N:Nat)(v2:Int):ak4 cv->Nat->ak6 Bool
 |[],_=>
  some false
 |aE::aP,v12=>
  Option.bind (bif (decide ((aE.bo.length:Int)>12))then some true else(bif (decide ((aE.cO.length:Int)>12))then some true else (N2 N aE.cP v2).bind λbC=>
  some (decide (bC>v2)))) λbW=>
  bif bW then
   some true
  else
   Ct N aE (Aj N v2 aP (v12+1)) N (0:Int)
def GN(N:Nat)(v2:Int)(v1:aZ):ak4 eV->Nat->ak6 Bool
 |[],_=>
  Aj N v2 v1.aU 0
 |v10::v11,v8=>
  Option.bind (bif (decide ((v10.bo.length:Int)>12))then some true else (NX N v10.bo).bind λv21=>
  some v21) λe8=>
  bif e8 then
   some true
  else
   (GN N v2 v1 v11 (v8+1))
def Hn(N:Nat)(v2:Int)(v1:aZ):ak4 gr->Nat->ak6 Bool
 |[],_=>
  GN N v2 v1 v1.bu 0
 |v6::v7,v4=>
  bif (decide ((v6.bO.xL.length:Int)>20))then
   some true
  else
   (Hn N v2 v1 v7 (v4+1))
def BF(N:Nat)(v1:aZ)(v2:Int):ak6 Bool:=
 Option.bind (bif (decide ((v1.bE.length:Int)>12))then some true else(bif (decide ((v1.dL.length:Int)>12))then some true else(bif (decide ((v1.bu.length:Int)>12))then some true else(bif (decide ((v1.aU.length:Int)>12))then some true else some (decide ((v1.dU.length:Int)>12)))))) λv3=>
 bif v3 then
  some true
 else
  Hn N v2 v1 v1.dL 0
def sZ(v1:aZ)(l:ak4 ao):ak4 ao:= .cells (c7 v1).cells::l
theorem aas{N v1 v2}:KO 13 [(c7 v1),(aq v2)] ax (BF N v1 v2):=
 fw Tryz.func13 (gA [[]] (gG (λv3=>[(38,(ax v3))]) (λ_=>(sZ v1 [])) (c9 (7,oL v1.bE fR) (aw (λJ=>gE [(4,bT J),(10,bT rfl),(16,bT rfl),(22,bT rfl)] []) λJ=>cr (4,bF J) (c9 (22,oL v1.dL nS) (aw (λh2=>gE [(10,bT h2),(16,bT rfl),(22,bT rfl)] []) λh2=>cr (10,bF h2) (c9 (40,oL v1.bu lu) (aw (λh3=>gE [(16,bT h3),(22,bT rfl)] []) λh3=>cr (16,bF h3) (c9 (58,oL v1.aU kp) (aw (λh4=>gE [(22,bT h4)] []) λh4=>gE [(22,bF h4)] [(76,oL v1.dU fR)])))))))) λv3=>fU λ_=>gB Bi 0 1 v1.dL λh8=>dP 1 [] [1,2,5] 1 (λv4=>⟨135,[(1,(aq v2)),(2,(.ptr 0 0)),(5,(aq (v4:Int)))],(sZ v1 [])⟩) (λv4 h9 f1=>gA [[(10,oL v1.dL nS)],[f0 (bK h9)],[]] (gB zl 0 2 v1.bu λaY=>dP 2 [] [1,2,6] 1 (λv8=>⟨135,[(1,(aq v2)),(2,(.ptr 0 0)),(6,(aq (v8:Int)))],(sZ v1 [])⟩) (λv8 aT f2=>gA [[(10,oL v1.bu lu)],[f0 (bK aT)],[]] (gB ud 0 3 v1.aU λbZ=>dP 3 [] [1,2,7] 1 (λv12=>⟨135,[(1,(aq v2)),(2,(.ptr 0 0)),(7,(aq (v12:Int)))],(sZ v1 [])⟩) (λv12 bM f3=>gR [[(10,oL v1.aU kp)],[f0 (bK bM)],[]]) (λv12 aE aP bM f3 j9=>gA [[(10,oL v1.aU kp)],[t0 (bJ bM)],[(10,oE (jm (bm bM)))]] (gG (λbW=>[(108,(ax bW))]) (λ_=>(sZ v1 [.cells (eR aE).cells])) (c9 (7,oL aE.bo fO) (aw (λcn=>gE [(4,bT cn),(10,bT rfl)] []) λcn=>cr (4,bF cn) (c9 (22,oL aE.cO fO) (aw (λdj=>gE [(10,bT dj)] []) λdj=>au λbC eC=>gE [(10,bF dj)] [(43,cK aiZ eC)])))) λbW=>bj λdD=>HG 4 [[f0 dD],[]] [1,2,7,8,9] 2 (λ(cd:Int)=>⟨135,[(1,(aq v2)),(2,(.ptr 0 0)),(7,(aq (v12:Int))),(8,(.ptr 1 0)),(9,(aq cd))],(sZ v1 [.cells (eR aE).cells])⟩) (Ct N aE (Aj N v2 aP (v12+1))) (λbH cd f4 mA=>gA [[(10,oL aE.bo fO),(19,oL aE.cO fO)]] (aw (λfW=>gA [[t0 fW]] (dh λiu=>dh λfe=>dh λlO=>au λv20 fE=>li (λ_=>(Pe 3 bB [(10,(.ptr 3 0))] (sZ v1 [.cells (eR aE).cells, .front 80 3 (aE.bo++aE.cO).length, .cells (O7 v20).cells]) ⟨[(10,oZ m8 aE.bo iu),(19,oA m8 aE.bo aE.cO fe),(25,⟨_,_, .el (xs:=gx (aE.bo++aE.cO)) (i:=cd) (of_decide_eq_true lO) (mV fE)⟩)],by kernel_rfl⟩ ·)) (gA [[(10,oL v20.ff.xL iZ)]] (bj λmc=>yP mA (aK (cd+(1:Int))) [[f0 mc],[]])))) λfW=>gb j9 () [[f0 fW],[(5,oq (bS bM rfl bZ))]] bM)))))) (λv8 v10 v11 aT f2 dT=>gA [[(10,oL v1.bu lu)],[t0 (bJ aT)]] (gG (λe8=>[(78,(ax e8))]) (λ_=>(sZ v1 [])) (c9 (10,oE (na (bm aT))) (c9 (19,oL v10.bo fy) (aw (λgq=>gE [(8,bT gq)] []) λgq=>au λv21 lA=>gE [(8,bF gq)] [(37,oE (na (bm aT))),(46,cK abG lA)]))) λe8=>bj λoM=>gb dT () [[f0 oM],[(5,oq (bS aT rfl aY))]] aT)))) (λv4 v6 v7 h9 f1 aG=>gA [[(10,oL v1.dL nS)],[t0 (bJ h9)],[(10,oE (Cp (bm h9))),(22,oL v6.bO.xL iZ)]] (bj λuE=>gb aG () [[f0 uE],[(5,oq (bS h9 rfl h8))]] h9))))
def La(N:Nat)(v1:aZ)(v2:ak4 aX)(v3:ak5):ak6 ((ak4 Int)×Int):=
 (Df N v1 v2).bind λv4=>
 bif (v4 !=0)then
  some ([],v4)
 else
  (uU N v1 v2 v3).bind λv5=>
  some (v5.1,v5.2.2)
theorem adH{N v1 v2 v3}:KO 15 [(c7 v1),(.d (.sl (aN v2))),(c6 v3)] (λr=> .aW [(.d (.sl (bq r.1))),(aq r.2)]) (La N v1 v2 v3):=
 fw Tryz.func15 (au λv4 J=>gA [[],[(7,cK R7 J)],[]] (bj λh2=>au λv5 h3=>gR [[f0 h2],[(10,cK Ew h3)],[]]))
def uT(N:Nat)(v1:ak5)(v2:ak4 ak5):ak6 Int:=
 (vS N v1).bind λv3=>
 bif v3 then
  (sY N v2 v1).bind λv4=>
  bif v4 then
   some (8:Int)
  else
   some (0:Int)
 else
  some (7:Int)
theorem Hy{N v1 v2}:KO 208 [(c6 v1),(.d (.sl (cW v2)))] aq (uT N v1 v2):=
 fw Tryz.func208 (au λv3 J=>gA [[],[(4,cK E7 J)]] (ft λh2=>au λv4 h3=>gA [[f0 (cH h2)],[(7,cK BH h3)]] (bj λh4=>gR [[f0 h4],[]])))
def Fy(N:Nat)(v1:aZ):ak4 ak5->Nat->ak6 Int
 |[],_=>
  some (0:Int)
 |v5::v6,v3=>
  bif (decide (((v3:Int)).toNat<=v1.bE.length))then
  Option.bind (uT N v5 ((v1.bE.take ((v3:Int)).toNat).drop 0)) λv7=>
  bif (v7 !=0)then
   some v7
  else
   (Fy N v1 v6 (v3+1))
  else none
def J6(N:Nat)(v1:aZ):ak6 Int:=
 Option.bind (bif (decide ((v1.bE.length:Int)>64))then some true else(bif (decide ((v1.bu.length:Int)>64))then some true else(bif (decide ((v1.aU.length:Int)>64))then some true else(bif (decide ((v1.dU.length:Int)>64))then some true else some (decide ((v1.dL.length:Int)>256)))))) λv2=>
 bif v2 then
  some (2:Int)
 else
  Fy N v1 v1.bE 0
theorem adv{N v1}:KO 121 [(c7 v1)] aq (J6 N v1):=
 fw Tryz.func121 (gA [[]] (gG (λv2=>[(32,(ax v2))]) (λ_=>[.cells (c7 v1).cells]) (c9 (7,oL v1.bE fR) (aw (λJ=>gE [(4,bT J),(10,bT rfl),(16,bT rfl),(22,bT rfl)] []) λJ=>cr (4,bF J) (c9 (22,oL v1.bu lu) (aw (λh2=>gE [(10,bT h2),(16,bT rfl),(22,bT rfl)] []) λh2=>cr (10,bF h2) (c9 (40,oL v1.aU kp) (aw (λh3=>gE [(16,bT h3),(22,bT rfl)] []) λh3=>cr (16,bF h3) (c9 (58,oL v1.dU fR) (aw (λh4=>gE [(22,bT h4)] []) λh4=>gE [(22,bF h4)] [(76,oL v1.dL nS)])))))))) λv2=>fU λ_=>gB jK 0 0 v1.bE λh8=>dP 1 [] [1,3] 1 (λv3=>⟨53,[(1,(.ptr 0 0)),(3,(aq (v3:Int)))],[.cells (c7 v1).cells]⟩) (λv3 h9 f1=>gR [[(10,oL v1.bE fR)],[f0 (bK h9)],[]]) (λv3 v5 v6 h9 f1 aG=>dh λaO=>au λv7 aY=>gA [[(10,oL v1.bE fR)],[t0 (bJ h9)],[(10,oE (mo (bm h9))),(25,⟨_,_, .sub (xs:=cW v1.bE) (lo:=0) (hi:=(v3:Int)) (by decide) (Nat.zero_le _) (of_decide_eq_true (akX (Int.natCast_nonneg _))) (by rw[fR];exact(of_decide_eq_true aO)) yL On⟩),(28,cK Hy aY)],[]] (bj λaT=>gb aG () [[f0 aT],[(5,oq (bS h9 rfl h8))]] h9))))
def En(N:Nat)(v2:ak4 ak5)(v3:ak4 ak5):ak4 dK->Nat->ak6 Bool
 |[],_=>
  some true
 |v6::v7,v4=>
  (sY N v2 v6.aF).bind λv8=>
  Option.bind (bif v8 then some false else (sY N v3 v6.aF).bind λv9=>
  some (!v9)) λv10=>
  bif v10 then
   some false
  else
   (En N v2 v3 v7 (v4+1))
def Ay(N:Nat)(v1:bp)(v2:ak4 ak5)(v3:ak4 ak5):ak6 Bool:=
 En N v2 v3 v1.xL 0
theorem MA{N v1 v2 v3}:KO 210 [(dN v1),(.d (.sl (cW v2))),(.d (.sl (cW v3)))] ax (Ay N v1 v2 v3):=
 fw Tryz.func210 (gA [[],[]] (gB tT 0 1 v1.xL λh2=>dP 1 [] [1,2,3,7] 1 (λv4=>⟨35,[(1,(.d (.sl (cW v2)))),(2,(.d (.sl (cW v3)))),(3,(.ptr 0 0)),(7,(aq (v4:Int)))],[.cells (dN v1).cells]⟩) (λv4 h3 f1=>gR [[(10,oL v1.xL iZ)],[f0 (bK h3)],[]]) (λv4 v6 v7 h3 f1 aG=>gA [[(10,oL v1.xL iZ)],[t0 (bJ h3)]] (au λv8 h4=>gG (λv10=>[(34,(ax v10))]) (λ_=>[.cells (dN v1).cells]) (c9 (13,oE (lX (bm h3))) (c9 (22,cK BH h4) (aw (λh5=>gE [(9,bF (cH h5))] []) λh5=>au λv9 h6=>gE [(9,bT (dq h5))] [(43,oE (lX (bm h3))),(52,cK BH h6)]))) λv10=>bj λh8=>gb aG () [[f0 h8],[(5,oq (bS h3 rfl h2))]] h3))))
def x7(N:Nat)(v1:bp)(v2:ak4 ak5):ak6 Int:=
 (tt N v1).bind λv3=>
 bif v3 then
  Option.bind (Ay N v1 [] v2) λv4=>
  bif v4 then
   some (0:Int)
  else
   some (9:Int)
 else
  some (1:Int)
theorem MS{N v1 v2}:KO 122 [(dN v1),(.d (.sl (cW v2)))] aq (x7 N v1 v2):=
 fw Tryz.func122 (au λv3 J=>gA [[],[(4,cK xO J)]] (ft λh2=>au λv4 h3=>gA [[f0 (cH h2)],[(7,cK MA h3)]] (mD λh4=>gR [[t0 (dq h4)],[]])))
def Fs(N:Nat)(v2:ak4 ak5):ak4 bp->Nat->ak6 Int
 |[],_=>
  some (0:Int)
 |v8::v9,v6=>
  (x7 N v8 v2).bind λv10=>
  bif (v10 !=0)then
   some v10
  else
   (Fs N v2 v9 (v6+1))
def IC(N:Nat)(v1:eV)(v2:ak4 ak5)(v3:ak4 ak5):ak6 Int:=
 (uT N v1.aF v3).bind λv4=>
 bif (v4 !=0)then
  some v4
 else
  (vz N v1.aJ).bind λv5=>
  bif v5 then
   bif (decide ((v1.bo.length:Int)>6))then
    some (11:Int)
   else
    Fs N v2 v1.bo 0
  else
   some (10:Int)
theorem agF{N v1 v2 v3}:KO 123 [(nb v1),(.d (.sl (cW v2))),(.d (.sl (cW v3)))] aq (IC N v1 v2 v3):=
 fw Tryz.func123 (au λv4 J=>gA [[],[(10,cK Hy J)],[]] (bj λh2=>au λv5 h3=>gA [[f0 h2],[(7,cK Ej h3)]] (ft λh4=>gA [[f0 (cH h4)],[(7,oL v1.bo fy)]] (fU λ_=>gB mv 0 6 v1.bo λh7=>dP 1 [] [1,3,8] 1 (λv6=>⟨42,[(1,(.d (.sl (cW v2)))),(3,(.ptr 0 0)),(8,(aq (v6:Int)))],[.cells (nb v1).cells]⟩) (λv6 h8 f1=>gR [[(10,oL v1.bo fy)],[f0 (bK h8)],[]]) (λv6 v8 v9 h8 f1 aG=>au λv10 h9=>gA [[(10,oL v1.bo fy)],[t0 (bJ h8)],[(10,oE (ng (bm h8))),(19,cK MS h9)],[]] (bj λaO=>gb aG () [[f0 aO],[(5,oq (bS h8 rfl h7))]] h8))))))
def GY(N:Nat)(v2:ak4 ak5):ak4 dJ->Nat->(ak4 ak5)->ak6 Int
 |[],_,_=>
  some (0:Int)
 |v5::v6,v3,v7=>
  (uT N v5.aF v7).bind λv8=>
  bif (v8 !=0)then
   some v8
  else
   (x7 N v5.ff v2).bind λv9=>
   bif (v9 !=0)then
    some v9
   else
    bif (Nat.ble ((v7.length+1)*16) 140737488355328)then
    (λcq=>GY N v2 v6 (v3+1) cq) (v7++[v5.aF])
    else none
def Fp(N:Nat)(v1:ak4 dJ)(v2:ak4 ak5):ak6 Int:=
 bif (Nat.ble ((0+v2.length)*16) 140737488355328)then
 GY N v2 v1 0 v2
 else none
theorem aiQ{N v1 v2}:KO 211 [(.d (.sl (gx v1))),(.d (.sl (cW v2)))] aq (Fp N v1 v2):=
 fw Tryz.func211 (dh λJ=>gA [[],[(7,oZ jK v2 J)],[]] (gT m8 0 v1 λh3=>fq 1 [] [0,1,5,6] 1 (λv3(v7:ak4 ak5)=>⟨46,[(0,(.d (.sl (gx v1)))),(1,(.d (.sl (cW v2)))),(5,(.own 0 (cW v7))),(6,(aq (v3:Int)))],[.front 9 1 v7.length]⟩) (λv3 v7 h4 f1=>gR [[(7,oL v1 fO)],[f0 (bK h4)],[]]) (λv3 v5 v6 v7 h4 f1 aG=>au λv8 h5=>gA [[(7,oL v1 fO)],[t0 (bJ h4)],[(7,oE (mV (bm h4))),(19,cK Hy h5)],[]] (bj λh6=>au λv9 h7=>gA [[f0 h6],[(7,oE (mV (bm h4))),(19,cK MS h7)],[]] (bj λh8=>dh λh9=>gb aG (v7++[v5.aF]) [[f0 h8],[(10,oE (mV (bm h4))),(22,oA jK v7 ([v5.aF]) h9)],[(5,oq (bS h4 rfl h3))]] h4)))))
def Jd(N:Nat)(v1:cv):ak6 Int:=
 Option.bind (bif (decide (v1.eQ<0))then some true else some (decide (v1.eQ>5))) λv2=>
 bif v2 then
  some (1:Int)
 else
  Option.bind (bif (v1.eQ==0)then some true else some (v1.eQ==5)) λv3=>
  Option.bind (bif (v3==((v1.cO.length:Int)==0))then(bif (v1.eQ==5)then some ((v1.bo.length:Int)==0)else some false)else some true) λv4=>
  bif v4 then
   some (11:Int)
  else
   some (0:Int)
theorem ag3{N v1}:KO 212 [(eR v1)] aq (Jd N v1):=
 fw Tryz.func212 (gA [[]] (gG (λv2=>[(11,(ax v2))]) (λ_=>[.cells (eR v1).cells]) (aw (λJ=>gE [(3,bT J)] []) λJ=>gE [(3,bF J)] []) λv2=>bj λh3=>gA [[f0 h3]] (gG (λv3=>[(3,(ax v3))]) (λ_=>[.cells (eR v1).cells]) (aw (λh4=>gE [(3,bT h4)] []) λh4=>gE [(3,bF h4)] []) λv3=>gG (λv4=>[(36,(ax v4))]) (λ_=>[.cells (eR v1).cells]) (c9 (10,oL v1.cO fO) (aw (λh6=>cr (6,bF (cH h6)) (aw (λh7=>gE [(10,bT h7)] [(40,oL v1.bo fO),(46,bT h7)]) λh7=>gE [(10,bF h7)] [(46,bF h7)])) λh6=>gE [(6,bT (dq h6)),(10,uN)] [])) λv4=>bj λh9=>gR [[f0 h9],[]])))
def Da(N:Nat):ak4 dJ->Nat->(ak4 ak5)->ak6 ((ak4 ak5))
 |[],_,v11=>
  some v11
 |v9::v10,v7,v11=>
  bif (Nat.ble ((v11.length+1)*16) 140737488355328)then
  (λgP=>Da N v10 (v7+1) gP) (v11++[v9.aF])
  else none
def DD(N:Nat)(v1:cv):ak4 dJ->Nat->(ak4 ak5)->ak6 ((ak4 ak5))
 |[],_,v6=>
  Da N v1.cO 0 v6
 |v4::v5,v2,v6=>
  bif (Nat.ble ((v6.length+1)*16) 140737488355328)then
  (λcq=>DD N v1 v5 (v2+1) cq) (v6++[v4.aF])
  else none
def I9(N:Nat)(v1:cv):ak6 ((ak4 ak5)):=
 DD N v1 v1.bo 0 []
theorem Zj{N v1}:KO 214 [(eR v1)] (λr=> .d (.sl (cW r))) (I9 N v1):=
 fw Tryz.func214 (gA [[],[],[]] (li (λ_=>(mG 3 9 1 [] (.inr (by kernel_rfl)) ·)) (gB m8 0 6 v1.bo λh2=>fq 1 [] [1,3,4] 2 (λv2(v6:ak4 ak5)=>⟨39,[(1,(.ptr 0 0)),(3,(.own 1 (cW v6))),(4,(aq (v2:Int)))],[.cells (eR v1).cells, .front 9 1 v6.length]⟩) (λv2 v6 h3 f1=>gA [[(10,oL v1.bo fO)],[f0 (bK h3)],[]] (gB m8 0 7 v1.cO λh5=>fq 2 [] [1,3,5] 2 (λv7(v11:ak4 ak5)=>⟨39,[(1,(.ptr 0 0)),(3,(.own 1 (cW v11))),(5,(aq (v7:Int)))],[.cells (eR v1).cells, .front 9 1 v11.length]⟩) (λv7 v11 h6 f2=>gR [[(10,oL v1.cO fO)],[f0 (bK h6)],[]]) (λv7 v9 v10 v11 h6 f2 dT=>dh λh7=>gb dT (v11++[v9.aF]) [[(10,oL v1.cO fO)],[t0 (bJ h6)],[(13,oE (mV (bm h6))),(25,oA jK v11 ([v9.aF]) h7)],[(5,oq (bS h6 rfl h5))]] h6))) (λv2 v4 v5 v6 h3 f1 aG=>dh λh8=>gb aG (v6++[v4.aF]) [[(10,oL v1.bo fO)],[t0 (bJ h3)],[(13,oE (mV (bm h3))),(25,oA jK v6 ([v4.aF]) h8)],[(5,oq (bS h3 rfl h2))]] h3))))
def HE(N:Nat)(v2:ak4 ak5)(v1:aZ):ak4 bp->Nat->ak6 Int
 |[],_=>
  some (0:Int)
 |v6::v7,v4=>
  (Ay N v6 v2 v1.bE).bind λv8=>
  bif v8 then
   (HE N v2 v1 v7 (v4+1))
  else
   some (9:Int)
def Hh(N:Nat)(v1:aZ)(v2:ak4 ak5)(v3:ak4 bp):ak6 Int:=
 HE N v2 v1 v3 0
theorem QK{N v1 v2 v3}:KO 301 [(c7 v1),(.d (.sl (cW v2))),(.d (.sl (eW v3)))] aq (Hh N v1 v2 v3):=
 fw Tryz.func301 (gA [[],[]] (gT mv 2 v3 λh2=>dP 1 [] [1,2,3,7] 1 (λv4=>⟨23,[(1,(.d (.sl (cW v2)))),(2,(.d (.sl (eW v3)))),(3,(.ptr 0 0)),(7,(aq (v4:Int)))],[.cells (c7 v1).cells]⟩) (λv4 h3 f1=>gR [[(7,oL v3 fy)],[f0 (bK h3)],[]]) (λv4 v6 v7 h3 f1 aG=>au λv8 h4=>gA [[(7,oL v3 fy)],[t0 (bJ h3)],[(7,oE (ng (bm h3))),(22,cK MA h4)]] (ft λh5=>gb aG () [[f0 (cH h5)],[(5,oq (bS h3 rfl h2))]] h3))))
def Bq(N:Nat)(v9:cv):ak4 dJ->Nat->(ak4 bp)->ak6 (aV×(ak4 bp)×Bool)
 |[],_,aP=>
  some (v9.aJ,aP,true)
 |aA::aE,v11,aP=>
  bif (Nat.ble ((aP.length+1)*32) 140737488355328)then
  (λmX=>Bq N v9 aE (v11+1) mX) (aP++[aA.ff])
  else none
def ER(N:Nat)(v2:ak5):ak4 cv->Nat->ak6 (aV×(ak4 bp)×Bool)
 |[],_=>
  some (ee,[],false)
 |v9::v10,v7=>
  bif (bL v9.aF==bL v2)then
   Bq N v9 v9.bo 0 []
  else
   (ER N v2 v10 (v7+1))
def AD(N:Nat)(v2:ak5)(v1:aZ):ak4 eV->Nat->ak6 (aV×(ak4 bp)×Bool)
 |[],_=>
  ER N v2 v1.aU 0
 |v5::v6,v3=>
  bif (bL v5.aF==bL v2)then
   some (v5.aJ,v5.bo,true)
  else
   (AD N v2 v1 v6 (v3+1))
def BU(N:Nat)(v1:aZ)(v2:ak5):ak6 (aV×(ak4 bp)×Bool):=
 AD N v2 v1 v1.bu 0
def JG(v1:aZ)(l:ak4 ao):ak4 ao:= .cells (c7 v1).cells:: .cells nA::l
theorem Km{N v1 v2}:KO 125 [(c7 v1),(c6 v2)] (λr=> .aW [(bX r.1),(.d (.sl (eW r.2.1))),(ax r.2.2)]) (BU N v1 v2):=
 fw Tryz.func125 (gA [[],[]] (gB zl 0 2 v1.bu λh2=>dP 1 [] [1,2,4,7] 2 (λv3=>⟨85,[(1,(c6 v2)),(2,(.ptr 0 0)),(4,(.ptr 1 0)),(7,(aq (v3:Int)))],(JG v1 [])⟩) (λv3 h3 f1=>gA [[(10,oL v1.bu lu)],[f0 (bK h3)],[]] (gB ud 0 3 v1.aU λh5=>dP 2 [] [1,2,4,8] 2 (λv7=>⟨85,[(1,(c6 v2)),(2,(.ptr 0 0)),(4,(.ptr 1 0)),(8,(aq (v7:Int)))],(JG v1 [])⟩) (λv7 h6 f2=>gR [[(10,oL v1.aU kp)],[f0 (bK h6)],[]]) (λv7 v9 v10 h6 f2 dT=>gA [[(10,oL v1.aU kp)],[t0 (bJ h6)],[(10,oE (jm (bm h6)))]] (aw (λh7=>gA [[t0 h7],[],[]] (li (λ_=>(mG 9 48 2 [] (.inr (by kernel_rfl)) ·)) (FH (λ_=>(gw_okB 0 3 (gD v1.aU) (by kernel_rfl) ·)) λh8=>have h9:=qz fO (Hp (j:=6) (d:= .sl (gx v9.bo)) h8 (jm (bm h6)) rfl);fq 3 [] [2,4,8,9,10] 3 (λv11(aP:ak4 bp)=>⟨85,[(2,(.ptr 0 0)),(4,(.ptr 1 0)),(8,(aq (v7:Int))),(9,(.own 2 (eW aP))),(10,(aq (v11:Int)))],(JG v1 [.front 48 2 aP.length])⟩) (λv11 aP aO f3=>gR [[(13,oE (jm (bm h6))),(22,oL v9.bo fO)],[f0 (bK aO)],[(10,oE (jm (bm h6)))]]) (λv11 aA aE aP aO f3 j9=>dh λaY=>gb j9 (aP++[aA.ff]) [[(13,oE (jm (bm h6))),(22,oL v9.bo fO)],[t0 (bJ aO)],[(13,oE (jm (bm h6))),(25,oE (mV (bm aO))),(37,oA mv aP ([aA.ff]) aY)],[(5,oq (bS aO rfl h9))]] aO)))) λh7=>gb dT () [[f0 h7],[(5,oq (bS h6 rfl h5))]] h6)))) (λv3 v5 v6 h3 f1 aG=>gA [[(10,oL v1.bu lu)],[t0 (bJ h3)],[(10,oE (na (bm h3)))]] (aw (λaT=>gA [[t0 aT]] (li (λ_=>(Pe 3 bB [(5,(.d (.sl (eW v5.bo)))),(6,(ax true))] [.cells (c7 v1).cells, .cells (bX v5.aJ).cells] ⟨[(10,oE (na (bm h3))),(28,oE (na (bm h3)))],by kernel_rfl⟩ ·)) (gR []))) λaT=>gb aG () [[f0 aT],[(5,oq (bS h3 rfl h2))]] h3))))
def CL(N:Nat)(v4:aV×(ak4 bp)×Bool)(v2:ak4 ak5)(v1:aZ):ak4 dd->Nat->ak6 (aV×Int)
 |[],_=>
  some (v4.1,(0:Int))
 |v7::v8,v5=>
  bif (bL v7.dk==bL (bs []))then
   (Ay N v7.bO v2 v1.bE).bind λv9=>
   bif v9 then
    (CL N v4 v2 v1 v8 (v5+1))
   else
    some (ee,(9:Int))
  else
   (BU N v1 v7.dk).bind λv10=>
   bif v10.2.2 then
    bif (v10.1.cg !=3)then
     some (ee,(10:Int))
    else
     bif ((v10.2.1.length:Int) !=(v7.da.length:Int))then
      some (ee,(11:Int))
     else
      (Hh N v1 v2 v7.da).bind λv11=>
      bif (v11 !=0)then
       some (ee,v11)
      else
       (CL N v4 v2 v1 v8 (v5+1))
   else
    some (ee,(9:Int))
def Gz(N:Nat)(v1:aZ)(v2:ak4 ak5)(v3:ay):ak6 (aV×Int):=
 (BU N v1 v3.aF).bind λv4=>
 bif v4.2.2 then
  bif ((v4.2.1.length:Int) !=(v3.xIdx.length:Int))then
   some (ee,(11:Int))
  else
   CL N v4 v2 v1 v3.xIdx 0
 else
  some (ee,(9:Int))
theorem aco{N v1 v2 v3}:KO 302 [(c7 v1),(.d (.sl (cW v2))),(aB v3)] (λr=> .aW [(bX r.1),(aq r.2)]) (Gz N v1 v2 v3):=
 fw Tryz.func302 (au λv4 J=>gA [[],[(10,cK Km J)],[]] (ft λh2=>gA [[f0 (cH h2)],[(4,oL v4.2.1 fy),(13,oL v3.xIdx fZ)]] (fU λ_=>gB pE 1 11 v3.xIdx λh5=>dP 1 [] [1,3,5,6,8,11] 4 (λv5=>⟨90,[(1,(.d (.sl (cW v2)))),(3,(.ptr 0 0)),(5,(.ptr 1 0)),(6,(.ptr 2 0)),(8,(.ptr 3 0)),(11,(aq (v5:Int)))],[.cells (c7 v1).cells, .cells (aB v3).cells, .cells nA, .cells (bX v4.1).cells]⟩) (λv5 h6 f1=>gR [[(10,oL v3.xIdx fZ)],[f0 (bK h6)],[]]) (λv5 v7 v8 h6 f1 aG=>gA [[(10,oL v3.xIdx fZ)],[t0 (bJ h6)],[(10,oE (iG (bm h6)))],[]] (aw (λh7=>au λv9 h8=>gA [[t0 h7],[(16,cK MA h8)]] (ft λh9=>gb aG () [[f0 (cH h9)],[(5,oq (bS h6 rfl h5))]] h6)) λh7=>au λv10 aO=>gA [[f0 h7],[(10,cK Km aO)],[]] (ft λaY=>gA [[f0 (cH aY)],[]] (bj λaT=>gA [[f0 aT],[(4,oL v10.2.1 fy),(13,oL v7.da fy)]] (bj λbN=>au λv11 bZ=>gA [[f0 bN],[(13,cK QK bZ)],[]] (bj λbM=>gb aG () [[f0 bM],[(5,oq (bS h6 rfl h5))]] h6)))))))))
def nH(N:Nat)(v3:ay)(v1:aZ)(v2:ak4 ak5)(Sc:aZ->(ak4 ak5)->ay->ak6 (aV×Int)):ak4 ay->Nat->(ak4 aV)->ak6 (aV×Int)
 |[],_,v8=>
  Option.bind (bif (v3.aQ==1)then some true else some (v3.aQ==12)) λv9=>
  bif v9 then
   some (v3.aJ,(0:Int))
  else
   bif (v3.aQ==2)then
    Option.bind (Hh N v1 v2 [v3.bO]) λv10=>
    some ((⟨(3:Int),(0:Int),(0:Int),(0:Int),(0:Int)⟩:aV),v10)
   else
    bif (v3.aQ==3)then
     (Gz N v1 v2 v3).bind λv11=>
     some (v11.1,v11.2)
    else
     bif (v3.aQ==11)then
      Option.bind (v8[1]?) λv12=>
      Option.bind (v8[2]?) λaA=>
      bif ((v12.cg==aA.cg)&&((v12.cE==aA.cE)&&((v12.cB==aA.cB)&&((v12.cY==aA.cY)&&((v12.c8==aA.c8)&&true)))))then
       some (v12,(0:Int))
      else
       some (ee,(10:Int))
     else
      bif (v3.aQ==8)then
       Option.bind (v8[0]?) λaE=>
       some (aE,(0:Int))
      else
       bif (decide (v3.aQ>=16))then
        some (ee,(0:Int))
       else
        Option.bind (v8[0]?) λaP=>
        Option.bind (v8[1]?) λbC=>
        bif ((aP.cg==bC.cg)&&((aP.cE==bC.cE)&&((aP.cB==bC.cB)&&((aP.cY==bC.cY)&&((aP.c8==bC.c8)&&true)))))then
         bif (decide (v3.aQ>=13))then
          some (ee,(0:Int))
         else
          some (aP,(0:Int))
        else
         some (ee,(10:Int))
 |v6::v7,v4,v8=>
  (Sc v1 v2 v6).bind λbW=>
  bif (bW.2 !=0)then
   some (ee,bW.2)
  else
   bif (Nat.ble ((v8.length+1)*40) 140737488355328)then
   (λcq=>nH N v3 v1 v2 Sc v7 (v4+1) cq) (v8++[bW.1])
   else none
def rE(N:Nat):Nat->aZ->(ak4 ak5)->ay->ak6 (aV×Int)
 |0,_,_,_=>none
 |d+1,v1,v2,v3=>
  nH N v3 v1 v2 (rE N d) v3.cl 0 []
def Br(N:Nat)(v1:aZ)(v2:ak4 ak5)(v3:ay):ak6 (aV×Int):=rE N N v1 v2 v3
theorem aaP(N:Nat):∀d:Nat,(∀{v1:aZ}{v2:ak4 ak5}{v3:ay},KO 274 [(c7 v1),(.d (.sl (cW v2))),(aB v3)] (λr=> .aW [(bX r.1),(aq r.2)]) (rE N d v1 v2 v3)):=by
 intro d
 induction d with
 |zero=>intro v1 v2 v3 r hF;rw[rE]at hF;cases hF
 |succ d ih=>
  have aeu:= @ih;intro v1 v2 v3;rw[rE];exact fw Tryz.func274 (gA [[],[],[]] (li (λ_=>(mG 8 34 5 [] (.inr (by kernel_rfl)) ·)) (gB ql 1 12 v3.cl λh2=>fq 1 [] [1,3,5,6,8,9] 4 (λv4(v8:ak4 aV)=>⟨112,[(1,(.d (.sl (cW v2)))),(3,(.ptr 0 0)),(5,(.ptr 1 0)),(6,(.ptr 2 0)),(8,(.own 3 (mH v8))),(9,(aq (v4:Int)))],[.cells (c7 v1).cells, .cells (aB v3).cells, .cells nA, .front 34 5 v8.length]⟩) (λv4 v8 h3 f1=>gA [[(10,oL v3.cl iO)],[(0,bF (bK h3))]] (gG (λv9=>[(38,(ax v9))]) (λ_=>[.cells (c7 v1).cells, .cells (aB v3).cells, .cells nA, .front 34 5 v8.length]) (aw (λh4=>gE [(3,bT h4)] []) λh4=>gE [(3,bF h4)] []) λv9=>fU λ_=>aw (λh7=>au λv10 h8=>gR [[(0,bT h7)],[(19,cK QK h8)]]) λh7=>gA [[(0,bF h7)],[]] (aw (λh9=>au λv11 aO=>gR [[(0,bT h9)],[(10,cK aco aO)]]) λh9=>gA [[(0,bF h9)],[]] (aw (λaY=>au λv12 aT=>au λaA bN=>gA [[(0,bT aY)],[(4,oE (k:=1) (kZ aT)),(13,oE (k:=2) (kZ bN))]] (ft λbZ=>gR [[(0,bF (cH bZ))],[(4,oE (k:=1) (kZ aT))]])) λaY=>gA [[(0,bF aY)],[]] (aw (λbM=>au λaE cn=>gR [[(0,bT bM)],[(4,oE (k:=0) (kZ cn))]]) λbM=>gA [[(0,bF bM)],[]] (bj λdj=>au λaP eC=>au λbC fu=>gA [[(0,bF dj)],[(4,oE (k:=0) (kZ eC)),(13,oE (k:=1) (kZ fu))]] (ft λdD=>gA [[(0,bF (cH dD))],[]] (bj λfW=>gR [[(0,bF fW)],[(4,oE (k:=0) (kZ eC))]])))))))) (λv4 v6 v7 v8 h3 f1 aG=>au λbW iu=>gA [[(10,oL v3.cl iO)],[(0,bT (bJ h3))],[(16,oE (jM (bm h3))),(22,cK aeu iu)],[]] (bj λfe=>dh λfE=>gb aG (v8++[bW.1]) [[(0,bF fe)],[(10,oA Vi v8 ([bW.1]) fE)],[(5,oq (bS h3 rfl h2))]] h3)))))
theorem abe{N v1 v2 v3}:KO 274 [(c7 v1),(.d (.sl (cW v2))),(aB v3)] (λr=> .aW [(bX r.1),(aq r.2)]) (Br N v1 v2 v3):=(aaP N N)
def xE(N:Nat)(v1:aZ)(v2:ak4 ak5)(v3:ay):ak6 (aV×Int):=
 (C0 N v3).bind λv4=>
 bif (v4 !=0)then
  some (ee,v4)
 else
  (DB N v3).bind λv5=>
  bif v5 then
   some (ee,(10:Int))
  else
   (Br N v1 v2 v3).bind λv6=>
   bif (v6.2 !=0)then
    some (ee,v6.2)
   else
    some (v6.1,(0:Int))
theorem afF{N v1 v2 v3}:KO 213 [(c7 v1),(.d (.sl (cW v2))),(aB v3)] (λr=> .aW [(bX r.1),(aq r.2)]) (xE N v1 v2 v3):=
 fw Tryz.func213 (au λv4 J=>gA [[],[(4,cK aiL J)],[]] (bj λh2=>au λv5 h3=>gA [[f0 h2],[(4,cK Vm h3)]] (bj λh4=>au λv6 h5=>gA [[f0 h4],[(10,cK abe h5)],[]] (bj λh6=>gR [[f0 h6],[]]))))
def HH(N:Nat)(v1:aZ)(v2:Int)(v3:ak4 ak5):ak6 Int:=
 bif (decide ((0:Int)<=v2))then
 Option.bind (v1.aU[(v2).toNat]?) λv4=>
 (uT N v4.aF v3).bind λv5=>
 bif (v5 !=0)then
  some v5
 else
  (vz N v4.aJ).bind λv6=>
  bif v6 then
   Option.bind (bif (decide ((v4.bo.length:Int)>6))then some true else some (decide ((v4.cO.length:Int)>6))) λv7=>
   bif v7 then
    some (11:Int)
   else
    bif (Nat.ble ((0+v4.bo.length)*48) 140737488355328)then
    bif (Nat.ble ((v4.bo.length+v4.cO.length)*48) 140737488355328)then
    Option.bind (Fp N (v4.bo++v4.cO) v1.bE) λv8=>
    bif (v8 !=0)then
     some v8
    else
     (Jd N v4).bind λv9=>
     bif (v9 !=0)then
      some v9
     else
      bif (decide ((v2).toNat<=v1.aU.length))then
      (I9 N v4).bind λv10=>
      Option.bind (xE N (⟨v1.bE,[],v1.bu,((v1.aU.take (v2).toNat).drop 0),[]⟩:aZ) v10 v4.cP) λv11=>
      bif (v11.2 !=0)then
       some v11.2
      else
       bif ((v11.1.cg==v4.aJ.cg)&&((v11.1.cE==v4.aJ.cE)&&((v11.1.cB==v4.aJ.cB)&&((v11.1.cY==v4.aJ.cY)&&((v11.1.c8==v4.aJ.c8)&&true)))))then
        some (0:Int)
       else
        some (10:Int)
      else none
    else none
    else none
  else
   some (10:Int)
 else none
theorem adW{N v1 v2 v3}:KO 124 [(c7 v1),(aq v2),(.d (.sl (cW v3)))] aq (HH N v1 v2 v3):=
 fw Tryz.func124 (dh λh2=>au λv4 J=>au λv5 h3=>gA [[],[(10,⟨_,_, .el (xs:=gD v1.aU) (i:=v2) (of_decide_eq_true h2) (jm J)⟩)],[(10,cK Hy h3)],[]] (bj λh4=>au λv6 h5=>gA [[f0 h4],[(7,cK Ej h5)]] (ft λh6=>gA [[f0 (cH h6)]] (gG (λv7=>[(38,(ax v7))]) (λ_=>[.cells (c7 v1).cells, .cells (eR v4).cells]) (c9 (7,oL v4.bo fO) (aw (λh7=>gE [(4,bT h7)] []) λh7=>gE [(4,bF h7)] [(22,oL v4.cO fO)])) λv7=>bj λh9=>dh λaO=>dh λaY=>au λv8 aT=>gA [[f0 h9],[(10,oZ m8 v4.bo aO),(19,oA m8 v4.bo v4.cO aY),(28,cK aiQ aT)],[]] (bj λbN=>au λv9 bZ=>gA [[f0 bN],[(4,cK ag3 bZ)],[]] (bj λbM=>dh λcn=>au λv10 dj=>au λv11 eC=>gA [[f0 bM],[(22,⟨_,_, .sub (xs:=gD v1.aU) (lo:=0) (hi:=v2) (by decide) (Nat.zero_le _) (of_decide_eq_true h2) (by rw[kp];exact(of_decide_eq_true cn)) Lu Ss⟩),(31,cK Zj dj),(40,cK afF eC)],[]] (fU λ_=>mD λdD=>gR [[t0 (dq dD)],[]])))))))
def A0(N:Nat)(v1:aZ):ak4 ak5->Nat->Int->ak6 (Int×Int)
 |[],_,_=>
  some ((0:Int),(0:Int))
 |v21::e8,cd,dH=>
  (BU N v1 v21).bind λv24=>
  bif v24.2.2 then
   bif (decide (((cd:Int)).toNat<=v1.dU.length))then
   Option.bind (sY N ((v1.dU.take ((cd:Int)).toNat).drop 0) v21) λfi=>
   bif fi then
    some (dH,(8:Int))
   else
    (λvv=>A0 N v1 e8 (cd+1) vv) (aK (dH+(1:Int)))
   else none
  else
   some (dH,(9:Int))
def zn(N:Nat)(v1:aZ):ak4 cv->Nat->(ak4 ak5)->Int->ak6 (Int×Int)
 |[],_,_,bH=>
  A0 N v1 v1.dU 0 bH
 |aP::bC,aA,bW,bH=>
  Option.bind (HH N v1 (aA:Int) bW) λeP=>
  bif (eP !=0)then
   some (bH,eP)
  else
   bif (Nat.ble ((bW.length+1)*16) 140737488355328)then
   (λmX vL=>zn N v1 bC (aA+1) mX vL) (bW++[aP.aF]) (aK (bH+(1:Int)))
   else none
def yH(N:Nat)(v1:aZ):ak4 eV->Nat->(ak4 ak5)->Int->ak6 (Int×Int)
 |[],_,v11,v12=>
  zn N v1 v1.aU 0 v11 v12
 |v9::v10,v7,v11,v12=>
  (IC N v9 v1.bE v11).bind λgJ=>
  bif (gJ !=0)then
   some (v12,gJ)
  else
   bif (Nat.ble ((v11.length+1)*16) 140737488355328)then
   (λgP vX=>yH N v1 v10 (v7+1) gP vX) (v11++[v9.aF]) (aK (v12+(1:Int)))
   else none
def CZ(N:Nat)(v1:aZ):ak4 gr->Nat->ak6 (Int×Int)
 |[],_=>
  bif (Nat.ble ((0+v1.bE.length)*16) 140737488355328)then
  yH N v1 v1.bu 0 v1.bE (2:Int)
  else none
 |v5::v6,v3=>
  (x7 N v5.bO v1.bE).bind λv28=>
  bif (v28 !=0)then
   some ((1:Int),v28)
  else
   (CZ N v1 v6 (v3+1))
def E8(N:Nat)(v1:aZ):ak6 (Int×Int):=
 (J6 N v1).bind λv2=>
 bif (v2 !=0)then
  some ((0:Int),v2)
 else
  CZ N v1 v1.dL 0
theorem ZC{N v1}:KO 70 [(c7 v1)] (λr=> .aW [(aq r.1),(aq r.2)]) (E8 N v1):=
 fw Tryz.func70 (au λv2 J=>gA [[],[(4,cK adv J)],[]] (fU λ_=>gB Bi 0 1 v1.dL λh4=>dP 1 [] [1,5] 1 (λv3=>⟨136,[(1,(.ptr 0 0)),(5,(aq (v3:Int)))],[.cells (c7 v1).cells]⟩) (λv3 h5 f1=>dh λh6=>gA [[(10,oL v1.dL nS)],[f0 (bK h5)],[(10,oZ jK v1.bE h6)],[],[]] (gB zl 0 2 v1.bu λh8=>Cu 2 [] [1,7,8,9] 2 (λv7(v11:ak4 ak5)(v12:Int)=>⟨136,[(1,(.ptr 0 0)),(7,(.own 1 (cW v11))),(8,(aq v12)),(9,(aq (v7:Int)))],[.cells (c7 v1).cells, .front 9 1 v11.length]⟩) (λv7 v11 v12 h9 f2=>gA [[(10,oL v1.bu lu)],[f0 (bK h9)],[]] (gB ud 0 3 v1.aU λaY=>Cu 3 [] [1,7,8,11] 2 (λaA(bW:ak4 ak5)(bH:Int)=>⟨136,[(1,(.ptr 0 0)),(7,(.own 1 (cW bW))),(8,(aq bH)),(11,(aq (aA:Int)))],[.cells (c7 v1).cells, .front 9 1 bW.length]⟩) (λaA bW bH aT f3=>gA [[(10,oL v1.aU kp)],[f0 (bK aT)],[]] (gB jK 0 4 v1.dU λbZ=>fq 4 [] [1,8,13] 2 (λcd(dH:Int)=>⟨136,[(1,(.ptr 0 0)),(8,(aq dH)),(13,(aq (cd:Int)))],[.cells (c7 v1).cells, .front 9 1 bW.length]⟩) (λcd dH bM f4=>gR [[(10,oL v1.dU fR)],[f0 (bK bM)],[]]) (λcd v21 e8 dH bM f4 mA=>au λv24 cn=>gA [[(10,oL v1.dU fR)],[t0 (bJ bM)],[(13,oE (mo (bm bM))),(19,cK Km cn)],[]] (ft λdj=>dh λeC=>au λfi fu=>gA [[f0 (cH dj)],[(10,⟨_,_, .sub (xs:=cW v1.dU) (lo:=0) (hi:=(cd:Int)) (by decide) (Nat.zero_le _) (of_decide_eq_true (akX (Int.natCast_nonneg _))) (by rw[fR];exact(of_decide_eq_true eC)) yL On⟩),(22,oE (mo (bm bM))),(28,cK BH fu)]] (bj λdD=>gb mA (aK (dH+(1:Int))) [[f0 dD],[],[(5,oq (bS bM rfl bZ))]] bM))))) (λaA aP bC bW bH aT f3 j9=>au λeP fW=>gA [[(10,oL v1.aU kp)],[t0 (bJ aT)],[(10,cK adW fW)],[]] (bj λiu=>dh λfe=>gb j9 ((bW++[aP.aF]),(aK (bH+(1:Int)))) [[f0 iu],[(13,oE (jm (bm aT))),(25,oA jK bW ([aP.aF]) fe)],[],[(5,oq (bS aT rfl aY))]] aT)))) (λv7 v9 v10 v11 v12 h9 f2 dT=>au λgJ fE=>gA [[(10,oL v1.bu lu)],[t0 (bJ h9)],[(10,oE (na (bm h9))),(25,cK agF fE)],[]] (bj λlO=>dh λmc=>gb dT ((v11++[v9.aF]),(aK (v12+(1:Int)))) [[f0 lO],[(13,oE (na (bm h9))),(25,oA jK v11 ([v9.aF]) mc)],[],[(5,oq (bS h9 rfl h8))]] h9)))) (λv3 v5 v6 h5 f1 aG=>au λv28 gq=>gA [[(10,oL v1.dL nS)],[t0 (bJ h5)],[(10,oE (Cp (bm h5))),(25,cK MS gq)],[]] (bj λlA=>gb aG () [[f0 lA],[(5,oq (bS h5 rfl h4))]] h5))))
def HF(N:Nat)(v2:ak5):ak4 aX->Nat->ak6 (Int64×Bool)
 |[],_=>
  some ((0:Int64),false)
 |v5::v6,v3=>
  bif (bL v5.aF==bL v2)then
   some (v5.dS,true)
  else
   (HF N v2 v6 (v3+1))
def Ku(N:Nat)(v1:ak4 aX)(v2:ak5):ak6 (Int64×Bool):=
 HF N v2 v1 0
theorem acC{N v1 v2}:KO 43 [(.d (.sl (aN v1))),(c6 v2)] (λr=> .aW [(bG r.1),(ax r.2)]) (Ku N v1 v2):=
 fw Tryz.func43 (gA [[],[]] (gT ve 0 v1 λh2=>dP 1 [] [0,1,6] 0 (λv3=>⟨25,[(0,(.d (.sl (aN v1)))),(1,(c6 v2)),(6,(aq (v3:Int)))],[]⟩) (λv3 h3 f1=>gR [[(7,oL v1 nI)],[f0 (bK h3)],[]]) (λv3 v5 v6 h3 f1 aG=>gA [[(7,oL v1 nI)],[t0 (bJ h3)],[(7,oE (qb (bm h3)))]] (aw (λh4=>gR [[t0 h4],[(7,oE (qb (bm h3)))]]) λh4=>gb aG () [[f0 h4],[(5,oq (bS h3 rfl h2))]] h3))))
def I7(N:Nat)(v1:gr)(v2:ak4 aX):ak6 (Bool×Int):=
 (wI N v1.bO v2).bind λv3=>
 bif (v3.2 !=0)then
  some (false,v3.2)
 else
  Option.bind (bif (v3.1.toInt==0)then some true else(bif (decide (v3.1.toInt>0))then some (!v1.BX)else some false)) λv4=>
  some (v4,(0:Int))
theorem aiH{N v1 v2}:KO 44 [(qv v1),(.d (.sl (aN v2)))] (λr=> .aW [(ax r.1),(aq r.2)]) (I7 N v1 v2):=
 fw Tryz.func44 (au λv3 J=>gA [[],[(10,cL (QC J))],[]] (bj λh2=>gA [[f0 h2]] (gG (λv4=>[(4,(ax v4)),(5,(aq (0:Int)))]) (λ_=>[.cells (qv v1).cells]) (aw (λh3=>gE [(2,bT h3),(5,uN)] []) λh3=>cr (2,bF h3) (aw (λh4=>gE [(5,bT h4)] [(28,bT h4)]) λh4=>gE [(5,bF h4)] [(28,bF h4)])) λv4=>gR [])))
def Gl(N:Nat)(v2:ak4 aX):ak4 gr->Nat->ak6 Int
 |[],_=>
  some (0:Int)
 |v9::v10,v7=>
  (I7 N v9 v2).bind λv11=>
  bif (v11.2 !=0)then
   some v11.2
  else
   bif v11.1 then
    (Gl N v2 v10 (v7+1))
   else
    some (16:Int)
def HK(N:Nat)(v2:ak4 aX)(v1:aZ):ak4 ak5->Nat->ak6 Int
 |[],_=>
  Gl N v2 v1.dL 0
 |v5::v6,v3=>
  (Ku N v2 v5).bind λv12=>
  Option.bind (bif v12.2 then(bif (decide (v12.1.toInt<1))then some true else some (decide (v12.1.toInt>4096)))else some true) λaA=>
  bif aA then
   some (15:Int)
  else
   (HK N v2 v1 v6 (v3+1))
def B4(N:Nat)(v1:aZ)(v2:ak4 aX):ak6 Int:=
 bif ((v2.length:Int) !=(v1.bE.length:Int))then
  some (15:Int)
 else
  HK N v2 v1 v1.bE 0
theorem P4{N v1 v2}:KO 18 [(c7 v1),(.d (.sl (aN v2)))] aq (B4 N v1 v2):=
 fw Tryz.func18 (gA [[],[(4,oL v2 nI),(13,oL v1.bE fR)]] (fU λ_=>gB jK 0 0 v1.bE λh3=>dP 1 [] [1,2,5] 1 (λv3=>⟨66,[(1,(.d (.sl (aN v2)))),(2,(.ptr 0 0)),(5,(aq (v3:Int)))],[.cells (c7 v1).cells]⟩) (λv3 h4 f1=>gA [[(10,oL v1.bE fR)],[f0 (bK h4)],[]] (gB Bi 0 1 v1.dL λh6=>dP 2 [] [1,2,8] 1 (λv7=>⟨66,[(1,(.d (.sl (aN v2)))),(2,(.ptr 0 0)),(8,(aq (v7:Int)))],[.cells (c7 v1).cells]⟩) (λv7 h7 f2=>gR [[(10,oL v1.dL nS)],[f0 (bK h7)],[]]) (λv7 v9 v10 h7 f2 dT=>au λv11 h8=>gA [[(10,oL v1.dL nS)],[t0 (bJ h7)],[(10,oE (Cp (bm h7))),(19,cK aiH h8)],[]] (fU λ_=>ft λaO=>gb dT () [[f0 (cH aO)],[(5,oq (bS h7 rfl h6))]] h7)))) (λv3 v5 v6 h4 f1 aG=>au λv12 aY=>gA [[(10,oL v1.bE fR)],[t0 (bJ h4)],[(13,oE (mo (bm h4))),(19,cK acC aY)]] (gG (λaA=>[(43,(ax aA))]) (λ_=>[.cells (c7 v1).cells]) (aw (λaT=>cr (2,bF (cH aT)) (aw (λbN=>gE [(6,bT bN)] []) λbN=>gE [(6,bF bN)] [])) λaT=>gE [(2,bT (dq aT)),(6,bT rfl)] []) λaA=>bj λbM=>gb aG () [[f0 bM],[(5,oq (bS h4 rfl h3))]] h4))))
def Ib(N:Nat)(v1:aZ)(v2:ak4 aX):ak6 Int:=
 (E8 N v1).bind λv3=>
 bif (v3.2 !=0)then
  some v3.2
 else
  (B4 N v1 v2).bind λv4=>
  some v4
theorem acz{N v1 v2}:KO 34 [(c7 v1),(.d (.sl (aN v2)))] aq (Ib N v1 v2):=
 fw Tryz.func34 (au λv3 J=>gA [[],[(4,cK ZC J)],[]] (bj λh2=>au λv4 h3=>gR [[f0 h2],[(7,cK P4 h3)]]))
def CD(N:Nat)(v9:cv):ak4 dJ->Nat->(ak4 bp)->ak6 ((ak4 bp)×aV×Bool)
 |[],_,aP=>
  some (aP,v9.aJ,true)
 |aA::aE,v11,aP=>
  bif (Nat.ble ((aP.length+1)*32) 140737488355328)then
  (λmX=>CD N v9 aE (v11+1) mX) (aP++[aA.ff])
  else none
def GM(N:Nat)(v2:ak5):ak4 cv->Nat->ak6 ((ak4 bp)×aV×Bool)
 |[],_=>
  some ([],ee,false)
 |v9::v10,v7=>
  bif (bL v9.aF==bL v2)then
   CD N v9 v9.bo 0 []
  else
   (GM N v2 v10 (v7+1))
def BG(N:Nat)(v2:ak5)(v1:aZ):ak4 eV->Nat->ak6 ((ak4 bp)×aV×Bool)
 |[],_=>
  GM N v2 v1.aU 0
 |v5::v6,v3=>
  bif (bL v5.aF==bL v2)then
   some (v5.bo,v5.aJ,true)
  else
   (BG N v2 v1 v6 (v3+1))
def Kb(N:Nat)(v1:aZ)(v2:ak5):ak6 ((ak4 bp)×aV×Bool):=
 BG N v2 v1 v1.bu 0
def L2(v1:aZ)(l:ak4 ao):ak4 ao:= .cells (c7 v1).cells:: .cells nA::l
theorem aaa{N v1 v2}:KO 79 [(c7 v1),(c6 v2)] (λr=> .aW [(.d (.sl (eW r.1))),(bX r.2.1),(ax r.2.2)]) (Kb N v1 v2):=
 fw Tryz.func79 (gA [[],[]] (gB zl 0 2 v1.bu λh2=>dP 1 [] [1,2,5,7] 2 (λv3=>⟨85,[(1,(c6 v2)),(2,(.ptr 0 0)),(5,(.ptr 1 0)),(7,(aq (v3:Int)))],(L2 v1 [])⟩) (λv3 h3 f1=>gA [[(10,oL v1.bu lu)],[f0 (bK h3)],[]] (gB ud 0 3 v1.aU λh5=>dP 2 [] [1,2,5,8] 2 (λv7=>⟨85,[(1,(c6 v2)),(2,(.ptr 0 0)),(5,(.ptr 1 0)),(8,(aq (v7:Int)))],(L2 v1 [])⟩) (λv7 h6 f2=>gR [[(10,oL v1.aU kp)],[f0 (bK h6)],[]]) (λv7 v9 v10 h6 f2 dT=>gA [[(10,oL v1.aU kp)],[t0 (bJ h6)],[(10,oE (jm (bm h6)))]] (aw (λh7=>gA [[t0 h7],[],[]] (li (λ_=>(mG 9 48 2 [] (.inr (by kernel_rfl)) ·)) (FH (λ_=>(gw_okB 0 3 (gD v1.aU) (by kernel_rfl) ·)) λh8=>have h9:=qz fO (Hp (j:=6) (d:= .sl (gx v9.bo)) h8 (jm (bm h6)) rfl);fq 3 [] [2,5,8,9,10] 3 (λv11(aP:ak4 bp)=>⟨85,[(2,(.ptr 0 0)),(5,(.ptr 1 0)),(8,(aq (v7:Int))),(9,(.own 2 (eW aP))),(10,(aq (v11:Int)))],(L2 v1 [.front 48 2 aP.length])⟩) (λv11 aP aO f3=>gR [[(13,oE (jm (bm h6))),(22,oL v9.bo fO)],[f0 (bK aO)],[(13,oE (jm (bm h6)))]]) (λv11 aA aE aP aO f3 j9=>dh λaY=>gb j9 (aP++[aA.ff]) [[(13,oE (jm (bm h6))),(22,oL v9.bo fO)],[t0 (bJ aO)],[(13,oE (jm (bm h6))),(25,oE (mV (bm aO))),(37,oA mv aP ([aA.ff]) aY)],[(5,oq (bS aO rfl h9))]] aO)))) λh7=>gb dT () [[f0 h7],[(5,oq (bS h6 rfl h5))]] h6)))) (λv3 v5 v6 h3 f1 aG=>gA [[(10,oL v1.bu lu)],[t0 (bJ h3)],[(10,oE (na (bm h3)))]] (aw (λaT=>gR [[t0 aT],[(10,oE (na (bm h3))),(28,oE (na (bm h3)))]]) λaT=>gb aG () [[f0 aT],[(5,oq (bS h3 rfl h2))]] h3))))
def Hz(N:Nat)(v2:ak4 aX):ak4 bp->Nat->(ak4 Int)->ak6 ((ak4 Int)×Int)
 |[],_,v7=>
  some (v7,(0:Int))
 |v5::v6,v3,v7=>
  (wI N v5 v2).bind λv8=>
  bif (v8.2 !=0)then
   some ([],v8.2)
  else
   Option.bind (bif (decide (v8.1.toInt<1))then some true else some (decide (v8.1.toInt>4096))) λv9=>
   bif v9 then
    some ([],(15:Int))
   else
    bif (Nat.ble ((v7.length+1)*8) 140737488355328)then
    (λcq=>Hz N v2 v6 (v3+1) cq) (v7++[v8.1.toInt])
    else none
def Mg(N:Nat)(v1:ak4 bp)(v2:ak4 aX):ak6 ((ak4 Int)×Int):=
 Hz N v2 v1 0 []
theorem adh{N v1 v2}:KO 72 [(.d (.sl (eW v1))),(.d (.sl (aN v2)))] (λr=> .aW [(.d (.sl (bq r.1))),(aq r.2)]) (Mg N v1 v2):=
 fw Tryz.func72 (gA [[],[],[]] (li (λ_=>(mG 6 3 1 [] (.inr (by kernel_rfl)) ·)) (gT mv 0 v1 λh2=>fq 1 [] [0,1,6,7] 1 (λv3(v7:ak4 Int)=>⟨39,[(0,(.d (.sl (eW v1)))),(1,(.d (.sl (aN v2)))),(6,(.own 0 (bq v7))),(7,(aq (v3:Int)))],[.front 3 1 v7.length]⟩) (λv3 v7 h3 f1=>gR [[(7,oL v1 fy)],[f0 (bK h3)],[]]) (λv3 v5 v6 v7 h3 f1 aG=>au λv8 h4=>gA [[(7,oL v1 fy)],[t0 (bJ h3)],[(7,oE (ng (bm h3))),(16,cL (QC h4))],[]] (bj λh5=>gA [[f0 h5]] (gG (λv9=>[(33,(ax v9))]) (λ_=>[.front 3 1 v7.length]) (aw (λh6=>gE [(2,bT h6)] []) λh6=>gE [(2,bF h6)] []) λv9=>bj λh8=>dh λh9=>gb aG (v7++[v8.1.toInt]) [[f0 h8],[(10,oA lJ v7 ([v8.1.toInt]) h9)],[(5,oq (bS h3 rfl h2))]] h3))))))
def BK(N:Nat):ak4 Int->Nat->Int->ak6 Int
 |[],_,v6=>
  some v6
 |v4::v5,v2,v6=>
  (λcq=>BK N v5 (v2+1) cq) (if(65537:Int)<(aK (v6*v4))then(65537:Int)else(aK (v6*v4)))
def Nr(N:Nat)(v1:ak4 Int):ak6 Int:=
 BK N v1 0 (1:Int)
theorem agP{N v1}:KO 73 [(.d (.sl (bq v1)))] aq (Nr N v1):=
 fw Tryz.func73 (gA [[],[],[]] (gT lJ 0 v1 λh2=>fq 1 [] [0,3,4] 0 (λv2(v6:Int)=>⟨19,[(0,(.d (.sl (bq v1)))),(3,(aq v6)),(4,(aq (v2:Int)))],[]⟩) (λv2 v6 h3 f1=>gR [[(7,oL v1 fQ)],[f0 (bK h3)],[]]) (λv2 v4 v5 v6 h3 f1 aG=>gb aG (if(65537:Int)<(aK (v6*v4))then(65537:Int)else(aK (v6*v4))) [[(7,oL v1 fQ)],[t0 (bJ h3)],[(10,oE (jb (bm h3)))],[(5,oq (bS h3 rfl h2))]] h3)))
def Jg(N:Nat)(v1:aZ)(v2:ak4 aX)(v3:ak5):ak6 ((ak4 Int)×Int):=
 (Kb N v1 v3).bind λv4=>
 bif v4.2.2 then
  (Mg N v4.1 v2).bind λv5=>
  Option.bind (bif (v5.2==0)then (Nr N v5.1).bind λv6=>
  some (decide (v6>4096))else some false) λv7=>
  bif v7 then
   some ([],(15:Int))
  else
   some (v5.1,v5.2)
 else
  some ([],(9:Int))
theorem agI{N v1 v2 v3}:KO 39 [(c7 v1),(.d (.sl (aN v2))),(c6 v3)] (λr=> .aW [(.d (.sl (bq r.1))),(aq r.2)]) (Jg N v1 v2 v3):=
 fw Tryz.func39 (au λv4 J=>gA [[],[(7,cK aaa J)],[]] (ft λh2=>au λv5 h3=>gA [[f0 (cH h2)],[(7,cK adh h3)]] (gG (λv7=>[(34,(ax v7))]) (λ_=>[.cells (c7 v1).cells, .cells (bX v4.2.1).cells]) (aw (λh4=>au λv6 h5=>gE [(2,bT h4)] [(13,cK agP h5)]) λh4=>gE [(2,bF h4)] []) λv7=>bj λh7=>gR [[f0 h7],[]])))
def Pa(N:Nat)(v1:aZ)(v2:ak4 aX)(v3:ak5):ak6 ((ak4 Int)×Int):=
 (Ib N v1 v2).bind λv4=>
 bif (v4 !=0)then
  some ([],v4)
 else
  (Jg N v1 v2 v3).bind λv5=>
  some (v5.1,v5.2)
theorem ahj{N v1 v2 v3}:KO 16 [(c7 v1),(.d (.sl (aN v2))),(c6 v3)] (λr=> .aW [(.d (.sl (bq r.1))),(aq r.2)]) (Pa N v1 v2 v3):=
 fw Tryz.func16 (au λv4 J=>gA [[],[(7,cK acz J)],[]] (bj λh2=>au λv5 h3=>gR [[f0 h2],[(10,cK agI h3)]]))
def FY(N:Nat)(v2:ak4 Int):ak4 Int->Nat->ak6 Bool
 |[],_=>
  some true
 |v5::v6,v3=>
  Option.bind (v2[((v3:Int)).toNat]?) λv7=>
  bif (v5 !=v7)then
   some false
  else
   (FY N v2 v6 (v3+1))
def Ee(N:Nat)(v1:ak4 Int)(v2:ak4 Int):ak6 Bool:=
 bif ((v1.length:Int) !=(v2.length:Int))then
  some false
 else
  FY N v2 v1 0
theorem acN{N v1 v2}:KO 19 [(.d (.sl (bq v1))),(.d (.sl (bq v2)))] ax (Ee N v1 v2):=
 fw Tryz.func19 (gA [[],[(4,oL v1 fQ),(10,oL v2 fQ)]] (fU λ_=>gT lJ 0 v1 λh3=>dP 1 [] [0,1,5] 0 (λv3=>⟨26,[(0,(.d (.sl (bq v1)))),(1,(.d (.sl (bq v2)))),(5,(aq (v3:Int)))],[]⟩) (λv3 h4 f1=>gR [[(7,oL v1 fQ)],[f0 (bK h4)],[]]) (λv3 v5 v6 h4 f1 aG=>au λv7 h5=>gA [[(7,oL v1 fQ)],[t0 (bJ h4)],[(7,oE (jb (bm h4))),(19,oE (jb h5))]] (bj λh7=>gb aG () [[f0 h7],[(5,oq (bS h4 rfl h3))]] h4))))
def LD(N:Nat)(v1:aZ)(v2:ak4 aX)(v3:ak5):ak6 Bool:=
 Option.bind (BF N v1 (400:Int)) λv4=>
 Option.bind (bif v4 then some true else Option.bind (OP N v2 (20:Int)) λv5=>
 (bif v5 then some (decide ((v3.size:Int)>100))else some true)) λv6=>
 bif v6 then
  (C8 N).bind λv7=>
  some v7
 else
  (La N v1 v2 v3).bind λv8=>
  (Pa N v1 v2 v3).bind λv9=>
  (BY N v1 v2).bind λv10=>
  (B4 N v1 v2).bind λv11=>
  Option.bind (bif (v10==v11)then (Ee N v8.1 v9.1).bind λv12=>
  (bif v12 then(bif (v8.2==v9.2)then (C8 N).bind λaA=>
  some aA else some false)else some false)else some false) λaE=>
  some aE
theorem aaL{N v1 v2 v3}:KO 4 [(c7 v1),(.d (.sl (aN v2))),(c6 v3)] ax (LD N v1 v2 v3):=
 fw Tryz.func4 (gA [[]] (au λv4 J=>gG (λv6=>[(22,(ax v6))]) (λ_=>[.cells (c7 v1).cells]) (c9 (4,cK aas J) (aw (λh2=>gE [(2,bT h2),(7,bT rfl)] []) λh2=>au λv5 h3=>cr (2,bF h2) (c9 (13,cK aiw h3) (aw (λh4=>gE [(7,bF (cH h4))] []) λh4=>gE [(7,bT (dq h4))] [])))) λv6=>aw (λh6=>au λv7 h7=>gR [[t0 h6],[(1,cK VC h7)]]) λh6=>au λv8 h8=>au λv9 h9=>gA [[f0 h6],[(10,cK adH h8)],[(10,cK ahj h9)]] (au λv10 aO=>au λv11 aY=>gG (λaE=>[(6,(ax aE))]) (λ_=>[.cells (c7 v1).cells]) (c9 (7,cK Xr aO) (c9 (16,cK P4 aY) (aw (λaT=>au λv12 bN=>cr (7,bT aT) (c9 (31,cK acN bN) (aw (λbZ=>cr (12,bT bZ) (aw (λbM=>au λaA cn=>gE [(17,bT bM)] [(55,cK VC cn)]) λbM=>gE [(17,bF bM)] [])) λbZ=>gE [(12,bF bZ),(17,bF rfl)] []))) λaT=>gE [(7,bF aT),(12,bF rfl),(17,bF rfl)] []))) λaE=>gR [])))
end Go.Proofs.YtnnapanbbbcalaaGreatDoor
namespace Go.Proofs.YtnnapanbbbcalaaGreatDoor
end Go.Proofs.YtnnapanbbbcalaaGreatDoor
namespace Go.Proofs.YtnnapanbbbcalaaGreatDoor
open Go.RowKit
theorem Dd(b:ak5)(i:Nat):b[i]?=(bL b)[i]?:=by
 unfold bL;rw[akD];by_cases h:i<b.size
 ·rw[getElem?_pos b i h,akC (xs:=b.data) (by exact h)];rfl
 ·rw[getElem?_neg b i h,Array.getElem?_eq_none (xs:=b.data) (by exact Nat.le_of_not_lt h)]
theorem qH(b:ak5):b.size=(bL b).length:=by unfold bL;rw[akN];rfl
theorem H9{i:Nat}(h:i<9223372036854775807):aK ((i:Int)+1)=((i+1:Nat):Int):=by
 unfold aK;rw[IntKind.wrap_i64]<;>omega
def mS(c:UInt8):Bool:=decide (97<=c.toNat)&&decide (c.toNat<=122)
def jk(c:UInt8):Bool:=mS c||(decide (48<=c.toNat)&&decide (c.toNat<=57))||c.toNat==95
def te(l:ak4 UInt8):Bool:=mE.any λw=>bL w==l
def Il(l:ak4 UInt8):Bool:=decide (1<=l.length)&&(decide (l.length<=16)&&(!te l&&((l.take 1).all mS&&l.all jk)))
def nameB(s:ak5):Bool:=Il (bL s)
theorem S9(c:UInt8):IntKind.i32.wrap (c.toNat:Int)=(c.toNat:Int):=by
 have:=c.toNat_lt;rw[IntKind.wrap_i32]<;>omega
theorem og{p q:Prop} [Decidable p] [Decidable q](h:p↔q):decide p=decide q:=decide_eq_decide.2 h
theorem js(a b:Bool):(bif a then some b else some false)=some (a&&b):=by cases a<;>rfl
theorem nY(a b:Bool):(bif a then some true else some b)=some (a||b):=by cases a<;>rfl
theorem XO(N:Nat)(c:UInt8):Dm N (c.toNat:Int)=some (mS c):=by
 unfold Dm mS;rw[js,akf,og (q:=97<=c.toNat) (by omega),og (p:=(c.toNat:Int)<=122) (q:=c.toNat<=122) (by omega)]
theorem afv(N:Nat)(c:UInt8):H6 N (c.toNat:Int)=some (decide (48<=c.toNat)&&decide (c.toNat<=57)):=by
 unfold H6;rw[js,akf,og (q:=48<=c.toNat) (by omega),og (p:=(c.toNat:Int)<=57) (q:=c.toNat<=57) (by omega)]
theorem wo(n k:Nat):((n:Int)==(k:Int))=(n==k):=by
 rw[Bool.eq_iff_iff,beq_iff_eq,beq_iff_eq];omega
theorem ZV(N:Nat)(c:UInt8):D5 N (c.toNat:Int)=some (jk c):=by
 unfold D5 jk;rw[XO,akf,afv,akf];have:=wo c.toNat 95;rw[show(((c.toNat:Int)==95))=(c.toNat==95)from this];rw[nY,nY,akf,Bool.or_assoc]
theorem SE(N:Nat)(s:ak5)(hs:s.size<9223372036854775807):∀(k i:Nat),i<=s.size->s.size-i<k->Dt N s k (i:Int)=some ((i+(((bL s).drop i).takeWhile jk).length:Nat):Int)
 |0,i,_,hk=>absurd hk (akI _)
 |k+1,i,hi,hk=>by
  rw[Dt];by_cases aL:i<s.size
  ·have J:decide ((i:Int)<(s.size:Int))=true:=akX (by omega);have h2:decide ((0:Int)<=(i:Int))=true:=akX (by omega);rw[J,h2];simp only[cond_true,akH];have hl:i<(bL s).length:=by rw[<-qH];exact aL
   rw[Dd,akk hl,List.drop_eq_getElem_cons hl,akf,S9,ZV,akf,akf];cases hw:jk (bL s)[i]with
   |true=>
    simp only[cond_true];rw[H9 (Nat.lt_trans aL hs),SE N s hs k (i+1) aL (by omega),List.takeWhile_cons_of_pos hw,akj]
    congr 2;omega
   |false=>
    simp only[cond_false];rw[List.takeWhile_cons_of_neg (by rw[hw];simp)];rfl
  ·have J:decide ((i:Int)<(s.size:Int))=false:=akY (by omega);rw[J];simp only[cond_false,akf];rw[List.drop_eq_nil_of_le (by rw[<-qH];omega)];rfl
theorem aiW(N:Nat)(s:ak5)(hs:s.size<9223372036854775807)(hN:s.size<N):HB N s=some ((((bL s).takeWhile jk).length:Nat):Int):=by
 unfold HB;have:=SE N s hs N 0 (Nat.zero_le _) (by omega);rw[akP,akA]at this;exact this
theorem TY{α:Type}(p:α->Bool):∀l:ak4 α,((l.takeWhile p).length==l.length)=l.all p
 |[]=>rfl
 |x::l=>by
  cases h:p x with
  |true=>
   rw[List.takeWhile_cons_of_pos h,ak0,h,Bool.true_and,<-TY p l];simp
  |false=>rw[List.takeWhile_cons_of_neg (by rw[h];simp),ak0,h];simp
theorem Li(N:Nat)(v:ak5):∀(l:ak4 ak5)(k:Nat),∃z:Int,Gt N v l k=some z/\decide (z>=0)=l.any λw=>bL w==bL v
 |[],k=>⟨-1,rfl,rfl⟩
 |w::l,k=>by
  rw[Gt,ak1];have hc:(bL v==bL w)=(bL w==bL v):=by rw[Bool.eq_iff_iff,beq_iff_eq,beq_iff_eq];exact eq_comm
  cases h:bL v==bL w with
  |true=>rw[hc]at h;exact⟨k,rfl,by rw[h,Bool.true_or];exact akX (by omega)⟩
  |false=>
   obtain⟨z,J,h2⟩:=Li N v l (k+1);rw[hc]at h;exact⟨z,J,by rw[h,Bool.false_or];exact h2⟩
theorem ae5(N:Nat)(v:ak5):Hj N v=some (te (bL v)):=by
 unfold Hj Ks yr Jk;obtain⟨z,J,h2⟩:=Li N v mE 0;rw[akf,J,akf,akf,h2];rfl
theorem Jo{α:Type}{l:ak4 α}(h:0<l.length):l.take 1=[l[0]]:=by
 cases l with
 |nil=>cases h
 |cons x l=>rfl
theorem qL:bL (bs [])=[]:=rfl
theorem E2(N:Nat)(s:ak5)(hN:16<N):tO N s=some (nameB s):=by
 unfold tO nameB Il;have hz:=qH s;by_cases h0:(bL s).length=0
 ·have:bL s=[]:=List.length_eq_zero_iff.1 h0;rw[this];rfl
 have cN:(bL s==bL (bs []))=false:=by
  rw[qL,beq_eq_false_iff_ne];intro h;rw[h]at h0;exact h0 rfl
 rw[cN,akX (show 1<=(bL s).length by omega),Bool.true_and];simp only[cond_false];by_cases cn:(bL s).length<=16
 ·rw[akX (show(s.size:Int)<=16 by omega),akX cn,Bool.true_and];simp only[cond_true];have hl:0<(bL s).length:=by omega
  rw[Dd,akk hl,akf,S9,XO,akf,aiW N s (by omega) (by omega),akf,ae5,akf];rw[hz,wo,TY];have ht:(bL s).take 1=[(bL s)[0]]:=Jo hl;rw[ht,ak0,List.all_nil,Bool.and_true,js,js,akf]
  congr 1
  cases te (bL s)<;>cases mS (bL s)[0]<;>cases (bL s).all jk<;>rfl
 ·rw[akY (show ¬(s.size:Int)<=16 by omega),akY cn];rfl
theorem agh(N:Nat)(b:Bool):ik N b=some b:=by cases b<;>rfl
theorem aar(a b:Bool):(bif a then some a else some b)=some (a||b):=by cases a<;>rfl
theorem aag(a b:ak4 UInt8):(a==b)=(b==a):=by rw[Bool.eq_iff_iff,beq_iff_eq,beq_iff_eq];exact eq_comm
theorem adY(N:Nat)(v:ak5):ET N v=some (te (bL v)):=by
 simp only[ET,agh,aar,te,mE,ak1,List.any_nil,Bool.or_false,aag (bL v)]
theorem BA(n k:Nat):decide ((n:Int)<(k:Int))= !decide (k<=n):=by
 by_cases h:k<=n
 ·rw[akX h,akY (by omega)];rfl
 ·rw[akY h,akX (by omega)];rfl
theorem j5(n k:Nat):decide ((n:Int)>(k:Int))= !decide (n<=k):=by
 by_cases h:n<=k
 ·rw[akX h,akY (by omega)];rfl
 ·rw[akY h,akX (by omega)];rfl
theorem XV(n k:Nat):decide ((n:Int)>=(k:Int))=decide (k<=n):=og (by omega)
theorem tM(n k:Nat):decide ((n:Int)<=(k:Int))=decide (n<=k):=og (by omega)
theorem PQ(n k:Nat):((n:Int) !=(k:Int))= !(n==k):=by unfold bne;rw[wo]
theorem aat(c:UInt8):(bif (decide ((c.toNat:Int)<97))then(bif (decide ((c.toNat:Int)<48))then some ((c.toNat:Int) !=95)else(bif (decide ((c.toNat:Int)>57))then some ((c.toNat:Int) !=95)else some false))else(bif (decide ((c.toNat:Int)>122))then(bif (decide ((c.toNat:Int)<48))then some ((c.toNat:Int) !=95)else(bif (decide ((c.toNat:Int)>57))then some ((c.toNat:Int) !=95)else some false))else some false))=some (!jk c):=by
 have a1:=BA c.toNat 97;have a2:=BA c.toNat 48;have a3:=j5 c.toNat 57;have a4:=j5 c.toNat 122;have a5:=PQ c.toNat 95;simp only[Int.cast_ofNat_Int]at a1 a2 a3 a4 a5;rw[a1,a2,a3,a4,a5];unfold jk mS;cases decide (97<=c.toNat)<;>cases decide (48<=c.toNat)<;>cases decide (c.toNat<=57)<;>cases decide (c.toNat<=122)<;>cases (c.toNat==95)<;>rfl
theorem Sl(N:Nat)(s:ak5)(hs:s.size<9223372036854775807):∀(k i:Nat),i<=s.size->s.size-i<k->xq N s k (i:Int)=some (((bL s).drop i).all jk)
 |0,i,_,hk=>absurd hk (akI _)
 |k+1,i,hi,hk=>by
  rw[xq];by_cases aL:i<s.size
  ·have J:decide ((i:Int)<(s.size:Int))=true:=akX (by omega);have h2:decide ((0:Int)<=(i:Int))=true:=akX (by omega);rw[J,h2];simp only[cond_true,akH];have hl:i<(bL s).length:=by rw[<-qH];exact aL
   rw[Dd,akk hl,List.drop_eq_getElem_cons hl,akf,aat,akf,ak0];cases hw:jk (bL s)[i]with
   |true=>
    simp only[Bool.not_true,cond_false,Bool.true_and];rw[H9 (Nat.lt_trans aL hs),Sl N s hs k (i+1) aL (by omega)]
   |false=>rfl
  ·have J:decide ((i:Int)<(s.size:Int))=false:=akY (by omega);rw[J];simp only[cond_false];rw[List.drop_eq_nil_of_le (by rw[<-qH];omega)];rfl
theorem acU(N:Nat)(s:ak5)(hN:16<N):IT N s=some (nameB s):=by
 unfold IT nameB Il;have hz:=qH s;have a1:=BA s.size 1;have a2:=j5 s.size 16;simp only[Int.cast_ofNat_Int]at a1 a2;rw[a1,a2,hz];cases J:decide (1<=(bL s).length)with
 |false=>rfl
 |true=>
  cases cn:decide ((bL s).length<=16)with
  |false=>rfl
  |true=>
   have oW:=of_decide_eq_true J;have ai2:=of_decide_eq_true cn;have hl:0<(bL s).length:=by omega
   simp only[Bool.not_true,cond_false,Bool.true_and];rw[adY,akf,Dd,akk hl,akf];have b1:=BA (bL s)[0].toNat 97;have b2:=j5 (bL s)[0].toNat 122;simp only[Int.cast_ofNat_Int]at b1 b2;rw[b1,b2,nY,nY,akf,Jo hl];have:=Sl N s (by omega) N 0 (Nat.zero_le _) (by omega);rw[akP]at this;rw[show xq N s N 0=_ from this,ak0,List.all_nil,Bool.and_true];unfold mS;cases te (bL s)<;>cases decide (97<=(bL s)[0].toNat)<;>cases decide ((bL s)[0].toNat<=122)<;>rfl
theorem Pp(N:Nat)(v:ak5):∀(l:ak4 ak5)(k:Nat),IU N v l k=some (l.any λw=>bL w==bL v)
 |[],_=>rfl
 |w::l,k=>by
  rw[IU,ak1,Pp N v l (k+1)];cases bL w==bL v<;>rfl
theorem ah7(c:UInt8)(z:Bool):(bif (decide ((c.toNat:Int)>=97))then(bif (decide ((c.toNat:Int)<=122))then some (!true)else(bif z then(bif (decide ((c.toNat:Int)>=48))then(bif (decide ((c.toNat:Int)<=57))then some (!true)else some (!((c.toNat:Int)==95)))else some (!((c.toNat:Int)==95)))else some (!false)))else(bif z then(bif (decide ((c.toNat:Int)>=48))then(bif (decide ((c.toNat:Int)<=57))then some (!true)else some (!((c.toNat:Int)==95)))else some (!((c.toNat:Int)==95)))else some (!false)))=some (!(bif z then jk c else mS c)):=by
 have a1:=XV c.toNat 97;have a2:=XV c.toNat 48;have a3:=tM c.toNat 57;have a4:=tM c.toNat 122;have a5:=wo c.toNat 95;simp only[Int.cast_ofNat_Int]at a1 a2 a3 a4 a5;rw[a1,a2,a3,a4,a5];unfold jk mS;cases decide (97<=c.toNat)<;>cases decide (48<=c.toNat)<;>cases decide (c.toNat<=57)<;>cases decide (c.toNat<=122)<;>cases (c.toNat==95)<;>cases z<;>rfl
theorem UY(N:Nat)(s:ak5)(hs:s.size<9223372036854775807):∀(k i:Nat),i<=s.size->s.size-i<k->yK N s k (i:Int)=some (bif decide (i>0)then((bL s).drop i).all jk else((bL s).take 1).all mS&&((bL s).drop 1).all jk)
 |0,i,_,hk=>absurd hk (akI _)
 |k+1,i,hi,hk=>by
  rw[yK];by_cases aL:i<s.size
  ·have J:decide ((i:Int)<(s.size:Int))=true:=akX (by omega);have h2:decide ((0:Int)<=(i:Int))=true:=akX (by omega);rw[J,h2];simp only[cond_true,akH];have hl:i<(bL s).length:=by rw[<-qH];exact aL
   rw[Dd,akk hl,akf,ah7,akf];rw[H9 (Nat.lt_trans aL hs),UY N s hs k (i+1) aL (by omega),akX (show i+1>0 by omega)];simp only[cond_true];by_cases h0:i=0
   ·subst h0;rw[akY (show ¬((0:Nat):Int)>0 by omega),akY (show ¬0>0 by omega)];simp only[cond_false];rw[Jo hl,ak0,List.all_nil,Bool.and_true];cases mS (bL s)[0]<;>rfl
   ·rw[akX (show(i:Int)>0 by omega),akX (show i>0 by omega)];simp only[cond_true];rw[List.drop_eq_getElem_cons hl,ak0];cases jk (bL s)[i]<;>rfl
  ·have J:decide ((i:Int)<(s.size:Int))=false:=akY (by omega);rw[J];simp only[cond_false];have hn:(bL s).drop i=[]:=List.drop_eq_nil_of_le (by rw[<-qH];omega);by_cases h0:i=0
   ·subst h0;rw[akP]at hn;rw[hn];rfl
   ·rw[akX (show i>0 by omega),hn];rfl
theorem G7(N:Nat)(s:ak5)(hN:16<N):vS N s=some (nameB s):=by
 unfold vS nameB Il;have hz:=qH s;have a1:=BA s.size 1;have a2:=j5 s.size 16;simp only[Int.cast_ofNat_Int]at a1 a2;rw[a1,a2,hz];cases J:decide (1<=(bL s).length)with
 |false=>rfl
 |true=>
  cases cn:decide ((bL s).length<=16)with
  |false=>rfl
  |true=>
   have oW:=of_decide_eq_true J;have ai2:=of_decide_eq_true cn;have hl:0<(bL s).length:=by omega
   simp only[Bool.not_true,cond_false,Bool.true_and];have hh:∀l,sY N l s=some (l.any λw=>bL w==bL s):=λl=>Pp N s l 0;unfold Kh;rw[akf,hh,akf,akf];have:=UY N s (by omega) N 0 (Nat.zero_le _) (by omega);rw[show yK N s N 0=_ from this];show(bif te (bL s)then some false else some (((bL s).take 1).all mS&&((bL s).drop 1).all jk))=_;have hw:(bL s).all jk=(jk (bL s)[0]&&((bL s).drop 1).all jk):=by
    have hd:bL s=(bL s)[0]::(bL s).drop 1:=by
     have:=List.drop_eq_getElem_cons hl
     rwa [akP]at this
    rw[<-ak0,<-hd]
   rw[hw,Jo hl,ak0,List.all_nil,Bool.and_true];unfold jk;cases te (bL s)<;>cases mS (bL s)[0]<;>simp
def iF(t:aV):Bool:=
 bif t.cg==1||t.cg==3 then t.cE==0&&(t.cB==0&&(t.cY==0&&t.c8==0))
 else t.cg==2&&(decide (2<=t.cE)&&(decide (t.cE<=31)&&(decide (0<=t.cB)&&(decide (t.cB<=30)&&(decide (1<=t.cY)&&(decide (t.cY<=4)&&(t.c8==1||t.c8==2)))))))
theorem adL(a:Bool):(bif a then some true else some false)=some a:=by cases a<;>rfl
theorem Ko(a b:Int):decide (a<b)= !decide (b<=a):=by
 by_cases h:b<=a
 ·rw[akX h,akY (by omega)];rfl
 ·rw[akY h,akX (by omega)];rfl
theorem EV(a b:Int):decide (a>b)= !decide (a<=b):=Ko b a
theorem qp(a b:Int):decide (a>=b)=decide (b<=a):=rfl
theorem AQ(a b:Int):(a !=b)= !(a==b):=rfl
theorem MG(N:Nat)(t:aV):vz N t=some (iF t):=by
 unfold vz iF;simp only[nY,js,akf,qp];cases (t.cg==1||t.cg==3)<;>rfl
theorem RQ(N:Nat)(t:aV)(h:(t.cg==2)=true):uK N t=some (bif (decide (2<=t.cE)&&(decide (t.cE<=31)&&(decide (0<=t.cB)&&(decide (t.cB<=30)&&(decide (1<=t.cY)&&(decide (t.cY<=4)&&(t.c8==1||t.c8==2)))))))then 0 else 10):=by
 unfold uK;simp only[nY,js,akf,qp,EV,AQ,h,Bool.not_true,Bool.false_or];cases decide (2<=t.cE)<;>cases decide (t.cE<=31)<;>cases decide (0<=t.cB)<;>cases decide (t.cB<=30)<;>cases decide (1<=t.cY)<;>cases decide (t.cY<=4)<;>cases t.c8==1<;>cases t.c8==2<;>rfl
theorem Jl(N:Nat)(t:aV):lB N t=some (bif iF t then 0 else 10):=by
 unfold lB EH iF ML;cases J:t.cg==1 with
 |true=>
  simp only[cond_true,akf,akZ,Bool.true_and,Bool.true_or,Bool.and_true];cases (t.cE==0&&(t.cB==0&&(t.cY==0&&t.c8==0)))<;>rfl
 |false=>
  cases h3:t.cg==3 with
  |true=>
   simp only[cond_true,cond_false,akf,akZ,Bool.true_and,Bool.or_true,Bool.and_true];cases (t.cE==0&&(t.cB==0&&(t.cY==0&&t.c8==0)))<;>rfl
  |false=>
   cases h2:t.cg==2 with
   |true=>
    rw[RQ N t h2];simp only[cond_true,cond_false,akf,Bool.true_and,Bool.or_false];cases (decide (2<=t.cE)&&(decide (t.cE<=31)&&(decide (0<=t.cB)&&(decide (t.cB<=30)&&(decide (1<=t.cY)&&(decide (t.cY<=4)&&(t.c8==1||t.c8==2)))))))<;>rfl
   |false=>rfl
def sS:ak6 ak5->ak4 dK->Bool
 |_,[]=>true
 |p,m::l=>nameB m.aF&&(!(m.eN.toInt==0)&&((match p with|none=>true|some q=>Op.bytesLess (bL q) (bL m.aF))&&sS (some m.aF) l))
theorem P8(p:ak6 ak5)(m:dK)(l:ak4 dK):sS p (m::l)=(nameB m.aF&&(!(m.eN.toInt==0)&&((match p with|none=>true|some q=>Op.bytesLess (bL q) (bL m.aF))&&sS (some m.aF) l))):=by cases p<;>rfl
def iM(x:bp):Bool:=sS none x.xL
def rD(x:bp)(k:Nat):ak6 ak5:=bif k==0 then none else(x.xL[k-1]?).map (·.aF)
theorem af2{k:Nat}(h0:0<k)(h:k<=maxLen):aK ((k:Int)-1)=((k-1:Nat):Int):=by
 unfold aK;have:(k:Int)-1=((k-1:Nat):Int):=by omega
 rw[this];unfold maxLen at h;rw[IntKind.wrap_i64]<;>omega
theorem VY{x:bp}{k:Nat}{m:dK}{l:ak4 dK}(hd:x.xL.drop k=m::l):rD x (k+1)=some m.aF:=by
 have:=bm hd;unfold rD;simp [this]
theorem SI{x:bp}{k:Nat}{m:dK}{l:ak4 dK}(hd:x.xL.drop k=m::l)(hm:x.xL.length<=maxLen):
 (bif (decide ((k:Int)>0))then bif (decide ((0:Int)<=(aK ((k:Int)-(1:Int)))))then
 Option.bind (x.xL[((aK ((k:Int)-(1:Int)))).toNat]?) λv7=>
 some (!(Op.bytesLess (bL v7.aF) (bL m.aF)))
 else none else some false)=some (!(match rD x k with|none=>true|some q=>Op.bytesLess (bL q) (bL m.aF))):=by
 have aL:k<x.xL.length:=(akg.1 (bm hd)).1;by_cases h0:k=0
 ·subst h0;rfl
 ·rw[akX (show(k:Int)>0 by omega),af2 (by omega) (by omega),akX (show(0:Int)<=((k-1:Nat):Int) by omega)];simp only[cond_true,akH];have hp:rD x k=(x.xL[k-1]?).map (·.aF):=by
    unfold rD;rw[beq_false_of_ne h0];rfl
  rw[hp,akk (show k-1<x.xL.length by omega)];rfl
theorem T6(N:Nat)(hN:16<N)(x:bp)(hm:x.xL.length<=maxLen):∀(l:ak4 dK)(k:Nat),x.xL.drop k=l->Ef N x l k=some (bif sS (rD x k) l then 0 else 1)
 |[],k,_=>rfl
 |m::l,k,hd=>by
  rw[Ef,acU N m.aF hN,akf,P8,SI hd hm,T6 N hN x hm l (k+1) (ly hd),VY hd];generalize (match rD x k with|none=>true|some q=>Op.bytesLess (bL q) (bL m.aF))=b;cases nameB m.aF<;>cases (m.eN.toInt==0)<;>cases b<;>cases sS (some m.aF) l<;>rfl
theorem Ja(N:Nat)(hN:16<N)(x:bp)(hm:x.xL.length<=maxLen):yz N x=some (bif iM x then 0 else 1):=T6 N hN x hm x.xL 0 rfl
theorem Vq(N:Nat)(hN:16<N)(x:bp)(hm:x.xL.length<=maxLen):∀(l:ak4 dK)(k:Nat),x.xL.drop k=l->Ig N x l k=some (sS (rD x k) l)
 |[],k,_=>rfl
 |m::l,k,hd=>by
  rw[Ig,G7 N m.aF hN,akf,P8,SI hd hm,Vq N hN x hm l (k+1) (ly hd),VY hd];generalize (match rD x k with|none=>true|some q=>Op.bytesLess (bL q) (bL m.aF))=b;cases nameB m.aF<;>cases (m.eN.toInt==0)<;>cases b<;>cases sS (some m.aF) l<;>rfl
theorem DR(N:Nat)(hN:16<N)(x:bp)(hm:x.xL.length<=maxLen):tt N x=some (iM x):=Vq N hN x hm x.xL 0 rfl
def sh(t:aV)(v:aR):Bool:=
 bif t.cg==2 then v.xD.toInt==1&&(decide (-(2^(t.cE-1).toNat)<=v.xN.toInt)&&decide (v.xN.toInt<2^(t.cE-1).toNat))
 else decide (v.xN.toInt<=2147483647)&&(decide (-2147483647<=v.xN.toInt)&&(decide (1<=v.xD.toInt)&&(decide (v.xD.toInt<=2147483647)&&
  (bif t.cg==3 then v.xD.toInt==1 else Nat.gcd v.xN.toInt.natAbs v.xD.toInt.toNat==1))))
theorem aca:∀n:Fin 30,(decide ((0:Int)<=(IntKind.u64.wrap (aK (((n.val+2:Nat):Int)-(1:Int))))))=true/\(decide ((0:Int)<=(aK (((n.val+2:Nat):Int)-(1:Int)))))=true/\
 (-(Int64.ofInt ((1:Int)*2^(min ((IntKind.u64.wrap (aK (((n.val+2:Nat):Int)-(1:Int))))).toNat (IntKind.bits .i64))))).toInt= -(2^(n.val+1))/\
 ((Int64.ofInt ((1:Int)*2^(min ((IntKind.u64.wrap (aK (((n.val+2:Nat):Int)-(1:Int))))).toNat (IntKind.bits .i64))))-(1:Int64)).toInt=2^(n.val+1)-1/\
 (-(Int64.ofInt ((1:Int)*2^(min ((aK (((n.val+2:Nat):Int)-(1:Int)))).toNat (IntKind.bits .i64))))).toInt= -(2^(n.val+1))/\
 (Int64.ofInt ((1:Int)*2^(min ((aK (((n.val+2:Nat):Int)-(1:Int)))).toNat (IntKind.bits .i64)))).toInt=2^(n.val+1):=by decide+kernel
theorem UB{b:Int}(J:2<=b)(h2:b<=31):(decide ((0:Int)<=(IntKind.u64.wrap (aK (b-(1:Int))))))=true/\(decide ((0:Int)<=(aK (b-(1:Int)))))=true/\
 (-(Int64.ofInt ((1:Int)*2^(min ((IntKind.u64.wrap (aK (b-(1:Int))))).toNat (IntKind.bits .i64))))).toInt= -(2^(b-1).toNat)/\
 ((Int64.ofInt ((1:Int)*2^(min ((IntKind.u64.wrap (aK (b-(1:Int))))).toNat (IntKind.bits .i64))))-(1:Int64)).toInt=2^(b-1).toNat-1/\
 (-(Int64.ofInt ((1:Int)*2^(min ((aK (b-(1:Int)))).toNat (IntKind.bits .i64))))).toInt= -(2^(b-1).toNat)/\
 (Int64.ofInt ((1:Int)*2^(min ((aK (b-(1:Int)))).toNat (IntKind.bits .i64)))).toInt=2^(b-1).toNat:=by
 obtain⟨n,rfl⟩:∃n:Nat,b=n:=⟨b.toNat,by omega⟩;have:=aca ⟨n-2,by omega⟩;simp only[show n-2+2=n by omega,show n-2+1=n-1 by omega]at this;rw[show((n:Int)-1).toNat=n-1 by omega];exact this
theorem Tt(N:Nat):∀(k a b:Nat),b<k->CA N k (a:Int) (b:Int)=some ((Nat.gcd a b:Nat):Int)
 |0,a,b,h=>absurd h (akI _)
 |k+1,a,b,h=>by
  rw[CA];by_cases h0:b=0
  ·subst h0;simp
  ·rw[show(((b:Nat):Int) !=0)=true by rw[bne_iff_ne];omega];simp only[cond_true];rw[<-Int.ofNat_tmod,Tt N k b (a%b) (by have:=Nat.mod_lt a (Nat.pos_of_ne_zero h0);omega)];rw[Nat.gcd_comm a b,Nat.gcd_rec b a,Nat.gcd_comm]
theorem Pr(N:Nat):∀(k:Nat)(a b:Int64),0<=a.toInt->0<=b.toInt->b.toInt.toNat<k->∃g:Int64,BN N k a b=some g/\g.toInt=((Nat.gcd a.toInt.toNat b.toInt.toNat:Nat):Int)
 |0,a,b,_,_,h=>absurd h (akI _)
 |k+1,a,b,ha,hb,h=>by
  rw[BN];by_cases h0:b.toInt=0
  ·rw[h0];refine⟨a,rfl,?_⟩;show a.toInt=((Nat.gcd a.toInt.toNat 0:Nat):Int);rw[Nat.gcd_zero_right];omega
  ·rw[show(b.toInt !=0)=true by rw[bne_iff_ne];exact h0];simp only[cond_true];obtain⟨x,hx⟩:∃x:Nat,a.toInt=x:=⟨a.toInt.toNat,by omega⟩;obtain⟨y,hy⟩:∃y:Nat,b.toInt=y:=⟨b.toInt.toNat,by omega⟩;rw[hx,hy];have hyp:0<y:=by omega
   have hm:(x:Int).tmod (y:Int)=((x%y:Nat):Int):=(Int.ofNat_tmod x y).symm;have aL:=Nat.mod_lt x hyp;have kg:b.toInt<2^63:=Int64.toInt_lt b;have lE:(Int64.ofInt ((x%y:Nat):Int)).toInt=((x%y:Nat):Int):=by
    rw[Int64.toInt_ofInt_of_le]
    ·omega
    ·omega
   rw[hm];obtain⟨g,J,h2⟩:=Pr N k b (Int64.ofInt ((x%y:Nat):Int)) hb (by rw[lE];omega) (by rw[lE];omega);refine⟨g,J,?_⟩;rw[h2,lE,hy];simp only[akH];rw[Nat.gcd_comm x y,Nat.gcd_rec y x,Nat.gcd_comm]
theorem JZ(z:Int):IntKind.u64.wrap z=z%18446744073709551616:=rfl
theorem aii(N:Nat)(v:Int64):xg N v=some ((v.toInt.natAbs:Nat):Int):=by
 unfold xg;have J:v.toInt<2^63:=Int64.toInt_lt v;have h2: -2^63<=v.toInt:=Int64.le_toInt v;by_cases h:v.toInt<0
 ·rw[akX h];simp only[cond_true,JZ]
  congr 1
  omega
 ·rw[akY h];simp only[cond_false,JZ]
  congr 1
  omega
theorem ajz(N:Nat)(hN:2147483648<N)(t:aV)(v:aR)(ht:iF t=true):ou N t v=some (sh t v):=by
 unfold ou;rw[Jl,ht,akf];unfold sh;cases h2:t.cg==2 with
 |true=>
  simp only[cond_true];show Option.bind (yV N t v) _=_;unfold iF at ht;have hk:t.cg=2:=by simpa using h2
  rw[hk]at ht;have ph:(decide (2<=t.cE)&&(decide (t.cE<=31)&&(decide (0<=t.cB)&&(decide (t.cB<=30)&&(decide (1<=t.cY)&&(decide (t.cY<=4)&&(t.c8==1||t.c8==2)))))))=true:=ht;unfold yV;rw[RQ N t h2,ph,akf];simp only[aki,decide_eq_true_eq]at ph;obtain⟨b1,b2,_⟩:=ph;obtain⟨f1,f2,f3,f4,f5,f6⟩:=UB b1 b2;unfold F7 Ij Bv;rw[js,akf,akf,qp,akX b1,akX b2];simp only[Bool.and_self,cond_true];rw[f1];simp only[cond_true,akf];rw[f3,f4];rw[qp,js,og (p:=v.xN.toInt<=2^(t.cE-1).toNat-1) (q:=v.xN.toInt<2^(t.cE-1).toNat) (by omega)];cases (v.xD.toInt==1)<;>rfl
 |false=>
  simp only[cond_false];show(bif t.cg==3 then _ else _)=_;cases h3:t.cg==3 with
  |true=>
   simp only[cond_true];unfold s8;rw[qp,js,akf,akf];by_cases hd:v.xD.toInt=1
   ·rw[hd];simp only[akZ,cond_true,akf,show decide ((1:Int)<=1)=true from rfl,show decide ((1:Int)<=2147483647)=true from rfl,Bool.and_true];rw[Bool.and_comm]
   ·rw[beq_false_of_ne hd];simp only[cond_false,akf,Bool.and_false]
  |false=>
   simp only[cond_false];unfold la O8;rw[qp,qp,js,akf,akf,aii,akf];cases CR:decide (1<=v.xD.toInt)with
   |false=>cases decide (v.xN.toInt<=2147483647)<;>cases decide (-2147483647<=v.xN.toInt)<;>rfl
   |true=>
    cases nM:decide (v.xD.toInt<=2147483647)with
    |false=>cases decide (v.xN.toInt<=2147483647)<;>cases decide (-2147483647<=v.xN.toInt)<;>rfl
    |true=>
     have e1:=of_decide_eq_true CR;have e2:=of_decide_eq_true nM;have hw:IntKind.u64.wrap v.xD.toInt=((v.xD.toInt.toNat:Nat):Int):=by rw[JZ];omega
     simp only[cond_true,Bool.true_and];rw[hw];unfold Gg;rw[Tt N N v.xN.toInt.natAbs v.xD.toInt.toNat (by omega),akf,show((((Nat.gcd v.xN.toInt.natAbs v.xD.toInt.toNat:Nat):Int))==1)=(Nat.gcd v.xN.toInt.natAbs v.xD.toInt.toNat==1)from wo _ 1,js,akf];cases decide (v.xN.toInt<=2147483647)<;>cases decide (-2147483647<=v.xN.toInt)<;>rfl
theorem aia(N:Nat)(hN:2147483648<N)(t:aV)(v:aR)(ht:iF t=true):ES N t v=some (sh t v):=by
 unfold ES sh;cases h2:t.cg==2 with
 |true=>
  simp only[cond_true];unfold iF at ht;have hk:t.cg=2:=by simpa using h2
  rw[hk]at ht;have ph:(decide (2<=t.cE)&&(decide (t.cE<=31)&&(decide (0<=t.cB)&&(decide (t.cB<=30)&&(decide (1<=t.cY)&&(decide (t.cY<=4)&&(t.c8==1||t.c8==2)))))))=true:=ht;simp only[aki,decide_eq_true_eq]at ph;obtain⟨b1,b2,_⟩:=ph;obtain⟨f1,f2,f3,f4,f5,f6⟩:=UB b1 b2;rw[f2];simp only[cond_true];rw[f5,f6,qp,js,js,akf]
 |false=>
  simp only[cond_false,EV,nY,akf];cases vn:decide (v.xN.toInt<=2147483647)with
  |false=>rfl
  |true=>
   cases jY:decide (-2147483647<=v.xN.toInt)with
   |false=>rfl
   |true=>
    cases CR:decide (1<=v.xD.toInt)with
    |false=>rfl
    |true=>
     cases nM:decide (v.xD.toInt<=2147483647)with
     |false=>rfl
     |true=>
      have n1:=of_decide_eq_true vn;have n2:=of_decide_eq_true jY;have e1:=of_decide_eq_true CR;have e2:=of_decide_eq_true nM;simp only[Bool.not_true,Bool.or_false,cond_false,Bool.true_and];cases h3:t.cg==3 with
      |true=>rfl
      |false=>
       simp only[cond_false];have acs:(-v.xN).toInt= -v.xN.toInt:=by
        rw[Int64.toInt_neg];rw[Int.bmod_eq_of_le]<;>omega
       have tU:(yv v.xN (-v.xN)).toInt=((v.xN.toInt.natAbs:Nat):Int):=by
        rw[<-Vj,acs];split<;>omega
       unfold Jx;obtain⟨g,g1,g2⟩:=Pr N N (yv v.xN (-v.xN)) v.xD (by rw[tU];omega) (by omega) (by omega);rw[g1,akf,g2,tU,akH];rw[show((((Nat.gcd v.xN.toInt.natAbs v.xD.toInt.toNat:Nat):Int))==1)=(Nat.gcd v.xN.toInt.natAbs v.xD.toInt.toNat==1)from wo _ 1]
def qo(n:Int):Bool:=decide (-9223372036854775808<=n)&&decide (n<=9223372036854775807)
theorem nw{n:Int}:qo n=true↔-9223372036854775808<=n/\n<=9223372036854775807:=by
 unfold qo;rw[aki,decide_eq_true_iff,decide_eq_true_iff]
theorem adE(n:Int64):qo n.toInt=true:=by
 rw[nw];have J:=n.le_toInt;have h2:=n.toInt_lt;omega
def same(a b:ak5):Bool:=bL a==bL b
def lt(a b:ak5):Bool:=Op.bytesLess (bL a) (bL b)
inductive Er|arg|range
abbrev X(α:Type):=Except Er α
set_option linter.unusedSimpArgs false
def jV(l:bp):Prop:=l.xL.length<=maxLen
structure XS(x:dd):Prop where
 mC:jV x.bO
 at_:∀l∈x.da,jV l
structure xf(e:ay):Prop where
 mC:jV e.bO
 idx:∀x∈e.xIdx,XS x
 args:e.cl.length<=maxLen
def mM(e:ay):Prop:=∀x∈et e,xf x
def vg(l:bp):Bool:=l.xK.toInt==0&&l.xL.length==0
def pQ(x:dd):Bool:=bif bL x.dk==[]then x.da.length==0 else vg x.bO
def F4(v:aR):Bool:=v.xN.toInt==0&&v.xD.toInt==0
def HL(t:aV):Bool:=t.cg==0&&(t.cE==0&&(t.cB==0&&(t.cY==0&&t.c8==0)))
def nj(e:ay):Bool:=decide (1<=e.aQ)&&(decide (e.aQ<=18)&&((e.aQ==1||F4 e.dS)&&((e.aQ==1||(e.aQ==12||HL e.aJ))&&((e.aQ==2||vg e.bO)&&((e.aQ==3||(bL e.aF==[]&&e.xIdx.length==0))&&e.xIdx.all pQ)))))
def qX(e:ay):Bool:=(!(e.aQ==3)||nameB e.aF)&&e.xIdx.all λx=>bL x.dk==[]||nameB x.dk
def np(op:Int):Int:=bif op==1||(op==2||op==3)then 0 else bif op==8||(op==12||op==18)then 1 else bif op==11 then 3 else 2
def nu(e:ay):Bool:=(e.cl.length:Int)==np e.aQ&&(decide (e.xIdx.length<=6)&&e.xIdx.all λx=>decide (x.da.length<=6))
def me(e:ay):Bool:=decide (13<=e.aQ)&&decide (e.aQ<=18)
def qq(op:Int)(i:Nat):Bool:=(op==11&&i==0)||(op==16||(op==17||op==18))
def sJ(op:Int):Nat->ak4 ay->Bool
 |_,[]=>true
 |i,a::l=>me a==qq op i&&sJ op (i+1) l
def mT(e:ay):Bool:=(!(e.aQ==1||e.aQ==12)||iF e.aJ)&&sJ e.aQ 0 e.cl
def sV(e:ay):Bool:=(!(e.aQ==1)||sh e.aJ e.dS)&&(ni e).all iM
def mI(e:ay):Int:=bif nj e then bif qX e then bif nu e then bif mT e then bif sV e then 0 else 1 else 10 else 11 else 7 else 5
theorem sk(n:Nat):((n:Int)==0)=(n==0):=wo n 0
theorem H7(n:Nat):decide ((n:Int)>0)= !(n==0):=by
 by_cases h:n=0
 ·subst h;rfl
 ·rw[akX (show(n:Int)>0 by omega),beq_false_of_ne h];rfl
theorem SA(N:Nat)(l:bp):Bm N l=some (vg l):=by
 unfold Bm vg;rw[js,akf,sk]
theorem adg(N:Nat)(x:dd):Ho N x=some (pQ x):=by
 unfold Ho pQ;rw[SA,akf,sk,qL];cases bL x.dk==[]<;>rfl
theorem K6{α:Type}(f:α->Bool)(l:ak4 α):(l.any λx=> !f x)= !l.all f:=by
 induction l with
 |nil=>rfl
 |cons x l ih=>rw[ak1,ak0,ih];cases f x<;>rfl
theorem PY(N:Nat):∀(l:ak4 dd)(k:Nat),∃z:Int,E4 N l k=some z/\decide (z>=0)=l.any λx=> !pQ x
 |[],k=>⟨-1,rfl,rfl⟩
 |x::l,k=>by
  rw[E4,ak1];unfold OG;rw[adg,akf,akf];cases h: !pQ x with
  |true=>exact⟨k,rfl,akX (by omega)⟩
  |false=>exact PY N l (k+1)
theorem Zm(N:Nat)(l:ak4 dd):ED N l=some (!l.all pQ):=by
 unfold ED M3;obtain⟨z,J,h2⟩:=PY N l 0;rw[J,akf,h2,K6]
theorem WM(v:aR):((v.xN.toInt==(0:Int64).toInt)&&((v.xD.toInt==(0:Int64).toInt)&&true))=F4 v:=by rw[Bool.and_true];rfl
theorem Wx(t:aV):((t.cg==0)&&((t.cE==0)&&((t.cB==0)&&((t.cY==0)&&((t.c8==0)&&true)))))=HL t:=by rw[Bool.and_true];rfl
theorem qB(a b:Bool):(bif a then some false else some b)=some (!a&&b):=by cases a<;>rfl
theorem To(a b:Bool):(bif a then some b else some true)=some (!a||b):=by cases a<;>rfl
theorem aeg(N:Nat)(e:ay):Hm N e=some (nj e):=by
 unfold Hm nj;simp only[H7];simp only[nY,js,qB,To,akf,EV,Ko,SA,Zm,WM,Wx,qL];cases decide (1<=e.aQ)<;>cases decide (e.aQ<=18)<;>cases e.aQ==1<;>cases F4 e.dS<;>cases e.aQ==12<;>cases HL e.aJ<;>cases e.aQ==2<;>cases vg e.bO<;>cases e.aQ==3<;>cases bL e.aF==[]<;>cases e.xIdx.length==0<;>cases e.xIdx.all pQ<;>rfl
theorem RK(N:Nat):∀(l:ak4 dd)(k:Nat),Gr N l k=some (l.all pQ)
 |[],_=>rfl
 |x::l,k=>by
  rw[Gr,ak0,RK N l (k+1)];unfold pQ vg;simp only[nY,adL,js,akf,H7,AQ,qL];cases bL x.dk==[]<;>cases x.da.length==0<;>cases x.bO.xK.toInt==0<;>cases x.bO.xL.length==0<;>rfl
theorem ain(N:Nat)(e:ay):Ic N e=some (nj e):=by
 unfold Ic nj;simp only[H7];simp only[nY,js,qB,To,akf,EV,Ko,AQ,RK,WM,Wx,qL];unfold vg;cases decide (1<=e.aQ)<;>cases decide (e.aQ<=18)<;>cases e.aQ==1<;>cases F4 e.dS<;>cases e.aQ==12<;>cases HL e.aJ<;>cases e.aQ==2<;>cases e.bO.xK.toInt==0<;>cases e.bO.xL.length==0<;>cases e.aQ==3<;>cases bL e.aF==[]<;>cases e.xIdx.length==0<;>cases e.xIdx.all pQ<;>rfl
theorem ahT(N:Nat)(hN:16<N)(x:dd):Gw N x=some (!(bL x.dk==[]||nameB x.dk)):=by
 unfold Gw;rw[E2 N _ hN,akf,qB,akf,qL];cases bL x.dk==[]<;>rfl
theorem V3(N:Nat)(hN:16<N):∀(l:ak4 dd)(k:Nat),∃z:Int,Ia N l k=some z/\decide (z>=0)=l.any λx=> !(bL x.dk==[]||nameB x.dk)
 |[],k=>⟨-1,rfl,rfl⟩
 |x::l,k=>by
  rw[Ia,ak1,ahT N hN,akf];cases h: !(bL x.dk==[]||nameB x.dk)with
  |true=>exact⟨k,rfl,akX (by omega)⟩
  |false=>exact V3 N hN l (k+1)
theorem aiA(N:Nat)(hN:16<N)(e:ay):Ii N e=some (qX e):=by
 unfold Ii qX Lp Oq;obtain⟨z,J,h2⟩:=V3 N hN e.xIdx 0;rw[E2 N _ hN,akf,J];simp only[akf,h2,K6,js,qB];cases e.aQ==3<;>cases nameB e.aF<;>cases (e.xIdx.all λx=>bL x.dk==[]||nameB x.dk)<;>rfl
theorem SC(N:Nat)(hN:16<N):∀(l:ak4 dd)(k:Nat),IK N l k=some (l.all λx=>bL x.dk==[]||nameB x.dk)
 |[],_=>rfl
 |x::l,k=>by
  rw[IK,ak0,SC N hN l (k+1),G7 N _ hN,akf,qB,akf,qB,qL];cases bL x.dk==[]<;>cases nameB x.dk<;>rfl
theorem agW(N:Nat)(hN:16<N)(e:ay):GA N e=some (qX e):=by
 unfold GA qX;rw[G7 N _ hN,akf,SC N hN];simp only[akf,js,qB];cases e.aQ==3<;>cases nameB e.aF<;>rfl
theorem Wk(N:Nat):∀(l:ak4 dd)(k:Nat),∃z:Int,Gu N l k=some z/\decide (z>=0)=l.any λx=> !decide (x.da.length<=6)
 |[],k=>⟨-1,rfl,rfl⟩
 |x::l,k=>by
  rw[Gu,ak1];unfold Pb;rw[akf,show decide ((x.da.length:Int)>6)= !decide (x.da.length<=6)from j5 _ 6];cases h: !decide (x.da.length<=6)with
  |true=>exact⟨k,rfl,akX (by omega)⟩
  |false=>exact Wk N l (k+1)
theorem aiy(N:Nat)(op:Int):Im N op=some (np op):=by
 unfold Im AB CP np;cases op==1<;>cases op==2<;>cases op==3<;>cases op==8<;>cases op==12<;>cases op==18<;>cases op==11<;>rfl
theorem aeb(N:Nat)(op:Int):D0 N op=some (np op):=by
 unfold D0 Bp Dw np;cases op==1<;>cases op==2<;>cases op==3<;>cases op==8<;>cases op==12<;>cases op==18<;>cases op==11<;>rfl
theorem agv(N:Nat)(e:ay):EI N e=some (nu e):=by
 unfold EI nu Ld Kq;obtain⟨z,J,h2⟩:=Wk N e.xIdx 0;rw[aiy,akf,J,show decide ((e.xIdx.length:Int)>6)= !decide (e.xIdx.length<=6)from j5 _ 6];simp only[akf,h2,K6,nY,qB,AQ];cases (e.cl.length:Int)==np e.aQ<;>cases decide (e.xIdx.length<=6)<;>cases (e.xIdx.all λx=>decide (x.da.length<=6))<;>rfl
theorem QJ(N:Nat):∀(l:ak4 dd)(k:Nat),Fl N l k=some (l.all λx=>decide (x.da.length<=6))
 |[],_=>rfl
 |x::l,k=>by
  rw[Fl,ak0,QJ N l (k+1),show decide ((x.da.length:Int)>6)= !decide (x.da.length<=6)from j5 _ 6];cases decide (x.da.length<=6)<;>rfl
theorem afr(N:Nat)(e:ay):Ix N e=some (nu e):=by
 unfold Ix nu;rw[aeb,akf,QJ,show decide ((e.xIdx.length:Int)>6)= !decide (e.xIdx.length<=6)from j5 _ 6];simp only[akf,nY,qB,AQ];cases (e.cl.length:Int)==np e.aQ<;>cases decide (e.xIdx.length<=6)<;>rfl
theorem QX(N:Nat)(e:ay):xW N e=some (me e):=by
 unfold xW me;rw[js,akf]
theorem LB(N:Nat)(e:ay):DB N e=some (me e):=by
 unfold DB me;rw[qp,js,akf]
theorem agk(N:Nat)(op:Int)(i:Nat):Eo N op (i:Int)=some (qq op i):=by
 unfold Eo AZ qq;rw[sk];cases op==16<;>cases op==17<;>cases op==18<;>cases op==11<;>cases i==0<;>rfl
theorem aet(N:Nat)(op:Int)(i:Nat):Gd N op (i:Int)=some (qq op i):=by
 unfold Gd qq;rw[sk];cases op==16<;>cases op==17<;>cases op==18<;>cases op==11<;>cases i==0<;>rfl
theorem PJ(N:Nat)(e:ay):∀(l:ak4 ay)(i:Nat),HQ N e l i=some (sJ e.aQ i l)
 |[],_=>rfl
 |a::l,i=>by
  rw[HQ,sJ,QX,akf,agk,akf,PJ N e l (i+1)];cases me a==qq e.aQ i<;>rfl
theorem Ri(N:Nat)(e:ay):∀(l:ak4 ay)(i:Nat),FZ N e l i=some (sJ e.aQ i l)
 |[],_=>rfl
 |a::l,i=>by
  rw[FZ,sJ,LB,akf,aet,akf,Ri N e l (i+1)];cases me a==qq e.aQ i<;>rfl
theorem YM(b:Bool):((bif b then(0:Int)else 10) !=0)= !b:=by cases b<;>rfl
theorem agp(N:Nat)(e:ay):GV N e=some (mT e):=by
 unfold GV mT;rw[Jl,akf,PJ];simp only[YM];cases e.aQ==1<;>cases e.aQ==12<;>cases iF e.aJ<;>rfl
theorem ahI(N:Nat)(e:ay):I3 N e=some (mT e):=by
 unfold I3 mT;rw[MG,akf,Ri];cases e.aQ==1<;>cases e.aQ==12<;>cases iF e.aJ<;>rfl
theorem adO(b:Bool):((bif b then(0:Int)else 1) !=0)= !b:=by cases b<;>rfl
theorem QS(N:Nat)(hN:16<N):∀l:ak4 bp,(∀x∈l,jV x)->sC N l=some (bif l.all iM then 0 else 1)
 |[],_=>rfl
 |x::l,h=>by
  rw[sC,Ja N hN x (h x akm),akf,adO,QS N hN l (λy hy=>h y (akp _ hy)),ak0];cases iM x<;>rfl
theorem Pz(N:Nat)(hN:16<N)(c:Bool):∀(l:ak4 bp)(k:Nat),(∀x∈l,jV x)->GO N (some c) l k=some (l.all iM&&c)
 |[],_,_=>rfl
 |x::l,k,h=>by
  rw[GO,DR N hN x (h x akm),akf,Pz N hN c l (k+1) (λy hy=>h y (akp _ hy)),ak0];cases iM x<;>rfl
theorem Qi(N:Nat)(hN:16<N):∀(l:ak4 dd)(k:Nat),(∀x∈l,XS x)->Ie N l k=some ((l.flatMap wx).all iM)
 |[],_,_=>rfl
 |x::l,k,h=>by
  have hx:=h x akm;rw[Ie,DR N hN _ hx.mC,akf,Qi N hN l (k+1) (λy hy=>h y (akp _ hy)),Pz N hN _ _ _ hx.at_,List.flatMap_cons,wx,List.cons_append,ak0,List.all_append];cases iM x.bO<;>rfl
theorem acu{e:ay}(h:xf e):∀x∈ni e,jV x:=by
 intro x hx;unfold ni at hx;rcases akK.1 hx with rfl|hx
 ·exact h.mC
 ·obtain⟨y,hy,hx⟩:=List.mem_flatMap.1 hx;unfold wx at hx;rcases akK.1 hx with rfl|hx
  ·exact(h.idx y hy).mC
  ·exact(h.idx y hy).at_ x hx
theorem aaw(N:Nat)(hN:2147483648<N)(e:ay)(h:xf e)(ht:mT e=true):Fc N e=some (sV e):=by
 unfold Fc sV ni;rw[ak0,DR N (by omega) _ h.mC,akf,Qi N (by omega) _ _ h.idx];cases J:e.aQ==1 with
 |true=>
  have Cv:iF e.aJ=true:=by
   unfold mT at ht;rw[J]at ht;simp only[Bool.true_or,Bool.not_true,Bool.false_or,aki]at ht;exact ht.1
  rw[aia N hN _ _ Cv,akf];cases sh e.aJ e.dS<;>cases iM e.bO<;>rfl
 |false=>cases iM e.bO<;>rfl
theorem aeo(N:Nat)(hN:2147483648<N)(e:ay)(h:xf e):Al N e=some (mI e):=by
 unfold Al mI;rw[aeg,akf];cases nj e with
 |false=>rfl
 |true=>
  simp only[cond_true];rw[aiA N (by omega),akf];cases qX e with
  |false=>rfl
  |true=>
   simp only[cond_true];rw[agv,akf];cases nu e with
   |false=>rfl
   |true=>
    simp only[cond_true];rw[agp,akf];cases ht:mT e with
    |false=>rfl
    |true=>
     simp only[cond_true];have hf:sC N (ni e)=_:=QS N (by omega) (ni e) (acu h);unfold sV Og;rw[akf,hf];cases J:e.aQ==1 with
     |true=>
      have Cv:iF e.aJ=true:=by
       unfold mT at ht;rw[J]at ht;simp only[Bool.true_or,Bool.not_true,Bool.false_or,aki]at ht;exact ht.1
      rw[ajz N hN _ _ Cv,akf];cases sh e.aJ e.dS<;>cases (ni e).all iM<;>rfl
     |false=>cases (ni e).all iM<;>rfl
theorem FC{e x:ay}(h:x∈e.cl):SizeOf.sizeOf x<SizeOf.sizeOf e:=by
 have J:=List.sizeOf_lt_of_mem h;cases e
 simp only[ay.mk.sizeOf_spec]at*;omega
theorem Kn{e x y:ay}(h:x∈e.cl)(hy:y∈et x):y∈et e:=by
 have gen:∀l:ak4 ay,x∈l->y∈lz l:=by
  intro l
  induction l with
  |nil=>intro h;cases h
  |cons z l ih=>
   intro h;rw[Co];rcases akK.1 h with rfl|h
   ·exact List.mem_append_left _ hy
   ·exact List.mem_append_right _ (ih h)
 exact akp _ (gen _ h)
theorem mM.node{e:ay}(h:mM e):xf e:=h e akm
theorem mM.arg{e x:ay}(h:mM e)(hx:x∈e.cl):mM x:=λy hy=>h y (Kn hx hy)
def kK:ak4 ay->Int
 |[]=>0
 |x::l=>bif mI x !=0 then mI x else kK l
theorem T9:∀a b:ak4 ay,kK (a++b)=bif kK a !=0 then kK a else kK b
 |[],_=>rfl
 |x::a,b=>by
  rw[List.cons_append,kK,kK,T9 a b];cases h:mI x !=0 with
  |true=>simp only[cond_true,h]
  |false=>rfl
theorem P0(N:Nat)(hN:2147483648<N):∀l:ak4 ay,(∀x∈l,xf x)->uG N l=some (kK l)
 |[],_=>rfl
 |x::l,h=>by
  rw[uG,aeo N hN x (h x akm),akf,P0 N hN l (λy hy=>h y (akp _ hy)),kK];cases mI x !=0<;>rfl
theorem PS(N:Nat)(rec:ay->ak6 Int):∀(l:ak4 ay)(k:Nat),(∀x∈l,rec x=some (kK (et x)))->EG N rec l k=some (kK (lz l))
 |[],_,_=>by rw[lz];rfl
 |x::l,k,h=>by
  rw[EG,h x akm,akf,PS N rec l (k+1) (λy hy=>h y (akp _ hy)),Co,T9];cases kK (et x) !=0<;>rfl
theorem Uc(N:Nat)(hN:2147483648<N):∀(d:Nat)(e:ay),SizeOf.sizeOf e<d->mM e->sm N d e=some (kK (et e))
 |0,_,h,_=>absurd h (akI _)
 |d+1,e,h,hk=>by
  rw[sm];have hl:=PS N (sm N d) e.cl 0 λx hx=>Uc N hN d x (by have:=FC hx;omega) (hk.arg hx);unfold et;rw[kK];unfold mI;rw[ain,akf];cases nj e with
  |false=>rfl
  |true=>
   simp only[cond_true];rw[agW N (by omega),akf];cases qX e with
   |false=>rfl
   |true=>
    simp only[cond_true];rw[afr,akf];cases nu e with
    |false=>rfl
    |true=>
     simp only[cond_true];rw[ahI,akf];cases ht:mT e with
     |false=>rfl
     |true=>
      simp only[cond_true];rw[aaw N hN e hk.node ht,akf,hl];cases sV e<;>rfl
def jc:Nat->ay->Nat
 |0,_=>1
 |L+1,e=>e.cl.foldl (λm a=>max m (1+jc L a)) 1
theorem Th{α:Type}(f:α->Nat)(b:Nat):∀(l:ak4 α)(m:Nat),m<=b->(∀x∈l,f x<=b)->l.foldl (λm a=>max m (f a)) m<=b
 |[],_,h,_=>h
 |x::l,_,h,hl=>Th f b l _ (Nat.max_le.2 ⟨h,hl x akm⟩) λy hy=>hl y (akp _ hy)
theorem OS:∀(L:Nat)(e:ay),jc L e<=L+1
 |0,_=>akr _
 |L+1,e=>Th (λa=>1+jc L a) (L+2) e.cl 1 (by omega) λx _=>by have:=OS L x;show 1+jc L x<=L+2;omega
theorem oI{z:Int}(J: -9223372036854775808<=z)(h2:z<9223372036854775808):aK z=z:=by
 unfold aK;rw[IntKind.wrap_i64];omega
theorem DY(a b:Nat):(if((a:Nat):Int)>((b:Nat):Int)then((a:Nat):Int)else(b:Int))=((max b a:Nat):Int):=by
 split<;>omega
theorem Ue(N:Nat)(rec:ay->Int->ak6 Int)(L:Nat)(hL:L<=100):∀(l:ak4 ay)(k m:Nat),(∀x∈l,rec x ((L:Int)+1)=some ((jc L x:Nat):Int))->D9 N rec ((L:Int)+1+1) l k (m:Int)=some ((l.foldl (λm a=>max m (1+jc L a)) m:Nat):Int)
 |[],_,_,_=>rfl
 |x::l,k,m,h=>by
  have J:=OS L x;rw[D9,oI (by omega) (by omega),show(L:Int)+1+1-1=(L:Int)+1 by omega,h x akm,akf];rw[oI (by omega) (by omega),show(1:Int)+((jc L x:Nat):Int)=((1+jc L x:Nat):Int) by omega,DY];exact Ue N rec L hL l (k+1) _ λy hy=>h y (akp _ hy)
theorem TC(N:Nat):∀(L d:Nat)(e:ay),L<d->L<=100->qm N d e ((L:Int)+1)=some ((jc L e:Nat):Int)
 |L,0,_,h,_=>absurd h (akI _)
 |0,d+1,e,_,_=>by rw[qm];rfl
 |L+1,d+1,e,h,hL=>by
  rw[qm,akY (by omega)];simp only[cond_false];exact Ue N (qm N d) L (by omega) e.cl 0 1 λx _=>TC N L d x (by omega) (by omega)
theorem Sa(N:Nat)(rec:ay->Int->ak6 Int)(L:Nat)(hL:L<=100):∀(l:ak4 ay)(k m:Nat),(∀x∈l,rec x ((L:Int)+1)=some ((jc L x:Nat):Int))->wW N ((L:Int)+1+1) rec l k (m:Int)=some ((l.foldl (λm a=>max m (1+jc L a)) m:Nat):Int)
 |[],_,_,_=>rfl
 |x::l,k,m,h=>by
  have J:=OS L x;rw[wW,akX (show(L:Int)+1+1>1 by omega)];simp only[cond_true];rw[oI (by omega) (by omega),show(L:Int)+1+1-1=(L:Int)+1 by omega,h x akm,akf];rw[oI (by omega) (by omega),show(1:Int)+((jc L x:Nat):Int)=((1+jc L x:Nat):Int) by omega,DY];exact Sa N rec L hL l (k+1) _ λy hy=>h y (akp _ hy)
theorem af1(N:Nat)(rec:ay->Int->ak6 Int):∀l:ak4 ay,wW N 1 rec l 0 1=some 1
 |[]=>rfl
 |x::l=>by rw[wW];rfl
theorem PC(N:Nat):∀(L d:Nat)(e:ay),L<d->L<=100->pV N d e ((L:Int)+1)=some ((jc L e:Nat):Int)
 |L,0,_,h,_=>absurd h (akI _)
 |0,d+1,e,_,_=>by rw[pV];exact af1 N _ _
 |L+1,d+1,e,h,hL=>by
  rw[pV];exact Sa N (pV N d) L (by omega) e.cl 0 1 λx _=>PC N L d x (by omega) (by omega)
theorem TZ(N:Nat):∀(l:ak4 ay)(v:Nat),v<=2000->rX N l (v:Int)=some ((min (v+l.length) 2001:Nat):Int)
 |[],v,h=>by rw[rX];congr 2;simp only[aks];omega
 |x::l,v,h=>by
  rw[rX,oI (by omega) (by omega)];by_cases h2:v+1>2000
  ·rw[akX (by omega)];simp only[cond_true]
   congr 1
   simp only[akj];omega
  ·rw[akY (by omega)];simp only[cond_false];rw[show(v:Int)+1=((v+1:Nat):Int) by omega,TZ N l (v+1) (by omega)]
   congr 3
   simp only[akj];omega
theorem Yq(N:Nat)(e:ay):Dk N e=some ((min (et e).length 2001:Nat):Int):=by
 unfold Dk AJ;have:=TZ N (et e) 0 (by omega);rw[akA]at this;exact this
theorem VQ(N:Nat)(rec:ay->Int->ak6 Int)(m:Nat)(hm:m<=4000):∀(l:ak4 ay)(k n:Nat),n<=m+1->(∀x∈l,∀q:Nat,q<=m->rec x (q:Int)=some ((min (et x).length (q+1):Nat):Int))->De N (m:Int) rec l k (n:Int)=some ((min (n+(lz l).length) (m+1):Nat):Int)
 |[],k,n,hn,_=>by rw[De,lz];congr 2;simp only[aks];omega
 |x::l,k,n,hn,h=>by
  rw[De];by_cases h2:n<=m
  ·rw[akX (by omega)];simp only[cond_true];rw[oI (by omega) (by omega),show(m:Int)-(n:Int)=((m-n:Nat):Int) by omega,h x akm (m-n) (by omega),akf];rw[oI (by omega) (by omega),show(n:Int)+((min (et x).length (m-n+1):Nat):Int)=((n+min (et x).length (m-n+1):Nat):Int) by omega];rw[VQ N rec m hm l (k+1) _ (by omega) λy hy=>h y (akp _ hy),Co,akh]
   congr 2
   omega
  ·rw[akY (by omega)];simp only[cond_false]
   congr 1
   omega
theorem Vl(N:Nat):∀(d:Nat)(e:ay)(m:Nat),SizeOf.sizeOf e<d->m<=4000->rl N d e (m:Int)=some ((min (et e).length (m+1):Nat):Int)
 |0,_,_,h,_=>absurd h (akI _)
 |d+1,e,m,h,hm=>by
  rw[rl];have:=VQ N (rl N d) m hm e.cl 0 1 (by omega) λx hx q hq=>Vl N d x q (by have:=FC hx;omega) (by omega);rw[show((1:Nat):Int)=1 from rfl]at this;rw[this]
  congr 2
  unfold et;simp only[akj];omega
def pP(e:ay):Int:=bif decide (40<jc 40 e)then 13 else bif decide (2000<(et e).length)then 2 else kK (et e)
theorem abJ(N:Nat)(hN:2147483648<N)(e:ay)(h:mM e):zY N e=some (pP e):=by
 unfold zY Mm O2 pP;have hd:qm N N e 41=_:=TC N 40 N e (by omega) (by omega);rw[hd,akf,akf,Yq,akf];rw[og (p:=((jc 40 e:Nat):Int)>40) (q:=40<jc 40 e) (by omega),og (p:=((min (et e).length 2001:Nat):Int)>2000) (q:=2000<(et e).length) (by omega)];cases decide (40<jc 40 e)<;>cases decide (2000<(et e).length)<;>try rfl
 simp only[cond_false];exact P0 N hN (et e) h
theorem ZA(N:Nat)(hN:2147483648<N)(e:ay)(hs:SizeOf.sizeOf e<N)(h:mM e):C0 N e=some (pP e):=by
 unfold C0 KX O6 NJ LV KT pP;have hd:pV N N e 41=_:=PC N 40 N e (by omega) (by omega);have hz:rl N N e 2000=_:=Vl N N e 2000 hs (by omega);rw[hd,akf,akf,hz,akf,akf,Uc N hN N e hs h,akf];rw[og (p:=((jc 40 e:Nat):Int)>40) (q:=40<jc 40 e) (by omega)];rw[show(if(2001:Int)<((min (et e).length 2001:Nat):Int)then(2001:Int)else((min (et e).length 2001:Nat):Int))=((min (et e).length 2001:Nat):Int) by split<;>omega];rw[og (p:=((min (et e).length 2001:Nat):Int)>2000) (q:=2000<(et e).length) (by omega)];cases decide (40<jc 40 e)<;>cases decide (2000<(et e).length)<;>rfl
set_option linter.unusedVariables false
def dp(l:ak4 ak5)(s:ak5):Bool:=l.any λw=>bL w==bL s
theorem EY(N:Nat)(l:ak4 ak5)(s:ak5):sY N l s=some (dp l s):=Pp N s l 0
theorem lv(a b:ak4 ak5)(s:ak5):dp (a++b) s=(dp a s||dp b s):=List.any_append
theorem VF{s x:ak5}(h:(bL s==bL x)=true)(l:ak4 ak5):dp l x=dp l s:=by
 unfold dp;rw[beq_iff_eq.1 h]
theorem A1(s x:ak5):dp [s] x=(bL s==bL x):=by unfold dp;rw[ak1,List.any_nil,Bool.or_false]
theorem aae(N:Nat)(l:ak4 ak5)(s:ak5):yr N l s=some (dp l s):=by
 unfold yr Jk;obtain⟨z,J,h2⟩:=Li N s l 0;rw[J,akf,h2];rfl
def jA(t:ak4 ak5)(s:ak5):Int:=bif nameB s then bif dp t s then 8 else 0 else 7
theorem FV(N:Nat)(hN:16<N)(s:ak5)(t:ak4 ak5):uT N s t=some (jA t s):=by
 unfold uT jA;rw[G7 N s hN,akf,EY,akf];cases nameB s<;>cases dp t s<;>rfl
theorem NA{t:ak4 ak5}{s:ak5}(h:jA t s=0):nameB s=true/\dp t s=false:=by
 unfold jA at h;cases J:nameB s<;>cases h2:dp t s<;>rw[J,h2]at h<;>first|exact⟨rfl,rfl⟩|(exact absurd h (by decide))
structure KN(m:List (ByteArray×Int))(S T:List ByteArray):Prop where
 val:∀s,gv m s 0=bif dp S s then 1 else bif dp T s then 2 else 0
 len:m.length<=S.length+T.length
 Vu:∀s,dp T s=true->dp S s=false
section
variable {m:ak4 (ak5×Int)} {S T:ak4 ak5}
theorem KN.ZR(h:KN m S T)(s:ak5):(gv m s 0 !=0)=dp (S++T) s:=by
 rw[h.val,lv];cases dp S s<;>cases dp T s<;>rfl
theorem KN.ne1(h:KN m S T)(s:ak5):(gv m s 0 !=1)= !dp S s:=by
 rw[h.val];cases dp S s<;>cases dp T s<;>rfl
theorem KN.C5(h:KN m S T)(s:ak5):(gv m s 0==1)=dp S s:=by
 rw[h.val];cases dp S s<;>cases dp T s<;>rfl
theorem KN.YN(h:KN m S T)(s:ak5):(gv m s 0 !=2)= !dp T s:=by
 have:=h.Vu s;rw[h.val];cases e1:dp S s<;>cases e2:dp T s<;>first|rfl|(rw[e1]at this;exact absurd (this e2) (by decide))
theorem D4{V:Type}(k:ak5)(v:V)(m:ak4 (ak5×V))(s:ak5)(d:V):gv ((k,v)::m) s d=bif bL k==bL s then v else gv m s d:=rfl
theorem KN.TO(h:KN m S T){s:ak5}(hs:dp (S++T) s=false):KN ((s,2)::m) S (T++[s]):=by
 rw[lv,ak3]at hs;refine⟨λx=> ?_,by have:=h.len;simp only[akj,akh,aks];omega,λx hx=> ?_⟩
 rotate_left
 ·rw[lv,A1]at hx;cases e:bL s==bL x with
  |true=>rw[VF e];exact hs.1
  |false=>rw[e,Bool.or_false]at hx;exact h.Vu x hx
 rw[D4,h.val,lv,A1];cases e:bL s==bL x with
 |true=>rw[VF e,hs.1];cases dp T x<;>rfl
 |false=>cases dp S x<;>cases dp T x<;>rfl
theorem KN.oK(h:KN m S [])(s:ak5):KN ((s,1)::m) (S++[s]) []:=by
 refine⟨λx=> ?_,by have:=h.len;simp only[akj,akh,aks]at*;omega,λx hx=>by cases hx⟩;rw[D4,h.val,lv,A1];cases e:bL s==bL x<;>cases dp S x<;>rfl
theorem KN.nil:KN [] [] []:=⟨λ_=>rfl,akr _,λ_ h=>by cases h⟩
theorem OQ(N:Nat)(hN:16<N)(s:ak5)(k:Int)(p:aZ)(h:KN m S T)(hl:S.length+T.length<9223372036854775807):
 w6 N s k p m=some (jA (S++T) s,bif jA (S++T) s==0 then(s,k)::m else m):=by
 unfold w6 jA;rw[E2 N s hN,akf,h.ZR,show Nat.blt m.length 9223372036854775807=true from Nat.ble_eq_true_of_le (by have:=h.len;omega)];cases nameB s<;>cases dp (S++T) s<;>rfl
def uJ(V:ak4 ak5)(l:bp):Bool:=l.xL.all λm=>dp V m.aF
def iW(S:ak4 ak5)(l:bp):Int:=bif iM l then bif uJ S l then 0 else 9 else 1
theorem Rp(N:Nat)(h:KN m S T):∀(l:ak4 dK)(k:Nat),IQ N m l k=some (bif l.all (λm=>dp S m.aF)then 0 else 9)
 |[],_=>rfl
 |x::l,k=>by
  rw[IQ,h.ne1,ak0,Rp N h l];cases dp S x.aF<;>rfl
theorem N9(N:Nat)(hN:16<N)(l:bp)(p:aZ)(hl:jV l)(h:KN m S T):zL N l p m=some (iW S l):=by
 unfold zL iW;rw[Ja N hN l hl,akf,Rp N h];cases iM l<;>rfl
theorem UZ(N:Nat)(V W:ak4 ak5):∀(l:ak4 dK)(k:Nat),En N V W l k=some (l.all λm=>dp (V++W) m.aF)
 |[],_=>rfl
 |x::l,k=>by
  rw[En,EY,EY,ak0,UZ N V W l,lv];cases dp V x.aF<;>cases dp W x.aF<;>rfl
theorem J7(N:Nat)(V W:ak4 ak5)(l:bp):Ay N l V W=some (uJ (V++W) l):=UZ N V W l.xL 0
theorem Lc(N:Nat)(hN:16<N)(l:bp)(hl:jV l)(S:ak4 ak5):x7 N l S=some (iW S l):=by
 unfold x7 iW;rw[DR N hN l hl,akf,J7,akf];rw[List.nil_append];cases iM l<;>cases uJ S l<;>rfl
theorem C9(n:Nat):decide ((n:Int)>6)= !decide (n<=6):=j5 n 6
theorem ad4(N:Nat)(t:aV)(n:Nat):uv N t [(n:Int)]=some (bif iF t then bif decide (n<=6)then 0 else 11 else 10):=by
 unfold uv;rw[Jl,akf,show BM N [(n:Int)]=some (n:Int)from rfl,akf,C9];cases iF t<;>cases decide (n<=6)<;>rfl
theorem agA(N:Nat)(t:aV)(n k:Nat):uv N t [(n:Int),(k:Int)]=some (bif iF t then bif decide (n<=6)&&decide (k<=6)then 0 else 11 else 10):=by
 unfold uv;rw[Jl,akf,show BM N [(n:Int),(k:Int)]=some (if(k:Int)>(n:Int)then(k:Int)else(n:Int))from rfl,akf,DY,C9];have:decide (max n k<=6)=(decide (n<=6)&&decide (k<=6)):=by
  rw[Bool.eq_iff_iff,aki,decide_eq_true_iff,decide_eq_true_iff,decide_eq_true_iff];omega
 rw[this];cases iF t<;>cases (decide (n<=6)&&decide (k<=6))<;>rfl
def gz{α:Type}(f:α->Int):ak4 α->Int
 |[]=>0
 |x::l=>bif f x !=0 then f x else gz f l
def xI(S T:ak4 ak5)(x:eV):Int:=bif jA (S++T) x.aF !=0 then jA (S++T) x.aF else bif iF x.aJ then bif decide (x.bo.length<=6)then gz (iW S) x.bo else 11 else 10
theorem U9(N:Nat)(hN:16<N)(p:aZ)(q:Int×ak4 (ak5×Int))(h:KN q.2 S T):∀(l:ak4 bp)(k:Nat),(∀x∈l,jV x)->FW N q p l k=some (gz (iW S) l,q.2)
 |[],_,_=>rfl
 |x::l,k,hx=>by
  rw[FW,N9 N hN x p (hx x akm) h,akf,gz];cases iW S x !=0 with
  |true=>rfl
  |false=>exact U9 N hN p q h l (k+1) λy hy=>hx y (akp _ hy)
theorem mf{a:Int}(h:(a !=0)=false):a=0:=by
 rw[bne_eq_false_iff_eq]at h;exact h
theorem afi(N:Nat)(hN:16<N)(x:eV)(p:aZ)(hx:∀y∈x.bo,jV y)(h:KN m S T)(hl:S.length+T.length<9223372036854775807):
 ∃m',FM N x p m=some (xI S T x,m')/\(xI S T x=0->KN m' S (T++[x.aF])):=by
 unfold FM xI;rw[OQ N hN x.aF 2 p h hl,akf,ad4];simp only[];cases e:jA (S++T) x.aF !=0 with
 |true=>exact⟨_,rfl,λh0=>by rw[cond_true]at h0;rw[h0]at e;cases e⟩
 |false=>
  have e0:=mf e;have k:=h.TO (NA e0).2;rw[e0];simp only[akZ,cond_true,cond_false];cases iF x.aJ with
  |false=>exact⟨_,rfl,λh0=>by cases h0⟩
  |true=>
   cases decide (x.bo.length<=6)with
   |false=>exact⟨_,rfl,λh0=>by cases h0⟩
   |true=>exact⟨_,U9 N hN p (0,(x.aF,2)::m) k x.bo 0 hx,λ_=>k⟩
theorem Xz(N:Nat)(hN:16<N)(S:ak4 ak5):∀(l:ak4 bp)(k:Nat),(∀x∈l,jV x)->Fs N S l k=some (gz (iW S) l)
 |[],_,_=>rfl
 |x::l,k,hx=>by
  rw[Fs,Lc N hN x (hx x akm),akf,gz];cases iW S x !=0 with
  |true=>rfl
  |false=>exact Xz N hN S l (k+1) λy hy=>hx y (akp _ hy)
theorem aiD(N:Nat)(hN:16<N)(x:eV)(S T:ak4 ak5)(hx:∀y∈x.bo,jV y):IC N x S (S++T)=some (xI S T x):=by
 unfold IC xI;rw[FV N hN,akf,MG,akf,C9,Xz N hN S _ _ hx];cases jA (S++T) x.aF !=0<;>cases iF x.aJ<;>cases decide (x.bo.length<=6)<;>rfl
def qW(S:ak4 ak5):ak4 ak5->ak4 dJ->Int
 |_,[]=>0
 |O,a::l=>bif jA (S++O) a.aF !=0 then jA (S++O) a.aF else bif iW S a.ff !=0 then iW S a.ff else qW S (O++[a.aF]) l
structure ON(w:List (ByteArray×Bool))(O:List ByteArray):Prop where
 val:∀s,gv w s false=dp O s
 len:w.length<=O.length
theorem ON.add{w:ak4 (ak5×Bool)}{O:ak4 ak5}(h:ON w O)(s:ak5):ON ((s,true)::w) (O++[s]):=by
 refine⟨λx=> ?_,by have:=h.len;simp only[akj,akh,aks];omega⟩;rw[D4,h.val,lv,A1];cases bL s==bL x<;>cases dp O x<;>rfl
theorem XP(N:Nat)(hN:16<N)(p:aZ)(h:KN m S T):∀(l:ak4 dJ)(k:Nat)(w:ak4 (ak5×Bool))(O:ak4 ak5),ON w O->(∀x∈l,jV x.ff)->O.length+l.length<9223372036854775807->
 Fe N m p l k w=some (qW S O l)
 |[],_,_,_,_,_,_=>rfl
 |a::l,k,w,O,hw,hx,hl=>by
  have oD:O.length+l.length+1<9223372036854775807:=by simp only[akj]at hl;omega
  rw[Fe,E2 N _ hN,akf,hw.val,h.C5,N9 N hN _ p (hx a akm) h,akf,qW,
    show Nat.blt w.length 9223372036854775807=true from Nat.ble_eq_true_of_le (by have:=hw.len;omega)]
  have ih:=XP N hN p h l (k+1) _ _ (hw.add a.aF) (λy hy=>hx y (akp _ hy)) (by simp only[akh,akj,aks];omega);unfold jA;dsimp only;rw[lv,ih];cases nameB a.aF<;>cases dp S a.aF<;>cases dp O a.aF<;>first|rfl|(cases iW S a.ff !=0<;>rfl)
theorem Ud(N:Nat)(hN:16<N)(S:ak4 ak5):∀(l:ak4 dJ)(k:Nat)(O:ak4 ak5),(∀x∈l,jV x.ff)->S.length+O.length+l.length<1000000000->
 GY N S l k (S++O)=some (qW S O l)
 |[],_,_,_,_=>rfl
 |a::l,k,O,hx,hl=>by
  have oD:S.length+O.length+l.length+1<1000000000:=by simp only[akj]at hl;omega
  rw[GY,FV N hN,akf,Lc N hN _ (hx a akm),akf,qW,
    show Nat.ble (((S++O).length+1)*16) 140737488355328=true from Nat.ble_eq_true_of_le (by rw[akh];omega)]
  have ih:=Ud N hN S l (k+1) (O++[a.aF]) (λy hy=>hx y (akp _ hy)) (by simp only[akh,akj,aks];omega);rw[<-akx]at ih;dsimp only;rw[ih];cases jA (S++O) a.aF !=0<;>cases iW S a.ff !=0<;>rfl
theorem ac1(N:Nat)(hN:16<N)(S:ak4 ak5)(l:ak4 dJ)(hx:∀x∈l,jV x.ff)(hl:S.length+l.length<1000000000):Fp N l S=some (qW S [] l):=by
 unfold Fp;have:=Ud N hN S l 0 [] hx (by simp only[aks];omega);rw[akB]at this;rw[this,show Nat.ble ((0+S.length)*16) 140737488355328=true from Nat.ble_eq_true_of_le (by omega)];rfl
theorem Ji{n:Nat}(h:n<=9223372036854775807):aK (n:Int)=(n:Int):=oI (by omega) (by omega)
theorem W0(N:Nat)(a b:ak4 dJ)(h:a.length+b.length<1000000000):xc N [a,b]=some (a++b):=by
 unfold xc;rw[sX,show aK ((0:Int)+(a.length:Int))=((a.length:Nat):Int) by rw[Int.zero_add,Ji (by omega)],show decide ((a.length:Int)<0)=false from akY (by omega)];simp only[cond_false];rw[sX,show aK ((a.length:Int)+(b.length:Int))=((a.length+b.length:Nat):Int) by rw[<-Int.natCast_add,Ji (by omega)],show decide (((a.length+b.length:Nat):Int)<0)=false from akY (by omega)];simp only[cond_false];rw[sX];unfold JX;rw[show decide ((0:Int)<=((a.length+b.length:Nat):Int))=true from akX (by omega),akH,show Nat.ble ((a.length+b.length)*48) 140737488355328=true from Nat.ble_eq_true_of_le (by omega)];simp only[Bool.and_self,cond_true,akf];rw[tR];rw[show Nat.ble ((([]:ak4 dJ).length+a.length)*48) 140737488355328=true from Nat.ble_eq_true_of_le (by simp only[aks];omega)];simp only[cond_true,List.nil_append];rw[tR];rw[show Nat.ble ((a.length+b.length)*48) 140737488355328=true from Nat.ble_eq_true_of_le (by omega)];rfl
theorem afZ(N:Nat)(hN:16<N)(d:cv)(p:aZ)(h:KN m S T)(hx:∀x∈d.bo++d.cO,jV x.ff)(hl:d.bo.length+d.cO.length<1000000000):
 Je N d p m=some (qW S [] (d.bo++d.cO)):=by
 unfold Je;rw[W0 N _ _ hl,akf];exact XP N hN p h _ 0 [] [] ⟨λ_=>rfl,akr _⟩ hx (by simp only[akh,aks];omega)
end
def BO(d:cv):Int:=bif d.eQ==0 then bif d.cO.length==0 then 0 else 11 else bif decide (1<=d.eQ)&&decide (d.eQ<=4)then bif d.cO.length==0 then 11 else 0 else bif d.eQ==5 then bif d.cO.length==0&& !(d.bo.length==0)then 0 else 11 else 1
theorem PM(f:Int):f=0\/f=1\/f=2\/f=3\/f=4\/f=5\/(f<0\/5<f):=by omega
theorem ac5(N:Nat)(d:cv):Fo N d=some (BO d):=by
 unfold Fo BO zP;rw[H7,sk,sk];rcases PM d.eQ with h|h|h|h|h|h|h
 ·rw[h];cases d.cO.length==0<;>rfl
 ·rw[h];cases d.cO.length==0<;>rfl
 ·rw[h];cases d.cO.length==0<;>rfl
 ·rw[h];cases d.cO.length==0<;>rfl
 ·rw[h];cases d.cO.length==0<;>rfl
 ·rw[h];cases d.cO.length==0<;>cases d.bo.length==0<;>rfl
 ·have e:∀k:Int,0<=k->k<=5->(d.eQ==k)=false:=λk J h2=>beq_eq_false_iff_ne.2 (by omega);have e2:(decide (1<=d.eQ)&&decide (d.eQ<=4))=false:=by
   rw[Bool.and_eq_false_iff,decide_eq_false_iff_not,decide_eq_false_iff_not];omega
  rw[e 0 (by decide) (by decide),e 1 (by decide) (by decide),e 2 (by decide) (by decide),e 3 (by decide) (by decide),e 4 (by decide) (by decide),e 5 (by decide) (by decide),e2];rfl
theorem aeN(N:Nat)(d:cv):Jd N d=some (BO d):=by
 unfold Jd BO;rw[sk,sk];rcases PM d.eQ with h|h|h|h|h|h|h
 ·rw[h];cases d.cO.length==0<;>rfl
 ·rw[h];cases d.cO.length==0<;>rfl
 ·rw[h];cases d.cO.length==0<;>rfl
 ·rw[h];cases d.cO.length==0<;>rfl
 ·rw[h];cases d.cO.length==0<;>rfl
 ·rw[h];cases d.cO.length==0<;>cases d.bo.length==0<;>rfl
 ·have e:∀k:Int,0<=k->k<=5->(d.eQ==k)=false:=λk J h2=>beq_eq_false_iff_ne.2 (by omega);have e2:(decide (1<=d.eQ)&&decide (d.eQ<=4))=false:=by
   rw[Bool.and_eq_false_iff,decide_eq_false_iff_not,decide_eq_false_iff_not];omega
  have e3:(bif decide (d.eQ<0)then some true else some (decide (d.eQ>5)))=some true:=by
   rcases h with h|h
   ·rw[akX h];rfl
   ·rw[show decide (d.eQ>5)=true from akX h];cases decide (d.eQ<0)<;>rfl
  rw[e3,e 0 (by decide) (by decide),e 5 (by decide) (by decide),e2];rfl
def lL(B:Nat)(l:bp):Prop:=l.xL.length<=B
theorem lL.ok{l:bp}(h:lL 1000000000 l):jV l:=aky h (by decide)
theorem kF{n k:Nat}(h:n<=k):Nat.ble n k=true:=Nat.ble_eq_true_of_le h
theorem Tp(N:Nat):∀(l:ak4 dJ)(k:Nat)(acc:ak4 ak5),acc.length+l.length<=1000000000->Cl N l k acc=some (acc++l.map (·.aF))
 |[],_,acc,_=>by rw[Cl,List.map_nil,akB]
 |a::l,k,acc,h=>by
  simp only[akj]at h;rw[Cl,kF (by omega),cond_true];dsimp only;rw[Tp N l (k+1) _ (by simp only[akh,akj,aks];omega)];rw[akF,akx];rfl
theorem Zk(N:Nat)(d:cv)(h:d.bo.length+d.cO.length<1000000000):FE N d=some ((d.bo++d.cO).map (·.aF)):=by
 unfold FE;rw[W0 N _ _ h,akf,Tp N _ _ _ (by simp only[akh,aks];omega),List.nil_append]
theorem V5(N:Nat):∀(l:ak4 dJ)(k:Nat)(acc:ak4 ak5),acc.length+l.length<=1000000000->Da N l k acc=some (acc++l.map (·.aF))
 |[],_,acc,_=>by rw[Da,List.map_nil,akB]
 |a::l,k,acc,h=>by
  simp only[akj]at h;rw[Da,kF (by omega),cond_true];dsimp only;rw[V5 N l (k+1) _ (by simp only[akh,akj,aks];omega)];rw[akF,akx];rfl
theorem RM(N:Nat)(d:cv):∀(l:ak4 dJ)(k:Nat)(acc:ak4 ak5),acc.length+l.length+d.cO.length<=1000000000->DD N d l k acc=some (acc++(l++d.cO).map (·.aF))
 |[],_,acc,h=>by rw[DD,V5 N _ _ _ (by simp only[aks]at h;omega),List.nil_append]
 |a::l,k,acc,h=>by
  simp only[akj]at h;rw[DD,kF (by omega),cond_true];dsimp only;rw[RM N d l (k+1) _ (by simp only[akh,akj,aks];omega)];rw[List.cons_append,akF,akx];rfl
theorem ajm(N:Nat)(d:cv)(h:d.bo.length+d.cO.length<1000000000):I9 N d=some ((d.bo++d.cO).map (·.aF)):=by
 unfold I9;rw[RM N d _ _ _ (by simp only[aks];omega),List.nil_append]
theorem Ul(N:Nat)(l:bp)(h:lL 1000000000 l):BJ N l=some l:=by
 unfold BJ LY;rw[kF (by have:=h;unfold lL at this;omega)];rfl
theorem QY(N:Nat):∀(l:ak4 bp)(k:Nat)(acc:ak4 bp),acc.length+l.length<=1000000000->(∀x∈l,lL 1000000000 x)->CM N l k acc=some (acc++l)
 |[],_,acc,_,_=>by rw[CM,akB]
 |a::l,k,acc,h,hx=>by
  simp only[akj]at h;rw[CM,Ul N a (hx a akm),akf,kF (by omega),cond_true];dsimp only;rw[QY N l (k+1) _ (by simp only[akh,akj,aks];omega) λy hy=>hx y (akp _ hy)];rw[akx];rfl
theorem aiE(N:Nat)(l:ak4 bp)(h:l.length<=1000000000)(hx:∀x∈l,lL 1000000000 x):D7 N l=some l:=by
 unfold D7;rw[QY N l 0 [] (by simp only[aks];omega) hx,List.nil_append]
def mP(s:ak5)(d:cv):Bool:=bL d.aF==bL s
def yl(D:ak4 cv)(s:ak5)(k:Nat):Int:=match D.findIdx? (mP s)with|some i=>((k+i:Nat):Int)|none=> -1
theorem ZF(d:cv)(D:ak4 cv)(s:ak5)(k:Nat):yl (d::D) s k=bif mP s d then(k:Int)else yl D s (k+1):=by
 unfold yl;rw[List.findIdx?_cons];cases mP s d with
 |true=>rfl
 |false=>
  cases D.findIdx? (mP s)with
  |none=>rfl
  |some i=>simp only[cond_false,Bool.false_eq_true,if_false,Option.map_some];rw[Nat.add_assoc,Nat.add_comm 1 i]
theorem PL(N:Nat)(s:ak5):∀(l:ak4 cv)(k:Nat),EJ N s l k=some (yl l s k)
 |[],_=>rfl
 |d::l,k=>by
  rw[EJ,ZF,show Ni N d s=some (mP s d)from rfl,akf,PL N s l];cases mP s d<;>rfl
theorem ajT(N:Nat)(p:aZ)(s:ak5):Ed N p s=some (yl p.aU s 0):=by
 unfold Ed O9;rw[PL];rfl
theorem Qf{α:Type}(f:α->Bool):∀l:ak4 α,(l.findIdx? f=none/\l.find? f=none)\/∃i d,l.findIdx? f=some i/\l[i]?=some d/\l.find? f=some d/\f d=true
 |[]=> .inl ⟨rfl,rfl⟩
 |x::l=>by
  rw[List.findIdx?_cons,List.find?_cons];cases e:f x with
  |true=>exact .inr ⟨0,x,rfl,rfl,rfl,e⟩
  |false=>
   simp only[Bool.false_eq_true,if_false];rcases Qf f l with⟨J,h2⟩|⟨i,d,J,h2,h3,h4⟩
   ·exact .inl ⟨by rw[J];rfl,h2⟩
   ·exact .inr ⟨i+1,d,by rw[J];rfl,by rw[akR];exact h2,h3,h4⟩
def eo(P:ak4 eV)(D:ak4 cv)(s:ak5):aV×ak4 bp×Bool:=
 match P.find? (λx=>bL x.aF==bL s)with
 |some x=>(x.aJ,x.bo,true)
 |none=>match D.find? (mP s)with
  |some d=>(d.aJ,d.bo.map (·.ff),true)
  |none=>(ee,[],false)
theorem UD(N:Nat)(d:cv):∀(l:ak4 dJ)(k:Nat)(acc:ak4 bp),acc.length+l.length<=1000000000->(∀x∈l,lL 1000000000 x.ff)->Dg N d l k acc=some (d.aJ,acc++l.map (·.ff),true)
 |[],_,acc,_,_=>by rw[Dg,List.map_nil,akB]
 |a::l,k,acc,h,hx=>by
  simp only[akj]at h;rw[Dg,Ul N _ (hx a akm),akf,kF (by omega),cond_true];dsimp only;rw[UD N d l (k+1) _ (by simp only[akh,akj,aks];omega) λy hy=>hx y (akp _ hy)];rw[akF,akx];rfl
theorem SG(N:Nat)(d:cv):∀(l:ak4 dJ)(k:Nat)(acc:ak4 bp),acc.length+l.length<=1000000000->Bq N d l k acc=some (d.aJ,acc++l.map (·.ff),true)
 |[],_,acc,_=>by rw[Bq,List.map_nil,akB]
 |a::l,k,acc,h=>by
  simp only[akj]at h;rw[Bq,kF (by omega),cond_true];dsimp only;rw[SG N d l (k+1) _ (by simp only[akh,akj,aks];omega)];rw[akF,akx];rfl
structure mO(P:List eV):Prop where
 len:∀x∈P,x.bo.length<=1000000000
 nC:∀x∈P,∀y∈x.bo,lL 1000000000 y
structure gS(D:List cv):Prop where
 len:∀d∈D,d.bo.length+d.cO.length<900000000
 nC:∀d∈D,∀y∈d.bo++d.cO,lL 1000000000 y.ff
theorem gS.ID{D:ak4 cv}(h:gS D){d:cv}(hd:d∈D):∀y∈d.bo,lL 1000000000 y.ff:=λy hy=>h.nC d hd y (List.mem_append_left _ hy)
theorem MX{α:Type}{l:ak4 α}{i:Nat}{d:α}(h:l[i]?=some d):d∈l:=akt h
theorem U4(N:Nat)(p:aZ)(s:ak5)(hD:gS p.aU):∀(l:ak4 eV)(k:Nat),mO l->Bh N p s l k=some (eo l p.aU s)
 |[],k,_=>by
  rw[Bh,ajT,akf];unfold eo yl;rw[List.find?_nil];rcases Qf (mP s) p.aU with⟨J,h2⟩|⟨i,d,J,h2,h3,_⟩
  ·rw[J,h2];rfl
  ·rw[J,h3];simp only[akA];rw[show decide ((i:Int)>=0)=true from akX (by omega),akH,h2];simp only[cond_true,akf];rw[UD N d _ _ _ (by have:=hD.len d (MX h2);simp only[aks];omega) (hD.ID (MX h2)),List.nil_append]
 |x::l,k,hP=>by
  rw[Bh,U4 N p s hD l (k+1) ⟨λy hy=>hP.len y (akp _ hy),λy hy=>hP.nC y (akp _ hy)⟩];unfold eo;rw[List.find?_cons];cases bL x.aF==bL s with
  |true=>simp only[cond_true];rw[aiE N _ (hP.len x akm) (hP.nC x akm)];rfl
  |false=>rfl
theorem OC(N:Nat)(p:aZ)(s:ak5)(hP:mO p.bu)(hD:gS p.aU):Cg N p s=some (eo p.bu p.aU s):=U4 N p s hD p.bu 0 hP
theorem PW(N:Nat)(s:ak5):∀(D:ak4 cv)(k:Nat),gS D->ER N s D k=some (eo [] D s)
 |[],_,_=>rfl
 |d::D,k,h=>by
  rw[ER,PW N s D (k+1) ⟨λy hy=>h.len y (akp _ hy),λy hy=>h.nC y (akp _ hy)⟩];unfold eo;rw[List.find?_nil,List.find?_cons];unfold mP;cases bL d.aF==bL s with
  |true=>
   simp only[cond_true];rw[SG N d _ _ _ (by have:=h.len d akm;simp only[aks];omega),List.nil_append]
  |false=>rfl
theorem Rr(N:Nat)(s:ak5)(p:aZ)(hD:gS p.aU):∀(l:ak4 eV)(k:Nat),AD N s p l k=some (eo l p.aU s)
 |[],k=>by rw[AD,PW N s _ _ hD]
 |x::l,k=>by
  rw[AD,Rr N s p hD l];unfold eo;rw[List.find?_cons];cases bL x.aF==bL s<;>rfl
theorem Nb(N:Nat)(p:aZ)(s:ak5)(hD:gS p.aU):BU N p s=some (eo p.bu p.aU s):=Rr N s p hD p.bu 0
structure VN(m:List (ByteArray×Int))(V:List ByteArray):Prop where
 val:∀s,(gv m s 0==0)= !dp V s
 len:m.length<=V.length
theorem VN.add{m:ak4 (ak5×Int)}{V:ak4 ak5}(h:VN m V)(s:ak5)(k:Int)(hk:(k==0)=false):VN ((s,k)::m) (V++[s]):=by
 refine⟨λx=> ?_,by have:=h.len;simp only[akj,akh,aks];omega⟩;rw[D4,lv,A1];cases e:bL s==bL x with
 |true=>rw[cond_true,hk,Bool.or_true];rfl
 |false=>rw[cond_false,h.val,Bool.or_false]
def nU(V:ak4 ak5)(l:bp):Int:=bif uJ V l then 0 else 9
theorem XD(N:Nat){m:ak4 (ak5×Int)}{V:ak4 ak5}(h:VN m V):∀(l:ak4 dK)(k:Nat),I2 N m l k=some (bif l.all (λm=>dp V m.aF)then 0 else 9)
 |[],_=>rfl
 |x::l,k=>by
  rw[I2,h.val,ak0,XD N h l];cases dp V x.aF<;>rfl
theorem K3(N:Nat){m:ak4 (ak5×Int)}{V:ak4 ak5}(h:VN m V)(l:bp)(p:aZ):CG N l p m=some (nU V l):=XD N h l.xL 0
def vh(V:ak4 ak5)(P:ak4 eV)(D:ak4 cv)(x:dd):Int:=
 bif bL x.dk==[]then nU V x.bO else bif (eo P D x.dk).2.2 then bif (eo P D x.dk).1.cg !=3 then 10 else bif x.da.length==(eo P D x.dk).2.1.length then gz (nU V) x.da else 11 else 9
theorem BZ(a b:Nat):((a:Int) !=(b:Int))= !(a==b):=PQ a b
theorem TT(N:Nat){m:ak4 (ak5×Int)}{V:ak4 ak5}(h:VN m V)(p:aZ):∀(l:ak4 bp)(k:Nat),Hf N p m l k=some (gz (nU V) l)
 |[],_=>rfl
 |x::l,k=>by
  rw[Hf,K3 N h,akf,gz,TT N h p l];cases nU V x !=0<;>rfl
theorem ZE(N:Nat){m:ak4 (ak5×Int)}{V:ak4 ak5}(h:VN m V)(p:aZ)(hP:mO p.bu)(hD:gS p.aU)(x:dd):IM N x p m=some (vh V p.bu p.aU x):=by
 unfold IM vh;rw[qL,K3 N h,OC N p _ hP hD,akf,akf,BZ,TT N h p];cases bL x.dk==[]<;>cases (eo p.bu p.aU x.dk).2.2<;>cases (eo p.bu p.aU x.dk).1.cg !=3<;>cases x.da.length==(eo p.bu p.aU x.dk).2.1.length<;>rfl
def uF(V:ak4 ak5)(P:ak4 eV)(D:ak4 cv)(e:ay):Int:=
 bif (eo P D e.aF).2.2 then bif e.xIdx.length==(eo P D e.aF).2.1.length then gz (vh V P D) e.xIdx else 11 else 9
def ua(t:aV)(x:Int):aV×Int:=(bif x !=0 then ee else t,x)
theorem XJ(N:Nat){m:ak4 (ak5×Int)}{V:ak4 ak5}(h:VN m V)(p:aZ)(hP:mO p.bu)(hD:gS p.aU)(q:aV×ak4 bp×Bool):∀(l:ak4 dd)(k:Nat),IA N q p m l k=some (ua q.1 (gz (vh V p.bu p.aU) l))
 |[],_=>rfl
 |x::l,k=>by
  rw[IA,ZE N h p hP hD,akf,gz,XJ N h p hP hD q l];unfold ua;cases e:vh V p.bu p.aU x !=0 with
  |true=>simp only[cond_true];rw[e];rfl
  |false=>rfl
theorem aex(N:Nat){m:ak4 (ak5×Int)}{V:ak4 ak5}(h:VN m V)(p:aZ)(hP:mO p.bu)(hD:gS p.aU)(e:ay):E9 N e p m=some (ua (eo p.bu p.aU e.aF).1 (uF V p.bu p.aU e)):=by
 unfold E9 uF;rw[OC N p _ hP hD,akf,BZ,XJ N h p hP hD];cases (eo p.bu p.aU e.aF).2.2<;>cases e.xIdx.length==(eo p.bu p.aU e.aF).2.1.length<;>rfl
theorem Ws(N:Nat)(V:ak4 ak5)(p:aZ):∀(l:ak4 bp)(k:Nat),HE N V p l k=some (gz (nU (V++p.bE)) l)
 |[],_=>rfl
 |x::l,k=>by
  rw[HE,J7,akf,gz,Ws N V p l];unfold nU;cases uJ (V++p.bE) x<;>rfl
theorem JV(N:Nat)(V:ak4 ak5)(p:aZ)(l:ak4 bp):Hh N p V l=some (gz (nU (V++p.bE)) l):=Ws N V p l 0
theorem Rn(N:Nat)(V:ak4 ak5)(p:aZ)(hD:gS p.aU)(q:aV×ak4 bp×Bool):∀(l:ak4 dd)(k:Nat),CL N q V p l k=some (ua q.1 (gz (vh (V++p.bE) p.bu p.aU) l))
 |[],_=>rfl
 |x::l,k=>by
  rw[CL,qL,J7,Nb N p _ hD,akf,akf,BZ,JV,akf,gz,Rn N V p hD q l];unfold ua vh nU;rw[show(x.da.length==(eo p.bu p.aU x.dk).2.1.length)=((eo p.bu p.aU x.dk).2.1.length==x.da.length)from Bool.eq_iff_iff.2 (by rw[beq_iff_eq,beq_iff_eq];exact eq_comm)];cases bL x.dk==[]with
  |true=>cases uJ (V++p.bE) x.bO<;>rfl
  |false=>
   cases (eo p.bu p.aU x.dk).2.2 with
   |false=>rfl
   |true=>
    cases (eo p.bu p.aU x.dk).1.cg !=3 with
    |true=>rfl
    |false=>
     cases (eo p.bu p.aU x.dk).2.1.length==x.da.length with
     |false=>rfl
     |true=>
      simp only[cond_true,cond_false,Bool.not_true];cases e:gz (λl=>bif uJ (V++p.bE) l then 0 else 9) x.da !=0 with
      |true=>simp only[cond_true];first|rw[e];rfl|simp [e]
      |false=>rfl
theorem UR(N:Nat)(V:ak4 ak5)(p:aZ)(hD:gS p.aU)(e:ay):Gz N p V e=some (ua (eo p.bu p.aU e.aF).1 (uF (V++p.bE) p.bu p.aU e)):=by
 unfold Gz uF;rw[Nb N p _ hD,akf,BZ,Rn N V p hD];rw[show((eo p.bu p.aU e.aF).2.1.length==e.xIdx.length)=(e.xIdx.length==(eo p.bu p.aU e.aF).2.1.length)from Bool.eq_iff_iff.2 (by rw[beq_iff_eq,beq_iff_eq];exact eq_comm)];cases (eo p.bu p.aU e.aF).2.2<;>cases e.xIdx.length==(eo p.bu p.aU e.aF).2.1.length<;>rfl
set_option maxRecDepth 100000
theorem pD(a:Int64): -9223372036854775808<=a.toInt/\a.toInt<=9223372036854775807:=nw.1 (adE a)
theorem MJ(x:Int)(h:0<=x/\x<18446744073709551616):IntKind.u64.wrap ((BitVec.ofInt IntKind.u64.bits x&&&BitVec.ofInt IntKind.u64.bits 4294967295).toNat:Int)=x%4294967296:=by
 obtain⟨n,rfl⟩:=Int.eq_ofNat_of_zero_le h.1;have e:(BitVec.ofInt IntKind.u64.bits (n:Int)&&&BitVec.ofInt IntKind.u64.bits 4294967295).toNat=n%4294967296:=by
  show(BitVec.ofInt 64 (n:Int)&&&BitVec.ofInt 64 4294967295).toNat=_;rw[BitVec.toNat_and];have J:(BitVec.ofInt 64 (n:Int)).toNat=n:=by
   rw[BitVec.toNat_ofInt];omega
  have h2:(BitVec.ofInt 64 (4294967295:Int)).toNat=2^32-1:=by decide
  rw[J,h2,Nat.and_two_pow_sub_one_eq_mod]
 rw[e,IntKind.wrap_u64];omega
theorem YK(x:Int):x.fdiv (2^min (32:Int).toNat IntKind.u64.bits)=x / 4294967296:=by
 show x.fdiv 4294967296=_;rw[Int.fdiv_eq_ediv_of_nonneg _ (by omega)]
theorem ad8(a b:Int)(ha:0<=a/\a<18446744073709551616)(hb:0<=b/\b<18446744073709551616):
 let ah:=a / 4294967296
 let al:=a%4294967296
 let bh:=b / 4294967296
 let bl:=b%4294967296
 let W:=IntKind.u64.wrap
 let low:=W (al*bl)
 let wu:=W (W (ah*bl)+low / 4294967296)
 let IN:=W (W (al*bh)+wu%4294967296)
 W (W (W (ah*bh)+wu / 4294967296)+IN / 4294967296)=a*b / 18446744073709551616:=by
 intro ah al bh bl W low wu IN;have J:0<=ah/\ah<=4294967295:=by omega
 have h2:0<=al/\al<=4294967295:=by omega
 have h3:0<=bh/\bh<=4294967295:=by omega
 have h4:0<=bl/\bl<=4294967295:=by omega
 have pb:∀{x y:Int},(0<=x/\x<=4294967295)->(0<=y/\y<=4294967295)->0<=x*y/\x*y<=18446744065119617025:=λhx hy=>
  ⟨Int.mul_nonneg hx.1 hy.1,Int.le_trans (Int.mul_le_mul hx.2 hy.2 hy.1 (by omega)) (by decide)⟩
 have p1:=pb J h3;have p2:=pb J h4;have p3:=pb h2 h3;have p4:=pb h2 h4;have e:a*b=18446744073709551616*(ah*bh)+4294967296*(ah*bl)+4294967296*(al*bh)+al*bl:=by
  have ea:a=4294967296*ah+al:=by omega
  have eb:b=4294967296*bh+bl:=by omega
  have:∀x y z w:Int,(4294967296*x+y)*(4294967296*z+w)=18446744073709551616*(x*z)+4294967296*(x*w)+4294967296*(y*z)+y*w:=λx y z w=>by
   rw[Int.add_mul,Int.mul_add,Int.mul_add];rw[show 4294967296*x*(4294967296*z)=18446744073709551616*(x*z)from by
     rw[Int.mul_assoc,Int.mul_left_comm x,<-Int.mul_assoc];rfl]
   rw[Int.mul_assoc 4294967296 x w,Int.mul_left_comm y];omega
  rw[<-this,<-ea,<-eb]
 generalize hP:ah*bh=P at*;generalize hQ:ah*bl=Q at*;generalize hR:al*bh=R at*;generalize hT:al*bl=T at*;have w1:low=T:=by show IntKind.u64.wrap _=_;rw[IntKind.wrap_u64];omega
 have w2:wu=Q+T / 4294967296:=by show IntKind.u64.wrap (IntKind.u64.wrap _+low / _)=_;rw[IntKind.wrap_u64,IntKind.wrap_u64,w1];omega
 have w3:IN=R+wu%4294967296:=by show IntKind.u64.wrap (IntKind.u64.wrap _+wu%_)=_;rw[IntKind.wrap_u64,IntKind.wrap_u64];omega
 show IntKind.u64.wrap (IntKind.u64.wrap (IntKind.u64.wrap P+wu / 4294967296)+IN / 4294967296)=_;rw[IntKind.wrap_u64,IntKind.wrap_u64,IntKind.wrap_u64,e,w3,w2];omega
theorem tg(n:Int):0<=IntKind.u64.wrap n/\IntKind.u64.wrap n<18446744073709551616:=by rw[IntKind.wrap_u64];omega
theorem aiP(N:Nat)(a b:Int)(ha:0<=a/\a<18446744073709551616)(hb:0<=b/\b<18446744073709551616):IY N a b=some (a*b / 18446744073709551616,a*b%18446744073709551616):=by
 unfold IY;simp only[MJ _ ha,MJ _ hb,MJ _ (tg _),YK];rw[ad8 a b ha hb,IntKind.wrap_u64 (a*b)]
theorem Lq(N:Nat)(a:Int64):zW N a=some (a.toInt.natAbs:Int):=by
 unfold zW;have:=pD a;rw[IntKind.wrap_u64,IntKind.wrap_u64];by_cases h:a.toInt<0
 ·rw[akX h,cond_true];congr 1;omega
 ·rw[akY h,cond_false];congr 1;omega
theorem P6(a b:Int):(a.natAbs:Int)*b.natAbs=if(decide (a<0)==decide (b<0))=true then a*b else-(a*b):=by
 by_cases J:a<0<;>by_cases h2:b<0
 ·rw[show(a.natAbs:Int)= -a by omega,show(b.natAbs:Int)= -b by omega,Int.neg_mul_neg];simp [J,h2]
 ·rw[show(a.natAbs:Int)= -a by omega,show(b.natAbs:Int)=b by omega,Int.neg_mul];simp [J,h2]
 ·rw[show(a.natAbs:Int)=a by omega,show(b.natAbs:Int)= -b by omega,Int.mul_neg];simp [J,h2]
 ·rw[show(a.natAbs:Int)=a by omega,show(b.natAbs:Int)=b by omega];simp [J,h2]
def kV:ak4 aX->ak5->ak6 Int64
 |[],_=>none
 |b::r,s=>bif bL b.aF==bL s then some b.dS else kV r s
def pw(env:ak4 aX):ak4 dK->Int->ak6 Int
 |[],a=>some a
 |m::r,a=>match kV env m.aF with
  |none=>none
  |some v=>pw env r (a+m.eN.toInt*v.toInt)
def iY(l:bp)(env:ak4 aX):Int64×Int:=bif !iM l then(0,1)else match pw env l.xL l.xK.toInt with
 |none=>(0,9)
 |some s=>bif qo s then(Int64.ofInt s,0)else(0,3)
def wv(w:jx):Int:=w.jN+w.kL*18446744073709551616+w.mL*340282366920938463463374607431768211456
structure U3(w:jx):Prop where
 h0:0<=w.mL
 J:w.mL<18446744073709551616
 m0:0<=w.kL
 m1:w.kL<18446744073709551616
 l0:0<=w.jN
 l1:w.jN<18446744073709551616
abbrev jS:Int:=6277101735386680763835789423207666416102355444464034512896
theorem Mr{x:Int}(h0:0<=x)(J:x<18446744073709551616):IntKind.u64.wrap ((BitVec.ofInt (IntKind.bits .u64) (IntKind.max .u64)^^^BitVec.ofInt (IntKind.bits .u64) x).toNat:Int)=18446744073709551615-x:=by
 obtain⟨n,rfl⟩:=Int.eq_ofNat_of_zero_le h0;have e:(BitVec.ofInt (IntKind.bits .u64) (IntKind.max .u64)^^^BitVec.ofInt (IntKind.bits .u64) (n:Int))= ~~~(BitVec.ofNat 64 n):=by
  show(BitVec.ofInt 64 18446744073709551615^^^BitVec.ofInt 64 (n:Int))=_;rw[show BitVec.ofInt 64 18446744073709551615=BitVec.allOnes 64 by decide,BitVec.allOnes_xor,BitVec.ofInt_natCast]
 have e2:(BitVec.ofInt (IntKind.bits .u64) (IntKind.max .u64)^^^BitVec.ofInt (IntKind.bits .u64) (n:Int)).toNat=2^64-1-n%2^64:=by
  have h:=congrArg BitVec.toNat e;have h2:(~~~(BitVec.ofNat 64 n)).toNat=2^64-1-n%2^64:=by rw[BitVec.toNat_not,BitVec.toNat_ofNat]
  exact h.trans h2
 rw[e2,IntKind.wrap_u64];omega
theorem Fg(N:Nat)(w:jx)(U:U3 w){top hi lo:Int}(t0:0<=top)(t1:top<18446744073709551616)(a0:0<=hi)(a1:hi<18446744073709551616)(b0:0<=lo)(b1:lo<18446744073709551616):
 ∃r:jx,rk N w hi lo top=some (r.mL,r.kL,r.jN)/\U3 r/\∃k:Int,wv r=wv w+(lo+hi*18446744073709551616+top*340282366920938463463374607431768211456)+k*jS:=by
 obtain⟨h0,J,m0,m1,l0,l1⟩:=U;obtain⟨H,M,L⟩:=w;simp only at h0 J m0 m1 l0 l1;have e1:∃c:Int,(c=0\/c=1)/\rk N ⟨H,M,L⟩ hi lo top=vR N ⟨H,M,L⟩ hi top lo c/\IntKind.u64.wrap (L+lo)=L+lo-c*18446744073709551616:=by
  unfold rk;simp only;rw[IntKind.wrap_u64];by_cases hc:(L+lo)%18446744073709551616<lo
  ·rw[akX hc];exact⟨1, .inr rfl,rfl,by omega⟩
  ·rw[akY hc];exact⟨0, .inl rfl,rfl,by omega⟩
 obtain⟨c,hc,e1,f1⟩:=e1;have e2:∃d:Int,(d=0\/d=1)/\vR N ⟨H,M,L⟩ hi top lo c=uS N ⟨H,M,L⟩ hi c top lo d/\IntKind.u64.wrap (M+hi)=M+hi-d*18446744073709551616:=by
  unfold vR;simp only;rw[IntKind.wrap_u64];by_cases hd:(M+hi)%18446744073709551616<hi
  ·rw[akX hd];exact⟨1, .inr rfl,rfl,by omega⟩
  ·rw[akY hd];exact⟨0, .inl rfl,rfl,by omega⟩
 obtain⟨d,hd,e2,f2⟩:=e2;have hx:=tg (M+hi);rw[f2]at hx;have e3:∃e:Int,(e=0\/e=1)/\uS N ⟨H,M,L⟩ hi c top lo d=Ci N ⟨H,M,L⟩ top hi c lo (d+e)/\IntKind.u64.wrap (IntKind.u64.wrap (M+hi)+c)=M+hi+c-(d+e)*18446744073709551616/\d+e<=1:=by
  unfold uS;simp only;rw[f2,IntKind.wrap_u64 (M+hi-d*18446744073709551616+c),IntKind.wrap_u64 (d+1)];by_cases he:(M+hi-d*18446744073709551616+c)%18446744073709551616<M+hi-d*18446744073709551616
  ·rw[akX he];have:d=0:=by omega
   subst this;exact⟨1, .inr rfl,rfl,by omega,by omega⟩
  ·rw[akY he];exact⟨0, .inl rfl,by rw[Int.add_zero];rfl,by omega,by omega⟩
 obtain⟨e,he,e3,f3,f4⟩:=e3;refine⟨⟨IntKind.u64.wrap (H+IntKind.u64.wrap (top+(d+e))),IntKind.u64.wrap (IntKind.u64.wrap (M+hi)+c),IntKind.u64.wrap (L+lo)⟩,by rw[e1,e2,e3];rfl,?_,?_⟩
 ·refine⟨(tg _).1,(tg _).2,(tg _).1,(tg _).2,(tg _).1,(tg _).2⟩
 ·unfold wv;simp only;rw[f1,f3,IntKind.wrap_u64,IntKind.wrap_u64];refine⟨-((H+(top+(d+e))%18446744073709551616)/ 18446744073709551616+(top+(d+e))/ 18446744073709551616),?_⟩;unfold jS;generalize ux:(top+(d+e))/ 18446744073709551616=q1;generalize DM:(top+(d+e))%18446744073709551616=r1;have g1:top+(d+e)=18446744073709551616*q1+r1:=by omega
  generalize nT:(H+r1)/ 18446744073709551616=q2;generalize Bx:(H+r1)%18446744073709551616=r2;have g2:H+r1=18446744073709551616*q2+r2:=by omega
  omega
theorem QH(N:Nat)(w:jx)(U:U3 w){hi lo:Int}(a0:0<=hi)(a1:hi<18446744073709551616)(b0:0<=lo)(b1:lo<18446744073709551616)(neg:Bool):
 ∃r:jx,xP N hi lo neg w=some (r.mL,r.kL,r.jN)/\U3 r/\∃k:Int,wv r=wv w+(bif neg then-(lo+hi*18446744073709551616)else lo+hi*18446744073709551616)+k*jS:=by
 unfold xP;rw[Mr a0 a1,Mr b0 b1,Mr (Int.le_refl 0) (by decide)];cases neg with
 |false=>
  rw[cond_false,cond_false];obtain⟨r,J,h2,k,h3⟩:=Fg N w U (top:=0) (by decide) (by decide) a0 a1 b0 b1;exact⟨r,J,h2,k,by rw[h3];omega⟩
 |true=>
  rw[cond_true,cond_true];simp only[IntKind.wrap_u64];by_cases z1:lo=0
  ·subst z1;rw[show(((18446744073709551615-0+1:Int)%18446744073709551616)==0)=true by decide,cond_true];by_cases z2:hi=0
   ·subst z2;rw[show(((18446744073709551615-0+1:Int)%18446744073709551616)==0)=true by decide,cond_true];obtain⟨r,J,h2,k,h3⟩:=Fg N w U (top:=(18446744073709551615-0+1)%18446744073709551616) (hi:=(18446744073709551615-0+1)%18446744073709551616) (lo:=(18446744073709551615-0+1)%18446744073709551616) (by decide) (by decide) (by decide) (by decide) (by decide) (by decide);exact⟨r,J,h2,k,by rw[h3];rfl⟩
   ·rw[show(((18446744073709551615-hi+1:Int)%18446744073709551616)==0)=false by rw[beq_eq_false_iff_ne];omega,cond_false];obtain⟨r,J,h2,k,h3⟩:=Fg N w U (top:=18446744073709551615-0) (hi:=(18446744073709551615-hi+1)%18446744073709551616) (lo:=(18446744073709551615-0+1)%18446744073709551616) (by decide) (by decide) (by omega) (by omega) (by decide) (by decide);exact⟨r,J,h2,k+1,by rw[h3];unfold jS;omega⟩
  ·rw[show(((18446744073709551615-lo+1:Int)%18446744073709551616)==0)=false by rw[beq_eq_false_iff_ne];omega,cond_false];obtain⟨r,J,h2,k,h3⟩:=Fg N w U (top:=18446744073709551615-0) (hi:=18446744073709551615-hi) (lo:=(18446744073709551615-lo+1)%18446744073709551616) (by decide) (by decide) (by omega) (by omega) (by omega) (by omega);exact⟨r,J,h2,k+1,by rw[h3];unfold jS;omega⟩
theorem agw{a b:Int}(h:∃k:Int,a=b+k*18446744073709551616):Int64.ofInt a=Int64.ofInt b:=by
 obtain⟨k,rfl⟩:=h;apply Int64.toInt_inj.1;rw[Int64.toInt_ofInt,Int64.toInt_ofInt,Int.bmod_def,Int.bmod_def];have:(b+k*18446744073709551616)%18446744073709551616=b%18446744073709551616:=by omega
 simp only[show((2^64:Nat):Int)=18446744073709551616 by decide];rw[this]
theorem ajD(N:Nat)(w:jx)(U:U3 w){s:Int}(b1: -3138550867693340381917894711603833208051177722232017256448<=s)(b2:s<3138550867693340381917894711603833208051177722232017256448)(hs:∃k:Int,wv w=s+k*jS):
 FT N w=some (Int64.ofInt s,qo s):=by
 obtain⟨h0,J,m0,m1,l0,l1⟩:=U;obtain⟨H,M,L⟩:=w;obtain⟨k,hs⟩:=hs;unfold wv jS at hs;simp only at h0 J m0 m1 l0 l1 hs;unfold FT;simp only;have en:(Int64.ofInt L).toInt=if L<9223372036854775808 then L else L-18446744073709551616:=by
  rw[Int64.toInt_ofInt,Int.bmod_def];simp only[show((2^64:Nat):Int)=18446744073709551616 by decide];split<;>split<;>omega
 have ef:((Int64.ofInt L).toInt.fdiv (2^(min ((63:Int)).toNat (IntKind.bits .i64))))=if L<9223372036854775808 then 0 else-1:=by
  rw[show((2:Int)^(min ((63:Int)).toNat (IntKind.bits .i64)))=9223372036854775808 by decide,Int.fdiv_eq_ediv_of_nonneg _ (by decide),en];split<;>omega
 rw[ef];have eg:∀z:Int,(z=0\/z= -1)->IntKind.u64.wrap (Int64.ofInt z).toInt=if z=0 then 0 else 18446744073709551615:=λz hz=>by
   rcases hz with rfl|rfl<;>decide
 rw[eg _ (by split<;>simp)];have e1:Int64.ofInt L=Int64.ofInt s:=agw ⟨k*340282366920938463463374607431768211456-M-H*18446744073709551616,by omega⟩;rw[e1];have e2:(bif (M==(if(if L<9223372036854775808 then(0:Int)else-1)=0 then(0:Int)else 18446744073709551615))then some (H==(if(if L<9223372036854775808 then(0:Int)else-1)=0 then(0:Int)else 18446744073709551615))else some false)=some (qo s):=by
   by_cases hL:L<9223372036854775808
   ·simp only[hL,if_true];by_cases hM:M=0
    ·rw[show(M==0)=true by rw[beq_iff_eq];exact hM,cond_true];by_cases hH:H=0
     ·rw[show(H==0)=true by rw[beq_iff_eq];exact hH];rw[(nw (n:=s)).2 (by subst hM;subst hH;omega)]
     ·rw[show(H==0)=false by rw[beq_eq_false_iff_ne];exact hH]
      congr 1;symm
      rw[<-Bool.not_eq_true,nw];omega
    ·rw[show(M==0)=false by rw[beq_eq_false_iff_ne];exact hM,cond_false]
     congr 1;symm
     rw[<-Bool.not_eq_true,nw];omega
   ·simp only[hL,if_false];rw[if_neg (by decide)];by_cases hM:M=18446744073709551615
    ·rw[show(M==18446744073709551615)=true by rw[beq_iff_eq];exact hM,cond_true];by_cases hH:H=18446744073709551615
     ·rw[show(H==18446744073709551615)=true by rw[beq_iff_eq];exact hH];rw[(nw (n:=s)).2 (by subst hM;subst hH;omega)]
     ·rw[show(H==18446744073709551615)=false by rw[beq_eq_false_iff_ne];exact hH]
      congr 1;symm
      rw[<-Bool.not_eq_true,nw];omega
    ·rw[show(M==18446744073709551615)=false by rw[beq_eq_false_iff_ne];exact hM,cond_false]
     congr 1;symm
     rw[<-Bool.not_eq_true,nw];omega
 rw[e2,akf]
theorem Pw(N:Nat)(m:dK):∀(env:ak4 aX)(k:Nat),(kV env m.aF=none->yX N m env k=some (-1))/\(∀v,kV env m.aF=some v->∃i b,yX N m env k=some ((k+i:Nat):Int)/\env[i]?=some b/\b.dS=v)
 |[],k=>⟨λ_=>rfl,λv h=>by cases h⟩
 |b::r,k=>by
  obtain⟨J,h2⟩:=Pw N m r (k+1);unfold kV yX Ow;simp only[akf];cases hb:(bL b.aF==bL m.aF)with
  |true=>exact⟨λh=>(by cases h),λv h=>by cases h;exact⟨0,b,rfl,rfl,rfl⟩⟩
  |false=>
   simp only[cond_false];refine⟨J,λv h=> ?_⟩;obtain⟨i,c,q1,q2,q3⟩:=h2 v h;exact⟨i+1,c,by rw[q1];congr 2;omega,q2,q3⟩
def xb:ak6 Int->Int64×Int
 |none=>(0,9)
 |some s=>bif qo s then(Int64.ofInt s,0)else(0,3)
theorem S5(l:bp)(env:ak4 aX):iY l env=bif !iM l then(0,1)else xb (pw env l.xL l.xK.toInt):=by
 unfold iY xb;cases pw env l.xL l.xK.toInt<;>rfl
theorem T4(a b:Int64):(a.toInt*b.toInt).natAbs<=85070591730234615865843651857942052864:=by
 have J:=pD a;have h2:=pD b;rw[Int.natAbs_mul];exact Nat.mul_le_mul (show a.toInt.natAbs<=9223372036854775808 by omega) (show b.toInt.natAbs<=9223372036854775808 by omega)
theorem Tl(N:Nat)(env:ak4 aX):∀(l:ak4 dK)(k:Nat)(w:jx)(s:Int),U3 w->(∃k:Int,wv w=s+k*jS)->s.natAbs+l.length*85070591730234615865843651857942052864<=1569275433846670190958947355801916604025588861116008628224->
 B5 N env l k w.mL w.kL w.jN=some (xb (pw env l s))
 |[],k,w,s,U,hk,hb=>by
  unfold B5 pw xb;rw[show(⟨w.mL,w.kL,w.jN⟩:jx)=w from rfl];simp only[aks,Nat.zero_mul,Nat.add_zero]at hb;rw[ajD N w U (by omega) (by omega) hk,akf];simp only;cases qo s<;>rfl
 |m::r,k,w,s,U,hk,hb=>by
  unfold B5 pw;simp only;rw[show NR N env m=yX N m env 0 from rfl];obtain⟨J,h2⟩:=Pw N m env 0;cases hf:kV env m.aF with
  |none=>rw[J hf];rfl
  |some v=>
   obtain⟨i,b,q1,q2,q3⟩:=h2 v hf;rw[q1,akf,akA,akY (by omega),cond_false,akX (by omega),cond_true,akH,q2,akf,Lq,akf,Lq,akf];have ha:=pD m.eN;have hv:=pD b.dS;rw[aiP N _ _ (by omega) (by omega),akf];subst q3;have hu:=T4 m.eN b.dS;have hm:=P6 m.eN.toInt b.dS.toInt;have h0:0<=(m.eN.toInt.natAbs:Int)*b.dS.toInt.natAbs:=Int.mul_nonneg (by omega) (by omega);have hp:(m.eN.toInt.natAbs:Int)*b.dS.toInt.natAbs<=85070591730234615865843651857942052864:=by
    rw[<-Int.natCast_mul,<-Int.natAbs_mul];omega
   generalize (m.eN.toInt.natAbs:Int)*b.dS.toInt.natAbs=p at*;obtain⟨w',e1,U',k',e2⟩:=QH N w U (hi:=p / 18446744073709551616) (lo:=p%18446744073709551616) (by omega) (by omega) (by omega) (by omega) (!((decide (m.eN.toInt<0))==(decide (b.dS.toInt<0))));rw[show(⟨w.mL,w.kL,w.jN⟩:jx)=w from rfl,e1,akf];simp only;have hpp:p%18446744073709551616+p / 18446744073709551616*18446744073709551616=p:=by omega
   rw[hpp]at e2;have e3:(bif (!((decide (m.eN.toInt<0))==(decide (b.dS.toInt<0))))then-p else p)=m.eN.toInt*b.dS.toInt:=by
     rw[hm];cases (decide (m.eN.toInt<0)==decide (b.dS.toInt<0))with
     |true=>simp
     |false=>simp
   rw[e3]at e2;obtain⟨k0,hk⟩:=hk;refine Tl N env r (k+1) w' (s+m.eN.toInt*b.dS.toInt) U' ⟨k0+k',by rw[e2,hk];unfold jS;omega⟩ ?_;rw[akj]at hb;have:(s+m.eN.toInt*b.dS.toInt).natAbs<=s.natAbs+(m.eN.toInt*b.dS.toInt).natAbs:=Int.natAbs_add_le _ _;omega
theorem RA(N:Nat)(hN:2147483648<N)(l:bp)(env:ak4 aX)(hl:l.xL.length<=4611686018427387904):tb N l env=some (iY l env):=by
 unfold tb;rw[S5,Ja N (by omega) l (aky hl (by decide)),akf];cases hb:iM l with
 |false=>rfl
 |true=>
  simp only[Bool.not_true,cond_false];rw[cond_true,show((0:Int) !=0)=false from rfl,cond_false,Lq,akf];have hK:=pD l.xK;obtain⟨w',e1,U',k',e2⟩:=QH N R4 ⟨by decide,by decide,by decide,by decide,by decide,by decide⟩ (hi:=0) (lo:=(l.xK.toInt.natAbs:Int)) (by decide) (by decide) (by omega) (by omega) (decide (l.xK.toInt<0));rw[e1,akf];refine Tl N env l.xL 0 w' l.xK.toInt U' ⟨k',?_⟩ (by omega);rw[e2];by_cases h:l.xK.toInt<0
  ·rw[akX h,cond_true];show(0:Int)+0*_+0*_+_+_=_;omega
  ·rw[akY h,cond_false];show(0:Int)+0*_+0*_+_+_=_;omega
def dv(w:cm):Int:=w.cu+w.cC*4294967296+w.cX*18446744073709551616+w.cS*79228162514264337593543950336+w.cJ*340282366920938463463374607431768211456+w.cF*1461501637330902918203684832716283019655932542976
structure D6(w:cm):Prop where
 a0:0<=w.cu
 b0:w.cu<4294967296
 a1:0<=w.cC
 b1:w.cC<4294967296
 a2:0<=w.cX
 b2:w.cX<4294967296
 a3:0<=w.cS
 b3:w.cS<4294967296
 a4:0<=w.cJ
 b4:w.cJ<4294967296
 a5:0<=w.cF
 b5:w.cF<4294967296
theorem lD{d n c:Int}(hd0:0<=d)(hd:d<4294967296)(mh:0<=n)(hn:n<18446744073709551616)(uA:0<=c)(hc:c<=1):∃s c' n' e:Int,IntKind.u64.wrap (IntKind.u64.wrap (d+n.tmod 4294967296)+c)=s/\IntKind.u64.wrap (s.tdiv 4294967296)=c'/\IntKind.u64.wrap (n.tdiv 4294967296)=n'/\s.tmod 4294967296=e/\
 0<=c'/\c'<=1/\0<=e/\e<4294967296/\0<=n'/\n'*4294967296<=n/\e+4294967296*(c'+n')=d+n+c:=by
 have t1:n.tmod 4294967296=n%4294967296:=Int.tmod_eq_emod_of_nonneg mh;have t2:n.tdiv 4294967296=n / 4294967296:=Int.tdiv_eq_ediv_of_nonneg mh;have hs:IntKind.u64.wrap (IntKind.u64.wrap (d+n.tmod 4294967296)+c)=d+n%4294967296+c:=by
  rw[t1,IntKind.wrap_u64,IntKind.wrap_u64];omega
 have nr:0<=d+n%4294967296+c:=by omega
 refine⟨d+n%4294967296+c,(d+n%4294967296+c)/ 4294967296,n / 4294967296,(d+n%4294967296+c)%4294967296,hs,?_,?_,Int.tmod_eq_emod_of_nonneg nr,?_⟩
 ·rw[Int.tdiv_eq_ediv_of_nonneg nr,IntKind.wrap_u64];omega
 ·rw[t2,IntKind.wrap_u64];omega
 ·refine⟨?_,?_,?_,?_,?_,?_,?_⟩<;>omega
theorem YJ(N:Nat)(w:cm)(W:D6 w){n:Int}(mh:0<=n)(hn:n<18446744073709551616)(hb:dv w+n<jS):∃r,AK N w n=some r/\D6 r/\dv r=dv w+n:=by
 obtain⟨s0,c0,n0,e0,p1,p2,p3,p4,p5,p6,p7,p8,p9,p10,p11⟩:=lD W.a0 W.b0 mh hn (c:=0) (by decide) (by decide);obtain⟨s1,c1,n1,e1,q1,q2,q3,q4,q5,q6,q7,q8,q9,q10,q11⟩:=lD W.a1 W.b1 p9 (by omega) p5 p6;obtain⟨s2,c2,n2,e2,r1,r2,r3,r4,r5,r6,r7,r8,r9,Wb,Te⟩:=lD W.a2 W.b2 q9 (by omega) q5 q6;obtain⟨s3,c3,n3,e3,t1,t2,t3,t4,t5,t6,t7,t8,t9,t10,t11⟩:=lD W.a3 W.b3 r9 (by omega) r5 r6;obtain⟨s4,c4,n4,e4,u1,u2,u3,u4,u5,u6,u7,u8,u9,Rj,Xf⟩:=lD W.a4 W.b4 t9 (by omega) t5 t6;obtain⟨s5,c5,n5,e5,v1,v2,v3,v4,v5,v6,v7,v8,v9,v10,v11⟩:=lD W.a5 W.b5 u9 (by omega) u5 u6;refine⟨⟨e0,e1,e2,e3,e4,e5⟩,?_,⟨p7,p8,q7,q8,r7,r8,t7,t8,u7,u8,v7,v8⟩,?_⟩
 ·unfold AK;simp only[akf];simp only[p1,p2,p3,p4,q1,q2,q3,q4,r1,r2,r3,r4,t1,t2,t3,t4,u1,u2,u3,u4,v1,v2,v3,v4]
 ·unfold dv at hb ⊢;unfold jS at hb;simp only;have:c5+n5=0:=by omega
  omega
theorem Wh(N:Nat)(w:cm)(W:D6 w){n:Int}(mh:0<=n)(hn:n<18446744073709551616)(hb:dv w+n*4294967296<jS):∃r,yO N w n=some r/\D6 r/\dv r=dv w+n*4294967296:=by
 obtain⟨s1,c1,n1,e1,q1,q2,q3,q4,q5,q6,q7,q8,q9,q10,q11⟩:=lD W.a1 W.b1 mh hn (c:=0) (by decide) (by decide);obtain⟨s2,c2,n2,e2,r1,r2,r3,r4,r5,r6,r7,r8,r9,Wb,Te⟩:=lD W.a2 W.b2 q9 (by omega) q5 q6;obtain⟨s3,c3,n3,e3,t1,t2,t3,t4,t5,t6,t7,t8,t9,t10,t11⟩:=lD W.a3 W.b3 r9 (by omega) r5 r6;obtain⟨s4,c4,n4,e4,u1,u2,u3,u4,u5,u6,u7,u8,u9,Rj,Xf⟩:=lD W.a4 W.b4 t9 (by omega) t5 t6;obtain⟨s5,c5,n5,e5,v1,v2,v3,v4,v5,v6,v7,v8,v9,v10,v11⟩:=lD W.a5 W.b5 u9 (by omega) u5 u6;refine⟨⟨w.cu,e1,e2,e3,e4,e5⟩,?_,⟨W.a0,W.b0,q7,q8,r7,r8,t7,t8,u7,u8,v7,v8⟩,?_⟩
 ·unfold yO;simp only[akf];simp only[q1,q2,q3,q4,r1,r2,r3,r4,t1,t2,t3,t4,u1,u2,u3,u4,v1,v2,v3,v4]
 ·have:=W.a0;unfold dv at hb ⊢;unfold jS at hb;simp only;have:c5+n5=0:=by omega
  omega
theorem ahJ(N:Nat)(w:cm)(W:D6 w){n:Int}(mh:0<=n)(hn:n<18446744073709551616)(hb:dv w+n*18446744073709551616<jS):∃r,Ag N w n=some r/\D6 r/\dv r=dv w+n*18446744073709551616:=by
 obtain⟨s2,c2,n2,e2,r1,r2,r3,r4,r5,r6,r7,r8,r9,Wb,Te⟩:=lD W.a2 W.b2 mh hn (c:=0) (by decide) (by decide);obtain⟨s3,c3,n3,e3,t1,t2,t3,t4,t5,t6,t7,t8,t9,t10,t11⟩:=lD W.a3 W.b3 r9 (by omega) r5 r6;obtain⟨s4,c4,n4,e4,u1,u2,u3,u4,u5,u6,u7,u8,u9,Rj,Xf⟩:=lD W.a4 W.b4 t9 (by omega) t5 t6;obtain⟨s5,c5,n5,e5,v1,v2,v3,v4,v5,v6,v7,v8,v9,v10,v11⟩:=lD W.a5 W.b5 u9 (by omega) u5 u6;refine⟨⟨w.cu,w.cC,e2,e3,e4,e5⟩,?_,⟨W.a0,W.b0,W.a1,W.b1,r7,r8,t7,t8,u7,u8,v7,v8⟩,?_⟩
 ·unfold Ag;simp only[akf];simp only[r1,r2,r3,r4,t1,t2,t3,t4,u1,u2,u3,u4,v1,v2,v3,v4]
 ·have:=W.a0;have:=W.a1;unfold dv at hb ⊢;unfold jS at hb;simp only;have:c5+n5=0:=by omega
  omega
theorem Kg(N:Nat)(w:cm)(W:D6 w){a b:Int}(R6:0<=a)(ha:a<18446744073709551616)(nd:0<=b)(hb:b<18446744073709551616)(hB:dv w+a*b<jS):∃r,wq N w a b=some r/\D6 r/\dv r=dv w+a*b:=by
 have Uk:a.tmod 4294967296=a%4294967296:=Int.tmod_eq_emod_of_nonneg R6;have WJ:IntKind.u64.wrap (a.tdiv 4294967296)=a / 4294967296:=by rw[Int.tdiv_eq_ediv_of_nonneg R6,IntKind.wrap_u64];omega
 have Qs:b.tmod 4294967296=b%4294967296:=Int.tmod_eq_emod_of_nonneg nd;have UI:IntKind.u64.wrap (b.tdiv 4294967296)=b / 4294967296:=by rw[Int.tdiv_eq_ediv_of_nonneg nd,IntKind.wrap_u64];omega
 have e:a*b=(a%4294967296)*(b%4294967296)+(a%4294967296)*(b / 4294967296)*4294967296+(a / 4294967296)*(b%4294967296)*4294967296+(a / 4294967296)*(b / 4294967296)*18446744073709551616:=by
  have J:a=a%4294967296+4294967296*(a / 4294967296):=by omega
  have h2:b=b%4294967296+4294967296*(b / 4294967296):=by omega
  generalize a%4294967296=x at*;generalize a / 4294967296=y at*;generalize b%4294967296=z at*;generalize b / 4294967296=u at*;subst J;subst h2;rw[Int.add_mul,Int.mul_add,Int.mul_add,show x*(4294967296*u)=x*u*4294967296 by rw[Int.mul_left_comm,Int.mul_comm],show 4294967296*y*z=y*z*4294967296 by rw[Int.mul_assoc,Int.mul_comm],show 4294967296*y*(4294967296*u)=y*u*18446744073709551616 by rw[Int.mul_assoc,Int.mul_left_comm y 4294967296 u];omega];omega
 unfold wq;rw[Uk,WJ,Qs,UI];have bd:∀x y:Int,0<=x->x<4294967296->0<=y->y<4294967296->0<=x*y/\x*y<18446744073709551616:=λx y J h2 h3 h4=>by
  refine⟨Int.mul_nonneg J h3,?_⟩;have:x*y<=4294967295*4294967295:=Int.mul_le_mul (by omega) (by omega) h3 (by decide);omega
 obtain⟨f1,f2⟩:=bd (a%4294967296) (b%4294967296) (by omega) (by omega) (by omega) (by omega);obtain⟨f3,f4⟩:=bd (a%4294967296) (b / 4294967296) (by omega) (by omega) (by omega) (by omega);obtain⟨f5,f6⟩:=bd (a / 4294967296) (b%4294967296) (by omega) (by omega) (by omega) (by omega);obtain⟨f7,f8⟩:=bd (a / 4294967296) (b / 4294967296) (by omega) (by omega) (by omega) (by omega);have wr:∀z:Int,0<=z->z<18446744073709551616->IntKind.u64.wrap z=z:=λz J h2=>by rw[IntKind.wrap_u64];omega
 rw[wr _ f1 f2,wr _ f3 f4,wr _ f5 f6,wr _ f7 f8];generalize (a%4294967296)*(b%4294967296)=P at*;generalize (a%4294967296)*(b / 4294967296)=Q at*;generalize (a / 4294967296)*(b%4294967296)=R at*;generalize (a / 4294967296)*(b / 4294967296)=T at*;rw[e]at hB ⊢;clear e Uk WJ Qs UI;obtain⟨w1,x1,W1,y1⟩:=YJ N w W f1 f2 (by omega);rw[x1,akf];obtain⟨w2,x2,W2,y2⟩:=Wh N w1 W1 f3 f4 (by omega);rw[x2,akf];obtain⟨w3,x3,W3,y3⟩:=Wh N w2 W2 f5 f6 (by omega);rw[x3,akf];obtain⟨w4,x4,W4,y4⟩:=ahJ N w3 W3 f7 f8 (by omega);rw[x4,akf];exact⟨w4,rfl,W4,by omega⟩
theorem adn(N:Nat)(a b:cm)(A:D6 a)(B:D6 b):BC N a b=some (decide (dv a<dv b)):=by
 obtain⟨a0,a1,a2,a3,a4,a5,a6,a7,a8,a9,aa,ab⟩:=A;obtain⟨b0,b1,b2,b3,b4,b5,b6,b7,b8,b9,ba,bb⟩:=B;unfold BC dv;have bt:∀{x y:Int}{p q:ak6 Bool},x≠y->(bif (x !=y)then p else q)=p:=λh=>by rw[bne_iff_ne.2 h,cond_true]
 have bf:∀{x y:Int}{p q:ak6 Bool},x=y->(bif (x !=y)then p else q)=q:=λh=>by subst h;simp
 by_cases h5:a.cF=b.cF
 ·rw[bf h5];by_cases h4:a.cJ=b.cJ
  ·rw[bf h4];by_cases h3:a.cS=b.cS
   ·rw[bf h3];by_cases h2:a.cX=b.cX
    ·rw[bf h2];by_cases J:a.cC=b.cC
     ·rw[bf J];by_cases h0:a.cu=b.cu
      ·rw[bf h0];congr 1;symm;exact akY (by omega)
      ·rw[bt h0];congr 1;exact decide_eq_decide.2 (by omega)
     ·rw[bt J];congr 1;exact decide_eq_decide.2 (by omega)
    ·rw[bt h2];congr 1;exact decide_eq_decide.2 (by omega)
   ·rw[bt h3];congr 1;exact decide_eq_decide.2 (by omega)
  ·rw[bt h4];congr 1;exact decide_eq_decide.2 (by omega)
 ·rw[bt h5];congr 1;exact decide_eq_decide.2 (by omega)
theorem zA{x y c:Int}(hx0:0<=x)(hx:x<4294967296)(Pu:0<=y)(hy:y<4294967296)(uA:0<=c)(hc:c<=1):∃c' t e:Int,(c'=0\/c'=1)/\(decide (x<IntKind.u64.wrap (y+c))=true->c'=1/\t=IntKind.u64.wrap (x+4294967296))/\(decide (x<IntKind.u64.wrap (y+c))=false->c'=0/\t=x)/\
 IntKind.u64.wrap (t-IntKind.u64.wrap (y+c))=e/\0<=e/\e<4294967296/\e=x-y-c+4294967296*c':=by
 have J:IntKind.u64.wrap (y+c)=y+c:=by rw[IntKind.wrap_u64];omega
 have h2:IntKind.u64.wrap (x+4294967296)=x+4294967296:=by rw[IntKind.wrap_u64];omega
 rw[J,h2];by_cases h:x<y+c
 ·refine⟨1,x+4294967296,x+4294967296-(y+c), .inr rfl,λ_=>⟨rfl,rfl⟩,λhf=> ?_,?_,by omega,by omega,by omega⟩
  ·rw[akX h]at hf;cases hf
  ·rw[IntKind.wrap_u64];omega
 ·refine⟨0,x,x-(y+c), .inl rfl,λhf=> ?_,λ_=>⟨rfl,rfl⟩,?_,by omega,by omega,by omega⟩
  ·rw[akY h]at hf;cases hf
  ·rw[IntKind.wrap_u64];omega
theorem xG{α:Type}{b:Bool}{c' t:Int}{p:Int}{x:Int}{F:Int->Int->α}(J:b=true->c'=1/\t=p)(h2:b=false->c'=0/\t=x):(bif b then F 1 p else F 0 x)=F c' t:=by
 cases b with
 |true=>obtain⟨rfl,rfl⟩:=J rfl;rfl
 |false=>obtain⟨rfl,rfl⟩:=h2 rfl;rfl
theorem Un(N:Nat)(a b:cm)(A:D6 a)(B:D6 b)(h:dv b<=dv a):∃r,zD N a b=some r/\D6 r/\dv r=dv a-dv b:=by
 obtain⟨c0,t0,e0,p1,p2,p3,p4,p5,p6,p7⟩:=zA A.a0 A.b0 B.a0 B.b0 (c:=0) (by decide) (by decide);obtain⟨c1,t1,e1,q1,q2,q3,q4,q5,q6,q7⟩:=zA A.a1 A.b1 B.a1 B.b1 (c:=c0) (by omega) (by omega);obtain⟨c2,t2,e2,r1,r2,r3,r4,r5,r6,r7⟩:=zA A.a2 A.b2 B.a2 B.b2 (c:=c1) (by omega) (by omega);obtain⟨c3,t3,e3,s1,s2,s3,s4,s5,s6,s7⟩:=zA A.a3 A.b3 B.a3 B.b3 (c:=c2) (by omega) (by omega);obtain⟨c4,t4,e4,u1,u2,u3,u4,u5,u6,u7⟩:=zA A.a4 A.b4 B.a4 B.b4 (c:=c3) (by omega) (by omega);obtain⟨c5,t5,e5,v1,v2,v3,v4,v5,v6,v7⟩:=zA A.a5 A.b5 B.a5 B.b5 (c:=c4) (by omega) (by omega);refine⟨⟨e0,e1,e2,e3,e4,e5⟩,?_,⟨p5,p6,q5,q6,r5,r6,s5,s6,u5,u6,v5,v6⟩,?_⟩
 ·unfold zD;rw[xG (F:=λx y=>xA N a b x y) p2 p3];unfold xA;rw[xG (F:=λx y=>yW N a b t0 c0 x y) q2 q3];unfold yW;rw[xG (F:=λx y=>yT N a b t0 t1 c0 c1 x y) r2 r3];unfold yT;rw[xG (F:=λx y=>xU N a b t0 t1 c0 t2 c1 c2 x y) s2 s3];unfold xU;rw[xG (F:=λx y=>zt N a b t0 t1 c0 t2 c1 t3 c2 c3 x y) u2 u3];unfold zt;rw[xG (F:=λx y=>zu N t0 b t1 c0 t2 c1 t3 c2 t4 c3 c4 x y) v2 v3];unfold zu;rw[p4,q4,r4,s4,u4,v4]
 ·unfold dv at h ⊢;simp only;obtain⟨z0,z1,z2,z3,z4,z5,z6,z7,z8,z9,za,zb⟩:=A;obtain⟨y0,y1,y2,y3,y4,y5,y6,y7,y8,y9,ya,yb⟩:=B;have:c5=0:=by omega
  omega
theorem TV(N:Nat)(s:ak5):∀(env:ak4 aX)(k:Nat),Cn N s env k=some (match kV env s with|none=>(0,false)|some v=>(v,true))
 |[],k=>rfl
 |b::r,k=>by
  unfold Cn kV;cases hb:(bL b.aF==bL s)with
  |true=>rfl
  |false=>exact TV N s r (k+1)
theorem zx(N:Nat)(v:Int64):rP N v=some ((v.toInt.natAbs:Nat):Int):=by
 have J:=pD v;unfold rP;by_cases h:v.toInt<0
 ·rw[akX h,cond_true];have e:(-(v+(1:Int64))).toInt= -(v.toInt+1):=by
    rw[Int64.toInt_neg,Int64.toInt_add,show(1:Int64).toInt=1 from rfl];rw[Int.bmod_eq_of_le (n:=v.toInt+1) (m:=2^64) (by omega) (by omega),Int.bmod_eq_of_le (n:= -(v.toInt+1)) (m:=2^64) (by omega) (by omega)]
  rw[e,IntKind.wrap_u64,IntKind.wrap_u64];exact congrArg some (by omega)
 ·rw[akY h,cond_false,IntKind.wrap_u64];exact congrArg some (by omega)
theorem Xb(w:cm)(W:D6 w)(lim:Int)(J:0<=lim)(h2:lim<=9223372036854775808):(bif (w.cX !=0)then some true else(bif (w.cS !=0)then some true else(bif (w.cJ !=0)then some true else(bif (w.cF !=0)then some true else some (decide ((IntKind.u64.wrap (w.cu+(IntKind.u64.wrap (w.cC*(4294967296:Int)))))>lim))))))=some (decide (dv w>lim)):=by
 obtain⟨a0,a1,a2,a3,a4,a5,a6,a7,a8,a9,aa,ab⟩:=W;have bt:∀{x:Int}{q:ak6 Bool},x≠0->(bif (x !=0)then some true else q)=some true:=λh=>by rw[bne_iff_ne.2 h,cond_true]
 have bf:∀{x:Int}{q:ak6 Bool},x=0->(bif (x !=0)then some true else q)=q:=λh=>by subst h;rfl
 unfold dv;by_cases k2:w.cX=0
 ·rw[bf k2];by_cases k3:w.cS=0
  ·rw[bf k3];by_cases k4:w.cJ=0
   ·rw[bf k4];by_cases k5:w.cF=0
    ·rw[bf k5,IntKind.wrap_u64,IntKind.wrap_u64]
     congr 1
     exact decide_eq_decide.2 (by omega)
    ·rw[bt k5];congr 1;symm;exact akX (by omega)
   ·rw[bt k4];congr 1;symm;exact akX (by omega)
  ·rw[bt k3];congr 1;symm;exact akX (by omega)
 ·rw[bt k2];congr 1;symm;exact akX (by omega)
theorem Xo(w:cm)(W:D6 w)(h:dv w<=9223372036854775808):IntKind.u64.wrap (w.cu+(IntKind.u64.wrap (w.cC*(4294967296:Int))))=dv w:=by
 obtain⟨a0,a1,a2,a3,a4,a5,a6,a7,a8,a9,aa,ab⟩:=W;unfold dv at h ⊢;rw[IntKind.wrap_u64,IntKind.wrap_u64];omega
theorem ahg{n:Int}(h0:1<=n)(J:n<=9223372036854775808):((-(Int64.ofInt (IntKind.u64.wrap (n-(1:Int)))))-(1:Int64))=Int64.ofInt (-n):=by
 rw[show IntKind.u64.wrap (n-1)=n-1 by rw[IntKind.wrap_u64];omega];apply Int64.toInt_inj.1;rw[Int64.toInt_sub,Int64.toInt_neg,show(1:Int64).toInt=1 from rfl,Int64.toInt_ofInt_of_le (by omega) (by omega),Int64.toInt_ofInt_of_le (by omega) (by omega)];rw[Int.bmod_eq_of_le (n:= -(n-1)) (m:=2^64) (by omega) (by omega),Int.bmod_eq_of_le (n:= -(n-1)-1) (m:=2^64) (by omega) (by omega)];omega
theorem G9(N:Nat)(env:ak4 aX):∀(l:ak4 dK)(k:Nat)(p q:cm)(s:Int),D6 p->D6 q->dv p-dv q=s->dv p+dv q+(l.length:Int)*85070591730234615865843651857942052864<=1569275433846670190958947355801916604025588861116008628224->
 rL N env l k p.cu p.cC p.cX p.cS p.cJ p.cF q.cu q.cC q.cX q.cS q.cJ q.cF=some (xb (pw env l s))
 |[],k,p,q,s,P,Q,hs,hb=>by
  unfold rL pw xb;rw[show(⟨p.cu,p.cC,p.cX,p.cS,p.cJ,p.cF⟩:cm)=p from rfl,show(⟨q.cu,q.cC,q.cX,q.cS,q.cJ,q.cF⟩:cm)=q from rfl,adn N p q P Q,akf];by_cases h:dv p<dv q
  ·rw[akX h,cond_true];obtain⟨r,e1,R,e2⟩:=Un N q p Q P (by omega);rw[e1,akf,Xb r R _ (by decide) (by decide),akf];by_cases hg:dv r>9223372036854775808
   ·rw[akX hg,cond_true];simp only;rw[show qo s=false by rw[<-Bool.not_eq_true,nw];omega,cond_false]
   ·rw[akY hg,cond_false,Xo r R (by omega),ahg (by omega) (by omega)];simp only;rw[(nw (n:=s)).2 (by omega),cond_true,show-dv r=s by omega]
  ·rw[akY h,cond_false];obtain⟨r,e1,R,e2⟩:=Un N p q P Q (by omega);rw[e1,akf,Xb r R _ (by decide) (by decide),akf];by_cases hg:dv r>9223372036854775807
   ·rw[akX hg,cond_true];simp only;rw[show qo s=false by rw[<-Bool.not_eq_true,nw];omega,cond_false]
   ·rw[akY hg,cond_false,Xo r R (by omega)];simp only;have:0<=dv r:=by omega
    rw[(nw (n:=s)).2 (by omega),cond_true,show dv r=s by omega]
 |m::r,k,p,q,s,P,Q,hs,hb=>by
  unfold rL pw;simp only;rw[show MM N env m.aF=Cn N m.aF env 0 from rfl,TV,akf];cases hf:kV env m.aF with
  |none=>rfl
  |some v=>
   simp only[cond_true];have ha:=pD m.eN;have hv:=pD v;have hm:=P6 v.toInt m.eN.toInt;have hu:=T4 v m.eN;have h0:0<=(v.toInt.natAbs:Int)*m.eN.toInt.natAbs:=Int.mul_nonneg (by omega) (by omega);have hp:(v.toInt.natAbs:Int)*m.eN.toInt.natAbs<=85070591730234615865843651857942052864:=by
    rw[<-Int.natCast_mul,<-Int.natAbs_mul];omega
   have hc:v.toInt*m.eN.toInt=m.eN.toInt*v.toInt:=Int.mul_comm _ _;rw[akj]at hb;have hP:0<=dv p:=by obtain⟨a0,a1,a2,a3,a4,a5,a6,a7,a8,a9,aa,ab⟩:=P;unfold dv;omega
   have hQ:0<=dv q:=by obtain⟨a0,a1,a2,a3,a4,a5,a6,a7,a8,a9,aa,ab⟩:=Q;unfold dv;omega
   rw[show(⟨p.cu,p.cC,p.cX,p.cS,p.cJ,p.cF⟩:cm)=p from rfl,show(⟨q.cu,q.cC,q.cX,q.cS,q.cJ,q.cF⟩:cm)=q from rfl];cases zC:(decide (v.toInt<0)==decide (m.eN.toInt<0))with
   |true=>
    rw[cond_true,zx,akf,zx,akf];rw[zC,if_pos rfl]at hm;obtain⟨w,e1,W,e2⟩:=Kg N p P (a:=(v.toInt.natAbs:Int)) (b:=(m.eN.toInt.natAbs:Int)) (by omega) (by omega) (by omega) (by omega) (by
      unfold jS;generalize (v.toInt.natAbs:Int)*m.eN.toInt.natAbs=z at*;have:0<=(r.length:Int)*85070591730234615865843651857942052864:=by omega
      omega)
    rw[e1,akf];refine G9 N env r (k+1) w q (s+m.eN.toInt*v.toInt) W Q ?_ ?_
    ·rw[e2,hm,hc];omega
    ·rw[e2];generalize (v.toInt.natAbs:Int)*m.eN.toInt.natAbs=z at*;omega
   |false=>
    rw[cond_false,zx,akf,zx,akf];rw[zC,if_neg (by decide)]at hm;obtain⟨w,e1,W,e2⟩:=Kg N q Q (a:=(v.toInt.natAbs:Int)) (b:=(m.eN.toInt.natAbs:Int)) (by omega) (by omega) (by omega) (by omega) (by
      unfold jS;generalize (v.toInt.natAbs:Int)*m.eN.toInt.natAbs=z at*;have:0<=(r.length:Int)*85070591730234615865843651857942052864:=by omega
      omega)
    rw[e1,akf];refine G9 N env r (k+1) p w (s+m.eN.toInt*v.toInt) P W ?_ ?_
    ·rw[e2,hm,hc];omega
    ·rw[e2];generalize (v.toInt.natAbs:Int)*m.eN.toInt.natAbs=z at*;omega
theorem Si(N:Nat)(hN:2147483648<N)(l:bp)(env:ak4 aX)(hl:l.xL.length<=4611686018427387904):wI N l env=some (iY l env):=by
 unfold wI;rw[S5,show Ik N l=some (bif iM l then 0 else 1) by unfold Ik;rw[DR N (by omega) l (aky hl (by decide)),akf];cases iM l<;>rfl,akf];cases hb:iM l with
 |false=>rfl
 |true=>
  simp only[Bool.not_true,cond_false];rw[cond_true,show((0:Int) !=0)=false from rfl,cond_false];have hK:=pD l.xK;have Z:D6 uQ:=⟨by decide,by decide,by decide,by decide,by decide,by decide,by decide,by decide,by decide,by decide,by decide,by decide⟩;have z0:dv uQ=0:=by decide
  obtain⟨w,e1,W,e2⟩:=Kg N uQ Z (a:=(l.xK.toInt.natAbs:Int)) (b:=1) (by omega) (by omega) (by decide) (by decide) (by rw[z0];unfold jS;omega);rw[z0]at e2;by_cases h:l.xK.toInt<0
  ·rw[akX h,cond_true,zx,akf,e1,akf];exact G9 N env l.xL 0 uQ w l.xK.toInt Z W (by rw[z0];omega) (by rw[z0];omega)
  ·rw[akY h,cond_false,zx,akf,e1,akf];exact G9 N env l.xL 0 w uQ l.xK.toInt W Z (by rw[z0];omega) (by rw[z0];omega)
def ra(e:ay):Prop:=∀x∈et e,nu x=true/\nj x=true
theorem ra.arg{e x:ay}(h:ra e)(hx:x∈e.cl):ra x:=λy hy=>h y (Kn hx hy)
theorem ra.len{e:ay}(h:ra e):(e.cl.length:Int)=np e.aQ:=by
 have:=(h e akm).1;unfold nu at this;rw[aki,beq_iff_eq]at this;exact this.1
theorem ra.op{e:ay}(h:ra e):1<=e.aQ/\e.aQ<=18:=by
 have:=(h e akm).2;unfold nj at this;simp only[aki,decide_eq_true_eq]at this;exact⟨this.1,this.2.1⟩
theorem UU:∀l:ak4 ay,kK l=0->∀x∈l,mI x=0
 |[],_,x,hx=>by cases hx
 |y::l,h,x,hx=>by
  rw[kK]at h;cases e:mI y !=0 with
  |true=>rw[e,cond_true]at h;rw[h]at e;cases e
  |false=>
   rw[e,cond_false]at h;rcases akK.1 hx with rfl|hx
   ·exact mf e
   ·exact UU l h x hx
theorem Ra{e:ay}(h:pP e=0):∀x∈et e,mI x=0:=λx hx=>by
 unfold pP at h;cases J:decide (40<jc 40 e)with
 |true=>rw[J]at h;cases h
 |false=>
  cases h2:decide (2000<(et e).length)with
  |true=>rw[J,h2]at h;cases h
  |false=>rw[J,h2]at h;exact UU (et e) h x hx
theorem JQ{x:ay}(h:mI x=0):nj x=true/\qX x=true/\nu x=true/\mT x=true/\sV x=true:=by
 unfold mI at h;cases p:nj x<;>cases q:qX x<;>cases r:nu x<;>cases s:mT x<;>cases t:sV x<;>rw[p,q,r,s,t]at h<;>first|exact⟨rfl,rfl,rfl,rfl,rfl⟩|(exact absurd h (by decide))
theorem ack{e:ay}(h:pP e=0):ra e:=λx hx=>⟨(JQ (Ra h x hx)).2.2.1,(JQ (Ra h x hx)).1⟩
section
variable {α:Type}
theorem adQ{l:ak4 α}(h:(l.length:Int)=1):∃a,l=[a]:=by
 match l,h with
 |[a],_=>exact⟨a,rfl⟩
 |[],h=>simp at h
 |a::b::l,h=>simp at h;omega
theorem agZ{l:ak4 α}(h:(l.length:Int)=2):∃a b,l=[a,b]:=by
 match l,h with
 |[a,b],_=>exact⟨a,b,rfl⟩
 |[],h=>simp at h
 |[a],h=>simp at h
 |a::b::c::l,h=>simp at h;omega
theorem aep{l:ak4 α}(h:(l.length:Int)=3):∃a b c,l=[a,b,c]:=by
 match l,h with
 |[a,b,c],_=>exact⟨a,b,c,rfl⟩
 |[],h=>simp at h
 |[a],h=>simp at h
 |[a,b],h=>simp at h
 |a::b::c::d::l,h=>simp at h;omega
end
def vW(a b:ak6 (aV×Int)):Prop:=∃t t' x,a=some (t,x)/\b=some (t',x)/\(x=0->t=t')
theorem QT{α:Type}(f:α->Int)(x:α):gz f [x]=f x:=by
 rw[gz,gz];cases e:f x !=0 with
 |true=>rfl
 |false=>exact(mf e).symm
theorem aji{op:Int}(J:1<=op)(h2:op<=18):(op=1\/op=2\/op=3\/op=8\/op=11\/op=12)\/(op=4\/op=5\/op=6\/op=7\/op=9\/op=10)\/(op=13\/op=14\/op=15)\/(op=16\/op=17\/op=18):=by omega
section
variable {N:Nat} {m:ak4 (ak5×Int)} {vars:ak4 ak5} {p p':aZ}
theorem ait(hV:VN m (vars++p'.bE))(hP:p.bu=p'.bu)(uZ:p.aU=p'.aU)(wQ:mO p.bu)(n7:gS p.aU)(e:ay)(J:1<=e.aQ)(h2:e.aQ<=18)(acc:ak4 aV)(hl:(acc.length:Int)=np e.aQ)
 (r1:ay->aZ->ak4 (ak5×Int)->ak6 (aV×Int)) (r2:aZ->ak4 ak5->ay->ak6 (aV×Int)) (k:Nat):
 vW (vQ N e p m r1 [] k acc) (nH N e p' vars r2 [] k acc):=by
 rw[vQ,nH];unfold F3 AE Ar Bj;rcases aji J h2 with(h|h|h|h|h|h)|(h|h|h|h|h|h)|(h|h|h)|(h|h|h)
 ·rw[h];exact⟨_,_,_,rfl,rfl,λ_=>rfl⟩
 ·rw[h,K3 N hV,JV,QT];exact⟨_,_,_,rfl,rfl,λ_=>rfl⟩
 ·rw[h,aex N hV p wQ n7,UR N vars p' (uZ▸n7),hP,uZ];exact⟨_,_,_,rfl,rfl,λ_=>rfl⟩
 ·rw[h]at hl;obtain⟨a,rfl⟩:=adQ hl;rw[h];exact⟨_,_,_,rfl,rfl,λ_=>rfl⟩
 ·rw[h]at hl;obtain⟨a,b,c,rfl⟩:=aep hl;rw[h];show vW (Option.bind (bif _ then _ else _) _) (bif _ then _ else _);cases ((b.cg==c.cg)&&((b.cE==c.cE)&&((b.cB==c.cB)&&((b.cY==c.cY)&&((b.c8==c.c8)&&true)))))with
  |true=>exact⟨_,_,_,rfl,rfl,λ_=>rfl⟩
  |false=>exact⟨_,_,_,rfl,rfl,λh=>by cases h⟩
 ·rw[h];exact⟨_,_,_,rfl,rfl,λ_=>rfl⟩
 all_goals first
  |(rw[h];exact⟨_,_,_,rfl,rfl,λ_=>rfl⟩)
  |(rw[h]at hl
    obtain⟨a,b,rfl⟩:=agZ hl;rw[h];show vW (Option.bind (bif _ then _ else _) _) (bif _ then _ else _);cases ((a.cg==b.cg)&&((a.cE==b.cE)&&((a.cB==b.cB)&&((a.cY==b.cY)&&((a.c8==b.c8)&&true)))))with
    |true=>exact⟨_,_,_,rfl,rfl,λ_=>rfl⟩
    |false=>exact⟨_,_,_,rfl,rfl,λh=>by cases h⟩)
theorem Rq(e:ay)(r1:ay->aZ->ak4 (ak5×Int)->ak6 (aV×Int))(r2:aZ->ak4 ak5->ay->ak6 (aV×Int)):
 ∀(l:ak4 ay)(k:Nat)(acc:ak4 aV),acc.length+l.length<=1000000000->(∀x∈l,vW (r1 x p m) (r2 p' vars x))->
  (∀(qf:ak4 aV)(k':Nat),qf.length=acc.length+l.length->vW (vQ N e p m r1 [] k' qf) (nH N e p' vars r2 [] k' qf))->
  vW (vQ N e p m r1 l k acc) (nH N e p' vars r2 l k acc)
 |[],k,acc,_,_,he=>he acc k rfl
 |x::l,k,acc,hb,hx,he=>by
  rw[vQ,nH];obtain⟨t,t',z,e1,e2,e3⟩:=hx x akm;rw[e1,e2,akf,akf];dsimp only;cases hz:z !=0 with
  |true=>exact⟨_,_,_,rfl,rfl,λ_=>rfl⟩
  |false=>
   obtain rfl:=e3 (mf hz);simp only[akj]at hb;rw[kF (by omega)];exact Rq e r1 r2 l (k+1) (acc++[t]) (by simp only[akh,akj,aks];omega) (λy hy=>hx y (akp _ hy)) λqf k' h'=>he qf k' (by simp only[akh,akj,aks]at*;omega)
theorem XL(hV:VN m (vars++p'.bE))(hP:p.bu=p'.bu)(uZ:p.aU=p'.aU)(wQ:mO p.bu)(n7:gS p.aU):
 ∀(d:Nat)(e:ay),SizeOf.sizeOf e<d->ra e->vW (wC N d e p m) (rE N d p' vars e)
 |0,_,h,_=>absurd h (akI _)
 |d+1,e,h,hr=>by
  rw[wC,rE];have hlen:=hr.len;have h3:(e.cl.length:Int)<=3:=by
    rw[hlen];unfold np;cases (e.aQ==1||(e.aQ==2||e.aQ==3))<;>cases (e.aQ==8||(e.aQ==12||e.aQ==18))<;>cases e.aQ==11<;>decide
  refine Rq e _ _ e.cl 0 [] (by simp only[aks];omega) (λx hx=>XL hV hP uZ wQ n7 d x (by have:=FC hx;omega) (hr.arg hx)) λqf k' h'=> ?_;exact ait hV hP uZ wQ n7 e hr.op.1 hr.op.2 qf (by rw[h',<-hlen];simp only[aks,akA]) _ _ k'
end
theorem aeO{m:ak4 (ak5×Int)}{V W:ak4 ak5}(h:VN m V)(e:∀s,dp W s=dp V s)(hl:V.length<=W.length):VN m W:=⟨λs=>by rw[h.val,e],aky h.len hl⟩
theorem X7(N:Nat)(e:ay)(p:aZ):∀(l:ak4 ak5)(k:Nat)(m:ak4 (ak5×Int))(V:ak4 ak5),VN m V->V.length+l.length<1000000000->∃m' k',VN m' (V++l)/\vl N e p l k m=vl N e p [] k' m'
 |[],k,m,V,h,_=>⟨m,k,by rw[akB];exact h,rfl⟩
 |s::l,k,m,V,h,hb=>by
  simp only[akj]at hb;rw[vl,show Nat.blt m.length 9223372036854775807=true from Nat.ble_eq_true_of_le (by have:=h.len;omega),cond_true];obtain⟨m',k',J,h2⟩:=X7 N e p l (k+1) _ _ (h.add s 3 rfl) (by simp only[akh,akj,aks];omega);exact⟨m',k',by rw[akx]at J;exact J,h2⟩
theorem Ug(N:Nat)(e:ay)(p:aZ)(vars:ak4 ak5):∀(l:ak4 ak5)(k:Nat)(m:ak4 (ak5×Int))(V:ak4 ak5),VN m V->V.length+l.length<1000000000->∃m',VN m' (V++l)/\Jm N e p vars l k m=vl N e p vars 0 m'
 |[],k,m,V,h,_=>⟨m,by rw[akB];exact h,rfl⟩
 |s::l,k,m,V,h,hb=>by
  simp only[akj]at hb;rw[Jm,show Nat.blt m.length 9223372036854775807=true from Nat.ble_eq_true_of_le (by have:=h.len;omega),cond_true];obtain⟨m',J,h2⟩:=Ug N e p vars l (k+1) _ _ (h.add s 1 rfl) (by simp only[akh,akj,aks];omega);exact⟨m',by rw[akx]at J;exact J,h2⟩
theorem ai6(N:Nat)(hN:2147483648<N)(p p':aZ)(vars:ak4 ak5)(e:ay)(hs:SizeOf.sizeOf e<N)(h:mM e)(hS:p.bE=p'.bE)(hP:p.bu=p'.bu)(uZ:p.aU=p'.aU)(wQ:mO p.bu)(n7:gS p.aU)
 (hl:p.bE.length+vars.length<1000000000):∃t x,Fv N p vars e=some (t,x)/\xE N p' vars e=some (t,x)/\(x=0->pP e=0):=by
 unfold Fv xE;rw[abJ N hN e h,ZA N hN e hs h,akf,akf];cases hv:pP e !=0 with
 |true=>exact⟨_,_,rfl,rfl,λh0=>h0⟩
 |false=>
  have hv:=mf hv;simp only[cond_false];rw[QX,LB,akf,akf];cases me e with
  |true=>exact⟨_,_,rfl,rfl,λh0=>by cases h0⟩
  |false=>
   simp only[cond_false];obtain⟨m1,J,e1⟩:=Ug N e p vars p.bE 0 [] [] ⟨λ_=>rfl,akr _⟩ (by simp only[aks];omega);obtain⟨m2,k2,h2,e2⟩:=X7 N e p vars 0 m1 _ J (by simp only[aks,List.nil_append];omega);rw[e1,e2,vl];have hV:VN m2 (vars++p'.bE):=aeO h2 (λs=>by rw[List.nil_append,lv,lv,hS,Bool.or_comm]) (by rw[hS];simp only[akh,List.nil_append];omega);unfold MY Br;obtain⟨t,t',x,a1,a2,a3⟩:=XL (N:=N) hV hP uZ wQ n7 N e hs (ack hv);rw[a1,a2,akf,akf];dsimp only;cases hx:x !=0 with
   |true=>exact⟨_,_,rfl,rfl,λ_=>hv⟩
   |false=>obtain rfl:=a3 (mf hx);exact⟨_,_,rfl,rfl,λ_=>hv⟩
theorem Fm{y:ay}:∀{l:ak4 ay},y∈lz l->∃x∈l,y∈et x
 |[],h=>by rw[lz]at h;cases h
 |x::l,h=>by
  rw[Co]at h;rcases akS.1 h with h|h
  ·exact⟨x,akm,h⟩
  ·obtain⟨z,J,h2⟩:=Fm h;exact⟨z,akp _ J,h2⟩
theorem Zf{t t':aV}{x:Int}(h:ua t x=(t',0)):x=0:=congrArg Prod.snd h
theorem XU(N:Nat)(e:ay)(p:aZ)(vars:ak4 ak5)(rec:aZ->ak4 ak5->ay->ak6 (aV×Int)):
 ∀(l:ak4 ay)(k:Nat)(acc:ak4 aV)(t:aV),nH N e p vars rec l k acc=some (t,0)->
  (∀x∈l,∃t',rec p vars x=some (t',0))/\∃k' qf,nH N e p vars rec [] k' qf=some (t,0)
 |[],k,acc,t,h=>⟨λ_ hx=>(by cases hx),k,acc,h⟩
 |x::l,k,acc,t,h=>by
  rw[nH]at h;cases hr:rec p vars x with
  |none=>rw[hr]at h;cases h
  |some q=>
   rw[hr,akf]at h;cases hz:q.2 !=0 with
   |true=>rw[hz,cond_true]at h;rw[(Prod.mk.inj (akz h)).2]at hz;cases hz
   |false=>
    rw[hz,cond_false]at h;cases hb:Nat.ble ((acc.length+1)*40) 140737488355328 with
    |false=>rw[hb]at h;cases h
    |true=>
     rw[hb,cond_true]at h;obtain⟨J,h2⟩:=XU N e p vars rec l (k+1) (acc++[q.1]) t h;refine⟨λy hy=> ?_,h2⟩;rcases akK.1 hy with rfl|hy
     ·exact⟨q.1,by rw[hr,<-mf hz]⟩
     ·exact J y hy
theorem VH(N:Nat)(p:aZ)(vars:ak4 ak5)(n7:gS p.aU):∀(d:Nat)(e:ay)(t:aV),rE N d p vars e=some (t,0)->∀y∈et e,(y.aQ=3->uF (vars++p.bE) p.bu p.aU y=0)/\(y.aQ=2->nU (vars++p.bE) y.bO=0)
 |0,e,t,h=>by cases h
 |d+1,e,t,h=>by
  rw[rE]at h;obtain⟨J,k',qf,h2⟩:=XU N e p vars _ _ _ _ _ h;intro y hy;rcases akK.1 hy with rfl|hy
  ·refine⟨λgX=> ?_,λgX=> ?_⟩
   ·rw[nH,gX,UR N vars p n7]at h2;exact Zf (akz h2)
   ·rw[nH,gX,JV,QT]at h2;have h3:=congrArg Prod.snd (akz h2);exact h3
  ·obtain⟨x,hx,hy⟩:=Fm hy;obtain⟨t',h3⟩:=J x hx;exact VH N p vars n7 d x t' h3 y hy
theorem Zp(N:Nat)(p:aZ)(vars:ak4 ak5)(n7:gS p.aU)(e:ay)(t:aV)(h:xE N p vars e=some (t,0)):∀y∈et e,(y.aQ=3->uF (vars++p.bE) p.bu p.aU y=0)/\(y.aQ=2->nU (vars++p.bE) y.bO=0):=by
 unfold xE at h;cases e1:C0 N e with
 |none=>rw[e1]at h;cases h
 |some a=>
  rw[e1,akf]at h;cases J:a !=0 with
  |true=>rw[J,cond_true]at h;rw[(Prod.mk.inj (akz h)).2]at J;cases J
  |false=>
   rw[J,cond_false,LB,akf]at h;cases h2:me e with
   |true=>rw[h2]at h;cases h
   |false=>
    rw[h2,cond_false]at h;cases e3:Br N p vars e with
    |none=>rw[e3]at h;cases h
    |some q=>
     rw[e3,akf]at h;cases h4:q.2 !=0 with
     |true=>rw[h4,cond_true]at h;rw[(Prod.mk.inj (akz h)).2]at h4;cases h4
     |false=>exact VH N p vars n7 N e q.1 (by unfold Br at e3;rw[e3,<-mf h4])
structure Bd(N:Nat)(p:aZ):Prop where
 s:p.bE.length<=1000
 w:p.dL.length<=1000
 q:p.bu.length<=1000
 d:p.aU.length<=1000
 o:p.dU.length<=1000
 P:mO p.bu
 D:gS p.aU
 W:∀c∈p.dL,lL 1000000000 c.bO
 E:∀d∈p.aU,mM d.cP/\SizeOf.sizeOf d.cP<N
def Yi(d:cv):ak4 ak5:=(d.bo++d.cO).map (·.aF)
structure FI(p:aZ)(k:Nat)(d:cv):Prop where
 par:dp (p.bu.map (·.aF)) d.aF=false
 body:pP d.cP=0
 aj2:qW p.bE [] (d.bo++d.cO)=0
 reads:∀y∈et d.cP,y.aQ=3->uF (Yi d++p.bE) p.bu (p.aU.take k) y=0
 HT:∀y∈et d.cP,y.aQ=2->nU (Yi d++p.bE) y.bO=0
 len:d.bo.length<=6/\d.cO.length<=6
 aj7:dp ((p.aU.take k).map (·.aF)) d.aF=false
theorem Vn{D:ak4 cv}(h:gS D)(k:Nat):gS (D.take k):=⟨λd hd=>h.len d (List.mem_of_mem_take hd),λd hd=>h.nC d (List.mem_of_mem_take hd)⟩
section
variable {N:Nat} {p:aZ}
theorem aeX(hN:2147483648<N)(B:Bd N p){m:ak4 (ak5×Int)}{T:ak4 ak5}{k:Nat}{d:cv}(h:KN m p.bE T)(hd:p.aU[k]?=some d)(hT:T.length<=1000000)(hq:∀s,dp (p.bu.map (·.aF)++(p.aU.take k).map (·.aF)) s=true->dp T s=true):
 ∃x m',Fq N (k:Int) p m=some (x,m')/\HH N p (k:Int) (p.bE++T)=some x/\(x=0->KN m' p.bE (T++[d.aF])/\FI p k d):=by
 have jO:=MX hd;have aj8:=B.D.len d jO;have hlen:d.bo.length+d.cO.length<1000000000:=by omega
 have PH:∀x∈d.bo++d.cO,jV x.ff:=λx hx=>(B.D.nC d jO x hx).ok;have hs:=B.s;unfold Fq HH;rw[show decide ((0:Int)<=(k:Int))=true from akX (by omega),akH,hd,cond_true,cond_true,akf,akf,
  OQ N (by omega) _ 2 p h (by omega),FV N (by omega),akf,akf,agA,MG,akf,akf,C9,C9]
 dsimp only;cases e:jA (p.bE++T) d.aF !=0 with
 |true=>exact⟨_,_,rfl,rfl,λh0=>by rw[h0]at e;cases e⟩
 |false=>
  have e0:=mf e;have k1:=h.TO (NA e0).2;rw[e0];simp only[cond_false,akZ,cond_true];cases iF d.aJ with
  |false=>exact⟨_,_,rfl,rfl,λh0=>by cases h0⟩
  |true=>
   simp only[cond_true];rw[show(bif !decide (d.bo.length<=6)then some true else some !decide (d.cO.length<=6))=some (!(decide (d.bo.length<=6)&&decide (d.cO.length<=6))) by cases decide (d.bo.length<=6)<;>cases decide (d.cO.length<=6)<;>rfl,akf];cases e6:decide (d.bo.length<=6)&&decide (d.cO.length<=6)with
   |false=>exact⟨_,_,rfl,rfl,λh0=>by cases h0⟩
   |true=>
    rw[aki,decide_eq_true_eq,decide_eq_true_eq]at e6;simp only[cond_true,Bool.not_true,cond_false];rw[kF (by omega),kF (by omega),afZ N (by omega) d p k1 PH hlen,ac1 N (by omega) _ _ PH (by simp only[akh];omega)];simp only[akf,cond_true,bne_self_eq_false,cond_false];cases ea:qW p.bE [] (d.bo++d.cO) !=0 with
    |true=>exact⟨_,_,rfl,rfl,λh0=>by rw[h0]at ea;cases ea⟩
    |false=>
     simp only[cond_false];rw[ac5,aeN,akf,akf];cases ef:BO d !=0 with
     |true=>exact⟨_,_,rfl,rfl,λh0=>by rw[h0]at ef;cases ef⟩
     |false=>
      simp only[cond_false];have hk:k<p.aU.length:=by
       by_cases hk:k<p.aU.length
       ·exact hk
       ·rw[akM (by omega)]at hd;cases hd
      rw[show decide (k<=p.aU.length)=true from akX (by omega),cond_true,cond_true,Zk N d hlen,ajm N d hlen,akf,akf,akP];obtain⟨t,x,a1,a2,a3⟩:=ai6 N hN ⟨p.bE,p.dL,p.bu,p.aU.take k,p.dU⟩ ⟨p.bE,[],p.bu,p.aU.take k,[]⟩ ((d.bo++d.cO).map (·.aF)) d.cP (B.E d jO).2 (B.E d jO).1 rfl rfl rfl B.P (Vn B.D k)
        (by simp only[akl,akh];omega)
      rw[a1,a2,akf,akf];dsimp only;cases ex:x !=0 with
      |true=>exact⟨_,_,rfl,rfl,λh0=>by rw[h0]at ex;cases ex⟩
      |false=>
       have x0:=mf ex;simp only[cond_false];cases ((t.cg==d.aJ.cg)&&((t.cE==d.aJ.cE)&&((t.cB==d.aJ.cB)&&((t.cY==d.aJ.cY)&&((t.c8==d.aJ.c8)&&true)))))with
       |false=>exact⟨_,_,rfl,rfl,λh0=>by cases h0⟩
       |true=>
        have fk:dp (p.bu.map (·.aF)++(p.aU.take k).map (·.aF)) d.aF=false:=by
         cases eq:dp (p.bu.map (·.aF)++(p.aU.take k).map (·.aF)) d.aF with
         |false=>rfl
         |true=>
          have:=(NA e0).2;rw[lv,hq _ eq,Bool.or_true]at this;cases this
        rw[lv,ak3]at fk;rw[x0]at a2;have tr:=Zp N _ _ (Vn B.D k) d.cP t a2;exact⟨_,_,rfl,rfl,λ_=>⟨k1,fk.1,a3 x0,mf ea,λy hy=>(tr y hy).1,λy hy=>(tr y hy).2,e6,fk.2⟩⟩
def Dp(p:aZ):Bool:=decide (p.bE.length<=64)&&(decide (p.bu.length<=64)&&(decide (p.aU.length<=64)&&(decide (p.dU.length<=64)&&decide (p.dL.length<=256))))
theorem acb:Fi N p=some (Dp p):=by
 unfold Fi Dp;simp only[DY];rw[show decide (((max (max (max p.bE.length p.bu.length) p.aU.length) p.dU.length:Nat):Int)<=64)=decide (max (max (max p.bE.length p.bu.length) p.aU.length) p.dU.length<=64)from tM _ 64,show decide ((p.dL.length:Int)<=256)=decide (p.dL.length<=256)from tM _ 256];rw[show decide (max (max (max p.bE.length p.bu.length) p.aU.length) p.dU.length<=64)=(decide (p.bE.length<=64)&&(decide (p.bu.length<=64)&&(decide (p.aU.length<=64)&&decide (p.dU.length<=64)))) by
  rw[Bool.eq_iff_iff];simp only[aki,decide_eq_true_iff];omega]
 cases decide (p.bE.length<=64)<;>cases decide (p.bu.length<=64)<;>cases decide (p.aU.length<=64)<;>cases decide (p.dU.length<=64)<;>rfl
theorem afK:(bif (decide ((p.bE.length:Int)>64))then some true else(bif (decide ((p.bu.length:Int)>64))then some true else(bif (decide ((p.aU.length:Int)>64))then some true else(bif (decide ((p.dU.length:Int)>64))then some true else some (decide ((p.dL.length:Int)>256))))))=some (!Dp p):=by
 unfold Dp;rw[show ∀n:Nat,decide ((n:Int)>64)= !decide (n<=64)from λn=>j5 n 64];rw[show decide ((p.bu.length:Int)>64)= !decide (p.bu.length<=64)from j5 _ 64,show decide ((p.aU.length:Int)>64)= !decide (p.aU.length<=64)from j5 _ 64,show decide ((p.dU.length:Int)>64)= !decide (p.dU.length<=64)from j5 _ 64,show decide ((p.dL.length:Int)>256)= !decide (p.dL.length<=256)from j5 _ 256];cases decide (p.bE.length<=64)<;>cases decide (p.bu.length<=64)<;>cases decide (p.aU.length<=64)<;>cases decide (p.dU.length<=64)<;>rfl
def vU:ak4 ak5->ak4 ak5->Int
 |_,[]=>0
 |S,s::l=>bif jA S s !=0 then jA S s else vU (S++[s]) l
theorem Kx(hN:16<N):∀(l:ak4 ak5)(k:Nat)(m:ak4 (ak5×Int))(S:ak4 ak5),KN m S []->S.length+l.length<=1000->
 ∃m',KN m' (S++l) []/\EU N p l k m=bif vU S l !=0 then some (0,vU S l)else DP N p m' p.dL 0
 |[],k,m,S,h,_=>⟨m,by rw[akB];exact h,rfl⟩
 |s::l,k,m,S,h,hb=>by
  simp only[akj]at hb;rw[EU,OQ N hN s 1 p h (by simp only[aks];omega),akf,akB,vU];dsimp only;cases e:jA S s !=0 with
  |true=>
   obtain⟨m',J,_⟩:=Kx hN l k _ _ (h.oK s) (by simp only[akh,akj,aks];omega);refine⟨m',by rw[akx]at J;exact J,?_⟩;simp only[cond_true];rw[e];rfl
  |false=>
   rw[mf e];obtain⟨m',J,h2⟩:=Kx hN l (k+1) _ _ (h.oK s) (by simp only[akh,akj,aks];omega);exact⟨m',by rw[akx]at J;exact J,h2⟩
theorem Yg{α:Type}{L l:ak4 α}{x:α}{k:Nat}(h:L.drop k=x::l):L.take (k+1)=L.take k++[x]:=by
 have:=bm h;rw[List.take_add_one,this];rfl
theorem Fx{α:Type}{L l:ak4 α}{x:α}{k:Nat}(h:L.drop k=x::l):L.drop (k+1)=l:=by
 rw[<-List.drop_drop,h];rfl
theorem VS{α:Type}{L l:ak4 α}{x:α}{k:Nat}(h:L.drop k=x::l):k<L.length:=by
 by_cases hk:k<L.length
 ·exact hk
 ·rw[List.drop_eq_nil_of_le (by omega)]at h;cases h
theorem TW(hN:16<N):∀(l:ak4 ak5)(k:Nat),p.bE.drop k=l->Fy N p l k=some (vU (p.bE.take k) l)
 |[],_,_=>rfl
 |s::l,k,h=>by
  rw[Fy,akH,show decide (k<=p.bE.length)=true from akX (by have:=VS h;omega),cond_true,akP,FV N hN,akf,vU,TW hN l (k+1) (Fx h),Yg h];cases jA (p.bE.take k) s !=0<;>rfl
theorem QF(hN:16<N){m:ak4 (ak5×Int)}(h:KN m p.bE []):∀(l:ak4 gr)(k:Nat),(∀c∈l,lL 1000000000 c.bO)->
 DP N p m l k=bif gz (λc=>iW p.bE c.bO) l !=0 then some (1,gz (λc=>iW p.bE c.bO) l)else xm N p p.bu 0 2 m
 |[],_,_=>rfl
 |c::l,k,hc=>by
  have ok:jV c.bO:=(hc c akm).ok;have e1:F6 N c p m=some (iW p.bE c.bO):=by
   unfold F6 J9;rw[Ja N hN _ ok,akf,akf,N9 N hN _ p ok h];unfold iW;cases iM c.bO<;>rfl
  rw[DP,e1,akf,gz,QF hN h l (k+1) λy hy=>hc y (akp _ hy)];cases e:iW p.bE c.bO !=0 with
  |true=>simp only[cond_true];rw[e];rfl
  |false=>rfl
theorem W7(hN:16<N)(hs:p.bE.length<=1000):∀(l:ak4 gr)(k:Nat),(∀c∈l,lL 1000000000 c.bO)->
 CZ N p l k=bif gz (λc=>iW p.bE c.bO) l !=0 then some (1,gz (λc=>iW p.bE c.bO) l)else yH N p p.bu 0 p.bE 2
 |[],_,_=>by
  rw[CZ,kF (by omega)];rfl
 |c::l,k,hc=>by
  rw[CZ,Lc N hN _ (hc c akm).ok,akf,gz,W7 hN hs l (k+1) λy hy=>hc y (akp _ hy)];cases e:iW p.bE c.bO !=0 with
  |true=>simp only[cond_true];rw[e];rfl
  |false=>rfl
theorem XH(hN:16<N)(hs:p.bE.length<=1000):∀(l:ak4 eV)(k:Nat)(at_:Int)(m:ak4 (ak5×Int))(T:ak4 ak5),KN m p.bE T->mO l->T.length+l.length<=1000->
 (∃a x,x≠0/\xm N p l k at_ m=some (a,x)/\yH N p l k (p.bE++T) at_=some (a,x))\/
 ∃at' m',KN m' p.bE (T++l.map (·.aF))/\xm N p l k at_ m=yd N p p.aU 0 at' m'/\yH N p l k (p.bE++T) at_=zn N p p.aU 0 (p.bE++(T++l.map (·.aF))) at'
 |[],k,at_,m,T,h,_,_=> .inr ⟨at_,m,by rw[List.map_nil,akB];exact h,rfl,by rw[List.map_nil,akB];rfl⟩
 |x::l,k,at_,m,T,h,hl,hb=>by
  simp only[akj]at hb;obtain⟨m1,e1,e2⟩:=afi N hN x p (λy hy=>(hl.nC x akm y hy).ok) h (by omega);rw[xm,yH,e1,aiD N hN x p.bE T (λy hy=>(hl.nC x akm y hy).ok),akf,akf];dsimp only;cases e:xI p.bE T x !=0 with
  |true=>exact .inl ⟨_,_,λh0=>(by rw[h0]at e;cases e),rfl,rfl⟩
  |false=>
   simp only[cond_false];rw[kF (by simp only[akh];omega),cond_true,akx];have:=XH hN hs l (k+1) (aK (at_+1)) m1 (T++[x.aF]) (e2 (mf e)) ⟨λy hy=>hl.len y (akp _ hy),λy hy=>hl.nC y (akp _ hy)⟩ (by simp only[akh,akj,aks];omega);rw[akx]at this;exact this
theorem X4(hN:2147483648<N)(B:Bd N p):∀(l:ak4 cv)(k:Nat)(at_:Int)(m:ak4 (ak5×Int))(T:ak4 ak5),p.aU.drop k=l->KN m p.bE T->(∀s,dp (p.bu.map (·.aF)++(p.aU.take k).map (·.aF)) s=true->dp T s=true)->T.length+l.length<=10000->
 (∃a x,x≠0/\yd N p l k at_ m=some (a,x)/\zn N p l k (p.bE++T) at_=some (a,x))\/
 ((∀i d,k<=i->p.aU[i]?=some d->FI p i d)/\∃at' m',KN m' p.bE (T++l.map (·.aF))/\yd N p l k at_ m=C6 N m' p p.dU 0 at'/\zn N p l k (p.bE++T) at_=A0 N p p.dU 0 at')
 |[],k,at_,m,T,hd,h,_,_=>by
  refine .inr ⟨λi d hi hx=> ?_,at_,m,by rw[List.map_nil,akB];exact h,rfl,rfl⟩
  ·have:p.aU.length<=k:=by
    by_cases hk:p.aU.length<=k
    ·exact hk
    ·have:=congrArg List.length hd;simp at this;omega
   rw[akM (by omega)]at hx;cases hx
 |d::l,k,at_,m,T,hd,h,hq,hb=>by
  simp only[akj]at hb;have hs:=B.s;obtain⟨x,m1,e1,e2,e3⟩:=aeX hN B h (bm hd) (by omega) hq;rw[yd,zn,e1,e2,akf,akf];dsimp only;cases e:x !=0 with
  |true=>exact .inl ⟨_,_,λh0=>(by rw[h0]at e;cases e),rfl,rfl⟩
  |false=>
   obtain⟨k1,g1⟩:=e3 (mf e);simp only[cond_false];rw[kF (by simp only[akh];omega),cond_true,akx];have:=X4 hN B l (k+1) (aK (at_+1)) m1 (T++[d.aF]) (Fx hd) k1 (λs hs=>by
    rw[Yg hd,List.map_append,<-akx,lv]at hs;rw[lv];rcases Bool.or_eq_true _ _▸hs with hs|hs
    ·rw[hq s hs];rfl
    ·rw[show dp [d.aF] s=true from hs,Bool.or_true]) (by simp only[akh,akj,aks];omega)
   rw[akx]at this;rcases this with this|⟨g,this⟩
   ·exact .inl this
   ·refine .inr ⟨λi d' hi hx=> ?_,this⟩;by_cases mZ:i=k
    ·subst mZ;rw[bm hd]at hx;cases hx;exact g1
    ·exact g i d' (by omega) hx
theorem J2{α:Type}(f:α->ak5)(s:ak5):∀l:ak4 α,dp (l.map f) s=(l.find? λx=>bL (f x)==bL s).isSome
 |[]=>rfl
 |x::l=>by
  rw[akF,List.find?_cons,show dp (f x::l.map f) s=(bL (f x)==bL s||dp (l.map f) s)from ak1,J2 f s l];cases bL (f x)==bL s<;>rfl
theorem aiR(P:ak4 eV)(D:ak4 cv)(s:ak5):(eo P D s).2.2=dp (P.map (·.aF)++D.map (·.aF)) s:=by
 unfold eo;rw[lv,J2,J2];show _=(_||(D.find? (mP s)).isSome);cases P.find? λx=>bL x.aF==bL s with
 |some x=>rfl
 |none=>cases D.find? (mP s)<;>rfl
theorem Uv(hD:gS p.aU){m:ak4 (ak5×Int)}(h:KN m p.bE (p.bu.map (·.aF)++p.aU.map (·.aF))):∀(l:ak4 ak5)(k:Nat)(at_:Int),p.dU.drop k=l->
 ∃a x,C6 N m p l k at_=some (a,x)/\A0 N p l k at_=some (a,x)
 |[],_,_,_=>⟨_,_,rfl,rfl⟩
 |s::l,k,at_,hd=>by
  rw[C6,A0,h.YN,Nb N p s hD,akf,aiR,akH,show decide (k<=p.dU.length)=true from akX (by have:=VS hd;omega),akP,aae,EY,akf,akf];cases dp (p.bu.map (·.aF)++p.aU.map (·.aF)) s with
  |false=>exact⟨_,_,rfl,rfl⟩
  |true=>
   cases dp (p.dU.take k) s with
   |true=>exact⟨_,_,rfl,rfl⟩
   |false=>exact Uv hD h l (k+1) (aK (at_+1)) (Fx hd)
theorem aie(hN:2147483648<N)(B:Bd N p):∃a x,DV N p=some (a,x)/\E8 N p=some (a,x)/\(x=0->∀i d,p.aU[i]?=some d->FI p i d):=by
 have hs:=B.s;have hq:=B.q;have hd:=B.d;unfold DV E8 J6;rw[acb,afK,akf,akf];cases Dp p with
 |false=>exact⟨_,_,rfl,rfl,λh=>by cases h⟩
 |true=>
  simp only[cond_true,Bool.not_true,cond_false];obtain⟨m1,k1,e1⟩:=Kx (N:=N) (p:=p) (by omega) p.bE 0 [] [] KN.nil (by simp only[aks];omega);rw[List.nil_append]at k1;rw[e1,TW (by omega) p.bE 0 rfl,akf,List.take_zero];cases ez:vU [] p.bE !=0 with
  |true=>exact⟨_,_,rfl,rfl,λh0=>by rw[h0]at ez;cases ez⟩
  |false=>
   simp only[cond_false];rw[QF (by omega) k1 _ _ B.W,W7 (by omega) hs _ _ B.W];cases ew:gz (λc=>iW p.bE c.bO) p.dL !=0 with
   |true=>exact⟨_,_,rfl,rfl,λh0=>by rw[h0]at ew;cases ew⟩
   |false=>
    simp only[cond_false];have pb:=XH (N:=N) (p:=p) (by omega) hs p.bu 0 2 m1 [] k1 B.P (by simp only[aks];omega);rw[akB,List.nil_append]at pb;rcases pb with⟨a,x,hx,e1,e2⟩|⟨at',m2,k2,e1,e2⟩
    ·exact⟨a,x,e1,e2,λh0=>absurd h0 hx⟩
    ·rw[e1,e2];rcases X4 hN B p.aU 0 at' m2 _ rfl k2 (λs h=>by rw[List.take_zero,List.map_nil,akB]at h;exact h) (by simp only[akl];omega)with⟨a,x,hx,e1,e2⟩|⟨g,Y3,m3,k3,e1,e2⟩
     ·exact⟨a,x,e1,e2,λh0=>absurd h0 hx⟩
     ·rw[e1,e2];obtain⟨a,x,e1,e2⟩:=Uv (N:=N) B.D k3 p.dU 0 Y3 rfl;exact⟨a,x,e1,e2,λ_ i d h=>g i d (Nat.zero_le _) h⟩
end
structure YE(x:dd):Prop where
 l:x.bO.xL.length<=4611686018427387904
 a:∀l∈x.da,l.xL.length<=4611686018427387904
structure fmN(e:ay):Prop where
 l:e.bO.xL.length<=4611686018427387904
 x:∀x∈e.xIdx,YE x
structure Ev(e:ay):Prop where
 v:∀y∈et e,mI y=0
 f:∀y∈et e,fmN y
structure M0(e:ay):Prop where
 lo:1<=e.aQ
 hi:e.aQ<=18
 adU:(e.cl.length:Int)=np e.aQ
 lit:e.aQ=1->iF e.aJ=true/\sh e.aJ e.dS=true
 cast:e.aQ=12->iF e.aJ=true
 want:∀(i:Nat)(x:ay),e.cl[i]?=some x->me x=qq e.aQ i
theorem Rb(op:Int):∀(l:ak4 ay)(k:Nat),sJ op k l=true->∀(i:Nat)(x:ay),l[i]?=some x->me x=qq op (k+i)
 |[],_,_,i,x,hx=>by simp at hx
 |y::l,k,h,i,x,hx=>by
  unfold sJ at h;rw[aki,beq_iff_eq]at h;cases i with
  |zero=>cases hx;exact h.1
  |succ i=>
   rw[show k+(i+1)=k+1+i by omega];exact Rb op l (k+1) h.2 i x hx
theorem ahU{e:ay}(h:M0 e):me e=decide (13<=e.aQ):=by
 unfold me;rw[akX h.hi,Bool.and_true]
theorem Za{α:Type}{l:ak4 α}(h:(l.length:Int)=1):∃a,l=[a]:=by
 match l,h with
 |[a],_=>exact⟨a,rfl⟩
 |[],h=>simp at h
 |_::_::_,h=>simp only[akj]at h;omega
theorem ahh{α:Type}{l:ak4 α}(h:(l.length:Int)=2):∃a b,l=[a,b]:=by
 match l,h with
 |[a,b],_=>exact⟨a,b,rfl⟩
 |[],h=>simp at h
 |[_],h=>simp at h
 |_::_::_::_,h=>simp only[akj]at h;omega
inductive Kc(e:ay):Prop
 |not (a:ay) (h:e.cl=[a]) (ho:e.aQ=18)
 |cmp (a b:ay) (h:e.cl=[a,b]) (ho:13<=e.aQ/\e.aQ<=15)
 |log (a b:ay) (h:e.cl=[a,b]) (ho:e.aQ=16\/e.aQ=17)
theorem kc{e:ay}(h:M0 e)(hc:me e=true):Kc e:=by
 rw[ahU h,decide_eq_true_eq]at hc;have hh:=h.hi;have hn:=h.adU;unfold np at hn;rw[show(e.aQ==1)=false by rw[beq_eq_false_iff_ne];omega,show(e.aQ==2)=false by rw[beq_eq_false_iff_ne];omega,show(e.aQ==3)=false by rw[beq_eq_false_iff_ne];omega,show(e.aQ==8)=false by rw[beq_eq_false_iff_ne];omega,show(e.aQ==12)=false by rw[beq_eq_false_iff_ne];omega,show(e.aQ==11)=false by rw[beq_eq_false_iff_ne];omega]at hn;simp only[Bool.or_false,Bool.false_or,cond_false]at hn;by_cases eC:e.aQ=18
 ·rw[eC]at hn;obtain⟨a,ha⟩:=Za (l:=e.cl) hn;exact .not a ha eC
 ·rw[show(e.aQ==18)=false by rw[beq_eq_false_iff_ne];exact eC,cond_false]at hn;obtain⟨a,b,ha⟩:=ahh hn;by_cases bM:e.aQ<=15
  ·exact .cmp a b ha ⟨hc,bM⟩
  ·exact .log a b ha (by omega)
theorem aj1(n:Nat):((n:Int) !=(n:Int))=false:=by rw[BZ,akZ];rfl
structure yR(B:Nat)(x:dd):Prop where
 mC:x.bO.xL.length<=B
 at_:x.da.length<=B
 HT:∀l∈x.da,l.xL.length<=B
structure Iv(B:Nat)(e:ay):Prop where
 mC:e.bO.xL.length<=B
 idx:e.xIdx.length<=B
 each:∀x∈e.xIdx,yR B x
 args:e.cl.length<=B
def jX(B:Nat)(e:ay):Prop:=∀y∈et e,Iv B y
theorem jX.arg{B:Nat}{e x:ay}(h:jX B e)(hx:x∈e.cl):jX B x:=λy hy=>h y (Kn hx hy)
theorem yR.mono{A B:Nat}(h:A<=B){x:dd}(k:yR A x):yR B x:=⟨aky k.mC h,aky k.at_ h,λl hl=>aky (k.HT l hl) h⟩
theorem Iv.mono{A B:Nat}(h:A<=B){e:ay}(k:Iv A e):Iv B e:=⟨aky k.mC h,aky k.idx h,λx hx=>(k.each x hx).mono h,aky k.args h⟩
abbrev pA:Nat:=140737488355328
theorem vo{a b:Nat}(h:a+b<=9223372036854775807):aK ((a:Int)+(b:Int))=((a+b:Nat):Int):=by
 rw[<-Int.natCast_add];exact Ji h
def Wt(m n:Nat)(Q:Prop)(r:ak6 Int):Prop:=∃v:Nat,r=some (v:Int)/\n<=v/\v<=m+500000000000000/\(v<=m->Q)
theorem Jq(N:Nat)(m:Nat)(hm:m<=100000)(rec:ay->Int->ak6 Int)(qS:ay->Prop)(hr:∀(x:ay)(q:Nat),q<=m->qS x->Wt q 1 (jX q x) (rec x (q:Int))):∀(l:ak4 ay)(k v:Nat),v<=m+500000000000000->(∀x∈l,qS x)->
 Wt m v (v+l.length<=m/\∀x∈l,jX m x) (ue N (m:Int) rec l k (v:Int))/\yg N (m:Int) rec l k (v:Int)=ue N (m:Int) rec l k (v:Int)
 |[],k,v,hv,_=>⟨⟨v,rfl,akr _,by omega,λh=>⟨h,λ_ h=>by cases h⟩⟩,rfl⟩
 |x::l,k,v,hv,hx=>by
  rw[ue,yg,tM];by_cases h:v<=m
  ·rw[akX h,cond_true,cond_true,show aK ((m:Int)-(v:Int))=((m-v:Nat):Int) by rw[show(m:Int)-(v:Int)=((m-v:Nat):Int) by omega];exact Ji (by omega)];obtain⟨n,e1,e2,e3,e4⟩:=hr x (m-v) (Nat.sub_le _ _) (hx x akm);rw[e1,akf,akf];dsimp only;rw[vo (by omega)];by_cases hn:v+n<=m
   ·obtain⟨⟨u,f1,f2,f3,f4⟩,f5⟩:=Jq N m hm rec qS hr l (k+1) (v+n) (by omega) λy hy=>hx y (akp _ hy);refine⟨⟨u,f1,by omega,f3,λhu=> ?_⟩,f5⟩;obtain⟨g1,g2⟩:=f4 hu;refine⟨by simp only[akj];omega,λy hy=> ?_⟩;rcases akK.1 hy with rfl|hy
    ·exact λz hz=>(e4 (by omega) z hz).mono (by omega)
    ·exact g2 y hy
   ·have stop:∀(l:ak4 ay)(k:Nat),ue N (m:Int) rec l k ((v+n:Nat):Int)=some ((v+n:Nat):Int)/\yg N (m:Int) rec l k ((v+n:Nat):Int)=some ((v+n:Nat):Int):=by
     intro l k;cases l with
     |nil=>exact⟨rfl,rfl⟩
     |cons y l=>rw[ue,yg,tM,akY hn];exact⟨rfl,rfl⟩
    rw[(stop l (k+1)).1,(stop l (k+1)).2];exact⟨⟨v+n,rfl,by omega,by omega,λh=>absurd h hn⟩,rfl⟩
  ·rw[akY h];exact⟨⟨v,rfl,akr _,by omega,λh'=>absurd h' h⟩,rfl⟩
theorem Q9(N:Nat)(m:Nat)(hm:m<=100000)(c:Int->ak6 Int)(lo:Nat)(Q:Prop)(hc:∀v:Nat,v<=m+500000000000000->lo<=v->Wt m v Q (c (v:Int))):∀(l:ak4 bp)(k v:Nat),v<=m+500000000000000->lo<=v->(∀x∈l,x.xL.length<=pA)->
 Wt m v (Q/\∀x∈l,x.xL.length<=m) (HJ N c (m:Int) l k (v:Int))
 |[],k,v,hv,j0,_=>by
  obtain⟨u,J,h2,h3,h4⟩:=hc v hv j0;exact⟨u,J,h2,h3,λh=>⟨h4 h,λ_ h=>by cases h⟩⟩
 |x::l,k,v,hv,j0,hx=>by
  rw[HJ,tM];by_cases h:v<=m
  ·have uh:x.xL.length<=140737488355328:=hx x akm;rw[akX h,cond_true];dsimp only;rw[vo (by omega)];obtain⟨u,f1,f2,f3,f4⟩:=Q9 N m hm c lo Q hc l (k+1) (v+x.xL.length) (by omega) (by omega) λy hy=>hx y (akp _ hy);refine⟨u,f1,by omega,f3,λhu=>⟨(f4 hu).1,λy hy=> ?_⟩⟩;rcases akK.1 hy with rfl|hy
   ·omega
   ·exact(f4 hu).2 y hy
  ·rw[akY h,cond_false];obtain⟨u,J,h2,h3,h4⟩:=hc v hv j0;exact⟨u,J,h2,h3,λhu=>absurd (aky h2 hu) h⟩
theorem XB(N:Nat)(m:Nat)(hm:m<=100000)(rec:ay->Int->ak6 Int)(qS:ay->Prop)(hr:∀(x:ay)(q:Nat),q<=m->qS x->Wt q 1 (jX q x) (rec x (q:Int)))(e:ay)(ha:∀x∈e.cl,qS x):∀(l:ak4 dd)(k v:Nat),v<=m+500000000000000->(∀x∈l,yR pA x)->
 Wt m v ((e.cl.length<=m/\∀x∈e.cl,jX m x)/\∀x∈l,yR m x) (yo N (m:Int) rec e l k (v:Int))
 |[],k,v,hv,_=>by
  rw[yo];obtain⟨u,J,h2,h3,h4⟩:=(Jq N m hm rec qS hr e.cl 0 v hv ha).1;exact⟨u,J,h2,h3,λh=>⟨⟨by have:=(h4 h).1;omega,(h4 h).2⟩,λ_ h=>by cases h⟩⟩
 |x::l,k,v,hv,hx=>by
  rw[yo,tM];by_cases h:v<=m
  ·have uh:=hx x akm;have J:x.bO.xL.length<=140737488355328:=uh.mC;have h2:x.da.length<=140737488355328:=uh.at_;rw[akX h,cond_true,vo (by omega),vo (by omega)];obtain⟨u,f1,f2,f3,f4⟩:=Q9 N m hm (λcq=>yo N (m:Int) rec e l (k+1) cq) 0 _ (λv hv _=>XB N m hm rec qS hr e ha l (k+1) v hv λy hy=>hx y (akp _ hy)) x.da 0 (v+x.bO.xL.length+x.da.length) (by omega) (Nat.zero_le _) uh.HT;refine⟨u,f1,by omega,f3,λhu=> ?_⟩;obtain⟨⟨g1,g2⟩,g3⟩:=f4 hu;refine⟨g1,λy hy=> ?_⟩;rcases akK.1 hy with rfl|hy
   ·exact⟨by omega,by omega,g3⟩
   ·exact g2 y hy
  ·rw[akY h,cond_false];obtain⟨⟨u,J,h2,h3,h4⟩,h5⟩:=Jq N m hm rec qS hr e.cl 0 v hv ha;rw[h5];exact⟨u,J,h2,h3,λhu=>absurd (aky h2 hu) h⟩
theorem UK(N:Nat):∀(d:Nat)(e:ay)(m:Nat),m<=100000->SizeOf.sizeOf e<d->jX pA e->Wt m 1 (jX m e) (tE N d e (m:Int))
 |0,_,_,_,h,_=>absurd h (akI _)
 |d+1,e,m,hm,h,hl=>by
  have he:=hl e akm;have J:e.bO.xL.length<=140737488355328:=he.mC;have h2:e.xIdx.length<=140737488355328:=he.idx;rw[tE,show(1:Int)=((1:Nat):Int)from rfl,vo (by omega),vo (by omega)];obtain⟨u,f1,f2,f3,f4⟩:=XB N m hm (tE N d) (λx=>SizeOf.sizeOf x<d/\jX pA x) (λx q hq hx=>UK N d x q (by omega) hx.1 hx.2) e (λx hx=>⟨by have:=FC hx;omega,hl.arg hx⟩) e.xIdx 0 (1+e.bO.xL.length+e.xIdx.length) (by omega) he.each;refine⟨u,f1,by omega,f3,λhu=> ?_⟩;obtain⟨⟨g1,g2⟩,g3⟩:=f4 hu;intro y hy;rcases akK.1 hy with rfl|hy
  ·exact⟨by omega,by omega,g3,g1⟩
  ·obtain⟨x,hx,hy⟩:=Fm hy;exact g2 x hx y hy
structure Eu(d:cv):Prop where
 ID:d.bo.length<=12
 red:d.cO.length<=12
 af9:∀a∈d.bo++d.cO,a.ff.xL.length<=20
 body:jX 400 d.cP
structure G4(p:aZ):Prop where
 s:p.bE.length<=12
 w:p.dL.length<=12
 q:p.bu.length<=12
 d:p.aU.length<=12
 o:p.dU.length<=12
 W:∀c∈p.dL,c.bO.xL.length<=20
 P:∀x∈p.bu,x.bo.length<=12/\∀y∈x.bo,y.xL.length<=20
 D:∀d∈p.aU,Eu d
def Bt(Q:Prop)(r:ak6 Bool):Prop:=∃b,r=some b/\(b=false->Q)
theorem Bt.mono{Q R:Prop}{r:ak6 Bool}(h:Bt Q r)(f:Q->R):Bt R r:=let ⟨b,J,h2⟩:=h;⟨b,J,λe=>f (h2 e)⟩
theorem Mt(n:Nat):decide ((n:Int)>20)= !decide (n<=20):=j5 n 20
theorem tK(n:Nat):decide ((n:Int)>12)= !decide (n<=12):=j5 n 12
theorem SV(N:Nat):∀(l:ak4 bp)(k:Nat),Bt (∀y∈l,y.xL.length<=20) (G6 N l k)
 |[],_=>⟨_,rfl,λ_ _ h=>by cases h⟩
 |x::l,k=>by
  rw[G6,Mt];by_cases h:x.xL.length<=20
  ·rw[akX h];refine(SV N l (k+1)).mono λg y hy=> ?_;rcases akK.1 hy with rfl|hy
   ·exact h
   ·exact g y hy
  ·rw[akY h];exact⟨true,rfl,λh=>by cases h⟩
theorem Py(N:Nat)(d:cv)(c:ak6 Bool)(Q:Prop)(hc:Bt Q c)(J:d.bo.length<=12)(h2:d.cO.length<=12):∀(n k:Nat),k<=d.bo.length+d.cO.length->d.bo.length+d.cO.length-k<n->
 Bt (Q/\∀a∈(d.bo++d.cO).drop k,a.ff.xL.length<=20) (Ct N d c n (k:Int))
 |0,k,_,h=>absurd h (akI _)
 |n+1,k,hk,h=>by
  rw[Ct,vo (by omega)];by_cases hl:k<d.bo.length+d.cO.length
  ·have oD:k<(d.bo++d.cO).length:=by rw[akh];exact hl
   rw[show decide ((k:Int)<((d.bo.length+d.cO.length:Nat):Int))=true from akX (by omega),kF (by omega),kF (by omega),show decide ((0:Int)<=(k:Int))=true from akX (by omega),cond_true,cond_true,cond_true,cond_true,akH,akk oD,akf,Mt,List.drop_eq_getElem_cons oD,H9 (by omega)];by_cases dD:((d.bo++d.cO)[k]).ff.xL.length<=20
   ·rw[akX dD];refine(Py N d c Q hc J h2 n (k+1) (by omega) (by omega)).mono fun⟨g1,g2⟩=>⟨g1,λy hy=> ?_⟩;rcases akK.1 hy with rfl|hy
    ·exact dD
    ·exact g2 y hy
   ·rw[akY dD];exact⟨true,rfl,λh=>by cases h⟩
  ·rw[show decide ((k:Int)<((d.bo.length+d.cO.length:Nat):Int))=false from akY (by omega),cond_false,List.drop_eq_nil_of_le (by rw[akh];omega)];exact hc.mono λg=>⟨g,λ_ h=>by cases h⟩
theorem Wr(N m:Nat)(hm:m<=400)(hN:1000<N):∀(l:ak4 cv)(k:Nat),(∀d∈l,jX pA d.cP/\SizeOf.sizeOf d.cP<N)->Bt (∀d∈l,Eu d) (Aj N (m:Int) l k)
 |[],_,_=>⟨_,rfl,λ_ _ h=>by cases h⟩
 |d::l,k,hd=>by
  obtain⟨d1,d2⟩:=hd d akm;have ih:=Wr N m hm hN l (k+1) λy hy=>hd y (akp _ hy);obtain⟨v,w1,w2,w3,w4⟩:=UK N N d.cP m (by omega) d2 d1;rw[Aj,tK,tK];unfold N2;rw[w1,akf,show decide ((v:Int)>(m:Int))= !decide (v<=m)from j5 v m];by_cases J:d.bo.length<=12
  ·rw[akX J];by_cases h2:d.cO.length<=12
   ·rw[akX h2];by_cases h3:v<=m
    ·rw[akX h3];have:=Py N d _ _ ih J h2 N 0 (Nat.zero_le _) (by omega);rw[akP]at this;refine Bt.mono this fun⟨g1,g2⟩ y hy=> ?_;rcases akK.1 hy with rfl|hy
     ·exact⟨J,h2,g2,λz hz=>(w4 h3 z hz).mono hm⟩
     ·exact g1 y hy
    ·rw[akY h3];exact⟨true,rfl,λh=>by cases h⟩
   ·rw[akY h2];exact⟨true,rfl,λh=>by cases h⟩
  ·rw[akY J];exact⟨true,rfl,λh=>by cases h⟩
theorem PR(N m:Nat)(hm:m<=400)(hN:1000<N)(p:aZ)(hd:∀d∈p.aU,jX pA d.cP/\SizeOf.sizeOf d.cP<N):∀(l:ak4 eV)(k:Nat),Bt ((∀d∈p.aU,Eu d)/\∀x∈l,x.bo.length<=12/\∀y∈x.bo,y.xL.length<=20) (GN N (m:Int) p l k)
 |[],_=>(Wr N m hm hN p.aU 0 hd).mono λg=>⟨g,λ_ h=>by cases h⟩
 |x::l,k=>by
  obtain⟨b,b1,b2⟩:=SV N x.bo 0;rw[GN,tK];unfold NX;rw[b1,akf];by_cases h:x.bo.length<=12
  ·rw[akX h];cases b with
   |true=>exact⟨true,rfl,λh=>by cases h⟩
   |false=>
    refine(PR N m hm hN p hd l (k+1)).mono fun⟨g1,g2⟩=>⟨g1,λy hy=> ?_⟩;rcases akK.1 hy with rfl|hy
    ·exact⟨h,b2 rfl⟩
    ·exact g2 y hy
  ·rw[akY h];exact⟨true,rfl,λh=>by cases h⟩
theorem Vv(N m:Nat)(hm:m<=400)(hN:1000<N)(p:aZ)(hd:∀d∈p.aU,jX pA d.cP/\SizeOf.sizeOf d.cP<N):∀(l:ak4 gr)(k:Nat),Bt (((∀d∈p.aU,Eu d)/\∀x∈p.bu,x.bo.length<=12/\∀y∈x.bo,y.xL.length<=20)/\∀c∈l,c.bO.xL.length<=20) (Hn N (m:Int) p l k)
 |[],_=>(PR N m hm hN p hd p.bu 0).mono λg=>⟨g,λ_ h=>by cases h⟩
 |c::l,k=>by
  rw[Hn,Mt];by_cases h:c.bO.xL.length<=20
  ·rw[akX h];refine(Vv N m hm hN p hd l (k+1)).mono fun⟨g1,g2⟩=>⟨g1,λy hy=> ?_⟩;rcases akK.1 hy with rfl|hy
   ·exact h
   ·exact g2 y hy
  ·rw[akY h];exact⟨true,rfl,λh=>by cases h⟩
theorem ahY(N m:Nat)(hm:m<=400)(hN:1000<N)(p:aZ)(hd:∀d∈p.aU,jX pA d.cP/\SizeOf.sizeOf d.cP<N):Bt (G4 p) (BF N p (m:Int)):=by
 unfold BF;rw[tK,tK,tK,tK,tK];by_cases J:p.bE.length<=12
 ·by_cases h2:p.dL.length<=12
  ·by_cases h3:p.bu.length<=12
   ·by_cases h4:p.aU.length<=12
    ·by_cases h5:p.dU.length<=12
     ·rw[akX J,akX h2,akX h3,akX h4,akX h5];exact(Vv N m hm hN p hd p.dL 0).mono fun⟨⟨g1,g2⟩,g3⟩=>⟨J,h2,h3,h4,h5,g3,g2,g1⟩
     ·rw[akX J,akX h2,akX h3,akX h4,akY h5];exact⟨true,rfl,λh=>by cases h⟩
    ·rw[akX J,akX h2,akX h3,akY h4];exact⟨true,rfl,λh=>by cases h⟩
   ·rw[akX J,akX h2,akY h3];exact⟨true,rfl,λh=>by cases h⟩
  ·rw[akX J,akY h2];exact⟨true,rfl,λh=>by cases h⟩
 ·rw[akY J];exact⟨true,rfl,λh=>by cases h⟩
theorem aba(n:Nat):C8 (n+3000)=some true:=by kernel_rfl
theorem adJ{N:Nat}(h:3000<=N):C8 N=some true:=by
 obtain⟨n,rfl⟩:∃n,N=n+3000:=⟨N-3000,by omega⟩;exact aba n
theorem Qh(N:Nat)(m:ak4 aX)(n:Int):∀(l:ak4 aX)(k:Nat),∃b,EO N m n l k=some b/\(b=true->(m.length:Int)<=n)
 |[],k=>⟨_,rfl,λh=>by rw[decide_eq_true_eq]at h;exact h⟩
 |x::l,k=>by
  rw[EO];obtain⟨b,J,h2⟩:=Qh N m n l (k+1);cases decide ((x.aF.size:Int)>100)with
  |true=>exact⟨false,rfl,λh=>by cases h⟩
  |false=>exact⟨b,J,h2⟩
theorem aid(N:Nat)(m:ak4 aX)(n:Int):∃b,OP N m n=some b/\(b=true->(m.length:Int)<=n):=Qh N m n m 0
theorem jX.mM{B:Nat}(hB:B<=100000){e:ay}(h:jX B e):mM e:=λy hy=>
 have hm:100000<=maxLen:=by decide
 have H:=h y hy
 ⟨aky (aky H.mC hB) hm,λx hx=>⟨aky (aky (H.each x hx).mC hB) hm,λl hl=>aky (aky ((H.each x hx).HT l hl) hB) hm⟩,aky (aky H.args hB) hm⟩
end Go.Proofs.YtnnapanbbbcalaaGreatDoor
