/-
  Part 14 of the proof: PQ5.
-/
import Derived.Test.YtdchibpnjpnkoaaGreatDoorPp13
namespace Go.Proofs.YtdchibpnjpnkoaaGreatDoor
open Go.RowKit
set_option maxRecDepth 100000
set_option maxHeartbeats 0
set_option linter.unusedVariables false
def Dm(N:Nat)(cF:asn (aso×Int))(v1:bp):asn aso->Nat->Int->asp (Int×Int)
 |[],_,_=>
  some ((0:Int),(0:Int))
 |qo::A0,v24,v28=>
  bif ((hJ cF qo 0) !=2)then
   some (v28,(9:Int))
  else
   bif (decide (((v24:Int)).toNat<=v1.dz.length))then
   Option.bind (Aw N ((v1.dz.take ((v24:Int)).toNat).drop 0) qo) λW9=>
   bif W9 then
    some (v28,(8:Int))
   else
    (λagc=>Dm N cF v1 A0 (v24+1) agc) (aI (v28+(1:Int)))
   else none
def Ae(N:Nat)(v1:bp):asn bR->Nat->Int->(asn (aso×Int))->asp (Int×Int)
 |[],_,cM,cF=>
  Dm N cF v1 v1.dz 0 cM
 |_::v21,aR,cM,cF=>
  Option.bind (I9 N (aR:Int) v1 cF) λv30=>
  bif (v30.1 !=0)then
   some (cM,v30.1)
  else
   (λzB aqa=>Ae N v1 v21 (aR+1) zB aqa) (aI (cM+(1:Int))) v30.2
def A5(N:Nat)(v1:bp):asn dh->Nat->Int->(asn (aso×Int))->asp (Int×Int)
 |[],_,bK,bC=>
  Ae N v1 v1.aU 0 bK bC
 |aV::bt,v12,bK,bC=>
  (HZ N aV v1 bC).bind λv31=>
  bif (v31.1 !=0)then
   some (bK,v31.1)
  else
   (λnQ GJ=>A5 N v1 bt (v12+1) nQ GJ) (aI (bK+(1:Int))) v31.2
def E6(N:Nat)(v1:bp)(v7:asn (aso×Int)):asn di->Nat->asp (Int×Int)
 |[],_=>
  A5 N v1 v1.bA 0 (2:Int) v7
 |v10::v11,v8=>
  (L2 N v10 v1 v7).bind λSi=>
  bif (Si !=0)then
   some ((1:Int),Si)
  else
   (E6 N v1 v7 v11 (v8+1))
def LO(N:Nat)(v1:bp):asn aso->Nat->(asn (aso×Int))->asp (Int×Int)
 |[],_,v7=>
  E6 N v1 v7 v1.dj 0
 |v5::v6,v3,v7=>
  Option.bind (Bg N v5 (1:Int) v1 v7) λE1=>
  bif (E1.1 !=0)then
   some ((0:Int),E1.1)
  else
   (λcD=>LO N v1 v6 (v3+1) cD) E1.2
def Mf(N:Nat)(v1:bp):asp (Int×Int):=
 (K5 N v1).bind λv2=>
 bif v2 then
  LO N v1 v1.bO 0 []
 else
  some ((0:Int),(2:Int))
def tc(v1:bp)(v7:asn (aso×Int))(l:asn ao):asn ao:= .cells (dH v1).cells:: .map (eI v7):: .cells (ff v1 [(.mp 1)])::l
theorem ao5{N v1}:KO 19 [(dH v1)] (λr=> .aX [(aw r.1),(aw r.2)]) (Mf N v1):=
 fw Tryz.func19 (aq λv2 h1=>gA [[],[(4,cK aom h1)]] (eg λh2=>gA [[f0 (bV h2)],[],[(7,oL v1.bO gC)]] (gT kM 27 v1.bO λh4=>iy 1 [] [1,4,27,28,29] 3 (λv3(v7:asn (aso×Int))=>⟨115,[(1,(.ptr 0 0)),(4,(.ptr 2 0)),(27,(.d (.sl (cb v1.bO)))),(28,(aw (v1.bO.length:Int))),(29,(aw (v3:Int)))],(tc v1 v7 [])⟩) (λv3 v7 h5 f1=>gA [[],[f0 (b5 h5)],[(7,oL v1.dj mE)]] (gT EE 41 v1.dj λh7=>dO 2 [] [1,4,41,42,43] 3 (λv8=>⟨115,[(1,(.ptr 0 0)),(4,(.ptr 2 0)),(41,(.d (.sl (fa v1.dj)))),(42,(aw (v1.dj.length:Int))),(43,(aw (v8:Int)))],(tc v1 v7 [])⟩) (λv8 h8 f2=>gA [[],[f0 (b5 h8)],[],[(7,oL v1.bA kN)]] (gT xW 55 v1.bA λaK=>Mq 3 [] [1,4,11,55,56,57] 3 (λv12(bK:Int)(bC:asn (aso×Int))=>⟨115,[(1,(.ptr 0 0)),(4,(.ptr 2 0)),(11,(aw bK)),(55,(.d (.sl (fY v1.bA)))),(56,(aw (v1.bA.length:Int))),(57,(aw (v12:Int)))],(tc v1 bC [])⟩) (λv12 bK bC aL f3=>gA [[],[f0 (b5 aL)],[(7,oL v1.aU ji)]] (gB vM 0 3 v1.aU λbu=>Mq 4 [] [1,4,11,73,74] 3 (λaR(cM:Int)(cF:asn (aso×Int))=>⟨115,[(1,(.ptr 0 0)),(4,(.ptr 2 0)),(11,(aw cM)),(73,(aw (v1.aU.length:Int))),(74,(aw (aR:Int)))],(tc v1 cF [])⟩) (λaR cM cF bf f4=>gA [[],[f0 (b5 bf)],[(7,oL v1.dz gC)]] (gT kM 88 v1.dz λbm=>iy 5 [] [1,4,11,88,89,90] 3 (λv24(v28:Int)=>⟨115,[(1,(.ptr 0 0)),(4,(.ptr 2 0)),(11,(aw v28)),(88,(.d (.sl (cb v1.dz)))),(89,(aw (v1.dz.length:Int))),(90,(aw (v24:Int)))],(tc v1 cF [])⟩) (λv24 v28 bQ f5=>gR [[],[f0 (b5 bQ)],[]]) (λv24 qo A0 v28 bQ f5 hf5=>gA [[],[t0 (bU bQ)],[(4,oE (na (ba bQ)))],[(17,⟨_,_, .eq (FQ false cF qo)⟩)]] (aP λcA=>cO λcv=>aq λW9 b8=>gA [[f0 cA],[(10,⟨_,_, .sub (xs:=cb v1.dz) (lo:=0) (hi:=(v24:Int)) (by decide) (Nat.zero_le _) (of_decide_eq_true (asf (Int.natCast_nonneg _))) (by rw[gC];exact(of_decide_eq_true cv)) CA RF⟩),(16,cK Xl b8)]] (aP λcJ=>gb hf5 (aI (v28+(1:Int))) [[f0 cJ],[],[(2,oq (ca bQ rfl bm))]] bQ))))) (λaR v20 v21 cM cF bf f4 lY=>aq λv30 cS=>gA [[],[t0 (bU bf)],[],[(7,oR [(.ptr 2 0),(aw (aR:Int))] (tc v1 cF []) [2,1] (aop _ cS))],[]] (aP λdw=>gb lY ((aI (cM+(1:Int))),v30.2) [[f0 dw],[],[(2,oq (ca bf rfl bu))]] bf)))) (λv12 aV bt bK bC aL f3 iI=>aq λv31 eC=>gA [[],[t0 (bU aL)],[(1,oE (lT (ba aL)))],[(7,oR [(.ptr 2 0),(tp aV)] (tc v1 bC [.cells (tp aV).cells]) [2,1] (aqV _ eC))],[]] (aP λfF=>gb iI ((aI (bK+(1:Int))),v31.2) [[f0 fF],[],[(2,oq (ca aL rfl aK))]] aL)))) (λv8 v10 v11 h8 f2 dI=>aq λSi im=>gA [[],[t0 (bU h8)],[(1,oE (BD (ba h8)))],[(7,oQ [(.ptr 2 0),(pM v10)] (tc v1 v7 [.cells (pM v10).cells]) [2,1] (aeU _ im))],[]] (aP λfu=>gb dI () [[f0 fu],[(2,oq (ca h8 rfl h7))]] h8)))) (λv3 v5 v6 v7 h5 f1 aD=>aq λE1 gw=>gA [[],[t0 (bU h5)],[(1,oE (na (ba h5)))],[(7,oR [(.ptr 2 0),(bq v5),(aw (1:Int))] (tc v1 v7 []) [2,1] (QZ _ gw))],[]] (aP λmD=>gb aD E1.2 [[f0 mD],[(2,oq (ca h5 rfl h4))]] h5)))))
def uG(N:Nat)(v2:(asn aso)×(asn di)×(asn dh)×Nat×(asn aso)×(asn bR)):Nat->Int->Int->(asn bR)->asp (bp×Int)
 |0,_,_,_=>none
 |v4+1,v5,v6,v7=>
  bif (decide (v6<(v2.2.2.2.1:Int)))then
   bif (Nat.beq v7.length v2.2.2.2.1)then
   bif (decide ((0:Int)<=v6))then
   Option.bind (v7[(v6).toNat]?) λv8=>
   (E9 N v8.ay v8.cr).bind λv9=>
   (λcD gy ta=>uG N v2 v4 cD gy ta) (aI (v5+v9.2)) (aI (v6+(1:Int))) (v7.set ((v6).toNat) (⟨v8.aC,v8.ay,v8.bI,v8.cl,v8.dy,v9.1⟩:bR))
   else none
   else none
  else
   bif (Nat.beq v7.length v2.2.2.2.1)then
   some ((⟨v2.1,v2.2.1,v2.2.2.1,v7,v2.2.2.2.2.1⟩:bp),v5)
   else none
def RY(N:Nat)(v1:bp):asp (bp×Int):=
 (Fz N v1).bind λv2=>
 (Mf N v1).bind λv3=>
 bif (v3.2 !=0)then
  bif (Nat.beq v2.2.2.2.2.2.length v2.2.2.2.1)then
  some ((⟨v2.1,v2.2.1,v2.2.2.1,v2.2.2.2.2.2,v2.2.2.2.2.1⟩:bp),(0:Int))
  else none
 else
  bif (Nat.beq v2.2.2.2.2.2.length v2.2.2.2.1)then
  uG N v2 N (0:Int) (0:Int) v2.2.2.2.2.2
  else none
theorem alz{N v1}:KO 6 [(dH v1)] (λr=> .aX [(dH r.1),(aw r.2)]) (RY N v1):=
 fw Tryz.func6 (aq λv2 h1=>aq λv3 h2=>gA [[],[(4,oX og (aac (afd (aac (acC (acC (ua (xs:=(v2.2.2.2.2.2.map gq)) og)))))) [(dH v1)] [.cells (dH v1).cells, .cells L1] [] (apR h1))],[(4,cK ao5 h2)],[]] (au (λh3=>cO λh4=>gA [[t0 h3]] (li (λ_=>(xn [2,4] 7 (fO v2.2.2.2.2.2) v2.2.2.2.1 2 53 22 [.iX (v2.2.2.2.2.2.map gq)] (uY (arM h4)) (o0 _) (vh (λ_=>rfl) _) ·)) (gR [[]]))) λh3=>cO λh5=>aqf 1 [[f0 h3],[],[(7,⟨_,_, .pr .no (iL (f:=gq) (arM h5))⟩)]] [2,4,7,24,25] 9 [] [(1,0),(1,1),(1,2),(1,3),(1,4)] (λ(v5:Int)(v6:Int)(v7:(asn bR))=>⟨54,[(2,(.ptr 1 0)),(4,(.ptr 8 0)),(7,(aw v5)),(24,(aw (v2.2.2.2.1:Int))),(25,(aw v6))],[.cells (dH v1).cells, .cells L1, .gone, .cells [(.d (.sl (cb v2.1))),(.own 5 (fa v2.2.1)),(.own 6 (fY v2.2.2.1)),(.vec 7 0 v2.2.2.2.1 v2.2.2.2.1 22),(.d (.sl (cb v2.2.2.2.2.1)))], .gone, .front 38 3 v2.2.1.length, .front 43 7 v2.2.2.1.length, .vec 53 22 (bn (v7.map gq)), .cells [(.d (.sl (cb v2.1))),(.own 5 (fa v2.2.1)),(.own 6 (fY v2.2.2.1)),(.vec 7 0 v2.2.2.2.1 v2.2.2.2.1 22),(.d (.sl (cb v2.2.2.2.2.1)))]]⟩) (uG N v2) (λv4 v5 v6 v7 f1 aD=>gA [[]] (au (λh6=>cO λh7=>cO λh8=>aq λv8 h9=>aq λv9 aK=>RJ aD ((aI (v5+v9.2)),(aI (v6+(1:Int))),(v7.set ((v6).toNat) (⟨v8.aC,v8.ay,v8.bI,v8.cl,v8.dy,v9.1⟩:bR))) [[t0 h6],[],[(10,⟨_,_, .pr (.ix ((v6).toNat)) (mj (iL (f:=gq) (arM h7)) (of_decide_eq_true h8) (of_decide_eq_true h6) rfl)⟩)],[(4,⟨_,_, .pr .no trivial⟩),(7,⟨_,_, .pr .no trivial⟩),(10,⟨_,_, .pr (.el ((gq v8).map AV.d)) (zq (f:=gq) (arM h7) h9)⟩),(16,⟨_,_, .pr .no trivial⟩),(19,⟨_,_, .pr .no trivial⟩),(22,⟨_,_, .pr (.el ((gq v8).map AV.d)) (zq (f:=gq) (arM h7) h9)⟩),(25,cK abu aK)],[(7,⟨_,_, .pr .no trivial⟩),(10,⟨_,_, .pr .no trivial⟩),(13,⟨_,_, .pr (.st ((gq v8).map AV.d) (bn ((v7.set ((v6).toNat) (⟨v8.aC,v8.ay,v8.bI,v8.cl,v8.dy,v9.1⟩:bR)).map gq))) (wO (f:=gq) (j:=9) (y:=(⟨v8.aC,v8.ay,v8.bI,v8.cl,v8.dy,v9.1⟩:bR)) (zs:=[(aw v9.1.ar),(bq v9.1.aC),(aW v9.1.bD.xN),(aW v9.1.bD.xD),(aw v9.1.ay.aO),(aw v9.1.ay.bo),(aw v9.1.ay.bE),(aw v9.1.ay.bN),(aw v9.1.ay.bM),(aW v9.1.aM.xK),(.d (.sl (cz v9.1.aM.xL))),(.d (.sl (cU v9.1.xIdx))),(.d (.sl (dn v9.1.ax)))]) (arM h7) h9 rfl)⟩)],[],[]] (dS:=[.iX ((v7.set ((v6).toNat) (⟨v8.aC,v8.ay,v8.bI,v8.cl,v8.dy,v9.1⟩:bR)).map gq)])) λh6=>cO λaL=>gA [[f0 h6]] (li (λ_=>(xn [2,4,7] 7 (fO v7) v2.2.2.2.1 2 53 22 [.iX (v7.map gq)] (uY (arM aL)) (o0 _) (vh (λ_=>rfl) _) ·)) (gR [[]])))) (dS:=[.iX (v2.2.2.2.2.2.map gq)])))
def OV(N:Nat):asp ((asn aso)):=
 some [(bs [115,105,122,101]),(bs [119,104,101,114,101]),(bs [105,110]),(bs [100,101,102]),(bs [111,117,116]),(bs [115,117,109]),(bs [112,114,111,100]),(bs [109,105,110]),(bs [109,97,120]),(bs [115,99,97,110]),(bs [111,118,101,114]),(bs [105,102]),(bs [99,97,115,116]),(bs [102,114,97,99]),(bs [105,110,116]),(bs [102,105,120]),(bs [99,101,105,108]),(bs [102,108,111,111,114]),(bs [122,101,114,111]),(bs [101,118,101,110]),(bs [115,97,116]),(bs [119,114,97,112])]
theorem agP{N}:KO 162 [] (λr=> .d (.sl (cb r))) (OV N):=
 fw Tryz.func162 (gR [[],[]])
def HN(N:Nat)(v2:aso):asn aso->Nat->asp Bool
 |[],_=>
  some false
 |v5::v6,v3=>
  bif (bL v5==bL v2)then
   some true
  else
   (HN N v2 v6 (v3+1))
def wD(N:Nat)(v1:asn aso)(v2:aso):asp Bool:=
 HN N v2 v1 0
theorem GU{N v1 v2}:KO 50 [(.d (.sl (cb v1))),(bq v2)] az (wD N v1 v2):=
 fw Tryz.func50 (gA [[],[]] (gT kM 0 v1 λh2=>dO 1 [] [0,1,5] 0 (λv3=>⟨18,[(0,(.d (.sl (cb v1)))),(1,(bq v2)),(5,(aw (v3:Int)))],[]⟩) (λv3 h3 f1=>gR [[(7,oL v1 gC)],[f0 (b5 h3)],[]]) (λv3 v5 v6 h3 f1 aD=>gA [[(7,oL v1 gC)],[t0 (bU h3)],[(7,oE (na (ba h3)))]] (aP λh4=>gb aD () [[f0 h4],[(5,oq (ca h3 rfl h2))]] h3))))
def BC(N:Nat)(v1:aso):Nat->Int->asp Bool
 |0,_=>none
 |v5+1,v6=>
  bif (decide (v6<(v1.size:Int)))then
   bif (decide ((0:Int)<=v6))then
   Option.bind (v1[(v6).toNat]?) λv7=>
   Option.bind (bif (decide ((v7.toNat:Int)>=97))then(bif (decide ((v7.toNat:Int)<=122))then some (!true)else(bif (decide (v6>0))then(bif (decide ((v7.toNat:Int)>=48))then(bif (decide ((v7.toNat:Int)<=57))then some (!true)else some (!((v7.toNat:Int)==95)))else some (!((v7.toNat:Int)==95)))else some (!false)))else(bif (decide (v6>0))then(bif (decide ((v7.toNat:Int)>=48))then(bif (decide ((v7.toNat:Int)<=57))then some (!true)else some (!((v7.toNat:Int)==95)))else some (!((v7.toNat:Int)==95)))else some (!false))) λv8=>
   bif v8 then
    some false
   else
    (λcD=>BC N v1 v5 cD) (aI (v6+(1:Int)))
   else none
  else
   some true
def xw(N:Nat)(v1:aso):asp Bool:=
 Option.bind (bif (decide ((v1.size:Int)<1))then some true else(bif (decide ((v1.size:Int)>16))then some true else (OV N).bind λv2=>
 (wD N v2 v1).bind λv3=>
 some v3)) λv4=>
 bif v4 then
  some false
 else
  BC N v1 N (0:Int)
theorem Ma{N v1}:KO 120 [(bq v1)] az (xw N v1):=
 fw Tryz.func120 (gA [[]] (gG (λv4=>[(17,(az v4))]) (λ_=>[]) (au (λh1=>gE [(3,bT h1),(8,bT rfl)] []) λh1=>aY (3,bF h1) (au (λh2=>gE [(8,bT h2)] []) λh2=>aq λv2 h3=>aq λv3 h4=>gE [(8,bF h2)] [(28,cK agP h3),(34,cK GU h4)])) λv4=>aP λh6=>M4 1 [[f0 h6],[]] [0,3] 0 (λ(v6:Int)=>⟨50,[(0,(bq v1)),(3,(aw v6))],[]⟩) (BC N v1) (λv5 v6 f1 aD=>gA [[]] (fp λh7=>cO λh9=>aq λv7 h8=>gA [[t0 h7],[(7,⟨_,_, .ch (i:=v6) (of_decide_eq_true h9) h8⟩)]] (gG (λv8=>[(49,(az v8))]) (λ_=>[]) (au (λaK=>aY (2,bT aK) (au (λaL=>gE [(6,bT aL),(9,uN),(12,uN),(16,uN)] []) λaL=>aY (6,bF aL) (au (λaT=>aY (9,bT aT) (bz (61,bT aT) (au (λbu=>aY (12,bT bu) (bz (46,bT bu) (au (λbf=>gE [(16,bT bf)] [(58,bT bf)]) λbf=>gE [(16,bF bf)] [(58,bF bf)]))) λbu=>gE [(12,bF bu),(16,bF rfl)] [(46,bF bu),(58,bF rfl)]))) λaT=>gE [(9,bF aT),(12,uN),(16,uN)] [(61,bF aT)]))) λaK=>aY (2,bF aK) (aY (6,bF rfl) (au (λa7=>aY (9,bT a7) (bz (61,bT a7) (au (λbm=>aY (12,bT bm) (bz (46,bT bm) (au (λbQ=>gE [(16,bT bQ)] [(58,bT bQ)]) λbQ=>gE [(16,bF bQ)] [(58,bF bQ)]))) λbm=>gE [(12,bF bm),(16,bF rfl)] [(46,bF bm),(58,bF rfl)]))) λa7=>gE [(9,bF a7),(12,uN),(16,uN)] [(61,bF a7)]))) λv8=>aP λcv=>zc aD (aI (v6+(1:Int))) [[f0 cv],[]])))))
def xA(N:Nat)(v1:aso)(v2:asn aso):asp Int:=
 (xw N v1).bind λv3=>
 bif v3 then
  (wD N v2 v1).bind λv4=>
  bif v4 then
   some (8:Int)
  else
   some (0:Int)
 else
  some (7:Int)
theorem IT{N v1 v2}:KO 75 [(bq v1),(.d (.sl (cb v2)))] aw (xA N v1 v2):=
 fw Tryz.func75 (aq λv3 h1=>gA [[],[(4,cK Ma h1)]] (eg λh2=>aq λv4 h3=>gA [[f0 (bV h2)],[(7,cK GU h3)]] (aP λh4=>gR [[f0 h4],[]])))
def Lc(N:Nat)(v1:bp):asn aso->Nat->asp Int
 |[],_=>
  some (0:Int)
 |v5::v6,v3=>
  bif (decide (((v3:Int)).toNat<=v1.bO.length))then
  Option.bind (xA N v5 ((v1.bO.take ((v3:Int)).toNat).drop 0)) λv7=>
  bif (v7 !=0)then
   some v7
  else
   (Lc N v1 v6 (v3+1))
  else none
def TD(N:Nat)(v1:bp):asp Int:=
 Option.bind (bif (decide ((v1.bO.length:Int)>64))then some true else(bif (decide ((v1.bA.length:Int)>64))then some true else(bif (decide ((v1.aU.length:Int)>64))then some true else(bif (decide ((v1.dz.length:Int)>64))then some true else some (decide ((v1.dj.length:Int)>256)))))) λv2=>
 bif v2 then
  some (2:Int)
 else
  Lc N v1 v1.bO 0
theorem apt{N v1}:KO 45 [(dH v1)] aw (TD N v1):=
 fw Tryz.func45 (gA [[]] (gG (λv2=>[(32,(az v2))]) (λ_=>[.cells (dH v1).cells]) (bz (7,oL v1.bO gC) (au (λh1=>gE [(4,bT h1),(10,bT rfl),(16,bT rfl),(22,bT rfl)] []) λh1=>aY (4,bF h1) (bz (22,oL v1.bA kN) (au (λh2=>gE [(10,bT h2),(16,bT rfl),(22,bT rfl)] []) λh2=>aY (10,bF h2) (bz (40,oL v1.aU ji) (au (λh3=>gE [(16,bT h3),(22,bT rfl)] []) λh3=>aY (16,bF h3) (bz (58,oL v1.dz gC) (au (λh4=>gE [(22,bT h4)] []) λh4=>gE [(22,bF h4)] [(76,oL v1.dj mE)])))))))) λv2=>dM λ_=>gB kM 0 0 v1.bO λh8=>dO 1 [] [1,3] 1 (λv3=>⟨53,[(1,(.ptr 0 0)),(3,(aw (v3:Int)))],[.cells (dH v1).cells]⟩) (λv3 h9 f1=>gR [[(10,oL v1.bO gC)],[f0 (b5 h9)],[]]) (λv3 v5 v6 h9 f1 aD=>cO λaK=>aq λv7 aL=>gA [[(10,oL v1.bO gC)],[t0 (bU h9)],[(10,oE (na (ba h9))),(25,⟨_,_, .sub (xs:=cb v1.bO) (lo:=0) (hi:=(v3:Int)) (by decide) (Nat.zero_le _) (of_decide_eq_true (asf (Int.natCast_nonneg _))) (by rw[gC];exact(of_decide_eq_true aK)) CA RF⟩),(28,cK IT aL)],[]] (aP λaT=>gb aD () [[f0 aT],[(5,oq (ca h9 rfl h8))]] h9))))
def Jq(N:Nat)(v1:aH):asn bB->Nat->asp Bool
 |[],_=>
  some true
 |v4::v5,v2=>
  (xw N v4.aC).bind λv6=>
  Option.bind (bif v6 then(bif (v4.dE.toInt==0)then some true else(bif (decide ((v2:Int)>0))then bif (decide ((0:Int)<=(aI ((v2:Int)-(1:Int)))))then
  Option.bind (v1.xL[((aI ((v2:Int)-(1:Int)))).toNat]?) λv7=>
  some (!(Op.bytesLess (bL v7.aC) (bL v4.aC)))
  else none else some false))else some true) λv8=>
  bif v8 then
   some false
  else
   (Jq N v1 v5 (v2+1))
def u7(N:Nat)(v1:aH):asp Bool:=
 Jq N v1 v1.xL 0
theorem Bu{N v1}:KO 76 [(bZ v1)] az (u7 N v1):=
 fw Tryz.func76 (gA [[],[]] (gB mV 0 1 v1.xL λh2=>dO 1 [] [1,3] 1 (λv2=>⟨48,[(1,(.ptr 0 0)),(3,(aw (v2:Int)))],[.cells (bZ v1).cells]⟩) (λv2 h3 f1=>gR [[(10,oL v1.xL dL)],[f0 (b5 h3)],[]]) (λv2 v4 v5 h3 f1 aD=>gA [[(10,oL v1.xL dL)],[t0 (bU h3)]] (aq λv6 h4=>gG (λv8=>[(47,(az v8))]) (λ_=>[.cells (bZ v1).cells]) (bz (10,oE (ga (ba h3))) (bz (19,cK Ma h4) (au (λh5=>aY (8,bF (bV h5)) (bz (37,oE (ga (ba h3))) (au (λh6=>gE [(17,bT h6),(20,uN)] []) λh6=>aY (17,bF h6) (au (λh7=>cO λh9=>aq λv7 h8=>gE [(20,bT h7)] [(76,⟨_,_, .el (xs:=cz v1.xL) (i:=(aI ((v2:Int)-(1:Int)))) (of_decide_eq_true h9) (ga h8)⟩),(94,oE (ga (ba h3))),(106,bT h7)]) λh7=>gE [(20,bF h7)] [(106,bF h7)])))) λh5=>gE [(8,bT (cx h5)),(17,bT rfl),(20,uN)] []))) λv8=>aP λaL=>gb aD () [[f0 aL],[(5,oq (ca h3 rfl h2))]] h3))))
def LD(N:Nat)(v2:asn aso)(v3:asn aso):asn bB->Nat->asp Bool
 |[],_=>
  some true
 |v6::v7,v4=>
  (wD N v2 v6.aC).bind λv8=>
  Option.bind (bif v8 then some false else (wD N v3 v6.aC).bind λv9=>
  some (!v9)) λv10=>
  bif v10 then
   some false
  else
   (LD N v2 v3 v7 (v4+1))
def C4(N:Nat)(v1:aH)(v2:asn aso)(v3:asn aso):asp Bool:=
 LD N v2 v3 v1.xL 0
theorem Qb{N v1 v2 v3}:KO 77 [(bZ v1),(.d (.sl (cb v2))),(.d (.sl (cb v3)))] az (C4 N v1 v2 v3):=
 fw Tryz.func77 (gA [[],[]] (gB mV 0 1 v1.xL λh2=>dO 1 [] [1,2,3,7] 1 (λv4=>⟨35,[(1,(.d (.sl (cb v2)))),(2,(.d (.sl (cb v3)))),(3,(.ptr 0 0)),(7,(aw (v4:Int)))],[.cells (bZ v1).cells]⟩) (λv4 h3 f1=>gR [[(10,oL v1.xL dL)],[f0 (b5 h3)],[]]) (λv4 v6 v7 h3 f1 aD=>gA [[(10,oL v1.xL dL)],[t0 (bU h3)]] (aq λv8 h4=>gG (λv10=>[(34,(az v10))]) (λ_=>[.cells (bZ v1).cells]) (bz (13,oE (ga (ba h3))) (bz (22,cK GU h4) (au (λh5=>gE [(9,bF (bV h5))] []) λh5=>aq λv9 h6=>gE [(9,bT (cx h5))] [(43,oE (ga (ba h3))),(52,cK GU h6)]))) λv10=>aP λh8=>gb aD () [[f0 h8],[(5,oq (ca h3 rfl h2))]] h3))))
def g_brocaderef17_form(N:Nat)(v1:aH)(v2:asn aso):asp Int:=
 (u7 N v1).bind λv3=>
 bif v3 then
  Option.bind (C4 N v1 [] v2) λv4=>
  bif v4 then
   some (0:Int)
  else
   some (9:Int)
 else
  some (1:Int)
theorem Tj{N v1 v2}:KO 46 [(bZ v1),(.d (.sl (cb v2)))] aw (g_brocaderef17_form N v1 v2):=
 fw Tryz.func46 (aq λv3 h1=>gA [[],[(4,cK Bu h1)]] (eg λh2=>aq λv4 h3=>gA [[f0 (bV h2)],[(7,cK Qb h3)]] (m0 λh4=>gR [[t0 (cx h4)],[]])))
def mT(N:Nat)(v1:aE):asp Bool:=
 Option.bind (bif (v1.aO==1)then some true else some (v1.aO==3)) λv2=>
 bif v2 then
  Option.bind (bif (v1.bo==0)then(bif (v1.bE==0)then(bif (v1.bN==0)then some (v1.bM==0)else some false)else some false)else some false) λv3=>
  some v3
 else
  Option.bind (bif (v1.aO==2)then(bif (decide (v1.bo>=2))then(bif (decide (v1.bo<=31))then(bif (decide (v1.bE>=0))then(bif (decide (v1.bE<=30))then(bif (decide (v1.bN>=1))then(bif (decide (v1.bN<=4))then(bif (v1.bM==1)then some true else some (v1.bM==2))else some false)else some false)else some false)else some false)else some false)else some false)else some false) λv4=>
  some v4
theorem pD{N v1}:KO 78 [(bY v1)] az (mT N v1):=
 fw Tryz.func78 (gA [[]] (gG (λv2=>[(10,(az v2))]) (λ_=>[.cells (bY v1).cells]) (au (λh1=>gE [(3,bT h1)] []) λh1=>gE [(3,bF h1)] []) λv2=>au (λh3=>gA [[t0 h3]] (gG (λv3=>[(2,(az v3))]) (λ_=>[.cells (bY v1).cells]) (au (λh4=>aY (3,bT h4) (au (λh5=>aY (8,bT h5) (au (λh6=>gE [(13,bT h6)] []) λh6=>gE [(13,bF h6)] [])) λh5=>gE [(8,bF h5),(13,bF rfl)] [])) λh4=>gE [(3,bF h4),(8,bF rfl),(13,bF rfl)] []) λv3=>gR [])) λh3=>gA [[f0 h3]] (gG (λv4=>[(2,(az v4))]) (λ_=>[.cells (bY v1).cells]) (au (λh8=>aY (3,bT h8) (au (λh9=>aY (8,bT h9) (au (λaK=>aY (13,bT aK) (au (λaL=>aY (18,bT aL) (au (λaT=>aY (23,bT aT) (au (λbu=>aY (28,bT bu) (au (λbf=>aY (33,bT bf) (au (λa7=>gE [(37,bT a7)] [(124,bT a7)]) λa7=>gE [(37,bF a7)] [(124,bF a7)])) λbf=>gE [(33,bF bf),(37,uN)] [])) λbu=>gE [(28,bF bu),(33,bF rfl),(37,uN)] [])) λaT=>gE [(23,bF aT),(28,bF rfl),(33,bF rfl),(37,uN)] [])) λaL=>gE [(18,bF aL),(23,bF rfl),(28,bF rfl),(33,bF rfl),(37,uN)] [])) λaK=>gE [(13,bF aK),(18,bF rfl),(23,bF rfl),(28,bF rfl),(33,bF rfl),(37,uN)] [])) λh9=>gE [(8,bF h9),(13,bF rfl),(18,bF rfl),(23,bF rfl),(28,bF rfl),(33,bF rfl),(37,uN)] [])) λh8=>gE [(3,bF h8),(8,bF rfl),(13,bF rfl),(18,bF rfl),(23,bF rfl),(28,bF rfl),(33,bF rfl),(37,uN)] []) λv4=>gR [])))
def Kb(N:Nat)(v2:asn aso):asn aH->Nat->asp Int
 |[],_=>
  some (0:Int)
 |v8::v9,v6=>
  (g_brocaderef17_form N v8 v2).bind λv10=>
  bif (v10 !=0)then
   some v10
  else
   (Kb N v2 v9 (v6+1))
def MJ(N:Nat)(v1:dh)(v2:asn aso)(v3:asn aso):asp Int:=
 (xA N v1.aC v3).bind λv4=>
 bif (v4 !=0)then
  some v4
 else
  (mT N v1.ay).bind λv5=>
  bif v5 then
   bif (decide ((v1.bI.length:Int)>6))then
    some (11:Int)
   else
    Kb N v2 v1.bI 0
  else
   some (10:Int)
theorem aqC{N v1 v2 v3}:KO 47 [(tp v1),(.d (.sl (cb v2))),(.d (.sl (cb v3)))] aw (MJ N v1 v2 v3):=
 fw Tryz.func47 (aq λv4 h1=>gA [[],[(10,cK IT h1)],[]] (aP λh2=>aq λv5 h3=>gA [[f0 h2],[(7,cK pD h3)]] (eg λh4=>gA [[f0 (bV h4)],[(7,oL v1.bI dR)]] (dM λ_=>gB od 0 6 v1.bI λh7=>dO 1 [] [1,3,8] 1 (λv6=>⟨42,[(1,(.d (.sl (cb v2)))),(3,(.ptr 0 0)),(8,(aw (v6:Int)))],[.cells (tp v1).cells]⟩) (λv6 h8 f1=>gR [[(10,oL v1.bI dR)],[f0 (b5 h8)],[]]) (λv6 v8 v9 h8 f1 aD=>aq λv10 h9=>gA [[(10,oL v1.bI dR)],[t0 (bU h8)],[(10,oE (kT (ba h8))),(19,cK Tj h9)],[]] (aP λaK=>gb aD () [[f0 aK],[(5,oq (ca h8 rfl h7))]] h8))))))
def M7(N:Nat)(v2:asn aso):asn cT->Nat->(asn aso)->asp Int
 |[],_,_=>
  some (0:Int)
 |v5::v6,v3,v7=>
  (xA N v5.aC v7).bind λv8=>
  bif (v8 !=0)then
   some v8
  else
   (g_brocaderef17_form N v5.eZ v2).bind λv9=>
   bif (v9 !=0)then
    some v9
   else
    bif (Nat.ble ((v7.length+1)*16) 140737488355328)then
    (λcD=>M7 N v2 v6 (v3+1) cD) (v7++[v5.aC])
    else none
def Jk(N:Nat)(v1:asn cT)(v2:asn aso):asp Int:=
 bif (Nat.ble ((0+v2.length)*16) 140737488355328)then
 M7 N v2 v1 0 v2
 else none
theorem aga{N v1 v2}:KO 79 [(.d (.sl (eV v1))),(.d (.sl (cb v2)))] aw (Jk N v1 v2):=
 fw Tryz.func79 (cO λh1=>gA [[],[(7,oZ kM v2 h1)],[]] (gT m9 0 v1 λh3=>iy 1 [] [0,1,5,6] 1 (λv3(v7:asn aso)=>⟨46,[(0,(.d (.sl (eV v1)))),(1,(.d (.sl (cb v2)))),(5,(.own 0 (cb v7))),(6,(aw (v3:Int)))],[.front 9 1 v7.length]⟩) (λv3 v7 h4 f1=>gR [[(7,oL v1 fE)],[f0 (b5 h4)],[]]) (λv3 v5 v6 v7 h4 f1 aD=>aq λv8 h5=>gA [[(7,oL v1 fE)],[t0 (bU h4)],[(7,oE (mK (ba h4))),(19,cK IT h5)],[]] (aP λh6=>aq λv9 h7=>gA [[f0 h6],[(7,oE (mK (ba h4))),(19,cK Tj h7)],[]] (aP λh8=>cO λh9=>gb aD (v7++[v5.aC]) [[f0 h8],[(10,oE (mK (ba h4))),(22,oA kM v7 ([v5.aC]) h9)],[(5,oq (ca h4 rfl h3))]] h4)))))
def Jd(N:Nat)(v1:bR):asp Int:=
 Option.bind (bif (decide (v1.dy<0))then some true else some (decide (v1.dy>5))) λv2=>
 bif v2 then
  some (1:Int)
 else
  Option.bind (bif (v1.dy==0)then some true else some (v1.dy==5)) λv3=>
  Option.bind (bif (v3==((v1.cl.length:Int)==0))then(bif (v1.dy==5)then some ((v1.bI.length:Int)==0)else some false)else some true) λv4=>
  bif v4 then
   some (11:Int)
  else
   some (0:Int)
theorem akj{N v1}:KO 80 [(gN v1)] aw (Jd N v1):=
 fw Tryz.func80 (gA [[]] (gG (λv2=>[(11,(az v2))]) (λ_=>[.cells (gN v1).cells]) (au (λh1=>gE [(3,bT h1)] []) λh1=>gE [(3,bF h1)] []) λv2=>aP λh3=>gA [[f0 h3]] (gG (λv3=>[(3,(az v3))]) (λ_=>[.cells (gN v1).cells]) (au (λh4=>gE [(3,bT h4)] []) λh4=>gE [(3,bF h4)] []) λv3=>gG (λv4=>[(36,(az v4))]) (λ_=>[.cells (gN v1).cells]) (bz (10,oL v1.cl fE) (au (λh6=>aY (6,bF (bV h6)) (au (λh7=>gE [(10,bT h7)] [(40,oL v1.bI fE),(46,bT h7)]) λh7=>gE [(10,bF h7)] [(46,bF h7)])) λh6=>gE [(6,bT (cx h6)),(10,uN)] [])) λv4=>aP λh9=>gR [[f0 h9],[]])))
def Fv(N:Nat):asn cT->Nat->(asn aso)->asp ((asn aso))
 |[],_,v11=>
  some v11
 |v9::v10,v7,v11=>
  bif (Nat.ble ((v11.length+1)*16) 140737488355328)then
  (λiP=>Fv N v10 (v7+1) iP) (v11++[v9.aC])
  else none
def HC(N:Nat)(v1:bR):asn cT->Nat->(asn aso)->asp ((asn aso))
 |[],_,v6=>
  Fv N v1.cl 0 v6
 |v4::v5,v2,v6=>
  bif (Nat.ble ((v6.length+1)*16) 140737488355328)then
  (λcD=>HC N v1 v5 (v2+1) cD) (v6++[v4.aC])
  else none
def HV(N:Nat)(v1:bR):asp ((asn aso)):=
 HC N v1 v1.bI 0 []
theorem aih{N v1}:KO 82 [(gN v1)] (λr=> .d (.sl (cb r))) (HV N v1):=
 fw Tryz.func82 (gA [[],[],[]] (li (λ_=>(vQ 3 9 1 [] (.inr (by kernel_rfl)) ·)) (gB m9 0 6 v1.bI λh2=>iy 1 [] [1,3,4] 2 (λv2(v6:asn aso)=>⟨39,[(1,(.ptr 0 0)),(3,(.own 1 (cb v6))),(4,(aw (v2:Int)))],[.cells (gN v1).cells, .front 9 1 v6.length]⟩) (λv2 v6 h3 f1=>gA [[(10,oL v1.bI fE)],[f0 (b5 h3)],[]] (gB m9 0 7 v1.cl λh5=>iy 2 [] [1,3,5] 2 (λv7(v11:asn aso)=>⟨39,[(1,(.ptr 0 0)),(3,(.own 1 (cb v11))),(5,(aw (v7:Int)))],[.cells (gN v1).cells, .front 9 1 v11.length]⟩) (λv7 v11 h6 f2=>gR [[(10,oL v1.cl fE)],[f0 (b5 h6)],[]]) (λv7 v9 v10 v11 h6 f2 dI=>cO λh7=>gb dI (v11++[v9.aC]) [[(10,oL v1.cl fE)],[t0 (bU h6)],[(13,oE (mK (ba h6))),(25,oA kM v11 ([v9.aC]) h7)],[(5,oq (ca h6 rfl h5))]] h6))) (λv2 v4 v5 v6 h3 f1 aD=>cO λh8=>gb aD (v6++[v4.aC]) [[(10,oL v1.bI fE)],[t0 (bU h3)],[(13,oE (mK (ba h3))),(25,oA kM v6 ([v4.aC]) h8)],[(5,oq (ca h3 rfl h2))]] h3))))
def AN(N:Nat)(v2:Int)(WC:an->Int->asp Int):asn an->Nat->Int->asp Int
 |[],_,v7=>
  some v7
 |v5::v6,v3,v7=>
  bif (decide (v2>1))then
   Option.bind (WC v5 (aI (v2-(1:Int)))) λv8=>
   (λcD=>AN N v2 WC v6 (v3+1) cD) (if(aI ((1:Int)+v8))>v7 then(aI ((1:Int)+v8))else v7)
  else
   some v7
def qK(N:Nat):Nat->an->Int->asp Int
 |0,_,_=>none
 |d+1,v1,v2=>
  AN N v2 (qK N d) v1.ax 0 (1:Int)
def R0(N:Nat)(v1:an)(v2:Int):asp Int:=qK N N v1 v2
theorem ahi(N:Nat):∀d:Nat,(∀{v1:an}{v2:Int},KO 165 [(aA v1),(aw v2)] aw (qK N d v1 v2)):=by
 intro d
 induction d with
 |zero=>intro v1 v2 r hF;rw[qK]at hF;cases hF
 |succ d ih=>
  have akp:= @ih;intro v1 v2;rw[qK];exact fw Tryz.func165 (gA [[],[],[]] (gB lR 0 12 v1.ax λh2=>iy 1 [] [1,2,5,6] 1 (λv3(v7:Int)=>⟨30,[(1,(aw v2)),(2,(.ptr 0 0)),(5,(aw v7)),(6,(aw (v3:Int)))],[.cells (aA v1).cells]⟩) (λv3 v7 h3 f1=>gR [[(10,oL v1.ax dZ),(18,bF (b5 h3)),(21,bF (b5 h3)),(25,bF (b5 h3))],[(0,bF rfl)],[]]) (λv3 v5 v6 v7 h3 f1 aD=>gA [[(10,oL v1.ax dZ),(18,bT (bU h3)),(21,bT (bU h3)),(25,bT (bU h3))]] (fp λh4=>aq λv8 h5=>gb aD (if(aI ((1:Int)+v8))>v7 then(aI ((1:Int)+v8))else v7) [[(0,bT h4)],[(13,oE (bx (ba h3))),(25,cK akp h5)],[(5,oq (ca h3 rfl h2))]] h3))))
theorem akq{N v1 v2}:KO 165 [(aA v1),(aw v2)] aw (R0 N v1 v2):=(ahi N N)
def S5(N:Nat)(v1:an):asp Int:=
 Option.bind (R0 N v1 (41:Int)) λv2=>
 some v2
theorem aqb{N v1}:KO 123 [(aA v1)] aw (S5 N v1):=
 fw Tryz.func123 (aq λv2 h1=>gR [[],[(4,cK akq h1)]])
def Ec(N:Nat)(v2:Int)(ZJ:an->Int->asp Int):asn an->Nat->Int->asp Int
 |[],_,v7=>
  some v7
 |v5::v6,v3,v7=>
  bif (decide (v7<=v2))then
   Option.bind (ZJ v5 (aI (v2-v7))) λv8=>
   (λcD=>Ec N v2 ZJ v6 (v3+1) cD) (aI (v7+v8))
  else
   some v7
def tP(N:Nat):Nat->an->Int->asp Int
 |0,_,_=>none
 |d+1,v1,v2=>
  Ec N v2 (tP N d) v1.ax 0 (1:Int)
def R3(N:Nat)(v1:an)(v2:Int):asp Int:=tP N N v1 v2
theorem ajf(N:Nat):∀d:Nat,(∀{v1:an}{v2:Int},KO 166 [(aA v1),(aw v2)] aw (tP N d v1 v2)):=by
 intro d
 induction d with
 |zero=>intro v1 v2 r hF;rw[tP]at hF;cases hF
 |succ d ih=>
  have akm:= @ih;intro v1 v2;rw[tP];exact fw Tryz.func166 (gA [[],[],[]] (gB lR 0 12 v1.ax λh2=>iy 1 [] [1,2,5,6] 1 (λv3(v7:Int)=>⟨31,[(1,(aw v2)),(2,(.ptr 0 0)),(5,(aw v7)),(6,(aw (v3:Int)))],[.cells (aA v1).cells]⟩) (λv3 v7 h3 f1=>gR [[(10,oL v1.ax dZ),(18,bF (b5 h3)),(21,bF (b5 h3)),(24,bF (b5 h3)),(28,bF (b5 h3))],[(0,bF rfl)],[]]) (λv3 v5 v6 v7 h3 f1 aD=>gA [[(10,oL v1.ax dZ),(18,bT (bU h3)),(21,bT (bU h3)),(24,bT (bU h3)),(28,bT (bU h3))]] (fp λh4=>aq λv8 h5=>gb aD (aI (v7+v8)) [[(0,bT h4)],[(13,oE (bx (ba h3))),(28,cK akm h5)],[(5,oq (ca h3 rfl h2))]] h3))))
theorem arb{N v1 v2}:KO 166 [(aA v1),(aw v2)] aw (R3 N v1 v2):=(ajf N N)
def OI(N:Nat)(v1:an):asp Int:=
 Option.bind (R3 N v1 (2000:Int)) λv2=>
 some (if(2001:Int)<v2 then(2001:Int)else v2)
theorem akr{N v1}:KO 124 [(aA v1)] aw (OI N v1):=
 fw Tryz.func124 (aq λv2 h1=>gR [[],[(4,cK arb h1)]])
def Ng(N:Nat):asn aZ->Nat->asp Bool
 |[],_=>
  some true
 |v7::v8,v5=>
  Option.bind (bif (bL v7.bS==bL (bs []))then(bif (decide ((v7.bH.length:Int)>0))then some true else some false)else(bif (v7.aM.xK.toInt !=0)then some true else some (decide ((v7.aM.xL.length:Int)>0)))) λv9=>
  bif v9 then
   some false
  else
   (Ng N v8 (v5+1))
def H7(N:Nat)(v1:an):asp Bool:=
 Option.bind (bif (decide (v1.ar<1))then some true else some (decide (v1.ar>18))) λv2=>
 bif v2 then
  some false
 else
  Option.bind (bif (v1.ar !=1)then(bif ((v1.bD.xN.toInt==(0:Int64).toInt)&&((v1.bD.xD.toInt==(0:Int64).toInt)&&true))then(bif (v1.ar !=12)then some (!((v1.ay.aO==0)&&((v1.ay.bo==0)&&((v1.ay.bE==0)&&((v1.ay.bN==0)&&((v1.ay.bM==0)&&true))))))else some false)else some true)else some false) λv3=>
  bif v3 then
   some false
  else
   Option.bind (bif (v1.ar !=2)then(bif (v1.aM.xK.toInt !=0)then some true else(bif (decide ((v1.aM.xL.length:Int)>0))then some true else(bif (v1.ar !=3)then(bif (bL v1.aC==bL (bs []))then some (decide ((v1.xIdx.length:Int)>0))else some true)else some false)))else(bif (v1.ar !=3)then(bif (bL v1.aC==bL (bs []))then some (decide ((v1.xIdx.length:Int)>0))else some true)else some false)) λv4=>
   bif v4 then
    some false
   else
    Ng N v1.xIdx 0
def Gs(v1:an)(l:asn ao):asn ao:= .cells (aA v1).cells::l
theorem ajk{N v1}:KO 167 [(aA v1)] az (H7 N v1):=
 fw Tryz.func167 (gA [[]] (gG (λv2=>[(12,(az v2))]) (λ_=>(Gs v1 [])) (au (λh1=>gE [(3,bT h1)] []) λh1=>gE [(3,bF h1)] []) λv2=>aP λh3=>gA [[f0 h3]] (gG (λv3=>[(37,(az v3))]) (λ_=>(Gs v1 [])) (au (λh4=>aY (3,bT h4) (au (λh5=>aY (9,bF (bV h5)) (aY (13,bT h4) (bz (52,bT h4) (au (λh6=>gE [(18,bT h6)] [(70,bT h6)]) λh6=>gE [(18,bF h6)] [(70,bF h6)])))) λh5=>gE [(9,bT (cx h5)),(13,uN),(18,uN)] [])) λh4=>gE [(3,bF h4),(9,bF rfl),(13,bF h4),(18,bF rfl)] [(52,bF h4),(70,bF rfl)]) λv3=>aP λh8=>gA [[f0 h8]] (gG (λv4=>[(69,(az v4))]) (λ_=>(Gs v1 [])) (au (λh9=>aY (3,bT h9) (au (λaK=>gE [(8,bT aK),(16,bT rfl),(20,uN),(24,uN)] [(43,bT aK)]) λaK=>aY (8,bF aK) (bz (37,oL v1.aM.xL dL) (bz (43,bF aK) (au (λaL=>gE [(16,bT aL),(20,uN),(24,uN)] []) λaL=>aY (16,bF aL) (au (λaT=>aY (20,bT aT) (bz (91,bT aT) (au (λbu=>gE [(24,bF (bV bu))] [(82,oL v1.xIdx eD),(88,bF (bV bu))]) λbu=>gE [(24,bT (cx bu))] [(88,bT (cx bu))]))) λaT=>gE [(20,bF aT),(24,uN)] [(91,bF aT)])))))) λh9=>aY (3,bF h9) (aY (8,uN) (aY (16,bF rfl) (au (λbf=>aY (20,bT bf) (bz (91,bT bf) (au (λa7=>gE [(24,bF (bV a7))] [(82,oL v1.xIdx eD),(88,bF (bV a7))]) λa7=>gE [(24,bT (cx a7))] [(88,bT (cx a7))]))) λbf=>gE [(20,bF bf),(24,uN)] [(91,bF bf)])))) λv4=>dM λ_=>gB nf 0 11 v1.xIdx λcv=>dO 1 [] [1,3] 1 (λv5=>⟨109,[(1,(.ptr 0 0)),(3,(aw (v5:Int)))],(Gs v1 [])⟩) (λv5 b8 f1=>gR [[(10,oL v1.xIdx eD)],[f0 (b5 b8)],[]]) (λv5 v7 v8 b8 f1 aD=>gA [[(10,oL v1.xIdx eD)],[t0 (bU b8)],[(10,oE (gX (ba b8)))]] (gG (λv9=>[(108,(az v9))]) (λ_=>(Gs v1 [.cells (aIndex v7).cells])) (au (λcJ=>aY (3,bT cJ) (bz (19,oL v7.bH dR) (au (λcS=>gE [(9,bT cS),(13,uN),(18,uN)] []) λcS=>gE [(9,bF cS),(13,bF (bV cJ)),(18,uN)] [(76,bF (bV cJ))]))) λcJ=>aY (3,bF cJ) (aY (9,bF rfl) (aY (13,bT (cx cJ)) (bz (76,bT (cx cJ)) (au (λdw=>gE [(18,bT dw)] [(73,bT dw)]) λdw=>gE [(18,bF dw)] [(67,oL v7.aM.xL dL),(73,bF dw)]))))) λv9=>aP λfF=>gb aD () [[f0 fF],[(5,oq (ca b8 rfl cv))]] b8))))))
def Im(N:Nat):asn aZ->Nat->asp Bool
 |[],_=>
  some true
 |v6::v7,v4=>
  Option.bind (bif (bL v6.bS==bL (bs []))then some false else (xw N v6.bS).bind λv8=>
  some (!v8)) λv9=>
  bif v9 then
   some false
  else
   (Im N v7 (v4+1))
def IF(N:Nat)(v1:an):asp Bool:=
 Option.bind (bif (v1.ar==3)then (xw N v1.aC).bind λv2=>
 some (!v2)else some false) λv3=>
 bif v3 then
  some false
 else
  Im N v1.xIdx 0
theorem ajr{N v1}:KO 168 [(aA v1)] az (IF N v1):=
 fw Tryz.func168 (gA [[]] (gG (λv3=>[(12,(az v3))]) (λ_=>[.cells (aA v1).cells]) (au (λh1=>aq λv2 h2=>gE [(3,bT h1)] [(19,cK Ma h2)]) λh1=>gE [(3,bF h1)] []) λv3=>dM λ_=>gB nf 0 11 v1.xIdx λh6=>dO 1 [] [1,3] 1 (λv4=>⟨37,[(1,(.ptr 0 0)),(3,(aw (v4:Int)))],[.cells (aA v1).cells]⟩) (λv4 h7 f1=>gR [[(10,oL v1.xIdx eD)],[f0 (b5 h7)],[]]) (λv4 v6 v7 h7 f1 aD=>gA [[(10,oL v1.xIdx eD)],[t0 (bU h7)]] (gG (λv9=>[(36,(az v9))]) (λ_=>[.cells (aA v1).cells]) (bz (10,oE (gX (ba h7))) (au (λh8=>gE [(7,bF (bV h8))] []) λh8=>aq λv8 h9=>gE [(7,bT (cx h8))] [(34,oE (gX (ba h7))),(43,cK Ma h9)])) λv9=>aP λaL=>gb aD () [[f0 aL],[(5,oq (ca h7 rfl h6))]] h7))))
def Ez(N:Nat)(v1:Int)(v3:Bool):asp Int:=
 bif v3 then
  some (1:Int)
 else
  bif (v1==11)then
   some (3:Int)
  else
   some (2:Int)
def Ej(N:Nat)(v1:Int)(v2:Bool):asp Int:=
 bif v2 then
  some (0:Int)
 else
  bif (v1==8)then
   Ez N v1 (v1==8)
  else
   bif (v1==12)then
    Ez N v1 (v1==12)
   else
    Ez N v1 (v1==18)
def JL(N:Nat)(v1:Int):asp Int:=
 bif (v1==1)then
  Ej N v1 (v1==1)
 else
  bif (v1==2)then
   Ej N v1 (v1==2)
  else
   Ej N v1 (v1==3)
theorem ang{N v1}:KO 207 [(aw v1)] aw (JL N v1):=
 fw Tryz.func207 (ir 1 [[],[],[]] [3,4] 0 (λ(v2:Bool)=>⟨14,[(3,(aw v1)),(4,(az v2))],[]⟩) (Ej N v1) (λf1 aD=>au (λh6=>gm aD (v1==1) [[t0 h6]]) λh6=>gA [[f0 h6],[]] (au (λh7=>gm aD (v1==2) [[t0 h7]]) λh7=>gm aD (v1==3) [[f0 h7],[]])) (λv2=>aP λh1=>ir 2 [[f0 h1],[]] [3,8] 0 (λ(v3:Bool)=>⟨14,[(3,(aw v1)),(8,(az v3))],[]⟩) (Ez N v1) (λf2 dI=>au (λh4=>gm dI (v1==8) [[t0 h4]]) λh4=>gA [[f0 h4],[]] (au (λh5=>gm dI (v1==12) [[t0 h5]]) λh5=>gm dI (v1==18) [[f0 h5],[]])) (λv3=>dM λ_=>aP λh3=>gR [[f0 h3],[]])))
def Mv(N:Nat):asn aZ->Nat->asp Bool
 |[],_=>
  some true
 |v6::v7,v4=>
  bif (decide ((v6.bH.length:Int)>6))then
   some false
  else
   (Mv N v7 (v4+1))
def L7(N:Nat)(v1:an):asp Bool:=
 (JL N v1.ar).bind λv2=>
 Option.bind (bif ((v1.ax.length:Int) !=v2)then some true else some (decide ((v1.xIdx.length:Int)>6))) λv3=>
 bif v3 then
  some false
 else
  Mv N v1.xIdx 0
theorem ao6{N v1}:KO 169 [(aA v1)] az (L7 N v1):=
 fw Tryz.func169 (gA [[]] (aq λv2 h1=>gG (λv3=>[(16,(az v3))]) (λ_=>[.cells (aA v1).cells]) (bz (7,oL v1.ax dZ) (bz (16,cK ang h1) (au (λh2=>gE [(7,bT h2)] []) λh2=>gE [(7,bF h2)] [(31,oL v1.xIdx eD)]))) λv3=>dM λ_=>gB nf 0 11 v1.xIdx λh6=>dO 1 [] [1,3] 1 (λv4=>⟨32,[(1,(.ptr 0 0)),(3,(aw (v4:Int)))],[.cells (aA v1).cells]⟩) (λv4 h7 f1=>gR [[(10,oL v1.xIdx eD)],[f0 (b5 h7)],[]]) (λv4 v6 v7 h7 f1 aD=>gA [[(10,oL v1.xIdx eD)],[t0 (bU h7)],[(10,oE (gX (ba h7))),(19,oL v6.bH dR)]] (aP λh8=>gb aD () [[f0 h8],[(5,oq (ca h7 rfl h6))]] h7))))
def A1(N:Nat)(v1:an):asp Bool:=
 Option.bind (bif (decide (v1.ar>=13))then some (decide (v1.ar<=18))else some false) λv2=>
 some v2
theorem TP{N v1}:KO 121 [(aA v1)] az (A1 N v1):=
 fw Tryz.func121 (gA [[]] (gG (λv2=>[(2,(az v2))]) (λ_=>[.cells (aA v1).cells]) (au (λh1=>gE [(3,bT h1)] []) λh1=>gE [(3,bF h1)] []) λv2=>gR []))
def MA(N:Nat)(v1:Int)(v2:Int):asp Bool:=
 Option.bind (bif (v1==11)then(bif (v2==0)then some true else(bif (v1==16)then some true else(bif (v1==17)then some true else some (v1==18))))else(bif (v1==16)then some true else(bif (v1==17)then some true else some (v1==18)))) λv3=>
 some v3
theorem ag0{N v1 v2}:KO 208 [(aw v1),(aw v2)] az (MA N v1 v2):=
 fw Tryz.func208 (gA [[]] (gG (λv3=>[(4,(az v3))]) (λ_=>[]) (au (λh1=>aY (2,bT h1) (au (λh2=>gE [(6,bT h2),(10,bT rfl),(14,bT rfl)] []) λh2=>aY (6,bF h2) (au (λh3=>gE [(10,bT h3),(14,bT rfl)] []) λh3=>aY (10,bF h3) (au (λh4=>gE [(14,bT h4)] []) λh4=>gE [(14,bF h4)] [])))) λh1=>aY (2,bF h1) (aY (6,bF rfl) (au (λh5=>gE [(10,bT h5),(14,bT rfl)] []) λh5=>aY (10,bF h5) (au (λh6=>gE [(14,bT h6)] []) λh6=>gE [(14,bF h6)] [])))) λv3=>gR []))
def Lz(N:Nat)(v1:an):asn an->Nat->asp Bool
 |[],_=>
  some true
 |v7::v8,v5=>
  (A1 N v7).bind λv9=>
  Option.bind (MA N v1.ar (v5:Int)) λv10=>
  bif (v9==v10)then
   (Lz N v1 v8 (v5+1))
  else
   some false
def ML(N:Nat)(v1:an):asp Bool:=
 Option.bind (bif (v1.ar==1)then (mT N v1.ay).bind λv2=>
 some (!v2)else(bif (v1.ar==12)then (mT N v1.ay).bind λv3=>
 some (!v3)else some false)) λv4=>
 bif v4 then
  some false
 else
  Lz N v1 v1.ax 0
theorem agr{N v1}:KO 170 [(aA v1)] az (ML N v1):=
 fw Tryz.func170 (gA [[]] (gG (λv4=>[(17,(az v4))]) (λ_=>[.cells (aA v1).cells]) (au (λh1=>aq λv2 h2=>gE [(3,bT h1),(8,bT rfl)] [(34,cK pD h2)]) λh1=>aY (3,bF h1) (au (λh3=>aq λv3 h4=>gE [(8,bT h3)] [(34,cK pD h4)]) λh3=>gE [(8,bF h3)] [])) λv4=>dM λ_=>gB lR 0 12 v1.ax λh8=>dO 1 [] [1,3] 1 (λv5=>⟨36,[(1,(.ptr 0 0)),(3,(aw (v5:Int)))],[.cells (aA v1).cells]⟩) (λv5 h9 f1=>gR [[(10,oL v1.ax dZ)],[f0 (b5 h9)],[]]) (λv5 v7 v8 h9 f1 aD=>aq λv9 aK=>aq λv10 aL=>gA [[(10,oL v1.ax dZ)],[t0 (bU h9)],[(10,oE (bx (ba h9))),(16,cK TP aK),(28,cK ag0 aL)]] (eg λaT=>gb aD () [[f0 (bV aT)],[(5,oq (ca h9 rfl h8))]] h9))))
def DB(N:Nat):Nat->Int64->Int64->asp Int64
 |0,_,_=>none
 |v3+1,v4,v5=>
  bif (v5.toInt !=0)then
   (λcD gy=>DB N v3 cD gy) v5 (Int64.ofInt ((v4.toInt).tmod v5.toInt))
  else
   some v4
def Rm(N:Nat)(v1:Int64)(v2:Int64):asp Int64:=
 DB N N v1 v2
theorem aiX{N v1 v2}:KO 259 [(aW v1),(aW v2)] aW (Rm N v1 v2):=
 fw Tryz.func259 (So 1 [[]] [0,1] 0 (λ(v4:Int64)(v5:Int64)=>⟨12,[(0,(aW v4)),(1,(aW v5))],[]⟩) (DB N) (λv3 v4 v5 f1 aD=>gA [[]] (fp λh1=>zc aD (v5,(Int64.ofInt ((v4.toInt).tmod v5.toInt))) [[t0 h1],[(10,⟨_,_, .nz (b:=v5.toInt) (bne_iff_ne.1 h1)⟩),(11,⟨_,_, .eq (JM v4 v5.toInt)⟩)]])))
def pn(N:Nat)(v1:aE)(v2:aG):asp Bool:=
 bif (v1.aO==2)then
  bif (decide ((0:Int)<=(aI (v1.bo-(1:Int)))))then
  Option.bind (bif (v2.xD.toInt==1)then(bif (decide (v2.xN.toInt>=(-(Int64.ofInt ((1:Int)*2^(min ((aI (v1.bo-(1:Int)))).toNat (IntKind.bits .i64))))).toInt))then some (decide (v2.xN.toInt<(Int64.ofInt ((1:Int)*2^(min ((aI (v1.bo-(1:Int)))).toNat (IntKind.bits .i64)))).toInt))else some false)else some false) λv3=>
  some v3
  else none
 else
  Option.bind (bif (decide (v2.xN.toInt>2147483647))then some true else(bif (decide (v2.xN.toInt<(-2147483647:Int)))then some true else(bif (decide (v2.xD.toInt<1))then some true else some (decide (v2.xD.toInt>2147483647))))) λv4=>
  bif v4 then
   some false
  else
   bif (v1.aO==3)then
    some (v2.xD.toInt==1)
   else
    Option.bind (Rm N (qQ v2.xN (-v2.xN)) v2.xD) λv5=>
    some (v5.toInt==1)
theorem xt{N v1 v2}:KO 209 [(bY v1),(a8 v2)] az (pn N v1 v2):=
 fw Tryz.func209 (gA [[],[]] (au (λh1=>cO λh2=>gA [[t0 h1],[(10,⟨_,_, .nn (b:=(aI (v1.bo-(1:Int)))) (of_decide_eq_true h2)⟩),(11,⟨_,_, .eq (fM ((1:Int)*2^(min ((aI (v1.bo-(1:Int)))).toNat (IntKind.bits .i64))))⟩)]] (gG (λv3=>[(4,(az v3))]) (λ_=>[.cells (bY v1).cells, .cells (a8 v2).cells]) (au (λh3=>aY (3,bT h3) (bz (23,⟨_,_, .eq (lX (Int64.ofInt ((1:Int)*2^(min ((aI (v1.bo-(1:Int)))).toNat (IntKind.bits .i64)))))⟩) (au (λh4=>gE [(10,bT h4)] []) λh4=>gE [(10,bF h4)] []))) λh3=>gE [(3,bF h3),(10,bF rfl)] []) λv3=>gR [])) λh1=>gA [[f0 h1]] (gG (λv4=>[(46,(az v4))]) (λ_=>[.cells (bY v1).cells, .cells (a8 v2).cells]) (au (λh6=>gE [(3,bT h6),(8,bT rfl),(13,bT rfl)] []) λh6=>aY (3,bF h6) (au (λh7=>gE [(8,bT h7),(13,bT rfl)] []) λh7=>aY (8,bF h7) (au (λh8=>gE [(13,bT h8)] []) λh8=>gE [(13,bF h8)] []))) λv4=>dM λ_=>aP λaL=>aq λv5 aT=>gR [[f0 aL],[(14,⟨_,_, .eq (lX v2.xN)⟩),(17,⟨_,_, .eq (Wx v2.xN (-v2.xN))⟩),(25,cK aiX aT)]])))
def NK(N:Nat)(pg:asp Bool):asn aH->Nat->asp Bool
 |[],_=>
  pg
 |aF::aV,v11=>
  (u7 N aF).bind λbt=>
  bif bt then
   (NK N pg aV (v11+1))
  else
   some false
def J2(N:Nat):asn aZ->Nat->asp Bool
 |[],_=>
  some true
 |v8::v9,v6=>
  (u7 N v8.aM).bind λv10=>
  bif v10 then
   NK N (J2 N v9 (v6+1)) v8.bH 0
  else
   some false
def Lx(N:Nat)(v1:an):asp Bool:=
 Option.bind (bif (v1.ar==1)then (pn N v1.ay v1.bD).bind λv2=>
 (bif v2 then (u7 N v1.aM).bind λv3=>
 some (!v3)else some true)else (u7 N v1.aM).bind λv4=>
 some (!v4)) λv5=>
 bif v5 then
  some false
 else
  J2 N v1.xIdx 0
theorem alc{N v1}:KO 171 [(aA v1)] az (Lx N v1):=
 fw Tryz.func171 (gA [[]] (gG (λv5=>[(21,(az v5))]) (λ_=>[.cells (aA v1).cells]) (au (λh1=>aq λv2 h2=>aY (3,bT h1) (bz (25,cK xt h2) (au (λh3=>aq λv3 h4=>gE [(11,bF (bV h3))] [(43,cK Bu h4)]) λh3=>gE [(11,bT (cx h3))] []))) λh1=>aq λv4 h5=>gE [(3,bF h1),(11,bF rfl)] [(43,cK Bu h5)]) λv5=>dM λ_=>gB nf 0 11 v1.xIdx λh9=>dO 1 [] [1,3] 1 (λv6=>⟨59,[(1,(.ptr 0 0)),(3,(aw (v6:Int)))],[.cells (aA v1).cells]⟩) (λv6 aK f1=>gR [[(10,oL v1.xIdx eD)],[f0 (b5 aK)],[]]) (λv6 v8 v9 aK f1 aD=>aq λv10 aL=>gA [[(10,oL v1.xIdx eD)],[t0 (bU aK)],[(10,oE (gX (ba aK))),(19,cK Bu aL)]] (eg λaT=>gA [[f0 (bV aT)],[]] (Sg (λ_=>(Mx 0 11 (cU v1.xIdx) (by kernel_rfl) ·)) λbu=>have bf:=sP dR (Nd (j:=3) (d:= .sl (dk v8.bH)) bu (gX (ba aK)) rfl);dO 2 [] [1,3,4] 1 (λv11=>⟨59,[(1,(.ptr 0 0)),(3,(aw (v6:Int))),(4,(aw (v11:Int)))],[.cells (aA v1).cells]⟩) (λv11 a7 f2=>gb aD () [[(13,oE (gX (ba aK))),(22,oL v8.bH dR)],[f0 (b5 a7)],[(5,oq (ca aK rfl h9))]] aK) (λv11 aF aV a7 f2 dI=>aq λbt bm=>gA [[(13,oE (gX (ba aK))),(22,oL v8.bH dR)],[t0 (bU a7)],[(10,oE (gX (ba aK))),(22,oE (kT (ba a7))),(28,cK Bu bm)]] (eg λbQ=>gb dI () [[f0 (bV bQ)],[(5,oq (ca a7 rfl bf))]] a7)))))))
def MC(N:Nat)(Ws:an->asp Int):asn an->Nat->asp Int
 |[],_=>
  some (0:Int)
 |v9::v10,v7=>
  (Ws v9).bind λv11=>
  bif (v11 !=0)then
   some v11
  else
   (MC N Ws v10 (v7+1))
def vV(N:Nat):Nat->an->asp Int
 |0,_=>none
 |d+1,v1=>
  (H7 N v1).bind λv2=>
  bif v2 then
   (IF N v1).bind λv3=>
   bif v3 then
    (L7 N v1).bind λv4=>
    bif v4 then
     (ML N v1).bind λv5=>
     bif v5 then
      (Lx N v1).bind λv6=>
      bif v6 then
       MC N (vV N d) v1.ax 0
      else
       some (1:Int)
     else
      some (10:Int)
    else
     some (11:Int)
   else
    some (7:Int)
  else
   some (5:Int)
def Pd(N:Nat)(v1:an):asp Int:=vV N N v1
theorem amv(N:Nat):∀d:Nat,(∀{v1:an},KO 125 [(aA v1)] aw (vV N d v1)):=by
 intro d
 induction d with
 |zero=>intro v1 r hF;rw[vV]at hF;cases hF
 |succ d ih=>
  have alG:= @ih;intro v1;rw[vV];exact fw Tryz.func125 (aq λv2 h1=>gA [[],[(4,cK ajk h1)]] (eg λh2=>aq λv3 h3=>gA [[(0,bF (bV h2))],[(4,cK ajr h3)]] (eg λh4=>aq λv4 h5=>gA [[(0,bF (bV h4))],[(4,cK ao6 h5)]] (eg λh6=>aq λv5 h7=>gA [[(0,bF (bV h6))],[(4,cK agr h7)]] (eg λh8=>aq λv6 h9=>gA [[(0,bF (bV h8))],[(4,cK alc h9)]] (eg λaK=>gA [[(0,bF (bV aK))],[]] (gB lR 0 12 v1.ax λaT=>dO 1 [] [1,3] 1 (λv7=>⟨41,[(1,(.ptr 0 0)),(3,(aw (v7:Int)))],[.cells (aA v1).cells]⟩) (λv7 bu f1=>gR [[(10,oL v1.ax dZ)],[(0,bF (b5 bu))],[]]) (λv7 v9 v10 bu f1 aD=>aq λv11 bf=>gA [[(10,oL v1.ax dZ)],[(0,bT (bU bu))],[(10,oE (bx (ba bu))),(16,cK alG bf)],[]] (aP λa7=>gb aD () [[(0,bF a7)],[(5,oq (ca bu rfl aT))]] bu)))))))))
theorem ah5{N v1}:KO 125 [(aA v1)] aw (Pd N v1):=(amv N N)
def Af(N:Nat)(v1:an):asp Int:=
 (S5 N v1).bind λv2=>
 bif (decide (v2>40))then
  some (13:Int)
 else
  (OI N v1).bind λv3=>
  bif (decide (v3>2000))then
   some (2:Int)
  else
   (Pd N v1).bind λv4=>
   some v4
theorem Wi{N v1}:KO 83 [(aA v1)] aw (Af N v1):=
 fw Tryz.func83 (aq λv2 h1=>gA [[],[(4,cK aqb h1)]] (aP λh2=>aq λv3 h3=>gA [[f0 h2],[(4,cK akr h3)]] (aP λh4=>aq λv4 h5=>gR [[f0 h4],[(4,cK ah5 h5)]])))
def N1(N:Nat)(v2:asn aso)(v1:bp):asn aH->Nat->asp Int
 |[],_=>
  some (0:Int)
 |v6::v7,v4=>
  (C4 N v6 v2 v1.bO).bind λv8=>
  bif v8 then
   (N1 N v2 v1 v7 (v4+1))
  else
   some (9:Int)
def K8(N:Nat)(v1:bp)(v2:asn aso)(v3:asn aH):asp Int:=
 N1 N v2 v1 v3 0
theorem VC{N v1 v2 v3}:KO 163 [(dH v1),(.d (.sl (cb v2))),(.d (.sl (dk v3)))] aw (K8 N v1 v2 v3):=
 fw Tryz.func163 (gA [[],[]] (gT od 2 v3 λh2=>dO 1 [] [1,2,3,7] 1 (λv4=>⟨23,[(1,(.d (.sl (cb v2)))),(2,(.d (.sl (dk v3)))),(3,(.ptr 0 0)),(7,(aw (v4:Int)))],[.cells (dH v1).cells]⟩) (λv4 h3 f1=>gR [[(7,oL v3 dR)],[f0 (b5 h3)],[]]) (λv4 v6 v7 h3 f1 aD=>aq λv8 h4=>gA [[(7,oL v3 dR)],[t0 (bU h3)],[(7,oE (kT (ba h3))),(22,cK Qb h4)]] (eg λh5=>gb aD () [[f0 (bV h5)],[(5,oq (ca h3 rfl h2))]] h3))))
def F5(N:Nat)(v9:bR):asn cT->Nat->(asn aH)->asp (aE×(asn aH)×Bool)
 |[],_,bt=>
  some (v9.ay,bt,true)
 |aF::aV,v11,bt=>
  bif (Nat.ble ((bt.length+1)*32) 140737488355328)then
  (λnQ=>F5 N v9 aV (v11+1) nQ) (bt++[aF.eZ])
  else none
def Jt(N:Nat)(v2:aso):asn bR->Nat->asp (aE×(asn aH)×Bool)
 |[],_=>
  some (cY,[],false)
 |v9::v10,v7=>
  bif (bL v9.aC==bL v2)then
   F5 N v9 v9.bI 0 []
  else
   (Jt N v2 v10 (v7+1))
def Hf(N:Nat)(v2:aso)(v1:bp):asn dh->Nat->asp (aE×(asn aH)×Bool)
 |[],_=>
  Jt N v2 v1.aU 0
 |v5::v6,v3=>
  bif (bL v5.aC==bL v2)then
   some (v5.ay,v5.bI,true)
  else
   (Hf N v2 v1 v6 (v3+1))
def Ht(N:Nat)(v1:bp)(v2:aso):asp (aE×(asn aH)×Bool):=
 Hf N v2 v1 v1.bA 0
def QD(v1:bp)(l:asn ao):asn ao:= .cells (dH v1).cells:: .cells qO::l
theorem OF{N v1 v2}:KO 49 [(dH v1),(bq v2)] (λr=> .aX [(bY r.1),(.d (.sl (dk r.2.1))),(az r.2.2)]) (Ht N v1 v2):=
 fw Tryz.func49 (gA [[],[]] (gB xW 0 2 v1.bA λh2=>dO 1 [] [1,2,4,7] 2 (λv3=>⟨85,[(1,(bq v2)),(2,(.ptr 0 0)),(4,(.ptr 1 0)),(7,(aw (v3:Int)))],(QD v1 [])⟩) (λv3 h3 f1=>gA [[(10,oL v1.bA kN)],[f0 (b5 h3)],[]] (gB vM 0 3 v1.aU λh5=>dO 2 [] [1,2,4,8] 2 (λv7=>⟨85,[(1,(bq v2)),(2,(.ptr 0 0)),(4,(.ptr 1 0)),(8,(aw (v7:Int)))],(QD v1 [])⟩) (λv7 h6 f2=>gR [[(10,oL v1.aU ji)],[f0 (b5 h6)],[]]) (λv7 v9 v10 h6 f2 dI=>gA [[(10,oL v1.aU ji)],[t0 (bU h6)],[(10,oE (lf (ba h6)))]] (au (λh7=>gA [[t0 h7],[],[]] (li (λ_=>(vQ 9 36 2 [] (.inr (by kernel_rfl)) ·)) (Sg (λ_=>(Mx 0 3 (fO v1.aU) (by kernel_rfl) ·)) λh8=>have h9:=sP fE (Nd (j:=6) (d:= .sl (eV v9.bI)) h8 (lf (ba h6)) rfl);iy 3 [] [2,4,8,9,10] 3 (λv11(bt:asn aH)=>⟨85,[(2,(.ptr 0 0)),(4,(.ptr 1 0)),(8,(aw (v7:Int))),(9,(.own 2 (dk bt))),(10,(aw (v11:Int)))],(QD v1 [.front 36 2 bt.length])⟩) (λv11 bt aK f3=>gR [[(13,oE (lf (ba h6))),(22,oL v9.bI fE)],[f0 (b5 aK)],[(10,oE (lf (ba h6)))]]) (λv11 aF aV bt aK f3 iI=>cO λaL=>gb iI (bt++[aF.eZ]) [[(13,oE (lf (ba h6))),(22,oL v9.bI fE)],[t0 (bU aK)],[(13,oE (lf (ba h6))),(25,oE (mK (ba aK))),(37,oA od bt ([aF.eZ]) aL)],[(5,oq (ca aK rfl h9))]] aK)))) λh7=>gb dI () [[f0 h7],[(5,oq (ca h6 rfl h5))]] h6)))) (λv3 v5 v6 h3 f1 aD=>gA [[(10,oL v1.bA kN)],[t0 (bU h3)],[(10,oE (lT (ba h3)))]] (au (λaT=>gA [[t0 aT]] (li (λ_=>(np 3 cn [(5,(.d (.sl (dk v5.bI)))),(6,(az true))] [.cells (dH v1).cells, .cells (bY v5.ay).cells] ⟨[(10,oE (lT (ba h3))),(28,oE (lT (ba h3)))],by kernel_rfl⟩ ·)) (gR []))) λaT=>gb aD () [[f0 aT],[(5,oq (ca h3 rfl h2))]] h3))))
def HF(N:Nat)(v4:aE×(asn aH)×Bool)(v2:asn aso)(v1:bp):asn aZ->Nat->asp (aE×Int)
 |[],_=>
  some (v4.1,(0:Int))
 |v7::v8,v5=>
  bif (bL v7.bS==bL (bs []))then
   (C4 N v7.aM v2 v1.bO).bind λv9=>
   bif v9 then
    (HF N v4 v2 v1 v8 (v5+1))
   else
    some (cY,(9:Int))
  else
   (Ht N v1 v7.bS).bind λv10=>
   bif v10.2.2 then
    bif (v10.1.aO !=3)then
     some (cY,(10:Int))
    else
     bif ((v10.2.1.length:Int) !=(v7.bH.length:Int))then
      some (cY,(11:Int))
     else
      (K8 N v1 v2 v7.bH).bind λv11=>
      bif (v11 !=0)then
       some (cY,v11)
      else
       (HF N v4 v2 v1 v8 (v5+1))
   else
    some (cY,(9:Int))
def Mg(N:Nat)(v1:bp)(v2:asn aso)(v3:an):asp (aE×Int):=
 (Ht N v1 v3.aC).bind λv4=>
 bif v4.2.2 then
  bif ((v4.2.1.length:Int) !=(v3.xIdx.length:Int))then
   some (cY,(11:Int))
  else
   HF N v4 v2 v1 v3.xIdx 0
 else
  some (cY,(9:Int))
theorem ah2{N v1 v2 v3}:KO 164 [(dH v1),(.d (.sl (cb v2))),(aA v3)] (λr=> .aX [(bY r.1),(aw r.2)]) (Mg N v1 v2 v3):=
 fw Tryz.func164 (aq λv4 h1=>gA [[],[(10,cK OF h1)],[]] (eg λh2=>gA [[f0 (bV h2)],[(4,oL v4.2.1 dR),(13,oL v3.xIdx eD)]] (dM λ_=>gB nf 1 11 v3.xIdx λh5=>dO 1 [] [1,3,5,6,8,11] 4 (λv5=>⟨90,[(1,(.d (.sl (cb v2)))),(3,(.ptr 0 0)),(5,(.ptr 1 0)),(6,(.ptr 2 0)),(8,(.ptr 3 0)),(11,(aw (v5:Int)))],[.cells (dH v1).cells, .cells (aA v3).cells, .cells qO, .cells (bY v4.1).cells]⟩) (λv5 h6 f1=>gR [[(10,oL v3.xIdx eD)],[f0 (b5 h6)],[]]) (λv5 v7 v8 h6 f1 aD=>gA [[(10,oL v3.xIdx eD)],[t0 (bU h6)],[(10,oE (gX (ba h6)))],[]] (au (λh7=>aq λv9 h8=>gA [[t0 h7],[(16,cK Qb h8)]] (eg λh9=>gb aD () [[f0 (bV h9)],[(5,oq (ca h6 rfl h5))]] h6)) λh7=>aq λv10 aK=>gA [[f0 h7],[(10,cK OF aK)],[]] (eg λaL=>gA [[f0 (bV aL)],[]] (aP λaT=>gA [[f0 aT],[(4,oL v10.2.1 dR),(13,oL v7.bH dR)]] (aP λbu=>aq λv11 bf=>gA [[f0 bu],[(13,cK VC bf)],[]] (aP λa7=>gb aD () [[f0 a7],[(5,oq (ca h6 rfl h5))]] h6)))))))))
def oM(N:Nat)(v3:an)(v1:bp)(v2:asn aso)(U4:bp->(asn aso)->an->asp (aE×Int)):asn an->Nat->(asn aE)->asp (aE×Int)
 |[],_,v8=>
  Option.bind (bif (v3.ar==1)then some true else some (v3.ar==12)) λv9=>
  bif v9 then
   some (v3.ay,(0:Int))
  else
   bif (v3.ar==2)then
    Option.bind (K8 N v1 v2 [v3.aM]) λv10=>
    some ((⟨(3:Int),(0:Int),(0:Int),(0:Int),(0:Int)⟩:aE),v10)
   else
    bif (v3.ar==3)then
     (Mg N v1 v2 v3).bind λv11=>
     some (v11.1,v11.2)
    else
     bif (v3.ar==11)then
      Option.bind (v8[1]?) λv12=>
      Option.bind (v8[2]?) λaF=>
      bif ((v12.aO==aF.aO)&&((v12.bo==aF.bo)&&((v12.bE==aF.bE)&&((v12.bN==aF.bN)&&((v12.bM==aF.bM)&&true)))))then
       some (v12,(0:Int))
      else
       some (cY,(10:Int))
     else
      bif (v3.ar==8)then
       Option.bind (v8[0]?) λaV=>
       some (aV,(0:Int))
      else
       bif (decide (v3.ar>=16))then
        some (cY,(0:Int))
       else
        Option.bind (v8[0]?) λbt=>
        Option.bind (v8[1]?) λbK=>
        bif ((bt.aO==bK.aO)&&((bt.bo==bK.bo)&&((bt.bE==bK.bE)&&((bt.bN==bK.bN)&&((bt.bM==bK.bM)&&true)))))then
         bif (decide (v3.ar>=13))then
          some (cY,(0:Int))
         else
          some (bt,(0:Int))
        else
         some (cY,(10:Int))
 |v6::v7,v4,v8=>
  (U4 v1 v2 v6).bind λbC=>
  bif (bC.2 !=0)then
   some (cY,bC.2)
  else
   bif (Nat.ble ((v8.length+1)*40) 140737488355328)then
   (λcD=>oM N v3 v1 v2 U4 v7 (v4+1) cD) (v8++[bC.1])
   else none
def sQ(N:Nat):Nat->bp->(asn aso)->an->asp (aE×Int)
 |0,_,_,_=>none
 |d+1,v1,v2,v3=>
  oM N v3 v1 v2 (sQ N d) v3.ax 0 []
def DY(N:Nat)(v1:bp)(v2:asn aso)(v3:an):asp (aE×Int):=sQ N N v1 v2 v3
theorem aj4(N:Nat):∀d:Nat,(∀{v1:bp}{v2:asn aso}{v3:an},KO 122 [(dH v1),(.d (.sl (cb v2))),(aA v3)] (λr=> .aX [(bY r.1),(aw r.2)]) (sQ N d v1 v2 v3)):=by
 intro d
 induction d with
 |zero=>intro v1 v2 v3 r hF;rw[sQ]at hF;cases hF
 |succ d ih=>
  have aha:= @ih;intro v1 v2 v3;rw[sQ];exact fw Tryz.func122 (gA [[],[],[]] (li (λ_=>(vQ 8 40 5 [] (.inr (by kernel_rfl)) ·)) (gB lR 1 12 v3.ax λh2=>iy 1 [] [1,3,5,6,8,9] 4 (λv4(v8:asn aE)=>⟨112,[(1,(.d (.sl (cb v2)))),(3,(.ptr 0 0)),(5,(.ptr 1 0)),(6,(.ptr 2 0)),(8,(.own 3 (nE v8))),(9,(aw (v4:Int)))],[.cells (dH v1).cells, .cells (aA v3).cells, .cells qO, .front 40 5 v8.length]⟩) (λv4 v8 h3 f1=>gA [[(10,oL v3.ax dZ)],[(0,bF (b5 h3))]] (gG (λv9=>[(38,(az v9))]) (λ_=>[.cells (dH v1).cells, .cells (aA v3).cells, .cells qO, .front 40 5 v8.length]) (au (λh4=>gE [(3,bT h4)] []) λh4=>gE [(3,bF h4)] []) λv9=>dM λ_=>au (λh7=>aq λv10 h8=>gR [[(0,bT h7)],[(19,cK VC h8)]]) λh7=>gA [[(0,bF h7)],[]] (au (λh9=>aq λv11 aK=>gR [[(0,bT h9)],[(10,cK ah2 aK)]]) λh9=>gA [[(0,bF h9)],[]] (au (λaL=>aq λv12 aT=>aq λaF bu=>gA [[(0,bT aL)],[(4,oE (k:=1) (lF aT)),(13,oE (k:=2) (lF bu))]] (eg λbf=>gR [[(0,bF (bV bf))],[(4,oE (k:=1) (lF aT))]])) λaL=>gA [[(0,bF aL)],[]] (au (λa7=>aq λaV bm=>gR [[(0,bT a7)],[(4,oE (k:=0) (lF bm))]]) λa7=>gA [[(0,bF a7)],[]] (aP λbQ=>aq λbt cA=>aq λbK cv=>gA [[(0,bF bQ)],[(4,oE (k:=0) (lF cA)),(13,oE (k:=1) (lF cv))]] (eg λb8=>gA [[(0,bF (bV b8))],[]] (aP λcJ=>gR [[(0,bF cJ)],[(4,oE (k:=0) (lF cA))]])))))))) (λv4 v6 v7 v8 h3 f1 aD=>aq λbC cS=>gA [[(10,oL v3.ax dZ)],[(0,bT (bU h3))],[(16,oE (bx (ba h3))),(22,cK aha cS)],[]] (aP λdw=>cO λeC=>gb aD (v8++[bC.1]) [[(0,bF dw)],[(10,oA Vq v8 ([bC.1]) eC)],[(5,oq (ca h3 rfl h2))]] h3)))))
theorem aqF{N v1 v2 v3}:KO 122 [(dH v1),(.d (.sl (cb v2))),(aA v3)] (λr=> .aX [(bY r.1),(aw r.2)]) (DY N v1 v2 v3):=(aj4 N N)
def Bi(N:Nat)(v1:bp)(v2:asn aso)(v3:an):asp (aE×Int):=
 (Af N v3).bind λv4=>
 bif (v4 !=0)then
  some (cY,v4)
 else
  (A1 N v3).bind λv5=>
  bif v5 then
   some (cY,(10:Int))
  else
   (DY N v1 v2 v3).bind λv6=>
   bif (v6.2 !=0)then
    some (cY,v6.2)
   else
    some (v6.1,(0:Int))
theorem ai6{N v1 v2 v3}:KO 81 [(dH v1),(.d (.sl (cb v2))),(aA v3)] (λr=> .aX [(bY r.1),(aw r.2)]) (Bi N v1 v2 v3):=
 fw Tryz.func81 (aq λv4 h1=>gA [[],[(4,cK Wi h1)],[]] (aP λh2=>aq λv5 h3=>gA [[f0 h2],[(4,cK TP h3)]] (aP λh4=>aq λv6 h5=>gA [[f0 h4],[(10,cK aqF h5)],[]] (aP λh6=>gR [[f0 h6],[]]))))
def HU(N:Nat)(v1:bp)(v2:Int)(v3:asn aso):asp Int:=
 bif (decide ((0:Int)<=v2))then
 Option.bind (v1.aU[(v2).toNat]?) λv4=>
 (xA N v4.aC v3).bind λv5=>
 bif (v5 !=0)then
  some v5
 else
  (mT N v4.ay).bind λv6=>
  bif v6 then
   Option.bind (bif (decide ((v4.bI.length:Int)>6))then some true else some (decide ((v4.cl.length:Int)>6))) λv7=>
   bif v7 then
    some (11:Int)
   else
    bif (Nat.ble ((0+v4.bI.length)*48) 140737488355328)then
    bif (Nat.ble ((v4.bI.length+v4.cl.length)*48) 140737488355328)then
    Option.bind (Jk N (v4.bI++v4.cl) v1.bO) λv8=>
    bif (v8 !=0)then
     some v8
    else
     (Jd N v4).bind λv9=>
     bif (v9 !=0)then
      some v9
     else
      bif (decide ((v2).toNat<=v1.aU.length))then
      (HV N v4).bind λv10=>
      Option.bind (Bi N (⟨v1.bO,[],v1.bA,((v1.aU.take (v2).toNat).drop 0),[]⟩:bp) v10 v4.cr) λv11=>
      bif (v11.2 !=0)then
       some v11.2
      else
       bif ((v11.1.aO==v4.ay.aO)&&((v11.1.bo==v4.ay.bo)&&((v11.1.bE==v4.ay.bE)&&((v11.1.bN==v4.ay.bN)&&((v11.1.bM==v4.ay.bM)&&true)))))then
        some (0:Int)
       else
        some (10:Int)
      else none
    else none
    else none
  else
   some (10:Int)
 else none
theorem aoR{N v1 v2 v3}:KO 48 [(dH v1),(aw v2),(.d (.sl (cb v3)))] aw (HU N v1 v2 v3):=
 fw Tryz.func48 (cO λh2=>aq λv4 h1=>aq λv5 h3=>gA [[],[(10,⟨_,_, .el (xs:=fO v1.aU) (i:=v2) (of_decide_eq_true h2) (lf h1)⟩)],[(10,cK IT h3)],[]] (aP λh4=>aq λv6 h5=>gA [[f0 h4],[(7,cK pD h5)]] (eg λh6=>gA [[f0 (bV h6)]] (gG (λv7=>[(38,(az v7))]) (λ_=>[.cells (dH v1).cells, .cells (gN v4).cells]) (bz (7,oL v4.bI fE) (au (λh7=>gE [(4,bT h7)] []) λh7=>gE [(4,bF h7)] [(22,oL v4.cl fE)])) λv7=>aP λh9=>cO λaK=>cO λaL=>aq λv8 aT=>gA [[f0 h9],[(10,oZ m9 v4.bI aK),(19,oA m9 v4.bI v4.cl aL),(28,cK aga aT)],[]] (aP λbu=>aq λv9 bf=>gA [[f0 bu],[(4,cK akj bf)],[]] (aP λa7=>cO λbm=>aq λv10 bQ=>aq λv11 cA=>gA [[f0 a7],[(22,⟨_,_, .sub (xs:=fO v1.aU) (lo:=0) (hi:=v2) (by decide) (Nat.zero_le _) (of_decide_eq_true h2) (by rw[ji];exact(of_decide_eq_true bm)) I3 Y0⟩),(31,cK aih bQ),(40,cK ai6 cA)],[]] (dM λ_=>m0 λb8=>gR [[t0 (cx b8)],[]])))))))
def Dx(N:Nat)(v1:bp):asn aso->Nat->Int->asp (Int×Int)
 |[],_,_=>
  some ((0:Int),(0:Int))
 |v21::cM,bX,cF=>
  (Ht N v1 v21).bind λv24=>
  bif v24.2.2 then
   bif (decide (((bX:Int)).toNat<=v1.dz.length))then
   Option.bind (wD N ((v1.dz.take ((bX:Int)).toNat).drop 0) v21) λn6=>
   bif n6 then
    some (cF,(8:Int))
   else
    (λzB=>Dx N v1 cM (bX+1) zB) (aI (cF+(1:Int)))
   else none
  else
   some (cF,(9:Int))
def AU(N:Nat)(v1:bp):asn bR->Nat->(asn aso)->Int->asp (Int×Int)
 |[],_,_,aR=>
  Dx N v1 v1.dz 0 aR
 |bt::bK,aF,bC,aR=>
  Option.bind (HU N v1 (aF:Int) bC) λqo=>
  bif (qo !=0)then
   some (aR,qo)
  else
   bif (Nat.ble ((bC.length+1)*16) 140737488355328)then
   (λnQ GJ=>AU N v1 bK (aF+1) nQ GJ) (bC++[bt.aC]) (aI (aR+(1:Int)))
   else none
def Br(N:Nat)(v1:bp):asn dh->Nat->(asn aso)->Int->asp (Int×Int)
 |[],_,v11,v12=>
  AU N v1 v1.aU 0 v11 v12
 |v9::v10,v7,v11,v12=>
  (MJ N v9 v1.bO v11).bind λA0=>
  bif (A0 !=0)then
   some (v12,A0)
  else
   bif (Nat.ble ((v11.length+1)*16) 140737488355328)then
   (λiP TT=>Br N v1 v10 (v7+1) iP TT) (v11++[v9.aC]) (aI (v12+(1:Int)))
   else none
def Fb(N:Nat)(v1:bp):asn di->Nat->asp (Int×Int)
 |[],_=>
  bif (Nat.ble ((0+v1.bO.length)*16) 140737488355328)then
  Br N v1 v1.bA 0 v1.bO (2:Int)
  else none
 |v5::v6,v3=>
  (g_brocaderef17_form N v5.aM v1.bO).bind λv28=>
  bif (v28 !=0)then
   some ((1:Int),v28)
  else
   (Fb N v1 v6 (v3+1))
def LQ(N:Nat)(v1:bp):asp (Int×Int):=
 (TD N v1).bind λv2=>
 bif (v2 !=0)then
  some ((0:Int),v2)
 else
  Fb N v1 v1.dj 0
theorem ajx{N v1}:KO 21 [(dH v1)] (λr=> .aX [(aw r.1),(aw r.2)]) (LQ N v1):=
 fw Tryz.func21 (aq λv2 h1=>gA [[],[(4,cK apt h1)],[]] (dM λ_=>gB EE 0 1 v1.dj λh4=>dO 1 [] [1,5] 1 (λv3=>⟨136,[(1,(.ptr 0 0)),(5,(aw (v3:Int)))],[.cells (dH v1).cells]⟩) (λv3 h5 f1=>cO λh6=>gA [[(10,oL v1.dj mE)],[f0 (b5 h5)],[(10,oZ kM v1.bO h6)],[],[]] (gB xW 0 2 v1.bA λh8=>Mq 2 [] [1,7,8,9] 2 (λv7(v11:asn aso)(v12:Int)=>⟨136,[(1,(.ptr 0 0)),(7,(.own 1 (cb v11))),(8,(aw v12)),(9,(aw (v7:Int)))],[.cells (dH v1).cells, .front 9 1 v11.length]⟩) (λv7 v11 v12 h9 f2=>gA [[(10,oL v1.bA kN)],[f0 (b5 h9)],[]] (gB vM 0 3 v1.aU λaL=>Mq 3 [] [1,7,8,11] 2 (λaF(bC:asn aso)(aR:Int)=>⟨136,[(1,(.ptr 0 0)),(7,(.own 1 (cb bC))),(8,(aw aR)),(11,(aw (aF:Int)))],[.cells (dH v1).cells, .front 9 1 bC.length]⟩) (λaF bC aR aT f3=>gA [[(10,oL v1.aU ji)],[f0 (b5 aT)],[]] (gB kM 0 4 v1.dz λbf=>iy 4 [] [1,8,13] 2 (λbX(cF:Int)=>⟨136,[(1,(.ptr 0 0)),(8,(aw cF)),(13,(aw (bX:Int)))],[.cells (dH v1).cells, .front 9 1 bC.length]⟩) (λbX cF a7 f4=>gR [[(10,oL v1.dz gC)],[f0 (b5 a7)],[]]) (λbX v21 cM cF a7 f4 lY=>aq λv24 bm=>gA [[(10,oL v1.dz gC)],[t0 (bU a7)],[(13,oE (na (ba a7))),(19,cK OF bm)],[]] (eg λbQ=>cO λcA=>aq λn6 cv=>gA [[f0 (bV bQ)],[(10,⟨_,_, .sub (xs:=cb v1.dz) (lo:=0) (hi:=(bX:Int)) (by decide) (Nat.zero_le _) (of_decide_eq_true (asf (Int.natCast_nonneg _))) (by rw[gC];exact(of_decide_eq_true cA)) CA RF⟩),(22,oE (na (ba a7))),(28,cK GU cv)]] (aP λb8=>gb lY (aI (cF+(1:Int))) [[f0 b8],[],[(5,oq (ca a7 rfl bf))]] a7))))) (λaF bt bK bC aR aT f3 iI=>aq λqo cJ=>gA [[(10,oL v1.aU ji)],[t0 (bU aT)],[(10,cK aoR cJ)],[]] (aP λcS=>cO λdw=>gb iI ((bC++[bt.aC]),(aI (aR+(1:Int)))) [[f0 cS],[(13,oE (lf (ba aT))),(25,oA kM bC ([bt.aC]) dw)],[],[(5,oq (ca aT rfl aL))]] aT)))) (λv7 v9 v10 v11 v12 h9 f2 dI=>aq λA0 eC=>gA [[(10,oL v1.bA kN)],[t0 (bU h9)],[(10,oE (lT (ba h9))),(25,cK aqC eC)],[]] (aP λfF=>cO λim=>gb dI ((v11++[v9.aC]),(aI (v12+(1:Int)))) [[f0 fF],[(13,oE (lT (ba h9))),(25,oA kM v11 ([v9.aC]) im)],[],[(5,oq (ca h9 rfl h8))]] h9)))) (λv3 v5 v6 h5 f1 aD=>aq λv28 fu=>gA [[(10,oL v1.dj mE)],[t0 (bU h5)],[(10,oE (BD (ba h5))),(25,cK Tj fu)],[]] (aP λgw=>gb aD () [[f0 gw],[(5,oq (ca h5 rfl h4))]] h5))))
def Ty(N:Nat)(v1:aE)(v2:an):asp iN:=
 (A1 N v2).bind λv3=>
 some (⟨v1,(!v3)⟩:iN)
theorem agU{N v1 v2}:KO 85 [(bY v1),(aA v2)] iF (Ty N v1 v2):=
 fw Tryz.func85 (aq λv3 h1=>gR [[],[(7,cK TP h1)]])
def K9(N:Nat)(v1:aE)(v2:aG):asp Bool:=
 (mT N v1).bind λv3=>
 Option.bind (bif v3 then (pn N v1 v2).bind λv4=>
 some v4 else some false) λv5=>
 some v5
theorem acJ{N v1 v2}:KO 303 [(bY v1),(a8 v2)] az (K9 N v1 v2):=
 fw Tryz.func303 (gA [[]] (aq λv3 h1=>gG (λv5=>[(4,(az v5))]) (λ_=>[.cells (bY v1).cells, .cells (a8 v2).cells]) (bz (4,cK pD h1) (au (λh2=>aq λv4 h3=>gE [(2,bT h2)] [(16,cK xt h3)]) λh2=>gE [(2,bF h2)] [])) λv5=>gR []))
def mP(N:Nat)(v1:aG):asp Bool:=
 Option.bind (pn N (⟨(1:Int),(0:Int),(0:Int),(0:Int),(0:Int)⟩:aE) v1) λv2=>
 some v2
theorem p6{N v1}:KO 305 [(a8 v1)] az (mP N v1):=
 fw Tryz.func305 (aq λv2 h1=>gR [[],[(7,cK xt h1)]])
def AL(N:Nat)(v1:Int64)(v2:Int64):asp Int:=
 bif (decide (v1.toInt<v2.toInt))then
  some (-1:Int)
 else
  bif (decide (v1.toInt>v2.toInt))then
   some (1:Int)
  else
   some (0:Int)
theorem P7{N v1 v2}:KO 315 [(aW v1),(aW v2)] aw (AL N v1 v2):=
 fw Tryz.func315 (gA [[],[]] (dM λ_=>aP λh2=>gR [[f0 h2],[]]))
def OD(N:Nat)(v1:aG)(v2:aG):asp Int:=
 (mP N v1).bind λv3=>
 Option.bind (bif v3 then (mP N v2).bind λv4=>
 some v4 else some false) λv5=>
 bif v5 then
  Option.bind (AL N (v1.xN*v2.xD) (v2.xN*v1.xD)) λv6=>
  some v6
 else
  bif (v1.xN.toInt !=v2.xN.toInt)then
   (AL N v1.xN v2.xN).bind λv7=>
   some v7
  else
   (AL N v1.xD v2.xD).bind λv8=>
   some v8
theorem alM{N v1 v2}:KO 304 [(a8 v1),(a8 v2)] aw (OD N v1 v2):=
 fw Tryz.func304 (gA [[]] (aq λv3 h1=>gG (λv5=>[(10,(az v5))]) (λ_=>[.cells (a8 v1).cells, .cells (a8 v2).cells]) (bz (4,cK p6 h1) (au (λh2=>aq λv4 h3=>gE [(2,bT h2)] [(13,cK p6 h3)]) λh2=>gE [(2,bF h2)] [])) λv5=>au (λh5=>aq λv6 h6=>gR [[t0 h5],[(14,⟨_,_, .eq (eY v1.xN v2.xD)⟩),(29,⟨_,_, .eq (eY v2.xN v1.xD)⟩),(31,cK P7 h6)]]) λh5=>gA [[f0 h5],[]] (au (λh7=>aq λv7 h8=>gR [[t0 h7],[(13,cK P7 h8)]]) λh7=>aq λv8 h9=>gR [[f0 h7],[(13,cK P7 h9)]])))
def C3(N:Nat)(v1:aE)(v2:aG)(v3:aG):asp Int:=
 (K9 N v1 v2).bind λv4=>
 Option.bind (bif v4 then (K9 N v1 v3).bind λv5=>
 some (!v5)else some true) λv6=>
 bif v6 then
  some (0:Int)
 else
  (OD N v2 v3).bind λv7=>
  some v7
theorem Xw{N v1 v2 v3}:KO 260 [(bY v1),(a8 v2),(a8 v3)] aw (C3 N v1 v2 v3):=
 fw Tryz.func260 (gA [[]] (aq λv4 h1=>gG (λv6=>[(16,(az v6))]) (λ_=>[.cells (bY v1).cells, .cells (a8 v2).cells, .cells (a8 v3).cells]) (bz (7,cK acJ h1) (au (λh2=>aq λv5 h3=>gE [(4,bF (bV h2))] [(22,cK acJ h3)]) λh2=>gE [(4,bT (cx h2))] [])) λv6=>aP λh5=>aq λv7 h6=>gR [[f0 h5],[(7,cK alM h6)]]))
def wX(N:Nat)(v1:Int64)(v2:Int64):asp Int64:=
 bif (v2.toInt !=0)then
 bif (decide (((Int64.ofInt ((v1.toInt).tdiv v2.toInt))*v2).toInt>v1.toInt))then
  some ((Int64.ofInt ((v1.toInt).tdiv v2.toInt))-(1:Int64))
 else
  some (Int64.ofInt ((v1.toInt).tdiv v2.toInt))
 else none
theorem Nh{N v1 v2}:KO 269 [(aW v1),(aW v2)] aW (wX N v1 v2):=
 fw Tryz.func269 (cO λh1=>gA [[],[(7,⟨_,_, .nz (b:=v2.toInt) (bne_iff_ne.1 h1)⟩),(8,⟨_,_, .eq (fM ((v1.toInt).tdiv v2.toInt))⟩)],[(8,⟨_,_, .eq (eY (Int64.ofInt ((v1.toInt).tdiv v2.toInt)) v2)⟩)]] (fp λh2=>gR [[t0 h2],[(5,⟨_,_, .eq (jX (Int64.ofInt ((v1.toInt).tdiv v2.toInt)) (1:Int64))⟩)]]))
def EP(N:Nat)(v1:aE)(v3:Int64):asp aG:=
 some (⟨(qQ (-(Int64.ofInt ((1:Int)*2^(min ((IntKind.u64.wrap (aI (v1.bo-(1:Int))))).toNat (IntKind.bits .i64))))) (wu ((Int64.ofInt ((1:Int)*2^(min ((IntKind.u64.wrap (aI (v1.bo-(1:Int))))).toNat (IntKind.bits .i64))))-(1:Int64)) v3)),(1:Int64)⟩:aG)
def sD(N:Nat)(v1:aE)(v2:Int64):asp aG:=
 bif (decide ((0:Int)<=(IntKind.u64.wrap (aI (v1.bo-(1:Int))))))then
 bif (v1.bM==2)then
  Option.bind (wX N (v2+(Int64.ofInt ((1:Int)*2^(min ((IntKind.u64.wrap (aI (v1.bo-(1:Int))))).toNat (IntKind.bits .i64))))) ((2:Int64)*(Int64.ofInt ((1:Int)*2^(min ((IntKind.u64.wrap (aI (v1.bo-(1:Int))))).toNat (IntKind.bits .i64)))))) λv4=>
  EP N v1 (v2-((v4*(2:Int64))*(Int64.ofInt ((1:Int)*2^(min ((IntKind.u64.wrap (aI (v1.bo-(1:Int))))).toNat (IntKind.bits .i64))))))
 else
  EP N v1 v2
 else none
theorem Ai{N v1 v2}:KO 270 [(bY v1),(aW v2)] a8 (sD N v1 v2):=
 fw Tryz.func270 (cO λh1=>ir 1 [[],[(13,⟨_,_, .nn (b:=(IntKind.u64.wrap (aI (v1.bo-(1:Int))))) (of_decide_eq_true h1)⟩),(14,⟨_,_, .eq (fM ((1:Int)*2^(min ((IntKind.u64.wrap (aI (v1.bo-(1:Int))))).toNat (IntKind.bits .i64))))⟩)],[]] [1,4,5] 2 (λ(v3:Int64)=>⟨33,[(1,(aW v3)),(4,(.ptr 1 0)),(5,(aW (Int64.ofInt ((1:Int)*2^(min ((IntKind.u64.wrap (aI (v1.bo-(1:Int))))).toNat (IntKind.bits .i64))))))],[.cells (bY v1).cells, .cells gZ]⟩) (EP N v1) (λf1 aD=>au (λh2=>aq λv4 h3=>gm aD (v2-((v4*(2:Int64))*(Int64.ofInt ((1:Int)*2^(min ((IntKind.u64.wrap (aI (v1.bo-(1:Int))))).toNat (IntKind.bits .i64)))))) [[t0 h2],[(11,⟨_,_, .eq (mY v2 (Int64.ofInt ((1:Int)*2^(min ((IntKind.u64.wrap (aI (v1.bo-(1:Int))))).toNat (IntKind.bits .i64)))))⟩),(17,⟨_,_, .eq (eY (2:Int64) (Int64.ofInt ((1:Int)*2^(min ((IntKind.u64.wrap (aI (v1.bo-(1:Int))))).toNat (IntKind.bits .i64)))))⟩),(19,cK Nh h3),(23,⟨_,_, .eq (eY v4 (2:Int64))⟩),(29,⟨_,_, .eq (eY (v4*(2:Int64)) (Int64.ofInt ((1:Int)*2^(min ((IntKind.u64.wrap (aI (v1.bo-(1:Int))))).toNat (IntKind.bits .i64)))))⟩),(32,⟨_,_, .eq (jX v2 ((v4*(2:Int64))*(Int64.ofInt ((1:Int)*2^(min ((IntKind.u64.wrap (aI (v1.bo-(1:Int))))).toNat (IntKind.bits .i64))))))⟩)]]) λh2=>gm aD v2 [[f0 h2]]) (λv3=>gR [[(5,⟨_,_, .eq (lX (Int64.ofInt ((1:Int)*2^(min ((IntKind.u64.wrap (aI (v1.bo-(1:Int))))).toNat (IntKind.bits .i64)))))⟩),(11,⟨_,_, .eq (jX (Int64.ofInt ((1:Int)*2^(min ((IntKind.u64.wrap (aI (v1.bo-(1:Int))))).toNat (IntKind.bits .i64)))) (1:Int64))⟩),(17,⟨_,_, .eq (ap0 ((Int64.ofInt ((1:Int)*2^(min ((IntKind.u64.wrap (aI (v1.bo-(1:Int))))).toNat (IntKind.bits .i64))))-(1:Int64)) v3)⟩),(20,⟨_,_, .eq (Wx (-(Int64.ofInt ((1:Int)*2^(min ((IntKind.u64.wrap (aI (v1.bo-(1:Int))))).toNat (IntKind.bits .i64))))) (wu ((Int64.ofInt ((1:Int)*2^(min ((IntKind.u64.wrap (aI (v1.bo-(1:Int))))).toNat (IntKind.bits .i64))))-(1:Int64)) v3))⟩)]]))
def vO(N:Nat)(v1:aE):asp Int64:=
 bif (decide ((0:Int)<=(IntKind.u64.wrap v1.bE)))then
 some (Int64.ofInt ((1:Int)*2^(min ((IntKind.u64.wrap v1.bE)).toNat (IntKind.bits .i64))))
 else none
theorem C2{N v1}:KO 272 [(bY v1)] aW (vO N v1):=
 fw Tryz.func272 (cO λh1=>gR [[],[(10,⟨_,_, .nn (b:=(IntKind.u64.wrap v1.bE)) (of_decide_eq_true h1)⟩),(11,⟨_,_, .eq (fM ((1:Int)*2^(min ((IntKind.u64.wrap v1.bE)).toNat (IntKind.bits .i64))))⟩)]])
def Cx(N:Nat)(v1:Int64)(v2:Int64)(v3:Int):asp Int64:=
 (wX N v1 v2).bind λv4=>
 Option.bind (bif ((v1-(v4*v2)).toInt==0)then some true else some (v3==1)) λv5=>
 bif v5 then
  some v4
 else
  bif (v3==2)then
   some (v4+(1:Int64))
  else
   bif (v3==3)then
    bif (decide (v1.toInt<0))then
     some (v4+(1:Int64))
    else
     some v4
   else
    Option.bind (bif (decide ((v1-(v4*v2)).toInt>(v2-(v1-(v4*v2))).toInt))then some true else(bif ((v1-(v4*v2)).toInt==(v2-(v1-(v4*v2))).toInt)then some ((Int64.ofInt ((v4.toInt).tmod (2:Int))).toInt !=0)else some false)) λv6=>
    bif v6 then
     some (v4+(1:Int64))
    else
     some v4
theorem Qd{N v1 v2 v3}:KO 271 [(aW v1),(aW v2),(aw v3)] aW (Cx N v1 v2 v3):=
 fw Tryz.func271 (aq λv4 h1=>gA [[],[(7,cK Nh h1)],[(11,⟨_,_, .eq (eY v4 v2)⟩),(14,⟨_,_, .eq (jX v1 (v4*v2))⟩)]] (gG (λv5=>[(22,(az v5))]) (λ_=>[]) (au (λh2=>gE [(2,bT h2)] []) λh2=>gE [(2,bF h2)] []) λv5=>dM λ_=>au (λh5=>gR [[t0 h5],[(5,⟨_,_, .eq (mY v4 (1:Int64))⟩)]]) λh5=>gA [[f0 h5],[]] (au (λh6=>gA [[t0 h6],[]] (fp λh7=>gR [[t0 h7],[(5,⟨_,_, .eq (mY v4 (1:Int64))⟩)]])) λh6=>gA [[f0 h6]] (gG (λv6=>[(51,(az v6))]) (λ_=>[]) (bz (11,⟨_,_, .eq (jX v2 (v1-(v4*v2)))⟩) (au (λh8=>gE [(5,bT h8),(11,uN)] []) λh8=>aY (5,bF h8) (bz (29,⟨_,_, .eq (jX v2 (v1-(v4*v2)))⟩) (au (λh9=>gE [(11,bT h9)] [(40,⟨_,_, .nz (b:=2) (by decide)⟩),(41,⟨_,_, .eq (JM v4 (2:Int))⟩),(46,bT h9)]) λh9=>gE [(11,bF h9)] [(46,bF h9)])))) λv6=>fp λaL=>gR [[t0 aL],[(5,⟨_,_, .eq (mY v4 (1:Int64))⟩)]]))))
def Gx(N:Nat)(v2:aE)(v11:Int64)(v12:Int64):asp (aG×Int):=
 (vO N v2).bind λaF=>
 Option.bind (Cx N (v11*aF) v12 v2.bN) λaV=>
 (sD N v2 aV).bind λbt=>
 some (bt,(0:Int))
def Lw(N:Nat)(v1:Int)(v2:aE)(v3:Int64)(v4:Int64):asp (aG×Int):=
 bif (v1==4)then
  Option.bind (sD N v2 (v3+v4)) λv5=>
  some (v5,(0:Int))
 else
  bif (v1==5)then
   Option.bind (sD N v2 (v3-v4)) λv6=>
   some (v6,(0:Int))
  else
   bif (v1==6)then
    (vO N v2).bind λv7=>
    Option.bind (Cx N (v3*v4) v7 v2.bN) λv8=>
    (sD N v2 v8).bind λv9=>
    some (v9,(0:Int))
   else
    bif (v1==8)then
     Option.bind (sD N v2 (-v3)) λv10=>
     some (v10,(0:Int))
    else
     bif (v4.toInt==0)then
      some (bW,(4:Int))
     else
      bif (decide (v4.toInt<0))then
       Gx N v2 (-v3) (-v4)
      else
       Gx N v2 v3 v4
theorem afN{N v1 v2 v3 v4}:KO 261 [(aw v1),(bY v2),(aW v3),(aW v4)] (λr=> .aX [(a8 r.1),(aw r.2)]) (Lw N v1 v2 v3 v4):=
 fw Tryz.func261 (gA [[],[],[]] (au (λh1=>aq λv5 h2=>gR [[t0 h1],[(11,⟨_,_, .eq (mY v3 v4)⟩),(13,cK Ai h2)]]) λh1=>gA [[f0 h1],[]] (au (λh3=>aq λv6 h4=>gR [[t0 h3],[(11,⟨_,_, .eq (jX v3 v4)⟩),(13,cK Ai h4)]]) λh3=>gA [[f0 h3],[]] (au (λh5=>aq λv7 h6=>aq λv8 h7=>aq λv9 h8=>gR [[t0 h5],[(11,⟨_,_, .eq (eY v3 v4)⟩),(16,cK C2 h6),(25,cK Qd h7),(28,cK Ai h8)]]) λh5=>gA [[f0 h5],[]] (au (λh9=>aq λv10 aK=>gR [[t0 h9],[(8,⟨_,_, .eq (lX v3)⟩),(10,cK Ai aK)]]) λh9=>gA [[f0 h9],[]] (aP λaL=>nF 1 [[f0 aL],[]] [2,3,5,8] 2 (λ(v11:Int64)(v12:Int64)=>⟨62,[(2,(aW v11)),(3,(aW v12)),(5,(.ptr 0 0)),(8,(.ptr 1 0))],[.cells (bY v2).cells, .cells gZ]⟩) (Gx N v2) (λf1 aD=>au (λa7=>gm aD ((-v3),(-v4)) [[t0 a7],[(5,⟨_,_, .eq (lX v3)⟩)],[(5,⟨_,_, .eq (lX v4)⟩)]]) λa7=>gm aD (v3,v4) [[f0 a7]]) (λv11 v12=>aq λaF aT=>aq λaV bu=>aq λbt bf=>gR [[(10,cK C2 aT),(14,⟨_,_, .eq (eY v11 aF)⟩),(25,cK Qd bu),(28,cK Ai bf)]])))))))
end Go.Proofs.YtdchibpnjpnkoaaGreatDoor
