/-
  Part 11 of the proof: PQ3.
-/
import Derived.Test.YtmkmibahjanejaaGreatDoorPp10
namespace Go.Proofs.YtmkmibahjanejaaGreatDoor
open Go.RowKit
set_option maxRecDepth 100000
set_option maxHeartbeats 0
set_option linter.unusedVariables false
def Zj:agK J:=[(.d (.v (.slice none 0 0))),(.d (.v (.slice none 0 0)))]
def Dc(N:Nat)(v2:agK bl):agK bl->Nat->agM Bool
 |[],_=>
  some true
 |v5::v6,v3=>
  Option.bind (v2[((v3:Int)).toNat]?) λv7=>
  (FW N v5 v7).bind λv8=>
  bif v8 then
   (Dc N v2 v6 (v3+1))
  else
   some false
def Em(N:Nat)(v1:agK bl)(v2:agK bl):agM Bool:=
 bif ((v1.length:Int) !=(v2.length:Int))then
  some false
 else
  Dc N v2 v1 0
theorem YK{N v1 v2}:KO 112 [(.d (.sl (cE v1))),(.d (.sl (cE v2)))] aJ (Em N v1 v2):=
 fw Tryz.func112 (gA [[],[(4,oL v1 ee),(10,oL v2 ee)]] (fW λ_=>gT jO 0 v1 λh3=>dc 1 [] [0,1,5] 0 (λv3=>⟨27,[(0,(.d (.sl (cE v1)))),(1,(.d (.sl (cE v2)))),(5,(an (v3:Int)))],[]⟩) (λv3 h4 f1=>gR [[(7,oL v1 ee)],[f0 (aU h4)],[]]) (λv3 v5 v6 h4 f1 aE=>aq λv7 h5=>aq λv8 h7=>gA [[(7,oL v1 ee)],[t0 (aV h4)],[(7,oE (ff (aL h4))),(19,oE (ff h5)),(25,cK acX h7)]] (eJ λh8=>gb aE () [[f0 (b9 h8)],[(5,oq (bk h4 rfl h3))]] h4))))
def B3(N:Nat)(v2:agK ao)(Q5:ao->ao->agM Bool):agK ao->Nat->agM Bool
 |[],_=>
  some true
 |v5::v6,v3=>
  Option.bind (v2[((v3:Int)).toNat]?) λv7=>
  (Q5 v5 v7).bind λv8=>
  bif v8 then
   (B3 N v2 Q5 v6 (v3+1))
  else
   some false
mutual
def sL(N:Nat):Nat->ao->ao->agM Bool
 |0,_,_=>none
 |d+1,v1,v2=>
  Option.bind (bif (v1.aM==v2.aM)then(bif (bL v1.ak==bL v2.ak)then(bif ((v1.dL.xN.toInt==v2.dL.xN.toInt)&&((v1.dL.xD.toInt==v2.dL.xD.toInt)&&true))then(bif ((v1.aH.bO==v2.aH.bO)&&((v1.aH.bZ==v2.aH.bZ)&&((v1.aH.cu==v2.aH.cu)&&((v1.aH.ct==v2.aH.ct)&&((v1.aH.cv==v2.aH.cv)&&true)))))then (qS N v1.aP v2.aP).bind λv3=>
  (bif v3 then (Em N v1.xIdx v2.xIdx).bind λv4=>
  (bif v4 then Option.bind ((Aw N d) v1.ba v2.ba) λv5=>
  some v5 else some false)else some false)else some false)else some false)else some false)else some false) λv6=>
  some v6
def Aw(N:Nat):Nat->(agK ao)->(agK ao)->agM Bool
 |0,_,_=>none
 |d+1,v1,v2=>
  bif ((v1.length:Int) !=(v2.length:Int))then
   some false
  else
   B3 N v2 (sL N d) v1 0
end
def IV(N:Nat)(v1:ao)(v2:ao):agM Bool:=sL N N v1 v2
theorem Wa(N:Nat):∀d:Nat,(∀{v1:ao}{v2:ao},KO 66 [(aO v1),(aO v2)] aJ (sL N d v1 v2))/\(∀{v1:agK ao}{v2:agK ao},KO 113 [(.d (.sl (et v1))),(.d (.sl (et v2)))] aJ (Aw N d v1 v2)):=by
 intro d
 induction d with
 |zero=>exact⟨(by intro v1 v2 r hF;rw[sL]at hF;cases hF),(by intro v1 v2 r hF;rw[Aw]at hF;cases hF)⟩
 |succ d ih=>
  have aai:= @ih.1;have aeA:= @ih.2;refine⟨?_,?_⟩
  ·intro v1 v2;rw[sL];exact fw Tryz.func66 (gA [[]] (gG (λv6=>[(4,(aJ v6))]) (λ_=>[.cells (aO v1).cells, .cells (aO v2).cells]) (au (λh1=>bt (5,bT h1) (au (λh2=>bt (12,bT h2) (au (λh3=>bt (19,bT h3) (au (λh4=>aq λv3 h5=>bt (26,bT h4) (bS (94,cK zL h5) (au (λh6=>aq λv4 h7=>bt (33,bT h6) (bS (115,cK YK h7) (au (λh8=>aq λv5 h9=>gE [(40,bT h8)] [(136,cK aeA h9)]) λh8=>gE [(40,bF h8)] []))) λh6=>gE [(33,bF h6),(40,bF rfl)] []))) λh4=>gE [(26,bF h4),(33,bF rfl),(40,bF rfl)] [])) λh3=>gE [(19,bF h3),(26,bF rfl),(33,bF rfl),(40,bF rfl)] [])) λh2=>gE [(12,bF h2),(19,bF rfl),(26,bF rfl),(33,bF rfl),(40,bF rfl)] [])) λh1=>gE [(5,bF h1),(12,bF rfl),(19,bF rfl),(26,bF rfl),(33,bF rfl),(40,bF rfl)] []) λv6=>gR []))
  intro v1 v2;rw[Aw];exact fw Tryz.func113 (gA [[],[(4,oL v1 eX),(10,oL v2 eX)]] (fW λ_=>gT jM 0 v1 λh3=>dc 1 [] [0,1,5] 0 (λv3=>⟨27,[(0,(.d (.sl (et v1)))),(1,(.d (.sl (et v2)))),(5,(an (v3:Int)))],[]⟩) (λv3 h4 f1=>gR [[(7,oL v1 eX)],[(0,bF (aU h4))],[]]) (λv3 v5 v6 h4 f1 aE=>aq λv7 h5=>aq λv8 h7=>gA [[(7,oL v1 eX)],[(0,bT (aV h4))],[(7,oE (j6 (aL h4))),(19,oE (j6 h5)),(25,cK aai h7)]] (eJ λh8=>gb aE () [[(0,bF (b9 h8))],[(5,oq (bk h4 rfl h3))]] h4))))
theorem abe{N v1 v2}:KO 66 [(aO v1),(aO v2)] aJ (IV N v1 v2):=(Wa N N).1
def Fh(N:Nat)(v1:aT)(v2:aT):agM Bool:=
 Option.bind (bif (bL v1.ak==bL v2.ak)then(bif ((v1.aH.bO==v2.aH.bO)&&((v1.aH.bZ==v2.aH.bZ)&&((v1.aH.cu==v2.aH.cu)&&((v1.aH.ct==v2.aH.ct)&&((v1.aH.cv==v2.aH.cv)&&true)))))then(bif (v1.dd==v2.dd)then (Au N v1.aK v2.aK).bind λv3=>
 (bif v3 then (Au N v1.bx v2.bx).bind λv4=>
 (bif v4 then (IV N v1.bY v2.bY).bind λv5=>
 some v5 else some false)else some false)else some false)else some false)else some false) λv6=>
 some v6
theorem aaf{N v1 v2}:KO 29 [(ej v1),(ej v2)] aJ (Fh N v1 v2):=
 fw Tryz.func29 (gA [[]] (gG (λv6=>[(4,(aJ v6))]) (λ_=>[.cells (ej v1).cells, .cells (ej v2).cells]) (au (λh1=>bt (5,bT h1) (au (λh2=>bt (12,bT h2) (au (λh3=>aq λv3 h4=>bt (19,bT h3) (bS (73,cK Q3 h4) (au (λh5=>aq λv4 h6=>bt (26,bT h5) (bS (94,cK Q3 h6) (au (λh7=>aq λv5 h8=>gE [(33,bT h7)] [(115,cK abe h8)]) λh7=>gE [(33,bF h7)] []))) λh5=>gE [(26,bF h5),(33,bF rfl)] []))) λh3=>gE [(19,bF h3),(26,bF rfl),(33,bF rfl)] [])) λh2=>gE [(12,bF h2),(19,bF rfl),(26,bF rfl),(33,bF rfl)] [])) λh1=>gE [(5,bF h1),(12,bF rfl),(19,bF rfl),(26,bF rfl),(33,bF rfl)] []) λv6=>gR []))
def En(N:Nat)(v2:aB):agK aT->Nat->agM Bool
 |[],_=>
  some true
 |bP::cb,v11=>
  Option.bind (v2.aw[((v11:Int)).toNat]?) λbI=>
  (Fh N bP bI).bind λcY=>
  bif cY then
   (En N v2 cb (v11+1))
  else
   some false
def Dy(N:Nat)(v2:aB)(v1:aB):agK ck->Nat->agM Bool
 |[],_=>
  En N v2 v1.aw 0
 |v9::v10,v7=>
  Option.bind (v2.aC[((v7:Int)).toNat]?) λv17=>
  Option.bind (bif (bL v9.ak==bL v17.ak)then(bif ((v9.aH.bO==v17.aH.bO)&&((v9.aH.bZ==v17.aH.bZ)&&((v9.aH.cu==v17.aH.cu)&&((v9.aH.ct==v17.aH.ct)&&((v9.aH.cv==v17.aH.cv)&&true)))))then (yM N v9.aK v17.aK).bind λc6=>
  some (!c6)else some true)else some true) λdT=>
  bif dT then
   some false
  else
   (Dy N v2 v1 v10 (v7+1))
def zB(N:Nat)(v1:aB)(v2:aB):agM Bool:=
 (A8 N v1.aD v2.aD).bind λv3=>
 Option.bind (bif v3 then (BJ N v1.bX v2.bX).bind λv4=>
 (bif v4 then (A8 N v1.cd v2.cd).bind λv5=>
 (bif v5 then(bif ((v1.aC.length:Int) !=(v2.aC.length:Int))then some true else some ((v1.aw.length:Int) !=(v2.aw.length:Int)))else some true)else some true)else some true) λv6=>
 bif v6 then
  some false
 else
  Dy N v2 v1 v1.aC 0
def FM(v1:aB)(v2:aB)(l:agK aj):agK aj:= .cells (cH v1).cells:: .cells (cH v2).cells::l
theorem MY{N v1 v2}:KO 10 [(cH v1),(cH v2)] aJ (zB N v1 v2):=
 fw Tryz.func10 (gA [[]] (aq λv3 h1=>gG (λv6=>[(46,(aJ v6))]) (λ_=>(FM v1 v2 [])) (bS (13,cK QP h1) (au (λh2=>aq λv4 h3=>bt (6,bF (b9 h2)) (bS (34,cK aeH h3) (au (λh4=>aq λv5 h5=>bt (14,bF (b9 h4)) (bS (58,cK QP h5) (au (λh6=>bt (22,bF (b9 h6)) (bS (76,oL v1.aC gv) (bS (85,oL v2.aC gv) (au (λh7=>gE [(31,bT h7)] []) λh7=>gE [(31,bF h7)] [(103,oL v1.aw fF),(112,oL v2.aw fF)])))) λh6=>gE [(22,bT (dm h6)),(31,bT rfl)] []))) λh4=>gE [(14,bT (dm h4)),(22,bT rfl),(31,bT rfl)] []))) λh2=>gE [(6,bT (dm h2)),(14,bT rfl),(22,bT rfl),(31,bT rfl)] [])) λv6=>fW λ_=>gB lW 0 2 v1.aC λbo=>dc 1 [] [2,3,5] 2 (λv7=>⟨117,[(2,(.ptr 0 0)),(3,(.ptr 1 0)),(5,(an (v7:Int)))],(FM v1 v2 [])⟩) (λv7 a8 f1=>gA [[(10,oL v1.aC gv)],[f0 (aU a8)],[]] (gB lT 0 3 v1.aw λcg=>dc 2 [] [2,3,6] 2 (λv11=>⟨117,[(2,(.ptr 0 0)),(3,(.ptr 1 0)),(6,(an (v11:Int)))],(FM v1 v2 [])⟩) (λv11 bG f2=>gR [[(10,oL v1.aw fF)],[f0 (aU bG)],[]]) (λv11 bP cb bG f2 de=>aq λbI cf=>aq λcY fc=>gA [[(10,oL v1.aw fF)],[t0 (aV bG)],[(10,oE (iA (aL bG))),(25,oE (iA cf)),(31,cK aaf fc)]] (eJ λgd=>gb de () [[f0 (b9 gd)],[(5,oq (bk bG rfl cg))]] bG)))) (λv7 v9 v10 a8 f1 aE=>gA [[(10,oL v1.aC gv)],[t0 (aV a8)]] (aq λv17 du=>gG (λdT=>[(97,(aJ dT))]) (λ_=>(FM v1 v2 [])) (bS (10,oE (iz (aL a8))) (bS (28,oE (iz du)) (au (λgh=>bt (13,bF (b9 gh)) (bS (52,oE (iz (aL a8))) (bS (70,oE (iz du)) (au (λeM=>aq λc6 ie=>gE [(28,bF (b9 eM))] [(97,oE (iz (aL a8))),(115,oE (iz du)),(124,cK Q7 ie)]) λeM=>gE [(28,bT (dm eM))] [])))) λgh=>gE [(13,bT (dm gh)),(28,bT rfl)] []))) λdT=>bJ λib=>gb aE () [[f0 ib],[(5,oq (bk a8 rfl bo))]] a8))))
def LF(N:Nat)(v1:agL):Nat->Int->Int->agM Int
 |0,_,_=>none
 |v2+1,v3,v4=>
  bif (decide (v4<(v1.size:Int)))then
   bif (decide ((0:Int)<=v4))then
   Option.bind (v1[(v4).toNat]?) λv5=>
   (λbV mj=>LF N v1 v2 bV mj) (IntKind.u64.wrap ((IntKind.u64.wrap ((BitVec.ofInt (IntKind.bits .u64) v3^^^BitVec.ofInt (IntKind.bits .u64) (IntKind.u64.wrap (v5.toNat:Int))).toNat:Int))*(1099511628211:Int))) (aN (v4+(1:Int)))
   else none
  else
   some v3
def H5(N:Nat)(v1:agL):agM Int:=
 LF N v1 N (14695981039346656037:Int) (0:Int)
theorem S5{N v1}:KO 20 [(bu v1)] (λr=> .d (.v (.int .u64 r))) (H5 N v1):=
 fw Tryz.func20 (DS 1 [[],[],[]] [0,3,6,7] 0 (λ(v3:Int)(v4:Int)=>⟨19,[(0,(bu v1)),(3,(.d (.v (.int .u64 v3)))),(6,(an (v1.size:Int))),(7,(an v4))],[]⟩) (LF N v1) (λv2 v3 v4 f1 aE=>gA [[]] (kO λh1=>bq λh3=>aq λv5 h2=>qn aE ((IntKind.u64.wrap ((IntKind.u64.wrap ((BitVec.ofInt (IntKind.bits .u64) v3^^^BitVec.ofInt (IntKind.bits .u64) (IntKind.u64.wrap (v5.toNat:Int))).toNat:Int))*(1099511628211:Int))),(aN (v4+(1:Int)))) [[t0 h1],[],[(10,⟨_,_, .ch (i:=v4) (of_decide_eq_true h3) h2⟩)],[]])))
def yD(N:Nat):agM Bool:=
 Option.bind (JB N (bs [110]) (bs [97]) (bs [115]) (bs [107])) λv1=>
 (EW N v1).bind λv2=>
 Option.bind (bif (v2.2==0)then Option.bind (JB N (bs [115,48]) (bs [112,48]) (bs [100,48]) (bs [105,48])) λv3=>
 (zB N v2.1 v3).bind λv4=>
 (bif v4 then Option.bind (H5 N (bs [])) λv5=>
 (bif (v5==14695981039346656037)then Option.bind (H5 N (bs [97])) λv6=>
 some (v6==12638187200555641996)else some false)else some false)else some false) λv7=>
 some v7
theorem Tr{N}:KO 7 [] aJ (yD N):=
 fw Tryz.func7 (aq λv1 h1=>aq λv2 h2=>gA [[],[(1,cK RN h1),(4,cK SD h2)]] (gG (λv7=>[(0,(aJ v7))]) (λ_=>[.cells (cH v2.1).cells]) (au (λh3=>aq λv3 h4=>aq λv4 h5=>bt (2,bT h3) (bS (13,cK RN h4) (bS (16,cK MY h5) (au (λh6=>aq λv5 h7=>bt (7,bT h6) (bS (25,cK S5 h7) (au (λh8=>aq λv6 h9=>gE [(11,bT h8)] [(37,cK S5 h9)]) λh8=>gE [(11,bF h8)] []))) λh6=>gE [(7,bF h6),(11,bF rfl)] [])))) λh3=>gE [(2,bF h3),(7,bF rfl),(11,bF rfl)] []) λv7=>gR []))
def I1(N:Nat):agM ((agK agL)):=
 some [(bs [115,105,122,101]),(bs [119,104,101,114,101]),(bs [105,110]),(bs [100,101,102]),(bs [111,117,116]),(bs [115,117,109]),(bs [112,114,111,100]),(bs [109,105,110]),(bs [109,97,120]),(bs [115,99,97,110]),(bs [111,118,101,114]),(bs [105,102]),(bs [99,97,115,116]),(bs [102,114,97,99]),(bs [105,110,116]),(bs [102,105,120]),(bs [99,101,105,108]),(bs [102,108,111,111,114]),(bs [122,101,114,111]),(bs [101,118,101,110]),(bs [115,97,116]),(bs [119,114,97,112])]
theorem ab6{N}:KO 135 [] (λr=> .d (.sl (bD r))) (I1 N):=
 fw Tryz.func135 (gR [[],[]])
def E3(N:Nat)(v2:agL):agK agL->Nat->agM Bool
 |[],_=>
  some false
 |v5::v6,v3=>
  bif (bL v5==bL v2)then
   some true
  else
   (E3 N v2 v6 (v3+1))
def qj(N:Nat)(v1:agK agL)(v2:agL):agM Bool:=
 E3 N v2 v1 0
theorem xM{N v1 v2}:KO 15 [(.d (.sl (bD v1))),(bu v2)] aJ (qj N v1 v2):=
 fw Tryz.func15 (gA [[],[]] (gT dU 0 v1 λh2=>dc 1 [] [0,1,5] 0 (λv3=>⟨18,[(0,(.d (.sl (bD v1)))),(1,(bu v2)),(5,(an (v3:Int)))],[]⟩) (λv3 h3 f1=>gR [[(7,oL v1 dI)],[f0 (aU h3)],[]]) (λv3 v5 v6 h3 f1 aE=>gA [[(7,oL v1 dI)],[t0 (aV h3)],[(7,oE (ia (aL h3)))]] (bJ λh4=>gb aE () [[f0 h4],[(5,oq (bk h3 rfl h2))]] h3))))
def uR(N:Nat)(v1:agL):Nat->Int->agM Bool
 |0,_=>none
 |v5+1,v6=>
  bif (decide (v6<(v1.size:Int)))then
   bif (decide ((0:Int)<=v6))then
   Option.bind (v1[(v6).toNat]?) λv7=>
   Option.bind (bif (decide ((v7.toNat:Int)>=97))then(bif (decide ((v7.toNat:Int)<=122))then some (!true)else(bif (decide (v6>0))then(bif (decide ((v7.toNat:Int)>=48))then(bif (decide ((v7.toNat:Int)<=57))then some (!true)else some (!((v7.toNat:Int)==95)))else some (!((v7.toNat:Int)==95)))else some (!false)))else(bif (decide (v6>0))then(bif (decide ((v7.toNat:Int)>=48))then(bif (decide ((v7.toNat:Int)<=57))then some (!true)else some (!((v7.toNat:Int)==95)))else some (!((v7.toNat:Int)==95)))else some (!false))) λv8=>
   bif v8 then
    some false
   else
    (λbV=>uR N v1 v5 bV) (aN (v6+(1:Int)))
   else none
  else
   some true
def sx(N:Nat)(v1:agL):agM Bool:=
 Option.bind (bif (decide ((v1.size:Int)<1))then some true else(bif (decide ((v1.size:Int)>16))then some true else (I1 N).bind λv2=>
 (qj N v2 v1).bind λv3=>
 some v3)) λv4=>
 bif v4 then
  some false
 else
  uR N v1 N (0:Int)
theorem C6{N v1}:KO 84 [(bu v1)] aJ (sx N v1):=
 fw Tryz.func84 (gA [[]] (gG (λv4=>[(17,(aJ v4))]) (λ_=>[]) (au (λh1=>gE [(3,bT h1),(8,bT rfl)] []) λh1=>bt (3,bF h1) (au (λh2=>gE [(8,bT h2)] []) λh2=>aq λv2 h3=>aq λv3 h4=>gE [(8,bF h2)] [(28,cK ab6 h3),(34,cK xM h4)])) λv4=>bJ λh6=>BY 1 [[f0 h6],[]] [0,3] 0 (λ(v6:Int)=>⟨50,[(0,(bu v1)),(3,(an v6))],[]⟩) (uR N v1) (λv5 v6 f1 aE=>gA [[]] (kO λh7=>bq λh9=>aq λv7 h8=>gA [[t0 h7],[(7,⟨_,_, .ch (i:=v6) (of_decide_eq_true h9) h8⟩)]] (gG (λv8=>[(49,(aJ v8))]) (λ_=>[]) (au (λbn=>bt (2,bT bn) (au (λbo=>gE [(6,bT bo),(9,uN),(12,uN),(16,uN)] []) λbo=>bt (6,bF bo) (au (λa8=>bt (9,bT a8) (bS (61,bT a8) (au (λcn=>bt (12,bT cn) (bS (46,bT cn) (au (λcg=>gE [(16,bT cg)] [(58,bT cg)]) λcg=>gE [(16,bF cg)] [(58,bF cg)]))) λcn=>gE [(12,bF cn),(16,bF rfl)] [(46,bF cn),(58,bF rfl)]))) λa8=>gE [(9,bF a8),(12,uN),(16,uN)] [(61,bF a8)]))) λbn=>bt (2,bF bn) (bt (6,bF rfl) (au (λbG=>bt (9,bT bG) (bS (61,bT bG) (au (λcf=>bt (12,bT cf) (bS (46,bT cf) (au (λcP=>gE [(16,bT cP)] [(58,bT cP)]) λcP=>gE [(16,bF cP)] [(58,bF cP)]))) λcf=>gE [(12,bF cf),(16,bF rfl)] [(46,bF cf),(58,bF rfl)]))) λbG=>gE [(9,bF bG),(12,uN),(16,uN)] [(61,bF bG)]))) λv8=>bJ λgd=>qn aE (aN (v6+(1:Int))) [[f0 gd],[]])))))
def te(N:Nat)(v1:agL)(v2:agK agL):agM Int:=
 (sx N v1).bind λv3=>
 bif v3 then
  (qj N v2 v1).bind λv4=>
  bif v4 then
   some (8:Int)
  else
   some (0:Int)
 else
  some (7:Int)
theorem Ct{N v1 v2}:KO 106 [(bu v1),(.d (.sl (bD v2)))] an (te N v1 v2):=
 fw Tryz.func106 (aq λv3 h1=>gA [[],[(4,cK C6 h1)]] (eJ λh2=>aq λv4 h3=>gA [[f0 (b9 h2)],[(7,cK xM h3)]] (bJ λh4=>gR [[f0 h4],[]])))
def DP(N:Nat)(v1:aB):agK agL->Nat->agM Int
 |[],_=>
  some (0:Int)
 |v5::v6,v3=>
  bif (decide (((v3:Int)).toNat<=v1.aD.length))then
  Option.bind (te N v5 ((v1.aD.take ((v3:Int)).toNat).drop 0)) λv7=>
  bif (v7 !=0)then
   some v7
  else
   (DP N v1 v6 (v3+1))
  else none
def Bq(N:Nat)(v1:aB):agM Int:=
 Option.bind (bif (decide ((v1.aD.length:Int)>64))then some true else(bif (decide ((v1.aC.length:Int)>64))then some true else(bif (decide ((v1.aw.length:Int)>64))then some true else(bif (decide ((v1.cd.length:Int)>64))then some true else some (decide ((v1.bX.length:Int)>256)))))) λv2=>
 bif v2 then
  some (2:Int)
 else
  DP N v1 v1.aD 0
theorem XR{N v1}:KO 58 [(cH v1)] an (Bq N v1):=
 fw Tryz.func58 (gA [[]] (gG (λv2=>[(32,(aJ v2))]) (λ_=>[.cells (cH v1).cells]) (bS (7,oL v1.aD dI) (au (λh1=>gE [(4,bT h1),(10,bT rfl),(16,bT rfl),(22,bT rfl)] []) λh1=>bt (4,bF h1) (bS (22,oL v1.aC gv) (au (λh2=>gE [(10,bT h2),(16,bT rfl),(22,bT rfl)] []) λh2=>bt (10,bF h2) (bS (40,oL v1.aw fF) (au (λh3=>gE [(16,bT h3),(22,bT rfl)] []) λh3=>bt (16,bF h3) (bS (58,oL v1.cd dI) (au (λh4=>gE [(22,bT h4)] []) λh4=>gE [(22,bF h4)] [(76,oL v1.bX jr)])))))))) λv2=>fW λ_=>gB dU 0 0 v1.aD λh8=>dc 1 [] [1,3] 1 (λv3=>⟨53,[(1,(.ptr 0 0)),(3,(an (v3:Int)))],[.cells (cH v1).cells]⟩) (λv3 h9 f1=>gR [[(10,oL v1.aD dI)],[f0 (aU h9)],[]]) (λv3 v5 v6 h9 f1 aE=>bq λbn=>aq λv7 bo=>gA [[(10,oL v1.aD dI)],[t0 (aV h9)],[(10,oE (ia (aL h9))),(25,⟨_,_, .sub (xs:=bD v1.aD) (lo:=0) (hi:=(v3:Int)) (by decide) (Nat.zero_le _) (of_decide_eq_true (agD (Int.natCast_nonneg _))) (by rw[dI];exact(of_decide_eq_true bn)) D9 Hg⟩),(28,cK Ct bo)],[]] (bJ λa8=>gb aE () [[f0 a8],[(5,oq (bk h9 rfl h8))]] h9))))
def B8(N:Nat)(v1:aI):agK aR->Nat->agM Bool
 |[],_=>
  some true
 |v4::v5,v2=>
  (sx N v4.ak).bind λv6=>
  Option.bind (bif v6 then(bif (v4.cO.toInt==0)then some true else(bif (decide ((v2:Int)>0))then bif (decide ((0:Int)<=(aN ((v2:Int)-(1:Int)))))then
  Option.bind (v1.xL[((aN ((v2:Int)-(1:Int)))).toNat]?) λv7=>
  some (!(Op.bytesLess (bL v7.ak) (bL v4.ak)))
  else none else some false))else some true) λv8=>
  bif v8 then
   some false
  else
   (B8 N v1 v5 (v2+1))
def ta(N:Nat)(v1:aI):agM Bool:=
 B8 N v1 v1.xL 0
theorem yQ{N v1}:KO 107 [(ca v1)] aJ (ta N v1):=
 fw Tryz.func107 (gA [[],[]] (gB ku 0 1 v1.xL λh2=>dc 1 [] [1,3] 1 (λv2=>⟨48,[(1,(.ptr 0 0)),(3,(an (v2:Int)))],[.cells (ca v1).cells]⟩) (λv2 h3 f1=>gR [[(10,oL v1.xL dO)],[f0 (aU h3)],[]]) (λv2 v4 v5 h3 f1 aE=>gA [[(10,oL v1.xL dO)],[t0 (aV h3)]] (aq λv6 h4=>gG (λv8=>[(47,(aJ v8))]) (λ_=>[.cells (ca v1).cells]) (bS (10,oE (iY (aL h3))) (bS (19,cK C6 h4) (au (λh5=>bt (8,bF (b9 h5)) (bS (37,oE (iY (aL h3))) (au (λh6=>gE [(17,bT h6),(20,uN)] []) λh6=>bt (17,bF h6) (au (λh7=>bq λh9=>aq λv7 h8=>gE [(20,bT h7)] [(76,⟨_,_, .el (xs:=cw v1.xL) (i:=(aN ((v2:Int)-(1:Int)))) (of_decide_eq_true h9) (iY h8)⟩),(94,oE (iY (aL h3))),(106,bT h7)]) λh7=>gE [(20,bF h7)] [(106,bF h7)])))) λh5=>gE [(8,bT (dm h5)),(17,bT rfl),(20,uN)] []))) λv8=>bJ λbo=>gb aE () [[f0 bo],[(5,oq (bk h3 rfl h2))]] h3))))
def B7(N:Nat)(v2:agK agL)(v3:agK agL):agK aR->Nat->agM Bool
 |[],_=>
  some true
 |v6::v7,v4=>
  (qj N v2 v6.ak).bind λv8=>
  Option.bind (bif v8 then some false else (qj N v3 v6.ak).bind λv9=>
  some (!v9)) λv10=>
  bif v10 then
   some false
  else
   (B7 N v2 v3 v7 (v4+1))
def xT(N:Nat)(v1:aI)(v2:agK agL)(v3:agK agL):agM Bool:=
 B7 N v2 v3 v1.xL 0
theorem KE{N v1 v2 v3}:KO 108 [(ca v1),(.d (.sl (bD v2))),(.d (.sl (bD v3)))] aJ (xT N v1 v2 v3):=
 fw Tryz.func108 (gA [[],[]] (gB ku 0 1 v1.xL λh2=>dc 1 [] [1,2,3,7] 1 (λv4=>⟨35,[(1,(.d (.sl (bD v2)))),(2,(.d (.sl (bD v3)))),(3,(.ptr 0 0)),(7,(an (v4:Int)))],[.cells (ca v1).cells]⟩) (λv4 h3 f1=>gR [[(10,oL v1.xL dO)],[f0 (aU h3)],[]]) (λv4 v6 v7 h3 f1 aE=>gA [[(10,oL v1.xL dO)],[t0 (aV h3)]] (aq λv8 h4=>gG (λv10=>[(34,(aJ v10))]) (λ_=>[.cells (ca v1).cells]) (bS (13,oE (iY (aL h3))) (bS (22,cK xM h4) (au (λh5=>gE [(9,bF (b9 h5))] []) λh5=>aq λv9 h6=>gE [(9,bT (dm h5))] [(43,oE (iY (aL h3))),(52,cK xM h6)]))) λv10=>bJ λh8=>gb aE () [[f0 h8],[(5,oq (bk h3 rfl h2))]] h3))))
def wW(N:Nat)(v1:aI)(v2:agK agL):agM Int:=
 (ta N v1).bind λv3=>
 bif v3 then
  Option.bind (xT N v1 [] v2) λv4=>
  bif v4 then
   some (0:Int)
  else
   some (9:Int)
 else
  some (1:Int)
theorem Ip{N v1 v2}:KO 59 [(ca v1),(.d (.sl (bD v2)))] an (wW N v1 v2):=
 fw Tryz.func59 (aq λv3 h1=>gA [[],[(4,cK yQ h1)]] (eJ λh2=>aq λv4 h3=>gA [[f0 (b9 h2)],[(7,cK KE h3)]] (Jf λh4=>gR [[t0 (dm h4)],[]])))
def tK(N:Nat)(v1:bz):agM Bool:=
 Option.bind (bif (v1.bO==1)then some true else some (v1.bO==3)) λv2=>
 bif v2 then
  Option.bind (bif (v1.bZ==0)then(bif (v1.cu==0)then(bif (v1.ct==0)then some (v1.cv==0)else some false)else some false)else some false) λv3=>
  some v3
 else
  Option.bind (bif (v1.bO==2)then(bif (decide (v1.bZ>=2))then(bif (decide (v1.bZ<=31))then(bif (decide (v1.cu>=0))then(bif (decide (v1.cu<=30))then(bif (decide (v1.ct>=1))then(bif (decide (v1.ct<=4))then(bif (v1.cv==1)then some true else some (v1.cv==2))else some false)else some false)else some false)else some false)else some false)else some false)else some false) λv4=>
  some v4
theorem Cp{N v1}:KO 85 [(dP v1)] aJ (tK N v1):=
 fw Tryz.func85 (gA [[]] (gG (λv2=>[(10,(aJ v2))]) (λ_=>[.cells (dP v1).cells]) (au (λh1=>gE [(3,bT h1)] []) λh1=>gE [(3,bF h1)] []) λv2=>au (λh3=>gA [[t0 h3]] (gG (λv3=>[(2,(aJ v3))]) (λ_=>[.cells (dP v1).cells]) (au (λh4=>bt (3,bT h4) (au (λh5=>bt (8,bT h5) (au (λh6=>gE [(13,bT h6)] []) λh6=>gE [(13,bF h6)] [])) λh5=>gE [(8,bF h5),(13,bF rfl)] [])) λh4=>gE [(3,bF h4),(8,bF rfl),(13,bF rfl)] []) λv3=>gR [])) λh3=>gA [[f0 h3]] (gG (λv4=>[(2,(aJ v4))]) (λ_=>[.cells (dP v1).cells]) (au (λh8=>bt (3,bT h8) (au (λh9=>bt (8,bT h9) (au (λbn=>bt (13,bT bn) (au (λbo=>bt (18,bT bo) (au (λa8=>bt (23,bT a8) (au (λcn=>bt (28,bT cn) (au (λcg=>bt (33,bT cg) (au (λbG=>gE [(37,bT bG)] [(124,bT bG)]) λbG=>gE [(37,bF bG)] [(124,bF bG)])) λcg=>gE [(33,bF cg),(37,uN)] [])) λcn=>gE [(28,bF cn),(33,bF rfl),(37,uN)] [])) λa8=>gE [(23,bF a8),(28,bF rfl),(33,bF rfl),(37,uN)] [])) λbo=>gE [(18,bF bo),(23,bF rfl),(28,bF rfl),(33,bF rfl),(37,uN)] [])) λbn=>gE [(13,bF bn),(18,bF rfl),(23,bF rfl),(28,bF rfl),(33,bF rfl),(37,uN)] [])) λh9=>gE [(8,bF h9),(13,bF rfl),(18,bF rfl),(23,bF rfl),(28,bF rfl),(33,bF rfl),(37,uN)] [])) λh8=>gE [(3,bF h8),(8,bF rfl),(13,bF rfl),(18,bF rfl),(23,bF rfl),(28,bF rfl),(33,bF rfl),(37,uN)] []) λv4=>gR [])))
def Et(N:Nat)(v2:agK agL):agK aI->Nat->agM Int
 |[],_=>
  some (0:Int)
 |v8::v9,v6=>
  (wW N v8 v2).bind λv10=>
  bif (v10 !=0)then
   some v10
  else
   (Et N v2 v9 (v6+1))
def Ek(N:Nat)(v1:ck)(v2:agK agL)(v3:agK agL):agM Int:=
 (te N v1.ak v3).bind λv4=>
 bif (v4 !=0)then
  some v4
 else
  (tK N v1.aH).bind λv5=>
  bif v5 then
   bif (decide ((v1.aK.length:Int)>6))then
    some (11:Int)
   else
    Et N v2 v1.aK 0
  else
   some (10:Int)
theorem Zi{N v1 v2 v3}:KO 60 [(oB v1),(.d (.sl (bD v2))),(.d (.sl (bD v3)))] an (Ek N v1 v2 v3):=
 fw Tryz.func60 (aq λv4 h1=>gA [[],[(10,cK Ct h1)],[]] (bJ λh2=>aq λv5 h3=>gA [[f0 h2],[(7,cK Cp h3)]] (eJ λh4=>gA [[f0 (b9 h4)],[(7,oL v1.aK dC)]] (fW λ_=>gB j9 0 6 v1.aK λh7=>dc 1 [] [1,3,8] 1 (λv6=>⟨42,[(1,(.d (.sl (bD v2)))),(3,(.ptr 0 0)),(8,(an (v6:Int)))],[.cells (oB v1).cells]⟩) (λv6 h8 f1=>gR [[(10,oL v1.aK dC)],[f0 (aU h8)],[]]) (λv6 v8 v9 h8 f1 aE=>aq λv10 h9=>gA [[(10,oL v1.aK dC)],[t0 (aV h8)],[(10,oE (kS (aL h8))),(19,cK Ip h9)],[]] (bJ λbn=>gb aE () [[f0 bn],[(5,oq (bk h8 rfl h7))]] h8))))))
def EM(N:Nat)(v2:agK agL):agK bH->Nat->(agK agL)->agM Int
 |[],_,_=>
  some (0:Int)
 |v5::v6,v3,v7=>
  (te N v5.ak v7).bind λv8=>
  bif (v8 !=0)then
   some v8
  else
   (wW N v5.cU v2).bind λv9=>
   bif (v9 !=0)then
    some v9
   else
    bif (Nat.ble ((v7.length+1)*16) 140737488355328)then
    (λbV=>EM N v2 v6 (v3+1) bV) (v7++[v5.ak])
    else none
def FF(N:Nat)(v1:agK bH)(v2:agK agL):agM Int:=
 bif (Nat.ble ((0+v2.length)*16) 140737488355328)then
 EM N v2 v1 0 v2
 else none
theorem abI{N v1 v2}:KO 109 [(.d (.sl (dD v1))),(.d (.sl (bD v2)))] an (FF N v1 v2):=
 fw Tryz.func109 (bq λh1=>gA [[],[(7,oZ dU v2 h1)],[]] (gT ji 0 v1 λh3=>eY 1 [] [0,1,5,6] 1 (λv3(v7:agK agL)=>⟨46,[(0,(.d (.sl (dD v1)))),(1,(.d (.sl (bD v2)))),(5,(.own 0 (bD v7))),(6,(an (v3:Int)))],[.front 9 1 v7.length]⟩) (λv3 v7 h4 f1=>gR [[(7,oL v1 dW)],[f0 (aU h4)],[]]) (λv3 v5 v6 v7 h4 f1 aE=>aq λv8 h5=>gA [[(7,oL v1 dW)],[t0 (aV h4)],[(7,oE (iX (aL h4))),(19,cK Ct h5)],[]] (bJ λh6=>aq λv9 h7=>gA [[f0 h6],[(7,oE (iX (aL h4))),(19,cK Ip h7)],[]] (bJ λh8=>bq λh9=>gb aE (v7++[v5.ak]) [[f0 h8],[(10,oE (iX (aL h4))),(22,oA dU v7 ([v5.ak]) h9)],[(5,oq (bk h4 rfl h3))]] h4)))))
def CJ(N:Nat)(v1:aT):agM Int:=
 Option.bind (bif (decide (v1.dd<0))then some true else some (decide (v1.dd>5))) λv2=>
 bif v2 then
  some (1:Int)
 else
  Option.bind (bif (v1.dd==0)then some true else some (v1.dd==5)) λv3=>
  Option.bind (bif (v3==((v1.bx.length:Int)==0))then(bif (v1.dd==5)then some ((v1.aK.length:Int)==0)else some false)else some true) λv4=>
  bif v4 then
   some (11:Int)
  else
   some (0:Int)
theorem aa3{N v1}:KO 110 [(ej v1)] an (CJ N v1):=
 fw Tryz.func110 (gA [[]] (gG (λv2=>[(11,(aJ v2))]) (λ_=>[.cells (ej v1).cells]) (au (λh1=>gE [(3,bT h1)] []) λh1=>gE [(3,bF h1)] []) λv2=>bJ λh3=>gA [[f0 h3]] (gG (λv3=>[(3,(aJ v3))]) (λ_=>[.cells (ej v1).cells]) (au (λh4=>gE [(3,bT h4)] []) λh4=>gE [(3,bF h4)] []) λv3=>gG (λv4=>[(36,(aJ v4))]) (λ_=>[.cells (ej v1).cells]) (bS (10,oL v1.bx dW) (au (λh6=>bt (6,bF (b9 h6)) (au (λh7=>gE [(10,bT h7)] [(40,oL v1.aK dW),(46,bT h7)]) λh7=>gE [(10,bF h7)] [(46,bF h7)])) λh6=>gE [(6,bT (dm h6)),(10,uN)] [])) λv4=>bJ λh9=>gR [[f0 h9],[]])))
def y4(N:Nat):agK bH->Nat->(agK agL)->agM ((agK agL))
 |[],_,v11=>
  some v11
 |v9::v10,v7,v11=>
  bif (Nat.ble ((v11.length+1)*16) 140737488355328)then
  (λig=>y4 N v10 (v7+1) ig) (v11++[v9.ak])
  else none
def xZ(N:Nat)(v1:aT):agK bH->Nat->(agK agL)->agM ((agK agL))
 |[],_,v6=>
  y4 N v1.bx 0 v6
 |v4::v5,v2,v6=>
  bif (Nat.ble ((v6.length+1)*16) 140737488355328)then
  (λbV=>xZ N v1 v5 (v2+1) bV) (v6++[v4.ak])
  else none
def A2(N:Nat)(v1:aT):agM ((agK agL)):=
 xZ N v1 v1.aK 0 []
theorem Q6{N v1}:KO 46 [(ej v1)] (λr=> .d (.sl (bD r))) (A2 N v1):=
 fw Tryz.func46 (gA [[],[],[]] (li (λ_=>(jw 3 9 1 [] (.inr (by kernel_rfl)) ·)) (gB ji 0 6 v1.aK λh2=>eY 1 [] [1,3,4] 2 (λv2(v6:agK agL)=>⟨39,[(1,(.ptr 0 0)),(3,(.own 1 (bD v6))),(4,(an (v2:Int)))],[.cells (ej v1).cells, .front 9 1 v6.length]⟩) (λv2 v6 h3 f1=>gA [[(10,oL v1.aK dW)],[f0 (aU h3)],[]] (gB ji 0 7 v1.bx λh5=>eY 2 [] [1,3,5] 2 (λv7(v11:agK agL)=>⟨39,[(1,(.ptr 0 0)),(3,(.own 1 (bD v11))),(5,(an (v7:Int)))],[.cells (ej v1).cells, .front 9 1 v11.length]⟩) (λv7 v11 h6 f2=>gR [[(10,oL v1.bx dW)],[f0 (aU h6)],[]]) (λv7 v9 v10 v11 h6 f2 de=>bq λh7=>gb de (v11++[v9.ak]) [[(10,oL v1.bx dW)],[t0 (aV h6)],[(13,oE (iX (aL h6))),(25,oA dU v11 ([v9.ak]) h7)],[(5,oq (bk h6 rfl h5))]] h6))) (λv2 v4 v5 v6 h3 f1 aE=>bq λh8=>gb aE (v6++[v4.ak]) [[(10,oL v1.aK dW)],[t0 (aV h3)],[(13,oE (iX (aL h3))),(25,oA dU v6 ([v4.ak]) h8)],[(5,oq (bk h3 rfl h2))]] h3))))
def vr(N:Nat)(v2:Int)(NR:ao->Int->agM Int):agK ao->Nat->Int->agM Int
 |[],_,v7=>
  some v7
 |v5::v6,v3,v7=>
  bif (decide (v2>1))then
   Option.bind (NR v5 (aN (v2-(1:Int)))) λv8=>
   (λbV=>vr N v2 NR v6 (v3+1) bV) (if(aN ((1:Int)+v8))>v7 then(aN ((1:Int)+v8))else v7)
  else
   some v7
def nJ(N:Nat):Nat->ao->Int->agM Int
 |0,_,_=>none
 |d+1,v1,v2=>
  vr N v2 (nJ N d) v1.ba 0 (1:Int)
def J2(N:Nat)(v1:ao)(v2:Int):agM Int:=nJ N N v1 v2
theorem UP(N:Nat):∀d:Nat,(∀{v1:ao}{v2:Int},KO 221 [(aO v1),(an v2)] an (nJ N d v1 v2)):=by
 intro d
 induction d with
 |zero=>intro v1 v2 r hF;rw[nJ]at hF;cases hF
 |succ d ih=>
  have Yb:= @ih;intro v1 v2;rw[nJ];exact fw Tryz.func221 (gA [[],[],[]] (gB jM 0 12 v1.ba λh2=>eY 1 [] [1,2,5,6] 1 (λv3(v7:Int)=>⟨30,[(1,(an v2)),(2,(.ptr 0 0)),(5,(an v7)),(6,(an (v3:Int)))],[.cells (aO v1).cells]⟩) (λv3 v7 h3 f1=>gR [[(10,oL v1.ba eX),(18,bF (aU h3)),(21,bF (aU h3)),(25,bF (aU h3))],[(0,bF rfl)],[]]) (λv3 v5 v6 v7 h3 f1 aE=>gA [[(10,oL v1.ba eX),(18,bT (aV h3)),(21,bT (aV h3)),(25,bT (aV h3))]] (kO λh4=>aq λv8 h5=>gb aE (if(aN ((1:Int)+v8))>v7 then(aN ((1:Int)+v8))else v7) [[(0,bT h4)],[(13,oE (j6 (aL h3))),(25,cK Yb h5)],[(5,oq (bk h3 rfl h2))]] h3))))
theorem TV{N v1 v2}:KO 221 [(aO v1),(an v2)] an (J2 N v1 v2):=(UP N N)
def HJ(N:Nat)(v1:ao):agM Int:=
 Option.bind (J2 N v1 (41:Int)) λv2=>
 some v2
theorem Yo{N v1}:KO 188 [(aO v1)] an (HJ N v1):=
 fw Tryz.func188 (aq λv2 h1=>gR [[],[(4,cK TV h1)]])
def zk(N:Nat)(v2:Int)(R0:ao->Int->agM Int):agK ao->Nat->Int->agM Int
 |[],_,v7=>
  some v7
 |v5::v6,v3,v7=>
  bif (decide (v7<=v2))then
   Option.bind (R0 v5 (aN (v2-v7))) λv8=>
   (λbV=>zk N v2 R0 v6 (v3+1) bV) (aN (v7+v8))
  else
   some v7
def o9(N:Nat):Nat->ao->Int->agM Int
 |0,_,_=>none
 |d+1,v1,v2=>
  zk N v2 (o9 N d) v1.ba 0 (1:Int)
def Hk(N:Nat)(v1:ao)(v2:Int):agM Int:=o9 N N v1 v2
theorem WJ(N:Nat):∀d:Nat,(∀{v1:ao}{v2:Int},KO 222 [(aO v1),(an v2)] an (o9 N d v1 v2)):=by
 intro d
 induction d with
 |zero=>intro v1 v2 r hF;rw[o9]at hF;cases hF
 |succ d ih=>
  have XY:= @ih;intro v1 v2;rw[o9];exact fw Tryz.func222 (gA [[],[],[]] (gB jM 0 12 v1.ba λh2=>eY 1 [] [1,2,5,6] 1 (λv3(v7:Int)=>⟨31,[(1,(an v2)),(2,(.ptr 0 0)),(5,(an v7)),(6,(an (v3:Int)))],[.cells (aO v1).cells]⟩) (λv3 v7 h3 f1=>gR [[(10,oL v1.ba eX),(18,bF (aU h3)),(21,bF (aU h3)),(24,bF (aU h3)),(28,bF (aU h3))],[(0,bF rfl)],[]]) (λv3 v5 v6 v7 h3 f1 aE=>gA [[(10,oL v1.ba eX),(18,bT (aV h3)),(21,bT (aV h3)),(24,bT (aV h3)),(28,bT (aV h3))]] (kO λh4=>aq λv8 h5=>gb aE (aN (v7+v8)) [[(0,bT h4)],[(13,oE (j6 (aL h3))),(28,cK XY h5)],[(5,oq (bk h3 rfl h2))]] h3))))
theorem ZA{N v1 v2}:KO 222 [(aO v1),(an v2)] an (Hk N v1 v2):=(WJ N N)
def HE(N:Nat)(v1:ao):agM Int:=
 Option.bind (Hk N v1 (2000:Int)) λv2=>
 some (if(2001:Int)<v2 then(2001:Int)else v2)
theorem aeJ{N v1}:KO 189 [(aO v1)] an (HE N v1):=
 fw Tryz.func189 (aq λv2 h1=>gR [[],[(4,cK ZA h1)]])
def Gf(N:Nat):agK bl->Nat->agM Bool
 |[],_=>
  some true
 |v7::v8,v5=>
  Option.bind (bif (bL v7.b7==bL (bs []))then(bif (decide ((v7.bK.length:Int)>0))then some true else some false)else(bif (v7.aP.xK.toInt !=0)then some true else some (decide ((v7.aP.xL.length:Int)>0)))) λv9=>
  bif v9 then
   some false
  else
   (Gf N v8 (v5+1))
def CP(N:Nat)(v1:ao):agM Bool:=
 Option.bind (bif (decide (v1.aM<1))then some true else some (decide (v1.aM>18))) λv2=>
 bif v2 then
  some false
 else
  Option.bind (bif (v1.aM !=1)then(bif ((v1.dL.xN.toInt==(0:Int64).toInt)&&((v1.dL.xD.toInt==(0:Int64).toInt)&&true))then(bif (v1.aM !=12)then some (!((v1.aH.bO==0)&&((v1.aH.bZ==0)&&((v1.aH.cu==0)&&((v1.aH.ct==0)&&((v1.aH.cv==0)&&true))))))else some false)else some true)else some false) λv3=>
  bif v3 then
   some false
  else
   Option.bind (bif (v1.aM !=2)then(bif (v1.aP.xK.toInt !=0)then some true else(bif (decide ((v1.aP.xL.length:Int)>0))then some true else(bif (v1.aM !=3)then(bif (bL v1.ak==bL (bs []))then some (decide ((v1.xIdx.length:Int)>0))else some true)else some false)))else(bif (v1.aM !=3)then(bif (bL v1.ak==bL (bs []))then some (decide ((v1.xIdx.length:Int)>0))else some true)else some false)) λv4=>
   bif v4 then
    some false
   else
    Gf N v1.xIdx 0
def za(v1:ao)(l:agK aj):agK aj:= .cells (aO v1).cells::l
theorem abJ{N v1}:KO 223 [(aO v1)] aJ (CP N v1):=
 fw Tryz.func223 (gA [[]] (gG (λv2=>[(12,(aJ v2))]) (λ_=>(za v1 [])) (au (λh1=>gE [(3,bT h1)] []) λh1=>gE [(3,bF h1)] []) λv2=>bJ λh3=>gA [[f0 h3]] (gG (λv3=>[(37,(aJ v3))]) (λ_=>(za v1 [])) (au (λh4=>bt (3,bT h4) (au (λh5=>bt (9,bF (b9 h5)) (bt (13,bT h4) (bS (52,bT h4) (au (λh6=>gE [(18,bT h6)] [(70,bT h6)]) λh6=>gE [(18,bF h6)] [(70,bF h6)])))) λh5=>gE [(9,bT (dm h5)),(13,uN),(18,uN)] [])) λh4=>gE [(3,bF h4),(9,bF rfl),(13,bF h4),(18,bF rfl)] [(52,bF h4),(70,bF rfl)]) λv3=>bJ λh8=>gA [[f0 h8]] (gG (λv4=>[(69,(aJ v4))]) (λ_=>(za v1 [])) (au (λh9=>bt (3,bT h9) (au (λbn=>gE [(8,bT bn),(16,bT rfl),(20,uN),(24,uN)] [(43,bT bn)]) λbn=>bt (8,bF bn) (bS (37,oL v1.aP.xL dO) (bS (43,bF bn) (au (λbo=>gE [(16,bT bo),(20,uN),(24,uN)] []) λbo=>bt (16,bF bo) (au (λa8=>bt (20,bT a8) (bS (91,bT a8) (au (λcn=>gE [(24,bF (b9 cn))] [(82,oL v1.xIdx ee),(88,bF (b9 cn))]) λcn=>gE [(24,bT (dm cn))] [(88,bT (dm cn))]))) λa8=>gE [(20,bF a8),(24,uN)] [(91,bF a8)])))))) λh9=>bt (3,bF h9) (bt (8,uN) (bt (16,bF rfl) (au (λcg=>bt (20,bT cg) (bS (91,bT cg) (au (λbG=>gE [(24,bF (b9 bG))] [(82,oL v1.xIdx ee),(88,bF (b9 bG))]) λbG=>gE [(24,bT (dm bG))] [(88,bT (dm bG))]))) λcg=>gE [(20,bF cg),(24,uN)] [(91,bF cg)])))) λv4=>fW λ_=>gB jO 0 11 v1.xIdx λgd=>dc 1 [] [1,3] 1 (λv5=>⟨109,[(1,(.ptr 0 0)),(3,(an (v5:Int)))],(za v1 [])⟩) (λv5 du f1=>gR [[(10,oL v1.xIdx ee)],[f0 (aU du)],[]]) (λv5 v7 v8 du f1 aE=>gA [[(10,oL v1.xIdx ee)],[t0 (aV du)],[(10,oE (ff (aL du)))]] (gG (λv9=>[(108,(aJ v9))]) (λ_=>(za v1 [.cells (fP v7).cells])) (au (λeK=>bt (3,bT eK) (bS (19,oL v7.bK dC) (au (λgh=>gE [(9,bT gh),(13,uN),(18,uN)] []) λgh=>gE [(9,bF gh),(13,bF (b9 eK)),(18,uN)] [(76,bF (b9 eK))]))) λeK=>bt (3,bF eK) (bt (9,bF rfl) (bt (13,bT (dm eK)) (bS (76,bT (dm eK)) (au (λeM=>gE [(18,bT eM)] [(73,bT eM)]) λeM=>gE [(18,bF eM)] [(67,oL v7.aP.xL dO),(73,bF eM)]))))) λv9=>bJ λjB=>gb aE () [[f0 jB],[(5,oq (bk du rfl gd))]] du))))))
def CX(N:Nat):agK bl->Nat->agM Bool
 |[],_=>
  some true
 |v6::v7,v4=>
  Option.bind (bif (bL v6.b7==bL (bs []))then some false else (sx N v6.b7).bind λv8=>
  some (!v8)) λv9=>
  bif v9 then
   some false
  else
   (CX N v7 (v4+1))
def Cq(N:Nat)(v1:ao):agM Bool:=
 Option.bind (bif (v1.aM==3)then (sx N v1.ak).bind λv2=>
 some (!v2)else some false) λv3=>
 bif v3 then
  some false
 else
  CX N v1.xIdx 0
theorem ZQ{N v1}:KO 224 [(aO v1)] aJ (Cq N v1):=
 fw Tryz.func224 (gA [[]] (gG (λv3=>[(12,(aJ v3))]) (λ_=>[.cells (aO v1).cells]) (au (λh1=>aq λv2 h2=>gE [(3,bT h1)] [(19,cK C6 h2)]) λh1=>gE [(3,bF h1)] []) λv3=>fW λ_=>gB jO 0 11 v1.xIdx λh6=>dc 1 [] [1,3] 1 (λv4=>⟨37,[(1,(.ptr 0 0)),(3,(an (v4:Int)))],[.cells (aO v1).cells]⟩) (λv4 h7 f1=>gR [[(10,oL v1.xIdx ee)],[f0 (aU h7)],[]]) (λv4 v6 v7 h7 f1 aE=>gA [[(10,oL v1.xIdx ee)],[t0 (aV h7)]] (gG (λv9=>[(36,(aJ v9))]) (λ_=>[.cells (aO v1).cells]) (bS (10,oE (ff (aL h7))) (au (λh8=>gE [(7,bF (b9 h8))] []) λh8=>aq λv8 h9=>gE [(7,bT (dm h8))] [(34,oE (ff (aL h7))),(43,cK C6 h9)])) λv9=>bJ λbo=>gb aE () [[f0 bo],[(5,oq (bk h7 rfl h6))]] h7))))
def Bb(N:Nat)(v1:Int)(v3:Bool):agM Int:=
 bif v3 then
  some (1:Int)
 else
  bif (v1==11)then
   some (3:Int)
  else
   some (2:Int)
def x8(N:Nat)(v1:Int)(v2:Bool):agM Int:=
 bif v2 then
  some (0:Int)
 else
  bif (v1==8)then
   Bb N v1 (v1==8)
  else
   bif (v1==12)then
    Bb N v1 (v1==12)
   else
    Bb N v1 (v1==18)
def Fj(N:Nat)(v1:Int):agM Int:=
 bif (v1==1)then
  x8 N v1 (v1==1)
 else
  bif (v1==2)then
   x8 N v1 (v1==2)
  else
   x8 N v1 (v1==3)
theorem VO{N v1}:KO 251 [(an v1)] an (Fj N v1):=
 fw Tryz.func251 (l7 1 [[],[],[]] [3,4] 0 (λ(v2:Bool)=>⟨14,[(3,(an v1)),(4,(aJ v2))],[]⟩) (x8 N v1) (λf1 aE=>au (λh6=>gm aE (v1==1) [[t0 h6]]) λh6=>gA [[f0 h6],[]] (au (λh7=>gm aE (v1==2) [[t0 h7]]) λh7=>gm aE (v1==3) [[f0 h7],[]])) (λv2=>bJ λh1=>l7 2 [[f0 h1],[]] [3,8] 0 (λ(v3:Bool)=>⟨14,[(3,(an v1)),(8,(aJ v3))],[]⟩) (Bb N v1) (λf2 de=>au (λh4=>gm de (v1==8) [[t0 h4]]) λh4=>gA [[f0 h4],[]] (au (λh5=>gm de (v1==12) [[t0 h5]]) λh5=>gm de (v1==18) [[f0 h5],[]])) (λv3=>fW λ_=>bJ λh3=>gR [[f0 h3],[]])))
def E9(N:Nat):agK bl->Nat->agM Bool
 |[],_=>
  some true
 |v6::v7,v4=>
  bif (decide ((v6.bK.length:Int)>6))then
   some false
  else
   (E9 N v7 (v4+1))
def DU(N:Nat)(v1:ao):agM Bool:=
 (Fj N v1.aM).bind λv2=>
 Option.bind (bif ((v1.ba.length:Int) !=v2)then some true else some (decide ((v1.xIdx.length:Int)>6))) λv3=>
 bif v3 then
  some false
 else
  E9 N v1.xIdx 0
theorem aao{N v1}:KO 225 [(aO v1)] aJ (DU N v1):=
 fw Tryz.func225 (gA [[]] (aq λv2 h1=>gG (λv3=>[(16,(aJ v3))]) (λ_=>[.cells (aO v1).cells]) (bS (7,oL v1.ba eX) (bS (16,cK VO h1) (au (λh2=>gE [(7,bT h2)] []) λh2=>gE [(7,bF h2)] [(31,oL v1.xIdx ee)]))) λv3=>fW λ_=>gB jO 0 11 v1.xIdx λh6=>dc 1 [] [1,3] 1 (λv4=>⟨32,[(1,(.ptr 0 0)),(3,(an (v4:Int)))],[.cells (aO v1).cells]⟩) (λv4 h7 f1=>gR [[(10,oL v1.xIdx ee)],[f0 (aU h7)],[]]) (λv4 v6 v7 h7 f1 aE=>gA [[(10,oL v1.xIdx ee)],[t0 (aV h7)],[(10,oE (ff (aL h7))),(19,oL v6.bK dC)]] (bJ λh8=>gb aE () [[f0 h8],[(5,oq (bk h7 rfl h6))]] h7))))
def xu(N:Nat)(v1:ao):agM Bool:=
 Option.bind (bif (decide (v1.aM>=13))then some (decide (v1.aM<=18))else some false) λv2=>
 some v2
theorem QQ{N v1}:KO 155 [(aO v1)] aJ (xu N v1):=
 fw Tryz.func155 (gA [[]] (gG (λv2=>[(2,(aJ v2))]) (λ_=>[.cells (aO v1).cells]) (au (λh1=>gE [(3,bT h1)] []) λh1=>gE [(3,bF h1)] []) λv2=>gR []))
def Cc(N:Nat)(v1:Int)(v2:Int):agM Bool:=
 Option.bind (bif (v1==11)then(bif (v2==0)then some true else(bif (v1==16)then some true else(bif (v1==17)then some true else some (v1==18))))else(bif (v1==16)then some true else(bif (v1==17)then some true else some (v1==18)))) λv3=>
 some v3
theorem YW{N v1 v2}:KO 252 [(an v1),(an v2)] aJ (Cc N v1 v2):=
 fw Tryz.func252 (gA [[]] (gG (λv3=>[(4,(aJ v3))]) (λ_=>[]) (au (λh1=>bt (2,bT h1) (au (λh2=>gE [(6,bT h2),(10,bT rfl),(14,bT rfl)] []) λh2=>bt (6,bF h2) (au (λh3=>gE [(10,bT h3),(14,bT rfl)] []) λh3=>bt (10,bF h3) (au (λh4=>gE [(14,bT h4)] []) λh4=>gE [(14,bF h4)] [])))) λh1=>bt (2,bF h1) (bt (6,bF rfl) (au (λh5=>gE [(10,bT h5),(14,bT rfl)] []) λh5=>bt (10,bF h5) (au (λh6=>gE [(14,bT h6)] []) λh6=>gE [(14,bF h6)] [])))) λv3=>gR []))
def Fq(N:Nat)(v1:ao):agK ao->Nat->agM Bool
 |[],_=>
  some true
 |v7::v8,v5=>
  (xu N v7).bind λv9=>
  Option.bind (Cc N v1.aM (v5:Int)) λv10=>
  bif (v9==v10)then
   (Fq N v1 v8 (v5+1))
  else
   some false
def Dg(N:Nat)(v1:ao):agM Bool:=
 Option.bind (bif (v1.aM==1)then (tK N v1.aH).bind λv2=>
 some (!v2)else(bif (v1.aM==12)then (tK N v1.aH).bind λv3=>
 some (!v3)else some false)) λv4=>
 bif v4 then
  some false
 else
  Fq N v1 v1.ba 0
theorem YQ{N v1}:KO 226 [(aO v1)] aJ (Dg N v1):=
 fw Tryz.func226 (gA [[]] (gG (λv4=>[(17,(aJ v4))]) (λ_=>[.cells (aO v1).cells]) (au (λh1=>aq λv2 h2=>gE [(3,bT h1),(8,bT rfl)] [(34,cK Cp h2)]) λh1=>bt (3,bF h1) (au (λh3=>aq λv3 h4=>gE [(8,bT h3)] [(34,cK Cp h4)]) λh3=>gE [(8,bF h3)] [])) λv4=>fW λ_=>gB jM 0 12 v1.ba λh8=>dc 1 [] [1,3] 1 (λv5=>⟨36,[(1,(.ptr 0 0)),(3,(an (v5:Int)))],[.cells (aO v1).cells]⟩) (λv5 h9 f1=>gR [[(10,oL v1.ba eX)],[f0 (aU h9)],[]]) (λv5 v7 v8 h9 f1 aE=>aq λv9 bn=>aq λv10 bo=>gA [[(10,oL v1.ba eX)],[t0 (aV h9)],[(10,oE (j6 (aL h9))),(16,cK QQ bn),(28,cK YW bo)]] (eJ λa8=>gb aE () [[f0 (b9 a8)],[(5,oq (bk h9 rfl h8))]] h9))))
def y5(N:Nat):Nat->Int64->Int64->agM Int64
 |0,_,_=>none
 |v3+1,v4,v5=>
  bif (v5.toInt !=0)then
   (λbV mj=>y5 N v3 bV mj) v5 (Int64.ofInt ((v4.toInt).tmod v5.toInt))
  else
   some v4
def Ke(N:Nat)(v1:Int64)(v2:Int64):agM Int64:=
 y5 N N v1 v2
theorem Xb{N v1 v2}:KO 268 [(cD v1),(cD v2)] cD (Ke N v1 v2):=
 fw Tryz.func268 (DS 1 [[]] [0,1] 0 (λ(v4:Int64)(v5:Int64)=>⟨12,[(0,(cD v4)),(1,(cD v5))],[]⟩) (y5 N) (λv3 v4 v5 f1 aE=>gA [[]] (kO λh1=>qn aE (v5,(Int64.ofInt ((v4.toInt).tmod v5.toInt))) [[t0 h1],[(10,⟨_,_, .nz (b:=v5.toInt) (bne_iff_ne.1 h1)⟩),(11,⟨_,_, .eq (TK v4 v5.toInt)⟩)]])))
def FK(N:Nat)(v1:bz)(v2:j5):agM Bool:=
 bif (v1.bO==2)then
  bif (decide ((0:Int)<=(aN (v1.bZ-(1:Int)))))then
  Option.bind (bif (v2.xD.toInt==1)then(bif (decide (v2.xN.toInt>=(-(Int64.ofInt ((1:Int)*2^(min ((aN (v1.bZ-(1:Int)))).toNat (IntKind.bits .i64))))).toInt))then some (decide (v2.xN.toInt<(Int64.ofInt ((1:Int)*2^(min ((aN (v1.bZ-(1:Int)))).toNat (IntKind.bits .i64)))).toInt))else some false)else some false) λv3=>
  some v3
  else none
 else
  Option.bind (bif (decide (v2.xN.toInt>2147483647))then some true else(bif (decide (v2.xN.toInt<(-2147483647:Int)))then some true else(bif (decide (v2.xD.toInt<1))then some true else some (decide (v2.xD.toInt>2147483647))))) λv4=>
  bif v4 then
   some false
  else
   bif (v1.bO==3)then
    some (v2.xD.toInt==1)
   else
    Option.bind (Ke N (uD v2.xN (-v2.xN)) v2.xD) λv5=>
    some (v5.toInt==1)
theorem YG{N v1 v2}:KO 253 [(dP v1),(oX v2)] aJ (FK N v1 v2):=
 fw Tryz.func253 (gA [[],[]] (au (λh1=>bq λh2=>gA [[t0 h1],[(10,⟨_,_, .nn (b:=(aN (v1.bZ-(1:Int)))) (of_decide_eq_true h2)⟩),(11,⟨_,_, .eq (Eo ((1:Int)*2^(min ((aN (v1.bZ-(1:Int)))).toNat (IntKind.bits .i64))))⟩)]] (gG (λv3=>[(4,(aJ v3))]) (λ_=>[.cells (dP v1).cells, .cells (oX v2).cells]) (au (λh3=>bt (3,bT h3) (bS (23,⟨_,_, .eq (Dk (Int64.ofInt ((1:Int)*2^(min ((aN (v1.bZ-(1:Int)))).toNat (IntKind.bits .i64)))))⟩) (au (λh4=>gE [(10,bT h4)] []) λh4=>gE [(10,bF h4)] []))) λh3=>gE [(3,bF h3),(10,bF rfl)] []) λv3=>gR [])) λh1=>gA [[f0 h1]] (gG (λv4=>[(46,(aJ v4))]) (λ_=>[.cells (dP v1).cells, .cells (oX v2).cells]) (au (λh6=>gE [(3,bT h6),(8,bT rfl),(13,bT rfl)] []) λh6=>bt (3,bF h6) (au (λh7=>gE [(8,bT h7),(13,bT rfl)] []) λh7=>bt (8,bF h7) (au (λh8=>gE [(13,bT h8)] []) λh8=>gE [(13,bF h8)] []))) λv4=>fW λ_=>bJ λbo=>aq λv5 a8=>gR [[f0 bo],[(14,⟨_,_, .eq (Dk v2.xN)⟩),(17,⟨_,_, .eq (WH v2.xN (-v2.xN))⟩),(25,cK Xb a8)]])))
def Dm(N:Nat)(lR:agM Bool):agK aI->Nat->agM Bool
 |[],_=>
  lR
 |bP::cb,v11=>
  (ta N bP).bind λbI=>
  bif bI then
   (Dm N lR cb (v11+1))
  else
   some false
def CQ(N:Nat):agK bl->Nat->agM Bool
 |[],_=>
  some true
 |v8::v9,v6=>
  (ta N v8.aP).bind λv10=>
  bif v10 then
   Dm N (CQ N v9 (v6+1)) v8.bK 0
  else
   some false
def Ea(N:Nat)(v1:ao):agM Bool:=
 Option.bind (bif (v1.aM==1)then (FK N v1.aH v1.dL).bind λv2=>
 (bif v2 then (ta N v1.aP).bind λv3=>
 some (!v3)else some true)else (ta N v1.aP).bind λv4=>
 some (!v4)) λv5=>
 bif v5 then
  some false
 else
  CQ N v1.xIdx 0
theorem adM{N v1}:KO 227 [(aO v1)] aJ (Ea N v1):=
 fw Tryz.func227 (gA [[]] (gG (λv5=>[(21,(aJ v5))]) (λ_=>[.cells (aO v1).cells]) (au (λh1=>aq λv2 h2=>bt (3,bT h1) (bS (25,cK YG h2) (au (λh3=>aq λv3 h4=>gE [(11,bF (b9 h3))] [(43,cK yQ h4)]) λh3=>gE [(11,bT (dm h3))] []))) λh1=>aq λv4 h5=>gE [(3,bF h1),(11,bF rfl)] [(43,cK yQ h5)]) λv5=>fW λ_=>gB jO 0 11 v1.xIdx λh9=>dc 1 [] [1,3] 1 (λv6=>⟨59,[(1,(.ptr 0 0)),(3,(an (v6:Int)))],[.cells (aO v1).cells]⟩) (λv6 bn f1=>gR [[(10,oL v1.xIdx ee)],[f0 (aU bn)],[]]) (λv6 v8 v9 bn f1 aE=>aq λv10 bo=>gA [[(10,oL v1.xIdx ee)],[t0 (aV bn)],[(10,oE (ff (aL bn))),(19,cK yQ bo)]] (eJ λa8=>gA [[f0 (b9 a8)],[]] (HC (λ_=>(Cu 0 11 (cE v1.xIdx) (by kernel_rfl) ·)) λcn=>have cg:=uF dC (Ij (j:=3) (d:= .sl (cV v8.bK)) cn (ff (aL bn)) rfl);dc 2 [] [1,3,4] 1 (λv11=>⟨59,[(1,(.ptr 0 0)),(3,(an (v6:Int))),(4,(an (v11:Int)))],[.cells (aO v1).cells]⟩) (λv11 bG f2=>gb aE () [[(13,oE (ff (aL bn))),(22,oL v8.bK dC)],[f0 (aU bG)],[(5,oq (bk bn rfl h9))]] bn) (λv11 bP cb bG f2 de=>aq λbI cf=>gA [[(13,oE (ff (aL bn))),(22,oL v8.bK dC)],[t0 (aV bG)],[(10,oE (ff (aL bn))),(22,oE (kS (aL bG))),(28,cK yQ cf)]] (eJ λcP=>gb de () [[f0 (b9 cP)],[(5,oq (bk bG rfl cg))]] bG)))))))
def D6(N:Nat)(Qb:ao->agM Int):agK ao->Nat->agM Int
 |[],_=>
  some (0:Int)
 |v9::v10,v7=>
  (Qb v9).bind λv11=>
  bif (v11 !=0)then
   some v11
  else
   (D6 N Qb v10 (v7+1))
def rE(N:Nat):Nat->ao->agM Int
 |0,_=>none
 |d+1,v1=>
  (CP N v1).bind λv2=>
  bif v2 then
   (Cq N v1).bind λv3=>
   bif v3 then
    (DU N v1).bind λv4=>
    bif v4 then
     (Dg N v1).bind λv5=>
     bif v5 then
      (Ea N v1).bind λv6=>
      bif v6 then
       D6 N (rE N d) v1.ba 0
      else
       some (1:Int)
     else
      some (10:Int)
    else
     some (11:Int)
   else
    some (7:Int)
  else
   some (5:Int)
def Lo(N:Nat)(v1:ao):agM Int:=rE N N v1
theorem Wp(N:Nat):∀d:Nat,(∀{v1:ao},KO 190 [(aO v1)] an (rE N d v1)):=by
 intro d
 induction d with
 |zero=>intro v1 r hF;rw[rE]at hF;cases hF
 |succ d ih=>
  have Ze:= @ih;intro v1;rw[rE];exact fw Tryz.func190 (aq λv2 h1=>gA [[],[(4,cK abJ h1)]] (eJ λh2=>aq λv3 h3=>gA [[(0,bF (b9 h2))],[(4,cK ZQ h3)]] (eJ λh4=>aq λv4 h5=>gA [[(0,bF (b9 h4))],[(4,cK aao h5)]] (eJ λh6=>aq λv5 h7=>gA [[(0,bF (b9 h6))],[(4,cK YQ h7)]] (eJ λh8=>aq λv6 h9=>gA [[(0,bF (b9 h8))],[(4,cK adM h9)]] (eJ λbn=>gA [[(0,bF (b9 bn))],[]] (gB jM 0 12 v1.ba λa8=>dc 1 [] [1,3] 1 (λv7=>⟨41,[(1,(.ptr 0 0)),(3,(an (v7:Int)))],[.cells (aO v1).cells]⟩) (λv7 cn f1=>gR [[(10,oL v1.ba eX)],[(0,bF (aU cn))],[]]) (λv7 v9 v10 cn f1 aE=>aq λv11 cg=>gA [[(10,oL v1.ba eX)],[(0,bT (aV cn))],[(10,oE (j6 (aL cn))),(16,cK Ze cg)],[]] (bJ λbG=>gb aE () [[(0,bF bG)],[(5,oq (bk cn rfl a8))]] cn)))))))))
theorem abb{N v1}:KO 190 [(aO v1)] an (Lo N v1):=(Wp N N)
def AW(N:Nat)(v1:ao):agM Int:=
 (HJ N v1).bind λv2=>
 bif (decide (v2>40))then
  some (13:Int)
 else
  (HE N v1).bind λv3=>
  bif (decide (v3>2000))then
   some (2:Int)
  else
   (Lo N v1).bind λv4=>
   some v4
theorem Y1{N v1}:KO 154 [(aO v1)] an (AW N v1):=
 fw Tryz.func154 (aq λv2 h1=>gA [[],[(4,cK Yo h1)]] (bJ λh2=>aq λv3 h3=>gA [[f0 h2],[(4,cK aeJ h3)]] (bJ λh4=>aq λv4 h5=>gR [[f0 h4],[(4,cK abb h5)]])))
def FH(N:Nat)(v2:agK agL)(v1:aB):agK aI->Nat->agM Int
 |[],_=>
  some (0:Int)
 |v6::v7,v4=>
  (xT N v6 v2 v1.aD).bind λv8=>
  bif v8 then
   (FH N v2 v1 v7 (v4+1))
  else
   some (9:Int)
def Dr(N:Nat)(v1:aB)(v2:agK agL)(v3:agK aI):agM Int:=
 FH N v2 v1 v3 0
theorem S3{N v1 v2 v3}:KO 191 [(cH v1),(.d (.sl (bD v2))),(.d (.sl (cV v3)))] an (Dr N v1 v2 v3):=
 fw Tryz.func191 (gA [[],[]] (gT j9 2 v3 λh2=>dc 1 [] [1,2,3,7] 1 (λv4=>⟨23,[(1,(.d (.sl (bD v2)))),(2,(.d (.sl (cV v3)))),(3,(.ptr 0 0)),(7,(an (v4:Int)))],[.cells (cH v1).cells]⟩) (λv4 h3 f1=>gR [[(7,oL v3 dC)],[f0 (aU h3)],[]]) (λv4 v6 v7 h3 f1 aE=>aq λv8 h4=>gA [[(7,oL v3 dC)],[t0 (aV h3)],[(7,oE (kS (aL h3))),(22,cK KE h4)]] (eJ λh5=>gb aE () [[f0 (b9 h5)],[(5,oq (bk h3 rfl h2))]] h3))))
def zc(N:Nat)(v9:aT):agK bH->Nat->(agK aI)->agM (bz×(agK aI)×Bool)
 |[],_,bI=>
  some (v9.aH,bI,true)
 |bP::cb,v11,bI=>
  bif (Nat.ble ((bI.length+1)*32) 140737488355328)then
  (λmG=>zc N v9 cb (v11+1) mG) (bI++[bP.cU])
  else none
def Gn(N:Nat)(v2:agL):agK aT->Nat->agM (bz×(agK aI)×Bool)
 |[],_=>
  some (eR,[],false)
 |v9::v10,v7=>
  bif (bL v9.ak==bL v2)then
   zc N v9 v9.aK 0 []
  else
   (Gn N v2 v10 (v7+1))
def xH(N:Nat)(v2:agL)(v1:aB):agK ck->Nat->agM (bz×(agK aI)×Bool)
 |[],_=>
  Gn N v2 v1.aw 0
 |v5::v6,v3=>
  bif (bL v5.ak==bL v2)then
   some (v5.aH,v5.aK,true)
  else
   (xH N v2 v1 v6 (v3+1))
def w9(N:Nat)(v1:aB)(v2:agL):agM (bz×(agK aI)×Bool):=
 xH N v2 v1 v1.aC 0
def KA(v1:aB)(l:agK aj):agK aj:= .cells (cH v1).cells:: .cells ni::l
theorem Hr{N v1 v2}:KO 62 [(cH v1),(bu v2)] (λr=> .bp [(dP r.1),(.d (.sl (cV r.2.1))),(aJ r.2.2)]) (w9 N v1 v2):=
 fw Tryz.func62 (gA [[],[]] (gB lW 0 2 v1.aC λh2=>dc 1 [] [1,2,4,7] 2 (λv3=>⟨85,[(1,(bu v2)),(2,(.ptr 0 0)),(4,(.ptr 1 0)),(7,(an (v3:Int)))],(KA v1 [])⟩) (λv3 h3 f1=>gA [[(10,oL v1.aC gv)],[f0 (aU h3)],[]] (gB lT 0 3 v1.aw λh5=>dc 2 [] [1,2,4,8] 2 (λv7=>⟨85,[(1,(bu v2)),(2,(.ptr 0 0)),(4,(.ptr 1 0)),(8,(an (v7:Int)))],(KA v1 [])⟩) (λv7 h6 f2=>gR [[(10,oL v1.aw fF)],[f0 (aU h6)],[]]) (λv7 v9 v10 h6 f2 de=>gA [[(10,oL v1.aw fF)],[t0 (aV h6)],[(10,oE (iA (aL h6)))]] (au (λh7=>gA [[t0 h7],[],[]] (li (λ_=>(jw 9 52 2 [] (.inr (by kernel_rfl)) ·)) (HC (λ_=>(Cu 0 3 (eI v1.aw) (by kernel_rfl) ·)) λh8=>have h9:=uF dW (Ij (j:=6) (d:= .sl (dD v9.aK)) h8 (iA (aL h6)) rfl);eY 3 [] [2,4,8,9,10] 3 (λv11(bI:agK aI)=>⟨85,[(2,(.ptr 0 0)),(4,(.ptr 1 0)),(8,(an (v7:Int))),(9,(.own 2 (cV bI))),(10,(an (v11:Int)))],(KA v1 [.front 52 2 bI.length])⟩) (λv11 bI bn f3=>gR [[(13,oE (iA (aL h6))),(22,oL v9.aK dW)],[f0 (aU bn)],[(10,oE (iA (aL h6)))]]) (λv11 bP cb bI bn f3 iV=>bq λbo=>gb iV (bI++[bP.cU]) [[(13,oE (iA (aL h6))),(22,oL v9.aK dW)],[t0 (aV bn)],[(13,oE (iA (aL h6))),(25,oE (iX (aL bn))),(37,oA j9 bI ([bP.cU]) bo)],[(5,oq (bk bn rfl h9))]] bn)))) λh7=>gb de () [[f0 h7],[(5,oq (bk h6 rfl h5))]] h6)))) (λv3 v5 v6 h3 f1 aE=>gA [[(10,oL v1.aC gv)],[t0 (aV h3)],[(10,oE (iz (aL h3)))]] (au (λa8=>gA [[t0 a8]] (li (λ_=>(Rp 3 dG [(5,(.d (.sl (cV v5.aK)))),(6,(aJ true))] [.cells (cH v1).cells, .cells (dP v5.aH).cells] ⟨[(10,oE (iz (aL h3))),(28,oE (iz (aL h3)))],by kernel_rfl⟩ ·)) (gR []))) λa8=>gb aE () [[f0 a8],[(5,oq (bk h3 rfl h2))]] h3))))
def zV(N:Nat)(v4:bz×(agK aI)×Bool)(v2:agK agL)(v1:aB):agK bl->Nat->agM (bz×Int)
 |[],_=>
  some (v4.1,(0:Int))
 |v7::v8,v5=>
  bif (bL v7.b7==bL (bs []))then
   (xT N v7.aP v2 v1.aD).bind λv9=>
   bif v9 then
    (zV N v4 v2 v1 v8 (v5+1))
   else
    some (eR,(9:Int))
  else
   (w9 N v1 v7.b7).bind λv10=>
   bif v10.2.2 then
    bif (v10.1.bO !=3)then
     some (eR,(10:Int))
    else
     bif ((v10.2.1.length:Int) !=(v7.bK.length:Int))then
      some (eR,(11:Int))
     else
      (Dr N v1 v2 v7.bK).bind λv11=>
      bif (v11 !=0)then
       some (eR,v11)
      else
       (zV N v4 v2 v1 v8 (v5+1))
   else
    some (eR,(9:Int))
def Dl(N:Nat)(v1:aB)(v2:agK agL)(v3:ao):agM (bz×Int):=
 (w9 N v1 v3.ak).bind λv4=>
 bif v4.2.2 then
  bif ((v4.2.1.length:Int) !=(v3.xIdx.length:Int))then
   some (eR,(11:Int))
  else
   zV N v4 v2 v1 v3.xIdx 0
 else
  some (eR,(9:Int))
theorem afo{N v1 v2 v3}:KO 192 [(cH v1),(.d (.sl (bD v2))),(aO v3)] (λr=> .bp [(dP r.1),(an r.2)]) (Dl N v1 v2 v3):=
 fw Tryz.func192 (aq λv4 h1=>gA [[],[(10,cK Hr h1)],[]] (eJ λh2=>gA [[f0 (b9 h2)],[(4,oL v4.2.1 dC),(13,oL v3.xIdx ee)]] (fW λ_=>gB jO 1 11 v3.xIdx λh5=>dc 1 [] [1,3,5,6,8,11] 4 (λv5=>⟨90,[(1,(.d (.sl (bD v2)))),(3,(.ptr 0 0)),(5,(.ptr 1 0)),(6,(.ptr 2 0)),(8,(.ptr 3 0)),(11,(an (v5:Int)))],[.cells (cH v1).cells, .cells (aO v3).cells, .cells ni, .cells (dP v4.1).cells]⟩) (λv5 h6 f1=>gR [[(10,oL v3.xIdx ee)],[f0 (aU h6)],[]]) (λv5 v7 v8 h6 f1 aE=>gA [[(10,oL v3.xIdx ee)],[t0 (aV h6)],[(10,oE (ff (aL h6)))],[]] (au (λh7=>aq λv9 h8=>gA [[t0 h7],[(16,cK KE h8)]] (eJ λh9=>gb aE () [[f0 (b9 h9)],[(5,oq (bk h6 rfl h5))]] h6)) λh7=>aq λv10 bn=>gA [[f0 h7],[(10,cK Hr bn)],[]] (eJ λbo=>gA [[f0 (b9 bo)],[]] (bJ λa8=>gA [[f0 a8],[(4,oL v10.2.1 dC),(13,oL v7.bK dC)]] (bJ λcn=>aq λv11 cg=>gA [[f0 cn],[(13,cK S3 cg)],[]] (bJ λbG=>gb aE () [[f0 bG],[(5,oq (bk h6 rfl h5))]] h6)))))))))
def lF(N:Nat)(v3:ao)(v1:aB)(v2:agK agL)(Ry:aB->(agK agL)->ao->agM (bz×Int)):agK ao->Nat->(agK bz)->agM (bz×Int)
 |[],_,v8=>
  Option.bind (bif (v3.aM==1)then some true else some (v3.aM==12)) λv9=>
  bif v9 then
   some (v3.aH,(0:Int))
  else
   bif (v3.aM==2)then
    Option.bind (Dr N v1 v2 [v3.aP]) λv10=>
    some ((⟨(3:Int),(0:Int),(0:Int),(0:Int),(0:Int)⟩:bz),v10)
   else
    bif (v3.aM==3)then
     (Dl N v1 v2 v3).bind λv11=>
     some (v11.1,v11.2)
    else
     bif (v3.aM==11)then
      Option.bind (v8[1]?) λv12=>
      Option.bind (v8[2]?) λbP=>
      bif ((v12.bO==bP.bO)&&((v12.bZ==bP.bZ)&&((v12.cu==bP.cu)&&((v12.ct==bP.ct)&&((v12.cv==bP.cv)&&true)))))then
       some (v12,(0:Int))
      else
       some (eR,(10:Int))
     else
      bif (v3.aM==8)then
       Option.bind (v8[0]?) λcb=>
       some (cb,(0:Int))
      else
       bif (decide (v3.aM>=16))then
        some (eR,(0:Int))
       else
        Option.bind (v8[0]?) λbI=>
        Option.bind (v8[1]?) λcY=>
        bif ((bI.bO==cY.bO)&&((bI.bZ==cY.bZ)&&((bI.cu==cY.cu)&&((bI.ct==cY.ct)&&((bI.cv==cY.cv)&&true)))))then
         bif (decide (v3.aM>=13))then
          some (eR,(0:Int))
         else
          some (bI,(0:Int))
        else
         some (eR,(10:Int))
 |v6::v7,v4,v8=>
  (Ry v1 v2 v6).bind λv17=>
  bif (v17.2 !=0)then
   some (eR,v17.2)
  else
   bif (Nat.ble ((v8.length+1)*40) 140737488355328)then
   (λbV=>lF N v3 v1 v2 Ry v7 (v4+1) bV) (v8++[v17.1])
   else none
def oh(N:Nat):Nat->aB->(agK agL)->ao->agM (bz×Int)
 |0,_,_,_=>none
 |d+1,v1,v2,v3=>
  lF N v3 v1 v2 (oh N d) v3.ba 0 []
def AV(N:Nat)(v1:aB)(v2:agK agL)(v3:ao):agM (bz×Int):=oh N N v1 v2 v3
theorem aeq(N:Nat):∀d:Nat,(∀{v1:aB}{v2:agK agL}{v3:ao},KO 156 [(cH v1),(.d (.sl (bD v2))),(aO v3)] (λr=> .bp [(dP r.1),(an r.2)]) (oh N d v1 v2 v3)):=by
 intro d
 induction d with
 |zero=>intro v1 v2 v3 r hF;rw[oh]at hF;cases hF
 |succ d ih=>
  have aa9:= @ih;intro v1 v2 v3;rw[oh];exact fw Tryz.func156 (gA [[],[],[]] (li (λ_=>(jw 8 56 5 [] (.inr (by kernel_rfl)) ·)) (gB jM 1 12 v3.ba λh2=>eY 1 [] [1,3,5,6,8,9] 4 (λv4(v8:agK bz)=>⟨112,[(1,(.d (.sl (bD v2)))),(3,(.ptr 0 0)),(5,(.ptr 1 0)),(6,(.ptr 2 0)),(8,(.own 3 (kX v8))),(9,(an (v4:Int)))],[.cells (cH v1).cells, .cells (aO v3).cells, .cells ni, .front 56 5 v8.length]⟩) (λv4 v8 h3 f1=>gA [[(10,oL v3.ba eX)],[(0,bF (aU h3))]] (gG (λv9=>[(38,(aJ v9))]) (λ_=>[.cells (cH v1).cells, .cells (aO v3).cells, .cells ni, .front 56 5 v8.length]) (au (λh4=>gE [(3,bT h4)] []) λh4=>gE [(3,bF h4)] []) λv9=>fW λ_=>au (λh7=>aq λv10 h8=>gR [[(0,bT h7)],[(19,cK S3 h8)]]) λh7=>gA [[(0,bF h7)],[]] (au (λh9=>aq λv11 bn=>gR [[(0,bT h9)],[(10,cK afo bn)]]) λh9=>gA [[(0,bF h9)],[]] (au (λbo=>aq λv12 a8=>aq λbP cn=>gA [[(0,bT bo)],[(4,oE (k:=1) (ju a8)),(13,oE (k:=2) (ju cn))]] (eJ λcg=>gR [[(0,bF (b9 cg))],[(4,oE (k:=1) (ju a8))]])) λbo=>gA [[(0,bF bo)],[]] (au (λbG=>aq λcb cf=>gR [[(0,bT bG)],[(4,oE (k:=0) (ju cf))]]) λbG=>gA [[(0,bF bG)],[]] (bJ λcP=>aq λbI fc=>aq λcY gd=>gA [[(0,bF cP)],[(4,oE (k:=0) (ju fc)),(13,oE (k:=1) (ju gd))]] (eJ λdu=>gA [[(0,bF (b9 du))],[]] (bJ λeK=>gR [[(0,bF eK)],[(4,oE (k:=0) (ju fc))]])))))))) (λv4 v6 v7 v8 h3 f1 aE=>aq λv17 gh=>gA [[(10,oL v3.ba eX)],[(0,bT (aV h3))],[(16,oE (j6 (aL h3))),(22,cK aa9 gh)],[]] (bJ λeM=>bq λie=>gb aE (v8++[v17.1]) [[(0,bF eM)],[(10,oA R8 v8 ([v17.1]) ie)],[(5,oq (bk h3 rfl h2))]] h3)))))
theorem acs{N v1 v2 v3}:KO 156 [(cH v1),(.d (.sl (bD v2))),(aO v3)] (λr=> .bp [(dP r.1),(an r.2)]) (AV N v1 v2 v3):=(aeq N N)
def ve(N:Nat)(v1:aB)(v2:agK agL)(v3:ao):agM (bz×Int):=
 (AW N v3).bind λv4=>
 bif (v4 !=0)then
  some (eR,v4)
 else
  (xu N v3).bind λv5=>
  bif v5 then
   some (eR,(10:Int))
  else
   (AV N v1 v2 v3).bind λv6=>
   bif (v6.2 !=0)then
    some (eR,v6.2)
   else
    some (v6.1,(0:Int))
theorem Vp{N v1 v2 v3}:KO 111 [(cH v1),(.d (.sl (bD v2))),(aO v3)] (λr=> .bp [(dP r.1),(an r.2)]) (ve N v1 v2 v3):=
 fw Tryz.func111 (aq λv4 h1=>gA [[],[(4,cK Y1 h1)],[]] (bJ λh2=>aq λv5 h3=>gA [[f0 h2],[(4,cK QQ h3)]] (bJ λh4=>aq λv6 h5=>gA [[f0 h4],[(10,cK acs h5)],[]] (bJ λh6=>gR [[f0 h6],[]]))))
def uV(N:Nat)(v1:aB)(v2:Int)(v3:agK agL):agM Int:=
 bif (decide ((0:Int)<=v2))then
 Option.bind (v1.aw[(v2).toNat]?) λv4=>
 (te N v4.ak v3).bind λv5=>
 bif (v5 !=0)then
  some v5
 else
  (tK N v4.aH).bind λv6=>
  bif v6 then
   Option.bind (bif (decide ((v4.aK.length:Int)>6))then some true else some (decide ((v4.bx.length:Int)>6))) λv7=>
   bif v7 then
    some (11:Int)
   else
    bif (Nat.ble ((0+v4.aK.length)*48) 140737488355328)then
    bif (Nat.ble ((v4.aK.length+v4.bx.length)*48) 140737488355328)then
    Option.bind (FF N (v4.aK++v4.bx) v1.aD) λv8=>
    bif (v8 !=0)then
     some v8
    else
     (CJ N v4).bind λv9=>
     bif (v9 !=0)then
      some v9
     else
      bif (decide ((v2).toNat<=v1.aw.length))then
      (A2 N v4).bind λv10=>
      Option.bind (ve N (⟨v1.aD,[],v1.aC,((v1.aw.take (v2).toNat).drop 0),[]⟩:aB) v10 v4.bY) λv11=>
      bif (v11.2 !=0)then
       some v11.2
      else
       bif ((v11.1.bO==v4.aH.bO)&&((v11.1.bZ==v4.aH.bZ)&&((v11.1.cu==v4.aH.cu)&&((v11.1.ct==v4.aH.ct)&&((v11.1.cv==v4.aH.cv)&&true)))))then
        some (0:Int)
       else
        some (10:Int)
      else none
    else none
    else none
  else
   some (10:Int)
 else none
theorem U1{N v1 v2 v3}:KO 61 [(cH v1),(an v2),(.d (.sl (bD v3)))] an (uV N v1 v2 v3):=
 fw Tryz.func61 (bq λh2=>aq λv4 h1=>aq λv5 h3=>gA [[],[(10,⟨_,_, .el (xs:=eI v1.aw) (i:=v2) (of_decide_eq_true h2) (iA h1)⟩)],[(10,cK Ct h3)],[]] (bJ λh4=>aq λv6 h5=>gA [[f0 h4],[(7,cK Cp h5)]] (eJ λh6=>gA [[f0 (b9 h6)]] (gG (λv7=>[(38,(aJ v7))]) (λ_=>[.cells (cH v1).cells, .cells (ej v4).cells]) (bS (7,oL v4.aK dW) (au (λh7=>gE [(4,bT h7)] []) λh7=>gE [(4,bF h7)] [(22,oL v4.bx dW)])) λv7=>bJ λh9=>bq λbn=>bq λbo=>aq λv8 a8=>gA [[f0 h9],[(10,oZ ji v4.aK bn),(19,oA ji v4.aK v4.bx bo),(28,cK abI a8)],[]] (bJ λcn=>aq λv9 cg=>gA [[f0 cn],[(4,cK aa3 cg)],[]] (bJ λbG=>bq λcf=>aq λv10 cP=>aq λv11 fc=>gA [[f0 bG],[(22,⟨_,_, .sub (xs:=eI v1.aw) (lo:=0) (hi:=v2) (by decide) (Nat.zero_le _) (of_decide_eq_true h2) (by rw[fF];exact(of_decide_eq_true cf)) H3 RT⟩),(31,cK Q6 cP),(40,cK Vp fc)],[]] (fW λ_=>Jf λdu=>gR [[t0 (dm du)],[]])))))))
def rl(N:Nat)(v1:aB):agK agL->Nat->Int->agM (Int×Int)
 |[],_,_=>
  some ((0:Int),(0:Int))
 |v21::v22,dT,v23=>
  (w9 N v1 v21).bind λv24=>
  bif v24.2.2 then
   bif (decide (((dT:Int)).toNat<=v1.cd.length))then
   Option.bind (qj N ((v1.cd.take ((dT:Int)).toNat).drop 0) v21) λv25=>
   bif v25 then
    some (v23,(8:Int))
   else
    (λmv=>rl N v1 v22 (dT+1) mv) (aN (v23+(1:Int)))
   else none
  else
   some (v23,(9:Int))
def oU(N:Nat)(v1:aB):agK aT->Nat->(agK agL)->Int->agM (Int×Int)
 |[],_,_,c6=>
  rl N v1 v1.cd 0 c6
 |bI::cY,bP,v17,c6=>
  Option.bind (uV N v1 (bP:Int) v17) λv26=>
  bif (v26 !=0)then
   some (c6,v26)
  else
   bif (Nat.ble ((v17.length+1)*16) 140737488355328)then
   (λmG GI=>oU N v1 cY (bP+1) mG GI) (v17++[bI.ak]) (aN (c6+(1:Int)))
   else none
def qI(N:Nat)(v1:aB):agK ck->Nat->(agK agL)->Int->agM (Int×Int)
 |[],_,v11,v12=>
  oU N v1 v1.aw 0 v11 v12
 |v9::v10,v7,v11,v12=>
  (Ek N v9 v1.aD v11).bind λdp=>
  bif (dp !=0)then
   some (v12,dp)
  else
   bif (Nat.ble ((v11.length+1)*16) 140737488355328)then
   (λig XP=>qI N v1 v10 (v7+1) ig XP) (v11++[v9.ak]) (aN (v12+(1:Int)))
   else none
def yg(N:Nat)(v1:aB):agK cC->Nat->agM (Int×Int)
 |[],_=>
  bif (Nat.ble ((0+v1.aD.length)*16) 140737488355328)then
  qI N v1 v1.aC 0 v1.aD (2:Int)
  else none
 |v5::v6,v3=>
  (wW N v5.aP v1.aD).bind λv28=>
  bif (v28 !=0)then
   some ((1:Int),v28)
  else
   (yg N v1 v6 (v3+1))
def wv(N:Nat)(v1:aB):agM (Int×Int):=
 (Bq N v1).bind λv2=>
 bif (v2 !=0)then
  some ((0:Int),v2)
 else
  yg N v1 v1.bX 0
theorem acD{N v1}:KO 25 [(cH v1)] (λr=> .bp [(an r.1),(an r.2)]) (wv N v1):=
 fw Tryz.func25 (aq λv2 h1=>gA [[],[(4,cK XR h1)],[]] (fW λ_=>gB rB 0 1 v1.bX λh4=>dc 1 [] [1,5] 1 (λv3=>⟨136,[(1,(.ptr 0 0)),(5,(an (v3:Int)))],[.cells (cH v1).cells]⟩) (λv3 h5 f1=>bq λh6=>gA [[(10,oL v1.bX jr)],[f0 (aU h5)],[(10,oZ dU v1.aD h6)],[],[]] (gB lW 0 2 v1.aC λh8=>FQ 2 [] [1,7,8,9] 2 (λv7(v11:agK agL)(v12:Int)=>⟨136,[(1,(.ptr 0 0)),(7,(.own 1 (bD v11))),(8,(an v12)),(9,(an (v7:Int)))],[.cells (cH v1).cells, .front 9 1 v11.length]⟩) (λv7 v11 v12 h9 f2=>gA [[(10,oL v1.aC gv)],[f0 (aU h9)],[]] (gB lT 0 3 v1.aw λbo=>FQ 3 [] [1,7,8,11] 2 (λbP(v17:agK agL)(c6:Int)=>⟨136,[(1,(.ptr 0 0)),(7,(.own 1 (bD v17))),(8,(an c6)),(11,(an (bP:Int)))],[.cells (cH v1).cells, .front 9 1 v17.length]⟩) (λbP v17 c6 a8 f3=>gA [[(10,oL v1.aw fF)],[f0 (aU a8)],[]] (gB dU 0 4 v1.cd λcg=>eY 4 [] [1,8,13] 2 (λdT(v23:Int)=>⟨136,[(1,(.ptr 0 0)),(8,(an v23)),(13,(an (dT:Int)))],[.cells (cH v1).cells, .front 9 1 v17.length]⟩) (λdT v23 bG f4=>gR [[(10,oL v1.cd dI)],[f0 (aU bG)],[]]) (λdT v21 v22 v23 bG f4 jV=>aq λv24 cf=>gA [[(10,oL v1.cd dI)],[t0 (aV bG)],[(13,oE (ia (aL bG))),(19,cK Hr cf)],[]] (eJ λcP=>bq λfc=>aq λv25 gd=>gA [[f0 (b9 cP)],[(10,⟨_,_, .sub (xs:=bD v1.cd) (lo:=0) (hi:=(dT:Int)) (by decide) (Nat.zero_le _) (of_decide_eq_true (agD (Int.natCast_nonneg _))) (by rw[dI];exact(of_decide_eq_true fc)) D9 Hg⟩),(22,oE (ia (aL bG))),(28,cK xM gd)]] (bJ λdu=>gb jV (aN (v23+(1:Int))) [[f0 du],[],[(5,oq (bk bG rfl cg))]] bG))))) (λbP bI cY v17 c6 a8 f3 iV=>aq λv26 eK=>gA [[(10,oL v1.aw fF)],[t0 (aV a8)],[(10,cK U1 eK)],[]] (bJ λgh=>bq λeM=>gb iV ((v17++[bI.ak]),(aN (c6+(1:Int)))) [[f0 gh],[(13,oE (iA (aL a8))),(25,oA dU v17 ([bI.ak]) eM)],[],[(5,oq (bk a8 rfl bo))]] a8)))) (λv7 v9 v10 v11 v12 h9 f2 de=>aq λdp ie=>gA [[(10,oL v1.aC gv)],[t0 (aV h9)],[(10,oE (iz (aL h9))),(25,cK Zi ie)],[]] (bJ λjB=>bq λib=>gb de ((v11++[v9.ak]),(aN (v12+(1:Int)))) [[f0 jB],[(13,oE (iz (aL h9))),(25,oA dU v11 ([v9.ak]) ib)],[],[(5,oq (bk h9 rfl h8))]] h9)))) (λv3 v5 v6 h5 f1 aE=>aq λv28 jZ=>gA [[(10,oL v1.bX jr)],[t0 (aV h5)],[(10,oE (qR (aL h5))),(25,cK Ip jZ)],[]] (bJ λnc=>gb aE () [[f0 nc],[(5,oq (bk h5 rfl h4))]] h5))))
def H0(N:Nat)(v1:Int64):agM Int:=
 bif (decide (v1.toInt<0))then
  some (IntKind.u64.wrap ((IntKind.u64.wrap (-(v1+(1:Int64))).toInt)+(1:Int)))
 else
  some (IntKind.u64.wrap v1.toInt)
theorem Ms{N v1}:KO 91 [(cD v1)] (λr=> .d (.v (.int .u64 r))) (H0 N v1):=
 fw Tryz.func91 (gA [[],[]] (kO λh1=>gR [[t0 h1],[(5,⟨_,_, .eq (aaq v1 (1:Int64))⟩),(8,⟨_,_, .eq (Dk (v1+(1:Int64)))⟩)]]))
def IN(N:Nat):Nat->Int->agL->agM agL
 |0,_,_=>none
 |v2+1,v3,v4=>
  bif (decide (v3>=10))then
   bif (decide ((0:Int)<=((v3).tmod (10:Int))))then
   bif (decide ((0:Int)<=(IntKind.u64.wrap (((v3).tmod (10:Int))+(1:Int)))))then
   bif (decide ((((v3).tmod (10:Int))).toNat<=((IntKind.u64.wrap (((v3).tmod (10:Int))+(1:Int)))).toNat))then
   bif (decide (((IntKind.u64.wrap (((v3).tmod (10:Int))+(1:Int)))).toNat<=(bs [48,49,50,51,52,53,54,55,56,57]).size))then
   bif (Nat.ble (((bs [48,49,50,51,52,53,54,55,56,57]).extract (((v3).tmod (10:Int))).toNat ((IntKind.u64.wrap (((v3).tmod (10:Int))+(1:Int)))).toNat).size+v4.size) 9223372036854775807)then
   (λbV mj=>IN N v2 bV mj) (IntKind.u64.wrap ((v3).tdiv (10:Int))) (((bs [48,49,50,51,52,53,54,55,56,57]).extract (((v3).tmod (10:Int))).toNat ((IntKind.u64.wrap (((v3).tmod (10:Int))+(1:Int)))).toNat)++v4)
   else none
   else none
   else none
   else none
   else none
  else
   bif (decide ((0:Int)<=v3))then
   bif (decide ((0:Int)<=(IntKind.u64.wrap (v3+(1:Int)))))then
   bif (decide ((v3).toNat<=((IntKind.u64.wrap (v3+(1:Int)))).toNat))then
   bif (decide (((IntKind.u64.wrap (v3+(1:Int)))).toNat<=(bs [48,49,50,51,52,53,54,55,56,57]).size))then
   bif (Nat.ble (((bs [48,49,50,51,52,53,54,55,56,57]).extract (v3).toNat ((IntKind.u64.wrap (v3+(1:Int)))).toNat).size+v4.size) 9223372036854775807)then
   some (((bs [48,49,50,51,52,53,54,55,56,57]).extract (v3).toNat ((IntKind.u64.wrap (v3+(1:Int)))).toNat)++v4)
   else none
   else none
   else none
   else none
   else none
def Ks(N:Nat)(v1:Int):agM agL:=
 IN N N v1 (bs [])
theorem OQ{N v1}:KO 90 [(.d (.v (.int .u64 v1)))] bu (Ks N v1):=
 fw Tryz.func90 (DS 1 [[],[]] [0,3] 0 (λ(v3:Int)(v4:agL)=>⟨22,[(0,(.d (.v (.int .u64 v3)))),(3,(bu v4))],[]⟩) (IN N) (λv2 v3 v4 f1 aE=>gA [[]] (au (λh1=>bq λh2=>bq λh3=>bq λh4=>bq λh5=>bq λh6=>qn aE ((IntKind.u64.wrap ((v3).tdiv (10:Int))),(((bs [48,49,50,51,52,53,54,55,56,57]).extract (((v3).tmod (10:Int))).toNat ((IntKind.u64.wrap (((v3).tmod (10:Int))+(1:Int)))).toNat)++v4)) [[t0 h1],[(4,⟨_,_, .nz (b:=10) (by decide)⟩),(10,⟨_,_, .nz (b:=10) (by decide)⟩),(16,⟨_,_, .str (b:=(bs [48,49,50,51,52,53,54,55,56,57])) (lo:=((v3).tmod (10:Int))) (hi:=(IntKind.u64.wrap (((v3).tmod (10:Int))+(1:Int)))) (of_decide_eq_true h2) (of_decide_eq_true h4) (of_decide_eq_true h3) (of_decide_eq_true h5)⟩),(22,⟨_,_, .cat (n:=((bs [48,49,50,51,52,53,54,55,56,57]).extract (((v3).tmod (10:Int))).toNat ((IntKind.u64.wrap (((v3).tmod (10:Int))+(1:Int)))).toNat).size+v4.size) (yV h6)⟩)],[(4,⟨_,_, .nz (b:=10) (by decide)⟩)]]) λh1=>bq λh7=>bq λh8=>bq λh9=>bq λbn=>bq λbo=>gR [[f0 h1],[(10,⟨_,_, .str (b:=(bs [48,49,50,51,52,53,54,55,56,57])) (lo:=v3) (hi:=(IntKind.u64.wrap (v3+(1:Int)))) (of_decide_eq_true h7) (of_decide_eq_true h9) (of_decide_eq_true h8) (of_decide_eq_true bn)⟩),(16,⟨_,_, .cat (n:=((bs [48,49,50,51,52,53,54,55,56,57]).extract (v3).toNat ((IntKind.u64.wrap (v3+(1:Int)))).toNat).size+v4.size) (yV bo)⟩)]])))
def JE(N:Nat)(v1:Int64):agM agL:=
 bif (decide (v1.toInt<0))then
  (H0 N v1).bind λv2=>
  (Ks N v2).bind λv3=>
  bif (Nat.ble ((bs [45]).size+v3.size) 9223372036854775807)then
  some ((bs [45])++v3)
  else none
 else
  (H0 N v1).bind λv4=>
  (Ks N v4).bind λv5=>
  some v5
theorem TZ{N v1}:KO 35 [(cD v1)] bu (JE N v1):=
 fw Tryz.func35 (gA [[],[]] (au (λh1=>aq λv2 h2=>aq λv3 h3=>bq λh4=>gR [[t0 h1],[(4,cK Ms h2),(7,cK OQ h3),(10,⟨_,_, .cat (n:=(bs [45]).size+v3.size) (yV h4)⟩)]]) λh1=>aq λv4 h5=>aq λv5 h6=>gR [[f0 h1],[(4,cK Ms h5),(7,cK OQ h6)]]))
def Ew(N:Nat)(v1:agL)(v2:Int):agM agL:=
 bif (aN v2==v2)then
 Option.bind (JE N (Int64.ofInt v2)) λv3=>
 bif (Nat.ble (v1.size+v3.size) 9223372036854775807)then
 some (v1++v3)
 else none
 else none
theorem Z1{N v1 v2}:KO 98 [(bu v1),(an v2)] bu (Ew N v1 v2):=
 fw Tryz.func98 (bq λh1=>aq λv3 h2=>bq λh3=>gR [[],[(5,⟨_,_, .eq (GU (beq_iff_eq.1 h1))⟩),(7,cK TZ h2),(10,⟨_,_, .cat (n:=v1.size+v3.size) (yV h3)⟩)]])
def A4(N:Nat)(v1:cW)(v3:agL):agK agL->Nat->(agK agL)->(agK agL)->agM cW
 |[],_,v8,v9=>
  bif (Nat.ble ((v8.length+v1.b7.length)*16) 140737488355328)then
  bif (Nat.ble ((v9.length+v1.s9.length)*16) 140737488355328)then
  some (⟨(v8++v1.b7),(v9++v1.s9)⟩:cW)
  else none
  else none
 |v6::v7,v4,v8,v9=>
  bif (Nat.ble ((v8.length+1)*16) 140737488355328)then
  Option.bind (Ew N v3 (v4:Int)) λv10=>
  bif (Nat.ble ((v9.length+1)*16) 140737488355328)then
  (λbV mj=>A4 N v1 v3 v7 (v4+1) bV mj) (v8++[v6]) (v9++[v10])
  else none
  else none
def p7(N:Nat)(v1:cW)(v2:agK agL)(v3:agL):agM cW:=
 A4 N v1 v3 v2 0 [] []
theorem BT{N v1 v2 v3}:KO 42 [(fO v1),(.d (.sl (bD v2))),(bu v3)] fO (p7 N v1 v2 v3):=
 fw Tryz.func42 (gA [[],[],[]] (li (λ_=>(kg 2 1 9 1 [] (.inr (by kernel_rfl)) ·)) (li (λ_=>(kg 2 0 9 1 [] (.inr (by kernel_rfl)) ·)) (gT dU 1 v2 λh2=>Z4 1 [] [1,2,3,6,7,8] 5 [] [(1,0),(1,1)] (λv4(v8:(agK agL))(v9:(agK agL))=>⟨45,[(1,(.d (.sl (bD v2)))),(2,(bu v3)),(3,(.ptr 0 0)),(6,(.ptr 1 0)),(7,(.ptr 2 0)),(8,(an (v4:Int)))],[.cells (fO v1).cells, .cells Zj, .cells [(.own 4 (bD v8)),(.own 3 (bD v9))], .front 9 1 v9.length, .front 9 1 v8.length]⟩) (λv4 v8 v9 h3 f1=>bq λh4=>bq λh5=>gR [[(7,oL v2 dI)],[f0 (aU h3)],[(13,oA dU v8 v1.b7 h4)],[(13,oA dU v9 v1.s9 h5)],[]]) (λv4 v6 v7 v8 v9 h3 f1 aE=>bq λh6=>aq λv10 h7=>bq λh8=>gS aE ((v8++[v6]),(v9++[v10])) [[(7,oL v2 dI)],[t0 (aV h3)],[(13,oE (ia (aL h3))),(22,oA dU v8 ([v6]) h6)],[(13,cK Z1 h7),(19,oA dU v9 ([v10]) h8)],[(5,oq (bk h3 rfl h2))]] h3)))))
def y6(N:Nat)(v2:agL)(v1:cW):agK agL->Nat->agM agL
 |[],_=>
  some v2
 |v5::v6,v3=>
  bif (bL v5==bL v2)then
   Option.bind (v1.s9[((v3:Int)).toNat]?) λv7=>
   some v7
  else
   (y6 N v2 v1 v6 (v3+1))
def lQ(N:Nat)(v1:cW)(v2:agL):agM agL:=
 y6 N v2 v1 v1.b7 0
theorem qx{N v1 v2}:KO 43 [(fO v1),(bu v2)] bu (lQ N v1 v2):=
 fw Tryz.func43 (gA [[],[]] (gB dU 0 0 v1.b7 λh2=>dc 1 [] [1,2,5] 1 (λv3=>⟨26,[(1,(bu v2)),(2,(.ptr 0 0)),(5,(an (v3:Int)))],[.cells (fO v1).cells]⟩) (λv3 h3 f1=>gR [[(10,oL v1.b7 dI)],[f0 (aU h3)],[]]) (λv3 v5 v6 h3 f1 aE=>gA [[(10,oL v1.b7 dI)],[t0 (aV h3)],[(10,oE (ia (aL h3)))]] (au (λh4=>aq λv7 h5=>gR [[t0 h4],[(10,oE (ia h5))]]) λh4=>gb aE () [[f0 h4],[(5,oq (bk h3 rfl h2))]] h3))))
end Go.Proofs.YtmkmibahjanejaaGreatDoor
