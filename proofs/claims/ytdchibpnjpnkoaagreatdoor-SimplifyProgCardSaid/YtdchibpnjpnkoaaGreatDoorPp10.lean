/-
  Part 10 of the proof: PQ1.
-/
import Derived.Test.YtdchibpnjpnkoaaGreatDoorPp9
namespace Go.Proofs.YtdchibpnjpnkoaaGreatDoor
open Go.RowKit
set_option maxRecDepth 100000
set_option maxHeartbeats 0
set_option linter.unusedVariables false
def dq:aH:=⟨(0:Int64),[]⟩
def bW:aG:=⟨(0:Int64),(0:Int64)⟩
def cY:aE:=⟨(0:Int),(0:Int),(0:Int),(0:Int),(0:Int)⟩
def HR(N:Nat):asn aH->Nat->asp Bool
 |[],_=>
  some false
 |v4::v5,v2=>
  bif (decide ((v4.xL.length:Int)>20))then
   some true
  else
   (HR N v5 (v2+1))
def S8(N:Nat)(v1:asn aH):asp Bool:=
 HR N v1 0
theorem aqL{N v1}:KO 9 [(.d (.sl (dk v1)))] az (S8 N v1):=
 fw Tryz.func9 (gA [[],[]] (gT od 0 v1 λh2=>dO 1 [] [0,3] 0 (λv2=>⟨17,[(0,(.d (.sl (dk v1)))),(3,(aw (v2:Int)))],[]⟩) (λv2 h3 f1=>gR [[(7,oL v1 dR)],[f0 (b5 h3)],[]]) (λv2 v4 v5 h3 f1 aD=>gA [[(7,oL v1 dR)],[t0 (bU h3)],[(7,oE (kT (ba h3))),(16,oL v4.xL dL)]] (aP λh4=>gb aD () [[f0 h4],[(5,oq (ca h3 rfl h2))]] h3))))
def zn(N:Nat)(v2:Int)(tQ:an->Int->asp Int):asn an->Nat->Int->asp Int
 |[],_,v12=>
  some v12
 |v10::v11,v8,v12=>
  bif (decide (v12<=v2))then
   Option.bind (tQ v10 (aI (v2-v12))) λaF=>
   (λiP=>zn N v2 tQ v11 (v8+1) iP) (aI (v12+aF))
  else
   some v12
def Ig(N:Nat)(pg:Int->asp Int)(v2:Int):asn aH->Nat->Int->asp Int
 |[],_,aR=>
  pg aR
 |bK::bC,aV,aR=>
  bif (decide (aR<=v2))then
   (λnQ=>Ig N pg v2 bC (aV+1) nQ) (aI (aR+(bK.xL.length:Int)))
  else
   pg aR
def Cv(N:Nat)(v2:Int)(tQ:an->Int->asp Int):asn an->Nat->Int->asp Int
 |[],_,cF=>
  some cF
 |v21::cM,bX,cF=>
  bif (decide (cF<=v2))then
   Option.bind (tQ v21 (aI (v2-cF))) λv24=>
   (λzB=>Cv N v2 tQ cM (bX+1) zB) (aI (cF+v24))
  else
   some cF
def CR(N:Nat)(v2:Int)(tQ:an->Int->asp Int)(v1:an):asn aZ->Nat->Int->asp Int
 |[],_,v7=>
  zn N v2 tQ v1.ax 0 v7
 |v5::v6,v3,v7=>
  bif (decide (v7<=v2))then
   Ig N (λcD=>CR N v2 tQ v1 v6 (v3+1) cD) v2 v5.bH 0 (aI ((aI (v7+(v5.aM.xL.length:Int)))+(v5.bH.length:Int)))
  else
   Cv N v2 tQ v1.ax 0 v7
def uT(N:Nat):Nat->an->Int->asp Int
 |0,_,_=>none
 |d+1,v1,v2=>
  CR N v2 (uT N d) v1 v1.xIdx 0 (aI ((aI ((1:Int)+(v1.aM.xL.length:Int)))+(v1.xIdx.length:Int)))
def Rv(N:Nat)(v1:an)(v2:Int):asp Int:=uT N N v1 v2
theorem aoj(N:Nat):∀d:Nat,(∀{v1:an}{v2:Int},KO 10 [(aA v1),(aw v2)] aw (uT N d v1 v2)):=by
 intro d
 induction d with
 |zero=>intro v1 v2 r J;rw[uT]at J;cases J
 |succ d ih=>
  have ih3:= @ih;intro v1 v2;rw[uT];exact fw Tryz.func10 (gA [[],[(10,oL v1.aM.xL dL),(22,oL v1.xIdx eD)],[]] (gB nf 0 11 v1.xIdx λh2=>iy 1 [] [1,2,5,6] 1 (λv3(v7:Int)=>⟨101,[(1,(aw v2)),(2,(.ptr 0 0)),(5,(aw v7)),(6,(aw (v3:Int)))],[.cells (aA v1).cells]⟩) (λv3 v7 h3 f1=>gA [[(10,oL v1.xIdx eD),(18,bF (b5 h3)),(21,bF (b5 h3)),(24,bF (b5 h3)),(28,bF (b5 h3))],[(0,bF rfl)],[]] (gB lR 0 12 v1.ax λh5=>iy 2 [] [1,2,5,8] 1 (λv8(v12:Int)=>⟨101,[(1,(aw v2)),(2,(.ptr 0 0)),(5,(aw v12)),(8,(aw (v8:Int)))],[.cells (aA v1).cells]⟩) (λv8 v12 h6 f2=>gR [[(10,oL v1.ax dZ),(18,bF (b5 h6)),(21,bF (b5 h6)),(24,bF (b5 h6)),(28,bF (b5 h6))],[(0,bF rfl)],[]]) (λv8 v10 v11 v12 h6 f2 dI=>gA [[(10,oL v1.ax dZ),(18,bT (bU h6)),(21,bT (bU h6)),(24,bT (bU h6)),(28,bT (bU h6))]] (fp λh7=>aq λaF h8=>gb dI (aI (v12+aF)) [[(0,bT h7)],[(13,oE (bx (ba h6))),(28,cK ih3 h8)],[(5,oq (ca h6 rfl h5))]] h6)))) (λv3 v5 v6 v7 h3 f1 aD=>gA [[(10,oL v1.xIdx eD),(18,bT (bU h3)),(21,bT (bU h3)),(24,bT (bU h3)),(28,bT (bU h3))]] (au (λh9=>gA [[(0,bT h9)],[(13,oE (gX (ba h3))),(25,oL v5.aM.xL dL),(40,oE (gX (ba h3))),(49,oL v5.bH dR)],[]] (Sg (λ_=>(Mx 0 11 (cU v1.xIdx) (by kernel_rfl) ·)) λaK=>have aL:=sP dR (Nd (j:=3) (d:= .sl (dk v5.bH)) aK (gX (ba h3)) rfl);iy 3 [] [1,2,5,6,7] 1 (λaV(aR:Int)=>⟨101,[(1,(aw v2)),(2,(.ptr 0 0)),(5,(aw aR)),(6,(aw (v3:Int))),(7,(aw (aV:Int)))],[.cells (aA v1).cells]⟩) (λaV aR aT f3=>gb aD aR [[(13,oE (gX (ba h3))),(22,oL v5.bH dR),(30,bF (b5 aT)),(33,bF (b5 aT)),(36,bF (b5 aT)),(40,bF (b5 aT))],[(0,bF rfl)],[(5,oq (ca h3 rfl h2))]] h3) (λaV bK bC aR aT f3 iI=>gA [[(13,oE (gX (ba h3))),(22,oL v5.bH dR),(30,bT (bU aT)),(33,bT (bU aT)),(36,bT (bU aT)),(40,bT (bU aT))]] (au (λbu=>gb iI (aI (aR+(bK.xL.length:Int))) [[(0,bT bu)],[(13,oE (gX (ba h3))),(25,oE (kT (ba aT))),(34,oL bK.xL dL)],[(5,oq (ca aT rfl aL))]] aT) λbu=>gb aD aR [[(0,bF bu)],[(5,oq (ca h3 rfl h2))]] h3)))) λh9=>gA [[(0,bF h9)],[]] (gB lR 0 12 v1.ax λa7=>iy 4 [] [1,2,5,8] 1 (λbX(cF:Int)=>⟨101,[(1,(aw v2)),(2,(.ptr 0 0)),(5,(aw cF)),(8,(aw (bX:Int)))],[.cells (aA v1).cells]⟩) (λbX cF bm f4=>gR [[(10,oL v1.ax dZ),(18,bF (b5 bm)),(21,bF (b5 bm)),(24,bF (b5 bm)),(28,bF (b5 bm))],[(0,bF rfl)],[]]) (λbX v21 cM cF bm f4 lY=>gA [[(10,oL v1.ax dZ),(18,bT (bU bm)),(21,bT (bU bm)),(24,bT (bU bm)),(28,bT (bU bm))]] (fp λbQ=>aq λv24 cA=>gb lY (aI (cF+v24)) [[(0,bT bQ)],[(13,oE (bx (ba bm))),(28,cK ih3 cA)],[(5,oq (ca bm rfl a7))]] bm)))))))
theorem ahn{N v1 v2}:KO 10 [(aA v1),(aw v2)] aw (Rv N v1 v2):=(aoj N N)
def EH(N:Nat)(aV:bR)(cL3:asp Bool):Nat->Int->asp Bool
 |0,_=>none
 |aR+1,bX=>
  bif (decide (bX<(aI ((aV.bI.length:Int)+(aV.cl.length:Int)))))then
   bif (Nat.ble ((0+aV.bI.length)*48) 140737488355328)then
   bif (Nat.ble ((aV.bI.length+aV.cl.length)*48) 140737488355328)then
   bif (decide ((0:Int)<=bX))then
   Option.bind ((aV.bI++aV.cl)[(bX).toNat]?) λv20=>
   bif (decide ((v20.eZ.xL.length:Int)>20))then
    some true
   else
    (λzB=>EH N aV cL3 aR zB) (aI (bX+(1:Int)))
   else none
   else none
   else none
  else
   cL3
def Et(N:Nat)(v2:Int):asn bR->Nat->asp Bool
 |[],_=>
  some false
 |aV::bt,v12=>
  Option.bind (bif (decide ((aV.bI.length:Int)>12))then some true else(bif (decide ((aV.cl.length:Int)>12))then some true else (Rv N aV.cr v2).bind λbK=>
  some (decide (bK>v2)))) λbC=>
  bif bC then
   some true
  else
   EH N aV (Et N v2 bt (v12+1)) N (0:Int)
def Ln(N:Nat)(v2:Int)(v1:bp):asn dh->Nat->asp Bool
 |[],_=>
  Et N v2 v1.aU 0
 |v10::v11,v8=>
  Option.bind (bif (decide ((v10.bI.length:Int)>12))then some true else (S8 N v10.bI).bind λv21=>
  some v21) λcM=>
  bif cM then
   some true
  else
   (Ln N v2 v1 v11 (v8+1))
def Kt(N:Nat)(v2:Int)(v1:bp):asn di->Nat->asp Bool
 |[],_=>
  Ln N v2 v1 v1.bA 0
 |v6::v7,v4=>
  bif (decide ((v6.aM.xL.length:Int)>20))then
   some true
  else
   (Kt N v2 v1 v7 (v4+1))
def E3(N:Nat)(v1:bp)(v2:Int):asp Bool:=
 Option.bind (bif (decide ((v1.bO.length:Int)>12))then some true else(bif (decide ((v1.dj.length:Int)>12))then some true else(bif (decide ((v1.bA.length:Int)>12))then some true else(bif (decide ((v1.aU.length:Int)>12))then some true else some (decide ((v1.dz.length:Int)>12)))))) λv3=>
 bif v3 then
  some true
 else
  Kt N v2 v1 v1.dj 0
def uz(v1:bp)(l:asn ao):asn ao:= .cells (dH v1).cells::l
theorem aic{N v1 v2}:KO 4 [(dH v1),(aw v2)] az (E3 N v1 v2):=
 fw Tryz.func4 (gA [[]] (gG (λv3=>[(38,(az v3))]) (λ_=>(uz v1 [])) (bz (7,oL v1.bO gC) (au (λh1=>gE [(4,bT h1),(10,bT rfl),(16,bT rfl),(22,bT rfl)] []) λh1=>aY (4,bF h1) (bz (22,oL v1.dj mE) (au (λh2=>gE [(10,bT h2),(16,bT rfl),(22,bT rfl)] []) λh2=>aY (10,bF h2) (bz (40,oL v1.bA kN) (au (λh3=>gE [(16,bT h3),(22,bT rfl)] []) λh3=>aY (16,bF h3) (bz (58,oL v1.aU ji) (au (λh4=>gE [(22,bT h4)] []) λh4=>gE [(22,bF h4)] [(76,oL v1.dz gC)])))))))) λv3=>dM λ_=>gB EE 0 1 v1.dj λh8=>dO 1 [] [1,2,5] 1 (λv4=>⟨135,[(1,(aw v2)),(2,(.ptr 0 0)),(5,(aw (v4:Int)))],(uz v1 [])⟩) (λv4 h9 f1=>gA [[(10,oL v1.dj mE)],[f0 (b5 h9)],[]] (gB xW 0 2 v1.bA λaL=>dO 2 [] [1,2,6] 1 (λv8=>⟨135,[(1,(aw v2)),(2,(.ptr 0 0)),(6,(aw (v8:Int)))],(uz v1 [])⟩) (λv8 aT f2=>gA [[(10,oL v1.bA kN)],[f0 (b5 aT)],[]] (gB vM 0 3 v1.aU λbf=>dO 3 [] [1,2,7] 1 (λv12=>⟨135,[(1,(aw v2)),(2,(.ptr 0 0)),(7,(aw (v12:Int)))],(uz v1 [])⟩) (λv12 a7 f3=>gR [[(10,oL v1.aU ji)],[f0 (b5 a7)],[]]) (λv12 aV bt a7 f3 iI=>gA [[(10,oL v1.aU ji)],[t0 (bU a7)],[(10,oE (lf (ba a7)))]] (gG (λbC=>[(108,(az bC))]) (λ_=>(uz v1 [.cells (gN aV).cells])) (bz (7,oL aV.bI fE) (au (λbm=>gE [(4,bT bm),(10,bT rfl)] []) λbm=>aY (4,bF bm) (bz (22,oL aV.cl fE) (au (λbQ=>gE [(10,bT bQ)] []) λbQ=>aq λbK cA=>gE [(10,bF bQ)] [(43,cK ahn cA)])))) λbC=>aP λb8=>M4 4 [[f0 b8],[]] [1,2,7,8,9] 2 (λ(bX:Int)=>⟨135,[(1,(aw v2)),(2,(.ptr 0 0)),(7,(aw (v12:Int))),(8,(.ptr 1 0)),(9,(aw bX))],(uz v1 [.cells (gN aV).cells])⟩) (EH N aV (Et N v2 bt (v12+1))) (λaR bX f4 lY=>gA [[(10,oL aV.bI fE),(19,oL aV.cl fE)]] (au (λcJ=>gA [[t0 cJ]] (cO λcS=>cO λdw=>cO λfF=>aq λv20 eC=>li (λ_=>(np 3 cn [(10,(.ptr 3 0))] (uz v1 [.cells (gN aV).cells, .front 56 3 (aV.bI++aV.cl).length, .cells (Sa v20).cells]) ⟨[(10,oZ m9 aV.bI cS),(19,oA m9 aV.bI aV.cl dw),(25,⟨_,_, .el (xs:=eV (aV.bI++aV.cl)) (i:=bX) (of_decide_eq_true fF) (mK eC)⟩)],by kernel_rfl⟩ ·)) (gA [[(10,oL v20.eZ.xL dL)]] (aP λim=>zc lY (aI (bX+(1:Int))) [[f0 im],[]])))) λcJ=>gb iI () [[f0 cJ],[(5,oq (ca a7 rfl bf))]] a7)))))) (λv8 v10 v11 aT f2 dI=>gA [[(10,oL v1.bA kN)],[t0 (bU aT)]] (gG (λcM=>[(78,(az cM))]) (λ_=>(uz v1 [])) (bz (10,oE (lT (ba aT))) (bz (19,oL v10.bI dR) (au (λfu=>gE [(8,bT fu)] []) λfu=>aq λv21 gw=>gE [(8,bF fu)] [(37,oE (lT (ba aT))),(46,cK aqL gw)]))) λcM=>aP λvu=>gb dI () [[f0 vu],[(5,oq (ca aT rfl aL))]] aT)))) (λv4 v6 v7 h9 f1 aD=>gA [[(10,oL v1.dj mE)],[t0 (bU h9)],[(10,oE (BD (ba h9))),(22,oL v6.aM.xL dL)]] (aP λx8=>gb aD () [[f0 x8],[(5,oq (ca h9 rfl h8))]] h9))))
def Kc(N:Nat)(v1:aso):asp aH:=
 some (⟨(0:Int64),[(⟨v1,(1:Int64)⟩:bB)]⟩:aH)
theorem Ri{N v1}:KO 11 [(bq v1)] bZ (Kc N v1):=
 fw Tryz.func11 (gR [[],[]])
def Ee(N:Nat)(v1:aE)(v2:Int64):asp an:=
 some (⟨(1:Int),(bs []),(⟨v2,(1:Int64)⟩:aG),v1,dq,[],[]⟩:an)
theorem MV{N v1 v2}:KO 13 [(bY v1),(aW v2)] aA (Ee N v1 v2):=
 fw Tryz.func13 (gR [[],[]])
def FO(N:Nat)(v1:Int)(v2:an)(v3:an):asp an:=
 some (⟨v1,(bs []),bW,cY,dq,[],[v2,v3]⟩:an)
theorem Mn{N v1 v2 v3}:KO 12 [(aw v1),(aA v2),(aA v3)] aA (FO N v1 v2 v3):=
 fw Tryz.func12 (gR [[],[(11,⟨_,_, .eq (congrArg AV.full (gh [v2,v3]).symm)⟩)]])
def PB(N:Nat)(v1:aE):asp Bool:=
 some ((v1.aO==v1.aO)&&((v1.bo==0)&&((v1.bE==0)&&((v1.bN==0)&&((v1.bM==0)&&true)))))
theorem afq{N v1}:KO 54 [(bY v1)] az (PB N v1):=
 fw Tryz.func54 (gR [[],[]])
def ve(N:Nat)(v1:aE):asp Int:=
 Option.bind (bif (decide (v1.bN>=1))then(bif (decide (v1.bN<=4))then(bif (v1.bM==1)then some true else some (v1.bM==2))else some false)else some false) λv2=>
 Option.bind (bif (v1.aO !=2)then some true else(bif (decide (v1.bo<2))then some true else(bif (decide (v1.bo>31))then some true else(bif (decide (v1.bE<0))then some true else(bif (decide (v1.bE>30))then some true else some (!v2)))))) λv3=>
 bif v3 then
  some (10:Int)
 else
  some (0:Int)
theorem Lh{N v1}:KO 55 [(bY v1)] aw (ve N v1):=
 fw Tryz.func55 (gA [[]] (gG (λv2=>[(3,(az v2))]) (λ_=>[.cells (bY v1).cells]) (au (λh1=>aY (3,bT h1) (au (λh2=>aY (8,bT h2) (au (λh3=>gE [(12,bT h3)] [(49,bT h3)]) λh3=>gE [(12,bF h3)] [(49,bF h3)])) λh2=>gE [(8,bF h2),(12,uN)] [])) λh1=>gE [(3,bF h1),(8,bF rfl),(12,uN)] []) λv2=>gG (λv3=>[(48,(az v3))]) (λ_=>[.cells (bY v1).cells]) (au (λh5=>gE [(3,bT h5),(8,bT rfl),(13,bT rfl),(18,bT rfl),(23,bT rfl)] []) λh5=>aY (3,bF h5) (au (λh6=>gE [(8,bT h6),(13,bT rfl),(18,bT rfl),(23,bT rfl)] []) λh6=>aY (8,bF h6) (au (λh7=>gE [(13,bT h7),(18,bT rfl),(23,bT rfl)] []) λh7=>aY (13,bF h7) (au (λh8=>gE [(18,bT h8),(23,bT rfl)] []) λh8=>aY (18,bF h8) (au (λh9=>gE [(23,bT h9)] []) λh9=>gE [(23,bF h9)] []))))) λv3=>aP λaL=>gR [[f0 aL],[]]))
def KU(N:Nat)(v1:aE)(v2:Bool):asp Int:=
 bif v2 then
  (PB N v1).bind λv3=>
  bif v3 then
   some (0:Int)
  else
   some (10:Int)
 else
  bif (v1.aO==2)then
   (ve N v1).bind λv4=>
   bif (v4==0)then
    some (0:Int)
   else
    some (10:Int)
  else
   some (10:Int)
def nY(N:Nat)(v1:aE):asp Int:=
 bif (v1.aO==1)then
  KU N v1 (v1.aO==1)
 else
  KU N v1 (v1.aO==3)
theorem rl{N v1}:KO 27 [(bY v1)] aw (nY N v1):=
 fw Tryz.func27 (ir 1 [[],[],[]] [1,4,5] 1 (λ(v2:Bool)=>⟨15,[(1,(.ptr 0 0)),(4,(aw v1.aO)),(5,(az v2))],[.cells (bY v1).cells]⟩) (KU N v1) (λf1 aD=>au (λh7=>gm aD (v1.aO==1) [[t0 h7]]) λh7=>gm aD (v1.aO==3) [[f0 h7],[]]) (λv2=>au (λh1=>aq λv3 h2=>gA [[t0 h1],[(4,cK afq h2)]] (aP λh3=>gR [[f0 h3],[]])) λh1=>gA [[f0 h1],[]] (fp λh4=>aq λv4 h5=>gA [[t0 h4],[(4,cK Lh h5)]] (aP λh6=>gR [[f0 h6],[]]))))
def H5(N:Nat)(Zf:an->Int->asp Int)(v2:Int):asn an->Nat->Int->asp Int
 |[],_,v7=>
  some v7
 |v5::v6,v3,v7=>
  Option.bind (Zf v5 (aI (v2-(1:Int)))) λv8=>
  (λcD=>H5 N Zf v2 v6 (v3+1) cD) (if(aI ((1:Int)+v8))>v7 then(aI ((1:Int)+v8))else v7)
def rN(N:Nat):Nat->an->Int->asp Int
 |0,_,_=>none
 |d+1,v1,v2=>
  bif (decide (v2<=1))then
   some v2
  else
   H5 N (rN N d) v2 v1.ax 0 (1:Int)
def QM(N:Nat)(v1:an)(v2:Int):asp Int:=rN N N v1 v2
theorem aq3(N:Nat):∀d:Nat,(∀{v1:an}{v2:Int},KO 86 [(aA v1),(aw v2)] aw (rN N d v1 v2)):=by
 intro d
 induction d with
 |zero=>intro v1 v2 r J;rw[rN]at J;cases J
 |succ d ih=>
  have agS:= @ih;intro v1 v2;rw[rN];exact fw Tryz.func86 (gA [[],[]] (aP λh1=>gA [[(0,bF h1)],[],[(7,oL v1.ax dZ)]] (gT lR 12 v1.ax λh3=>iy 1 [] [1,5,12,13,14] 1 (λv3(v7:Int)=>⟨27,[(1,(aw v2)),(5,(aw v7)),(12,(.d (.sl (dn v1.ax)))),(13,(aw (v1.ax.length:Int))),(14,(aw (v3:Int)))],[.cells (aA v1).cells]⟩) (λv3 v7 h4 f1=>gR [[],[(0,bF (b5 h4))],[]]) (λv3 v5 v6 v7 h4 f1 aD=>aq λv8 h5=>gb aD (if(aI ((1:Int)+v8))>v7 then(aI ((1:Int)+v8))else v7) [[],[(0,bT (bU h4))],[(1,oE (bx (ba h4)))],[(13,cK agS h5)],[(2,oq (ca h4 rfl h3))]] h4))))
theorem aeC{N v1 v2}:KO 86 [(aA v1),(aw v2)] aw (QM N v1 v2):=(aq3 N N)
def TM(N:Nat)(v1:an):asp Int:=
 Option.bind (QM N v1 (41:Int)) λv2=>
 some v2
theorem ahs{N v1}:KO 56 [(aA v1)] aw (TM N v1):=
 fw Tryz.func56 (aq λv2 h1=>gR [[],[(4,cK aeC h1)]])
def Nu(N:Nat)(v1:an):asp an:=some v1
theorem ac9{N v1 r}(J:Nu N v1=some r):gD Tryz.prog 58 [(aA v1)] (·=(.fn 87 [(.bP [dd r] 0 0)])):=by
 cases J;exact aes v1
def wI(N:Nat):asn an->Int->asp Int
 |[],v3=>
  some v3
 |_::v5,v3=>
  bif (decide ((aI (v3+(1:Int)))>2000))then
   some (aI (v3+(1:Int)))
  else
   (λcD=>wI N v5 cD) (aI (v3+(1:Int)))
def FL(N:Nat)(v1:an):asp Int:=
 (Nu N v1).bind λv2=>
 wI N (cW v2) (0:Int)
def q9(v1:an)(v3:Int)(l:asn ao):asn ao:= .cells (aA v1).cells:: .cells [(aw (aI (v3+(1:Int))))]::l
def qv(v1:an)(v3:Int)(l:asn ao):asn ao:= .cells (aA v1).cells:: .cells [(aw v3)]::l
def vx(v1:an)(l:asn ao):asn ao:= .cells (aA v1).cells:: .cells [(aw (0:Int))]::l
theorem amp{N v1 r}(J:FL N v1=some r):KF 57 [(aA v1)] (aw r):=by
 rw[FL]at J;refine xU Tryz.func57 rfl (by kernel_rfl) ?_;refine kj [0] 0 (arJ _) (s':=⟨12,[(0,(aA v1))],[]⟩) (by kernel_rfl) ?_;refine bk ?_;refine rg [] [(1,(.ptr 0 0))] [.cells (aA v1).cells] (by kernel_rfl) ?_;refine bk ?_;refine rg [] [(3,(.ptr 1 0))] (vx v1 []) (by kernel_rfl) ?_;refine bk ?_;refine bk ?_;obtain⟨v2,h1,J⟩:=dC J;refine rg [(4,cL (ac9 h1))] [(5,(.fn 87 [(.bP [dd v2] 0 0)]))] (vx v1 []) (by kernel_rfl) ?_;refine gP ?_;refine kj [3,5] 2 (arG rfl) (s':=⟨12,[(3,(.ptr 1 0)),(5,(.fn 87 [(.bP [dd v2] 0 0)]))],(vx v1 [])⟩) (by kernel_rfl) ?_;refine UE (m:=2) (enc:=aA) (xs:=(cW v2)) (by kernel_rfl) (XZ v2) (λ(v3:Int)=>(qv v1 v3 [])) (λ(v3:Int) l=>wI N l v3=some r) (0:Int) (by kernel_rfl) J (by rintro v3;rfl) (by rintro v3;kernel_rfl) (by kernel_rfl) rfl ?_ ?_
 ·rintro v3 v4 v5 J h2 ke j8
  try dsimp only at J
  rw[wI]at J;refine kj [3] 3 (arJ _) (s':=⟨12,[(3,(.ptr 1 0))],(qv v1 v3 [.lp .ready 6 ke j8 (ee 12 [(3,(.ptr 1 0)),(5,(.fn 87 [(.bP [dd v2] 0 0)]))])])⟩) (by kernel_rfl) ?_;refine fU ?_;refine cy ?_;refine⟨(qv v1 v3 []),[],rfl,(by kernel_rfl),?_⟩;refine kj [3] 3 (arG rfl) (s':=⟨12,[(3,(.ptr 1 0))],(qv v1 v3 [.lp .busy 6 ke j8 (ee 12 [(3,(.ptr 1 0)),(5,(.fn 87 [(.bP [dd v2] 0 0)]))])])⟩) (by kernel_rfl) ?_;refine gP ?_;refine bk ?_;refine rg [] [] (q9 v1 v3 [.lp .busy 6 ke j8 (ee 12 [(3,(.ptr 1 0)),(5,(.fn 87 [(.bP [dd v2] 0 0)]))])]) (by kernel_rfl) ?_;refine bk ?_;refine rg [] [(10,(az (decide ((aI (v3+(1:Int)))>2000))))] (q9 v1 v3 [.lp .busy 6 ke j8 (ee 12 [(3,(.ptr 1 0)),(5,(.fn 87 [(.bP [dd v2] 0 0)]))])]) (by kernel_rfl) ?_;rcases lL (decide ((aI (v3+(1:Int)))>2000))with h3|h3
  ·replace J:=(eR h3).symm.trans J;refine jJ (t:=(decide ((aI (v3+(1:Int)))>2000))) (by kernel_rfl) h3 ?_;refine n4 (ajl rfl ?_);refine ali (q9 v1 v3 []) rfl (by kernel_rfl) (by kernel_rfl) ?_;refine(pR rfl ?_);refine cy ?_;refine bk ?_;refine rg [] [(2,(aw (aI (v3+(1:Int)))))] (q9 v1 v3 [.gone]) (by kernel_rfl) ?_;refine eG ?_;have hr:=arR J;subst hr;exact ky (by kernel_rfl)
  replace J:=(lU h3).symm.trans J;refine jx (t:=(decide ((aI (v3+(1:Int)))>2000))) (by kernel_rfl) h3 ?_;refine fU ?_;refine lC ?_;refine Ua (q9 v1 v3 []) rfl (by kernel_rfl) (by kernel_rfl) ?_;exact⟨(aI (v3+(1:Int))),(by kernel_rfl),J⟩
 rintro v3 J
 try dsimp only at J
 rw[wI]at J;refine lC ?_;refine cy ?_;refine bk ?_;refine rg [] [(2,(aw v3))] (qv v1 v3 [.gone]) (by kernel_rfl) ?_;refine eG ?_;have hr:=arR J;subst hr;exact ky (by kernel_rfl)
def GA(N:Nat)(v1:aH):asp Bool:=
 Option.bind (bif (v1.xK.toInt==0)then some ((v1.xL.length:Int)==0)else some false) λv2=>
 some v2
theorem Wr{N v1}:KO 128 [(bZ v1)] az (GA N v1):=
 fw Tryz.func128 (gA [[]] (gG (λv2=>[(2,(az v2))]) (λ_=>[.cells (bZ v1).cells]) (au (λh1=>gE [(3,bT h1)] [(19,oL v1.xL dL)]) λh1=>gE [(3,bF h1)] []) λv2=>gR []))
def Lr(N:Nat)(v1:aZ):asp Bool:=
 bif (bL v1.bS==bL (bs []))then
  some ((v1.bH.length:Int)==0)
 else
  (GA N v1.aM).bind λv2=>
  some v2
theorem anQ{N v1}:KO 131 [(aIndex v1)] az (Lr N v1):=
 fw Tryz.func131 (gA [[],[]] (au (λh1=>gR [[t0 h1],[(7,oL v1.bH dR)]]) λh1=>aq λv2 h2=>gR [[f0 h1],[(7,cK Wr h2)]]))
def O7(N:Nat)(v1:aZ):asp Bool:=
 (Lr N v1).bind λv2=>
 some (!v2)
theorem anc{N v1}:KO 130 [(aIndex v1)] az (O7 N v1):=
 fw Tryz.func130 (aq λv2 h1=>gR [[],[(4,cK anQ h1)]])
def Ny(N:Nat):asn aZ->Nat->asp Int
 |[],_=>
  some (-1:Int)
 |v4::v5,v2=>
  (O7 N v4).bind λv6=>
  bif v6 then
   some (v2:Int)
  else
   (Ny N v5 (v2+1))
def Ro(N:Nat)(v1:asn aZ):asp Int:=
 Ny N v1 0
theorem aoy{N v1}:KP 185 [(.d (.sl (cU v1))),(.fn 130 [])] [] aw (λ_=>[]) (Ro N v1):=
 fh 0 Tryz.func185 (gA [[],[(4,oL v1 eD)]] (gT nf 0 v1 λh2=>dO 1 [] [0,1,7,8] 0 (λv2=>⟨19,[(0,(.d (.sl (cU v1)))),(1,(.fn 130 [])),(7,(aw (v1.length:Int))),(8,(aw (v2:Int)))],[]⟩) (λv2 h3 f1=>gH [[],[f0 (b5 h3)],[]]) (λv2 v4 v5 h3 f1 aD=>aq λv6 h4=>gA [[],[t0 (bU h3)],[],[(10,oE (gX (ba h3))),(16,cK anc h4)]] (au (λh5=>gH [[t0 h5],[]]) λh5=>gb aD () [[f0 h5],[(2,oq (ca h3 rfl h2))]] h3))))
def H9(N:Nat)(v1:asn aZ):asp Bool:=
 (Ro N v1).bind λv2=>
 some (decide (v2>=0))
theorem ahP{N v1}:KP 129 [(.d (.sl (cU v1))),(.fn 130 [])] [] az (λ_=>[]) (H9 N v1):=
 fh 0 Tryz.func129 (aq λv2 h1=>gH [[],[(7,oQ [(.d (.sl (cU v1))),(.fn 130 [])] [] [] (aoy _ h1))]])
def M9(N:Nat)(v1:an):asp Bool:=
 Option.bind (bif (v1.ar==1)then some true else some (v1.ar==12)) λv2=>
 Option.bind (bif (decide (v1.ar<1))then some true else some (decide (v1.ar>18))) λv3=>
 bif v3 then
  some false
 else
  Option.bind (bif (v1.ar==1)then some false else some (!((v1.bD.xN.toInt==(0:Int64).toInt)&&((v1.bD.xD.toInt==(0:Int64).toInt)&&true)))) λv4=>
  bif v4 then
   some false
  else
   Option.bind (bif v2 then some false else some (!((v1.ay.aO==0)&&((v1.ay.bo==0)&&((v1.ay.bE==0)&&((v1.ay.bN==0)&&((v1.ay.bM==0)&&true))))))) λv5=>
   bif v5 then
    some false
   else
    Option.bind (bif (v1.ar==2)then some false else (GA N v1.aM).bind λv6=>
    some (!v6)) λv7=>
    bif v7 then
     some false
    else
     Option.bind (bif (v1.ar==3)then some false else(bif (bL v1.aC==bL (bs []))then some (decide ((v1.xIdx.length:Int)>0))else some true)) λv8=>
     bif v8 then
      some false
     else
      (H9 N v1.xIdx).bind λv9=>
      some (!v9)
def zK(v1:an)(l:asn ao):asn ao:= .cells (aA v1).cells::l
theorem aqS{N v1}:KO 89 [(aA v1)] az (M9 N v1):=
 fw Tryz.func89 (gA [[]] (gG (λv2=>[(3,(az (v1.ar==1))),(4,(az v2))]) (λ_=>(zK v1 [])) (au (λh1=>gE [(6,bT h1)] []) λh1=>gE [(6,bF h1)] []) λv2=>gA [[]] (gG (λv3=>[(24,(az v3))]) (λ_=>(zK v1 [])) (au (λh3=>gE [(3,bT h3)] []) λh3=>gE [(3,bF h3)] []) λv3=>aP λh5=>gA [[f0 h5]] (gG (λv4=>[(33,(az v4))]) (λ_=>(zK v1 [])) (au (λh6=>gE [(2,bF (bV h6))] []) λh6=>gE [(2,bT (cx h6))] []) λv4=>aP λh8=>gA [[f0 h8]] (gG (λv5=>[(42,(az v5))]) (λ_=>(zK v1 [])) (au (λh9=>gE [(2,bF (bV h9))] []) λh9=>gE [(2,bT (cx h9))] []) λv5=>aP λaL=>gA [[f0 aL]] (gG (λv7=>[(51,(az v7))]) (λ_=>(zK v1 [])) (au (λaT=>gE [(2,bF (bV aT))] []) λaT=>aq λv6 bu=>gE [(2,bT (cx aT))] [(16,cK Wr bu)]) λv7=>aP λa7=>gA [[f0 a7]] (gG (λv8=>[(60,(az v8))]) (λ_=>(zK v1 [])) (au (λbm=>gE [(2,bF (bV bm)),(6,uN)] []) λbm=>aY (2,bT (cx bm)) (au (λbQ=>gE [(6,bF (bV bQ))] [(28,oL v1.xIdx eD),(34,bF (bV bQ))]) λbQ=>gE [(6,bT (cx bQ))] [(34,bT (cx bQ))])) λv8=>aP λcv=>aq λv9 b8=>gR [[f0 cv],[(7,oQ [(.d (.sl (cU v1.xIdx))),(.fn 130 [])] (zK v1 []) [] (ahP _ b8))]])))))))
def Fa(N:Nat)(v1:Int):asp Bool:=
 Option.bind (bif (decide (v1>=97))then some (decide (v1<=122))else some false) λv2=>
 some v2
theorem V8{N v1}:KO 113 [(.d (.v (.int .i32 v1)))] az (Fa N v1):=
 fw Tryz.func113 (gA [[]] (gG (λv2=>[(2,(az v2))]) (λ_=>[]) (au (λh1=>gE [(2,bT h1)] []) λh1=>gE [(2,bF h1)] []) λv2=>gR []))
def MP(N:Nat)(v1:Int):asp Bool:=
 Option.bind (bif (decide (v1>=48))then some (decide (v1<=57))else some false) λv2=>
 some v2
theorem amy{N v1}:KO 156 [(.d (.v (.int .i32 v1)))] az (MP N v1):=
 fw Tryz.func156 (gA [[]] (gG (λv2=>[(2,(az v2))]) (λ_=>[]) (au (λh1=>gE [(2,bT h1)] []) λh1=>gE [(2,bF h1)] []) λv2=>gR []))
def IV(N:Nat)(v1:Int):asp Bool:=
 (Fa N v1).bind λv2=>
 Option.bind (bif v2 then some true else (MP N v1).bind λv3=>
 (bif v3 then some true else some (v1==95))) λv4=>
 some v4
theorem afY{N v1}:KO 115 [(.d (.v (.int .i32 v1)))] az (IV N v1):=
 fw Tryz.func115 (gA [[]] (aq λv2 h1=>gG (λv4=>[(2,(az v4))]) (λ_=>[]) (bz (4,cK V8 h1) (au (λh2=>gE [(2,bT h2),(6,bT rfl)] []) λh2=>aq λv3 h3=>aY (2,bF h2) (bz (13,cK amy h3) (au (λh4=>gE [(6,bT h4)] []) λh4=>gE [(6,bF h4)] [])))) λv4=>gR []))
def Gj(N:Nat)(v1:aso):Nat->Int->asp Int
 |0,_=>none
 |v2+1,v3=>
  Option.bind (bif (decide (v3<(v1.size:Int)))then bif (decide ((0:Int)<=v3))then
  Option.bind (v1[(v3).toNat]?) λv4=>
  Option.bind (IV N (IntKind.i32.wrap (v4.toNat:Int))) λv5=>
  some v5
  else none else some false) λv6=>
  bif v6 then
   (λcD=>Gj N v1 v2 cD) (aI (v3+(1:Int)))
  else
   some v3
def KL(N:Nat)(v1:aso):asp Int:=
 Gj N v1 N (0:Int)
theorem apO{N v1}:KP 114 [(bq v1),(.fn 115 [])] [] aw (λ_=>[]) (KL N v1):=
 fh 0 Tryz.func114 (M4 1 [[],[]] [0,1,5] 0 (λ(v3:Int)=>⟨21,[(0,(bq v1)),(1,(.fn 115 [])),(5,(aw v3))],[]⟩) (Gj N v1) (λv2 v3 f1 aD=>gG (λv6=>[(17,(az v6))]) (λ_=>[]) (au (λh1=>cO λh3=>aq λv4 h2=>aq λv5 h4=>gE [(4,bT h1)] [(25,⟨_,_, .ch (i:=v3) (of_decide_eq_true h3) h2⟩),(31,cK afY h4)]) λh1=>gE [(4,bF h1)] []) λv6=>au (λh6=>zc aD (aI (v3+(1:Int))) [[t0 h6],[]]) λh6=>gH [[f0 h6],[]]))
def QQ(N:Nat):asp (asn aso):=some ny
theorem aeo{N r}(J:QQ N=some r):gD Tryz.prog 157 [] (·=(.d (.sl (cb r)))):=by
 cases J;exact ant
def Lo(N:Nat)(v2:aso):asn aso->Nat->asp Int
 |[],_=>
  some (-1:Int)
 |v5::v6,v3=>
  bif (bL v2==bL v5)then
   some (v3:Int)
  else
   (Lo N v2 v6 (v3+1))
def MG(N:Nat)(v1:asn aso)(v2:aso):asp Int:=
 Lo N v2 v1 0
theorem aeK{N v1 v2}:KO 74 [(.d (.sl (cb v1))),(bq v2)] aw (MG N v1 v2):=
 fw Tryz.func74 (gA [[],[(4,oL v1 gC)]] (gT kM 0 v1 λh2=>dO 1 [] [0,1,7,8] 0 (λv3=>⟨19,[(0,(.d (.sl (cb v1)))),(1,(bq v2)),(7,(aw (v1.length:Int))),(8,(aw (v3:Int)))],[]⟩) (λv3 h3 f1=>gR [[],[f0 (b5 h3)],[]]) (λv3 v5 v6 h3 f1 aD=>gA [[],[t0 (bU h3)],[],[(10,oE (na (ba h3)))]] (aP λh4=>gb aD () [[f0 h4],[(2,oq (ca h3 rfl h2))]] h3))))
def Aw(N:Nat)(v1:asn aso)(v2:aso):asp Bool:=
 (MG N v1 v2).bind λv3=>
 some (decide (v3>=0))
theorem Xl{N v1 v2}:KO 44 [(.d (.sl (cb v1))),(bq v2)] az (Aw N v1 v2):=
 fw Tryz.func44 (aq λv3 h1=>gR [[],[(7,cK aeK h1)]])
def J5(N:Nat)(v1:aso):asp Bool:=
 (QQ N).bind λv2=>
 (Aw N v2 v1).bind λv3=>
 some v3
theorem aia{N v1}:KO 116 [(bq v1)] az (J5 N v1):=
 fw Tryz.func116 (aq λv2 h1=>aq λv3 h2=>gR [[],[(1,cL (aeo h1)),(7,cK Xl h2)]])
def xd(N:Nat)(v1:aso):asp Bool:=
 Option.bind (bif (bL v1==bL (bs []))then some false else(bif (decide ((v1.size:Int)<=16))then Option.bind (v1[0]?) λv2=>
 Option.bind (Fa N (IntKind.i32.wrap (v2.toNat:Int))) λv3=>
 (bif v3 then (KL N v1).bind λv4=>
 (bif (v4==(v1.size:Int))then (J5 N v1).bind λv5=>
 some (!v5)else some false)else some false)else some false)) λv6=>
 some v6
theorem MX{N v1}:KO 66 [(bq v1)] az (xd N v1):=
 fw Tryz.func66 (gA [[]] (gG (λv6=>[(2,(az v6))]) (λ_=>[]) (au (λh1=>gE [(2,bF (bV h1)),(7,bF rfl),(13,bF rfl),(20,bF rfl)] []) λh1=>aY (2,bT (cx h1)) (au (λh2=>aq λv2 h3=>aq λv3 h4=>aY (7,bT h2) (bz (28,⟨_,_, .ch (i:=0) (by decide) h3⟩) (bz (34,cK V8 h4) (au (λh5=>aq λv4 h6=>aY (13,bT h5) (bz (46,oQ [(bq v1),(.fn 115 [])] [] [] (apO _ h6)) (au (λh7=>aq λv5 h8=>gE [(20,bT h7)] [(67,cK aia h8)]) λh7=>gE [(20,bF h7)] []))) λh5=>gE [(13,bF h5),(20,bF rfl)] [])))) λh2=>gE [(7,bF h2),(13,bF rfl),(20,bF rfl)] [])) λv6=>gR []))
def Jv(N:Nat)(v1:aZ):asp Bool:=
 Option.bind (bif (bL v1.bS==bL (bs []))then some false else (xd N v1.bS).bind λv2=>
 some (!v2)) λv3=>
 some v3
theorem afG{N v1}:KO 132 [(aIndex v1)] az (Jv N v1):=
 fw Tryz.func132 (gA [[]] (gG (λv3=>[(2,(az v3))]) (λ_=>[.cells (aIndex v1).cells]) (au (λh1=>gE [(3,bF (bV h1))] []) λh1=>aq λv2 h2=>gE [(3,bT (cx h1))] [(19,cK MX h2)]) λv3=>gR []))
def Mc(N:Nat):asn aZ->Nat->asp Int
 |[],_=>
  some (-1:Int)
 |v4::v5,v2=>
  (Jv N v4).bind λv6=>
  bif v6 then
   some (v2:Int)
  else
   (Mc N v5 (v2+1))
def PL(N:Nat)(v1:asn aZ):asp Int:=
 Mc N v1 0
theorem amO{N v1}:KP 185 [(.d (.sl (cU v1))),(.fn 132 [])] [] aw (λ_=>[]) (PL N v1):=
 fh 0 Tryz.func185 (gA [[],[(4,oL v1 eD)]] (gT nf 0 v1 λh2=>dO 1 [] [0,1,7,8] 0 (λv2=>⟨19,[(0,(.d (.sl (cU v1)))),(1,(.fn 132 [])),(7,(aw (v1.length:Int))),(8,(aw (v2:Int)))],[]⟩) (λv2 h3 f1=>gH [[],[f0 (b5 h3)],[]]) (λv2 v4 v5 h3 f1 aD=>aq λv6 h4=>gA [[],[t0 (bU h3)],[],[(10,oE (gX (ba h3))),(16,cK afG h4)]] (au (λh5=>gH [[t0 h5],[]]) λh5=>gb aD () [[f0 h5],[(2,oq (ca h3 rfl h2))]] h3))))
def TL(N:Nat)(v1:asn aZ):asp Bool:=
 (PL N v1).bind λv2=>
 some (decide (v2>=0))
theorem amV{N v1}:KP 129 [(.d (.sl (cU v1))),(.fn 132 [])] [] az (λ_=>[]) (TL N v1):=
 fh 0 Tryz.func129 (aq λv2 h1=>gH [[],[(7,oQ [(.d (.sl (cU v1))),(.fn 132 [])] [] [] (amO _ h1))]])
def Mt(N:Nat)(v1:an):asp Bool:=
 Option.bind (bif (v1.ar==3)then (xd N v1.aC).bind λv2=>
 some (!v2)else some false) λv3=>
 bif v3 then
  some false
 else
  (TL N v1.xIdx).bind λv4=>
  some (!v4)
theorem ao1{N v1}:KO 90 [(aA v1)] az (Mt N v1):=
 fw Tryz.func90 (gA [[]] (gG (λv3=>[(11,(az v3))]) (λ_=>[.cells (aA v1).cells]) (au (λh1=>aq λv2 h2=>gE [(3,bT h1)] [(19,cK MX h2)]) λh1=>gE [(3,bF h1)] []) λv3=>aP λh4=>aq λv4 h5=>gR [[f0 h4],[(7,oQ [(.d (.sl (cU v1.xIdx))),(.fn 132 [])] [.cells (aA v1).cells] [] (amV _ h5))]]))
def DO(N:Nat)(v1:Int)(v3:Bool):asp Int:=
 bif v3 then
  some (1:Int)
 else
  bif (v1==11)then
   some (3:Int)
  else
   some (2:Int)
def Ft(N:Nat)(v1:Int)(v2:Bool):asp Int:=
 bif v2 then
  some (0:Int)
 else
  bif (v1==8)then
   DO N v1 (v1==8)
  else
   bif (v1==12)then
    DO N v1 (v1==12)
   else
    DO N v1 (v1==18)
def Jf(N:Nat)(v1:Int):asp Int:=
 bif (v1==1)then
  Ft N v1 (v1==1)
 else
  bif (v1==2)then
   Ft N v1 (v1==2)
  else
   Ft N v1 (v1==3)
theorem apT{N v1}:KO 133 [(aw v1)] aw (Jf N v1):=
 fw Tryz.func133 (ir 1 [[],[],[]] [3,4] 0 (λ(v2:Bool)=>⟨14,[(3,(aw v1)),(4,(az v2))],[]⟩) (Ft N v1) (λf1 aD=>au (λh6=>gm aD (v1==1) [[t0 h6]]) λh6=>gA [[f0 h6],[]] (au (λh7=>gm aD (v1==2) [[t0 h7]]) λh7=>gm aD (v1==3) [[f0 h7],[]])) (λv2=>aP λh1=>ir 2 [[f0 h1],[]] [3,8] 0 (λ(v3:Bool)=>⟨14,[(3,(aw v1)),(8,(az v3))],[]⟩) (DO N v1) (λf2 dI=>au (λh4=>gm dI (v1==8) [[t0 h4]]) λh4=>gA [[f0 h4],[]] (au (λh5=>gm dI (v1==12) [[t0 h5]]) λh5=>gm dI (v1==18) [[f0 h5],[]])) (λv3=>dM λ_=>aP λh3=>gR [[f0 h3],[]])))
def SU(N:Nat)(v1:aZ):asp Bool:=
 some (decide ((v1.bH.length:Int)>6))
theorem aq0{N v1}:KO 134 [(aIndex v1)] az (SU N v1):=
 fw Tryz.func134 (gR [[],[(7,oL v1.bH dR)]])
def Nl(N:Nat):asn aZ->Nat->asp Int
 |[],_=>
  some (-1:Int)
 |v4::v5,v2=>
  (SU N v4).bind λv6=>
  bif v6 then
   some (v2:Int)
  else
   (Nl N v5 (v2+1))
def P1(N:Nat)(v1:asn aZ):asp Int:=
 Nl N v1 0
theorem agw{N v1}:KP 185 [(.d (.sl (cU v1))),(.fn 134 [])] [] aw (λ_=>[]) (P1 N v1):=
 fh 0 Tryz.func185 (gA [[],[(4,oL v1 eD)]] (gT nf 0 v1 λh2=>dO 1 [] [0,1,7,8] 0 (λv2=>⟨19,[(0,(.d (.sl (cU v1)))),(1,(.fn 134 [])),(7,(aw (v1.length:Int))),(8,(aw (v2:Int)))],[]⟩) (λv2 h3 f1=>gH [[],[f0 (b5 h3)],[]]) (λv2 v4 v5 h3 f1 aD=>aq λv6 h4=>gA [[],[t0 (bU h3)],[],[(10,oE (gX (ba h3))),(16,cK aq0 h4)]] (au (λh5=>gH [[t0 h5],[]]) λh5=>gb aD () [[f0 h5],[(2,oq (ca h3 rfl h2))]] h3))))
def Ok(N:Nat)(v1:asn aZ):asp Bool:=
 (P1 N v1).bind λv2=>
 some (decide (v2>=0))
theorem aqP{N v1}:KP 129 [(.d (.sl (cU v1))),(.fn 134 [])] [] az (λ_=>[]) (Ok N v1):=
 fh 0 Tryz.func129 (aq λv2 h1=>gH [[],[(7,oQ [(.d (.sl (cU v1))),(.fn 134 [])] [] [] (agw _ h1))]])
def Mz(N:Nat)(v1:an):asp Bool:=
 (Jf N v1.ar).bind λv2=>
 Option.bind (bif ((v1.ax.length:Int) !=v2)then some true else some (decide ((v1.xIdx.length:Int)>6))) λv3=>
 bif v3 then
  some false
 else
  (Ok N v1.xIdx).bind λv4=>
  some (!v4)
theorem alp{N v1}:KO 91 [(aA v1)] az (Mz N v1):=
 fw Tryz.func91 (gA [[]] (aq λv2 h1=>gG (λv3=>[(15,(az v3))]) (λ_=>[.cells (aA v1).cells]) (bz (7,oL v1.ax dZ) (bz (16,cK apT h1) (au (λh2=>gE [(7,bT h2)] []) λh2=>gE [(7,bF h2)] [(31,oL v1.xIdx eD)]))) λv3=>aP λh4=>aq λv4 h5=>gR [[f0 h4],[(7,oQ [(.d (.sl (cU v1.xIdx))),(.fn 134 [])] [.cells (aA v1).cells] [] (aqP _ h5))]]))
def Cd(N:Nat)(v1:an):asp Bool:=
 Option.bind (bif (decide ((13:Int)<=v1.ar))then some (decide (v1.ar<=18))else some false) λv2=>
 some v2
theorem PR{N v1}:KO 31 [(aA v1)] az (Cd N v1):=
 fw Tryz.func31 (gA [[]] (gG (λv2=>[(2,(az v2))]) (λ_=>[.cells (aA v1).cells]) (au (λh1=>gE [(3,bT h1)] []) λh1=>gE [(3,bF h1)] []) λv2=>gR []))
def F4(N:Nat)(v1:Int)(v2:Int)(v3:Bool):asp Bool:=
 bif v3 then
  some true
 else
  Option.bind (bif (v1==11)then some (v2==0)else some false) λv4=>
  some v4
def L0(N:Nat)(v1:Int)(v2:Int):asp Bool:=
 bif (v1==16)then
  F4 N v1 v2 (v1==16)
 else
  bif (v1==17)then
   F4 N v1 v2 (v1==17)
  else
   F4 N v1 v2 (v1==18)
theorem aqo{N v1 v2}:KO 135 [(aw v1),(aw v2)] az (L0 N v1 v2):=
 fw Tryz.func135 (ir 1 [[],[],[]] [0,1,6] 0 (λ(v3:Bool)=>⟨16,[(0,(aw v1)),(1,(aw v2)),(6,(az v3))],[]⟩) (F4 N v1 v2) (λf1 aD=>au (λh4=>gm aD (v1==16) [[t0 h4]]) λh4=>gA [[f0 h4],[]] (au (λh5=>gm aD (v1==17) [[t0 h5]]) λh5=>gm aD (v1==18) [[f0 h5],[]])) (λv3=>aP λh1=>gA [[f0 h1]] (gG (λv4=>[(4,(az v4))]) (λ_=>[]) (au (λh2=>gE [(2,bT h2)] []) λh2=>gE [(2,bF h2)] []) λv4=>gR [])))
def HP(N:Nat)(v1:an):asn an->Nat->asp Bool
 |[],_=>
  some true
 |v7::v8,v5=>
  (Cd N v7).bind λv9=>
  Option.bind (L0 N v1.ar (v5:Int)) λv10=>
  bif (v9==v10)then
   (HP N v1 v8 (v5+1))
  else
   some false
def Lj(N:Nat)(v1:an):asp Bool:=
 Option.bind (bif (v1.ar==1)then (nY N v1.ay).bind λv2=>
 some (v2 !=0)else(bif (v1.ar==12)then (nY N v1.ay).bind λv3=>
 some (v3 !=0)else some false)) λv4=>
 bif v4 then
  some false
 else
  HP N v1 v1.ax 0
theorem afc{N v1}:KO 92 [(aA v1)] az (Lj N v1):=
 fw Tryz.func92 (gA [[]] (gG (λv4=>[(18,(az v4))]) (λ_=>[.cells (aA v1).cells]) (au (λh1=>aq λv2 h2=>gE [(3,bT h1),(8,bT rfl)] [(34,cK rl h2)]) λh1=>aY (3,bF h1) (au (λh3=>aq λv3 h4=>gE [(8,bT h3)] [(34,cK rl h4)]) λh3=>gE [(8,bF h3)] [])) λv4=>aP λh6=>gA [[f0 h6],[(7,oL v1.ax dZ)]] (gT lR 20 v1.ax λh8=>dO 1 [] [1,20,21,22] 1 (λv5=>⟨35,[(1,(.ptr 0 0)),(20,(.d (.sl (dn v1.ax)))),(21,(aw (v1.ax.length:Int))),(22,(aw (v5:Int)))],[.cells (aA v1).cells]⟩) (λv5 h9 f1=>gR [[],[f0 (b5 h9)],[]]) (λv5 v7 v8 h9 f1 aD=>aq λv9 aK=>aq λv10 aL=>gA [[],[t0 (bU h9)],[(4,oE (bx (ba h9)))],[(4,cK PR aK),(16,cK aqo aL)]] (eg λaT=>gb aD () [[f0 (bV aT)],[(2,oq (ca h9 rfl h8))]] h9)))))
def zX(N:Nat)(v1:Int):asp Bool:=
 Option.bind (bif (decide (v1>=2))then some (decide (v1<=31))else some false) λv2=>
 some v2
theorem Om{N v1}:KO 225 [(aw v1)] az (zX N v1):=
 fw Tryz.func225 (gA [[]] (gG (λv2=>[(2,(az v2))]) (λ_=>[]) (au (λh1=>gE [(2,bT h1)] []) λh1=>gE [(2,bF h1)] []) λv2=>gR []))
def DQ(N:Nat)(v1:Int):asp Int64:=
 (zX N v1).bind λv2=>
 bif v2 then
  bif (decide ((0:Int)<=(IntKind.u64.wrap (aI (v1-(1:Int))))))then
  some (-(Int64.ofInt ((1:Int)*2^(min ((IntKind.u64.wrap (aI (v1-(1:Int))))).toNat (IntKind.bits .i64)))))
  else none
 else
  some (0:Int64)
theorem WQ{N v1}:KO 186 [(aw v1)] aW (DQ N v1):=
 fw Tryz.func186 (aq λv2 h1=>gA [[],[(4,cK Om h1)]] (eg λh2=>cO λh3=>gR [[f0 (bV h2)],[(10,⟨_,_, .nn (b:=(IntKind.u64.wrap (aI (v1-(1:Int))))) (of_decide_eq_true h3)⟩),(11,⟨_,_, .eq (fM ((1:Int)*2^(min ((IntKind.u64.wrap (aI (v1-(1:Int))))).toNat (IntKind.bits .i64))))⟩),(14,⟨_,_, .eq (lX (Int64.ofInt ((1:Int)*2^(min ((IntKind.u64.wrap (aI (v1-(1:Int))))).toNat (IntKind.bits .i64)))))⟩)]]))
def Fp(N:Nat)(v1:Int):asp Int64:=
 (zX N v1).bind λv2=>
 bif v2 then
  bif (decide ((0:Int)<=(IntKind.u64.wrap (aI (v1-(1:Int))))))then
  some ((Int64.ofInt ((1:Int)*2^(min ((IntKind.u64.wrap (aI (v1-(1:Int))))).toNat (IntKind.bits .i64))))-(1:Int64))
  else none
 else
  some (0:Int64)
theorem aaP{N v1}:KO 187 [(aw v1)] aW (Fp N v1):=
 fw Tryz.func187 (aq λv2 h1=>gA [[],[(4,cK Om h1)]] (eg λh2=>cO λh3=>gR [[f0 (bV h2)],[(10,⟨_,_, .nn (b:=(IntKind.u64.wrap (aI (v1-(1:Int))))) (of_decide_eq_true h3)⟩),(11,⟨_,_, .eq (fM ((1:Int)*2^(min ((IntKind.u64.wrap (aI (v1-(1:Int))))).toNat (IntKind.bits .i64))))⟩),(14,⟨_,_, .eq (jX (Int64.ofInt ((1:Int)*2^(min ((IntKind.u64.wrap (aI (v1-(1:Int))))).toNat (IntKind.bits .i64)))) (1:Int64))⟩)]]))
def tF(N:Nat)(v1:aE)(v2:aG):asp Bool:=
 (ve N v1).bind λv3=>
 Option.bind (bif (v3==0)then(bif (v2.xD.toInt==1)then (DQ N v1.bo).bind λv4=>
 (bif (decide (v2.xN.toInt>=v4.toInt))then (Fp N v1.bo).bind λv5=>
 some (decide (v2.xN.toInt<=v5.toInt))else some false)else some false)else some false) λv6=>
 some v6
theorem Pc{N v1 v2}:KO 136 [(bY v1),(a8 v2)] az (tF N v1 v2):=
 fw Tryz.func136 (gA [[]] (aq λv3 h1=>gG (λv6=>[(4,(az v6))]) (λ_=>[.cells (bY v1).cells, .cells (a8 v2).cells]) (bz (4,cK Lh h1) (au (λh2=>aY (3,bT h2) (au (λh3=>aq λv4 h4=>aY (8,bT h3) (bz (40,cK WQ h4) (au (λh5=>aq λv5 h6=>gE [(16,bT h5)] [(64,cK aaP h6)]) λh5=>gE [(16,bF h5)] []))) λh3=>gE [(8,bF h3),(16,bF rfl)] [])) λh2=>gE [(3,bF h2),(8,bF rfl),(16,bF rfl)] [])) λv6=>gR []))
def p8(N:Nat)(v1:Int64):asp Bool:=
 Option.bind (bif (decide (v1.toInt>=(-2147483647:Int)))then some (decide (v1.toInt<=2147483647))else some false) λv2=>
 some v2
theorem Cf{N v1}:KO 137 [(aW v1)] az (p8 N v1):=
 fw Tryz.func137 (gA [[]] (gG (λv2=>[(2,(az v2))]) (λ_=>[]) (au (λh1=>gE [(2,bT h1)] []) λh1=>gE [(2,bF h1)] []) λv2=>gR []))
def Qp(N:Nat)(v1:Int64):asp Bool:=
 Option.bind (bif (decide (v1.toInt>=(-2147483647:Int)))then some (decide (v1.toInt<=2147483647))else some false) λv2=>
 some v2
theorem aec{N v1}:KO 188 [(aW v1)] az (Qp N v1):=
 fw Tryz.func188 (gA [[]] (gG (λv2=>[(2,(az v2))]) (λ_=>[]) (au (λh1=>gE [(2,bT h1)] []) λh1=>gE [(2,bF h1)] []) λv2=>gR []))
def B7(N:Nat)(v1:Int64):asp Int:=
 bif (decide (v1.toInt<0))then
  some (IntKind.u64.wrap (0-(IntKind.u64.wrap v1.toInt)))
 else
  some (IntKind.u64.wrap v1.toInt)
theorem Sq{N v1}:KO 190 [(aW v1)] (λr=> .d (.v (.int .u64 r))) (B7 N v1):=
 fw Tryz.func190 (gA [[],[]] (aP λh1=>gR [[f0 h1],[]]))
def GX(N:Nat):Nat->Int->Int->asp Int
 |0,_,_=>none
 |v3+1,v4,v5=>
  bif (v5 !=0)then
   (λcD gy=>GX N v3 cD gy) v5 ((v4).tmod v5)
  else
   some v4
def Bq(N:Nat)(v1:Int)(v2:Int):asp Int:=
 GX N N v1 v2
theorem abS{N v1 v2}:KO 189 [(.d (.v (.int .u64 v1))),(.d (.v (.int .u64 v2)))] (λr=> .d (.v (.int .u64 r))) (Bq N v1 v2):=
 fw Tryz.func189 (So 1 [[]] [0,1] 0 (λ(v4:Int)(v5:Int)=>⟨12,[(0,(.d (.v (.int .u64 v4)))),(1,(.d (.v (.int .u64 v5))))],[]⟩) (GX N) (λv3 v4 v5 f1 aD=>gA [[]] (fp λh1=>zc aD (v5,((v4).tmod v5)) [[t0 h1],[(10,⟨_,_, .nz (b:=v5) (bne_iff_ne.1 h1)⟩)]])))
def kr(N:Nat)(v1:aG):asp Bool:=
 Option.bind (bif (decide (v1.xD.toInt>=1))then(bif (decide (v1.xD.toInt<=2147483647))then (Qp N v1.xN).bind λv2=>
 (bif v2 then (B7 N v1.xN).bind λv3=>
 Option.bind (Bq N v3 (IntKind.u64.wrap v1.xD.toInt)) λv4=>
 some (v4==1)else some false)else some false)else some false) λv5=>
 some v5
theorem m6{N v1}:KO 138 [(a8 v1)] az (kr N v1):=
 fw Tryz.func138 (gA [[]] (gG (λv5=>[(2,(az v5))]) (λ_=>[.cells (a8 v1).cells]) (au (λh1=>aY (3,bT h1) (au (λh2=>aq λv2 h3=>aY (8,bT h2) (bz (34,cK aec h3) (au (λh4=>aq λv3 h5=>aq λv4 h6=>gE [(13,bT h4)] [(49,cK Sq h5),(61,cK abS h6)]) λh4=>gE [(13,bF h4)] []))) λh2=>gE [(8,bF h2),(13,bF rfl)] [])) λh1=>gE [(3,bF h1),(8,bF rfl),(13,bF rfl)] []) λv5=>gR []))
def qn(N:Nat)(v1:aE)(v2:aG):asp Bool:=
 (nY N v1).bind λv3=>
 bif (v3 !=0)then
  some false
 else
  bif (v1.aO==2)then
   (tF N v1 v2).bind λv4=>
   some v4
  else
   bif (v1.aO==3)then
    Option.bind (bif (v2.xD.toInt==1)then (p8 N v2.xN).bind λv5=>
    some v5 else some false) λv6=>
    some v6
   else
    (kr N v2).bind λv7=>
    some v7
theorem BN{N v1 v2}:KO 93 [(bY v1),(a8 v2)] az (qn N v1 v2):=
 fw Tryz.func93 (aq λv3 h1=>gA [[],[(4,cK rl h1)]] (aP λh2=>gA [[f0 h2],[],[]] (au (λh3=>aq λv4 h4=>gR [[t0 h3],[(7,cK Pc h4)]]) λh3=>gA [[f0 h3],[]] (au (λh5=>gA [[t0 h5]] (gG (λv6=>[(4,(az v6))]) (λ_=>[.cells (bY v1).cells, .cells (a8 v2).cells]) (au (λh6=>aq λv5 h7=>gE [(3,bT h6)] [(19,cK Cf h7)]) λh6=>gE [(3,bF h6)] []) λv6=>gR [])) λh5=>aq λv7 h9=>gR [[f0 h5],[(4,cK m6 h9)]]))))
def RV(N:Nat)(v1:an):asp an:=some v1
theorem ael{N v1 r}(J:RV N v1=some r):gD Tryz.prog 94 [(aA v1)] (·=(.fn 139 [(.bP [dd r] 0 0)])):=by
 cases J;exact ajD v1
def iK(N:Nat)(v2:Bool):asp Bool:=
 bif v2 then
  some true
 else
  some false
def Il(N:Nat)(v1:aso):asp Bool:=
 bif (bL v1==bL (bs [115,105,122,101]))then
  iK N (bL v1==bL (bs [115,105,122,101]))
 else
  bif (bL v1==bL (bs [119,104,101,114,101]))then
   iK N (bL v1==bL (bs [119,104,101,114,101]))
  else
   bif (bL v1==bL (bs [105,110]))then
    iK N (bL v1==bL (bs [105,110]))
   else
    bif (bL v1==bL (bs [100,101,102]))then
     iK N (bL v1==bL (bs [100,101,102]))
    else
     bif (bL v1==bL (bs [111,117,116]))then
      iK N (bL v1==bL (bs [111,117,116]))
     else
      bif (bL v1==bL (bs [115,117,109]))then
       iK N (bL v1==bL (bs [115,117,109]))
      else
       bif (bL v1==bL (bs [112,114,111,100]))then
        iK N (bL v1==bL (bs [112,114,111,100]))
       else
        bif (bL v1==bL (bs [109,105,110]))then
         iK N (bL v1==bL (bs [109,105,110]))
        else
         bif (bL v1==bL (bs [109,97,120]))then
          iK N (bL v1==bL (bs [109,97,120]))
         else
          bif (bL v1==bL (bs [115,99,97,110]))then
           iK N (bL v1==bL (bs [115,99,97,110]))
          else
           bif (bL v1==bL (bs [111,118,101,114]))then
            iK N (bL v1==bL (bs [111,118,101,114]))
           else
            bif (bL v1==bL (bs [105,102]))then
             iK N (bL v1==bL (bs [105,102]))
            else
             bif (bL v1==bL (bs [99,97,115,116]))then
              iK N (bL v1==bL (bs [99,97,115,116]))
             else
              bif (bL v1==bL (bs [102,114,97,99]))then
               iK N (bL v1==bL (bs [102,114,97,99]))
              else
               bif (bL v1==bL (bs [105,110,116]))then
                iK N (bL v1==bL (bs [105,110,116]))
               else
                bif (bL v1==bL (bs [102,105,120]))then
                 iK N (bL v1==bL (bs [102,105,120]))
                else
                 bif (bL v1==bL (bs [99,101,105,108]))then
                  iK N (bL v1==bL (bs [99,101,105,108]))
                 else
                  bif (bL v1==bL (bs [102,108,111,111,114]))then
                   iK N (bL v1==bL (bs [102,108,111,111,114]))
                  else
                   bif (bL v1==bL (bs [122,101,114,111]))then
                    iK N (bL v1==bL (bs [122,101,114,111]))
                   else
                    bif (bL v1==bL (bs [101,118,101,110]))then
                     iK N (bL v1==bL (bs [101,118,101,110]))
                    else
                     bif (bL v1==bL (bs [115,97,116]))then
                      iK N (bL v1==bL (bs [115,97,116]))
                     else
                      iK N (bL v1==bL (bs [119,114,97,112]))
theorem aqh{N v1}:KO 191 [(bq v1)] az (Il N v1):=
 fw Tryz.func191 (ir 1 [[],[],[]] [4] 0 (λ(v2:Bool)=>⟨27,[(4,(az v2))],[]⟩) (iK N) (λf1 aD=>au (λh2=>gm aD (bL v1==bL (bs [115,105,122,101])) [[t0 h2]]) λh2=>gA [[f0 h2],[]] (au (λh3=>gm aD (bL v1==bL (bs [119,104,101,114,101])) [[t0 h3]]) λh3=>gA [[f0 h3],[]] (au (λh4=>gm aD (bL v1==bL (bs [105,110])) [[t0 h4]]) λh4=>gA [[f0 h4],[]] (au (λh5=>gm aD (bL v1==bL (bs [100,101,102])) [[t0 h5]]) λh5=>gA [[f0 h5],[]] (au (λh6=>gm aD (bL v1==bL (bs [111,117,116])) [[t0 h6]]) λh6=>gA [[f0 h6],[]] (au (λh7=>gm aD (bL v1==bL (bs [115,117,109])) [[t0 h7]]) λh7=>gA [[f0 h7],[]] (au (λh8=>gm aD (bL v1==bL (bs [112,114,111,100])) [[t0 h8]]) λh8=>gA [[f0 h8],[]] (au (λh9=>gm aD (bL v1==bL (bs [109,105,110])) [[t0 h9]]) λh9=>gA [[f0 h9],[]] (au (λaK=>gm aD (bL v1==bL (bs [109,97,120])) [[t0 aK]]) λaK=>gA [[f0 aK],[]] (au (λaL=>gm aD (bL v1==bL (bs [115,99,97,110])) [[t0 aL]]) λaL=>gA [[f0 aL],[]] (au (λaT=>gm aD (bL v1==bL (bs [111,118,101,114])) [[t0 aT]]) λaT=>gA [[f0 aT],[]] (au (λbu=>gm aD (bL v1==bL (bs [105,102])) [[t0 bu]]) λbu=>gA [[f0 bu],[]] (au (λbf=>gm aD (bL v1==bL (bs [99,97,115,116])) [[t0 bf]]) λbf=>gA [[f0 bf],[]] (au (λa7=>gm aD (bL v1==bL (bs [102,114,97,99])) [[t0 a7]]) λa7=>gA [[f0 a7],[]] (au (λbm=>gm aD (bL v1==bL (bs [105,110,116])) [[t0 bm]]) λbm=>gA [[f0 bm],[]] (au (λbQ=>gm aD (bL v1==bL (bs [102,105,120])) [[t0 bQ]]) λbQ=>gA [[f0 bQ],[]] (au (λcA=>gm aD (bL v1==bL (bs [99,101,105,108])) [[t0 cA]]) λcA=>gA [[f0 cA],[]] (au (λcv=>gm aD (bL v1==bL (bs [102,108,111,111,114])) [[t0 cv]]) λcv=>gA [[f0 cv],[]] (au (λb8=>gm aD (bL v1==bL (bs [122,101,114,111])) [[t0 b8]]) λb8=>gA [[f0 b8],[]] (au (λcJ=>gm aD (bL v1==bL (bs [101,118,101,110])) [[t0 cJ]]) λcJ=>gA [[f0 cJ],[]] (au (λcS=>gm aD (bL v1==bL (bs [115,97,116])) [[t0 cS]]) λcS=>gm aD (bL v1==bL (bs [119,114,97,112])) [[f0 cS],[]]))))))))))))))))))))) (λv2=>aP λh1=>gR [[f0 h1],[]]))
def Ah(N:Nat)(v1:aso):Nat->Int->asp Bool
 |0,_=>none
 |v5+1,v6=>
  bif (decide (v6<(v1.size:Int)))then
   bif (decide ((0:Int)<=v6))then
   Option.bind (v1[(v6).toNat]?) λv7=>
   Option.bind (bif (decide ((v7.toNat:Int)<97))then(bif (decide ((v7.toNat:Int)<48))then some ((v7.toNat:Int) !=95)else(bif (decide ((v7.toNat:Int)>57))then some ((v7.toNat:Int) !=95)else some false))else(bif (decide ((v7.toNat:Int)>122))then(bif (decide ((v7.toNat:Int)<48))then some ((v7.toNat:Int) !=95)else(bif (decide ((v7.toNat:Int)>57))then some ((v7.toNat:Int) !=95)else some false))else some false)) λv8=>
   bif v8 then
    some false
   else
    (λcD=>Ah N v1 v5 cD) (aI (v6+(1:Int)))
   else none
  else
   some true
def JH(N:Nat)(v1:aso):asp Bool:=
 Option.bind (bif (decide ((v1.size:Int)<1))then some true else(bif (decide ((v1.size:Int)>16))then some true else (Il N v1).bind λv2=>
 (bif v2 then some true else Option.bind (v1[0]?) λv3=>
 (bif (decide ((v3.toNat:Int)<97))then some true else some (decide ((v3.toNat:Int)>122)))))) λv4=>
 bif v4 then
  some false
 else
  Ah N v1 N (0:Int)
theorem agp{N v1}:KO 140 [(bq v1)] az (JH N v1):=
 fw Tryz.func140 (gA [[]] (gG (λv4=>[(26,(az v4))]) (λ_=>[]) (au (λh1=>gE [(3,bT h1),(8,bT rfl),(12,bT rfl),(17,bT rfl)] []) λh1=>aY (3,bF h1) (au (λh2=>gE [(8,bT h2),(12,bT rfl),(17,bT rfl)] []) λh2=>aq λv2 h3=>aY (8,bF h2) (bz (31,cK aqh h3) (au (λh4=>gE [(12,bT h4),(17,bT rfl)] []) λh4=>aq λv3 h5=>aY (12,bF h4) (bz (43,⟨_,_, .ch (i:=0) (by decide) h5⟩) (au (λh6=>gE [(17,bT h6)] []) λh6=>gE [(17,bF h6)] [(58,⟨_,_, .ch (i:=0) (by decide) h5⟩)])))))) λv4=>aP λh8=>M4 1 [[f0 h8],[]] [0,28,29] 0 (λ(v6:Int)=>⟨54,[(0,(bq v1)),(28,(aw (v1.size:Int))),(29,(aw v6))],[]⟩) (Ah N v1) (λv5 v6 f1 aD=>gA [[]] (fp λh9=>cO λaL=>aq λv7 aK=>gA [[t0 h9],[],[(7,⟨_,_, .ch (i:=v6) (of_decide_eq_true aL) aK⟩)]] (gG (λv8=>[(52,(az v8))]) (λ_=>[]) (au (λaT=>aY (2,bT aT) (aY (6,bT rfl) (au (λbu=>gE [(9,bT bu),(14,bT rfl)] [(37,bT bu)]) λbu=>aY (9,bF bu) (bz (37,bF bu) (au (λbf=>gE [(14,bT bf)] []) λbf=>gE [(14,bF bf)] []))))) λaT=>aY (2,bF aT) (au (λa7=>aY (6,bT a7) (au (λbm=>gE [(9,bT bm),(14,bT rfl)] [(37,bT bm)]) λbm=>aY (9,bF bm) (bz (37,bF bm) (au (λbQ=>gE [(14,bT bQ)] []) λbQ=>gE [(14,bF bQ)] [])))) λa7=>gE [(6,bF a7),(9,uN),(14,bF rfl)] [])) λv8=>aP λcv=>zc aD (aI (v6+(1:Int))) [[f0 cv],[]])))))
def HQ(N:Nat)(v1:aH):asn bB->Nat->asp Int
 |[],_=>
  some (0:Int)
 |v4::v5,v2=>
  (JH N v4.aC).bind λv6=>
  Option.bind (bif v6 then(bif (v4.dE.toInt==0)then some true else(bif (decide ((v2:Int)>0))then bif (decide ((0:Int)<=(aI ((v2:Int)-(1:Int)))))then
  Option.bind (v1.xL[((aI ((v2:Int)-(1:Int)))).toNat]?) λv7=>
  some (!(Op.bytesLess (bL v7.aC) (bL v4.aC)))
  else none else some false))else some true) λv8=>
  bif v8 then
   some (1:Int)
  else
   (HQ N v1 v5 (v2+1))
def uu(N:Nat)(v1:aH):asp Int:=
 HQ N v1 v1.xL 0
theorem z6{N v1}:KO 95 [(bZ v1)] aw (uu N v1):=
 fw Tryz.func95 (gA [[],[(7,oL v1.xL dL)]] (gT mV 6 v1.xL λh2=>dO 1 [] [1,6,7,8] 1 (λv2=>⟨39,[(1,(.ptr 0 0)),(6,(.d (.sl (cz v1.xL)))),(7,(aw (v1.xL.length:Int))),(8,(aw (v2:Int)))],[.cells (bZ v1).cells]⟩) (λv2 h3 f1=>gR [[],[f0 (b5 h3)],[]]) (λv2 v4 v5 h3 f1 aD=>gA [[],[t0 (bU h3)],[(4,oE (ga (ba h3)))]] (aq λv6 h4=>gG (λv8=>[(37,(az v8))]) (λ_=>[.cells (bZ v1).cells, .cells (NI v4).cells]) (bz (7,cK agp h4) (au (λh5=>aY (4,bF (bV h5)) (au (λh6=>gE [(9,bT h6),(12,uN)] []) λh6=>aY (9,bF h6) (au (λh7=>cO λh9=>aq λv7 h8=>gE [(12,bT h7)] [(52,⟨_,_, .el (xs:=cz v1.xL) (i:=(aI ((v2:Int)-(1:Int)))) (of_decide_eq_true h9) (ga h8)⟩),(70,bT h7)]) λh7=>gE [(12,bF h7)] [(70,bF h7)]))) λh5=>gE [(4,bT (cx h5)),(9,bT rfl),(12,uN)] [])) λv8=>aP λaL=>gb aD () [[f0 aL],[(2,oq (ca h3 rfl h2))]] h3))))
def vw(N:Nat):asn aH->asp Int
 |[]=>
  some (0:Int)
 |v9::v10=>
  (uu N v9).bind λv11=>
  bif (v11 !=0)then
   some (1:Int)
  else
   (vw N v10)
def Ef(N:Nat)(v1:an):asp Int:=
 (M9 N v1).bind λv2=>
 bif v2 then
  (Mt N v1).bind λv3=>
  bif v3 then
   (Mz N v1).bind λv4=>
   bif v4 then
    (Lj N v1).bind λv5=>
    bif v5 then
     Option.bind (bif (v1.ar==1)then (qn N v1.ay v1.bD).bind λv6=>
     some (!v6)else some false) λv7=>
     bif v7 then
      some (1:Int)
     else
      (RV N v1).bind λv8=>
      vw N (o8 v8)
    else
     some (10:Int)
   else
    some (11:Int)
  else
   some (7:Int)
 else
  some (5:Int)
def l0(v1:an)(l:asn ao):asn ao:= .cells (aA v1).cells:: .cells [(aw (0:Int))]::l
def yH(v1:an)(l:asn ao):asn ao:= .cells (aA v1).cells::l
theorem aq9{N v1 r}(J:Ef N v1=some r):KF 59 [(aA v1)] (aw r):=by
 rw[Ef]at J;refine xU Tryz.func59 rfl (by kernel_rfl) ?_;refine kj [0] 0 (arJ _) (s':=⟨38,[(0,(aA v1))],[]⟩) (by kernel_rfl) ?_;refine bk ?_;refine rg [] [(1,(.ptr 0 0)),(2,(.ptr 1 0))] (l0 v1 []) (by kernel_rfl) ?_;refine bk ?_;refine gP ?_;refine bk ?_;obtain⟨v2,h1,J⟩:=dC J;refine rg [(4,cK aqS h1)] [(4,(az (!v2)))] (l0 v1 []) (by kernel_rfl) ?_;rcases lL v2 with h2|h2
 ·replace J:=(eR h2).symm.trans J;refine jx (t:=(!v2)) (by kernel_rfl) (bV h2) ?_;refine bk ?_;obtain⟨v3,h3,J⟩:=dC J;refine rg [(4,cK ao1 h3)] [(8,(az (!v3)))] (l0 v1 []) (by kernel_rfl) ?_;rcases lL v3 with h4|h4
  ·replace J:=(eR h4).symm.trans J;refine jx (t:=(!v3)) (by kernel_rfl) (bV h4) ?_;refine bk ?_;obtain⟨v4,h5,J⟩:=dC J;refine rg [(4,cK alp h5)] [(12,(az (!v4)))] (l0 v1 []) (by kernel_rfl) ?_;rcases lL v4 with h6|h6
   ·replace J:=(eR h6).symm.trans J;refine jx (t:=(!v4)) (by kernel_rfl) (bV h6) ?_;refine bk ?_;obtain⟨v5,h7,J⟩:=dC J;refine rg [(4,cK afc h7)] [(16,(az (!v5)))] (l0 v1 []) (by kernel_rfl) ?_;rcases lL v5 with h8|h8
    ·replace J:=(eR h8).symm.trans J;refine jx (t:=(!v5)) (by kernel_rfl) (bV h8) ?_;refine bk ?_;obtain⟨v7,aL,J⟩:=dC J;refine rgE [(20,(az v7))] (l0 v1 []) ?_ ?_
     ·rcases lL (v1.ar==1)with h9|h9
      ·replace aL:=(eR h9).symm.trans aL;obtain⟨v6,aK,aL⟩:=dC aL;have he:=arR aL;subst he;exact⟨[(12,bT h9),(15,bT h9),(18,bT h9),(21,bT h9),(24,bT h9),(25,cK BN aK),(27,bT h9),(31,bT h9)],by kernel_rfl⟩
      replace aL:=(lU h9).symm.trans aL;have he:=arR aL;subst he;exact⟨[(12,bF h9),(15,bF h9),(18,bF h9),(21,bF h9),(24,bF h9),(27,bF h9),(31,bF h9)],by kernel_rfl⟩
     rcases lL v7 with aT|aT
     ·replace J:=(eR aT).symm.trans J;refine jJ (t:=v7) (by kernel_rfl) aT ?_;refine bk ?_;refine rg [] [] (yH v1 [.cells [(aw (1:Int))]]) (by kernel_rfl) ?_;refine eG (gW (fV ?_));have hr:=arR J;subst hr;exact ky (by kernel_rfl)
     replace J:=(lU aT).symm.trans J;refine jx (t:=v7) (by kernel_rfl) aT ?_;refine fU ?_;refine lC ?_;refine cy ?_;refine bk ?_;refine bk ?_;obtain⟨v8,bu,J⟩:=dC J;refine rg [(4,cL (ael bu))] [(33,(.fn 139 [(.bP [dd v8] 0 0)]))] (l0 v1 []) (by kernel_rfl) ?_;refine gP ?_;refine kj [2,33] 2 (arG rfl) (s':=⟨38,[(2,(.ptr 1 0)),(33,(.fn 139 [(.bP [dd v8] 0 0)]))],(l0 v1 [])⟩) (by kernel_rfl) ?_;refine UE (m:=2) (enc:=bZ) (xs:=(o8 v8)) (by kernel_rfl) (aeV v8) (λ(_:Unit)=>(l0 v1 [])) (λ(_:Unit) l=>vw N l=some r) () (by kernel_rfl) J (by rintro _;rfl) (by rintro _;kernel_rfl) (by kernel_rfl) rfl ?_ ?_
     ·rintro _ v9 v10 J bf ke j8
      try dsimp only at J
      rw[vw]at J;refine kj [2,34] 3 (arJ _) (s':=⟨38,[(2,(.ptr 1 0)),(34,(bZ v9))],(l0 v1 [.lp .ready 34 ke j8 (ee 38 [(2,(.ptr 1 0)),(33,(.fn 139 [(.bP [dd v8] 0 0)]))])])⟩) (by kernel_rfl) ?_;refine re [] [(3,(.ptr 3 0))] (l0 v1 [.lp .ready 34 ke j8 (ee 38 [(2,(.ptr 1 0)),(33,(.fn 139 [(.bP [dd v8] 0 0)]))]), .cells (bZ v9).cells]) (by kernel_rfl) ?_;refine cy ?_;refine⟨(l0 v1 []),[.cells (bZ v9).cells],rfl,(by kernel_rfl),?_⟩;refine kj [2,3] 4 (arG rfl) (s':=⟨38,[(2,(.ptr 1 0)),(3,(.ptr 3 0))],(l0 v1 [.lp .busy 34 ke j8 (ee 38 [(2,(.ptr 1 0)),(33,(.fn 139 [(.bP [dd v8] 0 0)]))]), .cells (bZ v9).cells])⟩) (by kernel_rfl) ?_;refine gP ?_;refine bk ?_;obtain⟨v11,a7,J⟩:=dC J;refine rg [(4,cK z6 a7)] [(37,(az (v11 !=0)))] (l0 v1 [.lp .busy 34 ke j8 (ee 38 [(2,(.ptr 1 0)),(33,(.fn 139 [(.bP [dd v8] 0 0)]))]), .cells (bZ v9).cells]) (by kernel_rfl) ?_;rcases lL (v11 !=0)with bm|bm
      ·replace J:=(eR bm).symm.trans J;refine jJ (t:=(v11 !=0)) (by kernel_rfl) bm ?_;refine bk ?_;refine rg [] [] (yH v1 [.cells [(aw (1:Int))], .lp .busy 34 ke j8 (ee 38 [(2,(.ptr 1 0)),(33,(.fn 139 [(.bP [dd v8] 0 0)]))]), .cells (bZ v9).cells]) (by kernel_rfl) ?_;refine eG (gW ?_);refine aaw (yH v1 [.cells [(aw (1:Int))]]) rfl (by kernel_rfl) (by kernel_rfl) ?_;refine(gW (fV ?_));have hr:=arR J;subst hr;exact ky (by kernel_rfl)
      replace J:=(lU bm).symm.trans J;refine jx (t:=(v11 !=0)) (by kernel_rfl) bm ?_;refine fU ?_;refine lC ?_;refine Ua (l0 v1 []) rfl (by kernel_rfl) (by kernel_rfl) ?_;exact⟨(),(by kernel_rfl),J⟩
     rintro _ J
     try dsimp only at J
     rw[vw]at J;refine lC ?_;refine cy ?_;refine bk ?_;refine rg [] [] (l0 v1 [.gone]) (by kernel_rfl) ?_;refine eG ?_;have hr:=arR J;subst hr;exact ky (by kernel_rfl)
    replace J:=(lU h8).symm.trans J;refine jJ (t:=(!v5)) (by kernel_rfl) (cx h8) ?_;refine bk ?_;refine rg [] [] (yH v1 [.cells [(aw (10:Int))]]) (by kernel_rfl) ?_;refine eG (gW (fV ?_));have hr:=arR J;subst hr;exact ky (by kernel_rfl)
   replace J:=(lU h6).symm.trans J;refine jJ (t:=(!v4)) (by kernel_rfl) (cx h6) ?_;refine bk ?_;refine rg [] [] (yH v1 [.cells [(aw (11:Int))]]) (by kernel_rfl) ?_;refine eG (gW (fV ?_));have hr:=arR J;subst hr;exact ky (by kernel_rfl)
  replace J:=(lU h4).symm.trans J;refine jJ (t:=(!v3)) (by kernel_rfl) (cx h4) ?_;refine bk ?_;refine rg [] [] (yH v1 [.cells [(aw (7:Int))]]) (by kernel_rfl) ?_;refine eG (gW (fV ?_));have hr:=arR J;subst hr;exact ky (by kernel_rfl)
 replace J:=(lU h2).symm.trans J;refine jJ (t:=(!v2)) (by kernel_rfl) (cx h2) ?_;refine bk ?_;refine rg [] [] (yH v1 [.cells [(aw (5:Int))]]) (by kernel_rfl) ?_;refine eG (gW (fV ?_));have hr:=arR J;subst hr;exact ky (by kernel_rfl)
def xq(N:Nat):asn an->asp Int
 |[]=>
  some (0:Int)
 |v5::v6=>
  (Ef N v5).bind λv7=>
  bif (v7 !=0)then
   some v7
  else
   (xq N v6)
def A4(N:Nat)(v1:an):asp Int:=
 (TM N v1).bind λv2=>
 bif (decide (v2>40))then
  some (13:Int)
 else
  (FL N v1).bind λv3=>
  bif (decide (v3>2000))then
   some (2:Int)
  else
   (Nu N v1).bind λv4=>
   xq N (cW v4)
def ou(v1:an)(l:asn ao):asn ao:= .cells (aA v1).cells:: .cells [(aw (0:Int))]::l
def Uh(v1:an)(ke:Code)(j8:Code)(v4:an)(v5:an)(l:asn ao):asn ao:=ou v1 (.lp .busy 13 ke j8 (ee 19 [(2,(.ptr 1 0)),(12,(.fn 87 [(.bP [dd v4] 0 0)]))]):: .cells (aA v5).cells::l)
def FN(v1:an)(l:asn ao):asn ao:= .cells (aA v1).cells::l
theorem aam{N v1 r}(J:A4 N v1=some r):KF 28 [(aA v1)] (aw r):=by
 rw[A4]at J;refine xU Tryz.func28 rfl (by kernel_rfl) ?_;refine kj [0] 0 (arJ _) (s':=⟨19,[(0,(aA v1))],[]⟩) (by kernel_rfl) ?_;refine bk ?_;refine rg [] [(1,(.ptr 0 0)),(2,(.ptr 1 0))] (ou v1 []) (by kernel_rfl) ?_;refine bk ?_;refine bk ?_;obtain⟨v2,h1,J⟩:=dC J;refine rg [(4,cK ahs h1)] [(7,(az (decide (v2>40))))] (ou v1 []) (by kernel_rfl) ?_;rcases lL (decide (v2>40))with h2|h2
 ·replace J:=(eR h2).symm.trans J;refine jJ (t:=(decide (v2>40))) (by kernel_rfl) h2 ?_;refine bk ?_;refine rg [] [] (FN v1 [.cells [(aw (13:Int))]]) (by kernel_rfl) ?_;refine eG (fV ?_);have hr:=arR J;subst hr;exact ky (by kernel_rfl)
 replace J:=(lU h2).symm.trans J;refine jx (t:=(decide (v2>40))) (by kernel_rfl) h2 ?_;refine fU ?_;refine cy ?_;refine bk ?_;refine bk ?_;obtain⟨v3,h3,J⟩:=dC J;refine rg [(4,cL (amp h3))] [(10,(az (decide (v3>2000))))] (ou v1 []) (by kernel_rfl) ?_;rcases lL (decide (v3>2000))with h4|h4
 ·replace J:=(eR h4).symm.trans J;refine jJ (t:=(decide (v3>2000))) (by kernel_rfl) h4 ?_;refine bk ?_;refine rg [] [] (FN v1 [.cells [(aw (2:Int))]]) (by kernel_rfl) ?_;refine eG (fV ?_);have hr:=arR J;subst hr;exact ky (by kernel_rfl)
 replace J:=(lU h4).symm.trans J;refine jx (t:=(decide (v3>2000))) (by kernel_rfl) h4 ?_;refine fU ?_;refine cy ?_;refine bk ?_;refine bk ?_;obtain⟨v4,h5,J⟩:=dC J;refine rg [(4,cL (ac9 h5))] [(12,(.fn 87 [(.bP [dd v4] 0 0)]))] (ou v1 []) (by kernel_rfl) ?_;refine gP ?_;refine kj [2,12] 2 (arG rfl) (s':=⟨19,[(2,(.ptr 1 0)),(12,(.fn 87 [(.bP [dd v4] 0 0)]))],(ou v1 [])⟩) (by kernel_rfl) ?_;refine UE (m:=2) (enc:=aA) (xs:=(cW v4)) (by kernel_rfl) (XZ v4) (λ(_:Unit)=>(ou v1 [])) (λ(_:Unit) l=>xq N l=some r) () (by kernel_rfl) J (by rintro _;rfl) (by rintro _;kernel_rfl) (by kernel_rfl) rfl ?_ ?_
 ·rintro _ v5 v6 J h6 ke j8
  try dsimp only at J
  rw[xq]at J;refine kj [2,13] 3 (arJ _) (s':=⟨19,[(2,(.ptr 1 0)),(13,(aA v5))],(ou v1 [.lp .ready 13 ke j8 (ee 19 [(2,(.ptr 1 0)),(12,(.fn 87 [(.bP [dd v4] 0 0)]))])])⟩) (by kernel_rfl) ?_;refine re [] [(3,(.ptr 3 0))] (ou v1 [.lp .ready 13 ke j8 (ee 19 [(2,(.ptr 1 0)),(12,(.fn 87 [(.bP [dd v4] 0 0)]))]), .cells (aA v5).cells]) (by kernel_rfl) ?_;refine cy ?_;refine⟨(ou v1 []),(FN v5 []),rfl,(by kernel_rfl),?_⟩;refine kj [2,3] 4 (arG rfl) (s':=⟨19,[(2,(.ptr 1 0)),(3,(.ptr 3 0))],(Uh v1 ke j8 v4 v5 [])⟩) (by kernel_rfl) ?_;refine gP ?_;refine bk ?_;obtain⟨v7,h7,J⟩:=dC J;refine rg [(4,cL (aq9 h7))] [(4,(aw v7))] (Uh v1 ke j8 v4 v5 []) (by kernel_rfl) ?_;refine bk ?_;refine rg [] [(17,(az (v7 !=0)))] (Uh v1 ke j8 v4 v5 []) (by kernel_rfl) ?_;rcases lL (v7 !=0)with h8|h8
  ·replace J:=(eR h8).symm.trans J;refine jJ (t:=(v7 !=0)) (by kernel_rfl) h8 ?_;refine bk ?_;refine rg [] [] (FN v1 [.cells [(aw v7)], .lp .busy 13 ke j8 (ee 19 [(2,(.ptr 1 0)),(12,(.fn 87 [(.bP [dd v4] 0 0)]))]), .cells (aA v5).cells]) (by kernel_rfl) ?_;refine eG (gW ?_);refine aaw (FN v1 [.cells [(aw v7)]]) rfl (by kernel_rfl) (by kernel_rfl) ?_;refine(gW (fV ?_));have hr:=arR J;subst hr;exact ky (by kernel_rfl)
  replace J:=(lU h8).symm.trans J;refine jx (t:=(v7 !=0)) (by kernel_rfl) h8 ?_;refine fU ?_;refine lC ?_;refine Ua (ou v1 []) rfl (by kernel_rfl) (by kernel_rfl) ?_;exact⟨(),(by kernel_rfl),J⟩
 rintro _ J
 try dsimp only at J
 rw[xq]at J;refine lC ?_;refine cy ?_;refine bk ?_;refine rg [] [] (ou v1 [.gone]) (by kernel_rfl) ?_;refine eG ?_;have hr:=arR J;subst hr;exact ky (by kernel_rfl)
def DP(N:Nat)(v1:asn bB):asp (asn bB):=bif Nat.ble (v1.length*24) 140737488355328 then some v1 else none
theorem Wz{N v1 r}(J:DP N v1=some r):gD Tryz.prog 62 [(.d (.sl (cz v1)))] (·=(.d (.sl (cz r)))):=by
 obtain⟨hb,rfl⟩:=dT J;have hc:=nv hb (by decide);exact ahI Cr (by rw[dL];exact hc.1) (by rw[dL];exact hc.2)
def BF(N:Nat)(v1:aH):asp (aH×Int):=
 (DP N v1.xL).bind λv2=>
 some ((⟨v1.xK,v2⟩:aH),(0:Int))
theorem Oc{N v1}:KO 61 [(bZ v1)] (λr=> .aX [(bZ r.1),(aw r.2)]) (BF N v1):=
 fw Tryz.func61 (aq λv2 h1=>gR [[],[(13,cL (Wz h1))]])
def Oa(N:Nat)(v1:asn aZ):asp (asn aZ):=bif Nat.ble (v1.length*72) 140737488355328 then some v1 else none
theorem afk{N v1 r}(J:Oa N v1=some r):cG Tryz.prog 96 [(.d (.sl (cU v1)))] [] λr1 h1=>r1=(.vec 0 0 r.length r.length 4)/\h1=[.vec 59 4 (bn (r.map fZ))]:=by
 obtain⟨hb,rfl⟩:=dT J;have hc:=nv hb (by decide);have h1:=alw (xs:=cU v1) Vc (by rw[eD];exact hc.1) (by rw[eD];exact hc.2);have h2:bn (v1.map fZ)=bn (cU v1):=by rw[sb]
 have h3:=eD (l:=v1);rw[h3]at h1;rw[h2];exact h1
def OG(N:Nat)(v1:asn aH):asp (asn aH):=bif Nat.ble (v1.length*32) 140737488355328 then some v1 else none
theorem aeZ{N v1 r}(J:OG N v1=some r):cG Tryz.prog 97 [(.d (.sl (dk v1)))] [] λr1 h1=>r1=(.vec 0 0 r.length r.length 2)/\h1=[.vec 36 2 (bn (r.map kQ))]:=by
 obtain⟨hb,rfl⟩:=dT J;have hc:=nv hb (by decide);have h1:=aiC (xs:=dk v1) Wk (by rw[dR];exact hc.1) (by rw[dR];exact hc.2);have h2:bn (v1.map kQ)=bn (dk v1):=by rw[tJ]
 have h3:=dR (l:=v1);rw[h3]at h1;rw[h2];exact h1
def OZ(N:Nat)(v1:asn an):asp (asn an):=bif Nat.ble (v1.length*160) 140737488355328 then some v1 else none
theorem afH{N v1 r}(J:OZ N v1=some r):cG Tryz.prog 98 [(.d (.sl (dn v1)))] [] λr1 h1=>r1=(.vec 0 0 r.length r.length 13)/\h1=[.vec 51 13 (bn (r.map dd))]:=by
 obtain⟨hb,rfl⟩:=dT J;have hc:=nv hb (by decide);have h1:=ak1 (xs:=dn v1) Jc (by rw[dZ];exact hc.1) (by rw[dZ];exact hc.2);have h2:bn (v1.map dd)=bn (dn v1):=by rw[gh]
 have h3:=dZ (l:=v1);rw[h3]at h1;rw[h2];exact h1
end Go.Proofs.YtdchibpnjpnkoaaGreatDoor
