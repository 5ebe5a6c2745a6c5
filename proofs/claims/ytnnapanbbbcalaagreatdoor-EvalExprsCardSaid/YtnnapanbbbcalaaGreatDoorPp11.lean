/-
  Part 11 of the proof: PE1, PE2, PE3.
-/
import Derived.Test.YtnnapanbbbcalaaGreatDoorPp10
namespace Go.Proofs.YtnnapanbbbcalaaGreatDoor
open Go.RowKit
set_option maxRecDepth 100000
set_option maxHeartbeats 0
set_option linter.unusedVariables false
theorem k01{α β γ:Type}{a:Option α}{b:α->Option β}{f:α->β->Option γ}{r:γ}(h:Option.bind a (λx=>Option.bind (b x) (f x))=some r):∃x,a=some x/\∃y,b x=some y/\f x y=some r:=have⟨x,p,h⟩:=bm h;have⟨y,q,h⟩:=bm h;⟨x,p,y,q,h⟩
def fI(v:dh)(r:amT AV):amT AV:=(.d (.sl (ee v.gN)))::(.d (.sl (oH v.mF)))::(.d (.sl (kT v.fz)))::(.d (.sl (jd v.gz)))::(.d (.sl (ee v.kh)))::r
def Jl(N:Nat)(v1:amT aO):amT aO->Nat->amV Bool
 |[],_=>
  some (decide ((v1.length:Int)<=30))
 |v4::v5,v2=>
  Option.bind (bif (decide ((v4.bo.size:Int)>100))then some true else(bif (decide ((v4.gM.bS.length:Int)>20))then some true else some (decide ((v4.gM.dI.length:Int)>4200)))) λv6=>
  bif v6 then
   some false
  else
   (Jl N v1 v5 (v2+1))
def OX(N:Nat)(v1:amT aO):amV Bool:=
 Jl N v1 v1 0
theorem agZ{N v1}:KO 8 [(.d (.sl (aX v1)))] az (OX N v1):=
 fw Tryz.func8 (gA [[],[]] (gT yo 0 v1 λh2=>e7 1 [] [0,3] 0 (λv2=>⟨40,[(0,(.d (.sl (aX v1)))),(3,(ar (v2:Int)))],[]⟩) (λv2 h3 f1=>gR [[(7,oL v1 ub)],[f0 (cf h3)],[(4,oL v1 ub)]]) (λv2 v4 v5 h3 f1 aJ=>gA [[(7,oL v1 ub)],[t0 (bZ h3)]] (gG (λv6=>[(36,(az v6))]) (λ_=>[]) (dc (7,oE (uD (bM h3))) (ax (λh4=>gE [(7,bT h4),(17,bT rfl)] []) λh4=>cd (7,bF h4) (dc (31,oE (uD (bM h3))) (dc (43,oL v4.gM.bS fy) (ax (λh5=>gE [(17,bT h5)] []) λh5=>gE [(17,bF h5)] [(61,oE (uD (bM h3))),(73,oL v4.gM.dI kp)]))))) λv6=>bn λh7=>gb aJ () [[f0 h7],[(5,oq (cC h3 rfl h2))]] h3))))
def HE(N:Nat)(v1:amT aV)(v2:Int):amT aV->Nat->amV Bool
 |[],_=>
  some (decide ((v1.length:Int)<=v2))
 |v5::v6,v3=>
  bif (decide ((v5.bo.size:Int)>100))then
   some false
  else
   (HE N v1 v2 v6 (v3+1))
def MT(N:Nat)(v1:amT aV)(v2:Int):amV Bool:=
 HE N v1 v2 v1 0
theorem ait{N v1 v2}:KO 14 [(.d (.sl (aS v1))),(ar v2)] az (MT N v1 v2):=
 fw Tryz.func14 (gA [[],[]] (gT zc 0 v1 λh2=>e7 1 [] [0,1,5] 0 (λv3=>⟨23,[(0,(.d (.sl (aS v1)))),(1,(ar v2)),(5,(ar (v3:Int)))],[]⟩) (λv3 h3 f1=>gR [[(7,oL v1 rX)],[f0 (cf h3)],[(4,oL v1 rX)]]) (λv3 v5 v6 h3 f1 aJ=>gA [[(7,oL v1 rX)],[t0 (bZ h3)],[(7,oE (uP (bM h3)))]] (bn λh4=>gb aJ () [[f0 h4],[(5,oq (cC h3 rfl h2))]] h3))))
def wT(N:Nat)(v2:Int)(sA:ay->Int->amV Int):amT ay->Nat->Int->amV Int
 |[],_,v12=>
  some v12
 |v10::v11,v8,v12=>
  bif (decide (v12<=v2))then
   Option.bind (sA v10 (aE (v2-v12))) λaF=>
   (λiv=>wT N v2 sA v11 (v8+1) iv) (aE (v12+aF))
  else
   some v12
def GS(N:Nat)(kN:Int->amV Int)(v2:Int):amT cn->Nat->Int->amV Int
 |[],_,bI=>
  kN bI
 |bx::cy,aI,bI=>
  bif (decide (bI<=v2))then
   (λxo=>GS N kN v2 cy (aI+1) xo) (aE (bI+(bx.xL.length:Int)))
  else
   kN bI
def AL(N:Nat)(v2:Int)(sA:ay->Int->amV Int):amT ay->Nat->Int->amV Int
 |[],_,dW=>
  some dW
 |v21::fS,cF,dW=>
  bif (decide (dW<=v2))then
   Option.bind (sA v21 (aE (v2-dW))) λv24=>
   (λKt=>AL N v2 sA fS (cF+1) Kt) (aE (dW+v24))
  else
   some dW
def yc(N:Nat)(v2:Int)(sA:ay->Int->amV Int)(v1:ay):amT cY->Nat->Int->amV Int
 |[],_,v7=>
  wT N v2 sA v1.bD 0 v7
 |v5::v6,v3,v7=>
  bif (decide (v7<=v2))then
   GS N (λcu=>yc N v2 sA v1 v6 (v3+1) cu) v2 v5.cO 0 (aE ((aE (v7+(v5.cm.xL.length:Int)))+(v5.cO.length:Int)))
  else
   AL N v2 sA v1.bD 0 v7
def uT(N:Nat):Nat->ay->Int->amV Int
 |0,_,_=>none
 |d+1,v1,v2=>
  yc N v2 (uT N d) v1 v1.xIdx 0 (aE ((aE ((1:Int)+(v1.cm.xL.length:Int)))+(v1.xIdx.length:Int)))
def Mf(N:Nat)(v1:ay)(v2:Int):amV Int:=uT N N v1 v2
theorem afH(N:Nat):∀d:Nat,(∀{v1:ay}{v2:Int},KO 37 [(aD v1),(ar v2)] ar (uT N d v1 v2)):=by
 intro d
 induction d with
 |zero=>intro v1 v2 r J;rw[uT]at J;cases J
 |succ d ih=>
  have Vl:= @ih;intro v1 v2;rw[uT];exact fw Tryz.func37 (gA [[],[(10,oL v1.cm.xL lq),(22,oL v1.xIdx fF)],[]] (gB pI 0 11 v1.xIdx λh2=>gd 1 [] [1,2,5,6] 1 (λv3(v7:Int)=>⟨101,[(1,(ar v2)),(2,(.ptr 0 0)),(5,(ar v7)),(6,(ar (v3:Int)))],[.cells (aD v1).cells]⟩) (λv3 v7 h3 f1=>gA [[(10,oL v1.xIdx fF),(18,bF (cf h3)),(21,bF (cf h3)),(24,bF (cf h3)),(28,bF (cf h3))],[(0,bF rfl)],[]] (gB qx 0 12 v1.bD λh5=>gd 2 [] [1,2,5,8] 1 (λv8(v12:Int)=>⟨101,[(1,(ar v2)),(2,(.ptr 0 0)),(5,(ar v12)),(8,(ar (v8:Int)))],[.cells (aD v1).cells]⟩) (λv8 v12 h6 f2=>gR [[(10,oL v1.bD jr),(18,bF (cf h6)),(21,bF (cf h6)),(24,bF (cf h6)),(28,bF (cf h6))],[(0,bF rfl)],[]]) (λv8 v10 v11 v12 h6 f2 eK=>gA [[(10,oL v1.bD jr),(18,bT (bZ h6)),(21,bT (bZ h6)),(24,bT (bZ h6)),(28,bT (bZ h6))]] (jL λh7=>aw λaF h8=>gb eK (aE (v12+aF)) [[(0,bT h7)],[(13,oE (gY (bM h6))),(28,cK Vl h8)],[(5,oq (cC h6 rfl h5))]] h6)))) (λv3 v5 v6 v7 h3 f1 aJ=>gA [[(10,oL v1.xIdx fF),(18,bT (bZ h3)),(21,bT (bZ h3)),(24,bT (bZ h3)),(28,bT (bZ h3))]] (ax (λh9=>gA [[(0,bT h9)],[(13,oE (iB (bM h3))),(25,oL v5.cm.xL lq),(40,oE (iB (bM h3))),(49,oL v5.cO hJ)],[]] (Uc (λ_=>(P9 0 11 (eB v1.xIdx) (by kernel_rfl) ·)) λaW=>have aZ:=wu hJ (R7 (j:=3) (d:= .sl (gg v5.cO)) aW (iB (bM h3)) rfl);gd 3 [] [1,2,5,6,7] 1 (λaI(bI:Int)=>⟨101,[(1,(ar v2)),(2,(.ptr 0 0)),(5,(ar bI)),(6,(ar (v3:Int))),(7,(ar (aI:Int)))],[.cells (aD v1).cells]⟩) (λaI bI bj f3=>gb aJ bI [[(13,oE (iB (bM h3))),(22,oL v5.cO hJ),(30,bF (cf bj)),(33,bF (cf bj)),(36,bF (cf bj)),(40,bF (cf bj))],[(0,bF rfl)],[(5,oq (cC h3 rfl h2))]] h3) (λaI bx cy bI bj f3 m9=>gA [[(13,oE (iB (bM h3))),(22,oL v5.cO hJ),(30,bT (bZ bj)),(33,bT (bZ bj)),(36,bT (bZ bj)),(40,bT (bZ bj))]] (ax (λbC=>gb m9 (aE (bI+(bx.xL.length:Int))) [[(0,bT bC)],[(13,oE (iB (bM h3))),(25,oE (sr (bM bj))),(34,oL bx.xL lq)],[(5,oq (cC bj rfl aZ))]] bj) λbC=>gb aJ bI [[(0,bF bC)],[(5,oq (cC h3 rfl h2))]] h3)))) λh9=>gA [[(0,bF h9)],[]] (gB qx 0 12 v1.bD λbH=>gd 4 [] [1,2,5,8] 1 (λcF(dW:Int)=>⟨101,[(1,(ar v2)),(2,(.ptr 0 0)),(5,(ar dW)),(8,(ar (cF:Int)))],[.cells (aD v1).cells]⟩) (λcF dW bY f4=>gR [[(10,oL v1.bD jr),(18,bF (cf bY)),(21,bF (cf bY)),(24,bF (cf bY)),(28,bF (cf bY))],[(0,bF rfl)],[]]) (λcF v21 fS dW bY f4 mf=>gA [[(10,oL v1.bD jr),(18,bT (bZ bY)),(21,bT (bZ bY)),(24,bT (bZ bY)),(28,bT (bZ bY))]] (jL λc9=>aw λv24 dZ=>gb mf (aE (dW+v24)) [[(0,bT c9)],[(13,oE (gY (bM bY))),(28,cK Vl dZ)],[(5,oq (cC bY rfl bH))]] bY)))))))
theorem aeQ{N v1 v2}:KO 37 [(aD v1),(ar v2)] ar (Mf N v1 v2):=(afH N N)
def I7(N:Nat)(CD:ay->amV Bool):amT ay->Nat->amV Bool
 |[],_=>
  some true
 |v9::v10,v7=>
  (CD v9).bind λv11=>
  bif v11 then
   (I7 N CD v10 (v7+1))
  else
   some false
def BM(N:Nat)(CD:ay->amV Bool)(v1:ay):amT cY->Nat->amV Bool
 |[],_=>
  I7 N CD v1.bD 0
 |v5::v6,v3=>
  bif (decide ((v5.dA.size:Int)>100))then
   some false
  else
   (BM N CD v1 v6 (v3+1))
def xI(N:Nat):Nat->ay->amV Bool
 |0,_=>none
 |d+1,v1=>
  Option.bind (bif (decide ((v1.bo.size:Int)>100))then some true else some (decide ((v1.xIdx.length:Int)>20))) λv2=>
  bif v2 then
   some false
  else
   BM N (xI N d) v1 v1.xIdx 0
def Pe(N:Nat)(v1:ay):amV Bool:=xI N N v1
theorem akB(N:Nat):∀d:Nat,(∀{v1:ay},KO 50 [(aD v1)] az (xI N d v1)):=by
 intro d
 induction d with
 |zero=>intro v1 r J;rw[xI]at J;cases J
 |succ d ih=>
  have ih5:= @ih;intro v1;rw[xI];exact fw Tryz.func50 (gA [[]] (gG (λv2=>[(14,(az v2))]) (λ_=>[.cells (aD v1).cells]) (ax (λh1=>gE [(4,bT h1)] []) λh1=>gE [(4,bF h1)] [(22,oL v1.xIdx fF)]) λv2=>fP λ_=>gB pI 0 11 v1.xIdx λh5=>e7 1 [] [1,3] 1 (λv3=>⟨44,[(1,(.ptr 0 0)),(3,(ar (v3:Int)))],[.cells (aD v1).cells]⟩) (λv3 h6 f1=>gA [[(10,oL v1.xIdx fF)],[(0,bF (cf h6))],[]] (gB qx 0 12 v1.bD λh8=>e7 2 [] [1,4] 1 (λv7=>⟨44,[(1,(.ptr 0 0)),(4,(ar (v7:Int)))],[.cells (aD v1).cells]⟩) (λv7 h9 f2=>gR [[(10,oL v1.bD jr)],[(0,bF (cf h9))],[]]) (λv7 v9 v10 h9 f2 eK=>aw λv11 aW=>gA [[(10,oL v1.bD jr)],[(0,bT (bZ h9))],[(10,oE (gY (bM h9))),(16,cK ih5 aW)]] (fW λaZ=>gb eK () [[(0,bF (cH aZ))],[(5,oq (cC h9 rfl h8))]] h9)))) (λv3 v5 v6 h6 f1 aJ=>gA [[(10,oL v1.xIdx fF)],[(0,bT (bZ h6))],[(10,oE (iB (bM h6)))]] (bn λbj=>gb aJ () [[(0,bF bj)],[(5,oq (cC h6 rfl h5))]] h6))))
theorem ZG{N v1}:KO 50 [(aD v1)] az (Pe N v1):=(akB N N)
def E2(N:Nat)(v1:ay)(v2:Int):amV Bool:=
 (Mf N v1 v2).bind λv3=>
 Option.bind (bif (decide (v3<=v2))then (Pe N v1).bind λv4=>
 some v4 else some false) λv5=>
 some v5
theorem af9{N v1 v2}:KO 25 [(aD v1),(ar v2)] az (E2 N v1 v2):=
 fw Tryz.func25 (gA [[]] (aw λv3 h1=>gG (λv5=>[(4,(az v5))]) (λ_=>[.cells (aD v1).cells]) (dc (7,cK aeQ h1) (ax (λh2=>aw λv4 h3=>gE [(5,bT h2)] [(22,cK ZG h3)]) λh2=>gE [(5,bF h2)] [])) λv5=>gR []))
def UA(N:Nat)(v1:dh):amV Bool:=
 Option.bind (bif (decide ((if(v1.kh.length:Int)>(if(v1.gz.length:Int)>(if(v1.fz.length:Int)>(v1.gN.length:Int)then(v1.fz.length:Int)else(v1.gN.length:Int))then(v1.gz.length:Int)else(if(v1.fz.length:Int)>(v1.gN.length:Int)then(v1.fz.length:Int)else(v1.gN.length:Int)))then(v1.kh.length:Int)else(if(v1.gz.length:Int)>(if(v1.fz.length:Int)>(v1.gN.length:Int)then(v1.fz.length:Int)else(v1.gN.length:Int))then(v1.gz.length:Int)else(if(v1.fz.length:Int)>(v1.gN.length:Int)then(v1.fz.length:Int)else(v1.gN.length:Int))))<=64))then some (decide ((v1.mF.length:Int)<=256))else some false) λv2=>
 some v2
theorem adl{N v1}:KO 105 [(fg v1)] az (UA N v1):=
 fw Tryz.func105 (gA [[]] (gG (λv2=>[(2,(az v2))]) (λ_=>[.cells (fg v1).cells]) (dc (7,oL v1.gN jY) (dc (16,oL v1.fz As) (dc (25,oL v1.gz xx) (dc (34,oL v1.kh jY) (ax (λh1=>gE [(14,bT h1)] [(52,oL v1.mF Ke)]) λh1=>gE [(14,bF h1)] []))))) λv2=>gR []))
def BC(N:Nat)(v1:Int):amV Bool:=
 Option.bind (bif (decide (v1>=97))then some (decide (v1<=122))else some false) λv2=>
 some v2
theorem Zz{N v1}:KO 249 [(.d (.v (.int .i32 v1)))] az (BC N v1):=
 fw Tryz.func249 (gA [[]] (gG (λv2=>[(2,(az v2))]) (λ_=>[]) (ax (λh1=>gE [(2,bT h1)] []) λh1=>gE [(2,bF h1)] []) λv2=>gR []))
def J7(N:Nat)(v1:Int):amV Bool:=
 Option.bind (bif (decide (v1>=48))then some (decide (v1<=57))else some false) λv2=>
 some v2
theorem aiY{N v1}:KO 284 [(.d (.v (.int .i32 v1)))] az (J7 N v1):=
 fw Tryz.func284 (gA [[]] (gG (λv2=>[(2,(az v2))]) (λ_=>[]) (ax (λh1=>gE [(2,bT h1)] []) λh1=>gE [(2,bF h1)] []) λv2=>gR []))
def Ig(N:Nat)(v1:Int):amV Bool:=
 (BC N v1).bind λv2=>
 Option.bind (bif v2 then some true else (J7 N v1).bind λv3=>
 (bif v3 then some true else some (v1==95))) λv4=>
 some v4
theorem ai9{N v1}:KO 251 [(.d (.v (.int .i32 v1)))] az (Ig N v1):=
 fw Tryz.func251 (gA [[]] (aw λv2 h1=>gG (λv4=>[(2,(az v4))]) (λ_=>[]) (dc (4,cK Zz h1) (ax (λh2=>gE [(2,bT h2),(6,bT rfl)] []) λh2=>aw λv3 h3=>cd (2,bF h2) (dc (13,cK aiY h3) (ax (λh4=>gE [(6,bT h4)] []) λh4=>gE [(6,bF h4)] [])))) λv4=>gR []))
def D5(N:Nat)(v1:amU):Nat->Int->amV Int
 |0,_=>none
 |v2+1,v3=>
  Option.bind (bif (decide (v3<(v1.size:Int)))then bif (decide ((0:Int)<=v3))then
  Option.bind (v1[(v3).toNat]?) λv4=>
  Option.bind (Ig N (IntKind.i32.wrap (v4.toNat:Int))) λv5=>
  some v5
  else none else some false) λv6=>
  bif v6 then
   (λcu=>D5 N v1 v2 cu) (aE (v3+(1:Int)))
  else
   some v3
def J9(N:Nat)(v1:amU):amV Int:=
 D5 N v1 N (0:Int)
theorem akq{N v1}:KP 250 [(di v1),(.fn 251 [])] [] ar (λ_=>[]) (J9 N v1):=
 fh 0 Tryz.func250 (Qs 1 [[],[]] [0,1,5] 0 (λ(v3:Int)=>⟨21,[(0,(di v1)),(1,(.fn 251 [])),(5,(ar v3))],[]⟩) (D5 N v1) (λv2 v3 f1 aJ=>gG (λv6=>[(17,(az v6))]) (λ_=>[]) (ax (λh1=>dG λh3=>aw λv4 h2=>aw λv5 h4=>gE [(4,bT h1)] [(25,⟨_,_, .ch (i:=v3) (of_decide_eq_true h3) h2⟩),(31,cK ai9 h4)]) λh1=>gE [(4,bF h1)] []) λv6=>ax (λh6=>AJ aJ (aE (v3+(1:Int))) [[t0 h6],[]]) λh6=>gH [[f0 h6],[]]))
def Qx(N:Nat):amV (amT amU):=some ng
theorem adD{N r}(J:Qx N=some r):ga Tryz.prog 285 [] (·=(.d (.sl (ee r)))):=by
 cases J;exact ajT
def Ie(N:Nat)(v2:amU):amT amU->Nat->amV Int
 |[],_=>
  some (-1:Int)
 |v5::v6,v3=>
  bif (bL v2==bL v5)then
   some (v3:Int)
  else
   (Ie N v2 v6 (v3+1))
def Qi(N:Nat)(v1:amT amU)(v2:amU):amV Int:=
 Ie N v2 v1 0
theorem akb{N v1 v2}:KO 194 [(.d (.sl (ee v1))),(di v2)] ar (Qi N v1 v2):=
 fw Tryz.func194 (gA [[],[(4,oL v1 jY)]] (gT qv 0 v1 λh2=>e7 1 [] [0,1,7,8] 0 (λv3=>⟨19,[(0,(.d (.sl (ee v1)))),(1,(di v2)),(7,(ar (v1.length:Int))),(8,(ar (v3:Int)))],[]⟩) (λv3 h3 f1=>gR [[],[f0 (cf h3)],[]]) (λv3 v5 v6 h3 f1 aJ=>gA [[],[t0 (bZ h3)],[],[(10,oE (qt (bM h3)))]] (bn λh4=>gb aJ () [[f0 h4],[(2,oq (cC h3 rfl h2))]] h3))))
def HF(N:Nat)(v1:amT amU)(v2:amU):amV Bool:=
 (Qi N v1 v2).bind λv3=>
 some (decide (v3>=0))
theorem Tt{N v1 v2}:KO 110 [(.d (.sl (ee v1))),(di v2)] az (HF N v1 v2):=
 fw Tryz.func110 (aw λv3 h1=>gR [[],[(7,cK akb h1)]])
def J8(N:Nat)(v1:amU):amV Bool:=
 (Qx N).bind λv2=>
 (HF N v2 v1).bind λv3=>
 some v3
theorem ac7{N v1}:KO 252 [(di v1)] az (J8 N v1):=
 fw Tryz.func252 (aw λv2 h1=>aw λv3 h2=>gR [[],[(1,cL (adD h1)),(7,cK Tt h2)]])
def wQ(N:Nat)(v1:amU):amV Bool:=
 Option.bind (bif (bL v1==bL (bs []))then some false else(bif (decide ((v1.size:Int)<=16))then Option.bind (v1[0]?) λv2=>
 Option.bind (BC N (IntKind.i32.wrap (v2.toNat:Int))) λv3=>
 (bif v3 then (J9 N v1).bind λv4=>
 (bif (v4==(v1.size:Int))then (J8 N v1).bind λv5=>
 some (!v5)else some false)else some false)else some false)) λv6=>
 some v6
theorem GD{N v1}:KO 186 [(di v1)] az (wQ N v1):=
 fw Tryz.func186 (gA [[]] (gG (λv6=>[(2,(az v6))]) (λ_=>[]) (ax (λh1=>gE [(2,bF (cH h1)),(7,bF rfl),(13,bF rfl),(20,bF rfl)] []) λh1=>cd (2,bT (dj h1)) (ax (λh2=>aw λv2 h3=>aw λv3 h4=>cd (7,bT h2) (dc (28,⟨_,_, .ch (i:=0) (by decide) h3⟩) (dc (34,cK Zz h4) (ax (λh5=>aw λv4 h6=>cd (13,bT h5) (dc (46,oQ [(di v1),(.fn 251 [])] [] [] (akq _ h6)) (ax (λh7=>aw λv5 h8=>gE [(20,bT h7)] [(67,cK ac7 h8)]) λh7=>gE [(20,bF h7)] []))) λh5=>gE [(13,bF h5),(20,bF rfl)] [])))) λh2=>gE [(7,bF h2),(13,bF rfl),(20,bF rfl)] [])) λv6=>gR []))
def F0(N:Nat)(v1:amU)(v2:Int)(v3:dh)(v4:amT (amU×Int)):amV (Int×(amT (amU×Int))):=
 (wQ N v1).bind λv5=>
 bif v5 then
  bif ((iU v4 v1 0) !=0)then
   some ((8:Int),v4)
  else
   bif (Nat.blt v4.length 9223372036854775807)then
   some ((0:Int),((v1,v2)::v4))
   else none
 else
  some ((7:Int),v4)
theorem N3{N v1 v2 v3 v4}:KP 106 [(.ptr 0 0),(di v1),(ar v2)] [.cells (fI v3 [(.mp 1)]), .map (ff v4)] (λr=>ar r.1) (λr=>[.cells (fI v3 [(.mp 1)]), .map (ff r.2)]) (F0 N v1 v2 v3 v4):=
 fh 2 Tryz.func106 (aw λv5 h1=>gA [[],[(4,cK GD h1)]] (ax (λh2=>gA [[f0 (cH h2)],[(17,⟨_,_, .eq (Dd false v4 v1)⟩)]] (ax (λh3=>gH [[t0 h3],[]]) λh3=>dG λh4=>gH [[f0 h3],[(19,⟨_,_, .sd (o:= .none) (PK h4)⟩)],[]])) λh2=>gH [[t0 (dj h2)],[]]))
def iA(N:Nat)(v2:Bool):amV Bool:=
 bif v2 then
  some true
 else
  some false
def Hl(N:Nat)(v1:amU):amV Bool:=
 bif (bL v1==bL (bs [115,105,122,101]))then
  iA N (bL v1==bL (bs [115,105,122,101]))
 else
  bif (bL v1==bL (bs [119,104,101,114,101]))then
   iA N (bL v1==bL (bs [119,104,101,114,101]))
  else
   bif (bL v1==bL (bs [105,110]))then
    iA N (bL v1==bL (bs [105,110]))
   else
    bif (bL v1==bL (bs [100,101,102]))then
     iA N (bL v1==bL (bs [100,101,102]))
    else
     bif (bL v1==bL (bs [111,117,116]))then
      iA N (bL v1==bL (bs [111,117,116]))
     else
      bif (bL v1==bL (bs [115,117,109]))then
       iA N (bL v1==bL (bs [115,117,109]))
      else
       bif (bL v1==bL (bs [112,114,111,100]))then
        iA N (bL v1==bL (bs [112,114,111,100]))
       else
        bif (bL v1==bL (bs [109,105,110]))then
         iA N (bL v1==bL (bs [109,105,110]))
        else
         bif (bL v1==bL (bs [109,97,120]))then
          iA N (bL v1==bL (bs [109,97,120]))
         else
          bif (bL v1==bL (bs [115,99,97,110]))then
           iA N (bL v1==bL (bs [115,99,97,110]))
          else
           bif (bL v1==bL (bs [111,118,101,114]))then
            iA N (bL v1==bL (bs [111,118,101,114]))
           else
            bif (bL v1==bL (bs [105,102]))then
             iA N (bL v1==bL (bs [105,102]))
            else
             bif (bL v1==bL (bs [99,97,115,116]))then
              iA N (bL v1==bL (bs [99,97,115,116]))
             else
              bif (bL v1==bL (bs [102,114,97,99]))then
               iA N (bL v1==bL (bs [102,114,97,99]))
              else
               bif (bL v1==bL (bs [105,110,116]))then
                iA N (bL v1==bL (bs [105,110,116]))
               else
                bif (bL v1==bL (bs [102,105,120]))then
                 iA N (bL v1==bL (bs [102,105,120]))
                else
                 bif (bL v1==bL (bs [99,101,105,108]))then
                  iA N (bL v1==bL (bs [99,101,105,108]))
                 else
                  bif (bL v1==bL (bs [102,108,111,111,114]))then
                   iA N (bL v1==bL (bs [102,108,111,111,114]))
                  else
                   bif (bL v1==bL (bs [122,101,114,111]))then
                    iA N (bL v1==bL (bs [122,101,114,111]))
                   else
                    bif (bL v1==bL (bs [101,118,101,110]))then
                     iA N (bL v1==bL (bs [101,118,101,110]))
                    else
                     bif (bL v1==bL (bs [115,97,116]))then
                      iA N (bL v1==bL (bs [115,97,116]))
                     else
                      iA N (bL v1==bL (bs [119,114,97,112]))
theorem aaO{N v1}:KO 275 [(di v1)] az (Hl N v1):=
 fw Tryz.func275 (kC 1 [[],[],[]] [4] 0 (λ(v2:Bool)=>⟨27,[(4,(az v2))],[]⟩) (iA N) (λf1 aJ=>ax (λh2=>gm aJ (bL v1==bL (bs [115,105,122,101])) [[t0 h2]]) λh2=>gA [[f0 h2],[]] (ax (λh3=>gm aJ (bL v1==bL (bs [119,104,101,114,101])) [[t0 h3]]) λh3=>gA [[f0 h3],[]] (ax (λh4=>gm aJ (bL v1==bL (bs [105,110])) [[t0 h4]]) λh4=>gA [[f0 h4],[]] (ax (λh5=>gm aJ (bL v1==bL (bs [100,101,102])) [[t0 h5]]) λh5=>gA [[f0 h5],[]] (ax (λh6=>gm aJ (bL v1==bL (bs [111,117,116])) [[t0 h6]]) λh6=>gA [[f0 h6],[]] (ax (λh7=>gm aJ (bL v1==bL (bs [115,117,109])) [[t0 h7]]) λh7=>gA [[f0 h7],[]] (ax (λh8=>gm aJ (bL v1==bL (bs [112,114,111,100])) [[t0 h8]]) λh8=>gA [[f0 h8],[]] (ax (λh9=>gm aJ (bL v1==bL (bs [109,105,110])) [[t0 h9]]) λh9=>gA [[f0 h9],[]] (ax (λaW=>gm aJ (bL v1==bL (bs [109,97,120])) [[t0 aW]]) λaW=>gA [[f0 aW],[]] (ax (λaZ=>gm aJ (bL v1==bL (bs [115,99,97,110])) [[t0 aZ]]) λaZ=>gA [[f0 aZ],[]] (ax (λbj=>gm aJ (bL v1==bL (bs [111,118,101,114])) [[t0 bj]]) λbj=>gA [[f0 bj],[]] (ax (λbC=>gm aJ (bL v1==bL (bs [105,102])) [[t0 bC]]) λbC=>gA [[f0 bC],[]] (ax (λbJ=>gm aJ (bL v1==bL (bs [99,97,115,116])) [[t0 bJ]]) λbJ=>gA [[f0 bJ],[]] (ax (λbH=>gm aJ (bL v1==bL (bs [102,114,97,99])) [[t0 bH]]) λbH=>gA [[f0 bH],[]] (ax (λbY=>gm aJ (bL v1==bL (bs [105,110,116])) [[t0 bY]]) λbY=>gA [[f0 bY],[]] (ax (λc9=>gm aJ (bL v1==bL (bs [102,105,120])) [[t0 c9]]) λc9=>gA [[f0 c9],[]] (ax (λdZ=>gm aJ (bL v1==bL (bs [99,101,105,108])) [[t0 dZ]]) λdZ=>gA [[f0 dZ],[]] (ax (λeI=>gm aJ (bL v1==bL (bs [102,108,111,111,114])) [[t0 eI]]) λeI=>gA [[f0 eI],[]] (ax (λdC=>gm aJ (bL v1==bL (bs [122,101,114,111])) [[t0 dC]]) λdC=>gA [[f0 dC],[]] (ax (λfY=>gm aJ (bL v1==bL (bs [101,118,101,110])) [[t0 fY]]) λfY=>gA [[f0 fY],[]] (ax (λh22=>gm aJ (bL v1==bL (bs [115,97,116])) [[t0 h22]]) λh22=>gm aJ (bL v1==bL (bs [119,114,97,112])) [[f0 h22],[]]))))))))))))))))))))) (λv2=>bn λh1=>gR [[f0 h1],[]]))
def zG(N:Nat)(v1:amU):Nat->Int->amV Bool
 |0,_=>none
 |v5+1,v6=>
  bif (decide (v6<(v1.size:Int)))then
   bif (decide ((0:Int)<=v6))then
   Option.bind (v1[(v6).toNat]?) λv7=>
   Option.bind (bif (decide ((v7.toNat:Int)<97))then(bif (decide ((v7.toNat:Int)<48))then some ((v7.toNat:Int) !=95)else(bif (decide ((v7.toNat:Int)>57))then some ((v7.toNat:Int) !=95)else some false))else(bif (decide ((v7.toNat:Int)>122))then(bif (decide ((v7.toNat:Int)<48))then some ((v7.toNat:Int) !=95)else(bif (decide ((v7.toNat:Int)>57))then some ((v7.toNat:Int) !=95)else some false))else some false)) λv8=>
   bif v8 then
    some false
   else
    (λcu=>zG N v1 v5 cu) (aE (v6+(1:Int)))
   else none
  else
   some true
def FH(N:Nat)(v1:amU):amV Bool:=
 Option.bind (bif (decide ((v1.size:Int)<1))then some true else(bif (decide ((v1.size:Int)>16))then some true else (Hl N v1).bind λv2=>
 (bif v2 then some true else Option.bind (v1[0]?) λv3=>
 (bif (decide ((v3.toNat:Int)<97))then some true else some (decide ((v3.toNat:Int)>122)))))) λv4=>
 bif v4 then
  some false
 else
  zG N v1 N (0:Int)
theorem ah3{N v1}:KO 223 [(di v1)] az (FH N v1):=
 fw Tryz.func223 (gA [[]] (gG (λv4=>[(26,(az v4))]) (λ_=>[]) (ax (λh1=>gE [(3,bT h1),(8,bT rfl),(12,bT rfl),(17,bT rfl)] []) λh1=>cd (3,bF h1) (ax (λh2=>gE [(8,bT h2),(12,bT rfl),(17,bT rfl)] []) λh2=>aw λv2 h3=>cd (8,bF h2) (dc (31,cK aaO h3) (ax (λh4=>gE [(12,bT h4),(17,bT rfl)] []) λh4=>aw λv3 h5=>cd (12,bF h4) (dc (43,⟨_,_, .ch (i:=0) (by decide) h5⟩) (ax (λh6=>gE [(17,bT h6)] []) λh6=>gE [(17,bF h6)] [(58,⟨_,_, .ch (i:=0) (by decide) h5⟩)])))))) λv4=>bn λh8=>Qs 1 [[f0 h8],[]] [0,28,29] 0 (λ(v6:Int)=>⟨54,[(0,(di v1)),(28,(ar (v1.size:Int))),(29,(ar v6))],[]⟩) (zG N v1) (λv5 v6 f1 aJ=>gA [[]] (jL λh9=>dG λaZ=>aw λv7 aW=>gA [[t0 h9],[],[(7,⟨_,_, .ch (i:=v6) (of_decide_eq_true aZ) aW⟩)]] (gG (λv8=>[(52,(az v8))]) (λ_=>[]) (ax (λbj=>cd (2,bT bj) (cd (6,bT rfl) (ax (λbC=>gE [(9,bT bC),(14,bT rfl)] [(37,bT bC)]) λbC=>cd (9,bF bC) (dc (37,bF bC) (ax (λbJ=>gE [(14,bT bJ)] []) λbJ=>gE [(14,bF bJ)] []))))) λbj=>cd (2,bF bj) (ax (λbH=>cd (6,bT bH) (ax (λbY=>gE [(9,bT bY),(14,bT rfl)] [(37,bT bY)]) λbY=>cd (9,bF bY) (dc (37,bF bY) (ax (λc9=>gE [(14,bT c9)] []) λc9=>gE [(14,bF c9)] [])))) λbH=>gE [(6,bF bH),(9,uN),(14,bF rfl)] [])) λv8=>bn λeI=>AJ aJ (aE (v6+(1:Int))) [[f0 eI],[]])))))
def GZ(N:Nat)(v1:cn):amT dP->Nat->amV Int
 |[],_=>
  some (0:Int)
 |v4::v5,v2=>
  (FH N v4.bo).bind λv6=>
  Option.bind (bif v6 then(bif (v4.eQ.toInt==0)then some true else(bif (decide ((v2:Int)>0))then bif (decide ((0:Int)<=(aE ((v2:Int)-(1:Int)))))then
  Option.bind (v1.xL[((aE ((v2:Int)-(1:Int)))).toNat]?) λv7=>
  some (!(Op.bytesLess (bL v7.bo) (bL v4.bo)))
  else none else some false))else some true) λv8=>
  bif v8 then
   some (1:Int)
  else
   (GZ N v1 v5 (v2+1))
def yv(N:Nat)(v1:cn):amV Int:=
 GZ N v1 v1.xL 0
theorem Kg{N v1}:KO 135 [(dT v1)] ar (yv N v1):=
 fw Tryz.func135 (gA [[],[(7,oL v1.xL lq)]] (gT Al 6 v1.xL λh2=>e7 1 [] [1,6,7,8] 1 (λv2=>⟨39,[(1,(.ptr 0 0)),(6,(.d (.sl (gq v1.xL)))),(7,(ar (v1.xL.length:Int))),(8,(ar (v2:Int)))],[.cells (dT v1).cells]⟩) (λv2 h3 f1=>gR [[],[f0 (cf h3)],[]]) (λv2 v4 v5 h3 f1 aJ=>gA [[],[t0 (bZ h3)],[(4,oE (nK (bM h3)))]] (aw λv6 h4=>gG (λv8=>[(37,(az v8))]) (λ_=>[.cells (dT v1).cells, .cells (rL v4).cells]) (dc (7,cK ah3 h4) (ax (λh5=>cd (4,bF (cH h5)) (ax (λh6=>gE [(9,bT h6),(12,uN)] []) λh6=>cd (9,bF h6) (ax (λh7=>dG λh9=>aw λv7 h8=>gE [(12,bT h7)] [(52,⟨_,_, .el (xs:=gq v1.xL) (i:=(aE ((v2:Int)-(1:Int)))) (of_decide_eq_true h9) (nK h8)⟩),(70,bT h7)]) λh7=>gE [(12,bF h7)] [(70,bF h7)]))) λh5=>gE [(4,bT (dj h5)),(9,bT rfl),(12,uN)] [])) λv8=>bn λaZ=>gb aJ () [[f0 aZ],[(2,oq (cC h3 rfl h2))]] h3))))
def Ug(N:Nat)(v1:l7):amV Int:=
 (yv N v1.cm).bind λv2=>
 some v2
theorem ad4{N v1}:KO 187 [(w6 v1)] ar (Ug N v1):=
 fw Tryz.func187 (aw λv2 h1=>gR [[],[(7,cK Kg h1)]])
def RQ(N:Nat)(v3:amT (amU×Int)):amT dP->Nat->amV Int
 |[],_=>
  some (0:Int)
 |v7::v8,v5=>
  bif ((iU v3 v7.bo 0) !=1)then
   some (9:Int)
  else
   (RQ N v3 v8 (v5+1))
def Jk(N:Nat)(v1:cn)(v2:dh)(v3:amT (amU×Int)):amV Int:=
 (yv N v1).bind λv4=>
 bif (v4 !=0)then
  some (1:Int)
 else
  RQ N v3 v1.xL 0
theorem O9{N v1 v2 v3}:KP 188 [(.ptr 0 0),(dT v1)] [.cells (fI v2 [(.mp 1)]), .map (ff v3)] ar (λ_=>[.cells (fI v2 [(.mp 1)]), .map (ff v3)]) (Jk N v1 v2 v3):=
 fh 2 Tryz.func188 (aw λv4 h1=>gA [[],[(4,cK Kg h1)]] (ax (λh2=>gH [[t0 h2],[]]) λh2=>gA [[f0 h2],[(7,oL v1.xL lq)]] (gT Al 11 v1.xL λh4=>e7 1 [] [0,11,12,13] 3 (λv5=>⟨26,[(0,(.ptr 0 0)),(11,(.d (.sl (gq v1.xL)))),(12,(ar (v1.xL.length:Int))),(13,(ar (v5:Int)))],[.cells (fI v2 [(.mp 1)]), .map (ff v3), .cells (dT v1).cells]⟩) (λv5 h5 f1=>gH [[],[f0 (cf h5)],[]]) (λv5 v7 v8 h5 f1 aJ=>gA [[],[t0 (bZ h5)],[(1,oE (nK (bM h5)))],[(20,⟨_,_, .eq (Dd false v3 v7.bo)⟩)]] (ax (λh6=>gH [[t0 h6],[]]) λh6=>gb aJ () [[f0 h6],[(2,oq (cC h5 rfl h4))]] h5)))))
def Yb(N:Nat)(v1:l7)(v2:dh)(v3:amT (amU×Int)):amV Int:=
 (Ug N v1).bind λv4=>
 bif (v4 !=0)then
  some (1:Int)
 else
  (Jk N v1.cm v2 v3).bind λv5=>
  some v5
theorem afi{N v1 v2 v3}:KP 107 [(.ptr 0 0),(w6 v1)] [.cells (fI v2 [(.mp 1)]), .map (ff v3)] ar (λ_=>[.cells (fI v2 [(.mp 1)]), .map (ff v3)]) (Yb N v1 v2 v3):=
 fh 2 Tryz.func107 (aw λv4 h1=>gA [[],[(4,cK ad4 h1)]] (ax (λh2=>gH [[t0 h2],[]]) λh2=>aw λv5 h3=>gH [[f0 h2],[(10,oQ [(.ptr 0 0),(dT v1.cm)] [.cells (fI v2 [(.mp 1)]), .map (ff v3), .cells (w6 v1).cells] [0,1] (O9 _ h3))]]))
def La(N:Nat)(v1:aP):amV Bool:=
 some ((v1.bu==v1.bu)&&((v1.bG==0)&&((v1.ck==0)&&((v1.cx==0)&&((v1.cG==0)&&true)))))
theorem ad7{N v1}:KO 199 [(bE v1)] az (La N v1):=
 fw Tryz.func199 (gR [[],[]])
def ta(N:Nat)(v1:aP):amV Int:=
 Option.bind (bif (decide (v1.cx>=1))then(bif (decide (v1.cx<=4))then(bif (v1.cG==1)then some true else some (v1.cG==2))else some false)else some false) λv2=>
 Option.bind (bif (v1.bu !=2)then some true else(bif (decide (v1.bG<2))then some true else(bif (decide (v1.bG>31))then some true else(bif (decide (v1.ck<0))then some true else(bif (decide (v1.ck>30))then some true else some (!v2)))))) λv3=>
 bif v3 then
  some (10:Int)
 else
  some (0:Int)
theorem FI{N v1}:KO 200 [(bE v1)] ar (ta N v1):=
 fw Tryz.func200 (gA [[]] (gG (λv2=>[(3,(az v2))]) (λ_=>[.cells (bE v1).cells]) (ax (λh1=>cd (3,bT h1) (ax (λh2=>cd (8,bT h2) (ax (λh3=>gE [(12,bT h3)] [(49,bT h3)]) λh3=>gE [(12,bF h3)] [(49,bF h3)])) λh2=>gE [(8,bF h2),(12,uN)] [])) λh1=>gE [(3,bF h1),(8,bF rfl),(12,uN)] []) λv2=>gG (λv3=>[(48,(az v3))]) (λ_=>[.cells (bE v1).cells]) (ax (λh5=>gE [(3,bT h5),(8,bT rfl),(13,bT rfl),(18,bT rfl),(23,bT rfl)] []) λh5=>cd (3,bF h5) (ax (λh6=>gE [(8,bT h6),(13,bT rfl),(18,bT rfl),(23,bT rfl)] []) λh6=>cd (8,bF h6) (ax (λh7=>gE [(13,bT h7),(18,bT rfl),(23,bT rfl)] []) λh7=>cd (13,bF h7) (ax (λh8=>gE [(18,bT h8),(23,bT rfl)] []) λh8=>cd (18,bF h8) (ax (λh9=>gE [(23,bT h9)] []) λh9=>gE [(23,bF h9)] []))))) λv3=>bn λaZ=>gR [[f0 aZ],[]]))
def Hq(N:Nat)(v1:aP)(v2:Bool):amV Int:=
 bif v2 then
  (La N v1).bind λv3=>
  bif v3 then
   some (0:Int)
  else
   some (10:Int)
 else
  bif (v1.bu==2)then
   (ta N v1).bind λv4=>
   bif (v4==0)then
    some (0:Int)
   else
    some (10:Int)
  else
   some (10:Int)
def mr(N:Nat)(v1:aP):amV Int:=
 bif (v1.bu==1)then
  Hq N v1 (v1.bu==1)
 else
  Hq N v1 (v1.bu==3)
theorem nQ{N v1}:KO 117 [(bE v1)] ar (mr N v1):=
 fw Tryz.func117 (kC 1 [[],[],[]] [1,4,5] 1 (λ(v2:Bool)=>⟨15,[(1,(.ptr 0 0)),(4,(ar v1.bu)),(5,(az v2))],[.cells (bE v1).cells]⟩) (Hq N v1) (λf1 aJ=>ax (λh7=>gm aJ (v1.bu==1) [[t0 h7]]) λh7=>gm aJ (v1.bu==3) [[f0 h7],[]]) (λv2=>ax (λh1=>aw λv3 h2=>gA [[t0 h1],[(4,cK ad7 h2)]] (bn λh3=>gR [[f0 h3],[]])) λh1=>gA [[f0 h1],[]] (jL λh4=>aw λv4 h5=>gA [[t0 h4],[(4,cK FI h5)]] (bn λh6=>gR [[f0 h6],[]]))))
def DR(N:Nat):amT Int->Nat->Int->amV Int
 |[],_,v7=>
  some v7
 |v5::v6,v3,v7=>
  (λiv=>DR N v6 (v3+1) iv) (if v5>v7 then v5 else v7)
def Nw(N:Nat)(v1:amT Int):amV Int:=
 Option.bind (v1[0]?) λv2=>
 DR N (v1.drop 1) 1 v2
def KU(N:Nat)(v1:amT Int):amV Int:=
 bif (decide ((v1.length:Int)<1))then
  none
 else
  Nw N v1
theorem alq{N v1 r}(J:KU N v1=some r):KF 253 [(.d (.sl (bA v1)))] (ar r):=by
 rw[KU]at J;refine JP Tryz.func253 ?_;refine wj0 bw r 1 [[],[(4,oL v1 fy)]] [0] 0 ⟨25,[(0,(.d (.sl (bA v1))))],[]⟩ (Nw N v1) ?_ ?_
 ·intro f1 aJ;apply bc J<;>intro h5 J
  ·cases J
  exact lg bw aJ () [[(0,bF h5)]] J
 intro J;rw[Nw]at J;obtain⟨v2,h1,J⟩:=bm J;refine gK bw [[(4,oE (k:=0) (gZ h1))],[]] ?_;refine JX mB 0 v1 λh3=> ?_;refine Js bw 2 [] [0,3,4] 0 (λ((v3,v4,v7):Nat×(amT Int)×Int)=>⟨25,[(0,(.d (.sl (bA v1)))),(3,(ar v7)),(4,(ar (v3:Int)))],[]⟩) (λ((v3,v4,v7):Nat×(amT Int)×Int)=>v1.drop v3=v4/\DR N v4 v3 v7=some r) (λ((v3,v4,v7):Nat×(amT Int)×Int)=>v4.length) (1,(v1.drop 1),v2) ⟨rfl,J⟩ ?_;rintro⟨v3,v4,v7⟩ ⟨h4,J⟩ f2 eK;cases v4 with
 |nil=>
  rw[DR]at J;cases J;exact wr bw [[(7,oL v1 fy)],[(0,bF (cf h4))],[]]
 |cons v5 v6=>
  rw[DR]at J;exact C0 bw eK (v3+1,v6,(if v5>v7 then v5 else v7)) [[(7,oL v1 fy)],[(0,bT (bZ h4))],[(10,oE (gZ (bM h4)))],[(5,oq (cC h4 rfl h3))]] ⟨jR h4,J⟩
def L6(N:Nat)(v1:aP)(v2:amT Int):amV Int:=
 (mr N v1).bind λv3=>
 bif (v3 !=0)then
  some (10:Int)
 else
  (KU N v2).bind λv4=>
  bif (decide (v4>6))then
   some (11:Int)
  else
   some (0:Int)
theorem XI{N v1 v2}:KO 189 [(bE v1),(.d (.sl (bA v2)))] ar (L6 N v1 v2):=
 fw Tryz.func189 (aw λv3 h1=>gA [[],[(4,cK nQ h1)]] (bn λh2=>aw λv4 h3=>gA [[f0 h2],[(4,cL (alq h3))]] (bn λh4=>gR [[f0 h4],[]])))
def Uz(N:Nat)(v4:Int×(amT (amU×Int)))(v2:dh):amT cn->Nat->amV (Int×(amT (amU×Int)))
 |[],_=>
  some ((0:Int),v4.2)
 |v8::v9,v6=>
  (Jk N v8 v2 v4.2).bind λv10=>
  bif (v10 !=0)then
   some (v10,v4.2)
  else
   (Uz N v4 v2 v9 (v6+1))
def Zc(N:Nat)(v1:ju)(v2:dh)(v3:amT (amU×Int)):amV (Int×(amT (amU×Int))):=
 Option.bind (F0 N v1.bo (2:Int) v2 v3) λv4=>
 bif (v4.1 !=0)then
  some (v4.1,v4.2)
 else
  Option.bind (L6 N v1.aK ([(v1.bS.length:Int)])) λv5=>
  bif (v5 !=0)then
   some (v5,v4.2)
  else
   Uz N v4 v2 v1.bS 0
def PV(v2:dh)(l:amT aq):amT aq:= .cells (fI v2 [(.mp 1)])::l
theorem aaA{N v1 v2 v3}:KP 108 [(.ptr 0 0),(pD v1)] [.cells (fI v2 [(.mp 1)]), .map (ff v3)] (λr=>ar r.1) (λr=>[.cells (fI v2 [(.mp 1)]), .map (ff r.2)]) (Zc N v1 v2 v3):=
 fh 2 Tryz.func108 (aw λv4 h1=>gA [[],[(10,oR [(.ptr 0 0),(di v1.bo),(ar (2:Int))] (PV v2 [.map (ff v3), .cells (pD v1).cells]) [0,1] (N3 _ h1))],[]] (ax (λh2=>gH [[t0 h2],[]]) λh2=>aw λv5 h3=>gA [[f0 h2],[(13,oL v1.bS hJ),(19,cK XI h3)],[]] (ax (λh4=>gH [[t0 h4],[]]) λh4=>gA [[f0 h4],[(7,oL v1.bS hJ)]] (gT rM 28 v1.bS λh6=>e7 1 [] [0,28,29,30] 3 (λv6=>⟨41,[(0,(.ptr 0 0)),(28,(.d (.sl (gg v1.bS)))),(29,(ar (v1.bS.length:Int))),(30,(ar (v6:Int)))],(PV v2 [.map (ff v4.2), .cells (pD v1).cells])⟩) (λv6 h7 f1=>gH [[],[f0 (cf h7)],[]]) (λv6 v8 v9 h7 f1 aJ=>aw λv10 h8=>gA [[],[t0 (bZ h7)],[(1,oE (sr (bM h7)))],[(7,oQ [(.ptr 0 0),(dT v8)] (PV v2 [.map (ff v4.2), .cells (pD v1).cells, .cells (dT v8).cells]) [0,1] (O9 _ h8))],[]] (ax (λh9=>gH [[t0 h9],[]]) λh9=>gb aJ () [[f0 h9],[(2,oq (cC h7 rfl h6))]] h7))))))
def Zu(N:Nat)(v1:Int):amV Unit:=bif decide ((0:Int)<=v1)&&Nat.ble (v1.toNat*48) 140737488355328 then some ()else none
theorem aao{N v1 r}(J:Zu N v1=some r):cZ Tryz.prog 286 [.d (.v (.slice none 0 0)),(ar v1)] [] λr1 h1=>r1= .own 0 []/\h1=[.front 80 3 0]:=by
 obtain⟨hb,_⟩:=eu J;rw[al7]at hb;have e:Int.ofNat v1.toNat=v1:=Int.toNat_of_nonneg (of_decide_eq_true hb.1);have h:=akZ hb.2;rw[e]at h;exact h
def Dk(N:Nat):amT (amT fj)->Nat->(amT fj)->amV ((amT fj))
 |[],_,v12=>
  some v12
 |v10::v11,v8,v12=>
  bif (Nat.ble ((v12.length+v10.length)*48) 140737488355328)then
  (λiv=>Dk N v11 (v8+1) iv) (v12++v10)
  else none
def Dz(N:Nat)(v1:amT (amT fj)):amT (amT fj)->Nat->Int->amV ((amT fj))
 |[],_,v6=>
  (Zu N v6).bind λv7=>
  Dk N v1 0 []
 |v4::v5,v2,v6=>
  bif (decide ((aE (v6+(v4.length:Int)))<0))then
   none
  else
   (λcu=>Dz N v1 v5 (v2+1) cu) (aE (v6+(v4.length:Int)))
def Hy(N:Nat)(v1:amT (amT fj)):amV ((amT fj)):=
 Dz N v1 v1 0 (0:Int)
theorem VF{N v1 r}(J:Hy N v1=some r):KF 254 [(.d (.sl (oG v1)))] (.d (.sl (iO r))):=by
 rw[Hy]at J;refine JP Tryz.func254 ?_;refine gK bw [[],[],[(4,oL v1 Pd)]] ?_;refine JX S1 0 v1 λh2=> ?_;refine L8 bw 1 [] [0,3,9,10,11] 0 v1 (λv2(v6:Int)=>⟨36,[(0,(.d (.sl (oG v1)))),(3,(ar v6)),(9,(.d (.sl (oG v1)))),(10,(ar (v1.length:Int))),(11,(ar (v2:Int)))],[]⟩) (Dz N v1) (0:Int) J ?_ ?_
 ·intro v2 v6 h3 J f1;rw[Dz]at J;obtain⟨v7,h4,J⟩:=bm J;refine gK bw [[],[(0,bF (cf h3))],[(4,⟨_,_, .jB (aao h4)⟩)],[(4,oL v1 Pd)]] ?_;refine JX S1 0 v1 λh6=> ?_;refine L8 bw 2 [] [6,25,26,27] 1 v1 (λv8(v12:amT fj)=>⟨36,[(6,(.own 0 (iO v12))),(25,(.d (.sl (oG v1)))),(26,(ar (v1.length:Int))),(27,(ar (v8:Int)))],[.front 80 3 v12.length]⟩) (Dk N) [] J ?_ ?_
  ·intro v8 v12 h7 J f2;rw[Dk]at J;cases J;exact wr bw [[],[(0,bF (cf h7))],[]]
  intro v8 v10 v11 v12 h7 J f2 eK;rw[Dk]at J;obtain⟨h8,J⟩:=Zw J;exact wb bw eK (v12++v10) [[],[(0,bT (bZ h7))],[(1,oE (YL (bM h7)))],[(7,oA Az v12 v10 h8)],[(2,oq (cC h7 rfl h6))]] h7 J
 intro v2 v4 v5 v6 h3 J f1 aJ;rw[Dz]at J;refine gK bw [[],[(0,bT (bZ h3))],[(1,oE (YL (bM h3)))],[(7,oL v4 nh)],[]] ?_;apply bc J<;>intro h9 J
 ·cases J
 exact wb bw aJ (aE (v6+(v4.length:Int))) [[(0,bF h9)],[(2,oq (cC h3 rfl h2))]] h3 J
def R4(N:Nat)(v3:amT (amU×Int))(v2:dh):amT fj->Nat->(amT (amU×Bool))->amV Int
 |[],_,_=>
  some (0:Int)
 |v7::v8,v5,v9=>
  (wQ N v7.bo).bind λv10=>
  bif v10 then
   Option.bind (bif (iU v9 v7.bo false)then some true else some ((iU v3 v7.bo 0)==1)) λv11=>
   bif v11 then
    some (8:Int)
   else
    bif (Nat.blt v9.length 9223372036854775807)then
    (Jk N v7.qU v2 v3).bind λv12=>
    bif (v12 !=0)then
     some v12
    else
     (λcu=>R4 N v3 v2 v8 (v5+1) cu) ((v7.bo,true)::v9)
    else none
  else
   some (7:Int)
def U9(N:Nat)(v1:et)(v2:dh)(v3:amT (amU×Int)):amV Int:=
 Option.bind (Hy N ([v1.bS,v1.m6])) λv4=>
 R4 N v3 v2 v4 0 []
def rF(v2:dh)(v3:amT (amU×Int))(v1:et)(l:amT aq):amT aq:= .cells (fI v2 [(.mp 1)]):: .map (ff v3):: .cells (gj v1).cells::l
theorem akY{N v1 v2 v3}:KP 190 [(.ptr 0 0),(gj v1)] [.cells (fI v2 [(.mp 1)]), .map (ff v3)] ar (λ_=>[.cells (fI v2 [(.mp 1)]), .map (ff v3)]) (U9 N v1 v2 v3):=
 fh 2 Tryz.func190 (aw λv4 h1=>gA [[],[],[(16,cL (VF h1)),(19,oL v4 nh)]] (gT Az 15 v4 λh3=>gd 1 [] [0,5,15,16,17] 4 (λv5(v9:amT (amU×Bool))=>⟨52,[(0,(.ptr 0 0)),(5,(.mp 3)),(15,(.d (.sl (iO v4)))),(16,(ar (v4.length:Int))),(17,(ar (v5:Int)))],(rF v2 v3 v1 [.map (xU v9)])⟩) (λv5 v9 h4 f1=>gH [[],[f0 (cf h4)],[]]) (λv5 v7 v8 v9 h4 f1 aJ=>aw λv10 h5=>gA [[],[t0 (bZ h4)],[(1,oE (D0 (bM h4)))],[(7,cK GD h5)]] (ax (λh6=>gA [[f0 (cH h6)]] (gG (λv11=>[(26,(az v11))]) (λ_=>(rF v2 v3 v1 [.map (xU v9), .cells (XL v7).cells])) (dc (11,⟨_,_, .eq (aed false v9 v7.bo)⟩) (ax (λh7=>gE [(4,bT h7)] []) λh7=>gE [(4,bF h7)] [(35,⟨_,_, .eq (Dd false v3 v7.bo)⟩)])) λv11=>ax (λh9=>gH [[t0 h9],[]]) λh9=>dG λaW=>aw λv12 aZ=>gA [[f0 h9],[(10,⟨_,_, .sd (o:= .none) (abn aW)⟩)],[(10,oQ [(.ptr 0 0),(dT v7.qU)] (rF v2 v3 v1 [.map (xU ((v7.bo,true)::v9)), .cells (XL v7).cells]) [0,1] (O9 _ aZ))],[]] (ax (λbj=>gH [[t0 bj],[]]) λbj=>gb aJ ((v7.bo,true)::v9) [[f0 bj],[(2,oq (cC h4 rfl h3))]] h4))) λh6=>gH [[t0 (dj h6)],[]]))))
def DV(N:Nat)(v1:et)(v2:Bool):amV Int:=
 bif v2 then
  bif ((v1.m6.length:Int)==0)then
   some (11:Int)
  else
   some (0:Int)
 else
  bif (v1.jq==5)then
   Option.bind (bif (decide ((v1.m6.length:Int)>0))then some true else some ((v1.bS.length:Int)==0)) λv3=>
   bif v3 then
    some (11:Int)
   else
    some (0:Int)
  else
   some (1:Int)
def TF(N:Nat)(v1:et):amV Int:=
 bif (v1.jq==0)then
  bif (decide ((v1.m6.length:Int)>0))then
   some (11:Int)
  else
   some (0:Int)
 else
  bif (v1.jq==1)then
   DV N v1 (v1.jq==1)
  else
   bif (v1.jq==2)then
    DV N v1 (v1.jq==2)
   else
    bif (v1.jq==3)then
     DV N v1 (v1.jq==3)
    else
     DV N v1 (v1.jq==4)
theorem alz{N v1}:KO 191 [(gj v1)] ar (TF N v1):=
 fw Tryz.func191 (gA [[],[],[]] (ax (λh1=>gA [[t0 h1],[(7,oL v1.m6 nh)]] (bn λh2=>gR [[f0 h2],[]])) λh1=>kC 1 [[f0 h1],[]] [1,4,11] 1 (λ(v2:Bool)=>⟨32,[(1,(.ptr 0 0)),(4,(ar v1.jq)),(11,(az v2))],[.cells (gj v1).cells]⟩) (DV N v1) (λf1 aJ=>ax (λh9=>gm aJ (v1.jq==1) [[t0 h9]]) λh9=>gA [[f0 h9],[]] (ax (λaW=>gm aJ (v1.jq==2) [[t0 aW]]) λaW=>gA [[f0 aW],[]] (ax (λaZ=>gm aJ (v1.jq==3) [[t0 aZ]]) λaZ=>gm aJ (v1.jq==4) [[f0 aZ],[]]))) (λv2=>ax (λh3=>gA [[t0 h3],[(7,oL v1.m6 nh)]] (bn λh4=>gR [[f0 h4],[]])) λh3=>gA [[f0 h3],[]] (jL λh5=>gA [[t0 h5]] (gG (λv3=>[(31,(az v3))]) (λ_=>[.cells (gj v1).cells]) (dc (7,oL v1.m6 nh) (ax (λh6=>gE [(4,bT h6)] []) λh6=>gE [(4,bF h6)] [(22,oL v1.bS nh)])) λv3=>bn λh8=>gR [[f0 h8],[]])))))
def Xj(N:Nat):amT fj->Nat->(amT amU)->amV ((amT amU))
 |[],_,v7=>
  some v7
 |v5::v6,v3,v7=>
  bif (Nat.ble ((v7.length+1)*16) 140737488355328)then
  (λcu=>Xj N v6 (v3+1) cu) (v7++[v5.bo])
  else none
def Ti(N:Nat)(v1:et):amV ((amT amU)):=
 Option.bind (Hy N ([v1.bS,v1.m6])) λv2=>
 Xj N v2 0 []
theorem acq{N v1}:KO 193 [(gj v1)] (λr=> .d (.sl (ee r))) (Ti N v1):=
 fw Tryz.func193 (aw λv2 h1=>gA [[],[],[(16,cL (VF h1)),(19,oL v2 nh)]] (li (λ_=>(uM 3 9 1 [] (.inr (by kernel_rfl)) ·)) (gT Az 11 v2 λh3=>gd 1 [] [3,11,12,13] 2 (λv3(v7:amT amU)=>⟨24,[(3,(.own 1 (ee v7))),(11,(.d (.sl (iO v2)))),(12,(ar (v2.length:Int))),(13,(ar (v3:Int)))],[.cells (gj v1).cells, .front 9 1 v7.length]⟩) (λv3 v7 h4 f1=>gR [[],[f0 (cf h4)],[]]) (λv3 v5 v6 v7 h4 f1 aJ=>dG λh5=>gb aJ (v7++[v5.bo]) [[],[t0 (bZ h4)],[(1,oE (D0 (bM h4)))],[(13,oA qv v7 ([v5.bo]) h5)],[(2,oq (cC h4 rfl h3))]] h4))))
def Hj(N:Nat)(Uh:ay->Int->amV Int)(v2:Int):amT ay->Nat->Int->amV Int
 |[],_,v7=>
  some v7
 |v5::v6,v3,v7=>
  Option.bind (Uh v5 (aE (v2-(1:Int)))) λv8=>
  (λcu=>Hj N Uh v2 v6 (v3+1) cu) (if(aE ((1:Int)+v8))>v7 then(aE ((1:Int)+v8))else v7)
def qD(N:Nat):Nat->ay->Int->amV Int
 |0,_,_=>none
 |d+1,v1,v2=>
  bif (decide (v2<=1))then
   some v2
  else
   Hj N (qD N d) v2 v1.bD 0 (1:Int)
def Qm(N:Nat)(v1:ay)(v2:Int):amV Int:=qD N N v1 v2
theorem aji(N:Nat):∀d:Nat,(∀{v1:ay}{v2:Int},KO 148 [(aD v1),(ar v2)] ar (qD N d v1 v2)):=by
 intro d
 induction d with
 |zero=>intro v1 v2 r J;rw[qD]at J;cases J
 |succ d ih=>
  have ajU:= @ih;intro v1 v2;rw[qD];exact fw Tryz.func148 (gA [[],[]] (bn λh1=>gA [[(0,bF h1)],[],[(7,oL v1.bD jr)]] (gT qx 12 v1.bD λh3=>gd 1 [] [1,5,12,13,14] 1 (λv3(v7:Int)=>⟨27,[(1,(ar v2)),(5,(ar v7)),(12,(.d (.sl (iG v1.bD)))),(13,(ar (v1.bD.length:Int))),(14,(ar (v3:Int)))],[.cells (aD v1).cells]⟩) (λv3 v7 h4 f1=>gR [[],[(0,bF (cf h4))],[]]) (λv3 v5 v6 v7 h4 f1 aJ=>aw λv8 h5=>gb aJ (if(aE ((1:Int)+v8))>v7 then(aE ((1:Int)+v8))else v7) [[],[(0,bT (bZ h4))],[(1,oE (gY (bM h4)))],[(13,cK ajU h5)],[(2,oq (cC h4 rfl h3))]] h4))))
theorem ak2{N v1 v2}:KO 148 [(aD v1),(ar v2)] ar (Qm N v1 v2):=(aji N N)
def NV(N:Nat)(v1:ay):amV Int:=
 Option.bind (Qm N v1 (41:Int)) λv2=>
 some v2
theorem ahl{N v1}:KO 87 [(aD v1)] ar (NV N v1):=
 fw Tryz.func87 (aw λv2 h1=>gR [[],[(4,cK ak2 h1)]])
def Ch(N:Nat)(v1:ay):amV ay:=some v1
theorem NF{N v1 r}(J:Ch N v1=some r):ga Tryz.prog 89 [(aD v1)] (·=(.fn 149 [(.bp [eH r] 0 0)])):=by
 cases J;exact afx v1
def tF(N:Nat):amT ay->Int->amV Int
 |[],v3=>
  some v3
 |_::v5,v3=>
  bif (decide ((aE (v3+(1:Int)))>2000))then
   some (aE (v3+(1:Int)))
  else
   (λcu=>tF N v5 cu) (aE (v3+(1:Int)))
def Dc(N:Nat)(v1:ay):amV Int:=
 (Ch N v1).bind λv2=>
 tF N (eO v2) (0:Int)
def om(v1:ay)(v3:Int)(l:amT aq):amT aq:= .cells (aD v1).cells:: .cells [(ar (aE (v3+(1:Int))))]::l
def qN(v1:ay)(v3:Int)(l:amT aq):amT aq:= .cells (aD v1).cells:: .cells [(ar v3)]::l
def NH(v1:ay)(l:amT aq):amT aq:= .cells (aD v1).cells:: .cells [(ar (0:Int))]::l
theorem abJ{N v1 r}(J:Dc N v1=some r):KF 88 [(aD v1)] (ar r):=by
 rw[Dc]at J;refine lO Tryz.func88 rfl (by kernel_rfl) ?_;refine ft [0] 0 (amg _) (s':=⟨12,[(0,(aD v1))],[]⟩) (by kernel_rfl) ?_;refine au ?_;refine rg [] [(1,(.ptr 0 0))] [.cells (aD v1).cells] (by kernel_rfl) ?_;refine au ?_;refine rg [] [(3,(.ptr 1 0))] (NH v1 []) (by kernel_rfl) ?_;refine au ?_;refine au ?_;obtain⟨v2,h1,J⟩:=bm J;refine rg [(4,cL (NF h1))] [(5,(.fn 149 [(.bp [eH v2] 0 0)]))] (NH v1 []) (by kernel_rfl) ?_;refine dn ?_;refine ft [3,5] 2 (amd rfl) (s':=⟨12,[(3,(.ptr 1 0)),(5,(.fn 149 [(.bp [eH v2] 0 0)]))],(NH v1 [])⟩) (by kernel_rfl) ?_;refine xm (m:=2) (enc:=aD) (xs:=(eO v2)) (by kernel_rfl) (Lk v2) (λ(v3:Int)=>(qN v1 v3 [])) (λ(v3:Int) l=>tF N l v3=some r) (0:Int) (by kernel_rfl) J (by rintro v3;rfl) (by rintro v3;kernel_rfl) (by kernel_rfl) rfl ?_ ?_
 ·rintro v3 v4 v5 J h2 cA cB
  try dsimp only at J
  rw[tF]at J;refine ft [3] 3 (amg _) (s':=⟨12,[(3,(.ptr 1 0))],(qN v1 v3 [.lp .ready 6 cA cB (dt 12 [(3,(.ptr 1 0)),(5,(.fn 149 [(.bp [eH v2] 0 0)]))])])⟩) (by kernel_rfl) ?_;refine ct ?_;refine aM ?_;refine⟨(qN v1 v3 []),[],rfl,(by kernel_rfl),?_⟩;refine ft [3] 3 (amd rfl) (s':=⟨12,[(3,(.ptr 1 0))],(qN v1 v3 [.lp .busy 6 cA cB (dt 12 [(3,(.ptr 1 0)),(5,(.fn 149 [(.bp [eH v2] 0 0)]))])])⟩) (by kernel_rfl) ?_;refine dn ?_;refine au ?_;refine rg [] [] (om v1 v3 [.lp .busy 6 cA cB (dt 12 [(3,(.ptr 1 0)),(5,(.fn 149 [(.bp [eH v2] 0 0)]))])]) (by kernel_rfl) ?_;refine au ?_;refine rg [] [(10,(az (decide ((aE (v3+(1:Int)))>2000))))] (om v1 v3 [.lp .busy 6 cA cB (dt 12 [(3,(.ptr 1 0)),(5,(.fn 149 [(.bp [eH v2] 0 0)]))])]) (by kernel_rfl) ?_;rcases dw (decide ((aE (v3+(1:Int)))>2000))with h3|h3
  ·replace J:=(c7 h3).symm.trans J;refine cS (t:=(decide ((aE (v3+(1:Int)))>2000))) (by kernel_rfl) h3 ?_;refine kW (aex rfl ?_);refine aiy (om v1 v3 []) rfl (by kernel_rfl) (by kernel_rfl) ?_;refine(l4 rfl ?_);refine aM ?_;refine au ?_;refine rg [] [(2,(ar (aE (v3+(1:Int)))))] (om v1 v3 [.gone]) (by kernel_rfl) ?_;refine cU ?_;have hr:=amo J;subst hr;exact eJ (by kernel_rfl)
  replace J:=(du h3).symm.trans J;refine dm (t:=(decide ((aE (v3+(1:Int)))>2000))) (by kernel_rfl) h3 ?_;refine ct ?_;refine dU ?_;refine yB (om v1 v3 []) rfl (by kernel_rfl) (by kernel_rfl) ?_;exact⟨(aE (v3+(1:Int))),(by kernel_rfl),J⟩
 rintro v3 J
 try dsimp only at J
 rw[tF]at J;refine dU ?_;refine aM ?_;refine au ?_;refine rg [] [(2,(ar v3))] (qN v1 v3 [.gone]) (by kernel_rfl) ?_;refine cU ?_;have hr:=amo J;subst hr;exact eJ (by kernel_rfl)
def Eo(N:Nat)(v1:cn):amV Bool:=
 Option.bind (bif (v1.xK.toInt==0)then some ((v1.xL.length:Int)==0)else some false) λv2=>
 some v2
theorem W7{N v1}:KO 227 [(dT v1)] az (Eo N v1):=
 fw Tryz.func227 (gA [[]] (gG (λv2=>[(2,(az v2))]) (λ_=>[.cells (dT v1).cells]) (ax (λh1=>gE [(3,bT h1)] [(19,oL v1.xL lq)]) λh1=>gE [(3,bF h1)] []) λv2=>gR []))
def G8(N:Nat)(v1:cY):amV Bool:=
 bif (bL v1.dA==bL (bs []))then
  some ((v1.cO.length:Int)==0)
 else
  (Eo N v1.cm).bind λv2=>
  some v2
theorem af5{N v1}:KO 230 [(gy v1)] az (G8 N v1):=
 fw Tryz.func230 (gA [[],[]] (ax (λh1=>gR [[t0 h1],[(7,oL v1.cO hJ)]]) λh1=>aw λv2 h2=>gR [[f0 h1],[(7,cK W7 h2)]]))
def NJ(N:Nat)(v1:cY):amV Bool:=
 (G8 N v1).bind λv2=>
 some (!v2)
theorem aaN{N v1}:KO 229 [(gy v1)] az (NJ N v1):=
 fw Tryz.func229 (aw λv2 h1=>gR [[],[(4,cK af5 h1)]])
def Jm(N:Nat):amT cY->Nat->amV Int
 |[],_=>
  some (-1:Int)
 |v4::v5,v2=>
  (NJ N v4).bind λv6=>
  bif v6 then
   some (v2:Int)
  else
   (Jm N v5 (v2+1))
def Ly(N:Nat)(v1:amT cY):amV Int:=
 Jm N v1 0
theorem aej{N v1}:KP 276 [(.d (.sl (eB v1))),(.fn 229 [])] [] ar (λ_=>[]) (Ly N v1):=
 fh 0 Tryz.func276 (gA [[],[(4,oL v1 fF)]] (gT pI 0 v1 λh2=>e7 1 [] [0,1,7,8] 0 (λv2=>⟨19,[(0,(.d (.sl (eB v1)))),(1,(.fn 229 [])),(7,(ar (v1.length:Int))),(8,(ar (v2:Int)))],[]⟩) (λv2 h3 f1=>gH [[],[f0 (cf h3)],[]]) (λv2 v4 v5 h3 f1 aJ=>aw λv6 h4=>gA [[],[t0 (bZ h3)],[],[(10,oE (iB (bM h3))),(16,cK aaN h4)]] (ax (λh5=>gH [[t0 h5],[]]) λh5=>gb aJ () [[f0 h5],[(2,oq (cC h3 rfl h2))]] h3))))
def Jf(N:Nat)(v1:amT cY):amV Bool:=
 (Ly N v1).bind λv2=>
 some (decide (v2>=0))
theorem acW{N v1}:KP 228 [(.d (.sl (eB v1))),(.fn 229 [])] [] az (λ_=>[]) (Jf N v1):=
 fh 0 Tryz.func228 (aw λv2 h1=>gH [[],[(7,oQ [(.d (.sl (eB v1))),(.fn 229 [])] [] [] (aej _ h1))]])
def Gu(N:Nat)(v1:ay):amV Bool:=
 Option.bind (bif (v1.aC==1)then some true else some (v1.aC==12)) λv2=>
 Option.bind (bif (decide (v1.aC<1))then some true else some (decide (v1.aC>18))) λv3=>
 bif v3 then
  some false
 else
  Option.bind (bif (v1.aC==1)then some false else some (!((v1.dR.xN.toInt==(0:Int64).toInt)&&((v1.dR.xD.toInt==(0:Int64).toInt)&&true)))) λv4=>
  bif v4 then
   some false
  else
   Option.bind (bif v2 then some false else some (!((v1.aK.bu==0)&&((v1.aK.bG==0)&&((v1.aK.ck==0)&&((v1.aK.cx==0)&&((v1.aK.cG==0)&&true))))))) λv5=>
   bif v5 then
    some false
   else
    Option.bind (bif (v1.aC==2)then some false else (Eo N v1.cm).bind λv6=>
    some (!v6)) λv7=>
    bif v7 then
     some false
    else
     Option.bind (bif (v1.aC==3)then some false else(bif (bL v1.bo==bL (bs []))then some (decide ((v1.xIdx.length:Int)>0))else some true)) λv8=>
     bif v8 then
      some false
     else
      (Jf N v1.xIdx).bind λv9=>
      some (!v9)
def vV(v1:ay)(l:amT aq):amT aq:= .cells (aD v1).cells::l
theorem ali{N v1}:KO 151 [(aD v1)] az (Gu N v1):=
 fw Tryz.func151 (gA [[]] (gG (λv2=>[(3,(az (v1.aC==1))),(4,(az v2))]) (λ_=>(vV v1 [])) (ax (λh1=>gE [(6,bT h1)] []) λh1=>gE [(6,bF h1)] []) λv2=>gA [[]] (gG (λv3=>[(24,(az v3))]) (λ_=>(vV v1 [])) (ax (λh3=>gE [(3,bT h3)] []) λh3=>gE [(3,bF h3)] []) λv3=>bn λh5=>gA [[f0 h5]] (gG (λv4=>[(33,(az v4))]) (λ_=>(vV v1 [])) (ax (λh6=>gE [(2,bF (cH h6))] []) λh6=>gE [(2,bT (dj h6))] []) λv4=>bn λh8=>gA [[f0 h8]] (gG (λv5=>[(42,(az v5))]) (λ_=>(vV v1 [])) (ax (λh9=>gE [(2,bF (cH h9))] []) λh9=>gE [(2,bT (dj h9))] []) λv5=>bn λaZ=>gA [[f0 aZ]] (gG (λv7=>[(51,(az v7))]) (λ_=>(vV v1 [])) (ax (λbj=>gE [(2,bF (cH bj))] []) λbj=>aw λv6 bC=>gE [(2,bT (dj bj))] [(16,cK W7 bC)]) λv7=>bn λbH=>gA [[f0 bH]] (gG (λv8=>[(60,(az v8))]) (λ_=>(vV v1 [])) (ax (λbY=>gE [(2,bF (cH bY)),(6,uN)] []) λbY=>cd (2,bT (dj bY)) (ax (λc9=>gE [(6,bF (cH c9))] [(28,oL v1.xIdx fF),(34,bF (cH c9))]) λc9=>gE [(6,bT (dj c9))] [(34,bT (dj c9))])) λv8=>bn λeI=>aw λv9 dC=>gR [[f0 eI],[(7,oQ [(.d (.sl (eB v1.xIdx))),(.fn 229 [])] (vV v1 []) [] (acW _ dC))]])))))))
def Hb(N:Nat)(v1:cY):amV Bool:=
 Option.bind (bif (bL v1.dA==bL (bs []))then some false else (wQ N v1.dA).bind λv2=>
 some (!v2)) λv3=>
 some v3
theorem aeJ{N v1}:KO 231 [(gy v1)] az (Hb N v1):=
 fw Tryz.func231 (gA [[]] (gG (λv3=>[(2,(az v3))]) (λ_=>[.cells (gy v1).cells]) (ax (λh1=>gE [(3,bF (cH h1))] []) λh1=>aw λv2 h2=>gE [(3,bT (dj h1))] [(19,cK GD h2)]) λv3=>gR []))
def Ho(N:Nat):amT cY->Nat->amV Int
 |[],_=>
  some (-1:Int)
 |v4::v5,v2=>
  (Hb N v4).bind λv6=>
  bif v6 then
   some (v2:Int)
  else
   (Ho N v5 (v2+1))
def Lj(N:Nat)(v1:amT cY):amV Int:=
 Ho N v1 0
theorem alF{N v1}:KP 276 [(.d (.sl (eB v1))),(.fn 231 [])] [] ar (λ_=>[]) (Lj N v1):=
 fh 0 Tryz.func276 (gA [[],[(4,oL v1 fF)]] (gT pI 0 v1 λh2=>e7 1 [] [0,1,7,8] 0 (λv2=>⟨19,[(0,(.d (.sl (eB v1)))),(1,(.fn 231 [])),(7,(ar (v1.length:Int))),(8,(ar (v2:Int)))],[]⟩) (λv2 h3 f1=>gH [[],[f0 (cf h3)],[]]) (λv2 v4 v5 h3 f1 aJ=>aw λv6 h4=>gA [[],[t0 (bZ h3)],[],[(10,oE (iB (bM h3))),(16,cK aeJ h4)]] (ax (λh5=>gH [[t0 h5],[]]) λh5=>gb aJ () [[f0 h5],[(2,oq (cC h3 rfl h2))]] h3))))
def NY(N:Nat)(v1:amT cY):amV Bool:=
 (Lj N v1).bind λv2=>
 some (decide (v2>=0))
theorem ajV{N v1}:KP 228 [(.d (.sl (eB v1))),(.fn 231 [])] [] az (λ_=>[]) (NY N v1):=
 fh 0 Tryz.func228 (aw λv2 h1=>gH [[],[(7,oQ [(.d (.sl (eB v1))),(.fn 231 [])] [] [] (alF _ h1))]])
def Gm(N:Nat)(v1:ay):amV Bool:=
 Option.bind (bif (v1.aC==3)then (wQ N v1.bo).bind λv2=>
 some (!v2)else some false) λv3=>
 bif v3 then
  some false
 else
  (NY N v1.xIdx).bind λv4=>
  some (!v4)
theorem aaq{N v1}:KO 152 [(aD v1)] az (Gm N v1):=
 fw Tryz.func152 (gA [[]] (gG (λv3=>[(11,(az v3))]) (λ_=>[.cells (aD v1).cells]) (ax (λh1=>aw λv2 h2=>gE [(3,bT h1)] [(19,cK GD h2)]) λh1=>gE [(3,bF h1)] []) λv3=>bn λh4=>aw λv4 h5=>gR [[f0 h4],[(7,oQ [(.d (.sl (eB v1.xIdx))),(.fn 231 [])] [.cells (aD v1).cells] [] (ajV _ h5))]]))
def E3(N:Nat)(v1:Int)(v3:Bool):amV Int:=
 bif v3 then
  some (1:Int)
 else
  bif (v1==11)then
   some (3:Int)
  else
   some (2:Int)
def Fb(N:Nat)(v1:Int)(v2:Bool):amV Int:=
 bif v2 then
  some (0:Int)
 else
  bif (v1==8)then
   E3 N v1 (v1==8)
  else
   bif (v1==12)then
    E3 N v1 (v1==12)
   else
    E3 N v1 (v1==18)
def Hu(N:Nat)(v1:Int):amV Int:=
 bif (v1==1)then
  Fb N v1 (v1==1)
 else
  bif (v1==2)then
   Fb N v1 (v1==2)
  else
   Fb N v1 (v1==3)
theorem afB{N v1}:KO 232 [(ar v1)] ar (Hu N v1):=
 fw Tryz.func232 (kC 1 [[],[],[]] [3,4] 0 (λ(v2:Bool)=>⟨14,[(3,(ar v1)),(4,(az v2))],[]⟩) (Fb N v1) (λf1 aJ=>ax (λh6=>gm aJ (v1==1) [[t0 h6]]) λh6=>gA [[f0 h6],[]] (ax (λh7=>gm aJ (v1==2) [[t0 h7]]) λh7=>gm aJ (v1==3) [[f0 h7],[]])) (λv2=>bn λh1=>kC 2 [[f0 h1],[]] [3,8] 0 (λ(v3:Bool)=>⟨14,[(3,(ar v1)),(8,(az v3))],[]⟩) (E3 N v1) (λf2 eK=>ax (λh4=>gm eK (v1==8) [[t0 h4]]) λh4=>gA [[f0 h4],[]] (ax (λh5=>gm eK (v1==12) [[t0 h5]]) λh5=>gm eK (v1==18) [[f0 h5],[]])) (λv3=>fP λ_=>bn λh3=>gR [[f0 h3],[]])))
def PQ(N:Nat)(v1:cY):amV Bool:=
 some (decide ((v1.cO.length:Int)>6))
theorem aa0{N v1}:KO 233 [(gy v1)] az (PQ N v1):=
 fw Tryz.func233 (gR [[],[(7,oL v1.cO hJ)]])
def Gv(N:Nat):amT cY->Nat->amV Int
 |[],_=>
  some (-1:Int)
 |v4::v5,v2=>
  (PQ N v4).bind λv6=>
  bif v6 then
   some (v2:Int)
  else
   (Gv N v5 (v2+1))
def Ls(N:Nat)(v1:amT cY):amV Int:=
 Gv N v1 0
theorem aaR{N v1}:KP 276 [(.d (.sl (eB v1))),(.fn 233 [])] [] ar (λ_=>[]) (Ls N v1):=
 fh 0 Tryz.func276 (gA [[],[(4,oL v1 fF)]] (gT pI 0 v1 λh2=>e7 1 [] [0,1,7,8] 0 (λv2=>⟨19,[(0,(.d (.sl (eB v1)))),(1,(.fn 233 [])),(7,(ar (v1.length:Int))),(8,(ar (v2:Int)))],[]⟩) (λv2 h3 f1=>gH [[],[f0 (cf h3)],[]]) (λv2 v4 v5 h3 f1 aJ=>aw λv6 h4=>gA [[],[t0 (bZ h3)],[],[(10,oE (iB (bM h3))),(16,cK aa0 h4)]] (ax (λh5=>gH [[t0 h5],[]]) λh5=>gb aJ () [[f0 h5],[(2,oq (cC h3 rfl h2))]] h3))))
def Ll(N:Nat)(v1:amT cY):amV Bool:=
 (Ls N v1).bind λv2=>
 some (decide (v2>=0))
theorem akn{N v1}:KP 228 [(.d (.sl (eB v1))),(.fn 233 [])] [] az (λ_=>[]) (Ll N v1):=
 fh 0 Tryz.func228 (aw λv2 h1=>gH [[],[(7,oQ [(.d (.sl (eB v1))),(.fn 233 [])] [] [] (aaR _ h1))]])
def FU(N:Nat)(v1:ay):amV Bool:=
 (Hu N v1.aC).bind λv2=>
 Option.bind (bif ((v1.bD.length:Int) !=v2)then some true else some (decide ((v1.xIdx.length:Int)>6))) λv3=>
 bif v3 then
  some false
 else
  (Ll N v1.xIdx).bind λv4=>
  some (!v4)
theorem alp{N v1}:KO 153 [(aD v1)] az (FU N v1):=
 fw Tryz.func153 (gA [[]] (aw λv2 h1=>gG (λv3=>[(15,(az v3))]) (λ_=>[.cells (aD v1).cells]) (dc (7,oL v1.bD jr) (dc (16,cK afB h1) (ax (λh2=>gE [(7,bT h2)] []) λh2=>gE [(7,bF h2)] [(31,oL v1.xIdx fF)]))) λv3=>bn λh4=>aw λv4 h5=>gR [[f0 h4],[(7,oQ [(.d (.sl (eB v1.xIdx))),(.fn 233 [])] [.cells (aD v1).cells] [] (akn _ h5))]]))
def w7(N:Nat)(v1:ay):amV Bool:=
 Option.bind (bif (decide ((13:Int)<=v1.aC))then some (decide (v1.aC<=18))else some false) λv2=>
 some v2
theorem HC{N v1}:KO 52 [(aD v1)] az (w7 N v1):=
 fw Tryz.func52 (gA [[]] (gG (λv2=>[(2,(az v2))]) (λ_=>[.cells (aD v1).cells]) (ax (λh1=>gE [(3,bT h1)] []) λh1=>gE [(3,bF h1)] []) λv2=>gR []))
def EN(N:Nat)(v1:Int)(v2:Int)(v3:Bool):amV Bool:=
 bif v3 then
  some true
 else
  Option.bind (bif (v1==11)then some (v2==0)else some false) λv4=>
  some v4
def FC(N:Nat)(v1:Int)(v2:Int):amV Bool:=
 bif (v1==16)then
  EN N v1 v2 (v1==16)
 else
  bif (v1==17)then
   EN N v1 v2 (v1==17)
  else
   EN N v1 v2 (v1==18)
theorem abG{N v1 v2}:KO 234 [(ar v1),(ar v2)] az (FC N v1 v2):=
 fw Tryz.func234 (kC 1 [[],[],[]] [0,1,6] 0 (λ(v3:Bool)=>⟨16,[(0,(ar v1)),(1,(ar v2)),(6,(az v3))],[]⟩) (EN N v1 v2) (λf1 aJ=>ax (λh4=>gm aJ (v1==16) [[t0 h4]]) λh4=>gA [[f0 h4],[]] (ax (λh5=>gm aJ (v1==17) [[t0 h5]]) λh5=>gm aJ (v1==18) [[f0 h5],[]])) (λv3=>bn λh1=>gA [[f0 h1]] (gG (λv4=>[(4,(az v4))]) (λ_=>[]) (ax (λh2=>gE [(2,bT h2)] []) λh2=>gE [(2,bF h2)] []) λv4=>gR [])))
def J1(N:Nat)(v1:ay):amT ay->Nat->amV Bool
 |[],_=>
  some true
 |v7::v8,v5=>
  (w7 N v7).bind λv9=>
  Option.bind (FC N v1.aC (v5:Int)) λv10=>
  bif (v9==v10)then
   (J1 N v1 v8 (v5+1))
  else
   some false
def Hh(N:Nat)(v1:ay):amV Bool:=
 Option.bind (bif (v1.aC==1)then (mr N v1.aK).bind λv2=>
 some (v2 !=0)else(bif (v1.aC==12)then (mr N v1.aK).bind λv3=>
 some (v3 !=0)else some false)) λv4=>
 bif v4 then
  some false
 else
  J1 N v1 v1.bD 0
theorem ahi{N v1}:KO 154 [(aD v1)] az (Hh N v1):=
 fw Tryz.func154 (gA [[]] (gG (λv4=>[(18,(az v4))]) (λ_=>[.cells (aD v1).cells]) (ax (λh1=>aw λv2 h2=>gE [(3,bT h1),(8,bT rfl)] [(34,cK nQ h2)]) λh1=>cd (3,bF h1) (ax (λh3=>aw λv3 h4=>gE [(8,bT h3)] [(34,cK nQ h4)]) λh3=>gE [(8,bF h3)] [])) λv4=>bn λh6=>gA [[f0 h6],[(7,oL v1.bD jr)]] (gT qx 20 v1.bD λh8=>e7 1 [] [1,20,21,22] 1 (λv5=>⟨35,[(1,(.ptr 0 0)),(20,(.d (.sl (iG v1.bD)))),(21,(ar (v1.bD.length:Int))),(22,(ar (v5:Int)))],[.cells (aD v1).cells]⟩) (λv5 h9 f1=>gR [[],[f0 (cf h9)],[]]) (λv5 v7 v8 h9 f1 aJ=>aw λv9 aW=>aw λv10 aZ=>gA [[],[t0 (bZ h9)],[(4,oE (gY (bM h9)))],[(4,cK HC aW),(16,cK abG aZ)]] (fW λbj=>gb aJ () [[f0 (cH bj)],[(2,oq (cC h9 rfl h8))]] h9)))))
def x8(N:Nat)(v1:Int):amV Bool:=
 Option.bind (bif (decide (v1>=2))then some (decide (v1<=31))else some false) λv2=>
 some v2
theorem MI{N v1}:KO 292 [(ar v1)] az (x8 N v1):=
 fw Tryz.func292 (gA [[]] (gG (λv2=>[(2,(az v2))]) (λ_=>[]) (ax (λh1=>gE [(2,bT h1)] []) λh1=>gE [(2,bF h1)] []) λv2=>gR []))
def De(N:Nat)(v1:Int):amV Int64:=
 (x8 N v1).bind λv2=>
 bif v2 then
  bif (decide ((0:Int)<=(IntKind.u64.wrap (aE (v1-(1:Int))))))then
  some (-(Int64.ofInt ((1:Int)*2^(min ((IntKind.u64.wrap (aE (v1-(1:Int))))).toNat (IntKind.bits .i64)))))
  else none
 else
  some (0:Int64)
theorem QM{N v1}:KO 259 [(ar v1)] bk (De N v1):=
 fw Tryz.func259 (aw λv2 h1=>gA [[],[(4,cK MI h1)]] (fW λh2=>dG λh3=>gR [[f0 (cH h2)],[(10,⟨_,_, .nn (b:=(IntKind.u64.wrap (aE (v1-(1:Int))))) (of_decide_eq_true h3)⟩),(11,⟨_,_, .eq (gP ((1:Int)*2^(min ((IntKind.u64.wrap (aE (v1-(1:Int))))).toNat (IntKind.bits .i64))))⟩),(14,⟨_,_, .eq (kG (Int64.ofInt ((1:Int)*2^(min ((IntKind.u64.wrap (aE (v1-(1:Int))))).toNat (IntKind.bits .i64)))))⟩)]]))
def Fe(N:Nat)(v1:Int):amV Int64:=
 (x8 N v1).bind λv2=>
 bif v2 then
  bif (decide ((0:Int)<=(IntKind.u64.wrap (aE (v1-(1:Int))))))then
  some ((Int64.ofInt ((1:Int)*2^(min ((IntKind.u64.wrap (aE (v1-(1:Int))))).toNat (IntKind.bits .i64))))-(1:Int64))
  else none
 else
  some (0:Int64)
theorem V2{N v1}:KO 260 [(ar v1)] bk (Fe N v1):=
 fw Tryz.func260 (aw λv2 h1=>gA [[],[(4,cK MI h1)]] (fW λh2=>dG λh3=>gR [[f0 (cH h2)],[(10,⟨_,_, .nn (b:=(IntKind.u64.wrap (aE (v1-(1:Int))))) (of_decide_eq_true h3)⟩),(11,⟨_,_, .eq (gP ((1:Int)*2^(min ((IntKind.u64.wrap (aE (v1-(1:Int))))).toNat (IntKind.bits .i64))))⟩),(14,⟨_,_, .eq (kV (Int64.ofInt ((1:Int)*2^(min ((IntKind.u64.wrap (aE (v1-(1:Int))))).toNat (IntKind.bits .i64)))) (1:Int64))⟩)]]))
def rz(N:Nat)(v1:aP)(v2:aB):amV Bool:=
 (ta N v1).bind λv3=>
 Option.bind (bif (v3==0)then(bif (v2.xD.toInt==1)then (De N v1.bG).bind λv4=>
 (bif (decide (v2.xN.toInt>=v4.toInt))then (Fe N v1.bG).bind λv5=>
 some (decide (v2.xN.toInt<=v5.toInt))else some false)else some false)else some false) λv6=>
 some v6
theorem Ny{N v1 v2}:KO 201 [(bE v1),(aT v2)] az (rz N v1 v2):=
 fw Tryz.func201 (gA [[]] (aw λv3 h1=>gG (λv6=>[(4,(az v6))]) (λ_=>[.cells (bE v1).cells, .cells (aT v2).cells]) (dc (4,cK FI h1) (ax (λh2=>cd (3,bT h2) (ax (λh3=>aw λv4 h4=>cd (8,bT h3) (dc (40,cK QM h4) (ax (λh5=>aw λv5 h6=>gE [(16,bT h5)] [(64,cK V2 h6)]) λh5=>gE [(16,bF h5)] []))) λh3=>gE [(8,bF h3),(16,bF rfl)] [])) λh2=>gE [(3,bF h2),(8,bF rfl),(16,bF rfl)] [])) λv6=>gR []))
def o0(N:Nat)(v1:Int64):amV Bool:=
 Option.bind (bif (decide (v1.toInt>=(-2147483647:Int)))then some (decide (v1.toInt<=2147483647))else some false) λv2=>
 some v2
theorem yR{N v1}:KO 202 [(bk v1)] az (o0 N v1):=
 fw Tryz.func202 (gA [[]] (gG (λv2=>[(2,(az v2))]) (λ_=>[]) (ax (λh1=>gE [(2,bT h1)] []) λh1=>gE [(2,bF h1)] []) λv2=>gR []))
def Nl(N:Nat)(v1:Int64):amV Bool:=
 Option.bind (bif (decide (v1.toInt>=(-2147483647:Int)))then some (decide (v1.toInt<=2147483647))else some false) λv2=>
 some v2
theorem aeg{N v1}:KO 261 [(bk v1)] az (Nl N v1):=
 fw Tryz.func261 (gA [[]] (gG (λv2=>[(2,(az v2))]) (λ_=>[]) (ax (λh1=>gE [(2,bT h1)] []) λh1=>gE [(2,bF h1)] []) λv2=>gR []))
def yF(N:Nat)(v1:Int64):amV Int:=
 bif (decide (v1.toInt<0))then
  some (IntKind.u64.wrap (0-(IntKind.u64.wrap v1.toInt)))
 else
  some (IntKind.u64.wrap v1.toInt)
theorem K1{N v1}:KO 263 [(bk v1)] (λr=> .d (.v (.int .u64 r))) (yF N v1):=
 fw Tryz.func263 (gA [[],[]] (bn λh1=>gR [[f0 h1],[]]))
def Ds(N:Nat):Nat->Int->Int->amV Int
 |0,_,_=>none
 |v3+1,v4,v5=>
  bif (v5 !=0)then
   (λcu fv=>Ds N v3 cu fv) v5 ((v4).tmod v5)
  else
   some v4
def zS(N:Nat)(v1:Int)(v2:Int):amV Int:=
 Ds N N v1 v2
theorem Y2{N v1 v2}:KO 262 [(.d (.v (.int .u64 v1))),(.d (.v (.int .u64 v2)))] (λr=> .d (.v (.int .u64 r))) (zS N v1 v2):=
 fw Tryz.func262 (PU 1 [[]] [0,1] 0 (λ(v4:Int)(v5:Int)=>⟨12,[(0,(.d (.v (.int .u64 v4)))),(1,(.d (.v (.int .u64 v5))))],[]⟩) (Ds N) (λv3 v4 v5 f1 aJ=>gA [[]] (jL λh1=>AJ aJ (v5,((v4).tmod v5)) [[t0 h1],[(10,⟨_,_, .nz (b:=v5) (bne_iff_ne.1 h1)⟩)]])))
def j9(N:Nat)(v1:aB):amV Bool:=
 Option.bind (bif (decide (v1.xD.toInt>=1))then(bif (decide (v1.xD.toInt<=2147483647))then (Nl N v1.xN).bind λv2=>
 (bif v2 then (yF N v1.xN).bind λv3=>
 Option.bind (zS N v3 (IntKind.u64.wrap v1.xD.toInt)) λv4=>
 some (v4==1)else some false)else some false)else some false) λv5=>
 some v5
theorem mO{N v1}:KO 203 [(aT v1)] az (j9 N v1):=
 fw Tryz.func203 (gA [[]] (gG (λv5=>[(2,(az v5))]) (λ_=>[.cells (aT v1).cells]) (ax (λh1=>cd (3,bT h1) (ax (λh2=>aw λv2 h3=>cd (8,bT h2) (dc (34,cK aeg h3) (ax (λh4=>aw λv3 h5=>aw λv4 h6=>gE [(13,bT h4)] [(49,cK K1 h5),(61,cK Y2 h6)]) λh4=>gE [(13,bF h4)] []))) λh2=>gE [(8,bF h2),(13,bF rfl)] [])) λh1=>gE [(3,bF h1),(8,bF rfl),(13,bF rfl)] []) λv5=>gR []))
def nD(N:Nat)(v1:aP)(v2:aB):amV Bool:=
 (mr N v1).bind λv3=>
 bif (v3 !=0)then
  some false
 else
  bif (v1.bu==2)then
   (rz N v1 v2).bind λv4=>
   some v4
  else
   bif (v1.bu==3)then
    Option.bind (bif (v2.xD.toInt==1)then (o0 N v2.xN).bind λv5=>
    some v5 else some false) λv6=>
    some v6
   else
    (j9 N v2).bind λv7=>
    some v7
theorem tY{N v1 v2}:KO 118 [(bE v1),(aT v2)] az (nD N v1 v2):=
 fw Tryz.func118 (aw λv3 h1=>gA [[],[(4,cK nQ h1)]] (bn λh2=>gA [[f0 h2],[],[]] (ax (λh3=>aw λv4 h4=>gR [[t0 h3],[(7,cK Ny h4)]]) λh3=>gA [[f0 h3],[]] (ax (λh5=>gA [[t0 h5]] (gG (λv6=>[(4,(az v6))]) (λ_=>[.cells (bE v1).cells, .cells (aT v2).cells]) (ax (λh6=>aw λv5 h7=>gE [(3,bT h6)] [(19,cK yR h7)]) λh6=>gE [(3,bF h6)] []) λv6=>gR [])) λh5=>aw λv7 h9=>gR [[f0 h5],[(4,cK mO h9)]]))))
def Nx(N:Nat)(v1:ay):amV ay:=some v1
theorem agG{N v1 r}(J:Nx N v1=some r):ga Tryz.prog 155 [(aD v1)] (·=(.fn 235 [(.bp [eH r] 0 0)])):=by
 cases J;exact aa1 v1
def uv(N:Nat):amT cn->amV Int
 |[]=>
  some (0:Int)
 |v9::v10=>
  (yv N v9).bind λv11=>
  bif (v11 !=0)then
   some (1:Int)
  else
   (uv N v10)
def Cd(N:Nat)(v1:ay):amV Int:=
 (Gu N v1).bind λv2=>
 bif v2 then
  (Gm N v1).bind λv3=>
  bif v3 then
   (FU N v1).bind λv4=>
   bif v4 then
    (Hh N v1).bind λv5=>
    bif v5 then
     Option.bind (bif (v1.aC==1)then (nD N v1.aK v1.dR).bind λv6=>
     some (!v6)else some false) λv7=>
     bif v7 then
      some (1:Int)
     else
      (Nx N v1).bind λv8=>
      uv N (od v8)
    else
     some (10:Int)
   else
    some (11:Int)
  else
   some (7:Int)
 else
  some (5:Int)
def lB(v1:ay)(l:amT aq):amT aq:= .cells (aD v1).cells:: .cells [(ar (0:Int))]::l
def vl(v1:ay)(l:amT aq):amT aq:= .cells (aD v1).cells::l
theorem adN{N v1 r}(J:Cd N v1=some r):KF 90 [(aD v1)] (ar r):=by
 rw[Cd]at J;refine lO Tryz.func90 rfl (by kernel_rfl) ?_;refine ft [0] 0 (amg _) (s':=⟨38,[(0,(aD v1))],[]⟩) (by kernel_rfl) ?_;refine au ?_;refine rg [] [(1,(.ptr 0 0)),(2,(.ptr 1 0))] (lB v1 []) (by kernel_rfl) ?_;refine au ?_;refine dn ?_;refine au ?_;obtain⟨v2,h1,J⟩:=bm J;refine rg [(4,cK ali h1)] [(4,(az (!v2)))] (lB v1 []) (by kernel_rfl) ?_;rcases dw v2 with h2|h2
 ·replace J:=(c7 h2).symm.trans J;refine dm (t:=(!v2)) (by kernel_rfl) (cH h2) ?_;refine au ?_;obtain⟨v3,h3,J⟩:=bm J;refine rg [(4,cK aaq h3)] [(8,(az (!v3)))] (lB v1 []) (by kernel_rfl) ?_;rcases dw v3 with h4|h4
  ·replace J:=(c7 h4).symm.trans J;refine dm (t:=(!v3)) (by kernel_rfl) (cH h4) ?_;refine au ?_;obtain⟨v4,h5,J⟩:=bm J;refine rg [(4,cK alp h5)] [(12,(az (!v4)))] (lB v1 []) (by kernel_rfl) ?_;rcases dw v4 with h6|h6
   ·replace J:=(c7 h6).symm.trans J;refine dm (t:=(!v4)) (by kernel_rfl) (cH h6) ?_;refine au ?_;obtain⟨v5,h7,J⟩:=bm J;refine rg [(4,cK ahi h7)] [(16,(az (!v5)))] (lB v1 []) (by kernel_rfl) ?_;rcases dw v5 with h8|h8
    ·replace J:=(c7 h8).symm.trans J;refine dm (t:=(!v5)) (by kernel_rfl) (cH h8) ?_;refine au ?_;obtain⟨v7,aZ,J⟩:=bm J;refine A8 [(20,(az v7))] (lB v1 []) ?_ ?_
     ·rcases dw (v1.aC==1)with h9|h9
      ·replace aZ:=(c7 h9).symm.trans aZ;obtain⟨v6,aW,aZ⟩:=bm aZ;have he:=amo aZ;subst he;exact⟨[(12,bT h9),(15,bT h9),(18,bT h9),(21,bT h9),(24,bT h9),(25,cK tY aW),(27,bT h9),(31,bT h9)],by kernel_rfl⟩
      replace aZ:=(du h9).symm.trans aZ;have he:=amo aZ;subst he;exact⟨[(12,bF h9),(15,bF h9),(18,bF h9),(21,bF h9),(24,bF h9),(27,bF h9),(31,bF h9)],by kernel_rfl⟩
     rcases dw v7 with bj|bj
     ·replace J:=(c7 bj).symm.trans J;refine cS (t:=v7) (by kernel_rfl) bj ?_;refine au ?_;refine rg [] [] (vl v1 [.cells [(ar (1:Int))]]) (by kernel_rfl) ?_;refine cU (dS (cT ?_));have hr:=amo J;subst hr;exact eJ (by kernel_rfl)
     replace J:=(du bj).symm.trans J;refine dm (t:=v7) (by kernel_rfl) bj ?_;refine ct ?_;refine dU ?_;refine aM ?_;refine au ?_;refine au ?_;obtain⟨v8,bC,J⟩:=bm J;refine rg [(4,cL (agG bC))] [(33,(.fn 235 [(.bp [eH v8] 0 0)]))] (lB v1 []) (by kernel_rfl) ?_;refine dn ?_;refine ft [2,33] 2 (amd rfl) (s':=⟨38,[(2,(.ptr 1 0)),(33,(.fn 235 [(.bp [eH v8] 0 0)]))],(lB v1 [])⟩) (by kernel_rfl) ?_;refine xm (m:=2) (enc:=dT) (xs:=(od v8)) (by kernel_rfl) (aa6 v8) (λ(_:Unit)=>(lB v1 [])) (λ(_:Unit) l=>uv N l=some r) () (by kernel_rfl) J (by rintro _;rfl) (by rintro _;kernel_rfl) (by kernel_rfl) rfl ?_ ?_
     ·rintro _ v9 v10 J bJ cA cB
      try dsimp only at J
      rw[uv]at J;refine ft [2,34] 3 (amg _) (s':=⟨38,[(2,(.ptr 1 0)),(34,(dT v9))],(lB v1 [.lp .ready 34 cA cB (dt 38 [(2,(.ptr 1 0)),(33,(.fn 235 [(.bp [eH v8] 0 0)]))])])⟩) (by kernel_rfl) ?_;refine re [] [(3,(.ptr 3 0))] (lB v1 [.lp .ready 34 cA cB (dt 38 [(2,(.ptr 1 0)),(33,(.fn 235 [(.bp [eH v8] 0 0)]))]), .cells (dT v9).cells]) (by kernel_rfl) ?_;refine aM ?_;refine⟨(lB v1 []),[.cells (dT v9).cells],rfl,(by kernel_rfl),?_⟩;refine ft [2,3] 4 (amd rfl) (s':=⟨38,[(2,(.ptr 1 0)),(3,(.ptr 3 0))],(lB v1 [.lp .busy 34 cA cB (dt 38 [(2,(.ptr 1 0)),(33,(.fn 235 [(.bp [eH v8] 0 0)]))]), .cells (dT v9).cells])⟩) (by kernel_rfl) ?_;refine dn ?_;refine au ?_;obtain⟨v11,bH,J⟩:=bm J;refine rg [(4,cK Kg bH)] [(37,(az (v11 !=0)))] (lB v1 [.lp .busy 34 cA cB (dt 38 [(2,(.ptr 1 0)),(33,(.fn 235 [(.bp [eH v8] 0 0)]))]), .cells (dT v9).cells]) (by kernel_rfl) ?_;rcases dw (v11 !=0)with bY|bY
      ·replace J:=(c7 bY).symm.trans J;refine cS (t:=(v11 !=0)) (by kernel_rfl) bY ?_;refine au ?_;refine rg [] [] (vl v1 [.cells [(ar (1:Int))], .lp .busy 34 cA cB (dt 38 [(2,(.ptr 1 0)),(33,(.fn 235 [(.bp [eH v8] 0 0)]))]), .cells (dT v9).cells]) (by kernel_rfl) ?_;refine cU (dS ?_);refine CN (vl v1 [.cells [(ar (1:Int))]]) rfl (by kernel_rfl) (by kernel_rfl) ?_;refine(dS (cT ?_));have hr:=amo J;subst hr;exact eJ (by kernel_rfl)
      replace J:=(du bY).symm.trans J;refine dm (t:=(v11 !=0)) (by kernel_rfl) bY ?_;refine ct ?_;refine dU ?_;refine yB (lB v1 []) rfl (by kernel_rfl) (by kernel_rfl) ?_;exact⟨(),(by kernel_rfl),J⟩
     rintro _ J
     try dsimp only at J
     rw[uv]at J;refine dU ?_;refine aM ?_;refine au ?_;refine rg [] [] (lB v1 [.gone]) (by kernel_rfl) ?_;refine cU ?_;have hr:=amo J;subst hr;exact eJ (by kernel_rfl)
    replace J:=(du h8).symm.trans J;refine cS (t:=(!v5)) (by kernel_rfl) (dj h8) ?_;refine au ?_;refine rg [] [] (vl v1 [.cells [(ar (10:Int))]]) (by kernel_rfl) ?_;refine cU (dS (cT ?_));have hr:=amo J;subst hr;exact eJ (by kernel_rfl)
   replace J:=(du h6).symm.trans J;refine cS (t:=(!v4)) (by kernel_rfl) (dj h6) ?_;refine au ?_;refine rg [] [] (vl v1 [.cells [(ar (11:Int))]]) (by kernel_rfl) ?_;refine cU (dS (cT ?_));have hr:=amo J;subst hr;exact eJ (by kernel_rfl)
  replace J:=(du h4).symm.trans J;refine cS (t:=(!v3)) (by kernel_rfl) (dj h4) ?_;refine au ?_;refine rg [] [] (vl v1 [.cells [(ar (7:Int))]]) (by kernel_rfl) ?_;refine cU (dS (cT ?_));have hr:=amo J;subst hr;exact eJ (by kernel_rfl)
 replace J:=(du h2).symm.trans J;refine cS (t:=(!v2)) (by kernel_rfl) (dj h2) ?_;refine au ?_;refine rg [] [] (vl v1 [.cells [(ar (5:Int))]]) (by kernel_rfl) ?_;refine cU (dS (cT ?_));have hr:=amo J;subst hr;exact eJ (by kernel_rfl)
def eD:aP:=⟨(0:Int),(0:Int),(0:Int),(0:Int),(0:Int)⟩
def UY:jF:=⟨(0:Int),(0:Int),(0:Int)⟩
def mV:aU:=⟨eD,[],[]⟩
def xM:amT AV:=[(ar (0:Int)),(ar (0:Int)),(ar (0:Int)),(ar (0:Int)),(ar (0:Int))]
def PO:amT AV:=[(ar (0:Int)),(ar (0:Int)),(ar (0:Int)),(ar (0:Int)),(ar (0:Int)),(.d (.v (.slice none 0 0))),(.d (.v (.slice none 0 0)))]
def vm(N:Nat):amT ay->amV Int
 |[]=>
  some (0:Int)
 |v5::v6=>
  (Cd N v5).bind λv7=>
  bif (v7 !=0)then
   some v7
  else
   (vm N v6)
def xw(N:Nat)(v1:ay):amV Int:=
 (NV N v1).bind λv2=>
 bif (decide (v2>40))then
  some (13:Int)
 else
  (Dc N v1).bind λv3=>
  bif (decide (v3>2000))then
   some (2:Int)
  else
   (Ch N v1).bind λv4=>
   vm N (eO v4)
def ou(v1:ay)(l:amT aq):amT aq:= .cells (aD v1).cells:: .cells [(ar (0:Int))]::l
def Mo(v1:ay)(cA:Code)(cB:Code)(v4:ay)(v5:ay)(l:amT aq):amT aq:=ou v1 (.lp .busy 13 cA cB (dt 19 [(2,(.ptr 1 0)),(12,(.fn 149 [(.bp [eH v4] 0 0)]))]):: .cells (aD v5).cells::l)
def Db(v1:ay)(l:amT aq):amT aq:= .cells (aD v1).cells::l
theorem KR{N v1 r}(J:xw N v1=some r):KF 51 [(aD v1)] (ar r):=by
 rw[xw]at J;refine lO Tryz.func51 rfl (by kernel_rfl) ?_;refine ft [0] 0 (amg _) (s':=⟨19,[(0,(aD v1))],[]⟩) (by kernel_rfl) ?_;refine au ?_;refine rg [] [(1,(.ptr 0 0)),(2,(.ptr 1 0))] (ou v1 []) (by kernel_rfl) ?_;refine au ?_;refine au ?_;obtain⟨v2,h1,J⟩:=bm J;refine rg [(4,cK ahl h1)] [(7,(az (decide (v2>40))))] (ou v1 []) (by kernel_rfl) ?_;rcases dw (decide (v2>40))with h2|h2
 ·replace J:=(c7 h2).symm.trans J;refine cS (t:=(decide (v2>40))) (by kernel_rfl) h2 ?_;refine au ?_;refine rg [] [] (Db v1 [.cells [(ar (13:Int))]]) (by kernel_rfl) ?_;refine cU (cT ?_);have hr:=amo J;subst hr;exact eJ (by kernel_rfl)
 replace J:=(du h2).symm.trans J;refine dm (t:=(decide (v2>40))) (by kernel_rfl) h2 ?_;refine ct ?_;refine aM ?_;refine au ?_;refine au ?_;obtain⟨v3,h3,J⟩:=bm J;refine rg [(4,cL (abJ h3))] [(10,(az (decide (v3>2000))))] (ou v1 []) (by kernel_rfl) ?_;rcases dw (decide (v3>2000))with h4|h4
 ·replace J:=(c7 h4).symm.trans J;refine cS (t:=(decide (v3>2000))) (by kernel_rfl) h4 ?_;refine au ?_;refine rg [] [] (Db v1 [.cells [(ar (2:Int))]]) (by kernel_rfl) ?_;refine cU (cT ?_);have hr:=amo J;subst hr;exact eJ (by kernel_rfl)
 replace J:=(du h4).symm.trans J;refine dm (t:=(decide (v3>2000))) (by kernel_rfl) h4 ?_;refine ct ?_;refine aM ?_;refine au ?_;refine au ?_;obtain⟨v4,h5,J⟩:=bm J;refine rg [(4,cL (NF h5))] [(12,(.fn 149 [(.bp [eH v4] 0 0)]))] (ou v1 []) (by kernel_rfl) ?_;refine dn ?_;refine ft [2,12] 2 (amd rfl) (s':=⟨19,[(2,(.ptr 1 0)),(12,(.fn 149 [(.bp [eH v4] 0 0)]))],(ou v1 [])⟩) (by kernel_rfl) ?_;refine xm (m:=2) (enc:=aD) (xs:=(eO v4)) (by kernel_rfl) (Lk v4) (λ(_:Unit)=>(ou v1 [])) (λ(_:Unit) l=>vm N l=some r) () (by kernel_rfl) J (by rintro _;rfl) (by rintro _;kernel_rfl) (by kernel_rfl) rfl ?_ ?_
 ·rintro _ v5 v6 J h6 cA cB
  try dsimp only at J
  rw[vm]at J;refine ft [2,13] 3 (amg _) (s':=⟨19,[(2,(.ptr 1 0)),(13,(aD v5))],(ou v1 [.lp .ready 13 cA cB (dt 19 [(2,(.ptr 1 0)),(12,(.fn 149 [(.bp [eH v4] 0 0)]))])])⟩) (by kernel_rfl) ?_;refine re [] [(3,(.ptr 3 0))] (ou v1 [.lp .ready 13 cA cB (dt 19 [(2,(.ptr 1 0)),(12,(.fn 149 [(.bp [eH v4] 0 0)]))]), .cells (aD v5).cells]) (by kernel_rfl) ?_;refine aM ?_;refine⟨(ou v1 []),(Db v5 []),rfl,(by kernel_rfl),?_⟩;refine ft [2,3] 4 (amd rfl) (s':=⟨19,[(2,(.ptr 1 0)),(3,(.ptr 3 0))],(Mo v1 cA cB v4 v5 [])⟩) (by kernel_rfl) ?_;refine dn ?_;refine au ?_;obtain⟨v7,h7,J⟩:=bm J;refine rg [(4,cL (adN h7))] [(4,(ar v7))] (Mo v1 cA cB v4 v5 []) (by kernel_rfl) ?_;refine au ?_;refine rg [] [(17,(az (v7 !=0)))] (Mo v1 cA cB v4 v5 []) (by kernel_rfl) ?_;rcases dw (v7 !=0)with h8|h8
  ·replace J:=(c7 h8).symm.trans J;refine cS (t:=(v7 !=0)) (by kernel_rfl) h8 ?_;refine au ?_;refine rg [] [] (Db v1 [.cells [(ar v7)], .lp .busy 13 cA cB (dt 19 [(2,(.ptr 1 0)),(12,(.fn 149 [(.bp [eH v4] 0 0)]))]), .cells (aD v5).cells]) (by kernel_rfl) ?_;refine cU (dS ?_);refine CN (Db v1 [.cells [(ar v7)]]) rfl (by kernel_rfl) (by kernel_rfl) ?_;refine(dS (cT ?_));have hr:=amo J;subst hr;exact eJ (by kernel_rfl)
  replace J:=(du h8).symm.trans J;refine dm (t:=(v7 !=0)) (by kernel_rfl) h8 ?_;refine ct ?_;refine dU ?_;refine yB (ou v1 []) rfl (by kernel_rfl) (by kernel_rfl) ?_;exact⟨(),(by kernel_rfl),J⟩
 rintro _ J
 try dsimp only at J
 rw[vm]at J;refine dU ?_;refine aM ?_;refine au ?_;refine rg [] [] (ou v1 [.gone]) (by kernel_rfl) ?_;refine cU ?_;have hr:=amo J;subst hr;exact eJ (by kernel_rfl)
def Sn(N:Nat)(v3:amT (amU×Int)):amT dP->Nat->amV Int
 |[],_=>
  some (0:Int)
 |v6::v7,v4=>
  bif ((iU v3 v6.bo 0)==0)then
   some (9:Int)
  else
   (Sn N v3 v7 (v4+1))
def Gt(N:Nat)(v1:cn)(v2:dh)(v3:amT (amU×Int)):amV Int:=
 Sn N v3 v1.xL 0
theorem O7{N v1 v2 v3}:KP 288 [(.ptr 0 0),(dT v1)] [.cells (fI v2 [(.mp 1)]), .map (ff v3)] ar (λ_=>[.cells (fI v2 [(.mp 1)]), .map (ff v3)]) (Gt N v1 v2 v3):=
 fh 2 Tryz.func288 (gA [[],[(7,oL v1.xL lq)]] (gT Al 8 v1.xL λh2=>e7 1 [] [0,8,9,10] 3 (λv4=>⟨23,[(0,(.ptr 0 0)),(8,(.d (.sl (gq v1.xL)))),(9,(ar (v1.xL.length:Int))),(10,(ar (v4:Int)))],[.cells (fI v2 [(.mp 1)]), .map (ff v3), .cells (dT v1).cells]⟩) (λv4 h3 f1=>gH [[],[f0 (cf h3)],[]]) (λv4 v6 v7 h3 f1 aJ=>gA [[],[t0 (bZ h3)],[(1,oE (nK (bM h3)))],[(20,⟨_,_, .eq (Dd false v3 v6.bo)⟩)]] (ax (λh4=>gH [[t0 h4],[]]) λh4=>gb aJ () [[f0 h4],[(2,oq (cC h3 rfl h2))]] h3))))
def R3(N:Nat)(v1:amT dP):amV (amT dP):=bif Nat.ble (v1.length*24) 140737488355328 then some v1 else none
theorem ah5{N v1 r}(J:R3 N v1=some r):ga Tryz.prog 222 [(.d (.sl (gq v1)))] (·=(.d (.sl (gq r)))):=by
 obtain⟨hb,rfl⟩:=eu J;have hc:=mJ hb (by decide);exact aeR TA (by rw[lq];exact hc.1) (by rw[lq];exact hc.2)
def PJ(N:Nat)(v1:cn):amV cn:=
 (R3 N v1.xL).bind λv2=>
 some (⟨v1.xK,v2⟩:cn)
theorem Yy{N v1}:KO 134 [(dT v1)] dT (PJ N v1):=
 fw Tryz.func134 (aw λv2 h1=>gR [[],[(13,cL (ah5 h1))]])
def WG(N:Nat):amT cn->Nat->(amT cn)->amV ((amT cn))
 |[],_,v6=>
  some v6
 |v4::v5,v2,v6=>
  (PJ N v4).bind λv7=>
  bif (Nat.ble ((v6.length+1)*32) 140737488355328)then
  (λcu=>WG N v5 (v2+1) cu) (v6++[v7])
  else none
def Rx(N:Nat)(v1:amT cn):amV ((amT cn)):=
 WG N v1 0 []
theorem akD{N v1}:KO 132 [(.d (.sl (gg v1)))] (λr=> .d (.sl (gg r))) (Rx N v1):=
 fw Tryz.func132 (gA [[],[],[(4,oL v1 hJ)]] (li (λ_=>(uM 3 48 2 [] (.inr (by kernel_rfl)) ·)) (gT rM 0 v1 λh2=>gd 1 [] [3,6,7,8] 1 (λv2(v6:amT cn)=>⟨19,[(3,(.own 0 (gg v6))),(6,(.d (.sl (gg v1)))),(7,(ar (v1.length:Int))),(8,(ar (v2:Int)))],[.front 48 2 v6.length]⟩) (λv2 v6 h3 f1=>gR [[],[f0 (cf h3)],[]]) (λv2 v4 v5 v6 h3 f1 aJ=>aw λv7 h4=>dG λh5=>gb aJ (v6++[v7]) [[],[t0 (bZ h3)],[(1,oE (sr (bM h3)))],[(7,cK Yy h4),(13,oA rM v6 ([v7]) h5)],[(2,oq (cC h3 rfl h2))]] h3))))
def RO(N:Nat)(v1:et)(v2:amU):amV Bool:=
 some (bL v1.bo==bL v2)
theorem ad5{N v1 v2}:KP 221 [(gj v1),(.ptr 0 0)] [.cells [(di v2)]] az (λ_=>[.cells [(di v2)]]) (RO N v1 v2):=
 fh 1 Tryz.func221 (gH [[],[]])
def QX(N:Nat)(v2:amU):amT et->Nat->amV Int
 |[],_=>
  some (-1:Int)
 |v5::v6,v3=>
  (RO N v5 v2).bind λv7=>
  bif v7 then
   some (v3:Int)
  else
   (QX N v2 v6 (v3+1))
def Zj(N:Nat)(v1:amT et)(v2:amU):amV Int:=
 QX N v2 v1 0
theorem abi{N v1 v2}:KP 220 [(.d (.sl (jd v1))),(.fn 221 [(.ptr 0 0)])] [.cells [(di v2)]] ar (λ_=>[.cells [(di v2)]]) (Zj N v1 v2):=
 fh 1 Tryz.func220 (gA [[],[(4,oL v1 xx)]] (gT No 0 v1 λh2=>e7 1 [] [0,1,7,8] 1 (λv3=>⟨19,[(0,(.d (.sl (jd v1)))),(1,(.fn 221 [(.ptr 0 0)])),(7,(ar (v1.length:Int))),(8,(ar (v3:Int)))],[.cells [(di v2)]]⟩) (λv3 h3 f1=>gH [[],[f0 (cf h3)],[]]) (λv3 v5 v6 h3 f1 aJ=>aw λv7 h4=>gA [[],[t0 (bZ h3)],[],[(10,oE (Ae (bM h3))),(16,oQ [(gj v5),(.ptr 0 0)] [.cells [(di v2)]] [0] (ad5 _ h4))]] (ax (λh5=>gH [[t0 h5],[]]) λh5=>gb aJ () [[f0 h5],[(2,oq (cC h3 rfl h2))]] h3))))
def Rw(N:Nat)(v1:dh)(v2:amU):amV Int:=
 (Zj N v1.gz v2).bind λv3=>
 some v3
theorem ab5{N v1 v2}:KO 133 [(fg v1),(di v2)] ar (Rw N v1 v2):=
 fw Tryz.func133 (aw λv3 h1=>gR [[],[(10,oQ [(.d (.sl (jd v1.gz))),(.fn 221 [(.ptr 1 0)])] [.cells (fg v1).cells, .cells [(di v2)]] [1] (abi _ h1))]])
def Xk(N:Nat)(v8:et):amT fj->Nat->(amT cn)->amV (aP×(amT cn)×Bool)
 |[],_,aF=>
  some (v8.aK,aF,true)
 |v11::v12,v9,aF=>
  (PJ N v11.qU).bind λaI=>
  bif (Nat.ble ((aF.length+1)*32) 140737488355328)then
  (λiv=>Xk N v8 v12 (v9+1) iv) (aF++[aI])
  else none
def U5(N:Nat)(v1:dh)(v2:amU):amT ju->Nat->amV (aP×(amT cn)×Bool)
 |[],_=>
  (Rw N v1 v2).bind λv7=>
  bif (decide (v7>=0))then
   bif (decide ((0:Int)<=v7))then
   Option.bind (v1.gz[(v7).toNat]?) λv8=>
   Xk N v8 v8.bS 0 []
   else none
  else
   some (eD,[],false)
 |v5::v6,v3=>
  bif (bL v5.bo==bL v2)then
   (Rx N v5.bS).bind λbg=>
   some (v5.aK,bg,true)
  else
   (U5 N v1 v2 v6 (v3+1))
def Iu(N:Nat)(v1:dh)(v2:amU):amV (aP×(amT cn)×Bool):=
 U5 N v1 v2 v1.fz 0
theorem Ld{N v1 v2}:KO 78 [(fg v1),(di v2)] (λr=> .aY [(bE r.1),(.d (.sl (gg r.2.1))),(az r.2.2)]) (Iu N v1 v2):=
 fw Tryz.func78 (gA [[],[(7,oL v1.fz As)]] (gT Y1 14 v1.fz λh2=>e7 1 [] [1,2,4,14,15,16] 2 (λv3=>⟨61,[(1,(di v2)),(2,(.ptr 0 0)),(4,(.ptr 1 0)),(14,(.d (.sl (kT v1.fz)))),(15,(ar (v1.fz.length:Int))),(16,(ar (v3:Int)))],[.cells (fg v1).cells, .cells xM]⟩) (λv3 h3 f1=>aw λv7 h4=>gA [[],[f0 (cf h3)],[(7,cK ab5 h4)],[]] (jL λh5=>dG λh7=>aw λv8 h6=>gA [[t0 h5],[],[(10,⟨_,_, .el (xs:=jd v1.gz) (i:=v7) (of_decide_eq_true h7) (Ae h6)⟩),(19,oL v8.bS nh)]] (li (λ_=>(uM 10 48 2 [] (.inr (by kernel_rfl)) ·)) (gT Az 40 v8.bS λh9=>gd 2 [] [2,4,9,10,40,41,42] 3 (λv9(aF:amT cn)=>⟨61,[(2,(.ptr 0 0)),(4,(.ptr 1 0)),(9,(ar v7)),(10,(.own 2 (gg aF))),(40,(.d (.sl (iO v8.bS)))),(41,(ar (v8.bS.length:Int))),(42,(ar (v9:Int)))],[.cells (fg v1).cells, .cells xM, .front 48 2 aF.length]⟩) (λv9 aF aW f2=>gR [[],[f0 (cf aW)],[(10,⟨_,_, .el (xs:=jd v1.gz) (i:=v7) (of_decide_eq_true h7) (Ae h6)⟩)]]) (λv9 v11 v12 aF aW f2 eK=>aw λaI aZ=>dG λbj=>gb eK (aF++[aI]) [[],[t0 (bZ aW)],[(1,oE (D0 (bM aW)))],[(10,cK Yy aZ),(16,oA rM aF ([aI]) bj)],[(2,oq (cC aW rfl h9))]] aW))))) (λv3 v5 v6 h3 f1 aJ=>gA [[],[t0 (bZ h3)],[(1,oE (Ms (bM h3)))],[]] (ax (λbC=>aw λbg bJ=>gR [[t0 bC],[(13,cK akD bJ)]]) λbC=>gb aJ () [[f0 bC],[(2,oq (cC h3 rfl h2))]] h3))))
def Zo(N:Nat)(v2:dh)(v3:amT (amU×Int)):amT cn->Nat->amV Int
 |[],_=>
  some (0:Int)
 |v8::v9,v6=>
  (Gt N v8 v2 v3).bind λv10=>
  bif (v10 !=0)then
   some v10
  else
   (Zo N v2 v3 v9 (v6+1))
def Yh(N:Nat)(v1:cY)(v2:dh)(v3:amT (amU×Int)):amV Int:=
 bif (bL v1.dA==bL (bs []))then
  (Gt N v1.cm v2 v3).bind λv4=>
  some v4
 else
  (Iu N v2 v1.dA).bind λv5=>
  bif v5.2.2 then
   bif (v5.1.bu !=3)then
    some (10:Int)
   else
    bif ((v1.cO.length:Int) !=(v5.2.1.length:Int))then
     some (11:Int)
    else
     Zo N v2 v3 v1.cO 0
  else
   some (9:Int)
def Qk(v2:dh)(v3:amT (amU×Int))(v1:cY)(l:amT aq):amT aq:= .cells (fI v2 [(.mp 1)]):: .map (ff v3):: .cells (gy v1).cells::l
theorem aiv{N v1 v2 v3}:KP 308 [(.ptr 0 0),(gy v1)] [.cells (fI v2 [(.mp 1)]), .map (ff v3)] ar (λ_=>[.cells (fI v2 [(.mp 1)]), .map (ff v3)]) (Yh N v1 v2 v3):=
 fh 2 Tryz.func308 (gA [[],[]] (ax (λh1=>aw λv4 h2=>gH [[t0 h1],[(10,oQ [(.ptr 0 0),(dT v1.cm)] (Qk v2 v3 v1 []) [0,1] (O7 _ h2))]]) λh1=>aw λv5 h3=>gA [[f0 h1],[(19,cK Ld h3)],[]] (ax (λh4=>gA [[f0 (cH h4)],[]] (ax (λh5=>gH [[t0 h5],[]]) λh5=>gA [[f0 h5],[(7,oL v1.cO hJ),(13,oL v5.2.1 hJ)]] (ax (λh6=>gH [[t0 h6],[]]) λh6=>gA [[f0 h6],[(7,oL v1.cO hJ)]] (gT rM 44 v1.cO λh8=>e7 1 [] [0,44,45,46] 4 (λv6=>⟨57,[(0,(.ptr 0 0)),(44,(.d (.sl (gg v1.cO)))),(45,(ar (v1.cO.length:Int))),(46,(ar (v6:Int)))],(Qk v2 v3 v1 [.cells (bE v5.1).cells])⟩) (λv6 h9 f1=>gH [[],[f0 (cf h9)],[]]) (λv6 v8 v9 h9 f1 aJ=>aw λv10 aW=>gA [[],[t0 (bZ h9)],[(1,oE (sr (bM h9)))],[(7,oQ [(.ptr 0 0),(dT v8)] (Qk v2 v3 v1 [.cells (bE v5.1).cells, .cells (dT v8).cells]) [0,1] (O7 _ aW))],[]] (ax (λaZ=>gH [[t0 aZ],[]]) λaZ=>gb aJ () [[f0 aZ],[(2,oq (cC h9 rfl h8))]] h9)))))) λh4=>gH [[t0 (dj h4)],[]])))
def R8(N:Nat)(v4:aP×(amT cn)×Bool)(v2:dh)(v3:amT (amU×Int)):amT cY->Nat->amV (aP×Int)
 |[],_=>
  some (v4.1,(0:Int))
 |v7::v8,v5=>
  (Yh N v7 v2 v3).bind λv9=>
  bif (v9 !=0)then
   some (eD,v9)
  else
   (R8 N v4 v2 v3 v8 (v5+1))
def Xm(N:Nat)(v1:ay)(v2:dh)(v3:amT (amU×Int)):amV (aP×Int):=
 (Iu N v2 v1.bo).bind λv4=>
 bif v4.2.2 then
  bif ((v1.xIdx.length:Int) !=(v4.2.1.length:Int))then
   some (eD,(11:Int))
  else
   R8 N v4 v2 v3 v1.xIdx 0
 else
  some (eD,(9:Int))
theorem aba{N v1 v2 v3}:KP 289 [(.ptr 0 0),(aD v1)] [.cells (fI v2 [(.mp 1)]), .map (ff v3)] (λr=> .aY [(bE r.1),(ar r.2)]) (λ_=>[.cells (fI v2 [(.mp 1)]), .map (ff v3)]) (Xm N v1 v2 v3):=
 fh 2 Tryz.func289 (aw λv4 h1=>gA [[],[(19,cK Ld h1)],[]] (ax (λh2=>gA [[f0 (cH h2)],[(7,oL v1.xIdx fF),(13,oL v4.2.1 hJ)]] (ax (λh3=>gH [[t0 h3],[]]) λh3=>gA [[f0 h3],[(7,oL v1.xIdx fF)]] (gT pI 34 v1.xIdx λh5=>e7 1 [] [0,4,6,34,35,36] 5 (λv5=>⟨49,[(0,(.ptr 0 0)),(4,(.ptr 3 0)),(6,(.ptr 4 0)),(34,(.d (.sl (eB v1.xIdx)))),(35,(ar (v1.xIdx.length:Int))),(36,(ar (v5:Int)))],[.cells (fI v2 [(.mp 1)]), .map (ff v3), .cells (aD v1).cells, .cells xM, .cells (bE v4.1).cells]⟩) (λv5 h6 f1=>gH [[],[f0 (cf h6)],[]]) (λv5 v7 v8 h6 f1 aJ=>aw λv9 h7=>gA [[],[t0 (bZ h6)],[(1,oE (iB (bM h6)))],[(7,oQ [(.ptr 0 0),(gy v7)] [.cells (fI v2 [(.mp 1)]), .map (ff v3), .cells (aD v1).cells, .cells xM, .cells (bE v4.1).cells, .cells (gy v7).cells] [0,1] (aiv _ h7))],[]] (ax (λh8=>gH [[t0 h8],[]]) λh8=>gb aJ () [[f0 h8],[(2,oq (cC h6 rfl h5))]] h6))))) λh2=>gH [[t0 (dj h2)],[]]))
def JS(N:Nat)(v1:aP)(v2:aP):amV Int:=
 bif ((v1.bu==v2.bu)&&((v1.bG==v2.bG)&&((v1.ck==v2.ck)&&((v1.cx==v2.cx)&&((v1.cG==v2.cG)&&true)))))then
  some (0:Int)
 else
  some (10:Int)
theorem NI{N v1 v2}:KO 287 [(bE v1),(bE v2)] ar (JS N v1 v2):=
 fw Tryz.func287 (gA [[],[]] (oT λh1=>gR [[t0 (dj h1)],[]]))
def IY(N:Nat)(v8:amT aP)(cy:Bool):amV (aP×Int):=
 bif cy then
  Option.bind (v8[0]?) λbI=>
  Option.bind (v8[1]?) λcF=>
  (JS N bI cF).bind λv20=>
  some (eD,v20)
 else
  Option.bind (v8[0]?) λv21=>
  Option.bind (v8[1]?) λfS=>
  (JS N v21 fS).bind λdW=>
  some (v21,dW)
def IN(N:Nat)(v1:ay)(v8:amT aP)(bx:Bool):amV (aP×Int):=
 bif bx then
  some (eD,(0:Int))
 else
  bif (v1.aC==13)then
   IY N v8 (v1.aC==13)
  else
   bif (v1.aC==14)then
    IY N v8 (v1.aC==14)
   else
    IY N v8 (v1.aC==15)
def Pr(N:Nat)(v1:ay)(v2:dh)(v3:amT (amU×Int))(v8:amT aP)(v9:Bool):amV (aP×Int):=
 bif v9 then
  some (v1.aK,(0:Int))
 else
  bif (v1.aC==2)then
   (Gt N v1.cm v2 v3).bind λv10=>
   some ((⟨(3:Int),(0:Int),(0:Int),(0:Int),(0:Int)⟩:aP),v10)
  else
   bif (v1.aC==3)then
    (Xm N v1 v2 v3).bind λv11=>
    some (v11.1,v11.2)
   else
    bif (v1.aC==8)then
     Option.bind (v8[0]?) λv12=>
     some (v12,(0:Int))
    else
     bif (v1.aC==11)then
      Option.bind (v8[1]?) λaF=>
      Option.bind (v8[2]?) λaI=>
      (JS N aF aI).bind λbg=>
      some (aF,bg)
     else
      bif (v1.aC==16)then
       IN N v1 v8 (v1.aC==16)
      else
       bif (v1.aC==17)then
        IN N v1 v8 (v1.aC==17)
       else
        IN N v1 v8 (v1.aC==18)
def Yv(N:Nat)(v1:ay)(v2:dh)(v3:amT (amU×Int))(Ss:ay->dh->(amT (amU×Int))->amV (aP×Int)):amT ay->Nat->(amT aP)->amV (aP×Int)
 |[],_,v8=>
  bif (v1.aC==1)then
   Pr N v1 v2 v3 v8 (v1.aC==1)
  else
   Pr N v1 v2 v3 v8 (v1.aC==12)
 |v6::v7,v4,v8=>
  (Ss v6 v2 v3).bind λv24=>
  bif (v24.2 !=0)then
   some (eD,v24.2)
  else
   bif (Nat.ble ((v8.length+1)*40) 140737488355328)then
   (λcu=>Yv N v1 v2 v3 Ss v7 (v4+1) cu) (v8++[v24.1])
   else none
def Cs(N:Nat):Nat->ay->dh->(amT (amU×Int))->amV (aP×Int)
 |0,_,_,_=>none
 |d+1,v1,v2,v3=>
  Yv N v1 v2 v3 (Cs N d) v1.bD 0 []
def VC(N:Nat)(v1:ay)(v2:dh)(v3:amT (amU×Int)):amV (aP×Int):=Cs N N v1 v2 v3
def wR(v2:dh)(v3:amT (amU×Int))(v1:ay)(v8:amT aP)(l:amT aq):amT aq:= .cells (fI v2 [(.mp 1)]):: .map (ff v3):: .cells (aD v1).cells:: .cells xM:: .front 34 5 v8.length::l
theorem ad8(N:Nat):∀d:Nat,(∀{v1:ay}{v2:dh}{v3:amT (amU×Int)},KP 255 [(.ptr 0 0),(aD v1)] [.cells (fI v2 [(.mp 1)]), .map (ff v3)] (λr=> .aY [(bE r.1),(ar r.2)]) (λ_=>[.cells (fI v2 [(.mp 1)]), .map (ff v3)]) (Cs N d v1 v2 v3)):=by
 intro d
 induction d with
 |zero=>intro v1 v2 v3 r J;rw[Cs]at J;cases J
 |succ d ih=>
  have aiE:= @ih;intro v1 v2 v3;rw[Cs];exact fh 2 Tryz.func255 (gA [[],[],[(7,oL v1.bD jr)]] (li (λ_=>(uM 6 34 5 [] (.inr (by kernel_rfl)) ·)) (gT qx 13 v1.bD λh2=>gd 1 [] [0,3,4,6,13,14,15] 5 (λv4(v8:amT aP)=>⟨102,[(0,(.ptr 0 0)),(3,(.ptr 2 0)),(4,(.ptr 3 0)),(6,(.own 4 (oD v8))),(13,(.d (.sl (iG v1.bD)))),(14,(ar (v1.bD.length:Int))),(15,(ar (v4:Int)))],(wR v2 v3 v1 v8 [])⟩) (λv4 v8 h3 f1=>kC 2 [[],[(0,bF (cf h3))],[],[],[]] [0,3,4,6,11,35,36] 5 (λ(v9:Bool)=>⟨102,[(0,(.ptr 0 0)),(3,(.ptr 2 0)),(4,(.ptr 3 0)),(6,(.own 4 (oD v8))),(11,(.fn 287 [])),(35,(ar v1.aC)),(36,(az v9))],(wR v2 v3 v1 v8 [])⟩) (Pr N v1 v2 v3 v8) (λf2 eK=>ax (λgF=>gm eK (v1.aC==1) [[(0,bT gF)]]) λgF=>gm eK (v1.aC==12) [[(0,bF gF)],[]]) (λv9=>ax (λh4=>gH [[(0,bT h4)],[]]) λh4=>gA [[(0,bF h4)],[]] (ax (λh5=>aw λv10 h6=>gH [[(0,bT h5)],[(13,oQ [(.ptr 0 0),(dT v1.cm)] (wR v2 v3 v1 v8 []) [0,1] (O7 _ h6))]]) λh5=>gA [[(0,bF h5)],[]] (ax (λh7=>aw λv11 h8=>gH [[(0,bT h7)],[(7,oQ [(.ptr 0 0),(aD v1)] (wR v2 v3 v1 v8 []) [0,1] (aba _ h8))]]) λh7=>gA [[(0,bF h7)],[]] (ax (λh9=>aw λv12 aW=>gH [[(0,bT h9)],[(4,oE (k:=0) (sJ aW))]]) λh9=>gA [[(0,bF h9)],[]] (ax (λaZ=>aw λaF bj=>aw λaI bC=>aw λbg bJ=>gH [[(0,bT aZ)],[(4,oE (k:=1) (sJ bj)),(16,oE (k:=1) (sJ bj)),(25,oE (k:=2) (sJ bC)),(31,cK NI bJ)]]) λaZ=>kC 3 [[(0,bF aZ)],[]] [4,6,11,35,73] 5 (λ(bx:Bool)=>⟨102,[(4,(.ptr 3 0)),(6,(.own 4 (oD v8))),(11,(.fn 287 [])),(35,(ar v1.aC)),(73,(az bx))],(wR v2 v3 v1 v8 [])⟩) (IN N v1 v8) (λf3 m9=>ax (λlX=>gm m9 (v1.aC==16) [[(0,bT lX)]]) λlX=>gA [[(0,bF lX)],[]] (ax (λmN=>gm m9 (v1.aC==17) [[(0,bT mN)]]) λmN=>gm m9 (v1.aC==18) [[(0,bF mN)],[]])) (λbx=>ax (λbH=>gH [[(0,bT bH)],[]]) λbH=>kC 4 [[(0,bF bH)],[]] [4,6,11,78] 5 (λ(cy:Bool)=>⟨102,[(4,(.ptr 3 0)),(6,(.own 4 (oD v8))),(11,(.fn 287 [])),(78,(az cy))],(wR v2 v3 v1 v8 [])⟩) (IY N v8) (λf4 mf=>ax (λfc=>gm mf (v1.aC==13) [[(0,bT fc)]]) λfc=>gA [[(0,bF fc)],[]] (ax (λfB=>gm mf (v1.aC==14) [[(0,bT fB)]]) λfB=>gm mf (v1.aC==15) [[(0,bF fB)],[]])) (λcy=>ax (λbY=>aw λbI c9=>aw λcF dZ=>aw λv20 eI=>gH [[(0,bT bY)],[(10,oE (k:=0) (sJ c9)),(19,oE (k:=1) (sJ dZ)),(25,cK NI eI)]]) λbY=>aw λv21 dC=>aw λfS fY=>aw λdW h22=>gH [[(0,bF bY)],[(4,oE (k:=0) (sJ dC)),(16,oE (k:=0) (sJ dC)),(25,oE (k:=1) (sJ fY)),(31,cK NI h22)]])))))))) (λv4 v6 v7 v8 h3 f1 aJ=>aw λv24 ly=>gA [[],[(0,bT (bZ h3))],[(1,oE (gY (bM h3)))],[(7,oQ [(.ptr 0 0),(aD v6)] (wR v2 v3 v1 v8 [.cells (aD v6).cells]) [0,1] (aiE _ ly))],[]] (ax (λlD=>gH [[(0,bT lD)],[]]) λlD=>dG λmm=>gb aJ (v8++[v24.1]) [[(0,bF lD)],[(10,oA acT v8 ([v24.1]) mm)],[(2,oq (cC h3 rfl h2))]] h3)))))
theorem akV{N v1 v2 v3}:KP 255 [(.ptr 0 0),(aD v1)] [.cells (fI v2 [(.mp 1)]), .map (ff v3)] (λr=> .aY [(bE r.1),(ar r.2)]) (λ_=>[.cells (fI v2 [(.mp 1)]), .map (ff v3)]) (VC N v1 v2 v3):=(ad8 N N)
def Sw(N:Nat)(v3:ay)(v1:dh):amT amU->Nat->(amT (amU×Int))->amV (aP×Int)
 |[],_,bg=>
  (VC N v3 v1 bg).bind λbx=>
  bif (bx.2 !=0)then
   some (eD,bx.2)
  else
   some (bx.1,(0:Int))
 |aF::aI,v11,bg=>
  bif (Nat.blt bg.length 9223372036854775807)then
  (λiv=>Sw N v3 v1 aI (v11+1) iv) ((aF,(3:Int))::bg)
  else none
def Vc(N:Nat)(v3:ay)(v1:dh)(v2:amT amU):amT amU->Nat->(amT (amU×Int))->amV (aP×Int)
 |[],_,v10=>
  Sw N v3 v1 v2 0 v10
 |v8::v9,v6,v10=>
  bif (Nat.blt v10.length 9223372036854775807)then
  (λcu=>Vc N v3 v1 v2 v9 (v6+1) cu) ((v8,(1:Int))::v10)
  else none
def YA(N:Nat)(v1:dh)(v2:amT amU)(v3:ay):amV (aP×Int):=
 (xw N v3).bind λv4=>
 bif (v4 !=0)then
  some (eD,v4)
 else
  (w7 N v3).bind λv5=>
  bif v5 then
   some (eD,(10:Int))
  else
   Vc N v3 v1 v2 v1.gN 0 []
def OY(v1:dh)(v3:ay)(v10:amT (amU×Int))(l:amT aq):amT aq:= .cells (fg v1).cells:: .cells (aD v3).cells:: .cells xM:: .map (ff v10):: .cells (fI v1 [(.mp 3)])::l
theorem ZO{N v1 v2 v3}:KO 192 [(fg v1),(.d (.sl (ee v2))),(aD v3)] (λr=> .aY [(bE r.1),(ar r.2)]) (YA N v1 v2 v3):=
 fw Tryz.func192 (aw λv4 h1=>gA [[],[(4,cL (KR h1))],[]] (bn λh2=>aw λv5 h3=>gA [[f0 h2],[(4,cK HC h3)]] (bn λh4=>gA [[f0 h4],[],[(7,oL v1.gN jY)]] (gT qv 30 v1.gN λh6=>gd 1 [] [1,5,6,9,30,31,32] 5 (λv6(v10:amT (amU×Int))=>⟨65,[(1,(.d (.sl (ee v2)))),(5,(.ptr 1 0)),(6,(.ptr 2 0)),(9,(.ptr 4 0)),(30,(.d (.sl (ee v1.gN)))),(31,(ar (v1.gN.length:Int))),(32,(ar (v6:Int)))],(OY v1 v3 v10 [])⟩) (λv6 v10 h7 f1=>gA [[],[f0 (cf h7)],[(4,oL v2 jY)]] (gT qv 1 v2 λh9=>gd 2 [] [5,6,9,42,43,44] 5 (λv11(bg:amT (amU×Int))=>⟨65,[(5,(.ptr 1 0)),(6,(.ptr 2 0)),(9,(.ptr 4 0)),(42,(.d (.sl (ee v2)))),(43,(ar (v2.length:Int))),(44,(ar (v11:Int)))],(OY v1 v3 bg [])⟩) (λv11 bg aW f2=>aw λbx aZ=>gA [[],[f0 (cf aW)],[(7,oQ [(.ptr 4 0),(aD v3)] (OY v1 v3 bg []) [4,3] (akV _ aZ))],[]] (bn λbj=>gR [[f0 bj],[]])) (λv11 aF aI bg aW f2 eK=>dG λbC=>gb eK ((aF,(3:Int))::bg) [[],[t0 (bZ aW)],[(1,oE (qt (bM aW)))],[(16,⟨_,_, .sd (o:= .none) (PK bC)⟩)],[(2,oq (cC aW rfl h9))]] aW))) (λv6 v8 v9 v10 h7 f1 aJ=>dG λbJ=>gb aJ ((v8,(1:Int))::v10) [[],[t0 (bZ h7)],[(1,oE (qt (bM h7)))],[(16,⟨_,_, .sd (o:= .none) (PK bJ)⟩)],[(2,oq (cC h7 rfl h6))]] h7)))))
def Sc(N:Nat)(v1:Int)(v2:dh)(v3:amT (amU×Int)):amV (Int×(amT (amU×Int))):=
 bif (decide ((0:Int)<=v1))then
 Option.bind (v2.gz[(v1).toNat]?) λv4=>
 Option.bind (F0 N v4.bo (2:Int) v2 v3) λv5=>
 bif (v5.1 !=0)then
  some (v5.1,v5.2)
 else
  Option.bind (L6 N v4.aK ([(v4.bS.length:Int),(v4.m6.length:Int)])) λv6=>
  bif (v6 !=0)then
   some (v6,v5.2)
  else
   (U9 N v4 v2 v5.2).bind λv7=>
   bif (v7 !=0)then
    some (v7,v5.2)
   else
    (TF N v4).bind λv8=>
    bif (v8 !=0)then
     some (v8,v5.2)
    else
     bif (decide ((v1).toNat<=v2.gz.length))then
     (Ti N v4).bind λv9=>
     Option.bind (YA N (⟨v2.gN,v2.mF,v2.fz,((v2.gz.take (v1).toNat).drop 0),v2.kh⟩:dh) v9 v4.dF) λv10=>
     bif (v10.2 !=0)then
      some (v10.2,v5.2)
     else
      bif ((v10.1.bu==v4.aK.bu)&&((v10.1.bG==v4.aK.bG)&&((v10.1.ck==v4.aK.ck)&&((v10.1.cx==v4.aK.cx)&&((v10.1.cG==v4.aK.cG)&&true)))))then
       some ((0:Int),v5.2)
      else
       some ((10:Int),v5.2)
     else none
 else none
theorem af4{N v1 v2 v3}:KP 109 [(.ptr 0 0),(ar v1)] [.cells (fI v2 [(.mp 1)]), .map (ff v3)] (λr=>ar r.1) (λr=>[.cells (fI v2 [(.mp 1)]), .map (ff r.2)]) (Sc N v1 v2 v3):=
 fh 2 Tryz.func109 (dG λh2=>aw λv4 h1=>aw λv5 h3=>gA [[],[(19,⟨_,_, .el (xs:=jd v2.gz) (i:=v1) (of_decide_eq_true h2) (Ae h1)⟩)],[(10,oR [(.ptr 0 0),(di v4.bo),(ar (2:Int))] [.cells (fI v2 [(.mp 1)]), .map (ff v3), .cells (gj v4).cells] [0,1] (N3 _ h3))],[]] (ax (λh4=>gH [[t0 h4],[]]) λh4=>aw λv6 h5=>gA [[f0 h4],[(13,oL v4.bS nh),(22,oL v4.m6 nh),(28,cK XI h5)],[]] (ax (λh6=>gH [[t0 h6],[]]) λh6=>aw λv7 h7=>gA [[f0 h6],[(7,oQ [(.ptr 0 0),(gj v4)] [.cells (fI v2 [(.mp 1)]), .map (ff v5.2), .cells (gj v4).cells] [0,1] (akY _ h7))],[]] (ax (λh8=>gH [[t0 h8],[]]) λh8=>aw λv8 h9=>gA [[f0 h8],[(4,cK alz h9)],[]] (ax (λaW=>gH [[t0 aW],[]]) λaW=>dG λaZ=>aw λv9 bj=>aw λv10 bC=>gA [[f0 aW],[],[(19,⟨_,_, .sub (xs:=jd v2.gz) (lo:=0) (hi:=v1) (by decide) (Nat.zero_le _) (of_decide_eq_true h2) (by rw[xx];exact(of_decide_eq_true aZ)) Yq akS⟩)],[(7,cK acq bj),(16,cK ZO bC)],[]] (ax (λbJ=>gH [[t0 bJ],[]]) λbJ=>gA [[f0 bJ],[]] (ax (λbH=>gH [[f0 (cH bH)],[]]) λbH=>gH [[t0 (dj bH)],[]])))))))
def Q7(N:Nat)(dW:amT (amU×Int))(v1:dh):amT amU->Nat->Int->amV (Int×Int)
 |[],_,_=>
  some ((0:Int),(0:Int))
 |fe::iE,v24,v28=>
  bif ((iU dW fe 0) !=2)then
   some (v28,(9:Int))
  else
   bif (decide (((v24:Int)).toNat<=v1.kh.length))then
   Option.bind (HF N ((v1.kh.take ((v24:Int)).toNat).drop 0) fe) λkP=>
   bif kP then
    some (v28,(8:Int))
   else
    (λaby=>Q7 N dW v1 iE (v24+1) aby) (aE (v28+(1:Int)))
   else none
def U7(N:Nat)(v1:dh):amT et->Nat->Int->(amT (amU×Int))->amV (Int×Int)
 |[],_,fS,dW=>
  Q7 N dW v1 v1.kh 0 fS
 |_::v21,bI,fS,dW=>
  Option.bind (Sc N (bI:Int) v1 dW) λv30=>
  bif (v30.1 !=0)then
   some (fS,v30.1)
  else
   (λKt ajP=>U7 N v1 v21 (bI+1) Kt ajP) (aE (fS+(1:Int))) v30.2
def TD(N:Nat)(v1:dh):amT ju->Nat->Int->(amT (amU×Int))->amV (Int×Int)
 |[],_,bx,cy=>
  U7 N v1 v1.gz 0 bx cy
 |aI::bg,v12,bx,cy=>
  (Zc N aI v1 cy).bind λv31=>
  bif (v31.1 !=0)then
   some (bx,v31.1)
  else
   (λxo Fc=>TD N v1 bg (v12+1) xo Fc) (aE (bx+(1:Int))) v31.2
def VZ(N:Nat)(v1:dh)(v7:amT (amU×Int)):amT l7->Nat->amV (Int×Int)
 |[],_=>
  TD N v1 v1.fz 0 (2:Int) v7
 |v10::v11,v8=>
  (Yb N v10 v1 v7).bind λzM=>
  bif (zM !=0)then
   some ((1:Int),zM)
  else
   (VZ N v1 v7 v11 (v8+1))
def Sz(N:Nat)(v1:dh):amT amU->Nat->(amT (amU×Int))->amV (Int×Int)
 |[],_,v7=>
  VZ N v1 v7 v1.mF 0
 |v5::v6,v3,v7=>
  Option.bind (F0 N v5 (1:Int) v1 v7) λjk=>
  bif (jk.1 !=0)then
   some ((0:Int),jk.1)
  else
   (λcu=>Sz N v1 v6 (v3+1) cu) jk.2
def Sh(N:Nat)(v1:dh):amV (Int×Int):=
 (UA N v1).bind λv2=>
 bif v2 then
  Sz N v1 v1.gN 0 []
 else
  some ((0:Int),(2:Int))
def sK(v1:dh)(v7:amT (amU×Int))(l:amT aq):amT aq:= .cells (fg v1).cells:: .map (ff v7):: .cells (fI v1 [(.mp 1)])::l
theorem aeL{N v1}:KO 60 [(fg v1)] (λr=> .aY [(ar r.1),(ar r.2)]) (Sh N v1):=
 fw Tryz.func60 (aw λv2 h1=>gA [[],[(4,cK adl h1)]] (fW λh2=>gA [[f0 (cH h2)],[],[(7,oL v1.gN jY)]] (gT qv 27 v1.gN λh4=>gd 1 [] [1,4,27,28,29] 3 (λv3(v7:amT (amU×Int))=>⟨115,[(1,(.ptr 0 0)),(4,(.ptr 2 0)),(27,(.d (.sl (ee v1.gN)))),(28,(ar (v1.gN.length:Int))),(29,(ar (v3:Int)))],(sK v1 v7 [])⟩) (λv3 v7 h5 f1=>gA [[],[f0 (cf h5)],[(7,oL v1.mF Ke)]] (gT RV 41 v1.mF λh7=>e7 2 [] [1,4,41,42,43] 3 (λv8=>⟨115,[(1,(.ptr 0 0)),(4,(.ptr 2 0)),(41,(.d (.sl (oH v1.mF)))),(42,(ar (v1.mF.length:Int))),(43,(ar (v8:Int)))],(sK v1 v7 [])⟩) (λv8 h8 f2=>gA [[],[f0 (cf h8)],[],[(7,oL v1.fz As)]] (gT Y1 55 v1.fz λaW=>OO 3 [] [1,4,11,55,56,57] 3 (λv12(bx:Int)(cy:amT (amU×Int))=>⟨115,[(1,(.ptr 0 0)),(4,(.ptr 2 0)),(11,(ar bx)),(55,(.d (.sl (kT v1.fz)))),(56,(ar (v1.fz.length:Int))),(57,(ar (v12:Int)))],(sK v1 cy [])⟩) (λv12 bx cy aZ f3=>gA [[],[f0 (cf aZ)],[(7,oL v1.gz xx)]] (gB No 0 3 v1.gz λbC=>OO 4 [] [1,4,11,73,74] 3 (λbI(fS:Int)(dW:amT (amU×Int))=>⟨115,[(1,(.ptr 0 0)),(4,(.ptr 2 0)),(11,(ar fS)),(73,(ar (v1.gz.length:Int))),(74,(ar (bI:Int)))],(sK v1 dW [])⟩) (λbI fS dW bJ f4=>gA [[],[f0 (cf bJ)],[(7,oL v1.kh jY)]] (gT qv 88 v1.kh λbY=>gd 5 [] [1,4,11,88,89,90] 3 (λv24(v28:Int)=>⟨115,[(1,(.ptr 0 0)),(4,(.ptr 2 0)),(11,(ar v28)),(88,(.d (.sl (ee v1.kh)))),(89,(ar (v1.kh.length:Int))),(90,(ar (v24:Int)))],(sK v1 dW [])⟩) (λv24 v28 c9 f5=>gR [[],[f0 (cf c9)],[]]) (λv24 fe iE v28 c9 f5 hf5=>gA [[],[t0 (bZ c9)],[(4,oE (qt (bM c9)))],[(17,⟨_,_, .eq (Dd false dW fe)⟩)]] (bn λdZ=>dG λeI=>aw λkP dC=>gA [[f0 dZ],[(10,⟨_,_, .sub (xs:=ee v1.kh) (lo:=0) (hi:=(v24:Int)) (by decide) (Nat.zero_le _) (of_decide_eq_true (amM (Int.natCast_nonneg _))) (by rw[jY];exact(of_decide_eq_true eI)) Hi ajm⟩),(16,cK Tt dC)]] (bn λfY=>gb hf5 (aE (v28+(1:Int))) [[f0 fY],[],[(2,oq (cC c9 rfl bY))]] c9))))) (λbI v20 v21 fS dW bJ f4 mf=>aw λv30 h22=>gA [[],[t0 (bZ bJ)],[],[(7,oR [(.ptr 2 0),(ar (bI:Int))] (sK v1 dW []) [2,1] (af4 _ h22))],[]] (bn λfc=>gb mf ((aE (fS+(1:Int))),v30.2) [[f0 fc],[],[(2,oq (cC bJ rfl bC))]] bJ)))) (λv12 aI bg bx cy aZ f3 m9=>aw λv31 fB=>gA [[],[t0 (bZ aZ)],[(1,oE (Ms (bM aZ)))],[(7,oR [(.ptr 2 0),(pD aI)] (sK v1 cy [.cells (pD aI).cells]) [2,1] (aaA _ fB))],[]] (bn λlX=>gb m9 ((aE (bx+(1:Int))),v31.2) [[f0 lX],[],[(2,oq (cC aZ rfl aW))]] aZ)))) (λv8 v10 v11 h8 f2 eK=>aw λzM mN=>gA [[],[t0 (bZ h8)],[(1,oE (Zi (bM h8)))],[(7,oQ [(.ptr 2 0),(w6 v10)] (sK v1 v7 [.cells (w6 v10).cells]) [2,1] (afi _ mN))],[]] (bn λgF=>gb eK () [[f0 gF],[(2,oq (cC h8 rfl h7))]] h8)))) (λv3 v5 v6 v7 h5 f1 aJ=>aw λjk ly=>gA [[],[t0 (bZ h5)],[(1,oE (qt (bM h5)))],[(7,oR [(.ptr 2 0),(di v5),(ar (1:Int))] (sK v1 v7 []) [2,1] (N3 _ ly))],[]] (bn λlD=>gb aJ jk.2 [[f0 lD],[(2,oq (cC h5 rfl h4))]] h5)))))
def SS(N:Nat)(v1:aV)(v2:amU):amV Bool:=
 some (bL v1.bo==bL v2)
theorem aj1{N v1 v2}:KP 41 [(Iv v1),(.ptr 0 0)] [.cells [(di v2)]] az (λ_=>[.cells [(di v2)]]) (SS N v1 v2):=
 fh 1 Tryz.func41 (gH [[],[]])
def Tp(N:Nat)(v2:amU):amT aV->Nat->amV Int
 |[],_=>
  some (-1:Int)
 |v5::v6,v3=>
  (SS N v5 v2).bind λv7=>
  bif v7 then
   some (v3:Int)
  else
   (Tp N v2 v6 (v3+1))
def Uj(N:Nat)(v1:amT aV)(v2:amU):amV Int:=
 Tp N v2 v1 0
theorem agD{N v1 v2}:KP 40 [(.d (.sl (aS v1))),(.fn 41 [(.ptr 0 0)])] [.cells [(di v2)]] ar (λ_=>[.cells [(di v2)]]) (Uj N v1 v2):=
 fh 1 Tryz.func40 (gA [[],[(4,oL v1 rX)]] (gT zc 0 v1 λh2=>e7 1 [] [0,1,7,8] 1 (λv3=>⟨19,[(0,(.d (.sl (aS v1)))),(1,(.fn 41 [(.ptr 0 0)])),(7,(ar (v1.length:Int))),(8,(ar (v3:Int)))],[.cells [(di v2)]]⟩) (λv3 h3 f1=>gH [[],[f0 (cf h3)],[]]) (λv3 v5 v6 h3 f1 aJ=>aw λv7 h4=>gA [[],[t0 (bZ h3)],[],[(10,oE (uP (bM h3))),(16,oQ [(Iv v5),(.ptr 0 0)] [.cells [(di v2)]] [0] (aj1 _ h4))]] (ax (λh5=>gH [[t0 h5],[]]) λh5=>gb aJ () [[f0 h5],[(2,oq (cC h3 rfl h2))]] h3))))
def yL(N:Nat)(v1:Int64):amV Int:=
 bif (decide (v1.toInt<0))then
  some (IntKind.u64.wrap (0-(IntKind.u64.wrap v1.toInt)))
 else
  some (IntKind.u64.wrap v1.toInt)
theorem Oq{N v1}:KO 137 [(bk v1)] (λr=> .d (.v (.int .u64 r))) (yL N v1):=
 fw Tryz.func137 (gA [[],[]] (bn λh1=>gR [[f0 h1],[]]))
def Dh(N:Nat)(v4:jF)(v7:Int)(v5:Int)(v8:Int)(v6:Int)(v10:Int):amV (Int×Int×Int):=
 some ((IntKind.u64.wrap (v4.nC+(IntKind.u64.wrap (v7+v10)))),(IntKind.u64.wrap ((IntKind.u64.wrap (v4.lv+v5))+v8)),(IntKind.u64.wrap (v4.kx+v6)))
def wi(N:Nat)(v4:jF)(v5:Int)(v8:Int)(v7:Int)(v6:Int)(v9:Int):amV (Int×Int×Int):=
 bif (decide ((IntKind.u64.wrap ((IntKind.u64.wrap (v4.lv+v5))+v8))<(IntKind.u64.wrap (v4.lv+v5))))then
  Dh N v4 v7 v5 v8 v6 (IntKind.u64.wrap (v9+(1:Int)))
 else
  Dh N v4 v7 v5 v8 v6 v9
def xc(N:Nat)(v4:jF)(v5:Int)(v7:Int)(v6:Int)(v8:Int):amV (Int×Int×Int):=
 bif (decide ((IntKind.u64.wrap (v4.lv+v5))<v5))then
  wi N v4 v5 v8 v7 v6 (1:Int)
 else
  wi N v4 v5 v8 v7 v6 (0:Int)
def rH(N:Nat)(v4:jF)(v5:Int)(v6:Int)(v7:Int):amV (Int×Int×Int):=
 bif (decide ((IntKind.u64.wrap (v4.kx+v6))<v6))then
  xc N v4 v5 v7 v6 (1:Int)
 else
  xc N v4 v5 v7 v6 (0:Int)
def AP(N:Nat)(v1:Int)(v2:Int)(v3:Bool)(v4:jF):amV (Int×Int×Int):=
 bif v3 then
  bif ((IntKind.u64.wrap ((IntKind.u64.wrap ((BitVec.ofInt (IntKind.bits .u64) (IntKind.max .u64)^^^BitVec.ofInt (IntKind.bits .u64) v2).toNat:Int))+(1:Int)))==0)then
   bif ((IntKind.u64.wrap ((IntKind.u64.wrap ((BitVec.ofInt (IntKind.bits .u64) (IntKind.max .u64)^^^BitVec.ofInt (IntKind.bits .u64) v1).toNat:Int))+(1:Int)))==0)then
    rH N v4 (IntKind.u64.wrap ((IntKind.u64.wrap ((BitVec.ofInt (IntKind.bits .u64) (IntKind.max .u64)^^^BitVec.ofInt (IntKind.bits .u64) v1).toNat:Int))+(1:Int))) (IntKind.u64.wrap ((IntKind.u64.wrap ((BitVec.ofInt (IntKind.bits .u64) (IntKind.max .u64)^^^BitVec.ofInt (IntKind.bits .u64) v2).toNat:Int))+(1:Int))) (IntKind.u64.wrap ((IntKind.u64.wrap ((BitVec.ofInt (IntKind.bits .u64) (IntKind.max .u64)^^^BitVec.ofInt (IntKind.bits .u64) (0:Int)).toNat:Int))+(1:Int)))
   else
    rH N v4 (IntKind.u64.wrap ((IntKind.u64.wrap ((BitVec.ofInt (IntKind.bits .u64) (IntKind.max .u64)^^^BitVec.ofInt (IntKind.bits .u64) v1).toNat:Int))+(1:Int))) (IntKind.u64.wrap ((IntKind.u64.wrap ((BitVec.ofInt (IntKind.bits .u64) (IntKind.max .u64)^^^BitVec.ofInt (IntKind.bits .u64) v2).toNat:Int))+(1:Int))) (IntKind.u64.wrap ((BitVec.ofInt (IntKind.bits .u64) (IntKind.max .u64)^^^BitVec.ofInt (IntKind.bits .u64) (0:Int)).toNat:Int))
  else
   rH N v4 (IntKind.u64.wrap ((BitVec.ofInt (IntKind.bits .u64) (IntKind.max .u64)^^^BitVec.ofInt (IntKind.bits .u64) v1).toNat:Int)) (IntKind.u64.wrap ((IntKind.u64.wrap ((BitVec.ofInt (IntKind.bits .u64) (IntKind.max .u64)^^^BitVec.ofInt (IntKind.bits .u64) v2).toNat:Int))+(1:Int))) (IntKind.u64.wrap ((BitVec.ofInt (IntKind.bits .u64) (IntKind.max .u64)^^^BitVec.ofInt (IntKind.bits .u64) (0:Int)).toNat:Int))
 else
  rH N v4 v1 v2 (0:Int)
def S9(v4:jF)(v6:Int)(l:amT aq):amT aq:= .cells [(.d (.v (.int .u64 v4.nC))),(.d (.v (.int .u64 v4.lv))),(.d (.v (.int .u64 (IntKind.u64.wrap (v4.kx+v6)))))]::l
theorem Q3{N v1 v2 v3 v4 r}(J:AP N v1 v2 v3 v4=some r):KH 136 [(.ptr 0 0),(.d (.v (.int .u64 v1))),(.d (.v (.int .u64 v2))),(az v3)] ([.cells (Bx v4).cells]) (.aY []) ([.cells [(.d (.v (.int .u64 r.1))),(.d (.v (.int .u64 r.2.1))),(.d (.v (.int .u64 r.2.2)))]]):=by
 rw[AP]at J;refine Cn 1 Tryz.func136 ?_;refine DK bw 1 [[],[]] [0,1,2,8] 1 (λ((v5,v6,v7):Int×Int×Int)=>⟨76,[(0,(.ptr 0 0)),(1,(.d (.v (.int .u64 v5)))),(2,(.d (.v (.int .u64 v6)))),(8,(.d (.v (.int .u64 v7))))],[.cells (Bx v4).cells]⟩) (λ((v5,v6,v7):Int×Int×Int)=>rH N v4 v5 v6 v7=some r) ?_ ?_
 ·intro f1 aJ;apply bc J<;>intro h4 J
  ·refine gK bw [[(0,bT h4)],[],[],[]] ?_;apply bc J<;>intro h5 J
   ·refine gK bw [[(0,bT h5)],[],[]] ?_;apply bc J<;>intro h6 J
    ·exact lg bw aJ ((IntKind.u64.wrap ((IntKind.u64.wrap ((BitVec.ofInt (IntKind.bits .u64) (IntKind.max .u64)^^^BitVec.ofInt (IntKind.bits .u64) v1).toNat:Int))+(1:Int))),(IntKind.u64.wrap ((IntKind.u64.wrap ((BitVec.ofInt (IntKind.bits .u64) (IntKind.max .u64)^^^BitVec.ofInt (IntKind.bits .u64) v2).toNat:Int))+(1:Int))),(IntKind.u64.wrap ((IntKind.u64.wrap ((BitVec.ofInt (IntKind.bits .u64) (IntKind.max .u64)^^^BitVec.ofInt (IntKind.bits .u64) (0:Int)).toNat:Int))+(1:Int)))) [[(0,bT h6)],[]] J
    exact lg bw aJ ((IntKind.u64.wrap ((IntKind.u64.wrap ((BitVec.ofInt (IntKind.bits .u64) (IntKind.max .u64)^^^BitVec.ofInt (IntKind.bits .u64) v1).toNat:Int))+(1:Int))),(IntKind.u64.wrap ((IntKind.u64.wrap ((BitVec.ofInt (IntKind.bits .u64) (IntKind.max .u64)^^^BitVec.ofInt (IntKind.bits .u64) v2).toNat:Int))+(1:Int))),(IntKind.u64.wrap ((BitVec.ofInt (IntKind.bits .u64) (IntKind.max .u64)^^^BitVec.ofInt (IntKind.bits .u64) (0:Int)).toNat:Int))) [[(0,bF h6)]] J
   exact lg bw aJ ((IntKind.u64.wrap ((BitVec.ofInt (IntKind.bits .u64) (IntKind.max .u64)^^^BitVec.ofInt (IntKind.bits .u64) v1).toNat:Int)),(IntKind.u64.wrap ((IntKind.u64.wrap ((BitVec.ofInt (IntKind.bits .u64) (IntKind.max .u64)^^^BitVec.ofInt (IntKind.bits .u64) v2).toNat:Int))+(1:Int))),(IntKind.u64.wrap ((BitVec.ofInt (IntKind.bits .u64) (IntKind.max .u64)^^^BitVec.ofInt (IntKind.bits .u64) (0:Int)).toNat:Int))) [[(0,bF h5)]] J
  exact lg bw aJ (v1,v2,(0:Int)) [[(0,bF h4)]] J
 rintro⟨v5,v6,v7⟩ J
 try dsimp only at J
 rw[rH]at J;refine Cv bw r 2 [[],[],[]] [0,1,8,9] 1 (λ(v8:Int)=>⟨76,[(0,(.ptr 0 0)),(1,(.d (.v (.int .u64 v5)))),(8,(.d (.v (.int .u64 v7)))),(9,(.d (.v (.int .u64 v8))))],(S9 v4 v6 [])⟩) (xc N v4 v5 v7 v6) ?_ ?_
 ·intro f2 eK;apply bc J<;>intro h3 J
  ·exact lg bw eK (1:Int) [[(0,bT h3)],[]] J
  exact lg bw eK (0:Int) [[(0,bF h3)]] J
 intro v8 J;rw[xc]at J;refine Cv bw r 3 [[],[],[]] [0,8,9,10,11] 1 (λ(v9:Int)=>⟨76,[(0,(.ptr 0 0)),(8,(.d (.v (.int .u64 v7)))),(9,(.d (.v (.int .u64 v8)))),(10,(.d (.v (.int .u64 (IntKind.u64.wrap (v4.lv+v5)))))),(11,(.d (.v (.int .u64 v9))))],(S9 v4 v6 [])⟩) (wi N v4 v5 v8 v7 v6) ?_ ?_
 ·intro f3 m9;apply bc J<;>intro h2 J
  ·exact lg bw m9 (1:Int) [[(0,bT h2)],[]] J
  exact lg bw m9 (0:Int) [[(0,bF h2)]] J
 intro v9 J;rw[wi]at J;refine Cv bw r 4 [[],[]] [0,8,11] 1 (λ(v10:Int)=>⟨76,[(0,(.ptr 0 0)),(8,(.d (.v (.int .u64 v7)))),(11,(.d (.v (.int .u64 v10))))],[.cells [(.d (.v (.int .u64 v4.nC))),(.d (.v (.int .u64 (IntKind.u64.wrap ((IntKind.u64.wrap (v4.lv+v5))+v8))))),(.d (.v (.int .u64 (IntKind.u64.wrap (v4.kx+v6)))))]]⟩) (Dh N v4 v7 v5 v8 v6) ?_ ?_
 ·intro f4 mf;apply bc J<;>intro h1 J
  ·exact lg bw mf (IntKind.u64.wrap (v9+(1:Int))) [[(0,bT h1)],[]] J
  exact lg bw mf v9 [[(0,bF h1)]] J
 intro v10 J;rw[Dh]at J;cases J;exact mX bw [[]]
def Qf(N:Nat)(v1:aV)(v2:dP):amV Bool:=
 some (bL v1.bo==bL v2.bo)
theorem ahF{N v1 v2}:KP 138 [(Iv v1),(.ptr 0 0)] [.cells (rL v2).cells] az (λ_=>[.cells (rL v2).cells]) (Qf N v1 v2):=
 fh 1 Tryz.func138 (gH [[],[]])
def AU(N:Nat)(v2:dP):amT aV->Nat->amV Int
 |[],_=>
  some (-1:Int)
 |v5::v6,v3=>
  (Qf N v5 v2).bind λv7=>
  bif v7 then
   some (v3:Int)
  else
   (AU N v2 v6 (v3+1))
def Pu(N:Nat)(v1:amT aV)(v2:dP):amV Int:=
 AU N v2 v1 0
theorem aiD{N v1 v2}:KP 40 [(.d (.sl (aS v1))),(.fn 138 [(.ptr 0 0)])] [.cells (rL v2).cells] ar (λ_=>[.cells (rL v2).cells]) (Pu N v1 v2):=
 fh 1 Tryz.func40 (gA [[],[(4,oL v1 rX)]] (gT zc 0 v1 λh2=>e7 1 [] [0,1,7,8] 1 (λv3=>⟨19,[(0,(.d (.sl (aS v1)))),(1,(.fn 138 [(.ptr 0 0)])),(7,(ar (v1.length:Int))),(8,(ar (v3:Int)))],[.cells (rL v2).cells]⟩) (λv3 h3 f1=>gH [[],[f0 (cf h3)],[]]) (λv3 v5 v6 h3 f1 aJ=>aw λv7 h4=>gA [[],[t0 (bZ h3)],[],[(10,oE (uP (bM h3))),(16,oQ [(Iv v5),(.ptr 0 0)] [.cells (rL v2).cells] [0] (ahF _ h4))]] (ax (λh5=>gH [[t0 h5],[]]) λh5=>gb aJ () [[f0 h5],[(2,oq (cC h3 rfl h2))]] h3))))
def It(N:Nat)(v1:Int)(v2:Int):amV (Int×Int):=
 some ((IntKind.u64.wrap ((IntKind.u64.wrap ((IntKind.u64.wrap (((v1).fdiv (2^(min ((32:Int)).toNat (IntKind.bits .u64))))*((v2).fdiv (2^(min ((32:Int)).toNat (IntKind.bits .u64))))))+(((IntKind.u64.wrap ((IntKind.u64.wrap (((v1).fdiv (2^(min ((32:Int)).toNat (IntKind.bits .u64))))*(IntKind.u64.wrap ((BitVec.ofInt (IntKind.bits .u64) v2&&&BitVec.ofInt (IntKind.bits .u64) (4294967295:Int)).toNat:Int))))+(((IntKind.u64.wrap ((IntKind.u64.wrap ((BitVec.ofInt (IntKind.bits .u64) v1&&&BitVec.ofInt (IntKind.bits .u64) (4294967295:Int)).toNat:Int))*(IntKind.u64.wrap ((BitVec.ofInt (IntKind.bits .u64) v2&&&BitVec.ofInt (IntKind.bits .u64) (4294967295:Int)).toNat:Int))))).fdiv (2^(min ((32:Int)).toNat (IntKind.bits .u64))))))).fdiv (2^(min ((32:Int)).toNat (IntKind.bits .u64))))))+(((IntKind.u64.wrap ((IntKind.u64.wrap ((IntKind.u64.wrap ((BitVec.ofInt (IntKind.bits .u64) v1&&&BitVec.ofInt (IntKind.bits .u64) (4294967295:Int)).toNat:Int))*((v2).fdiv (2^(min ((32:Int)).toNat (IntKind.bits .u64))))))+(IntKind.u64.wrap ((BitVec.ofInt (IntKind.bits .u64) (IntKind.u64.wrap ((IntKind.u64.wrap (((v1).fdiv (2^(min ((32:Int)).toNat (IntKind.bits .u64))))*(IntKind.u64.wrap ((BitVec.ofInt (IntKind.bits .u64) v2&&&BitVec.ofInt (IntKind.bits .u64) (4294967295:Int)).toNat:Int))))+(((IntKind.u64.wrap ((IntKind.u64.wrap ((BitVec.ofInt (IntKind.bits .u64) v1&&&BitVec.ofInt (IntKind.bits .u64) (4294967295:Int)).toNat:Int))*(IntKind.u64.wrap ((BitVec.ofInt (IntKind.bits .u64) v2&&&BitVec.ofInt (IntKind.bits .u64) (4294967295:Int)).toNat:Int))))).fdiv (2^(min ((32:Int)).toNat (IntKind.bits .u64))))))&&&BitVec.ofInt (IntKind.bits .u64) (4294967295:Int)).toNat:Int))))).fdiv (2^(min ((32:Int)).toNat (IntKind.bits .u64)))))),(IntKind.u64.wrap (v1*v2)))
theorem acz{N v1 v2}:KO 139 [(.d (.v (.int .u64 v1))),(.d (.v (.int .u64 v2)))] (λr=> .aY [(.d (.v (.int .u64 r.1))),(.d (.v (.int .u64 r.2)))]) (It N v1 v2):=
 fw Tryz.func139 (gR [[],[],[(4,⟨_,_, .nn (b:=32) (by decide)⟩),(19,⟨_,_, .nn (b:=32) (by decide)⟩)],[(10,⟨_,_, .nn (b:=32) (by decide)⟩)],[(4,⟨_,_, .nn (b:=32) (by decide)⟩),(10,⟨_,_, .nn (b:=32) (by decide)⟩),(19,⟨_,_, .nn (b:=32) (by decide)⟩),(28,⟨_,_, .nn (b:=32) (by decide)⟩)]])
def Ir(N:Nat)(v1:jF):amV (Int64×Bool):=
 Option.bind (bif (v1.lv==(IntKind.u64.wrap (Int64.ofInt (((Int64.ofInt v1.kx).toInt).fdiv (2^(min ((63:Int)).toNat (IntKind.bits .i64))))).toInt))then some (v1.nC==(IntKind.u64.wrap (Int64.ofInt (((Int64.ofInt v1.kx).toInt).fdiv (2^(min ((63:Int)).toNat (IntKind.bits .i64))))).toInt))else some false) λv2=>
 some ((Int64.ofInt v1.kx),v2)
theorem agi{N v1}:KP 140 [(.ptr 0 0)] [.cells (Bx v1).cells] (λr=> .aY [(bk r.1),(az r.2)]) (λ_=>[.cells (Bx v1).cells]) (Ir N v1):=
 fh 1 Tryz.func140 (gA [[],[(14,⟨_,_, .eq (gP v1.kx)⟩)],[(4,⟨_,_, .nn (b:=63) (by decide)⟩),(5,⟨_,_, .eq (UH (Int64.ofInt v1.kx) (min ((63:Int)).toNat (IntKind.bits .i64)))⟩)]] (gG (λv2=>[(2,(bk (Int64.ofInt v1.kx))),(3,(az v2))]) (λ_=>[.cells (Bx v1).cells]) (ax (λh1=>gE [(7,bT h1)] []) λh1=>gE [(7,bF h1)] []) λv2=>gH []))
def Bt(N:Nat)(v2:amT aV):amT dP->Nat->Int->Int->Int->amV (Int64×Int)
 |[],_,v10,v11,v12=>
  Option.bind (Ir N (⟨v10,v11,v12⟩:jF)) λaF=>
  bif aF.2 then
   some (aF.1,(0:Int))
  else
   some ((0:Int64),(3:Int))
 |v8::v9,v6,v10,v11,v12=>
  (Pu N v2 v8).bind λaI=>
  bif (decide (aI<0))then
   some ((0:Int64),(9:Int))
  else
   bif (decide ((0:Int)<=aI))then
   Option.bind (v2[(aI).toNat]?) λbg=>
   (yL N v8.eQ).bind λbx=>
   (yL N bg.dR).bind λcy=>
   (It N bx cy).bind λbI=>
   Option.bind (AP N bI.1 bI.2 (!((decide (v8.eQ.toInt<0))==(decide (bg.dR.toInt<0)))) (⟨v10,v11,v12⟩:jF)) λcF=>
   (λcu fv xC=>Bt N v2 v9 (v6+1) cu fv xC) cF.1 cF.2.1 cF.2.2
   else none
def tq(N:Nat)(v1:cn)(v2:amT aV):amV (Int64×Int):=
 (yv N v1).bind λv3=>
 bif (v3 !=0)then
  some ((0:Int64),(1:Int))
 else
  (yL N v1.xK).bind λv4=>
  Option.bind (AP N (0:Int) v4 (decide (v1.xK.toInt<0)) UY) λv5=>
  Bt N v2 v1.xL 0 v5.1 v5.2.1 v5.2.2
def FT(v1:cn)(v10:Int)(v11:Int)(v12:Int)(l:amT aq):amT aq:= .cells (dT v1).cells:: .cells [(.d (.v (.int .u64 v10))),(.d (.v (.int .u64 v11))),(.d (.v (.int .u64 v12)))]::l
theorem BV{N v1 v2}:KO 80 [(dT v1),(.d (.sl (aS v2)))] (λr=> .aY [(bk r.1),(ar r.2)]) (tq N v1 v2):=
 fw Tryz.func80 (aw λv3 h1=>gA [[],[(4,cK Kg h1)]] (fP λ_=>aw λv4 h3=>aw λv5 h4=>li (λ_=>(Av bw [(7,cK Oq h3),(19,oR [(.ptr 1 0),(.d (.v (.int .u64 (0:Int)))),(.d (.v (.int .u64 v4))),(az (decide (v1.xK.toInt<0)))] [.cells (dT v1).cells, .cells [(.d (.v (.int .u64 (0:Int)))),(.d (.v (.int .u64 (0:Int)))),(.d (.v (.int .u64 (0:Int))))]] [1] (Q3 h4))] [] [.cells (dT v1).cells, .cells [(.d (.v (.int .u64 v5.1))),(.d (.v (.int .u64 v5.2.1))),(.d (.v (.int .u64 v5.2.2)))]] ·)) (gA [[(7,oL v1.xL lq)]] (gT Al 26 v1.xL λh6=>gl3 1 [] [1,6,26,27,28] 2 (λv6(v10:Int)(v11:Int)(v12:Int)=>⟨68,[(1,(.d (.sl (aS v2)))),(6,(.ptr 1 0)),(26,(.d (.sl (gq v1.xL)))),(27,(ar (v1.xL.length:Int))),(28,(ar (v6:Int)))],(FT v1 v10 v11 v12 [])⟩) (λv6 v10 v11 v12 h7 f1=>aw λaF h8=>gA [[],[f0 (cf h7)],[(1,oQ [(.ptr 1 0)] (FT v1 v10 v11 v12 []) [1] (agi _ h8))],[]] (oT λh9=>gR [[t0 (dj h9)],[]])) (λv6 v8 v9 v10 v11 v12 h7 f1 aJ=>aw λaI aW=>gA [[],[t0 (bZ h7)],[(1,oE (nK (bM h7)))],[(7,oQ [(.d (.sl (aS v2))),(.fn 138 [(.ptr 2 0)])] (FT v1 v10 v11 v12 [.cells (rL v8).cells]) [2] (aiD _ aW))],[]] (bn λaZ=>dG λbC=>aw λbg bj=>aw λbx bJ=>aw λcy bH=>aw λbI bY=>aw λcF c9=>gb aJ (cF.1,cF.2.1,cF.2.2) [[f0 aZ],[(7,⟨_,_, .el (xs:=aS v2) (i:=aI) (of_decide_eq_true bC) (uP bj)⟩)],[(7,cK Oq bJ),(13,cK Oq bH),(16,cK acz bY)],[(25,oR [(.ptr 1 0),(.d (.v (.int .u64 bI.1))),(.d (.v (.int .u64 bI.2))),(az (!((decide (v8.eQ.toInt<0))==(decide (bg.dR.toInt<0)))))] (FT v1 v10 v11 v12 [.cells (rL v8).cells]) [1] (Q3 c9))],[(2,oq (cC h7 rfl h6))]] h7))))))
def Uf(N:Nat)(v1:l7)(v2:amT aV):amV (Bool×Int):=
 (tq N v1.cm v2).bind λv3=>
 bif (v3.2 !=0)then
  some (false,v3.2)
 else
  Option.bind (bif (v3.1.toInt==0)then some true else(bif (decide (v3.1.toInt>0))then some (!v1.Lr)else some false)) λv4=>
  some (v4,(0:Int))
theorem ah6{N v1 v2}:KO 42 [(w6 v1),(.d (.sl (aS v2)))] (λr=> .aY [(az r.1),(ar r.2)]) (Uf N v1 v2):=
 fw Tryz.func42 (aw λv3 h1=>gA [[],[(10,cK BV h1)],[]] (bn λh2=>gA [[f0 h2]] (gG (λv4=>[(4,(az v4)),(5,(ar (0:Int)))]) (λ_=>[.cells (w6 v1).cells]) (ax (λh3=>gE [(2,bT h3),(5,uN)] []) λh3=>cd (2,bF h3) (ax (λh4=>gE [(5,bT h4)] [(28,bT h4)]) λh4=>gE [(5,bF h4)] [(28,bF h4)])) λv4=>gR [])))
def X7(N:Nat)(v2:amT aV):amT l7->Nat->amV Int
 |[],_=>
  some (0:Int)
 |v9::v10,v7=>
  (Uf N v9 v2).bind λv11=>
  bif (v11.2 !=0)then
   some v11.2
  else
   bif v11.1 then
    (X7 N v2 v10 (v7+1))
   else
    some (16:Int)
def QH(N:Nat)(v2:amT aV)(v1:dh):amT amU->Nat->amV Int
 |[],_=>
  X7 N v2 v1.mF 0
 |v5::v6,v3=>
  (Uj N v2 v5).bind λv12=>
  Option.bind (bif (decide (v12<0))then some true else bif (decide ((0:Int)<=v12))then
  Option.bind (v2[(v12).toNat]?) λaF=>
  (bif (decide (aF.dR.toInt<1))then some true else some (decide (aF.dR.toInt>4096)))
  else none) λaI=>
  bif aI then
   some (15:Int)
  else
   (QH N v2 v1 v6 (v3+1))
def TW(N:Nat)(v1:dh)(v2:amT aV):amV Int:=
 bif ((v2.length:Int) !=(v1.gN.length:Int))then
  some (15:Int)
 else
  QH N v2 v1 v1.gN 0
theorem aaD{N v1 v2}:KO 17 [(fg v1),(.d (.sl (aS v2)))] ar (TW N v1 v2):=
 fw Tryz.func17 (gA [[],[(4,oL v2 rX),(13,oL v1.gN jY)]] (bn λh1=>gA [[f0 h1],[(7,oL v1.gN jY)]] (gT qv 19 v1.gN λh3=>e7 1 [] [1,2,19,20,21] 1 (λv3=>⟨66,[(1,(.d (.sl (aS v2)))),(2,(.ptr 0 0)),(19,(.d (.sl (ee v1.gN)))),(20,(ar (v1.gN.length:Int))),(21,(ar (v3:Int)))],[.cells (fg v1).cells]⟩) (λv3 h4 f1=>gA [[],[f0 (cf h4)],[(7,oL v1.mF Ke)]] (gT RV 48 v1.mF λh6=>e7 2 [] [1,48,49,50] 1 (λv7=>⟨66,[(1,(.d (.sl (aS v2)))),(48,(.d (.sl (oH v1.mF)))),(49,(ar (v1.mF.length:Int))),(50,(ar (v7:Int)))],[.cells (fg v1).cells]⟩) (λv7 h7 f2=>gR [[],[f0 (cf h7)],[]]) (λv7 v9 v10 h7 f2 eK=>aw λv11 h8=>gA [[],[t0 (bZ h7)],[(1,oE (Zi (bM h7)))],[(7,cK ah6 h8)],[]] (fP λ_=>fW λaW=>gb eK () [[f0 (cH aW)],[(2,oq (cC h7 rfl h6))]] h7)))) (λv3 v5 v6 h4 f1 aJ=>aw λv12 aZ=>gA [[],[t0 (bZ h4)],[(1,oE (qt (bM h4)))],[(7,oQ [(.d (.sl (aS v2))),(.fn 41 [(.ptr 1 0)])] [.cells (fg v1).cells, .cells [(di v5)]] [1] (agD _ aZ))]] (gG (λaI=>[(45,(az aI))]) (λ_=>[.cells (fg v1).cells, .cells [(di v5)]]) (ax (λbj=>gE [(2,bT bj),(10,bT rfl)] []) λbj=>dG λbJ=>aw λaF bC=>cd (2,bF bj) (dc (16,⟨_,_, .el (xs:=aS v2) (i:=v12) (of_decide_eq_true bJ) (uP bC)⟩) (ax (λbH=>gE [(10,bT bH)] []) λbH=>gE [(10,bF bH)] [(40,⟨_,_, .el (xs:=aS v2) (i:=v12) (of_decide_eq_true bJ) (uP bC)⟩)]))) λaI=>bn λc9=>gb aJ () [[f0 c9],[(2,oq (cC h4 rfl h3))]] h4)))))
def V4(N:Nat)(v1:dh)(v2:amT aV):amV Int:=
 (Sh N v1).bind λv3=>
 bif (v3.2 !=0)then
  some v3.2
 else
  (TW N v1 v2).bind λv4=>
  some v4
theorem aen{N v1 v2}:KO 32 [(fg v1),(.d (.sl (aS v2)))] ar (V4 N v1 v2):=
 fw Tryz.func32 (aw λv3 h1=>gA [[],[(4,cK aeL h1)],[]] (bn λh2=>aw λv4 h3=>gR [[f0 h2],[(7,cK aaD h3)]]))
def Vk(N:Nat)(v2:amT aV):amT cn->Nat->(amT Int)->amV ((amT Int)×Int)
 |[],_,v7=>
  some (v7,(0:Int))
 |v5::v6,v3,v7=>
  (tq N v5 v2).bind λv8=>
  bif (v8.2 !=0)then
   some ([],v8.2)
  else
   Option.bind (bif (decide (v8.1.toInt<1))then some true else some (decide (v8.1.toInt>4096))) λv9=>
   bif v9 then
    some ([],(15:Int))
   else
    bif (Nat.ble ((v7.length+1)*8) 140737488355328)then
    (λcu=>Vk N v2 v6 (v3+1) cu) (v7++[v8.1.toInt])
    else none
def N2(N:Nat)(v1:amT cn)(v2:amT aV):amV ((amT Int)×Int):=
 Vk N v2 v1 0 []
theorem VL{N v1 v2}:KO 61 [(.d (.sl (gg v1))),(.d (.sl (aS v2)))] (λr=> .aY [(.d (.sl (bA r.1))),(ar r.2)]) (N2 N v1 v2):=
 fw Tryz.func61 (gA [[],[],[(4,oL v1 hJ)]] (li (λ_=>(uM 6 3 1 [] (.inr (by kernel_rfl)) ·)) (gT rM 0 v1 λh2=>gd 1 [] [1,6,11,12,13] 1 (λv3(v7:amT Int)=>⟨38,[(1,(.d (.sl (aS v2)))),(6,(.own 0 (bA v7))),(11,(.d (.sl (gg v1)))),(12,(ar (v1.length:Int))),(13,(ar (v3:Int)))],[.front 3 1 v7.length]⟩) (λv3 v7 h3 f1=>gR [[],[f0 (cf h3)],[]]) (λv3 v5 v6 v7 h3 f1 aJ=>aw λv8 h4=>gA [[],[t0 (bZ h3)],[(1,oE (sr (bM h3)))],[(7,cK BV h4)],[]] (bn λh5=>gA [[f0 h5]] (gG (λv9=>[(31,(az v9))]) (λ_=>[.front 3 1 v7.length, .cells (dT v5).cells]) (ax (λh6=>gE [(2,bT h6)] []) λh6=>gE [(2,bF h6)] []) λv9=>bn λh8=>dG λh9=>gb aJ (v7++[v8.1.toInt]) [[f0 h8],[(10,oA mB v7 ([v8.1.toInt]) h9)],[(2,oq (cC h3 rfl h2))]] h3))))))
def Ua(N:Nat)(v2:Int):amT Int->Nat->Int->amV Int
 |[],_,v7=>
  some v7
 |v5::v6,v3,v7=>
  bif (decide ((aE (v7*v5))>v2))then
   some (aE (v2+(1:Int)))
  else
   (λcu=>Ua N v2 v6 (v3+1) cu) (aE (v7*v5))
def Zs(N:Nat)(v1:amT Int)(v2:Int):amV Int:=
 Ua N v2 v1 0 (1:Int)
theorem ajK{N v1 v2}:KO 63 [(.d (.sl (bA v1))),(ar v2)] ar (Zs N v1 v2):=
 fw Tryz.func63 (gA [[],[],[(4,oL v1 fy)]] (gT mB 0 v1 λh2=>gd 1 [] [1,5,8,9,10] 0 (λv3(v7:Int)=>⟨24,[(1,(ar v2)),(5,(ar v7)),(8,(.d (.sl (bA v1)))),(9,(ar (v1.length:Int))),(10,(ar (v3:Int)))],[]⟩) (λv3 v7 h3 f1=>gR [[],[f0 (cf h3)],[]]) (λv3 v5 v6 v7 h3 f1 aJ=>gA [[],[t0 (bZ h3)],[(1,oE (gZ (bM h3)))],[],[]] (bn λh4=>gb aJ (aE (v7*v5)) [[f0 h4],[(2,oq (cC h3 rfl h2))]] h3))))
def Fo(N:Nat)(v1:dh)(v2:amT aV)(v3:amU):amV ((amT Int)×aP×Int):=
 (Iu N v1 v3).bind λv4=>
 bif v4.2.2 then
  (N2 N v4.2.1 v2).bind λv5=>
  bif (v5.2 !=0)then
   some ([],v4.1,v5.2)
  else
   Option.bind (Zs N v5.1 (4096:Int)) λv6=>
   bif (decide (v6>4096))then
    some ([],v4.1,(15:Int))
   else
    some (v5.1,v4.1,(0:Int))
 else
  some ([],v4.1,(9:Int))
theorem Lt{N v1 v2 v3}:KO 38 [(fg v1),(.d (.sl (aS v2))),(di v3)] (λr=> .aY [(.d (.sl (bA r.1))),(bE r.2.1),(ar r.2.2)]) (Fo N v1 v2 v3):=
 fw Tryz.func38 (aw λv4 h1=>gA [[],[(7,cK Ld h1)],[]] (fW λh2=>aw λv5 h3=>gA [[f0 (cH h2)],[(7,cK VL h3)],[]] (bn λh4=>aw λv6 h5=>gA [[f0 h4],[(4,cK ajK h5)]] (bn λh6=>gR [[f0 h6],[]]))))
def Np(N:Nat)(v1:aO)(v2:amU):amV Bool:=
 some (bL v1.bo==bL v2)
theorem aaY{N v1 v2}:KP 85 [(Tf v1),(.ptr 0 0)] [.cells [(di v2)]] az (λ_=>[.cells [(di v2)]]) (Np N v1 v2):=
 fh 1 Tryz.func85 (gH [[],[]])
def zL(N:Nat)(v2:amU):amT aO->Nat->amV Int
 |[],_=>
  some (-1:Int)
 |v5::v6,v3=>
  (Np N v5 v2).bind λv7=>
  bif v7 then
   some (v3:Int)
  else
   (zL N v2 v6 (v3+1))
def Ma(N:Nat)(v1:amT aO)(v2:amU):amV Int:=
 zL N v2 v1 0
theorem aj6{N v1 v2}:KP 84 [(.d (.sl (aX v1))),(.fn 85 [(.ptr 0 0)])] [.cells [(di v2)]] ar (λ_=>[.cells [(di v2)]]) (Ma N v1 v2):=
 fh 1 Tryz.func84 (gA [[],[(4,oL v1 ub)]] (gT yo 0 v1 λh2=>e7 1 [] [0,1,7,8] 1 (λv3=>⟨19,[(0,(.d (.sl (aX v1)))),(1,(.fn 85 [(.ptr 0 0)])),(7,(ar (v1.length:Int))),(8,(ar (v3:Int)))],[.cells [(di v2)]]⟩) (λv3 h3 f1=>gH [[],[f0 (cf h3)],[]]) (λv3 v5 v6 h3 f1 aJ=>aw λv7 h4=>gA [[],[t0 (bZ h3)],[],[(10,oE (uD (bM h3))),(16,oQ [(Tf v5),(.ptr 0 0)] [.cells [(di v2)]] [0] (aaY _ h4))]] (ax (λh5=>gH [[t0 h5],[]]) λh5=>gb aJ () [[f0 h5],[(2,oq (cC h3 rfl h2))]] h3))))
def vu(N:Nat)(v1:amT aO)(v2:amU):amV (aU×Bool):=
 (Ma N v1 v2).bind λv3=>
 bif (decide (v3<0))then
  some (mV,false)
 else
  bif (decide ((0:Int)<=v3))then
  Option.bind (v1[(v3).toNat]?) λv4=>
  some (v4.gM,true)
  else none
theorem HV{N v1 v2}:KO 47 [(.d (.sl (aX v1))),(di v2)] (λr=> .aY [(gJ r.1),(az r.2)]) (vu N v1 v2):=
 fw Tryz.func47 (aw λv3 h1=>gA [[],[(7,oQ [(.d (.sl (aX v1))),(.fn 85 [(.ptr 0 0)])] [.cells [(di v2)], .cells PO] [0] (aj6 _ h1))],[]] (bn λh2=>dG λh4=>aw λv4 h3=>gR [[f0 h2],[(7,⟨_,_, .el (xs:=aX v1) (i:=v3) (of_decide_eq_true h4) (uD h3)⟩)]]))
def tZ(N:Nat):amT Int->Nat->Int->amV Int
 |[],_,_=>
  some (0:Int)
 |v8::v9,v6,v10=>
  bif (v10 !=0)then
  bif (decide (v8>(IntKind.i64.wrap (((4096:Int)).tdiv v10))))then
   some (2:Int)
  else
   (λiv=>tZ N v9 (v6+1) iv) (aE (v10*v8))
  else none
def vS(N:Nat)(v1:amT Int):amT Int->Nat->amV Int
 |[],_=>
  tZ N v1 0 (1:Int)
 |v4::v5,v2=>
  bif (decide (v4<1))then
   some (1:Int)
  else
   (vS N v1 v5 (v2+1))
def wA(N:Nat)(v1:amT Int):amV Int:=
 bif (decide ((v1.length:Int)>6))then
  some (2:Int)
 else
  vS N v1 v1 0
theorem TX{N v1}:KO 161 [(.d (.sl (bA v1)))] ar (wA N v1):=
 fw Tryz.func161 (gA [[],[(4,oL v1 fy)]] (bn λh1=>gA [[f0 h1],[(4,oL v1 fy)]] (gT mB 0 v1 λh3=>e7 1 [] [0,11,12,13] 0 (λv2=>⟨34,[(0,(.d (.sl (bA v1)))),(11,(.d (.sl (bA v1)))),(12,(ar (v1.length:Int))),(13,(ar (v2:Int)))],[]⟩) (λv2 h4 f1=>gA [[],[f0 (cf h4)],[],[(4,oL v1 fy)]] (gT mB 0 v1 λh6=>gd 2 [] [5,20,21,22] 0 (λv6(v10:Int)=>⟨34,[(5,(ar v10)),(20,(.d (.sl (bA v1)))),(21,(ar (v1.length:Int))),(22,(ar (v6:Int)))],[]⟩) (λv6 v10 h7 f2=>gR [[],[f0 (cf h7)],[]]) (λv6 v8 v9 v10 h7 f2 eK=>dG λh8=>gA [[],[t0 (bZ h7)],[(1,oE (gZ (bM h7)))],[(7,⟨_,_, .nz (b:=v10) (bne_iff_ne.1 h8)⟩)]] (bn λh9=>gb eK (aE (v10*v8)) [[f0 h9],[],[(2,oq (cC h7 rfl h6))]] h7)))) (λv2 v4 v5 h4 f1 aJ=>gA [[],[t0 (bZ h4)],[(1,oE (gZ (bM h4)))],[]] (bn λaW=>gb aJ () [[f0 aW],[(2,oq (cC h4 rfl h3))]] h4)))))
def AQ(N:Nat):amT Int->Nat->Int->amV Int
 |[],_,v7=>
  some v7
 |v5::v6,v3,v7=>
  (λcu=>AQ N v6 (v3+1) cu) (aE (v7*v5))
def J4(N:Nat)(v1:amT Int):amV Int:=
 (wA N v1).bind λv2=>
 bif (v2 !=0)then
  some (0:Int)
 else
  AQ N v1 0 (1:Int)
theorem aj3{N v1}:KO 162 [(.d (.sl (bA v1)))] ar (J4 N v1):=
 fw Tryz.func162 (aw λv2 h1=>gA [[],[(4,cK TX h1)]] (bn λh2=>gA [[f0 h2],[],[(4,oL v1 fy)]] (gT mB 0 v1 λh4=>gd 1 [] [3,9,10,11] 0 (λv3(v7:Int)=>⟨20,[(3,(ar v7)),(9,(.d (.sl (bA v1)))),(10,(ar (v1.length:Int))),(11,(ar (v3:Int)))],[]⟩) (λv3 v7 h5 f1=>gR [[],[f0 (cf h5)],[]]) (λv3 v5 v6 v7 h5 f1 aJ=>gb aJ (aE (v7*v5)) [[],[t0 (bZ h5)],[(1,oE (gZ (bM h5)))],[],[(2,oq (cC h5 rfl h4))]] h5))))
def FM(N:Nat)(v1:aU):amT aB->Nat->amV Int
 |[],_=>
  some (0:Int)
 |v7::v8,v5=>
  (nD N v1.aK v7).bind λv9=>
  bif v9 then
   (FM N v1 v8 (v5+1))
  else
   some (1:Int)
def Cw(N:Nat)(v1:aU):amV Int:=
 (mr N v1.aK).bind λv2=>
 bif (v2 !=0)then
  some v2
 else
  (wA N v1.bS).bind λv3=>
  bif (v3 !=0)then
   some v3
  else
   (J4 N v1.bS).bind λv4=>
   bif ((v1.dI.length:Int) !=v4)then
    some (1:Int)
   else
    FM N v1 v1.dI 0
theorem Tx{N v1}:KO 97 [(gJ v1)] ar (Cw N v1):=
 fw Tryz.func97 (aw λv2 h1=>gA [[],[(7,cK nQ h1)],[]] (bn λh2=>aw λv3 h3=>gA [[f0 h2],[(7,cK TX h3)],[]] (bn λh4=>aw λv4 h5=>gA [[f0 h4],[(7,oL v1.dI kp),(16,cK aj3 h5)]] (bn λh6=>gA [[f0 h6],[(7,oL v1.dI kp)]] (gT wj 27 v1.dI λh8=>e7 1 [] [1,27,28,29] 1 (λv5=>⟨39,[(1,(.ptr 0 0)),(27,(.d (.sl (dO v1.dI)))),(28,(ar (v1.dI.length:Int))),(29,(ar (v5:Int)))],[.cells (gJ v1).cells]⟩) (λv5 h9 f1=>gR [[],[f0 (cf h9)],[]]) (λv5 v7 v8 h9 f1 aJ=>aw λv9 aW=>gA [[],[t0 (bZ h9)],[(1,oE (nm (bM h9)))],[(10,cK tY aW)]] (fW λaZ=>gb aJ () [[f0 (cH aZ)],[(2,oq (cC h9 rfl h8))]] h9)))))))
def WK(N:Nat)(v2:amT Int):amT Int->Nat->amV Bool
 |[],_=>
  some true
 |v5::v6,v3=>
  Option.bind (v2[((v3:Int)).toNat]?) λv7=>
  bif (v5 !=v7)then
   some false
  else
   (WK N v2 v6 (v3+1))
def Rb(N:Nat)(v1:amT Int)(v2:amT Int):amV Bool:=
 bif ((v1.length:Int) !=(v2.length:Int))then
  some false
 else
  WK N v2 v1 0
theorem ajC{N v1 v2}:KO 196 [(.d (.sl (bA v1))),(.d (.sl (bA v2)))] az (Rb N v1 v2):=
 fw Tryz.func196 (gA [[],[(4,oL v1 fy),(10,oL v2 fy)]] (bn λh1=>gA [[f0 h1],[(4,oL v1 fy)]] (gT mB 0 v1 λh3=>e7 1 [] [0,1,12,13] 0 (λv3=>⟨26,[(0,(.d (.sl (bA v1)))),(1,(.d (.sl (bA v2)))),(12,(ar (v1.length:Int))),(13,(ar (v3:Int)))],[]⟩) (λv3 h4 f1=>gR [[],[f0 (cf h4)],[]]) (λv3 v5 v6 h4 f1 aJ=>aw λv7 h5=>gA [[],[t0 (bZ h4)],[],[(7,oE (gZ (bM h4))),(19,oE (gZ h5))]] (bn λh7=>gb aJ () [[f0 h7],[(2,oq (cC h4 rfl h3))]] h4)))))
def Oa(N:Nat)(v1:amT aO)(v2:amU)(v3:aP)(v4:amT Int):amV Int:=
 (vu N v1 v2).bind λv5=>
 bif v5.2 then
  (Cw N v5.1).bind λv6=>
  bif (v6 !=0)then
   some (1:Int)
  else
   bif ((v5.1.aK.bu==v3.bu)&&((v5.1.aK.bG==v3.bG)&&((v5.1.aK.ck==v3.ck)&&((v5.1.aK.cx==v3.cx)&&((v5.1.aK.cG==v3.cG)&&true)))))then
    (Rb N v5.1.bS v4).bind λv7=>
    bif v7 then
     some (0:Int)
    else
     some (15:Int)
   else
    some (10:Int)
 else
  some (9:Int)
theorem Xb{N v1 v2 v3 v4}:KO 112 [(.d (.sl (aX v1))),(di v2),(bE v3),(.d (.sl (bA v4)))] ar (Oa N v1 v2 v3 v4):=
 fw Tryz.func112 (aw λv5 h1=>gA [[],[(7,cK HV h1)],[]] (fW λh2=>aw λv6 h3=>gA [[f0 (cH h2)],[(4,cK Tx h3)]] (fP λ_=>fW λh5=>aw λv7 h6=>gA [[f0 (cH h5)],[(10,cK ajC h6)]] (oT λh7=>gR [[t0 (dj h7)],[]]))))
def XJ(N:Nat)(v1:amT Int):amV (amT Int):=bif Nat.ble (v1.length*8) 140737488355328 then some v1 else none
theorem aho{N v1 r}(J:XJ N v1=some r):ga Tryz.prog 64 [(.d (.sl (bA v1)))] (·=(.d (.sl (bA r)))):=by
 obtain⟨hb,rfl⟩:=eu J;have hc:=mJ hb (by decide);exact aez Ee (by rw[fy];exact hc.1) (by rw[fy];exact hc.2)
def SN(N:Nat)(v1:amT aB):amV (amT aB):=bif Nat.ble (v1.length*16) 140737488355328 then some v1 else none
theorem ajs{N v1 r}(J:SN N v1=some r):ga Tryz.prog 86 [(.d (.sl (dO v1)))] (·=(.d (.sl (dO r)))):=by
 obtain⟨hb,rfl⟩:=eu J;have hc:=mJ hb (by decide);exact ahx Lu (by rw[kp];exact hc.1) (by rw[kp];exact hc.2)
def KY(N:Nat)(v1:aU):amV aU:=
 (XJ N v1.bS).bind λv2=>
 (SN N v1.dI).bind λv3=>
 some (⟨v1.aK,v2,v3⟩:aU)
theorem Vw{N v1}:KO 48 [(gJ v1)] gJ (KY N v1):=
 fw Tryz.func48 (gA [[]] (aw λv2 h1=>aw λv3 h2=>li (λ_=>(Ub 1 bw [] [.cells (gJ v1).cells, .cells [(ar v1.aK.bu),(ar v1.aK.bG),(ar v1.aK.ck),(ar v1.aK.cx),(ar v1.aK.cG),(.d (.sl (bA v2))),(.d (.sl (dO v3)))]] ⟨[(13,cL (aho h1)),(22,cL (ajs h2))],by kernel_rfl⟩ ·)) (gR [])))
def Is(N:Nat)(v3:amT aO)(v6:ju)(v8:amT aO)(kN:(amT aO)->amV ((amT aO)×Int))(v10:Int):amV ((amT aO)×Int):=
 bif (v10 !=0)then
  some ([],v10)
 else
  (vu N v3 v6.bo).bind λv11=>
  (KY N v11.1).bind λv12=>
  bif (Nat.ble ((v8.length+1)*104) 140737488355328)then
  kN (v8++[(⟨v6.bo,v12⟩:aO)])
  else none
def wE(N:Nat)(v1:dh)(v2:amT aV)(v3:amT aO):amT ju->Nat->(amT aO)->amV ((amT aO)×Int)
 |[],_,v8=>
  some (v8,(0:Int))
 |v6::v7,v4,v8=>
  (Fo N v1 v2 v6.bo).bind λv9=>
  bif (v9.2.2==0)then
   (Oa N v3 v6.bo v9.2.1 v9.1).bind λaF=>
   Is N v3 v6 v8 (λcu=>wE N v1 v2 v3 v7 (v4+1) cu) aF
  else
   Is N v3 v6 v8 (λcu=>wE N v1 v2 v3 v7 (v4+1) cu) v9.2.2
def OP(N:Nat)(v1:dh)(v2:amT aV)(v3:amT aO):amV ((amT aO)×Int):=
 wE N v1 v2 v3 v1.fz 0 []
def tf(v1:dh)(v8:amT aO)(v6:ju)(v9:(amT Int)×aP×Int)(l:amT aq):amT aq:= .cells (fg v1).cells:: .front 56 8 v8.length:: .cells (pD v6).cells:: .cells (bE v9.2.1).cells::l
def Ai(v1:dh)(v8:amT aO)(l:amT aq):amT aq:= .cells (fg v1).cells:: .front 56 8 v8.length::l
def CZ(v1:dh)(l:amT aq):amT aq:= .cells (fg v1).cells::l
theorem adn{N v1 v2 v3 r}(J:OP N v1 v2 v3=some r):KH 82 [(fg v1),(.d (.sl (aS v2))),(.d (.sl (aX v3)))] [] (.aY [(.own 0 (aX r.1)),(ar r.2)]) ([.front 56 8 r.1.length]):=by
 rw[OP]at J;refine E1 1 Tryz.func82 rfl (by kernel_rfl) (amd rfl) ?_;refine mq (s':=⟨60,[(0,(fg v1)),(1,(.d (.sl (aS v2)))),(2,(.d (.sl (aX v3))))],[]⟩) (by kernel_rfl) ?_;refine au ?_;refine rg [] [(3,(.ptr 0 0))] (CZ v1 []) (by kernel_rfl) ?_;refine au ?_;refine rg [] [(8,(.d (.v (.slice none 0 0))))] (CZ v1 []) (by kernel_rfl) ?_;refine au ?_;refine au ?_;refine rg [(7,oL v1.fz As)] [(17,(.d (.sl (kT v1.fz)))),(18,(ar (v1.fz.length:Int))),(19,(ar (0:Int)))] (CZ v1 []) (by kernel_rfl) ?_;refine dn ?_;refine JY 8 56 8 [] (.inr ⟨rfl,rfl⟩) ?_;refine wI 17 (kT v1.fz) (by kernel_rfl) λh1=> ?_;have h2:=wu As h1;refine MH [1,2,3,8,17,18,19] 2 (λ((v4,v5,v8):Nat×(amT ju)×(amT aO))=>⟨60,[(1,(.d (.sl (aS v2)))),(2,(.d (.sl (aX v3)))),(3,(.ptr 0 0)),(8,(.own 1 (aX v8))),(17,(.d (.sl (kT v1.fz)))),(18,(ar (v1.fz.length:Int))),(19,(ar (v4:Int)))],(Ai v1 v8 [])⟩) (λ((v4,v5,v8):Nat×(amT ju)×(amT aO))=>v1.fz.drop v4=v5/\wE N v1 v2 v3 v5 v4 v8=some r) (λ((v4,v5,v8):Nat×(amT ju)×(amT aO))=>v5.length) (0,v1.fz,[]) (amd rfl) (by kernel_rfl) ⟨rfl,J⟩ ?_;rintro⟨v4,v5,v8⟩ ⟨h3,J⟩;cases v5 with
 |nil=>
  rw[wE]at J;refine au ?_;refine rg [] [(20,(az (decide ((v4:Int)<(v1.fz.length:Int)))))] (Ai v1 v8 []) (by kernel_rfl) ?_;refine au ?_;refine dm (t:=(decide ((v4:Int)<(v1.fz.length:Int)))) (by kernel_rfl) (cf h3) ?_;refine kW (at_e (at_e (l4 rfl ?_)));refine aM ?_;refine au ?_;refine rg [] [(6,(.own 1 (aX v8))),(7,(ar (0:Int)))] (Ai v1 v8 []) (by kernel_rfl) ?_;refine ft [6,7] 2 (amd rfl) (s':=⟨60,[(6,(.own 1 (aX v8))),(7,(ar (0:Int)))],(Ai v1 v8 [])⟩) (by kernel_rfl) ?_;refine WY (Rm (i:=1) (j:=0) (amd rfl) (amd rfl) (amd rfl) (amd rfl)) ?_;refine mq (s':=⟨60,[(6,(.own 0 (aX v8))),(7,(ar (0:Int)))],[.front 56 8 v8.length, .cells (fg v1).cells]⟩) (by kernel_rfl) ?_;refine ft [6,7] 1 (amd rfl) (s':=⟨60,[(6,(.own 0 (aX v8))),(7,(ar (0:Int)))],[.front 56 8 v8.length]⟩) (by kernel_rfl) ?_;refine cU ?_;have hr:=amo J;subst hr;exact uh (eP trivial jD) (by kernel_rfl)
 |cons v6 v7=>
  rw[wE]at J;refine au ?_;refine rg [] [(20,(az (decide ((v4:Int)<(v1.fz.length:Int)))))] (Ai v1 v8 []) (by kernel_rfl) ?_;refine au ?_;refine cS (t:=(decide ((v4:Int)<(v1.fz.length:Int)))) (by kernel_rfl) (bZ h3) ?_;refine ct ?_;refine aM ?_;refine au ?_;refine dn ?_;refine au ?_;refine rg [(1,oE (Ms (bM h3)))] [(10,(.ptr 2 0))] (Ai v1 v8 [.cells (pD v6).cells]) (by kernel_rfl) ?_;refine au ?_;obtain⟨v9,h4,J⟩:=bm J;refine rg [(13,cK Lt h4)] [(12,(.ptr 3 0)),(11,(.d (.sl (bA v9.1)))),(13,(ar v9.2.2))] (tf v1 v8 v6 v9 []) (by kernel_rfl) ?_;refine au ?_;refine au ?_;refine rg [] [(33,(az (v9.2.2==0)))] (tf v1 v8 v6 v9 []) (by kernel_rfl) ?_;refine pe [1,2,3,8,10,13,17,18,19] 4 (λ(v10:Int)=>⟨60,[(1,(.d (.sl (aS v2)))),(2,(.d (.sl (aX v3)))),(3,(.ptr 0 0)),(8,(.own 1 (aX v8))),(10,(.ptr 2 0)),(13,(ar v10)),(17,(.d (.sl (kT v1.fz)))),(18,(ar (v1.fz.length:Int))),(19,(ar (v4:Int)))],(tf v1 v8 v6 v9 [])⟩) (λ(v10:Int)=>Is N v3 v6 v8 (λcu=>wE N v1 v2 v3 v7 (v4+1) cu) v10=some r) (amd rfl) ?_ ?_
  ·rcases dw (v9.2.2==0)with h9|h9
   ·replace J:=(c7 h9).symm.trans J;refine cS (t:=(v9.2.2==0)) (by kernel_rfl) h9 ?_;obtain⟨aF,aW,J⟩:=bm J;refine re [(16,cK Xb aW)] [(13,(ar aF)),(39,(ar aF)),(38,(.d (.sl (bA v9.1)))),(37,(bE v9.2.1)),(36,(di v6.bo)),(35,(.ptr 2 0)),(34,(.d (.sl (aX v3))))] (tf v1 v8 v6 v9 []) (by kernel_rfl) ?_;refine aM ?_;exact⟨aF,by kernel_rfl,J⟩
   replace J:=(du h9).symm.trans J;refine dm (t:=(v9.2.2==0)) (by kernel_rfl) h9 ?_;refine ct ?_;refine aM ?_;exact⟨v9.2.2,by kernel_rfl,J⟩
  rintro v10 J
  try dsimp only at J
  rw[Is]at J;refine au ?_;refine au ?_;refine rg [] [(41,(az (v10 !=0)))] (tf v1 v8 v6 v9 []) (by kernel_rfl) ?_;rcases dw (v10 !=0)with h5|h5
  ·replace J:=(c7 h5).symm.trans J;refine cS (t:=(v10 !=0)) (by kernel_rfl) h5 ?_;refine au ?_;refine rg [] [(6,(.d (.v (.slice none 0 0)))),(7,(ar v10))] (tf v1 v8 v6 v9 []) (by kernel_rfl) ?_;refine JY 6 56 8 [] (.inr ⟨rfl,rfl⟩) ?_;refine ft [6,7] 5 (amd rfl) (s':=⟨60,[(6,(.own 4 (aX []))),(7,(ar v10))],(tf v1 v8 v6 v9 [.front 56 8 0])⟩) (by kernel_rfl) ?_;refine WY (Rm (i:=4) (j:=0) (amd rfl) (amd rfl) (amd rfl) (amd rfl)) ?_;refine mq (s':=⟨60,[(6,(.own 0 (aX []))),(7,(ar v10))],[.front 56 8 0, .front 56 8 v8.length, .cells (pD v6).cells, .cells (bE v9.2.1).cells, .cells (fg v1).cells]⟩) (by kernel_rfl) ?_;refine ft [6,7] 1 (amd rfl) (s':=⟨60,[(6,(.own 0 (aX []))),(7,(ar v10))],[.front 56 8 0]⟩) (by kernel_rfl) ?_;refine cU (cT (dS (cT (cT (dS (cT ?_))))));have hr:=amo J;subst hr;exact uh (eP trivial jD) (by kernel_rfl)
  replace J:=(du h5).symm.trans J;refine dm (t:=(v10 !=0)) (by kernel_rfl) h5 ?_;refine ct ?_;refine aM ?_;refine au ?_;obtain⟨v11,h6,J⟩:=bm J;refine rg [(10,cK HV h6)] [(14,(.ptr 4 0))] (tf v1 v8 v6 v9 [.cells (gJ v11.1).cells]) (by kernel_rfl) ?_;obtain⟨v12,h7,J⟩:=bm J;have h8:=mI J;replace J:=(c7 h8).symm.trans J;refine Zg bw (by kernel_rfl) [(13,cK Vw h7),(22,oA yo v8 ([(⟨v6.bo,v12⟩:aO)]) h8)] [(8,(.own 1 (aX (v8++[(⟨v6.bo,v12⟩:aO)])))),(57,(.own 1 (aX (v8++[(⟨v6.bo,v12⟩:aO)])))),(56,(.full (aX [(⟨v6.bo,v12⟩:aO)]))),(55,(.agg [(di v6.bo),(ar v12.aK.bu),(ar v12.aK.bG),(ar v12.aK.ck),(ar v12.aK.cx),(ar v12.aK.cG),(.d (.sl (bA v12.bS))),(.d (.sl (dO v12.dI)))])),(54,(gJ v12)),(53,(gJ v11.1)),(52,(di v6.bo)),(51,(.ptr 2 0)),(50,(.own 1 (aX v8)))] (CZ v1 [.front 56 8 (v8++[(⟨v6.bo,v12⟩:aO)]).length, .cells (pD v6).cells, .cells (bE v9.2.1).cells, .cells (gJ v11.1).cells]) (by kernel_rfl) ?_;refine dU ?_;refine aM ?_;refine re [(2,oq (cC h3 rfl h2))] [(19,(ar ((v4+1:Nat):Int))),(58,(ar ((v4+1:Nat):Int)))] (CZ v1 [.front 56 8 (v8++[(⟨v6.bo,v12⟩:aO)]).length, .cells (pD v6).cells, .cells (bE v9.2.1).cells, .cells (gJ v11.1).cells]) (by kernel_rfl) ?_
  refine aM ?_;exact⟨(v4+1,v7,(v8++[(⟨v6.bo,v12⟩:aO)])),by kernel_rfl,⟨jR h3,J⟩,amR _⟩
def TY(N:Nat):amT fj->Nat->(amT cn)->amV ((amT cn))
 |[],_,v6=>
  some v6
 |v4::v5,v2,v6=>
  bif (Nat.ble ((v6.length+1)*32) 140737488355328)then
  (λcu=>TY N v5 (v2+1) cu) (v6++[v4.qU])
  else none
def UI(N:Nat)(v1:amT fj):amV ((amT cn)):=
 TY N v1 0 []
theorem acS{N v1}:KO 62 [(.d (.sl (iO v1)))] (λr=> .d (.sl (gg r))) (UI N v1):=
 fw Tryz.func62 (gA [[],[],[(4,oL v1 nh)]] (li (λ_=>(uM 3 48 2 [] (.inr (by kernel_rfl)) ·)) (gT Az 0 v1 λh2=>gd 1 [] [3,6,7,8] 1 (λv2(v6:amT cn)=>⟨19,[(3,(.own 0 (gg v6))),(6,(.d (.sl (iO v1)))),(7,(ar (v1.length:Int))),(8,(ar (v2:Int)))],[.front 48 2 v6.length]⟩) (λv2 v6 h3 f1=>gR [[],[f0 (cf h3)],[]]) (λv2 v4 v5 v6 h3 f1 aJ=>dG λh4=>gb aJ (v6++[v4.qU]) [[],[t0 (bZ h3)],[(1,oE (D0 (bM h3)))],[(13,oA rM v6 ([v4.qU]) h4)],[(2,oq (cC h3 rfl h2))]] h3))))
def TR(N:Nat)(v1:amT Int):amV (amT Int):=bif Nat.ble (v1.length*8) 140737488355328 then some v1 else none
theorem Wr{N v1 r}(J:TR N v1=some r):cZ Tryz.prog 64 [(.d (.sl (bA v1)))] [] λr1 h1=>r1=(.vec 0 0 r.length r.length 1)/\h1=[.vec 3 1 (cg (r.map eE))]:=by
 obtain⟨hb,rfl⟩:=eu J;have hc:=mJ hb (by decide);have h1:=Z0 (xs:=bA v1) Ee (by rw[fy];exact hc.1) (by rw[fy];exact hc.2);have h2:cg (v1.map eE)=cg (bA v1):=by rw[nB]
 have h3:=fy (l:=v1);rw[h3]at h1;rw[h2];exact h1
def EM(N:Nat)(v1:Nat)(v3:amT Int)(v2:Int):Nat->Int->Int->amV Int
 |0,_,_=>none
 |v4+1,v5,v6=>
  bif (decide (v6<(v1:Int)))then
   bif (decide ((0:Int)<=v6))then
   Option.bind (v3[(v6).toNat]?) λv7=>
   bif (decide ((aE (v5*v7))>v2))then
    some (aE (v2+(1:Int)))
   else
    (λcu fv=>EM N v1 v3 v2 v4 cu fv) (aE (v5*v7)) (aE (v6+(1:Int)))
   else none
  else
   some v5
def PW(N:Nat)(v1:Nat)(v2:Int)(v3:amT Int):amV Int:=
 bif (Nat.beq v3.length v1)then
 EM N v1 v3 v2 N (1:Int) (0:Int)
 else none
def og(v3:amT Int)(l:amT aq):amT aq:= .vec 3 1 (cg (v3.map eE))::l
theorem UG{N v1 v2 v3 r}(J:PW N v1 v2 v3=some r):KH 63 [(.vec 0 0 v1 v1 1),(ar v2)] ([.vec 3 1 (cg (v3.map eE))]) (ar r) ([.vec 3 1 (cg (v3.map eE))]):=by
 rw[PW]at J;refine E1 1 Tryz.func63 rfl (by kernel_rfl) (amd rfl) ?_;refine mq (s':=⟨24,[(0,(.vec 0 0 v1 v1 1)),(1,(ar v2))],(og v3 [])⟩) (by kernel_rfl) ?_;refine au ?_;refine rg [] [] (og v3 []) (by kernel_rfl) ?_;refine au ?_;refine rg [] [(5,(ar (1:Int)))] (og v3 []) (by kernel_rfl) ?_;refine au ?_;refine au ?_;have h1:=mI J;replace J:=(c7 h1).symm.trans J;refine rg [(4,⟨_,_, .pr .no (zU (f:=eE) (amj h1))⟩)] [(8,(.vec 0 0 v1 v1 1)),(9,(ar (v1:Int))),(10,(ar (0:Int)))] (og v3 []) (by kernel_rfl) ?_;refine dn ?_;refine KK [1,5,8,9,10] 1 [] [] (λ((v4,v5,v6):Nat×Int×Int)=>⟨24,[(1,(ar v2)),(5,(ar v5)),(8,(.vec 0 0 v1 v1 1)),(9,(ar (v1:Int))),(10,(ar v6))],(og v3 [])⟩) (λ((v4,v5,v6):Nat×Int×Int)=>EM N v1 v3 v2 v4 v5 v6=some r) (λ((v4,v5,v6):Nat×Int×Int)=>v4) (N,(1:Int),(0:Int)) (amd rfl) ⟨(lC (xs:=(v3.map eE)) jD),by kernel_rfl⟩ J ?_;rintro⟨v4,v5,v6⟩ J
 try dsimp only at J
 cases v4 with
 |zero=>
  rw[EM]at J;cases J
 |succ v4=>
  rw[EM]at J;refine au ?_;refine rg [] [(11,(az (decide (v6<(v1:Int)))))] (og v3 []) (by kernel_rfl) ?_;refine au ?_;rcases dw (decide (v6<(v1:Int)))with h2|h2
  ·replace J:=(c7 h2).symm.trans J;refine cS (t:=(decide (v6<(v1:Int)))) (by kernel_rfl) h2 ?_;refine ct ?_;refine aM ?_;refine au ?_;refine dn ?_;refine au ?_;have h3:=mI J;replace J:=(c7 h3).symm.trans J;obtain⟨v7,h4,J⟩:=bm J;refine rg [(1,⟨_,_, .pr (.ix ((v6).toNat)) (SA (zU (f:=eE) (amj h1)) (of_decide_eq_true h3) (of_decide_eq_true h2) rfl)⟩),(4,⟨_,_, .pr (.el ((eE v7).map AV.d)) (ahY (f:=eE) (amj h1) h4)⟩)] [(7,(ar v7))] (og v3 []) (by kernel_rfl) ?_;refine au ?_;refine rg [] [(5,(ar (aE (v5*v7))))] (og v3 []) (by kernel_rfl) ?_;refine au ?_;refine rg [] [(19,(az (decide ((aE (v5*v7))>v2))))] (og v3 []) (by kernel_rfl) ?_;rcases dw (decide ((aE (v5*v7))>v2))with h5|h5
   ·replace J:=(c7 h5).symm.trans J;refine cS (t:=(decide ((aE (v5*v7))>v2))) (by kernel_rfl) h5 ?_;refine au ?_;refine rg [] [(4,(ar (aE (v2+(1:Int)))))] (og v3 []) (by kernel_rfl) ?_;refine cU (dS (cT (cT (dS (cT ?_)))));have hr:=amo J;subst hr;exact uh (lC (xs:=(v3.map eE)) jD) (by kernel_rfl)
   replace J:=(du h5).symm.trans J;refine dm (t:=(decide ((aE (v5*v7))>v2))) (by kernel_rfl) h5 ?_;refine ct ?_;refine dU ?_;refine aM ?_;refine re [] [(10,(ar (aE (v6+(1:Int))))),(22,(ar (aE (v6+(1:Int)))))] (og v3 []) (by kernel_rfl) ?_;refine aM ?_;exact⟨(v4,(aE (v5*v7)),(aE (v6+(1:Int)))),⟨(lC (xs:=(v3.map eE)) jD),by kernel_rfl⟩,J,amR _⟩
  replace J:=(du h2).symm.trans J;refine dm (t:=(decide (v6<(v1:Int)))) (by kernel_rfl) h2 ?_;refine kW (at_e (at_e (l4 rfl ?_)));refine aM ?_;refine au ?_;refine rg [] [(4,(ar v5))] (og v3 []) (by kernel_rfl) ?_;refine cU ?_;have hr:=amo J;subst hr;exact uh (lC (xs:=(v3.map eE)) jD) (by kernel_rfl)
def bK:aB:=⟨(0:Int64),(0:Int64)⟩
def Bi:eZ:=⟨bK,eD⟩
def dB:amT AV:=[(bk (0:Int64)),(bk (0:Int64)),(ar (0:Int)),(ar (0:Int)),(ar (0:Int)),(ar (0:Int)),(ar (0:Int))]
def fG:amT AV:=[(bk (0:Int64)),(bk (0:Int64))]
def Yc(N:Nat)(v1:amT amU)(v3:Nat):amV (amT amU):=bif Nat.beq v1.length v3&&Nat.blt v3 4611686018427387904 then some (kA v1)else none
theorem aax{N v1 v3 r}(J:Yc N v1 v3=some r):cZ Tryz.prog 195 [(.vec 0 0 v3 v3 1)] [.vec 9 1 (cg (v1.map ir))] λr1 h1=>r1=(.d (.sl (ee r)))/\h1=[.gone]:=by
 obtain⟨hb,rfl⟩:=eu J;rw[al7]at hb;exact abt (amj hb.1) (amd hb.2)
def AO(N:Nat)(kN:Nat->(amT amU)->amV ((amT amU))):amT cY->Nat->Nat->(amT amU)->amV ((amT amU))
 |[],_,aI,bg=>
  kN aI bg
 |v12::aF,v10,aI,bg=>
  bif (bL v12.dA==bL (bs []))then
   (λxo Fc=>AO N kN aF (v10+1) xo Fc) aI bg
  else
   bif (Nat.beq bg.length aI)then
   bif (Nat.ble ((aI+1)*16) 140737488355328)then
   (λxo Fc=>AO N kN aF (v10+1) xo Fc) (aI+1) (bg++[v12.dA])
   else none
   else none
def JK(N:Nat)(kN:Nat->(amT amU)->amV ((amT amU)))(v5:ay)(v8:Nat)(v9:amT amU):amV ((amT amU)):=
 AO N kN v5.xIdx 0 v8 v9
def uV(N:Nat):amT ay->Nat->(amT amU)->amV ((amT amU))
 |[],v3,v4=>
  (Yc N v4 v3).bind λv7=>
  some v7
 |v5::v6,v3,v4=>
  bif (v5.aC==3)then
   bif (Nat.beq v4.length v3)then
   bif (Nat.ble ((v3+1)*16) 140737488355328)then
   JK N (λcu fv=>uV N v6 cu fv) v5 (v3+1) (v4++[v5.bo])
   else none
   else none
  else
   JK N (λcu fv=>uV N v6 cu fv) v5 v3 v4
def OM(N:Nat)(v1:ay):amV ((amT amU)):=
 (Ch N v1).bind λv2=>
 uV N (eO v2) 0 []
def nT(v1:ay)(v3:Nat)(v4:amT amU)(cA:Code)(cB:Code)(v2:ay)(v5:ay)(l:amT aq):amT aq:= .cells (aD v1).cells:: .cells [(.vec 2 0 v3 v3 1)]:: .vec 9 1 (cg (v4.map ir)):: .lp .busy 9 cA cB (dt 36 [(3,(.ptr 1 0)),(8,(.fn 149 [(.bp [eH v2] 0 0)]))]):: .cells (aD v5).cells::l
def yi(v1:ay)(v3:Nat)(v4:amT amU)(l:amT aq):amT aq:= .cells (aD v1).cells:: .cells [(.vec 2 0 v3 v3 1)]:: .vec 9 1 (cg (v4.map ir))::l
def XH(v1:ay)(aI:Nat)(bg:amT amU)(v12:cY)(cA:Code)(cB:Code)(v2:ay)(v5:ay)(l:amT aq):amT aq:= .cells (aD v1).cells:: .cells [(.vec 2 0 (aI+1) (aI+1) 1)]:: .vec 9 1 (cg ((bg++[v12.dA]).map ir)):: .lp .busy 9 cA cB (dt 36 [(3,(.ptr 1 0)),(8,(.fn 149 [(.bp [eH v2] 0 0)]))]):: .cells (aD v5).cells:: .cells (gy v12).cells::l
def xt(v1:ay)(l:amT aq):amT aq:= .cells (aD v1).cells::l
theorem alf{N v1 r}(J:OM N v1=some r):KF 111 [(aD v1)] (.d (.sl (ee r))):=by
 rw[OM]at J;refine lO Tryz.func111 rfl (by kernel_rfl) ?_;refine ft [0] 0 (amg _) (s':=⟨36,[(0,(aD v1))],[]⟩) (by kernel_rfl) ?_;refine au ?_;refine rg [] [(1,(.ptr 0 0))] (xt v1 []) (by kernel_rfl) ?_;refine au ?_;refine rg [] [(3,(.ptr 1 0))] (xt v1 [.cells [(.d (.v (.slice none 0 0)))]]) (by kernel_rfl) ?_;refine au ?_;refine au ?_;obtain⟨v2,h1,J⟩:=bm J;refine rg [(4,cL (NF h1))] [(8,(.fn 149 [(.bp [eH v2] 0 0)]))] (xt v1 [.cells [(.d (.v (.slice none 0 0)))]]) (by kernel_rfl) ?_;refine dn ?_;refine afS 1 0 9 1 rfl rfl ?_;refine JE [3,8] 3 [] [] (amd rfl) (s':=⟨36,[(3,(.ptr 1 0)),(8,(.fn 149 [(.bp [eH v2] 0 0)]))],(xt v1 [.cells [(.vec 2 0 0 0 1)], .vec 9 1 (cg (([]:amT amU).map ir))])⟩) ⟨(eP trivial (eP trivial (lC (xs:=(([]:amT amU).map ir)) jD))),by kernel_rfl⟩ ?_;refine xm (m:=3) (enc:=aD) (xs:=(eO v2)) (by kernel_rfl) (Lk v2) (λ((v3,v4):Nat×(amT amU))=>(yi v1 v3 v4 [])) (λ((v3,v4):Nat×(amT amU)) l=>uV N l v3 v4=some r) (0,[]) (by kernel_rfl) J (by rintro⟨v3,v4⟩;rfl) (by rintro⟨v3,v4⟩;exact(zB (by kernel_rfl) (zB (by kernel_rfl) (zB QY Rt)))) (by kernel_rfl) rfl ?_ ?_
 ·rintro⟨v3,v4⟩ v5 v6 J h2 cA cB
  try dsimp only at J
  rw[uV]at J;refine JE [3,9] 4 [] [] (amg _) (s':=⟨36,[(3,(.ptr 1 0)),(9,(aD v5))],(yi v1 v3 v4 [.lp .ready 9 cA cB (dt 36 [(3,(.ptr 1 0)),(8,(.fn 149 [(.bp [eH v2] 0 0)]))])])⟩) ⟨(eP trivial (eP trivial (lC (xs:=(v4.map ir)) (eP trivial jD)))),by kernel_rfl⟩ ?_;refine re [] [(4,(.ptr 4 0))] (yi v1 v3 v4 [.lp .ready 9 cA cB (dt 36 [(3,(.ptr 1 0)),(8,(.fn 149 [(.bp [eH v2] 0 0)]))]), .cells (aD v5).cells]) (by kernel_rfl) ?_;refine aM ?_;refine⟨(yi v1 v3 v4 []),(xt v5 []),rfl,(by kernel_rfl),?_⟩;refine JE [3,4] 5 [] [] (amd rfl) (s':=⟨36,[(3,(.ptr 1 0)),(4,(.ptr 4 0))],(nT v1 v3 v4 cA cB v2 v5 [])⟩) ⟨(eP trivial (eP trivial (lC (xs:=(v4.map ir)) (eP trivial (eP trivial jD))))),by kernel_rfl⟩ ?_;refine dn ?_;refine au ?_;refine au ?_;refine rg [] [(12,(az (v5.aC==3)))] (nT v1 v3 v4 cA cB v2 v5 []) (by kernel_rfl) ?_;refine ad6 [3,4] 5 [] [] (λ((v8,v9):Nat×(amT amU))=>⟨36,[(3,(.ptr 1 0)),(4,(.ptr 4 0))],(nT v1 v8 v9 cA cB v2 v5 [])⟩) (λ((v8,v9):Nat×(amT amU))=>JK N (λcu fv=>uV N v6 cu fv) v5 v8 v9=some r) (amd rfl) ?_ ?_
  ·rcases dw (v5.aC==3)with aW|aW
   ·replace J:=(c7 aW).symm.trans J;refine cS (t:=(v5.aC==3)) (by kernel_rfl) aW ?_;have aZ:=mI J;replace J:=(c7 aZ).symm.trans J;have bj:=mI J;replace J:=(c7 bj).symm.trans J;refine re [(13,⟨_,_, .pr (.ap (cg ((v4++[v5.bo]).map ir)) (cg (([v5.bo]).map ir)) (v3+1) (v3+1)) (IS (f:=ir) (h:=(nT v1 v3 v4 cA cB v2 v5 [])) (y:=(.full (ee [v5.bo]))) (k:=1) (amj aZ) rfl (λc hc=>Hi c (by rw[nt];exact hc)) rfl rfl (mJ bj (by decide)).1 (mJ bj (by decide)).2)⟩)] [(17,(.vec 2 0 (v3+1) (v3+1) 1)),(16,(.full (ee [v5.bo]))),(15,(di v5.bo)),(14,(.ptr 4 1)),(13,(.vec 2 0 v3 v3 1))] (xt v1 [.cells [(.vec 2 0 (v3+1) (v3+1) 1)], .vec 9 1 (cg ((v4++[v5.bo]).map ir)), .lp .busy 9 cA cB (dt 36 [(3,(.ptr 1 0)),(8,(.fn 149 [(.bp [eH v2] 0 0)]))]), .cells (aD v5).cells]) (by kernel_rfl) ?_;refine aM ?_;exact⟨((v3+1),(v4++[v5.bo])),⟨(eP trivial (eP trivial (lC (xs:=((v4++[v5.bo]).map ir)) (eP trivial (eP trivial jD))))),by kernel_rfl⟩,J⟩
   replace J:=(du aW).symm.trans J;refine dm (t:=(v5.aC==3)) (by kernel_rfl) aW ?_;refine ct ?_;refine aM ?_;exact⟨(v3,v4),⟨(eP trivial (eP trivial (lC (xs:=(v4.map ir)) (eP trivial (eP trivial jD))))),by kernel_rfl⟩,J⟩
  rintro⟨v8,v9⟩ J
  try dsimp only at J
  rw[JK]at J;refine au ?_;refine rg [(7,oL v5.xIdx fF)] [(19,(.d (.sl (eB v5.xIdx)))),(20,(ar (v5.xIdx.length:Int))),(21,(ar (0:Int)))] (nT v1 v8 v9 cA cB v2 v5 []) (by kernel_rfl) ?_;refine dn ?_;refine wI 19 (eB v5.xIdx) (by kernel_rfl) λh4=> ?_;have h5:=wu fF h4;refine KK [3,19,20,21] 5 [] [] (λ((v10,v11,aI,bg):Nat×(amT cY)×Nat×(amT amU))=>⟨36,[(3,(.ptr 1 0)),(19,(.d (.sl (eB v5.xIdx)))),(20,(ar (v5.xIdx.length:Int))),(21,(ar (v10:Int)))],(nT v1 aI bg cA cB v2 v5 [])⟩) (λ((v10,v11,aI,bg):Nat×(amT cY)×Nat×(amT amU))=>v5.xIdx.drop v10=v11/\AO N (λcu fv=>uV N v6 cu fv) v11 v10 aI bg=some r) (λ((v10,v11,aI,bg):Nat×(amT cY)×Nat×(amT amU))=>v11.length) (0,v5.xIdx,v8,v9) (amd rfl) ⟨(eP trivial (eP trivial (lC (xs:=(v9.map ir)) (eP trivial (eP trivial jD))))),by kernel_rfl⟩ ⟨rfl,J⟩ ?_;rintro⟨v10,v11,aI,bg⟩ ⟨h6,J⟩;cases v11 with
  |nil=>
   rw[AO]at J;refine au ?_;refine rg [] [(22,(az (decide ((v10:Int)<(v5.xIdx.length:Int)))))] (nT v1 aI bg cA cB v2 v5 []) (by kernel_rfl) ?_;refine au ?_;refine dm (t:=(decide ((v10:Int)<(v5.xIdx.length:Int)))) (by kernel_rfl) (cf h6) ?_;refine kW (at_e (at_e (l4 rfl ?_)));refine dU ?_;refine agE (yi v1 aI bg []) rfl (zB (by kernel_rfl) (zB (by kernel_rfl) (zB QY Rt))) ⟨(eP trivial (eP trivial (lC (xs:=(bg.map ir)) (eP trivial jD)))),by kernel_rfl⟩ ?_;exact⟨(aI,bg),(by kernel_rfl),J⟩
  |cons v12 aF=>
   rw[AO]at J;refine au ?_;refine rg [] [(22,(az (decide ((v10:Int)<(v5.xIdx.length:Int)))))] (nT v1 aI bg cA cB v2 v5 []) (by kernel_rfl) ?_;refine au ?_;refine cS (t:=(decide ((v10:Int)<(v5.xIdx.length:Int)))) (by kernel_rfl) (bZ h6) ?_;refine ct ?_;refine aM ?_;refine au ?_;refine dn ?_;refine au ?_;refine rg [(1,oE (iB (bM h6)))] [(6,(.ptr 5 0))] (nT v1 aI bg cA cB v2 v5 [.cells (gy v12).cells]) (by kernel_rfl) ?_;refine au ?_;refine rg [] [(27,(az (!(bL v12.dA==bL (bs [])))))] (nT v1 aI bg cA cB v2 v5 [.cells (gy v12).cells]) (by kernel_rfl) ?_;rcases dw (bL v12.dA==bL (bs []))with h7|h7
   ·replace J:=(c7 h7).symm.trans J;refine dm (t:=(!(bL v12.dA==bL (bs [])))) (by kernel_rfl) (cH h7) ?_;refine ct ?_;refine dU ?_;refine aM ?_;refine re [(2,oq (cC h6 rfl h5))] [(21,(ar ((v10+1:Nat):Int))),(33,(ar ((v10+1:Nat):Int)))] (nT v1 aI bg cA cB v2 v5 [.cells (gy v12).cells]) (by kernel_rfl) ?_;refine aM ?_;exact⟨(v10+1,aF,aI,bg),⟨(eP trivial (eP trivial (lC (xs:=(bg.map ir)) (eP trivial (eP trivial jD))))),by kernel_rfl⟩,⟨jR h6,J⟩,amR _⟩
   replace J:=(du h7).symm.trans J;refine cS (t:=(!(bL v12.dA==bL (bs [])))) (by kernel_rfl) (dj h7) ?_;have h8:=mI J;replace J:=(c7 h8).symm.trans J;have h9:=mI J;replace J:=(c7 h9).symm.trans J;refine re [(13,⟨_,_, .pr (.ap (cg ((bg++[v12.dA]).map ir)) (cg (([v12.dA]).map ir)) (aI+1) (aI+1)) (IS (f:=ir) (h:=(nT v1 aI bg cA cB v2 v5 [.cells (gy v12).cells])) (y:=(.full (ee [v12.dA]))) (k:=1) (amj h8) rfl (λc hc=>Hi c (by rw[nt];exact hc)) rfl rfl (mJ h9 (by decide)).1 (mJ h9 (by decide)).2)⟩)] [(32,(.vec 2 0 (aI+1) (aI+1) 1)),(31,(.full (ee [v12.dA]))),(30,(di v12.dA)),(29,(.ptr 5 2)),(28,(.vec 2 0 aI aI 1))] (XH v1 aI bg v12 cA cB v2 v5 []) (by kernel_rfl) ?_;refine dU ?_;refine aM ?_;refine re [(2,oq (cC h6 rfl h5))] [(21,(ar ((v10+1:Nat):Int))),(33,(ar ((v10+1:Nat):Int)))] (XH v1 aI bg v12 cA cB v2 v5 []) (by kernel_rfl) ?_;refine aM ?_;exact⟨(v10+1,aF,(aI+1),(bg++[v12.dA])),⟨(eP trivial (eP trivial (lC (xs:=((bg++[v12.dA]).map ir)) (eP trivial (eP trivial jD))))),by kernel_rfl⟩,⟨jR h6,J⟩,amR _⟩
 rintro⟨v3,v4⟩ J
 try dsimp only at J
 rw[uV]at J;refine dU ?_;refine aM ?_;refine au ?_;obtain⟨v7,h3,J⟩:=bm J;refine rg [(4,⟨_,_, .MB (xO (xs:=(v4.map ir)) c6) (ad2 c6) (mi:=[(.vec 2 0 v3 v3 1)]) (h:=(yi v1 v3 v4 [.gone])) (l:=[2]) (by kernel_rfl) (by kernel_rfl) (by kernel_rfl) (by kernel_rfl) (aax h3)⟩)] [(2,(.d (.sl (ee v7))))] (xt v1 [.cells [(.vec 2 0 v3 v3 1)], .gone, .gone]) (by kernel_rfl) ?_;refine cU ?_;have hr:=amo J;subst hr;exact eJ (by kernel_rfl)
def RU(N:Nat)(v1:dh)(v2:amT aV)(v3:amT aO):amT amU->Nat->amV Int
 |[],_=>
  some (0:Int)
 |v8::v9,v6=>
  (Fo N v1 v2 v8).bind λv10=>
  bif (v10.2.2 !=0)then
   some v10.2.2
  else
   (Oa N v3 v8 v10.2.1 v10.1).bind λv11=>
   bif (v11 !=0)then
    some v11
   else
    (RU N v1 v2 v3 v9 (v6+1))
def SJ(N:Nat)(v1:dh)(v2:amT aV)(v3:amT aO)(v4:ay):amV Int:=
 (OM N v4).bind λv5=>
 RU N v1 v2 v3 v5 0
theorem ag1{N v1 v2 v3 v4}:KO 65 [(fg v1),(.d (.sl (aS v2))),(.d (.sl (aX v3))),(aD v4)] ar (SJ N v1 v2 v3 v4):=
 fw Tryz.func65 (aw λv5 h1=>gA [[],[(4,cL (alf h1)),(7,oL v5 jY)]] (gT qv 16 v5 λh3=>e7 1 [] [1,2,4,16,17,18] 2 (λv6=>⟨42,[(1,(.d (.sl (aS v2)))),(2,(.d (.sl (aX v3)))),(4,(.ptr 0 0)),(16,(.d (.sl (ee v5)))),(17,(ar (v5.length:Int))),(18,(ar (v6:Int)))],[.cells (fg v1).cells, .cells (aD v4).cells]⟩) (λv6 h4 f1=>gR [[],[f0 (cf h4)],[]]) (λv6 v8 v9 h4 f1 aJ=>aw λv10 h5=>gA [[],[t0 (bZ h4)],[(1,oE (qt (bM h4)))],[(10,cK Lt h5)],[]] (bn λh6=>aw λv11 h7=>gA [[f0 h6],[(13,cK Xb h7)],[]] (bn λh8=>gb aJ () [[f0 h8],[(2,oq (cC h4 rfl h3))]] h4)))))
def vB(N:Nat)(v1:amT aO):amV ((amT aO)×(amT (amU×aU))):=
 some (v1,[])
def Rv(v1:amT aO)(l:amT aq):amT aq:= .cells [(.d (.sl (aX v1)))]:: .map (bP bQ []):: .cells [(.mp 1)]::l
theorem tN(N:Nat)(v1:amT aO)(r:(amT aO)×(amT (amU×aU)))(J:vB N v1=some r):KH 54 [(.d (.sl (aX v1)))] [] (.fn 96 [(.ptr 2 0),(.ptr 0 0)]) ([.cells [(.d (.sl (aX r.1)))], .map (bP bQ r.2), .cells [(.mp 1)]]):=by
 rw[vB]at J;refine E1 3 Tryz.func54 rfl (by kernel_rfl) (amd rfl) ?_;refine mq (s':=⟨6,[(0,(.d (.sl (aX v1))))],[]⟩) (by kernel_rfl) ?_;refine au ?_;refine rg [] [(1,(.ptr 0 0))] [.cells [(.d (.sl (aX v1)))]] (by kernel_rfl) ?_;refine au ?_;refine rg [] [(3,(.ptr 2 0))] (Rv v1 []) (by kernel_rfl) ?_;refine au ?_;refine rg [] [(2,(.fn 96 [(.ptr 2 0),(.ptr 0 0)]))] (Rv v1 []) (by kernel_rfl) ?_;refine cU ?_;have hr:=amo J;subst hr;exact uh (eP trivial (eP trivial (eP trivial jD))) (by kernel_rfl)
def Ip(N:Nat)(v1:amT Int):amV ((amT Int)):=
 bif (Nat.ble ((0+v1.length)*8) 140737488355328)then
 some v1
 else none
def Qw(v1:amT Int)(l:amT aq):amT aq:= .cells [(.own 1 (bA v1))]:: .front 3 1 v1.length::l
theorem Uv{N v1 r}(J:Ip N v1=some r):KH 66 [(.d (.sl (bA v1)))] [] (.fn 113 [(.bp [[(.sl (bA r))]] 0 0)]) []:=by
 rw[Ip]at J;refine qn 0 Tryz.func66 rfl (by kernel_rfl) (amd rfl) ?_;refine mq (s':=⟨6,[(0,(.d (.sl (bA v1))))],[]⟩) (by kernel_rfl) ?_;refine au ?_;refine rg [] [(1,(.ptr 0 0))] [.cells [(.d (.sl (bA v1)))]] (by kernel_rfl) ?_;refine au ?_;have h1:=mI J;replace J:=(c7 h1).symm.trans J;refine rg [(4,oZ mB v1 h1)] [] (Qw v1 []) (by kernel_rfl) ?_;refine au ?_;refine rg [] [(2,(.fn 113 [(.ptr 0 0)]))] (Qw v1 []) (by kernel_rfl) ?_;refine ft [2] 2 (amd rfl) (s':=⟨6,[(2,(.fn 113 [(.ptr 0 0)]))],(Qw v1 [])⟩) (by kernel_rfl) ?_;refine ZR 0 (s':=⟨6,[(2,(.fn 113 [(.bp [[(.sl (bA v1))]] 0 0)]))],[.gone, .front 3 1 v1.length]⟩) (by kernel_rfl) ?_;refine cU ?_;have hr:=amo J;subst hr;exact jj (by kernel_rfl)
def KA(N:Nat)(v6:Bool):amT Int->Nat->Int->amV Int
 |[],_,_=>
  some (0:Int)
 |v9::v10,v7,v11=>
  Option.bind (bif v6 then some false else bif (v11 !=0)then
  some (decide (v9>(IntKind.i64.wrap (((65536:Int)).tdiv v11))))
  else none) λv12=>
  bif v12 then
   some (2:Int)
  else
   bif v6 then
    (λiv=>KA N v6 v10 (v7+1) iv) v11
   else
    (λiv=>KA N v6 v10 (v7+1) iv) (aE (v11*v9))
def UQ(N:Nat)(v1:amT Int):amT Int->Nat->Bool->amV Int
 |[],_,v6=>
  KA N v6 v1 0 (1:Int)
 |v4::v5,v2,v6=>
  bif (decide (v4<0))then
   some (1:Int)
  else
   Option.bind (bif v6 then some true else some (v4==0)) λaF=>
   (λcu=>UQ N v1 v5 (v2+1) cu) aF
def QN(N:Nat)(v1:amT Int):amV Int:=
 bif (decide ((v1.length:Int)>16))then
  some (2:Int)
 else
  UQ N v1 v1 0 false
theorem ZK{N v1}:KO 258 [(.d (.sl (bA v1)))] ar (QN N v1):=
 fw Tryz.func258 (gA [[],[(4,oL v1 fy)]] (bn λh1=>gA [[f0 h1],[],[(4,oL v1 fy)]] (gT mB 0 v1 λh3=>gd 1 [] [0,3,4,12,13,14] 0 (λv2(v6:Bool)=>⟨46,[(0,(.d (.sl (bA v1)))),(3,(ar (1:Int))),(4,(az v6)),(12,(.d (.sl (bA v1)))),(13,(ar (v1.length:Int))),(14,(ar (v2:Int)))],[]⟩) (λv2 v6 h4 f1=>gA [[],[f0 (cf h4)],[(4,oL v1 fy)]] (gT mB 0 v1 λh6=>gd 2 [] [3,4,26,27,28] 0 (λv7(v11:Int)=>⟨46,[(3,(ar v11)),(4,(az v6)),(26,(.d (.sl (bA v1)))),(27,(ar (v1.length:Int))),(28,(ar (v7:Int)))],[]⟩) (λv7 v11 h7 f2=>gR [[],[f0 (cf h7)],[]]) (λv7 v9 v10 v11 h7 f2 eK=>gA [[],[t0 (bZ h7)],[(1,oE (gZ (bM h7)))]] (gG (λv12=>[(39,(az v12))]) (λ_=>[]) (ax (λh8=>gE [(2,bF (cH h8))] []) λh8=>dG λh9=>gE [(2,bT (dj h8))] [(16,⟨_,_, .nz (b:=v11) (bne_iff_ne.1 h9)⟩)]) λv12=>fP λ_=>ax (λbj=>gb eK v11 [[f0 (cH bj)],[(2,oq (cC h7 rfl h6))]] h7) λbj=>gb eK (aE (v11*v9)) [[t0 (dj bj)],[],[(2,oq (cC h7 rfl h6))]] h7)))) (λv2 v4 v5 v6 h4 f1 aJ=>gA [[],[t0 (bZ h4)],[(1,oE (gZ (bM h4)))],[]] (bn λbC=>gA [[f0 bC]] (gG (λaF=>[(4,(az aF))]) (λ_=>[]) (ax (λbJ=>gE [(1,bT bJ)] []) λbJ=>gE [(1,bF bJ)] []) λaF=>gb aJ aF [[(2,oq (cC h4 rfl h3))]] h4))))))
def U0(N:Nat):amT Int->Nat->Int->amV Int
 |[],_,v11=>
  some v11
 |v9::v10,v7,v11=>
  (λiv=>U0 N v10 (v7+1) iv) (aE (v11*v9))
def V7(N:Nat)(v1:amT Int):amT Int->Nat->amV Int
 |[],_=>
  U0 N v1 0 (1:Int)
 |v5::v6,v3=>
  bif (v5==0)then
   some (0:Int)
  else
   (V7 N v1 v6 (v3+1))
def KD(N:Nat)(v1:amT Int):amV Int:=
 (QN N v1).bind λv2=>
 bif (v2 !=0)then
  some (0:Int)
 else
  V7 N v1 v1 0
theorem Yo{N v1}:KO 198 [(.d (.sl (bA v1)))] ar (KD N v1):=
 fw Tryz.func198 (aw λv2 h1=>gA [[],[(4,cK ZK h1)]] (bn λh2=>gA [[f0 h2],[],[(4,oL v1 fy)]] (gT mB 0 v1 λh4=>e7 1 [] [0,3,11,12,13] 0 (λv3=>⟨31,[(0,(.d (.sl (bA v1)))),(3,(ar (1:Int))),(11,(.d (.sl (bA v1)))),(12,(ar (v1.length:Int))),(13,(ar (v3:Int)))],[]⟩) (λv3 h5 f1=>gA [[],[f0 (cf h5)],[(4,oL v1 fy)]] (gT mB 0 v1 λh7=>gd 2 [] [3,20,21,22] 0 (λv7(v11:Int)=>⟨31,[(3,(ar v11)),(20,(.d (.sl (bA v1)))),(21,(ar (v1.length:Int))),(22,(ar (v7:Int)))],[]⟩) (λv7 v11 h8 f2=>gR [[],[f0 (cf h8)],[]]) (λv7 v9 v10 v11 h8 f2 eK=>gb eK (aE (v11*v9)) [[],[t0 (bZ h8)],[(1,oE (gZ (bM h8)))],[],[(2,oq (cC h8 rfl h7))]] h8))) (λv3 v5 v6 h5 f1 aJ=>gA [[],[t0 (bZ h5)],[(1,oE (gZ (bM h5)))],[]] (bn λh9=>gb aJ () [[f0 h9],[(2,oq (cC h5 rfl h4))]] h5)))))
def Kk(N:Nat)(v1:amT Int):Nat->Int->Int->(amT Int)->amV ((amT Int)×Bool)
 |0,_,_,_=>none
 |v5+1,v6,v7,v8=>
  bif (decide (v7>=0))then
   bif (decide ((0:Int)<=v7))then
   Option.bind (v1[(v7).toNat]?) λv9=>
   bif (v9 !=0)then
   bif (Nat.beq v8.length v1.length)then
   bif (decide (v7<(v1.length:Int)))then
   Option.bind (v8[(v7).toNat]?) λv10=>
   (λcu fv xC=>Kk N v1 v5 cu fv xC) (IntKind.i64.wrap ((v6).tdiv v9)) (aE (v7-(1:Int))) (v8.set ((v7).toNat) ((v6).tmod v9))
   else none
   else none
   else none
   else none
  else
   bif (Nat.beq v8.length v1.length)then
   some (v8,true)
   else none
def Ow(N:Nat)(v1:amT Int)(v2:Int):amV ((amT Int)×Bool):=
 Option.bind (bif (decide (v2<0))then some true else (KD N v1).bind λv3=>
 some (decide (v2>=v3))) λv4=>
 bif v4 then
  some ([],false)
 else
  bif (Nat.ble (v1.length*8) 140737488355328)then
  Kk N v1 N v2 (aE ((v1.length:Int)-(1:Int))) (List.replicate v1.length 0)
  else none
theorem abV{N v1 v2}:KO 115 [(.d (.sl (bA v1))),(ar v2)] (λr=> .aY [(.d (.sl (bA r.1))),(az r.2)]) (Ow N v1 v2):=
 fw Tryz.func115 (gA [[]] (gG (λv4=>[(15,(az v4))]) (λ_=>[]) (ax (λh1=>gE [(2,bT h1)] []) λh1=>aw λv3 h2=>gE [(2,bF h1)] [(16,cK Yo h2)]) λv4=>bn λh4=>dG λh5=>aau 1 [[f0 h4],[(4,oL v1 fy),(7,⟨_,_, .pr (.mk (cg ((List.replicate v1.length 0).map eE)) v1.length v1.length) (ahd (f:=eE) (d0:=0) (dd:=8) rfl rfl (mJ h5 (by decide)))⟩)],[(4,oL v1 fy)]] [0,1,6,7] 1 [] [] (λ(v6:Int)(v7:Int)(v8:(amT Int))=>⟨42,[(0,(.d (.sl (bA v1)))),(1,(ar v6)),(6,(.vec 0 0 v1.length v1.length 1)),(7,(ar v7))],[.vec 3 1 (cg (v8.map eE))]⟩) (Kk N v1) (λv5 v6 v7 v8 f1 aJ=>gA [[]] (ax (λh6=>dG λh8=>aw λv9 h7=>dG λh9=>dG λaW=>dG λaZ=>aw λv10 bj=>afL aJ ((IntKind.i64.wrap ((v6).tdiv v9)),(aE (v7-(1:Int))),(v8.set ((v7).toNat) ((v6).tmod v9))) [[t0 h6],[(16,⟨_,_, .el (xs:=bA v1) (i:=v7) (of_decide_eq_true h8) (gZ h7)⟩),(22,⟨_,_, .nz (b:=v9) (bne_iff_ne.1 h9)⟩),(25,⟨_,_, .pr (.ix ((v7).toNat)) (SA (zU (f:=eE) (amj aW)) (of_decide_eq_true h8) (of_decide_eq_true aZ) rfl)⟩),(28,⟨_,_, .pr (.st ((eE v10).map AV.d) (cg ((v8.set ((v7).toNat) ((v6).tmod v9)).map eE))) (acp (f:=eE) (j:=0) (y:=((v6).tmod v9)) (zs:=[(ar ((v6).tmod v9))]) (amj aW) bj rfl)⟩)],[(10,⟨_,_, .el (xs:=bA v1) (i:=v7) (of_decide_eq_true h8) (gZ h7)⟩),(16,⟨_,_, .nz (b:=v9) (bne_iff_ne.1 h9)⟩)],[]] (hO:=[.IW ((v8.set ((v7).toNat) ((v6).tmod v9)).map eE)])) λh6=>dG λbJ=>gA [[f0 h6]] (li (λ_=>(ahw [6] 0 (bA v8) v1.length 1 3 1 [.IW (v8.map eE)] (aeW (amj bJ)) (nB _) (akH (λ_=>rfl) _) ·)) (gR [[]])))) (hO:=[.IW ((List.replicate v1.length 0).map eE)])))
def Gq(N:Nat)(v1:amT Int):Nat->Nat->amV (amT (amT Int))
 |0,_=>some []
 |n+1,k=>Option.bind (Ow N v1 (k:Int)) λr=>bif r.2 then Option.bind (Gq N v1 n (k+1)) λl=>some (r.1::l)else none
def K9(N:Nat)(v1:amT Int):amV (amT (amT Int)):=(KD N v1).bind λn=>bif (decide ((0:Int)<=n)&&Nat.ble n.toNat 9223372036854775807)then Gq N v1 n.toNat 0 else none
theorem TO{N:Nat}{v1:amT Int}:∀(n s:Nat)(r:amT (amT Int)),Gq N v1 n s=some r->r.length=n/\∀(k:Nat)(p:amT Int),r[k]?=some p->Ow N v1 ((s+k:Nat):Int)=some (p,true)
 |0,s,r,h=>by cases h;exact⟨rfl,λk p hk=>by simp at hk⟩
 |n+1,s,r,h=>by
  rw[Gq]at h;obtain⟨x,h1,h⟩:=bm h;obtain⟨hb,h⟩:=kR h;obtain⟨l,h2,h⟩:=bm h;cases h
  obtain⟨q1,q2⟩:=TO n (s+1) l h2;refine⟨by rw[al8,q1],λk p hk=> ?_⟩;cases k with
  |zero=>
   cases hk
   obtain⟨a,b⟩:=x;simp only at hb;subst hb;exact h1
  |succ k=>
   rw[show s+(k+1)=s+1+k by omega];exact q2 k p hk
theorem Xq{N:Nat}{v1:amT Int}{r:amT (amT Int)}(J:K9 N v1=some r):yK Tryz.prog 113 [oU v1] (r.map o7):=by
 obtain⟨n,h1,J⟩:=bm J;obtain⟨hb,hL⟩:=kR J;rw[al7]at hb;obtain⟨q1,q2⟩:=TO _ _ _ hL;have hn:((n.toNat:Nat):Int)=n:=Int.toNat_of_nonneg (of_decide_eq_true hb.1);refine aeK v1 r (by rw[q1];exact amd hb.2) (by rw[q1,hn];exact Yo _ h1) λk p hk=> ?_;have:=q2 k p hk;rw[amp]at this;exact abV _ this
def YT(N:Nat)(v3:amT aV)(v2:amT Int):amT fj->Nat->(amT aV)->amV ((amT aV))
 |[],_,v8=>
  bif (Nat.ble ((v8.length+v3.length)*24) 140737488355328)then
  some (v8++v3)
  else none
 |v6::v7,v4,v8=>
  Option.bind (v2[((v4:Int)).toNat]?) λv9=>
  bif (aE v9==v9)then
  bif (Nat.ble ((v8.length+1)*24) 140737488355328)then
  (λcu=>YT N v3 v2 v7 (v4+1) cu) (v8++[(⟨v6.bo,(Int64.ofInt v9)⟩:aV)])
  else none
  else none
def NK(N:Nat)(v1:amT fj)(v2:amT Int)(v3:amT aV):amV ((amT aV)):=
 YT N v3 v2 v1 0 []
theorem VV{N v1 v2 v3}:KO 68 [(.d (.sl (iO v1))),(.d (.sl (bA v2))),(.d (.sl (aS v3)))] (λr=> .d (.sl (aS r))) (NK N v1 v2 v3):=
 fw Tryz.func68 (gA [[],[],[(4,oL v1 nh)]] (li (λ_=>(uM 7 75 2 [] (.inr (by kernel_rfl)) ·)) (gT Az 0 v1 λh2=>gd 1 [] [1,2,7,10,11,12] 1 (λv4(v8:amT aV)=>⟨31,[(1,(.d (.sl (bA v2)))),(2,(.d (.sl (aS v3)))),(7,(.own 0 (aS v8))),(10,(.d (.sl (iO v1)))),(11,(ar (v1.length:Int))),(12,(ar (v4:Int)))],[.front 75 2 v8.length]⟩) (λv4 v8 h3 f1=>dG λh4=>gR [[],[f0 (cf h3)],[(7,oA zc v8 v3 h4)]]) (λv4 v6 v7 v8 h3 f1 aJ=>aw λv9 h5=>dG λh7=>dG λh8=>gb aJ (v8++[(⟨v6.bo,(Int64.ofInt v9)⟩:aV)]) [[],[t0 (bZ h3)],[(4,oE (D0 (bM h3)))],[(16,oE (gZ h5)),(23,⟨_,_, .eq (congrArg (λz=>AV.agg [(di v6.bo),z]) (En (beq_iff_eq.1 h7)))⟩),(28,oA zc v8 ([(⟨v6.bo,(Int64.ofInt v9)⟩:aV)]) h8)],[(2,oq (cC h3 rfl h2))]] h3))))
def uy(N:Nat)(v1:amT aV)(v2:amT aO)(v3:amT (amU×aU)):amV ((amT aV)):=
 some v1
def D4(v2:amT aO)(v3:amT (amU×aU))(v1:amT aV)(l:amT aq):amT aq:= .cells [(.mp 2)]:: .cells [(.d (.sl (aX v2)))]:: .map (bP bQ v3):: .cells [(.fn 96 [(.ptr 0 0),(.ptr 1 0)])]:: .cells [(.d (.sl (aS v1)))]::l
theorem iJ{N v1 v2 v3 r}(J:uy N v1 v2 v3=some r):KH 53 [(.fn 96 [(.ptr 0 0),(.ptr 1 0)]),(.d (.sl (aS v1)))] ([.cells [(.mp 2)], .cells [(.d (.sl (aX v2)))], .map (bP bQ v3)]) (.ptr 5 0) ([.cells [(.mp 2)], .cells [(.d (.sl (aX v2)))], .map (bP bQ v3), .cells [(.fn 96 [(.ptr 0 0),(.ptr 1 0)])], .cells [(.d (.sl (aS r)))], .cells [(.fn 93 [(.ptr 3 0),(.ptr 4 0),(.ptr 6 0)]),(.fn 91 [(.ptr 6 0)])], .cells [(.ptr 5 0)]]):=by
 rw[uy]at J;refine E1 7 Tryz.func53 rfl (by kernel_rfl) (amd rfl) ?_;refine mq (s':=⟨17,[(0,(.fn 96 [(.ptr 0 0),(.ptr 1 0)])),(1,(.d (.sl (aS v1))))],[.cells [(.mp 2)], .cells [(.d (.sl (aX v2)))], .map (bP bQ v3)]⟩) (by kernel_rfl) ?_;refine au ?_;refine rg [] [(2,(.ptr 3 0)),(3,(.ptr 4 0))] (D4 v2 v3 v1 []) (by kernel_rfl) ?_;refine au ?_;refine rg [] [(5,(.ptr 6 0))] (D4 v2 v3 v1 [.cells [(.d (.v .nilFunc)),(.d (.v .nilFunc))], .cells [(.ptr 5 0)]]) (by kernel_rfl) ?_;refine au ?_;refine rg [] [] (D4 v2 v3 v1 [.cells [(.d (.v .nilFunc)),(.fn 91 [(.ptr 6 0)])], .cells [(.ptr 5 0)]]) (by kernel_rfl) ?_;refine au ?_;refine rg [] [] (D4 v2 v3 v1 [.cells [(.fn 93 [(.ptr 3 0),(.ptr 4 0),(.ptr 6 0)]),(.fn 91 [(.ptr 6 0)])], .cells [(.ptr 5 0)]]) (by kernel_rfl) ?_;refine au ?_;refine rg [] [(4,(.ptr 5 0))] (D4 v2 v3 v1 [.cells [(.fn 93 [(.ptr 3 0),(.ptr 4 0),(.ptr 6 0)]),(.fn 91 [(.ptr 6 0)])], .cells [(.ptr 5 0)]]) (by kernel_rfl) ?_;refine cU ?_;have hr:=amo J;subst hr;exact uh (eP trivial (eP trivial (eP trivial (eP trivial (eP trivial (eP trivial (eP trivial jD))))))) (by kernel_rfl)
def DP(N:Nat)(v1:amU)(v2:amT aO)(v3:amT (amU×aU)):amV (aU×Int×(amT (amU×aU))):=
 bif (lA v3 v1)then
  some ((iU v3 v1 (⟨(⟨0,0,0,0,0⟩:aP),[],[]⟩:aU)),(0:Int),v3)
 else
  (vu N v2 v1).bind λv4=>
  bif v4.2 then
   (Cw N v4.1).bind λv5=>
   bif (v5 !=0)then
    some (v4.1,(1:Int),v3)
   else
    bif (Nat.blt v3.length 9223372036854775807)then
    some (v4.1,(0:Int),((v1,v4.1)::v3))
    else none
  else
   some (v4.1,(9:Int),v3)
theorem QZ{N v1 v2 v3}:KP 96 [(di v1),(.ptr 0 0),(.ptr 1 0)] [.cells [(.mp 2)], .cells [(.d (.sl (aX v2)))], .map (bP bQ v3)] (λr=> .aY [(gJ r.1),(ar r.2.1)]) (λr=>[.cells [(.mp 2)], .cells [(.d (.sl (aX v2)))], .map (bP bQ r.2.2)]) (DP N v1 v2 v3):=
 fh 3 Tryz.func96 (gA [[],[(8,⟨_,_, .eq (aiB bQ (.agg #[.int .i64 0, .int .i64 0, .int .i64 0, .int .i64 0, .int .i64 0, .slice none 0 0, .slice none 0 0]) (⟨(⟨0,0,0,0,0⟩:aP),[],[]⟩:aU) rfl true v3 v1)⟩)],[]] (ax (λh1=>gH [[t0 h1],[]]) λh1=>aw λv4 h2=>gA [[f0 h1],[(7,cK HV h2)],[]] (ax (λh3=>aw λv5 h4=>gA [[f0 (cH h3)],[(4,cK Tx h4)]] (ax (λh5=>gH [[t0 h5],[]]) λh5=>dG λh6=>gH [[f0 h5],[(10,⟨_,_, .sd (o:= .none) (aet (f:=bQ) h6)⟩)],[]])) λh3=>gH [[t0 (dj h3)],[]])))
def ES(N:Nat)(v1:Int)(v2:Int64)(v3:Int):amV (Int×Int):=
 Option.bind (bif (decide (v2.toInt<0))then some true else some (decide (v2.toInt>=v3))) λv4=>
 bif v4 then
  some ((0:Int),(12:Int))
 else
  some ((aE ((aE (v1*v3))+v2.toInt)),(0:Int))
theorem SM{N v1 v2 v3}:KO 238 [(ar v1),(bk v2),(ar v3)] (λr=> .aY [(ar r.1),(ar r.2)]) (ES N v1 v2 v3):=
 fw Tryz.func238 (gA [[]] (gG (λv4=>[(14,(az v4))]) (λ_=>[]) (ax (λh1=>gE [(2,bT h1)] []) λh1=>gE [(2,bF h1)] []) λv4=>bn λh3=>gR [[f0 h3],[]]))
def Cm(N:Nat)(v6:aU×Int×(amT (amU×aU)))(v3:Int)(v1:amT aV):amT cn->Nat->Int->amV (Int64×Int×(amT (amU×aU)))
 |[],_,v11=>
  bif (decide ((0:Int)<=v11))then
  Option.bind (v6.1.dI[(v11).toNat]?) λv12=>
  bif (aE (if(if(aE (v3-(1:Int)))<v12.xN.toInt then(aE (v3-(1:Int)))else v12.xN.toInt)>0then(if(aE (v3-(1:Int)))<v12.xN.toInt then(aE (v3-(1:Int)))else v12.xN.toInt)else(0:Int))==(if(if(aE (v3-(1:Int)))<v12.xN.toInt then(aE (v3-(1:Int)))else v12.xN.toInt)>0then(if(aE (v3-(1:Int)))<v12.xN.toInt then(aE (v3-(1:Int)))else v12.xN.toInt)else(0:Int)))then
  some ((Int64.ofInt (if(if(aE (v3-(1:Int)))<v12.xN.toInt then(aE (v3-(1:Int)))else v12.xN.toInt)>0then(if(aE (v3-(1:Int)))<v12.xN.toInt then(aE (v3-(1:Int)))else v12.xN.toInt)else(0:Int))),(0:Int),v6.2.2)
  else none
  else none
 |v9::v10,v7,v11=>
  (tq N v9 v1).bind λaF=>
  bif (aF.2 !=0)then
   some ((0:Int64),aF.2,v6.2.2)
  else
   Option.bind (v6.1.bS[((v7:Int)).toNat]?) λaI=>
   (ES N v11 aF.1 aI).bind λbg=>
   bif (bg.2 !=0)then
    some ((0:Int64),bg.2,v6.2.2)
   else
    (λcu=>Cm N v6 v3 v1 v10 (v7+1) cu) bg.1
def Hx(N:Nat)(v1:amT aV)(v2:cY)(v3:Int)(v4:amT aO)(v5:amT (amU×aU)):amV (Int64×Int×(amT (amU×aU))):=
 (DP N v2.dA v4 v5).bind λv6=>
 bif (v6.2.1 !=0)then
  some ((0:Int64),v6.2.1,v6.2.2)
 else
  bif (v6.1.aK.bu !=3)then
   some ((0:Int64),(10:Int),v6.2.2)
  else
   bif ((v2.cO.length:Int) !=(v6.1.bS.length:Int))then
    some ((0:Int64),(11:Int),v6.2.2)
   else
    Cm N v6 v3 v1 v2.cO 0 (0:Int)
theorem alI{N v1 v2 v3 v4 v5}:KP 237 [(.fn 96 [(.ptr 0 0),(.ptr 1 0)]),(.d (.sl (aS v1))),(gy v2),(ar v3)] [.cells [(.mp 2)], .cells [(.d (.sl (aX v4)))], .map (bP bQ v5)] (λr=> .aY [(bk r.1),(ar r.2.1)]) (λr=>[.cells [(.mp 2)], .cells [(.d (.sl (aX v4)))], .map (bP bQ r.2.2)]) (Hx N v1 v2 v3 v4 v5):=
 fh 3 Tryz.func237 (aw λv6 h1=>gA [[],[(10,oR [(di v2.dA),(.ptr 0 0),(.ptr 1 0)] [.cells [(.mp 2)], .cells [(.d (.sl (aX v4)))], .map (bP bQ v5), .cells (gy v2).cells] [0,1,2] (QZ _ h1))],[]] (ax (λh2=>gH [[t0 h2],[]]) λh2=>gA [[f0 h2],[]] (ax (λh3=>gH [[t0 h3],[]]) λh3=>gA [[f0 h3],[(7,oL v2.cO hJ),(16,oL v6.1.bS fy)]] (ax (λh4=>gH [[t0 h4],[]]) λh4=>gA [[f0 h4],[],[(7,oL v2.cO hJ)]] (gT rM 42 v2.cO λh6=>gd 1 [] [1,3,10,12,42,43,44] 5 (λv7(v11:Int)=>⟨83,[(1,(.d (.sl (aS v1)))),(3,(ar v3)),(10,(.ptr 4 0)),(12,(ar v11)),(42,(.d (.sl (gg v2.cO)))),(43,(ar (v2.cO.length:Int))),(44,(ar (v7:Int)))],[.cells [(.mp 2)], .cells [(.d (.sl (aX v4)))], .map (bP bQ v6.2.2), .cells (gy v2).cells, .cells (gJ v6.1).cells]⟩) (λv7 v11 h7 f1=>dG λh9=>aw λv12 h8=>dG λaW=>gH [[],[f0 (cf h7)],[(10,⟨_,_, .el (xs:=dO v6.1.dI) (i:=v11) (of_decide_eq_true h9) (nm h8)⟩),(32,⟨_,_, .eq (En (beq_iff_eq.1 aW))⟩)]]) (λv7 v9 v10 v11 h7 f1 aJ=>aw λaF aZ=>gA [[],[t0 (bZ h7)],[(4,oE (sr (bM h7)))],[(7,cK BV aZ)],[]] (ax (λbj=>gH [[t0 bj],[]]) λbj=>aw λaI bC=>aw λbg bH=>gA [[f0 bj],[(16,oE (gZ bC)),(22,cK SM bH)],[]] (ax (λbY=>gH [[t0 bY],[]]) λbY=>gb aJ bg.1 [[f0 bY],[(2,oq (cC h7 rfl h6))]] h7))))))))
def zq(N:Nat)(v5:aU×Int×(amT (amU×aU)))(v6:Nat)(v10:Int)(kN:Int->(amT (amU×aU))->amV (eZ×Int×(amT (amU×aU))))(aF:Int)(aI:Int64)(bg:amT (amU×aU)):amV (eZ×Int×(amT (amU×aU))):=
 bif (aF !=0)then
  some (Bi,aF,bg)
 else
  Option.bind (v5.1.bS[((v6:Int)).toNat]?) λbx=>
  (ES N v10 aI bx).bind λcy=>
  bif (cy.2 !=0)then
   some (Bi,cy.2,bg)
  else
   kN cy.1 bg
def px(N:Nat)(v5:aU×Int×(amT (amU×aU)))(v1:amT aV)(v3:amT aO):amT cY->Nat->Int->(amT (amU×aU))->amV (eZ×Int×(amT (amU×aU)))
 |[],_,v10,v11=>
  bif (decide ((0:Int)<=v10))then
  Option.bind (v5.1.dI[(v10).toNat]?) λv12=>
  some ((⟨v12,v5.1.aK⟩:eZ),(0:Int),v11)
  else none
 |v8::v9,v6,v10,v11=>
  bif (bL v8.dA==bL (bs []))then
   (tq N v8.cm v1).bind λbI=>
   zq N v5 v6 v10 (λcu fv=>px N v5 v1 v3 v9 (v6+1) cu fv) bI.2 bI.1 v11
  else
   Option.bind (v5.1.bS[((v6:Int)).toNat]?) λcF=>
   (Hx N v1 v8 cF v3 v11).bind λv20=>
   zq N v5 v6 v10 (λcu fv=>px N v5 v1 v3 v9 (v6+1) cu fv) v20.2.1 v20.1 v20.2.2
def Br(N:Nat)(v1:amT aV)(v2:ay)(v3:amT aO)(v4:amT (amU×aU)):amV (eZ×Int×(amT (amU×aU))):=
 (DP N v2.bo v3 v4).bind λv5=>
 bif (v5.2.1 !=0)then
  some (Bi,v5.2.1,v5.2.2)
 else
  bif ((v2.xIdx.length:Int) !=(v5.1.bS.length:Int))then
   some (Bi,(11:Int),v5.2.2)
  else
   px N v5 v1 v3 v2.xIdx 0 (0:Int) v5.2.2
def yI(v3:amT aO)(v4:amT (amU×aU))(v2:ay)(l:amT aq):amT aq:= .cells [(.mp 2)]:: .cells [(.d (.sl (aX v3)))]:: .map (bP bQ v4):: .cells (aD v2).cells:: .cells dB::l
def wa(v3:amT aO)(v5:aU×Int×(amT (amU×aU)))(v2:ay)(l:amT aq):amT aq:= .cells [(.mp 2)]:: .cells [(.d (.sl (aX v3)))]:: .map (bP bQ v5.2.2):: .cells (aD v2).cells:: .cells dB:: .cells (gJ v5.1).cells::l
def nZ(v3:amT aO)(v11:amT (amU×aU))(v2:ay)(v5:aU×Int×(amT (amU×aU)))(v8:cY)(l:amT aq):amT aq:=yI v3 v11 v2 (.cells (gJ v5.1).cells:: .cells (gy v8).cells::l)
def K7(v3:amT aO)(l:amT aq):amT aq:= .cells [(.mp 2)]:: .cells [(.d (.sl (aX v3)))]::l
theorem aef(N:Nat)(v1:amT aV)(v2:ay)(v3:amT aO)(v4:amT (amU×aU))(r:eZ×Int×(amT (amU×aU)))(J:Br N v1 v2 v3 v4=some r):KH 159 [(.fn 96 [(.ptr 0 0),(.ptr 1 0)]),(.d (.sl (aS v1))),(aD v2)] ([.cells [(.mp 2)], .cells [(.d (.sl (aX v3)))], .map (bP bQ v4)]) (.aY [(dM r.1),(ar r.2.1)]) ([.cells [(.mp 2)], .cells [(.d (.sl (aX v3)))], .map (bP bQ r.2.2)]):=by
 rw[Br]at J;refine qn 3 Tryz.func159 rfl (by kernel_rfl) (amd rfl) ?_;refine mq (s':=⟨91,[(0,(.fn 96 [(.ptr 0 0),(.ptr 1 0)])),(1,(.d (.sl (aS v1)))),(2,(aD v2))],(K7 v3 [.map (bP bQ v4)])⟩) (by kernel_rfl) ?_;refine au ?_;refine rg [] [(5,(.ptr 3 0)),(6,(.ptr 4 0))] (yI v3 v4 v2 []) (by kernel_rfl) ?_;refine au ?_;obtain⟨v5,h1,J⟩:=bm J;refine rg [(10,oR [(di v2.bo),(.ptr 0 0),(.ptr 1 0)] (yI v3 v4 v2 []) [0,1,2] (QZ _ h1))] [(8,(.ptr 5 0)),(9,(ar v5.2.1))] (wa v3 v5 v2 []) (by kernel_rfl) ?_;refine au ?_;refine au ?_;refine rg [] [(22,(az (v5.2.1 !=0)))] (wa v3 v5 v2 []) (by kernel_rfl) ?_;rcases dw (v5.2.1 !=0)with h2|h2
 ·replace J:=(c7 h2).symm.trans J;refine cS (t:=(v5.2.1 !=0)) (by kernel_rfl) h2 ?_;refine au ?_;refine rg [] [(7,(ar v5.2.1))] (wa v3 v5 v2 []) (by kernel_rfl) ?_;refine cU (cT ?_);have hr:=amo J;subst hr;exact jj (by kernel_rfl)
 replace J:=(du h2).symm.trans J;refine dm (t:=(v5.2.1 !=0)) (by kernel_rfl) h2 ?_;refine ct ?_;refine aM ?_;refine au ?_;refine au ?_;refine rg [(7,oL v2.xIdx fF),(16,oL v5.1.bS fy)] [(31,(az ((v2.xIdx.length:Int) !=(v5.1.bS.length:Int))))] (wa v3 v5 v2 []) (by kernel_rfl) ?_;rcases dw ((v2.xIdx.length:Int) !=(v5.1.bS.length:Int))with h3|h3
 ·replace J:=(c7 h3).symm.trans J;refine cS (t:=((v2.xIdx.length:Int) !=(v5.1.bS.length:Int))) (by kernel_rfl) h3 ?_;refine au ?_;refine rg [] [(7,(ar (11:Int)))] (wa v3 v5 v2 []) (by kernel_rfl) ?_;refine cU (cT ?_);have hr:=amo J;subst hr;exact jj (by kernel_rfl)
 replace J:=(du h3).symm.trans J;refine dm (t:=((v2.xIdx.length:Int) !=(v5.1.bS.length:Int))) (by kernel_rfl) h3 ?_;refine ct ?_;refine aM ?_;refine au ?_;refine rg [] [(10,(ar (0:Int)))] (wa v3 v5 v2 []) (by kernel_rfl) ?_;refine au ?_;refine au ?_;refine rg [(7,oL v2.xIdx fF)] [(34,(.d (.sl (eB v2.xIdx)))),(35,(ar (v2.xIdx.length:Int))),(36,(ar (0:Int)))] (wa v3 v5 v2 []) (by kernel_rfl) ?_;refine dn ?_;refine wI 34 (eB v2.xIdx) (by kernel_rfl) λh4=> ?_;have h5:=wu fF h4;refine MH [0,1,6,8,10,34,35,36] 6 (λ((v6,v7,v10,v11):Nat×(amT cY)×Int×(amT (amU×aU)))=>⟨91,[(0,(.fn 96 [(.ptr 0 0),(.ptr 1 0)])),(1,(.d (.sl (aS v1)))),(6,(.ptr 4 0)),(8,(.ptr 5 0)),(10,(ar v10)),(34,(.d (.sl (eB v2.xIdx)))),(35,(ar (v2.xIdx.length:Int))),(36,(ar (v6:Int)))],(yI v3 v11 v2 [.cells (gJ v5.1).cells])⟩) (λ((v6,v7,v10,v11):Nat×(amT cY)×Int×(amT (amU×aU)))=>v2.xIdx.drop v6=v7/\px N v5 v1 v3 v7 v6 v10 v11=some r) (λ((v6,v7,v10,v11):Nat×(amT cY)×Int×(amT (amU×aU)))=>v7.length) (0,v2.xIdx,(0:Int),v5.2.2) (amd rfl) (by kernel_rfl) ⟨rfl,J⟩ ?_;rintro⟨v6,v7,v10,v11⟩ ⟨h6,J⟩;cases v7 with
 |nil=>
  rw[px]at J;refine au ?_;refine rg [] [(37,(az (decide ((v6:Int)<(v2.xIdx.length:Int)))))] (yI v3 v11 v2 [.cells (gJ v5.1).cells]) (by kernel_rfl) ?_;refine au ?_;refine dm (t:=(decide ((v6:Int)<(v2.xIdx.length:Int)))) (by kernel_rfl) (cf h6) ?_;refine kW (at_e (at_e (l4 rfl ?_)));refine aM ?_;refine au ?_;have h8:=mI J;replace J:=(c7 h8).symm.trans J;obtain⟨v12,h7,J⟩:=bm J;refine rd bw (by kernel_rfl) [(10,⟨_,_, .el (xs:=dO v5.1.dI) (i:=v10) (of_decide_eq_true h8) (nm h7)⟩)] [(7,(ar (0:Int)))] (K7 v3 [.map (bP bQ v11), .cells (aD v2).cells, .cells [(bk v12.xN),(bk v12.xD),(ar v5.1.aK.bu),(ar v5.1.aK.bG),(ar v5.1.aK.ck),(ar v5.1.aK.cx),(ar v5.1.aK.cG)], .cells (gJ v5.1).cells]) (by kernel_rfl) ?_;refine cU ?_;have hr:=amo J;subst hr;exact jj (by kernel_rfl)
 |cons v8 v9=>
  rw[px]at J;refine au ?_;refine rg [] [(37,(az (decide ((v6:Int)<(v2.xIdx.length:Int)))))] (yI v3 v11 v2 [.cells (gJ v5.1).cells]) (by kernel_rfl) ?_;refine au ?_;refine cS (t:=(decide ((v6:Int)<(v2.xIdx.length:Int)))) (by kernel_rfl) (bZ h6) ?_;refine ct ?_;refine aM ?_;refine au ?_;refine dn ?_;refine au ?_;refine rg [(4,oE (iB (bM h6)))] [(12,(.ptr 6 0)),(11,(ar (v6:Int)))] (nZ v3 v11 v2 v5 v8 []) (by kernel_rfl) ?_;refine au ?_;refine rg [] [] (nZ v3 v11 v2 v5 v8 []) (by kernel_rfl) ?_;refine au ?_;refine au ?_;refine rg [] [(43,(az (bL v8.dA==bL (bs []))))] (nZ v3 v11 v2 v5 v8 []) (by kernel_rfl) ?_;refine pe [0,1,6,8,9,10,11,13,34,35,36] 7 (λ((aF,aI,bg):Int×Int64×(amT (amU×aU)))=>⟨91,[(0,(.fn 96 [(.ptr 0 0),(.ptr 1 0)])),(1,(.d (.sl (aS v1)))),(6,(.ptr 4 0)),(8,(.ptr 5 0)),(9,(ar aF)),(10,(ar v10)),(11,(ar (v6:Int))),(13,(bk aI)),(34,(.d (.sl (eB v2.xIdx)))),(35,(ar (v2.xIdx.length:Int))),(36,(ar (v6:Int)))],(nZ v3 bg v2 v5 v8 [])⟩) (λ((aF,aI,bg):Int×Int64×(amT (amU×aU)))=>zq N v5 v6 v10 (λcu fv=>px N v5 v1 v3 v9 (v6+1) cu fv) aF aI bg=some r) (amd rfl) ?_ ?_
  ·rcases dw (bL v8.dA==bL (bs []))with bJ|bJ
   ·replace J:=(c7 bJ).symm.trans J;refine cS (t:=(bL v8.dA==bL (bs []))) (by kernel_rfl) bJ ?_;obtain⟨bI,bH,J⟩:=bm J;refine re [(10,cK BV bH)] [(9,(ar bI.2)),(13,(bk bI.1)),(50,(ar bI.2)),(49,(bk bI.1)),(44,(.aY [(bk bI.1),(ar bI.2)])),(48,(.aY [(bk bI.1),(ar bI.2)])),(47,(.d (.sl (aS v1)))),(46,(dT v8.cm)),(45,(.ptr 6 0))] (nZ v3 v11 v2 v5 v8 []) (by kernel_rfl) ?_;refine aM ?_;exact⟨(bI.2,bI.1,v11),by kernel_rfl,J⟩
   replace J:=(du bJ).symm.trans J;refine dm (t:=(bL v8.dA==bL (bs []))) (by kernel_rfl) bJ ?_;obtain⟨cF,bY,v20,dZ,J⟩:=k01 J;refine rle bw (by kernel_rfl) [(19,oE (gZ bY)),(25,oR [(.fn 96 [(.ptr 0 0),(.ptr 1 0)]),(.d (.sl (aS v1))),(gy v8),(ar cF)] (nZ v3 v11 v2 v5 v8 []) [0,1,2] (alI _ dZ))] [(9,(ar v20.2.1)),(13,(bk v20.1)),(62,(ar v20.2.1)),(61,(bk v20.1)),(51,(.aY [(bk v20.1),(ar v20.2.1)])),(60,(.aY [(bk v20.1),(ar v20.2.1)])),(59,(ar cF)),(58,(.bp [eE cF] 0 0)),(57,(ar (v6:Int))),(56,(.d (.sl (bA v5.1.bS)))),(55,(.ptr 5 5)),(54,(gy v8)),(53,(.d (.sl (aS v1)))),(52,(.fn 96 [(.ptr 0 0),(.ptr 1 0)]))] (K7 v3 [.map (bP bQ v20.2.2), .cells (aD v2).cells, .cells dB, .cells (gJ v5.1).cells, .cells (gy v8).cells]) ⟨by kernel_rfl,by kernel_rfl⟩ ?_;refine aM ?_;exact⟨(v20.2.1,v20.1,v20.2.2),by kernel_rfl,J⟩
  rintro⟨aF,aI,bg⟩ J
  try dsimp only at J
  rw[zq]at J;refine au ?_;refine au ?_;refine rg [] [(64,(az (aF !=0)))] (nZ v3 bg v2 v5 v8 []) (by kernel_rfl) ?_;rcases dw (aF !=0)with h9|h9
  ·replace J:=(c7 h9).symm.trans J;refine cS (t:=(aF !=0)) (by kernel_rfl) h9 ?_;refine au ?_;refine rg [] [(7,(ar aF))] (nZ v3 bg v2 v5 v8 []) (by kernel_rfl) ?_;refine cU (cT (dS (cT (cT (dS (cT ?_))))));have hr:=amo J;subst hr;exact jj (by kernel_rfl)
  replace J:=(du h9).symm.trans J;refine dm (t:=(aF !=0)) (by kernel_rfl) h9 ?_;refine ct ?_;refine aM ?_;refine au ?_;obtain⟨bx,aW,cy,bj,J⟩:=k01 J;refine rg [(16,oE (gZ aW)),(22,cK SM bj)] [(10,(ar cy.1)),(9,(ar cy.2))] (nZ v3 bg v2 v5 v8 []) (by kernel_rfl) ?_;refine au ?_;refine rg [] [(79,(az (cy.2 !=0)))] (nZ v3 bg v2 v5 v8 []) (by kernel_rfl) ?_;rcases dw (cy.2 !=0)with bC|bC
  ·replace J:=(c7 bC).symm.trans J;refine cS (t:=(cy.2 !=0)) (by kernel_rfl) bC ?_;refine au ?_;refine rg [] [(7,(ar cy.2))] (nZ v3 bg v2 v5 v8 []) (by kernel_rfl) ?_;refine cU (dS (cT (cT (dS (cT ?_)))));have hr:=amo J;subst hr;exact jj (by kernel_rfl)
  replace J:=(du bC).symm.trans J;refine dm (t:=(cy.2 !=0)) (by kernel_rfl) bC ?_;refine ct ?_;refine dU ?_;refine aM ?_;refine re [(2,oq (cC h6 rfl h5))] [(36,(ar ((v6+1:Nat):Int))),(82,(ar ((v6+1:Nat):Int)))] (nZ v3 bg v2 v5 v8 []) (by kernel_rfl) ?_;refine aM ?_;exact⟨(v6+1,v9,cy.1,bg),by kernel_rfl,⟨jR h6,J⟩,amR _⟩
def G9(N:Nat)(v5:Int64×Int)(v4:amT (amU×aU))(v7:Int):amV (eZ×Int×(amT (amU×aU))):=
 some ((⟨(⟨v5.1,(1:Int64)⟩:aB),(⟨(3:Int),(0:Int),(0:Int),(0:Int),(0:Int)⟩:aP)⟩:eZ),v7,v4)
def Gr(N:Nat)(v1:amT aV)(v2:ay)(v3:amT aO)(v4:amT (amU×aU)):amV (eZ×Int×(amT (amU×aU))):=
 bif (v2.aC==1)then
  some ((⟨v2.dR,v2.aK⟩:eZ),(0:Int),v4)
 else
  bif (v2.aC==2)then
   (tq N v2.cm v1).bind λv5=>
   Option.bind (bif (v5.2==0)then(bif (decide (v5.1.toInt>2147483647))then some true else some (decide (v5.1.toInt<(-2147483647:Int))))else some false) λv6=>
   bif v6 then
    G9 N v5 v4 (3:Int)
   else
    G9 N v5 v4 v5.2
  else
   (Br N v1 v2 v3 v4).bind λv8=>
   some (v8.1,v8.2.1,v8.2.2)
def OA(v3:amT aO)(v4:amT (amU×aU))(v2:ay)(l:amT aq):amT aq:= .cells [(.mp 2)]:: .cells [(.d (.sl (aX v3)))]:: .map (bP bQ v4):: .cells (aD v2).cells:: .cells dB::l
theorem adI{N v1 v2 v3 v4}:KP 94 [(.fn 96 [(.ptr 0 0),(.ptr 1 0)]),(.d (.sl (aS v1))),(aD v2)] [.cells [(.mp 2)], .cells [(.d (.sl (aX v3)))], .map (bP bQ v4)] (λr=> .aY [(dM r.1),(ar r.2.1)]) (λr=>[.cells [(.mp 2)], .cells [(.d (.sl (aX v3)))], .map (bP bQ r.2.2)]) (Gr N v1 v2 v3 v4):=
 fh 3 Tryz.func94 (gA [[],[],[]] (ax (λh1=>gH [[t0 h1],[]]) λh1=>gA [[f0 h1],[]] (ax (λh2=>aw λv5 h3=>gA [[t0 h2],[(10,cK BV h3)]] (gG (λv6=>[(37,(az v6))]) (λ_=>(OA v3 v4 v2 [])) (ax (λh4=>cd (2,bT h4) (ax (λh5=>gE [(5,bT h5)] [(25,bT h5)]) λh5=>gE [(5,bF h5)] [(25,bF h5)])) λh4=>gE [(2,bF h4),(5,uN)] []) λv6=>kC 1 [] [6,8,9] 5 (λ(v7:Int)=>⟨49,[(6,(.ptr 4 0)),(8,(bk v5.1)),(9,(ar v7))],(OA v3 v4 v2 [])⟩) (G9 N v5 v4) (λf1 aJ=>ax (λh7=>gm aJ (3:Int) [[t0 h7],[]]) λh7=>gm aJ v5.2 [[f0 h7]]) (λv7=>gH [[]]))) λh2=>aw λv8 h8=>gH [[f0 h2],[(10,oR [(.fn 96 [(.ptr 0 0),(.ptr 1 0)]),(.d (.sl (aS v1))),(aD v2)] (OA v3 v4 v2 []) [0,1,2] (aef N v1 v2 v3 v4 v8 h8))]])))
def yr(N:Nat)(v1:Int64)(v2:Int64):amV Int:=
 bif (decide (v1.toInt<v2.toInt))then
  some (-1:Int)
 else
  bif (decide (v1.toInt>v2.toInt))then
   some (1:Int)
  else
   some (0:Int)
theorem KB{N v1 v2}:KO 277 [(bk v1),(bk v2)] ar (yr N v1 v2):=
 fw Tryz.func277 (gA [[],[]] (fP λ_=>bn λh2=>gR [[f0 h2],[]]))
def LD(N:Nat)(v1:aB)(v2:aB):amV Int:=
 (j9 N v1).bind λv3=>
 Option.bind (bif v3 then (j9 N v2).bind λv4=>
 some v4 else some false) λv5=>
 bif v5 then
  Option.bind (yr N (v1.xN*v2.xD) (v2.xN*v1.xD)) λv6=>
  some v6
 else
  (yr N v1.xN v2.xN).bind λv7=>
  bif (v7 !=0)then
   some v7
  else
   (yr N v1.xD v2.xD).bind λv8=>
   some v8
theorem abv{N v1 v2}:KO 236 [(aT v1),(aT v2)] ar (LD N v1 v2):=
 fw Tryz.func236 (gA [[]] (aw λv3 h1=>gG (λv5=>[(11,(az v5))]) (λ_=>[.cells (aT v1).cells, .cells (aT v2).cells]) (dc (4,cK mO h1) (ax (λh2=>aw λv4 h3=>gE [(2,bT h2)] [(13,cK mO h3)]) λh2=>gE [(2,bF h2)] [])) λv5=>ax (λh5=>aw λv6 h6=>gR [[t0 h5],[(14,⟨_,_, .eq (fA v1.xN v2.xD)⟩),(29,⟨_,_, .eq (fA v2.xN v1.xD)⟩),(31,cK KB h6)]]) λh5=>aw λv7 h7=>gA [[f0 h5],[(13,cK KB h7)],[]] (bn λh8=>aw λv8 h9=>gR [[f0 h8],[(13,cK KB h9)]])))
def DB(N:Nat)(v1:aP)(v2:aB)(v3:aB):amV Int:=
 (nD N v1 v2).bind λv4=>
 Option.bind (bif v4 then (nD N v1 v3).bind λv5=>
 some (!v5)else some true) λv6=>
 bif v6 then
  some (0:Int)
 else
  bif (v1.bu==1)then
   (LD N v2 v3).bind λv7=>
   some v7
  else
   bif (decide (v2.xN.toInt<v3.xN.toInt))then
    some (-1:Int)
   else
    bif (decide (v2.xN.toInt>v3.xN.toInt))then
     some (1:Int)
    else
     some (0:Int)
theorem UK{N v1 v2 v3}:KO 158 [(bE v1),(aT v2),(aT v3)] ar (DB N v1 v2 v3):=
 fw Tryz.func158 (gA [[]] (aw λv4 h1=>gG (λv6=>[(7,(az v6))]) (λ_=>[.cells (bE v1).cells, .cells (aT v2).cells, .cells (aT v3).cells]) (dc (7,cK tY h1) (ax (λh2=>aw λv5 h3=>gE [(4,bF (cH h2))] [(22,cK tY h3)]) λh2=>gE [(4,bT (dj h2))] [])) λv6=>fP λ_=>ax (λh6=>aw λv7 h7=>gR [[t0 h6],[(7,cK abv h7)]]) λh6=>gA [[f0 h6],[]] (fP λ_=>bn λh9=>gR [[f0 h9],[]])))
def Kz(N:Nat)(v1:Int)(v2:Int):amV Bool:=
 bif (v1==13)then
  some (decide (v2<0))
 else
  bif (v1==14)then
   some (decide (v2<=0))
  else
   some (v2==0)
theorem akg{N v1 v2}:KO 157 [(ar v1),(ar v2)] az (Kz N v1 v2):=
 fw Tryz.func157 (gA [[],[],[]] (fP λ_=>bn λh2=>gR [[f0 h2],[]]))
def Jj(N:Nat)(v1:aP):amT aB->Nat->amV Int
 |[],_=>
  some (0:Int)
 |v6::v7,v4=>
  (rz N v1 v6).bind λv8=>
  bif v8 then
   (Jj N v1 v7 (v4+1))
  else
   some (1:Int)
def qV(N:Nat)(v1:aP)(v2:amT aB):amV Int:=
 (ta N v1).bind λv3=>
 bif (v3 !=0)then
  some v3
 else
  Jj N v1 v2 0
theorem zf{N v1 v2}:KO 303 [(bE v1),(.d (.sl (dO v2)))] ar (qV N v1 v2):=
 fw Tryz.func303 (aw λv3 h1=>gA [[],[(4,cK FI h1)],[]] (bn λh2=>gA [[f0 h2],[(4,oL v2 kp)]] (gT wj 1 v2 λh4=>e7 1 [] [2,13,14,15] 1 (λv4=>⟨24,[(2,(.ptr 0 0)),(13,(.d (.sl (dO v2)))),(14,(ar (v2.length:Int))),(15,(ar (v4:Int)))],[.cells (bE v1).cells]⟩) (λv4 h5 f1=>gR [[],[f0 (cf h5)],[]]) (λv4 v6 v7 h5 f1 aJ=>aw λv8 h6=>gA [[],[t0 (bZ h5)],[(1,oE (nm (bM h5)))],[(7,cK Ny h6)]] (fW λh7=>gb aJ () [[f0 (cH h7)],[(2,oq (cC h5 rfl h4))]] h5)))))
def sU(N:Nat)(v1:Int64)(v2:Int64):amV (aB×Int):=
 bif (v2.toInt==0)then
  some (bK,(4:Int))
 else
  (yF N v1).bind λv3=>
  (yF N v2).bind λv4=>
  (zS N v3 v4).bind λv5=>
  bif (v5 !=0)then
  Option.bind (bif (decide ((IntKind.u64.wrap ((v3).tdiv v5))>2147483647))then some true else some (decide ((IntKind.u64.wrap ((v4).tdiv v5))>2147483647))) λv6=>
  bif v6 then
   some (bK,(3:Int))
  else
   bif ((decide (v1.toInt<0))==(decide (v2.toInt<0)))then
    some ((⟨(Int64.ofInt (IntKind.u64.wrap ((v3).tdiv v5))),(Int64.ofInt (IntKind.u64.wrap ((v4).tdiv v5)))⟩:aB),(0:Int))
   else
    some ((⟨(-(Int64.ofInt (IntKind.u64.wrap ((v3).tdiv v5)))),(Int64.ofInt (IntKind.u64.wrap ((v4).tdiv v5)))⟩:aB),(0:Int))
  else none
theorem CW{N v1 v2}:KO 300 [(bk v1),(bk v2)] (λr=> .aY [(aT r.1),(ar r.2)]) (sU N v1 v2):=
 fw Tryz.func300 (gA [[],[]] (bn λh1=>aw λv3 h2=>aw λv4 h3=>aw λv5 h4=>dG λh5=>gA [[f0 h1],[],[(4,cK K1 h2),(10,cK K1 h3)],[(7,cK Y2 h4)],[(7,⟨_,_, .nz (b:=v5) (bne_iff_ne.1 h5)⟩),(16,⟨_,_, .nz (b:=v5) (bne_iff_ne.1 h5)⟩)]] (gG (λv6=>[(36,(az v6))]) (λ_=>[.cells fG]) (ax (λh7=>gE [(2,bT h7)] []) λh7=>gE [(2,bF h7)] []) λv6=>fP λ_=>ax (λaW=>gR [[f0 (cH aW)],[(5,⟨_,_, .eq (gP (IntKind.u64.wrap ((v3).tdiv v5)))⟩),(11,⟨_,_, .eq (gP (IntKind.u64.wrap ((v4).tdiv v5)))⟩)]]) λaW=>gR [[t0 (dj aW)],[(5,⟨_,_, .eq (gP (IntKind.u64.wrap ((v3).tdiv v5)))⟩),(8,⟨_,_, .eq (kG (Int64.ofInt (IntKind.u64.wrap ((v3).tdiv v5))))⟩),(14,⟨_,_, .eq (gP (IntKind.u64.wrap ((v4).tdiv v5)))⟩)]])))
def K8(N:Nat)(v1:aP)(v2:aB):amV (aB×Int):=
 Option.bind (qV N v1 [v2]) λv3=>
 bif (v3 !=0)then
  some (bK,v3)
 else
  bif (decide ((0:Int)<=v1.ck))then
  Option.bind (sU N v2.xN (Int64.ofInt ((1:Int)*2^(min (v1.ck).toNat (IntKind.bits .i64))))) λv4=>
  some (v4.1,v4.2)
  else none
theorem alc{N v1 v2}:KO 278 [(bE v1),(aT v2)] (λr=> .aY [(aT r.1),(ar r.2)]) (K8 N v1 v2):=
 fw Tryz.func278 (aw λv3 h1=>gA [[],[(10,cK zf h1)],[]] (bn λh2=>dG λh3=>aw λv4 h4=>gR [[f0 h2],[(13,⟨_,_, .nn (b:=v1.ck) (of_decide_eq_true h3)⟩),(14,⟨_,_, .eq (gP ((1:Int)*2^(min (v1.ck).toNat (IntKind.bits .i64))))⟩),(16,cK CW h4)]]))
def Jq(N:Nat)(v1:aP)(v2:aB):amV aB:=
 bif (v1.bu==2)then
  (K8 N v1 v2).bind λv3=>
  some v3.1
 else
  some v2
theorem acd{N v1 v2}:KO 239 [(bE v1),(aT v2)] aT (Jq N v1 v2):=
 fw Tryz.func239 (gA [[],[]] (jL λh1=>aw λv3 h2=>gR [[t0 h1],[(7,cK alc h2)],[]]))
def Iw(N:Nat)(v3:Int64):amV Int64:=
 some v3
def Ec(N:Nat)(v1:aB):amV Int64:=
 (j9 N v1).bind λv2=>
 bif v2 then
  bif (v1.xD.toInt !=0)then
  bif (decide ((Int64.ofInt ((v1.xN.toInt).tmod v1.xD.toInt)).toInt<0))then
   Iw N ((Int64.ofInt ((v1.xN.toInt).tdiv v1.xD.toInt))-(1:Int64))
  else
   Iw N (Int64.ofInt ((v1.xN.toInt).tdiv v1.xD.toInt))
  else none
 else
  some (0:Int64)
theorem aab{N v1}:KO 240 [(aT v1)] bk (Ec N v1):=
 fw Tryz.func240 (aw λv2 h1=>gA [[],[(4,cK mO h1)]] (fW λh2=>dG λh3=>kC 1 [[f0 (cH h2)],[(13,⟨_,_, .nz (b:=v1.xD.toInt) (bne_iff_ne.1 h3)⟩),(14,⟨_,_, .eq (gP ((v1.xN.toInt).tdiv v1.xD.toInt))⟩)],[(13,⟨_,_, .nz (b:=v1.xD.toInt) (bne_iff_ne.1 h3)⟩),(14,⟨_,_, .eq (IL v1.xN v1.xD.toInt)⟩)]] [3] 1 (λ(v3:Int64)=>⟨21,[(3,(bk v3))],[.cells (aT v1).cells]⟩) (Iw N) (λf1 aJ=>ax (λh4=>gm aJ ((Int64.ofInt ((v1.xN.toInt).tdiv v1.xD.toInt))-(1:Int64)) [[t0 h4],[(5,⟨_,_, .eq (kV (Int64.ofInt ((v1.xN.toInt).tdiv v1.xD.toInt)) (1:Int64))⟩)]]) λh4=>gm aJ (Int64.ofInt ((v1.xN.toInt).tdiv v1.xD.toInt)) [[f0 h4]]) (λv3=>gR [[]])))
def BE(N:Nat)(v1:Int):amV Bool:=
 Option.bind (bif (decide (v1>=1))then some (decide (v1<=4))else some false) λv2=>
 some v2
theorem V0{N v1}:KO 304 [(ar v1)] az (BE N v1):=
 fw Tryz.func304 (gA [[]] (gG (λv2=>[(2,(az v2))]) (λ_=>[]) (ax (λh1=>gE [(2,bT h1)] []) λh1=>gE [(2,bF h1)] []) λv2=>gR []))
def C6(N:Nat)(v1:Int64):amV Int:=
 bif (decide (v1.toInt<0))then
  some (IntKind.u64.wrap (0-(IntKind.u64.wrap v1.toInt)))
 else
  some (IntKind.u64.wrap v1.toInt)
theorem Ze{N v1}:KO 321 [(bk v1)] (λr=> .d (.v (.int .u64 r))) (C6 N v1):=
 fw Tryz.func321 (gA [[],[]] (bn λh1=>gR [[f0 h1],[]]))
def KE(N:Nat)(v1 v2:Int)(v3:Bool)(v4:Int):amV Int:=bif v2 !=0then some (rk v1 v2 v3 v4)else none
theorem ak8{N v1 v2 v3 v4 r}(J:KE N v1 v2 v3 v4=some r):ga Tryz.prog 320 [(.d (.v (.int .u64 v1))),(.d (.v (.int .u64 v2))),(az v3),(ar v4)] (·=(.d (.v (.int .u64 r)))):=afs v1 v2 v3 v4 r J
def Bf(N:Nat)(v1:Int64)(v2:Int64)(v3:Int):amV (Int64×Int):=
 (BE N v3).bind λv4=>
 bif v4 then
  bif (v2.toInt==0)then
   some ((0:Int64),(4:Int))
  else
   (C6 N v1).bind λv5=>
   (C6 N v2).bind λv6=>
   Option.bind (KE N v5 v6 (!((decide (v1.toInt<0))==(decide (v2.toInt<0)))) v3) λv7=>
   bif ((decide (v1.toInt<0))==(decide (v2.toInt<0)))then
    bif (decide (v7>=9223372036854775808))then
     some ((0:Int64),(3:Int))
    else
     some ((Int64.ofInt v7),(0:Int))
   else
    some ((Int64.ofInt (IntKind.u64.wrap (0-v7))),(0:Int))
 else
  some ((0:Int64),(1:Int))
theorem Mu{N v1 v2 v3}:KO 298 [(bk v1),(bk v2),(ar v3)] (λr=> .aY [(bk r.1),(ar r.2)]) (Bf N v1 v2 v3):=
 fw Tryz.func298 (aw λv4 h1=>gA [[],[(4,cK V0 h1)]] (fW λh2=>gA [[f0 (cH h2)],[]] (bn λh3=>aw λv5 h4=>aw λv6 h5=>aw λv7 h6=>gA [[f0 h3],[],[(4,cK Ze h4),(10,cK Ze h5),(19,cL (ak8 h6))],[]] (ax (λh7=>gA [[f0 (cH h7)],[]] (bn λh8=>gR [[f0 h8],[(5,⟨_,_, .eq (gP v7)⟩)]])) λh7=>gR [[t0 (dj h7)],[(8,⟨_,_, .eq (gP (IntKind.u64.wrap (0-v7)))⟩)]]))))
def Kp(N:Nat)(v1:aB)(v2:Int)(v3:Int):amV (Int64×Int):=
 (j9 N v1).bind λv4=>
 Option.bind (bif v4 then(bif (decide (v2<0))then some true else(bif (decide (v2>30))then some true else (BE N v3).bind λv5=>
 some (!v5)))else some true) λv6=>
 bif v6 then
  some ((0:Int64),(1:Int))
 else
  bif (decide ((0:Int)<=(IntKind.u64.wrap v2)))then
  Option.bind (Bf N (Int64.ofInt (v1.xN.toInt*2^(min ((IntKind.u64.wrap v2)).toNat (IntKind.bits .i64)))) v1.xD v3) λv7=>
  some (v7.1,v7.2)
  else none
theorem aeV{N v1 v2 v3}:KO 279 [(aT v1),(ar v2),(ar v3)] (λr=> .aY [(bk r.1),(ar r.2)]) (Kp N v1 v2 v3):=
 fw Tryz.func279 (gA [[]] (aw λv4 h1=>gG (λv6=>[(23,(az v6))]) (λ_=>[.cells (aT v1).cells]) (dc (4,cK mO h1) (ax (λh2=>cd (3,bF (cH h2)) (ax (λh3=>gE [(7,bT h3),(11,bT rfl)] []) λh3=>cd (7,bF h3) (ax (λh4=>gE [(11,bT h4)] []) λh4=>aw λv5 h5=>gE [(11,bF h4)] [(40,cK V0 h5)]))) λh2=>gE [(3,bT (dj h2)),(7,bT rfl),(11,bT rfl)] [])) λv6=>bn λh7=>dG λh8=>aw λv7 h9=>gR [[f0 h7],[(13,⟨_,_, .nn (b:=(IntKind.u64.wrap v2)) (of_decide_eq_true h8)⟩),(14,⟨_,_, .eq (gP (v1.xN.toInt*2^(min ((IntKind.u64.wrap v2)).toNat (IntKind.bits .i64))))⟩),(25,cK Mu h9)]]))
def Ov(N:Nat)(v1:Int64)(v2:Int)(v3:Int):amV (Int64×Bool):=
 (x8 N v2).bind λv4=>
 Option.bind (bif v4 then(bif (v3 !=1)then some (v3 !=2)else some false)else some true) λv5=>
 bif v5 then
  some ((0:Int64),false)
 else
  (De N v2).bind λv6=>
  (Fe N v2).bind λv7=>
  Option.bind (bif (decide (v1.toInt>=v6.toInt))then some (decide (v1.toInt<=v7.toInt))else some false) λv8=>
  bif v8 then
   some (v1,false)
  else
   Option.bind (bif (v3==1)then some (decide (v1.toInt<v6.toInt))else some false) λv9=>
   bif v9 then
    some (v6,true)
   else
    bif (v3==1)then
     some (v7,true)
    else
     bif (decide ((0:Int)<=(IntKind.u64.wrap (aE ((64:Int)-v2)))))then
     some ((Int64.ofInt (((Int64.ofInt (IntKind.u64.wrap ((IntKind.u64.wrap v1.toInt)*2^(min ((IntKind.u64.wrap (aE ((64:Int)-v2)))).toNat (IntKind.bits .u64))))).toInt).fdiv (2^(min ((IntKind.u64.wrap (aE ((64:Int)-v2)))).toNat (IntKind.bits .i64))))),true)
     else none
theorem adA{N v1 v2 v3}:KO 305 [(bk v1),(ar v2),(ar v3)] (λr=> .aY [(bk r.1),(az r.2)]) (Ov N v1 v2 v3):=
 fw Tryz.func305 (gA [[]] (aw λv4 h1=>gG (λv5=>[(21,(az v5))]) (λ_=>[]) (dc (4,cK MI h1) (ax (λh2=>cd (3,bF (cH h2)) (ax (λh3=>gE [(6,bT h3)] [(28,bT h3)]) λh3=>gE [(6,bF h3)] [(28,bF h3)])) λh2=>gE [(3,bT (dj h2)),(6,uN)] [])) λv5=>bn λh5=>aw λv6 h6=>aw λv7 h7=>gA [[f0 h5],[(4,cK QM h6),(10,cK V2 h7)]] (gG (λv8=>[(26,(az v8))]) (λ_=>[]) (ax (λh8=>gE [(3,bT h8)] []) λh8=>gE [(3,bF h8)] []) λv8=>bn λaW=>gA [[f0 aW]] (gG (λv9=>[(36,(az v9))]) (λ_=>[]) (ax (λaZ=>gE [(2,bT aZ)] []) λaZ=>gE [(2,bF aZ)] []) λv9=>fP λ_=>bn λbJ=>dG λbH=>gR [[f0 bJ],[],[(10,⟨_,_, .nn (b:=(IntKind.u64.wrap (aE ((64:Int)-v2)))) (of_decide_eq_true bH)⟩),(14,⟨_,_, .eq (gP (IntKind.u64.wrap ((IntKind.u64.wrap v1.toInt)*2^(min ((IntKind.u64.wrap (aE ((64:Int)-v2)))).toNat (IntKind.bits .u64)))))⟩),(19,⟨_,_, .nn (b:=(IntKind.u64.wrap (aE ((64:Int)-v2)))) (of_decide_eq_true bH)⟩),(20,⟨_,_, .eq (UH (Int64.ofInt (IntKind.u64.wrap ((IntKind.u64.wrap v1.toInt)*2^(min ((IntKind.u64.wrap (aE ((64:Int)-v2)))).toNat (IntKind.bits .u64))))) (min ((IntKind.u64.wrap (aE ((64:Int)-v2)))).toNat (IntKind.bits .i64)))⟩)]]))))
def oF(N:Nat)(v1:aP)(v2:Int64):amV aB:=
 (Ov N v2 v1.bG v1.cG).bind λv3=>
 some (⟨v3.1,(1:Int64)⟩:aB)
theorem xX{N v1 v2}:KO 280 [(bE v1),(bk v2)] aT (oF N v1 v2):=
 fw Tryz.func280 (aw λv3 h1=>gR [[],[(16,cK adA h1)],[]])
def EJ(N:Nat)(v1:aP)(v2:aB):amV (aB×Int):=
 (ta N v1).bind λv3=>
 bif (v3 !=0)then
  some (bK,v3)
 else
  (Kp N v2 v1.ck v1.cx).bind λv4=>
  Option.bind (bif (v4.2 !=0)then some true else (j9 N v2).bind λv5=>
  some (!v5)) λv6=>
  bif v6 then
   some (bK,(1:Int))
  else
   (oF N v1 v4.1).bind λv7=>
   some (v7,(0:Int))
theorem aga{N v1 v2}:KO 241 [(bE v1),(aT v2)] (λr=> .aY [(aT r.1),(ar r.2)]) (EJ N v1 v2):=
 fw Tryz.func241 (aw λv3 h1=>gA [[],[(4,cK FI h1)],[]] (bn λh2=>aw λv4 h3=>gA [[f0 h2],[(16,cK aeV h3)]] (gG (λv6=>[(30,(az v6))]) (λ_=>[.cells (bE v1).cells, .cells (aT v2).cells, .cells fG]) (ax (λh4=>gE [(2,bT h4)] []) λh4=>aw λv5 h5=>gE [(2,bF h4)] [(13,cK mO h5)]) λv6=>bn λh7=>aw λv7 h8=>gR [[f0 h7],[(7,cK xX h8)]])))
def Gi(N:Nat)(v1:aP)(v2:aP)(v3:aB):amV (aB×Int):=
 (mr N v1).bind λv4=>
 Option.bind (bif (v4 !=0)then some true else (mr N v2).bind λv5=>
 some (v5 !=0)) λv6=>
 bif v6 then
  some (bK,(10:Int))
 else
  (nD N v1 v3).bind λv7=>
  bif v7 then
   (Jq N v1 v3).bind λv8=>
   bif (v2.bu==3)then
    (Ec N v8).bind λv9=>
    some ((⟨v9,(1:Int64)⟩:aB),(0:Int))
   else
    bif (v2.bu==2)then
     (EJ N v2 v8).bind λv10=>
     some (v10.1,v10.2)
    else
     some (v8,(0:Int))
  else
   some (bK,(1:Int))
theorem ac6{N v1 v2 v3}:KO 160 [(bE v1),(bE v2),(aT v3)] (λr=> .aY [(aT r.1),(ar r.2)]) (Gi N v1 v2 v3):=
 fw Tryz.func160 (gA [[]] (aw λv4 h1=>gG (λv6=>[(9,(az v6))]) (λ_=>[.cells (bE v1).cells, .cells (bE v2).cells, .cells (aT v3).cells, .cells fG]) (dc (4,cK nQ h1) (ax (λh2=>gE [(3,bT h2)] []) λh2=>aw λv5 h3=>gE [(3,bF h2)] [(16,cK nQ h3)])) λv6=>bn λh5=>aw λv7 h6=>gA [[f0 h5],[(7,cK tY h6)]] (fW λh7=>aw λv8 h8=>gA [[f0 (cH h7)],[(7,cK acd h8)],[],[]] (ax (λh9=>aw λv9 aW=>gR [[t0 h9],[(4,cK aab aW)]]) λh9=>gA [[f0 h9],[]] (jL λaZ=>aw λv10 bj=>gR [[t0 aZ],[(7,cK aga bj)]])))))
def Qj(N:Nat)(v1:aP)(v2:Int64)(v3:Int64):amV (Int64×Int):=
 some ((-v2),(0:Int))
theorem afc{N v1 v2 v3}:KO 294 [(bE v1),(bk v2),(bk v3)] (λr=> .aY [(bk r.1),(ar r.2)]) (Qj N v1 v2 v3):=
 fw Tryz.func294 (gR [[],[(5,⟨_,_, .eq (kG v2)⟩)]])
def Nr(N:Nat)(v1:aP)(v2:aB)(v3:aB):amV (aB×Int):=
 Option.bind (qV N v1 ([v2,v3])) λv4=>
 bif (v4 !=0)then
  some (bK,v4)
 else
  (Qj N v1 v2.xN v3.xN).bind λv5=>
  bif (v5.2 !=0)then
   some (bK,v5.2)
  else
   (oF N v1 v5.1).bind λv6=>
   some (v6,(0:Int))
theorem ae0{N v1 v2 v3}:KP 293 [(.agg [(.fn 294 [])]),(bE v1),(aT v2),(aT v3)] [] (λr=> .aY [(aT r.1),(ar r.2)]) (λ_=>[]) (Nr N v1 v2 v3):=
 fh 0 Tryz.func293 (aw λv4 h1=>gA [[],[(13,cK zf h1)],[]] (ax (λh2=>gH [[t0 h2],[]]) λh2=>aw λv5 h3=>gA [[f0 h2],[(22,cK afc h3)],[]] (ax (λh4=>gH [[t0 h4],[]]) λh4=>aw λv6 h5=>gH [[f0 h4],[(7,cK xX h5)]])))
def CS(N:Nat)(v1:aP)(v2:aB):amV (aB×Int):=
 (Nr N v1 v2 v2).bind λv3=>
 some (v3.1,v3.2)
theorem afo{N v1 v2}:KO 264 [(bE v1),(aT v2)] (λr=> .aY [(aT r.1),(ar r.2)]) (CS N v1 v2):=
 fw Tryz.func264 (aw λv3 h1=>gR [[],[(13,oQ [(.agg [(.fn 294 [])]),(bE v1),(aT v2),(aT v2)] [.cells (bE v1).cells, .cells (aT v2).cells, .cells fG] [] (ae0 _ h1))]])
def HS(N:Nat)(v1:aP)(v2:aB):amV (aB×Int):=
 bif (v1.bu==2)then
  (CS N v1 v2).bind λv3=>
  some (v3.1,v3.2)
 else
  some ((⟨(-v2.xN),v2.xD⟩:aB),(0:Int))
theorem alx{N v1 v2}:KO 206 [(bE v1),(aT v2)] (λr=> .aY [(aT r.1),(ar r.2)]) (HS N v1 v2):=
 fw Tryz.func206 (gA [[],[]] (ax (λh1=>aw λv3 h2=>gR [[t0 h1],[(7,cK afo h2)]]) λh1=>gR [[f0 h1],[(8,⟨_,_, .eq (kG v2.xN)⟩)]]))
def Eh(N:Nat)(v1:Int)(v2:Int64)(v3:Int64):amV (aB×Int):=
 bif (v1==4)then
  Option.bind (o0 N (v2+v3)) λv4=>
  bif v4 then
   some ((⟨(v2+v3),(1:Int64)⟩:aB),(0:Int))
  else
   some (bK,(3:Int))
 else
  bif (v1==5)then
   Option.bind (o0 N (v2-v3)) λv5=>
   bif v5 then
    some ((⟨(v2-v3),(1:Int64)⟩:aB),(0:Int))
   else
    some (bK,(3:Int))
  else
   bif (v1==6)then
    Option.bind (o0 N (v2*v3)) λv6=>
    bif v6 then
     some ((⟨(v2*v3),(1:Int64)⟩:aB),(0:Int))
    else
     some (bK,(3:Int))
   else
    bif (v3.toInt==0)then
     some (bK,(4:Int))
    else
     bif (v3.toInt !=0)then
     Option.bind (bif ((Int64.ofInt ((v2.toInt).tmod v3.toInt)).toInt !=0)then some (!((decide (v2.toInt<0))==(decide (v3.toInt<0))))else some false) λv7=>
     bif v7 then
      Option.bind (o0 N ((Int64.ofInt ((v2.toInt).tdiv v3.toInt))-(1:Int64))) λv8=>
      bif v8 then
       some ((⟨((Int64.ofInt ((v2.toInt).tdiv v3.toInt))-(1:Int64)),(1:Int64)⟩:aB),(0:Int))
      else
       some (bK,(3:Int))
     else
      Option.bind (o0 N (Int64.ofInt ((v2.toInt).tdiv v3.toInt))) λv9=>
      bif v9 then
       some ((⟨(Int64.ofInt ((v2.toInt).tdiv v3.toInt)),(1:Int64)⟩:aB),(0:Int))
      else
       some (bK,(3:Int))
     else none
theorem agL{N v1 v2 v3}:KO 265 [(ar v1),(bk v2),(bk v3)] (λr=> .aY [(aT r.1),(ar r.2)]) (Eh N v1 v2 v3):=
 fw Tryz.func265 (gA [[],[],[],[]] (ax (λh1=>aw λv4 h2=>gA [[t0 h1],[(8,⟨_,_, .eq (nr v2 v3)⟩)],[(4,cK yR h2)]] (oT λh3=>gR [[t0 (dj h3)],[]])) λh1=>gA [[f0 h1],[]] (ax (λh4=>aw λv5 h5=>gA [[t0 h4],[(8,⟨_,_, .eq (kV v2 v3)⟩)],[(4,cK yR h5)]] (oT λh6=>gR [[t0 (dj h6)],[]])) λh4=>gA [[f0 h4],[]] (ax (λh7=>aw λv6 h8=>gA [[t0 h7],[(8,⟨_,_, .eq (fA v2 v3)⟩)],[(4,cK yR h8)]] (oT λh9=>gR [[t0 (dj h9)],[]])) λh7=>gA [[f0 h7],[]] (bn λaW=>dG λaZ=>gA [[f0 aW],[(7,⟨_,_, .nz (b:=v3.toInt) (bne_iff_ne.1 aZ)⟩),(8,⟨_,_, .eq (gP ((v2.toInt).tdiv v3.toInt))⟩)]] (gG (λv7=>[(26,(az v7))]) (λ_=>[.cells fG]) (dc (7,⟨_,_, .nz (b:=v3.toInt) (bne_iff_ne.1 aZ)⟩) (dc (8,⟨_,_, .eq (IL v2 v3.toInt)⟩) (ax (λbj=>gE [(4,bT bj)] []) λbj=>gE [(4,bF bj)] []))) λv7=>ax (λbJ=>aw λv8 bH=>gA [[t0 bJ],[(5,⟨_,_, .eq (kV (Int64.ofInt ((v2.toInt).tdiv v3.toInt)) (1:Int64))⟩)],[(4,cK yR bH)]] (oT λbY=>gR [[t0 (dj bY)],[]])) λbJ=>aw λv9 c9=>gA [[f0 bJ],[(4,cK yR c9)]] (oT λdZ=>gR [[t0 (dj dZ)],[]])))))))
def NU(N:Nat)(v1:aP)(v2:Int64)(v3:Int64):amV (Int64×Int):=
 some ((v2+v3),(0:Int))
theorem ae3{N v1 v2 v3}:KO 295 [(bE v1),(bk v2),(bk v3)] (λr=> .aY [(bk r.1),(ar r.2)]) (NU N v1 v2 v3):=
 fw Tryz.func295 (gR [[],[(8,⟨_,_, .eq (nr v2 v3)⟩)]])
def LG(N:Nat)(v1:aP)(v2:aB)(v3:aB):amV (aB×Int):=
 Option.bind (qV N v1 ([v2,v3])) λv4=>
 bif (v4 !=0)then
  some (bK,v4)
 else
  (NU N v1 v2.xN v3.xN).bind λv5=>
  bif (v5.2 !=0)then
   some (bK,v5.2)
  else
   (oF N v1 v5.1).bind λv6=>
   some (v6,(0:Int))
theorem aie{N v1 v2 v3}:KP 293 [(.agg [(.fn 295 [])]),(bE v1),(aT v2),(aT v3)] [] (λr=> .aY [(aT r.1),(ar r.2)]) (λ_=>[]) (LG N v1 v2 v3):=
 fh 0 Tryz.func293 (aw λv4 h1=>gA [[],[(13,cK zf h1)],[]] (ax (λh2=>gH [[t0 h2],[]]) λh2=>aw λv5 h3=>gA [[f0 h2],[(22,cK ae3 h3)],[]] (ax (λh4=>gH [[t0 h4],[]]) λh4=>aw λv6 h5=>gH [[f0 h4],[(7,cK xX h5)]])))
def Ca(N:Nat)(v1:aP)(v2:aB)(v3:aB):amV (aB×Int):=
 (LG N v1 v2 v3).bind λv4=>
 some (v4.1,v4.2)
theorem adT{N v1 v2 v3}:KO 266 [(bE v1),(aT v2),(aT v3)] (λr=> .aY [(aT r.1),(ar r.2)]) (Ca N v1 v2 v3):=
 fw Tryz.func266 (aw λv4 h1=>gR [[],[(13,oQ [(.agg [(.fn 295 [])]),(bE v1),(aT v2),(aT v3)] [.cells (bE v1).cells, .cells (aT v2).cells, .cells (aT v3).cells, .cells fG] [] (aie _ h1))]])
def OL(N:Nat)(v1:aP)(v2:Int64)(v3:Int64):amV (Int64×Int):=
 some ((v2-v3),(0:Int))
theorem ake{N v1 v2 v3}:KO 296 [(bE v1),(bk v2),(bk v3)] (λr=> .aY [(bk r.1),(ar r.2)]) (OL N v1 v2 v3):=
 fw Tryz.func296 (gR [[],[(8,⟨_,_, .eq (kV v2 v3)⟩)]])
def On(N:Nat)(v1:aP)(v2:aB)(v3:aB):amV (aB×Int):=
 Option.bind (qV N v1 ([v2,v3])) λv4=>
 bif (v4 !=0)then
  some (bK,v4)
 else
  (OL N v1 v2.xN v3.xN).bind λv5=>
  bif (v5.2 !=0)then
   some (bK,v5.2)
  else
   (oF N v1 v5.1).bind λv6=>
   some (v6,(0:Int))
theorem abK{N v1 v2 v3}:KP 293 [(.agg [(.fn 296 [])]),(bE v1),(aT v2),(aT v3)] [] (λr=> .aY [(aT r.1),(ar r.2)]) (λ_=>[]) (On N v1 v2 v3):=
 fh 0 Tryz.func293 (aw λv4 h1=>gA [[],[(13,cK zf h1)],[]] (ax (λh2=>gH [[t0 h2],[]]) λh2=>aw λv5 h3=>gA [[f0 h2],[(22,cK ake h3)],[]] (ax (λh4=>gH [[t0 h4],[]]) λh4=>aw λv6 h5=>gH [[f0 h4],[(7,cK xX h5)]])))
def Dr(N:Nat)(v1:aP)(v2:aB)(v3:aB):amV (aB×Int):=
 (On N v1 v2 v3).bind λv4=>
 some (v4.1,v4.2)
theorem acm{N v1 v2 v3}:KO 267 [(bE v1),(aT v2),(aT v3)] (λr=> .aY [(aT r.1),(ar r.2)]) (Dr N v1 v2 v3):=
 fw Tryz.func267 (aw λv4 h1=>gR [[],[(13,oQ [(.agg [(.fn 296 [])]),(bE v1),(aT v2),(aT v3)] [.cells (bE v1).cells, .cells (aT v2).cells, .cells (aT v3).cells, .cells fG] [] (abK _ h1))]])
def KW(N:Nat)(v1:aP)(v2:Int64)(v3:Int64):amV (Int64×Int):=
 bif (decide ((0:Int)<=v1.ck))then
 Option.bind (Bf N (v2*v3) (Int64.ofInt ((1:Int)*2^(min (v1.ck).toNat (IntKind.bits .i64)))) v1.cx) λv4=>
 some (v4.1,v4.2)
 else none
theorem acK{N v1 v2 v3}:KO 297 [(bE v1),(bk v2),(bk v3)] (λr=> .aY [(bk r.1),(ar r.2)]) (KW N v1 v2 v3):=
 fw Tryz.func297 (dG λh1=>aw λv4 h2=>gR [[],[(8,⟨_,_, .eq (fA v2 v3)⟩),(16,⟨_,_, .nn (b:=v1.ck) (of_decide_eq_true h1)⟩),(17,⟨_,_, .eq (gP ((1:Int)*2^(min (v1.ck).toNat (IntKind.bits .i64))))⟩),(25,cK Mu h2)]])
def Kl(N:Nat)(v1:aP)(v2:aB)(v3:aB):amV (aB×Int):=
 Option.bind (qV N v1 ([v2,v3])) λv4=>
 bif (v4 !=0)then
  some (bK,v4)
 else
  (KW N v1 v2.xN v3.xN).bind λv5=>
  bif (v5.2 !=0)then
   some (bK,v5.2)
  else
   (oF N v1 v5.1).bind λv6=>
   some (v6,(0:Int))
theorem akf{N v1 v2 v3}:KP 293 [(.agg [(.fn 297 [])]),(bE v1),(aT v2),(aT v3)] [] (λr=> .aY [(aT r.1),(ar r.2)]) (λ_=>[]) (Kl N v1 v2 v3):=
 fh 0 Tryz.func293 (aw λv4 h1=>gA [[],[(13,cK zf h1)],[]] (ax (λh2=>gH [[t0 h2],[]]) λh2=>aw λv5 h3=>gA [[f0 h2],[(22,cK acK h3)],[]] (ax (λh4=>gH [[t0 h4],[]]) λh4=>aw λv6 h5=>gH [[f0 h4],[(7,cK xX h5)]])))
def E6(N:Nat)(v1:aP)(v2:aB)(v3:aB):amV (aB×Int):=
 (Kl N v1 v2 v3).bind λv4=>
 some (v4.1,v4.2)
theorem ahb{N v1 v2 v3}:KO 268 [(bE v1),(aT v2),(aT v3)] (λr=> .aY [(aT r.1),(ar r.2)]) (E6 N v1 v2 v3):=
 fw Tryz.func268 (aw λv4 h1=>gR [[],[(13,oQ [(.agg [(.fn 297 [])]),(bE v1),(aT v2),(aT v3)] [.cells (bE v1).cells, .cells (aT v2).cells, .cells (aT v3).cells, .cells fG] [] (akf _ h1))]])
def O4(N:Nat)(v1:aP)(v2:Int64)(v3:Int64):amV (Int64×Int):=
 bif (decide ((0:Int)<=v1.ck))then
 Option.bind (Bf N (Int64.ofInt (v2.toInt*2^(min (v1.ck).toNat (IntKind.bits .i64)))) v3 v1.cx) λv4=>
 some (v4.1,v4.2)
 else none
theorem ajq{N v1 v2 v3}:KO 299 [(bE v1),(bk v2),(bk v3)] (λr=> .aY [(bk r.1),(ar r.2)]) (O4 N v1 v2 v3):=
 fw Tryz.func299 (dG λh1=>aw λv4 h2=>gR [[],[(10,⟨_,_, .nn (b:=v1.ck) (of_decide_eq_true h1)⟩),(11,⟨_,_, .eq (gP (v2.toInt*2^(min (v1.ck).toNat (IntKind.bits .i64))))⟩),(22,cK Mu h2)]])
def Pb(N:Nat)(v1:aP)(v2:aB)(v3:aB):amV (aB×Int):=
 Option.bind (qV N v1 ([v2,v3])) λv4=>
 bif (v4 !=0)then
  some (bK,v4)
 else
  (O4 N v1 v2.xN v3.xN).bind λv5=>
  bif (v5.2 !=0)then
   some (bK,v5.2)
  else
   (oF N v1 v5.1).bind λv6=>
   some (v6,(0:Int))
theorem aiM{N v1 v2 v3}:KP 293 [(.agg [(.fn 299 [])]),(bE v1),(aT v2),(aT v3)] [] (λr=> .aY [(aT r.1),(ar r.2)]) (λ_=>[]) (Pb N v1 v2 v3):=
 fh 0 Tryz.func293 (aw λv4 h1=>gA [[],[(13,cK zf h1)],[]] (ax (λh2=>gH [[t0 h2],[]]) λh2=>aw λv5 h3=>gA [[f0 h2],[(22,cK ajq h3)],[]] (ax (λh4=>gH [[t0 h4],[]]) λh4=>aw λv6 h5=>gH [[f0 h4],[(7,cK xX h5)]])))
def BJ(N:Nat)(v1:aP)(v2:aB)(v3:aB):amV (aB×Int):=
 (Pb N v1 v2 v3).bind λv4=>
 some (v4.1,v4.2)
theorem akQ{N v1 v2 v3}:KO 269 [(bE v1),(aT v2),(aT v3)] (λr=> .aY [(aT r.1),(ar r.2)]) (BJ N v1 v2 v3):=
 fw Tryz.func269 (aw λv4 h1=>gR [[],[(13,oQ [(.agg [(.fn 299 [])]),(bE v1),(aT v2),(aT v3)] [.cells (bE v1).cells, .cells (aT v2).cells, .cells (aT v3).cells, .cells fG] [] (aiM _ h1))]])
def BU(N:Nat)(v1:aB)(v2:aB):amV (aB×Int):=
 (j9 N v1).bind λv3=>
 Option.bind (bif v3 then (j9 N v2).bind λv4=>
 some (!v4)else some true) λv5=>
 bif v5 then
  some (bK,(1:Int))
 else
  Option.bind (sU N ((v1.xN*v2.xD)+(v2.xN*v1.xD)) (v1.xD*v2.xD)) λv6=>
  some (v6.1,v6.2)
theorem akj{N v1 v2}:KO 270 [(aT v1),(aT v2)] (λr=> .aY [(aT r.1),(ar r.2)]) (BU N v1 v2):=
 fw Tryz.func270 (gA [[]] (aw λv3 h1=>gG (λv5=>[(13,(az v5))]) (λ_=>[.cells (aT v1).cells, .cells (aT v2).cells, .cells fG]) (dc (4,cK mO h1) (ax (λh2=>aw λv4 h3=>gE [(3,bF (cH h2))] [(16,cK mO h3)]) λh2=>gE [(3,bT (dj h2))] [])) λv5=>bn λh5=>aw λv6 h6=>gR [[f0 h5],[(14,⟨_,_, .eq (fA v1.xN v2.xD)⟩),(29,⟨_,_, .eq (fA v2.xN v1.xD)⟩),(32,⟨_,_, .eq (nr (v1.xN*v2.xD) (v2.xN*v1.xD))⟩),(47,⟨_,_, .eq (fA v1.xD v2.xD)⟩),(49,cK CW h6)]]))
def E0(N:Nat)(v1:aB)(v2:aB):amV (aB×Int):=
 (j9 N v1).bind λv3=>
 Option.bind (bif v3 then (j9 N v2).bind λv4=>
 some (!v4)else some true) λv5=>
 bif v5 then
  some (bK,(1:Int))
 else
  Option.bind (sU N ((v1.xN*v2.xD)-(v2.xN*v1.xD)) (v1.xD*v2.xD)) λv6=>
  some (v6.1,v6.2)
theorem aav{N v1 v2}:KO 271 [(aT v1),(aT v2)] (λr=> .aY [(aT r.1),(ar r.2)]) (E0 N v1 v2):=
 fw Tryz.func271 (gA [[]] (aw λv3 h1=>gG (λv5=>[(13,(az v5))]) (λ_=>[.cells (aT v1).cells, .cells (aT v2).cells, .cells fG]) (dc (4,cK mO h1) (ax (λh2=>aw λv4 h3=>gE [(3,bF (cH h2))] [(16,cK mO h3)]) λh2=>gE [(3,bT (dj h2))] [])) λv5=>bn λh5=>aw λv6 h6=>gR [[f0 h5],[(14,⟨_,_, .eq (fA v1.xN v2.xD)⟩),(29,⟨_,_, .eq (fA v2.xN v1.xD)⟩),(32,⟨_,_, .eq (kV (v1.xN*v2.xD) (v2.xN*v1.xD))⟩),(47,⟨_,_, .eq (fA v1.xD v2.xD)⟩),(49,cK CW h6)]]))
def Eg(N:Nat)(v1:aB)(v2:aB):amV (aB×Int):=
 (j9 N v1).bind λv3=>
 Option.bind (bif v3 then (j9 N v2).bind λv4=>
 some (!v4)else some true) λv5=>
 bif v5 then
  some (bK,(1:Int))
 else
  Option.bind (sU N (v1.xN*v2.xN) (v1.xD*v2.xD)) λv6=>
  some (v6.1,v6.2)
theorem ahS{N v1 v2}:KO 272 [(aT v1),(aT v2)] (λr=> .aY [(aT r.1),(ar r.2)]) (Eg N v1 v2):=
 fw Tryz.func272 (gA [[]] (aw λv3 h1=>gG (λv5=>[(13,(az v5))]) (λ_=>[.cells (aT v1).cells, .cells (aT v2).cells, .cells fG]) (dc (4,cK mO h1) (ax (λh2=>aw λv4 h3=>gE [(3,bF (cH h2))] [(16,cK mO h3)]) λh2=>gE [(3,bT (dj h2))] [])) λv5=>bn λh5=>aw λv6 h6=>gR [[f0 h5],[(14,⟨_,_, .eq (fA v1.xN v2.xN)⟩),(29,⟨_,_, .eq (fA v1.xD v2.xD)⟩),(31,cK CW h6)]]))
def DS(N:Nat)(v1:aB)(v2:aB):amV (aB×Int):=
 (j9 N v1).bind λv3=>
 Option.bind (bif v3 then (j9 N v2).bind λv4=>
 some (!v4)else some true) λv5=>
 bif v5 then
  some (bK,(1:Int))
 else
  Option.bind (sU N (v1.xN*v2.xD) (v1.xD*v2.xN)) λv6=>
  some (v6.1,v6.2)
theorem ac5{N v1 v2}:KO 273 [(aT v1),(aT v2)] (λr=> .aY [(aT r.1),(ar r.2)]) (DS N v1 v2):=
 fw Tryz.func273 (gA [[]] (aw λv3 h1=>gG (λv5=>[(13,(az v5))]) (λ_=>[.cells (aT v1).cells, .cells (aT v2).cells, .cells fG]) (dc (4,cK mO h1) (ax (λh2=>aw λv4 h3=>gE [(3,bF (cH h2))] [(16,cK mO h3)]) λh2=>gE [(3,bT (dj h2))] [])) λv5=>bn λh5=>aw λv6 h6=>gR [[f0 h5],[(14,⟨_,_, .eq (fA v1.xN v2.xD)⟩),(29,⟨_,_, .eq (fA v1.xD v2.xN)⟩),(31,cK CW h6)]]))
def IG(N:Nat)(v1:Int)(v2:aP)(v3:aB)(v4:aB):amV (aB×Int):=
 bif (v2.bu==3)then
  (Eh N v1 v3.xN v4.xN).bind λv5=>
  some (v5.1,v5.2)
 else
  Option.bind (bif (v1==4)then some (v2.bu==2)else some false) λv6=>
  bif v6 then
   (Ca N v2 v3 v4).bind λv7=>
   some (v7.1,v7.2)
  else
   Option.bind (bif (v1==5)then some (v2.bu==2)else some false) λv8=>
   bif v8 then
    (Dr N v2 v3 v4).bind λv9=>
    some (v9.1,v9.2)
   else
    Option.bind (bif (v1==6)then some (v2.bu==2)else some false) λv10=>
    bif v10 then
     (E6 N v2 v3 v4).bind λv11=>
     some (v11.1,v11.2)
    else
     bif (v2.bu==2)then
      (BJ N v2 v3 v4).bind λv12=>
      some (v12.1,v12.2)
     else
      bif (v1==4)then
       (BU N v3 v4).bind λaF=>
       some (aF.1,aF.2)
      else
       bif (v1==5)then
        (E0 N v3 v4).bind λaI=>
        some (aI.1,aI.2)
       else
        bif (v1==6)then
         (Eg N v3 v4).bind λbg=>
         some (bg.1,bg.2)
        else
         (DS N v3 v4).bind λbx=>
         some (bx.1,bx.2)
def Kj(v2:aP)(v3:aB)(v4:aB)(l:amT aq):amT aq:= .cells (bE v2).cells:: .cells (aT v3).cells:: .cells (aT v4).cells:: .cells fG::l
theorem ai3{N v1 v2 v3 v4}:KO 207 [(ar v1),(bE v2),(aT v3),(aT v4)] (λr=> .aY [(aT r.1),(ar r.2)]) (IG N v1 v2 v3 v4):=
 fw Tryz.func207 (gA [[],[],[]] (ax (λh1=>aw λv5 h2=>gR [[t0 h1],[(16,cK agL h2)]]) λh1=>gA [[f0 h1]] (gG (λv6=>[(26,(az v6))]) (λ_=>(Kj v2 v3 v4 [])) (ax (λh3=>gE [(2,bT h3)] []) λh3=>gE [(2,bF h3)] []) λv6=>ax (λh5=>aw λv7 h6=>gR [[t0 h5],[(10,cK adT h6)]]) λh5=>gA [[f0 h5]] (gG (λv8=>[(38,(az v8))]) (λ_=>(Kj v2 v3 v4 [])) (ax (λh7=>gE [(2,bT h7)] []) λh7=>gE [(2,bF h7)] []) λv8=>ax (λh9=>aw λv9 aW=>gR [[t0 h9],[(10,cK acm aW)]]) λh9=>gA [[f0 h9]] (gG (λv10=>[(50,(az v10))]) (λ_=>(Kj v2 v3 v4 [])) (ax (λaZ=>gE [(2,bT aZ)] []) λaZ=>gE [(2,bF aZ)] []) λv10=>ax (λbC=>aw λv11 bJ=>gR [[t0 bC],[(10,cK ahb bJ)]]) λbC=>gA [[f0 bC],[]] (ax (λbH=>aw λv12 bY=>gR [[t0 bH],[(10,cK akQ bY)]]) λbH=>gA [[f0 bH],[]] (ax (λc9=>aw λaF dZ=>gR [[t0 c9],[(7,cK akj dZ)]]) λc9=>gA [[f0 c9],[]] (ax (λeI=>aw λaI dC=>gR [[t0 eI],[(7,cK aav dC)]]) λeI=>gA [[f0 eI],[]] (ax (λfY=>aw λbg h22=>gR [[t0 fY],[(7,cK ahS h22)]]) λfY=>aw λbx fc=>gR [[f0 fY],[(7,cK ac5 fc)]])))))))))
def Bh(N:Nat)(v2:aP)(v3:aB)(v4:aB)(v1:Int)(v11:Bool):amV (aB×Int):=
 bif v11 then
  (DB N v2 v3 v4).bind λv12=>
  Option.bind (bif ((decide (v12>0))==(v1==9))then some (v12 !=0)else some false) λaF=>
  bif aF then
   some (v4,(0:Int))
  else
   some (v3,(0:Int))
 else
  (IG N v1 v2 v3 v4).bind λaI=>
  some (aI.1,aI.2)
def An(N:Nat)(v1:Int)(v2:aP)(v3:aB)(v4:aB):amV (aB×Int):=
 Option.bind (bif (decide (v1<4))then some true else some (decide (v1>10))) λv5=>
 bif v5 then
  some (bK,(1:Int))
 else
  (mr N v2).bind λv6=>
  bif (v6 !=0)then
   some (bK,(10:Int))
  else
   (nD N v2 v3).bind λv7=>
   Option.bind (bif v7 then(bif (v1 !=8)then (nD N v2 v4).bind λv8=>
   some (!v8)else some false)else some true) λv9=>
   bif v9 then
    some (bK,(1:Int))
   else
    bif (v1==8)then
     (HS N v2 v3).bind λv10=>
     some (v10.1,v10.2)
    else
     bif (v1==9)then
      Bh N v2 v3 v4 v1 (v1==9)
     else
      Bh N v2 v3 v4 v1 (v1==10)
def FN(v2:aP)(v3:aB)(v4:aB)(l:amT aq):amT aq:= .cells (bE v2).cells:: .cells (aT v3).cells:: .cells (aT v4).cells:: .cells fG::l
theorem KX{N v1 v2 v3 v4}:KO 120 [(ar v1),(bE v2),(aT v3),(aT v4)] (λr=> .aY [(aT r.1),(ar r.2)]) (An N v1 v2 v3 v4):=
 fw Tryz.func120 (gA [[]] (gG (λv5=>[(11,(az v5))]) (λ_=>(FN v2 v3 v4 [])) (ax (λh1=>gE [(2,bT h1)] []) λh1=>gE [(2,bF h1)] []) λv5=>bn λh3=>aw λv6 h4=>gA [[f0 h3],[(4,cK nQ h4)]] (bn λh5=>gA [[f0 h5]] (aw λv7 h6=>gG (λv9=>[(24,(az v9))]) (λ_=>(FN v2 v3 v4 [])) (dc (7,cK tY h6) (ax (λh7=>cd (4,bF (cH h7)) (ax (λh8=>aw λv8 h9=>gE [(7,bT h8)] [(31,cK tY h9),(37,bT h8)]) λh8=>gE [(7,bF h8)] [(37,bF h8)])) λh7=>gE [(4,bT (dj h7)),(7,uN)] [])) λv9=>bn λaZ=>gA [[f0 aZ],[],[]] (ax (λbj=>aw λv10 bC=>gR [[t0 bj],[(7,cK alx bC)]]) λbj=>kC 1 [[f0 bj],[]] [0,5,6,7,8,48] 4 (λ(v11:Bool)=>⟨73,[(0,(ar v1)),(5,(.ptr 0 0)),(6,(.ptr 1 0)),(7,(.ptr 2 0)),(8,(.ptr 3 0)),(48,(az v11))],(FN v2 v3 v4 [])⟩) (Bh N v2 v3 v4 v1) (λf1 aJ=>ax (λdC=>gm aJ (v1==9) [[t0 dC]]) λdC=>gm aJ (v1==10) [[f0 dC],[]]) (λv11=>ax (λbJ=>aw λv12 bH=>gA [[t0 bJ],[(10,cK UK bH)]] (gG (λaF=>[(63,(az aF))]) (λ_=>(FN v2 v3 v4 [])) (ax (λbY=>gE [(5,bT bY)] []) λbY=>gE [(5,bF bY)] []) λaF=>bn λdZ=>gR [[f0 dZ],[]])) λbJ=>aw λaI eI=>gR [[f0 bJ],[(13,cK ai3 eI)]]))))))
end Go.Proofs.YtnnapanbbbcalaaGreatDoor
