/-
  Part 11 of the proof: PE1, PE2, PE3.
-/
import Derived.Test.YtpeecnpmcbnahaaGreatDoorPp10
namespace Go.Proofs.YtpeecnpmcbnahaaGreatDoor
open Go.RowKit
set_option maxRecDepth 100000
set_option maxHeartbeats 0
set_option linter.unusedVariables false
theorem k01{α β γ:Type}{a:Option α}{b:α->Option β}{f:α->β->Option γ}{r:γ}(h:Option.bind a (λx=>Option.bind (b x) (f x))=some r):∃x,a=some x/\∃y,b x=some y/\f x y=some r:=have⟨x,p,h⟩:=cp h;have⟨y,q,h⟩:=cp h;⟨x,p,y,q,h⟩
def fO(v:aV)(r:apf AV):apf AV:=(.d (.sl (dS v.bm)))::(.d (.sl (m7 v.dF)))::(.d (.sl (ko v.aY)))::(.d (.sl (iH v.aO)))::(.d (.sl (dS v.di)))::r
def KC(N:Nat):apf bp->Nat->aph Bool
 |[],_=>
  some false
 |v4::v5,v2=>
  bif (decide ((v4.xL.length:Int)>20))then
   some true
  else
   (KC N v5 (v2+1))
def Og(N:Nat)(v1:apf bp):aph Bool:=
 KC N v1 0
theorem afI{N v1}:KO 36 [(.d (.sl (fV v1)))] aL (Og N v1):=
 fw Tryz.func36 (gA [[],[]] (gT sR 0 v1 λh2=>ff 1 [] [0,3] 0 (λv2=>⟨17,[(0,(.d (.sl (fV v1)))),(3,(ar (v2:Int)))],[]⟩) (λv2 h3 f1=>gR [[(7,oL v1 jw)],[f0 (cy h3)],[]]) (λv2 v4 v5 h3 f1 aW=>gA [[(7,oL v1 jw)],[t0 (cz h3)],[(7,oE (uR (bI h3))),(16,oL v4.xL lZ)]] (bP λh4=>gb aW () [[f0 h4],[(5,oq (cF h3 rfl h2))]] h3))))
def wi(N:Nat)(v2:Int)(tf:aw->Int->aph Int):apf aw->Nat->Int->aph Int
 |[],_,v12=>
  some v12
 |v10::v11,v8,v12=>
  bif (decide (v12<=v2))then
   Option.bind (tf v10 (aQ (v2-v12))) λaJ=>
   (λgP=>wi N v2 tf v11 (v8+1) gP) (aQ (v12+aJ))
  else
   some v12
def IN(N:Nat)(iw:Int->aph Int)(v2:Int):apf bp->Nat->Int->aph Int
 |[],_,bR=>
  iw bR
 |bB::cA,aH,bR=>
  bif (decide (bR<=v2))then
   (λpC=>IN N iw v2 cA (aH+1) pC) (aQ (bR+(bB.xL.length:Int)))
  else
   iw bR
def zo(N:Nat)(v2:Int)(tf:aw->Int->aph Int):apf aw->Nat->Int->aph Int
 |[],_,dV=>
  some dV
 |v21::fA,cl,dV=>
  bif (decide (dV<=v2))then
   Option.bind (tf v21 (aQ (v2-dV))) λv24=>
   (λth=>zo N v2 tf fA (cl+1) th) (aQ (dV+v24))
  else
   some dV
def Bj(N:Nat)(v2:Int)(tf:aw->Int->aph Int)(v1:aw):apf cJ->Nat->Int->aph Int
 |[],_,v7=>
  wi N v2 tf v1.bZ 0 v7
 |v5::v6,v3,v7=>
  bif (decide (v7<=v2))then
   IN N (λcg=>Bj N v2 tf v1 v6 (v3+1) cg) v2 v5.cN 0 (aQ ((aQ (v7+(v5.bx.xL.length:Int)))+(v5.cN.length:Int)))
  else
   zo N v2 tf v1.bZ 0 v7
def tN(N:Nat):Nat->aw->Int->aph Int
 |0,_,_=>none
 |d+1,v1,v2=>
  Bj N v2 (tN N d) v1 v1.xIdx 0 (aQ ((aQ ((1:Int)+(v1.bx.xL.length:Int)))+(v1.xIdx.length:Int)))
def RW(N:Nat)(v1:aw)(v2:Int):aph Int:=tN N N v1 v2
theorem aix(N:Nat):∀d:Nat,(∀{v1:aw}{v2:Int},KO 37 [(aP v1),(ar v2)] ar (tN N d v1 v2)):=by
 intro d
 induction d with
 |zero=>intro v1 v2 r U;rw[tN]at U;cases U
 |succ d ih=>
  have Xa:= @ih;intro v1 v2;rw[tN];exact fw Tryz.func37 (gA [[],[(10,oL v1.bx.xL lZ),(22,oL v1.xIdx kQ)],[]] (gB C1 0 11 v1.xIdx λh2=>gY 1 [] [1,2,5,6] 1 (λv3(v7:Int)=>⟨101,[(1,(ar v2)),(2,(.ptr 0 0)),(5,(ar v7)),(6,(ar (v3:Int)))],[.cells (aP v1).cells]⟩) (λv3 v7 h3 f1=>gA [[(10,oL v1.xIdx kQ),(18,bF (cy h3)),(21,bF (cy h3)),(24,bF (cy h3)),(28,bF (cy h3))],[(0,bF rfl)],[]] (gB Fy 0 12 v1.bZ λh5=>gY 2 [] [1,2,5,8] 1 (λv8(v12:Int)=>⟨101,[(1,(ar v2)),(2,(.ptr 0 0)),(5,(ar v12)),(8,(ar (v8:Int)))],[.cells (aP v1).cells]⟩) (λv8 v12 h6 f2=>gR [[(10,oL v1.bZ qi),(18,bF (cy h6)),(21,bF (cy h6)),(24,bF (cy h6)),(28,bF (cy h6))],[(0,bF rfl)],[]]) (λv8 v10 v11 v12 h6 f2 fe=>gA [[(10,oL v1.bZ qi),(18,bT (cz h6)),(21,bT (cz h6)),(24,bT (cz h6)),(28,bT (cz h6))]] (qw λh7=>ax λaJ h8=>gb fe (aQ (v12+aJ)) [[(0,bT h7)],[(13,oE (mY (bI h6))),(28,cK Xa h8)],[(5,oq (cF h6 rfl h5))]] h6)))) (λv3 v5 v6 v7 h3 f1 aW=>gA [[(10,oL v1.xIdx kQ),(18,bT (cz h3)),(21,bT (cz h3)),(24,bT (cz h3)),(28,bT (cz h3))]] (aC (λh9=>gA [[(0,bT h9)],[(13,oE (nu (bI h3))),(25,oL v5.bx.xL lZ),(40,oE (nu (bI h3))),(49,oL v5.cN jw)],[]] (liH (λ_=>(SX 0 11 (eQ v1.xIdx) (by kernel_rfl) ·)) λbG=>have bH:=Ag jw (adk (j:=3) (d:= .sl (fV v5.cN)) bG (nu (bI h3)) rfl);gY 3 [] [1,2,5,6,7] 1 (λaH(bR:Int)=>⟨101,[(1,(ar v2)),(2,(.ptr 0 0)),(5,(ar bR)),(6,(ar (v3:Int))),(7,(ar (aH:Int)))],[.cells (aP v1).cells]⟩) (λaH bR bq f3=>gb aW bR [[(13,oE (nu (bI h3))),(22,oL v5.cN jw),(30,bF (cy bq)),(33,bF (cy bq)),(36,bF (cy bq)),(40,bF (cy bq))],[(0,bF rfl)],[(5,oq (cF h3 rfl h2))]] h3) (λaH bB cA bR bq f3 lO=>gA [[(13,oE (nu (bI h3))),(22,oL v5.cN jw),(30,bT (cz bq)),(33,bT (cz bq)),(36,bT (cz bq)),(40,bT (cz bq))]] (aC (λcU=>gb lO (aQ (bR+(bB.xL.length:Int))) [[(0,bT cU)],[(13,oE (nu (bI h3))),(25,oE (uR (bI bq))),(34,oL bB.xL lZ)],[(5,oq (cF bq rfl bH))]] bq) λcU=>gb aW bR [[(0,bF cU)],[(5,oq (cF h3 rfl h2))]] h3)))) λh9=>gA [[(0,bF h9)],[]] (gB Fy 0 12 v1.bZ λcQ=>gY 4 [] [1,2,5,8] 1 (λcl(dV:Int)=>⟨101,[(1,(ar v2)),(2,(.ptr 0 0)),(5,(ar dV)),(8,(ar (cl:Int)))],[.cells (aP v1).cells]⟩) (λcl dV cM f4=>gR [[(10,oL v1.bZ qi),(18,bF (cy cM)),(21,bF (cy cM)),(24,bF (cy cM)),(28,bF (cy cM))],[(0,bF rfl)],[]]) (λcl v21 fA dV cM f4 lE=>gA [[(10,oL v1.bZ qi),(18,bT (cz cM)),(21,bT (cz cM)),(24,bT (cz cM)),(28,bT (cz cM))]] (qw λeE=>ax λv24 fJ=>gb lE (aQ (dV+v24)) [[(0,bT eE)],[(13,oE (mY (bI cM))),(28,cK Xa fJ)],[(5,oq (cF cM rfl cQ))]] cM)))))))
theorem ajU{N v1 v2}:KO 37 [(aP v1),(ar v2)] ar (RW N v1 v2):=(aix N N)
def Ek(N:Nat)(aH:bD)(Zq:aph Bool):Nat->Int->aph Bool
 |0,_=>none
 |bR+1,cl=>
  bif (decide (cl<(aQ ((aH.aU.length:Int)+(aH.bY.length:Int)))))then
   bif (Nat.ble ((0+aH.aU.length)*48) 140737488355328)then
   bif (Nat.ble ((aH.aU.length+aH.bY.length)*48) 140737488355328)then
   bif (decide ((0:Int)<=cl))then
   Option.bind ((aH.aU++aH.bY)[(cl).toNat]?) λv20=>
   bif (decide ((v20.dR.xL.length:Int)>20))then
    some true
   else
    (λth=>Ek N aH Zq bR th) (aQ (cl+(1:Int)))
   else none
   else none
   else none
  else
   Zq
def ED(N:Nat)(v2:Int):apf bD->Nat->aph Bool
 |[],_=>
  some false
 |aH::bz,v12=>
  Option.bind (bif (decide ((aH.aU.length:Int)>12))then some true else(bif (decide ((aH.bY.length:Int)>12))then some true else (RW N aH.bV v2).bind λbB=>
  some (decide (bB>v2)))) λcA=>
  bif cA then
   some true
  else
   Ek N aH (ED N v2 bz (v12+1)) N (0:Int)
def I4(N:Nat)(v2:Int)(v1:aV):apf dX->Nat->aph Bool
 |[],_=>
  ED N v2 v1.aO 0
 |v10::v11,v8=>
  Option.bind (bif (decide ((v10.aU.length:Int)>12))then some true else (Og N v10.aU).bind λv21=>
  some v21) λfA=>
  bif fA then
   some true
  else
   (I4 N v2 v1 v11 (v8+1))
def IM(N:Nat)(v2:Int)(v1:aV):apf gF->Nat->aph Bool
 |[],_=>
  I4 N v2 v1 v1.aY 0
 |v6::v7,v4=>
  bif (decide ((v6.bx.xL.length:Int)>20))then
   some true
  else
   (IM N v2 v1 v7 (v4+1))
def Db(N:Nat)(v1:aV)(v2:Int):aph Bool:=
 Option.bind (bif (decide ((v1.bm.length:Int)>12))then some true else(bif (decide ((v1.dF.length:Int)>12))then some true else(bif (decide ((v1.aY.length:Int)>12))then some true else(bif (decide ((v1.aO.length:Int)>12))then some true else some (decide ((v1.di.length:Int)>12)))))) λv3=>
 bif v3 then
  some true
 else
  IM N v2 v1 v1.dF 0
def tT(v1:aV)(l:apf aq):apf aq:= .cells (dU v1).cells::l
theorem agi{N v1 v2}:KO 21 [(dU v1),(ar v2)] aL (Db N v1 v2):=
 fw Tryz.func21 (gA [[]] (gG (λv3=>[(38,(aL v3))]) (λ_=>(tT v1 [])) (dt (7,oL v1.bm jX) (aC (λJ=>gE [(4,bT J),(10,bT rfl),(16,bT rfl),(22,bT rfl)] []) λJ=>dT (4,bF J) (dt (22,oL v1.dF x7) (aC (λh2=>gE [(10,bT h2),(16,bT rfl),(22,bT rfl)] []) λh2=>dT (10,bF h2) (dt (40,oL v1.aY pn) (aC (λh3=>gE [(16,bT h3),(22,bT rfl)] []) λh3=>dT (16,bF h3) (dt (58,oL v1.aO nw) (aC (λh4=>gE [(22,bT h4)] []) λh4=>gE [(22,bF h4)] [(76,oL v1.di jX)])))))))) λv3=>jJ λ_=>gB R4 0 1 v1.dF λh8=>ff 1 [] [1,2,5] 1 (λv4=>⟨135,[(1,(ar v2)),(2,(.ptr 0 0)),(5,(ar (v4:Int)))],(tT v1 [])⟩) (λv4 h9 f1=>gA [[(10,oL v1.dF x7)],[f0 (cy h9)],[]] (gB Lu 0 2 v1.aY λbH=>ff 2 [] [1,2,6] 1 (λv8=>⟨135,[(1,(ar v2)),(2,(.ptr 0 0)),(6,(ar (v8:Int)))],(tT v1 [])⟩) (λv8 bq f2=>gA [[(10,oL v1.aY pn)],[f0 (cy bq)],[]] (gB Fs 0 3 v1.aO λcT=>ff 3 [] [1,2,7] 1 (λv12=>⟨135,[(1,(ar v2)),(2,(.ptr 0 0)),(7,(ar (v12:Int)))],(tT v1 [])⟩) (λv12 cQ f3=>gR [[(10,oL v1.aO nw)],[f0 (cy cQ)],[]]) (λv12 aH bz cQ f3 lO=>gA [[(10,oL v1.aO nw)],[t0 (cz cQ)],[(10,oE (sQ (bI cQ)))]] (gG (λcA=>[(108,(aL cA))]) (λ_=>(tT v1 [.cells (fF aH).cells])) (dt (7,oL aH.aU kf) (aC (λcM=>gE [(4,bT cM),(10,bT rfl)] []) λcM=>dT (4,bF cM) (dt (22,oL aH.bY kf) (aC (λeE=>gE [(10,bT eE)] []) λeE=>ax λbB fJ=>gE [(10,bF eE)] [(43,cK ajU fJ)])))) λcA=>bP λgz=>Me 4 [[f0 gz],[]] [1,2,7,8,9] 2 (λ(cl:Int)=>⟨135,[(1,(ar v2)),(2,(.ptr 0 0)),(7,(ar (v12:Int))),(8,(.ptr 1 0)),(9,(ar cl))],(tT v1 [.cells (fF aH).cells])⟩) (Ek N aH (ED N v2 bz (v12+1))) (λbR cl f4 lE=>gA [[(10,oL aH.aU kf),(19,oL aH.bY kf)]] (aC (λjU=>gA [[t0 jU]] (dD λlV=>dD λgN=>dD λnM=>ax λv20 gV=>li (λ_=>(abS 3 ck [(10,(.ptr 3 0))] (tT v1 [.cells (fF aH).cells, .front 63 3 (aH.aU++aH.bY).length, .cells (PV v20).cells]) ⟨[(10,oZ sq aH.aU lV),(19,oA sq aH.aU aH.bY gN),(25,⟨_,_, .el (xs:=hJ (aH.aU++aH.bY)) (i:=cl) (of_decide_eq_true nM) (vV gV)⟩)],by kernel_rfl⟩ ·)) (gA [[(10,oL v20.dR.xL lZ)]] (bP λod=>Ay lE (aQ (cl+(1:Int))) [[f0 od],[]])))) λjU=>gb lO () [[f0 jU],[(5,oq (cF cQ rfl cT))]] cQ)))))) (λv8 v10 v11 bq f2 fe=>gA [[(10,oL v1.aY pn)],[t0 (cz bq)]] (gG (λfA=>[(78,(aL fA))]) (λ_=>(tT v1 [])) (dt (10,oE (BC (bI bq))) (dt (19,oL v10.aU jw) (aC (λig=>gE [(8,bT ig)] []) λig=>ax λv21 mC=>gE [(8,bF ig)] [(37,oE (BC (bI bq))),(46,cK afI mC)]))) λfA=>bP λnL=>gb fe () [[f0 nL],[(5,oq (cF bq rfl bH))]] bq)))) (λv4 v6 v7 h9 f1 aW=>gA [[(10,oL v1.dF x7)],[t0 (cz h9)],[(10,oE (NL (bI h9))),(22,oL v6.bx.xL lZ)]] (bP λE0=>gb aW () [[f0 E0],[(5,oq (cF h9 rfl h8))]] h9))))
def Kq(N:Nat)(v1:apf aI)(v2:Int):apf aI->Nat->aph Bool
 |[],_=>
  some (decide ((v1.length:Int)<=v2))
 |v5::v6,v3=>
  bif (decide ((v5.au.size:Int)>100))then
   some false
  else
   (Kq N v1 v2 v6 (v3+1))
def R8(N:Nat)(v1:apf aI)(v2:Int):aph Bool:=
 Kq N v1 v2 v1 0
theorem alN{N v1 v2}:KO 22 [(.d (.sl (aS v1))),(ar v2)] aL (R8 N v1 v2):=
 fw Tryz.func22 (gA [[],[]] (gT yk 0 v1 λh2=>ff 1 [] [0,1,5] 0 (λv3=>⟨23,[(0,(.d (.sl (aS v1)))),(1,(ar v2)),(5,(ar (v3:Int)))],[]⟩) (λv3 h3 f1=>gR [[(7,oL v1 pL)],[f0 (cy h3)],[(4,oL v1 pL)]]) (λv3 v5 v6 h3 f1 aW=>gA [[(7,oL v1 pL)],[t0 (cz h3)],[(7,oE (qB (bI h3)))]] (bP λh4=>gb aW () [[f0 h4],[(5,oq (cF h3 rfl h2))]] h3))))
def Ic(N:Nat)(iw:Int64->aph Int)(v8:Int64)(v6:dw):apf aI->Nat->aph Int
 |[],_=>
  iw v8
 |v12::aJ,v10=>
  Option.bind (bif (bL v12.au==bL v6.au)then some (decide (v12.de.toInt>(-1000:Int)))else some false) λaH=>
  bif aH then
   iw (v8+(v6.dM*v12.de))
  else
   (Ic N iw v8 v6 aJ (v10+1))
def Dr(N:Nat)(v2:apf aI):apf dw->Nat->Int64->aph Int
 |[],_,v8=>
  some (vZ (1:Int64) (DT v8 (3001:Int64))).toInt
 |v6::v7,v4,v8=>
  Option.bind (bif (decide (v6.dM.toInt>100))then some true else some (decide (v6.dM.toInt<(-100:Int)))) λv9=>
  bif v9 then
   some (3001:Int)
  else
   Ic N (λcg=>Dr N v2 v7 (v4+1) cg) v8 v6 v2 0
def G4(N:Nat)(v1:bp)(v2:apf aI):aph Int:=
 Option.bind (bif (decide (v1.xK.toInt>3000))then some true else some (decide (v1.xK.toInt<(-3000:Int)))) λv3=>
 bif v3 then
  some (3001:Int)
 else
  Dr N v2 v1.xL 0 v1.xK
theorem akl{N v1 v2}:KO 38 [(dL v1),(.d (.sl (aS v2)))] ar (G4 N v1 v2):=
 fw Tryz.func38 (gA [[]] (gG (λv3=>[(15,(aL v3))]) (λ_=>[.cells (dL v1).cells]) (aC (λJ=>gE [(3,bT J)] []) λJ=>gE [(3,bF J)] []) λv3=>bP λh3=>gA [[f0 h3],[],[]] (gB DD 0 1 v1.xL λh5=>gY 1 [] [1,2,5,6] 1 (λv4(v8:Int64)=>⟨84,[(1,(.d (.sl (aS v2)))),(2,(.ptr 0 0)),(5,(bC v8)),(6,(ar (v4:Int)))],[.cells (dL v1).cells]⟩) (λv4 v8 h6 f1=>gR [[(10,oL v1.xL lZ)],[f0 (cy h6)],[(5,⟨_,_, .eq (acL v8 (3001:Int64))⟩),(8,⟨_,_, .eq (ahO (1:Int64) (DT v8 (3001:Int64)))⟩)]]) (λv4 v6 v7 v8 h6 f1 aW=>gA [[(10,oL v1.xL lZ)],[t0 (cz h6)]] (gG (λv9=>[(40,(aL v9))]) (λ_=>[.cells (dL v1).cells]) (dt (10,oE (sF (bI h6))) (aC (λh7=>gE [(7,bT h7)] []) λh7=>gE [(7,bF h7)] [(34,oE (sF (bI h6)))])) λv9=>jJ λ_=>gT yk 1 v2 λbH=>ff 2 [] [1,2,5,6,7] 1 (λv10=>⟨84,[(1,(.d (.sl (aS v2)))),(2,(.ptr 0 0)),(5,(bC v8)),(6,(ar (v4:Int))),(7,(ar (v10:Int)))],[.cells (dL v1).cells]⟩) (λv10 bq f2=>gb aW v8 [[(7,oL v2 pL)],[f0 (cy bq)],[(5,oq (cF h6 rfl h5))]] h6) (λv10 v12 aJ bq f2 fe=>gA [[(7,oL v2 pL)],[t0 (cz bq)]] (gG (λaH=>[(66,(aL aH))]) (λ_=>[.cells (dL v1).cells]) (dt (7,oE (qB (bI bq))) (dt (25,oE (sF (bI h6))) (aC (λcU=>gE [(12,bT cU)] [(46,oE (qB (bI bq)))]) λcU=>gE [(12,bF cU)] []))) λaH=>aC (λcQ=>gb aW (v8+(v6.dM*v12.de)) [[t0 cQ],[(13,oE (sF (bI h6))),(28,oE (qB (bI bq))),(38,⟨_,_, .eq (lu v6.dM v12.de)⟩),(41,⟨_,_, .eq (C3 v8 (v6.dM*v12.de))⟩)],[(5,oq (cF h6 rfl h5))]] h6) λcQ=>gb fe () [[f0 cQ],[(5,oq (cF bq rfl bH))]] bq)))))))
def GV(N:Nat)(v2:apf aI):apf dg->Nat->Int->aph Int
 |[],_,v7=>
  some v7
 |v5::v6,v3,v7=>
  (G4 N v5.dR v2).bind λv8=>
  (λcg=>GV N v2 v6 (v3+1) cg) (if(aQ (v7*v8))<3001then(aQ (v7*v8))else(3001:Int))
def H5(N:Nat)(v1:apf dg)(v2:apf aI):aph Int:=
 GV N v2 v1 0 (1:Int)
theorem WD{N v1 v2}:KO 23 [(.d (.sl (hJ v1))),(.d (.sl (aS v2)))] ar (H5 N v1 v2):=
 fw Tryz.func23 (gA [[],[],[]] (gT sq 0 v1 λh2=>gY 1 [] [0,1,5,6] 0 (λv3(v7:Int)=>⟨24,[(0,(.d (.sl (hJ v1)))),(1,(.d (.sl (aS v2)))),(5,(ar v7)),(6,(ar (v3:Int)))],[]⟩) (λv3 v7 h3 f1=>gR [[(7,oL v1 kf)],[f0 (cy h3)],[]]) (λv3 v5 v6 v7 h3 f1 aW=>ax λv8 h4=>gb aW (if(aQ (v7*v8))<3001then(aQ (v7*v8))else(3001:Int)) [[(7,oL v1 kf)],[t0 (cz h3)],[(10,oE (vV (bI h3))),(22,cK akl h4)],[(5,oq (cF h3 rfl h2))]] h3)))
def IU(N:Nat)(v2:apf aI):apf bD->Nat->aph Bool
 |[],_=>
  some true
 |aJ::aH,v11=>
  (H5 N aJ.aU v2).bind λbz=>
  (H5 N aJ.bY v2).bind λbB=>
  bif (decide ((aQ (bz*bB))>3000))then
   some false
  else
   (IU N v2 aH (v11+1))
def HN(N:Nat)(v2:apf aI)(v1:aV)(v3:Int64):apf aI->Nat->aph Bool
 |[],_=>
  IU N v2 v1.aO 0
 |v9::v10,v7=>
  bif (decide (v9.de.toInt>v3.toInt))then
   some false
  else
   (HN N v2 v1 v3 v10 (v7+1))
def J3(N:Nat)(v1:aV)(v2:apf aI)(v3:Int64):aph Bool:=
 Option.bind (Db N v1 (400:Int)) λv4=>
 Option.bind (bif v4 then some true else(bif (decide ((v1.aO.length:Int)>12))then some true else Option.bind (R8 N v2 (20:Int)) λv5=>
 some (!v5))) λv6=>
 bif v6 then
  some false
 else
  HN N v2 v1 v3 v2 0
theorem ahi{N v1 v2 v3}:KO 7 [(dU v1),(.d (.sl (aS v2))),(bC v3)] aL (J3 N v1 v2 v3):=
 fw Tryz.func7 (gA [[]] (ax λv4 J=>gG (λv6=>[(21,(aL v6))]) (λ_=>[.cells (dU v1).cells]) (dt (4,cK agi J) (aC (λh2=>gE [(2,bT h2),(8,bT rfl)] []) λh2=>dT (2,bF h2) (dt (16,oL v1.aO nw) (aC (λh3=>gE [(8,bT h3)] []) λh3=>ax λv5 h4=>gE [(8,bF h3)] [(31,cK alN h4)])))) λv6=>jJ λ_=>gT yk 1 v2 λh8=>ff 1 [] [1,2,3,7] 1 (λv7=>⟨60,[(1,(.d (.sl (aS v2)))),(2,(bC v3)),(3,(.ptr 0 0)),(7,(ar (v7:Int)))],[.cells (dU v1).cells]⟩) (λv7 h9 f1=>gA [[(7,oL v2 pL)],[f0 (cy h9)],[]] (gB Fs 0 3 v1.aO λbH=>ff 2 [] [1,3,8] 1 (λv11=>⟨60,[(1,(.d (.sl (aS v2)))),(3,(.ptr 0 0)),(8,(ar (v11:Int)))],[.cells (dU v1).cells]⟩) (λv11 bq f2=>gR [[(10,oL v1.aO nw)],[f0 (cy bq)],[]]) (λv11 aJ aH bq f2 fe=>ax λbz cU=>ax λbB cT=>gA [[(10,oL v1.aO nw)],[t0 (cz bq)],[(10,oE (sQ (bI bq))),(22,cK WD cU),(34,oE (sQ (bI bq))),(46,cK WD cT)]] (bP λcQ=>gb fe () [[f0 cQ],[(5,oq (cF bq rfl bH))]] bq)))) (λv7 v9 v10 h9 f1 aW=>gA [[(7,oL v2 pL)],[t0 (cz h9)],[(7,oE (qB (bI h9)))]] (bP λcM=>gb aW () [[f0 cM],[(5,oq (cF h9 rfl h8))]] h9))))
def LW(N:Nat)(v1:apf aG):apf aG->Nat->aph Bool
 |[],_=>
  some (decide ((v1.length:Int)<=30))
 |v4::v5,v2=>
  Option.bind (bif (decide ((v4.au.size:Int)>100))then some true else(bif (decide ((v4.fb.aU.length:Int)>20))then some true else some (decide ((v4.fb.eI.length:Int)>4200)))) λv6=>
  bif v6 then
   some false
  else
   (LW N v1 v5 (v2+1))
def Qm(N:Nat)(v1:apf aG):aph Bool:=
 LW N v1 v1 0
theorem anT{N v1}:KO 8 [(.d (.sl (aX v1)))] aL (Qm N v1):=
 fw Tryz.func8 (gA [[],[]] (gT vq 0 v1 λh2=>ff 1 [] [0,3] 0 (λv2=>⟨40,[(0,(.d (.sl (aX v1)))),(3,(ar (v2:Int)))],[]⟩) (λv2 h3 f1=>gR [[(7,oL v1 gW)],[f0 (cy h3)],[(4,oL v1 gW)]]) (λv2 v4 v5 h3 f1 aW=>gA [[(7,oL v1 gW)],[t0 (cz h3)]] (gG (λv6=>[(36,(aL v6))]) (λ_=>[]) (dt (7,oE (mO (bI h3))) (aC (λh4=>gE [(7,bT h4),(17,bT rfl)] []) λh4=>dT (7,bF h4) (dt (31,oE (mO (bI h3))) (dt (43,oL v4.fb.aU gi) (aC (λh5=>gE [(17,bT h5)] []) λh5=>gE [(17,bF h5)] [(61,oE (mO (bI h3))),(73,oL v4.fb.eI lH)]))))) λv6=>bP λh7=>gb aW () [[f0 h7],[(5,oq (cF h3 rfl h2))]] h3))))
def Js(N:Nat)(v1:aV):aph Bool:=
 Option.bind (bif (decide ((if(v1.di.length:Int)>(if(v1.aO.length:Int)>(if(v1.aY.length:Int)>(v1.bm.length:Int)then(v1.aY.length:Int)else(v1.bm.length:Int))then(v1.aO.length:Int)else(if(v1.aY.length:Int)>(v1.bm.length:Int)then(v1.aY.length:Int)else(v1.bm.length:Int)))then(v1.di.length:Int)else(if(v1.aO.length:Int)>(if(v1.aY.length:Int)>(v1.bm.length:Int)then(v1.aY.length:Int)else(v1.bm.length:Int))then(v1.aO.length:Int)else(if(v1.aY.length:Int)>(v1.bm.length:Int)then(v1.aY.length:Int)else(v1.bm.length:Int))))<=64))then some (decide ((v1.dF.length:Int)<=256))else some false) λv2=>
 some v2
theorem ahX{N v1}:KO 87 [(dU v1)] aL (Js N v1):=
 fw Tryz.func87 (gA [[]] (gG (λv2=>[(2,(aL v2))]) (λ_=>[.cells (dU v1).cells]) (dt (7,oL v1.bm jX) (dt (16,oL v1.aY pn) (dt (25,oL v1.aO nw) (dt (34,oL v1.di jX) (aC (λJ=>gE [(14,bT J)] [(52,oL v1.dF x7)]) λJ=>gE [(14,bF J)] []))))) λv2=>gR []))
def CB(N:Nat)(v1:Int):aph Bool:=
 Option.bind (bif (decide (v1>=97))then some (decide (v1<=122))else some false) λv2=>
 some v2
theorem XJ{N v1}:KO 213 [(.d (.v (.int .i32 v1)))] aL (CB N v1):=
 fw Tryz.func213 (gA [[]] (gG (λv2=>[(2,(aL v2))]) (λ_=>[]) (aC (λJ=>gE [(2,bT J)] []) λJ=>gE [(2,bF J)] []) λv2=>gR []))
def Lb(N:Nat)(v1:Int):aph Bool:=
 Option.bind (bif (decide (v1>=48))then some (decide (v1<=57))else some false) λv2=>
 some v2
theorem adG{N v1}:KO 260 [(.d (.v (.int .i32 v1)))] aL (Lb N v1):=
 fw Tryz.func260 (gA [[]] (gG (λv2=>[(2,(aL v2))]) (λ_=>[]) (aC (λJ=>gE [(2,bT J)] []) λJ=>gE [(2,bF J)] []) λv2=>gR []))
def KV(N:Nat)(v1:Int):aph Bool:=
 (CB N v1).bind λv2=>
 Option.bind (bif v2 then some true else (Lb N v1).bind λv3=>
 (bif v3 then some true else some (v1==95))) λv4=>
 some v4
theorem anU{N v1}:KO 215 [(.d (.v (.int .i32 v1)))] aL (KV N v1):=
 fw Tryz.func215 (gA [[]] (ax λv2 J=>gG (λv4=>[(2,(aL v4))]) (λ_=>[]) (dt (4,cK XJ J) (aC (λh2=>gE [(2,bT h2),(6,bT rfl)] []) λh2=>ax λv3 h3=>dT (2,bF h2) (dt (13,cK adG h3) (aC (λh4=>gE [(6,bT h4)] []) λh4=>gE [(6,bF h4)] [])))) λv4=>gR []))
def Dw(N:Nat)(v1:apg):Nat->Int->aph Int
 |0,_=>none
 |v2+1,v3=>
  Option.bind (bif (decide (v3<(v1.size:Int)))then bif (decide ((0:Int)<=v3))then
  Option.bind (v1[(v3).toNat]?) λv4=>
  Option.bind (KV N (IntKind.i32.wrap (v4.toNat:Int))) λv5=>
  some v5
  else none else some false) λv6=>
  bif v6 then
   (λcg=>Dw N v1 v2 cg) (aQ (v3+(1:Int)))
  else
   some v3
def IZ(N:Nat)(v1:apg):aph Int:=
 Dw N v1 N (0:Int)
theorem ali{N v1}:KP 214 [(dq v1),(.fn 215 [])] [] ar (λ_=>[]) (IZ N v1):=
 fh 0 Tryz.func214 (Me 1 [[],[]] [0,1,5] 0 (λ(v3:Int)=>⟨21,[(0,(dq v1)),(1,(.fn 215 [])),(5,(ar v3))],[]⟩) (Dw N v1) (λv2 v3 f1 aW=>gG (λv6=>[(17,(aL v6))]) (λ_=>[]) (aC (λJ=>dD λh3=>ax λv4 h2=>ax λv5 h4=>gE [(4,bT J)] [(25,⟨_,_, .ch (i:=v3) (of_decide_eq_true h3) h2⟩),(31,cK anU h4)]) λJ=>gE [(4,bF J)] []) λv6=>aC (λh6=>Ay aW (aQ (v3+(1:Int))) [[t0 h6],[]]) λh6=>gH [[f0 h6],[]]))
def QM(N:Nat):aph (apf apg):=some nA
theorem amV{N r}(U:QM N=some r):ga Tryz.prog 261 [] (·=(.d (.sl (dS r)))):=by
 cases U;exact ai3
def GY(N:Nat)(v2:apg):apf apg->Nat->aph Int
 |[],_=>
  some (-1:Int)
 |v5::v6,v3=>
  bif (bL v2==bL v5)then
   some (v3:Int)
  else
   (GY N v2 v6 (v3+1))
def Mn(N:Nat)(v1:apf apg)(v2:apg):aph Int:=
 GY N v2 v1 0
theorem ahD{N v1 v2}:KO 148 [(.d (.sl (dS v1))),(dq v2)] ar (Mn N v1 v2):=
 fw Tryz.func148 (gA [[],[(4,oL v1 jX)]] (gT sk 0 v1 λh2=>ff 1 [] [0,1,7,8] 0 (λv3=>⟨19,[(0,(.d (.sl (dS v1)))),(1,(dq v2)),(7,(ar (v1.length:Int))),(8,(ar (v3:Int)))],[]⟩) (λv3 h3 f1=>gR [[],[f0 (cy h3)],[]]) (λv3 v5 v6 h3 f1 aW=>gA [[],[t0 (cz h3)],[],[(10,oE (tg (bI h3)))]] (bP λh4=>gb aW () [[f0 h4],[(2,oq (cF h3 rfl h2))]] h3))))
def Ab(N:Nat)(v1:apf apg)(v2:apg):aph Bool:=
 (Mn N v1 v2).bind λv3=>
 some (decide (v3>=0))
theorem XK{N v1 v2}:KO 92 [(.d (.sl (dS v1))),(dq v2)] aL (Ab N v1 v2):=
 fw Tryz.func92 (ax λv3 J=>gR [[],[(7,cK ahD J)]])
def Hq(N:Nat)(v1:apg):aph Bool:=
 (QM N).bind λv2=>
 (Ab N v2 v1).bind λv3=>
 some v3
theorem aeN{N v1}:KO 216 [(dq v1)] aL (Hq N v1):=
 fw Tryz.func216 (ax λv2 J=>ax λv3 h2=>gR [[],[(1,cL (amV J)),(7,cK XK h2)]])
def vF(N:Nat)(v1:apg):aph Bool:=
 Option.bind (bif (bL v1==bL (bs []))then some false else(bif (decide ((v1.size:Int)<=16))then Option.bind (v1[0]?) λv2=>
 Option.bind (CB N (IntKind.i32.wrap (v2.toNat:Int))) λv3=>
 (bif v3 then (IZ N v1).bind λv4=>
 (bif (v4==(v1.size:Int))then (Hq N v1).bind λv5=>
 some (!v5)else some false)else some false)else some false)) λv6=>
 some v6
theorem Ms{N v1}:KO 140 [(dq v1)] aL (vF N v1):=
 fw Tryz.func140 (gA [[]] (gG (λv6=>[(2,(aL v6))]) (λ_=>[]) (aC (λJ=>gE [(2,bF (dH J)),(7,bF rfl),(13,bF rfl),(20,bF rfl)] []) λJ=>dT (2,bT (eo J)) (aC (λh2=>ax λv2 h3=>ax λv3 h4=>dT (7,bT h2) (dt (28,⟨_,_, .ch (i:=0) (by decide) h3⟩) (dt (34,cK XJ h4) (aC (λh5=>ax λv4 h6=>dT (13,bT h5) (dt (46,oQ [(dq v1),(.fn 215 [])] [] [] (ali _ h6)) (aC (λh7=>ax λv5 h8=>gE [(20,bT h7)] [(67,cK aeN h8)]) λh7=>gE [(20,bF h7)] []))) λh5=>gE [(13,bF h5),(20,bF rfl)] [])))) λh2=>gE [(7,bF h2),(13,bF rfl),(20,bF rfl)] [])) λv6=>gR []))
def g_program_checker_name(N:Nat)(v1:apg)(v2:Int)(v3:aV)(v4:apf (apg×Int)):aph (Int×(apf (apg×Int))):=
 (vF N v1).bind λv5=>
 bif v5 then
  bif ((gg v4 v1 0) !=0)then
   some ((8:Int),v4)
  else
   bif (Nat.blt v4.length 9223372036854775807)then
   some ((0:Int),((v1,v2)::v4))
   else none
 else
  some ((7:Int),v4)
theorem Nz{N v1 v2 v3 v4}:KP 88 [(.ptr 0 0),(dq v1),(ar v2)] [.cells (fO v3 [(.mp 1)]), .map (fc v4)] (λr=>ar r.1) (λr=>[.cells (fO v3 [(.mp 1)]), .map (fc r.2)]) (g_program_checker_name N v1 v2 v3 v4):=
 fh 2 Tryz.func88 (ax λv5 J=>gA [[],[(4,cK Ms J)]] (aC (λh2=>gA [[f0 (dH h2)],[(17,⟨_,_, .eq (E2 false v4 v1)⟩)]] (aC (λh3=>gH [[t0 h3],[]]) λh3=>dD λh4=>gH [[f0 h3],[(19,⟨_,_, .sd (o:= .none) (MH h4)⟩)],[]])) λh2=>gH [[t0 (eo h2)],[]]))
def iG(N:Nat)(v2:Bool):aph Bool:=
 bif v2 then
  some true
 else
  some false
def Mk(N:Nat)(v1:apg):aph Bool:=
 bif (bL v1==bL (bs [115,105,122,101]))then
  iG N (bL v1==bL (bs [115,105,122,101]))
 else
  bif (bL v1==bL (bs [119,104,101,114,101]))then
   iG N (bL v1==bL (bs [119,104,101,114,101]))
  else
   bif (bL v1==bL (bs [105,110]))then
    iG N (bL v1==bL (bs [105,110]))
   else
    bif (bL v1==bL (bs [100,101,102]))then
     iG N (bL v1==bL (bs [100,101,102]))
    else
     bif (bL v1==bL (bs [111,117,116]))then
      iG N (bL v1==bL (bs [111,117,116]))
     else
      bif (bL v1==bL (bs [115,117,109]))then
       iG N (bL v1==bL (bs [115,117,109]))
      else
       bif (bL v1==bL (bs [112,114,111,100]))then
        iG N (bL v1==bL (bs [112,114,111,100]))
       else
        bif (bL v1==bL (bs [109,105,110]))then
         iG N (bL v1==bL (bs [109,105,110]))
        else
         bif (bL v1==bL (bs [109,97,120]))then
          iG N (bL v1==bL (bs [109,97,120]))
         else
          bif (bL v1==bL (bs [115,99,97,110]))then
           iG N (bL v1==bL (bs [115,99,97,110]))
          else
           bif (bL v1==bL (bs [111,118,101,114]))then
            iG N (bL v1==bL (bs [111,118,101,114]))
           else
            bif (bL v1==bL (bs [105,102]))then
             iG N (bL v1==bL (bs [105,102]))
            else
             bif (bL v1==bL (bs [99,97,115,116]))then
              iG N (bL v1==bL (bs [99,97,115,116]))
             else
              bif (bL v1==bL (bs [102,114,97,99]))then
               iG N (bL v1==bL (bs [102,114,97,99]))
              else
               bif (bL v1==bL (bs [105,110,116]))then
                iG N (bL v1==bL (bs [105,110,116]))
               else
                bif (bL v1==bL (bs [102,105,120]))then
                 iG N (bL v1==bL (bs [102,105,120]))
                else
                 bif (bL v1==bL (bs [99,101,105,108]))then
                  iG N (bL v1==bL (bs [99,101,105,108]))
                 else
                  bif (bL v1==bL (bs [102,108,111,111,114]))then
                   iG N (bL v1==bL (bs [102,108,111,111,114]))
                  else
                   bif (bL v1==bL (bs [122,101,114,111]))then
                    iG N (bL v1==bL (bs [122,101,114,111]))
                   else
                    bif (bL v1==bL (bs [101,118,101,110]))then
                     iG N (bL v1==bL (bs [101,118,101,110]))
                    else
                     bif (bL v1==bL (bs [115,97,116]))then
                      iG N (bL v1==bL (bs [115,97,116]))
                     else
                      iG N (bL v1==bL (bs [119,114,97,112]))
theorem aiS{N v1}:KO 226 [(dq v1)] aL (Mk N v1):=
 fw Tryz.func226 (mP 1 [[],[],[]] [4] 0 (λ(v2:Bool)=>⟨27,[(4,(aL v2))],[]⟩) (iG N) (λf1 aW=>aC (λh2=>gm aW (bL v1==bL (bs [115,105,122,101])) [[t0 h2]]) λh2=>gA [[f0 h2],[]] (aC (λh3=>gm aW (bL v1==bL (bs [119,104,101,114,101])) [[t0 h3]]) λh3=>gA [[f0 h3],[]] (aC (λh4=>gm aW (bL v1==bL (bs [105,110])) [[t0 h4]]) λh4=>gA [[f0 h4],[]] (aC (λh5=>gm aW (bL v1==bL (bs [100,101,102])) [[t0 h5]]) λh5=>gA [[f0 h5],[]] (aC (λh6=>gm aW (bL v1==bL (bs [111,117,116])) [[t0 h6]]) λh6=>gA [[f0 h6],[]] (aC (λh7=>gm aW (bL v1==bL (bs [115,117,109])) [[t0 h7]]) λh7=>gA [[f0 h7],[]] (aC (λh8=>gm aW (bL v1==bL (bs [112,114,111,100])) [[t0 h8]]) λh8=>gA [[f0 h8],[]] (aC (λh9=>gm aW (bL v1==bL (bs [109,105,110])) [[t0 h9]]) λh9=>gA [[f0 h9],[]] (aC (λbG=>gm aW (bL v1==bL (bs [109,97,120])) [[t0 bG]]) λbG=>gA [[f0 bG],[]] (aC (λbH=>gm aW (bL v1==bL (bs [115,99,97,110])) [[t0 bH]]) λbH=>gA [[f0 bH],[]] (aC (λbq=>gm aW (bL v1==bL (bs [111,118,101,114])) [[t0 bq]]) λbq=>gA [[f0 bq],[]] (aC (λcU=>gm aW (bL v1==bL (bs [105,102])) [[t0 cU]]) λcU=>gA [[f0 cU],[]] (aC (λcT=>gm aW (bL v1==bL (bs [99,97,115,116])) [[t0 cT]]) λcT=>gA [[f0 cT],[]] (aC (λcQ=>gm aW (bL v1==bL (bs [102,114,97,99])) [[t0 cQ]]) λcQ=>gA [[f0 cQ],[]] (aC (λcM=>gm aW (bL v1==bL (bs [105,110,116])) [[t0 cM]]) λcM=>gA [[f0 cM],[]] (aC (λeE=>gm aW (bL v1==bL (bs [102,105,120])) [[t0 eE]]) λeE=>gA [[f0 eE],[]] (aC (λfJ=>gm aW (bL v1==bL (bs [99,101,105,108])) [[t0 fJ]]) λfJ=>gA [[f0 fJ],[]] (aC (λgn=>gm aW (bL v1==bL (bs [102,108,111,111,114])) [[t0 gn]]) λgn=>gA [[f0 gn],[]] (aC (λgz=>gm aW (bL v1==bL (bs [122,101,114,111])) [[t0 gz]]) λgz=>gA [[f0 gz],[]] (aC (λjU=>gm aW (bL v1==bL (bs [101,118,101,110])) [[t0 jU]]) λjU=>gA [[f0 jU],[]] (aC (λlV=>gm aW (bL v1==bL (bs [115,97,116])) [[t0 lV]]) λlV=>gm aW (bL v1==bL (bs [119,114,97,112])) [[f0 lV],[]]))))))))))))))))))))) (λv2=>bP λJ=>gR [[f0 J],[]]))
def yW(N:Nat)(v1:apg):Nat->Int->aph Bool
 |0,_=>none
 |v5+1,v6=>
  bif (decide (v6<(v1.size:Int)))then
   bif (decide ((0:Int)<=v6))then
   Option.bind (v1[(v6).toNat]?) λv7=>
   Option.bind (bif (decide ((v7.toNat:Int)<97))then(bif (decide ((v7.toNat:Int)<48))then some ((v7.toNat:Int) !=95)else(bif (decide ((v7.toNat:Int)>57))then some ((v7.toNat:Int) !=95)else some false))else(bif (decide ((v7.toNat:Int)>122))then(bif (decide ((v7.toNat:Int)<48))then some ((v7.toNat:Int) !=95)else(bif (decide ((v7.toNat:Int)>57))then some ((v7.toNat:Int) !=95)else some false))else some false)) λv8=>
   bif v8 then
    some false
   else
    (λcg=>yW N v1 v5 cg) (aQ (v6+(1:Int)))
   else none
  else
   some true
def Gy(N:Nat)(v1:apg):aph Bool:=
 Option.bind (bif (decide ((v1.size:Int)<1))then some true else(bif (decide ((v1.size:Int)>16))then some true else (Mk N v1).bind λv2=>
 (bif v2 then some true else Option.bind (v1[0]?) λv3=>
 (bif (decide ((v3.toNat:Int)<97))then some true else some (decide ((v3.toNat:Int)>122)))))) λv4=>
 bif v4 then
  some false
 else
  yW N v1 N (0:Int)
theorem adP{N v1}:KO 169 [(dq v1)] aL (Gy N v1):=
 fw Tryz.func169 (gA [[]] (gG (λv4=>[(26,(aL v4))]) (λ_=>[]) (aC (λJ=>gE [(3,bT J),(8,bT rfl),(12,bT rfl),(17,bT rfl)] []) λJ=>dT (3,bF J) (aC (λh2=>gE [(8,bT h2),(12,bT rfl),(17,bT rfl)] []) λh2=>ax λv2 h3=>dT (8,bF h2) (dt (31,cK aiS h3) (aC (λh4=>gE [(12,bT h4),(17,bT rfl)] []) λh4=>ax λv3 h5=>dT (12,bF h4) (dt (43,⟨_,_, .ch (i:=0) (by decide) h5⟩) (aC (λh6=>gE [(17,bT h6)] []) λh6=>gE [(17,bF h6)] [(58,⟨_,_, .ch (i:=0) (by decide) h5⟩)])))))) λv4=>bP λh8=>Me 1 [[f0 h8],[]] [0,28,29] 0 (λ(v6:Int)=>⟨54,[(0,(dq v1)),(28,(ar (v1.size:Int))),(29,(ar v6))],[]⟩) (yW N v1) (λv5 v6 f1 aW=>gA [[]] (qw λh9=>dD λbH=>ax λv7 bG=>gA [[t0 h9],[],[(7,⟨_,_, .ch (i:=v6) (of_decide_eq_true bH) bG⟩)]] (gG (λv8=>[(52,(aL v8))]) (λ_=>[]) (aC (λbq=>dT (2,bT bq) (dT (6,bT rfl) (aC (λcU=>gE [(9,bT cU),(14,bT rfl)] [(37,bT cU)]) λcU=>dT (9,bF cU) (dt (37,bF cU) (aC (λcT=>gE [(14,bT cT)] []) λcT=>gE [(14,bF cT)] []))))) λbq=>dT (2,bF bq) (aC (λcQ=>dT (6,bT cQ) (aC (λcM=>gE [(9,bT cM),(14,bT rfl)] [(37,bT cM)]) λcM=>dT (9,bF cM) (dt (37,bF cM) (aC (λeE=>gE [(14,bT eE)] []) λeE=>gE [(14,bF eE)] [])))) λcQ=>gE [(6,bF cQ),(9,uN),(14,bF rfl)] [])) λv8=>bP λgn=>Ay aW (aQ (v6+(1:Int))) [[f0 gn],[]])))))
def Km(N:Nat)(v1:bp):apf dw->Nat->aph Int
 |[],_=>
  some (0:Int)
 |v4::v5,v2=>
  (Gy N v4.au).bind λv6=>
  Option.bind (bif v6 then(bif (v4.dM.toInt==0)then some true else(bif (decide ((v2:Int)>0))then bif (decide ((0:Int)<=(aQ ((v2:Int)-(1:Int)))))then
  Option.bind (v1.xL[((aQ ((v2:Int)-(1:Int)))).toNat]?) λv7=>
  some (!(Op.bytesLess (bL v7.au) (bL v4.au)))
  else none else some false))else some true) λv8=>
  bif v8 then
   some (1:Int)
  else
   (Km N v1 v5 (v2+1))
def AB(N:Nat)(v1:bp):aph Int:=
 Km N v1 v1.xL 0
theorem IX{N v1}:KO 109 [(dL v1)] ar (AB N v1):=
 fw Tryz.func109 (gA [[],[(7,oL v1.xL lZ)]] (gT DD 6 v1.xL λh2=>ff 1 [] [1,6,7,8] 1 (λv2=>⟨39,[(1,(.ptr 0 0)),(6,(.d (.sl (gv v1.xL)))),(7,(ar (v1.xL.length:Int))),(8,(ar (v2:Int)))],[.cells (dL v1).cells]⟩) (λv2 h3 f1=>gR [[],[f0 (cy h3)],[]]) (λv2 v4 v5 h3 f1 aW=>gA [[],[t0 (cz h3)],[(4,oE (sF (bI h3)))]] (ax λv6 h4=>gG (λv8=>[(37,(aL v8))]) (λ_=>[.cells (dL v1).cells, .cells (tt v4).cells]) (dt (7,cK adP h4) (aC (λh5=>dT (4,bF (dH h5)) (aC (λh6=>gE [(9,bT h6),(12,uN)] []) λh6=>dT (9,bF h6) (aC (λh7=>dD λh9=>ax λv7 h8=>gE [(12,bT h7)] [(52,⟨_,_, .el (xs:=gv v1.xL) (i:=(aQ ((v2:Int)-(1:Int)))) (of_decide_eq_true h9) (sF h8)⟩),(70,bT h7)]) λh7=>gE [(12,bF h7)] [(70,bF h7)]))) λh5=>gE [(4,bT (eo h5)),(9,bT rfl),(12,uN)] [])) λv8=>bP λbH=>gb aW () [[f0 bH],[(2,oq (cF h3 rfl h2))]] h3))))
def R6(N:Nat)(v1:gF):aph Int:=
 (AB N v1.bx).bind λv2=>
 some v2
theorem amR{N v1}:KO 141 [(vX v1)] ar (R6 N v1):=
 fw Tryz.func141 (ax λv2 J=>gR [[],[(7,cK IX J)]])
def HS(N:Nat)(v3:apf (apg×Int)):apf dw->Nat->aph Int
 |[],_=>
  some (0:Int)
 |v7::v8,v5=>
  bif ((gg v3 v7.au 0) !=1)then
   some (9:Int)
  else
   (HS N v3 v8 (v5+1))
def zy(N:Nat)(v1:bp)(v2:aV)(v3:apf (apg×Int)):aph Int:=
 (AB N v1).bind λv4=>
 bif (v4 !=0)then
  some (1:Int)
 else
  HS N v3 v1.xL 0
theorem PG{N v1 v2 v3}:KP 142 [(.ptr 0 0),(dL v1)] [.cells (fO v2 [(.mp 1)]), .map (fc v3)] ar (λ_=>[.cells (fO v2 [(.mp 1)]), .map (fc v3)]) (zy N v1 v2 v3):=
 fh 2 Tryz.func142 (ax λv4 J=>gA [[],[(4,cK IX J)]] (aC (λh2=>gH [[t0 h2],[]]) λh2=>gA [[f0 h2],[(7,oL v1.xL lZ)]] (gT DD 11 v1.xL λh4=>ff 1 [] [0,11,12,13] 3 (λv5=>⟨26,[(0,(.ptr 0 0)),(11,(.d (.sl (gv v1.xL)))),(12,(ar (v1.xL.length:Int))),(13,(ar (v5:Int)))],[.cells (fO v2 [(.mp 1)]), .map (fc v3), .cells (dL v1).cells]⟩) (λv5 h5 f1=>gH [[],[f0 (cy h5)],[]]) (λv5 v7 v8 h5 f1 aW=>gA [[],[t0 (cz h5)],[(1,oE (sF (bI h5)))],[(20,⟨_,_, .eq (E2 false v3 v7.au)⟩)]] (aC (λh6=>gH [[t0 h6],[]]) λh6=>gb aW () [[f0 h6],[(2,oq (cF h5 rfl h4))]] h5)))))
def LL(N:Nat)(v1:gF)(v2:aV)(v3:apf (apg×Int)):aph Int:=
 (R6 N v1).bind λv4=>
 bif (v4 !=0)then
  some (1:Int)
 else
  (zy N v1.bx v2 v3).bind λv5=>
  some v5
theorem ais{N v1 v2 v3}:KP 89 [(.ptr 0 0),(vX v1)] [.cells (fO v2 [(.mp 1)]), .map (fc v3)] ar (λ_=>[.cells (fO v2 [(.mp 1)]), .map (fc v3)]) (LL N v1 v2 v3):=
 fh 2 Tryz.func89 (ax λv4 J=>gA [[],[(4,cK amR J)]] (aC (λh2=>gH [[t0 h2],[]]) λh2=>ax λv5 h3=>gH [[f0 h2],[(10,oQ [(.ptr 0 0),(dL v1.bx)] [.cells (fO v2 [(.mp 1)]), .map (fc v3), .cells (vX v1).cells] [0,1] (PG _ h3))]]))
def Sx(N:Nat)(v1:aM):aph Bool:=
 some ((v1.bk==v1.bk)&&((v1.cf==0)&&((v1.bQ==0)&&((v1.cq==0)&&((v1.ct==0)&&true)))))
theorem amm{N v1}:KO 178 [(cx v1)] aL (Sx N v1):=
 fw Tryz.func178 (gR [[],[]])
def tE(N:Nat)(v1:aM):aph Int:=
 Option.bind (bif (decide (v1.cq>=1))then(bif (decide (v1.cq<=4))then(bif (v1.ct==1)then some true else some (v1.ct==2))else some false)else some false) λv2=>
 Option.bind (bif (v1.bk !=2)then some true else(bif (decide (v1.cf<2))then some true else(bif (decide (v1.cf>31))then some true else(bif (decide (v1.bQ<0))then some true else(bif (decide (v1.bQ>30))then some true else some (!v2)))))) λv3=>
 bif v3 then
  some (10:Int)
 else
  some (0:Int)
theorem Ke{N v1}:KO 179 [(cx v1)] ar (tE N v1):=
 fw Tryz.func179 (gA [[]] (gG (λv2=>[(3,(aL v2))]) (λ_=>[.cells (cx v1).cells]) (aC (λJ=>dT (3,bT J) (aC (λh2=>dT (8,bT h2) (aC (λh3=>gE [(12,bT h3)] [(49,bT h3)]) λh3=>gE [(12,bF h3)] [(49,bF h3)])) λh2=>gE [(8,bF h2),(12,uN)] [])) λJ=>gE [(3,bF J),(8,bF rfl),(12,uN)] []) λv2=>gG (λv3=>[(48,(aL v3))]) (λ_=>[.cells (cx v1).cells]) (aC (λh5=>gE [(3,bT h5),(8,bT rfl),(13,bT rfl),(18,bT rfl),(23,bT rfl)] []) λh5=>dT (3,bF h5) (aC (λh6=>gE [(8,bT h6),(13,bT rfl),(18,bT rfl),(23,bT rfl)] []) λh6=>dT (8,bF h6) (aC (λh7=>gE [(13,bT h7),(18,bT rfl),(23,bT rfl)] []) λh7=>dT (13,bF h7) (aC (λh8=>gE [(18,bT h8),(23,bT rfl)] []) λh8=>dT (18,bF h8) (aC (λh9=>gE [(23,bT h9)] []) λh9=>gE [(23,bF h9)] []))))) λv3=>bP λbH=>gR [[f0 bH],[]]))
def J7(N:Nat)(v1:aM)(v2:Bool):aph Int:=
 bif v2 then
  (Sx N v1).bind λv3=>
  bif v3 then
   some (0:Int)
  else
   some (10:Int)
 else
  bif (v1.bk==2)then
   (tE N v1).bind λv4=>
   bif (v4==0)then
    some (0:Int)
   else
    some (10:Int)
  else
   some (10:Int)
def l9(N:Nat)(v1:aM):aph Int:=
 bif (v1.bk==1)then
  J7 N v1 (v1.bk==1)
 else
  J7 N v1 (v1.bk==3)
theorem o9{N v1}:KO 116 [(cx v1)] ar (l9 N v1):=
 fw Tryz.func116 (mP 1 [[],[],[]] [1,4,5] 1 (λ(v2:Bool)=>⟨15,[(1,(.ptr 0 0)),(4,(ar v1.bk)),(5,(aL v2))],[.cells (cx v1).cells]⟩) (J7 N v1) (λf1 aW=>aC (λh7=>gm aW (v1.bk==1) [[t0 h7]]) λh7=>gm aW (v1.bk==3) [[f0 h7],[]]) (λv2=>aC (λJ=>ax λv3 h2=>gA [[t0 J],[(4,cK amm h2)]] (bP λh3=>gR [[f0 h3],[]])) λJ=>gA [[f0 J],[]] (qw λh4=>ax λv4 h5=>gA [[t0 h4],[(4,cK Ke h5)]] (bP λh6=>gR [[f0 h6],[]]))))
def Gl(N:Nat):apf Int->Nat->Int->aph Int
 |[],_,v7=>
  some v7
 |v5::v6,v3,v7=>
  (λgP=>Gl N v6 (v3+1) gP) (if v5>v7 then v5 else v7)
def Ox(N:Nat)(v1:apf Int):aph Int:=
 Option.bind (v1[0]?) λv2=>
 Gl N (v1.drop 1) 1 v2
def F1(N:Nat)(v1:apf Int):aph Int:=
 bif (decide ((v1.length:Int)<1))then
  none
 else
  Ox N v1
theorem adw{N v1 r}(U:F1 N v1=some r):KF 217 [(.d (.sl (bw v1)))] (ar r):=by
 rw[F1]at U;refine RH Tryz.func217 ?_;refine wj0 ck r 1 [[],[(4,oL v1 gi)]] [0] 0 ⟨25,[(0,(.d (.sl (bw v1))))],[]⟩ (Ox N v1) ?_ ?_
 ·intro f1 aW;apply bc U<;>intro h5 U
  ·cases U
  exact mm ck aW () [[(0,bF h5)]] U
 intro U;rw[Ox]at U;obtain⟨v2,J,U⟩:=cp U;refine je ck [[(4,oE (k:=0) (jN J))],[]] ?_;refine Iu nV 0 v1 λh3=> ?_;refine Rh ck 2 [] [0,3,4] 0 (λ((v3,v4,v7):Nat×(apf Int)×Int)=>⟨25,[(0,(.d (.sl (bw v1)))),(3,(ar v7)),(4,(ar (v3:Int)))],[]⟩) (λ((v3,v4,v7):Nat×(apf Int)×Int)=>v1.drop v3=v4/\Gl N v4 v3 v7=some r) (λ((v3,v4,v7):Nat×(apf Int)×Int)=>v4.length) (1,(v1.drop 1),v2) ⟨rfl,U⟩ ?_;rintro⟨v3,v4,v7⟩ ⟨h4,U⟩ f2 fe;cases v4 with
 |nil=>
  rw[Gl]at U;cases U;exact wr ck [[(7,oL v1 gi)],[(0,bF (cy h4))],[]]
 |cons v5 v6=>
  rw[Gl]at U;exact R1 ck fe (v3+1,v6,(if v5>v7 then v5 else v7)) [[(7,oL v1 gi)],[(0,bT (cz h4))],[(10,oE (jN (bI h4)))],[(5,oq (cF h4 rfl h3))]] ⟨ma h4,U⟩
def xX(N:Nat)(v1:aM)(v2:apf Int):aph Int:=
 (l9 N v1).bind λv3=>
 bif (v3 !=0)then
  some (10:Int)
 else
  (F1 N v2).bind λv4=>
  bif (decide (v4>6))then
   some (11:Int)
  else
   some (0:Int)
theorem WK{N v1 v2}:KO 143 [(cx v1),(.d (.sl (bw v2)))] ar (xX N v1 v2):=
 fw Tryz.func143 (ax λv3 J=>gA [[],[(4,cK o9 J)]] (bP λh2=>ax λv4 h3=>gA [[f0 h2],[(4,cL (adw h3))]] (bP λh4=>gR [[f0 h4],[]])))
def Hr(N:Nat)(v4:Int×(apf (apg×Int)))(v2:aV):apf bp->Nat->aph (Int×(apf (apg×Int)))
 |[],_=>
  some ((0:Int),v4.2)
 |v8::v9,v6=>
  (zy N v8 v2 v4.2).bind λv10=>
  bif (v10 !=0)then
   some (v10,v4.2)
  else
   (Hr N v4 v2 v9 (v6+1))
def GB(N:Nat)(v1:dX)(v2:aV)(v3:apf (apg×Int)):aph (Int×(apf (apg×Int))):=
 Option.bind (g_program_checker_name N v1.au (2:Int) v2 v3) λv4=>
 bif (v4.1 !=0)then
  some (v4.1,v4.2)
 else
  Option.bind (xX N v1.aB ([(v1.aU.length:Int)])) λv5=>
  bif (v5 !=0)then
   some (v5,v4.2)
  else
   Hr N v4 v2 v1.aU 0
def xl(v2:aV)(l:apf aq):apf aq:= .cells (fO v2 [(.mp 1)])::l
theorem afv{N v1 v2 v3}:KP 90 [(.ptr 0 0),(pA v1)] [.cells (fO v2 [(.mp 1)]), .map (fc v3)] (λr=>ar r.1) (λr=>[.cells (fO v2 [(.mp 1)]), .map (fc r.2)]) (GB N v1 v2 v3):=
 fh 2 Tryz.func90 (ax λv4 J=>gA [[],[(10,oR [(.ptr 0 0),(dq v1.au),(ar (2:Int))] (xl v2 [.map (fc v3), .cells (pA v1).cells]) [0,1] (Nz _ J))],[]] (aC (λh2=>gH [[t0 h2],[]]) λh2=>ax λv5 h3=>gA [[f0 h2],[(13,oL v1.aU jw),(19,cK WK h3)],[]] (aC (λh4=>gH [[t0 h4],[]]) λh4=>gA [[f0 h4],[(7,oL v1.aU jw)]] (gT sR 28 v1.aU λh6=>ff 1 [] [0,28,29,30] 3 (λv6=>⟨41,[(0,(.ptr 0 0)),(28,(.d (.sl (fV v1.aU)))),(29,(ar (v1.aU.length:Int))),(30,(ar (v6:Int)))],(xl v2 [.map (fc v4.2), .cells (pA v1).cells])⟩) (λv6 h7 f1=>gH [[],[f0 (cy h7)],[]]) (λv6 v8 v9 h7 f1 aW=>ax λv10 h8=>gA [[],[t0 (cz h7)],[(1,oE (uR (bI h7)))],[(7,oQ [(.ptr 0 0),(dL v8)] (xl v2 [.map (fc v4.2), .cells (pA v1).cells, .cells (dL v8).cells]) [0,1] (PG _ h8))],[]] (aC (λh9=>gH [[t0 h9],[]]) λh9=>gb aW () [[f0 h9],[(2,oq (cF h7 rfl h6))]] h7))))))
def R7(N:Nat)(v1:Int):aph Unit:=bif decide ((0:Int)<=v1)&&Nat.ble (v1.toNat*48) 140737488355328 then some ()else none
theorem amv{N v1 r}(U:R7 N v1=some r):cO Tryz.prog 262 [.d (.v (.slice none 0 0)),(ar v1)] [] λr1 J=>r1= .own 0 []/\J=[.front 63 3 0]:=by
 obtain⟨hb,_⟩:=eB U;rw[aot]at hb;have e:Int.ofNat v1.toNat=v1:=Int.toNat_of_nonneg (of_decide_eq_true hb.1);have h:=af7 hb.2;rw[e]at h;exact h
def xS(N:Nat):apf (apf dg)->Nat->(apf dg)->aph ((apf dg))
 |[],_,v12=>
  some v12
 |v10::v11,v8,v12=>
  bif (Nat.ble ((v12.length+v10.length)*48) 140737488355328)then
  (λgP=>xS N v11 (v8+1) gP) (v12++v10)
  else none
def vg(N:Nat)(v1:apf (apf dg)):apf (apf dg)->Nat->Int->aph ((apf dg))
 |[],_,v6=>
  (R7 N v6).bind λv7=>
  xS N v1 0 []
 |v4::v5,v2,v6=>
  bif (decide ((aQ (v6+(v4.length:Int)))<0))then
   none
  else
   (λcg=>vg N v1 v5 (v2+1) cg) (aQ (v6+(v4.length:Int)))
def BO(N:Nat)(v1:apf (apf dg)):aph ((apf dg)):=
 vg N v1 v1 0 (0:Int)
theorem Wl{N v1 r}(U:BO N v1=some r):KF 218 [(.d (.sl (oI v1)))] (.d (.sl (hJ r))):=by
 rw[BO]at U;refine RH Tryz.func218 ?_;refine je ck [[],[],[(4,oL v1 P7)]] ?_;refine Iu YP 0 v1 λh2=> ?_;refine NQ ck 1 [] [0,3,9,10,11] 0 v1 (λv2(v6:Int)=>⟨36,[(0,(.d (.sl (oI v1)))),(3,(ar v6)),(9,(.d (.sl (oI v1)))),(10,(ar (v1.length:Int))),(11,(ar (v2:Int)))],[]⟩) (vg N v1) (0:Int) U ?_ ?_
 ·intro v2 v6 h3 U f1;rw[vg]at U;obtain⟨v7,h4,U⟩:=cp U;refine je ck [[],[(0,bF (cy h3))],[(4,⟨_,_, .jM (amv h4)⟩)],[(4,oL v1 P7)]] ?_;refine Iu YP 0 v1 λh6=> ?_;refine NQ ck 2 [] [6,25,26,27] 1 v1 (λv8(v12:apf dg)=>⟨36,[(6,(.own 0 (hJ v12))),(25,(.d (.sl (oI v1)))),(26,(ar (v1.length:Int))),(27,(ar (v8:Int)))],[.front 63 3 v12.length]⟩) (xS N) [] U ?_ ?_
  ·intro v8 v12 h7 U f2;rw[xS]at U;cases U;exact wr ck [[],[(0,bF (cy h7))],[]]
  intro v8 v10 v11 v12 h7 U f2 fe;rw[xS]at U;obtain⟨h8,U⟩:=vt U;exact wb ck fe (v12++v10) [[],[(0,bT (cz h7))],[(1,oE (S0 (bI h7)))],[(7,oA sq v12 v10 h8)],[(2,oq (cF h7 rfl h6))]] h7 U
 intro v2 v4 v5 v6 h3 U f1 aW;rw[vg]at U;refine je ck [[],[(0,bT (cz h3))],[(1,oE (S0 (bI h3)))],[(7,oL v4 kf)],[]] ?_;apply bc U<;>intro h9 U
 ·cases U
 exact wb ck aW (aQ (v6+(v4.length:Int))) [[(0,bF h9)],[(2,oq (cF h3 rfl h2))]] h3 U
def Ig(N:Nat)(v3:apf (apg×Int))(v2:aV):apf dg->Nat->(apf (apg×Bool))->aph Int
 |[],_,_=>
  some (0:Int)
 |v7::v8,v5,v9=>
  (vF N v7.au).bind λv10=>
  bif v10 then
   Option.bind (bif (gg v9 v7.au false)then some true else some ((gg v3 v7.au 0)==1)) λv11=>
   bif v11 then
    some (8:Int)
   else
    bif (Nat.blt v9.length 9223372036854775807)then
    (zy N v7.dR v2 v3).bind λv12=>
    bif (v12 !=0)then
     some v12
    else
     (λcg=>Ig N v3 v2 v8 (v5+1) cg) ((v7.au,true)::v9)
    else none
  else
   some (7:Int)
def J4(N:Nat)(v1:bD)(v2:aV)(v3:apf (apg×Int)):aph Int:=
 Option.bind (BO N ([v1.aU,v1.bY])) λv4=>
 Ig N v3 v2 v4 0 []
def qJ(v2:aV)(v3:apf (apg×Int))(v1:bD)(l:apf aq):apf aq:= .cells (fO v2 [(.mp 1)]):: .map (fc v3):: .cells (fF v1).cells::l
theorem agR{N v1 v2 v3}:KP 144 [(.ptr 0 0),(fF v1)] [.cells (fO v2 [(.mp 1)]), .map (fc v3)] ar (λ_=>[.cells (fO v2 [(.mp 1)]), .map (fc v3)]) (J4 N v1 v2 v3):=
 fh 2 Tryz.func144 (ax λv4 J=>gA [[],[],[(16,cL (Wl J)),(19,oL v4 kf)]] (gT sq 15 v4 λh3=>gY 1 [] [0,5,15,16,17] 4 (λv5(v9:apf (apg×Bool))=>⟨52,[(0,(.ptr 0 0)),(5,(.mp 3)),(15,(.d (.sl (hJ v4)))),(16,(ar (v4.length:Int))),(17,(ar (v5:Int)))],(qJ v2 v3 v1 [.map (AU v9)])⟩) (λv5 v9 h4 f1=>gH [[],[f0 (cy h4)],[]]) (λv5 v7 v8 v9 h4 f1 aW=>ax λv10 h5=>gA [[],[t0 (cz h4)],[(1,oE (vV (bI h4)))],[(7,cK Ms h5)]] (aC (λh6=>gA [[f0 (dH h6)]] (gG (λv11=>[(26,(aL v11))]) (λ_=>(qJ v2 v3 v1 [.map (AU v9), .cells (PV v7).cells])) (dt (11,⟨_,_, .eq (alO false v9 v7.au)⟩) (aC (λh7=>gE [(4,bT h7)] []) λh7=>gE [(4,bF h7)] [(35,⟨_,_, .eq (E2 false v3 v7.au)⟩)])) λv11=>aC (λh9=>gH [[t0 h9],[]]) λh9=>dD λbG=>ax λv12 bH=>gA [[f0 h9],[(10,⟨_,_, .sd (o:= .none) (aci bG)⟩)],[(10,oQ [(.ptr 0 0),(dL v7.dR)] (qJ v2 v3 v1 [.map (AU ((v7.au,true)::v9)), .cells (PV v7).cells]) [0,1] (PG _ bH))],[]] (aC (λbq=>gH [[t0 bq],[]]) λbq=>gb aW ((v7.au,true)::v9) [[f0 bq],[(2,oq (cF h4 rfl h3))]] h4))) λh6=>gH [[t0 (eo h6)],[]]))))
def Bv(N:Nat)(v1:bD)(v2:Bool):aph Int:=
 bif v2 then
  bif ((v1.bY.length:Int)==0)then
   some (11:Int)
  else
   some (0:Int)
 else
  bif (v1.dm==5)then
   Option.bind (bif (decide ((v1.bY.length:Int)>0))then some true else some ((v1.aU.length:Int)==0)) λv3=>
   bif v3 then
    some (11:Int)
   else
    some (0:Int)
  else
   some (1:Int)
def Mg(N:Nat)(v1:bD):aph Int:=
 bif (v1.dm==0)then
  bif (decide ((v1.bY.length:Int)>0))then
   some (11:Int)
  else
   some (0:Int)
 else
  bif (v1.dm==1)then
   Bv N v1 (v1.dm==1)
  else
   bif (v1.dm==2)then
    Bv N v1 (v1.dm==2)
   else
    bif (v1.dm==3)then
     Bv N v1 (v1.dm==3)
    else
     Bv N v1 (v1.dm==4)
theorem anx{N v1}:KO 145 [(fF v1)] ar (Mg N v1):=
 fw Tryz.func145 (gA [[],[],[]] (aC (λJ=>gA [[t0 J],[(7,oL v1.bY kf)]] (bP λh2=>gR [[f0 h2],[]])) λJ=>mP 1 [[f0 J],[]] [1,4,11] 1 (λ(v2:Bool)=>⟨32,[(1,(.ptr 0 0)),(4,(ar v1.dm)),(11,(aL v2))],[.cells (fF v1).cells]⟩) (Bv N v1) (λf1 aW=>aC (λh9=>gm aW (v1.dm==1) [[t0 h9]]) λh9=>gA [[f0 h9],[]] (aC (λbG=>gm aW (v1.dm==2) [[t0 bG]]) λbG=>gA [[f0 bG],[]] (aC (λbH=>gm aW (v1.dm==3) [[t0 bH]]) λbH=>gm aW (v1.dm==4) [[f0 bH],[]]))) (λv2=>aC (λh3=>gA [[t0 h3],[(7,oL v1.bY kf)]] (bP λh4=>gR [[f0 h4],[]])) λh3=>gA [[f0 h3],[]] (qw λh5=>gA [[t0 h5]] (gG (λv3=>[(31,(aL v3))]) (λ_=>[.cells (fF v1).cells]) (dt (7,oL v1.bY kf) (aC (λh6=>gE [(4,bT h6)] []) λh6=>gE [(4,bF h6)] [(22,oL v1.aU kf)])) λv3=>bP λh8=>gR [[f0 h8],[]])))))
def F9(N:Nat):apf dg->Nat->(apf apg)->aph ((apf apg))
 |[],_,v7=>
  some v7
 |v5::v6,v3,v7=>
  bif (Nat.ble ((v7.length+1)*16) 140737488355328)then
  (λcg=>F9 N v6 (v3+1) cg) (v7++[v5.au])
  else none
def Hp(N:Nat)(v1:bD):aph ((apf apg)):=
 Option.bind (BO N ([v1.aU,v1.bY])) λv2=>
 F9 N v2 0 []
theorem aeO{N v1}:KO 147 [(fF v1)] (λr=> .d (.sl (dS r))) (Hp N v1):=
 fw Tryz.func147 (ax λv2 J=>gA [[],[],[(16,cL (Wl J)),(19,oL v2 kf)]] (li (λ_=>(sK 3 9 1 [] (.inr (by kernel_rfl)) ·)) (gT sq 11 v2 λh3=>gY 1 [] [3,11,12,13] 2 (λv3(v7:apf apg)=>⟨24,[(3,(.own 1 (dS v7))),(11,(.d (.sl (hJ v2)))),(12,(ar (v2.length:Int))),(13,(ar (v3:Int)))],[.cells (fF v1).cells, .front 9 1 v7.length]⟩) (λv3 v7 h4 f1=>gR [[],[f0 (cy h4)],[]]) (λv3 v5 v6 v7 h4 f1 aW=>dD λh5=>gb aW (v7++[v5.au]) [[],[t0 (cz h4)],[(1,oE (vV (bI h4)))],[(13,oA sk v7 ([v5.au]) h5)],[(2,oq (cF h4 rfl h3))]] h4))))
def La(N:Nat)(Y8:aw->Int->aph Int)(v2:Int):apf aw->Nat->Int->aph Int
 |[],_,v7=>
  some v7
 |v5::v6,v3,v7=>
  Option.bind (Y8 v5 (aQ (v2-(1:Int)))) λv8=>
  (λcg=>La N Y8 v2 v6 (v3+1) cg) (if(aQ ((1:Int)+v8))>v7 then(aQ ((1:Int)+v8))else v7)
def qA(N:Nat):Nat->aw->Int->aph Int
 |0,_,_=>none
 |d+1,v1,v2=>
  bif (decide (v2<=1))then
   some v2
  else
   La N (qA N d) v2 v1.bZ 0 (1:Int)
def QX(N:Nat)(v1:aw)(v2:Int):aph Int:=qA N N v1 v2
theorem an3(N:Nat):∀d:Nat,(∀{v1:aw}{v2:Int},KO 100 [(aP v1),(ar v2)] ar (qA N d v1 v2)):=by
 intro d
 induction d with
 |zero=>intro v1 v2 r U;rw[qA]at U;cases U
 |succ d ih=>
  have agB:= @ih;intro v1 v2;rw[qA];exact fw Tryz.func100 (gA [[],[]] (bP λJ=>gA [[(0,bF J)],[],[(7,oL v1.bZ qi)]] (gT Fy 12 v1.bZ λh3=>gY 1 [] [1,5,12,13,14] 1 (λv3(v7:Int)=>⟨27,[(1,(ar v2)),(5,(ar v7)),(12,(.d (.sl (iQ v1.bZ)))),(13,(ar (v1.bZ.length:Int))),(14,(ar (v3:Int)))],[.cells (aP v1).cells]⟩) (λv3 v7 h4 f1=>gR [[],[(0,bF (cy h4))],[]]) (λv3 v5 v6 v7 h4 f1 aW=>ax λv8 h5=>gb aW (if(aQ ((1:Int)+v8))>v7 then(aQ ((1:Int)+v8))else v7) [[],[(0,bT (cz h4))],[(1,oE (mY (bI h4)))],[(13,cK agB h5)],[(2,oq (cF h4 rfl h3))]] h4))))
theorem aiQ{N v1 v2}:KO 100 [(aP v1),(ar v2)] ar (QX N v1 v2):=(an3 N N)
def PN(N:Nat)(v1:aw):aph Int:=
 Option.bind (QX N v1 (41:Int)) λv2=>
 some v2
theorem afc{N v1}:KO 59 [(aP v1)] ar (PN N v1):=
 fw Tryz.func59 (ax λv2 J=>gR [[],[(4,cK aiQ J)]])
def yM(N:Nat)(v1:aw):aph aw:=some v1
theorem MP{N v1 r}(U:yM N v1=some r):ga Tryz.prog 61 [(aP v1)] (·=(.fn 101 [(.bj [eJ r] 0 0)])):=by
 cases U;exact ane v1
def tU(N:Nat):apf aw->Int->aph Int
 |[],v3=>
  some v3
 |_::v5,v3=>
  bif (decide ((aQ (v3+(1:Int)))>2000))then
   some (aQ (v3+(1:Int)))
  else
   (λcg=>tU N v5 cg) (aQ (v3+(1:Int)))
def Gf(N:Nat)(v1:aw):aph Int:=
 (yM N v1).bind λv2=>
 tU N (dE v2) (0:Int)
def qO(v1:aw)(v3:Int)(l:apf aq):apf aq:= .cells (aP v1).cells:: .cells [(ar (aQ (v3+(1:Int))))]::l
def CM(v1:aw)(v3:Int)(l:apf aq):apf aq:= .cells (aP v1).cells:: .cells [(ar v3)]::l
def PR(v1:aw)(l:apf aq):apf aq:= .cells (aP v1).cells:: .cells [(ar (0:Int))]::l
theorem amb{N v1 r}(U:Gf N v1=some r):KF 60 [(aP v1)] (ar r):=by
 rw[Gf]at U;refine ru Tryz.func60 rfl (by kernel_rfl) ?_;refine gx [0] 0 (aoC _) (s':=⟨12,[(0,(aP v1))],[]⟩) (by kernel_rfl) ?_;refine aA ?_;refine rg [] [(1,(.ptr 0 0))] [.cells (aP v1).cells] (by kernel_rfl) ?_;refine aA ?_;refine rg [] [(3,(.ptr 1 0))] (PR v1 []) (by kernel_rfl) ?_;refine aA ?_;refine aA ?_;obtain⟨v2,J,U⟩:=cp U;refine rg [(4,cL (MP J))] [(5,(.fn 101 [(.bj [eJ v2] 0 0)]))] (PR v1 []) (by kernel_rfl) ?_;refine gp ?_;refine gx [3,5] 2 (aoz rfl) (s':=⟨12,[(3,(.ptr 1 0)),(5,(.fn 101 [(.bj [eJ v2] 0 0)]))],(PR v1 [])⟩) (by kernel_rfl) ?_;refine vL (m:=2) (enc:=aP) (xs:=(dE v2)) (by kernel_rfl) (OE v2) (λ(v3:Int)=>(CM v1 v3 [])) (λ(v3:Int) l=>tU N l v3=some r) (0:Int) (by kernel_rfl) U (by rintro v3;rfl) (by rintro v3;kernel_rfl) (by kernel_rfl) rfl ?_ ?_
 ·rintro v3 v4 v5 U h2 cw cu
  try dsimp only at U
  rw[tU]at U;refine gx [3] 3 (aoC _) (s':=⟨12,[(3,(.ptr 1 0))],(CM v1 v3 [.lp .ready 6 cw cu (dc 12 [(3,(.ptr 1 0)),(5,(.fn 101 [(.bj [eJ v2] 0 0)]))])])⟩) (by kernel_rfl) ?_;refine dy ?_;refine bE ?_;refine⟨(CM v1 v3 []),[],rfl,(by kernel_rfl),?_⟩;refine gx [3] 3 (aoz rfl) (s':=⟨12,[(3,(.ptr 1 0))],(CM v1 v3 [.lp .busy 6 cw cu (dc 12 [(3,(.ptr 1 0)),(5,(.fn 101 [(.bj [eJ v2] 0 0)]))])])⟩) (by kernel_rfl) ?_;refine gp ?_;refine aA ?_;refine rg [] [] (qO v1 v3 [.lp .busy 6 cw cu (dc 12 [(3,(.ptr 1 0)),(5,(.fn 101 [(.bj [eJ v2] 0 0)]))])]) (by kernel_rfl) ?_;refine aA ?_;refine rg [] [(10,(aL (decide ((aQ (v3+(1:Int)))>2000))))] (qO v1 v3 [.lp .busy 6 cw cu (dc 12 [(3,(.ptr 1 0)),(5,(.fn 101 [(.bj [eJ v2] 0 0)]))])]) (by kernel_rfl) ?_;rcases ee (decide ((aQ (v3+(1:Int)))>2000))with h3|h3
  ·replace U:=(dk h3).symm.trans U;refine eK (t:=(decide ((aQ (v3+(1:Int)))>2000))) (by kernel_rfl) h3 ?_;refine o7 (ai9 rfl ?_);refine akX (qO v1 v3 []) rfl (by kernel_rfl) (by kernel_rfl) ?_;refine(rE rfl ?_);refine bE ?_;refine aA ?_;refine rg [] [(2,(ar (aQ (v3+(1:Int)))))] (qO v1 v3 [.gone]) (by kernel_rfl) ?_;refine cY ?_;have hr:=aoK U;subst hr;exact gD (by kernel_rfl)
  replace U:=(eu h3).symm.trans U;refine eH (t:=(decide ((aQ (v3+(1:Int)))>2000))) (by kernel_rfl) h3 ?_;refine dy ?_;refine iK ?_;refine zQ (qO v1 v3 []) rfl (by kernel_rfl) (by kernel_rfl) ?_;exact⟨(aQ (v3+(1:Int))),(by kernel_rfl),U⟩
 rintro v3 U
 try dsimp only at U
 rw[tU]at U;refine iK ?_;refine bE ?_;refine aA ?_;refine rg [] [(2,(ar v3))] (CM v1 v3 [.gone]) (by kernel_rfl) ?_;refine cY ?_;have hr:=aoK U;subst hr;exact gD (by kernel_rfl)
def EY(N:Nat)(v1:bp):aph Bool:=
 Option.bind (bif (v1.xK.toInt==0)then some ((v1.xL.length:Int)==0)else some false) λv2=>
 some v2
theorem WZ{N v1}:KO 157 [(dL v1)] aL (EY N v1):=
 fw Tryz.func157 (gA [[]] (gG (λv2=>[(2,(aL v2))]) (λ_=>[.cells (dL v1).cells]) (aC (λJ=>gE [(3,bT J)] [(19,oL v1.xL lZ)]) λJ=>gE [(3,bF J)] []) λv2=>gR []))
def LG(N:Nat)(v1:cJ):aph Bool:=
 bif (bL v1.cP==bL (bs []))then
  some ((v1.cN.length:Int)==0)
 else
  (EY N v1.bx).bind λv2=>
  some v2
theorem akQ{N v1}:KO 160 [(hX v1)] aL (LG N v1):=
 fw Tryz.func160 (gA [[],[]] (aC (λJ=>gR [[t0 J],[(7,oL v1.cN jw)]]) λJ=>ax λv2 h2=>gR [[f0 J],[(7,cK WZ h2)]]))
def QV(N:Nat)(v1:cJ):aph Bool:=
 (LG N v1).bind λv2=>
 some (!v2)
theorem akH{N v1}:KO 159 [(hX v1)] aL (QV N v1):=
 fw Tryz.func159 (ax λv2 J=>gR [[],[(4,cK akQ J)]])
def Lq(N:Nat):apf cJ->Nat->aph Int
 |[],_=>
  some (-1:Int)
 |v4::v5,v2=>
  (QV N v4).bind λv6=>
  bif v6 then
   some (v2:Int)
  else
   (Lq N v5 (v2+1))
def Qe(N:Nat)(v1:apf cJ):aph Int:=
 Lq N v1 0
theorem agG{N v1}:KP 220 [(.d (.sl (eQ v1))),(.fn 159 [])] [] ar (λ_=>[]) (Qe N v1):=
 fh 0 Tryz.func220 (gA [[],[(4,oL v1 kQ)]] (gT C1 0 v1 λh2=>ff 1 [] [0,1,7,8] 0 (λv2=>⟨19,[(0,(.d (.sl (eQ v1)))),(1,(.fn 159 [])),(7,(ar (v1.length:Int))),(8,(ar (v2:Int)))],[]⟩) (λv2 h3 f1=>gH [[],[f0 (cy h3)],[]]) (λv2 v4 v5 h3 f1 aW=>ax λv6 h4=>gA [[],[t0 (cz h3)],[],[(10,oE (nu (bI h3))),(16,cK akH h4)]] (aC (λh5=>gH [[t0 h5],[]]) λh5=>gb aW () [[f0 h5],[(2,oq (cF h3 rfl h2))]] h3))))
def KT(N:Nat)(v1:apf cJ):aph Bool:=
 (Qe N v1).bind λv2=>
 some (decide (v2>=0))
theorem aim{N v1}:KP 158 [(.d (.sl (eQ v1))),(.fn 159 [])] [] aL (λ_=>[]) (KT N v1):=
 fh 0 Tryz.func158 (ax λv2 J=>gH [[],[(7,oQ [(.d (.sl (eQ v1))),(.fn 159 [])] [] [] (agG _ J))]])
def IK(N:Nat)(v1:aw):aph Bool:=
 Option.bind (bif (v1.az==1)then some true else some (v1.az==12)) λv2=>
 Option.bind (bif (decide (v1.az<1))then some true else some (decide (v1.az>18))) λv3=>
 bif v3 then
  some false
 else
  Option.bind (bif (v1.az==1)then some false else some (!((v1.de.xN.toInt==(0:Int64).toInt)&&((v1.de.xD.toInt==(0:Int64).toInt)&&true)))) λv4=>
  bif v4 then
   some false
  else
   Option.bind (bif v2 then some false else some (!((v1.aB.bk==0)&&((v1.aB.cf==0)&&((v1.aB.bQ==0)&&((v1.aB.cq==0)&&((v1.aB.ct==0)&&true))))))) λv5=>
   bif v5 then
    some false
   else
    Option.bind (bif (v1.az==2)then some false else (EY N v1.bx).bind λv6=>
    some (!v6)) λv7=>
    bif v7 then
     some false
    else
     Option.bind (bif (v1.az==3)then some false else(bif (bL v1.au==bL (bs []))then some (decide ((v1.xIdx.length:Int)>0))else some true)) λv8=>
     bif v8 then
      some false
     else
      (KT N v1.xIdx).bind λv9=>
      some (!v9)
def yn(v1:aw)(l:apf aq):apf aq:= .cells (aP v1).cells::l
theorem aeL{N v1}:KO 103 [(aP v1)] aL (IK N v1):=
 fw Tryz.func103 (gA [[]] (gG (λv2=>[(3,(aL (v1.az==1))),(4,(aL v2))]) (λ_=>(yn v1 [])) (aC (λJ=>gE [(6,bT J)] []) λJ=>gE [(6,bF J)] []) λv2=>gA [[]] (gG (λv3=>[(24,(aL v3))]) (λ_=>(yn v1 [])) (aC (λh3=>gE [(3,bT h3)] []) λh3=>gE [(3,bF h3)] []) λv3=>bP λh5=>gA [[f0 h5]] (gG (λv4=>[(33,(aL v4))]) (λ_=>(yn v1 [])) (aC (λh6=>gE [(2,bF (dH h6))] []) λh6=>gE [(2,bT (eo h6))] []) λv4=>bP λh8=>gA [[f0 h8]] (gG (λv5=>[(42,(aL v5))]) (λ_=>(yn v1 [])) (aC (λh9=>gE [(2,bF (dH h9))] []) λh9=>gE [(2,bT (eo h9))] []) λv5=>bP λbH=>gA [[f0 bH]] (gG (λv7=>[(51,(aL v7))]) (λ_=>(yn v1 [])) (aC (λbq=>gE [(2,bF (dH bq))] []) λbq=>ax λv6 cU=>gE [(2,bT (eo bq))] [(16,cK WZ cU)]) λv7=>bP λcQ=>gA [[f0 cQ]] (gG (λv8=>[(60,(aL v8))]) (λ_=>(yn v1 [])) (aC (λcM=>gE [(2,bF (dH cM)),(6,uN)] []) λcM=>dT (2,bT (eo cM)) (aC (λeE=>gE [(6,bF (dH eE))] [(28,oL v1.xIdx kQ),(34,bF (dH eE))]) λeE=>gE [(6,bT (eo eE))] [(34,bT (eo eE))])) λv8=>bP λgn=>ax λv9 gz=>gR [[f0 gn],[(7,oQ [(.d (.sl (eQ v1.xIdx))),(.fn 159 [])] (yn v1 []) [] (aim _ gz))]])))))))
def Kp(N:Nat)(v1:cJ):aph Bool:=
 Option.bind (bif (bL v1.cP==bL (bs []))then some false else (vF N v1.cP).bind λv2=>
 some (!v2)) λv3=>
 some v3
theorem amH{N v1}:KO 161 [(hX v1)] aL (Kp N v1):=
 fw Tryz.func161 (gA [[]] (gG (λv3=>[(2,(aL v3))]) (λ_=>[.cells (hX v1).cells]) (aC (λJ=>gE [(3,bF (dH J))] []) λJ=>ax λv2 h2=>gE [(3,bT (eo J))] [(19,cK Ms h2)]) λv3=>gR []))
def I0(N:Nat):apf cJ->Nat->aph Int
 |[],_=>
  some (-1:Int)
 |v4::v5,v2=>
  (Kp N v4).bind λv6=>
  bif v6 then
   some (v2:Int)
  else
   (I0 N v5 (v2+1))
def Ng(N:Nat)(v1:apf cJ):aph Int:=
 I0 N v1 0
theorem ai7{N v1}:KP 220 [(.d (.sl (eQ v1))),(.fn 161 [])] [] ar (λ_=>[]) (Ng N v1):=
 fh 0 Tryz.func220 (gA [[],[(4,oL v1 kQ)]] (gT C1 0 v1 λh2=>ff 1 [] [0,1,7,8] 0 (λv2=>⟨19,[(0,(.d (.sl (eQ v1)))),(1,(.fn 161 [])),(7,(ar (v1.length:Int))),(8,(ar (v2:Int)))],[]⟩) (λv2 h3 f1=>gH [[],[f0 (cy h3)],[]]) (λv2 v4 v5 h3 f1 aW=>ax λv6 h4=>gA [[],[t0 (cz h3)],[],[(10,oE (nu (bI h3))),(16,cK amH h4)]] (aC (λh5=>gH [[t0 h5],[]]) λh5=>gb aW () [[f0 h5],[(2,oq (cF h3 rfl h2))]] h3))))
def On(N:Nat)(v1:apf cJ):aph Bool:=
 (Ng N v1).bind λv2=>
 some (decide (v2>=0))
theorem afb{N v1}:KP 158 [(.d (.sl (eQ v1))),(.fn 161 [])] [] aL (λ_=>[]) (On N v1):=
 fh 0 Tryz.func158 (ax λv2 J=>gH [[],[(7,oQ [(.d (.sl (eQ v1))),(.fn 161 [])] [] [] (ai7 _ J))]])
def JI(N:Nat)(v1:aw):aph Bool:=
 Option.bind (bif (v1.az==3)then (vF N v1.au).bind λv2=>
 some (!v2)else some false) λv3=>
 bif v3 then
  some false
 else
  (On N v1.xIdx).bind λv4=>
  some (!v4)
theorem ahJ{N v1}:KO 104 [(aP v1)] aL (JI N v1):=
 fw Tryz.func104 (gA [[]] (gG (λv3=>[(11,(aL v3))]) (λ_=>[.cells (aP v1).cells]) (aC (λJ=>ax λv2 h2=>gE [(3,bT J)] [(19,cK Ms h2)]) λJ=>gE [(3,bF J)] []) λv3=>bP λh4=>ax λv4 h5=>gR [[f0 h4],[(7,oQ [(.d (.sl (eQ v1.xIdx))),(.fn 161 [])] [.cells (aP v1).cells] [] (afb _ h5))]]))
def Fi(N:Nat)(v1:Int)(v3:Bool):aph Int:=
 bif v3 then
  some (1:Int)
 else
  bif (v1==11)then
   some (3:Int)
  else
   some (2:Int)
def BW(N:Nat)(v1:Int)(v2:Bool):aph Int:=
 bif v2 then
  some (0:Int)
 else
  bif (v1==8)then
   Fi N v1 (v1==8)
  else
   bif (v1==12)then
    Fi N v1 (v1==12)
   else
    Fi N v1 (v1==18)
def JA(N:Nat)(v1:Int):aph Int:=
 bif (v1==1)then
  BW N v1 (v1==1)
 else
  bif (v1==2)then
   BW N v1 (v1==2)
  else
   BW N v1 (v1==3)
theorem ahw{N v1}:KO 162 [(ar v1)] ar (JA N v1):=
 fw Tryz.func162 (mP 1 [[],[],[]] [3,4] 0 (λ(v2:Bool)=>⟨14,[(3,(ar v1)),(4,(aL v2))],[]⟩) (BW N v1) (λf1 aW=>aC (λh6=>gm aW (v1==1) [[t0 h6]]) λh6=>gA [[f0 h6],[]] (aC (λh7=>gm aW (v1==2) [[t0 h7]]) λh7=>gm aW (v1==3) [[f0 h7],[]])) (λv2=>bP λJ=>mP 2 [[f0 J],[]] [3,8] 0 (λ(v3:Bool)=>⟨14,[(3,(ar v1)),(8,(aL v3))],[]⟩) (Fi N v1) (λf2 fe=>aC (λh4=>gm fe (v1==8) [[t0 h4]]) λh4=>gA [[f0 h4],[]] (aC (λh5=>gm fe (v1==12) [[t0 h5]]) λh5=>gm fe (v1==18) [[f0 h5],[]])) (λv3=>jJ λ_=>bP λh3=>gR [[f0 h3],[]])))
def QG(N:Nat)(v1:cJ):aph Bool:=
 some (decide ((v1.cN.length:Int)>6))
theorem anJ{N v1}:KO 163 [(hX v1)] aL (QG N v1):=
 fw Tryz.func163 (gR [[],[(7,oL v1.cN jw)]])
def Gx(N:Nat):apf cJ->Nat->aph Int
 |[],_=>
  some (-1:Int)
 |v4::v5,v2=>
  (QG N v4).bind λv6=>
  bif v6 then
   some (v2:Int)
  else
   (Gx N v5 (v2+1))
def Oa(N:Nat)(v1:apf cJ):aph Int:=
 Gx N v1 0
theorem anX{N v1}:KP 220 [(.d (.sl (eQ v1))),(.fn 163 [])] [] ar (λ_=>[]) (Oa N v1):=
 fh 0 Tryz.func220 (gA [[],[(4,oL v1 kQ)]] (gT C1 0 v1 λh2=>ff 1 [] [0,1,7,8] 0 (λv2=>⟨19,[(0,(.d (.sl (eQ v1)))),(1,(.fn 163 [])),(7,(ar (v1.length:Int))),(8,(ar (v2:Int)))],[]⟩) (λv2 h3 f1=>gH [[],[f0 (cy h3)],[]]) (λv2 v4 v5 h3 f1 aW=>ax λv6 h4=>gA [[],[t0 (cz h3)],[],[(10,oE (nu (bI h3))),(16,cK anJ h4)]] (aC (λh5=>gH [[t0 h5],[]]) λh5=>gb aW () [[f0 h5],[(2,oq (cF h3 rfl h2))]] h3))))
def MS(N:Nat)(v1:apf cJ):aph Bool:=
 (Oa N v1).bind λv2=>
 some (decide (v2>=0))
theorem aeW{N v1}:KP 158 [(.d (.sl (eQ v1))),(.fn 163 [])] [] aL (λ_=>[]) (MS N v1):=
 fh 0 Tryz.func158 (ax λv2 J=>gH [[],[(7,oQ [(.d (.sl (eQ v1))),(.fn 163 [])] [] [] (anX _ J))]])
def Lg(N:Nat)(v1:aw):aph Bool:=
 (JA N v1.az).bind λv2=>
 Option.bind (bif ((v1.bZ.length:Int) !=v2)then some true else some (decide ((v1.xIdx.length:Int)>6))) λv3=>
 bif v3 then
  some false
 else
  (MS N v1.xIdx).bind λv4=>
  some (!v4)
theorem ac5{N v1}:KO 105 [(aP v1)] aL (Lg N v1):=
 fw Tryz.func105 (gA [[]] (ax λv2 J=>gG (λv3=>[(15,(aL v3))]) (λ_=>[.cells (aP v1).cells]) (dt (7,oL v1.bZ qi) (dt (16,cK ahw J) (aC (λh2=>gE [(7,bT h2)] []) λh2=>gE [(7,bF h2)] [(31,oL v1.xIdx kQ)]))) λv3=>bP λh4=>ax λv4 h5=>gR [[f0 h4],[(7,oQ [(.d (.sl (eQ v1.xIdx))),(.fn 163 [])] [.cells (aP v1).cells] [] (aeW _ h5))]]))
def Bg(N:Nat)(v1:aw):aph Bool:=
 Option.bind (bif (decide ((13:Int)<=v1.az))then some (decide (v1.az<=18))else some false) λv2=>
 some v2
theorem Ps{N v1}:KO 40 [(aP v1)] aL (Bg N v1):=
 fw Tryz.func40 (gA [[]] (gG (λv2=>[(2,(aL v2))]) (λ_=>[.cells (aP v1).cells]) (aC (λJ=>gE [(3,bT J)] []) λJ=>gE [(3,bF J)] []) λv2=>gR []))
def Cz(N:Nat)(v1:Int)(v2:Int)(v3:Bool):aph Bool:=
 bif v3 then
  some true
 else
  Option.bind (bif (v1==11)then some (v2==0)else some false) λv4=>
  some v4
def Kn(N:Nat)(v1:Int)(v2:Int):aph Bool:=
 bif (v1==16)then
  Cz N v1 v2 (v1==16)
 else
  bif (v1==17)then
   Cz N v1 v2 (v1==17)
  else
   Cz N v1 v2 (v1==18)
theorem aiI{N v1 v2}:KO 164 [(ar v1),(ar v2)] aL (Kn N v1 v2):=
 fw Tryz.func164 (mP 1 [[],[],[]] [0,1,6] 0 (λ(v3:Bool)=>⟨16,[(0,(ar v1)),(1,(ar v2)),(6,(aL v3))],[]⟩) (Cz N v1 v2) (λf1 aW=>aC (λh4=>gm aW (v1==16) [[t0 h4]]) λh4=>gA [[f0 h4],[]] (aC (λh5=>gm aW (v1==17) [[t0 h5]]) λh5=>gm aW (v1==18) [[f0 h5],[]])) (λv3=>bP λJ=>gA [[f0 J]] (gG (λv4=>[(4,(aL v4))]) (λ_=>[]) (aC (λh2=>gE [(2,bT h2)] []) λh2=>gE [(2,bF h2)] []) λv4=>gR [])))
def Ja(N:Nat)(v1:aw):apf aw->Nat->aph Bool
 |[],_=>
  some true
 |v7::v8,v5=>
  (Bg N v7).bind λv9=>
  Option.bind (Kn N v1.az (v5:Int)) λv10=>
  bif (v9==v10)then
   (Ja N v1 v8 (v5+1))
  else
   some false
def Ip(N:Nat)(v1:aw):aph Bool:=
 Option.bind (bif (v1.az==1)then (l9 N v1.aB).bind λv2=>
 some (v2 !=0)else(bif (v1.az==12)then (l9 N v1.aB).bind λv3=>
 some (v3 !=0)else some false)) λv4=>
 bif v4 then
  some false
 else
  Ja N v1 v1.bZ 0
theorem aea{N v1}:KO 106 [(aP v1)] aL (Ip N v1):=
 fw Tryz.func106 (gA [[]] (gG (λv4=>[(18,(aL v4))]) (λ_=>[.cells (aP v1).cells]) (aC (λJ=>ax λv2 h2=>gE [(3,bT J),(8,bT rfl)] [(34,cK o9 h2)]) λJ=>dT (3,bF J) (aC (λh3=>ax λv3 h4=>gE [(8,bT h3)] [(34,cK o9 h4)]) λh3=>gE [(8,bF h3)] [])) λv4=>bP λh6=>gA [[f0 h6],[(7,oL v1.bZ qi)]] (gT Fy 20 v1.bZ λh8=>ff 1 [] [1,20,21,22] 1 (λv5=>⟨35,[(1,(.ptr 0 0)),(20,(.d (.sl (iQ v1.bZ)))),(21,(ar (v1.bZ.length:Int))),(22,(ar (v5:Int)))],[.cells (aP v1).cells]⟩) (λv5 h9 f1=>gR [[],[f0 (cy h9)],[]]) (λv5 v7 v8 h9 f1 aW=>ax λv9 bG=>ax λv10 bH=>gA [[],[t0 (cz h9)],[(4,oE (mY (bI h9)))],[(4,cK Ps bG),(16,cK aiI bH)]] (lS λbq=>gb aW () [[f0 (dH bq)],[(2,oq (cF h9 rfl h8))]] h9)))))
def A0(N:Nat)(v1:Int):aph Bool:=
 Option.bind (bif (decide (v1>=2))then some (decide (v1<=31))else some false) λv2=>
 some v2
theorem QI{N v1}:KO 266 [(ar v1)] aL (A0 N v1):=
 fw Tryz.func266 (gA [[]] (gG (λv2=>[(2,(aL v2))]) (λ_=>[]) (aC (λJ=>gE [(2,bT J)] []) λJ=>gE [(2,bF J)] []) λv2=>gR []))
def Ga(N:Nat)(v1:Int):aph Int64:=
 (A0 N v1).bind λv2=>
 bif v2 then
  bif (decide ((0:Int)<=(IntKind.u64.wrap (aQ (v1-(1:Int))))))then
  some (-(Int64.ofInt ((1:Int)*2^(min ((IntKind.u64.wrap (aQ (v1-(1:Int))))).toNat (IntKind.bits .i64)))))
  else none
 else
  some (0:Int64)
theorem Xw{N v1}:KO 221 [(ar v1)] bC (Ga N v1):=
 fw Tryz.func221 (ax λv2 J=>gA [[],[(4,cK QI J)]] (lS λh2=>dD λh3=>gR [[f0 (dH h2)],[(10,⟨_,_, .nn (b:=(IntKind.u64.wrap (aQ (v1-(1:Int))))) (of_decide_eq_true h3)⟩),(11,⟨_,_, .eq (ky ((1:Int)*2^(min ((IntKind.u64.wrap (aQ (v1-(1:Int))))).toNat (IntKind.bits .i64))))⟩),(14,⟨_,_, .eq (GZ (Int64.ofInt ((1:Int)*2^(min ((IntKind.u64.wrap (aQ (v1-(1:Int))))).toNat (IntKind.bits .i64)))))⟩)]]))
def Ci(N:Nat)(v1:Int):aph Int64:=
 (A0 N v1).bind λv2=>
 bif v2 then
  bif (decide ((0:Int)<=(IntKind.u64.wrap (aQ (v1-(1:Int))))))then
  some ((Int64.ofInt ((1:Int)*2^(min ((IntKind.u64.wrap (aQ (v1-(1:Int))))).toNat (IntKind.bits .i64))))-(1:Int64))
  else none
 else
  some (0:Int64)
theorem Wr{N v1}:KO 222 [(ar v1)] bC (Ci N v1):=
 fw Tryz.func222 (ax λv2 J=>gA [[],[(4,cK QI J)]] (lS λh2=>dD λh3=>gR [[f0 (dH h2)],[(10,⟨_,_, .nn (b:=(IntKind.u64.wrap (aQ (v1-(1:Int))))) (of_decide_eq_true h3)⟩),(11,⟨_,_, .eq (ky ((1:Int)*2^(min ((IntKind.u64.wrap (aQ (v1-(1:Int))))).toNat (IntKind.bits .i64))))⟩),(14,⟨_,_, .eq (xE (Int64.ofInt ((1:Int)*2^(min ((IntKind.u64.wrap (aQ (v1-(1:Int))))).toNat (IntKind.bits .i64)))) (1:Int64))⟩)]]))
def ta(N:Nat)(v1:aM)(v2:aD):aph Bool:=
 (tE N v1).bind λv3=>
 Option.bind (bif (v3==0)then(bif (v2.xD.toInt==1)then (Ga N v1.cf).bind λv4=>
 (bif (decide (v2.xN.toInt>=v4.toInt))then (Ci N v1.cf).bind λv5=>
 some (decide (v2.xN.toInt<=v5.toInt))else some false)else some false)else some false) λv6=>
 some v6
theorem O5{N v1 v2}:KO 165 [(cx v1),(bu v2)] aL (ta N v1 v2):=
 fw Tryz.func165 (gA [[]] (ax λv3 J=>gG (λv6=>[(4,(aL v6))]) (λ_=>[.cells (cx v1).cells, .cells (bu v2).cells]) (dt (4,cK Ke J) (aC (λh2=>dT (3,bT h2) (aC (λh3=>ax λv4 h4=>dT (8,bT h3) (dt (40,cK Xw h4) (aC (λh5=>ax λv5 h6=>gE [(16,bT h5)] [(64,cK Wr h6)]) λh5=>gE [(16,bF h5)] []))) λh3=>gE [(8,bF h3),(16,bF rfl)] [])) λh2=>gE [(3,bF h2),(8,bF rfl),(16,bF rfl)] [])) λv6=>gR []))
def pW(N:Nat)(v1:Int64):aph Bool:=
 Option.bind (bif (decide (v1.toInt>=(-2147483647:Int)))then some (decide (v1.toInt<=2147483647))else some false) λv2=>
 some v2
theorem AI{N v1}:KO 166 [(bC v1)] aL (pW N v1):=
 fw Tryz.func166 (gA [[]] (gG (λv2=>[(2,(aL v2))]) (λ_=>[]) (aC (λJ=>gE [(2,bT J)] []) λJ=>gE [(2,bF J)] []) λv2=>gR []))
def OH(N:Nat)(v1:Int64):aph Bool:=
 Option.bind (bif (decide (v1.toInt>=(-2147483647:Int)))then some (decide (v1.toInt<=2147483647))else some false) λv2=>
 some v2
theorem age{N v1}:KO 223 [(bC v1)] aL (OH N v1):=
 fw Tryz.func223 (gA [[]] (gG (λv2=>[(2,(aL v2))]) (λ_=>[]) (aC (λJ=>gE [(2,bT J)] []) λJ=>gE [(2,bF J)] []) λv2=>gR []))
def BG(N:Nat)(v1:Int64):aph Int:=
 bif (decide (v1.toInt<0))then
  some (IntKind.u64.wrap (0-(IntKind.u64.wrap v1.toInt)))
 else
  some (IntKind.u64.wrap v1.toInt)
theorem Mw{N v1}:KO 225 [(bC v1)] (λr=> .d (.v (.int .u64 r))) (BG N v1):=
 fw Tryz.func225 (gA [[],[]] (bP λJ=>gR [[f0 J],[]]))
def DH(N:Nat):Nat->Int->Int->aph Int
 |0,_,_=>none
 |v3+1,v4,v5=>
  bif (v5 !=0)then
   (λcg fi=>DH N v3 cg fi) v5 ((v4).tmod v5)
  else
   some v4
def DU(N:Nat)(v1:Int)(v2:Int):aph Int:=
 DH N N v1 v2
theorem abU{N v1 v2}:KO 224 [(.d (.v (.int .u64 v1))),(.d (.v (.int .u64 v2)))] (λr=> .d (.v (.int .u64 r))) (DU N v1 v2):=
 fw Tryz.func224 (VF 1 [[]] [0,1] 0 (λ(v4:Int)(v5:Int)=>⟨12,[(0,(.d (.v (.int .u64 v4)))),(1,(.d (.v (.int .u64 v5))))],[]⟩) (DH N) (λv3 v4 v5 f1 aW=>gA [[]] (qw λJ=>Ay aW (v5,((v4).tmod v5)) [[t0 J],[(10,⟨_,_, .nz (b:=v5) (bne_iff_ne.1 J)⟩)]])))
def j9(N:Nat)(v1:aD):aph Bool:=
 Option.bind (bif (decide (v1.xD.toInt>=1))then(bif (decide (v1.xD.toInt<=2147483647))then (OH N v1.xN).bind λv2=>
 (bif v2 then (BG N v1.xN).bind λv3=>
 Option.bind (DU N v3 (IntKind.u64.wrap v1.xD.toInt)) λv4=>
 some (v4==1)else some false)else some false)else some false) λv5=>
 some v5
theorem ni{N v1}:KO 167 [(bu v1)] aL (j9 N v1):=
 fw Tryz.func167 (gA [[]] (gG (λv5=>[(2,(aL v5))]) (λ_=>[.cells (bu v1).cells]) (aC (λJ=>dT (3,bT J) (aC (λh2=>ax λv2 h3=>dT (8,bT h2) (dt (34,cK age h3) (aC (λh4=>ax λv3 h5=>ax λv4 h6=>gE [(13,bT h4)] [(49,cK Mw h5),(61,cK abU h6)]) λh4=>gE [(13,bF h4)] []))) λh2=>gE [(8,bF h2),(13,bF rfl)] [])) λJ=>gE [(3,bF J),(8,bF rfl),(13,bF rfl)] []) λv5=>gR []))
def mD(N:Nat)(v1:aM)(v2:aD):aph Bool:=
 (l9 N v1).bind λv3=>
 bif (v3 !=0)then
  some false
 else
  bif (v1.bk==2)then
   (ta N v1 v2).bind λv4=>
   some v4
  else
   bif (v1.bk==3)then
    Option.bind (bif (v2.xD.toInt==1)then (pW N v2.xN).bind λv5=>
    some v5 else some false) λv6=>
    some v6
   else
    (j9 N v2).bind λv7=>
    some v7
theorem uM{N v1 v2}:KO 107 [(cx v1),(bu v2)] aL (mD N v1 v2):=
 fw Tryz.func107 (ax λv3 J=>gA [[],[(4,cK o9 J)]] (bP λh2=>gA [[f0 h2],[],[]] (aC (λh3=>ax λv4 h4=>gR [[t0 h3],[(7,cK O5 h4)]]) λh3=>gA [[f0 h3],[]] (aC (λh5=>gA [[t0 h5]] (gG (λv6=>[(4,(aL v6))]) (λ_=>[.cells (cx v1).cells, .cells (bu v2).cells]) (aC (λh6=>ax λv5 h7=>gE [(3,bT h6)] [(19,cK AI h7)]) λh6=>gE [(3,bF h6)] []) λv6=>gR [])) λh5=>ax λv7 h9=>gR [[f0 h5],[(4,cK ni h9)]]))))
def PF(N:Nat)(v1:aw):aph aw:=some v1
theorem ach{N v1 r}(U:PF N v1=some r):ga Tryz.prog 108 [(aP v1)] (·=(.fn 168 [(.bj [eJ r] 0 0)])):=by
 cases U;exact ai0 v1
def dY:aM:=⟨(0:Int),(0:Int),(0:Int),(0:Int),(0:Int)⟩
def aay:jG:=⟨(0:Int),(0:Int),(0:Int)⟩
def mF:aT:=⟨dY,[],[]⟩
def x9:apf AV:=[(ar (0:Int)),(ar (0:Int)),(ar (0:Int)),(ar (0:Int)),(ar (0:Int))]
def zc1:apf AV:=[(ar (0:Int)),(ar (0:Int)),(ar (0:Int)),(ar (0:Int)),(ar (0:Int)),(.d (.v (.slice none 0 0))),(.d (.v (.slice none 0 0)))]
def ur(N:Nat):apf bp->aph Int
 |[]=>
  some (0:Int)
 |v9::v10=>
  (AB N v9).bind λv11=>
  bif (v11 !=0)then
   some (1:Int)
  else
   (ur N v10)
def D5(N:Nat)(v1:aw):aph Int:=
 (IK N v1).bind λv2=>
 bif v2 then
  (JI N v1).bind λv3=>
  bif v3 then
   (Lg N v1).bind λv4=>
   bif v4 then
    (Ip N v1).bind λv5=>
    bif v5 then
     Option.bind (bif (v1.az==1)then (mD N v1.aB v1.de).bind λv6=>
     some (!v6)else some false) λv7=>
     bif v7 then
      some (1:Int)
     else
      (PF N v1).bind λv8=>
      ur N (oO v8)
    else
     some (10:Int)
   else
    some (11:Int)
  else
   some (7:Int)
 else
  some (5:Int)
def lG(v1:aw)(l:apf aq):apf aq:= .cells (aP v1).cells:: .cells [(ar (0:Int))]::l
def yt(v1:aw)(l:apf aq):apf aq:= .cells (aP v1).cells::l
theorem acu{N v1 r}(U:D5 N v1=some r):KF 62 [(aP v1)] (ar r):=by
 rw[D5]at U;refine ru Tryz.func62 rfl (by kernel_rfl) ?_;refine gx [0] 0 (aoC _) (s':=⟨38,[(0,(aP v1))],[]⟩) (by kernel_rfl) ?_;refine aA ?_;refine rg [] [(1,(.ptr 0 0)),(2,(.ptr 1 0))] (lG v1 []) (by kernel_rfl) ?_;refine aA ?_;refine gp ?_;refine aA ?_;obtain⟨v2,J,U⟩:=cp U;refine rg [(4,cK aeL J)] [(4,(aL (!v2)))] (lG v1 []) (by kernel_rfl) ?_;rcases ee v2 with h2|h2
 ·replace U:=(dk h2).symm.trans U;refine eH (t:=(!v2)) (by kernel_rfl) (dH h2) ?_;refine aA ?_;obtain⟨v3,h3,U⟩:=cp U;refine rg [(4,cK ahJ h3)] [(8,(aL (!v3)))] (lG v1 []) (by kernel_rfl) ?_;rcases ee v3 with h4|h4
  ·replace U:=(dk h4).symm.trans U;refine eH (t:=(!v3)) (by kernel_rfl) (dH h4) ?_;refine aA ?_;obtain⟨v4,h5,U⟩:=cp U;refine rg [(4,cK ac5 h5)] [(12,(aL (!v4)))] (lG v1 []) (by kernel_rfl) ?_;rcases ee v4 with h6|h6
   ·replace U:=(dk h6).symm.trans U;refine eH (t:=(!v4)) (by kernel_rfl) (dH h6) ?_;refine aA ?_;obtain⟨v5,h7,U⟩:=cp U;refine rg [(4,cK aea h7)] [(16,(aL (!v5)))] (lG v1 []) (by kernel_rfl) ?_;rcases ee v5 with h8|h8
    ·replace U:=(dk h8).symm.trans U;refine eH (t:=(!v5)) (by kernel_rfl) (dH h8) ?_;refine aA ?_;obtain⟨v7,bH,U⟩:=cp U;refine Ai [(20,(aL v7))] (lG v1 []) ?_ ?_
     ·rcases ee (v1.az==1)with h9|h9
      ·replace bH:=(dk h9).symm.trans bH;obtain⟨v6,bG,bH⟩:=cp bH;have he:=aoK bH;subst he;exact⟨[(12,bT h9),(15,bT h9),(18,bT h9),(21,bT h9),(24,bT h9),(25,cK uM bG),(27,bT h9),(31,bT h9)],by kernel_rfl⟩
      replace bH:=(eu h9).symm.trans bH;have he:=aoK bH;subst he;exact⟨[(12,bF h9),(15,bF h9),(18,bF h9),(21,bF h9),(24,bF h9),(27,bF h9),(31,bF h9)],by kernel_rfl⟩
     rcases ee v7 with bq|bq
     ·replace U:=(dk bq).symm.trans U;refine eK (t:=v7) (by kernel_rfl) bq ?_;refine aA ?_;refine rg [] [] (yt v1 [.cells [(ar (1:Int))]]) (by kernel_rfl) ?_;refine cY (fa (c9 ?_));have hr:=aoK U;subst hr;exact gD (by kernel_rfl)
     replace U:=(eu bq).symm.trans U;refine eH (t:=v7) (by kernel_rfl) bq ?_;refine dy ?_;refine iK ?_;refine bE ?_;refine aA ?_;refine aA ?_;obtain⟨v8,cU,U⟩:=cp U;refine rg [(4,cL (ach cU))] [(33,(.fn 168 [(.bj [eJ v8] 0 0)]))] (lG v1 []) (by kernel_rfl) ?_;refine gp ?_;refine gx [2,33] 2 (aoz rfl) (s':=⟨38,[(2,(.ptr 1 0)),(33,(.fn 168 [(.bj [eJ v8] 0 0)]))],(lG v1 [])⟩) (by kernel_rfl) ?_;refine vL (m:=2) (enc:=dL) (xs:=(oO v8)) (by kernel_rfl) (ahY v8) (λ(_:Unit)=>(lG v1 [])) (λ(_:Unit) l=>ur N l=some r) () (by kernel_rfl) U (by rintro _;rfl) (by rintro _;kernel_rfl) (by kernel_rfl) rfl ?_ ?_
     ·rintro _ v9 v10 U cT cw cu
      try dsimp only at U
      rw[ur]at U;refine gx [2,34] 3 (aoC _) (s':=⟨38,[(2,(.ptr 1 0)),(34,(dL v9))],(lG v1 [.lp .ready 34 cw cu (dc 38 [(2,(.ptr 1 0)),(33,(.fn 168 [(.bj [eJ v8] 0 0)]))])])⟩) (by kernel_rfl) ?_;refine re [] [(3,(.ptr 3 0))] (lG v1 [.lp .ready 34 cw cu (dc 38 [(2,(.ptr 1 0)),(33,(.fn 168 [(.bj [eJ v8] 0 0)]))]), .cells (dL v9).cells]) (by kernel_rfl) ?_;refine bE ?_;refine⟨(lG v1 []),[.cells (dL v9).cells],rfl,(by kernel_rfl),?_⟩;refine gx [2,3] 4 (aoz rfl) (s':=⟨38,[(2,(.ptr 1 0)),(3,(.ptr 3 0))],(lG v1 [.lp .busy 34 cw cu (dc 38 [(2,(.ptr 1 0)),(33,(.fn 168 [(.bj [eJ v8] 0 0)]))]), .cells (dL v9).cells])⟩) (by kernel_rfl) ?_;refine gp ?_;refine aA ?_;obtain⟨v11,cQ,U⟩:=cp U;refine rg [(4,cK IX cQ)] [(37,(aL (v11 !=0)))] (lG v1 [.lp .busy 34 cw cu (dc 38 [(2,(.ptr 1 0)),(33,(.fn 168 [(.bj [eJ v8] 0 0)]))]), .cells (dL v9).cells]) (by kernel_rfl) ?_;rcases ee (v11 !=0)with cM|cM
      ·replace U:=(dk cM).symm.trans U;refine eK (t:=(v11 !=0)) (by kernel_rfl) cM ?_;refine aA ?_;refine rg [] [] (yt v1 [.cells [(ar (1:Int))], .lp .busy 34 cw cu (dc 38 [(2,(.ptr 1 0)),(33,(.fn 168 [(.bj [eJ v8] 0 0)]))]), .cells (dL v9).cells]) (by kernel_rfl) ?_;refine cY (fa ?_);refine DA (yt v1 [.cells [(ar (1:Int))]]) rfl (by kernel_rfl) (by kernel_rfl) ?_;refine(fa (c9 ?_));have hr:=aoK U;subst hr;exact gD (by kernel_rfl)
      replace U:=(eu cM).symm.trans U;refine eH (t:=(v11 !=0)) (by kernel_rfl) cM ?_;refine dy ?_;refine iK ?_;refine zQ (lG v1 []) rfl (by kernel_rfl) (by kernel_rfl) ?_;exact⟨(),(by kernel_rfl),U⟩
     rintro _ U
     try dsimp only at U
     rw[ur]at U;refine iK ?_;refine bE ?_;refine aA ?_;refine rg [] [] (lG v1 [.gone]) (by kernel_rfl) ?_;refine cY ?_;have hr:=aoK U;subst hr;exact gD (by kernel_rfl)
    replace U:=(eu h8).symm.trans U;refine eK (t:=(!v5)) (by kernel_rfl) (eo h8) ?_;refine aA ?_;refine rg [] [] (yt v1 [.cells [(ar (10:Int))]]) (by kernel_rfl) ?_;refine cY (fa (c9 ?_));have hr:=aoK U;subst hr;exact gD (by kernel_rfl)
   replace U:=(eu h6).symm.trans U;refine eK (t:=(!v4)) (by kernel_rfl) (eo h6) ?_;refine aA ?_;refine rg [] [] (yt v1 [.cells [(ar (11:Int))]]) (by kernel_rfl) ?_;refine cY (fa (c9 ?_));have hr:=aoK U;subst hr;exact gD (by kernel_rfl)
  replace U:=(eu h4).symm.trans U;refine eK (t:=(!v3)) (by kernel_rfl) (eo h4) ?_;refine aA ?_;refine rg [] [] (yt v1 [.cells [(ar (7:Int))]]) (by kernel_rfl) ?_;refine cY (fa (c9 ?_));have hr:=aoK U;subst hr;exact gD (by kernel_rfl)
 replace U:=(eu h2).symm.trans U;refine eK (t:=(!v2)) (by kernel_rfl) (eo h2) ?_;refine aA ?_;refine rg [] [] (yt v1 [.cells [(ar (5:Int))]]) (by kernel_rfl) ?_;refine cY (fa (c9 ?_));have hr:=aoK U;subst hr;exact gD (by kernel_rfl)
def xM(N:Nat):apf aw->aph Int
 |[]=>
  some (0:Int)
 |v5::v6=>
  (D5 N v5).bind λv7=>
  bif (v7 !=0)then
   some v7
  else
   (xM N v6)
def zn(N:Nat)(v1:aw):aph Int:=
 (PN N v1).bind λv2=>
 bif (decide (v2>40))then
  some (13:Int)
 else
  (Gf N v1).bind λv3=>
  bif (decide (v3>2000))then
   some (2:Int)
  else
   (yM N v1).bind λv4=>
   xM N (dE v4)
def ou(v1:aw)(l:apf aq):apf aq:= .cells (aP v1).cells:: .cells [(ar (0:Int))]::l
def Ru(v1:aw)(cw:Code)(cu:Code)(v4:aw)(v5:aw)(l:apf aq):apf aq:=ou v1 (.lp .busy 13 cw cu (dc 19 [(2,(.ptr 1 0)),(12,(.fn 101 [(.bj [eJ v4] 0 0)]))]):: .cells (aP v5).cells::l)
def FK(v1:aw)(l:apf aq):apf aq:= .cells (aP v1).cells::l
theorem TC{N v1 r}(U:zn N v1=some r):KF 39 [(aP v1)] (ar r):=by
 rw[zn]at U;refine ru Tryz.func39 rfl (by kernel_rfl) ?_;refine gx [0] 0 (aoC _) (s':=⟨19,[(0,(aP v1))],[]⟩) (by kernel_rfl) ?_;refine aA ?_;refine rg [] [(1,(.ptr 0 0)),(2,(.ptr 1 0))] (ou v1 []) (by kernel_rfl) ?_;refine aA ?_;refine aA ?_;obtain⟨v2,J,U⟩:=cp U;refine rg [(4,cK afc J)] [(7,(aL (decide (v2>40))))] (ou v1 []) (by kernel_rfl) ?_;rcases ee (decide (v2>40))with h2|h2
 ·replace U:=(dk h2).symm.trans U;refine eK (t:=(decide (v2>40))) (by kernel_rfl) h2 ?_;refine aA ?_;refine rg [] [] (FK v1 [.cells [(ar (13:Int))]]) (by kernel_rfl) ?_;refine cY (c9 ?_);have hr:=aoK U;subst hr;exact gD (by kernel_rfl)
 replace U:=(eu h2).symm.trans U;refine eH (t:=(decide (v2>40))) (by kernel_rfl) h2 ?_;refine dy ?_;refine bE ?_;refine aA ?_;refine aA ?_;obtain⟨v3,h3,U⟩:=cp U;refine rg [(4,cL (amb h3))] [(10,(aL (decide (v3>2000))))] (ou v1 []) (by kernel_rfl) ?_;rcases ee (decide (v3>2000))with h4|h4
 ·replace U:=(dk h4).symm.trans U;refine eK (t:=(decide (v3>2000))) (by kernel_rfl) h4 ?_;refine aA ?_;refine rg [] [] (FK v1 [.cells [(ar (2:Int))]]) (by kernel_rfl) ?_;refine cY (c9 ?_);have hr:=aoK U;subst hr;exact gD (by kernel_rfl)
 replace U:=(eu h4).symm.trans U;refine eH (t:=(decide (v3>2000))) (by kernel_rfl) h4 ?_;refine dy ?_;refine bE ?_;refine aA ?_;refine aA ?_;obtain⟨v4,h5,U⟩:=cp U;refine rg [(4,cL (MP h5))] [(12,(.fn 101 [(.bj [eJ v4] 0 0)]))] (ou v1 []) (by kernel_rfl) ?_;refine gp ?_;refine gx [2,12] 2 (aoz rfl) (s':=⟨19,[(2,(.ptr 1 0)),(12,(.fn 101 [(.bj [eJ v4] 0 0)]))],(ou v1 [])⟩) (by kernel_rfl) ?_;refine vL (m:=2) (enc:=aP) (xs:=(dE v4)) (by kernel_rfl) (OE v4) (λ(_:Unit)=>(ou v1 [])) (λ(_:Unit) l=>xM N l=some r) () (by kernel_rfl) U (by rintro _;rfl) (by rintro _;kernel_rfl) (by kernel_rfl) rfl ?_ ?_
 ·rintro _ v5 v6 U h6 cw cu
  try dsimp only at U
  rw[xM]at U;refine gx [2,13] 3 (aoC _) (s':=⟨19,[(2,(.ptr 1 0)),(13,(aP v5))],(ou v1 [.lp .ready 13 cw cu (dc 19 [(2,(.ptr 1 0)),(12,(.fn 101 [(.bj [eJ v4] 0 0)]))])])⟩) (by kernel_rfl) ?_;refine re [] [(3,(.ptr 3 0))] (ou v1 [.lp .ready 13 cw cu (dc 19 [(2,(.ptr 1 0)),(12,(.fn 101 [(.bj [eJ v4] 0 0)]))]), .cells (aP v5).cells]) (by kernel_rfl) ?_;refine bE ?_;refine⟨(ou v1 []),(FK v5 []),rfl,(by kernel_rfl),?_⟩;refine gx [2,3] 4 (aoz rfl) (s':=⟨19,[(2,(.ptr 1 0)),(3,(.ptr 3 0))],(Ru v1 cw cu v4 v5 [])⟩) (by kernel_rfl) ?_;refine gp ?_;refine aA ?_;obtain⟨v7,h7,U⟩:=cp U;refine rg [(4,cL (acu h7))] [(4,(ar v7))] (Ru v1 cw cu v4 v5 []) (by kernel_rfl) ?_;refine aA ?_;refine rg [] [(17,(aL (v7 !=0)))] (Ru v1 cw cu v4 v5 []) (by kernel_rfl) ?_;rcases ee (v7 !=0)with h8|h8
  ·replace U:=(dk h8).symm.trans U;refine eK (t:=(v7 !=0)) (by kernel_rfl) h8 ?_;refine aA ?_;refine rg [] [] (FK v1 [.cells [(ar v7)], .lp .busy 13 cw cu (dc 19 [(2,(.ptr 1 0)),(12,(.fn 101 [(.bj [eJ v4] 0 0)]))]), .cells (aP v5).cells]) (by kernel_rfl) ?_;refine cY (fa ?_);refine DA (FK v1 [.cells [(ar v7)]]) rfl (by kernel_rfl) (by kernel_rfl) ?_;refine(fa (c9 ?_));have hr:=aoK U;subst hr;exact gD (by kernel_rfl)
  replace U:=(eu h8).symm.trans U;refine eH (t:=(v7 !=0)) (by kernel_rfl) h8 ?_;refine dy ?_;refine iK ?_;refine zQ (ou v1 []) rfl (by kernel_rfl) (by kernel_rfl) ?_;exact⟨(),(by kernel_rfl),U⟩
 rintro _ U
 try dsimp only at U
 rw[xM]at U;refine iK ?_;refine bE ?_;refine aA ?_;refine rg [] [] (ou v1 [.gone]) (by kernel_rfl) ?_;refine cY ?_;have hr:=aoK U;subst hr;exact gD (by kernel_rfl)
def Mq(N:Nat)(v3:apf (apg×Int)):apf dw->Nat->aph Int
 |[],_=>
  some (0:Int)
 |v6::v7,v4=>
  bif ((gg v3 v6.au 0)==0)then
   some (9:Int)
  else
   (Mq N v3 v7 (v4+1))
def EW(N:Nat)(v1:bp)(v2:aV)(v3:apf (apg×Int)):aph Int:=
 Mq N v3 v1.xL 0
theorem Nl{N v1 v2 v3}:KP 264 [(.ptr 0 0),(dL v1)] [.cells (fO v2 [(.mp 1)]), .map (fc v3)] ar (λ_=>[.cells (fO v2 [(.mp 1)]), .map (fc v3)]) (EW N v1 v2 v3):=
 fh 2 Tryz.func264 (gA [[],[(7,oL v1.xL lZ)]] (gT DD 8 v1.xL λh2=>ff 1 [] [0,8,9,10] 3 (λv4=>⟨23,[(0,(.ptr 0 0)),(8,(.d (.sl (gv v1.xL)))),(9,(ar (v1.xL.length:Int))),(10,(ar (v4:Int)))],[.cells (fO v2 [(.mp 1)]), .map (fc v3), .cells (dL v1).cells]⟩) (λv4 h3 f1=>gH [[],[f0 (cy h3)],[]]) (λv4 v6 v7 h3 f1 aW=>gA [[],[t0 (cz h3)],[(1,oE (sF (bI h3)))],[(20,⟨_,_, .eq (E2 false v3 v6.au)⟩)]] (aC (λh4=>gH [[t0 h4],[]]) λh4=>gb aW () [[f0 h4],[(2,oq (cF h3 rfl h2))]] h3))))
def Oi(N:Nat)(v1:apf dw):aph (apf dw):=bif Nat.ble (v1.length*24) 140737488355328 then some v1 else none
theorem anB{N v1 r}(U:Oi N v1=some r):ga Tryz.prog 151 [(.d (.sl (gv v1)))] (·=(.d (.sl (gv r)))):=by
 obtain⟨hb,rfl⟩:=eB U;have hc:=lW hb (by decide);exact acm TO (by rw[lZ];exact hc.1) (by rw[lZ];exact hc.2)
def C4(N:Nat)(v1:bp):aph bp:=
 (Oi N v1.xL).bind λv2=>
 some (⟨v1.xK,v2⟩:bp)
theorem Xr{N v1}:KO 98 [(dL v1)] dL (C4 N v1):=
 fw Tryz.func98 (ax λv2 J=>gR [[],[(13,cL (anB J))]])
def D7(N:Nat):apf bp->Nat->(apf bp)->aph ((apf bp))
 |[],_,v6=>
  some v6
 |v4::v5,v2,v6=>
  (C4 N v4).bind λv7=>
  bif (Nat.ble ((v6.length+1)*32) 140737488355328)then
  (λcg=>D7 N v5 (v2+1) cg) (v6++[v7])
  else none
def Lz(N:Nat)(v1:apf bp):aph ((apf bp)):=
 D7 N v1 0 []
theorem adF{N v1}:KO 96 [(.d (.sl (fV v1)))] (λr=> .d (.sl (fV r))) (Lz N v1):=
 fw Tryz.func96 (gA [[],[],[(4,oL v1 jw)]] (li (λ_=>(sK 3 53 2 [] (.inr (by kernel_rfl)) ·)) (gT sR 0 v1 λh2=>gY 1 [] [3,6,7,8] 1 (λv2(v6:apf bp)=>⟨19,[(3,(.own 0 (fV v6))),(6,(.d (.sl (fV v1)))),(7,(ar (v1.length:Int))),(8,(ar (v2:Int)))],[.front 53 2 v6.length]⟩) (λv2 v6 h3 f1=>gR [[],[f0 (cy h3)],[]]) (λv2 v4 v5 v6 h3 f1 aW=>ax λv7 h4=>dD λh5=>gb aW (v6++[v7]) [[],[t0 (cz h3)],[(1,oE (uR (bI h3)))],[(7,cK Xr h4),(13,oA sR v6 ([v7]) h5)],[(2,oq (cF h3 rfl h2))]] h3))))
def OJ(N:Nat)(v1:bD)(v2:apg):aph Bool:=
 some (bL v1.au==bL v2)
theorem aih{N v1 v2}:KP 150 [(fF v1),(.ptr 0 0)] [.cells [(dq v2)]] aL (λ_=>[.cells [(dq v2)]]) (OJ N v1 v2):=
 fh 1 Tryz.func150 (gH [[],[]])
def Is(N:Nat)(v2:apg):apf bD->Nat->aph Int
 |[],_=>
  some (-1:Int)
 |v5::v6,v3=>
  (OJ N v5 v2).bind λv7=>
  bif v7 then
   some (v3:Int)
  else
   (Is N v2 v6 (v3+1))
def PT(N:Nat)(v1:apf bD)(v2:apg):aph Int:=
 Is N v2 v1 0
theorem af3{N v1 v2}:KP 149 [(.d (.sl (iH v1))),(.fn 150 [(.ptr 0 0)])] [.cells [(dq v2)]] ar (λ_=>[.cells [(dq v2)]]) (PT N v1 v2):=
 fh 1 Tryz.func149 (gA [[],[(4,oL v1 nw)]] (gT Fs 0 v1 λh2=>ff 1 [] [0,1,7,8] 1 (λv3=>⟨19,[(0,(.d (.sl (iH v1)))),(1,(.fn 150 [(.ptr 0 0)])),(7,(ar (v1.length:Int))),(8,(ar (v3:Int)))],[.cells [(dq v2)]]⟩) (λv3 h3 f1=>gH [[],[f0 (cy h3)],[]]) (λv3 v5 v6 h3 f1 aW=>ax λv7 h4=>gA [[],[t0 (cz h3)],[],[(10,oE (sQ (bI h3))),(16,oQ [(fF v5),(.ptr 0 0)] [.cells [(dq v2)]] [0] (aih _ h4))]] (aC (λh5=>gH [[t0 h5],[]]) λh5=>gb aW () [[f0 h5],[(2,oq (cF h3 rfl h2))]] h3))))
def JH(N:Nat)(v1:aV)(v2:apg):aph Int:=
 (PT N v1.aO v2).bind λv3=>
 some v3
theorem aet{N v1 v2}:KO 97 [(dU v1),(dq v2)] ar (JH N v1 v2):=
 fw Tryz.func97 (ax λv3 J=>gR [[],[(10,oQ [(.d (.sl (iH v1.aO))),(.fn 150 [(.ptr 1 0)])] [.cells (dU v1).cells, .cells [(dq v2)]] [1] (af3 _ J))]])
def EJ(N:Nat)(v8:bD):apf dg->Nat->(apf bp)->aph (aM×(apf bp)×Bool)
 |[],_,aJ=>
  some (v8.aB,aJ,true)
 |v11::v12,v9,aJ=>
  (C4 N v11.dR).bind λaH=>
  bif (Nat.ble ((aJ.length+1)*32) 140737488355328)then
  (λgP=>EJ N v8 v12 (v9+1) gP) (aJ++[aH])
  else none
def DJ(N:Nat)(v1:aV)(v2:apg):apf dX->Nat->aph (aM×(apf bp)×Bool)
 |[],_=>
  (JH N v1 v2).bind λv7=>
  bif (decide (v7>=0))then
   bif (decide ((0:Int)<=v7))then
   Option.bind (v1.aO[(v7).toNat]?) λv8=>
   EJ N v8 v8.aU 0 []
   else none
  else
   some (dY,[],false)
 |v5::v6,v3=>
  bif (bL v5.au==bL v2)then
   (Lz N v5.aU).bind λbz=>
   some (v5.aB,bz,true)
  else
   (DJ N v1 v2 v6 (v3+1))
def CJ(N:Nat)(v1:aV)(v2:apg):aph (aM×(apf bp)×Bool):=
 DJ N v1 v2 v1.aY 0
theorem Sy{N v1 v2}:KO 55 [(dU v1),(dq v2)] (λr=> .bg [(cx r.1),(.d (.sl (fV r.2.1))),(aL r.2.2)]) (CJ N v1 v2):=
 fw Tryz.func55 (gA [[],[(7,oL v1.aY pn)]] (gT Lu 14 v1.aY λh2=>ff 1 [] [1,2,4,14,15,16] 2 (λv3=>⟨61,[(1,(dq v2)),(2,(.ptr 0 0)),(4,(.ptr 1 0)),(14,(.d (.sl (ko v1.aY)))),(15,(ar (v1.aY.length:Int))),(16,(ar (v3:Int)))],[.cells (dU v1).cells, .cells x9]⟩) (λv3 h3 f1=>ax λv7 h4=>gA [[],[f0 (cy h3)],[(7,cK aet h4)],[]] (qw λh5=>dD λh7=>ax λv8 h6=>gA [[t0 h5],[],[(10,⟨_,_, .el (xs:=iH v1.aO) (i:=v7) (of_decide_eq_true h7) (sQ h6)⟩),(19,oL v8.aU kf)]] (li (λ_=>(sK 10 53 2 [] (.inr (by kernel_rfl)) ·)) (gT sq 40 v8.aU λh9=>gY 2 [] [2,4,9,10,40,41,42] 3 (λv9(aJ:apf bp)=>⟨61,[(2,(.ptr 0 0)),(4,(.ptr 1 0)),(9,(ar v7)),(10,(.own 2 (fV aJ))),(40,(.d (.sl (hJ v8.aU)))),(41,(ar (v8.aU.length:Int))),(42,(ar (v9:Int)))],[.cells (dU v1).cells, .cells x9, .front 53 2 aJ.length]⟩) (λv9 aJ bG f2=>gR [[],[f0 (cy bG)],[(10,⟨_,_, .el (xs:=iH v1.aO) (i:=v7) (of_decide_eq_true h7) (sQ h6)⟩)]]) (λv9 v11 v12 aJ bG f2 fe=>ax λaH bH=>dD λbq=>gb fe (aJ++[aH]) [[],[t0 (cz bG)],[(1,oE (vV (bI bG)))],[(10,cK Xr bH),(16,oA sR aJ ([aH]) bq)],[(2,oq (cF bG rfl h9))]] bG))))) (λv3 v5 v6 h3 f1 aW=>gA [[],[t0 (cz h3)],[(1,oE (BC (bI h3)))],[]] (aC (λcU=>ax λbz cT=>gR [[t0 cU],[(13,cK adF cT)]]) λcU=>gb aW () [[f0 cU],[(2,oq (cF h3 rfl h2))]] h3))))
def LQ(N:Nat)(v2:aV)(v3:apf (apg×Int)):apf bp->Nat->aph Int
 |[],_=>
  some (0:Int)
 |v8::v9,v6=>
  (EW N v8 v2 v3).bind λv10=>
  bif (v10 !=0)then
   some v10
  else
   (LQ N v2 v3 v9 (v6+1))
def LB(N:Nat)(v1:cJ)(v2:aV)(v3:apf (apg×Int)):aph Int:=
 bif (bL v1.cP==bL (bs []))then
  (EW N v1.bx v2 v3).bind λv4=>
  some v4
 else
  (CJ N v2 v1.cP).bind λv5=>
  bif v5.2.2 then
   bif (v5.1.bk !=3)then
    some (10:Int)
   else
    bif ((v1.cN.length:Int) !=(v5.2.1.length:Int))then
     some (11:Int)
    else
     LQ N v2 v3 v1.cN 0
  else
   some (9:Int)
def HI(v2:aV)(v3:apf (apg×Int))(v1:cJ)(l:apf aq):apf aq:= .cells (fO v2 [(.mp 1)]):: .map (fc v3):: .cells (hX v1).cells::l
theorem alQ{N v1 v2 v3}:KP 291 [(.ptr 0 0),(hX v1)] [.cells (fO v2 [(.mp 1)]), .map (fc v3)] ar (λ_=>[.cells (fO v2 [(.mp 1)]), .map (fc v3)]) (LB N v1 v2 v3):=
 fh 2 Tryz.func291 (gA [[],[]] (aC (λJ=>ax λv4 h2=>gH [[t0 J],[(10,oQ [(.ptr 0 0),(dL v1.bx)] (HI v2 v3 v1 []) [0,1] (Nl _ h2))]]) λJ=>ax λv5 h3=>gA [[f0 J],[(19,cK Sy h3)],[]] (aC (λh4=>gA [[f0 (dH h4)],[]] (aC (λh5=>gH [[t0 h5],[]]) λh5=>gA [[f0 h5],[(7,oL v1.cN jw),(13,oL v5.2.1 jw)]] (aC (λh6=>gH [[t0 h6],[]]) λh6=>gA [[f0 h6],[(7,oL v1.cN jw)]] (gT sR 44 v1.cN λh8=>ff 1 [] [0,44,45,46] 4 (λv6=>⟨57,[(0,(.ptr 0 0)),(44,(.d (.sl (fV v1.cN)))),(45,(ar (v1.cN.length:Int))),(46,(ar (v6:Int)))],(HI v2 v3 v1 [.cells (cx v5.1).cells])⟩) (λv6 h9 f1=>gH [[],[f0 (cy h9)],[]]) (λv6 v8 v9 h9 f1 aW=>ax λv10 bG=>gA [[],[t0 (cz h9)],[(1,oE (uR (bI h9)))],[(7,oQ [(.ptr 0 0),(dL v8)] (HI v2 v3 v1 [.cells (cx v5.1).cells, .cells (dL v8).cells]) [0,1] (Nl _ bG))],[]] (aC (λbH=>gH [[t0 bH],[]]) λbH=>gb aW () [[f0 bH],[(2,oq (cF h9 rfl h8))]] h9)))))) λh4=>gH [[t0 (eo h4)],[]])))
def Hk(N:Nat)(v4:aM×(apf bp)×Bool)(v2:aV)(v3:apf (apg×Int)):apf cJ->Nat->aph (aM×Int)
 |[],_=>
  some (v4.1,(0:Int))
 |v7::v8,v5=>
  (LB N v7 v2 v3).bind λv9=>
  bif (v9 !=0)then
   some (dY,v9)
  else
   (Hk N v4 v2 v3 v8 (v5+1))
def Lh(N:Nat)(v1:aw)(v2:aV)(v3:apf (apg×Int)):aph (aM×Int):=
 (CJ N v2 v1.au).bind λv4=>
 bif v4.2.2 then
  bif ((v1.xIdx.length:Int) !=(v4.2.1.length:Int))then
   some (dY,(11:Int))
  else
   Hk N v4 v2 v3 v1.xIdx 0
 else
  some (dY,(9:Int))
theorem ahe{N v1 v2 v3}:KP 265 [(.ptr 0 0),(aP v1)] [.cells (fO v2 [(.mp 1)]), .map (fc v3)] (λr=> .bg [(cx r.1),(ar r.2)]) (λ_=>[.cells (fO v2 [(.mp 1)]), .map (fc v3)]) (Lh N v1 v2 v3):=
 fh 2 Tryz.func265 (ax λv4 J=>gA [[],[(19,cK Sy J)],[]] (aC (λh2=>gA [[f0 (dH h2)],[(7,oL v1.xIdx kQ),(13,oL v4.2.1 jw)]] (aC (λh3=>gH [[t0 h3],[]]) λh3=>gA [[f0 h3],[(7,oL v1.xIdx kQ)]] (gT C1 34 v1.xIdx λh5=>ff 1 [] [0,4,6,34,35,36] 5 (λv5=>⟨49,[(0,(.ptr 0 0)),(4,(.ptr 3 0)),(6,(.ptr 4 0)),(34,(.d (.sl (eQ v1.xIdx)))),(35,(ar (v1.xIdx.length:Int))),(36,(ar (v5:Int)))],[.cells (fO v2 [(.mp 1)]), .map (fc v3), .cells (aP v1).cells, .cells x9, .cells (cx v4.1).cells]⟩) (λv5 h6 f1=>gH [[],[f0 (cy h6)],[]]) (λv5 v7 v8 h6 f1 aW=>ax λv9 h7=>gA [[],[t0 (cz h6)],[(1,oE (nu (bI h6)))],[(7,oQ [(.ptr 0 0),(hX v7)] [.cells (fO v2 [(.mp 1)]), .map (fc v3), .cells (aP v1).cells, .cells x9, .cells (cx v4.1).cells, .cells (hX v7).cells] [0,1] (alQ _ h7))],[]] (aC (λh8=>gH [[t0 h8],[]]) λh8=>gb aW () [[f0 h8],[(2,oq (cF h6 rfl h5))]] h6))))) λh2=>gH [[t0 (eo h2)],[]]))
def CR(N:Nat)(v1:aM)(v2:aM):aph Int:=
 bif ((v1.bk==v2.bk)&&((v1.cf==v2.cf)&&((v1.bQ==v2.bQ)&&((v1.cq==v2.cq)&&((v1.ct==v2.ct)&&true)))))then
  some (0:Int)
 else
  some (10:Int)
theorem RI{N v1 v2}:KO 263 [(cx v1),(cx v2)] ar (CR N v1 v2):=
 fw Tryz.func263 (gA [[],[]] (rp λJ=>gR [[t0 (eo J)],[]]))
def EN(N:Nat)(v8:apf aM)(cA:Bool):aph (aM×Int):=
 bif cA then
  Option.bind (v8[0]?) λbR=>
  Option.bind (v8[1]?) λcl=>
  (CR N bR cl).bind λv20=>
  some (dY,v20)
 else
  Option.bind (v8[0]?) λv21=>
  Option.bind (v8[1]?) λfA=>
  (CR N v21 fA).bind λdV=>
  some (v21,dV)
def DP(N:Nat)(v1:aw)(v8:apf aM)(bB:Bool):aph (aM×Int):=
 bif bB then
  some (dY,(0:Int))
 else
  bif (v1.az==13)then
   EN N v8 (v1.az==13)
  else
   bif (v1.az==14)then
    EN N v8 (v1.az==14)
   else
    EN N v8 (v1.az==15)
def I7(N:Nat)(v1:aw)(v2:aV)(v3:apf (apg×Int))(v8:apf aM)(v9:Bool):aph (aM×Int):=
 bif v9 then
  some (v1.aB,(0:Int))
 else
  bif (v1.az==2)then
   (EW N v1.bx v2 v3).bind λv10=>
   some ((⟨(3:Int),(0:Int),(0:Int),(0:Int),(0:Int)⟩:aM),v10)
  else
   bif (v1.az==3)then
    (Lh N v1 v2 v3).bind λv11=>
    some (v11.1,v11.2)
   else
    bif (v1.az==8)then
     Option.bind (v8[0]?) λv12=>
     some (v12,(0:Int))
    else
     bif (v1.az==11)then
      Option.bind (v8[1]?) λaJ=>
      Option.bind (v8[2]?) λaH=>
      (CR N aJ aH).bind λbz=>
      some (aJ,bz)
     else
      bif (v1.az==16)then
       DP N v1 v8 (v1.az==16)
      else
       bif (v1.az==17)then
        DP N v1 v8 (v1.az==17)
       else
        DP N v1 v8 (v1.az==18)
def wZ(N:Nat)(v1:aw)(v2:aV)(v3:apf (apg×Int))(abF:aw->aV->(apf (apg×Int))->aph (aM×Int)):apf aw->Nat->(apf aM)->aph (aM×Int)
 |[],_,v8=>
  bif (v1.az==1)then
   I7 N v1 v2 v3 v8 (v1.az==1)
  else
   I7 N v1 v2 v3 v8 (v1.az==12)
 |v6::v7,v4,v8=>
  (abF v6 v2 v3).bind λv24=>
  bif (v24.2 !=0)then
   some (dY,v24.2)
  else
   bif (Nat.ble ((v8.length+1)*40) 140737488355328)then
   (λcg=>wZ N v1 v2 v3 abF v7 (v4+1) cg) (v8++[v24.1])
   else none
def xY(N:Nat):Nat->aw->aV->(apf (apg×Int))->aph (aM×Int)
 |0,_,_,_=>none
 |d+1,v1,v2,v3=>
  wZ N v1 v2 v3 (xY N d) v1.bZ 0 []
def PQ(N:Nat)(v1:aw)(v2:aV)(v3:apf (apg×Int)):aph (aM×Int):=xY N N v1 v2 v3
def vE(v2:aV)(v3:apf (apg×Int))(v1:aw)(v8:apf aM)(l:apf aq):apf aq:= .cells (fO v2 [(.mp 1)]):: .map (fc v3):: .cells (aP v1).cells:: .cells x9:: .front 34 5 v8.length::l
theorem am4(N:Nat):∀d:Nat,(∀{v1:aw}{v2:aV}{v3:apf (apg×Int)},KP 219 [(.ptr 0 0),(aP v1)] [.cells (fO v2 [(.mp 1)]), .map (fc v3)] (λr=> .bg [(cx r.1),(ar r.2)]) (λ_=>[.cells (fO v2 [(.mp 1)]), .map (fc v3)]) (xY N d v1 v2 v3)):=by
 intro d
 induction d with
 |zero=>intro v1 v2 v3 r U;rw[xY]at U;cases U
 |succ d ih=>
  have alu:= @ih;intro v1 v2 v3;rw[xY];exact fh 2 Tryz.func219 (gA [[],[],[(7,oL v1.bZ qi)]] (li (λ_=>(sK 6 34 5 [] (.inr (by kernel_rfl)) ·)) (gT Fy 13 v1.bZ λh2=>gY 1 [] [0,3,4,6,13,14,15] 5 (λv4(v8:apf aM)=>⟨102,[(0,(.ptr 0 0)),(3,(.ptr 2 0)),(4,(.ptr 3 0)),(6,(.own 4 (oe v8))),(13,(.d (.sl (iQ v1.bZ)))),(14,(ar (v1.bZ.length:Int))),(15,(ar (v4:Int)))],(vE v2 v3 v1 v8 [])⟩) (λv4 v8 h3 f1=>mP 2 [[],[(0,bF (cy h3))],[],[],[]] [0,3,4,6,11,35,36] 5 (λ(v9:Bool)=>⟨102,[(0,(.ptr 0 0)),(3,(.ptr 2 0)),(4,(.ptr 3 0)),(6,(.own 4 (oe v8))),(11,(.fn 263 [])),(35,(ar v1.az)),(36,(aL v9))],(vE v2 v3 v1 v8 [])⟩) (I7 N v1 v2 v3 v8) (λf2 fe=>aC (λig=>gm fe (v1.az==1) [[(0,bT ig)]]) λig=>gm fe (v1.az==12) [[(0,bF ig)],[]]) (λv9=>aC (λh4=>gH [[(0,bT h4)],[]]) λh4=>gA [[(0,bF h4)],[]] (aC (λh5=>ax λv10 h6=>gH [[(0,bT h5)],[(13,oQ [(.ptr 0 0),(dL v1.bx)] (vE v2 v3 v1 v8 []) [0,1] (Nl _ h6))]]) λh5=>gA [[(0,bF h5)],[]] (aC (λh7=>ax λv11 h8=>gH [[(0,bT h7)],[(7,oQ [(.ptr 0 0),(aP v1)] (vE v2 v3 v1 v8 []) [0,1] (ahe _ h8))]]) λh7=>gA [[(0,bF h7)],[]] (aC (λh9=>ax λv12 bG=>gH [[(0,bT h9)],[(4,oE (k:=0) (rP bG))]]) λh9=>gA [[(0,bF h9)],[]] (aC (λbH=>ax λaJ bq=>ax λaH cU=>ax λbz cT=>gH [[(0,bT bH)],[(4,oE (k:=1) (rP bq)),(16,oE (k:=1) (rP bq)),(25,oE (k:=2) (rP cU)),(31,cK RI cT)]]) λbH=>mP 3 [[(0,bF bH)],[]] [4,6,11,35,73] 5 (λ(bB:Bool)=>⟨102,[(4,(.ptr 3 0)),(6,(.own 4 (oe v8))),(11,(.fn 263 [])),(35,(ar v1.az)),(73,(aL bB))],(vE v2 v3 v1 v8 [])⟩) (DP N v1 v8) (λf3 lO=>aC (λnM=>gm lO (v1.az==16) [[(0,bT nM)]]) λnM=>gA [[(0,bF nM)],[]] (aC (λod=>gm lO (v1.az==17) [[(0,bT od)]]) λod=>gm lO (v1.az==18) [[(0,bF od)],[]])) (λbB=>aC (λcQ=>gH [[(0,bT cQ)],[]]) λcQ=>mP 4 [[(0,bF cQ)],[]] [4,6,11,78] 5 (λ(cA:Bool)=>⟨102,[(4,(.ptr 3 0)),(6,(.own 4 (oe v8))),(11,(.fn 263 [])),(78,(aL cA))],(vE v2 v3 v1 v8 [])⟩) (EN N v8) (λf4 lE=>aC (λgN=>gm lE (v1.az==13) [[(0,bT gN)]]) λgN=>gA [[(0,bF gN)],[]] (aC (λgV=>gm lE (v1.az==14) [[(0,bT gV)]]) λgV=>gm lE (v1.az==15) [[(0,bF gV)],[]])) (λcA=>aC (λcM=>ax λbR eE=>ax λcl fJ=>ax λv20 gn=>gH [[(0,bT cM)],[(10,oE (k:=0) (rP eE)),(19,oE (k:=1) (rP fJ)),(25,cK RI gn)]]) λcM=>ax λv21 gz=>ax λfA jU=>ax λdV lV=>gH [[(0,bF cM)],[(4,oE (k:=0) (rP gz)),(16,oE (k:=0) (rP gz)),(25,oE (k:=1) (rP jU)),(31,cK RI lV)]])))))))) (λv4 v6 v7 v8 h3 f1 aW=>ax λv24 mC=>gA [[],[(0,bT (cz h3))],[(1,oE (mY (bI h3)))],[(7,oQ [(.ptr 0 0),(aP v6)] (vE v2 v3 v1 v8 [.cells (aP v6).cells]) [0,1] (alu _ mC))],[]] (aC (λrh=>gH [[(0,bT rh)],[]]) λrh=>dD λnL=>gb aW (v8++[v24.1]) [[(0,bF rh)],[(10,oA aic v8 ([v24.1]) nL)],[(2,oq (cF h3 rfl h2))]] h3)))))
theorem al6{N v1 v2 v3}:KP 219 [(.ptr 0 0),(aP v1)] [.cells (fO v2 [(.mp 1)]), .map (fc v3)] (λr=> .bg [(cx r.1),(ar r.2)]) (λ_=>[.cells (fO v2 [(.mp 1)]), .map (fc v3)]) (PQ N v1 v2 v3):=(am4 N N)
def yf(N:Nat)(v3:aw)(v1:aV):apf apg->Nat->(apf (apg×Int))->aph (aM×Int)
 |[],_,bz=>
  (PQ N v3 v1 bz).bind λbB=>
  bif (bB.2 !=0)then
   some (dY,bB.2)
  else
   some (bB.1,(0:Int))
 |aJ::aH,v11,bz=>
  bif (Nat.blt bz.length 9223372036854775807)then
  (λgP=>yf N v3 v1 aH (v11+1) gP) ((aJ,(3:Int))::bz)
  else none
def K5(N:Nat)(v3:aw)(v1:aV)(v2:apf apg):apf apg->Nat->(apf (apg×Int))->aph (aM×Int)
 |[],_,v10=>
  yf N v3 v1 v2 0 v10
 |v8::v9,v6,v10=>
  bif (Nat.blt v10.length 9223372036854775807)then
  (λcg=>K5 N v3 v1 v2 v9 (v6+1) cg) ((v8,(1:Int))::v10)
  else none
def G5(N:Nat)(v1:aV)(v2:apf apg)(v3:aw):aph (aM×Int):=
 (zn N v3).bind λv4=>
 bif (v4 !=0)then
  some (dY,v4)
 else
  (Bg N v3).bind λv5=>
  bif v5 then
   some (dY,(10:Int))
  else
   K5 N v3 v1 v2 v1.bm 0 []
def Sb(v1:aV)(v3:aw)(v10:apf (apg×Int))(l:apf aq):apf aq:= .cells (dU v1).cells:: .cells (aP v3).cells:: .cells x9:: .map (fc v10):: .cells (fO v1 [(.mp 3)])::l
theorem adH{N v1 v2 v3}:KO 146 [(dU v1),(.d (.sl (dS v2))),(aP v3)] (λr=> .bg [(cx r.1),(ar r.2)]) (G5 N v1 v2 v3):=
 fw Tryz.func146 (ax λv4 J=>gA [[],[(4,cL (TC J))],[]] (bP λh2=>ax λv5 h3=>gA [[f0 h2],[(4,cK Ps h3)]] (bP λh4=>gA [[f0 h4],[],[(7,oL v1.bm jX)]] (gT sk 30 v1.bm λh6=>gY 1 [] [1,5,6,9,30,31,32] 5 (λv6(v10:apf (apg×Int))=>⟨65,[(1,(.d (.sl (dS v2)))),(5,(.ptr 1 0)),(6,(.ptr 2 0)),(9,(.ptr 4 0)),(30,(.d (.sl (dS v1.bm)))),(31,(ar (v1.bm.length:Int))),(32,(ar (v6:Int)))],(Sb v1 v3 v10 [])⟩) (λv6 v10 h7 f1=>gA [[],[f0 (cy h7)],[(4,oL v2 jX)]] (gT sk 1 v2 λh9=>gY 2 [] [5,6,9,42,43,44] 5 (λv11(bz:apf (apg×Int))=>⟨65,[(5,(.ptr 1 0)),(6,(.ptr 2 0)),(9,(.ptr 4 0)),(42,(.d (.sl (dS v2)))),(43,(ar (v2.length:Int))),(44,(ar (v11:Int)))],(Sb v1 v3 bz [])⟩) (λv11 bz bG f2=>ax λbB bH=>gA [[],[f0 (cy bG)],[(7,oQ [(.ptr 4 0),(aP v3)] (Sb v1 v3 bz []) [4,3] (al6 _ bH))],[]] (bP λbq=>gR [[f0 bq],[]])) (λv11 aJ aH bz bG f2 fe=>dD λcU=>gb fe ((aJ,(3:Int))::bz) [[],[t0 (cz bG)],[(1,oE (tg (bI bG)))],[(16,⟨_,_, .sd (o:= .none) (MH cU)⟩)],[(2,oq (cF bG rfl h9))]] bG))) (λv6 v8 v9 v10 h7 f1 aW=>dD λcT=>gb aW ((v8,(1:Int))::v10) [[],[t0 (cz h7)],[(1,oE (tg (bI h7)))],[(16,⟨_,_, .sd (o:= .none) (MH cT)⟩)],[(2,oq (cF h7 rfl h6))]] h7)))))
def Ih(N:Nat)(v1:Int)(v2:aV)(v3:apf (apg×Int)):aph (Int×(apf (apg×Int))):=
 bif (decide ((0:Int)<=v1))then
 Option.bind (v2.aO[(v1).toNat]?) λv4=>
 Option.bind (g_program_checker_name N v4.au (2:Int) v2 v3) λv5=>
 bif (v5.1 !=0)then
  some (v5.1,v5.2)
 else
  Option.bind (xX N v4.aB ([(v4.aU.length:Int),(v4.bY.length:Int)])) λv6=>
  bif (v6 !=0)then
   some (v6,v5.2)
  else
   (J4 N v4 v2 v5.2).bind λv7=>
   bif (v7 !=0)then
    some (v7,v5.2)
   else
    (Mg N v4).bind λv8=>
    bif (v8 !=0)then
     some (v8,v5.2)
    else
     bif (decide ((v1).toNat<=v2.aO.length))then
     (Hp N v4).bind λv9=>
     Option.bind (G5 N (⟨v2.bm,v2.dF,v2.aY,((v2.aO.take (v1).toNat).drop 0),v2.di⟩:aV) v9 v4.bV) λv10=>
     bif (v10.2 !=0)then
      some (v10.2,v5.2)
     else
      bif ((v10.1.bk==v4.aB.bk)&&((v10.1.cf==v4.aB.cf)&&((v10.1.bQ==v4.aB.bQ)&&((v10.1.cq==v4.aB.cq)&&((v10.1.ct==v4.aB.ct)&&true)))))then
       some ((0:Int),v5.2)
      else
       some ((10:Int),v5.2)
     else none
 else none
theorem ae3{N v1 v2 v3}:KP 91 [(.ptr 0 0),(ar v1)] [.cells (fO v2 [(.mp 1)]), .map (fc v3)] (λr=>ar r.1) (λr=>[.cells (fO v2 [(.mp 1)]), .map (fc r.2)]) (Ih N v1 v2 v3):=
 fh 2 Tryz.func91 (dD λh2=>ax λv4 J=>ax λv5 h3=>gA [[],[(19,⟨_,_, .el (xs:=iH v2.aO) (i:=v1) (of_decide_eq_true h2) (sQ J)⟩)],[(10,oR [(.ptr 0 0),(dq v4.au),(ar (2:Int))] [.cells (fO v2 [(.mp 1)]), .map (fc v3), .cells (fF v4).cells] [0,1] (Nz _ h3))],[]] (aC (λh4=>gH [[t0 h4],[]]) λh4=>ax λv6 h5=>gA [[f0 h4],[(13,oL v4.aU kf),(22,oL v4.bY kf),(28,cK WK h5)],[]] (aC (λh6=>gH [[t0 h6],[]]) λh6=>ax λv7 h7=>gA [[f0 h6],[(7,oQ [(.ptr 0 0),(fF v4)] [.cells (fO v2 [(.mp 1)]), .map (fc v5.2), .cells (fF v4).cells] [0,1] (agR _ h7))],[]] (aC (λh8=>gH [[t0 h8],[]]) λh8=>ax λv8 h9=>gA [[f0 h8],[(4,cK anx h9)],[]] (aC (λbG=>gH [[t0 bG],[]]) λbG=>dD λbH=>ax λv9 bq=>ax λv10 cU=>gA [[f0 bG],[],[(19,⟨_,_, .sub (xs:=iH v2.aO) (lo:=0) (hi:=v1) (by decide) (Nat.zero_le _) (of_decide_eq_true h2) (by rw[nw];exact(of_decide_eq_true bH)) VR aiV⟩)],[(7,cK aeO bq),(16,cK adH cU)],[]] (aC (λcT=>gH [[t0 cT],[]]) λcT=>gA [[f0 cT],[]] (aC (λcQ=>gH [[f0 (dH cQ)],[]]) λcQ=>gH [[t0 (eo cQ)],[]])))))))
def Cp(N:Nat)(dV:apf (apg×Int))(v1:aV):apf apg->Nat->Int->aph (Int×Int)
 |[],_,_=>
  some ((0:Int),(0:Int))
 |ft::jQ,v24,v28=>
  bif ((gg dV ft 0) !=2)then
   some (v28,(9:Int))
  else
   bif (decide (((v24:Int)).toNat<=v1.di.length))then
   Option.bind (Ab N ((v1.di.take ((v24:Int)).toNat).drop 0) ft) λoJ=>
   bif oJ then
    some (v28,(8:Int))
   else
    (λalk=>Cp N dV v1 jQ (v24+1) alk) (aQ (v28+(1:Int)))
   else none
def Aw(N:Nat)(v1:aV):apf bD->Nat->Int->(apf (apg×Int))->aph (Int×Int)
 |[],_,fA,dV=>
  Cp N dV v1 v1.di 0 fA
 |_::v21,bR,fA,dV=>
  Option.bind (Ih N (bR:Int) v1 dV) λv30=>
  bif (v30.1 !=0)then
   some (fA,v30.1)
  else
   (λth ag8=>Aw N v1 v21 (bR+1) th ag8) (aQ (fA+(1:Int))) v30.2
def A7(N:Nat)(v1:aV):apf dX->Nat->Int->(apf (apg×Int))->aph (Int×Int)
 |[],_,bB,cA=>
  Aw N v1 v1.aO 0 bB cA
 |aH::bz,v12,bB,cA=>
  (GB N aH v1 cA).bind λv31=>
  bif (v31.1 !=0)then
   some (bB,v31.1)
  else
   (λpC ye=>A7 N v1 bz (v12+1) pC ye) (aQ (bB+(1:Int))) v31.2
def CV(N:Nat)(v1:aV)(v7:apf (apg×Int)):apf gF->Nat->aph (Int×Int)
 |[],_=>
  A7 N v1 v1.aY 0 (2:Int) v7
 |v10::v11,v8=>
  (LL N v10 v1 v7).bind λF7=>
  bif (F7 !=0)then
   some ((1:Int),F7)
  else
   (CV N v1 v7 v11 (v8+1))
def Ix(N:Nat)(v1:aV):apf apg->Nat->(apf (apg×Int))->aph (Int×Int)
 |[],_,v7=>
  CV N v1 v7 v1.dF 0
 |v5::v6,v3,v7=>
  Option.bind (g_program_checker_name N v5 (1:Int) v1 v7) λmX=>
  bif (mX.1 !=0)then
   some ((0:Int),mX.1)
  else
   (λcg=>Ix N v1 v6 (v3+1) cg) mX.2
def I9(N:Nat)(v1:aV):aph (Int×Int):=
 (Js N v1).bind λv2=>
 bif v2 then
  Ix N v1 v1.bm 0 []
 else
  some ((0:Int),(2:Int))
def sD(v1:aV)(v7:apf (apg×Int))(l:apf aq):apf aq:= .cells (dU v1).cells:: .map (fc v7):: .cells (fO v1 [(.mp 1)])::l
theorem akc{N v1}:KO 53 [(dU v1)] (λr=> .bg [(ar r.1),(ar r.2)]) (I9 N v1):=
 fw Tryz.func53 (ax λv2 J=>gA [[],[(4,cK ahX J)]] (lS λh2=>gA [[f0 (dH h2)],[],[(7,oL v1.bm jX)]] (gT sk 27 v1.bm λh4=>gY 1 [] [1,4,27,28,29] 3 (λv3(v7:apf (apg×Int))=>⟨115,[(1,(.ptr 0 0)),(4,(.ptr 2 0)),(27,(.d (.sl (dS v1.bm)))),(28,(ar (v1.bm.length:Int))),(29,(ar (v3:Int)))],(sD v1 v7 [])⟩) (λv3 v7 h5 f1=>gA [[],[f0 (cy h5)],[(7,oL v1.dF x7)]] (gT R4 41 v1.dF λh7=>ff 2 [] [1,4,41,42,43] 3 (λv8=>⟨115,[(1,(.ptr 0 0)),(4,(.ptr 2 0)),(41,(.d (.sl (m7 v1.dF)))),(42,(ar (v1.dF.length:Int))),(43,(ar (v8:Int)))],(sD v1 v7 [])⟩) (λv8 h8 f2=>gA [[],[f0 (cy h8)],[],[(7,oL v1.aY pn)]] (gT Lu 55 v1.aY λbG=>M7 3 [] [1,4,11,55,56,57] 3 (λv12(bB:Int)(cA:apf (apg×Int))=>⟨115,[(1,(.ptr 0 0)),(4,(.ptr 2 0)),(11,(ar bB)),(55,(.d (.sl (ko v1.aY)))),(56,(ar (v1.aY.length:Int))),(57,(ar (v12:Int)))],(sD v1 cA [])⟩) (λv12 bB cA bH f3=>gA [[],[f0 (cy bH)],[(7,oL v1.aO nw)]] (gB Fs 0 3 v1.aO λcU=>M7 4 [] [1,4,11,73,74] 3 (λbR(fA:Int)(dV:apf (apg×Int))=>⟨115,[(1,(.ptr 0 0)),(4,(.ptr 2 0)),(11,(ar fA)),(73,(ar (v1.aO.length:Int))),(74,(ar (bR:Int)))],(sD v1 dV [])⟩) (λbR fA dV cT f4=>gA [[],[f0 (cy cT)],[(7,oL v1.di jX)]] (gT sk 88 v1.di λcM=>gY 5 [] [1,4,11,88,89,90] 3 (λv24(v28:Int)=>⟨115,[(1,(.ptr 0 0)),(4,(.ptr 2 0)),(11,(ar v28)),(88,(.d (.sl (dS v1.di)))),(89,(ar (v1.di.length:Int))),(90,(ar (v24:Int)))],(sD v1 dV [])⟩) (λv24 v28 eE f5=>gR [[],[f0 (cy eE)],[]]) (λv24 ft jQ v28 eE f5 hf5=>gA [[],[t0 (cz eE)],[(4,oE (tg (bI eE)))],[(17,⟨_,_, .eq (E2 false dV ft)⟩)]] (bP λfJ=>dD λgn=>ax λoJ gz=>gA [[f0 fJ],[(10,⟨_,_, .sub (xs:=dS v1.di) (lo:=0) (hi:=(v24:Int)) (by decide) (Nat.zero_le _) (of_decide_eq_true (ao8 (Int.natCast_nonneg _))) (by rw[jX];exact(of_decide_eq_true gn)) IF alv⟩),(16,cK XK gz)]] (bP λjU=>gb hf5 (aQ (v28+(1:Int))) [[f0 jU],[],[(2,oq (cF eE rfl cM))]] eE))))) (λbR v20 v21 fA dV cT f4 lE=>ax λv30 lV=>gA [[],[t0 (cz cT)],[],[(7,oR [(.ptr 2 0),(ar (bR:Int))] (sD v1 dV []) [2,1] (ae3 _ lV))],[]] (bP λgN=>gb lE ((aQ (fA+(1:Int))),v30.2) [[f0 gN],[],[(2,oq (cF cT rfl cU))]] cT)))) (λv12 aH bz bB cA bH f3 lO=>ax λv31 gV=>gA [[],[t0 (cz bH)],[(1,oE (BC (bI bH)))],[(7,oR [(.ptr 2 0),(pA aH)] (sD v1 cA [.cells (pA aH).cells]) [2,1] (afv _ gV))],[]] (bP λnM=>gb lO ((aQ (bB+(1:Int))),v31.2) [[f0 nM],[],[(2,oq (cF bH rfl bG))]] bH)))) (λv8 v10 v11 h8 f2 fe=>ax λF7 od=>gA [[],[t0 (cz h8)],[(1,oE (NL (bI h8)))],[(7,oQ [(.ptr 2 0),(vX v10)] (sD v1 v7 [.cells (vX v10).cells]) [2,1] (ais _ od))],[]] (bP λig=>gb fe () [[f0 ig],[(2,oq (cF h8 rfl h7))]] h8)))) (λv3 v5 v6 v7 h5 f1 aW=>ax λmX mC=>gA [[],[t0 (cz h5)],[(1,oE (tg (bI h5)))],[(7,oR [(.ptr 2 0),(dq v5),(ar (1:Int))] (sD v1 v7 []) [2,1] (Nz _ mC))],[]] (bP λrh=>gb aW mX.2 [[f0 rh],[(2,oq (cF h5 rfl h4))]] h5)))))
def Rc(N:Nat)(v1:aI)(v2:apg):aph Bool:=
 some (bL v1.au==bL v2)
theorem acb{N v1 v2}:KP 94 [(Ir v1),(.ptr 0 0)] [.cells [(dq v2)]] aL (λ_=>[.cells [(dq v2)]]) (Rc N v1 v2):=
 fh 1 Tryz.func94 (gH [[],[]])
def Fk(N:Nat)(v2:apg):apf aI->Nat->aph Int
 |[],_=>
  some (-1:Int)
 |v5::v6,v3=>
  (Rc N v5 v2).bind λv7=>
  bif v7 then
   some (v3:Int)
  else
   (Fk N v2 v6 (v3+1))
def RZ(N:Nat)(v1:apf aI)(v2:apg):aph Int:=
 Fk N v2 v1 0
theorem afj{N v1 v2}:KP 93 [(.d (.sl (aS v1))),(.fn 94 [(.ptr 0 0)])] [.cells [(dq v2)]] ar (λ_=>[.cells [(dq v2)]]) (RZ N v1 v2):=
 fh 1 Tryz.func93 (gA [[],[(4,oL v1 pL)]] (gT yk 0 v1 λh2=>ff 1 [] [0,1,7,8] 1 (λv3=>⟨19,[(0,(.d (.sl (aS v1)))),(1,(.fn 94 [(.ptr 0 0)])),(7,(ar (v1.length:Int))),(8,(ar (v3:Int)))],[.cells [(dq v2)]]⟩) (λv3 h3 f1=>gH [[],[f0 (cy h3)],[]]) (λv3 v5 v6 h3 f1 aW=>ax λv7 h4=>gA [[],[t0 (cz h3)],[],[(10,oE (qB (bI h3))),(16,oQ [(Ir v5),(.ptr 0 0)] [.cells [(dq v2)]] [0] (acb _ h4))]] (aC (λh5=>gH [[t0 h5],[]]) λh5=>gb aW () [[f0 h5],[(2,oq (cF h3 rfl h2))]] h3))))
def BS(N:Nat)(v1:Int64):aph Int:=
 bif (decide (v1.toInt<0))then
  some (IntKind.u64.wrap (0-(IntKind.u64.wrap v1.toInt)))
 else
  some (IntKind.u64.wrap v1.toInt)
theorem QH{N v1}:KO 153 [(bC v1)] (λr=> .d (.v (.int .u64 r))) (BS N v1):=
 fw Tryz.func153 (gA [[],[]] (bP λJ=>gR [[f0 J],[]]))
def C6(N:Nat)(v4:jG)(v7:Int)(v5:Int)(v8:Int)(v6:Int)(v10:Int):aph (Int×Int×Int):=
 some ((IntKind.u64.wrap (v4.nK+(IntKind.u64.wrap (v7+v10)))),(IntKind.u64.wrap ((IntKind.u64.wrap (v4.ld+v5))+v8)),(IntKind.u64.wrap (v4.kg+v6)))
def xw(N:Nat)(v4:jG)(v5:Int)(v8:Int)(v7:Int)(v6:Int)(v9:Int):aph (Int×Int×Int):=
 bif (decide ((IntKind.u64.wrap ((IntKind.u64.wrap (v4.ld+v5))+v8))<(IntKind.u64.wrap (v4.ld+v5))))then
  C6 N v4 v7 v5 v8 v6 (IntKind.u64.wrap (v9+(1:Int)))
 else
  C6 N v4 v7 v5 v8 v6 v9
def yo(N:Nat)(v4:jG)(v5:Int)(v7:Int)(v6:Int)(v8:Int):aph (Int×Int×Int):=
 bif (decide ((IntKind.u64.wrap (v4.ld+v5))<v5))then
  xw N v4 v5 v8 v7 v6 (1:Int)
 else
  xw N v4 v5 v8 v7 v6 (0:Int)
def sV(N:Nat)(v4:jG)(v5:Int)(v6:Int)(v7:Int):aph (Int×Int×Int):=
 bif (decide ((IntKind.u64.wrap (v4.kg+v6))<v6))then
  yo N v4 v5 v7 v6 (1:Int)
 else
  yo N v4 v5 v7 v6 (0:Int)
def A6(N:Nat)(v1:Int)(v2:Int)(v3:Bool)(v4:jG):aph (Int×Int×Int):=
 bif v3 then
  bif ((IntKind.u64.wrap ((IntKind.u64.wrap ((BitVec.ofInt (IntKind.bits .u64) (IntKind.max .u64)^^^BitVec.ofInt (IntKind.bits .u64) v2).toNat:Int))+(1:Int)))==0)then
   bif ((IntKind.u64.wrap ((IntKind.u64.wrap ((BitVec.ofInt (IntKind.bits .u64) (IntKind.max .u64)^^^BitVec.ofInt (IntKind.bits .u64) v1).toNat:Int))+(1:Int)))==0)then
    sV N v4 (IntKind.u64.wrap ((IntKind.u64.wrap ((BitVec.ofInt (IntKind.bits .u64) (IntKind.max .u64)^^^BitVec.ofInt (IntKind.bits .u64) v1).toNat:Int))+(1:Int))) (IntKind.u64.wrap ((IntKind.u64.wrap ((BitVec.ofInt (IntKind.bits .u64) (IntKind.max .u64)^^^BitVec.ofInt (IntKind.bits .u64) v2).toNat:Int))+(1:Int))) (IntKind.u64.wrap ((IntKind.u64.wrap ((BitVec.ofInt (IntKind.bits .u64) (IntKind.max .u64)^^^BitVec.ofInt (IntKind.bits .u64) (0:Int)).toNat:Int))+(1:Int)))
   else
    sV N v4 (IntKind.u64.wrap ((IntKind.u64.wrap ((BitVec.ofInt (IntKind.bits .u64) (IntKind.max .u64)^^^BitVec.ofInt (IntKind.bits .u64) v1).toNat:Int))+(1:Int))) (IntKind.u64.wrap ((IntKind.u64.wrap ((BitVec.ofInt (IntKind.bits .u64) (IntKind.max .u64)^^^BitVec.ofInt (IntKind.bits .u64) v2).toNat:Int))+(1:Int))) (IntKind.u64.wrap ((BitVec.ofInt (IntKind.bits .u64) (IntKind.max .u64)^^^BitVec.ofInt (IntKind.bits .u64) (0:Int)).toNat:Int))
  else
   sV N v4 (IntKind.u64.wrap ((BitVec.ofInt (IntKind.bits .u64) (IntKind.max .u64)^^^BitVec.ofInt (IntKind.bits .u64) v1).toNat:Int)) (IntKind.u64.wrap ((IntKind.u64.wrap ((BitVec.ofInt (IntKind.bits .u64) (IntKind.max .u64)^^^BitVec.ofInt (IntKind.bits .u64) v2).toNat:Int))+(1:Int))) (IntKind.u64.wrap ((BitVec.ofInt (IntKind.bits .u64) (IntKind.max .u64)^^^BitVec.ofInt (IntKind.bits .u64) (0:Int)).toNat:Int))
 else
  sV N v4 v1 v2 (0:Int)
def Zr(v4:jG)(v6:Int)(l:apf aq):apf aq:= .cells [(.d (.v (.int .u64 v4.nK))),(.d (.v (.int .u64 v4.ld))),(.d (.v (.int .u64 (IntKind.u64.wrap (v4.kg+v6)))))]::l
theorem XV{N v1 v2 v3 v4 r}(U:A6 N v1 v2 v3 v4=some r):KH 152 [(.ptr 0 0),(.d (.v (.int .u64 v1))),(.d (.v (.int .u64 v2))),(aL v3)] ([.cells (B4 v4).cells]) (.bg []) ([.cells [(.d (.v (.int .u64 r.1))),(.d (.v (.int .u64 r.2.1))),(.d (.v (.int .u64 r.2.2)))]]):=by
 rw[A6]at U;refine Cn 1 Tryz.func152 ?_;refine Q5 ck 1 [[],[]] [0,1,2,8] 1 (λ((v5,v6,v7):Int×Int×Int)=>⟨76,[(0,(.ptr 0 0)),(1,(.d (.v (.int .u64 v5)))),(2,(.d (.v (.int .u64 v6)))),(8,(.d (.v (.int .u64 v7))))],[.cells (B4 v4).cells]⟩) (λ((v5,v6,v7):Int×Int×Int)=>sV N v4 v5 v6 v7=some r) ?_ ?_
 ·intro f1 aW;apply bc U<;>intro h4 U
  ·refine je ck [[(0,bT h4)],[],[],[]] ?_;apply bc U<;>intro h5 U
   ·refine je ck [[(0,bT h5)],[],[]] ?_;apply bc U<;>intro h6 U
    ·exact mm ck aW ((IntKind.u64.wrap ((IntKind.u64.wrap ((BitVec.ofInt (IntKind.bits .u64) (IntKind.max .u64)^^^BitVec.ofInt (IntKind.bits .u64) v1).toNat:Int))+(1:Int))),(IntKind.u64.wrap ((IntKind.u64.wrap ((BitVec.ofInt (IntKind.bits .u64) (IntKind.max .u64)^^^BitVec.ofInt (IntKind.bits .u64) v2).toNat:Int))+(1:Int))),(IntKind.u64.wrap ((IntKind.u64.wrap ((BitVec.ofInt (IntKind.bits .u64) (IntKind.max .u64)^^^BitVec.ofInt (IntKind.bits .u64) (0:Int)).toNat:Int))+(1:Int)))) [[(0,bT h6)],[]] U
    exact mm ck aW ((IntKind.u64.wrap ((IntKind.u64.wrap ((BitVec.ofInt (IntKind.bits .u64) (IntKind.max .u64)^^^BitVec.ofInt (IntKind.bits .u64) v1).toNat:Int))+(1:Int))),(IntKind.u64.wrap ((IntKind.u64.wrap ((BitVec.ofInt (IntKind.bits .u64) (IntKind.max .u64)^^^BitVec.ofInt (IntKind.bits .u64) v2).toNat:Int))+(1:Int))),(IntKind.u64.wrap ((BitVec.ofInt (IntKind.bits .u64) (IntKind.max .u64)^^^BitVec.ofInt (IntKind.bits .u64) (0:Int)).toNat:Int))) [[(0,bF h6)]] U
   exact mm ck aW ((IntKind.u64.wrap ((BitVec.ofInt (IntKind.bits .u64) (IntKind.max .u64)^^^BitVec.ofInt (IntKind.bits .u64) v1).toNat:Int)),(IntKind.u64.wrap ((IntKind.u64.wrap ((BitVec.ofInt (IntKind.bits .u64) (IntKind.max .u64)^^^BitVec.ofInt (IntKind.bits .u64) v2).toNat:Int))+(1:Int))),(IntKind.u64.wrap ((BitVec.ofInt (IntKind.bits .u64) (IntKind.max .u64)^^^BitVec.ofInt (IntKind.bits .u64) (0:Int)).toNat:Int))) [[(0,bF h5)]] U
  exact mm ck aW (v1,v2,(0:Int)) [[(0,bF h4)]] U
 rintro⟨v5,v6,v7⟩ U
 try dsimp only at U
 rw[sV]at U;refine FN ck r 2 [[],[],[]] [0,1,8,9] 1 (λ(v8:Int)=>⟨76,[(0,(.ptr 0 0)),(1,(.d (.v (.int .u64 v5)))),(8,(.d (.v (.int .u64 v7)))),(9,(.d (.v (.int .u64 v8))))],(Zr v4 v6 [])⟩) (yo N v4 v5 v7 v6) ?_ ?_
 ·intro f2 fe;apply bc U<;>intro h3 U
  ·exact mm ck fe (1:Int) [[(0,bT h3)],[]] U
  exact mm ck fe (0:Int) [[(0,bF h3)]] U
 intro v8 U;rw[yo]at U;refine FN ck r 3 [[],[],[]] [0,8,9,10,11] 1 (λ(v9:Int)=>⟨76,[(0,(.ptr 0 0)),(8,(.d (.v (.int .u64 v7)))),(9,(.d (.v (.int .u64 v8)))),(10,(.d (.v (.int .u64 (IntKind.u64.wrap (v4.ld+v5)))))),(11,(.d (.v (.int .u64 v9))))],(Zr v4 v6 [])⟩) (xw N v4 v5 v8 v7 v6) ?_ ?_
 ·intro f3 lO;apply bc U<;>intro h2 U
  ·exact mm ck lO (1:Int) [[(0,bT h2)],[]] U
  exact mm ck lO (0:Int) [[(0,bF h2)]] U
 intro v9 U;rw[xw]at U;refine FN ck r 4 [[],[]] [0,8,11] 1 (λ(v10:Int)=>⟨76,[(0,(.ptr 0 0)),(8,(.d (.v (.int .u64 v7)))),(11,(.d (.v (.int .u64 v10))))],[.cells [(.d (.v (.int .u64 v4.nK))),(.d (.v (.int .u64 (IntKind.u64.wrap ((IntKind.u64.wrap (v4.ld+v5))+v8))))),(.d (.v (.int .u64 (IntKind.u64.wrap (v4.kg+v6)))))]]⟩) (C6 N v4 v7 v5 v8 v6) ?_ ?_
 ·intro f4 lE;apply bc U<;>intro J U
  ·exact mm ck lE (IntKind.u64.wrap (v9+(1:Int))) [[(0,bT J)],[]] U
  exact mm ck lE v9 [[(0,bF J)]] U
 intro v10 U;rw[C6]at U;cases U;exact nh ck [[]]
def Rx(N:Nat)(v1:aI)(v2:dw):aph Bool:=
 some (bL v1.au==bL v2.au)
theorem ait{N v1 v2}:KP 154 [(Ir v1),(.ptr 0 0)] [.cells (tt v2).cells] aL (λ_=>[.cells (tt v2).cells]) (Rx N v1 v2):=
 fh 1 Tryz.func154 (gH [[],[]])
def zY(N:Nat)(v2:dw):apf aI->Nat->aph Int
 |[],_=>
  some (-1:Int)
 |v5::v6,v3=>
  (Rx N v5 v2).bind λv7=>
  bif v7 then
   some (v3:Int)
  else
   (zY N v2 v6 (v3+1))
def Qc(N:Nat)(v1:apf aI)(v2:dw):aph Int:=
 zY N v2 v1 0
theorem afR{N v1 v2}:KP 93 [(.d (.sl (aS v1))),(.fn 154 [(.ptr 0 0)])] [.cells (tt v2).cells] ar (λ_=>[.cells (tt v2).cells]) (Qc N v1 v2):=
 fh 1 Tryz.func93 (gA [[],[(4,oL v1 pL)]] (gT yk 0 v1 λh2=>ff 1 [] [0,1,7,8] 1 (λv3=>⟨19,[(0,(.d (.sl (aS v1)))),(1,(.fn 154 [(.ptr 0 0)])),(7,(ar (v1.length:Int))),(8,(ar (v3:Int)))],[.cells (tt v2).cells]⟩) (λv3 h3 f1=>gH [[],[f0 (cy h3)],[]]) (λv3 v5 v6 h3 f1 aW=>ax λv7 h4=>gA [[],[t0 (cz h3)],[],[(10,oE (qB (bI h3))),(16,oQ [(Ir v5),(.ptr 0 0)] [.cells (tt v2).cells] [0] (ait _ h4))]] (aC (λh5=>gH [[t0 h5],[]]) λh5=>gb aW () [[f0 h5],[(2,oq (cF h3 rfl h2))]] h3))))
def LJ(N:Nat)(v1:Int)(v2:Int):aph (Int×Int):=
 some ((IntKind.u64.wrap ((IntKind.u64.wrap ((IntKind.u64.wrap (((v1).fdiv (2^(min ((32:Int)).toNat (IntKind.bits .u64))))*((v2).fdiv (2^(min ((32:Int)).toNat (IntKind.bits .u64))))))+(((IntKind.u64.wrap ((IntKind.u64.wrap (((v1).fdiv (2^(min ((32:Int)).toNat (IntKind.bits .u64))))*(IntKind.u64.wrap ((BitVec.ofInt (IntKind.bits .u64) v2&&&BitVec.ofInt (IntKind.bits .u64) (4294967295:Int)).toNat:Int))))+(((IntKind.u64.wrap ((IntKind.u64.wrap ((BitVec.ofInt (IntKind.bits .u64) v1&&&BitVec.ofInt (IntKind.bits .u64) (4294967295:Int)).toNat:Int))*(IntKind.u64.wrap ((BitVec.ofInt (IntKind.bits .u64) v2&&&BitVec.ofInt (IntKind.bits .u64) (4294967295:Int)).toNat:Int))))).fdiv (2^(min ((32:Int)).toNat (IntKind.bits .u64))))))).fdiv (2^(min ((32:Int)).toNat (IntKind.bits .u64))))))+(((IntKind.u64.wrap ((IntKind.u64.wrap ((IntKind.u64.wrap ((BitVec.ofInt (IntKind.bits .u64) v1&&&BitVec.ofInt (IntKind.bits .u64) (4294967295:Int)).toNat:Int))*((v2).fdiv (2^(min ((32:Int)).toNat (IntKind.bits .u64))))))+(IntKind.u64.wrap ((BitVec.ofInt (IntKind.bits .u64) (IntKind.u64.wrap ((IntKind.u64.wrap (((v1).fdiv (2^(min ((32:Int)).toNat (IntKind.bits .u64))))*(IntKind.u64.wrap ((BitVec.ofInt (IntKind.bits .u64) v2&&&BitVec.ofInt (IntKind.bits .u64) (4294967295:Int)).toNat:Int))))+(((IntKind.u64.wrap ((IntKind.u64.wrap ((BitVec.ofInt (IntKind.bits .u64) v1&&&BitVec.ofInt (IntKind.bits .u64) (4294967295:Int)).toNat:Int))*(IntKind.u64.wrap ((BitVec.ofInt (IntKind.bits .u64) v2&&&BitVec.ofInt (IntKind.bits .u64) (4294967295:Int)).toNat:Int))))).fdiv (2^(min ((32:Int)).toNat (IntKind.bits .u64))))))&&&BitVec.ofInt (IntKind.bits .u64) (4294967295:Int)).toNat:Int))))).fdiv (2^(min ((32:Int)).toNat (IntKind.bits .u64)))))),(IntKind.u64.wrap (v1*v2)))
theorem aeP{N v1 v2}:KO 155 [(.d (.v (.int .u64 v1))),(.d (.v (.int .u64 v2)))] (λr=> .bg [(.d (.v (.int .u64 r.1))),(.d (.v (.int .u64 r.2)))]) (LJ N v1 v2):=
 fw Tryz.func155 (gR [[],[],[(4,⟨_,_, .nn (b:=32) (by decide)⟩),(19,⟨_,_, .nn (b:=32) (by decide)⟩)],[(10,⟨_,_, .nn (b:=32) (by decide)⟩)],[(4,⟨_,_, .nn (b:=32) (by decide)⟩),(10,⟨_,_, .nn (b:=32) (by decide)⟩),(19,⟨_,_, .nn (b:=32) (by decide)⟩),(28,⟨_,_, .nn (b:=32) (by decide)⟩)]])
def K4(N:Nat)(v1:jG):aph (Int64×Bool):=
 Option.bind (bif (v1.ld==(IntKind.u64.wrap (Int64.ofInt (((Int64.ofInt v1.kg).toInt).fdiv (2^(min ((63:Int)).toNat (IntKind.bits .i64))))).toInt))then some (v1.nK==(IntKind.u64.wrap (Int64.ofInt (((Int64.ofInt v1.kg).toInt).fdiv (2^(min ((63:Int)).toNat (IntKind.bits .i64))))).toInt))else some false) λv2=>
 some ((Int64.ofInt v1.kg),v2)
theorem aev{N v1}:KP 156 [(.ptr 0 0)] [.cells (B4 v1).cells] (λr=> .bg [(bC r.1),(aL r.2)]) (λ_=>[.cells (B4 v1).cells]) (K4 N v1):=
 fh 1 Tryz.func156 (gA [[],[(14,⟨_,_, .eq (ky v1.kg)⟩)],[(4,⟨_,_, .nn (b:=63) (by decide)⟩),(5,⟨_,_, .eq (WH (Int64.ofInt v1.kg) (min ((63:Int)).toNat (IntKind.bits .i64)))⟩)]] (gG (λv2=>[(2,(bC (Int64.ofInt v1.kg))),(3,(aL v2))]) (λ_=>[.cells (B4 v1).cells]) (aC (λJ=>gE [(7,bT J)] []) λJ=>gE [(7,bF J)] []) λv2=>gH []))
def EP(N:Nat)(v2:apf aI):apf dw->Nat->Int->Int->Int->aph (Int64×Int)
 |[],_,v10,v11,v12=>
  Option.bind (K4 N (⟨v10,v11,v12⟩:jG)) λaJ=>
  bif aJ.2 then
   some (aJ.1,(0:Int))
  else
   some ((0:Int64),(3:Int))
 |v8::v9,v6,v10,v11,v12=>
  (Qc N v2 v8).bind λaH=>
  bif (decide (aH<0))then
   some ((0:Int64),(9:Int))
  else
   bif (decide ((0:Int)<=aH))then
   Option.bind (v2[(aH).toNat]?) λbz=>
   (BS N v8.dM).bind λbB=>
   (BS N bz.de).bind λcA=>
   (LJ N bB cA).bind λbR=>
   Option.bind (A6 N bR.1 bR.2 (!((decide (v8.dM.toInt<0))==(decide (bz.de.toInt<0)))) (⟨v10,v11,v12⟩:jG)) λcl=>
   (λcg fi vG=>EP N v2 v9 (v6+1) cg fi vG) cl.1 cl.2.1 cl.2.2
   else none
def tP(N:Nat)(v1:bp)(v2:apf aI):aph (Int64×Int):=
 (AB N v1).bind λv3=>
 bif (v3 !=0)then
  some ((0:Int64),(1:Int))
 else
  (BS N v1.xK).bind λv4=>
  Option.bind (A6 N (0:Int) v4 (decide (v1.xK.toInt<0)) aay) λv5=>
  EP N v2 v1.xL 0 v5.1 v5.2.1 v5.2.2
def G8(v1:bp)(v10:Int)(v11:Int)(v12:Int)(l:apf aq):apf aq:= .cells (dL v1).cells:: .cells [(.d (.v (.int .u64 v10))),(.d (.v (.int .u64 v11))),(.d (.v (.int .u64 v12)))]::l
theorem CQ{N v1 v2}:KO 99 [(dL v1),(.d (.sl (aS v2)))] (λr=> .bg [(bC r.1),(ar r.2)]) (tP N v1 v2):=
 fw Tryz.func99 (ax λv3 J=>gA [[],[(4,cK IX J)]] (jJ λ_=>ax λv4 h3=>ax λv5 h4=>li (λ_=>(AD ck [(7,cK QH h3),(19,oR [(.ptr 1 0),(.d (.v (.int .u64 (0:Int)))),(.d (.v (.int .u64 v4))),(aL (decide (v1.xK.toInt<0)))] [.cells (dL v1).cells, .cells [(.d (.v (.int .u64 (0:Int)))),(.d (.v (.int .u64 (0:Int)))),(.d (.v (.int .u64 (0:Int))))]] [1] (XV h4))] [] [.cells (dL v1).cells, .cells [(.d (.v (.int .u64 v5.1))),(.d (.v (.int .u64 v5.2.1))),(.d (.v (.int .u64 v5.2.2)))]] ·)) (gA [[(7,oL v1.xL lZ)]] (gT DD 26 v1.xL λh6=>gl3 1 [] [1,6,26,27,28] 2 (λv6(v10:Int)(v11:Int)(v12:Int)=>⟨68,[(1,(.d (.sl (aS v2)))),(6,(.ptr 1 0)),(26,(.d (.sl (gv v1.xL)))),(27,(ar (v1.xL.length:Int))),(28,(ar (v6:Int)))],(G8 v1 v10 v11 v12 [])⟩) (λv6 v10 v11 v12 h7 f1=>ax λaJ h8=>gA [[],[f0 (cy h7)],[(1,oQ [(.ptr 1 0)] (G8 v1 v10 v11 v12 []) [1] (aev _ h8))],[]] (rp λh9=>gR [[t0 (eo h9)],[]])) (λv6 v8 v9 v10 v11 v12 h7 f1 aW=>ax λaH bG=>gA [[],[t0 (cz h7)],[(1,oE (sF (bI h7)))],[(7,oQ [(.d (.sl (aS v2))),(.fn 154 [(.ptr 2 0)])] (G8 v1 v10 v11 v12 [.cells (tt v8).cells]) [2] (afR _ bG))],[]] (bP λbH=>dD λcU=>ax λbz bq=>ax λbB cT=>ax λcA cQ=>ax λbR cM=>ax λcl eE=>gb aW (cl.1,cl.2.1,cl.2.2) [[f0 bH],[(7,⟨_,_, .el (xs:=aS v2) (i:=aH) (of_decide_eq_true cU) (qB bq)⟩)],[(7,cK QH cT),(13,cK QH cQ),(16,cK aeP cM)],[(25,oR [(.ptr 1 0),(.d (.v (.int .u64 bR.1))),(.d (.v (.int .u64 bR.2))),(aL (!((decide (v8.dM.toInt<0))==(decide (bz.de.toInt<0)))))] (G8 v1 v10 v11 v12 [.cells (tt v8).cells]) [1] (XV eE))],[(2,oq (cF h7 rfl h6))]] h7))))))
def HP(N:Nat)(v1:gF)(v2:apf aI):aph (Bool×Int):=
 (tP N v1.bx v2).bind λv3=>
 bif (v3.2 !=0)then
  some (false,v3.2)
 else
  Option.bind (bif (v3.1.toInt==0)then some true else(bif (decide (v3.1.toInt>0))then some (!v1.FF)else some false)) λv4=>
  some (v4,(0:Int))
theorem ak6{N v1 v2}:KO 95 [(vX v1),(.d (.sl (aS v2)))] (λr=> .bg [(aL r.1),(ar r.2)]) (HP N v1 v2):=
 fw Tryz.func95 (ax λv3 J=>gA [[],[(10,cK CQ J)],[]] (bP λh2=>gA [[f0 h2]] (gG (λv4=>[(4,(aL v4)),(5,(ar (0:Int)))]) (λ_=>[.cells (vX v1).cells]) (aC (λh3=>gE [(2,bT h3),(5,uN)] []) λh3=>dT (2,bF h3) (aC (λh4=>gE [(5,bT h4)] [(28,bT h4)]) λh4=>gE [(5,bF h4)] [(28,bF h4)])) λv4=>gR [])))
def HG(N:Nat)(v2:apf aI):apf gF->Nat->aph Int
 |[],_=>
  some (0:Int)
 |v9::v10,v7=>
  (HP N v9 v2).bind λv11=>
  bif (v11.2 !=0)then
   some v11.2
  else
   bif v11.1 then
    (HG N v2 v10 (v7+1))
   else
    some (16:Int)
def Ln(N:Nat)(v2:apf aI)(v1:aV):apf apg->Nat->aph Int
 |[],_=>
  HG N v2 v1.dF 0
 |v5::v6,v3=>
  (RZ N v2 v5).bind λv12=>
  Option.bind (bif (decide (v12<0))then some true else bif (decide ((0:Int)<=v12))then
  Option.bind (v2[(v12).toNat]?) λaJ=>
  (bif (decide (aJ.de.toInt<1))then some true else some (decide (aJ.de.toInt>4096)))
  else none) λaH=>
  bif aH then
   some (15:Int)
  else
   (Ln N v2 v1 v6 (v3+1))
def HO(N:Nat)(v1:aV)(v2:apf aI):aph Int:=
 bif ((v2.length:Int) !=(v1.bm.length:Int))then
  some (15:Int)
 else
  Ln N v2 v1 v1.bm 0
theorem g_eval_CheckSizes_ok{N v1 v2}:KO 54 [(dU v1),(.d (.sl (aS v2)))] ar (HO N v1 v2):=
 fw Tryz.func54 (gA [[],[(4,oL v2 pL),(13,oL v1.bm jX)]] (bP λJ=>gA [[f0 J],[(7,oL v1.bm jX)]] (gT sk 19 v1.bm λh3=>ff 1 [] [1,2,19,20,21] 1 (λv3=>⟨66,[(1,(.d (.sl (aS v2)))),(2,(.ptr 0 0)),(19,(.d (.sl (dS v1.bm)))),(20,(ar (v1.bm.length:Int))),(21,(ar (v3:Int)))],[.cells (dU v1).cells]⟩) (λv3 h4 f1=>gA [[],[f0 (cy h4)],[(7,oL v1.dF x7)]] (gT R4 48 v1.dF λh6=>ff 2 [] [1,48,49,50] 1 (λv7=>⟨66,[(1,(.d (.sl (aS v2)))),(48,(.d (.sl (m7 v1.dF)))),(49,(ar (v1.dF.length:Int))),(50,(ar (v7:Int)))],[.cells (dU v1).cells]⟩) (λv7 h7 f2=>gR [[],[f0 (cy h7)],[]]) (λv7 v9 v10 h7 f2 fe=>ax λv11 h8=>gA [[],[t0 (cz h7)],[(1,oE (NL (bI h7)))],[(7,cK ak6 h8)],[]] (jJ λ_=>lS λbG=>gb fe () [[f0 (dH bG)],[(2,oq (cF h7 rfl h6))]] h7)))) (λv3 v5 v6 h4 f1 aW=>ax λv12 bH=>gA [[],[t0 (cz h4)],[(1,oE (tg (bI h4)))],[(7,oQ [(.d (.sl (aS v2))),(.fn 94 [(.ptr 1 0)])] [.cells (dU v1).cells, .cells [(dq v5)]] [1] (afj _ bH))]] (gG (λaH=>[(45,(aL aH))]) (λ_=>[.cells (dU v1).cells, .cells [(dq v5)]]) (aC (λbq=>gE [(2,bT bq),(10,bT rfl)] []) λbq=>dD λcT=>ax λaJ cU=>dT (2,bF bq) (dt (16,⟨_,_, .el (xs:=aS v2) (i:=v12) (of_decide_eq_true cT) (qB cU)⟩) (aC (λcQ=>gE [(10,bT cQ)] []) λcQ=>gE [(10,bF cQ)] [(40,⟨_,_, .el (xs:=aS v2) (i:=v12) (of_decide_eq_true cT) (qB cU)⟩)]))) λaH=>bP λeE=>gb aW () [[f0 eE],[(2,oq (cF h4 rfl h3))]] h4)))))
def C8(N:Nat)(v1:aV)(v2:apf aI):aph Int:=
 (I9 N v1).bind λv3=>
 bif (v3.2 !=0)then
  some v3.2
 else
  (HO N v1 v2).bind λv4=>
  some v4
theorem aiJ{N v1 v2}:KO 30 [(dU v1),(.d (.sl (aS v2)))] ar (C8 N v1 v2):=
 fw Tryz.func30 (ax λv3 J=>gA [[],[(4,cK akc J)],[]] (bP λh2=>ax λv4 h3=>gR [[f0 h2],[(7,cK g_eval_CheckSizes_ok h3)]]))
def JW(N:Nat)(v2:apf aI):apf bp->Nat->(apf Int)->aph ((apf Int)×Int)
 |[],_,v7=>
  some (v7,(0:Int))
 |v5::v6,v3,v7=>
  (tP N v5 v2).bind λv8=>
  bif (v8.2 !=0)then
   some ([],v8.2)
  else
   Option.bind (bif (decide (v8.1.toInt<1))then some true else some (decide (v8.1.toInt>4096))) λv9=>
   bif v9 then
    some ([],(15:Int))
   else
    bif (Nat.ble ((v7.length+1)*8) 140737488355328)then
    (λcg=>JW N v2 v6 (v3+1) cg) (v7++[v8.1.toInt])
    else none
def C9(N:Nat)(v1:apf bp)(v2:apf aI):aph ((apf Int)×Int):=
 JW N v2 v1 0 []
theorem Vo{N v1 v2}:KO 56 [(.d (.sl (fV v1))),(.d (.sl (aS v2)))] (λr=> .bg [(.d (.sl (bw r.1))),(ar r.2)]) (C9 N v1 v2):=
 fw Tryz.func56 (gA [[],[],[(4,oL v1 jw)]] (li (λ_=>(sK 6 3 1 [] (.inr (by kernel_rfl)) ·)) (gT sR 0 v1 λh2=>gY 1 [] [1,6,11,12,13] 1 (λv3(v7:apf Int)=>⟨38,[(1,(.d (.sl (aS v2)))),(6,(.own 0 (bw v7))),(11,(.d (.sl (fV v1)))),(12,(ar (v1.length:Int))),(13,(ar (v3:Int)))],[.front 3 1 v7.length]⟩) (λv3 v7 h3 f1=>gR [[],[f0 (cy h3)],[]]) (λv3 v5 v6 v7 h3 f1 aW=>ax λv8 h4=>gA [[],[t0 (cz h3)],[(1,oE (uR (bI h3)))],[(7,cK CQ h4)],[]] (bP λh5=>gA [[f0 h5]] (gG (λv9=>[(31,(aL v9))]) (λ_=>[.front 3 1 v7.length, .cells (dL v5).cells]) (aC (λh6=>gE [(2,bT h6)] []) λh6=>gE [(2,bF h6)] []) λv9=>bP λh8=>dD λh9=>gb aW (v7++[v8.1.toInt]) [[f0 h8],[(10,oA nV v7 ([v8.1.toInt]) h9)],[(2,oq (cF h3 rfl h2))]] h3))))))
def B8(N:Nat)(v2:Int):apf Int->Nat->Int->aph Int
 |[],_,v7=>
  some v7
 |v5::v6,v3,v7=>
  bif (decide ((aQ (v7*v5))>v2))then
   some (aQ (v2+(1:Int)))
  else
   (λcg=>B8 N v2 v6 (v3+1) cg) (aQ (v7*v5))
def RV(N:Nat)(v1:apf Int)(v2:Int):aph Int:=
 B8 N v2 v1 0 (1:Int)
theorem ad0{N v1 v2}:KO 57 [(.d (.sl (bw v1))),(ar v2)] ar (RV N v1 v2):=
 fw Tryz.func57 (gA [[],[],[(4,oL v1 gi)]] (gT nV 0 v1 λh2=>gY 1 [] [1,5,8,9,10] 0 (λv3(v7:Int)=>⟨24,[(1,(ar v2)),(5,(ar v7)),(8,(.d (.sl (bw v1)))),(9,(ar (v1.length:Int))),(10,(ar (v3:Int)))],[]⟩) (λv3 v7 h3 f1=>gR [[],[f0 (cy h3)],[]]) (λv3 v5 v6 v7 h3 f1 aW=>gA [[],[t0 (cz h3)],[(1,oE (jN (bI h3)))],[],[]] (bP λh4=>gb aW (aQ (v7*v5)) [[f0 h4],[(2,oq (cF h3 rfl h2))]] h3))))
def zp(N:Nat)(v1:aV)(v2:apf aI)(v3:apg):aph ((apf Int)×aM×Int):=
 (CJ N v1 v3).bind λv4=>
 bif v4.2.2 then
  (C9 N v4.2.1 v2).bind λv5=>
  bif (v5.2 !=0)then
   some ([],v4.1,v5.2)
  else
   Option.bind (RV N v5.1 (4096:Int)) λv6=>
   bif (decide (v6>4096))then
    some ([],v4.1,(15:Int))
   else
    some (v5.1,v4.1,(0:Int))
 else
  some ([],v4.1,(9:Int))
theorem M6{N v1 v2 v3}:KO 31 [(dU v1),(.d (.sl (aS v2))),(dq v3)] (λr=> .bg [(.d (.sl (bw r.1))),(cx r.2.1),(ar r.2.2)]) (zp N v1 v2 v3):=
 fw Tryz.func31 (ax λv4 J=>gA [[],[(7,cK Sy J)],[]] (lS λh2=>ax λv5 h3=>gA [[f0 (dH h2)],[(7,cK Vo h3)],[]] (bP λh4=>ax λv6 h5=>gA [[f0 h4],[(4,cK ad0 h5)]] (bP λh6=>gR [[f0 h6],[]]))))
def NS(N:Nat)(v1:aG)(v2:apg):aph Bool:=
 some (bL v1.au==bL v2)
theorem ajy{N v1 v2}:KP 46 [(OG v1),(.ptr 0 0)] [.cells [(dq v2)]] aL (λ_=>[.cells [(dq v2)]]) (NS N v1 v2):=
 fh 1 Tryz.func46 (gH [[],[]])
def Ac(N:Nat)(v2:apg):apf aG->Nat->aph Int
 |[],_=>
  some (-1:Int)
 |v5::v6,v3=>
  (NS N v5 v2).bind λv7=>
  bif v7 then
   some (v3:Int)
  else
   (Ac N v2 v6 (v3+1))
def QO(N:Nat)(v1:apf aG)(v2:apg):aph Int:=
 Ac N v2 v1 0
theorem ajm{N v1 v2}:KP 45 [(.d (.sl (aX v1))),(.fn 46 [(.ptr 0 0)])] [.cells [(dq v2)]] ar (λ_=>[.cells [(dq v2)]]) (QO N v1 v2):=
 fh 1 Tryz.func45 (gA [[],[(4,oL v1 gW)]] (gT vq 0 v1 λh2=>ff 1 [] [0,1,7,8] 1 (λv3=>⟨19,[(0,(.d (.sl (aX v1)))),(1,(.fn 46 [(.ptr 0 0)])),(7,(ar (v1.length:Int))),(8,(ar (v3:Int)))],[.cells [(dq v2)]]⟩) (λv3 h3 f1=>gH [[],[f0 (cy h3)],[]]) (λv3 v5 v6 h3 f1 aW=>ax λv7 h4=>gA [[],[t0 (cz h3)],[],[(10,oE (mO (bI h3))),(16,oQ [(OG v5),(.ptr 0 0)] [.cells [(dq v2)]] [0] (ajy _ h4))]] (aC (λh5=>gH [[t0 h5],[]]) λh5=>gb aW () [[f0 h5],[(2,oq (cF h3 rfl h2))]] h3))))
def uK(N:Nat)(v1:apf aG)(v2:apg):aph (aT×Bool):=
 (QO N v1 v2).bind λv3=>
 bif (decide (v3<0))then
  some (mF,false)
 else
  bif (decide ((0:Int)<=v3))then
  Option.bind (v1[(v3).toNat]?) λv4=>
  some (v4.fb,true)
  else none
theorem Hb{N v1 v2}:KO 27 [(.d (.sl (aX v1))),(dq v2)] (λr=> .bg [(iz r.1),(aL r.2)]) (uK N v1 v2):=
 fw Tryz.func27 (ax λv3 J=>gA [[],[(7,oQ [(.d (.sl (aX v1))),(.fn 46 [(.ptr 0 0)])] [.cells [(dq v2)], .cells zc1] [0] (ajm _ J))],[]] (bP λh2=>dD λh4=>ax λv4 h3=>gR [[f0 h2],[(7,⟨_,_, .el (xs:=aX v1) (i:=v3) (of_decide_eq_true h4) (mO h3)⟩)]]))
def Ax(N:Nat):apf Int->Nat->Int->aph Int
 |[],_,_=>
  some (0:Int)
 |v8::v9,v6,v10=>
  bif (v10 !=0)then
  bif (decide (v8>(IntKind.i64.wrap (((4096:Int)).tdiv v10))))then
   some (2:Int)
  else
   (λgP=>Ax N v9 (v6+1) gP) (aQ (v10*v8))
  else none
def L6(N:Nat)(v1:apf Int):apf Int->Nat->aph Int
 |[],_=>
  Ax N v1 0 (1:Int)
 |v4::v5,v2=>
  bif (decide (v4<1))then
   some (1:Int)
  else
   (L6 N v1 v5 (v2+1))
def FD(N:Nat)(v1:apf Int):aph Int:=
 bif (decide ((v1.length:Int)>6))then
  some (2:Int)
 else
  L6 N v1 v1 0
theorem U1{N v1}:KO 117 [(.d (.sl (bw v1)))] ar (FD N v1):=
 fw Tryz.func117 (gA [[],[(4,oL v1 gi)]] (bP λJ=>gA [[f0 J],[(4,oL v1 gi)]] (gT nV 0 v1 λh3=>ff 1 [] [0,11,12,13] 0 (λv2=>⟨34,[(0,(.d (.sl (bw v1)))),(11,(.d (.sl (bw v1)))),(12,(ar (v1.length:Int))),(13,(ar (v2:Int)))],[]⟩) (λv2 h4 f1=>gA [[],[f0 (cy h4)],[],[(4,oL v1 gi)]] (gT nV 0 v1 λh6=>gY 2 [] [5,20,21,22] 0 (λv6(v10:Int)=>⟨34,[(5,(ar v10)),(20,(.d (.sl (bw v1)))),(21,(ar (v1.length:Int))),(22,(ar (v6:Int)))],[]⟩) (λv6 v10 h7 f2=>gR [[],[f0 (cy h7)],[]]) (λv6 v8 v9 v10 h7 f2 fe=>dD λh8=>gA [[],[t0 (cz h7)],[(1,oE (jN (bI h7)))],[(7,⟨_,_, .nz (b:=v10) (bne_iff_ne.1 h8)⟩)]] (bP λh9=>gb fe (aQ (v10*v8)) [[f0 h9],[],[(2,oq (cF h7 rfl h6))]] h7)))) (λv2 v4 v5 h4 f1 aW=>gA [[],[t0 (cz h4)],[(1,oE (jN (bI h4)))],[]] (bP λbG=>gb aW () [[f0 bG],[(2,oq (cF h4 rfl h3))]] h4)))))
def LR(N:Nat):apf Int->Nat->Int->aph Int
 |[],_,v7=>
  some v7
 |v5::v6,v3,v7=>
  (λcg=>LR N v6 (v3+1) cg) (aQ (v7*v5))
def KR(N:Nat)(v1:apf Int):aph Int:=
 (FD N v1).bind λv2=>
 bif (v2 !=0)then
  some (0:Int)
 else
  LR N v1 0 (1:Int)
theorem ae9{N v1}:KO 118 [(.d (.sl (bw v1)))] ar (KR N v1):=
 fw Tryz.func118 (ax λv2 J=>gA [[],[(4,cK U1 J)]] (bP λh2=>gA [[f0 h2],[],[(4,oL v1 gi)]] (gT nV 0 v1 λh4=>gY 1 [] [3,9,10,11] 0 (λv3(v7:Int)=>⟨20,[(3,(ar v7)),(9,(.d (.sl (bw v1)))),(10,(ar (v1.length:Int))),(11,(ar (v3:Int)))],[]⟩) (λv3 v7 h5 f1=>gR [[],[f0 (cy h5)],[]]) (λv3 v5 v6 v7 h5 f1 aW=>gb aW (aQ (v7*v5)) [[],[t0 (cz h5)],[(1,oE (jN (bI h5)))],[],[(2,oq (cF h5 rfl h4))]] h5))))
def Jh(N:Nat)(v1:aT):apf aD->Nat->aph Int
 |[],_=>
  some (0:Int)
 |v7::v8,v5=>
  (mD N v1.aB v7).bind λv9=>
  bif v9 then
   (Jh N v1 v8 (v5+1))
  else
   some (1:Int)
def Ee(N:Nat)(v1:aT):aph Int:=
 (l9 N v1.aB).bind λv2=>
 bif (v2 !=0)then
  some v2
 else
  (FD N v1.aU).bind λv3=>
  bif (v3 !=0)then
   some v3
  else
   (KR N v1.aU).bind λv4=>
   bif ((v1.eI.length:Int) !=v4)then
    some (1:Int)
   else
    Jh N v1 v1.eI 0
theorem T3{N v1}:KO 69 [(iz v1)] ar (Ee N v1):=
 fw Tryz.func69 (ax λv2 J=>gA [[],[(7,cK o9 J)],[]] (bP λh2=>ax λv3 h3=>gA [[f0 h2],[(7,cK U1 h3)],[]] (bP λh4=>ax λv4 h5=>gA [[f0 h4],[(7,oL v1.eI lH),(16,cK ae9 h5)]] (bP λh6=>gA [[f0 h6],[(7,oL v1.eI lH)]] (gT zl 27 v1.eI λh8=>ff 1 [] [1,27,28,29] 1 (λv5=>⟨39,[(1,(.ptr 0 0)),(27,(.d (.sl (dK v1.eI)))),(28,(ar (v1.eI.length:Int))),(29,(ar (v5:Int)))],[.cells (iz v1).cells]⟩) (λv5 h9 f1=>gR [[],[f0 (cy h9)],[]]) (λv5 v7 v8 h9 f1 aW=>ax λv9 bG=>gA [[],[t0 (cz h9)],[(1,oE (qz (bI h9)))],[(10,cK uM bG)]] (lS λbH=>gb aW () [[f0 (dH bH)],[(2,oq (cF h9 rfl h8))]] h9)))))))
def LX(N:Nat)(v2:apf Int):apf Int->Nat->aph Bool
 |[],_=>
  some true
 |v5::v6,v3=>
  Option.bind (v2[((v3:Int)).toNat]?) λv7=>
  bif (v5 !=v7)then
   some false
  else
   (LX N v2 v6 (v3+1))
def JY(N:Nat)(v1:apf Int)(v2:apf Int):aph Bool:=
 bif ((v1.length:Int) !=(v2.length:Int))then
  some false
 else
  LX N v2 v1 0
theorem acz{N v1 v2}:KO 119 [(.d (.sl (bw v1))),(.d (.sl (bw v2)))] aL (JY N v1 v2):=
 fw Tryz.func119 (gA [[],[(4,oL v1 gi),(10,oL v2 gi)]] (bP λJ=>gA [[f0 J],[(4,oL v1 gi)]] (gT nV 0 v1 λh3=>ff 1 [] [0,1,12,13] 0 (λv3=>⟨26,[(0,(.d (.sl (bw v1)))),(1,(.d (.sl (bw v2)))),(12,(ar (v1.length:Int))),(13,(ar (v3:Int)))],[]⟩) (λv3 h4 f1=>gR [[],[f0 (cy h4)],[]]) (λv3 v5 v6 h4 f1 aW=>ax λv7 h5=>gA [[],[t0 (cz h4)],[],[(7,oE (jN (bI h4))),(19,oE (jN h5))]] (bP λh7=>gb aW () [[f0 h7],[(2,oq (cF h4 rfl h3))]] h4)))))
def ui(N:Nat)(v1:apf aG)(v2:apg)(v3:aM)(v4:apf Int):aph Int:=
 (uK N v1 v2).bind λv5=>
 bif v5.2 then
  (Ee N v5.1).bind λv6=>
  bif (v6 !=0)then
   some (1:Int)
  else
   bif ((v5.1.aB.bk==v3.bk)&&((v5.1.aB.cf==v3.cf)&&((v5.1.aB.bQ==v3.bQ)&&((v5.1.aB.cq==v3.cq)&&((v5.1.aB.ct==v3.ct)&&true)))))then
    (JY N v5.1.aU v4).bind λv7=>
    bif v7 then
     some (0:Int)
    else
     some (15:Int)
   else
    some (10:Int)
 else
  some (9:Int)
theorem aaz{N v1 v2 v3 v4}:KO 70 [(.d (.sl (aX v1))),(dq v2),(cx v3),(.d (.sl (bw v4)))] ar (ui N v1 v2 v3 v4):=
 fw Tryz.func70 (ax λv5 J=>gA [[],[(7,cK Hb J)],[]] (lS λh2=>ax λv6 h3=>gA [[f0 (dH h2)],[(4,cK T3 h3)]] (jJ λ_=>lS λh5=>ax λv7 h6=>gA [[f0 (dH h5)],[(10,cK acz h6)]] (rp λh7=>gR [[t0 (eo h7)],[]]))))
def P1(N:Nat)(v1:apf Int):aph (apf Int):=bif Nat.ble (v1.length*8) 140737488355328 then some v1 else none
theorem ajN{N v1 r}(U:P1 N v1=some r):ga Tryz.prog 47 [(.d (.sl (bw v1)))] (·=(.d (.sl (bw r)))):=by
 obtain⟨hb,rfl⟩:=eB U;have hc:=lW hb (by decide);exact ame F4 (by rw[gi];exact hc.1) (by rw[gi];exact hc.2)
def Se(N:Nat)(v1:apf aD):aph (apf aD):=bif Nat.ble (v1.length*16) 140737488355328 then some v1 else none
theorem adq{N v1 r}(U:Se N v1=some r):ga Tryz.prog 48 [(.d (.sl (dK v1)))] (·=(.d (.sl (dK r)))):=by
 obtain⟨hb,rfl⟩:=eB U;have hc:=lW hb (by decide);exact agE O4 (by rw[lH];exact hc.1) (by rw[lH];exact hc.2)
def Gm(N:Nat)(v1:aT):aph aT:=
 (P1 N v1.aU).bind λv2=>
 (Se N v1.eI).bind λv3=>
 some (⟨v1.aB,v2,v3⟩:aT)
theorem Yz{N v1}:KO 28 [(iz v1)] iz (Gm N v1):=
 fw Tryz.func28 (gA [[]] (ax λv2 J=>ax λv3 h2=>li (λ_=>(abS 1 ck [] [.cells (iz v1).cells, .cells [(ar v1.aB.bk),(ar v1.aB.cf),(ar v1.aB.bQ),(ar v1.aB.cq),(ar v1.aB.ct),(.d (.sl (bw v2))),(.d (.sl (dK v3)))]] ⟨[(13,cL (ajN J)),(22,cL (adq h2))],by kernel_rfl⟩ ·)) (gR [])))
def cH:aD:=⟨(0:Int64),(0:Int64)⟩
def Bp:eX:=⟨cH,dY⟩
def dp:apf AV:=[(bC (0:Int64)),(bC (0:Int64)),(ar (0:Int)),(ar (0:Int)),(ar (0:Int)),(ar (0:Int)),(ar (0:Int))]
def iT:apf AV:=[(bC (0:Int64)),(bC (0:Int64))]
def wu(N:Nat)(v3:apf aG)(v6:dX)(v8:apf aG)(iw:(apf aG)->aph ((apf aG)×Int))(v10:Int):aph ((apf aG)×Int):=
 bif (v10 !=0)then
  some ([],v10)
 else
  (uK N v3 v6.au).bind λv11=>
  (Gm N v11.1).bind λv12=>
  bif (Nat.ble ((v8.length+1)*104) 140737488355328)then
  iw (v8++[(⟨v6.au,v12⟩:aG)])
  else none
def mU(N:Nat)(v1:aV)(v2:apf aI)(v3:apf aG):apf dX->Nat->(apf aG)->aph ((apf aG)×Int)
 |[],_,v8=>
  some (v8,(0:Int))
 |v6::v7,v4,v8=>
  (zp N v1 v2 v6.au).bind λv9=>
  bif (v9.2.2==0)then
   (ui N v3 v6.au v9.2.1 v9.1).bind λaJ=>
   wu N v3 v6 v8 (λcg=>mU N v1 v2 v3 v7 (v4+1) cg) aJ
  else
   wu N v3 v6 v8 (λcg=>mU N v1 v2 v3 v7 (v4+1) cg) v9.2.2
def DS(N:Nat)(v1:aV)(v2:apf aI)(v3:apf aG):aph ((apf aG)×Int):=
 mU N v1 v2 v3 v1.aY 0 []
def uZ(v1:aV)(v8:apf aG)(v6:dX)(v9:(apf Int)×aM×Int)(l:apf aq):apf aq:= .cells (dU v1).cells:: .front 40 8 v8.length:: .cells (pA v6).cells:: .cells (cx v9.2.1).cells::l
def yD(v1:aV)(v8:apf aG)(l:apf aq):apf aq:= .cells (dU v1).cells:: .front 40 8 v8.length::l
def Cl(v1:aV)(l:apf aq):apf aq:= .cells (dU v1).cells::l
theorem ahN{N v1 v2 v3 r}(U:DS N v1 v2 v3=some r):KH 43 [(dU v1),(.d (.sl (aS v2))),(.d (.sl (aX v3)))] [] (.bg [(.own 0 (aX r.1)),(ar r.2)]) ([.front 40 8 r.1.length]):=by
 rw[DS]at U;refine DW 1 Tryz.func43 rfl (by kernel_rfl) (aoz rfl) ?_;refine l6 (s':=⟨60,[(0,(dU v1)),(1,(.d (.sl (aS v2)))),(2,(.d (.sl (aX v3))))],[]⟩) (by kernel_rfl) ?_;refine aA ?_;refine rg [] [(3,(.ptr 0 0))] (Cl v1 []) (by kernel_rfl) ?_;refine aA ?_;refine rg [] [(8,(.d (.v (.slice none 0 0))))] (Cl v1 []) (by kernel_rfl) ?_;refine aA ?_;refine aA ?_;refine rg [(7,oL v1.aY pn)] [(17,(.d (.sl (ko v1.aY)))),(18,(ar (v1.aY.length:Int))),(19,(ar (0:Int)))] (Cl v1 []) (by kernel_rfl) ?_;refine gp ?_;refine Mh 8 40 8 [] (.inr ⟨rfl,rfl⟩) ?_;refine vH 17 (ko v1.aY) (by kernel_rfl) λJ=> ?_;have h2:=Ag pn J;refine Ns [1,2,3,8,17,18,19] 2 (λ((v4,v5,v8):Nat×(apf dX)×(apf aG))=>⟨60,[(1,(.d (.sl (aS v2)))),(2,(.d (.sl (aX v3)))),(3,(.ptr 0 0)),(8,(.own 1 (aX v8))),(17,(.d (.sl (ko v1.aY)))),(18,(ar (v1.aY.length:Int))),(19,(ar (v4:Int)))],(yD v1 v8 [])⟩) (λ((v4,v5,v8):Nat×(apf dX)×(apf aG))=>v1.aY.drop v4=v5/\mU N v1 v2 v3 v5 v4 v8=some r) (λ((v4,v5,v8):Nat×(apf dX)×(apf aG))=>v5.length) (0,v1.aY,[]) (aoz rfl) (by kernel_rfl) ⟨rfl,U⟩ ?_;rintro⟨v4,v5,v8⟩ ⟨h3,U⟩;cases v5 with
 |nil=>
  rw[mU]at U;refine aA ?_;refine rg [] [(20,(aL (decide ((v4:Int)<(v1.aY.length:Int)))))] (yD v1 v8 []) (by kernel_rfl) ?_;refine aA ?_;refine eH (t:=(decide ((v4:Int)<(v1.aY.length:Int)))) (by kernel_rfl) (cy h3) ?_;refine o7 (kW (kW (rE rfl ?_)));refine bE ?_;refine aA ?_;refine rg [] [(6,(.own 1 (aX v8))),(7,(ar (0:Int)))] (yD v1 v8 []) (by kernel_rfl) ?_;refine gx [6,7] 2 (aoz rfl) (s':=⟨60,[(6,(.own 1 (aX v8))),(7,(ar (0:Int)))],(yD v1 v8 [])⟩) (by kernel_rfl) ?_;refine YA (abK (i:=1) (j:=0) (aoz rfl) (aoz rfl) (aoz rfl) (aoz rfl)) ?_;refine l6 (s':=⟨60,[(6,(.own 0 (aX v8))),(7,(ar (0:Int)))],[.front 40 8 v8.length, .cells (dU v1).cells]⟩) (by kernel_rfl) ?_;refine gx [6,7] 1 (aoz rfl) (s':=⟨60,[(6,(.own 0 (aX v8))),(7,(ar (0:Int)))],[.front 40 8 v8.length]⟩) (by kernel_rfl) ?_;refine cY ?_;have hr:=aoK U;subst hr;exact uY (eO trivial jB) (by kernel_rfl)
 |cons v6 v7=>
  rw[mU]at U;refine aA ?_;refine rg [] [(20,(aL (decide ((v4:Int)<(v1.aY.length:Int)))))] (yD v1 v8 []) (by kernel_rfl) ?_;refine aA ?_;refine eK (t:=(decide ((v4:Int)<(v1.aY.length:Int)))) (by kernel_rfl) (cz h3) ?_;refine dy ?_;refine bE ?_;refine aA ?_;refine gp ?_;refine aA ?_;refine rg [(1,oE (BC (bI h3)))] [(10,(.ptr 2 0))] (yD v1 v8 [.cells (pA v6).cells]) (by kernel_rfl) ?_;refine aA ?_;obtain⟨v9,h4,U⟩:=cp U;refine rg [(13,cK M6 h4)] [(12,(.ptr 3 0)),(11,(.d (.sl (bw v9.1)))),(13,(ar v9.2.2))] (uZ v1 v8 v6 v9 []) (by kernel_rfl) ?_;refine aA ?_;refine aA ?_;refine rg [] [(33,(aL (v9.2.2==0)))] (uZ v1 v8 v6 v9 []) (by kernel_rfl) ?_;refine Dd [1,2,3,8,10,13,17,18,19] 4 (λ(v10:Int)=>⟨60,[(1,(.d (.sl (aS v2)))),(2,(.d (.sl (aX v3)))),(3,(.ptr 0 0)),(8,(.own 1 (aX v8))),(10,(.ptr 2 0)),(13,(ar v10)),(17,(.d (.sl (ko v1.aY)))),(18,(ar (v1.aY.length:Int))),(19,(ar (v4:Int)))],(uZ v1 v8 v6 v9 [])⟩) (λ(v10:Int)=>wu N v3 v6 v8 (λcg=>mU N v1 v2 v3 v7 (v4+1) cg) v10=some r) (aoz rfl) ?_ ?_
  ·rcases ee (v9.2.2==0)with h9|h9
   ·replace U:=(dk h9).symm.trans U;refine eK (t:=(v9.2.2==0)) (by kernel_rfl) h9 ?_;obtain⟨aJ,bG,U⟩:=cp U;refine re [(16,cK aaz bG)] [(13,(ar aJ)),(39,(ar aJ)),(38,(.d (.sl (bw v9.1)))),(37,(cx v9.2.1)),(36,(dq v6.au)),(35,(.ptr 2 0)),(34,(.d (.sl (aX v3))))] (uZ v1 v8 v6 v9 []) (by kernel_rfl) ?_;refine bE ?_;exact⟨aJ,by kernel_rfl,U⟩
   replace U:=(eu h9).symm.trans U;refine eH (t:=(v9.2.2==0)) (by kernel_rfl) h9 ?_;refine dy ?_;refine bE ?_;exact⟨v9.2.2,by kernel_rfl,U⟩
  rintro v10 U
  try dsimp only at U
  rw[wu]at U;refine aA ?_;refine aA ?_;refine rg [] [(41,(aL (v10 !=0)))] (uZ v1 v8 v6 v9 []) (by kernel_rfl) ?_;rcases ee (v10 !=0)with h5|h5
  ·replace U:=(dk h5).symm.trans U;refine eK (t:=(v10 !=0)) (by kernel_rfl) h5 ?_;refine aA ?_;refine rg [] [(6,(.d (.v (.slice none 0 0)))),(7,(ar v10))] (uZ v1 v8 v6 v9 []) (by kernel_rfl) ?_;refine Mh 6 40 8 [] (.inr ⟨rfl,rfl⟩) ?_;refine gx [6,7] 5 (aoz rfl) (s':=⟨60,[(6,(.own 4 (aX []))),(7,(ar v10))],(uZ v1 v8 v6 v9 [.front 40 8 0])⟩) (by kernel_rfl) ?_;refine YA (abK (i:=4) (j:=0) (aoz rfl) (aoz rfl) (aoz rfl) (aoz rfl)) ?_;refine l6 (s':=⟨60,[(6,(.own 0 (aX []))),(7,(ar v10))],[.front 40 8 0, .front 40 8 v8.length, .cells (pA v6).cells, .cells (cx v9.2.1).cells, .cells (dU v1).cells]⟩) (by kernel_rfl) ?_;refine gx [6,7] 1 (aoz rfl) (s':=⟨60,[(6,(.own 0 (aX []))),(7,(ar v10))],[.front 40 8 0]⟩) (by kernel_rfl) ?_;refine cY (c9 (fa (c9 (c9 (fa (c9 ?_))))));have hr:=aoK U;subst hr;exact uY (eO trivial jB) (by kernel_rfl)
  replace U:=(eu h5).symm.trans U;refine eH (t:=(v10 !=0)) (by kernel_rfl) h5 ?_;refine dy ?_;refine bE ?_;refine aA ?_;obtain⟨v11,h6,U⟩:=cp U;refine rg [(10,cK Hb h6)] [(14,(.ptr 4 0))] (uZ v1 v8 v6 v9 [.cells (iz v11.1).cells]) (by kernel_rfl) ?_;obtain⟨v12,h7,U⟩:=cp U;have h8:=na U;replace U:=(dk h8).symm.trans U;refine Xj ck (by kernel_rfl) [(13,cK Yz h7),(22,oA vq v8 ([(⟨v6.au,v12⟩:aG)]) h8)] [(8,(.own 1 (aX (v8++[(⟨v6.au,v12⟩:aG)])))),(57,(.own 1 (aX (v8++[(⟨v6.au,v12⟩:aG)])))),(56,(.full (aX [(⟨v6.au,v12⟩:aG)]))),(55,(.agg [(dq v6.au),(ar v12.aB.bk),(ar v12.aB.cf),(ar v12.aB.bQ),(ar v12.aB.cq),(ar v12.aB.ct),(.d (.sl (bw v12.aU))),(.d (.sl (dK v12.eI)))])),(54,(iz v12)),(53,(iz v11.1)),(52,(dq v6.au)),(51,(.ptr 2 0)),(50,(.own 1 (aX v8)))] (Cl v1 [.front 40 8 (v8++[(⟨v6.au,v12⟩:aG)]).length, .cells (pA v6).cells, .cells (cx v9.2.1).cells, .cells (iz v11.1).cells]) (by kernel_rfl) ?_;refine iK ?_;refine bE ?_;refine re [(2,oq (cF h3 rfl h2))] [(19,(ar ((v4+1:Nat):Int))),(58,(ar ((v4+1:Nat):Int)))] (Cl v1 [.front 40 8 (v8++[(⟨v6.au,v12⟩:aG)]).length, .cells (pA v6).cells, .cells (cx v9.2.1).cells, .cells (iz v11.1).cells]) (by kernel_rfl) ?_
  refine bE ?_;exact⟨(v4+1,v7,(v8++[(⟨v6.au,v12⟩:aG)])),by kernel_rfl,⟨ma h3,U⟩,apd _⟩
def Ec(N:Nat):apf dg->Nat->(apf bp)->aph ((apf bp))
 |[],_,v6=>
  some v6
 |v4::v5,v2,v6=>
  bif (Nat.ble ((v6.length+1)*32) 140737488355328)then
  (λcg=>Ec N v5 (v2+1) cg) (v6++[v4.dR])
  else none
def Sk(N:Nat)(v1:apf dg):aph ((apf bp)):=
 Ec N v1 0 []
theorem an7{N v1}:KO 71 [(.d (.sl (hJ v1)))] (λr=> .d (.sl (fV r))) (Sk N v1):=
 fw Tryz.func71 (gA [[],[],[(4,oL v1 kf)]] (li (λ_=>(sK 3 53 2 [] (.inr (by kernel_rfl)) ·)) (gT sq 0 v1 λh2=>gY 1 [] [3,6,7,8] 1 (λv2(v6:apf bp)=>⟨19,[(3,(.own 0 (fV v6))),(6,(.d (.sl (hJ v1)))),(7,(ar (v1.length:Int))),(8,(ar (v2:Int)))],[.front 53 2 v6.length]⟩) (λv2 v6 h3 f1=>gR [[],[f0 (cy h3)],[]]) (λv2 v4 v5 v6 h3 f1 aW=>dD λh4=>gb aW (v6++[v4.dR]) [[],[t0 (cz h3)],[(1,oE (vV (bI h3)))],[(13,oA sR v6 ([v4.dR]) h4)],[(2,oq (cF h3 rfl h2))]] h3))))
def OF(N:Nat)(v1:apf Int):aph (apf Int):=bif Nat.ble (v1.length*8) 140737488355328 then some v1 else none
theorem S1{N v1 r}(U:OF N v1=some r):cO Tryz.prog 47 [(.d (.sl (bw v1)))] [] λr1 J=>r1=(.vec 0 0 r.length r.length 1)/\J=[.vec 3 1 (cd (r.map eF))]:=by
 obtain⟨hb,rfl⟩:=eB U;have hc:=lW hb (by decide);have J:=adO (xs:=bw v1) F4 (by rw[gi];exact hc.1) (by rw[gi];exact hc.2);have h2:cd (v1.map eF)=cd (bw v1):=by rw[ny]
 have h3:=gi (l:=v1);rw[h3]at J;rw[h2];exact J
def tO(N:Nat)(v1:Nat)(v3:apf Int)(v2:Int):Nat->Int->Int->aph Int
 |0,_,_=>none
 |v4+1,v5,v6=>
  bif (decide (v6<(v1:Int)))then
   bif (decide ((0:Int)<=v6))then
   Option.bind (v3[(v6).toNat]?) λv7=>
   bif (decide ((aQ (v5*v7))>v2))then
    some (aQ (v2+(1:Int)))
   else
    (λcg fi=>tO N v1 v3 v2 v4 cg fi) (aQ (v5*v7)) (aQ (v6+(1:Int)))
   else none
  else
   some v5
def Cf(N:Nat)(v1:Nat)(v2:Int)(v3:apf Int):aph Int:=
 bif (Nat.beq v3.length v1)then
 tO N v1 v3 v2 N (1:Int) (0:Int)
 else none
def o8(v3:apf Int)(l:apf aq):apf aq:= .vec 3 1 (cd (v3.map eF))::l
theorem aaF{N v1 v2 v3 r}(U:Cf N v1 v2 v3=some r):KH 57 [(.vec 0 0 v1 v1 1),(ar v2)] ([.vec 3 1 (cd (v3.map eF))]) (ar r) ([.vec 3 1 (cd (v3.map eF))]):=by
 rw[Cf]at U;refine DW 1 Tryz.func57 rfl (by kernel_rfl) (aoz rfl) ?_;refine l6 (s':=⟨24,[(0,(.vec 0 0 v1 v1 1)),(1,(ar v2))],(o8 v3 [])⟩) (by kernel_rfl) ?_;refine aA ?_;refine rg [] [] (o8 v3 []) (by kernel_rfl) ?_;refine aA ?_;refine rg [] [(5,(ar (1:Int)))] (o8 v3 []) (by kernel_rfl) ?_;refine aA ?_;refine aA ?_;have J:=na U;replace U:=(dk J).symm.trans U;refine rg [(4,⟨_,_, .pr .no (yZ (f:=eF) (aoF J))⟩)] [(8,(.vec 0 0 v1 v1 1)),(9,(ar (v1:Int))),(10,(ar (0:Int)))] (o8 v3 []) (by kernel_rfl) ?_;refine gp ?_;refine NV [1,5,8,9,10] 1 [] [] (λ((v4,v5,v6):Nat×Int×Int)=>⟨24,[(1,(ar v2)),(5,(ar v5)),(8,(.vec 0 0 v1 v1 1)),(9,(ar (v1:Int))),(10,(ar v6))],(o8 v3 [])⟩) (λ((v4,v5,v6):Nat×Int×Int)=>tO N v1 v3 v2 v4 v5 v6=some r) (λ((v4,v5,v6):Nat×Int×Int)=>v4) (N,(1:Int),(0:Int)) (aoz rfl) ⟨(lY (xs:=(v3.map eF)) jB),by kernel_rfl⟩ U ?_;rintro⟨v4,v5,v6⟩ U
 try dsimp only at U
 cases v4 with
 |zero=>
  rw[tO]at U;cases U
 |succ v4=>
  rw[tO]at U;refine aA ?_;refine rg [] [(11,(aL (decide (v6<(v1:Int)))))] (o8 v3 []) (by kernel_rfl) ?_;refine aA ?_;rcases ee (decide (v6<(v1:Int)))with h2|h2
  ·replace U:=(dk h2).symm.trans U;refine eK (t:=(decide (v6<(v1:Int)))) (by kernel_rfl) h2 ?_;refine dy ?_;refine bE ?_;refine aA ?_;refine gp ?_;refine aA ?_;have h3:=na U;replace U:=(dk h3).symm.trans U;obtain⟨v7,h4,U⟩:=cp U;refine rg [(1,⟨_,_, .pr (.ix ((v6).toNat)) (UJ (yZ (f:=eF) (aoF J)) (of_decide_eq_true h3) (of_decide_eq_true h2) rfl)⟩),(4,⟨_,_, .pr (.el ((eF v7).map AV.d)) (aeq (f:=eF) (aoF J) h4)⟩)] [(7,(ar v7))] (o8 v3 []) (by kernel_rfl) ?_;refine aA ?_;refine rg [] [(5,(ar (aQ (v5*v7))))] (o8 v3 []) (by kernel_rfl) ?_;refine aA ?_;refine rg [] [(19,(aL (decide ((aQ (v5*v7))>v2))))] (o8 v3 []) (by kernel_rfl) ?_;rcases ee (decide ((aQ (v5*v7))>v2))with h5|h5
   ·replace U:=(dk h5).symm.trans U;refine eK (t:=(decide ((aQ (v5*v7))>v2))) (by kernel_rfl) h5 ?_;refine aA ?_;refine rg [] [(4,(ar (aQ (v2+(1:Int)))))] (o8 v3 []) (by kernel_rfl) ?_;refine cY (fa (c9 (c9 (fa (c9 ?_)))));have hr:=aoK U;subst hr;exact uY (lY (xs:=(v3.map eF)) jB) (by kernel_rfl)
   replace U:=(eu h5).symm.trans U;refine eH (t:=(decide ((aQ (v5*v7))>v2))) (by kernel_rfl) h5 ?_;refine dy ?_;refine iK ?_;refine bE ?_;refine re [] [(10,(ar (aQ (v6+(1:Int))))),(22,(ar (aQ (v6+(1:Int)))))] (o8 v3 []) (by kernel_rfl) ?_;refine bE ?_;exact⟨(v4,(aQ (v5*v7)),(aQ (v6+(1:Int)))),⟨(lY (xs:=(v3.map eF)) jB),by kernel_rfl⟩,U,apd _⟩
  replace U:=(eu h2).symm.trans U;refine eH (t:=(decide (v6<(v1:Int)))) (by kernel_rfl) h2 ?_;refine o7 (kW (kW (rE rfl ?_)));refine bE ?_;refine aA ?_;refine rg [] [(4,(ar v5))] (o8 v3 []) (by kernel_rfl) ?_;refine cY ?_;have hr:=aoK U;subst hr;exact uY (lY (xs:=(v3.map eF)) jB) (by kernel_rfl)
def Pw(N:Nat)(v1:apf apg)(v3:Nat):aph (apf apg):=bif Nat.beq v1.length v3&&Nat.blt v3 4611686018427387904 then some (jC v1)else none
theorem afq{N v1 v3 r}(U:Pw N v1 v3=some r):cO Tryz.prog 180 [(.vec 0 0 v3 v3 1)] [.vec 9 1 (cd (v1.map im))] λr1 J=>r1=(.d (.sl (dS r)))/\J=[.gone]:=by
 obtain⟨hb,rfl⟩:=eB U;rw[aot]at hb;exact anK (aoF hb.1) (aoz hb.2)
def rQ(N:Nat)(iw:Nat->(apf apg)->aph ((apf apg))):apf cJ->Nat->Nat->(apf apg)->aph ((apf apg))
 |[],_,aH,bz=>
  iw aH bz
 |v12::aJ,v10,aH,bz=>
  bif (bL v12.cP==bL (bs []))then
   (λpC ye=>rQ N iw aJ (v10+1) pC ye) aH bz
  else
   bif (Nat.beq bz.length aH)then
   bif (Nat.ble ((aH+1)*16) 140737488355328)then
   (λpC ye=>rQ N iw aJ (v10+1) pC ye) (aH+1) (bz++[v12.cP])
   else none
   else none
def A2(N:Nat)(iw:Nat->(apf apg)->aph ((apf apg)))(v5:aw)(v8:Nat)(v9:apf apg):aph ((apf apg)):=
 rQ N iw v5.xIdx 0 v8 v9
def nE(N:Nat):apf aw->Nat->(apf apg)->aph ((apf apg))
 |[],v3,v4=>
  (Pw N v4 v3).bind λv7=>
  some v7
 |v5::v6,v3,v4=>
  bif (v5.az==3)then
   bif (Nat.beq v4.length v3)then
   bif (Nat.ble ((v3+1)*16) 140737488355328)then
   A2 N (λcg fi=>nE N v6 cg fi) v5 (v3+1) (v4++[v5.au])
   else none
   else none
  else
   A2 N (λcg fi=>nE N v6 cg fi) v5 v3 v4
def Ed(N:Nat)(v1:aw):aph ((apf apg)):=
 (yM N v1).bind λv2=>
 nE N (dE v2) 0 []
def n9(v1:aw)(v3:Nat)(v4:apf apg)(cw:Code)(cu:Code)(v2:aw)(v5:aw)(l:apf aq):apf aq:= .cells (aP v1).cells:: .cells [(.vec 2 0 v3 v3 1)]:: .vec 9 1 (cd (v4.map im)):: .lp .busy 9 cw cu (dc 36 [(3,(.ptr 1 0)),(8,(.fn 101 [(.bj [eJ v2] 0 0)]))]):: .cells (aP v5).cells::l
def BF(v1:aw)(v3:Nat)(v4:apf apg)(l:apf aq):apf aq:= .cells (aP v1).cells:: .cells [(.vec 2 0 v3 v3 1)]:: .vec 9 1 (cd (v4.map im))::l
def XW(v1:aw)(aH:Nat)(bz:apf apg)(v12:cJ)(cw:Code)(cu:Code)(v2:aw)(v5:aw)(l:apf aq):apf aq:= .cells (aP v1).cells:: .cells [(.vec 2 0 (aH+1) (aH+1) 1)]:: .vec 9 1 (cd ((bz++[v12.cP]).map im)):: .lp .busy 9 cw cu (dc 36 [(3,(.ptr 1 0)),(8,(.fn 101 [(.bj [eJ v2] 0 0)]))]):: .cells (aP v5).cells:: .cells (hX v12).cells::l
def we(v1:aw)(l:apf aq):apf aq:= .cells (aP v1).cells::l
theorem ac0{N v1 r}(U:Ed N v1=some r):KF 120 [(aP v1)] (.d (.sl (dS r))):=by
 rw[Ed]at U;refine ru Tryz.func120 rfl (by kernel_rfl) ?_;refine gx [0] 0 (aoC _) (s':=⟨36,[(0,(aP v1))],[]⟩) (by kernel_rfl) ?_;refine aA ?_;refine rg [] [(1,(.ptr 0 0))] (we v1 []) (by kernel_rfl) ?_;refine aA ?_;refine rg [] [(3,(.ptr 1 0))] (we v1 [.cells [(.d (.v (.slice none 0 0)))]]) (by kernel_rfl) ?_;refine aA ?_;refine aA ?_;obtain⟨v2,J,U⟩:=cp U;refine rg [(4,cL (MP J))] [(8,(.fn 101 [(.bj [eJ v2] 0 0)]))] (we v1 [.cells [(.d (.v (.slice none 0 0)))]]) (by kernel_rfl) ?_;refine gp ?_;refine ajG 1 0 9 1 rfl rfl ?_;refine GQ [3,8] 3 [] [] (aoz rfl) (s':=⟨36,[(3,(.ptr 1 0)),(8,(.fn 101 [(.bj [eJ v2] 0 0)]))],(we v1 [.cells [(.vec 2 0 0 0 1)], .vec 9 1 (cd (([]:apf apg).map im))])⟩) ⟨(eO trivial (eO trivial (lY (xs:=(([]:apf apg).map im)) jB))),by kernel_rfl⟩ ?_;refine vL (m:=3) (enc:=aP) (xs:=(dE v2)) (by kernel_rfl) (OE v2) (λ((v3,v4):Nat×(apf apg))=>(BF v1 v3 v4 [])) (λ((v3,v4):Nat×(apf apg)) l=>nE N l v3 v4=some r) (0,[]) (by kernel_rfl) U (by rintro⟨v3,v4⟩;rfl) (by rintro⟨v3,v4⟩;exact(zW (by kernel_rfl) (zW (by kernel_rfl) (zW Zt W6)))) (by kernel_rfl) rfl ?_ ?_
 ·rintro⟨v3,v4⟩ v5 v6 U h2 cw cu
  try dsimp only at U
  rw[nE]at U;refine GQ [3,9] 4 [] [] (aoC _) (s':=⟨36,[(3,(.ptr 1 0)),(9,(aP v5))],(BF v1 v3 v4 [.lp .ready 9 cw cu (dc 36 [(3,(.ptr 1 0)),(8,(.fn 101 [(.bj [eJ v2] 0 0)]))])])⟩) ⟨(eO trivial (eO trivial (lY (xs:=(v4.map im)) (eO trivial jB)))),by kernel_rfl⟩ ?_;refine re [] [(4,(.ptr 4 0))] (BF v1 v3 v4 [.lp .ready 9 cw cu (dc 36 [(3,(.ptr 1 0)),(8,(.fn 101 [(.bj [eJ v2] 0 0)]))]), .cells (aP v5).cells]) (by kernel_rfl) ?_;refine bE ?_;refine⟨(BF v1 v3 v4 []),(we v5 []),rfl,(by kernel_rfl),?_⟩;refine GQ [3,4] 5 [] [] (aoz rfl) (s':=⟨36,[(3,(.ptr 1 0)),(4,(.ptr 4 0))],(n9 v1 v3 v4 cw cu v2 v5 [])⟩) ⟨(eO trivial (eO trivial (lY (xs:=(v4.map im)) (eO trivial (eO trivial jB))))),by kernel_rfl⟩ ?_;refine gp ?_;refine aA ?_;refine aA ?_;refine rg [] [(12,(aL (v5.az==3)))] (n9 v1 v3 v4 cw cu v2 v5 []) (by kernel_rfl) ?_;refine aj7 [3,4] 5 [] [] (λ((v8,v9):Nat×(apf apg))=>⟨36,[(3,(.ptr 1 0)),(4,(.ptr 4 0))],(n9 v1 v8 v9 cw cu v2 v5 [])⟩) (λ((v8,v9):Nat×(apf apg))=>A2 N (λcg fi=>nE N v6 cg fi) v5 v8 v9=some r) (aoz rfl) ?_ ?_
  ·rcases ee (v5.az==3)with bG|bG
   ·replace U:=(dk bG).symm.trans U;refine eK (t:=(v5.az==3)) (by kernel_rfl) bG ?_;have bH:=na U;replace U:=(dk bH).symm.trans U;have bq:=na U;replace U:=(dk bq).symm.trans U;refine re [(13,⟨_,_, .pr (.ap (cd ((v4++[v5.au]).map im)) (cd (([v5.au]).map im)) (v3+1) (v3+1)) (Hd (f:=im) (h:=(n9 v1 v3 v4 cw cu v2 v5 [])) (y:=(.full (dS [v5.au]))) (k:=1) (aoF bH) rfl (λc hc=>IF c (by rw[nj];exact hc)) rfl rfl (lW bq (by decide)).1 (lW bq (by decide)).2)⟩)] [(17,(.vec 2 0 (v3+1) (v3+1) 1)),(16,(.full (dS [v5.au]))),(15,(dq v5.au)),(14,(.ptr 4 1)),(13,(.vec 2 0 v3 v3 1))] (we v1 [.cells [(.vec 2 0 (v3+1) (v3+1) 1)], .vec 9 1 (cd ((v4++[v5.au]).map im)), .lp .busy 9 cw cu (dc 36 [(3,(.ptr 1 0)),(8,(.fn 101 [(.bj [eJ v2] 0 0)]))]), .cells (aP v5).cells]) (by kernel_rfl) ?_;refine bE ?_;exact⟨((v3+1),(v4++[v5.au])),⟨(eO trivial (eO trivial (lY (xs:=((v4++[v5.au]).map im)) (eO trivial (eO trivial jB))))),by kernel_rfl⟩,U⟩
   replace U:=(eu bG).symm.trans U;refine eH (t:=(v5.az==3)) (by kernel_rfl) bG ?_;refine dy ?_;refine bE ?_;exact⟨(v3,v4),⟨(eO trivial (eO trivial (lY (xs:=(v4.map im)) (eO trivial (eO trivial jB))))),by kernel_rfl⟩,U⟩
  rintro⟨v8,v9⟩ U
  try dsimp only at U
  rw[A2]at U;refine aA ?_;refine rg [(7,oL v5.xIdx kQ)] [(19,(.d (.sl (eQ v5.xIdx)))),(20,(ar (v5.xIdx.length:Int))),(21,(ar (0:Int)))] (n9 v1 v8 v9 cw cu v2 v5 []) (by kernel_rfl) ?_;refine gp ?_;refine vH 19 (eQ v5.xIdx) (by kernel_rfl) λh4=> ?_;have h5:=Ag kQ h4;refine NV [3,19,20,21] 5 [] [] (λ((v10,v11,aH,bz):Nat×(apf cJ)×Nat×(apf apg))=>⟨36,[(3,(.ptr 1 0)),(19,(.d (.sl (eQ v5.xIdx)))),(20,(ar (v5.xIdx.length:Int))),(21,(ar (v10:Int)))],(n9 v1 aH bz cw cu v2 v5 [])⟩) (λ((v10,v11,aH,bz):Nat×(apf cJ)×Nat×(apf apg))=>v5.xIdx.drop v10=v11/\rQ N (λcg fi=>nE N v6 cg fi) v11 v10 aH bz=some r) (λ((v10,v11,aH,bz):Nat×(apf cJ)×Nat×(apf apg))=>v11.length) (0,v5.xIdx,v8,v9) (aoz rfl) ⟨(eO trivial (eO trivial (lY (xs:=(v9.map im)) (eO trivial (eO trivial jB))))),by kernel_rfl⟩ ⟨rfl,U⟩ ?_;rintro⟨v10,v11,aH,bz⟩ ⟨h6,U⟩;cases v11 with
  |nil=>
   rw[rQ]at U;refine aA ?_;refine rg [] [(22,(aL (decide ((v10:Int)<(v5.xIdx.length:Int)))))] (n9 v1 aH bz cw cu v2 v5 []) (by kernel_rfl) ?_;refine aA ?_;refine eH (t:=(decide ((v10:Int)<(v5.xIdx.length:Int)))) (by kernel_rfl) (cy h6) ?_;refine o7 (kW (kW (rE rfl ?_)));refine iK ?_;refine acX (BF v1 aH bz []) rfl (zW (by kernel_rfl) (zW (by kernel_rfl) (zW Zt W6))) ⟨(eO trivial (eO trivial (lY (xs:=(bz.map im)) (eO trivial jB)))),by kernel_rfl⟩ ?_;exact⟨(aH,bz),(by kernel_rfl),U⟩
  |cons v12 aJ=>
   rw[rQ]at U;refine aA ?_;refine rg [] [(22,(aL (decide ((v10:Int)<(v5.xIdx.length:Int)))))] (n9 v1 aH bz cw cu v2 v5 []) (by kernel_rfl) ?_;refine aA ?_;refine eK (t:=(decide ((v10:Int)<(v5.xIdx.length:Int)))) (by kernel_rfl) (cz h6) ?_;refine dy ?_;refine bE ?_;refine aA ?_;refine gp ?_;refine aA ?_;refine rg [(1,oE (nu (bI h6)))] [(6,(.ptr 5 0))] (n9 v1 aH bz cw cu v2 v5 [.cells (hX v12).cells]) (by kernel_rfl) ?_;refine aA ?_;refine rg [] [(27,(aL (!(bL v12.cP==bL (bs [])))))] (n9 v1 aH bz cw cu v2 v5 [.cells (hX v12).cells]) (by kernel_rfl) ?_;rcases ee (bL v12.cP==bL (bs []))with h7|h7
   ·replace U:=(dk h7).symm.trans U;refine eH (t:=(!(bL v12.cP==bL (bs [])))) (by kernel_rfl) (dH h7) ?_;refine dy ?_;refine iK ?_;refine bE ?_;refine re [(2,oq (cF h6 rfl h5))] [(21,(ar ((v10+1:Nat):Int))),(33,(ar ((v10+1:Nat):Int)))] (n9 v1 aH bz cw cu v2 v5 [.cells (hX v12).cells]) (by kernel_rfl) ?_;refine bE ?_;exact⟨(v10+1,aJ,aH,bz),⟨(eO trivial (eO trivial (lY (xs:=(bz.map im)) (eO trivial (eO trivial jB))))),by kernel_rfl⟩,⟨ma h6,U⟩,apd _⟩
   replace U:=(eu h7).symm.trans U;refine eK (t:=(!(bL v12.cP==bL (bs [])))) (by kernel_rfl) (eo h7) ?_;have h8:=na U;replace U:=(dk h8).symm.trans U;have h9:=na U;replace U:=(dk h9).symm.trans U;refine re [(13,⟨_,_, .pr (.ap (cd ((bz++[v12.cP]).map im)) (cd (([v12.cP]).map im)) (aH+1) (aH+1)) (Hd (f:=im) (h:=(n9 v1 aH bz cw cu v2 v5 [.cells (hX v12).cells])) (y:=(.full (dS [v12.cP]))) (k:=1) (aoF h8) rfl (λc hc=>IF c (by rw[nj];exact hc)) rfl rfl (lW h9 (by decide)).1 (lW h9 (by decide)).2)⟩)] [(32,(.vec 2 0 (aH+1) (aH+1) 1)),(31,(.full (dS [v12.cP]))),(30,(dq v12.cP)),(29,(.ptr 5 2)),(28,(.vec 2 0 aH aH 1))] (XW v1 aH bz v12 cw cu v2 v5 []) (by kernel_rfl) ?_;refine iK ?_;refine bE ?_;refine re [(2,oq (cF h6 rfl h5))] [(21,(ar ((v10+1:Nat):Int))),(33,(ar ((v10+1:Nat):Int)))] (XW v1 aH bz v12 cw cu v2 v5 []) (by kernel_rfl) ?_;refine bE ?_;exact⟨(v10+1,aJ,(aH+1),(bz++[v12.cP])),⟨(eO trivial (eO trivial (lY (xs:=((bz++[v12.cP]).map im)) (eO trivial (eO trivial jB))))),by kernel_rfl⟩,⟨ma h6,U⟩,apd _⟩
 rintro⟨v3,v4⟩ U
 try dsimp only at U
 rw[nE]at U;refine iK ?_;refine bE ?_;refine aA ?_;obtain⟨v7,h3,U⟩:=cp U;refine rg [(4,⟨_,_, .MV (wV (xs:=(v4.map im)) c6) (ahP c6) (mg:=[(.vec 2 0 v3 v3 1)]) (h:=(BF v1 v3 v4 [.gone])) (l:=[2]) (by kernel_rfl) (by kernel_rfl) (by kernel_rfl) (by kernel_rfl) (afq h3)⟩)] [(2,(.d (.sl (dS v7))))] (we v1 [.cells [(.vec 2 0 v3 v3 1)], .gone, .gone]) (by kernel_rfl) ?_;refine cY ?_;have hr:=aoK U;subst hr;exact gD (by kernel_rfl)
def HU(N:Nat)(v1:aV)(v2:apf aI)(v3:apf aG):apf apg->Nat->aph Int
 |[],_=>
  some (0:Int)
 |v8::v9,v6=>
  (zp N v1 v2 v8).bind λv10=>
  bif (v10.2.2 !=0)then
   some v10.2.2
  else
   (ui N v3 v8 v10.2.1 v10.1).bind λv11=>
   bif (v11 !=0)then
    some v11
   else
    (HU N v1 v2 v3 v9 (v6+1))
def KZ(N:Nat)(v1:aV)(v2:apf aI)(v3:apf aG)(v4:aw):aph Int:=
 (Ed N v4).bind λv5=>
 HU N v1 v2 v3 v5 0
theorem anF{N v1 v2 v3 v4}:KO 72 [(dU v1),(.d (.sl (aS v2))),(.d (.sl (aX v3))),(aP v4)] ar (KZ N v1 v2 v3 v4):=
 fw Tryz.func72 (ax λv5 J=>gA [[],[(4,cL (ac0 J)),(7,oL v5 jX)]] (gT sk 16 v5 λh3=>ff 1 [] [1,2,4,16,17,18] 2 (λv6=>⟨42,[(1,(.d (.sl (aS v2)))),(2,(.d (.sl (aX v3)))),(4,(.ptr 0 0)),(16,(.d (.sl (dS v5)))),(17,(ar (v5.length:Int))),(18,(ar (v6:Int)))],[.cells (dU v1).cells, .cells (aP v4).cells]⟩) (λv6 h4 f1=>gR [[],[f0 (cy h4)],[]]) (λv6 v8 v9 h4 f1 aW=>ax λv10 h5=>gA [[],[t0 (cz h4)],[(1,oE (tg (bI h4)))],[(10,cK M6 h5)],[]] (bP λh6=>ax λv11 h7=>gA [[f0 h6],[(13,cK aaz h7)],[]] (bP λh8=>gb aW () [[f0 h8],[(2,oq (cF h4 rfl h3))]] h4)))))
def Gv(N:Nat)(v1:apf aG):aph ((apf aG)×(apf (apg×aT))):=
 some (v1,[])
def Ty(v1:apf aG)(l:apf aq):apf aq:= .cells [(.d (.sl (aX v1)))]:: .map (bU bW []):: .cells [(.mp 1)]::l
theorem zU(N:Nat)(v1:apf aG)(r:(apf aG)×(apf (apg×aT)))(U:Gv N v1=some r):KH 42 [(.d (.sl (aX v1)))] [] (.fn 68 [(.ptr 2 0),(.ptr 0 0)]) ([.cells [(.d (.sl (aX r.1)))], .map (bU bW r.2), .cells [(.mp 1)]]):=by
 rw[Gv]at U;refine DW 3 Tryz.func42 rfl (by kernel_rfl) (aoz rfl) ?_;refine l6 (s':=⟨6,[(0,(.d (.sl (aX v1))))],[]⟩) (by kernel_rfl) ?_;refine aA ?_;refine rg [] [(1,(.ptr 0 0))] [.cells [(.d (.sl (aX v1)))]] (by kernel_rfl) ?_;refine aA ?_;refine rg [] [(3,(.ptr 2 0))] (Ty v1 []) (by kernel_rfl) ?_;refine aA ?_;refine rg [] [(2,(.fn 68 [(.ptr 2 0),(.ptr 0 0)]))] (Ty v1 []) (by kernel_rfl) ?_;refine cY ?_;have hr:=aoK U;subst hr;exact uY (eO trivial (eO trivial (eO trivial jB))) (by kernel_rfl)
def BH(N:Nat)(v1:apf Int):aph ((apf Int)):=
 bif (Nat.ble ((0+v1.length)*8) 140737488355328)then
 some v1
 else none
def OD(v1:apf Int)(l:apf aq):apf aq:= .cells [(.own 1 (bw v1))]:: .front 3 1 v1.length::l
theorem TD{N v1 r}(U:BH N v1=some r):KH 73 [(.d (.sl (bw v1)))] [] (.fn 121 [(.bj [[(.sl (bw r))]] 0 0)]) []:=by
 rw[BH]at U;refine qU 0 Tryz.func73 rfl (by kernel_rfl) (aoz rfl) ?_;refine l6 (s':=⟨6,[(0,(.d (.sl (bw v1))))],[]⟩) (by kernel_rfl) ?_;refine aA ?_;refine rg [] [(1,(.ptr 0 0))] [.cells [(.d (.sl (bw v1)))]] (by kernel_rfl) ?_;refine aA ?_;have J:=na U;replace U:=(dk J).symm.trans U;refine rg [(4,oZ nV v1 J)] [] (OD v1 []) (by kernel_rfl) ?_;refine aA ?_;refine rg [] [(2,(.fn 121 [(.ptr 0 0)]))] (OD v1 []) (by kernel_rfl) ?_;refine gx [2] 2 (aoz rfl) (s':=⟨6,[(2,(.fn 121 [(.ptr 0 0)]))],(OD v1 [])⟩) (by kernel_rfl) ?_;refine aiL 0 (s':=⟨6,[(2,(.fn 121 [(.bj [[(.sl (bw v1))]] 0 0)]))],[.gone, .front 3 1 v1.length]⟩) (by kernel_rfl) ?_;refine cY ?_;have hr:=aoK U;subst hr;exact jt (by kernel_rfl)
def Be(N:Nat)(v6:Bool):apf Int->Nat->Int->aph Int
 |[],_,_=>
  some (0:Int)
 |v9::v10,v7,v11=>
  Option.bind (bif v6 then some false else bif (v11 !=0)then
  some (decide (v9>(IntKind.i64.wrap (((65536:Int)).tdiv v11))))
  else none) λv12=>
  bif v12 then
   some (2:Int)
  else
   bif v6 then
    (λgP=>Be N v6 v10 (v7+1) gP) v11
   else
    (λgP=>Be N v6 v10 (v7+1) gP) (aQ (v11*v9))
def Ji(N:Nat)(v1:apf Int):apf Int->Nat->Bool->aph Int
 |[],_,v6=>
  Be N v6 v1 0 (1:Int)
 |v4::v5,v2,v6=>
  bif (decide (v4<0))then
   some (1:Int)
  else
   Option.bind (bif v6 then some true else some (v4==0)) λaJ=>
   (λcg=>Ji N v1 v5 (v2+1) cg) aJ
def Of(N:Nat)(v1:apf Int):aph Int:=
 bif (decide ((v1.length:Int)>16))then
  some (2:Int)
 else
  Ji N v1 v1 0 false
theorem aew{N v1}:KO 243 [(.d (.sl (bw v1)))] ar (Of N v1):=
 fw Tryz.func243 (gA [[],[(4,oL v1 gi)]] (bP λJ=>gA [[f0 J],[],[(4,oL v1 gi)]] (gT nV 0 v1 λh3=>gY 1 [] [0,3,4,12,13,14] 0 (λv2(v6:Bool)=>⟨46,[(0,(.d (.sl (bw v1)))),(3,(ar (1:Int))),(4,(aL v6)),(12,(.d (.sl (bw v1)))),(13,(ar (v1.length:Int))),(14,(ar (v2:Int)))],[]⟩) (λv2 v6 h4 f1=>gA [[],[f0 (cy h4)],[(4,oL v1 gi)]] (gT nV 0 v1 λh6=>gY 2 [] [3,4,26,27,28] 0 (λv7(v11:Int)=>⟨46,[(3,(ar v11)),(4,(aL v6)),(26,(.d (.sl (bw v1)))),(27,(ar (v1.length:Int))),(28,(ar (v7:Int)))],[]⟩) (λv7 v11 h7 f2=>gR [[],[f0 (cy h7)],[]]) (λv7 v9 v10 v11 h7 f2 fe=>gA [[],[t0 (cz h7)],[(1,oE (jN (bI h7)))]] (gG (λv12=>[(39,(aL v12))]) (λ_=>[]) (aC (λh8=>gE [(2,bF (dH h8))] []) λh8=>dD λh9=>gE [(2,bT (eo h8))] [(16,⟨_,_, .nz (b:=v11) (bne_iff_ne.1 h9)⟩)]) λv12=>jJ λ_=>aC (λbq=>gb fe v11 [[f0 (dH bq)],[(2,oq (cF h7 rfl h6))]] h7) λbq=>gb fe (aQ (v11*v9)) [[t0 (eo bq)],[],[(2,oq (cF h7 rfl h6))]] h7)))) (λv2 v4 v5 v6 h4 f1 aW=>gA [[],[t0 (cz h4)],[(1,oE (jN (bI h4)))],[]] (bP λcU=>gA [[f0 cU]] (gG (λaJ=>[(4,(aL aJ))]) (λ_=>[]) (aC (λcT=>gE [(1,bT cT)] []) λcT=>gE [(1,bF cT)] []) λaJ=>gb aW aJ [[(2,oq (cF h4 rfl h3))]] h4))))))
def Au(N:Nat):apf Int->Nat->Int->aph Int
 |[],_,v11=>
  some v11
 |v9::v10,v7,v11=>
  (λgP=>Au N v10 (v7+1) gP) (aQ (v11*v9))
def JJ(N:Nat)(v1:apf Int):apf Int->Nat->aph Int
 |[],_=>
  Au N v1 0 (1:Int)
 |v5::v6,v3=>
  bif (v5==0)then
   some (0:Int)
  else
   (JJ N v1 v6 (v3+1))
def EH(N:Nat)(v1:apf Int):aph Int:=
 (Of N v1).bind λv2=>
 bif (v2 !=0)then
  some (0:Int)
 else
  JJ N v1 v1 0
theorem YI{N v1}:KO 182 [(.d (.sl (bw v1)))] ar (EH N v1):=
 fw Tryz.func182 (ax λv2 J=>gA [[],[(4,cK aew J)]] (bP λh2=>gA [[f0 h2],[],[(4,oL v1 gi)]] (gT nV 0 v1 λh4=>ff 1 [] [0,3,11,12,13] 0 (λv3=>⟨31,[(0,(.d (.sl (bw v1)))),(3,(ar (1:Int))),(11,(.d (.sl (bw v1)))),(12,(ar (v1.length:Int))),(13,(ar (v3:Int)))],[]⟩) (λv3 h5 f1=>gA [[],[f0 (cy h5)],[(4,oL v1 gi)]] (gT nV 0 v1 λh7=>gY 2 [] [3,20,21,22] 0 (λv7(v11:Int)=>⟨31,[(3,(ar v11)),(20,(.d (.sl (bw v1)))),(21,(ar (v1.length:Int))),(22,(ar (v7:Int)))],[]⟩) (λv7 v11 h8 f2=>gR [[],[f0 (cy h8)],[]]) (λv7 v9 v10 v11 h8 f2 fe=>gb fe (aQ (v11*v9)) [[],[t0 (cz h8)],[(1,oE (jN (bI h8)))],[],[(2,oq (cF h8 rfl h7))]] h8))) (λv3 v5 v6 h5 f1 aW=>gA [[],[t0 (cz h5)],[(1,oE (jN (bI h5)))],[]] (bP λh9=>gb aW () [[f0 h9],[(2,oq (cF h5 rfl h4))]] h5)))))
def yC(N:Nat)(v1:apf Int):Nat->Int->Int->(apf Int)->aph ((apf Int)×Bool)
 |0,_,_,_=>none
 |v5+1,v6,v7,v8=>
  bif (decide (v7>=0))then
   bif (decide ((0:Int)<=v7))then
   Option.bind (v1[(v7).toNat]?) λv9=>
   bif (v9 !=0)then
   bif (Nat.beq v8.length v1.length)then
   bif (decide (v7<(v1.length:Int)))then
   Option.bind (v8[(v7).toNat]?) λv10=>
   (λcg fi vG=>yC N v1 v5 cg fi vG) (IntKind.i64.wrap ((v6).tdiv v9)) (aQ (v7-(1:Int))) (v8.set ((v7).toNat) ((v6).tmod v9))
   else none
   else none
   else none
   else none
  else
   bif (Nat.beq v8.length v1.length)then
   some (v8,true)
   else none
def E1(N:Nat)(v1:apf Int)(v2:Int):aph ((apf Int)×Bool):=
 Option.bind (bif (decide (v2<0))then some true else (EH N v1).bind λv3=>
 some (decide (v2>=v3))) λv4=>
 bif v4 then
  some ([],false)
 else
  bif (Nat.ble (v1.length*8) 140737488355328)then
  yC N v1 N v2 (aQ ((v1.length:Int)-(1:Int))) (List.replicate v1.length 0)
  else none
theorem anz{N v1 v2}:KO 123 [(.d (.sl (bw v1))),(ar v2)] (λr=> .bg [(.d (.sl (bw r.1))),(aL r.2)]) (E1 N v1 v2):=
 fw Tryz.func123 (gA [[]] (gG (λv4=>[(15,(aL v4))]) (λ_=>[]) (aC (λJ=>gE [(2,bT J)] []) λJ=>ax λv3 h2=>gE [(2,bF J)] [(16,cK YI h2)]) λv4=>bP λh4=>dD λh5=>agc 1 [[f0 h4],[(4,oL v1 gi),(7,⟨_,_, .pr (.mk (cd ((List.replicate v1.length 0).map eF)) v1.length v1.length) (adM (f:=eF) (d0:=0) (cW:=8) rfl rfl (lW h5 (by decide)))⟩)],[(4,oL v1 gi)]] [0,1,6,7] 1 [] [] (λ(v6:Int)(v7:Int)(v8:(apf Int))=>⟨42,[(0,(.d (.sl (bw v1)))),(1,(ar v6)),(6,(.vec 0 0 v1.length v1.length 1)),(7,(ar v7))],[.vec 3 1 (cd (v8.map eF))]⟩) (yC N v1) (λv5 v6 v7 v8 f1 aW=>gA [[]] (aC (λh6=>dD λh8=>ax λv9 h7=>dD λh9=>dD λbG=>dD λbH=>ax λv10 bq=>alR aW ((IntKind.i64.wrap ((v6).tdiv v9)),(aQ (v7-(1:Int))),(v8.set ((v7).toNat) ((v6).tmod v9))) [[t0 h6],[(16,⟨_,_, .el (xs:=bw v1) (i:=v7) (of_decide_eq_true h8) (jN h7)⟩),(22,⟨_,_, .nz (b:=v9) (bne_iff_ne.1 h9)⟩),(25,⟨_,_, .pr (.ix ((v7).toNat)) (UJ (yZ (f:=eF) (aoF bG)) (of_decide_eq_true h8) (of_decide_eq_true bH) rfl)⟩),(28,⟨_,_, .pr (.st ((eF v10).map AV.d) (cd ((v8.set ((v7).toNat) ((v6).tmod v9)).map eF))) (ahZ (f:=eF) (j:=0) (y:=((v6).tmod v9)) (zs:=[(ar ((v6).tmod v9))]) (aoF bG) bq rfl)⟩)],[(10,⟨_,_, .el (xs:=bw v1) (i:=v7) (of_decide_eq_true h8) (jN h7)⟩),(16,⟨_,_, .nz (b:=v9) (bne_iff_ne.1 h9)⟩)],[]] (kM:=[.H9 ((v8.set ((v7).toNat) ((v6).tmod v9)).map eF)])) λh6=>dD λcT=>gA [[f0 h6]] (li (λ_=>(aln [6] 0 (bw v8) v1.length 1 3 1 [.H9 (v8.map eF)] (aiN (aoF cT)) (ny _) (anr (λ_=>rfl) _) ·)) (gR [[]])))) (kM:=[.H9 ((List.replicate v1.length 0).map eF)])))
def BT(N:Nat)(v1:apf Int):Nat->Nat->aph (apf (apf Int))
 |0,_=>some []
 |n+1,k=>Option.bind (E1 N v1 (k:Int)) λr=>bif r.2 then Option.bind (BT N v1 n (k+1)) λl=>some (r.1::l)else none
def EB(N:Nat)(v1:apf Int):aph (apf (apf Int)):=(EH N v1).bind λn=>bif (decide ((0:Int)<=n)&&Nat.ble n.toNat 9223372036854775807)then BT N v1 n.toNat 0 else none
theorem XF{N:Nat}{v1:apf Int}:∀(n s:Nat)(r:apf (apf Int)),BT N v1 n s=some r->r.length=n/\∀(k:Nat)(p:apf Int),r[k]?=some p->E1 N v1 ((s+k:Nat):Int)=some (p,true)
 |0,s,r,h=>by cases h;exact⟨rfl,λk p hk=>by simp at hk⟩
 |n+1,s,r,h=>by
  rw[BT]at h;obtain⟨x,J,h⟩:=cp h;obtain⟨hb,h⟩:=kG h;obtain⟨l,h2,h⟩:=cp h;cases h
  obtain⟨q1,q2⟩:=XF n (s+1) l h2;refine⟨by rw[aou,q1],λk p hk=> ?_⟩;cases k with
  |zero=>
   cases hk
   obtain⟨a,b⟩:=x;simp only at hb;subst hb;exact J
  |succ k=>
   rw[show s+(k+1)=s+1+k by omega];exact q2 k p hk
theorem S6{N:Nat}{v1:apf Int}{r:apf (apf Int)}(U:EB N v1=some r):ze Tryz.prog 121 [ph v1] (r.map pY):=by
 obtain⟨n,J,U⟩:=cp U;obtain⟨hb,hL⟩:=kG U;rw[aot]at hb;obtain⟨q1,q2⟩:=XF _ _ _ hL;have hn:((n.toNat:Nat):Int)=n:=Int.toNat_of_nonneg (of_decide_eq_true hb.1);refine akk v1 r (by rw[q1];exact aoz hb.2) (by rw[q1,hn];exact YI _ J) λk p hk=> ?_;have:=q2 k p hk;rw[aoL]at this;exact anz _ this
def Gc(N:Nat)(v3:apf aI)(v2:apf Int):apf dg->Nat->(apf aI)->aph ((apf aI))
 |[],_,v8=>
  bif (Nat.ble ((v8.length+v3.length)*24) 140737488355328)then
  some (v8++v3)
  else none
 |v6::v7,v4,v8=>
  Option.bind (v2[((v4:Int)).toNat]?) λv9=>
  bif (aQ v9==v9)then
  bif (Nat.ble ((v8.length+1)*24) 140737488355328)then
  (λcg=>Gc N v3 v2 v7 (v4+1) cg) (v8++[(⟨v6.au,(Int64.ofInt v9)⟩:aI)])
  else none
  else none
def IC(N:Nat)(v1:apf dg)(v2:apf Int)(v3:apf aI):aph ((apf aI)):=
 Gc N v3 v2 v1 0 []
theorem aar{N v1 v2 v3}:KO 75 [(.d (.sl (hJ v1))),(.d (.sl (bw v2))),(.d (.sl (aS v3)))] (λr=> .d (.sl (aS r))) (IC N v1 v2 v3):=
 fw Tryz.func75 (gA [[],[],[(4,oL v1 kf)]] (li (λ_=>(sK 7 68 2 [] (.inr (by kernel_rfl)) ·)) (gT sq 0 v1 λh2=>gY 1 [] [1,2,7,10,11,12] 1 (λv4(v8:apf aI)=>⟨31,[(1,(.d (.sl (bw v2)))),(2,(.d (.sl (aS v3)))),(7,(.own 0 (aS v8))),(10,(.d (.sl (hJ v1)))),(11,(ar (v1.length:Int))),(12,(ar (v4:Int)))],[.front 68 2 v8.length]⟩) (λv4 v8 h3 f1=>dD λh4=>gR [[],[f0 (cy h3)],[(7,oA yk v8 v3 h4)]]) (λv4 v6 v7 v8 h3 f1 aW=>ax λv9 h5=>dD λh7=>dD λh8=>gb aW (v8++[(⟨v6.au,(Int64.ofInt v9)⟩:aI)]) [[],[t0 (cz h3)],[(4,oE (vV (bI h3)))],[(16,oE (jN h5)),(23,⟨_,_, .eq (congrArg (λz=>AV.agg [(dq v6.au),z]) (Jy (beq_iff_eq.1 h7)))⟩),(28,oA yk v8 ([(⟨v6.au,(Int64.ofInt v9)⟩:aI)]) h8)],[(2,oq (cF h3 rfl h2))]] h3))))
def wm(N:Nat)(v1:apf aI)(v2:apf aG)(v3:apf (apg×aT)):aph ((apf aI)):=
 some v1
def Dy(v2:apf aG)(v3:apf (apg×aT))(v1:apf aI)(l:apf aq):apf aq:= .cells [(.mp 2)]:: .cells [(.d (.sl (aX v2)))]:: .map (bU bW v3):: .cells [(.fn 68 [(.ptr 0 0),(.ptr 1 0)])]:: .cells [(.d (.sl (aS v1)))]::l
theorem jK{N v1 v2 v3 r}(U:wm N v1 v2 v3=some r):KH 41 [(.fn 68 [(.ptr 0 0),(.ptr 1 0)]),(.d (.sl (aS v1)))] ([.cells [(.mp 2)], .cells [(.d (.sl (aX v2)))], .map (bU bW v3)]) (.ptr 5 0) ([.cells [(.mp 2)], .cells [(.d (.sl (aX v2)))], .map (bU bW v3), .cells [(.fn 68 [(.ptr 0 0),(.ptr 1 0)])], .cells [(.d (.sl (aS r)))], .cells [(.fn 65 [(.ptr 3 0),(.ptr 4 0),(.ptr 6 0)]),(.fn 63 [(.ptr 6 0)])], .cells [(.ptr 5 0)]]):=by
 rw[wm]at U;refine DW 7 Tryz.func41 rfl (by kernel_rfl) (aoz rfl) ?_;refine l6 (s':=⟨17,[(0,(.fn 68 [(.ptr 0 0),(.ptr 1 0)])),(1,(.d (.sl (aS v1))))],[.cells [(.mp 2)], .cells [(.d (.sl (aX v2)))], .map (bU bW v3)]⟩) (by kernel_rfl) ?_;refine aA ?_;refine rg [] [(2,(.ptr 3 0)),(3,(.ptr 4 0))] (Dy v2 v3 v1 []) (by kernel_rfl) ?_;refine aA ?_;refine rg [] [(5,(.ptr 6 0))] (Dy v2 v3 v1 [.cells [(.d (.v .nilFunc)),(.d (.v .nilFunc))], .cells [(.ptr 5 0)]]) (by kernel_rfl) ?_;refine aA ?_;refine rg [] [] (Dy v2 v3 v1 [.cells [(.d (.v .nilFunc)),(.fn 63 [(.ptr 6 0)])], .cells [(.ptr 5 0)]]) (by kernel_rfl) ?_;refine aA ?_;refine rg [] [] (Dy v2 v3 v1 [.cells [(.fn 65 [(.ptr 3 0),(.ptr 4 0),(.ptr 6 0)]),(.fn 63 [(.ptr 6 0)])], .cells [(.ptr 5 0)]]) (by kernel_rfl) ?_;refine aA ?_;refine rg [] [(4,(.ptr 5 0))] (Dy v2 v3 v1 [.cells [(.fn 65 [(.ptr 3 0),(.ptr 4 0),(.ptr 6 0)]),(.fn 63 [(.ptr 6 0)])], .cells [(.ptr 5 0)]]) (by kernel_rfl) ?_;refine cY ?_;have hr:=aoK U;subst hr;exact uY (eO trivial (eO trivial (eO trivial (eO trivial (eO trivial (eO trivial (eO trivial jB))))))) (by kernel_rfl)
def CG(N:Nat)(v1:apg)(v2:apf aG)(v3:apf (apg×aT)):aph (aT×Int×(apf (apg×aT))):=
 bif (lN v3 v1)then
  some ((gg v3 v1 (⟨(⟨0,0,0,0,0⟩:aM),[],[]⟩:aT)),(0:Int),v3)
 else
  (uK N v2 v1).bind λv4=>
  bif v4.2 then
   (Ee N v4.1).bind λv5=>
   bif (v5 !=0)then
    some (v4.1,(1:Int),v3)
   else
    bif (Nat.blt v3.length 9223372036854775807)then
    some (v4.1,(0:Int),((v1,v4.1)::v3))
    else none
  else
   some (v4.1,(9:Int),v3)
theorem Ws{N v1 v2 v3}:KP 68 [(dq v1),(.ptr 0 0),(.ptr 1 0)] [.cells [(.mp 2)], .cells [(.d (.sl (aX v2)))], .map (bU bW v3)] (λr=> .bg [(iz r.1),(ar r.2.1)]) (λr=>[.cells [(.mp 2)], .cells [(.d (.sl (aX v2)))], .map (bU bW r.2.2)]) (CG N v1 v2 v3):=
 fh 3 Tryz.func68 (gA [[],[(8,⟨_,_, .eq (am2 bW (.agg #[.int .i64 0, .int .i64 0, .int .i64 0, .int .i64 0, .int .i64 0, .slice none 0 0, .slice none 0 0]) (⟨(⟨0,0,0,0,0⟩:aM),[],[]⟩:aT) rfl true v3 v1)⟩)],[]] (aC (λJ=>gH [[t0 J],[]]) λJ=>ax λv4 h2=>gA [[f0 J],[(7,cK Hb h2)],[]] (aC (λh3=>ax λv5 h4=>gA [[f0 (dH h3)],[(4,cK T3 h4)]] (aC (λh5=>gH [[t0 h5],[]]) λh5=>dD λh6=>gH [[f0 h5],[(10,⟨_,_, .sd (o:= .none) (aiw (f:=bW) h6)⟩)],[]])) λh3=>gH [[t0 (eo h3)],[]])))
def DZ(N:Nat)(v1:Int)(v2:Int64)(v3:Int):aph (Int×Int):=
 Option.bind (bif (decide (v2.toInt<0))then some true else some (decide (v2.toInt>=v3))) λv4=>
 bif v4 then
  some ((0:Int),(12:Int))
 else
  some ((aQ ((aQ (v1*v3))+v2.toInt)),(0:Int))
theorem aag{N v1 v2 v3}:KO 172 [(ar v1),(bC v2),(ar v3)] (λr=> .bg [(ar r.1),(ar r.2)]) (DZ N v1 v2 v3):=
 fw Tryz.func172 (gA [[]] (gG (λv4=>[(14,(aL v4))]) (λ_=>[]) (aC (λJ=>gE [(2,bT J)] []) λJ=>gE [(2,bF J)] []) λv4=>bP λh3=>gR [[f0 h3],[]]))
def Em(N:Nat)(v6:aT×Int×(apf (apg×aT)))(v3:Int)(v1:apf aI):apf bp->Nat->Int->aph (Int64×Int×(apf (apg×aT)))
 |[],_,v11=>
  bif (decide ((0:Int)<=v11))then
  Option.bind (v6.1.eI[(v11).toNat]?) λv12=>
  bif (aQ (if(if(aQ (v3-(1:Int)))<v12.xN.toInt then(aQ (v3-(1:Int)))else v12.xN.toInt)>0then(if(aQ (v3-(1:Int)))<v12.xN.toInt then(aQ (v3-(1:Int)))else v12.xN.toInt)else(0:Int))==(if(if(aQ (v3-(1:Int)))<v12.xN.toInt then(aQ (v3-(1:Int)))else v12.xN.toInt)>0then(if(aQ (v3-(1:Int)))<v12.xN.toInt then(aQ (v3-(1:Int)))else v12.xN.toInt)else(0:Int)))then
  some ((Int64.ofInt (if(if(aQ (v3-(1:Int)))<v12.xN.toInt then(aQ (v3-(1:Int)))else v12.xN.toInt)>0then(if(aQ (v3-(1:Int)))<v12.xN.toInt then(aQ (v3-(1:Int)))else v12.xN.toInt)else(0:Int))),(0:Int),v6.2.2)
  else none
  else none
 |v9::v10,v7,v11=>
  (tP N v9 v1).bind λaJ=>
  bif (aJ.2 !=0)then
   some ((0:Int64),aJ.2,v6.2.2)
  else
   Option.bind (v6.1.aU[((v7:Int)).toNat]?) λaH=>
   (DZ N v11 aJ.1 aH).bind λbz=>
   bif (bz.2 !=0)then
    some ((0:Int64),bz.2,v6.2.2)
   else
    (λcg=>Em N v6 v3 v1 v10 (v7+1) cg) bz.1
def H0(N:Nat)(v1:apf aI)(v2:cJ)(v3:Int)(v4:apf aG)(v5:apf (apg×aT)):aph (Int64×Int×(apf (apg×aT))):=
 (CG N v2.cP v4 v5).bind λv6=>
 bif (v6.2.1 !=0)then
  some ((0:Int64),v6.2.1,v6.2.2)
 else
  bif (v6.1.aB.bk !=3)then
   some ((0:Int64),(10:Int),v6.2.2)
  else
   bif ((v2.cN.length:Int) !=(v6.1.aU.length:Int))then
    some ((0:Int64),(11:Int),v6.2.2)
   else
    Em N v6 v3 v1 v2.cN 0 (0:Int)
theorem anG{N v1 v2 v3 v4 v5}:KP 171 [(.fn 68 [(.ptr 0 0),(.ptr 1 0)]),(.d (.sl (aS v1))),(hX v2),(ar v3)] [.cells [(.mp 2)], .cells [(.d (.sl (aX v4)))], .map (bU bW v5)] (λr=> .bg [(bC r.1),(ar r.2.1)]) (λr=>[.cells [(.mp 2)], .cells [(.d (.sl (aX v4)))], .map (bU bW r.2.2)]) (H0 N v1 v2 v3 v4 v5):=
 fh 3 Tryz.func171 (ax λv6 J=>gA [[],[(10,oR [(dq v2.cP),(.ptr 0 0),(.ptr 1 0)] [.cells [(.mp 2)], .cells [(.d (.sl (aX v4)))], .map (bU bW v5), .cells (hX v2).cells] [0,1,2] (Ws _ J))],[]] (aC (λh2=>gH [[t0 h2],[]]) λh2=>gA [[f0 h2],[]] (aC (λh3=>gH [[t0 h3],[]]) λh3=>gA [[f0 h3],[(7,oL v2.cN jw),(16,oL v6.1.aU gi)]] (aC (λh4=>gH [[t0 h4],[]]) λh4=>gA [[f0 h4],[],[(7,oL v2.cN jw)]] (gT sR 42 v2.cN λh6=>gY 1 [] [1,3,10,12,42,43,44] 5 (λv7(v11:Int)=>⟨83,[(1,(.d (.sl (aS v1)))),(3,(ar v3)),(10,(.ptr 4 0)),(12,(ar v11)),(42,(.d (.sl (fV v2.cN)))),(43,(ar (v2.cN.length:Int))),(44,(ar (v7:Int)))],[.cells [(.mp 2)], .cells [(.d (.sl (aX v4)))], .map (bU bW v6.2.2), .cells (hX v2).cells, .cells (iz v6.1).cells]⟩) (λv7 v11 h7 f1=>dD λh9=>ax λv12 h8=>dD λbG=>gH [[],[f0 (cy h7)],[(10,⟨_,_, .el (xs:=dK v6.1.eI) (i:=v11) (of_decide_eq_true h9) (qz h8)⟩),(32,⟨_,_, .eq (Jy (beq_iff_eq.1 bG))⟩)]]) (λv7 v9 v10 v11 h7 f1 aW=>ax λaJ bH=>gA [[],[t0 (cz h7)],[(4,oE (uR (bI h7)))],[(7,cK CQ bH)],[]] (aC (λbq=>gH [[t0 bq],[]]) λbq=>ax λaH cU=>ax λbz cQ=>gA [[f0 bq],[(16,oE (jN cU)),(22,cK aag cQ)],[]] (aC (λcM=>gH [[t0 cM],[]]) λcM=>gb aW bz.1 [[f0 cM],[(2,oq (cF h7 rfl h6))]] h7))))))))
def Am(N:Nat)(v5:aT×Int×(apf (apg×aT)))(v6:Nat)(v10:Int)(iw:Int->(apf (apg×aT))->aph (eX×Int×(apf (apg×aT))))(aJ:Int)(aH:Int64)(bz:apf (apg×aT)):aph (eX×Int×(apf (apg×aT))):=
 bif (aJ !=0)then
  some (Bp,aJ,bz)
 else
  Option.bind (v5.1.aU[((v6:Int)).toNat]?) λbB=>
  (DZ N v10 aH bB).bind λcA=>
  bif (cA.2 !=0)then
   some (Bp,cA.2,bz)
  else
   iw cA.1 bz
def qp(N:Nat)(v5:aT×Int×(apf (apg×aT)))(v1:apf aI)(v3:apf aG):apf cJ->Nat->Int->(apf (apg×aT))->aph (eX×Int×(apf (apg×aT)))
 |[],_,v10,v11=>
  bif (decide ((0:Int)<=v10))then
  Option.bind (v5.1.eI[(v10).toNat]?) λv12=>
  some ((⟨v12,v5.1.aB⟩:eX),(0:Int),v11)
  else none
 |v8::v9,v6,v10,v11=>
  bif (bL v8.cP==bL (bs []))then
   (tP N v8.bx v1).bind λbR=>
   Am N v5 v6 v10 (λcg fi=>qp N v5 v1 v3 v9 (v6+1) cg fi) bR.2 bR.1 v11
  else
   Option.bind (v5.1.aU[((v6:Int)).toNat]?) λcl=>
   (H0 N v1 v8 cl v3 v11).bind λv20=>
   Am N v5 v6 v10 (λcg fi=>qp N v5 v1 v3 v9 (v6+1) cg fi) v20.2.1 v20.1 v20.2.2
def BX(N:Nat)(v1:apf aI)(v2:aw)(v3:apf aG)(v4:apf (apg×aT)):aph (eX×Int×(apf (apg×aT))):=
 (CG N v2.au v3 v4).bind λv5=>
 bif (v5.2.1 !=0)then
  some (Bp,v5.2.1,v5.2.2)
 else
  bif ((v2.xIdx.length:Int) !=(v5.1.aU.length:Int))then
   some (Bp,(11:Int),v5.2.2)
  else
   qp N v5 v1 v3 v2.xIdx 0 (0:Int) v5.2.2
def BL(v3:apf aG)(v4:apf (apg×aT))(v2:aw)(l:apf aq):apf aq:= .cells [(.mp 2)]:: .cells [(.d (.sl (aX v3)))]:: .map (bU bW v4):: .cells (aP v2).cells:: .cells dp::l
def xA(v3:apf aG)(v5:aT×Int×(apf (apg×aT)))(v2:aw)(l:apf aq):apf aq:= .cells [(.mp 2)]:: .cells [(.d (.sl (aX v3)))]:: .map (bU bW v5.2.2):: .cells (aP v2).cells:: .cells dp:: .cells (iz v5.1).cells::l
def oD(v3:apf aG)(v11:apf (apg×aT))(v2:aw)(v5:aT×Int×(apf (apg×aT)))(v8:cJ)(l:apf aq):apf aq:=BL v3 v11 v2 (.cells (iz v5.1).cells:: .cells (hX v8).cells::l)
def Sq(v3:apf aG)(l:apf aq):apf aq:= .cells [(.mp 2)]:: .cells [(.d (.sl (aX v3)))]::l
theorem aj5(N:Nat)(v1:apf aI)(v2:aw)(v3:apf aG)(v4:apf (apg×aT))(r:eX×Int×(apf (apg×aT)))(U:BX N v1 v2 v3 v4=some r):KH 113 [(.fn 68 [(.ptr 0 0),(.ptr 1 0)]),(.d (.sl (aS v1))),(aP v2)] ([.cells [(.mp 2)], .cells [(.d (.sl (aX v3)))], .map (bU bW v4)]) (.bg [(dC r.1),(ar r.2.1)]) ([.cells [(.mp 2)], .cells [(.d (.sl (aX v3)))], .map (bU bW r.2.2)]):=by
 rw[BX]at U;refine qU 3 Tryz.func113 rfl (by kernel_rfl) (aoz rfl) ?_;refine l6 (s':=⟨91,[(0,(.fn 68 [(.ptr 0 0),(.ptr 1 0)])),(1,(.d (.sl (aS v1)))),(2,(aP v2))],(Sq v3 [.map (bU bW v4)])⟩) (by kernel_rfl) ?_;refine aA ?_;refine rg [] [(5,(.ptr 3 0)),(6,(.ptr 4 0))] (BL v3 v4 v2 []) (by kernel_rfl) ?_;refine aA ?_;obtain⟨v5,J,U⟩:=cp U;refine rg [(10,oR [(dq v2.au),(.ptr 0 0),(.ptr 1 0)] (BL v3 v4 v2 []) [0,1,2] (Ws _ J))] [(8,(.ptr 5 0)),(9,(ar v5.2.1))] (xA v3 v5 v2 []) (by kernel_rfl) ?_;refine aA ?_;refine aA ?_;refine rg [] [(22,(aL (v5.2.1 !=0)))] (xA v3 v5 v2 []) (by kernel_rfl) ?_;rcases ee (v5.2.1 !=0)with h2|h2
 ·replace U:=(dk h2).symm.trans U;refine eK (t:=(v5.2.1 !=0)) (by kernel_rfl) h2 ?_;refine aA ?_;refine rg [] [(7,(ar v5.2.1))] (xA v3 v5 v2 []) (by kernel_rfl) ?_;refine cY (c9 ?_);have hr:=aoK U;subst hr;exact jt (by kernel_rfl)
 replace U:=(eu h2).symm.trans U;refine eH (t:=(v5.2.1 !=0)) (by kernel_rfl) h2 ?_;refine dy ?_;refine bE ?_;refine aA ?_;refine aA ?_;refine rg [(7,oL v2.xIdx kQ),(16,oL v5.1.aU gi)] [(31,(aL ((v2.xIdx.length:Int) !=(v5.1.aU.length:Int))))] (xA v3 v5 v2 []) (by kernel_rfl) ?_;rcases ee ((v2.xIdx.length:Int) !=(v5.1.aU.length:Int))with h3|h3
 ·replace U:=(dk h3).symm.trans U;refine eK (t:=((v2.xIdx.length:Int) !=(v5.1.aU.length:Int))) (by kernel_rfl) h3 ?_;refine aA ?_;refine rg [] [(7,(ar (11:Int)))] (xA v3 v5 v2 []) (by kernel_rfl) ?_;refine cY (c9 ?_);have hr:=aoK U;subst hr;exact jt (by kernel_rfl)
 replace U:=(eu h3).symm.trans U;refine eH (t:=((v2.xIdx.length:Int) !=(v5.1.aU.length:Int))) (by kernel_rfl) h3 ?_;refine dy ?_;refine bE ?_;refine aA ?_;refine rg [] [(10,(ar (0:Int)))] (xA v3 v5 v2 []) (by kernel_rfl) ?_;refine aA ?_;refine aA ?_;refine rg [(7,oL v2.xIdx kQ)] [(34,(.d (.sl (eQ v2.xIdx)))),(35,(ar (v2.xIdx.length:Int))),(36,(ar (0:Int)))] (xA v3 v5 v2 []) (by kernel_rfl) ?_;refine gp ?_;refine vH 34 (eQ v2.xIdx) (by kernel_rfl) λh4=> ?_;have h5:=Ag kQ h4;refine Ns [0,1,6,8,10,34,35,36] 6 (λ((v6,v7,v10,v11):Nat×(apf cJ)×Int×(apf (apg×aT)))=>⟨91,[(0,(.fn 68 [(.ptr 0 0),(.ptr 1 0)])),(1,(.d (.sl (aS v1)))),(6,(.ptr 4 0)),(8,(.ptr 5 0)),(10,(ar v10)),(34,(.d (.sl (eQ v2.xIdx)))),(35,(ar (v2.xIdx.length:Int))),(36,(ar (v6:Int)))],(BL v3 v11 v2 [.cells (iz v5.1).cells])⟩) (λ((v6,v7,v10,v11):Nat×(apf cJ)×Int×(apf (apg×aT)))=>v2.xIdx.drop v6=v7/\qp N v5 v1 v3 v7 v6 v10 v11=some r) (λ((v6,v7,v10,v11):Nat×(apf cJ)×Int×(apf (apg×aT)))=>v7.length) (0,v2.xIdx,(0:Int),v5.2.2) (aoz rfl) (by kernel_rfl) ⟨rfl,U⟩ ?_;rintro⟨v6,v7,v10,v11⟩ ⟨h6,U⟩;cases v7 with
 |nil=>
  rw[qp]at U;refine aA ?_;refine rg [] [(37,(aL (decide ((v6:Int)<(v2.xIdx.length:Int)))))] (BL v3 v11 v2 [.cells (iz v5.1).cells]) (by kernel_rfl) ?_;refine aA ?_;refine eH (t:=(decide ((v6:Int)<(v2.xIdx.length:Int)))) (by kernel_rfl) (cy h6) ?_;refine o7 (kW (kW (rE rfl ?_)));refine bE ?_;refine aA ?_;have h8:=na U;replace U:=(dk h8).symm.trans U;obtain⟨v12,h7,U⟩:=cp U;refine rd ck (by kernel_rfl) [(10,⟨_,_, .el (xs:=dK v5.1.eI) (i:=v10) (of_decide_eq_true h8) (qz h7)⟩)] [(7,(ar (0:Int)))] (Sq v3 [.map (bU bW v11), .cells (aP v2).cells, .cells [(bC v12.xN),(bC v12.xD),(ar v5.1.aB.bk),(ar v5.1.aB.cf),(ar v5.1.aB.bQ),(ar v5.1.aB.cq),(ar v5.1.aB.ct)], .cells (iz v5.1).cells]) (by kernel_rfl) ?_;refine cY ?_;have hr:=aoK U;subst hr;exact jt (by kernel_rfl)
 |cons v8 v9=>
  rw[qp]at U;refine aA ?_;refine rg [] [(37,(aL (decide ((v6:Int)<(v2.xIdx.length:Int)))))] (BL v3 v11 v2 [.cells (iz v5.1).cells]) (by kernel_rfl) ?_;refine aA ?_;refine eK (t:=(decide ((v6:Int)<(v2.xIdx.length:Int)))) (by kernel_rfl) (cz h6) ?_;refine dy ?_;refine bE ?_;refine aA ?_;refine gp ?_;refine aA ?_;refine rg [(4,oE (nu (bI h6)))] [(12,(.ptr 6 0)),(11,(ar (v6:Int)))] (oD v3 v11 v2 v5 v8 []) (by kernel_rfl) ?_;refine aA ?_;refine rg [] [] (oD v3 v11 v2 v5 v8 []) (by kernel_rfl) ?_;refine aA ?_;refine aA ?_;refine rg [] [(43,(aL (bL v8.cP==bL (bs []))))] (oD v3 v11 v2 v5 v8 []) (by kernel_rfl) ?_;refine Dd [0,1,6,8,9,10,11,13,34,35,36] 7 (λ((aJ,aH,bz):Int×Int64×(apf (apg×aT)))=>⟨91,[(0,(.fn 68 [(.ptr 0 0),(.ptr 1 0)])),(1,(.d (.sl (aS v1)))),(6,(.ptr 4 0)),(8,(.ptr 5 0)),(9,(ar aJ)),(10,(ar v10)),(11,(ar (v6:Int))),(13,(bC aH)),(34,(.d (.sl (eQ v2.xIdx)))),(35,(ar (v2.xIdx.length:Int))),(36,(ar (v6:Int)))],(oD v3 bz v2 v5 v8 [])⟩) (λ((aJ,aH,bz):Int×Int64×(apf (apg×aT)))=>Am N v5 v6 v10 (λcg fi=>qp N v5 v1 v3 v9 (v6+1) cg fi) aJ aH bz=some r) (aoz rfl) ?_ ?_
  ·rcases ee (bL v8.cP==bL (bs []))with cT|cT
   ·replace U:=(dk cT).symm.trans U;refine eK (t:=(bL v8.cP==bL (bs []))) (by kernel_rfl) cT ?_;obtain⟨bR,cQ,U⟩:=cp U;refine re [(10,cK CQ cQ)] [(9,(ar bR.2)),(13,(bC bR.1)),(50,(ar bR.2)),(49,(bC bR.1)),(44,(.bg [(bC bR.1),(ar bR.2)])),(48,(.bg [(bC bR.1),(ar bR.2)])),(47,(.d (.sl (aS v1)))),(46,(dL v8.bx)),(45,(.ptr 6 0))] (oD v3 v11 v2 v5 v8 []) (by kernel_rfl) ?_;refine bE ?_;exact⟨(bR.2,bR.1,v11),by kernel_rfl,U⟩
   replace U:=(eu cT).symm.trans U;refine eH (t:=(bL v8.cP==bL (bs []))) (by kernel_rfl) cT ?_;obtain⟨cl,cM,v20,fJ,U⟩:=k01 U;refine rle ck (by kernel_rfl) [(19,oE (jN cM)),(25,oR [(.fn 68 [(.ptr 0 0),(.ptr 1 0)]),(.d (.sl (aS v1))),(hX v8),(ar cl)] (oD v3 v11 v2 v5 v8 []) [0,1,2] (anG _ fJ))] [(9,(ar v20.2.1)),(13,(bC v20.1)),(62,(ar v20.2.1)),(61,(bC v20.1)),(51,(.bg [(bC v20.1),(ar v20.2.1)])),(60,(.bg [(bC v20.1),(ar v20.2.1)])),(59,(ar cl)),(58,(.bj [eF cl] 0 0)),(57,(ar (v6:Int))),(56,(.d (.sl (bw v5.1.aU)))),(55,(.ptr 5 5)),(54,(hX v8)),(53,(.d (.sl (aS v1)))),(52,(.fn 68 [(.ptr 0 0),(.ptr 1 0)]))] (Sq v3 [.map (bU bW v20.2.2), .cells (aP v2).cells, .cells dp, .cells (iz v5.1).cells, .cells (hX v8).cells]) ⟨by kernel_rfl,by kernel_rfl⟩ ?_;refine bE ?_;exact⟨(v20.2.1,v20.1,v20.2.2),by kernel_rfl,U⟩
  rintro⟨aJ,aH,bz⟩ U
  try dsimp only at U
  rw[Am]at U;refine aA ?_;refine aA ?_;refine rg [] [(64,(aL (aJ !=0)))] (oD v3 bz v2 v5 v8 []) (by kernel_rfl) ?_;rcases ee (aJ !=0)with h9|h9
  ·replace U:=(dk h9).symm.trans U;refine eK (t:=(aJ !=0)) (by kernel_rfl) h9 ?_;refine aA ?_;refine rg [] [(7,(ar aJ))] (oD v3 bz v2 v5 v8 []) (by kernel_rfl) ?_;refine cY (c9 (fa (c9 (c9 (fa (c9 ?_))))));have hr:=aoK U;subst hr;exact jt (by kernel_rfl)
  replace U:=(eu h9).symm.trans U;refine eH (t:=(aJ !=0)) (by kernel_rfl) h9 ?_;refine dy ?_;refine bE ?_;refine aA ?_;obtain⟨bB,bG,cA,bq,U⟩:=k01 U;refine rg [(16,oE (jN bG)),(22,cK aag bq)] [(10,(ar cA.1)),(9,(ar cA.2))] (oD v3 bz v2 v5 v8 []) (by kernel_rfl) ?_;refine aA ?_;refine rg [] [(79,(aL (cA.2 !=0)))] (oD v3 bz v2 v5 v8 []) (by kernel_rfl) ?_;rcases ee (cA.2 !=0)with cU|cU
  ·replace U:=(dk cU).symm.trans U;refine eK (t:=(cA.2 !=0)) (by kernel_rfl) cU ?_;refine aA ?_;refine rg [] [(7,(ar cA.2))] (oD v3 bz v2 v5 v8 []) (by kernel_rfl) ?_;refine cY (fa (c9 (c9 (fa (c9 ?_)))));have hr:=aoK U;subst hr;exact jt (by kernel_rfl)
  replace U:=(eu cU).symm.trans U;refine eH (t:=(cA.2 !=0)) (by kernel_rfl) cU ?_;refine dy ?_;refine iK ?_;refine bE ?_;refine re [(2,oq (cF h6 rfl h5))] [(36,(ar ((v6+1:Nat):Int))),(82,(ar ((v6+1:Nat):Int)))] (oD v3 bz v2 v5 v8 []) (by kernel_rfl) ?_;refine bE ?_;exact⟨(v6+1,v9,cA.1,bz),by kernel_rfl,⟨ma h6,U⟩,apd _⟩
def GS(N:Nat)(v5:Int64×Int)(v4:apf (apg×aT))(v7:Int):aph (eX×Int×(apf (apg×aT))):=
 some ((⟨(⟨v5.1,(1:Int64)⟩:aD),(⟨(3:Int),(0:Int),(0:Int),(0:Int),(0:Int)⟩:aM)⟩:eX),v7,v4)
def J8(N:Nat)(v1:apf aI)(v2:aw)(v3:apf aG)(v4:apf (apg×aT)):aph (eX×Int×(apf (apg×aT))):=
 bif (v2.az==1)then
  some ((⟨v2.de,v2.aB⟩:eX),(0:Int),v4)
 else
  bif (v2.az==2)then
   (tP N v2.bx v1).bind λv5=>
   Option.bind (bif (v5.2==0)then(bif (decide (v5.1.toInt>2147483647))then some true else some (decide (v5.1.toInt<(-2147483647:Int))))else some false) λv6=>
   bif v6 then
    GS N v5 v4 (3:Int)
   else
    GS N v5 v4 v5.2
  else
   (BX N v1 v2 v3 v4).bind λv8=>
   some (v8.1,v8.2.1,v8.2.2)
def Nj(v3:apf aG)(v4:apf (apg×aT))(v2:aw)(l:apf aq):apf aq:= .cells [(.mp 2)]:: .cells [(.d (.sl (aX v3)))]:: .map (bU bW v4):: .cells (aP v2).cells:: .cells dp::l
theorem anl{N v1 v2 v3 v4}:KP 66 [(.fn 68 [(.ptr 0 0),(.ptr 1 0)]),(.d (.sl (aS v1))),(aP v2)] [.cells [(.mp 2)], .cells [(.d (.sl (aX v3)))], .map (bU bW v4)] (λr=> .bg [(dC r.1),(ar r.2.1)]) (λr=>[.cells [(.mp 2)], .cells [(.d (.sl (aX v3)))], .map (bU bW r.2.2)]) (J8 N v1 v2 v3 v4):=
 fh 3 Tryz.func66 (gA [[],[],[]] (aC (λJ=>gH [[t0 J],[]]) λJ=>gA [[f0 J],[]] (aC (λh2=>ax λv5 h3=>gA [[t0 h2],[(10,cK CQ h3)]] (gG (λv6=>[(37,(aL v6))]) (λ_=>(Nj v3 v4 v2 [])) (aC (λh4=>dT (2,bT h4) (aC (λh5=>gE [(5,bT h5)] [(25,bT h5)]) λh5=>gE [(5,bF h5)] [(25,bF h5)])) λh4=>gE [(2,bF h4),(5,uN)] []) λv6=>mP 1 [] [6,8,9] 5 (λ(v7:Int)=>⟨49,[(6,(.ptr 4 0)),(8,(bC v5.1)),(9,(ar v7))],(Nj v3 v4 v2 [])⟩) (GS N v5 v4) (λf1 aW=>aC (λh7=>gm aW (3:Int) [[t0 h7],[]]) λh7=>gm aW v5.2 [[f0 h7]]) (λv7=>gH [[]]))) λh2=>ax λv8 h8=>gH [[f0 h2],[(10,oR [(.fn 68 [(.ptr 0 0),(.ptr 1 0)]),(.d (.sl (aS v1))),(aP v2)] (Nj v3 v4 v2 []) [0,1,2] (aj5 N v1 v2 v3 v4 v8 h8))]])))
def AO(N:Nat)(v1:Int64)(v2:Int64):aph Int:=
 bif (decide (v1.toInt<v2.toInt))then
  some (-1:Int)
 else
  bif (decide (v1.toInt>v2.toInt))then
   some (1:Int)
  else
   some (0:Int)
theorem Qt{N v1 v2}:KO 227 [(bC v1),(bC v2)] ar (AO N v1 v2):=
 fw Tryz.func227 (gA [[],[]] (jJ λ_=>bP λh2=>gR [[f0 h2],[]]))
def MF(N:Nat)(v1:aD)(v2:aD):aph Int:=
 (j9 N v1).bind λv3=>
 Option.bind (bif v3 then (j9 N v2).bind λv4=>
 some v4 else some false) λv5=>
 bif v5 then
  Option.bind (AO N (v1.xN*v2.xD) (v2.xN*v1.xD)) λv6=>
  some v6
 else
  (AO N v1.xN v2.xN).bind λv7=>
  bif (v7 !=0)then
   some v7
  else
   (AO N v1.xD v2.xD).bind λv8=>
   some v8
theorem afE{N v1 v2}:KO 170 [(bu v1),(bu v2)] ar (MF N v1 v2):=
 fw Tryz.func170 (gA [[]] (ax λv3 J=>gG (λv5=>[(11,(aL v5))]) (λ_=>[.cells (bu v1).cells, .cells (bu v2).cells]) (dt (4,cK ni J) (aC (λh2=>ax λv4 h3=>gE [(2,bT h2)] [(13,cK ni h3)]) λh2=>gE [(2,bF h2)] [])) λv5=>aC (λh5=>ax λv6 h6=>gR [[t0 h5],[(14,⟨_,_, .eq (lu v1.xN v2.xD)⟩),(29,⟨_,_, .eq (lu v2.xN v1.xD)⟩),(31,cK Qt h6)]]) λh5=>ax λv7 h7=>gA [[f0 h5],[(13,cK Qt h7)],[]] (bP λh8=>ax λv8 h9=>gR [[f0 h8],[(13,cK Qt h9)]])))
def EF(N:Nat)(v1:aM)(v2:aD)(v3:aD):aph Int:=
 (mD N v1 v2).bind λv4=>
 Option.bind (bif v4 then (mD N v1 v3).bind λv5=>
 some (!v5)else some true) λv6=>
 bif v6 then
  some (0:Int)
 else
  bif (v1.bk==1)then
   (MF N v2 v3).bind λv7=>
   some v7
  else
   bif (decide (v2.xN.toInt<v3.xN.toInt))then
    some (-1:Int)
   else
    bif (decide (v2.xN.toInt>v3.xN.toInt))then
     some (1:Int)
    else
     some (0:Int)
theorem Wg{N v1 v2 v3}:KO 112 [(cx v1),(bu v2),(bu v3)] ar (EF N v1 v2 v3):=
 fw Tryz.func112 (gA [[]] (ax λv4 J=>gG (λv6=>[(7,(aL v6))]) (λ_=>[.cells (cx v1).cells, .cells (bu v2).cells, .cells (bu v3).cells]) (dt (7,cK uM J) (aC (λh2=>ax λv5 h3=>gE [(4,bF (dH h2))] [(22,cK uM h3)]) λh2=>gE [(4,bT (eo h2))] [])) λv6=>jJ λ_=>aC (λh6=>ax λv7 h7=>gR [[t0 h6],[(7,cK afE h7)]]) λh6=>gA [[f0 h6],[]] (jJ λ_=>bP λh9=>gR [[f0 h9],[]])))
def OC(N:Nat)(v1:Int)(v2:Int):aph Bool:=
 bif (v1==13)then
  some (decide (v2<0))
 else
  bif (v1==14)then
   some (decide (v2<=0))
  else
   some (v2==0)
theorem alc{N v1 v2}:KO 111 [(ar v1),(ar v2)] aL (OC N v1 v2):=
 fw Tryz.func111 (gA [[],[],[]] (jJ λ_=>bP λh2=>gR [[f0 h2],[]]))
def JM(N:Nat)(v1:aM):apf aD->Nat->aph Int
 |[],_=>
  some (0:Int)
 |v6::v7,v4=>
  (ta N v1 v6).bind λv8=>
  bif v8 then
   (JM N v1 v7 (v4+1))
  else
   some (1:Int)
def ra(N:Nat)(v1:aM)(v2:apf aD):aph Int:=
 (tE N v1).bind λv3=>
 bif (v3 !=0)then
  some v3
 else
  JM N v1 v2 0
theorem Bz{N v1 v2}:KO 267 [(cx v1),(.d (.sl (dK v2)))] ar (ra N v1 v2):=
 fw Tryz.func267 (ax λv3 J=>gA [[],[(4,cK Ke J)],[]] (bP λh2=>gA [[f0 h2],[(4,oL v2 lH)]] (gT zl 1 v2 λh4=>ff 1 [] [2,13,14,15] 1 (λv4=>⟨24,[(2,(.ptr 0 0)),(13,(.d (.sl (dK v2)))),(14,(ar (v2.length:Int))),(15,(ar (v4:Int)))],[.cells (cx v1).cells]⟩) (λv4 h5 f1=>gR [[],[f0 (cy h5)],[]]) (λv4 v6 v7 h5 f1 aW=>ax λv8 h6=>gA [[],[t0 (cz h5)],[(1,oE (qz (bI h5)))],[(7,cK O5 h6)]] (lS λh7=>gb aW () [[f0 (dH h7)],[(2,oq (cF h5 rfl h4))]] h5)))))
def tV(N:Nat)(v1:Int64)(v2:Int64):aph (aD×Int):=
 bif (v2.toInt==0)then
  some (cH,(4:Int))
 else
  (BG N v1).bind λv3=>
  (BG N v2).bind λv4=>
  (DU N v3 v4).bind λv5=>
  bif (v5 !=0)then
  Option.bind (bif (decide ((IntKind.u64.wrap ((v3).tdiv v5))>2147483647))then some true else some (decide ((IntKind.u64.wrap ((v4).tdiv v5))>2147483647))) λv6=>
  bif v6 then
   some (cH,(3:Int))
  else
   bif ((decide (v1.toInt<0))==(decide (v2.toInt<0)))then
    some ((⟨(Int64.ofInt (IntKind.u64.wrap ((v3).tdiv v5))),(Int64.ofInt (IntKind.u64.wrap ((v4).tdiv v5)))⟩:aD),(0:Int))
   else
    some ((⟨(-(Int64.ofInt (IntKind.u64.wrap ((v3).tdiv v5)))),(Int64.ofInt (IntKind.u64.wrap ((v4).tdiv v5)))⟩:aD),(0:Int))
  else none
theorem Dk{N v1 v2}:KO 268 [(bC v1),(bC v2)] (λr=> .bg [(bu r.1),(ar r.2)]) (tV N v1 v2):=
 fw Tryz.func268 (gA [[],[]] (bP λJ=>ax λv3 h2=>ax λv4 h3=>ax λv5 h4=>dD λh5=>gA [[f0 J],[],[(4,cK Mw h2),(10,cK Mw h3)],[(7,cK abU h4)],[(7,⟨_,_, .nz (b:=v5) (bne_iff_ne.1 h5)⟩),(16,⟨_,_, .nz (b:=v5) (bne_iff_ne.1 h5)⟩)]] (gG (λv6=>[(36,(aL v6))]) (λ_=>[.cells iT]) (aC (λh7=>gE [(2,bT h7)] []) λh7=>gE [(2,bF h7)] []) λv6=>jJ λ_=>aC (λbG=>gR [[f0 (dH bG)],[(5,⟨_,_, .eq (ky (IntKind.u64.wrap ((v3).tdiv v5)))⟩),(11,⟨_,_, .eq (ky (IntKind.u64.wrap ((v4).tdiv v5)))⟩)]]) λbG=>gR [[t0 (eo bG)],[(5,⟨_,_, .eq (ky (IntKind.u64.wrap ((v3).tdiv v5)))⟩),(8,⟨_,_, .eq (GZ (Int64.ofInt (IntKind.u64.wrap ((v3).tdiv v5))))⟩),(14,⟨_,_, .eq (ky (IntKind.u64.wrap ((v4).tdiv v5)))⟩)]])))
def M4(N:Nat)(v1:aM)(v2:aD):aph (aD×Int):=
 Option.bind (ra N v1 [v2]) λv3=>
 bif (v3 !=0)then
  some (cH,v3)
 else
  bif (decide ((0:Int)<=v1.bQ))then
  Option.bind (tV N v2.xN (Int64.ofInt ((1:Int)*2^(min (v1.bQ).toNat (IntKind.bits .i64))))) λv4=>
  some (v4.1,v4.2)
  else none
theorem acp{N v1 v2}:KO 228 [(cx v1),(bu v2)] (λr=> .bg [(bu r.1),(ar r.2)]) (M4 N v1 v2):=
 fw Tryz.func228 (ax λv3 J=>gA [[],[(10,cK Bz J)],[]] (bP λh2=>dD λh3=>ax λv4 h4=>gR [[f0 h2],[(13,⟨_,_, .nn (b:=v1.bQ) (of_decide_eq_true h3)⟩),(14,⟨_,_, .eq (ky ((1:Int)*2^(min (v1.bQ).toNat (IntKind.bits .i64))))⟩),(16,cK Dk h4)]]))
def KB(N:Nat)(v1:aM)(v2:aD):aph aD:=
 bif (v1.bk==2)then
  (M4 N v1 v2).bind λv3=>
  some v3.1
 else
  some v2
theorem af9{N v1 v2}:KO 173 [(cx v1),(bu v2)] bu (KB N v1 v2):=
 fw Tryz.func173 (gA [[],[]] (qw λJ=>ax λv3 h2=>gR [[t0 J],[(7,cK acp h2)],[]]))
def GF(N:Nat)(v3:Int64):aph Int64:=
 some v3
def EV(N:Nat)(v1:aD):aph Int64:=
 (j9 N v1).bind λv2=>
 bif v2 then
  bif (v1.xD.toInt !=0)then
  bif (decide ((Int64.ofInt ((v1.xN.toInt).tmod v1.xD.toInt)).toInt<0))then
   GF N ((Int64.ofInt ((v1.xN.toInt).tdiv v1.xD.toInt))-(1:Int64))
  else
   GF N (Int64.ofInt ((v1.xN.toInt).tdiv v1.xD.toInt))
  else none
 else
  some (0:Int64)
theorem amQ{N v1}:KO 174 [(bu v1)] bC (EV N v1):=
 fw Tryz.func174 (ax λv2 J=>gA [[],[(4,cK ni J)]] (lS λh2=>dD λh3=>mP 1 [[f0 (dH h2)],[(13,⟨_,_, .nz (b:=v1.xD.toInt) (bne_iff_ne.1 h3)⟩),(14,⟨_,_, .eq (ky ((v1.xN.toInt).tdiv v1.xD.toInt))⟩)],[(13,⟨_,_, .nz (b:=v1.xD.toInt) (bne_iff_ne.1 h3)⟩),(14,⟨_,_, .eq (Ys v1.xN v1.xD.toInt)⟩)]] [3] 1 (λ(v3:Int64)=>⟨21,[(3,(bC v3))],[.cells (bu v1).cells]⟩) (GF N) (λf1 aW=>aC (λh4=>gm aW ((Int64.ofInt ((v1.xN.toInt).tdiv v1.xD.toInt))-(1:Int64)) [[t0 h4],[(5,⟨_,_, .eq (xE (Int64.ofInt ((v1.xN.toInt).tdiv v1.xD.toInt)) (1:Int64))⟩)]]) λh4=>gm aW (Int64.ofInt ((v1.xN.toInt).tdiv v1.xD.toInt)) [[f0 h4]]) (λv3=>gR [[]])))
def Co(N:Nat)(v1:Int):aph Bool:=
 Option.bind (bif (decide (v1>=1))then some (decide (v1<=4))else some false) λv2=>
 some v2
theorem TP{N v1}:KO 269 [(ar v1)] aL (Co N v1):=
 fw Tryz.func269 (gA [[]] (gG (λv2=>[(2,(aL v2))]) (λ_=>[]) (aC (λJ=>gE [(2,bT J)] []) λJ=>gE [(2,bF J)] []) λv2=>gR []))
def Dv(N:Nat)(v1:Int64):aph Int:=
 bif (decide (v1.toInt<0))then
  some (IntKind.u64.wrap (0-(IntKind.u64.wrap v1.toInt)))
 else
  some (IntKind.u64.wrap v1.toInt)
theorem W9{N v1}:KO 293 [(bC v1)] (λr=> .d (.v (.int .u64 r))) (Dv N v1):=
 fw Tryz.func293 (gA [[],[]] (bP λJ=>gR [[f0 J],[]]))
def QN(N:Nat)(v1 v2:Int)(v3:Bool)(v4:Int):aph Int:=bif v2 !=0then some (tu v1 v2 v3 v4)else none
theorem ai5{N v1 v2 v3 v4 r}(U:QN N v1 v2 v3 v4=some r):ga Tryz.prog 292 [(.d (.v (.int .u64 v1))),(.d (.v (.int .u64 v2))),(aL v3),(ar v4)] (·=(.d (.v (.int .u64 r)))):=acU v1 v2 v3 v4 r U
def Aj(N:Nat)(v1:Int64)(v2:Int64)(v3:Int):aph (Int64×Int):=
 (Co N v3).bind λv4=>
 bif v4 then
  bif (v2.toInt==0)then
   some ((0:Int64),(4:Int))
  else
   (Dv N v1).bind λv5=>
   (Dv N v2).bind λv6=>
   Option.bind (QN N v5 v6 (!((decide (v1.toInt<0))==(decide (v2.toInt<0)))) v3) λv7=>
   bif ((decide (v1.toInt<0))==(decide (v2.toInt<0)))then
    bif (decide (v7>=9223372036854775808))then
     some ((0:Int64),(3:Int))
    else
     some ((Int64.ofInt v7),(0:Int))
   else
    some ((Int64.ofInt (IntKind.u64.wrap (0-v7))),(0:Int))
 else
  some ((0:Int64),(1:Int))
theorem SM{N v1 v2 v3}:KO 270 [(bC v1),(bC v2),(ar v3)] (λr=> .bg [(bC r.1),(ar r.2)]) (Aj N v1 v2 v3):=
 fw Tryz.func270 (ax λv4 J=>gA [[],[(4,cK TP J)]] (lS λh2=>gA [[f0 (dH h2)],[]] (bP λh3=>ax λv5 h4=>ax λv6 h5=>ax λv7 h6=>gA [[f0 h3],[],[(4,cK W9 h4),(10,cK W9 h5),(19,cL (ai5 h6))],[]] (aC (λh7=>gA [[f0 (dH h7)],[]] (bP λh8=>gR [[f0 h8],[(5,⟨_,_, .eq (ky v7)⟩)]])) λh7=>gR [[t0 (eo h7)],[(8,⟨_,_, .eq (ky (IntKind.u64.wrap (0-v7)))⟩)]]))))
def M9(N:Nat)(v1:aD)(v2:Int)(v3:Int):aph (Int64×Int):=
 (j9 N v1).bind λv4=>
 Option.bind (bif v4 then(bif (decide (v2<0))then some true else(bif (decide (v2>30))then some true else (Co N v3).bind λv5=>
 some (!v5)))else some true) λv6=>
 bif v6 then
  some ((0:Int64),(1:Int))
 else
  bif (decide ((0:Int)<=(IntKind.u64.wrap v2)))then
  Option.bind (Aj N (Int64.ofInt (v1.xN.toInt*2^(min ((IntKind.u64.wrap v2)).toNat (IntKind.bits .i64)))) v1.xD v3) λv7=>
  some (v7.1,v7.2)
  else none
theorem ajj{N v1 v2 v3}:KO 229 [(bu v1),(ar v2),(ar v3)] (λr=> .bg [(bC r.1),(ar r.2)]) (M9 N v1 v2 v3):=
 fw Tryz.func229 (gA [[]] (ax λv4 J=>gG (λv6=>[(23,(aL v6))]) (λ_=>[.cells (bu v1).cells]) (dt (4,cK ni J) (aC (λh2=>dT (3,bF (dH h2)) (aC (λh3=>gE [(7,bT h3),(11,bT rfl)] []) λh3=>dT (7,bF h3) (aC (λh4=>gE [(11,bT h4)] []) λh4=>ax λv5 h5=>gE [(11,bF h4)] [(40,cK TP h5)]))) λh2=>gE [(3,bT (eo h2)),(7,bT rfl),(11,bT rfl)] [])) λv6=>bP λh7=>dD λh8=>ax λv7 h9=>gR [[f0 h7],[(13,⟨_,_, .nn (b:=(IntKind.u64.wrap v2)) (of_decide_eq_true h8)⟩),(14,⟨_,_, .eq (ky (v1.xN.toInt*2^(min ((IntKind.u64.wrap v2)).toNat (IntKind.bits .i64))))⟩),(25,cK SM h9)]]))
def Sz(N:Nat)(v1:Int64)(v2:Int)(v3:Int):aph (Int64×Bool):=
 (A0 N v2).bind λv4=>
 Option.bind (bif v4 then(bif (v3 !=1)then some (v3 !=2)else some false)else some true) λv5=>
 bif v5 then
  some ((0:Int64),false)
 else
  (Ga N v2).bind λv6=>
  (Ci N v2).bind λv7=>
  Option.bind (bif (decide (v1.toInt>=v6.toInt))then some (decide (v1.toInt<=v7.toInt))else some false) λv8=>
  bif v8 then
   some (v1,false)
  else
   Option.bind (bif (v3==1)then some (decide (v1.toInt<v6.toInt))else some false) λv9=>
   bif v9 then
    some (v6,true)
   else
    bif (v3==1)then
     some (v7,true)
    else
     bif (decide ((0:Int)<=(IntKind.u64.wrap (aQ ((64:Int)-v2)))))then
     some ((Int64.ofInt (((Int64.ofInt (IntKind.u64.wrap ((IntKind.u64.wrap v1.toInt)*2^(min ((IntKind.u64.wrap (aQ ((64:Int)-v2)))).toNat (IntKind.bits .u64))))).toInt).fdiv (2^(min ((IntKind.u64.wrap (aQ ((64:Int)-v2)))).toNat (IntKind.bits .i64))))),true)
     else none
theorem afy{N v1 v2 v3}:KO 271 [(bC v1),(ar v2),(ar v3)] (λr=> .bg [(bC r.1),(aL r.2)]) (Sz N v1 v2 v3):=
 fw Tryz.func271 (gA [[]] (ax λv4 J=>gG (λv5=>[(21,(aL v5))]) (λ_=>[]) (dt (4,cK QI J) (aC (λh2=>dT (3,bF (dH h2)) (aC (λh3=>gE [(6,bT h3)] [(28,bT h3)]) λh3=>gE [(6,bF h3)] [(28,bF h3)])) λh2=>gE [(3,bT (eo h2)),(6,uN)] [])) λv5=>bP λh5=>ax λv6 h6=>ax λv7 h7=>gA [[f0 h5],[(4,cK Xw h6),(10,cK Wr h7)]] (gG (λv8=>[(26,(aL v8))]) (λ_=>[]) (aC (λh8=>gE [(3,bT h8)] []) λh8=>gE [(3,bF h8)] []) λv8=>bP λbG=>gA [[f0 bG]] (gG (λv9=>[(36,(aL v9))]) (λ_=>[]) (aC (λbH=>gE [(2,bT bH)] []) λbH=>gE [(2,bF bH)] []) λv9=>jJ λ_=>bP λcT=>dD λcQ=>gR [[f0 cT],[],[(10,⟨_,_, .nn (b:=(IntKind.u64.wrap (aQ ((64:Int)-v2)))) (of_decide_eq_true cQ)⟩),(14,⟨_,_, .eq (ky (IntKind.u64.wrap ((IntKind.u64.wrap v1.toInt)*2^(min ((IntKind.u64.wrap (aQ ((64:Int)-v2)))).toNat (IntKind.bits .u64)))))⟩),(19,⟨_,_, .nn (b:=(IntKind.u64.wrap (aQ ((64:Int)-v2)))) (of_decide_eq_true cQ)⟩),(20,⟨_,_, .eq (WH (Int64.ofInt (IntKind.u64.wrap ((IntKind.u64.wrap v1.toInt)*2^(min ((IntKind.u64.wrap (aQ ((64:Int)-v2)))).toNat (IntKind.bits .u64))))) (min ((IntKind.u64.wrap (aQ ((64:Int)-v2)))).toNat (IntKind.bits .i64)))⟩)]]))))
def oh(N:Nat)(v1:aM)(v2:Int64):aph aD:=
 (Sz N v2 v1.cf v1.ct).bind λv3=>
 some (⟨v3.1,(1:Int64)⟩:aD)
theorem yI{N v1 v2}:KO 230 [(cx v1),(bC v2)] bu (oh N v1 v2):=
 fw Tryz.func230 (ax λv3 J=>gR [[],[(16,cK afy J)],[]])
def CS(N:Nat)(v1:aM)(v2:aD):aph (aD×Int):=
 (tE N v1).bind λv3=>
 bif (v3 !=0)then
  some (cH,v3)
 else
  (M9 N v2 v1.bQ v1.cq).bind λv4=>
  Option.bind (bif (v4.2 !=0)then some true else (j9 N v2).bind λv5=>
  some (!v5)) λv6=>
  bif v6 then
   some (cH,(1:Int))
  else
   (oh N v1 v4.1).bind λv7=>
   some (v7,(0:Int))
theorem amZ{N v1 v2}:KO 175 [(cx v1),(bu v2)] (λr=> .bg [(bu r.1),(ar r.2)]) (CS N v1 v2):=
 fw Tryz.func175 (ax λv3 J=>gA [[],[(4,cK Ke J)],[]] (bP λh2=>ax λv4 h3=>gA [[f0 h2],[(16,cK ajj h3)]] (gG (λv6=>[(30,(aL v6))]) (λ_=>[.cells (cx v1).cells, .cells (bu v2).cells, .cells iT]) (aC (λh4=>gE [(2,bT h4)] []) λh4=>ax λv5 h5=>gE [(2,bF h4)] [(13,cK ni h5)]) λv6=>bP λh7=>ax λv7 h8=>gR [[f0 h7],[(7,cK yI h8)]])))
def Kl(N:Nat)(v1:aM)(v2:aM)(v3:aD):aph (aD×Int):=
 (l9 N v1).bind λv4=>
 Option.bind (bif (v4 !=0)then some true else (l9 N v2).bind λv5=>
 some (v5 !=0)) λv6=>
 bif v6 then
  some (cH,(10:Int))
 else
  (mD N v1 v3).bind λv7=>
  bif v7 then
   (KB N v1 v3).bind λv8=>
   bif (v2.bk==3)then
    (EV N v8).bind λv9=>
    some ((⟨v9,(1:Int64)⟩:aD),(0:Int))
   else
    bif (v2.bk==2)then
     (CS N v2 v8).bind λv10=>
     some (v10.1,v10.2)
    else
     some (v8,(0:Int))
  else
   some (cH,(1:Int))
theorem ald{N v1 v2 v3}:KO 114 [(cx v1),(cx v2),(bu v3)] (λr=> .bg [(bu r.1),(ar r.2)]) (Kl N v1 v2 v3):=
 fw Tryz.func114 (gA [[]] (ax λv4 J=>gG (λv6=>[(9,(aL v6))]) (λ_=>[.cells (cx v1).cells, .cells (cx v2).cells, .cells (bu v3).cells, .cells iT]) (dt (4,cK o9 J) (aC (λh2=>gE [(3,bT h2)] []) λh2=>ax λv5 h3=>gE [(3,bF h2)] [(16,cK o9 h3)])) λv6=>bP λh5=>ax λv7 h6=>gA [[f0 h5],[(7,cK uM h6)]] (lS λh7=>ax λv8 h8=>gA [[f0 (dH h7)],[(7,cK af9 h8)],[],[]] (aC (λh9=>ax λv9 bG=>gR [[t0 h9],[(4,cK amQ bG)]]) λh9=>gA [[f0 h9],[]] (qw λbH=>ax λv10 bq=>gR [[t0 bH],[(7,cK amZ bq)]])))))
def Po(N:Nat)(v1:aM)(v2:Int64)(v3:Int64):aph (Int64×Int):=
 some ((-v2),(0:Int))
theorem ak0{N v1 v2 v3}:KO 273 [(cx v1),(bC v2),(bC v3)] (λr=> .bg [(bC r.1),(ar r.2)]) (Po N v1 v2 v3):=
 fw Tryz.func273 (gR [[],[(5,⟨_,_, .eq (GZ v2)⟩)]])
def NK(N:Nat)(v1:aM)(v2:aD)(v3:aD):aph (aD×Int):=
 Option.bind (ra N v1 ([v2,v3])) λv4=>
 bif (v4 !=0)then
  some (cH,v4)
 else
  (Po N v1 v2.xN v3.xN).bind λv5=>
  bif (v5.2 !=0)then
   some (cH,v5.2)
  else
   (oh N v1 v5.1).bind λv6=>
   some (v6,(0:Int))
theorem amD{N v1 v2 v3}:KP 272 [(.agg [(.fn 273 [])]),(cx v1),(bu v2),(bu v3)] [] (λr=> .bg [(bu r.1),(ar r.2)]) (λ_=>[]) (NK N v1 v2 v3):=
 fh 0 Tryz.func272 (ax λv4 J=>gA [[],[(13,cK Bz J)],[]] (aC (λh2=>gH [[t0 h2],[]]) λh2=>ax λv5 h3=>gA [[f0 h2],[(22,cK ak0 h3)],[]] (aC (λh4=>gH [[t0 h4],[]]) λh4=>ax λv6 h5=>gH [[f0 h4],[(7,cK yI h5)]])))
def DN(N:Nat)(v1:aM)(v2:aD):aph (aD×Int):=
 (NK N v1 v2 v2).bind λv3=>
 some (v3.1,v3.2)
theorem ah9{N v1 v2}:KO 231 [(cx v1),(bu v2)] (λr=> .bg [(bu r.1),(ar r.2)]) (DN N v1 v2):=
 fw Tryz.func231 (ax λv3 J=>gR [[],[(13,oQ [(.agg [(.fn 273 [])]),(cx v1),(bu v2),(bu v2)] [.cells (cx v1).cells, .cells (bu v2).cells, .cells iT] [] (amD _ J))]])
def HJ(N:Nat)(v1:aM)(v2:aD):aph (aD×Int):=
 bif (v1.bk==2)then
  (DN N v1 v2).bind λv3=>
  some (v3.1,v3.2)
 else
  some ((⟨(-v2.xN),v2.xD⟩:aD),(0:Int))
theorem aiZ{N v1 v2}:KO 176 [(cx v1),(bu v2)] (λr=> .bg [(bu r.1),(ar r.2)]) (HJ N v1 v2):=
 fw Tryz.func176 (gA [[],[]] (aC (λJ=>ax λv3 h2=>gR [[t0 J],[(7,cK ah9 h2)]]) λJ=>gR [[f0 J],[(8,⟨_,_, .eq (GZ v2.xN)⟩)]]))
def Ds(N:Nat)(v1:Int)(v2:Int64)(v3:Int64):aph (aD×Int):=
 bif (v1==4)then
  Option.bind (pW N (v2+v3)) λv4=>
  bif v4 then
   some ((⟨(v2+v3),(1:Int64)⟩:aD),(0:Int))
  else
   some (cH,(3:Int))
 else
  bif (v1==5)then
   Option.bind (pW N (v2-v3)) λv5=>
   bif v5 then
    some ((⟨(v2-v3),(1:Int64)⟩:aD),(0:Int))
   else
    some (cH,(3:Int))
  else
   bif (v1==6)then
    Option.bind (pW N (v2*v3)) λv6=>
    bif v6 then
     some ((⟨(v2*v3),(1:Int64)⟩:aD),(0:Int))
    else
     some (cH,(3:Int))
   else
    bif (v3.toInt==0)then
     some (cH,(4:Int))
    else
     bif (v3.toInt !=0)then
     Option.bind (bif ((Int64.ofInt ((v2.toInt).tmod v3.toInt)).toInt !=0)then some (!((decide (v2.toInt<0))==(decide (v3.toInt<0))))else some false) λv7=>
     bif v7 then
      Option.bind (pW N ((Int64.ofInt ((v2.toInt).tdiv v3.toInt))-(1:Int64))) λv8=>
      bif v8 then
       some ((⟨((Int64.ofInt ((v2.toInt).tdiv v3.toInt))-(1:Int64)),(1:Int64)⟩:aD),(0:Int))
      else
       some (cH,(3:Int))
     else
      Option.bind (pW N (Int64.ofInt ((v2.toInt).tdiv v3.toInt))) λv9=>
      bif v9 then
       some ((⟨(Int64.ofInt ((v2.toInt).tdiv v3.toInt)),(1:Int64)⟩:aD),(0:Int))
      else
       some (cH,(3:Int))
     else none
theorem amN{N v1 v2 v3}:KO 232 [(ar v1),(bC v2),(bC v3)] (λr=> .bg [(bu r.1),(ar r.2)]) (Ds N v1 v2 v3):=
 fw Tryz.func232 (gA [[],[],[],[]] (aC (λJ=>ax λv4 h2=>gA [[t0 J],[(8,⟨_,_, .eq (C3 v2 v3)⟩)],[(4,cK AI h2)]] (rp λh3=>gR [[t0 (eo h3)],[]])) λJ=>gA [[f0 J],[]] (aC (λh4=>ax λv5 h5=>gA [[t0 h4],[(8,⟨_,_, .eq (xE v2 v3)⟩)],[(4,cK AI h5)]] (rp λh6=>gR [[t0 (eo h6)],[]])) λh4=>gA [[f0 h4],[]] (aC (λh7=>ax λv6 h8=>gA [[t0 h7],[(8,⟨_,_, .eq (lu v2 v3)⟩)],[(4,cK AI h8)]] (rp λh9=>gR [[t0 (eo h9)],[]])) λh7=>gA [[f0 h7],[]] (bP λbG=>dD λbH=>gA [[f0 bG],[(7,⟨_,_, .nz (b:=v3.toInt) (bne_iff_ne.1 bH)⟩),(8,⟨_,_, .eq (ky ((v2.toInt).tdiv v3.toInt))⟩)]] (gG (λv7=>[(26,(aL v7))]) (λ_=>[.cells iT]) (dt (7,⟨_,_, .nz (b:=v3.toInt) (bne_iff_ne.1 bH)⟩) (dt (8,⟨_,_, .eq (Ys v2 v3.toInt)⟩) (aC (λbq=>gE [(4,bT bq)] []) λbq=>gE [(4,bF bq)] []))) λv7=>aC (λcT=>ax λv8 cQ=>gA [[t0 cT],[(5,⟨_,_, .eq (xE (Int64.ofInt ((v2.toInt).tdiv v3.toInt)) (1:Int64))⟩)],[(4,cK AI cQ)]] (rp λcM=>gR [[t0 (eo cM)],[]])) λcT=>ax λv9 eE=>gA [[f0 cT],[(4,cK AI eE)]] (rp λfJ=>gR [[t0 (eo fJ)],[]])))))))
def Rz(N:Nat)(v1:aM)(v2:Int64)(v3:Int64):aph (Int64×Int):=
 some ((v2+v3),(0:Int))
theorem akW{N v1 v2 v3}:KO 274 [(cx v1),(bC v2),(bC v3)] (λr=> .bg [(bC r.1),(ar r.2)]) (Rz N v1 v2 v3):=
 fw Tryz.func274 (gR [[],[(8,⟨_,_, .eq (C3 v2 v3)⟩)]])
def Q8(N:Nat)(v1:aM)(v2:aD)(v3:aD):aph (aD×Int):=
 Option.bind (ra N v1 ([v2,v3])) λv4=>
 bif (v4 !=0)then
  some (cH,v4)
 else
  (Rz N v1 v2.xN v3.xN).bind λv5=>
  bif (v5.2 !=0)then
   some (cH,v5.2)
  else
   (oh N v1 v5.1).bind λv6=>
   some (v6,(0:Int))
theorem ana{N v1 v2 v3}:KP 272 [(.agg [(.fn 274 [])]),(cx v1),(bu v2),(bu v3)] [] (λr=> .bg [(bu r.1),(ar r.2)]) (λ_=>[]) (Q8 N v1 v2 v3):=
 fh 0 Tryz.func272 (ax λv4 J=>gA [[],[(13,cK Bz J)],[]] (aC (λh2=>gH [[t0 h2],[]]) λh2=>ax λv5 h3=>gA [[f0 h2],[(22,cK akW h3)],[]] (aC (λh4=>gH [[t0 h4],[]]) λh4=>ax λv6 h5=>gH [[f0 h4],[(7,cK yI h5)]])))
def C0(N:Nat)(v1:aM)(v2:aD)(v3:aD):aph (aD×Int):=
 (Q8 N v1 v2 v3).bind λv4=>
 some (v4.1,v4.2)
theorem aez{N v1 v2 v3}:KO 233 [(cx v1),(bu v2),(bu v3)] (λr=> .bg [(bu r.1),(ar r.2)]) (C0 N v1 v2 v3):=
 fw Tryz.func233 (ax λv4 J=>gR [[],[(13,oQ [(.agg [(.fn 274 [])]),(cx v1),(bu v2),(bu v3)] [.cells (cx v1).cells, .cells (bu v2).cells, .cells (bu v3).cells, .cells iT] [] (ana _ J))]])
def Qg(N:Nat)(v1:aM)(v2:Int64)(v3:Int64):aph (Int64×Int):=
 some ((v2-v3),(0:Int))
theorem ah2{N v1 v2 v3}:KO 275 [(cx v1),(bC v2),(bC v3)] (λr=> .bg [(bC r.1),(ar r.2)]) (Qg N v1 v2 v3):=
 fw Tryz.func275 (gR [[],[(8,⟨_,_, .eq (xE v2 v3)⟩)]])
def Mz(N:Nat)(v1:aM)(v2:aD)(v3:aD):aph (aD×Int):=
 Option.bind (ra N v1 ([v2,v3])) λv4=>
 bif (v4 !=0)then
  some (cH,v4)
 else
  (Qg N v1 v2.xN v3.xN).bind λv5=>
  bif (v5.2 !=0)then
   some (cH,v5.2)
  else
   (oh N v1 v5.1).bind λv6=>
   some (v6,(0:Int))
theorem al1{N v1 v2 v3}:KP 272 [(.agg [(.fn 275 [])]),(cx v1),(bu v2),(bu v3)] [] (λr=> .bg [(bu r.1),(ar r.2)]) (λ_=>[]) (Mz N v1 v2 v3):=
 fh 0 Tryz.func272 (ax λv4 J=>gA [[],[(13,cK Bz J)],[]] (aC (λh2=>gH [[t0 h2],[]]) λh2=>ax λv5 h3=>gA [[f0 h2],[(22,cK ah2 h3)],[]] (aC (λh4=>gH [[t0 h4],[]]) λh4=>ax λv6 h5=>gH [[f0 h4],[(7,cK yI h5)]])))
def DM(N:Nat)(v1:aM)(v2:aD)(v3:aD):aph (aD×Int):=
 (Mz N v1 v2 v3).bind λv4=>
 some (v4.1,v4.2)
theorem aio{N v1 v2 v3}:KO 234 [(cx v1),(bu v2),(bu v3)] (λr=> .bg [(bu r.1),(ar r.2)]) (DM N v1 v2 v3):=
 fw Tryz.func234 (ax λv4 J=>gR [[],[(13,oQ [(.agg [(.fn 275 [])]),(cx v1),(bu v2),(bu v3)] [.cells (cx v1).cells, .cells (bu v2).cells, .cells (bu v3).cells, .cells iT] [] (al1 _ J))]])
def Nh(N:Nat)(v1:aM)(v2:Int64)(v3:Int64):aph (Int64×Int):=
 bif (decide ((0:Int)<=v1.bQ))then
 Option.bind (Aj N (v2*v3) (Int64.ofInt ((1:Int)*2^(min (v1.bQ).toNat (IntKind.bits .i64)))) v1.cq) λv4=>
 some (v4.1,v4.2)
 else none
theorem aj0{N v1 v2 v3}:KO 276 [(cx v1),(bC v2),(bC v3)] (λr=> .bg [(bC r.1),(ar r.2)]) (Nh N v1 v2 v3):=
 fw Tryz.func276 (dD λJ=>ax λv4 h2=>gR [[],[(8,⟨_,_, .eq (lu v2 v3)⟩),(16,⟨_,_, .nn (b:=v1.bQ) (of_decide_eq_true J)⟩),(17,⟨_,_, .eq (ky ((1:Int)*2^(min (v1.bQ).toNat (IntKind.bits .i64))))⟩),(25,cK SM h2)]])
def P8(N:Nat)(v1:aM)(v2:aD)(v3:aD):aph (aD×Int):=
 Option.bind (ra N v1 ([v2,v3])) λv4=>
 bif (v4 !=0)then
  some (cH,v4)
 else
  (Nh N v1 v2.xN v3.xN).bind λv5=>
  bif (v5.2 !=0)then
   some (cH,v5.2)
  else
   (oh N v1 v5.1).bind λv6=>
   some (v6,(0:Int))
theorem anV{N v1 v2 v3}:KP 272 [(.agg [(.fn 276 [])]),(cx v1),(bu v2),(bu v3)] [] (λr=> .bg [(bu r.1),(ar r.2)]) (λ_=>[]) (P8 N v1 v2 v3):=
 fh 0 Tryz.func272 (ax λv4 J=>gA [[],[(13,cK Bz J)],[]] (aC (λh2=>gH [[t0 h2],[]]) λh2=>ax λv5 h3=>gA [[f0 h2],[(22,cK aj0 h3)],[]] (aC (λh4=>gH [[t0 h4],[]]) λh4=>ax λv6 h5=>gH [[f0 h4],[(7,cK yI h5)]])))
def Eu(N:Nat)(v1:aM)(v2:aD)(v3:aD):aph (aD×Int):=
 (P8 N v1 v2 v3).bind λv4=>
 some (v4.1,v4.2)
theorem afK{N v1 v2 v3}:KO 235 [(cx v1),(bu v2),(bu v3)] (λr=> .bg [(bu r.1),(ar r.2)]) (Eu N v1 v2 v3):=
 fw Tryz.func235 (ax λv4 J=>gR [[],[(13,oQ [(.agg [(.fn 276 [])]),(cx v1),(bu v2),(bu v3)] [.cells (cx v1).cells, .cells (bu v2).cells, .cells (bu v3).cells, .cells iT] [] (anV _ J))]])
def Np(N:Nat)(v1:aM)(v2:Int64)(v3:Int64):aph (Int64×Int):=
 bif (decide ((0:Int)<=v1.bQ))then
 Option.bind (Aj N (Int64.ofInt (v2.toInt*2^(min (v1.bQ).toNat (IntKind.bits .i64)))) v3 v1.cq) λv4=>
 some (v4.1,v4.2)
 else none
theorem aiA{N v1 v2 v3}:KO 277 [(cx v1),(bC v2),(bC v3)] (λr=> .bg [(bC r.1),(ar r.2)]) (Np N v1 v2 v3):=
 fw Tryz.func277 (dD λJ=>ax λv4 h2=>gR [[],[(10,⟨_,_, .nn (b:=v1.bQ) (of_decide_eq_true J)⟩),(11,⟨_,_, .eq (ky (v2.toInt*2^(min (v1.bQ).toNat (IntKind.bits .i64))))⟩),(22,cK SM h2)]])
end Go.Proofs.YtpeecnpmcbnahaaGreatDoor
