/-
  Part 11 of the proof: PE1, PE2, PE3.
-/
import Derived.Test.YtpeecnpmcbnahaaGreatDoorPq10
namespace Go.Proofs.YtpeecnpmcbnahaaGreatDoor
open Go.RowKit
set_option maxRecDepth 100000
set_option maxHeartbeats 0
set_option linter.unusedVariables false
theorem zn{α β γ:Type}{a:Option α}{b:α->Option β}{f:α->β->Option γ}{r:γ}(h:Option.bind a (λx=>Option.bind (b x) (f x))=some r):∃x,a=some x/\∃y,b x=some y/\f x y=some r:=have⟨x,p,h⟩:=bO h;have⟨y,q,h⟩:=bO h;⟨x,p,y,q,h⟩
def fZ(v:aV)(r:aqP AV):aqP AV:=(.d (.sl (ep v.bm)))::(.d (.sl (nr v.dM)))::(.d (.sl (kO v.aX)))::(.d (.sl (iV v.aG)))::(.d (.sl (ep v.c9)))::r
def Mt(N:Nat):aqP bz->Nat->aqR Bool
 |[],_=>
  some false
 |v4::v5,v2=>
  bif (decide ((v4.xL.length:Int)>20))then
   some true
  else
   (Mt N v5 (v2+1))
def TK(N:Nat)(v1:aqP bz):aqR Bool:=
 Mt N v1 0
theorem afo{N v1}:KO 36 [(.d (.sl (gj v1)))] aK (TK N v1):=
 fw Tryz.func36 (gA [[],[]] (gT sT 0 v1 λh2=>fu 1 [] [0,3] 0 (λv2=>⟨17,[(0,(.d (.sl (gj v1)))),(3,(ar (v2:Int)))],[]⟩) (λv2 h3 f1=>gR [[(7,oL v1 jz)],[f0 (cu h3)],[]]) (λv2 v4 v5 h3 f1 aU=>gA [[(7,oL v1 jz)],[t0 (cv h3)],[(7,oE (vN (bI h3))),(16,oL v4.xL lV)]] (bQ λh4=>gb aU () [[f0 h4],[(5,oq (cD h3 rfl h2))]] h3))))
def ye(N:Nat)(v2:Int)(tJ:aw->Int->aqR Int):aqP aw->Nat->Int->aqR Int
 |[],_,v12=>
  some v12
 |v10::v11,v8,v12=>
  bif (decide (v12<=v2))then
   Option.bind (tJ v10 (aO (v2-v12))) λaL=>
   (λgW=>ye N v2 tJ v11 (v8+1) gW) (aO (v12+aL))
  else
   some v12
def KX(N:Nat)(jB:Int->aqR Int)(v2:Int):aqP bz->Nat->Int->aqR Int
 |[],_,bY=>
  jB bY
 |bG::cw,aQ,bY=>
  bif (decide (bY<=v2))then
   (λqD=>KX N jB v2 cw (aQ+1) qD) (aO (bY+(bG.xL.length:Int)))
  else
   jB bY
def BR(N:Nat)(v2:Int)(tJ:aw->Int->aqR Int):aqP aw->Nat->Int->aqR Int
 |[],_,da=>
  some da
 |v21::fk,cm,da=>
  bif (decide (da<=v2))then
   Option.bind (tJ v21 (aO (v2-da))) λv24=>
   (λyA=>BR N v2 tJ fk (cm+1) yA) (aO (da+v24))
  else
   some da
def Co(N:Nat)(v2:Int)(tJ:aw->Int->aqR Int)(v1:aw):aqP cO->Nat->Int->aqR Int
 |[],_,v7=>
  ye N v2 tJ v1.bJ 0 v7
 |v5::v6,v3,v7=>
  bif (decide (v7<=v2))then
   KX N (λcl=>Co N v2 tJ v1 v6 (v3+1) cl) v2 v5.cT 0 (aO ((aO (v7+(v5.bo.xL.length:Int)))+(v5.cT.length:Int)))
  else
   BR N v2 tJ v1.bJ 0 v7
def vm(N:Nat):Nat->aw->Int->aqR Int
 |0,_,_=>none
 |d+1,v1,v2=>
  Co N v2 (vm N d) v1 v1.xIdx 0 (aO ((aO ((1:Int)+(v1.bo.xL.length:Int)))+(v1.xIdx.length:Int)))
def Qd(N:Nat)(v1:aw)(v2:Int):aqR Int:=vm N N v1 v2
theorem agO(N:Nat):∀d:Nat,(∀{v1:aw}{v2:Int},KO 37 [(aP v1),(ar v2)] ar (vm N d v1 v2)):=by
 intro d
 induction d with
 |zero=>intro v1 v2 r U;rw[vm]at U;cases U
 |succ d ih=>
  have Xr:= @ih;intro v1 v2;rw[vm];exact fw Tryz.func37 (gA [[],[(10,oL v1.bo.xL lV),(22,oL v1.xIdx ld)],[]] (gB Fj 0 11 v1.xIdx λh2=>gU 1 [] [1,2,5,6] 1 (λv3(v7:Int)=>⟨101,[(1,(ar v2)),(2,(.ptr 0 0)),(5,(ar v7)),(6,(ar (v3:Int)))],[.cells (aP v1).cells]⟩) (λv3 v7 h3 f1=>gA [[(10,oL v1.xIdx ld),(18,bF (cu h3)),(21,bF (cu h3)),(24,bF (cu h3)),(28,bF (cu h3))],[(0,bF rfl)],[]] (gB F9 0 12 v1.bJ λh5=>gU 2 [] [1,2,5,8] 1 (λv8(v12:Int)=>⟨101,[(1,(ar v2)),(2,(.ptr 0 0)),(5,(ar v12)),(8,(ar (v8:Int)))],[.cells (aP v1).cells]⟩) (λv8 v12 h6 f2=>gR [[(10,oL v1.bJ qi),(18,bF (cu h6)),(21,bF (cu h6)),(24,bF (cu h6)),(28,bF (cu h6))],[(0,bF rfl)],[]]) (λv8 v10 v11 v12 h6 f2 fi=>gA [[(10,oL v1.bJ qi),(18,bT (cv h6)),(21,bT (cv h6)),(24,bT (cv h6)),(28,bT (cv h6))]] (qn λh7=>aB λaL h8=>gb fi (aO (v12+aL)) [[(0,bT h7)],[(13,oE (nb (bI h6))),(28,cK Xr h8)],[(5,oq (cD h6 rfl h5))]] h6)))) (λv3 v5 v6 v7 h3 f1 aU=>gA [[(10,oL v1.xIdx ld),(18,bT (cv h3)),(21,bT (cv h3)),(24,bT (cv h3)),(28,bT (cv h3))]] (aC (λh9=>gA [[(0,bT h9)],[(13,oE (nW (bI h3))),(25,oL v5.bo.xL lV),(40,oE (nW (bI h3))),(49,oL v5.cT jz)],[]] (liH (λ_=>(UF 0 11 (eZ v1.xIdx) (by kernel_rfl) ·)) λbE=>have bD:=Bb jz (apx (j:=3) (d:= .sl (gj v5.cT)) bE (nW (bI h3)) rfl);gU 3 [] [1,2,5,6,7] 1 (λaQ(bY:Int)=>⟨101,[(1,(ar v2)),(2,(.ptr 0 0)),(5,(ar bY)),(6,(ar (v3:Int))),(7,(ar (aQ:Int)))],[.cells (aP v1).cells]⟩) (λaQ bY bw f3=>gb aU bY [[(13,oE (nW (bI h3))),(22,oL v5.cT jz),(30,bF (cu bw)),(33,bF (cu bw)),(36,bF (cu bw)),(40,bF (cu bw))],[(0,bF rfl)],[(5,oq (cD h3 rfl h2))]] h3) (λaQ bG cw bY bw f3 lB=>gA [[(13,oE (nW (bI h3))),(22,oL v5.cT jz),(30,bT (cv bw)),(33,bT (cv bw)),(36,bT (cv bw)),(40,bT (cv bw))]] (aC (λcN=>gb lB (aO (bY+(bG.xL.length:Int))) [[(0,bT cN)],[(13,oE (nW (bI h3))),(25,oE (vN (bI bw))),(34,oL bG.xL lV)],[(5,oq (cD bw rfl bD))]] bw) λcN=>gb aU bY [[(0,bF cN)],[(5,oq (cD h3 rfl h2))]] h3)))) λh9=>gA [[(0,bF h9)],[]] (gB F9 0 12 v1.bJ λcH=>gU 4 [] [1,2,5,8] 1 (λcm(da:Int)=>⟨101,[(1,(ar v2)),(2,(.ptr 0 0)),(5,(ar da)),(8,(ar (cm:Int)))],[.cells (aP v1).cells]⟩) (λcm da cM f4=>gR [[(10,oL v1.bJ qi),(18,bF (cu cM)),(21,bF (cu cM)),(24,bF (cu cM)),(28,bF (cu cM))],[(0,bF rfl)],[]]) (λcm v21 fk da cM f4 ng=>gA [[(10,oL v1.bJ qi),(18,bT (cv cM)),(21,bT (cv cM)),(24,bT (cv cM)),(28,bT (cv cM))]] (qn λeH=>aB λv24 fR=>gb ng (aO (da+v24)) [[(0,bT eH)],[(13,oE (nb (bI cM))),(28,cK Xr fR)],[(5,oq (cD cM rfl cH))]] cM)))))))
theorem ajc{N v1 v2}:KO 37 [(aP v1),(ar v2)] ar (Qd N v1 v2):=(agO N N)
def Fy(N:Nat)(aQ:bB)(Yw:aqR Bool):Nat->Int->aqR Bool
 |0,_=>none
 |bY+1,cm=>
  bif (decide (cm<(aO ((aQ.aS.length:Int)+(aQ.bR.length:Int)))))then
   bif (Nat.ble ((0+aQ.aS.length)*48) 140737488355328)then
   bif (Nat.ble ((aQ.aS.length+aQ.bR.length)*48) 140737488355328)then
   bif (decide ((0:Int)<=cm))then
   Option.bind ((aQ.aS++aQ.bR)[(cm).toNat]?) λv20=>
   bif (decide ((v20.dG.xL.length:Int)>20))then
    some true
   else
    (λyA=>Fy N aQ Yw bY yA) (aO (cm+(1:Int)))
   else none
   else none
   else none
  else
   Yw
def E7(N:Nat)(v2:Int):aqP bB->Nat->aqR Bool
 |[],_=>
  some false
 |aQ::bu,v12=>
  Option.bind (bif (decide ((aQ.aS.length:Int)>12))then some true else(bif (decide ((aQ.bR.length:Int)>12))then some true else (Qd N aQ.bP v2).bind λbG=>
  some (decide (bG>v2)))) λcw=>
  bif cw then
   some true
  else
   Fy N aQ (E7 N v2 bu (v12+1)) N (0:Int)
def LL(N:Nat)(v2:Int)(v1:aV):aqP eN->Nat->aqR Bool
 |[],_=>
  E7 N v2 v1.aG 0
 |v10::v11,v8=>
  Option.bind (bif (decide ((v10.aS.length:Int)>12))then some true else (TK N v10.aS).bind λv21=>
  some v21) λfk=>
  bif fk then
   some true
  else
   (LL N v2 v1 v11 (v8+1))
def HH(N:Nat)(v2:Int)(v1:aV):aqP gC->Nat->aqR Bool
 |[],_=>
  LL N v2 v1 v1.aX 0
 |v6::v7,v4=>
  bif (decide ((v6.bo.xL.length:Int)>20))then
   some true
  else
   (HH N v2 v1 v7 (v4+1))
def GF(N:Nat)(v1:aV)(v2:Int):aqR Bool:=
 Option.bind (bif (decide ((v1.bm.length:Int)>12))then some true else(bif (decide ((v1.dM.length:Int)>12))then some true else(bif (decide ((v1.aX.length:Int)>12))then some true else(bif (decide ((v1.aG.length:Int)>12))then some true else some (decide ((v1.c9.length:Int)>12)))))) λv3=>
 bif v3 then
  some true
 else
  HH N v2 v1 v1.dM 0
def uL(v1:aV)(l:aqP aq):aqP aq:= .cells (dW v1).cells::l
theorem akr{N v1 v2}:KO 21 [(dW v1),(ar v2)] aK (GF N v1 v2):=
 fw Tryz.func21 (gA [[]] (gG (λv3=>[(38,(aK v3))]) (λ_=>(uL v1 [])) (dQ (7,oL v1.bm jT) (aC (λJ=>gE [(4,bT J),(10,bT rfl),(16,bT rfl),(22,bT rfl)] []) λJ=>dE (4,bF J) (dQ (22,oL v1.dM wP) (aC (λh2=>gE [(10,bT h2),(16,bT rfl),(22,bT rfl)] []) λh2=>dE (10,bF h2) (dQ (40,oL v1.aX ri) (aC (λh3=>gE [(16,bT h3),(22,bT rfl)] []) λh3=>dE (16,bF h3) (dQ (58,oL v1.aG lz) (aC (λh4=>gE [(22,bT h4)] []) λh4=>gE [(22,bF h4)] [(76,oL v1.c9 jT)])))))))) λv3=>jq λ_=>gB Og 0 1 v1.dM λh8=>fu 1 [] [1,2,5] 1 (λv4=>⟨135,[(1,(ar v2)),(2,(.ptr 0 0)),(5,(ar (v4:Int)))],(uL v1 [])⟩) (λv4 h9 f1=>gA [[(10,oL v1.dM wP)],[f0 (cu h9)],[]] (gB SJ 0 2 v1.aX λbD=>fu 2 [] [1,2,6] 1 (λv8=>⟨135,[(1,(ar v2)),(2,(.ptr 0 0)),(6,(ar (v8:Int)))],(uL v1 [])⟩) (λv8 bw f2=>gA [[(10,oL v1.aX ri)],[f0 (cu bw)],[]] (gB Af 0 3 v1.aG λcS=>fu 3 [] [1,2,7] 1 (λv12=>⟨135,[(1,(ar v2)),(2,(.ptr 0 0)),(7,(ar (v12:Int)))],(uL v1 [])⟩) (λv12 cH f3=>gR [[(10,oL v1.aG lz)],[f0 (cu cH)],[]]) (λv12 aQ bu cH f3 lB=>gA [[(10,oL v1.aG lz)],[t0 (cv cH)],[(10,oE (k9 (bI cH)))]] (gG (λcw=>[(108,(aK cw))]) (λ_=>(uL v1 [.cells (fY aQ).cells])) (dQ (7,oL aQ.aS kZ) (aC (λcM=>gE [(4,bT cM),(10,bT rfl)] []) λcM=>dE (4,bF cM) (dQ (22,oL aQ.bR kZ) (aC (λeH=>gE [(10,bT eH)] []) λeH=>aB λbG fR=>gE [(10,bF eH)] [(43,cK ajc fR)])))) λcw=>bQ λgY=>O3 4 [[f0 gY],[]] [1,2,7,8,9] 2 (λ(cm:Int)=>⟨135,[(1,(ar v2)),(2,(.ptr 0 0)),(7,(ar (v12:Int))),(8,(.ptr 1 0)),(9,(ar cm))],(uL v1 [.cells (fY aQ).cells])⟩) (Fy N aQ (E7 N v2 bu (v12+1))) (λbY cm f4 ng=>gA [[(10,oL aQ.aS kZ),(19,oL aQ.bR kZ)]] (aC (λkV=>gA [[t0 kV]] (dN λjl=>dN λie=>dN λpO=>aB λv20 h24=>li (λ_=>(N1 3 bA [(10,(.ptr 3 0))] (uL v1 [.cells (fY aQ).cells, .front 63 3 (aQ.aS++aQ.bR).length, .cells (Ny v20).cells]) ⟨[(10,oZ sK aQ.aS jl),(19,oA sK aQ.aS aQ.bR ie),(25,⟨_,_, .el (xs:=dAxiss (aQ.aS++aQ.bR)) (i:=cm) (of_decide_eq_true pO) (xC h24)⟩)],by kernel_rfl⟩ ·)) (gA [[(10,oL v20.dG.xL lV)]] (bQ λmX=>FR ng (aO (cm+(1:Int))) [[f0 mX],[]])))) λkV=>gb lB () [[f0 kV],[(5,oq (cD cH rfl cS))]] cH)))))) (λv8 v10 v11 bw f2 fi=>gA [[(10,oL v1.aX ri)],[t0 (cv bw)]] (gG (λfk=>[(78,(aK fk))]) (λ_=>(uL v1 [])) (dQ (10,oE (Dt (bI bw))) (dQ (19,oL v10.aS jz) (aC (λiy=>gE [(8,bT iy)] []) λiy=>aB λv21 oC=>gE [(8,bF iy)] [(37,oE (Dt (bI bw))),(46,cK afo oC)]))) λfk=>bQ λlZ=>gb fi () [[f0 lZ],[(5,oq (cD bw rfl bD))]] bw)))) (λv4 v6 v7 h9 f1 aU=>gA [[(10,oL v1.dM wP)],[t0 (cv h9)],[(10,oE (RJ (bI h9))),(22,oL v6.bo.xL lV)]] (bQ λzc=>gb aU () [[f0 zc],[(5,oq (cD h9 rfl h8))]] h9))))
def J7(N:Nat)(v1:aqP aJ)(v2:Int):aqP aJ->Nat->aqR Bool
 |[],_=>
  some (decide ((v1.length:Int)<=v2))
 |v5::v6,v3=>
  bif (decide ((v5.au.size:Int)>100))then
   some false
  else
   (J7 N v1 v2 v6 (v3+1))
def Qv(N:Nat)(v1:aqP aJ)(v2:Int):aqR Bool:=
 J7 N v1 v2 v1 0
theorem aph{N v1 v2}:KO 22 [(.d (.sl (aW v1))),(ar v2)] aK (Qv N v1 v2):=
 fw Tryz.func22 (gA [[],[]] (gT yY 0 v1 λh2=>fu 1 [] [0,1,5] 0 (λv3=>⟨23,[(0,(.d (.sl (aW v1)))),(1,(ar v2)),(5,(ar (v3:Int)))],[]⟩) (λv3 h3 f1=>gR [[(7,oL v1 qE)],[f0 (cu h3)],[(4,oL v1 qE)]]) (λv3 v5 v6 h3 f1 aU=>gA [[(7,oL v1 qE)],[t0 (cv h3)],[(7,oE (rl (bI h3)))]] (bQ λh4=>gb aU () [[f0 h4],[(5,oq (cD h3 rfl h2))]] h3))))
def MR(N:Nat)(jB:Int64->aqR Int)(v8:Int64)(v6:dC):aqP aJ->Nat->aqR Int
 |[],_=>
  jB v8
 |v12::aL,v10=>
  Option.bind (bif (bL v12.au==bL v6.au)then some (decide (v12.dt.toInt>(-1000:Int)))else some false) λaQ=>
  bif aQ then
   jB (v8+(v6.dU*v12.dt))
  else
   (MR N jB v8 v6 aL (v10+1))
def FV(N:Nat)(v2:aqP aJ):aqP dC->Nat->Int64->aqR Int
 |[],_,v8=>
  some (yM (1:Int64) (Em v8 (3001:Int64))).toInt
 |v6::v7,v4,v8=>
  Option.bind (bif (decide (v6.dU.toInt>100))then some true else some (decide (v6.dU.toInt<(-100:Int)))) λv9=>
  bif v9 then
   some (3001:Int)
  else
   MR N (λcl=>FV N v2 v7 (v4+1) cl) v8 v6 v2 0
def I9(N:Nat)(v1:bz)(v2:aqP aJ):aqR Int:=
 Option.bind (bif (decide (v1.xK.toInt>3000))then some true else some (decide (v1.xK.toInt<(-3000:Int)))) λv3=>
 bif v3 then
  some (3001:Int)
 else
  FV N v2 v1.xL 0 v1.xK
theorem afC{N v1 v2}:KO 38 [(dV v1),(.d (.sl (aW v2)))] ar (I9 N v1 v2):=
 fw Tryz.func38 (gA [[]] (gG (λv3=>[(15,(aK v3))]) (λ_=>[.cells (dV v1).cells]) (aC (λJ=>gE [(3,bT J)] []) λJ=>gE [(3,bF J)] []) λv3=>bQ λh3=>gA [[f0 h3],[],[]] (gB CN 0 1 v1.xL λh5=>gU 1 [] [1,2,5,6] 1 (λv4(v8:Int64)=>⟨84,[(1,(.d (.sl (aW v2)))),(2,(.ptr 0 0)),(5,(bC v8)),(6,(ar (v4:Int)))],[.cells (dV v1).cells]⟩) (λv4 v8 h6 f1=>gR [[(10,oL v1.xL lV)],[f0 (cu h6)],[(5,⟨_,_, .eq (anu v8 (3001:Int64))⟩),(8,⟨_,_, .eq (aa7 (1:Int64) (Em v8 (3001:Int64)))⟩)]]) (λv4 v6 v7 v8 h6 f1 aU=>gA [[(10,oL v1.xL lV)],[t0 (cv h6)]] (gG (λv9=>[(40,(aK v9))]) (λ_=>[.cells (dV v1).cells]) (dQ (10,oE (ta (bI h6))) (aC (λh7=>gE [(7,bT h7)] []) λh7=>gE [(7,bF h7)] [(34,oE (ta (bI h6)))])) λv9=>jq λ_=>gT yY 1 v2 λbD=>fu 2 [] [1,2,5,6,7] 1 (λv10=>⟨84,[(1,(.d (.sl (aW v2)))),(2,(.ptr 0 0)),(5,(bC v8)),(6,(ar (v4:Int))),(7,(ar (v10:Int)))],[.cells (dV v1).cells]⟩) (λv10 bw f2=>gb aU v8 [[(7,oL v2 qE)],[f0 (cu bw)],[(5,oq (cD h6 rfl h5))]] h6) (λv10 v12 aL bw f2 fi=>gA [[(7,oL v2 qE)],[t0 (cv bw)]] (gG (λaQ=>[(66,(aK aQ))]) (λ_=>[.cells (dV v1).cells]) (dQ (7,oE (rl (bI bw))) (dQ (25,oE (ta (bI h6))) (aC (λcN=>gE [(12,bT cN)] [(46,oE (rl (bI bw)))]) λcN=>gE [(12,bF cN)] []))) λaQ=>aC (λcH=>gb aU (v8+(v6.dU*v12.dt)) [[t0 cH],[(13,oE (ta (bI h6))),(28,oE (rl (bI bw))),(38,⟨_,_, .eq (lQ v6.dU v12.dt)⟩),(41,⟨_,_, .eq (Ea v8 (v6.dU*v12.dt))⟩)],[(5,oq (cD h6 rfl h5))]] h6) λcH=>gb fi () [[f0 cH],[(5,oq (cD bw rfl bD))]] bw)))))))
def IW(N:Nat)(v2:aqP aJ):aqP du->Nat->Int->aqR Int
 |[],_,v7=>
  some v7
 |v5::v6,v3,v7=>
  (I9 N v5.dG v2).bind λv8=>
  (λcl=>IW N v2 v6 (v3+1) cl) (if(aO (v7*v8))<3001then(aO (v7*v8))else(3001:Int))
def Hq(N:Nat)(v1:aqP du)(v2:aqP aJ):aqR Int:=
 IW N v2 v1 0 (1:Int)
theorem aa8{N v1 v2}:KO 23 [(.d (.sl (dAxiss v1))),(.d (.sl (aW v2)))] ar (Hq N v1 v2):=
 fw Tryz.func23 (gA [[],[],[]] (gT sK 0 v1 λh2=>gU 1 [] [0,1,5,6] 0 (λv3(v7:Int)=>⟨24,[(0,(.d (.sl (dAxiss v1)))),(1,(.d (.sl (aW v2)))),(5,(ar v7)),(6,(ar (v3:Int)))],[]⟩) (λv3 v7 h3 f1=>gR [[(7,oL v1 kZ)],[f0 (cu h3)],[]]) (λv3 v5 v6 v7 h3 f1 aU=>aB λv8 h4=>gb aU (if(aO (v7*v8))<3001then(aO (v7*v8))else(3001:Int)) [[(7,oL v1 kZ)],[t0 (cv h3)],[(10,oE (xC (bI h3))),(22,cK afC h4)],[(5,oq (cD h3 rfl h2))]] h3)))
def M6(N:Nat)(v2:aqP aJ):aqP bB->Nat->aqR Bool
 |[],_=>
  some true
 |aL::aQ,v11=>
  (Hq N aL.aS v2).bind λbu=>
  (Hq N aL.bR v2).bind λbG=>
  bif (decide ((aO (bu*bG))>3000))then
   some false
  else
   (M6 N v2 aQ (v11+1))
def IN(N:Nat)(v2:aqP aJ)(v1:aV)(v3:Int64):aqP aJ->Nat->aqR Bool
 |[],_=>
  M6 N v2 v1.aG 0
 |v9::v10,v7=>
  bif (decide (v9.dt.toInt>v3.toInt))then
   some false
  else
   (IN N v2 v1 v3 v10 (v7+1))
def I8(N:Nat)(v1:aV)(v2:aqP aJ)(v3:Int64):aqR Bool:=
 Option.bind (GF N v1 (400:Int)) λv4=>
 Option.bind (bif v4 then some true else(bif (decide ((v1.aG.length:Int)>12))then some true else Option.bind (Qv N v2 (20:Int)) λv5=>
 some (!v5))) λv6=>
 bif v6 then
  some false
 else
  IN N v2 v1 v3 v2 0
theorem ac3{N v1 v2 v3}:KO 7 [(dW v1),(.d (.sl (aW v2))),(bC v3)] aK (I8 N v1 v2 v3):=
 fw Tryz.func7 (gA [[]] (aB λv4 J=>gG (λv6=>[(21,(aK v6))]) (λ_=>[.cells (dW v1).cells]) (dQ (4,cK akr J) (aC (λh2=>gE [(2,bT h2),(8,bT rfl)] []) λh2=>dE (2,bF h2) (dQ (16,oL v1.aG lz) (aC (λh3=>gE [(8,bT h3)] []) λh3=>aB λv5 h4=>gE [(8,bF h3)] [(31,cK aph h4)])))) λv6=>jq λ_=>gT yY 1 v2 λh8=>fu 1 [] [1,2,3,7] 1 (λv7=>⟨60,[(1,(.d (.sl (aW v2)))),(2,(bC v3)),(3,(.ptr 0 0)),(7,(ar (v7:Int)))],[.cells (dW v1).cells]⟩) (λv7 h9 f1=>gA [[(7,oL v2 qE)],[f0 (cu h9)],[]] (gB Af 0 3 v1.aG λbD=>fu 2 [] [1,3,8] 1 (λv11=>⟨60,[(1,(.d (.sl (aW v2)))),(3,(.ptr 0 0)),(8,(ar (v11:Int)))],[.cells (dW v1).cells]⟩) (λv11 bw f2=>gR [[(10,oL v1.aG lz)],[f0 (cu bw)],[]]) (λv11 aL aQ bw f2 fi=>aB λbu cN=>aB λbG cS=>gA [[(10,oL v1.aG lz)],[t0 (cv bw)],[(10,oE (k9 (bI bw))),(22,cK aa8 cN),(34,oE (k9 (bI bw))),(46,cK aa8 cS)]] (bQ λcH=>gb fi () [[f0 cH],[(5,oq (cD bw rfl bD))]] bw)))) (λv7 v9 v10 h9 f1 aU=>gA [[(7,oL v2 qE)],[t0 (cv h9)],[(7,oE (rl (bI h9)))]] (bQ λcM=>gb aU () [[f0 cM],[(5,oq (cD h9 rfl h8))]] h9))))
def Lj(N:Nat)(v1:aqP aI):aqP aI->Nat->aqR Bool
 |[],_=>
  some (decide ((v1.length:Int)<=30))
 |v4::v5,v2=>
  Option.bind (bif (decide ((v4.au.size:Int)>100))then some true else(bif (decide ((v4.cB.aS.length:Int)>20))then some true else some (decide ((v4.cB.dn.length:Int)>4200)))) λv6=>
  bif v6 then
   some false
  else
   (Lj N v1 v5 (v2+1))
def Oz(N:Nat)(v1:aqP aI):aqR Bool:=
 Lj N v1 v1 0
theorem alI{N v1}:KO 8 [(.d (.sl (aZ v1)))] aK (Oz N v1):=
 fw Tryz.func8 (gA [[],[]] (gT qZ 0 v1 λh2=>fu 1 [] [0,3] 0 (λv2=>⟨40,[(0,(.d (.sl (aZ v1)))),(3,(ar (v2:Int)))],[]⟩) (λv2 h3 f1=>gR [[(7,oL v1 kg)],[f0 (cu h3)],[(4,oL v1 kg)]]) (λv2 v4 v5 h3 f1 aU=>gA [[(7,oL v1 kg)],[t0 (cv h3)]] (gG (λv6=>[(36,(aK v6))]) (λ_=>[]) (dQ (7,oE (jJ (bI h3))) (aC (λh4=>gE [(7,bT h4),(17,bT rfl)] []) λh4=>dE (7,bF h4) (dQ (31,oE (jJ (bI h3))) (dQ (43,oL v4.cB.aS fy) (aC (λh5=>gE [(17,bT h5)] []) λh5=>gE [(17,bF h5)] [(61,oE (jJ (bI h3))),(73,oL v4.cB.dn kX)]))))) λv6=>bQ λh7=>gb aU () [[f0 h7],[(5,oq (cD h3 rfl h2))]] h3))))
def K3(N:Nat)(v1:aV):aqR Bool:=
 Option.bind (bif (decide ((if(v1.c9.length:Int)>(if(v1.aG.length:Int)>(if(v1.aX.length:Int)>(v1.bm.length:Int)then(v1.aX.length:Int)else(v1.bm.length:Int))then(v1.aG.length:Int)else(if(v1.aX.length:Int)>(v1.bm.length:Int)then(v1.aX.length:Int)else(v1.bm.length:Int)))then(v1.c9.length:Int)else(if(v1.aG.length:Int)>(if(v1.aX.length:Int)>(v1.bm.length:Int)then(v1.aX.length:Int)else(v1.bm.length:Int))then(v1.aG.length:Int)else(if(v1.aX.length:Int)>(v1.bm.length:Int)then(v1.aX.length:Int)else(v1.bm.length:Int))))<=64))then some (decide ((v1.dM.length:Int)<=256))else some false) λv2=>
 some v2
theorem apj{N v1}:KO 87 [(dW v1)] aK (K3 N v1):=
 fw Tryz.func87 (gA [[]] (gG (λv2=>[(2,(aK v2))]) (λ_=>[.cells (dW v1).cells]) (dQ (7,oL v1.bm jT) (dQ (16,oL v1.aX ri) (dQ (25,oL v1.aG lz) (dQ (34,oL v1.c9 jT) (aC (λJ=>gE [(14,bT J)] [(52,oL v1.dM wP)]) λJ=>gE [(14,bF J)] []))))) λv2=>gR []))
def Gf(N:Nat)(v1:Int):aqR Bool:=
 Option.bind (bif (decide (v1>=97))then some (decide (v1<=122))else some false) λv2=>
 some v2
theorem abE{N v1}:KO 213 [(.d (.v (.int .i32 v1)))] aK (Gf N v1):=
 fw Tryz.func213 (gA [[]] (gG (λv2=>[(2,(aK v2))]) (λ_=>[]) (aC (λJ=>gE [(2,bT J)] []) λJ=>gE [(2,bF J)] []) λv2=>gR []))
def MJ(N:Nat)(v1:Int):aqR Bool:=
 Option.bind (bif (decide (v1>=48))then some (decide (v1<=57))else some false) λv2=>
 some v2
theorem ajj{N v1}:KO 260 [(.d (.v (.int .i32 v1)))] aK (MJ N v1):=
 fw Tryz.func260 (gA [[]] (gG (λv2=>[(2,(aK v2))]) (λ_=>[]) (aC (λJ=>gE [(2,bT J)] []) λJ=>gE [(2,bF J)] []) λv2=>gR []))
def KW(N:Nat)(v1:Int):aqR Bool:=
 (Gf N v1).bind λv2=>
 Option.bind (bif v2 then some true else (MJ N v1).bind λv3=>
 (bif v3 then some true else some (v1==95))) λv4=>
 some v4
theorem ajg{N v1}:KO 215 [(.d (.v (.int .i32 v1)))] aK (KW N v1):=
 fw Tryz.func215 (gA [[]] (aB λv2 J=>gG (λv4=>[(2,(aK v4))]) (λ_=>[]) (dQ (4,cK abE J) (aC (λh2=>gE [(2,bT h2),(6,bT rfl)] []) λh2=>aB λv3 h3=>dE (2,bF h2) (dQ (13,cK ajj h3) (aC (λh4=>gE [(6,bT h4)] []) λh4=>gE [(6,bF h4)] [])))) λv4=>gR []))
def Fv(N:Nat)(v1:aqQ):Nat->Int->aqR Int
 |0,_=>none
 |v2+1,v3=>
  Option.bind (bif (decide (v3<(v1.size:Int)))then bif (decide ((0:Int)<=v3))then
  Option.bind (v1[(v3).toNat]?) λv4=>
  Option.bind (KW N (IntKind.i32.wrap (v4.toNat:Int))) λv5=>
  some v5
  else none else some false) λv6=>
  bif v6 then
   (λcl=>Fv N v1 v2 cl) (aO (v3+(1:Int)))
  else
   some v3
def Lm(N:Nat)(v1:aqQ):aqR Int:=
 Fv N v1 N (0:Int)
theorem aeK{N v1}:KP 214 [(di v1),(.fn 215 [])] [] ar (λ_=>[]) (Lm N v1):=
 fh 0 Tryz.func214 (O3 1 [[],[]] [0,1,5] 0 (λ(v3:Int)=>⟨21,[(0,(di v1)),(1,(.fn 215 [])),(5,(ar v3))],[]⟩) (Fv N v1) (λv2 v3 f1 aU=>gG (λv6=>[(17,(aK v6))]) (λ_=>[]) (aC (λJ=>dN λh3=>aB λv4 h2=>aB λv5 h4=>gE [(4,bT J)] [(25,⟨_,_, .ch (i:=v3) (of_decide_eq_true h3) h2⟩),(31,cK ajg h4)]) λJ=>gE [(4,bF J)] []) λv6=>aC (λh6=>FR aU (aO (v3+(1:Int))) [[t0 h6],[]]) λh6=>gH [[f0 h6],[]]))
def O0(N:Nat):aqR (aqP aqQ):=some n7
theorem aei{N r}(U:O0 N=some r):gi Tryz.prog 261 [] (·=(.d (.sl (ep r)))):=by
 cases U;exact aki
def J0(N:Nat)(v2:aqQ):aqP aqQ->Nat->aqR Int
 |[],_=>
  some (-1:Int)
 |v5::v6,v3=>
  bif (bL v2==bL v5)then
   some (v3:Int)
  else
   (J0 N v2 v6 (v3+1))
def IS(N:Nat)(v1:aqP aqQ)(v2:aqQ):aqR Int:=
 J0 N v2 v1 0
theorem anQ{N v1 v2}:KO 148 [(.d (.sl (ep v1))),(di v2)] ar (IS N v1 v2):=
 fw Tryz.func148 (gA [[],[(4,oL v1 jT)]] (gT tc 0 v1 λh2=>fu 1 [] [0,1,7,8] 0 (λv3=>⟨19,[(0,(.d (.sl (ep v1)))),(1,(di v2)),(7,(ar (v1.length:Int))),(8,(ar (v3:Int)))],[]⟩) (λv3 h3 f1=>gR [[],[f0 (cu h3)],[]]) (λv3 v5 v6 h3 f1 aU=>gA [[],[t0 (cv h3)],[],[(10,oE (n8 (bI h3)))]] (bQ λh4=>gb aU () [[f0 h4],[(2,oq (cD h3 rfl h2))]] h3))))
def AH(N:Nat)(v1:aqP aqQ)(v2:aqQ):aqR Bool:=
 (IS N v1 v2).bind λv3=>
 some (decide (v3>=0))
theorem Wf{N v1 v2}:KO 92 [(.d (.sl (ep v1))),(di v2)] aK (AH N v1 v2):=
 fw Tryz.func92 (aB λv3 J=>gR [[],[(7,cK anQ J)]])
def IU(N:Nat)(v1:aqQ):aqR Bool:=
 (O0 N).bind λv2=>
 (AH N v2 v1).bind λv3=>
 some v3
theorem ai5{N v1}:KO 216 [(di v1)] aK (IU N v1):=
 fw Tryz.func216 (aB λv2 J=>aB λv3 h2=>gR [[],[(1,cL (aei J)),(7,cK Wf h2)]])
def w5(N:Nat)(v1:aqQ):aqR Bool:=
 Option.bind (bif (bL v1==bL (bs []))then some false else(bif (decide ((v1.size:Int)<=16))then Option.bind (v1[0]?) λv2=>
 Option.bind (Gf N (IntKind.i32.wrap (v2.toNat:Int))) λv3=>
 (bif v3 then (Lm N v1).bind λv4=>
 (bif (v4==(v1.size:Int))then (IU N v1).bind λv5=>
 some (!v5)else some false)else some false)else some false)) λv6=>
 some v6
theorem Mu{N v1}:KO 140 [(di v1)] aK (w5 N v1):=
 fw Tryz.func140 (gA [[]] (gG (λv6=>[(2,(aK v6))]) (λ_=>[]) (aC (λJ=>gE [(2,bF (dq J)),(7,bF rfl),(13,bF rfl),(20,bF rfl)] []) λJ=>dE (2,bT (dZ J)) (aC (λh2=>aB λv2 h3=>aB λv3 h4=>dE (7,bT h2) (dQ (28,⟨_,_, .ch (i:=0) (by decide) h3⟩) (dQ (34,cK abE h4) (aC (λh5=>aB λv4 h6=>dE (13,bT h5) (dQ (46,oQ [(di v1),(.fn 215 [])] [] [] (aeK _ h6)) (aC (λh7=>aB λv5 h8=>gE [(20,bT h7)] [(67,cK ai5 h8)]) λh7=>gE [(20,bF h7)] []))) λh5=>gE [(13,bF h5),(20,bF rfl)] [])))) λh2=>gE [(7,bF h2),(13,bF rfl),(20,bF rfl)] [])) λv6=>gR []))
def Cl(N:Nat)(v1:aqQ)(v2:Int)(v3:aV)(v4:aqP (aqQ×Int)):aqR (Int×(aqP (aqQ×Int))):=
 (w5 N v1).bind λv5=>
 bif v5 then
  bif ((gv v4 v1 0) !=0)then
   some ((8:Int),v4)
  else
   bif (Nat.blt v4.length 9223372036854775807)then
   some ((0:Int),((v1,v2)::v4))
   else none
 else
  some ((7:Int),v4)
theorem N8{N v1 v2 v3 v4}:KP 88 [(.ptr 0 0),(di v1),(ar v2)] [.cells (fZ v3 [(.mp 1)]), .map (fq v4)] (λr=>ar r.1) (λr=>[.cells (fZ v3 [(.mp 1)]), .map (fq r.2)]) (Cl N v1 v2 v3 v4):=
 fh 2 Tryz.func88 (aB λv5 J=>gA [[],[(4,cK Mu J)]] (aC (λh2=>gA [[f0 (dq h2)],[(17,⟨_,_, .eq (DB false v4 v1)⟩)]] (aC (λh3=>gH [[t0 h3],[]]) λh3=>dN λh4=>gH [[f0 h3],[(19,⟨_,_, .sd (o:= .none) (Rm h4)⟩)],[]])) λh2=>gH [[t0 (dZ h2)],[]]))
def iX(N:Nat)(v2:Bool):aqR Bool:=
 bif v2 then
  some true
 else
  some false
def HY(N:Nat)(v1:aqQ):aqR Bool:=
 bif (bL v1==bL (bs [115,105,122,101]))then
  iX N (bL v1==bL (bs [115,105,122,101]))
 else
  bif (bL v1==bL (bs [119,104,101,114,101]))then
   iX N (bL v1==bL (bs [119,104,101,114,101]))
  else
   bif (bL v1==bL (bs [105,110]))then
    iX N (bL v1==bL (bs [105,110]))
   else
    bif (bL v1==bL (bs [100,101,102]))then
     iX N (bL v1==bL (bs [100,101,102]))
    else
     bif (bL v1==bL (bs [111,117,116]))then
      iX N (bL v1==bL (bs [111,117,116]))
     else
      bif (bL v1==bL (bs [115,117,109]))then
       iX N (bL v1==bL (bs [115,117,109]))
      else
       bif (bL v1==bL (bs [112,114,111,100]))then
        iX N (bL v1==bL (bs [112,114,111,100]))
       else
        bif (bL v1==bL (bs [109,105,110]))then
         iX N (bL v1==bL (bs [109,105,110]))
        else
         bif (bL v1==bL (bs [109,97,120]))then
          iX N (bL v1==bL (bs [109,97,120]))
         else
          bif (bL v1==bL (bs [115,99,97,110]))then
           iX N (bL v1==bL (bs [115,99,97,110]))
          else
           bif (bL v1==bL (bs [111,118,101,114]))then
            iX N (bL v1==bL (bs [111,118,101,114]))
           else
            bif (bL v1==bL (bs [105,102]))then
             iX N (bL v1==bL (bs [105,102]))
            else
             bif (bL v1==bL (bs [99,97,115,116]))then
              iX N (bL v1==bL (bs [99,97,115,116]))
             else
              bif (bL v1==bL (bs [102,114,97,99]))then
               iX N (bL v1==bL (bs [102,114,97,99]))
              else
               bif (bL v1==bL (bs [105,110,116]))then
                iX N (bL v1==bL (bs [105,110,116]))
               else
                bif (bL v1==bL (bs [102,105,120]))then
                 iX N (bL v1==bL (bs [102,105,120]))
                else
                 bif (bL v1==bL (bs [99,101,105,108]))then
                  iX N (bL v1==bL (bs [99,101,105,108]))
                 else
                  bif (bL v1==bL (bs [102,108,111,111,114]))then
                   iX N (bL v1==bL (bs [102,108,111,111,114]))
                  else
                   bif (bL v1==bL (bs [122,101,114,111]))then
                    iX N (bL v1==bL (bs [122,101,114,111]))
                   else
                    bif (bL v1==bL (bs [101,118,101,110]))then
                     iX N (bL v1==bL (bs [101,118,101,110]))
                    else
                     bif (bL v1==bL (bs [115,97,116]))then
                      iX N (bL v1==bL (bs [115,97,116]))
                     else
                      iX N (bL v1==bL (bs [119,114,97,112]))
theorem agN{N v1}:KO 226 [(di v1)] aK (HY N v1):=
 fw Tryz.func226 (nq 1 [[],[],[]] [4] 0 (λ(v2:Bool)=>⟨27,[(4,(aK v2))],[]⟩) (iX N) (λf1 aU=>aC (λh2=>gm aU (bL v1==bL (bs [115,105,122,101])) [[t0 h2]]) λh2=>gA [[f0 h2],[]] (aC (λh3=>gm aU (bL v1==bL (bs [119,104,101,114,101])) [[t0 h3]]) λh3=>gA [[f0 h3],[]] (aC (λh4=>gm aU (bL v1==bL (bs [105,110])) [[t0 h4]]) λh4=>gA [[f0 h4],[]] (aC (λh5=>gm aU (bL v1==bL (bs [100,101,102])) [[t0 h5]]) λh5=>gA [[f0 h5],[]] (aC (λh6=>gm aU (bL v1==bL (bs [111,117,116])) [[t0 h6]]) λh6=>gA [[f0 h6],[]] (aC (λh7=>gm aU (bL v1==bL (bs [115,117,109])) [[t0 h7]]) λh7=>gA [[f0 h7],[]] (aC (λh8=>gm aU (bL v1==bL (bs [112,114,111,100])) [[t0 h8]]) λh8=>gA [[f0 h8],[]] (aC (λh9=>gm aU (bL v1==bL (bs [109,105,110])) [[t0 h9]]) λh9=>gA [[f0 h9],[]] (aC (λbE=>gm aU (bL v1==bL (bs [109,97,120])) [[t0 bE]]) λbE=>gA [[f0 bE],[]] (aC (λbD=>gm aU (bL v1==bL (bs [115,99,97,110])) [[t0 bD]]) λbD=>gA [[f0 bD],[]] (aC (λbw=>gm aU (bL v1==bL (bs [111,118,101,114])) [[t0 bw]]) λbw=>gA [[f0 bw],[]] (aC (λcN=>gm aU (bL v1==bL (bs [105,102])) [[t0 cN]]) λcN=>gA [[f0 cN],[]] (aC (λcS=>gm aU (bL v1==bL (bs [99,97,115,116])) [[t0 cS]]) λcS=>gA [[f0 cS],[]] (aC (λcH=>gm aU (bL v1==bL (bs [102,114,97,99])) [[t0 cH]]) λcH=>gA [[f0 cH],[]] (aC (λcM=>gm aU (bL v1==bL (bs [105,110,116])) [[t0 cM]]) λcM=>gA [[f0 cM],[]] (aC (λeH=>gm aU (bL v1==bL (bs [102,105,120])) [[t0 eH]]) λeH=>gA [[f0 eH],[]] (aC (λfR=>gm aU (bL v1==bL (bs [99,101,105,108])) [[t0 fR]]) λfR=>gA [[f0 fR],[]] (aC (λfj=>gm aU (bL v1==bL (bs [102,108,111,111,114])) [[t0 fj]]) λfj=>gA [[f0 fj],[]] (aC (λgY=>gm aU (bL v1==bL (bs [122,101,114,111])) [[t0 gY]]) λgY=>gA [[f0 gY],[]] (aC (λkV=>gm aU (bL v1==bL (bs [101,118,101,110])) [[t0 kV]]) λkV=>gA [[f0 kV],[]] (aC (λjl=>gm aU (bL v1==bL (bs [115,97,116])) [[t0 jl]]) λjl=>gm aU (bL v1==bL (bs [119,114,97,112])) [[f0 jl],[]]))))))))))))))))))))) (λv2=>bQ λJ=>gR [[f0 J],[]]))
def A3(N:Nat)(v1:aqQ):Nat->Int->aqR Bool
 |0,_=>none
 |v5+1,v6=>
  bif (decide (v6<(v1.size:Int)))then
   bif (decide ((0:Int)<=v6))then
   Option.bind (v1[(v6).toNat]?) λv7=>
   Option.bind (bif (decide ((v7.toNat:Int)<97))then(bif (decide ((v7.toNat:Int)<48))then some ((v7.toNat:Int) !=95)else(bif (decide ((v7.toNat:Int)>57))then some ((v7.toNat:Int) !=95)else some false))else(bif (decide ((v7.toNat:Int)>122))then(bif (decide ((v7.toNat:Int)<48))then some ((v7.toNat:Int) !=95)else(bif (decide ((v7.toNat:Int)>57))then some ((v7.toNat:Int) !=95)else some false))else some false)) λv8=>
   bif v8 then
    some false
   else
    (λcl=>A3 N v1 v5 cl) (aO (v6+(1:Int)))
   else none
  else
   some true
def I2(N:Nat)(v1:aqQ):aqR Bool:=
 Option.bind (bif (decide ((v1.size:Int)<1))then some true else(bif (decide ((v1.size:Int)>16))then some true else (HY N v1).bind λv2=>
 (bif v2 then some true else Option.bind (v1[0]?) λv3=>
 (bif (decide ((v3.toNat:Int)<97))then some true else some (decide ((v3.toNat:Int)>122)))))) λv4=>
 bif v4 then
  some false
 else
  A3 N v1 N (0:Int)
theorem amX{N v1}:KO 169 [(di v1)] aK (I2 N v1):=
 fw Tryz.func169 (gA [[]] (gG (λv4=>[(26,(aK v4))]) (λ_=>[]) (aC (λJ=>gE [(3,bT J),(8,bT rfl),(12,bT rfl),(17,bT rfl)] []) λJ=>dE (3,bF J) (aC (λh2=>gE [(8,bT h2),(12,bT rfl),(17,bT rfl)] []) λh2=>aB λv2 h3=>dE (8,bF h2) (dQ (31,cK agN h3) (aC (λh4=>gE [(12,bT h4),(17,bT rfl)] []) λh4=>aB λv3 h5=>dE (12,bF h4) (dQ (43,⟨_,_, .ch (i:=0) (by decide) h5⟩) (aC (λh6=>gE [(17,bT h6)] []) λh6=>gE [(17,bF h6)] [(58,⟨_,_, .ch (i:=0) (by decide) h5⟩)])))))) λv4=>bQ λh8=>O3 1 [[f0 h8],[]] [0,28,29] 0 (λ(v6:Int)=>⟨54,[(0,(di v1)),(28,(ar (v1.size:Int))),(29,(ar v6))],[]⟩) (A3 N v1) (λv5 v6 f1 aU=>gA [[]] (qn λh9=>dN λbD=>aB λv7 bE=>gA [[t0 h9],[],[(7,⟨_,_, .ch (i:=v6) (of_decide_eq_true bD) bE⟩)]] (gG (λv8=>[(52,(aK v8))]) (λ_=>[]) (aC (λbw=>dE (2,bT bw) (dE (6,bT rfl) (aC (λcN=>gE [(9,bT cN),(14,bT rfl)] [(37,bT cN)]) λcN=>dE (9,bF cN) (dQ (37,bF cN) (aC (λcS=>gE [(14,bT cS)] []) λcS=>gE [(14,bF cS)] []))))) λbw=>dE (2,bF bw) (aC (λcH=>dE (6,bT cH) (aC (λcM=>gE [(9,bT cM),(14,bT rfl)] [(37,bT cM)]) λcM=>dE (9,bF cM) (dQ (37,bF cM) (aC (λeH=>gE [(14,bT eH)] []) λeH=>gE [(14,bF eH)] [])))) λcH=>gE [(6,bF cH),(9,uN),(14,bF rfl)] [])) λv8=>bQ λfj=>FR aU (aO (v6+(1:Int))) [[f0 fj],[]])))))
def K8(N:Nat)(v1:bz):aqP dC->Nat->aqR Int
 |[],_=>
  some (0:Int)
 |v4::v5,v2=>
  (I2 N v4.au).bind λv6=>
  Option.bind (bif v6 then(bif (v4.dU.toInt==0)then some true else(bif (decide ((v2:Int)>0))then bif (decide ((0:Int)<=(aO ((v2:Int)-(1:Int)))))then
  Option.bind (v1.xL[((aO ((v2:Int)-(1:Int)))).toNat]?) λv7=>
  some (!(Op.bytesLess (bL v7.au) (bL v4.au)))
  else none else some false))else some true) λv8=>
  bif v8 then
   some (1:Int)
  else
   (K8 N v1 v5 (v2+1))
def zB(N:Nat)(v1:bz):aqR Int:=
 K8 N v1 v1.xL 0
theorem Ik{N v1}:KO 109 [(dV v1)] ar (zB N v1):=
 fw Tryz.func109 (gA [[],[(7,oL v1.xL lV)]] (gT CN 6 v1.xL λh2=>fu 1 [] [1,6,7,8] 1 (λv2=>⟨39,[(1,(.ptr 0 0)),(6,(.d (.sl (gN v1.xL)))),(7,(ar (v1.xL.length:Int))),(8,(ar (v2:Int)))],[.cells (dV v1).cells]⟩) (λv2 h3 f1=>gR [[],[f0 (cu h3)],[]]) (λv2 v4 v5 h3 f1 aU=>gA [[],[t0 (cv h3)],[(4,oE (ta (bI h3)))]] (aB λv6 h4=>gG (λv8=>[(37,(aK v8))]) (λ_=>[.cells (dV v1).cells, .cells (sU v4).cells]) (dQ (7,cK amX h4) (aC (λh5=>dE (4,bF (dq h5)) (aC (λh6=>gE [(9,bT h6),(12,uN)] []) λh6=>dE (9,bF h6) (aC (λh7=>dN λh9=>aB λv7 h8=>gE [(12,bT h7)] [(52,⟨_,_, .el (xs:=gN v1.xL) (i:=(aO ((v2:Int)-(1:Int)))) (of_decide_eq_true h9) (ta h8)⟩),(70,bT h7)]) λh7=>gE [(12,bF h7)] [(70,bF h7)]))) λh5=>gE [(4,bT (dZ h5)),(9,bT rfl),(12,uN)] [])) λv8=>bQ λbD=>gb aU () [[f0 bD],[(2,oq (cD h3 rfl h2))]] h3))))
def PC(N:Nat)(v1:gC):aqR Int:=
 (zB N v1.bo).bind λv2=>
 some v2
theorem ajM{N v1}:KO 141 [(xS v1)] ar (PC N v1):=
 fw Tryz.func141 (aB λv2 J=>gR [[],[(7,cK Ik J)]])
def L6(N:Nat)(v3:aqP (aqQ×Int)):aqP dC->Nat->aqR Int
 |[],_=>
  some (0:Int)
 |v7::v8,v5=>
  bif ((gv v3 v7.au 0) !=1)then
   some (9:Int)
  else
   (L6 N v3 v8 (v5+1))
def BK(N:Nat)(v1:bz)(v2:aV)(v3:aqP (aqQ×Int)):aqR Int:=
 (zB N v1).bind λv4=>
 bif (v4 !=0)then
  some (1:Int)
 else
  L6 N v3 v1.xL 0
theorem To{N v1 v2 v3}:KP 142 [(.ptr 0 0),(dV v1)] [.cells (fZ v2 [(.mp 1)]), .map (fq v3)] ar (λ_=>[.cells (fZ v2 [(.mp 1)]), .map (fq v3)]) (BK N v1 v2 v3):=
 fh 2 Tryz.func142 (aB λv4 J=>gA [[],[(4,cK Ik J)]] (aC (λh2=>gH [[t0 h2],[]]) λh2=>gA [[f0 h2],[(7,oL v1.xL lV)]] (gT CN 11 v1.xL λh4=>fu 1 [] [0,11,12,13] 3 (λv5=>⟨26,[(0,(.ptr 0 0)),(11,(.d (.sl (gN v1.xL)))),(12,(ar (v1.xL.length:Int))),(13,(ar (v5:Int)))],[.cells (fZ v2 [(.mp 1)]), .map (fq v3), .cells (dV v1).cells]⟩) (λv5 h5 f1=>gH [[],[f0 (cu h5)],[]]) (λv5 v7 v8 h5 f1 aU=>gA [[],[t0 (cv h5)],[(1,oE (ta (bI h5)))],[(20,⟨_,_, .eq (DB false v3 v7.au)⟩)]] (aC (λh6=>gH [[t0 h6],[]]) λh6=>gb aU () [[f0 h6],[(2,oq (cD h5 rfl h4))]] h5)))))
def LG(N:Nat)(v1:gC)(v2:aV)(v3:aqP (aqQ×Int)):aqR Int:=
 (PC N v1).bind λv4=>
 bif (v4 !=0)then
  some (1:Int)
 else
  (BK N v1.bo v2 v3).bind λv5=>
  some v5
theorem agS{N v1 v2 v3}:KP 89 [(.ptr 0 0),(xS v1)] [.cells (fZ v2 [(.mp 1)]), .map (fq v3)] ar (λ_=>[.cells (fZ v2 [(.mp 1)]), .map (fq v3)]) (LG N v1 v2 v3):=
 fh 2 Tryz.func89 (aB λv4 J=>gA [[],[(4,cK ajM J)]] (aC (λh2=>gH [[t0 h2],[]]) λh2=>aB λv5 h3=>gH [[f0 h2],[(10,oQ [(.ptr 0 0),(dV v1.bo)] [.cells (fZ v2 [(.mp 1)]), .map (fq v3), .cells (xS v1).cells] [0,1] (To _ h3))]]))
def Q5(N:Nat)(v1:aF):aqR Bool:=
 some ((v1.bg==v1.bg)&&((v1.bN==0)&&((v1.bM==0)&&((v1.cn==0)&&((v1.ck==0)&&true)))))
theorem akq{N v1}:KO 178 [(cq v1)] aK (Q5 N v1):=
 fw Tryz.func178 (gR [[],[]])
def uR(N:Nat)(v1:aF):aqR Int:=
 Option.bind (bif (decide (v1.cn>=1))then(bif (decide (v1.cn<=4))then(bif (v1.ck==1)then some true else some (v1.ck==2))else some false)else some false) λv2=>
 Option.bind (bif (v1.bg !=2)then some true else(bif (decide (v1.bN<2))then some true else(bif (decide (v1.bN>31))then some true else(bif (decide (v1.bM<0))then some true else(bif (decide (v1.bM>30))then some true else some (!v2)))))) λv3=>
 bif v3 then
  some (10:Int)
 else
  some (0:Int)
theorem HO{N v1}:KO 179 [(cq v1)] ar (uR N v1):=
 fw Tryz.func179 (gA [[]] (gG (λv2=>[(3,(aK v2))]) (λ_=>[.cells (cq v1).cells]) (aC (λJ=>dE (3,bT J) (aC (λh2=>dE (8,bT h2) (aC (λh3=>gE [(12,bT h3)] [(49,bT h3)]) λh3=>gE [(12,bF h3)] [(49,bF h3)])) λh2=>gE [(8,bF h2),(12,uN)] [])) λJ=>gE [(3,bF J),(8,bF rfl),(12,uN)] []) λv2=>gG (λv3=>[(48,(aK v3))]) (λ_=>[.cells (cq v1).cells]) (aC (λh5=>gE [(3,bT h5),(8,bT rfl),(13,bT rfl),(18,bT rfl),(23,bT rfl)] []) λh5=>dE (3,bF h5) (aC (λh6=>gE [(8,bT h6),(13,bT rfl),(18,bT rfl),(23,bT rfl)] []) λh6=>dE (8,bF h6) (aC (λh7=>gE [(13,bT h7),(18,bT rfl),(23,bT rfl)] []) λh7=>dE (13,bF h7) (aC (λh8=>gE [(18,bT h8),(23,bT rfl)] []) λh8=>dE (18,bF h8) (aC (λh9=>gE [(23,bT h9)] []) λh9=>gE [(23,bF h9)] []))))) λv3=>bQ λbD=>gR [[f0 bD],[]]))
def Lz(N:Nat)(v1:aF)(v2:Bool):aqR Int:=
 bif v2 then
  (Q5 N v1).bind λv3=>
  bif v3 then
   some (0:Int)
  else
   some (10:Int)
 else
  bif (v1.bg==2)then
   (uR N v1).bind λv4=>
   bif (v4==0)then
    some (0:Int)
   else
    some (10:Int)
  else
   some (10:Int)
def mC(N:Nat)(v1:aF):aqR Int:=
 bif (v1.bg==1)then
  Lz N v1 (v1.bg==1)
 else
  Lz N v1 (v1.bg==3)
theorem ph{N v1}:KO 116 [(cq v1)] ar (mC N v1):=
 fw Tryz.func116 (nq 1 [[],[],[]] [1,4,5] 1 (λ(v2:Bool)=>⟨15,[(1,(.ptr 0 0)),(4,(ar v1.bg)),(5,(aK v2))],[.cells (cq v1).cells]⟩) (Lz N v1) (λf1 aU=>aC (λh7=>gm aU (v1.bg==1) [[t0 h7]]) λh7=>gm aU (v1.bg==3) [[f0 h7],[]]) (λv2=>aC (λJ=>aB λv3 h2=>gA [[t0 J],[(4,cK akq h2)]] (bQ λh3=>gR [[f0 h3],[]])) λJ=>gA [[f0 J],[]] (qn λh4=>aB λv4 h5=>gA [[t0 h4],[(4,cK HO h5)]] (bQ λh6=>gR [[f0 h6],[]]))))
def DX(N:Nat):aqP Int->Nat->Int->aqR Int
 |[],_,v7=>
  some v7
 |v5::v6,v3,v7=>
  (λgW=>DX N v6 (v3+1) gW) (if v5>v7 then v5 else v7)
def P6(N:Nat)(v1:aqP Int):aqR Int:=
 Option.bind (v1[0]?) λv2=>
 DX N (v1.drop 1) 1 v2
def GS(N:Nat)(v1:aqP Int):aqR Int:=
 bif (decide ((v1.length:Int)<1))then
  none
 else
  P6 N v1
theorem ajT{N v1 r}(U:GS N v1=some r):KF 217 [(.d (.sl (bn v1)))] (ar r):=by
 rw[GS]at U;refine IA Tryz.func217 ?_;refine wj0 bA r 1 [[],[(4,oL v1 fy)]] [0] 0 ⟨25,[(0,(.d (.sl (bn v1))))],[]⟩ (P6 N v1) ?_ ?_
 ·intro f1 aU;apply bc U<;>intro h5 U
  ·cases U
  exact lJ bA aU () [[(0,bF h5)]] U
 intro U;rw[P6]at U;obtain⟨v2,J,U⟩:=bO U;refine gw bA [[(4,oE (k:=0) (iK J))],[]] ?_;refine BT l8 0 v1 λh3=> ?_;refine R9 bA 2 [] [0,3,4] 0 (λ((v3,v4,v7):Nat×(aqP Int)×Int)=>⟨25,[(0,(.d (.sl (bn v1)))),(3,(ar v7)),(4,(ar (v3:Int)))],[]⟩) (λ((v3,v4,v7):Nat×(aqP Int)×Int)=>v1.drop v3=v4/\DX N v4 v3 v7=some r) (λ((v3,v4,v7):Nat×(aqP Int)×Int)=>v4.length) (1,(v1.drop 1),v2) ⟨rfl,U⟩ ?_;rintro⟨v3,v4,v7⟩ ⟨h4,U⟩ f2 fi;cases v4 with
 |nil=>
  rw[DX]at U;cases U;exact wr bA [[(7,oL v1 fy)],[(0,bF (cu h4))],[]]
 |cons v5 v6=>
  rw[DX]at U;exact S8 bA fi (v3+1,v6,(if v5>v7 then v5 else v7)) [[(7,oL v1 fy)],[(0,bT (cv h4))],[(10,oE (iK (bI h4)))],[(5,oq (cD h4 rfl h3))]] ⟨ma h4,U⟩
def yP(N:Nat)(v1:aF)(v2:aqP Int):aqR Int:=
 (mC N v1).bind λv3=>
 bif (v3 !=0)then
  some (10:Int)
 else
  (GS N v2).bind λv4=>
  bif (decide (v4>6))then
   some (11:Int)
  else
   some (0:Int)
theorem Yf{N v1 v2}:KO 143 [(cq v1),(.d (.sl (bn v2)))] ar (yP N v1 v2):=
 fw Tryz.func143 (aB λv3 J=>gA [[],[(4,cK ph J)]] (bQ λh2=>aB λv4 h3=>gA [[f0 h2],[(4,cL (ajT h3))]] (bQ λh4=>gR [[f0 h4],[]])))
def ID(N:Nat)(v4:Int×(aqP (aqQ×Int)))(v2:aV):aqP bz->Nat->aqR (Int×(aqP (aqQ×Int)))
 |[],_=>
  some ((0:Int),v4.2)
 |v8::v9,v6=>
  (BK N v8 v2 v4.2).bind λv10=>
  bif (v10 !=0)then
   some (v10,v4.2)
  else
   (ID N v4 v2 v9 (v6+1))
def HX(N:Nat)(v1:eN)(v2:aV)(v3:aqP (aqQ×Int)):aqR (Int×(aqP (aqQ×Int))):=
 Option.bind (Cl N v1.au (2:Int) v2 v3) λv4=>
 bif (v4.1 !=0)then
  some (v4.1,v4.2)
 else
  Option.bind (yP N v1.ax ([(v1.aS.length:Int)])) λv5=>
  bif (v5 !=0)then
   some (v5,v4.2)
  else
   ID N v4 v2 v1.aS 0
def xG(v2:aV)(l:aqP aq):aqP aq:= .cells (fZ v2 [(.mp 1)])::l
theorem afs{N v1 v2 v3}:KP 90 [(.ptr 0 0),(pN v1)] [.cells (fZ v2 [(.mp 1)]), .map (fq v3)] (λr=>ar r.1) (λr=>[.cells (fZ v2 [(.mp 1)]), .map (fq r.2)]) (HX N v1 v2 v3):=
 fh 2 Tryz.func90 (aB λv4 J=>gA [[],[(10,oR [(.ptr 0 0),(di v1.au),(ar (2:Int))] (xG v2 [.map (fq v3), .cells (pN v1).cells]) [0,1] (N8 _ J))],[]] (aC (λh2=>gH [[t0 h2],[]]) λh2=>aB λv5 h3=>gA [[f0 h2],[(13,oL v1.aS jz),(19,cK Yf h3)],[]] (aC (λh4=>gH [[t0 h4],[]]) λh4=>gA [[f0 h4],[(7,oL v1.aS jz)]] (gT sT 28 v1.aS λh6=>fu 1 [] [0,28,29,30] 3 (λv6=>⟨41,[(0,(.ptr 0 0)),(28,(.d (.sl (gj v1.aS)))),(29,(ar (v1.aS.length:Int))),(30,(ar (v6:Int)))],(xG v2 [.map (fq v4.2), .cells (pN v1).cells])⟩) (λv6 h7 f1=>gH [[],[f0 (cu h7)],[]]) (λv6 v8 v9 h7 f1 aU=>aB λv10 h8=>gA [[],[t0 (cv h7)],[(1,oE (vN (bI h7)))],[(7,oQ [(.ptr 0 0),(dV v8)] (xG v2 [.map (fq v4.2), .cells (pN v1).cells, .cells (dV v8).cells]) [0,1] (To _ h8))],[]] (aC (λh9=>gH [[t0 h9],[]]) λh9=>gb aU () [[f0 h9],[(2,oq (cD h7 rfl h6))]] h7))))))
def Px(N:Nat)(v1:Int):aqR Unit:=bif decide ((0:Int)<=v1)&&Nat.ble (v1.toNat*48) 140737488355328 then some ()else none
theorem aiX{N v1 r}(U:Px N v1=some r):cV Tryz.prog 262 [.d (.v (.slice none 0 0)),(ar v1)] [] λr1 J=>r1= .own 0 []/\J=[.front 63 3 0]:=by
 obtain⟨hb,_⟩:=eD U;rw[ap3]at hb;have e:Int.ofNat v1.toNat=v1:=Int.toNat_of_nonneg (of_decide_eq_true hb.1);have h:=afw hb.2;rw[e]at h;exact h
def wu(N:Nat):aqP (aqP du)->Nat->(aqP du)->aqR ((aqP du))
 |[],_,v12=>
  some v12
 |v10::v11,v8,v12=>
  bif (Nat.ble ((v12.length+v10.length)*48) 140737488355328)then
  (λgW=>wu N v11 (v8+1) gW) (v12++v10)
  else none
def uE(N:Nat)(v1:aqP (aqP du)):aqP (aqP du)->Nat->Int->aqR ((aqP du))
 |[],_,v6=>
  (Px N v6).bind λv7=>
  wu N v1 0 []
 |v4::v5,v2,v6=>
  bif (decide ((aO (v6+(v4.length:Int)))<0))then
   none
  else
   (λcl=>uE N v1 v5 (v2+1) cl) (aO (v6+(v4.length:Int)))
def An(N:Nat)(v1:aqP (aqP du)):aqR ((aqP du)):=
 uE N v1 v1 0 (0:Int)
theorem UJ{N v1 r}(U:An N v1=some r):KF 218 [(.d (.sl (o7 v1)))] (.d (.sl (dAxiss r))):=by
 rw[An]at U;refine IA Tryz.func218 ?_;refine gw bA [[],[],[(4,oL v1 OZ)]] ?_;refine BT ZJ 0 v1 λh2=> ?_;refine PS bA 1 [] [0,3,9,10,11] 0 v1 (λv2(v6:Int)=>⟨36,[(0,(.d (.sl (o7 v1)))),(3,(ar v6)),(9,(.d (.sl (o7 v1)))),(10,(ar (v1.length:Int))),(11,(ar (v2:Int)))],[]⟩) (uE N v1) (0:Int) U ?_ ?_
 ·intro v2 v6 h3 U f1;rw[uE]at U;obtain⟨v7,h4,U⟩:=bO U;refine gw bA [[],[(0,bF (cu h3))],[(4,⟨_,_, .jR (aiX h4)⟩)],[(4,oL v1 OZ)]] ?_;refine BT ZJ 0 v1 λh6=> ?_;refine PS bA 2 [] [6,25,26,27] 1 v1 (λv8(v12:aqP du)=>⟨36,[(6,(.own 0 (dAxiss v12))),(25,(.d (.sl (o7 v1)))),(26,(ar (v1.length:Int))),(27,(ar (v8:Int)))],[.front 63 3 v12.length]⟩) (wu N) [] U ?_ ?_
  ·intro v8 v12 h7 U f2;rw[wu]at U;cases U;exact wr bA [[],[(0,bF (cu h7))],[]]
  intro v8 v10 v11 v12 h7 U f2 fi;rw[wu]at U;obtain⟨h8,U⟩:=qg U;exact wb bA fi (v12++v10) [[],[(0,bT (cv h7))],[(1,oE (Ul (bI h7)))],[(7,oA sK v12 v10 h8)],[(2,oq (cD h7 rfl h6))]] h7 U
 intro v2 v4 v5 v6 h3 U f1 aU;rw[uE]at U;refine gw bA [[],[(0,bT (cv h3))],[(1,oE (Ul (bI h3)))],[(7,oL v4 kZ)],[]] ?_;apply bc U<;>intro h9 U
 ·cases U
 exact wb bA aU (aO (v6+(v4.length:Int))) [[(0,bF h9)],[(2,oq (cD h3 rfl h2))]] h3 U
def Nb(N:Nat)(v3:aqP (aqQ×Int))(v2:aV):aqP du->Nat->(aqP (aqQ×Bool))->aqR Int
 |[],_,_=>
  some (0:Int)
 |v7::v8,v5,v9=>
  (w5 N v7.au).bind λv10=>
  bif v10 then
   Option.bind (bif (gv v9 v7.au false)then some true else some ((gv v3 v7.au 0)==1)) λv11=>
   bif v11 then
    some (8:Int)
   else
    bif (Nat.blt v9.length 9223372036854775807)then
    (BK N v7.dG v2 v3).bind λv12=>
    bif (v12 !=0)then
     some v12
    else
     (λcl=>Nb N v3 v2 v8 (v5+1) cl) ((v7.au,true)::v9)
    else none
  else
   some (7:Int)
def J9(N:Nat)(v1:bB)(v2:aV)(v3:aqP (aqQ×Int)):aqR Int:=
 Option.bind (An N ([v1.aS,v1.bR])) λv4=>
 Nb N v3 v2 v4 0 []
def qY(v2:aV)(v3:aqP (aqQ×Int))(v1:bB)(l:aqP aq):aqP aq:= .cells (fZ v2 [(.mp 1)]):: .map (fq v3):: .cells (fY v1).cells::l
theorem adV{N v1 v2 v3}:KP 144 [(.ptr 0 0),(fY v1)] [.cells (fZ v2 [(.mp 1)]), .map (fq v3)] ar (λ_=>[.cells (fZ v2 [(.mp 1)]), .map (fq v3)]) (J9 N v1 v2 v3):=
 fh 2 Tryz.func144 (aB λv4 J=>gA [[],[],[(16,cL (UJ J)),(19,oL v4 kZ)]] (gT sK 15 v4 λh3=>gU 1 [] [0,5,15,16,17] 4 (λv5(v9:aqP (aqQ×Bool))=>⟨52,[(0,(.ptr 0 0)),(5,(.mp 3)),(15,(.d (.sl (dAxiss v4)))),(16,(ar (v4.length:Int))),(17,(ar (v5:Int)))],(qY v2 v3 v1 [.map (BZ v9)])⟩) (λv5 v9 h4 f1=>gH [[],[f0 (cu h4)],[]]) (λv5 v7 v8 v9 h4 f1 aU=>aB λv10 h5=>gA [[],[t0 (cv h4)],[(1,oE (xC (bI h4)))],[(7,cK Mu h5)]] (aC (λh6=>gA [[f0 (dq h6)]] (gG (λv11=>[(26,(aK v11))]) (λ_=>(qY v2 v3 v1 [.map (BZ v9), .cells (Ny v7).cells])) (dQ (11,⟨_,_, .eq (ao7 false v9 v7.au)⟩) (aC (λh7=>gE [(4,bT h7)] []) λh7=>gE [(4,bF h7)] [(35,⟨_,_, .eq (DB false v3 v7.au)⟩)])) λv11=>aC (λh9=>gH [[t0 h9],[]]) λh9=>dN λbE=>aB λv12 bD=>gA [[f0 h9],[(10,⟨_,_, .sd (o:= .none) (aoK bE)⟩)],[(10,oQ [(.ptr 0 0),(dV v7.dG)] (qY v2 v3 v1 [.map (BZ ((v7.au,true)::v9)), .cells (Ny v7).cells]) [0,1] (To _ bD))],[]] (aC (λbw=>gH [[t0 bw],[]]) λbw=>gb aU ((v7.au,true)::v9) [[f0 bw],[(2,oq (cD h4 rfl h3))]] h4))) λh6=>gH [[t0 (dZ h6)],[]]))))
def AP(N:Nat)(v1:bB)(v2:Bool):aqR Int:=
 bif v2 then
  bif ((v1.bR.length:Int)==0)then
   some (11:Int)
  else
   some (0:Int)
 else
  bif (v1.dj==5)then
   Option.bind (bif (decide ((v1.bR.length:Int)>0))then some true else some ((v1.aS.length:Int)==0)) λv3=>
   bif v3 then
    some (11:Int)
   else
    some (0:Int)
  else
   some (1:Int)
def LW(N:Nat)(v1:bB):aqR Int:=
 bif (v1.dj==0)then
  bif (decide ((v1.bR.length:Int)>0))then
   some (11:Int)
  else
   some (0:Int)
 else
  bif (v1.dj==1)then
   AP N v1 (v1.dj==1)
  else
   bif (v1.dj==2)then
    AP N v1 (v1.dj==2)
   else
    bif (v1.dj==3)then
     AP N v1 (v1.dj==3)
    else
     AP N v1 (v1.dj==4)
theorem aiq{N v1}:KO 145 [(fY v1)] ar (LW N v1):=
 fw Tryz.func145 (gA [[],[],[]] (aC (λJ=>gA [[t0 J],[(7,oL v1.bR kZ)]] (bQ λh2=>gR [[f0 h2],[]])) λJ=>nq 1 [[f0 J],[]] [1,4,11] 1 (λ(v2:Bool)=>⟨32,[(1,(.ptr 0 0)),(4,(ar v1.dj)),(11,(aK v2))],[.cells (fY v1).cells]⟩) (AP N v1) (λf1 aU=>aC (λh9=>gm aU (v1.dj==1) [[t0 h9]]) λh9=>gA [[f0 h9],[]] (aC (λbE=>gm aU (v1.dj==2) [[t0 bE]]) λbE=>gA [[f0 bE],[]] (aC (λbD=>gm aU (v1.dj==3) [[t0 bD]]) λbD=>gm aU (v1.dj==4) [[f0 bD],[]]))) (λv2=>aC (λh3=>gA [[t0 h3],[(7,oL v1.bR kZ)]] (bQ λh4=>gR [[f0 h4],[]])) λh3=>gA [[f0 h3],[]] (qn λh5=>gA [[t0 h5]] (gG (λv3=>[(31,(aK v3))]) (λ_=>[.cells (fY v1).cells]) (dQ (7,oL v1.bR kZ) (aC (λh6=>gE [(4,bT h6)] []) λh6=>gE [(4,bF h6)] [(22,oL v1.aS kZ)])) λv3=>bQ λh8=>gR [[f0 h8],[]])))))
def FX(N:Nat):aqP du->Nat->(aqP aqQ)->aqR ((aqP aqQ))
 |[],_,v7=>
  some v7
 |v5::v6,v3,v7=>
  bif (Nat.ble ((v7.length+1)*16) 140737488355328)then
  (λcl=>FX N v6 (v3+1) cl) (v7++[v5.au])
  else none
def IM(N:Nat)(v1:bB):aqR ((aqP aqQ)):=
 Option.bind (An N ([v1.aS,v1.bR])) λv2=>
 FX N v2 0 []
theorem ak6{N v1}:KO 147 [(fY v1)] (λr=> .d (.sl (ep r))) (IM N v1):=
 fw Tryz.func147 (aB λv2 J=>gA [[],[],[(16,cL (UJ J)),(19,oL v2 kZ)]] (li (λ_=>(vH 3 9 1 [] (.inr (by kernel_rfl)) ·)) (gT sK 11 v2 λh3=>gU 1 [] [3,11,12,13] 2 (λv3(v7:aqP aqQ)=>⟨24,[(3,(.own 1 (ep v7))),(11,(.d (.sl (dAxiss v2)))),(12,(ar (v2.length:Int))),(13,(ar (v3:Int)))],[.cells (fY v1).cells, .front 9 1 v7.length]⟩) (λv3 v7 h4 f1=>gR [[],[f0 (cu h4)],[]]) (λv3 v5 v6 v7 h4 f1 aU=>dN λh5=>gb aU (v7++[v5.au]) [[],[t0 (cv h4)],[(1,oE (xC (bI h4)))],[(13,oA tc v7 ([v5.au]) h5)],[(2,oq (cD h4 rfl h3))]] h4))))
def MO(N:Nat)(adx:aw->Int->aqR Int)(v2:Int):aqP aw->Nat->Int->aqR Int
 |[],_,v7=>
  some v7
 |v5::v6,v3,v7=>
  Option.bind (adx v5 (aO (v2-(1:Int)))) λv8=>
  (λcl=>MO N adx v2 v6 (v3+1) cl) (if(aO ((1:Int)+v8))>v7 then(aO ((1:Int)+v8))else v7)
def ru(N:Nat):Nat->aw->Int->aqR Int
 |0,_,_=>none
 |d+1,v1,v2=>
  bif (decide (v2<=1))then
   some v2
  else
   MO N (ru N d) v2 v1.bJ 0 (1:Int)
def Pa(N:Nat)(v1:aw)(v2:Int):aqR Int:=ru N N v1 v2
theorem ad3(N:Nat):∀d:Nat,(∀{v1:aw}{v2:Int},KO 100 [(aP v1),(ar v2)] ar (ru N d v1 v2)):=by
 intro d
 induction d with
 |zero=>intro v1 v2 r U;rw[ru]at U;cases U
 |succ d ih=>
  have ao5:= @ih;intro v1 v2;rw[ru];exact fw Tryz.func100 (gA [[],[]] (bQ λJ=>gA [[(0,bF J)],[],[(7,oL v1.bJ qi)]] (gT F9 12 v1.bJ λh3=>gU 1 [] [1,5,12,13,14] 1 (λv3(v7:Int)=>⟨27,[(1,(ar v2)),(5,(ar v7)),(12,(.d (.sl (jg v1.bJ)))),(13,(ar (v1.bJ.length:Int))),(14,(ar (v3:Int)))],[.cells (aP v1).cells]⟩) (λv3 v7 h4 f1=>gR [[],[(0,bF (cu h4))],[]]) (λv3 v5 v6 v7 h4 f1 aU=>aB λv8 h5=>gb aU (if(aO ((1:Int)+v8))>v7 then(aO ((1:Int)+v8))else v7) [[],[(0,bT (cv h4))],[(1,oE (nb (bI h4)))],[(13,cK ao5 h5)],[(2,oq (cD h4 rfl h3))]] h4))))
theorem aeI{N v1 v2}:KO 100 [(aP v1),(ar v2)] ar (Pa N v1 v2):=(ad3 N N)
def Qh(N:Nat)(v1:aw):aqR Int:=
 Option.bind (Pa N v1 (41:Int)) λv2=>
 some v2
theorem am2{N v1}:KO 59 [(aP v1)] ar (Qh N v1):=
 fw Tryz.func59 (aB λv2 J=>gR [[],[(4,cK aeI J)]])
def zJ(N:Nat)(v1:aw):aqR aw:=some v1
theorem Pm{N v1 r}(U:zJ N v1=some r):gi Tryz.prog 61 [(aP v1)] (·=(.fn 101 [(.bk [eV r] 0 0)])):=by
 cases U;exact aj4 v1
def vT(N:Nat):aqP aw->Int->aqR Int
 |[],v3=>
  some v3
 |_::v5,v3=>
  bif (decide ((aO (v3+(1:Int)))>2000))then
   some (aO (v3+(1:Int)))
  else
   (λcl=>vT N v5 cl) (aO (v3+(1:Int)))
def Ds(N:Nat)(v1:aw):aqR Int:=
 (zJ N v1).bind λv2=>
 vT N (dF v2) (0:Int)
def rL(v1:aw)(v3:Int)(l:aqP aq):aqP aq:= .cells (aP v1).cells:: .cells [(ar (aO (v3+(1:Int))))]::l
def Cx(v1:aw)(v3:Int)(l:aqP aq):aqP aq:= .cells (aP v1).cells:: .cells [(ar v3)]::l
def Td(v1:aw)(l:aqP aq):aqP aq:= .cells (aP v1).cells:: .cells [(ar (0:Int))]::l
theorem aew{N v1 r}(U:Ds N v1=some r):KF 60 [(aP v1)] (ar r):=by
 rw[Ds]at U;refine sw Tryz.func60 rfl (by kernel_rfl) ?_;refine gL [0] 0 (aqc _) (s':=⟨12,[(0,(aP v1))],[]⟩) (by kernel_rfl) ?_;refine aD ?_;refine rg [] [(1,(.ptr 0 0))] [.cells (aP v1).cells] (by kernel_rfl) ?_;refine aD ?_;refine rg [] [(3,(.ptr 1 0))] (Td v1 []) (by kernel_rfl) ?_;refine aD ?_;refine aD ?_;obtain⟨v2,J,U⟩:=bO U;refine rg [(4,cL (Pm J))] [(5,(.fn 101 [(.bk [eV v2] 0 0)]))] (Td v1 []) (by kernel_rfl) ?_;refine gq ?_;refine gL [3,5] 2 (ap9 rfl) (s':=⟨12,[(3,(.ptr 1 0)),(5,(.fn 101 [(.bk [eV v2] 0 0)]))],(Td v1 [])⟩) (by kernel_rfl) ?_;refine wQ (m:=2) (enc:=aP) (xs:=(dF v2)) (by kernel_rfl) (Sr v2) (λ(v3:Int)=>(Cx v1 v3 [])) (λ(v3:Int) l=>vT N l v3=some r) (0:Int) (by kernel_rfl) U (by rintro v3;rfl) (by rintro v3;kernel_rfl) (by kernel_rfl) rfl ?_ ?_
 ·rintro v3 v4 v5 U h2 cA cz
  try dsimp only at U
  rw[vT]at U;refine gL [3] 3 (aqc _) (s':=⟨12,[(3,(.ptr 1 0))],(Cx v1 v3 [.lp .ready 6 cA cz (dp 12 [(3,(.ptr 1 0)),(5,(.fn 101 [(.bk [eV v2] 0 0)]))])])⟩) (by kernel_rfl) ?_;refine dI ?_;refine bK ?_;refine⟨(Cx v1 v3 []),[],rfl,(by kernel_rfl),?_⟩;refine gL [3] 3 (ap9 rfl) (s':=⟨12,[(3,(.ptr 1 0))],(Cx v1 v3 [.lp .busy 6 cA cz (dp 12 [(3,(.ptr 1 0)),(5,(.fn 101 [(.bk [eV v2] 0 0)]))])])⟩) (by kernel_rfl) ?_;refine gq ?_;refine aD ?_;refine rg [] [] (rL v1 v3 [.lp .busy 6 cA cz (dp 12 [(3,(.ptr 1 0)),(5,(.fn 101 [(.bk [eV v2] 0 0)]))])]) (by kernel_rfl) ?_;refine aD ?_;refine rg [] [(10,(aK (decide ((aO (v3+(1:Int)))>2000))))] (rL v1 v3 [.lp .busy 6 cA cz (dp 12 [(3,(.ptr 1 0)),(5,(.fn 101 [(.bk [eV v2] 0 0)]))])]) (by kernel_rfl) ?_;rcases eC (decide ((aO (v3+(1:Int)))>2000))with h3|h3
  ·replace U:=(dx h3).symm.trans U;refine eW (t:=(decide ((aO (v3+(1:Int)))>2000))) (by kernel_rfl) h3 ?_;refine oT (ahi rfl ?_);refine akb (rL v1 v3 []) rfl (by kernel_rfl) (by kernel_rfl) ?_;refine(rX rfl ?_);refine bK ?_;refine aD ?_;refine rg [] [(2,(ar (aO (v3+(1:Int)))))] (rL v1 v3 [.gone]) (by kernel_rfl) ?_;refine c8 ?_;have hr:=aqk U;subst hr;exact gz (by kernel_rfl)
  replace U:=(eF h3).symm.trans U;refine eP (t:=(decide ((aO (v3+(1:Int)))>2000))) (by kernel_rfl) h3 ?_;refine dI ?_;refine iU ?_;refine Ck (rL v1 v3 []) rfl (by kernel_rfl) (by kernel_rfl) ?_;exact⟨(aO (v3+(1:Int))),(by kernel_rfl),U⟩
 rintro v3 U
 try dsimp only at U
 rw[vT]at U;refine iU ?_;refine bK ?_;refine aD ?_;refine rg [] [(2,(ar v3))] (Cx v1 v3 [.gone]) (by kernel_rfl) ?_;refine c8 ?_;have hr:=aqk U;subst hr;exact gz (by kernel_rfl)
def EV(N:Nat)(v1:bz):aqR Bool:=
 Option.bind (bif (v1.xK.toInt==0)then some ((v1.xL.length:Int)==0)else some false) λv2=>
 some v2
theorem Xg{N v1}:KO 157 [(dV v1)] aK (EV N v1):=
 fw Tryz.func157 (gA [[]] (gG (λv2=>[(2,(aK v2))]) (λ_=>[.cells (dV v1).cells]) (aC (λJ=>gE [(3,bT J)] [(19,oL v1.xL lV)]) λJ=>gE [(3,bF J)] []) λv2=>gR []))
def Lc(N:Nat)(v1:cO):aqR Bool:=
 bif (bL v1.cU==bL (bs []))then
  some ((v1.cT.length:Int)==0)
 else
  (EV N v1.bo).bind λv2=>
  some v2
theorem ahD{N v1}:KO 160 [(h1 v1)] aK (Lc N v1):=
 fw Tryz.func160 (gA [[],[]] (aC (λJ=>gR [[t0 J],[(7,oL v1.cT jz)]]) λJ=>aB λv2 h2=>gR [[f0 J],[(7,cK Xg h2)]]))
def QZ(N:Nat)(v1:cO):aqR Bool:=
 (Lc N v1).bind λv2=>
 some (!v2)
theorem anr{N v1}:KO 159 [(h1 v1)] aK (QZ N v1):=
 fw Tryz.func159 (aB λv2 J=>gR [[],[(4,cK ahD J)]])
def HJ(N:Nat):aqP cO->Nat->aqR Int
 |[],_=>
  some (-1:Int)
 |v4::v5,v2=>
  (QZ N v4).bind λv6=>
  bif v6 then
   some (v2:Int)
  else
   (HJ N v5 (v2+1))
def OI(N:Nat)(v1:aqP cO):aqR Int:=
 HJ N v1 0
theorem afP{N v1}:KP 220 [(.d (.sl (eZ v1))),(.fn 159 [])] [] ar (λ_=>[]) (OI N v1):=
 fh 0 Tryz.func220 (gA [[],[(4,oL v1 ld)]] (gT Fj 0 v1 λh2=>fu 1 [] [0,1,7,8] 0 (λv2=>⟨19,[(0,(.d (.sl (eZ v1)))),(1,(.fn 159 [])),(7,(ar (v1.length:Int))),(8,(ar (v2:Int)))],[]⟩) (λv2 h3 f1=>gH [[],[f0 (cu h3)],[]]) (λv2 v4 v5 h3 f1 aU=>aB λv6 h4=>gA [[],[t0 (cv h3)],[],[(10,oE (nW (bI h3))),(16,cK anr h4)]] (aC (λh5=>gH [[t0 h5],[]]) λh5=>gb aU () [[f0 h5],[(2,oq (cD h3 rfl h2))]] h3))))
def JW(N:Nat)(v1:aqP cO):aqR Bool:=
 (OI N v1).bind λv2=>
 some (decide (v2>=0))
theorem alB{N v1}:KP 158 [(.d (.sl (eZ v1))),(.fn 159 [])] [] aK (λ_=>[]) (JW N v1):=
 fh 0 Tryz.func158 (aB λv2 J=>gH [[],[(7,oQ [(.d (.sl (eZ v1))),(.fn 159 [])] [] [] (afP _ J))]])
def Ka(N:Nat)(v1:aw):aqR Bool:=
 Option.bind (bif (v1.az==1)then some true else some (v1.az==12)) λv2=>
 Option.bind (bif (decide (v1.az<1))then some true else some (decide (v1.az>18))) λv3=>
 bif v3 then
  some false
 else
  Option.bind (bif (v1.az==1)then some false else some (!((v1.dt.xN.toInt==(0:Int64).toInt)&&((v1.dt.xD.toInt==(0:Int64).toInt)&&true)))) λv4=>
  bif v4 then
   some false
  else
   Option.bind (bif v2 then some false else some (!((v1.ax.bg==0)&&((v1.ax.bN==0)&&((v1.ax.bM==0)&&((v1.ax.cn==0)&&((v1.ax.ck==0)&&true))))))) λv5=>
   bif v5 then
    some false
   else
    Option.bind (bif (v1.az==2)then some false else (EV N v1.bo).bind λv6=>
    some (!v6)) λv7=>
    bif v7 then
     some false
    else
     Option.bind (bif (v1.az==3)then some false else(bif (bL v1.au==bL (bs []))then some (decide ((v1.xIdx.length:Int)>0))else some true)) λv8=>
     bif v8 then
      some false
     else
      (JW N v1.xIdx).bind λv9=>
      some (!v9)
def ze(v1:aw)(l:aqP aq):aqP aq:= .cells (aP v1).cells::l
theorem aeL{N v1}:KO 103 [(aP v1)] aK (Ka N v1):=
 fw Tryz.func103 (gA [[]] (gG (λv2=>[(3,(aK (v1.az==1))),(4,(aK v2))]) (λ_=>(ze v1 [])) (aC (λJ=>gE [(6,bT J)] []) λJ=>gE [(6,bF J)] []) λv2=>gA [[]] (gG (λv3=>[(24,(aK v3))]) (λ_=>(ze v1 [])) (aC (λh3=>gE [(3,bT h3)] []) λh3=>gE [(3,bF h3)] []) λv3=>bQ λh5=>gA [[f0 h5]] (gG (λv4=>[(33,(aK v4))]) (λ_=>(ze v1 [])) (aC (λh6=>gE [(2,bF (dq h6))] []) λh6=>gE [(2,bT (dZ h6))] []) λv4=>bQ λh8=>gA [[f0 h8]] (gG (λv5=>[(42,(aK v5))]) (λ_=>(ze v1 [])) (aC (λh9=>gE [(2,bF (dq h9))] []) λh9=>gE [(2,bT (dZ h9))] []) λv5=>bQ λbD=>gA [[f0 bD]] (gG (λv7=>[(51,(aK v7))]) (λ_=>(ze v1 [])) (aC (λbw=>gE [(2,bF (dq bw))] []) λbw=>aB λv6 cN=>gE [(2,bT (dZ bw))] [(16,cK Xg cN)]) λv7=>bQ λcH=>gA [[f0 cH]] (gG (λv8=>[(60,(aK v8))]) (λ_=>(ze v1 [])) (aC (λcM=>gE [(2,bF (dq cM)),(6,uN)] []) λcM=>dE (2,bT (dZ cM)) (aC (λeH=>gE [(6,bF (dq eH))] [(28,oL v1.xIdx ld),(34,bF (dq eH))]) λeH=>gE [(6,bT (dZ eH))] [(34,bT (dZ eH))])) λv8=>bQ λfj=>aB λv9 gY=>gR [[f0 fj],[(7,oQ [(.d (.sl (eZ v1.xIdx))),(.fn 159 [])] (ze v1 []) [] (alB _ gY))]])))))))
def L7(N:Nat)(v1:cO):aqR Bool:=
 Option.bind (bif (bL v1.cU==bL (bs []))then some false else (w5 N v1.cU).bind λv2=>
 some (!v2)) λv3=>
 some v3
theorem apC{N v1}:KO 161 [(h1 v1)] aK (L7 N v1):=
 fw Tryz.func161 (gA [[]] (gG (λv3=>[(2,(aK v3))]) (λ_=>[.cells (h1 v1).cells]) (aC (λJ=>gE [(3,bF (dq J))] []) λJ=>aB λv2 h2=>gE [(3,bT (dZ J))] [(19,cK Mu h2)]) λv3=>gR []))
def M1(N:Nat):aqP cO->Nat->aqR Int
 |[],_=>
  some (-1:Int)
 |v4::v5,v2=>
  (L7 N v4).bind λv6=>
  bif v6 then
   some (v2:Int)
  else
   (M1 N v5 (v2+1))
def Sb(N:Nat)(v1:aqP cO):aqR Int:=
 M1 N v1 0
theorem amO{N v1}:KP 220 [(.d (.sl (eZ v1))),(.fn 161 [])] [] ar (λ_=>[]) (Sb N v1):=
 fh 0 Tryz.func220 (gA [[],[(4,oL v1 ld)]] (gT Fj 0 v1 λh2=>fu 1 [] [0,1,7,8] 0 (λv2=>⟨19,[(0,(.d (.sl (eZ v1)))),(1,(.fn 161 [])),(7,(ar (v1.length:Int))),(8,(ar (v2:Int)))],[]⟩) (λv2 h3 f1=>gH [[],[f0 (cu h3)],[]]) (λv2 v4 v5 h3 f1 aU=>aB λv6 h4=>gA [[],[t0 (cv h3)],[],[(10,oE (nW (bI h3))),(16,cK apC h4)]] (aC (λh5=>gH [[t0 h5],[]]) λh5=>gb aU () [[f0 h5],[(2,oq (cD h3 rfl h2))]] h3))))
def TI(N:Nat)(v1:aqP cO):aqR Bool:=
 (Sb N v1).bind λv2=>
 some (decide (v2>=0))
theorem aeZ{N v1}:KP 158 [(.d (.sl (eZ v1))),(.fn 161 [])] [] aK (λ_=>[]) (TI N v1):=
 fh 0 Tryz.func158 (aB λv2 J=>gH [[],[(7,oQ [(.d (.sl (eZ v1))),(.fn 161 [])] [] [] (amO _ J))]])
def Lp(N:Nat)(v1:aw):aqR Bool:=
 Option.bind (bif (v1.az==3)then (w5 N v1.au).bind λv2=>
 some (!v2)else some false) λv3=>
 bif v3 then
  some false
 else
  (TI N v1.xIdx).bind λv4=>
  some (!v4)
theorem ag2{N v1}:KO 104 [(aP v1)] aK (Lp N v1):=
 fw Tryz.func104 (gA [[]] (gG (λv3=>[(11,(aK v3))]) (λ_=>[.cells (aP v1).cells]) (aC (λJ=>aB λv2 h2=>gE [(3,bT J)] [(19,cK Mu h2)]) λJ=>gE [(3,bF J)] []) λv3=>bQ λh4=>aB λv4 h5=>gR [[f0 h4],[(7,oQ [(.d (.sl (eZ v1.xIdx))),(.fn 161 [])] [.cells (aP v1).cells] [] (aeZ _ h5))]]))
def FY(N:Nat)(v1:Int)(v3:Bool):aqR Int:=
 bif v3 then
  some (1:Int)
 else
  bif (v1==11)then
   some (3:Int)
  else
   some (2:Int)
def GY(N:Nat)(v1:Int)(v2:Bool):aqR Int:=
 bif v2 then
  some (0:Int)
 else
  bif (v1==8)then
   FY N v1 (v1==8)
  else
   bif (v1==12)then
    FY N v1 (v1==12)
   else
    FY N v1 (v1==18)
def Iz(N:Nat)(v1:Int):aqR Int:=
 bif (v1==1)then
  GY N v1 (v1==1)
 else
  bif (v1==2)then
   GY N v1 (v1==2)
  else
   GY N v1 (v1==3)
theorem aiZ{N v1}:KO 162 [(ar v1)] ar (Iz N v1):=
 fw Tryz.func162 (nq 1 [[],[],[]] [3,4] 0 (λ(v2:Bool)=>⟨14,[(3,(ar v1)),(4,(aK v2))],[]⟩) (GY N v1) (λf1 aU=>aC (λh6=>gm aU (v1==1) [[t0 h6]]) λh6=>gA [[f0 h6],[]] (aC (λh7=>gm aU (v1==2) [[t0 h7]]) λh7=>gm aU (v1==3) [[f0 h7],[]])) (λv2=>bQ λJ=>nq 2 [[f0 J],[]] [3,8] 0 (λ(v3:Bool)=>⟨14,[(3,(ar v1)),(8,(aK v3))],[]⟩) (FY N v1) (λf2 fi=>aC (λh4=>gm fi (v1==8) [[t0 h4]]) λh4=>gA [[f0 h4],[]] (aC (λh5=>gm fi (v1==12) [[t0 h5]]) λh5=>gm fi (v1==18) [[f0 h5],[]])) (λv3=>jq λ_=>bQ λh3=>gR [[f0 h3],[]])))
def Rs(N:Nat)(v1:cO):aqR Bool:=
 some (decide ((v1.cT.length:Int)>6))
theorem akm{N v1}:KO 163 [(h1 v1)] aK (Rs N v1):=
 fw Tryz.func163 (gR [[],[(7,oL v1.cT jz)]])
def Ho(N:Nat):aqP cO->Nat->aqR Int
 |[],_=>
  some (-1:Int)
 |v4::v5,v2=>
  (Rs N v4).bind λv6=>
  bif v6 then
   some (v2:Int)
  else
   (Ho N v5 (v2+1))
def Tq(N:Nat)(v1:aqP cO):aqR Int:=
 Ho N v1 0
theorem apz{N v1}:KP 220 [(.d (.sl (eZ v1))),(.fn 163 [])] [] ar (λ_=>[]) (Tq N v1):=
 fh 0 Tryz.func220 (gA [[],[(4,oL v1 ld)]] (gT Fj 0 v1 λh2=>fu 1 [] [0,1,7,8] 0 (λv2=>⟨19,[(0,(.d (.sl (eZ v1)))),(1,(.fn 163 [])),(7,(ar (v1.length:Int))),(8,(ar (v2:Int)))],[]⟩) (λv2 h3 f1=>gH [[],[f0 (cu h3)],[]]) (λv2 v4 v5 h3 f1 aU=>aB λv6 h4=>gA [[],[t0 (cv h3)],[],[(10,oE (nW (bI h3))),(16,cK akm h4)]] (aC (λh5=>gH [[t0 h5],[]]) λh5=>gb aU () [[f0 h5],[(2,oq (cD h3 rfl h2))]] h3))))
def Pk(N:Nat)(v1:aqP cO):aqR Bool:=
 (Tq N v1).bind λv2=>
 some (decide (v2>=0))
theorem an1{N v1}:KP 158 [(.d (.sl (eZ v1))),(.fn 163 [])] [] aK (λ_=>[]) (Pk N v1):=
 fh 0 Tryz.func158 (aB λv2 J=>gH [[],[(7,oQ [(.d (.sl (eZ v1))),(.fn 163 [])] [] [] (apz _ J))]])
def JM(N:Nat)(v1:aw):aqR Bool:=
 (Iz N v1.az).bind λv2=>
 Option.bind (bif ((v1.bJ.length:Int) !=v2)then some true else some (decide ((v1.xIdx.length:Int)>6))) λv3=>
 bif v3 then
  some false
 else
  (Pk N v1.xIdx).bind λv4=>
  some (!v4)
theorem afQ{N v1}:KO 105 [(aP v1)] aK (JM N v1):=
 fw Tryz.func105 (gA [[]] (aB λv2 J=>gG (λv3=>[(15,(aK v3))]) (λ_=>[.cells (aP v1).cells]) (dQ (7,oL v1.bJ qi) (dQ (16,cK aiZ J) (aC (λh2=>gE [(7,bT h2)] []) λh2=>gE [(7,bF h2)] [(31,oL v1.xIdx ld)]))) λv3=>bQ λh4=>aB λv4 h5=>gR [[f0 h4],[(7,oQ [(.d (.sl (eZ v1.xIdx))),(.fn 163 [])] [.cells (aP v1).cells] [] (an1 _ h5))]]))
def BO(N:Nat)(v1:aw):aqR Bool:=
 Option.bind (bif (decide ((13:Int)<=v1.az))then some (decide (v1.az<=18))else some false) λv2=>
 some v2
theorem SX{N v1}:KO 40 [(aP v1)] aK (BO N v1):=
 fw Tryz.func40 (gA [[]] (gG (λv2=>[(2,(aK v2))]) (λ_=>[.cells (aP v1).cells]) (aC (λJ=>gE [(3,bT J)] []) λJ=>gE [(3,bF J)] []) λv2=>gR []))
def Ek(N:Nat)(v1:Int)(v2:Int)(v3:Bool):aqR Bool:=
 bif v3 then
  some true
 else
  Option.bind (bif (v1==11)then some (v2==0)else some false) λv4=>
  some v4
def K9(N:Nat)(v1:Int)(v2:Int):aqR Bool:=
 bif (v1==16)then
  Ek N v1 v2 (v1==16)
 else
  bif (v1==17)then
   Ek N v1 v2 (v1==17)
  else
   Ek N v1 v2 (v1==18)
theorem aoo{N v1 v2}:KO 164 [(ar v1),(ar v2)] aK (K9 N v1 v2):=
 fw Tryz.func164 (nq 1 [[],[],[]] [0,1,6] 0 (λ(v3:Bool)=>⟨16,[(0,(ar v1)),(1,(ar v2)),(6,(aK v3))],[]⟩) (Ek N v1 v2) (λf1 aU=>aC (λh4=>gm aU (v1==16) [[t0 h4]]) λh4=>gA [[f0 h4],[]] (aC (λh5=>gm aU (v1==17) [[t0 h5]]) λh5=>gm aU (v1==18) [[f0 h5],[]])) (λv3=>bQ λJ=>gA [[f0 J]] (gG (λv4=>[(4,(aK v4))]) (λ_=>[]) (aC (λh2=>gE [(2,bT h2)] []) λh2=>gE [(2,bF h2)] []) λv4=>gR [])))
def JP(N:Nat)(v1:aw):aqP aw->Nat->aqR Bool
 |[],_=>
  some true
 |v7::v8,v5=>
  (BO N v7).bind λv9=>
  Option.bind (K9 N v1.az (v5:Int)) λv10=>
  bif (v9==v10)then
   (JP N v1 v8 (v5+1))
  else
   some false
def HE(N:Nat)(v1:aw):aqR Bool:=
 Option.bind (bif (v1.az==1)then (mC N v1.ax).bind λv2=>
 some (v2 !=0)else(bif (v1.az==12)then (mC N v1.ax).bind λv3=>
 some (v3 !=0)else some false)) λv4=>
 bif v4 then
  some false
 else
  JP N v1 v1.bJ 0
theorem afF{N v1}:KO 106 [(aP v1)] aK (HE N v1):=
 fw Tryz.func106 (gA [[]] (gG (λv4=>[(18,(aK v4))]) (λ_=>[.cells (aP v1).cells]) (aC (λJ=>aB λv2 h2=>gE [(3,bT J),(8,bT rfl)] [(34,cK ph h2)]) λJ=>dE (3,bF J) (aC (λh3=>aB λv3 h4=>gE [(8,bT h3)] [(34,cK ph h4)]) λh3=>gE [(8,bF h3)] [])) λv4=>bQ λh6=>gA [[f0 h6],[(7,oL v1.bJ qi)]] (gT F9 20 v1.bJ λh8=>fu 1 [] [1,20,21,22] 1 (λv5=>⟨35,[(1,(.ptr 0 0)),(20,(.d (.sl (jg v1.bJ)))),(21,(ar (v1.bJ.length:Int))),(22,(ar (v5:Int)))],[.cells (aP v1).cells]⟩) (λv5 h9 f1=>gR [[],[f0 (cu h9)],[]]) (λv5 v7 v8 h9 f1 aU=>aB λv9 bE=>aB λv10 bD=>gA [[],[t0 (cv h9)],[(4,oE (nb (bI h9)))],[(4,cK SX bE),(16,cK aoo bD)]] (k8 λbw=>gb aU () [[f0 (dq bw)],[(2,oq (cD h9 rfl h8))]] h9)))))
def Bc(N:Nat)(v1:Int):aqR Bool:=
 Option.bind (bif (decide (v1>=2))then some (decide (v1<=31))else some false) λv2=>
 some v2
theorem OY{N v1}:KO 266 [(ar v1)] aK (Bc N v1):=
 fw Tryz.func266 (gA [[]] (gG (λv2=>[(2,(aK v2))]) (λ_=>[]) (aC (λJ=>gE [(2,bT J)] []) λJ=>gE [(2,bF J)] []) λv2=>gR []))
def Fu(N:Nat)(v1:Int):aqR Int64:=
 (Bc N v1).bind λv2=>
 bif v2 then
  bif (decide ((0:Int)<=(IntKind.u64.wrap (aO (v1-(1:Int))))))then
  some (-(Int64.ofInt ((1:Int)*2^(min ((IntKind.u64.wrap (aO (v1-(1:Int))))).toNat (IntKind.bits .i64)))))
  else none
 else
  some (0:Int64)
theorem Yo{N v1}:KO 221 [(ar v1)] bC (Fu N v1):=
 fw Tryz.func221 (aB λv2 J=>gA [[],[(4,cK OY J)]] (k8 λh2=>dN λh3=>gR [[f0 (dq h2)],[(10,⟨_,_, .nn (b:=(IntKind.u64.wrap (aO (v1-(1:Int))))) (of_decide_eq_true h3)⟩),(11,⟨_,_, .eq (kA ((1:Int)*2^(min ((IntKind.u64.wrap (aO (v1-(1:Int))))).toNat (IntKind.bits .i64))))⟩),(14,⟨_,_, .eq (zP (Int64.ofInt ((1:Int)*2^(min ((IntKind.u64.wrap (aO (v1-(1:Int))))).toNat (IntKind.bits .i64)))))⟩)]]))
def CA(N:Nat)(v1:Int):aqR Int64:=
 (Bc N v1).bind λv2=>
 bif v2 then
  bif (decide ((0:Int)<=(IntKind.u64.wrap (aO (v1-(1:Int))))))then
  some ((Int64.ofInt ((1:Int)*2^(min ((IntKind.u64.wrap (aO (v1-(1:Int))))).toNat (IntKind.bits .i64))))-(1:Int64))
  else none
 else
  some (0:Int64)
theorem We{N v1}:KO 222 [(ar v1)] bC (CA N v1):=
 fw Tryz.func222 (aB λv2 J=>gA [[],[(4,cK OY J)]] (k8 λh2=>dN λh3=>gR [[f0 (dq h2)],[(10,⟨_,_, .nn (b:=(IntKind.u64.wrap (aO (v1-(1:Int))))) (of_decide_eq_true h3)⟩),(11,⟨_,_, .eq (kA ((1:Int)*2^(min ((IntKind.u64.wrap (aO (v1-(1:Int))))).toNat (IntKind.bits .i64))))⟩),(14,⟨_,_, .eq (xQ (Int64.ofInt ((1:Int)*2^(min ((IntKind.u64.wrap (aO (v1-(1:Int))))).toNat (IntKind.bits .i64)))) (1:Int64))⟩)]]))
def sB(N:Nat)(v1:aF)(v2:aA):aqR Bool:=
 (uR N v1).bind λv3=>
 Option.bind (bif (v3==0)then(bif (v2.xD.toInt==1)then (Fu N v1.bN).bind λv4=>
 (bif (decide (v2.xN.toInt>=v4.toInt))then (CA N v1.bN).bind λv5=>
 some (decide (v2.xN.toInt<=v5.toInt))else some false)else some false)else some false) λv6=>
 some v6
theorem Pp{N v1 v2}:KO 165 [(cq v1),(bq v2)] aK (sB N v1 v2):=
 fw Tryz.func165 (gA [[]] (aB λv3 J=>gG (λv6=>[(4,(aK v6))]) (λ_=>[.cells (cq v1).cells, .cells (bq v2).cells]) (dQ (4,cK HO J) (aC (λh2=>dE (3,bT h2) (aC (λh3=>aB λv4 h4=>dE (8,bT h3) (dQ (40,cK Yo h4) (aC (λh5=>aB λv5 h6=>gE [(16,bT h5)] [(64,cK We h6)]) λh5=>gE [(16,bF h5)] []))) λh3=>gE [(8,bF h3),(16,bF rfl)] [])) λh2=>gE [(3,bF h2),(8,bF rfl),(16,bF rfl)] [])) λv6=>gR []))
def pR(N:Nat)(v1:Int64):aqR Bool:=
 Option.bind (bif (decide (v1.toInt>=(-2147483647:Int)))then some (decide (v1.toInt<=2147483647))else some false) λv2=>
 some v2
theorem By{N v1}:KO 166 [(bC v1)] aK (pR N v1):=
 fw Tryz.func166 (gA [[]] (gG (λv2=>[(2,(aK v2))]) (λ_=>[]) (aC (λJ=>gE [(2,bT J)] []) λJ=>gE [(2,bF J)] []) λv2=>gR []))
def NM(N:Nat)(v1:Int64):aqR Bool:=
 Option.bind (bif (decide (v1.toInt>=(-2147483647:Int)))then some (decide (v1.toInt<=2147483647))else some false) λv2=>
 some v2
theorem aol{N v1}:KO 223 [(bC v1)] aK (NM N v1):=
 fw Tryz.func223 (gA [[]] (gG (λv2=>[(2,(aK v2))]) (λ_=>[]) (aC (λJ=>gE [(2,bT J)] []) λJ=>gE [(2,bF J)] []) λv2=>gR []))
def zV(N:Nat)(v1:Int64):aqR Int:=
 bif (decide (v1.toInt<0))then
  some (IntKind.u64.wrap (0-(IntKind.u64.wrap v1.toInt)))
 else
  some (IntKind.u64.wrap v1.toInt)
theorem TR{N v1}:KO 225 [(bC v1)] (λr=> .d (.v (.int .u64 r))) (zV N v1):=
 fw Tryz.func225 (gA [[],[]] (bQ λJ=>gR [[f0 J],[]]))
def Gk(N:Nat):Nat->Int->Int->aqR Int
 |0,_,_=>none
 |v3+1,v4,v5=>
  bif (v5 !=0)then
   (λcl fx=>Gk N v3 cl fx) v5 ((v4).tmod v5)
  else
   some v4
def DE(N:Nat)(v1:Int)(v2:Int):aqR Int:=
 Gk N N v1 v2
theorem Xa{N v1 v2}:KO 224 [(.d (.v (.int .u64 v1))),(.d (.v (.int .u64 v2)))] (λr=> .d (.v (.int .u64 r))) (DE N v1 v2):=
 fw Tryz.func224 (gf2 1 [[]] [0,1] 0 (λ(v4:Int)(v5:Int)=>⟨12,[(0,(.d (.v (.int .u64 v4)))),(1,(.d (.v (.int .u64 v5))))],[]⟩) (Gk N) (λv3 v4 v5 f1 aU=>gA [[]] (qn λJ=>FR aU (v5,((v4).tmod v5)) [[t0 J],[(10,⟨_,_, .nz (b:=v5) (bne_iff_ne.1 J)⟩)]])))
def kS(N:Nat)(v1:aA):aqR Bool:=
 Option.bind (bif (decide (v1.xD.toInt>=1))then(bif (decide (v1.xD.toInt<=2147483647))then (NM N v1.xN).bind λv2=>
 (bif v2 then (zV N v1.xN).bind λv3=>
 Option.bind (DE N v3 (IntKind.u64.wrap v1.xD.toInt)) λv4=>
 some (v4==1)else some false)else some false)else some false) λv5=>
 some v5
theorem nJ{N v1}:KO 167 [(bq v1)] aK (kS N v1):=
 fw Tryz.func167 (gA [[]] (gG (λv5=>[(2,(aK v5))]) (λ_=>[.cells (bq v1).cells]) (aC (λJ=>dE (3,bT J) (aC (λh2=>aB λv2 h3=>dE (8,bT h2) (dQ (34,cK aol h3) (aC (λh4=>aB λv3 h5=>aB λv4 h6=>gE [(13,bT h4)] [(49,cK TR h5),(61,cK Xa h6)]) λh4=>gE [(13,bF h4)] []))) λh2=>gE [(8,bF h2),(13,bF rfl)] [])) λJ=>gE [(3,bF J),(8,bF rfl),(13,bF rfl)] []) λv5=>gR []))
def m7(N:Nat)(v1:aF)(v2:aA):aqR Bool:=
 (mC N v1).bind λv3=>
 bif (v3 !=0)then
  some false
 else
  bif (v1.bg==2)then
   (sB N v1 v2).bind λv4=>
   some v4
  else
   bif (v1.bg==3)then
    Option.bind (bif (v2.xD.toInt==1)then (pR N v2.xN).bind λv5=>
    some v5 else some false) λv6=>
    some v6
   else
    (kS N v2).bind λv7=>
    some v7
theorem vn{N v1 v2}:KO 107 [(cq v1),(bq v2)] aK (m7 N v1 v2):=
 fw Tryz.func107 (aB λv3 J=>gA [[],[(4,cK ph J)]] (bQ λh2=>gA [[f0 h2],[],[]] (aC (λh3=>aB λv4 h4=>gR [[t0 h3],[(7,cK Pp h4)]]) λh3=>gA [[f0 h3],[]] (aC (λh5=>gA [[t0 h5]] (gG (λv6=>[(4,(aK v6))]) (λ_=>[.cells (cq v1).cells, .cells (bq v2).cells]) (aC (λh6=>aB λv5 h7=>gE [(3,bT h6)] [(19,cK By h7)]) λh6=>gE [(3,bF h6)] []) λv6=>gR [])) λh5=>aB λv7 h9=>gR [[f0 h5],[(4,cK nJ h9)]]))))
def SG(N:Nat)(v1:aw):aqR aw:=some v1
theorem aiR{N v1 r}(U:SG N v1=some r):gi Tryz.prog 108 [(aP v1)] (·=(.fn 168 [(.bk [eV r] 0 0)])):=by
 cases U;exact ahH v1
def dR:aF:=⟨(0:Int),(0:Int),(0:Int),(0:Int),(0:Int)⟩
def adm:j7:=⟨(0:Int),(0:Int),(0:Int)⟩
def lk:aT:=⟨dR,[],[]⟩
def xu:aqP AV:=[(ar (0:Int)),(ar (0:Int)),(ar (0:Int)),(ar (0:Int)),(ar (0:Int))]
def NX:aqP AV:=[(ar (0:Int)),(ar (0:Int)),(ar (0:Int)),(ar (0:Int)),(ar (0:Int)),(.d (.v (.slice none 0 0))),(.d (.v (.slice none 0 0)))]
def uX(N:Nat):aqP bz->aqR Int
 |[]=>
  some (0:Int)
 |v9::v10=>
  (zB N v9).bind λv11=>
  bif (v11 !=0)then
   some (1:Int)
  else
   (uX N v10)
def FH(N:Nat)(v1:aw):aqR Int:=
 (Ka N v1).bind λv2=>
 bif v2 then
  (Lp N v1).bind λv3=>
  bif v3 then
   (JM N v1).bind λv4=>
   bif v4 then
    (HE N v1).bind λv5=>
    bif v5 then
     Option.bind (bif (v1.az==1)then (m7 N v1.ax v1.dt).bind λv6=>
     some (!v6)else some false) λv7=>
     bif v7 then
      some (1:Int)
     else
      (SG N v1).bind λv8=>
      uX N (pD v8)
    else
     some (10:Int)
   else
    some (11:Int)
  else
   some (7:Int)
 else
  some (5:Int)
def l6(v1:aw)(l:aqP aq):aqP aq:= .cells (aP v1).cells:: .cells [(ar (0:Int))]::l
def xM(v1:aw)(l:aqP aq):aqP aq:= .cells (aP v1).cells::l
theorem aoq{N v1 r}(U:FH N v1=some r):KF 62 [(aP v1)] (ar r):=by
 rw[FH]at U;refine sw Tryz.func62 rfl (by kernel_rfl) ?_;refine gL [0] 0 (aqc _) (s':=⟨38,[(0,(aP v1))],[]⟩) (by kernel_rfl) ?_;refine aD ?_;refine rg [] [(1,(.ptr 0 0)),(2,(.ptr 1 0))] (l6 v1 []) (by kernel_rfl) ?_;refine aD ?_;refine gq ?_;refine aD ?_;obtain⟨v2,J,U⟩:=bO U;refine rg [(4,cK aeL J)] [(4,(aK (!v2)))] (l6 v1 []) (by kernel_rfl) ?_;rcases eC v2 with h2|h2
 ·replace U:=(dx h2).symm.trans U;refine eP (t:=(!v2)) (by kernel_rfl) (dq h2) ?_;refine aD ?_;obtain⟨v3,h3,U⟩:=bO U;refine rg [(4,cK ag2 h3)] [(8,(aK (!v3)))] (l6 v1 []) (by kernel_rfl) ?_;rcases eC v3 with h4|h4
  ·replace U:=(dx h4).symm.trans U;refine eP (t:=(!v3)) (by kernel_rfl) (dq h4) ?_;refine aD ?_;obtain⟨v4,h5,U⟩:=bO U;refine rg [(4,cK afQ h5)] [(12,(aK (!v4)))] (l6 v1 []) (by kernel_rfl) ?_;rcases eC v4 with h6|h6
   ·replace U:=(dx h6).symm.trans U;refine eP (t:=(!v4)) (by kernel_rfl) (dq h6) ?_;refine aD ?_;obtain⟨v5,h7,U⟩:=bO U;refine rg [(4,cK afF h7)] [(16,(aK (!v5)))] (l6 v1 []) (by kernel_rfl) ?_;rcases eC v5 with h8|h8
    ·replace U:=(dx h8).symm.trans U;refine eP (t:=(!v5)) (by kernel_rfl) (dq h8) ?_;refine aD ?_;obtain⟨v7,bD,U⟩:=bO U;refine A1 [(20,(aK v7))] (l6 v1 []) ?_ ?_
     ·rcases eC (v1.az==1)with h9|h9
      ·replace bD:=(dx h9).symm.trans bD;obtain⟨v6,bE,bD⟩:=bO bD;have he:=aqk bD;subst he;exact⟨[(12,bT h9),(15,bT h9),(18,bT h9),(21,bT h9),(24,bT h9),(25,cK vn bE),(27,bT h9),(31,bT h9)],by kernel_rfl⟩
      replace bD:=(eF h9).symm.trans bD;have he:=aqk bD;subst he;exact⟨[(12,bF h9),(15,bF h9),(18,bF h9),(21,bF h9),(24,bF h9),(27,bF h9),(31,bF h9)],by kernel_rfl⟩
     rcases eC v7 with bw|bw
     ·replace U:=(dx bw).symm.trans U;refine eW (t:=v7) (by kernel_rfl) bw ?_;refine aD ?_;refine rg [] [] (xM v1 [.cells [(ar (1:Int))]]) (by kernel_rfl) ?_;refine c8 (fv (dg ?_));have hr:=aqk U;subst hr;exact gz (by kernel_rfl)
     replace U:=(eF bw).symm.trans U;refine eP (t:=v7) (by kernel_rfl) bw ?_;refine dI ?_;refine iU ?_;refine bK ?_;refine aD ?_;refine aD ?_;obtain⟨v8,cN,U⟩:=bO U;refine rg [(4,cL (aiR cN))] [(33,(.fn 168 [(.bk [eV v8] 0 0)]))] (l6 v1 []) (by kernel_rfl) ?_;refine gq ?_;refine gL [2,33] 2 (ap9 rfl) (s':=⟨38,[(2,(.ptr 1 0)),(33,(.fn 168 [(.bk [eV v8] 0 0)]))],(l6 v1 [])⟩) (by kernel_rfl) ?_;refine wQ (m:=2) (enc:=dV) (xs:=(pD v8)) (by kernel_rfl) (anY v8) (λ(_:Unit)=>(l6 v1 [])) (λ(_:Unit) l=>uX N l=some r) () (by kernel_rfl) U (by rintro _;rfl) (by rintro _;kernel_rfl) (by kernel_rfl) rfl ?_ ?_
     ·rintro _ v9 v10 U cS cA cz
      try dsimp only at U
      rw[uX]at U;refine gL [2,34] 3 (aqc _) (s':=⟨38,[(2,(.ptr 1 0)),(34,(dV v9))],(l6 v1 [.lp .ready 34 cA cz (dp 38 [(2,(.ptr 1 0)),(33,(.fn 168 [(.bk [eV v8] 0 0)]))])])⟩) (by kernel_rfl) ?_;refine re [] [(3,(.ptr 3 0))] (l6 v1 [.lp .ready 34 cA cz (dp 38 [(2,(.ptr 1 0)),(33,(.fn 168 [(.bk [eV v8] 0 0)]))]), .cells (dV v9).cells]) (by kernel_rfl) ?_;refine bK ?_;refine⟨(l6 v1 []),[.cells (dV v9).cells],rfl,(by kernel_rfl),?_⟩;refine gL [2,3] 4 (ap9 rfl) (s':=⟨38,[(2,(.ptr 1 0)),(3,(.ptr 3 0))],(l6 v1 [.lp .busy 34 cA cz (dp 38 [(2,(.ptr 1 0)),(33,(.fn 168 [(.bk [eV v8] 0 0)]))]), .cells (dV v9).cells])⟩) (by kernel_rfl) ?_;refine gq ?_;refine aD ?_;obtain⟨v11,cH,U⟩:=bO U;refine rg [(4,cK Ik cH)] [(37,(aK (v11 !=0)))] (l6 v1 [.lp .busy 34 cA cz (dp 38 [(2,(.ptr 1 0)),(33,(.fn 168 [(.bk [eV v8] 0 0)]))]), .cells (dV v9).cells]) (by kernel_rfl) ?_;rcases eC (v11 !=0)with cM|cM
      ·replace U:=(dx cM).symm.trans U;refine eW (t:=(v11 !=0)) (by kernel_rfl) cM ?_;refine aD ?_;refine rg [] [] (xM v1 [.cells [(ar (1:Int))], .lp .busy 34 cA cz (dp 38 [(2,(.ptr 1 0)),(33,(.fn 168 [(.bk [eV v8] 0 0)]))]), .cells (dV v9).cells]) (by kernel_rfl) ?_;refine c8 (fv ?_);refine CQ (xM v1 [.cells [(ar (1:Int))]]) rfl (by kernel_rfl) (by kernel_rfl) ?_;refine(fv (dg ?_));have hr:=aqk U;subst hr;exact gz (by kernel_rfl)
      replace U:=(eF cM).symm.trans U;refine eP (t:=(v11 !=0)) (by kernel_rfl) cM ?_;refine dI ?_;refine iU ?_;refine Ck (l6 v1 []) rfl (by kernel_rfl) (by kernel_rfl) ?_;exact⟨(),(by kernel_rfl),U⟩
     rintro _ U
     try dsimp only at U
     rw[uX]at U;refine iU ?_;refine bK ?_;refine aD ?_;refine rg [] [] (l6 v1 [.gone]) (by kernel_rfl) ?_;refine c8 ?_;have hr:=aqk U;subst hr;exact gz (by kernel_rfl)
    replace U:=(eF h8).symm.trans U;refine eW (t:=(!v5)) (by kernel_rfl) (dZ h8) ?_;refine aD ?_;refine rg [] [] (xM v1 [.cells [(ar (10:Int))]]) (by kernel_rfl) ?_;refine c8 (fv (dg ?_));have hr:=aqk U;subst hr;exact gz (by kernel_rfl)
   replace U:=(eF h6).symm.trans U;refine eW (t:=(!v4)) (by kernel_rfl) (dZ h6) ?_;refine aD ?_;refine rg [] [] (xM v1 [.cells [(ar (11:Int))]]) (by kernel_rfl) ?_;refine c8 (fv (dg ?_));have hr:=aqk U;subst hr;exact gz (by kernel_rfl)
  replace U:=(eF h4).symm.trans U;refine eW (t:=(!v3)) (by kernel_rfl) (dZ h4) ?_;refine aD ?_;refine rg [] [] (xM v1 [.cells [(ar (7:Int))]]) (by kernel_rfl) ?_;refine c8 (fv (dg ?_));have hr:=aqk U;subst hr;exact gz (by kernel_rfl)
 replace U:=(eF h2).symm.trans U;refine eW (t:=(!v2)) (by kernel_rfl) (dZ h2) ?_;refine aD ?_;refine rg [] [] (xM v1 [.cells [(ar (5:Int))]]) (by kernel_rfl) ?_;refine c8 (fv (dg ?_));have hr:=aqk U;subst hr;exact gz (by kernel_rfl)
def xh(N:Nat):aqP aw->aqR Int
 |[]=>
  some (0:Int)
 |v5::v6=>
  (FH N v5).bind λv7=>
  bif (v7 !=0)then
   some v7
  else
   (xh N v6)
def Cn(N:Nat)(v1:aw):aqR Int:=
 (Qh N v1).bind λv2=>
 bif (decide (v2>40))then
  some (13:Int)
 else
  (Ds N v1).bind λv3=>
  bif (decide (v3>2000))then
   some (2:Int)
  else
   (zJ N v1).bind λv4=>
   xh N (dF v4)
def pJ(v1:aw)(l:aqP aq):aqP aq:= .cells (aP v1).cells:: .cells [(ar (0:Int))]::l
def Rw(v1:aw)(cA:Code)(cz:Code)(v4:aw)(v5:aw)(l:aqP aq):aqP aq:=pJ v1 (.lp .busy 13 cA cz (dp 19 [(2,(.ptr 1 0)),(12,(.fn 101 [(.bk [eV v4] 0 0)]))]):: .cells (aP v5).cells::l)
def FU(v1:aw)(l:aqP aq):aqP aq:= .cells (aP v1).cells::l
theorem Zb{N v1 r}(U:Cn N v1=some r):KF 39 [(aP v1)] (ar r):=by
 rw[Cn]at U;refine sw Tryz.func39 rfl (by kernel_rfl) ?_;refine gL [0] 0 (aqc _) (s':=⟨19,[(0,(aP v1))],[]⟩) (by kernel_rfl) ?_;refine aD ?_;refine rg [] [(1,(.ptr 0 0)),(2,(.ptr 1 0))] (pJ v1 []) (by kernel_rfl) ?_;refine aD ?_;refine aD ?_;obtain⟨v2,J,U⟩:=bO U;refine rg [(4,cK am2 J)] [(7,(aK (decide (v2>40))))] (pJ v1 []) (by kernel_rfl) ?_;rcases eC (decide (v2>40))with h2|h2
 ·replace U:=(dx h2).symm.trans U;refine eW (t:=(decide (v2>40))) (by kernel_rfl) h2 ?_;refine aD ?_;refine rg [] [] (FU v1 [.cells [(ar (13:Int))]]) (by kernel_rfl) ?_;refine c8 (dg ?_);have hr:=aqk U;subst hr;exact gz (by kernel_rfl)
 replace U:=(eF h2).symm.trans U;refine eP (t:=(decide (v2>40))) (by kernel_rfl) h2 ?_;refine dI ?_;refine bK ?_;refine aD ?_;refine aD ?_;obtain⟨v3,h3,U⟩:=bO U;refine rg [(4,cL (aew h3))] [(10,(aK (decide (v3>2000))))] (pJ v1 []) (by kernel_rfl) ?_;rcases eC (decide (v3>2000))with h4|h4
 ·replace U:=(dx h4).symm.trans U;refine eW (t:=(decide (v3>2000))) (by kernel_rfl) h4 ?_;refine aD ?_;refine rg [] [] (FU v1 [.cells [(ar (2:Int))]]) (by kernel_rfl) ?_;refine c8 (dg ?_);have hr:=aqk U;subst hr;exact gz (by kernel_rfl)
 replace U:=(eF h4).symm.trans U;refine eP (t:=(decide (v3>2000))) (by kernel_rfl) h4 ?_;refine dI ?_;refine bK ?_;refine aD ?_;refine aD ?_;obtain⟨v4,h5,U⟩:=bO U;refine rg [(4,cL (Pm h5))] [(12,(.fn 101 [(.bk [eV v4] 0 0)]))] (pJ v1 []) (by kernel_rfl) ?_;refine gq ?_;refine gL [2,12] 2 (ap9 rfl) (s':=⟨19,[(2,(.ptr 1 0)),(12,(.fn 101 [(.bk [eV v4] 0 0)]))],(pJ v1 [])⟩) (by kernel_rfl) ?_;refine wQ (m:=2) (enc:=aP) (xs:=(dF v4)) (by kernel_rfl) (Sr v4) (λ(_:Unit)=>(pJ v1 [])) (λ(_:Unit) l=>xh N l=some r) () (by kernel_rfl) U (by rintro _;rfl) (by rintro _;kernel_rfl) (by kernel_rfl) rfl ?_ ?_
 ·rintro _ v5 v6 U h6 cA cz
  try dsimp only at U
  rw[xh]at U;refine gL [2,13] 3 (aqc _) (s':=⟨19,[(2,(.ptr 1 0)),(13,(aP v5))],(pJ v1 [.lp .ready 13 cA cz (dp 19 [(2,(.ptr 1 0)),(12,(.fn 101 [(.bk [eV v4] 0 0)]))])])⟩) (by kernel_rfl) ?_;refine re [] [(3,(.ptr 3 0))] (pJ v1 [.lp .ready 13 cA cz (dp 19 [(2,(.ptr 1 0)),(12,(.fn 101 [(.bk [eV v4] 0 0)]))]), .cells (aP v5).cells]) (by kernel_rfl) ?_;refine bK ?_;refine⟨(pJ v1 []),(FU v5 []),rfl,(by kernel_rfl),?_⟩;refine gL [2,3] 4 (ap9 rfl) (s':=⟨19,[(2,(.ptr 1 0)),(3,(.ptr 3 0))],(Rw v1 cA cz v4 v5 [])⟩) (by kernel_rfl) ?_;refine gq ?_;refine aD ?_;obtain⟨v7,h7,U⟩:=bO U;refine rg [(4,cL (aoq h7))] [(4,(ar v7))] (Rw v1 cA cz v4 v5 []) (by kernel_rfl) ?_;refine aD ?_;refine rg [] [(17,(aK (v7 !=0)))] (Rw v1 cA cz v4 v5 []) (by kernel_rfl) ?_;rcases eC (v7 !=0)with h8|h8
  ·replace U:=(dx h8).symm.trans U;refine eW (t:=(v7 !=0)) (by kernel_rfl) h8 ?_;refine aD ?_;refine rg [] [] (FU v1 [.cells [(ar v7)], .lp .busy 13 cA cz (dp 19 [(2,(.ptr 1 0)),(12,(.fn 101 [(.bk [eV v4] 0 0)]))]), .cells (aP v5).cells]) (by kernel_rfl) ?_;refine c8 (fv ?_);refine CQ (FU v1 [.cells [(ar v7)]]) rfl (by kernel_rfl) (by kernel_rfl) ?_;refine(fv (dg ?_));have hr:=aqk U;subst hr;exact gz (by kernel_rfl)
  replace U:=(eF h8).symm.trans U;refine eP (t:=(v7 !=0)) (by kernel_rfl) h8 ?_;refine dI ?_;refine iU ?_;refine Ck (pJ v1 []) rfl (by kernel_rfl) (by kernel_rfl) ?_;exact⟨(),(by kernel_rfl),U⟩
 rintro _ U
 try dsimp only at U
 rw[xh]at U;refine iU ?_;refine bK ?_;refine aD ?_;refine rg [] [] (pJ v1 [.gone]) (by kernel_rfl) ?_;refine c8 ?_;have hr:=aqk U;subst hr;exact gz (by kernel_rfl)
def Kp(N:Nat)(v3:aqP (aqQ×Int)):aqP dC->Nat->aqR Int
 |[],_=>
  some (0:Int)
 |v6::v7,v4=>
  bif ((gv v3 v6.au 0)==0)then
   some (9:Int)
  else
   (Kp N v3 v7 (v4+1))
def E8(N:Nat)(v1:bz)(v2:aV)(v3:aqP (aqQ×Int)):aqR Int:=
 Kp N v3 v1.xL 0
theorem SD{N v1 v2 v3}:KP 264 [(.ptr 0 0),(dV v1)] [.cells (fZ v2 [(.mp 1)]), .map (fq v3)] ar (λ_=>[.cells (fZ v2 [(.mp 1)]), .map (fq v3)]) (E8 N v1 v2 v3):=
 fh 2 Tryz.func264 (gA [[],[(7,oL v1.xL lV)]] (gT CN 8 v1.xL λh2=>fu 1 [] [0,8,9,10] 3 (λv4=>⟨23,[(0,(.ptr 0 0)),(8,(.d (.sl (gN v1.xL)))),(9,(ar (v1.xL.length:Int))),(10,(ar (v4:Int)))],[.cells (fZ v2 [(.mp 1)]), .map (fq v3), .cells (dV v1).cells]⟩) (λv4 h3 f1=>gH [[],[f0 (cu h3)],[]]) (λv4 v6 v7 h3 f1 aU=>gA [[],[t0 (cv h3)],[(1,oE (ta (bI h3)))],[(20,⟨_,_, .eq (DB false v3 v6.au)⟩)]] (aC (λh4=>gH [[t0 h4],[]]) λh4=>gb aU () [[f0 h4],[(2,oq (cD h3 rfl h2))]] h3))))
def SO(N:Nat)(v1:aqP dC):aqR (aqP dC):=bif Nat.ble (v1.length*24) 140737488355328 then some v1 else none
theorem anJ{N v1 r}(U:SO N v1=some r):gi Tryz.prog 151 [(.d (.sl (gN v1)))] (·=(.d (.sl (gN r)))):=by
 obtain⟨hb,rfl⟩:=eD U;have hc:=nD hb (by decide);exact ahG Y5 (by rw[lV];exact hc.1) (by rw[lV];exact hc.2)
def DJ(N:Nat)(v1:bz):aqR bz:=
 (SO N v1.xL).bind λv2=>
 some (⟨v1.xK,v2⟩:bz)
theorem XM{N v1}:KO 98 [(dV v1)] dV (DJ N v1):=
 fw Tryz.func98 (aB λv2 J=>gR [[],[(13,cL (anJ J))]])
def EH(N:Nat):aqP bz->Nat->(aqP bz)->aqR ((aqP bz))
 |[],_,v6=>
  some v6
 |v4::v5,v2,v6=>
  (DJ N v4).bind λv7=>
  bif (Nat.ble ((v6.length+1)*32) 140737488355328)then
  (λcl=>EH N v5 (v2+1) cl) (v6++[v7])
  else none
def KA(N:Nat)(v1:aqP bz):aqR ((aqP bz)):=
 EH N v1 0 []
theorem aoW{N v1}:KO 96 [(.d (.sl (gj v1)))] (λr=> .d (.sl (gj r))) (KA N v1):=
 fw Tryz.func96 (gA [[],[],[(4,oL v1 jz)]] (li (λ_=>(vH 3 53 2 [] (.inr (by kernel_rfl)) ·)) (gT sT 0 v1 λh2=>gU 1 [] [3,6,7,8] 1 (λv2(v6:aqP bz)=>⟨19,[(3,(.own 0 (gj v6))),(6,(.d (.sl (gj v1)))),(7,(ar (v1.length:Int))),(8,(ar (v2:Int)))],[.front 53 2 v6.length]⟩) (λv2 v6 h3 f1=>gR [[],[f0 (cu h3)],[]]) (λv2 v4 v5 v6 h3 f1 aU=>aB λv7 h4=>dN λh5=>gb aU (v6++[v7]) [[],[t0 (cv h3)],[(1,oE (vN (bI h3)))],[(7,cK XM h4),(13,oA sT v6 ([v7]) h5)],[(2,oq (cD h3 rfl h2))]] h3))))
def QY(N:Nat)(v1:bB)(v2:aqQ):aqR Bool:=
 some (bL v1.au==bL v2)
theorem aky{N v1 v2}:KP 150 [(fY v1),(.ptr 0 0)] [.cells [(di v2)]] aK (λ_=>[.cells [(di v2)]]) (QY N v1 v2):=
 fh 1 Tryz.func150 (gH [[],[]])
def KI(N:Nat)(v2:aqQ):aqP bB->Nat->aqR Int
 |[],_=>
  some (-1:Int)
 |v5::v6,v3=>
  (QY N v5 v2).bind λv7=>
  bif v7 then
   some (v3:Int)
  else
   (KI N v2 v6 (v3+1))
def P9(N:Nat)(v1:aqP bB)(v2:aqQ):aqR Int:=
 KI N v2 v1 0
theorem aob{N v1 v2}:KP 149 [(.d (.sl (iV v1))),(.fn 150 [(.ptr 0 0)])] [.cells [(di v2)]] ar (λ_=>[.cells [(di v2)]]) (P9 N v1 v2):=
 fh 1 Tryz.func149 (gA [[],[(4,oL v1 lz)]] (gT Af 0 v1 λh2=>fu 1 [] [0,1,7,8] 1 (λv3=>⟨19,[(0,(.d (.sl (iV v1)))),(1,(.fn 150 [(.ptr 0 0)])),(7,(ar (v1.length:Int))),(8,(ar (v3:Int)))],[.cells [(di v2)]]⟩) (λv3 h3 f1=>gH [[],[f0 (cu h3)],[]]) (λv3 v5 v6 h3 f1 aU=>aB λv7 h4=>gA [[],[t0 (cv h3)],[],[(10,oE (k9 (bI h3))),(16,oQ [(fY v5),(.ptr 0 0)] [.cells [(di v2)]] [0] (aky _ h4))]] (aC (λh5=>gH [[t0 h5],[]]) λh5=>gb aU () [[f0 h5],[(2,oq (cD h3 rfl h2))]] h3))))
def LA(N:Nat)(v1:aV)(v2:aqQ):aqR Int:=
 (P9 N v1.aG v2).bind λv3=>
 some v3
theorem aog{N v1 v2}:KO 97 [(dW v1),(di v2)] ar (LA N v1 v2):=
 fw Tryz.func97 (aB λv3 J=>gR [[],[(10,oQ [(.d (.sl (iV v1.aG))),(.fn 150 [(.ptr 1 0)])] [.cells (dW v1).cells, .cells [(di v2)]] [1] (aob _ J))]])
def D9(N:Nat)(v8:bB):aqP du->Nat->(aqP bz)->aqR (aF×(aqP bz)×Bool)
 |[],_,aL=>
  some (v8.ax,aL,true)
 |v11::v12,v9,aL=>
  (DJ N v11.dG).bind λaQ=>
  bif (Nat.ble ((aL.length+1)*32) 140737488355328)then
  (λgW=>D9 N v8 v12 (v9+1) gW) (aL++[aQ])
  else none
def E0(N:Nat)(v1:aV)(v2:aqQ):aqP eN->Nat->aqR (aF×(aqP bz)×Bool)
 |[],_=>
  (LA N v1 v2).bind λv7=>
  bif (decide (v7>=0))then
   bif (decide ((0:Int)<=v7))then
   Option.bind (v1.aG[(v7).toNat]?) λv8=>
   D9 N v8 v8.aS 0 []
   else none
  else
   some (dR,[],false)
 |v5::v6,v3=>
  bif (bL v5.au==bL v2)then
   (KA N v5.aS).bind λbu=>
   some (v5.ax,bu,true)
  else
   (E0 N v1 v2 v6 (v3+1))
def D5(N:Nat)(v1:aV)(v2:aqQ):aqR (aF×(aqP bz)×Bool):=
 E0 N v1 v2 v1.aX 0
theorem Q8{N v1 v2}:KO 55 [(dW v1),(di v2)] (λr=> .bj [(cq r.1),(.d (.sl (gj r.2.1))),(aK r.2.2)]) (D5 N v1 v2):=
 fw Tryz.func55 (gA [[],[(7,oL v1.aX ri)]] (gT SJ 14 v1.aX λh2=>fu 1 [] [1,2,4,14,15,16] 2 (λv3=>⟨61,[(1,(di v2)),(2,(.ptr 0 0)),(4,(.ptr 1 0)),(14,(.d (.sl (kO v1.aX)))),(15,(ar (v1.aX.length:Int))),(16,(ar (v3:Int)))],[.cells (dW v1).cells, .cells xu]⟩) (λv3 h3 f1=>aB λv7 h4=>gA [[],[f0 (cu h3)],[(7,cK aog h4)],[]] (qn λh5=>dN λh7=>aB λv8 h6=>gA [[t0 h5],[],[(10,⟨_,_, .el (xs:=iV v1.aG) (i:=v7) (of_decide_eq_true h7) (k9 h6)⟩),(19,oL v8.aS kZ)]] (li (λ_=>(vH 10 53 2 [] (.inr (by kernel_rfl)) ·)) (gT sK 40 v8.aS λh9=>gU 2 [] [2,4,9,10,40,41,42] 3 (λv9(aL:aqP bz)=>⟨61,[(2,(.ptr 0 0)),(4,(.ptr 1 0)),(9,(ar v7)),(10,(.own 2 (gj aL))),(40,(.d (.sl (dAxiss v8.aS)))),(41,(ar (v8.aS.length:Int))),(42,(ar (v9:Int)))],[.cells (dW v1).cells, .cells xu, .front 53 2 aL.length]⟩) (λv9 aL bE f2=>gR [[],[f0 (cu bE)],[(10,⟨_,_, .el (xs:=iV v1.aG) (i:=v7) (of_decide_eq_true h7) (k9 h6)⟩)]]) (λv9 v11 v12 aL bE f2 fi=>aB λaQ bD=>dN λbw=>gb fi (aL++[aQ]) [[],[t0 (cv bE)],[(1,oE (xC (bI bE)))],[(10,cK XM bD),(16,oA sT aL ([aQ]) bw)],[(2,oq (cD bE rfl h9))]] bE))))) (λv3 v5 v6 h3 f1 aU=>gA [[],[t0 (cv h3)],[(1,oE (Dt (bI h3)))],[]] (aC (λcN=>aB λbu cS=>gR [[t0 cN],[(13,cK aoW cS)]]) λcN=>gb aU () [[f0 cN],[(2,oq (cD h3 rfl h2))]] h3))))
def JE(N:Nat)(v2:aV)(v3:aqP (aqQ×Int)):aqP bz->Nat->aqR Int
 |[],_=>
  some (0:Int)
 |v8::v9,v6=>
  (E8 N v8 v2 v3).bind λv10=>
  bif (v10 !=0)then
   some v10
  else
   (JE N v2 v3 v9 (v6+1))
def KJ(N:Nat)(v1:cO)(v2:aV)(v3:aqP (aqQ×Int)):aqR Int:=
 bif (bL v1.cU==bL (bs []))then
  (E8 N v1.bo v2 v3).bind λv4=>
  some v4
 else
  (D5 N v2 v1.cU).bind λv5=>
  bif v5.2.2 then
   bif (v5.1.bg !=3)then
    some (10:Int)
   else
    bif ((v1.cT.length:Int) !=(v5.2.1.length:Int))then
     some (11:Int)
    else
     JE N v2 v3 v1.cT 0
  else
   some (9:Int)
def M0(v2:aV)(v3:aqP (aqQ×Int))(v1:cO)(l:aqP aq):aqP aq:= .cells (fZ v2 [(.mp 1)]):: .map (fq v3):: .cells (h1 v1).cells::l
theorem adW{N v1 v2 v3}:KP 291 [(.ptr 0 0),(h1 v1)] [.cells (fZ v2 [(.mp 1)]), .map (fq v3)] ar (λ_=>[.cells (fZ v2 [(.mp 1)]), .map (fq v3)]) (KJ N v1 v2 v3):=
 fh 2 Tryz.func291 (gA [[],[]] (aC (λJ=>aB λv4 h2=>gH [[t0 J],[(10,oQ [(.ptr 0 0),(dV v1.bo)] (M0 v2 v3 v1 []) [0,1] (SD _ h2))]]) λJ=>aB λv5 h3=>gA [[f0 J],[(19,cK Q8 h3)],[]] (aC (λh4=>gA [[f0 (dq h4)],[]] (aC (λh5=>gH [[t0 h5],[]]) λh5=>gA [[f0 h5],[(7,oL v1.cT jz),(13,oL v5.2.1 jz)]] (aC (λh6=>gH [[t0 h6],[]]) λh6=>gA [[f0 h6],[(7,oL v1.cT jz)]] (gT sT 44 v1.cT λh8=>fu 1 [] [0,44,45,46] 4 (λv6=>⟨57,[(0,(.ptr 0 0)),(44,(.d (.sl (gj v1.cT)))),(45,(ar (v1.cT.length:Int))),(46,(ar (v6:Int)))],(M0 v2 v3 v1 [.cells (cq v5.1).cells])⟩) (λv6 h9 f1=>gH [[],[f0 (cu h9)],[]]) (λv6 v8 v9 h9 f1 aU=>aB λv10 bE=>gA [[],[t0 (cv h9)],[(1,oE (vN (bI h9)))],[(7,oQ [(.ptr 0 0),(dV v8)] (M0 v2 v3 v1 [.cells (cq v5.1).cells, .cells (dV v8).cells]) [0,1] (SD _ bE))],[]] (aC (λbD=>gH [[t0 bD],[]]) λbD=>gb aU () [[f0 bD],[(2,oq (cD h9 rfl h8))]] h9)))))) λh4=>gH [[t0 (dZ h4)],[]])))
def Ni(N:Nat)(v4:aF×(aqP bz)×Bool)(v2:aV)(v3:aqP (aqQ×Int)):aqP cO->Nat->aqR (aF×Int)
 |[],_=>
  some (v4.1,(0:Int))
 |v7::v8,v5=>
  (KJ N v7 v2 v3).bind λv9=>
  bif (v9 !=0)then
   some (dR,v9)
  else
   (Ni N v4 v2 v3 v8 (v5+1))
def MS(N:Nat)(v1:aw)(v2:aV)(v3:aqP (aqQ×Int)):aqR (aF×Int):=
 (D5 N v2 v1.au).bind λv4=>
 bif v4.2.2 then
  bif ((v1.xIdx.length:Int) !=(v4.2.1.length:Int))then
   some (dR,(11:Int))
  else
   Ni N v4 v2 v3 v1.xIdx 0
 else
  some (dR,(9:Int))
theorem alf{N v1 v2 v3}:KP 265 [(.ptr 0 0),(aP v1)] [.cells (fZ v2 [(.mp 1)]), .map (fq v3)] (λr=> .bj [(cq r.1),(ar r.2)]) (λ_=>[.cells (fZ v2 [(.mp 1)]), .map (fq v3)]) (MS N v1 v2 v3):=
 fh 2 Tryz.func265 (aB λv4 J=>gA [[],[(19,cK Q8 J)],[]] (aC (λh2=>gA [[f0 (dq h2)],[(7,oL v1.xIdx ld),(13,oL v4.2.1 jz)]] (aC (λh3=>gH [[t0 h3],[]]) λh3=>gA [[f0 h3],[(7,oL v1.xIdx ld)]] (gT Fj 34 v1.xIdx λh5=>fu 1 [] [0,4,6,34,35,36] 5 (λv5=>⟨49,[(0,(.ptr 0 0)),(4,(.ptr 3 0)),(6,(.ptr 4 0)),(34,(.d (.sl (eZ v1.xIdx)))),(35,(ar (v1.xIdx.length:Int))),(36,(ar (v5:Int)))],[.cells (fZ v2 [(.mp 1)]), .map (fq v3), .cells (aP v1).cells, .cells xu, .cells (cq v4.1).cells]⟩) (λv5 h6 f1=>gH [[],[f0 (cu h6)],[]]) (λv5 v7 v8 h6 f1 aU=>aB λv9 h7=>gA [[],[t0 (cv h6)],[(1,oE (nW (bI h6)))],[(7,oQ [(.ptr 0 0),(h1 v7)] [.cells (fZ v2 [(.mp 1)]), .map (fq v3), .cells (aP v1).cells, .cells xu, .cells (cq v4.1).cells, .cells (h1 v7).cells] [0,1] (adW _ h7))],[]] (aC (λh8=>gH [[t0 h8],[]]) λh8=>gb aU () [[f0 h8],[(2,oq (cD h6 rfl h5))]] h6))))) λh2=>gH [[t0 (dZ h2)],[]]))
def Ee(N:Nat)(v1:aF)(v2:aF):aqR Int:=
 bif ((v1.bg==v2.bg)&&((v1.bN==v2.bN)&&((v1.bM==v2.bM)&&((v1.cn==v2.cn)&&((v1.ck==v2.ck)&&true)))))then
  some (0:Int)
 else
  some (10:Int)
theorem Sa{N v1 v2}:KO 263 [(cq v1),(cq v2)] ar (Ee N v1 v2):=
 fw Tryz.func263 (gA [[],[]] (qR λJ=>gR [[t0 (dZ J)],[]]))
def Dh(N:Nat)(v8:aqP aF)(cw:Bool):aqR (aF×Int):=
 bif cw then
  Option.bind (v8[0]?) λbY=>
  Option.bind (v8[1]?) λcm=>
  (Ee N bY cm).bind λv20=>
  some (dR,v20)
 else
  Option.bind (v8[0]?) λv21=>
  Option.bind (v8[1]?) λfk=>
  (Ee N v21 fk).bind λda=>
  some (v21,da)
def Fo(N:Nat)(v1:aw)(v8:aqP aF)(bG:Bool):aqR (aF×Int):=
 bif bG then
  some (dR,(0:Int))
 else
  bif (v1.az==13)then
   Dh N v8 (v1.az==13)
  else
   bif (v1.az==14)then
    Dh N v8 (v1.az==14)
   else
    Dh N v8 (v1.az==15)
def Jo(N:Nat)(v1:aw)(v2:aV)(v3:aqP (aqQ×Int))(v8:aqP aF)(v9:Bool):aqR (aF×Int):=
 bif v9 then
  some (v1.ax,(0:Int))
 else
  bif (v1.az==2)then
   (E8 N v1.bo v2 v3).bind λv10=>
   some ((⟨(3:Int),(0:Int),(0:Int),(0:Int),(0:Int)⟩:aF),v10)
  else
   bif (v1.az==3)then
    (MS N v1 v2 v3).bind λv11=>
    some (v11.1,v11.2)
   else
    bif (v1.az==8)then
     Option.bind (v8[0]?) λv12=>
     some (v12,(0:Int))
    else
     bif (v1.az==11)then
      Option.bind (v8[1]?) λaL=>
      Option.bind (v8[2]?) λaQ=>
      (Ee N aL aQ).bind λbu=>
      some (aL,bu)
     else
      bif (v1.az==16)then
       Fo N v1 v8 (v1.az==16)
      else
       bif (v1.az==17)then
        Fo N v1 v8 (v1.az==17)
       else
        Fo N v1 v8 (v1.az==18)
def xo(N:Nat)(v1:aw)(v2:aV)(v3:aqP (aqQ×Int))(acL:aw->aV->(aqP (aqQ×Int))->aqR (aF×Int)):aqP aw->Nat->(aqP aF)->aqR (aF×Int)
 |[],_,v8=>
  bif (v1.az==1)then
   Jo N v1 v2 v3 v8 (v1.az==1)
  else
   Jo N v1 v2 v3 v8 (v1.az==12)
 |v6::v7,v4,v8=>
  (acL v6 v2 v3).bind λv24=>
  bif (v24.2 !=0)then
   some (dR,v24.2)
  else
   bif (Nat.ble ((v8.length+1)*40) 140737488355328)then
   (λcl=>xo N v1 v2 v3 acL v7 (v4+1) cl) (v8++[v24.1])
   else none
def yv(N:Nat):Nat->aw->aV->(aqP (aqQ×Int))->aqR (aF×Int)
 |0,_,_,_=>none
 |d+1,v1,v2,v3=>
  xo N v1 v2 v3 (yv N d) v1.bJ 0 []
def R2(N:Nat)(v1:aw)(v2:aV)(v3:aqP (aqQ×Int)):aqR (aF×Int):=yv N N v1 v2 v3
def xT(v2:aV)(v3:aqP (aqQ×Int))(v1:aw)(v8:aqP aF)(l:aqP aq):aqP aq:= .cells (fZ v2 [(.mp 1)]):: .map (fq v3):: .cells (aP v1).cells:: .cells xu:: .front 34 5 v8.length::l
theorem ajW(N:Nat):∀d:Nat,(∀{v1:aw}{v2:aV}{v3:aqP (aqQ×Int)},KP 219 [(.ptr 0 0),(aP v1)] [.cells (fZ v2 [(.mp 1)]), .map (fq v3)] (λr=> .bj [(cq r.1),(ar r.2)]) (λ_=>[.cells (fZ v2 [(.mp 1)]), .map (fq v3)]) (yv N d v1 v2 v3)):=by
 intro d
 induction d with
 |zero=>intro v1 v2 v3 r U;rw[yv]at U;cases U
 |succ d ih=>
  have aoD:= @ih;intro v1 v2 v3;rw[yv];exact fh 2 Tryz.func219 (gA [[],[],[(7,oL v1.bJ qi)]] (li (λ_=>(vH 6 34 5 [] (.inr (by kernel_rfl)) ·)) (gT F9 13 v1.bJ λh2=>gU 1 [] [0,3,4,6,13,14,15] 5 (λv4(v8:aqP aF)=>⟨102,[(0,(.ptr 0 0)),(3,(.ptr 2 0)),(4,(.ptr 3 0)),(6,(.own 4 (oP v8))),(13,(.d (.sl (jg v1.bJ)))),(14,(ar (v1.bJ.length:Int))),(15,(ar (v4:Int)))],(xT v2 v3 v1 v8 [])⟩) (λv4 v8 h3 f1=>nq 2 [[],[(0,bF (cu h3))],[],[],[]] [0,3,4,6,11,35,36] 5 (λ(v9:Bool)=>⟨102,[(0,(.ptr 0 0)),(3,(.ptr 2 0)),(4,(.ptr 3 0)),(6,(.own 4 (oP v8))),(11,(.fn 263 [])),(35,(ar v1.az)),(36,(aK v9))],(xT v2 v3 v1 v8 [])⟩) (Jo N v1 v2 v3 v8) (λf2 fi=>aC (λiy=>gm fi (v1.az==1) [[(0,bT iy)]]) λiy=>gm fi (v1.az==12) [[(0,bF iy)],[]]) (λv9=>aC (λh4=>gH [[(0,bT h4)],[]]) λh4=>gA [[(0,bF h4)],[]] (aC (λh5=>aB λv10 h6=>gH [[(0,bT h5)],[(13,oQ [(.ptr 0 0),(dV v1.bo)] (xT v2 v3 v1 v8 []) [0,1] (SD _ h6))]]) λh5=>gA [[(0,bF h5)],[]] (aC (λh7=>aB λv11 h8=>gH [[(0,bT h7)],[(7,oQ [(.ptr 0 0),(aP v1)] (xT v2 v3 v1 v8 []) [0,1] (alf _ h8))]]) λh7=>gA [[(0,bF h7)],[]] (aC (λh9=>aB λv12 bE=>gH [[(0,bT h9)],[(4,oE (k:=0) (te bE))]]) λh9=>gA [[(0,bF h9)],[]] (aC (λbD=>aB λaL bw=>aB λaQ cN=>aB λbu cS=>gH [[(0,bT bD)],[(4,oE (k:=1) (te bw)),(16,oE (k:=1) (te bw)),(25,oE (k:=2) (te cN)),(31,cK Sa cS)]]) λbD=>nq 3 [[(0,bF bD)],[]] [4,6,11,35,73] 5 (λ(bG:Bool)=>⟨102,[(4,(.ptr 3 0)),(6,(.own 4 (oP v8))),(11,(.fn 263 [])),(35,(ar v1.az)),(73,(aK bG))],(xT v2 v3 v1 v8 [])⟩) (Fo N v1 v8) (λf3 lB=>aC (λpO=>gm lB (v1.az==16) [[(0,bT pO)]]) λpO=>gA [[(0,bF pO)],[]] (aC (λmX=>gm lB (v1.az==17) [[(0,bT mX)]]) λmX=>gm lB (v1.az==18) [[(0,bF mX)],[]])) (λbG=>aC (λcH=>gH [[(0,bT cH)],[]]) λcH=>nq 4 [[(0,bF cH)],[]] [4,6,11,78] 5 (λ(cw:Bool)=>⟨102,[(4,(.ptr 3 0)),(6,(.own 4 (oP v8))),(11,(.fn 263 [])),(78,(aK cw))],(xT v2 v3 v1 v8 [])⟩) (Dh N v8) (λf4 ng=>aC (λie=>gm ng (v1.az==13) [[(0,bT ie)]]) λie=>gA [[(0,bF ie)],[]] (aC (λh24=>gm ng (v1.az==14) [[(0,bT h24)]]) λh24=>gm ng (v1.az==15) [[(0,bF h24)],[]])) (λcw=>aC (λcM=>aB λbY eH=>aB λcm fR=>aB λv20 fj=>gH [[(0,bT cM)],[(10,oE (k:=0) (te eH)),(19,oE (k:=1) (te fR)),(25,cK Sa fj)]]) λcM=>aB λv21 gY=>aB λfk kV=>aB λda jl=>gH [[(0,bF cM)],[(4,oE (k:=0) (te gY)),(16,oE (k:=0) (te gY)),(25,oE (k:=1) (te kV)),(31,cK Sa jl)]])))))))) (λv4 v6 v7 v8 h3 f1 aU=>aB λv24 oC=>gA [[],[(0,bT (cv h3))],[(1,oE (nb (bI h3)))],[(7,oQ [(.ptr 0 0),(aP v6)] (xT v2 v3 v1 v8 [.cells (aP v6).cells]) [0,1] (aoD _ oC))],[]] (aC (λrU=>gH [[(0,bT rU)],[]]) λrU=>dN λlZ=>gb aU (v8++[v24.1]) [[(0,bF rU)],[(10,oA aiW v8 ([v24.1]) lZ)],[(2,oq (cD h3 rfl h2))]] h3)))))
theorem ajo{N v1 v2 v3}:KP 219 [(.ptr 0 0),(aP v1)] [.cells (fZ v2 [(.mp 1)]), .map (fq v3)] (λr=> .bj [(cq r.1),(ar r.2)]) (λ_=>[.cells (fZ v2 [(.mp 1)]), .map (fq v3)]) (R2 N v1 v2 v3):=(ajW N N)
def yB(N:Nat)(v3:aw)(v1:aV):aqP aqQ->Nat->(aqP (aqQ×Int))->aqR (aF×Int)
 |[],_,bu=>
  (R2 N v3 v1 bu).bind λbG=>
  bif (bG.2 !=0)then
   some (dR,bG.2)
  else
   some (bG.1,(0:Int))
 |aL::aQ,v11,bu=>
  bif (Nat.blt bu.length 9223372036854775807)then
  (λgW=>yB N v3 v1 aQ (v11+1) gW) ((aL,(3:Int))::bu)
  else none
def IG(N:Nat)(v3:aw)(v1:aV)(v2:aqP aqQ):aqP aqQ->Nat->(aqP (aqQ×Int))->aqR (aF×Int)
 |[],_,v10=>
  yB N v3 v1 v2 0 v10
 |v8::v9,v6,v10=>
  bif (Nat.blt v10.length 9223372036854775807)then
  (λcl=>IG N v3 v1 v2 v9 (v6+1) cl) ((v8,(1:Int))::v10)
  else none
def LJ(N:Nat)(v1:aV)(v2:aqP aqQ)(v3:aw):aqR (aF×Int):=
 (Cn N v3).bind λv4=>
 bif (v4 !=0)then
  some (dR,v4)
 else
  (BO N v3).bind λv5=>
  bif v5 then
   some (dR,(10:Int))
  else
   IG N v3 v1 v2 v1.bm 0 []
def RD(v1:aV)(v3:aw)(v10:aqP (aqQ×Int))(l:aqP aq):aqP aq:= .cells (dW v1).cells:: .cells (aP v3).cells:: .cells xu:: .map (fq v10):: .cells (fZ v1 [(.mp 3)])::l
theorem aeo{N v1 v2 v3}:KO 146 [(dW v1),(.d (.sl (ep v2))),(aP v3)] (λr=> .bj [(cq r.1),(ar r.2)]) (LJ N v1 v2 v3):=
 fw Tryz.func146 (aB λv4 J=>gA [[],[(4,cL (Zb J))],[]] (bQ λh2=>aB λv5 h3=>gA [[f0 h2],[(4,cK SX h3)]] (bQ λh4=>gA [[f0 h4],[],[(7,oL v1.bm jT)]] (gT tc 30 v1.bm λh6=>gU 1 [] [1,5,6,9,30,31,32] 5 (λv6(v10:aqP (aqQ×Int))=>⟨65,[(1,(.d (.sl (ep v2)))),(5,(.ptr 1 0)),(6,(.ptr 2 0)),(9,(.ptr 4 0)),(30,(.d (.sl (ep v1.bm)))),(31,(ar (v1.bm.length:Int))),(32,(ar (v6:Int)))],(RD v1 v3 v10 [])⟩) (λv6 v10 h7 f1=>gA [[],[f0 (cu h7)],[(4,oL v2 jT)]] (gT tc 1 v2 λh9=>gU 2 [] [5,6,9,42,43,44] 5 (λv11(bu:aqP (aqQ×Int))=>⟨65,[(5,(.ptr 1 0)),(6,(.ptr 2 0)),(9,(.ptr 4 0)),(42,(.d (.sl (ep v2)))),(43,(ar (v2.length:Int))),(44,(ar (v11:Int)))],(RD v1 v3 bu [])⟩) (λv11 bu bE f2=>aB λbG bD=>gA [[],[f0 (cu bE)],[(7,oQ [(.ptr 4 0),(aP v3)] (RD v1 v3 bu []) [4,3] (ajo _ bD))],[]] (bQ λbw=>gR [[f0 bw],[]])) (λv11 aL aQ bu bE f2 fi=>dN λcN=>gb fi ((aL,(3:Int))::bu) [[],[t0 (cv bE)],[(1,oE (n8 (bI bE)))],[(16,⟨_,_, .sd (o:= .none) (Rm cN)⟩)],[(2,oq (cD bE rfl h9))]] bE))) (λv6 v8 v9 v10 h7 f1 aU=>dN λcS=>gb aU ((v8,(1:Int))::v10) [[],[t0 (cv h7)],[(1,oE (n8 (bI h7)))],[(16,⟨_,_, .sd (o:= .none) (Rm cS)⟩)],[(2,oq (cD h7 rfl h6))]] h7)))))
def Ij(N:Nat)(v1:Int)(v2:aV)(v3:aqP (aqQ×Int)):aqR (Int×(aqP (aqQ×Int))):=
 bif (decide ((0:Int)<=v1))then
 Option.bind (v2.aG[(v1).toNat]?) λv4=>
 Option.bind (Cl N v4.au (2:Int) v2 v3) λv5=>
 bif (v5.1 !=0)then
  some (v5.1,v5.2)
 else
  Option.bind (yP N v4.ax ([(v4.aS.length:Int),(v4.bR.length:Int)])) λv6=>
  bif (v6 !=0)then
   some (v6,v5.2)
  else
   (J9 N v4 v2 v5.2).bind λv7=>
   bif (v7 !=0)then
    some (v7,v5.2)
   else
    (LW N v4).bind λv8=>
    bif (v8 !=0)then
     some (v8,v5.2)
    else
     bif (decide ((v1).toNat<=v2.aG.length))then
     (IM N v4).bind λv9=>
     Option.bind (LJ N (⟨v2.bm,v2.dM,v2.aX,((v2.aG.take (v1).toNat).drop 0),v2.c9⟩:aV) v9 v4.bP) λv10=>
     bif (v10.2 !=0)then
      some (v10.2,v5.2)
     else
      bif ((v10.1.bg==v4.ax.bg)&&((v10.1.bN==v4.ax.bN)&&((v10.1.bM==v4.ax.bM)&&((v10.1.cn==v4.ax.cn)&&((v10.1.ck==v4.ax.ck)&&true)))))then
       some ((0:Int),v5.2)
      else
       some ((10:Int),v5.2)
     else none
 else none
theorem anh{N v1 v2 v3}:KP 91 [(.ptr 0 0),(ar v1)] [.cells (fZ v2 [(.mp 1)]), .map (fq v3)] (λr=>ar r.1) (λr=>[.cells (fZ v2 [(.mp 1)]), .map (fq r.2)]) (Ij N v1 v2 v3):=
 fh 2 Tryz.func91 (dN λh2=>aB λv4 J=>aB λv5 h3=>gA [[],[(19,⟨_,_, .el (xs:=iV v2.aG) (i:=v1) (of_decide_eq_true h2) (k9 J)⟩)],[(10,oR [(.ptr 0 0),(di v4.au),(ar (2:Int))] [.cells (fZ v2 [(.mp 1)]), .map (fq v3), .cells (fY v4).cells] [0,1] (N8 _ h3))],[]] (aC (λh4=>gH [[t0 h4],[]]) λh4=>aB λv6 h5=>gA [[f0 h4],[(13,oL v4.aS kZ),(22,oL v4.bR kZ),(28,cK Yf h5)],[]] (aC (λh6=>gH [[t0 h6],[]]) λh6=>aB λv7 h7=>gA [[f0 h6],[(7,oQ [(.ptr 0 0),(fY v4)] [.cells (fZ v2 [(.mp 1)]), .map (fq v5.2), .cells (fY v4).cells] [0,1] (adV _ h7))],[]] (aC (λh8=>gH [[t0 h8],[]]) λh8=>aB λv8 h9=>gA [[f0 h8],[(4,cK aiq h9)],[]] (aC (λbE=>gH [[t0 bE],[]]) λbE=>dN λbD=>aB λv9 bw=>aB λv10 cN=>gA [[f0 bE],[],[(19,⟨_,_, .sub (xs:=iV v2.aG) (lo:=0) (hi:=v1) (by decide) (Nat.zero_le _) (of_decide_eq_true h2) (by rw[lz];exact(of_decide_eq_true bD)) Zd aps⟩)],[(7,cK ak6 bw),(16,cK aeo cN)],[]] (aC (λcS=>gH [[t0 cS],[]]) λcS=>gA [[f0 cS],[]] (aC (λcH=>gH [[f0 (dq cH)],[]]) λcH=>gH [[t0 (dZ cH)],[]])))))))
def GP(N:Nat)(da:aqP (aqQ×Int))(v1:aV):aqP aqQ->Nat->Int->aqR (Int×Int)
 |[],_,_=>
  some ((0:Int),(0:Int))
 |fg::iE,v24,v28=>
  bif ((gv da fg 0) !=2)then
   some (v28,(9:Int))
  else
   bif (decide (((v24:Int)).toNat<=v1.c9.length))then
   Option.bind (AH N ((v1.c9.take ((v24:Int)).toNat).drop 0) fg) λlN=>
   bif lN then
    some (v28,(8:Int))
   else
    (λalE=>GP N da v1 iE (v24+1) alE) (aO (v28+(1:Int)))
   else none
def BF(N:Nat)(v1:aV):aqP bB->Nat->Int->(aqP (aqQ×Int))->aqR (Int×Int)
 |[],_,fk,da=>
  GP N da v1 v1.c9 0 fk
 |_::v21,bY,fk,da=>
  Option.bind (Ij N (bY:Int) v1 da) λv30=>
  bif (v30.1 !=0)then
   some (fk,v30.1)
  else
   (λyA aiy=>BF N v1 v21 (bY+1) yA aiy) (aO (fk+(1:Int))) v30.2
def Bh(N:Nat)(v1:aV):aqP eN->Nat->Int->(aqP (aqQ×Int))->aqR (Int×Int)
 |[],_,bG,cw=>
  BF N v1 v1.aG 0 bG cw
 |aQ::bu,v12,bG,cw=>
  (HX N aQ v1 cw).bind λv31=>
  bif (v31.1 !=0)then
   some (bG,v31.1)
  else
   (λqD xJ=>Bh N v1 bu (v12+1) qD xJ) (aO (bG+(1:Int))) v31.2
def G9(N:Nat)(v1:aV)(v7:aqP (aqQ×Int)):aqP gC->Nat->aqR (Int×Int)
 |[],_=>
  Bh N v1 v1.aX 0 (2:Int) v7
 |v10::v11,v8=>
  (LG N v10 v1 v7).bind λuM=>
  bif (uM !=0)then
   some ((1:Int),uM)
  else
   (G9 N v1 v7 v11 (v8+1))
def Ma(N:Nat)(v1:aV):aqP aqQ->Nat->(aqP (aqQ×Int))->aqR (Int×Int)
 |[],_,v7=>
  G9 N v1 v7 v1.dM 0
 |v5::v6,v3,v7=>
  Option.bind (Cl N v5 (1:Int) v1 v7) λlr=>
  bif (lr.1 !=0)then
   some ((0:Int),lr.1)
  else
   (λcl=>Ma N v1 v6 (v3+1) cl) lr.2
def Jt(N:Nat)(v1:aV):aqR (Int×Int):=
 (K3 N v1).bind λv2=>
 bif v2 then
  Ma N v1 v1.bm 0 []
 else
  some ((0:Int),(2:Int))
def s9(v1:aV)(v7:aqP (aqQ×Int))(l:aqP aq):aqP aq:= .cells (dW v1).cells:: .map (fq v7):: .cells (fZ v1 [(.mp 1)])::l
theorem g_program_Validate_ok{N v1}:KO 53 [(dW v1)] (λr=> .bj [(ar r.1),(ar r.2)]) (Jt N v1):=
 fw Tryz.func53 (aB λv2 J=>gA [[],[(4,cK apj J)]] (k8 λh2=>gA [[f0 (dq h2)],[],[(7,oL v1.bm jT)]] (gT tc 27 v1.bm λh4=>gU 1 [] [1,4,27,28,29] 3 (λv3(v7:aqP (aqQ×Int))=>⟨115,[(1,(.ptr 0 0)),(4,(.ptr 2 0)),(27,(.d (.sl (ep v1.bm)))),(28,(ar (v1.bm.length:Int))),(29,(ar (v3:Int)))],(s9 v1 v7 [])⟩) (λv3 v7 h5 f1=>gA [[],[f0 (cu h5)],[(7,oL v1.dM wP)]] (gT Og 41 v1.dM λh7=>fu 2 [] [1,4,41,42,43] 3 (λv8=>⟨115,[(1,(.ptr 0 0)),(4,(.ptr 2 0)),(41,(.d (.sl (nr v1.dM)))),(42,(ar (v1.dM.length:Int))),(43,(ar (v8:Int)))],(s9 v1 v7 [])⟩) (λv8 h8 f2=>gA [[],[f0 (cu h8)],[],[(7,oL v1.aX ri)]] (gT SJ 55 v1.aX λbE=>Qg 3 [] [1,4,11,55,56,57] 3 (λv12(bG:Int)(cw:aqP (aqQ×Int))=>⟨115,[(1,(.ptr 0 0)),(4,(.ptr 2 0)),(11,(ar bG)),(55,(.d (.sl (kO v1.aX)))),(56,(ar (v1.aX.length:Int))),(57,(ar (v12:Int)))],(s9 v1 cw [])⟩) (λv12 bG cw bD f3=>gA [[],[f0 (cu bD)],[(7,oL v1.aG lz)]] (gB Af 0 3 v1.aG λcN=>Qg 4 [] [1,4,11,73,74] 3 (λbY(fk:Int)(da:aqP (aqQ×Int))=>⟨115,[(1,(.ptr 0 0)),(4,(.ptr 2 0)),(11,(ar fk)),(73,(ar (v1.aG.length:Int))),(74,(ar (bY:Int)))],(s9 v1 da [])⟩) (λbY fk da cS f4=>gA [[],[f0 (cu cS)],[(7,oL v1.c9 jT)]] (gT tc 88 v1.c9 λcM=>gU 5 [] [1,4,11,88,89,90] 3 (λv24(v28:Int)=>⟨115,[(1,(.ptr 0 0)),(4,(.ptr 2 0)),(11,(ar v28)),(88,(.d (.sl (ep v1.c9)))),(89,(ar (v1.c9.length:Int))),(90,(ar (v24:Int)))],(s9 v1 da [])⟩) (λv24 v28 eH f5=>gR [[],[f0 (cu eH)],[]]) (λv24 fg iE v28 eH f5 hf5=>gA [[],[t0 (cv eH)],[(4,oE (n8 (bI eH)))],[(17,⟨_,_, .eq (DB false da fg)⟩)]] (bQ λfR=>dN λfj=>aB λlN gY=>gA [[f0 fR],[(10,⟨_,_, .sub (xs:=ep v1.c9) (lo:=0) (hi:=(v24:Int)) (by decide) (Nat.zero_le _) (of_decide_eq_true (aqI (Int.natCast_nonneg _))) (by rw[jT];exact(of_decide_eq_true fj)) Js aiu⟩),(16,cK Wf gY)]] (bQ λkV=>gb hf5 (aO (v28+(1:Int))) [[f0 kV],[],[(2,oq (cD eH rfl cM))]] eH))))) (λbY v20 v21 fk da cS f4 ng=>aB λv30 jl=>gA [[],[t0 (cv cS)],[],[(7,oR [(.ptr 2 0),(ar (bY:Int))] (s9 v1 da []) [2,1] (anh _ jl))],[]] (bQ λie=>gb ng ((aO (fk+(1:Int))),v30.2) [[f0 ie],[],[(2,oq (cD cS rfl cN))]] cS)))) (λv12 aQ bu bG cw bD f3 lB=>aB λv31 h24=>gA [[],[t0 (cv bD)],[(1,oE (Dt (bI bD)))],[(7,oR [(.ptr 2 0),(pN aQ)] (s9 v1 cw [.cells (pN aQ).cells]) [2,1] (afs _ h24))],[]] (bQ λpO=>gb lB ((aO (bG+(1:Int))),v31.2) [[f0 pO],[],[(2,oq (cD bD rfl bE))]] bD)))) (λv8 v10 v11 h8 f2 fi=>aB λuM mX=>gA [[],[t0 (cv h8)],[(1,oE (RJ (bI h8)))],[(7,oQ [(.ptr 2 0),(xS v10)] (s9 v1 v7 [.cells (xS v10).cells]) [2,1] (agS _ mX))],[]] (bQ λiy=>gb fi () [[f0 iy],[(2,oq (cD h8 rfl h7))]] h8)))) (λv3 v5 v6 v7 h5 f1 aU=>aB λlr oC=>gA [[],[t0 (cv h5)],[(1,oE (n8 (bI h5)))],[(7,oR [(.ptr 2 0),(di v5),(ar (1:Int))] (s9 v1 v7 []) [2,1] (N8 _ oC))],[]] (bQ λrU=>gb aU lr.2 [[f0 rU],[(2,oq (cD h5 rfl h4))]] h5)))))
def SC(N:Nat)(v1:aJ)(v2:aqQ):aqR Bool:=
 some (bL v1.au==bL v2)
theorem alG{N v1 v2}:KP 94 [(HM v1),(.ptr 0 0)] [.cells [(di v2)]] aK (λ_=>[.cells [(di v2)]]) (SC N v1 v2):=
 fh 1 Tryz.func94 (gH [[],[]])
def FL(N:Nat)(v2:aqQ):aqP aJ->Nat->aqR Int
 |[],_=>
  some (-1:Int)
 |v5::v6,v3=>
  (SC N v5 v2).bind λv7=>
  bif v7 then
   some (v3:Int)
  else
   (FL N v2 v6 (v3+1))
def Nz(N:Nat)(v1:aqP aJ)(v2:aqQ):aqR Int:=
 FL N v2 v1 0
theorem ahj{N v1 v2}:KP 93 [(.d (.sl (aW v1))),(.fn 94 [(.ptr 0 0)])] [.cells [(di v2)]] ar (λ_=>[.cells [(di v2)]]) (Nz N v1 v2):=
 fh 1 Tryz.func93 (gA [[],[(4,oL v1 qE)]] (gT yY 0 v1 λh2=>fu 1 [] [0,1,7,8] 1 (λv3=>⟨19,[(0,(.d (.sl (aW v1)))),(1,(.fn 94 [(.ptr 0 0)])),(7,(ar (v1.length:Int))),(8,(ar (v3:Int)))],[.cells [(di v2)]]⟩) (λv3 h3 f1=>gH [[],[f0 (cu h3)],[]]) (λv3 v5 v6 h3 f1 aU=>aB λv7 h4=>gA [[],[t0 (cv h3)],[],[(10,oE (rl (bI h3))),(16,oQ [(HM v5),(.ptr 0 0)] [.cells [(di v2)]] [0] (alG _ h4))]] (aC (λh5=>gH [[t0 h5],[]]) λh5=>gb aU () [[f0 h5],[(2,oq (cD h3 rfl h2))]] h3))))
def B8(N:Nat)(v1:Int64):aqR Int:=
 bif (decide (v1.toInt<0))then
  some (IntKind.u64.wrap (0-(IntKind.u64.wrap v1.toInt)))
 else
  some (IntKind.u64.wrap v1.toInt)
theorem R1{N v1}:KO 153 [(bC v1)] (λr=> .d (.v (.int .u64 r))) (B8 N v1):=
 fw Tryz.func153 (gA [[],[]] (bQ λJ=>gR [[f0 J],[]]))
def GC(N:Nat)(v4:j7)(v7:Int)(v5:Int)(v8:Int)(v6:Int)(v10:Int):aqR (Int×Int×Int):=
 some ((IntKind.u64.wrap (v4.od+(IntKind.u64.wrap (v7+v10)))),(IntKind.u64.wrap ((IntKind.u64.wrap (v4.lD+v5))+v8)),(IntKind.u64.wrap (v4.kR+v6)))
def yl(N:Nat)(v4:j7)(v5:Int)(v8:Int)(v7:Int)(v6:Int)(v9:Int):aqR (Int×Int×Int):=
 bif (decide ((IntKind.u64.wrap ((IntKind.u64.wrap (v4.lD+v5))+v8))<(IntKind.u64.wrap (v4.lD+v5))))then
  GC N v4 v7 v5 v8 v6 (IntKind.u64.wrap (v9+(1:Int)))
 else
  GC N v4 v7 v5 v8 v6 v9
def wB(N:Nat)(v4:j7)(v5:Int)(v7:Int)(v6:Int)(v8:Int):aqR (Int×Int×Int):=
 bif (decide ((IntKind.u64.wrap (v4.lD+v5))<v5))then
  yl N v4 v5 v8 v7 v6 (1:Int)
 else
  yl N v4 v5 v8 v7 v6 (0:Int)
def tg(N:Nat)(v4:j7)(v5:Int)(v6:Int)(v7:Int):aqR (Int×Int×Int):=
 bif (decide ((IntKind.u64.wrap (v4.kR+v6))<v6))then
  wB N v4 v5 v7 v6 (1:Int)
 else
  wB N v4 v5 v7 v6 (0:Int)
def Cq(N:Nat)(v1:Int)(v2:Int)(v3:Bool)(v4:j7):aqR (Int×Int×Int):=
 bif v3 then
  bif ((IntKind.u64.wrap ((IntKind.u64.wrap ((BitVec.ofInt (IntKind.bits .u64) (IntKind.max .u64)^^^BitVec.ofInt (IntKind.bits .u64) v2).toNat:Int))+(1:Int)))==0)then
   bif ((IntKind.u64.wrap ((IntKind.u64.wrap ((BitVec.ofInt (IntKind.bits .u64) (IntKind.max .u64)^^^BitVec.ofInt (IntKind.bits .u64) v1).toNat:Int))+(1:Int)))==0)then
    tg N v4 (IntKind.u64.wrap ((IntKind.u64.wrap ((BitVec.ofInt (IntKind.bits .u64) (IntKind.max .u64)^^^BitVec.ofInt (IntKind.bits .u64) v1).toNat:Int))+(1:Int))) (IntKind.u64.wrap ((IntKind.u64.wrap ((BitVec.ofInt (IntKind.bits .u64) (IntKind.max .u64)^^^BitVec.ofInt (IntKind.bits .u64) v2).toNat:Int))+(1:Int))) (IntKind.u64.wrap ((IntKind.u64.wrap ((BitVec.ofInt (IntKind.bits .u64) (IntKind.max .u64)^^^BitVec.ofInt (IntKind.bits .u64) (0:Int)).toNat:Int))+(1:Int)))
   else
    tg N v4 (IntKind.u64.wrap ((IntKind.u64.wrap ((BitVec.ofInt (IntKind.bits .u64) (IntKind.max .u64)^^^BitVec.ofInt (IntKind.bits .u64) v1).toNat:Int))+(1:Int))) (IntKind.u64.wrap ((IntKind.u64.wrap ((BitVec.ofInt (IntKind.bits .u64) (IntKind.max .u64)^^^BitVec.ofInt (IntKind.bits .u64) v2).toNat:Int))+(1:Int))) (IntKind.u64.wrap ((BitVec.ofInt (IntKind.bits .u64) (IntKind.max .u64)^^^BitVec.ofInt (IntKind.bits .u64) (0:Int)).toNat:Int))
  else
   tg N v4 (IntKind.u64.wrap ((BitVec.ofInt (IntKind.bits .u64) (IntKind.max .u64)^^^BitVec.ofInt (IntKind.bits .u64) v1).toNat:Int)) (IntKind.u64.wrap ((IntKind.u64.wrap ((BitVec.ofInt (IntKind.bits .u64) (IntKind.max .u64)^^^BitVec.ofInt (IntKind.bits .u64) v2).toNat:Int))+(1:Int))) (IntKind.u64.wrap ((BitVec.ofInt (IntKind.bits .u64) (IntKind.max .u64)^^^BitVec.ofInt (IntKind.bits .u64) (0:Int)).toNat:Int))
 else
  tg N v4 v1 v2 (0:Int)
def Uu(v4:j7)(v6:Int)(l:aqP aq):aqP aq:= .cells [(.d (.v (.int .u64 v4.od))),(.d (.v (.int .u64 v4.lD))),(.d (.v (.int .u64 (IntKind.u64.wrap (v4.kR+v6)))))]::l
theorem UN{N v1 v2 v3 v4 r}(U:Cq N v1 v2 v3 v4=some r):KH 152 [(.ptr 0 0),(.d (.v (.int .u64 v1))),(.d (.v (.int .u64 v2))),(aK v3)] ([.cells (CY v4).cells]) (.bj []) ([.cells [(.d (.v (.int .u64 r.1))),(.d (.v (.int .u64 r.2.1))),(.d (.v (.int .u64 r.2.2)))]]):=by
 rw[Cq]at U;refine FG 1 Tryz.func152 ?_;refine L5 bA 1 [[],[]] [0,1,2,8] 1 (λ((v5,v6,v7):Int×Int×Int)=>⟨76,[(0,(.ptr 0 0)),(1,(.d (.v (.int .u64 v5)))),(2,(.d (.v (.int .u64 v6)))),(8,(.d (.v (.int .u64 v7))))],[.cells (CY v4).cells]⟩) (λ((v5,v6,v7):Int×Int×Int)=>tg N v4 v5 v6 v7=some r) ?_ ?_
 ·intro f1 aU;apply bc U<;>intro h4 U
  ·refine gw bA [[(0,bT h4)],[],[],[]] ?_;apply bc U<;>intro h5 U
   ·refine gw bA [[(0,bT h5)],[],[]] ?_;apply bc U<;>intro h6 U
    ·exact lJ bA aU ((IntKind.u64.wrap ((IntKind.u64.wrap ((BitVec.ofInt (IntKind.bits .u64) (IntKind.max .u64)^^^BitVec.ofInt (IntKind.bits .u64) v1).toNat:Int))+(1:Int))),(IntKind.u64.wrap ((IntKind.u64.wrap ((BitVec.ofInt (IntKind.bits .u64) (IntKind.max .u64)^^^BitVec.ofInt (IntKind.bits .u64) v2).toNat:Int))+(1:Int))),(IntKind.u64.wrap ((IntKind.u64.wrap ((BitVec.ofInt (IntKind.bits .u64) (IntKind.max .u64)^^^BitVec.ofInt (IntKind.bits .u64) (0:Int)).toNat:Int))+(1:Int)))) [[(0,bT h6)],[]] U
    exact lJ bA aU ((IntKind.u64.wrap ((IntKind.u64.wrap ((BitVec.ofInt (IntKind.bits .u64) (IntKind.max .u64)^^^BitVec.ofInt (IntKind.bits .u64) v1).toNat:Int))+(1:Int))),(IntKind.u64.wrap ((IntKind.u64.wrap ((BitVec.ofInt (IntKind.bits .u64) (IntKind.max .u64)^^^BitVec.ofInt (IntKind.bits .u64) v2).toNat:Int))+(1:Int))),(IntKind.u64.wrap ((BitVec.ofInt (IntKind.bits .u64) (IntKind.max .u64)^^^BitVec.ofInt (IntKind.bits .u64) (0:Int)).toNat:Int))) [[(0,bF h6)]] U
   exact lJ bA aU ((IntKind.u64.wrap ((BitVec.ofInt (IntKind.bits .u64) (IntKind.max .u64)^^^BitVec.ofInt (IntKind.bits .u64) v1).toNat:Int)),(IntKind.u64.wrap ((IntKind.u64.wrap ((BitVec.ofInt (IntKind.bits .u64) (IntKind.max .u64)^^^BitVec.ofInt (IntKind.bits .u64) v2).toNat:Int))+(1:Int))),(IntKind.u64.wrap ((BitVec.ofInt (IntKind.bits .u64) (IntKind.max .u64)^^^BitVec.ofInt (IntKind.bits .u64) (0:Int)).toNat:Int))) [[(0,bF h5)]] U
  exact lJ bA aU (v1,v2,(0:Int)) [[(0,bF h4)]] U
 rintro⟨v5,v6,v7⟩ U
 try dsimp only at U
 rw[tg]at U;refine G6 bA r 2 [[],[],[]] [0,1,8,9] 1 (λ(v8:Int)=>⟨76,[(0,(.ptr 0 0)),(1,(.d (.v (.int .u64 v5)))),(8,(.d (.v (.int .u64 v7)))),(9,(.d (.v (.int .u64 v8))))],(Uu v4 v6 [])⟩) (wB N v4 v5 v7 v6) ?_ ?_
 ·intro f2 fi;apply bc U<;>intro h3 U
  ·exact lJ bA fi (1:Int) [[(0,bT h3)],[]] U
  exact lJ bA fi (0:Int) [[(0,bF h3)]] U
 intro v8 U;rw[wB]at U;refine G6 bA r 3 [[],[],[]] [0,8,9,10,11] 1 (λ(v9:Int)=>⟨76,[(0,(.ptr 0 0)),(8,(.d (.v (.int .u64 v7)))),(9,(.d (.v (.int .u64 v8)))),(10,(.d (.v (.int .u64 (IntKind.u64.wrap (v4.lD+v5)))))),(11,(.d (.v (.int .u64 v9))))],(Uu v4 v6 [])⟩) (yl N v4 v5 v8 v7 v6) ?_ ?_
 ·intro f3 lB;apply bc U<;>intro h2 U
  ·exact lJ bA lB (1:Int) [[(0,bT h2)],[]] U
  exact lJ bA lB (0:Int) [[(0,bF h2)]] U
 intro v9 U;rw[yl]at U;refine G6 bA r 4 [[],[]] [0,8,11] 1 (λ(v10:Int)=>⟨76,[(0,(.ptr 0 0)),(8,(.d (.v (.int .u64 v7)))),(11,(.d (.v (.int .u64 v10))))],[.cells [(.d (.v (.int .u64 v4.od))),(.d (.v (.int .u64 (IntKind.u64.wrap ((IntKind.u64.wrap (v4.lD+v5))+v8))))),(.d (.v (.int .u64 (IntKind.u64.wrap (v4.kR+v6)))))]]⟩) (GC N v4 v7 v5 v8 v6) ?_ ?_
 ·intro f4 ng;apply bc U<;>intro J U
  ·exact lJ bA ng (IntKind.u64.wrap (v9+(1:Int))) [[(0,bT J)],[]] U
  exact lJ bA ng v9 [[(0,bF J)]] U
 intro v10 U;rw[GC]at U;cases U;exact nc bA [[]]
def R3(N:Nat)(v1:aJ)(v2:dC):aqR Bool:=
 some (bL v1.au==bL v2.au)
theorem afi{N v1 v2}:KP 154 [(HM v1),(.ptr 0 0)] [.cells (sU v2).cells] aK (λ_=>[.cells (sU v2).cells]) (R3 N v1 v2):=
 fh 1 Tryz.func154 (gH [[],[]])
def zH(N:Nat)(v2:dC):aqP aJ->Nat->aqR Int
 |[],_=>
  some (-1:Int)
 |v5::v6,v3=>
  (R3 N v5 v2).bind λv7=>
  bif v7 then
   some (v3:Int)
  else
   (zH N v2 v6 (v3+1))
def QI(N:Nat)(v1:aqP aJ)(v2:dC):aqR Int:=
 zH N v2 v1 0
theorem aod{N v1 v2}:KP 93 [(.d (.sl (aW v1))),(.fn 154 [(.ptr 0 0)])] [.cells (sU v2).cells] ar (λ_=>[.cells (sU v2).cells]) (QI N v1 v2):=
 fh 1 Tryz.func93 (gA [[],[(4,oL v1 qE)]] (gT yY 0 v1 λh2=>fu 1 [] [0,1,7,8] 1 (λv3=>⟨19,[(0,(.d (.sl (aW v1)))),(1,(.fn 154 [(.ptr 0 0)])),(7,(ar (v1.length:Int))),(8,(ar (v3:Int)))],[.cells (sU v2).cells]⟩) (λv3 h3 f1=>gH [[],[f0 (cu h3)],[]]) (λv3 v5 v6 h3 f1 aU=>aB λv7 h4=>gA [[],[t0 (cv h3)],[],[(10,oE (rl (bI h3))),(16,oQ [(HM v5),(.ptr 0 0)] [.cells (sU v2).cells] [0] (afi _ h4))]] (aC (λh5=>gH [[t0 h5],[]]) λh5=>gb aU () [[f0 h5],[(2,oq (cD h3 rfl h2))]] h3))))
def Ih(N:Nat)(v1:Int)(v2:Int):aqR (Int×Int):=
 some ((IntKind.u64.wrap ((IntKind.u64.wrap ((IntKind.u64.wrap (((v1).fdiv (2^(min ((32:Int)).toNat (IntKind.bits .u64))))*((v2).fdiv (2^(min ((32:Int)).toNat (IntKind.bits .u64))))))+(((IntKind.u64.wrap ((IntKind.u64.wrap (((v1).fdiv (2^(min ((32:Int)).toNat (IntKind.bits .u64))))*(IntKind.u64.wrap ((BitVec.ofInt (IntKind.bits .u64) v2&&&BitVec.ofInt (IntKind.bits .u64) (4294967295:Int)).toNat:Int))))+(((IntKind.u64.wrap ((IntKind.u64.wrap ((BitVec.ofInt (IntKind.bits .u64) v1&&&BitVec.ofInt (IntKind.bits .u64) (4294967295:Int)).toNat:Int))*(IntKind.u64.wrap ((BitVec.ofInt (IntKind.bits .u64) v2&&&BitVec.ofInt (IntKind.bits .u64) (4294967295:Int)).toNat:Int))))).fdiv (2^(min ((32:Int)).toNat (IntKind.bits .u64))))))).fdiv (2^(min ((32:Int)).toNat (IntKind.bits .u64))))))+(((IntKind.u64.wrap ((IntKind.u64.wrap ((IntKind.u64.wrap ((BitVec.ofInt (IntKind.bits .u64) v1&&&BitVec.ofInt (IntKind.bits .u64) (4294967295:Int)).toNat:Int))*((v2).fdiv (2^(min ((32:Int)).toNat (IntKind.bits .u64))))))+(IntKind.u64.wrap ((BitVec.ofInt (IntKind.bits .u64) (IntKind.u64.wrap ((IntKind.u64.wrap (((v1).fdiv (2^(min ((32:Int)).toNat (IntKind.bits .u64))))*(IntKind.u64.wrap ((BitVec.ofInt (IntKind.bits .u64) v2&&&BitVec.ofInt (IntKind.bits .u64) (4294967295:Int)).toNat:Int))))+(((IntKind.u64.wrap ((IntKind.u64.wrap ((BitVec.ofInt (IntKind.bits .u64) v1&&&BitVec.ofInt (IntKind.bits .u64) (4294967295:Int)).toNat:Int))*(IntKind.u64.wrap ((BitVec.ofInt (IntKind.bits .u64) v2&&&BitVec.ofInt (IntKind.bits .u64) (4294967295:Int)).toNat:Int))))).fdiv (2^(min ((32:Int)).toNat (IntKind.bits .u64))))))&&&BitVec.ofInt (IntKind.bits .u64) (4294967295:Int)).toNat:Int))))).fdiv (2^(min ((32:Int)).toNat (IntKind.bits .u64)))))),(IntKind.u64.wrap (v1*v2)))
theorem aij{N v1 v2}:KO 155 [(.d (.v (.int .u64 v1))),(.d (.v (.int .u64 v2)))] (λr=> .bj [(.d (.v (.int .u64 r.1))),(.d (.v (.int .u64 r.2)))]) (Ih N v1 v2):=
 fw Tryz.func155 (gR [[],[],[(4,⟨_,_, .nn (b:=32) (by decide)⟩),(19,⟨_,_, .nn (b:=32) (by decide)⟩)],[(10,⟨_,_, .nn (b:=32) (by decide)⟩)],[(4,⟨_,_, .nn (b:=32) (by decide)⟩),(10,⟨_,_, .nn (b:=32) (by decide)⟩),(19,⟨_,_, .nn (b:=32) (by decide)⟩),(28,⟨_,_, .nn (b:=32) (by decide)⟩)]])
def My(N:Nat)(v1:j7):aqR (Int64×Bool):=
 Option.bind (bif (v1.lD==(IntKind.u64.wrap (Int64.ofInt (((Int64.ofInt v1.kR).toInt).fdiv (2^(min ((63:Int)).toNat (IntKind.bits .i64))))).toInt))then some (v1.od==(IntKind.u64.wrap (Int64.ofInt (((Int64.ofInt v1.kR).toInt).fdiv (2^(min ((63:Int)).toNat (IntKind.bits .i64))))).toInt))else some false) λv2=>
 some ((Int64.ofInt v1.kR),v2)
theorem apg{N v1}:KP 156 [(.ptr 0 0)] [.cells (CY v1).cells] (λr=> .bj [(bC r.1),(aK r.2)]) (λ_=>[.cells (CY v1).cells]) (My N v1):=
 fh 1 Tryz.func156 (gA [[],[(14,⟨_,_, .eq (kA v1.kR)⟩)],[(4,⟨_,_, .nn (b:=63) (by decide)⟩),(5,⟨_,_, .eq (ac7 (Int64.ofInt v1.kR) (min ((63:Int)).toNat (IntKind.bits .i64)))⟩)]] (gG (λv2=>[(2,(bC (Int64.ofInt v1.kR))),(3,(aK v2))]) (λ_=>[.cells (CY v1).cells]) (aC (λJ=>gE [(7,bT J)] []) λJ=>gE [(7,bF J)] []) λv2=>gH []))
def CO(N:Nat)(v2:aqP aJ):aqP dC->Nat->Int->Int->Int->aqR (Int64×Int)
 |[],_,v10,v11,v12=>
  Option.bind (My N (⟨v10,v11,v12⟩:j7)) λaL=>
  bif aL.2 then
   some (aL.1,(0:Int))
  else
   some ((0:Int64),(3:Int))
 |v8::v9,v6,v10,v11,v12=>
  (QI N v2 v8).bind λaQ=>
  bif (decide (aQ<0))then
   some ((0:Int64),(9:Int))
  else
   bif (decide ((0:Int)<=aQ))then
   Option.bind (v2[(aQ).toNat]?) λbu=>
   (B8 N v8.dU).bind λbG=>
   (B8 N bu.dt).bind λcw=>
   (Ih N bG cw).bind λbY=>
   Option.bind (Cq N bY.1 bY.2 (!((decide (v8.dU.toInt<0))==(decide (bu.dt.toInt<0)))) (⟨v10,v11,v12⟩:j7)) λcm=>
   (λcl fx wN=>CO N v2 v9 (v6+1) cl fx wN) cm.1 cm.2.1 cm.2.2
   else none
def vY(N:Nat)(v1:bz)(v2:aqP aJ):aqR (Int64×Int):=
 (zB N v1).bind λv3=>
 bif (v3 !=0)then
  some ((0:Int64),(1:Int))
 else
  (B8 N v1.xK).bind λv4=>
  Option.bind (Cq N (0:Int) v4 (decide (v1.xK.toInt<0)) adm) λv5=>
  CO N v2 v1.xL 0 v5.1 v5.2.1 v5.2.2
def HC(v1:bz)(v10:Int)(v11:Int)(v12:Int)(l:aqP aq):aqP aq:= .cells (dV v1).cells:: .cells [(.d (.v (.int .u64 v10))),(.d (.v (.int .u64 v11))),(.d (.v (.int .u64 v12)))]::l
theorem EI{N v1 v2}:KO 99 [(dV v1),(.d (.sl (aW v2)))] (λr=> .bj [(bC r.1),(ar r.2)]) (vY N v1 v2):=
 fw Tryz.func99 (aB λv3 J=>gA [[],[(4,cK Ik J)]] (jq λ_=>aB λv4 h3=>aB λv5 h4=>li (λ_=>(Ba bA [(7,cK R1 h3),(19,oR [(.ptr 1 0),(.d (.v (.int .u64 (0:Int)))),(.d (.v (.int .u64 v4))),(aK (decide (v1.xK.toInt<0)))] [.cells (dV v1).cells, .cells [(.d (.v (.int .u64 (0:Int)))),(.d (.v (.int .u64 (0:Int)))),(.d (.v (.int .u64 (0:Int))))]] [1] (UN h4))] [] [.cells (dV v1).cells, .cells [(.d (.v (.int .u64 v5.1))),(.d (.v (.int .u64 v5.2.1))),(.d (.v (.int .u64 v5.2.2)))]] ·)) (gA [[(7,oL v1.xL lV)]] (gT CN 26 v1.xL λh6=>gl3 1 [] [1,6,26,27,28] 2 (λv6(v10:Int)(v11:Int)(v12:Int)=>⟨68,[(1,(.d (.sl (aW v2)))),(6,(.ptr 1 0)),(26,(.d (.sl (gN v1.xL)))),(27,(ar (v1.xL.length:Int))),(28,(ar (v6:Int)))],(HC v1 v10 v11 v12 [])⟩) (λv6 v10 v11 v12 h7 f1=>aB λaL h8=>gA [[],[f0 (cu h7)],[(1,oQ [(.ptr 1 0)] (HC v1 v10 v11 v12 []) [1] (apg _ h8))],[]] (qR λh9=>gR [[t0 (dZ h9)],[]])) (λv6 v8 v9 v10 v11 v12 h7 f1 aU=>aB λaQ bE=>gA [[],[t0 (cv h7)],[(1,oE (ta (bI h7)))],[(7,oQ [(.d (.sl (aW v2))),(.fn 154 [(.ptr 2 0)])] (HC v1 v10 v11 v12 [.cells (sU v8).cells]) [2] (aod _ bE))],[]] (bQ λbD=>dN λcN=>aB λbu bw=>aB λbG cS=>aB λcw cH=>aB λbY cM=>aB λcm eH=>gb aU (cm.1,cm.2.1,cm.2.2) [[f0 bD],[(7,⟨_,_, .el (xs:=aW v2) (i:=aQ) (of_decide_eq_true cN) (rl bw)⟩)],[(7,cK R1 cS),(13,cK R1 cH),(16,cK aij cM)],[(25,oR [(.ptr 1 0),(.d (.v (.int .u64 bY.1))),(.d (.v (.int .u64 bY.2))),(aK (!((decide (v8.dU.toInt<0))==(decide (bu.dt.toInt<0)))))] (HC v1 v10 v11 v12 [.cells (sU v8).cells]) [1] (UN eH))],[(2,oq (cD h7 rfl h6))]] h7))))))
def M8(N:Nat)(v1:gC)(v2:aqP aJ):aqR (Bool×Int):=
 (vY N v1.bo v2).bind λv3=>
 bif (v3.2 !=0)then
  some (false,v3.2)
 else
  Option.bind (bif (v3.1.toInt==0)then some true else(bif (decide (v3.1.toInt>0))then some (!v1.G8)else some false)) λv4=>
  some (v4,(0:Int))
theorem am9{N v1 v2}:KO 95 [(xS v1),(.d (.sl (aW v2)))] (λr=> .bj [(aK r.1),(ar r.2)]) (M8 N v1 v2):=
 fw Tryz.func95 (aB λv3 J=>gA [[],[(10,cK EI J)],[]] (bQ λh2=>gA [[f0 h2]] (gG (λv4=>[(4,(aK v4)),(5,(ar (0:Int)))]) (λ_=>[.cells (xS v1).cells]) (aC (λh3=>gE [(2,bT h3),(5,uN)] []) λh3=>dE (2,bF h3) (aC (λh4=>gE [(5,bT h4)] [(28,bT h4)]) λh4=>gE [(5,bF h4)] [(28,bF h4)])) λv4=>gR [])))
def LV(N:Nat)(v2:aqP aJ):aqP gC->Nat->aqR Int
 |[],_=>
  some (0:Int)
 |v9::v10,v7=>
  (M8 N v9 v2).bind λv11=>
  bif (v11.2 !=0)then
   some v11.2
  else
   bif v11.1 then
    (LV N v2 v10 (v7+1))
   else
    some (16:Int)
def LF(N:Nat)(v2:aqP aJ)(v1:aV):aqP aqQ->Nat->aqR Int
 |[],_=>
  LV N v2 v1.dM 0
 |v5::v6,v3=>
  (Nz N v2 v5).bind λv12=>
  Option.bind (bif (decide (v12<0))then some true else bif (decide ((0:Int)<=v12))then
  Option.bind (v2[(v12).toNat]?) λaL=>
  (bif (decide (aL.dt.toInt<1))then some true else some (decide (aL.dt.toInt>4096)))
  else none) λaQ=>
  bif aQ then
   some (15:Int)
  else
   (LF N v2 v1 v6 (v3+1))
def Mo(N:Nat)(v1:aV)(v2:aqP aJ):aqR Int:=
 bif ((v2.length:Int) !=(v1.bm.length:Int))then
  some (15:Int)
 else
  LF N v2 v1 v1.bm 0
theorem ag3{N v1 v2}:KO 54 [(dW v1),(.d (.sl (aW v2)))] ar (Mo N v1 v2):=
 fw Tryz.func54 (gA [[],[(4,oL v2 qE),(13,oL v1.bm jT)]] (bQ λJ=>gA [[f0 J],[(7,oL v1.bm jT)]] (gT tc 19 v1.bm λh3=>fu 1 [] [1,2,19,20,21] 1 (λv3=>⟨66,[(1,(.d (.sl (aW v2)))),(2,(.ptr 0 0)),(19,(.d (.sl (ep v1.bm)))),(20,(ar (v1.bm.length:Int))),(21,(ar (v3:Int)))],[.cells (dW v1).cells]⟩) (λv3 h4 f1=>gA [[],[f0 (cu h4)],[(7,oL v1.dM wP)]] (gT Og 48 v1.dM λh6=>fu 2 [] [1,48,49,50] 1 (λv7=>⟨66,[(1,(.d (.sl (aW v2)))),(48,(.d (.sl (nr v1.dM)))),(49,(ar (v1.dM.length:Int))),(50,(ar (v7:Int)))],[.cells (dW v1).cells]⟩) (λv7 h7 f2=>gR [[],[f0 (cu h7)],[]]) (λv7 v9 v10 h7 f2 fi=>aB λv11 h8=>gA [[],[t0 (cv h7)],[(1,oE (RJ (bI h7)))],[(7,cK am9 h8)],[]] (jq λ_=>k8 λbE=>gb fi () [[f0 (dq bE)],[(2,oq (cD h7 rfl h6))]] h7)))) (λv3 v5 v6 h4 f1 aU=>aB λv12 bD=>gA [[],[t0 (cv h4)],[(1,oE (n8 (bI h4)))],[(7,oQ [(.d (.sl (aW v2))),(.fn 94 [(.ptr 1 0)])] [.cells (dW v1).cells, .cells [(di v5)]] [1] (ahj _ bD))]] (gG (λaQ=>[(45,(aK aQ))]) (λ_=>[.cells (dW v1).cells, .cells [(di v5)]]) (aC (λbw=>gE [(2,bT bw),(10,bT rfl)] []) λbw=>dN λcS=>aB λaL cN=>dE (2,bF bw) (dQ (16,⟨_,_, .el (xs:=aW v2) (i:=v12) (of_decide_eq_true cS) (rl cN)⟩) (aC (λcH=>gE [(10,bT cH)] []) λcH=>gE [(10,bF cH)] [(40,⟨_,_, .el (xs:=aW v2) (i:=v12) (of_decide_eq_true cS) (rl cN)⟩)]))) λaQ=>bQ λeH=>gb aU () [[f0 eH],[(2,oq (cD h4 rfl h3))]] h4)))))
def BB(N:Nat)(v1:aV)(v2:aqP aJ):aqR Int:=
 (Jt N v1).bind λv3=>
 bif (v3.2 !=0)then
  some v3.2
 else
  (Mo N v1 v2).bind λv4=>
  some v4
theorem WU{N v1 v2}:KO 30 [(dW v1),(.d (.sl (aW v2)))] ar (BB N v1 v2):=
 fw Tryz.func30 (aB λv3 J=>gA [[],[(4,cK g_program_Validate_ok J)],[]] (bQ λh2=>aB λv4 h3=>gR [[f0 h2],[(7,cK ag3 h3)]]))
def HV(N:Nat)(v2:aqP aJ):aqP bz->Nat->(aqP Int)->aqR ((aqP Int)×Int)
 |[],_,v7=>
  some (v7,(0:Int))
 |v5::v6,v3,v7=>
  (vY N v5 v2).bind λv8=>
  bif (v8.2 !=0)then
   some ([],v8.2)
  else
   Option.bind (bif (decide (v8.1.toInt<1))then some true else some (decide (v8.1.toInt>4096))) λv9=>
   bif v9 then
    some ([],(15:Int))
   else
    bif (Nat.ble ((v7.length+1)*8) 140737488355328)then
    (λcl=>HV N v2 v6 (v3+1) cl) (v7++[v8.1.toInt])
    else none
def FF(N:Nat)(v1:aqP bz)(v2:aqP aJ):aqR ((aqP Int)×Int):=
 HV N v2 v1 0 []
theorem Vf{N v1 v2}:KO 56 [(.d (.sl (gj v1))),(.d (.sl (aW v2)))] (λr=> .bj [(.d (.sl (bn r.1))),(ar r.2)]) (FF N v1 v2):=
 fw Tryz.func56 (gA [[],[],[(4,oL v1 jz)]] (li (λ_=>(vH 6 3 1 [] (.inr (by kernel_rfl)) ·)) (gT sT 0 v1 λh2=>gU 1 [] [1,6,11,12,13] 1 (λv3(v7:aqP Int)=>⟨38,[(1,(.d (.sl (aW v2)))),(6,(.own 0 (bn v7))),(11,(.d (.sl (gj v1)))),(12,(ar (v1.length:Int))),(13,(ar (v3:Int)))],[.front 3 1 v7.length]⟩) (λv3 v7 h3 f1=>gR [[],[f0 (cu h3)],[]]) (λv3 v5 v6 v7 h3 f1 aU=>aB λv8 h4=>gA [[],[t0 (cv h3)],[(1,oE (vN (bI h3)))],[(7,cK EI h4)],[]] (bQ λh5=>gA [[f0 h5]] (gG (λv9=>[(31,(aK v9))]) (λ_=>[.front 3 1 v7.length, .cells (dV v5).cells]) (aC (λh6=>gE [(2,bT h6)] []) λh6=>gE [(2,bF h6)] []) λv9=>bQ λh8=>dN λh9=>gb aU (v7++[v8.1.toInt]) [[f0 h8],[(10,oA l8 v7 ([v8.1.toInt]) h9)],[(2,oq (cD h3 rfl h2))]] h3))))))
def Eo(N:Nat)(v2:Int):aqP Int->Nat->Int->aqR Int
 |[],_,v7=>
  some v7
 |v5::v6,v3,v7=>
  bif (decide ((aO (v7*v5))>v2))then
   some (aO (v2+(1:Int)))
  else
   (λcl=>Eo N v2 v6 (v3+1) cl) (aO (v7*v5))
def Oa(N:Nat)(v1:aqP Int)(v2:Int):aqR Int:=
 Eo N v2 v1 0 (1:Int)
theorem aoV{N v1 v2}:KO 57 [(.d (.sl (bn v1))),(ar v2)] ar (Oa N v1 v2):=
 fw Tryz.func57 (gA [[],[],[(4,oL v1 fy)]] (gT l8 0 v1 λh2=>gU 1 [] [1,5,8,9,10] 0 (λv3(v7:Int)=>⟨24,[(1,(ar v2)),(5,(ar v7)),(8,(.d (.sl (bn v1)))),(9,(ar (v1.length:Int))),(10,(ar (v3:Int)))],[]⟩) (λv3 v7 h3 f1=>gR [[],[f0 (cu h3)],[]]) (λv3 v5 v6 v7 h3 f1 aU=>gA [[],[t0 (cv h3)],[(1,oE (iK (bI h3)))],[],[]] (bQ λh4=>gb aU (aO (v7*v5)) [[f0 h4],[(2,oq (cD h3 rfl h2))]] h3))))
def wq(N:Nat)(v1:aV)(v2:aqP aJ)(v3:aqQ):aqR ((aqP Int)×aF×Int):=
 (D5 N v1 v3).bind λv4=>
 bif v4.2.2 then
  (FF N v4.2.1 v2).bind λv5=>
  bif (v5.2 !=0)then
   some ([],v4.1,v5.2)
  else
   Option.bind (Oa N v5.1 (4096:Int)) λv6=>
   bif (decide (v6>4096))then
    some ([],v4.1,(15:Int))
   else
    some (v5.1,v4.1,(0:Int))
 else
  some ([],v4.1,(9:Int))
theorem Il{N v1 v2 v3}:KO 31 [(dW v1),(.d (.sl (aW v2))),(di v3)] (λr=> .bj [(.d (.sl (bn r.1))),(cq r.2.1),(ar r.2.2)]) (wq N v1 v2 v3):=
 fw Tryz.func31 (aB λv4 J=>gA [[],[(7,cK Q8 J)],[]] (k8 λh2=>aB λv5 h3=>gA [[f0 (dq h2)],[(7,cK Vf h3)],[]] (bQ λh4=>aB λv6 h5=>gA [[f0 h4],[(4,cK aoV h5)]] (bQ λh6=>gR [[f0 h6],[]]))))
def Pn(N:Nat)(v1:aI)(v2:aqQ):aqR Bool:=
 some (bL v1.au==bL v2)
theorem aha{N v1 v2}:KP 46 [(acZ v1),(.ptr 0 0)] [.cells [(di v2)]] aK (λ_=>[.cells [(di v2)]]) (Pn N v1 v2):=
 fh 1 Tryz.func46 (gH [[],[]])
def BS(N:Nat)(v2:aqQ):aqP aI->Nat->aqR Int
 |[],_=>
  some (-1:Int)
 |v5::v6,v3=>
  (Pn N v5 v2).bind λv7=>
  bif v7 then
   some (v3:Int)
  else
   (BS N v2 v6 (v3+1))
def Od(N:Nat)(v1:aqP aI)(v2:aqQ):aqR Int:=
 BS N v2 v1 0
theorem alk{N v1 v2}:KP 45 [(.d (.sl (aZ v1))),(.fn 46 [(.ptr 0 0)])] [.cells [(di v2)]] ar (λ_=>[.cells [(di v2)]]) (Od N v1 v2):=
 fh 1 Tryz.func45 (gA [[],[(4,oL v1 kg)]] (gT qZ 0 v1 λh2=>fu 1 [] [0,1,7,8] 1 (λv3=>⟨19,[(0,(.d (.sl (aZ v1)))),(1,(.fn 46 [(.ptr 0 0)])),(7,(ar (v1.length:Int))),(8,(ar (v3:Int)))],[.cells [(di v2)]]⟩) (λv3 h3 f1=>gH [[],[f0 (cu h3)],[]]) (λv3 v5 v6 h3 f1 aU=>aB λv7 h4=>gA [[],[t0 (cv h3)],[],[(10,oE (jJ (bI h3))),(16,oQ [(acZ v5),(.ptr 0 0)] [.cells [(di v2)]] [0] (aha _ h4))]] (aC (λh5=>gH [[t0 h5],[]]) λh5=>gb aU () [[f0 h5],[(2,oq (cD h3 rfl h2))]] h3))))
def vz(N:Nat)(v1:aqP aI)(v2:aqQ):aqR (aT×Bool):=
 (Od N v1 v2).bind λv3=>
 bif (decide (v3<0))then
  some (lk,false)
 else
  bif (decide ((0:Int)<=v3))then
  Option.bind (v1[(v3).toNat]?) λv4=>
  some (v4.cB,true)
  else none
theorem Ku{N v1 v2}:KO 27 [(.d (.sl (aZ v1))),(di v2)] (λr=> .bj [(gZ r.1),(aK r.2)]) (vz N v1 v2):=
 fw Tryz.func27 (aB λv3 J=>gA [[],[(7,oQ [(.d (.sl (aZ v1))),(.fn 46 [(.ptr 0 0)])] [.cells [(di v2)], .cells NX] [0] (alk _ J))],[]] (bQ λh2=>dN λh4=>aB λv4 h3=>gR [[f0 h2],[(7,⟨_,_, .el (xs:=aZ v1) (i:=v3) (of_decide_eq_true h4) (jJ h3)⟩)]]))
def vo(N:Nat):aqP Int->Nat->Int->aqR Int
 |[],_,_=>
  some (0:Int)
 |v8::v9,v6,v10=>
  bif (v10 !=0)then
  bif (decide (v8>(IntKind.i64.wrap (((4096:Int)).tdiv v10))))then
   some (2:Int)
  else
   (λgW=>vo N v9 (v6+1) gW) (aO (v10*v8))
  else none
def xv(N:Nat)(v1:aqP Int):aqP Int->Nat->aqR Int
 |[],_=>
  vo N v1 0 (1:Int)
 |v4::v5,v2=>
  bif (decide (v4<1))then
   some (1:Int)
  else
   (xv N v1 v5 (v2+1))
def yL(N:Nat)(v1:aqP Int):aqR Int:=
 bif (decide ((v1.length:Int)>6))then
  some (2:Int)
 else
  xv N v1 v1 0
theorem ady{N v1}:KO 117 [(.d (.sl (bn v1)))] ar (yL N v1):=
 fw Tryz.func117 (gA [[],[(4,oL v1 fy)]] (bQ λJ=>gA [[f0 J],[(4,oL v1 fy)]] (gT l8 0 v1 λh3=>fu 1 [] [0,11,12,13] 0 (λv2=>⟨34,[(0,(.d (.sl (bn v1)))),(11,(.d (.sl (bn v1)))),(12,(ar (v1.length:Int))),(13,(ar (v2:Int)))],[]⟩) (λv2 h4 f1=>gA [[],[f0 (cu h4)],[],[(4,oL v1 fy)]] (gT l8 0 v1 λh6=>gU 2 [] [5,20,21,22] 0 (λv6(v10:Int)=>⟨34,[(5,(ar v10)),(20,(.d (.sl (bn v1)))),(21,(ar (v1.length:Int))),(22,(ar (v6:Int)))],[]⟩) (λv6 v10 h7 f2=>gR [[],[f0 (cu h7)],[]]) (λv6 v8 v9 v10 h7 f2 fi=>dN λh8=>gA [[],[t0 (cv h7)],[(1,oE (iK (bI h7)))],[(7,⟨_,_, .nz (b:=v10) (bne_iff_ne.1 h8)⟩)]] (bQ λh9=>gb fi (aO (v10*v8)) [[f0 h9],[],[(2,oq (cD h7 rfl h6))]] h7)))) (λv2 v4 v5 h4 f1 aU=>gA [[],[t0 (cv h4)],[(1,oE (iK (bI h4)))],[]] (bQ λbE=>gb aU () [[f0 bE],[(2,oq (cD h4 rfl h3))]] h4)))))
def zX(N:Nat):aqP Int->Nat->Int->aqR Int
 |[],_,v7=>
  some v7
 |v5::v6,v3,v7=>
  (λcl=>zX N v6 (v3+1) cl) (aO (v7*v5))
def Lq(N:Nat)(v1:aqP Int):aqR Int:=
 (yL N v1).bind λv2=>
 bif (v2 !=0)then
  some (0:Int)
 else
  zX N v1 0 (1:Int)
theorem ae5{N v1}:KO 118 [(.d (.sl (bn v1)))] ar (Lq N v1):=
 fw Tryz.func118 (aB λv2 J=>gA [[],[(4,cK ady J)]] (bQ λh2=>gA [[f0 h2],[],[(4,oL v1 fy)]] (gT l8 0 v1 λh4=>gU 1 [] [3,9,10,11] 0 (λv3(v7:Int)=>⟨20,[(3,(ar v7)),(9,(.d (.sl (bn v1)))),(10,(ar (v1.length:Int))),(11,(ar (v3:Int)))],[]⟩) (λv3 v7 h5 f1=>gR [[],[f0 (cu h5)],[]]) (λv3 v5 v6 v7 h5 f1 aU=>gb aU (aO (v7*v5)) [[],[t0 (cv h5)],[(1,oE (iK (bI h5)))],[],[(2,oq (cD h5 rfl h4))]] h5))))
def JH(N:Nat)(v1:aT):aqP aA->Nat->aqR Int
 |[],_=>
  some (0:Int)
 |v7::v8,v5=>
  (m7 N v1.ax v7).bind λv9=>
  bif v9 then
   (JH N v1 v8 (v5+1))
  else
   some (1:Int)
def Gd(N:Nat)(v1:aT):aqR Int:=
 (mC N v1.ax).bind λv2=>
 bif (v2 !=0)then
  some v2
 else
  (yL N v1.aS).bind λv3=>
  bif (v3 !=0)then
   some v3
  else
   (Lq N v1.aS).bind λv4=>
   bif ((v1.dn.length:Int) !=v4)then
    some (1:Int)
   else
    JH N v1 v1.dn 0
theorem XP{N v1}:KO 69 [(gZ v1)] ar (Gd N v1):=
 fw Tryz.func69 (aB λv2 J=>gA [[],[(7,cK ph J)],[]] (bQ λh2=>aB λv3 h3=>gA [[f0 h2],[(7,cK ady h3)],[]] (bQ λh4=>aB λv4 h5=>gA [[f0 h4],[(7,oL v1.dn kX),(16,cK ae5 h5)]] (bQ λh6=>gA [[f0 h6],[(7,oL v1.dn kX)]] (gT wj 27 v1.dn λh8=>fu 1 [] [1,27,28,29] 1 (λv5=>⟨39,[(1,(.ptr 0 0)),(27,(.d (.sl (dO v1.dn)))),(28,(ar (v1.dn.length:Int))),(29,(ar (v5:Int)))],[.cells (gZ v1).cells]⟩) (λv5 h9 f1=>gR [[],[f0 (cu h9)],[]]) (λv5 v7 v8 h9 f1 aU=>aB λv9 bE=>gA [[],[t0 (cv h9)],[(1,oE (qO (bI h9)))],[(10,cK vn bE)]] (k8 λbD=>gb aU () [[f0 (dq bD)],[(2,oq (cD h9 rfl h8))]] h9)))))))
def Mn(N:Nat)(v2:aqP Int):aqP Int->Nat->aqR Bool
 |[],_=>
  some true
 |v5::v6,v3=>
  Option.bind (v2[((v3:Int)).toNat]?) λv7=>
  bif (v5 !=v7)then
   some false
  else
   (Mn N v2 v6 (v3+1))
def Ll(N:Nat)(v1:aqP Int)(v2:aqP Int):aqR Bool:=
 bif ((v1.length:Int) !=(v2.length:Int))then
  some false
 else
  Mn N v2 v1 0
theorem aoy{N v1 v2}:KO 119 [(.d (.sl (bn v1))),(.d (.sl (bn v2)))] aK (Ll N v1 v2):=
 fw Tryz.func119 (gA [[],[(4,oL v1 fy),(10,oL v2 fy)]] (bQ λJ=>gA [[f0 J],[(4,oL v1 fy)]] (gT l8 0 v1 λh3=>fu 1 [] [0,1,12,13] 0 (λv3=>⟨26,[(0,(.d (.sl (bn v1)))),(1,(.d (.sl (bn v2)))),(12,(ar (v1.length:Int))),(13,(ar (v3:Int)))],[]⟩) (λv3 h4 f1=>gR [[],[f0 (cu h4)],[]]) (λv3 v5 v6 h4 f1 aU=>aB λv7 h5=>gA [[],[t0 (cv h4)],[],[(7,oE (iK (bI h4))),(19,oE (iK h5))]] (bQ λh7=>gb aU () [[f0 h7],[(2,oq (cD h4 rfl h3))]] h4)))))
def Gw(N:Nat)(v1:aqP aI)(v2:aqQ)(v3:aF)(v4:aqP Int):aqR Int:=
 (vz N v1 v2).bind λv5=>
 bif v5.2 then
  (Gd N v5.1).bind λv6=>
  bif (v6 !=0)then
   some (1:Int)
  else
   bif ((v5.1.ax.bg==v3.bg)&&((v5.1.ax.bN==v3.bN)&&((v5.1.ax.bM==v3.bM)&&((v5.1.ax.cn==v3.cn)&&((v5.1.ax.ck==v3.ck)&&true)))))then
    (Ll N v5.1.aS v4).bind λv7=>
    bif v7 then
     some (0:Int)
    else
     some (15:Int)
   else
    some (10:Int)
 else
  some (9:Int)
theorem adg{N v1 v2 v3 v4}:KO 70 [(.d (.sl (aZ v1))),(di v2),(cq v3),(.d (.sl (bn v4)))] ar (Gw N v1 v2 v3 v4):=
 fw Tryz.func70 (aB λv5 J=>gA [[],[(7,cK Ku J)],[]] (k8 λh2=>aB λv6 h3=>gA [[f0 (dq h2)],[(4,cK XP h3)]] (jq λ_=>k8 λh5=>aB λv7 h6=>gA [[f0 (dq h5)],[(10,cK aoy h6)]] (qR λh7=>gR [[t0 (dZ h7)],[]]))))
def Pz(N:Nat)(v1:aqP Int):aqR (aqP Int):=bif Nat.ble (v1.length*8) 140737488355328 then some v1 else none
theorem aeV{N v1 r}(U:Pz N v1=some r):gi Tryz.prog 47 [(.d (.sl (bn v1)))] (·=(.d (.sl (bn r)))):=by
 obtain⟨hb,rfl⟩:=eD U;have hc:=nD hb (by decide);exact ad6 EG (by rw[fy];exact hc.1) (by rw[fy];exact hc.2)
def Th(N:Nat)(v1:aqP aA):aqR (aqP aA):=bif Nat.ble (v1.length*16) 140737488355328 then some v1 else none
theorem anb{N v1 r}(U:Th N v1=some r):gi Tryz.prog 48 [(.d (.sl (dO v1)))] (·=(.d (.sl (dO r)))):=by
 obtain⟨hb,rfl⟩:=eD U;have hc:=nD hb (by decide);exact ajw Ol (by rw[kX];exact hc.1) (by rw[kX];exact hc.2)
def De(N:Nat)(v1:aT):aqR aT:=
 (Pz N v1.aS).bind λv2=>
 (Th N v1.dn).bind λv3=>
 some (⟨v1.ax,v2,v3⟩:aT)
theorem adl{N v1}:KO 28 [(gZ v1)] gZ (De N v1):=
 fw Tryz.func28 (gA [[]] (aB λv2 J=>aB λv3 h2=>li (λ_=>(N1 1 bA [] [.cells (gZ v1).cells, .cells [(ar v1.ax.bg),(ar v1.ax.bN),(ar v1.ax.bM),(ar v1.ax.cn),(ar v1.ax.ck),(.d (.sl (bn v2))),(.d (.sl (dO v3)))]] ⟨[(13,cL (aeV J)),(22,cL (anb h2))],by kernel_rfl⟩ ·)) (gR [])))
def cP:aA:=⟨(0:Int64),(0:Int64)⟩
def zi:fa:=⟨cP,dR⟩
def dA:aqP AV:=[(bC (0:Int64)),(bC (0:Int64)),(ar (0:Int)),(ar (0:Int)),(ar (0:Int)),(ar (0:Int)),(ar (0:Int))]
def iR:aqP AV:=[(bC (0:Int64)),(bC (0:Int64))]
def AZ(N:Nat)(v3:aqP aI)(v6:eN)(v8:aqP aI)(jB:(aqP aI)->aqR ((aqP aI)×Int))(v10:Int):aqR ((aqP aI)×Int):=
 bif (v10 !=0)then
  some ([],v10)
 else
  (vz N v3 v6.au).bind λv11=>
  (De N v11.1).bind λv12=>
  bif (Nat.ble ((v8.length+1)*104) 140737488355328)then
  jB (v8++[(⟨v6.au,v12⟩:aI)])
  else none
def rO(N:Nat)(v1:aV)(v2:aqP aJ)(v3:aqP aI):aqP eN->Nat->(aqP aI)->aqR ((aqP aI)×Int)
 |[],_,v8=>
  some (v8,(0:Int))
 |v6::v7,v4,v8=>
  (wq N v1 v2 v6.au).bind λv9=>
  bif (v9.2.2==0)then
   (Gw N v3 v6.au v9.2.1 v9.1).bind λaL=>
   AZ N v3 v6 v8 (λcl=>rO N v1 v2 v3 v7 (v4+1) cl) aL
  else
   AZ N v3 v6 v8 (λcl=>rO N v1 v2 v3 v7 (v4+1) cl) v9.2.2
def Jk(N:Nat)(v1:aV)(v2:aqP aJ)(v3:aqP aI):aqR ((aqP aI)×Int):=
 rO N v1 v2 v3 v1.aX 0 []
def uK(v1:aV)(v8:aqP aI)(v6:eN)(v9:(aqP Int)×aF×Int)(l:aqP aq):aqP aq:= .cells (dW v1).cells:: .front 40 8 v8.length:: .cells (pN v6).cells:: .cells (cq v9.2.1).cells::l
def Cc(v1:aV)(v8:aqP aI)(l:aqP aq):aqP aq:= .cells (dW v1).cells:: .front 40 8 v8.length::l
def Dq(v1:aV)(l:aqP aq):aqP aq:= .cells (dW v1).cells::l
theorem anA{N v1 v2 v3 r}(U:Jk N v1 v2 v3=some r):KH 43 [(dW v1),(.d (.sl (aW v2))),(.d (.sl (aZ v3)))] [] (.bj [(.own 0 (aZ r.1)),(ar r.2)]) ([.front 40 8 r.1.length]):=by
 rw[Jk]at U;refine Gx 1 Tryz.func43 rfl (by kernel_rfl) (ap9 rfl) ?_;refine mz (s':=⟨60,[(0,(dW v1)),(1,(.d (.sl (aW v2)))),(2,(.d (.sl (aZ v3))))],[]⟩) (by kernel_rfl) ?_;refine aD ?_;refine rg [] [(3,(.ptr 0 0))] (Dq v1 []) (by kernel_rfl) ?_;refine aD ?_;refine rg [] [(8,(.d (.v (.slice none 0 0))))] (Dq v1 []) (by kernel_rfl) ?_;refine aD ?_;refine aD ?_;refine rg [(7,oL v1.aX ri)] [(17,(.d (.sl (kO v1.aX)))),(18,(ar (v1.aX.length:Int))),(19,(ar (0:Int)))] (Dq v1 []) (by kernel_rfl) ?_;refine gq ?_;refine Jp 8 40 8 [] (.inr ⟨rfl,rfl⟩) ?_;refine yT 17 (kO v1.aX) (by kernel_rfl) λJ=> ?_;have h2:=Bb ri J;refine Ot [1,2,3,8,17,18,19] 2 (λ((v4,v5,v8):Nat×(aqP eN)×(aqP aI))=>⟨60,[(1,(.d (.sl (aW v2)))),(2,(.d (.sl (aZ v3)))),(3,(.ptr 0 0)),(8,(.own 1 (aZ v8))),(17,(.d (.sl (kO v1.aX)))),(18,(ar (v1.aX.length:Int))),(19,(ar (v4:Int)))],(Cc v1 v8 [])⟩) (λ((v4,v5,v8):Nat×(aqP eN)×(aqP aI))=>v1.aX.drop v4=v5/\rO N v1 v2 v3 v5 v4 v8=some r) (λ((v4,v5,v8):Nat×(aqP eN)×(aqP aI))=>v5.length) (0,v1.aX,[]) (ap9 rfl) (by kernel_rfl) ⟨rfl,U⟩ ?_;rintro⟨v4,v5,v8⟩ ⟨h3,U⟩;cases v5 with
 |nil=>
  rw[rO]at U;refine aD ?_;refine rg [] [(20,(aK (decide ((v4:Int)<(v1.aX.length:Int)))))] (Cc v1 v8 []) (by kernel_rfl) ?_;refine aD ?_;refine eP (t:=(decide ((v4:Int)<(v1.aX.length:Int)))) (by kernel_rfl) (cu h3) ?_;refine oT (lF (lF (rX rfl ?_)));refine bK ?_;refine aD ?_;refine rg [] [(6,(.own 1 (aZ v8))),(7,(ar (0:Int)))] (Cc v1 v8 []) (by kernel_rfl) ?_;refine gL [6,7] 2 (ap9 rfl) (s':=⟨60,[(6,(.own 1 (aZ v8))),(7,(ar (0:Int)))],(Cc v1 v8 [])⟩) (by kernel_rfl) ?_;refine Wi (YC (i:=1) (j:=0) (ap9 rfl) (ap9 rfl) (ap9 rfl) (ap9 rfl)) ?_;refine mz (s':=⟨60,[(6,(.own 0 (aZ v8))),(7,(ar (0:Int)))],[.front 40 8 v8.length, .cells (dW v1).cells]⟩) (by kernel_rfl) ?_;refine gL [6,7] 1 (ap9 rfl) (s':=⟨60,[(6,(.own 0 (aZ v8))),(7,(ar (0:Int)))],[.front 40 8 v8.length]⟩) (by kernel_rfl) ?_;refine c8 ?_;have hr:=aqk U;subst hr;exact vc (eY trivial jU) (by kernel_rfl)
 |cons v6 v7=>
  rw[rO]at U;refine aD ?_;refine rg [] [(20,(aK (decide ((v4:Int)<(v1.aX.length:Int)))))] (Cc v1 v8 []) (by kernel_rfl) ?_;refine aD ?_;refine eW (t:=(decide ((v4:Int)<(v1.aX.length:Int)))) (by kernel_rfl) (cv h3) ?_;refine dI ?_;refine bK ?_;refine aD ?_;refine gq ?_;refine aD ?_;refine rg [(1,oE (Dt (bI h3)))] [(10,(.ptr 2 0))] (Cc v1 v8 [.cells (pN v6).cells]) (by kernel_rfl) ?_;refine aD ?_;obtain⟨v9,h4,U⟩:=bO U;refine rg [(13,cK Il h4)] [(12,(.ptr 3 0)),(11,(.d (.sl (bn v9.1)))),(13,(ar v9.2.2))] (uK v1 v8 v6 v9 []) (by kernel_rfl) ?_;refine aD ?_;refine aD ?_;refine rg [] [(33,(aK (v9.2.2==0)))] (uK v1 v8 v6 v9 []) (by kernel_rfl) ?_;refine GX [1,2,3,8,10,13,17,18,19] 4 (λ(v10:Int)=>⟨60,[(1,(.d (.sl (aW v2)))),(2,(.d (.sl (aZ v3)))),(3,(.ptr 0 0)),(8,(.own 1 (aZ v8))),(10,(.ptr 2 0)),(13,(ar v10)),(17,(.d (.sl (kO v1.aX)))),(18,(ar (v1.aX.length:Int))),(19,(ar (v4:Int)))],(uK v1 v8 v6 v9 [])⟩) (λ(v10:Int)=>AZ N v3 v6 v8 (λcl=>rO N v1 v2 v3 v7 (v4+1) cl) v10=some r) (ap9 rfl) ?_ ?_
  ·rcases eC (v9.2.2==0)with h9|h9
   ·replace U:=(dx h9).symm.trans U;refine eW (t:=(v9.2.2==0)) (by kernel_rfl) h9 ?_;obtain⟨aL,bE,U⟩:=bO U;refine re [(16,cK adg bE)] [(13,(ar aL)),(39,(ar aL)),(38,(.d (.sl (bn v9.1)))),(37,(cq v9.2.1)),(36,(di v6.au)),(35,(.ptr 2 0)),(34,(.d (.sl (aZ v3))))] (uK v1 v8 v6 v9 []) (by kernel_rfl) ?_;refine bK ?_;exact⟨aL,by kernel_rfl,U⟩
   replace U:=(eF h9).symm.trans U;refine eP (t:=(v9.2.2==0)) (by kernel_rfl) h9 ?_;refine dI ?_;refine bK ?_;exact⟨v9.2.2,by kernel_rfl,U⟩
  rintro v10 U
  try dsimp only at U
  rw[AZ]at U;refine aD ?_;refine aD ?_;refine rg [] [(41,(aK (v10 !=0)))] (uK v1 v8 v6 v9 []) (by kernel_rfl) ?_;rcases eC (v10 !=0)with h5|h5
  ·replace U:=(dx h5).symm.trans U;refine eW (t:=(v10 !=0)) (by kernel_rfl) h5 ?_;refine aD ?_;refine rg [] [(6,(.d (.v (.slice none 0 0)))),(7,(ar v10))] (uK v1 v8 v6 v9 []) (by kernel_rfl) ?_;refine Jp 6 40 8 [] (.inr ⟨rfl,rfl⟩) ?_;refine gL [6,7] 5 (ap9 rfl) (s':=⟨60,[(6,(.own 4 (aZ []))),(7,(ar v10))],(uK v1 v8 v6 v9 [.front 40 8 0])⟩) (by kernel_rfl) ?_;refine Wi (YC (i:=4) (j:=0) (ap9 rfl) (ap9 rfl) (ap9 rfl) (ap9 rfl)) ?_;refine mz (s':=⟨60,[(6,(.own 0 (aZ []))),(7,(ar v10))],[.front 40 8 0, .front 40 8 v8.length, .cells (pN v6).cells, .cells (cq v9.2.1).cells, .cells (dW v1).cells]⟩) (by kernel_rfl) ?_;refine gL [6,7] 1 (ap9 rfl) (s':=⟨60,[(6,(.own 0 (aZ []))),(7,(ar v10))],[.front 40 8 0]⟩) (by kernel_rfl) ?_;refine c8 (dg (fv (dg (dg (fv (dg ?_))))));have hr:=aqk U;subst hr;exact vc (eY trivial jU) (by kernel_rfl)
  replace U:=(eF h5).symm.trans U;refine eP (t:=(v10 !=0)) (by kernel_rfl) h5 ?_;refine dI ?_;refine bK ?_;refine aD ?_;obtain⟨v11,h6,U⟩:=bO U;refine rg [(10,cK Ku h6)] [(14,(.ptr 4 0))] (uK v1 v8 v6 v9 [.cells (gZ v11.1).cells]) (by kernel_rfl) ?_;obtain⟨v12,h7,U⟩:=bO U;have h8:=nm U;replace U:=(dx h8).symm.trans U;refine WC bA (by kernel_rfl) [(13,cK adl h7),(22,oA qZ v8 ([(⟨v6.au,v12⟩:aI)]) h8)] [(8,(.own 1 (aZ (v8++[(⟨v6.au,v12⟩:aI)])))),(57,(.own 1 (aZ (v8++[(⟨v6.au,v12⟩:aI)])))),(56,(.full (aZ [(⟨v6.au,v12⟩:aI)]))),(55,(.agg [(di v6.au),(ar v12.ax.bg),(ar v12.ax.bN),(ar v12.ax.bM),(ar v12.ax.cn),(ar v12.ax.ck),(.d (.sl (bn v12.aS))),(.d (.sl (dO v12.dn)))])),(54,(gZ v12)),(53,(gZ v11.1)),(52,(di v6.au)),(51,(.ptr 2 0)),(50,(.own 1 (aZ v8)))] (Dq v1 [.front 40 8 (v8++[(⟨v6.au,v12⟩:aI)]).length, .cells (pN v6).cells, .cells (cq v9.2.1).cells, .cells (gZ v11.1).cells]) (by kernel_rfl) ?_;refine iU ?_;refine bK ?_;refine re [(2,oq (cD h3 rfl h2))] [(19,(ar ((v4+1:Nat):Int))),(58,(ar ((v4+1:Nat):Int)))] (Dq v1 [.front 40 8 (v8++[(⟨v6.au,v12⟩:aI)]).length, .cells (pN v6).cells, .cells (cq v9.2.1).cells, .cells (gZ v11.1).cells]) (by kernel_rfl) ?_
  refine bK ?_;exact⟨(v4+1,v7,(v8++[(⟨v6.au,v12⟩:aI)])),by kernel_rfl,⟨ma h3,U⟩,aqN _⟩
def Ff(N:Nat):aqP du->Nat->(aqP bz)->aqR ((aqP bz))
 |[],_,v6=>
  some v6
 |v4::v5,v2,v6=>
  bif (Nat.ble ((v6.length+1)*32) 140737488355328)then
  (λcl=>Ff N v5 (v2+1) cl) (v6++[v4.dG])
  else none
def OU(N:Nat)(v1:aqP du):aqR ((aqP bz)):=
 Ff N v1 0 []
theorem adM{N v1}:KO 71 [(.d (.sl (dAxiss v1)))] (λr=> .d (.sl (gj r))) (OU N v1):=
 fw Tryz.func71 (gA [[],[],[(4,oL v1 kZ)]] (li (λ_=>(vH 3 53 2 [] (.inr (by kernel_rfl)) ·)) (gT sK 0 v1 λh2=>gU 1 [] [3,6,7,8] 1 (λv2(v6:aqP bz)=>⟨19,[(3,(.own 0 (gj v6))),(6,(.d (.sl (dAxiss v1)))),(7,(ar (v1.length:Int))),(8,(ar (v2:Int)))],[.front 53 2 v6.length]⟩) (λv2 v6 h3 f1=>gR [[],[f0 (cu h3)],[]]) (λv2 v4 v5 v6 h3 f1 aU=>dN λh4=>gb aU (v6++[v4.dG]) [[],[t0 (cv h3)],[(1,oE (xC (bI h3)))],[(13,oA sT v6 ([v4.dG]) h4)],[(2,oq (cD h3 rfl h2))]] h3))))
def NT(N:Nat)(v1:aqP Int):aqR (aqP Int):=bif Nat.ble (v1.length*8) 140737488355328 then some v1 else none
theorem VH{N v1 r}(U:NT N v1=some r):cV Tryz.prog 47 [(.d (.sl (bn v1)))] [] λr1 J=>r1=(.vec 0 0 r.length r.length 1)/\J=[.vec 3 1 (cp (r.map eK))]:=by
 obtain⟨hb,rfl⟩:=eD U;have hc:=nD hb (by decide);have J:=aiv (xs:=bn v1) EG (by rw[fy];exact hc.1) (by rw[fy];exact hc.2);have h2:cp (v1.map eK)=cp (bn v1):=by rw[ox]
 have h3:=fy (l:=v1);rw[h3]at J;rw[h2];exact J
def uY(N:Nat)(v1:Nat)(v3:aqP Int)(v2:Int):Nat->Int->Int->aqR Int
 |0,_,_=>none
 |v4+1,v5,v6=>
  bif (decide (v6<(v1:Int)))then
   bif (decide ((0:Int)<=v6))then
   Option.bind (v3[(v6).toNat]?) λv7=>
   bif (decide ((aO (v5*v7))>v2))then
    some (aO (v2+(1:Int)))
   else
    (λcl fx=>uY N v1 v3 v2 v4 cl fx) (aO (v5*v7)) (aO (v6+(1:Int)))
   else none
  else
   some v5
def FQ(N:Nat)(v1:Nat)(v2:Int)(v3:aqP Int):aqR Int:=
 bif (Nat.beq v3.length v1)then
 uY N v1 v3 v2 N (1:Int) (0:Int)
 else none
def pv(v3:aqP Int)(l:aqP aq):aqP aq:= .vec 3 1 (cp (v3.map eK))::l
theorem abP{N v1 v2 v3 r}(U:FQ N v1 v2 v3=some r):KH 57 [(.vec 0 0 v1 v1 1),(ar v2)] ([.vec 3 1 (cp (v3.map eK))]) (ar r) ([.vec 3 1 (cp (v3.map eK))]):=by
 rw[FQ]at U;refine Gx 1 Tryz.func57 rfl (by kernel_rfl) (ap9 rfl) ?_;refine mz (s':=⟨24,[(0,(.vec 0 0 v1 v1 1)),(1,(ar v2))],(pv v3 [])⟩) (by kernel_rfl) ?_;refine aD ?_;refine rg [] [] (pv v3 []) (by kernel_rfl) ?_;refine aD ?_;refine rg [] [(5,(ar (1:Int)))] (pv v3 []) (by kernel_rfl) ?_;refine aD ?_;refine aD ?_;have J:=nm U;replace U:=(dx J).symm.trans U;refine rg [(4,⟨_,_, .pr .no (zO (f:=eK) (aqf J))⟩)] [(8,(.vec 0 0 v1 v1 1)),(9,(ar (v1:Int))),(10,(ar (0:Int)))] (pv v3 []) (by kernel_rfl) ?_;refine gq ?_;refine Ty [1,5,8,9,10] 1 [] [] (λ((v4,v5,v6):Nat×Int×Int)=>⟨24,[(1,(ar v2)),(5,(ar v5)),(8,(.vec 0 0 v1 v1 1)),(9,(ar (v1:Int))),(10,(ar v6))],(pv v3 [])⟩) (λ((v4,v5,v6):Nat×Int×Int)=>uY N v1 v3 v2 v4 v5 v6=some r) (λ((v4,v5,v6):Nat×Int×Int)=>v4) (N,(1:Int),(0:Int)) (ap9 rfl) ⟨(mc (xs:=(v3.map eK)) jU),by kernel_rfl⟩ U ?_;rintro⟨v4,v5,v6⟩ U
 try dsimp only at U
 cases v4 with
 |zero=>
  rw[uY]at U;cases U
 |succ v4=>
  rw[uY]at U;refine aD ?_;refine rg [] [(11,(aK (decide (v6<(v1:Int)))))] (pv v3 []) (by kernel_rfl) ?_;refine aD ?_;rcases eC (decide (v6<(v1:Int)))with h2|h2
  ·replace U:=(dx h2).symm.trans U;refine eW (t:=(decide (v6<(v1:Int)))) (by kernel_rfl) h2 ?_;refine dI ?_;refine bK ?_;refine aD ?_;refine gq ?_;refine aD ?_;have h3:=nm U;replace U:=(dx h3).symm.trans U;obtain⟨v7,h4,U⟩:=bO U;refine rg [(1,⟨_,_, .pr (.ix ((v6).toNat)) (YW (zO (f:=eK) (aqf J)) (of_decide_eq_true h3) (of_decide_eq_true h2) rfl)⟩),(4,⟨_,_, .pr (.el ((eK v7).map AV.d)) (ape (f:=eK) (aqf J) h4)⟩)] [(7,(ar v7))] (pv v3 []) (by kernel_rfl) ?_;refine aD ?_;refine rg [] [(5,(ar (aO (v5*v7))))] (pv v3 []) (by kernel_rfl) ?_;refine aD ?_;refine rg [] [(19,(aK (decide ((aO (v5*v7))>v2))))] (pv v3 []) (by kernel_rfl) ?_;rcases eC (decide ((aO (v5*v7))>v2))with h5|h5
   ·replace U:=(dx h5).symm.trans U;refine eW (t:=(decide ((aO (v5*v7))>v2))) (by kernel_rfl) h5 ?_;refine aD ?_;refine rg [] [(4,(ar (aO (v2+(1:Int)))))] (pv v3 []) (by kernel_rfl) ?_;refine c8 (fv (dg (dg (fv (dg ?_)))));have hr:=aqk U;subst hr;exact vc (mc (xs:=(v3.map eK)) jU) (by kernel_rfl)
   replace U:=(eF h5).symm.trans U;refine eP (t:=(decide ((aO (v5*v7))>v2))) (by kernel_rfl) h5 ?_;refine dI ?_;refine iU ?_;refine bK ?_;refine re [] [(10,(ar (aO (v6+(1:Int))))),(22,(ar (aO (v6+(1:Int)))))] (pv v3 []) (by kernel_rfl) ?_;refine bK ?_;exact⟨(v4,(aO (v5*v7)),(aO (v6+(1:Int)))),⟨(mc (xs:=(v3.map eK)) jU),by kernel_rfl⟩,U,aqN _⟩
  replace U:=(eF h2).symm.trans U;refine eP (t:=(decide (v6<(v1:Int)))) (by kernel_rfl) h2 ?_;refine oT (lF (lF (rX rfl ?_)));refine bK ?_;refine aD ?_;refine rg [] [(4,(ar v5))] (pv v3 []) (by kernel_rfl) ?_;refine c8 ?_;have hr:=aqk U;subst hr;exact vc (mc (xs:=(v3.map eK)) jU) (by kernel_rfl)
def RA(N:Nat)(v1:aqP aqQ)(v3:Nat):aqR (aqP aqQ):=bif Nat.beq v1.length v3&&Nat.blt v3 4611686018427387904 then some (je v1)else none
theorem apo{N v1 v3 r}(U:RA N v1 v3=some r):cV Tryz.prog 180 [(.vec 0 0 v3 v3 1)] [.vec 9 1 (cp (v1.map iw))] λr1 J=>r1=(.d (.sl (ep r)))/\J=[.gone]:=by
 obtain⟨hb,rfl⟩:=eD U;rw[ap3]at hb;exact ako (aqf hb.1) (ap9 hb.2)
def tZ(N:Nat)(jB:Nat->(aqP aqQ)->aqR ((aqP aqQ))):aqP cO->Nat->Nat->(aqP aqQ)->aqR ((aqP aqQ))
 |[],_,aQ,bu=>
  jB aQ bu
 |v12::aL,v10,aQ,bu=>
  bif (bL v12.cU==bL (bs []))then
   (λqD xJ=>tZ N jB aL (v10+1) qD xJ) aQ bu
  else
   bif (Nat.beq bu.length aQ)then
   bif (Nat.ble ((aQ+1)*16) 140737488355328)then
   (λqD xJ=>tZ N jB aL (v10+1) qD xJ) (aQ+1) (bu++[v12.cU])
   else none
   else none
def zq(N:Nat)(jB:Nat->(aqP aqQ)->aqR ((aqP aqQ)))(v5:aw)(v8:Nat)(v9:aqP aqQ):aqR ((aqP aqQ)):=
 tZ N jB v5.xIdx 0 v8 v9
def oa(N:Nat):aqP aw->Nat->(aqP aqQ)->aqR ((aqP aqQ))
 |[],v3,v4=>
  (RA N v4 v3).bind λv7=>
  some v7
 |v5::v6,v3,v4=>
  bif (v5.az==3)then
   bif (Nat.beq v4.length v3)then
   bif (Nat.ble ((v3+1)*16) 140737488355328)then
   zq N (λcl fx=>oa N v6 cl fx) v5 (v3+1) (v4++[v5.au])
   else none
   else none
  else
   zq N (λcl fx=>oa N v6 cl fx) v5 v3 v4
def C3(N:Nat)(v1:aw):aqR ((aqP aqQ)):=
 (zJ N v1).bind λv2=>
 oa N (dF v2) 0 []
def pC(v1:aw)(v3:Nat)(v4:aqP aqQ)(cA:Code)(cz:Code)(v2:aw)(v5:aw)(l:aqP aq):aqP aq:= .cells (aP v1).cells:: .cells [(.vec 2 0 v3 v3 1)]:: .vec 9 1 (cp (v4.map iw)):: .lp .busy 9 cA cz (dp 36 [(3,(.ptr 1 0)),(8,(.fn 101 [(.bk [eV v2] 0 0)]))]):: .cells (aP v5).cells::l
def B7(v1:aw)(v3:Nat)(v4:aqP aqQ)(l:aqP aq):aqP aq:= .cells (aP v1).cells:: .cells [(.vec 2 0 v3 v3 1)]:: .vec 9 1 (cp (v4.map iw))::l
def acg(v1:aw)(aQ:Nat)(bu:aqP aqQ)(v12:cO)(cA:Code)(cz:Code)(v2:aw)(v5:aw)(l:aqP aq):aqP aq:= .cells (aP v1).cells:: .cells [(.vec 2 0 (aQ+1) (aQ+1) 1)]:: .vec 9 1 (cp ((bu++[v12.cU]).map iw)):: .lp .busy 9 cA cz (dp 36 [(3,(.ptr 1 0)),(8,(.fn 101 [(.bk [eV v2] 0 0)]))]):: .cells (aP v5).cells:: .cells (h1 v12).cells::l
def xx(v1:aw)(l:aqP aq):aqP aq:= .cells (aP v1).cells::l
theorem aon{N v1 r}(U:C3 N v1=some r):KF 120 [(aP v1)] (.d (.sl (ep r))):=by
 rw[C3]at U;refine sw Tryz.func120 rfl (by kernel_rfl) ?_;refine gL [0] 0 (aqc _) (s':=⟨36,[(0,(aP v1))],[]⟩) (by kernel_rfl) ?_;refine aD ?_;refine rg [] [(1,(.ptr 0 0))] (xx v1 []) (by kernel_rfl) ?_;refine aD ?_;refine rg [] [(3,(.ptr 1 0))] (xx v1 [.cells [(.d (.v (.slice none 0 0)))]]) (by kernel_rfl) ?_;refine aD ?_;refine aD ?_;obtain⟨v2,J,U⟩:=bO U;refine rg [(4,cL (Pm J))] [(8,(.fn 101 [(.bk [eV v2] 0 0)]))] (xx v1 [.cells [(.d (.v (.slice none 0 0)))]]) (by kernel_rfl) ?_;refine gq ?_;refine apm 1 0 9 1 rfl rfl ?_;refine Jm [3,8] 3 [] [] (ap9 rfl) (s':=⟨36,[(3,(.ptr 1 0)),(8,(.fn 101 [(.bk [eV v2] 0 0)]))],(xx v1 [.cells [(.vec 2 0 0 0 1)], .vec 9 1 (cp (([]:aqP aqQ).map iw))])⟩) ⟨(eY trivial (eY trivial (mc (xs:=(([]:aqP aqQ).map iw)) jU))),by kernel_rfl⟩ ?_;refine wQ (m:=3) (enc:=aP) (xs:=(dF v2)) (by kernel_rfl) (Sr v2) (λ((v3,v4):Nat×(aqP aqQ))=>(B7 v1 v3 v4 [])) (λ((v3,v4):Nat×(aqP aqQ)) l=>oa N l v3 v4=some r) (0,[]) (by kernel_rfl) U (by rintro⟨v3,v4⟩;rfl) (by rintro⟨v3,v4⟩;exact(zS (by kernel_rfl) (zS (by kernel_rfl) (zS abp ZZ)))) (by kernel_rfl) rfl ?_ ?_
 ·rintro⟨v3,v4⟩ v5 v6 U h2 cA cz
  try dsimp only at U
  rw[oa]at U;refine Jm [3,9] 4 [] [] (aqc _) (s':=⟨36,[(3,(.ptr 1 0)),(9,(aP v5))],(B7 v1 v3 v4 [.lp .ready 9 cA cz (dp 36 [(3,(.ptr 1 0)),(8,(.fn 101 [(.bk [eV v2] 0 0)]))])])⟩) ⟨(eY trivial (eY trivial (mc (xs:=(v4.map iw)) (eY trivial jU)))),by kernel_rfl⟩ ?_;refine re [] [(4,(.ptr 4 0))] (B7 v1 v3 v4 [.lp .ready 9 cA cz (dp 36 [(3,(.ptr 1 0)),(8,(.fn 101 [(.bk [eV v2] 0 0)]))]), .cells (aP v5).cells]) (by kernel_rfl) ?_;refine bK ?_;refine⟨(B7 v1 v3 v4 []),(xx v5 []),rfl,(by kernel_rfl),?_⟩;refine Jm [3,4] 5 [] [] (ap9 rfl) (s':=⟨36,[(3,(.ptr 1 0)),(4,(.ptr 4 0))],(pC v1 v3 v4 cA cz v2 v5 [])⟩) ⟨(eY trivial (eY trivial (mc (xs:=(v4.map iw)) (eY trivial (eY trivial jU))))),by kernel_rfl⟩ ?_;refine gq ?_;refine aD ?_;refine aD ?_;refine rg [] [(12,(aK (v5.az==3)))] (pC v1 v3 v4 cA cz v2 v5 []) (by kernel_rfl) ?_;refine aov [3,4] 5 [] [] (λ((v8,v9):Nat×(aqP aqQ))=>⟨36,[(3,(.ptr 1 0)),(4,(.ptr 4 0))],(pC v1 v8 v9 cA cz v2 v5 [])⟩) (λ((v8,v9):Nat×(aqP aqQ))=>zq N (λcl fx=>oa N v6 cl fx) v5 v8 v9=some r) (ap9 rfl) ?_ ?_
  ·rcases eC (v5.az==3)with bE|bE
   ·replace U:=(dx bE).symm.trans U;refine eW (t:=(v5.az==3)) (by kernel_rfl) bE ?_;have bD:=nm U;replace U:=(dx bD).symm.trans U;have bw:=nm U;replace U:=(dx bw).symm.trans U;refine re [(13,⟨_,_, .pr (.ap (cp ((v4++[v5.au]).map iw)) (cp (([v5.au]).map iw)) (v3+1) (v3+1)) (Ks (f:=iw) (h:=(pC v1 v3 v4 cA cz v2 v5 [])) (y:=(.full (ep [v5.au]))) (k:=1) (aqf bD) rfl (λc hc=>Js c (by rw[nu];exact hc)) rfl rfl (nD bw (by decide)).1 (nD bw (by decide)).2)⟩)] [(17,(.vec 2 0 (v3+1) (v3+1) 1)),(16,(.full (ep [v5.au]))),(15,(di v5.au)),(14,(.ptr 4 1)),(13,(.vec 2 0 v3 v3 1))] (xx v1 [.cells [(.vec 2 0 (v3+1) (v3+1) 1)], .vec 9 1 (cp ((v4++[v5.au]).map iw)), .lp .busy 9 cA cz (dp 36 [(3,(.ptr 1 0)),(8,(.fn 101 [(.bk [eV v2] 0 0)]))]), .cells (aP v5).cells]) (by kernel_rfl) ?_;refine bK ?_;exact⟨((v3+1),(v4++[v5.au])),⟨(eY trivial (eY trivial (mc (xs:=((v4++[v5.au]).map iw)) (eY trivial (eY trivial jU))))),by kernel_rfl⟩,U⟩
   replace U:=(eF bE).symm.trans U;refine eP (t:=(v5.az==3)) (by kernel_rfl) bE ?_;refine dI ?_;refine bK ?_;exact⟨(v3,v4),⟨(eY trivial (eY trivial (mc (xs:=(v4.map iw)) (eY trivial (eY trivial jU))))),by kernel_rfl⟩,U⟩
  rintro⟨v8,v9⟩ U
  try dsimp only at U
  rw[zq]at U;refine aD ?_;refine rg [(7,oL v5.xIdx ld)] [(19,(.d (.sl (eZ v5.xIdx)))),(20,(ar (v5.xIdx.length:Int))),(21,(ar (0:Int)))] (pC v1 v8 v9 cA cz v2 v5 []) (by kernel_rfl) ?_;refine gq ?_;refine yT 19 (eZ v5.xIdx) (by kernel_rfl) λh4=> ?_;have h5:=Bb ld h4;refine Ty [3,19,20,21] 5 [] [] (λ((v10,v11,aQ,bu):Nat×(aqP cO)×Nat×(aqP aqQ))=>⟨36,[(3,(.ptr 1 0)),(19,(.d (.sl (eZ v5.xIdx)))),(20,(ar (v5.xIdx.length:Int))),(21,(ar (v10:Int)))],(pC v1 aQ bu cA cz v2 v5 [])⟩) (λ((v10,v11,aQ,bu):Nat×(aqP cO)×Nat×(aqP aqQ))=>v5.xIdx.drop v10=v11/\tZ N (λcl fx=>oa N v6 cl fx) v11 v10 aQ bu=some r) (λ((v10,v11,aQ,bu):Nat×(aqP cO)×Nat×(aqP aqQ))=>v11.length) (0,v5.xIdx,v8,v9) (ap9 rfl) ⟨(eY trivial (eY trivial (mc (xs:=(v9.map iw)) (eY trivial (eY trivial jU))))),by kernel_rfl⟩ ⟨rfl,U⟩ ?_;rintro⟨v10,v11,aQ,bu⟩ ⟨h6,U⟩;cases v11 with
  |nil=>
   rw[tZ]at U;refine aD ?_;refine rg [] [(22,(aK (decide ((v10:Int)<(v5.xIdx.length:Int)))))] (pC v1 aQ bu cA cz v2 v5 []) (by kernel_rfl) ?_;refine aD ?_;refine eP (t:=(decide ((v10:Int)<(v5.xIdx.length:Int)))) (by kernel_rfl) (cu h6) ?_;refine oT (lF (lF (rX rfl ?_)));refine iU ?_;refine amU (B7 v1 aQ bu []) rfl (zS (by kernel_rfl) (zS (by kernel_rfl) (zS abp ZZ))) ⟨(eY trivial (eY trivial (mc (xs:=(bu.map iw)) (eY trivial jU)))),by kernel_rfl⟩ ?_;exact⟨(aQ,bu),(by kernel_rfl),U⟩
  |cons v12 aL=>
   rw[tZ]at U;refine aD ?_;refine rg [] [(22,(aK (decide ((v10:Int)<(v5.xIdx.length:Int)))))] (pC v1 aQ bu cA cz v2 v5 []) (by kernel_rfl) ?_;refine aD ?_;refine eW (t:=(decide ((v10:Int)<(v5.xIdx.length:Int)))) (by kernel_rfl) (cv h6) ?_;refine dI ?_;refine bK ?_;refine aD ?_;refine gq ?_;refine aD ?_;refine rg [(1,oE (nW (bI h6)))] [(6,(.ptr 5 0))] (pC v1 aQ bu cA cz v2 v5 [.cells (h1 v12).cells]) (by kernel_rfl) ?_;refine aD ?_;refine rg [] [(27,(aK (!(bL v12.cU==bL (bs [])))))] (pC v1 aQ bu cA cz v2 v5 [.cells (h1 v12).cells]) (by kernel_rfl) ?_;rcases eC (bL v12.cU==bL (bs []))with h7|h7
   ·replace U:=(dx h7).symm.trans U;refine eP (t:=(!(bL v12.cU==bL (bs [])))) (by kernel_rfl) (dq h7) ?_;refine dI ?_;refine iU ?_;refine bK ?_;refine re [(2,oq (cD h6 rfl h5))] [(21,(ar ((v10+1:Nat):Int))),(33,(ar ((v10+1:Nat):Int)))] (pC v1 aQ bu cA cz v2 v5 [.cells (h1 v12).cells]) (by kernel_rfl) ?_;refine bK ?_;exact⟨(v10+1,aL,aQ,bu),⟨(eY trivial (eY trivial (mc (xs:=(bu.map iw)) (eY trivial (eY trivial jU))))),by kernel_rfl⟩,⟨ma h6,U⟩,aqN _⟩
   replace U:=(eF h7).symm.trans U;refine eW (t:=(!(bL v12.cU==bL (bs [])))) (by kernel_rfl) (dZ h7) ?_;have h8:=nm U;replace U:=(dx h8).symm.trans U;have h9:=nm U;replace U:=(dx h9).symm.trans U;refine re [(13,⟨_,_, .pr (.ap (cp ((bu++[v12.cU]).map iw)) (cp (([v12.cU]).map iw)) (aQ+1) (aQ+1)) (Ks (f:=iw) (h:=(pC v1 aQ bu cA cz v2 v5 [.cells (h1 v12).cells])) (y:=(.full (ep [v12.cU]))) (k:=1) (aqf h8) rfl (λc hc=>Js c (by rw[nu];exact hc)) rfl rfl (nD h9 (by decide)).1 (nD h9 (by decide)).2)⟩)] [(32,(.vec 2 0 (aQ+1) (aQ+1) 1)),(31,(.full (ep [v12.cU]))),(30,(di v12.cU)),(29,(.ptr 5 2)),(28,(.vec 2 0 aQ aQ 1))] (acg v1 aQ bu v12 cA cz v2 v5 []) (by kernel_rfl) ?_;refine iU ?_;refine bK ?_;refine re [(2,oq (cD h6 rfl h5))] [(21,(ar ((v10+1:Nat):Int))),(33,(ar ((v10+1:Nat):Int)))] (acg v1 aQ bu v12 cA cz v2 v5 []) (by kernel_rfl) ?_;refine bK ?_;exact⟨(v10+1,aL,(aQ+1),(bu++[v12.cU])),⟨(eY trivial (eY trivial (mc (xs:=((bu++[v12.cU]).map iw)) (eY trivial (eY trivial jU))))),by kernel_rfl⟩,⟨ma h6,U⟩,aqN _⟩
 rintro⟨v3,v4⟩ U
 try dsimp only at U
 rw[oa]at U;refine iU ?_;refine bK ?_;refine aD ?_;obtain⟨v7,h3,U⟩:=bO U;refine rg [(4,⟨_,_, .Nw (yF (xs:=(v4.map iw)) dd) (ao9 dd) (mF:=[(.vec 2 0 v3 v3 1)]) (h:=(B7 v1 v3 v4 [.gone])) (l:=[2]) (by kernel_rfl) (by kernel_rfl) (by kernel_rfl) (by kernel_rfl) (apo h3)⟩)] [(2,(.d (.sl (ep v7))))] (xx v1 [.cells [(.vec 2 0 v3 v3 1)], .gone, .gone]) (by kernel_rfl) ?_;refine c8 ?_;have hr:=aqk U;subst hr;exact gz (by kernel_rfl)
def H8(N:Nat)(v1:aV)(v2:aqP aJ)(v3:aqP aI):aqP aqQ->Nat->aqR Int
 |[],_=>
  some (0:Int)
 |v8::v9,v6=>
  (wq N v1 v2 v8).bind λv10=>
  bif (v10.2.2 !=0)then
   some v10.2.2
  else
   (Gw N v3 v8 v10.2.1 v10.1).bind λv11=>
   bif (v11 !=0)then
    some v11
   else
    (H8 N v1 v2 v3 v9 (v6+1))
def Im(N:Nat)(v1:aV)(v2:aqP aJ)(v3:aqP aI)(v4:aw):aqR Int:=
 (C3 N v4).bind λv5=>
 H8 N v1 v2 v3 v5 0
theorem aiU{N v1 v2 v3 v4}:KO 72 [(dW v1),(.d (.sl (aW v2))),(.d (.sl (aZ v3))),(aP v4)] ar (Im N v1 v2 v3 v4):=
 fw Tryz.func72 (aB λv5 J=>gA [[],[(4,cL (aon J)),(7,oL v5 jT)]] (gT tc 16 v5 λh3=>fu 1 [] [1,2,4,16,17,18] 2 (λv6=>⟨42,[(1,(.d (.sl (aW v2)))),(2,(.d (.sl (aZ v3)))),(4,(.ptr 0 0)),(16,(.d (.sl (ep v5)))),(17,(ar (v5.length:Int))),(18,(ar (v6:Int)))],[.cells (dW v1).cells, .cells (aP v4).cells]⟩) (λv6 h4 f1=>gR [[],[f0 (cu h4)],[]]) (λv6 v8 v9 h4 f1 aU=>aB λv10 h5=>gA [[],[t0 (cv h4)],[(1,oE (n8 (bI h4)))],[(10,cK Il h5)],[]] (bQ λh6=>aB λv11 h7=>gA [[f0 h6],[(13,cK adg h7)],[]] (bQ λh8=>gb aU () [[f0 h8],[(2,oq (cD h4 rfl h3))]] h4)))))
def C7(N:Nat)(v1:aqP aI):aqR ((aqP aI)×(aqP (aqQ×aT))):=
 some (v1,[])
def abQ(v1:aqP aI)(l:aqP aq):aqP aq:= .cells [(.d (.sl (aZ v1)))]:: .map (cf bZ []):: .cells [(.mp 1)]::l
theorem Ap(N:Nat)(v1:aqP aI)(r:(aqP aI)×(aqP (aqQ×aT)))(U:C7 N v1=some r):KH 42 [(.d (.sl (aZ v1)))] [] (.fn 68 [(.ptr 2 0),(.ptr 0 0)]) ([.cells [(.d (.sl (aZ r.1)))], .map (cf bZ r.2), .cells [(.mp 1)]]):=by
 rw[C7]at U;refine Gx 3 Tryz.func42 rfl (by kernel_rfl) (ap9 rfl) ?_;refine mz (s':=⟨6,[(0,(.d (.sl (aZ v1))))],[]⟩) (by kernel_rfl) ?_;refine aD ?_;refine rg [] [(1,(.ptr 0 0))] [.cells [(.d (.sl (aZ v1)))]] (by kernel_rfl) ?_;refine aD ?_;refine rg [] [(3,(.ptr 2 0))] (abQ v1 []) (by kernel_rfl) ?_;refine aD ?_;refine rg [] [(2,(.fn 68 [(.ptr 2 0),(.ptr 0 0)]))] (abQ v1 []) (by kernel_rfl) ?_;refine c8 ?_;have hr:=aqk U;subst hr;exact vc (eY trivial (eY trivial (eY trivial jU))) (by kernel_rfl)
def Ar(N:Nat)(v1:aqP Int):aqR ((aqP Int)):=
 bif (Nat.ble ((0+v1.length)*8) 140737488355328)then
 some v1
 else none
def NJ(v1:aqP Int)(l:aqP aq):aqP aq:= .cells [(.own 1 (bn v1))]:: .front 3 1 v1.length::l
theorem aaX{N v1 r}(U:Ar N v1=some r):KH 73 [(.d (.sl (bn v1)))] [] (.fn 121 [(.bk [[(.sl (bn r))]] 0 0)]) []:=by
 rw[Ar]at U;refine rK 0 Tryz.func73 rfl (by kernel_rfl) (ap9 rfl) ?_;refine mz (s':=⟨6,[(0,(.d (.sl (bn v1))))],[]⟩) (by kernel_rfl) ?_;refine aD ?_;refine rg [] [(1,(.ptr 0 0))] [.cells [(.d (.sl (bn v1)))]] (by kernel_rfl) ?_;refine aD ?_;have J:=nm U;replace U:=(dx J).symm.trans U;refine rg [(4,oZ l8 v1 J)] [] (NJ v1 []) (by kernel_rfl) ?_;refine aD ?_;refine rg [] [(2,(.fn 121 [(.ptr 0 0)]))] (NJ v1 []) (by kernel_rfl) ?_;refine gL [2] 2 (ap9 rfl) (s':=⟨6,[(2,(.fn 121 [(.ptr 0 0)]))],(NJ v1 [])⟩) (by kernel_rfl) ?_;refine anM 0 (s':=⟨6,[(2,(.fn 121 [(.bk [[(.sl (bn v1))]] 0 0)]))],[.gone, .front 3 1 v1.length]⟩) (by kernel_rfl) ?_;refine c8 ?_;have hr:=aqk U;subst hr;exact jA (by kernel_rfl)
def BP(N:Nat)(v6:Bool):aqP Int->Nat->Int->aqR Int
 |[],_,_=>
  some (0:Int)
 |v9::v10,v7,v11=>
  Option.bind (bif v6 then some false else bif (v11 !=0)then
  some (decide (v9>(IntKind.i64.wrap (((65536:Int)).tdiv v11))))
  else none) λv12=>
  bif v12 then
   some (2:Int)
  else
   bif v6 then
    (λgW=>BP N v6 v10 (v7+1) gW) v11
   else
    (λgW=>BP N v6 v10 (v7+1) gW) (aO (v11*v9))
def JA(N:Nat)(v1:aqP Int):aqP Int->Nat->Bool->aqR Int
 |[],_,v6=>
  BP N v6 v1 0 (1:Int)
 |v4::v5,v2,v6=>
  bif (decide (v4<0))then
   some (1:Int)
  else
   Option.bind (bif v6 then some true else some (v4==0)) λaL=>
   (λcl=>JA N v1 v5 (v2+1) cl) aL
def Tc(N:Nat)(v1:aqP Int):aqR Int:=
 bif (decide ((v1.length:Int)>16))then
  some (2:Int)
 else
  JA N v1 v1 0 false
theorem akQ{N v1}:KO 243 [(.d (.sl (bn v1)))] ar (Tc N v1):=
 fw Tryz.func243 (gA [[],[(4,oL v1 fy)]] (bQ λJ=>gA [[f0 J],[],[(4,oL v1 fy)]] (gT l8 0 v1 λh3=>gU 1 [] [0,3,4,12,13,14] 0 (λv2(v6:Bool)=>⟨46,[(0,(.d (.sl (bn v1)))),(3,(ar (1:Int))),(4,(aK v6)),(12,(.d (.sl (bn v1)))),(13,(ar (v1.length:Int))),(14,(ar (v2:Int)))],[]⟩) (λv2 v6 h4 f1=>gA [[],[f0 (cu h4)],[(4,oL v1 fy)]] (gT l8 0 v1 λh6=>gU 2 [] [3,4,26,27,28] 0 (λv7(v11:Int)=>⟨46,[(3,(ar v11)),(4,(aK v6)),(26,(.d (.sl (bn v1)))),(27,(ar (v1.length:Int))),(28,(ar (v7:Int)))],[]⟩) (λv7 v11 h7 f2=>gR [[],[f0 (cu h7)],[]]) (λv7 v9 v10 v11 h7 f2 fi=>gA [[],[t0 (cv h7)],[(1,oE (iK (bI h7)))]] (gG (λv12=>[(39,(aK v12))]) (λ_=>[]) (aC (λh8=>gE [(2,bF (dq h8))] []) λh8=>dN λh9=>gE [(2,bT (dZ h8))] [(16,⟨_,_, .nz (b:=v11) (bne_iff_ne.1 h9)⟩)]) λv12=>jq λ_=>aC (λbw=>gb fi v11 [[f0 (dq bw)],[(2,oq (cD h7 rfl h6))]] h7) λbw=>gb fi (aO (v11*v9)) [[t0 (dZ bw)],[],[(2,oq (cD h7 rfl h6))]] h7)))) (λv2 v4 v5 v6 h4 f1 aU=>gA [[],[t0 (cv h4)],[(1,oE (iK (bI h4)))],[]] (bQ λcN=>gA [[f0 cN]] (gG (λaL=>[(4,(aK aL))]) (λ_=>[]) (aC (λcS=>gE [(1,bT cS)] []) λcS=>gE [(1,bF cS)] []) λaL=>gb aU aL [[(2,oq (cD h4 rfl h3))]] h4))))))
def A8(N:Nat):aqP Int->Nat->Int->aqR Int
 |[],_,v11=>
  some v11
 |v9::v10,v7,v11=>
  (λgW=>A8 N v10 (v7+1) gW) (aO (v11*v9))
def Li(N:Nat)(v1:aqP Int):aqP Int->Nat->aqR Int
 |[],_=>
  A8 N v1 0 (1:Int)
 |v5::v6,v3=>
  bif (v5==0)then
   some (0:Int)
  else
   (Li N v1 v6 (v3+1))
def Fg(N:Nat)(v1:aqP Int):aqR Int:=
 (Tc N v1).bind λv2=>
 bif (v2 !=0)then
  some (0:Int)
 else
  Li N v1 v1 0
theorem adj{N v1}:KO 182 [(.d (.sl (bn v1)))] ar (Fg N v1):=
 fw Tryz.func182 (aB λv2 J=>gA [[],[(4,cK akQ J)]] (bQ λh2=>gA [[f0 h2],[],[(4,oL v1 fy)]] (gT l8 0 v1 λh4=>fu 1 [] [0,3,11,12,13] 0 (λv3=>⟨31,[(0,(.d (.sl (bn v1)))),(3,(ar (1:Int))),(11,(.d (.sl (bn v1)))),(12,(ar (v1.length:Int))),(13,(ar (v3:Int)))],[]⟩) (λv3 h5 f1=>gA [[],[f0 (cu h5)],[(4,oL v1 fy)]] (gT l8 0 v1 λh7=>gU 2 [] [3,20,21,22] 0 (λv7(v11:Int)=>⟨31,[(3,(ar v11)),(20,(.d (.sl (bn v1)))),(21,(ar (v1.length:Int))),(22,(ar (v7:Int)))],[]⟩) (λv7 v11 h8 f2=>gR [[],[f0 (cu h8)],[]]) (λv7 v9 v10 v11 h8 f2 fi=>gb fi (aO (v11*v9)) [[],[t0 (cv h8)],[(1,oE (iK (bI h8)))],[],[(2,oq (cD h8 rfl h7))]] h8))) (λv3 v5 v6 h5 f1 aU=>gA [[],[t0 (cv h5)],[(1,oE (iK (bI h5)))],[]] (bQ λh9=>gb aU () [[f0 h9],[(2,oq (cD h5 rfl h4))]] h5)))))
def AF(N:Nat)(v1:aqP Int):Nat->Int->Int->(aqP Int)->aqR ((aqP Int)×Bool)
 |0,_,_,_=>none
 |v5+1,v6,v7,v8=>
  bif (decide (v7>=0))then
   bif (decide ((0:Int)<=v7))then
   Option.bind (v1[(v7).toNat]?) λv9=>
   bif (v9 !=0)then
   bif (Nat.beq v8.length v1.length)then
   bif (decide (v7<(v1.length:Int)))then
   Option.bind (v8[(v7).toNat]?) λv10=>
   (λcl fx wN=>AF N v1 v5 cl fx wN) (IntKind.i64.wrap ((v6).tdiv v9)) (aO (v7-(1:Int))) (v8.set ((v7).toNat) ((v6).tmod v9))
   else none
   else none
   else none
   else none
  else
   bif (Nat.beq v8.length v1.length)then
   some (v8,true)
   else none
def E5(N:Nat)(v1:aqP Int)(v2:Int):aqR ((aqP Int)×Bool):=
 Option.bind (bif (decide (v2<0))then some true else (Fg N v1).bind λv3=>
 some (decide (v2>=v3))) λv4=>
 bif v4 then
  some ([],false)
 else
  bif (Nat.ble (v1.length*8) 140737488355328)then
  AF N v1 N v2 (aO ((v1.length:Int)-(1:Int))) (List.replicate v1.length 0)
  else none
theorem aj0{N v1 v2}:KO 123 [(.d (.sl (bn v1))),(ar v2)] (λr=> .bj [(.d (.sl (bn r.1))),(aK r.2)]) (E5 N v1 v2):=
 fw Tryz.func123 (gA [[]] (gG (λv4=>[(15,(aK v4))]) (λ_=>[]) (aC (λJ=>gE [(2,bT J)] []) λJ=>aB λv3 h2=>gE [(2,bF J)] [(16,cK adj h2)]) λv4=>bQ λh4=>dN λh5=>aeO 1 [[f0 h4],[(4,oL v1 fy),(7,⟨_,_, .pr (.mk (cp ((List.replicate v1.length 0).map eK)) v1.length v1.length) (agF (f:=eK) (d0:=0) (c6:=8) rfl rfl (nD h5 (by decide)))⟩)],[(4,oL v1 fy)]] [0,1,6,7] 1 [] [] (λ(v6:Int)(v7:Int)(v8:(aqP Int))=>⟨42,[(0,(.d (.sl (bn v1)))),(1,(ar v6)),(6,(.vec 0 0 v1.length v1.length 1)),(7,(ar v7))],[.vec 3 1 (cp (v8.map eK))]⟩) (AF N v1) (λv5 v6 v7 v8 f1 aU=>gA [[]] (aC (λh6=>dN λh8=>aB λv9 h7=>dN λh9=>dN λbE=>dN λbD=>aB λv10 bw=>aot aU ((IntKind.i64.wrap ((v6).tdiv v9)),(aO (v7-(1:Int))),(v8.set ((v7).toNat) ((v6).tmod v9))) [[t0 h6],[(16,⟨_,_, .el (xs:=bn v1) (i:=v7) (of_decide_eq_true h8) (iK h7)⟩),(22,⟨_,_, .nz (b:=v9) (bne_iff_ne.1 h9)⟩),(25,⟨_,_, .pr (.ix ((v7).toNat)) (YW (zO (f:=eK) (aqf bE)) (of_decide_eq_true h8) (of_decide_eq_true bD) rfl)⟩),(28,⟨_,_, .pr (.st ((eK v10).map AV.d) (cp ((v8.set ((v7).toNat) ((v6).tmod v9)).map eK))) (aiC (f:=eK) (j:=0) (y:=((v6).tmod v9)) (zs:=[(ar ((v6).tmod v9))]) (aqf bE) bw rfl)⟩)],[(10,⟨_,_, .el (xs:=bn v1) (i:=v7) (of_decide_eq_true h8) (iK h7)⟩),(16,⟨_,_, .nz (b:=v9) (bne_iff_ne.1 h9)⟩)],[]] (ij:=[.Nf ((v8.set ((v7).toNat) ((v6).tmod v9)).map eK)])) λh6=>dN λcS=>gA [[f0 h6]] (li (λ_=>(apy [6] 0 (bn v8) v1.length 1 3 1 [.Nf (v8.map eK)] (ajJ (aqf cS)) (ox _) (aku (λ_=>rfl) _) ·)) (gR [[]])))) (ij:=[.Nf ((List.replicate v1.length 0).map eK)])))
def A9(N:Nat)(v1:aqP Int):Nat->Nat->aqR (aqP (aqP Int))
 |0,_=>some []
 |n+1,k=>Option.bind (E5 N v1 (k:Int)) λr=>bif r.2 then Option.bind (A9 N v1 n (k+1)) λl=>some (r.1::l)else none
def C6(N:Nat)(v1:aqP Int):aqR (aqP (aqP Int)):=(Fg N v1).bind λn=>bif (decide ((0:Int)<=n)&&Nat.ble n.toNat 9223372036854775807)then A9 N v1 n.toNat 0 else none
theorem UM{N:Nat}{v1:aqP Int}:∀(n s:Nat)(r:aqP (aqP Int)),A9 N v1 n s=some r->r.length=n/\∀(k:Nat)(p:aqP Int),r[k]?=some p->E5 N v1 ((s+k:Nat):Int)=some (p,true)
 |0,s,r,h=>by cases h;exact⟨rfl,λk p hk=>by simp at hk⟩
 |n+1,s,r,h=>by
  rw[A9]at h;obtain⟨x,J,h⟩:=bO h;obtain⟨hb,h⟩:=lx h;obtain⟨l,h2,h⟩:=bO h;cases h
  obtain⟨q1,q2⟩:=UM n (s+1) l h2;refine⟨by rw[ap4,q1],λk p hk=> ?_⟩;cases k with
  |zero=>
   cases hk
   obtain⟨a,b⟩:=x;simp only at hb;subst hb;exact J
  |succ k=>
   rw[show s+(k+1)=s+1+k by omega];exact q2 k p hk
theorem aba{N:Nat}{v1:aqP Int}{r:aqP (aqP Int)}(U:C6 N v1=some r):Cm Tryz.prog 121 [qj v1] (r.map pM):=by
 obtain⟨n,J,U⟩:=bO U;obtain⟨hb,hL⟩:=lx U;rw[ap3]at hb;obtain⟨q1,q2⟩:=UM _ _ _ hL;have hn:((n.toNat:Nat):Int)=n:=Int.toNat_of_nonneg (of_decide_eq_true hb.1);refine afx v1 r (by rw[q1];exact ap9 hb.2) (by rw[q1,hn];exact adj _ J) λk p hk=> ?_;have:=q2 k p hk;rw[aql]at this;exact aj0 _ this
def G4(N:Nat)(v3:aqP aJ)(v2:aqP Int):aqP du->Nat->(aqP aJ)->aqR ((aqP aJ))
 |[],_,v8=>
  bif (Nat.ble ((v8.length+v3.length)*24) 140737488355328)then
  some (v8++v3)
  else none
 |v6::v7,v4,v8=>
  Option.bind (v2[((v4:Int)).toNat]?) λv9=>
  bif (aO v9==v9)then
  bif (Nat.ble ((v8.length+1)*24) 140737488355328)then
  (λcl=>G4 N v3 v2 v7 (v4+1) cl) (v8++[(⟨v6.au,(Int64.ofInt v9)⟩:aJ)])
  else none
  else none
def JQ(N:Nat)(v1:aqP du)(v2:aqP Int)(v3:aqP aJ):aqR ((aqP aJ)):=
 G4 N v3 v2 v1 0 []
theorem U6{N v1 v2 v3}:KO 75 [(.d (.sl (dAxiss v1))),(.d (.sl (bn v2))),(.d (.sl (aW v3)))] (λr=> .d (.sl (aW r))) (JQ N v1 v2 v3):=
 fw Tryz.func75 (gA [[],[],[(4,oL v1 kZ)]] (li (λ_=>(vH 7 68 2 [] (.inr (by kernel_rfl)) ·)) (gT sK 0 v1 λh2=>gU 1 [] [1,2,7,10,11,12] 1 (λv4(v8:aqP aJ)=>⟨31,[(1,(.d (.sl (bn v2)))),(2,(.d (.sl (aW v3)))),(7,(.own 0 (aW v8))),(10,(.d (.sl (dAxiss v1)))),(11,(ar (v1.length:Int))),(12,(ar (v4:Int)))],[.front 68 2 v8.length]⟩) (λv4 v8 h3 f1=>dN λh4=>gR [[],[f0 (cu h3)],[(7,oA yY v8 v3 h4)]]) (λv4 v6 v7 v8 h3 f1 aU=>aB λv9 h5=>dN λh7=>dN λh8=>gb aU (v8++[(⟨v6.au,(Int64.ofInt v9)⟩:aJ)]) [[],[t0 (cv h3)],[(4,oE (xC (bI h3)))],[(16,oE (iK h5)),(23,⟨_,_, .eq (congrArg (λz=>AV.agg [(di v6.au),z]) (IF (beq_iff_eq.1 h7)))⟩),(28,oA yY v8 ([(⟨v6.au,(Int64.ofInt v9)⟩:aJ)]) h8)],[(2,oq (cD h3 rfl h2))]] h3))))
def zd(N:Nat)(v1:aqP aJ)(v2:aqP aI)(v3:aqP (aqQ×aT)):aqR ((aqP aJ)):=
 some v1
def Fs(v2:aqP aI)(v3:aqP (aqQ×aT))(v1:aqP aJ)(l:aqP aq):aqP aq:= .cells [(.mp 2)]:: .cells [(.d (.sl (aZ v2)))]:: .map (cf bZ v3):: .cells [(.fn 68 [(.ptr 0 0),(.ptr 1 0)])]:: .cells [(.d (.sl (aW v1)))]::l
theorem jM{N v1 v2 v3 r}(U:zd N v1 v2 v3=some r):KH 41 [(.fn 68 [(.ptr 0 0),(.ptr 1 0)]),(.d (.sl (aW v1)))] ([.cells [(.mp 2)], .cells [(.d (.sl (aZ v2)))], .map (cf bZ v3)]) (.ptr 5 0) ([.cells [(.mp 2)], .cells [(.d (.sl (aZ v2)))], .map (cf bZ v3), .cells [(.fn 68 [(.ptr 0 0),(.ptr 1 0)])], .cells [(.d (.sl (aW r)))], .cells [(.fn 65 [(.ptr 3 0),(.ptr 4 0),(.ptr 6 0)]),(.fn 63 [(.ptr 6 0)])], .cells [(.ptr 5 0)]]):=by
 rw[zd]at U;refine Gx 7 Tryz.func41 rfl (by kernel_rfl) (ap9 rfl) ?_;refine mz (s':=⟨17,[(0,(.fn 68 [(.ptr 0 0),(.ptr 1 0)])),(1,(.d (.sl (aW v1))))],[.cells [(.mp 2)], .cells [(.d (.sl (aZ v2)))], .map (cf bZ v3)]⟩) (by kernel_rfl) ?_;refine aD ?_;refine rg [] [(2,(.ptr 3 0)),(3,(.ptr 4 0))] (Fs v2 v3 v1 []) (by kernel_rfl) ?_;refine aD ?_;refine rg [] [(5,(.ptr 6 0))] (Fs v2 v3 v1 [.cells [(.d (.v .nilFunc)),(.d (.v .nilFunc))], .cells [(.ptr 5 0)]]) (by kernel_rfl) ?_;refine aD ?_;refine rg [] [] (Fs v2 v3 v1 [.cells [(.d (.v .nilFunc)),(.fn 63 [(.ptr 6 0)])], .cells [(.ptr 5 0)]]) (by kernel_rfl) ?_;refine aD ?_;refine rg [] [] (Fs v2 v3 v1 [.cells [(.fn 65 [(.ptr 3 0),(.ptr 4 0),(.ptr 6 0)]),(.fn 63 [(.ptr 6 0)])], .cells [(.ptr 5 0)]]) (by kernel_rfl) ?_;refine aD ?_;refine rg [] [(4,(.ptr 5 0))] (Fs v2 v3 v1 [.cells [(.fn 65 [(.ptr 3 0),(.ptr 4 0),(.ptr 6 0)]),(.fn 63 [(.ptr 6 0)])], .cells [(.ptr 5 0)]]) (by kernel_rfl) ?_;refine c8 ?_;have hr:=aqk U;subst hr;exact vc (eY trivial (eY trivial (eY trivial (eY trivial (eY trivial (eY trivial (eY trivial jU))))))) (by kernel_rfl)
def El(N:Nat)(v1:aqQ)(v2:aqP aI)(v3:aqP (aqQ×aT)):aqR (aT×Int×(aqP (aqQ×aT))):=
 bif (mq v3 v1)then
  some ((gv v3 v1 (⟨(⟨0,0,0,0,0⟩:aF),[],[]⟩:aT)),(0:Int),v3)
 else
  (vz N v2 v1).bind λv4=>
  bif v4.2 then
   (Gd N v4.1).bind λv5=>
   bif (v5 !=0)then
    some (v4.1,(1:Int),v3)
   else
    bif (Nat.blt v3.length 9223372036854775807)then
    some (v4.1,(0:Int),((v1,v4.1)::v3))
    else none
  else
   some (v4.1,(9:Int),v3)
theorem ada{N v1 v2 v3}:KP 68 [(di v1),(.ptr 0 0),(.ptr 1 0)] [.cells [(.mp 2)], .cells [(.d (.sl (aZ v2)))], .map (cf bZ v3)] (λr=> .bj [(gZ r.1),(ar r.2.1)]) (λr=>[.cells [(.mp 2)], .cells [(.d (.sl (aZ v2)))], .map (cf bZ r.2.2)]) (El N v1 v2 v3):=
 fh 3 Tryz.func68 (gA [[],[(8,⟨_,_, .eq (afy bZ (.agg #[.int .i64 0, .int .i64 0, .int .i64 0, .int .i64 0, .int .i64 0, .slice none 0 0, .slice none 0 0]) (⟨(⟨0,0,0,0,0⟩:aF),[],[]⟩:aT) rfl true v3 v1)⟩)],[]] (aC (λJ=>gH [[t0 J],[]]) λJ=>aB λv4 h2=>gA [[f0 J],[(7,cK Ku h2)],[]] (aC (λh3=>aB λv5 h4=>gA [[f0 (dq h3)],[(4,cK XP h4)]] (aC (λh5=>gH [[t0 h5],[]]) λh5=>dN λh6=>gH [[f0 h5],[(10,⟨_,_, .sd (o:= .none) (aeS (f:=bZ) h6)⟩)],[]])) λh3=>gH [[t0 (dZ h3)],[]])))
def CH(N:Nat)(v1:Int)(v2:Int64)(v3:Int):aqR (Int×Int):=
 Option.bind (bif (decide (v2.toInt<0))then some true else some (decide (v2.toInt>=v3))) λv4=>
 bif v4 then
  some ((0:Int),(12:Int))
 else
  some ((aO ((aO (v1*v3))+v2.toInt)),(0:Int))
theorem adf{N v1 v2 v3}:KO 172 [(ar v1),(bC v2),(ar v3)] (λr=> .bj [(ar r.1),(ar r.2)]) (CH N v1 v2 v3):=
 fw Tryz.func172 (gA [[]] (gG (λv4=>[(14,(aK v4))]) (λ_=>[]) (aC (λJ=>gE [(2,bT J)] []) λJ=>gE [(2,bF J)] []) λv4=>bQ λh3=>gR [[f0 h3],[]]))
def GB(N:Nat)(v6:aT×Int×(aqP (aqQ×aT)))(v3:Int)(v1:aqP aJ):aqP bz->Nat->Int->aqR (Int64×Int×(aqP (aqQ×aT)))
 |[],_,v11=>
  bif (decide ((0:Int)<=v11))then
  Option.bind (v6.1.dn[(v11).toNat]?) λv12=>
  bif (aO (if(if(aO (v3-(1:Int)))<v12.xN.toInt then(aO (v3-(1:Int)))else v12.xN.toInt)>0then(if(aO (v3-(1:Int)))<v12.xN.toInt then(aO (v3-(1:Int)))else v12.xN.toInt)else(0:Int))==(if(if(aO (v3-(1:Int)))<v12.xN.toInt then(aO (v3-(1:Int)))else v12.xN.toInt)>0then(if(aO (v3-(1:Int)))<v12.xN.toInt then(aO (v3-(1:Int)))else v12.xN.toInt)else(0:Int)))then
  some ((Int64.ofInt (if(if(aO (v3-(1:Int)))<v12.xN.toInt then(aO (v3-(1:Int)))else v12.xN.toInt)>0then(if(aO (v3-(1:Int)))<v12.xN.toInt then(aO (v3-(1:Int)))else v12.xN.toInt)else(0:Int))),(0:Int),v6.2.2)
  else none
  else none
 |v9::v10,v7,v11=>
  (vY N v9 v1).bind λaL=>
  bif (aL.2 !=0)then
   some ((0:Int64),aL.2,v6.2.2)
  else
   Option.bind (v6.1.aS[((v7:Int)).toNat]?) λaQ=>
   (CH N v11 aL.1 aQ).bind λbu=>
   bif (bu.2 !=0)then
    some ((0:Int64),bu.2,v6.2.2)
   else
    (λcl=>GB N v6 v3 v1 v10 (v7+1) cl) bu.1
def Kt(N:Nat)(v1:aqP aJ)(v2:cO)(v3:Int)(v4:aqP aI)(v5:aqP (aqQ×aT)):aqR (Int64×Int×(aqP (aqQ×aT))):=
 (El N v2.cU v4 v5).bind λv6=>
 bif (v6.2.1 !=0)then
  some ((0:Int64),v6.2.1,v6.2.2)
 else
  bif (v6.1.ax.bg !=3)then
   some ((0:Int64),(10:Int),v6.2.2)
  else
   bif ((v2.cT.length:Int) !=(v6.1.aS.length:Int))then
    some ((0:Int64),(11:Int),v6.2.2)
   else
    GB N v6 v3 v1 v2.cT 0 (0:Int)
theorem alp{N v1 v2 v3 v4 v5}:KP 171 [(.fn 68 [(.ptr 0 0),(.ptr 1 0)]),(.d (.sl (aW v1))),(h1 v2),(ar v3)] [.cells [(.mp 2)], .cells [(.d (.sl (aZ v4)))], .map (cf bZ v5)] (λr=> .bj [(bC r.1),(ar r.2.1)]) (λr=>[.cells [(.mp 2)], .cells [(.d (.sl (aZ v4)))], .map (cf bZ r.2.2)]) (Kt N v1 v2 v3 v4 v5):=
 fh 3 Tryz.func171 (aB λv6 J=>gA [[],[(10,oR [(di v2.cU),(.ptr 0 0),(.ptr 1 0)] [.cells [(.mp 2)], .cells [(.d (.sl (aZ v4)))], .map (cf bZ v5), .cells (h1 v2).cells] [0,1,2] (ada _ J))],[]] (aC (λh2=>gH [[t0 h2],[]]) λh2=>gA [[f0 h2],[]] (aC (λh3=>gH [[t0 h3],[]]) λh3=>gA [[f0 h3],[(7,oL v2.cT jz),(16,oL v6.1.aS fy)]] (aC (λh4=>gH [[t0 h4],[]]) λh4=>gA [[f0 h4],[],[(7,oL v2.cT jz)]] (gT sT 42 v2.cT λh6=>gU 1 [] [1,3,10,12,42,43,44] 5 (λv7(v11:Int)=>⟨83,[(1,(.d (.sl (aW v1)))),(3,(ar v3)),(10,(.ptr 4 0)),(12,(ar v11)),(42,(.d (.sl (gj v2.cT)))),(43,(ar (v2.cT.length:Int))),(44,(ar (v7:Int)))],[.cells [(.mp 2)], .cells [(.d (.sl (aZ v4)))], .map (cf bZ v6.2.2), .cells (h1 v2).cells, .cells (gZ v6.1).cells]⟩) (λv7 v11 h7 f1=>dN λh9=>aB λv12 h8=>dN λbE=>gH [[],[f0 (cu h7)],[(10,⟨_,_, .el (xs:=dO v6.1.dn) (i:=v11) (of_decide_eq_true h9) (qO h8)⟩),(32,⟨_,_, .eq (IF (beq_iff_eq.1 bE))⟩)]]) (λv7 v9 v10 v11 h7 f1 aU=>aB λaL bD=>gA [[],[t0 (cv h7)],[(4,oE (vN (bI h7)))],[(7,cK EI bD)],[]] (aC (λbw=>gH [[t0 bw],[]]) λbw=>aB λaQ cN=>aB λbu cH=>gA [[f0 bw],[(16,oE (iK cN)),(22,cK adf cH)],[]] (aC (λcM=>gH [[t0 cM],[]]) λcM=>gb aU bu.1 [[f0 cM],[(2,oq (cD h7 rfl h6))]] h7))))))))
def AE(N:Nat)(v5:aT×Int×(aqP (aqQ×aT)))(v6:Nat)(v10:Int)(jB:Int->(aqP (aqQ×aT))->aqR (fa×Int×(aqP (aqQ×aT))))(aL:Int)(aQ:Int64)(bu:aqP (aqQ×aT)):aqR (fa×Int×(aqP (aqQ×aT))):=
 bif (aL !=0)then
  some (zi,aL,bu)
 else
  Option.bind (v5.1.aS[((v6:Int)).toNat]?) λbG=>
  (CH N v10 aQ bG).bind λcw=>
  bif (cw.2 !=0)then
   some (zi,cw.2,bu)
  else
   jB cw.1 bu
def qL(N:Nat)(v5:aT×Int×(aqP (aqQ×aT)))(v1:aqP aJ)(v3:aqP aI):aqP cO->Nat->Int->(aqP (aqQ×aT))->aqR (fa×Int×(aqP (aqQ×aT)))
 |[],_,v10,v11=>
  bif (decide ((0:Int)<=v10))then
  Option.bind (v5.1.dn[(v10).toNat]?) λv12=>
  some ((⟨v12,v5.1.ax⟩:fa),(0:Int),v11)
  else none
 |v8::v9,v6,v10,v11=>
  bif (bL v8.cU==bL (bs []))then
   (vY N v8.bo v1).bind λbY=>
   AE N v5 v6 v10 (λcl fx=>qL N v5 v1 v3 v9 (v6+1) cl fx) bY.2 bY.1 v11
  else
   Option.bind (v5.1.aS[((v6:Int)).toNat]?) λcm=>
   (Kt N v1 v8 cm v3 v11).bind λv20=>
   AE N v5 v6 v10 (λcl fx=>qL N v5 v1 v3 v9 (v6+1) cl fx) v20.2.1 v20.1 v20.2.2
def EU(N:Nat)(v1:aqP aJ)(v2:aw)(v3:aqP aI)(v4:aqP (aqQ×aT)):aqR (fa×Int×(aqP (aqQ×aT))):=
 (El N v2.au v3 v4).bind λv5=>
 bif (v5.2.1 !=0)then
  some (zi,v5.2.1,v5.2.2)
 else
  bif ((v2.xIdx.length:Int) !=(v5.1.aS.length:Int))then
   some (zi,(11:Int),v5.2.2)
  else
   qL N v5 v1 v3 v2.xIdx 0 (0:Int) v5.2.2
def Ax(v3:aqP aI)(v4:aqP (aqQ×aT))(v2:aw)(l:aqP aq):aqP aq:= .cells [(.mp 2)]:: .cells [(.d (.sl (aZ v3)))]:: .map (cf bZ v4):: .cells (aP v2).cells:: .cells dA::l
def xA(v3:aqP aI)(v5:aT×Int×(aqP (aqQ×aT)))(v2:aw)(l:aqP aq):aqP aq:= .cells [(.mp 2)]:: .cells [(.d (.sl (aZ v3)))]:: .map (cf bZ v5.2.2):: .cells (aP v2).cells:: .cells dA:: .cells (gZ v5.1).cells::l
def pF(v3:aqP aI)(v11:aqP (aqQ×aT))(v2:aw)(v5:aT×Int×(aqP (aqQ×aT)))(v8:cO)(l:aqP aq):aqP aq:=Ax v3 v11 v2 (.cells (gZ v5.1).cells:: .cells (h1 v8).cells::l)
def RI(v3:aqP aI)(l:aqP aq):aqP aq:= .cells [(.mp 2)]:: .cells [(.d (.sl (aZ v3)))]::l
theorem aeu(N:Nat)(v1:aqP aJ)(v2:aw)(v3:aqP aI)(v4:aqP (aqQ×aT))(r:fa×Int×(aqP (aqQ×aT)))(U:EU N v1 v2 v3 v4=some r):KH 113 [(.fn 68 [(.ptr 0 0),(.ptr 1 0)]),(.d (.sl (aW v1))),(aP v2)] ([.cells [(.mp 2)], .cells [(.d (.sl (aZ v3)))], .map (cf bZ v4)]) (.bj [(dK r.1),(ar r.2.1)]) ([.cells [(.mp 2)], .cells [(.d (.sl (aZ v3)))], .map (cf bZ r.2.2)]):=by
 rw[EU]at U;refine rK 3 Tryz.func113 rfl (by kernel_rfl) (ap9 rfl) ?_;refine mz (s':=⟨91,[(0,(.fn 68 [(.ptr 0 0),(.ptr 1 0)])),(1,(.d (.sl (aW v1)))),(2,(aP v2))],(RI v3 [.map (cf bZ v4)])⟩) (by kernel_rfl) ?_;refine aD ?_;refine rg [] [(5,(.ptr 3 0)),(6,(.ptr 4 0))] (Ax v3 v4 v2 []) (by kernel_rfl) ?_;refine aD ?_;obtain⟨v5,J,U⟩:=bO U;refine rg [(10,oR [(di v2.au),(.ptr 0 0),(.ptr 1 0)] (Ax v3 v4 v2 []) [0,1,2] (ada _ J))] [(8,(.ptr 5 0)),(9,(ar v5.2.1))] (xA v3 v5 v2 []) (by kernel_rfl) ?_;refine aD ?_;refine aD ?_;refine rg [] [(22,(aK (v5.2.1 !=0)))] (xA v3 v5 v2 []) (by kernel_rfl) ?_;rcases eC (v5.2.1 !=0)with h2|h2
 ·replace U:=(dx h2).symm.trans U;refine eW (t:=(v5.2.1 !=0)) (by kernel_rfl) h2 ?_;refine aD ?_;refine rg [] [(7,(ar v5.2.1))] (xA v3 v5 v2 []) (by kernel_rfl) ?_;refine c8 (dg ?_);have hr:=aqk U;subst hr;exact jA (by kernel_rfl)
 replace U:=(eF h2).symm.trans U;refine eP (t:=(v5.2.1 !=0)) (by kernel_rfl) h2 ?_;refine dI ?_;refine bK ?_;refine aD ?_;refine aD ?_;refine rg [(7,oL v2.xIdx ld),(16,oL v5.1.aS fy)] [(31,(aK ((v2.xIdx.length:Int) !=(v5.1.aS.length:Int))))] (xA v3 v5 v2 []) (by kernel_rfl) ?_;rcases eC ((v2.xIdx.length:Int) !=(v5.1.aS.length:Int))with h3|h3
 ·replace U:=(dx h3).symm.trans U;refine eW (t:=((v2.xIdx.length:Int) !=(v5.1.aS.length:Int))) (by kernel_rfl) h3 ?_;refine aD ?_;refine rg [] [(7,(ar (11:Int)))] (xA v3 v5 v2 []) (by kernel_rfl) ?_;refine c8 (dg ?_);have hr:=aqk U;subst hr;exact jA (by kernel_rfl)
 replace U:=(eF h3).symm.trans U;refine eP (t:=((v2.xIdx.length:Int) !=(v5.1.aS.length:Int))) (by kernel_rfl) h3 ?_;refine dI ?_;refine bK ?_;refine aD ?_;refine rg [] [(10,(ar (0:Int)))] (xA v3 v5 v2 []) (by kernel_rfl) ?_;refine aD ?_;refine aD ?_;refine rg [(7,oL v2.xIdx ld)] [(34,(.d (.sl (eZ v2.xIdx)))),(35,(ar (v2.xIdx.length:Int))),(36,(ar (0:Int)))] (xA v3 v5 v2 []) (by kernel_rfl) ?_;refine gq ?_;refine yT 34 (eZ v2.xIdx) (by kernel_rfl) λh4=> ?_;have h5:=Bb ld h4;refine Ot [0,1,6,8,10,34,35,36] 6 (λ((v6,v7,v10,v11):Nat×(aqP cO)×Int×(aqP (aqQ×aT)))=>⟨91,[(0,(.fn 68 [(.ptr 0 0),(.ptr 1 0)])),(1,(.d (.sl (aW v1)))),(6,(.ptr 4 0)),(8,(.ptr 5 0)),(10,(ar v10)),(34,(.d (.sl (eZ v2.xIdx)))),(35,(ar (v2.xIdx.length:Int))),(36,(ar (v6:Int)))],(Ax v3 v11 v2 [.cells (gZ v5.1).cells])⟩) (λ((v6,v7,v10,v11):Nat×(aqP cO)×Int×(aqP (aqQ×aT)))=>v2.xIdx.drop v6=v7/\qL N v5 v1 v3 v7 v6 v10 v11=some r) (λ((v6,v7,v10,v11):Nat×(aqP cO)×Int×(aqP (aqQ×aT)))=>v7.length) (0,v2.xIdx,(0:Int),v5.2.2) (ap9 rfl) (by kernel_rfl) ⟨rfl,U⟩ ?_;rintro⟨v6,v7,v10,v11⟩ ⟨h6,U⟩;cases v7 with
 |nil=>
  rw[qL]at U;refine aD ?_;refine rg [] [(37,(aK (decide ((v6:Int)<(v2.xIdx.length:Int)))))] (Ax v3 v11 v2 [.cells (gZ v5.1).cells]) (by kernel_rfl) ?_;refine aD ?_;refine eP (t:=(decide ((v6:Int)<(v2.xIdx.length:Int)))) (by kernel_rfl) (cu h6) ?_;refine oT (lF (lF (rX rfl ?_)));refine bK ?_;refine aD ?_;have h8:=nm U;replace U:=(dx h8).symm.trans U;obtain⟨v12,h7,U⟩:=bO U;refine rd bA (by kernel_rfl) [(10,⟨_,_, .el (xs:=dO v5.1.dn) (i:=v10) (of_decide_eq_true h8) (qO h7)⟩)] [(7,(ar (0:Int)))] (RI v3 [.map (cf bZ v11), .cells (aP v2).cells, .cells [(bC v12.xN),(bC v12.xD),(ar v5.1.ax.bg),(ar v5.1.ax.bN),(ar v5.1.ax.bM),(ar v5.1.ax.cn),(ar v5.1.ax.ck)], .cells (gZ v5.1).cells]) (by kernel_rfl) ?_;refine c8 ?_;have hr:=aqk U;subst hr;exact jA (by kernel_rfl)
 |cons v8 v9=>
  rw[qL]at U;refine aD ?_;refine rg [] [(37,(aK (decide ((v6:Int)<(v2.xIdx.length:Int)))))] (Ax v3 v11 v2 [.cells (gZ v5.1).cells]) (by kernel_rfl) ?_;refine aD ?_;refine eW (t:=(decide ((v6:Int)<(v2.xIdx.length:Int)))) (by kernel_rfl) (cv h6) ?_;refine dI ?_;refine bK ?_;refine aD ?_;refine gq ?_;refine aD ?_;refine rg [(4,oE (nW (bI h6)))] [(12,(.ptr 6 0)),(11,(ar (v6:Int)))] (pF v3 v11 v2 v5 v8 []) (by kernel_rfl) ?_;refine aD ?_;refine rg [] [] (pF v3 v11 v2 v5 v8 []) (by kernel_rfl) ?_;refine aD ?_;refine aD ?_;refine rg [] [(43,(aK (bL v8.cU==bL (bs []))))] (pF v3 v11 v2 v5 v8 []) (by kernel_rfl) ?_;refine GX [0,1,6,8,9,10,11,13,34,35,36] 7 (λ((aL,aQ,bu):Int×Int64×(aqP (aqQ×aT)))=>⟨91,[(0,(.fn 68 [(.ptr 0 0),(.ptr 1 0)])),(1,(.d (.sl (aW v1)))),(6,(.ptr 4 0)),(8,(.ptr 5 0)),(9,(ar aL)),(10,(ar v10)),(11,(ar (v6:Int))),(13,(bC aQ)),(34,(.d (.sl (eZ v2.xIdx)))),(35,(ar (v2.xIdx.length:Int))),(36,(ar (v6:Int)))],(pF v3 bu v2 v5 v8 [])⟩) (λ((aL,aQ,bu):Int×Int64×(aqP (aqQ×aT)))=>AE N v5 v6 v10 (λcl fx=>qL N v5 v1 v3 v9 (v6+1) cl fx) aL aQ bu=some r) (ap9 rfl) ?_ ?_
  ·rcases eC (bL v8.cU==bL (bs []))with cS|cS
   ·replace U:=(dx cS).symm.trans U;refine eW (t:=(bL v8.cU==bL (bs []))) (by kernel_rfl) cS ?_;obtain⟨bY,cH,U⟩:=bO U;refine re [(10,cK EI cH)] [(9,(ar bY.2)),(13,(bC bY.1)),(50,(ar bY.2)),(49,(bC bY.1)),(44,(.bj [(bC bY.1),(ar bY.2)])),(48,(.bj [(bC bY.1),(ar bY.2)])),(47,(.d (.sl (aW v1)))),(46,(dV v8.bo)),(45,(.ptr 6 0))] (pF v3 v11 v2 v5 v8 []) (by kernel_rfl) ?_;refine bK ?_;exact⟨(bY.2,bY.1,v11),by kernel_rfl,U⟩
   replace U:=(eF cS).symm.trans U;refine eP (t:=(bL v8.cU==bL (bs []))) (by kernel_rfl) cS ?_;obtain⟨cm,cM,v20,fR,U⟩:=zn U;refine rle bA (by kernel_rfl) [(19,oE (iK cM)),(25,oR [(.fn 68 [(.ptr 0 0),(.ptr 1 0)]),(.d (.sl (aW v1))),(h1 v8),(ar cm)] (pF v3 v11 v2 v5 v8 []) [0,1,2] (alp _ fR))] [(9,(ar v20.2.1)),(13,(bC v20.1)),(62,(ar v20.2.1)),(61,(bC v20.1)),(51,(.bj [(bC v20.1),(ar v20.2.1)])),(60,(.bj [(bC v20.1),(ar v20.2.1)])),(59,(ar cm)),(58,(.bk [eK cm] 0 0)),(57,(ar (v6:Int))),(56,(.d (.sl (bn v5.1.aS)))),(55,(.ptr 5 5)),(54,(h1 v8)),(53,(.d (.sl (aW v1)))),(52,(.fn 68 [(.ptr 0 0),(.ptr 1 0)]))] (RI v3 [.map (cf bZ v20.2.2), .cells (aP v2).cells, .cells dA, .cells (gZ v5.1).cells, .cells (h1 v8).cells]) ⟨by kernel_rfl,by kernel_rfl⟩ ?_;refine bK ?_;exact⟨(v20.2.1,v20.1,v20.2.2),by kernel_rfl,U⟩
  rintro⟨aL,aQ,bu⟩ U
  try dsimp only at U
  rw[AE]at U;refine aD ?_;refine aD ?_;refine rg [] [(64,(aK (aL !=0)))] (pF v3 bu v2 v5 v8 []) (by kernel_rfl) ?_;rcases eC (aL !=0)with h9|h9
  ·replace U:=(dx h9).symm.trans U;refine eW (t:=(aL !=0)) (by kernel_rfl) h9 ?_;refine aD ?_;refine rg [] [(7,(ar aL))] (pF v3 bu v2 v5 v8 []) (by kernel_rfl) ?_;refine c8 (dg (fv (dg (dg (fv (dg ?_))))));have hr:=aqk U;subst hr;exact jA (by kernel_rfl)
  replace U:=(eF h9).symm.trans U;refine eP (t:=(aL !=0)) (by kernel_rfl) h9 ?_;refine dI ?_;refine bK ?_;refine aD ?_;obtain⟨bG,bE,cw,bw,U⟩:=zn U;refine rg [(16,oE (iK bE)),(22,cK adf bw)] [(10,(ar cw.1)),(9,(ar cw.2))] (pF v3 bu v2 v5 v8 []) (by kernel_rfl) ?_;refine aD ?_;refine rg [] [(79,(aK (cw.2 !=0)))] (pF v3 bu v2 v5 v8 []) (by kernel_rfl) ?_;rcases eC (cw.2 !=0)with cN|cN
  ·replace U:=(dx cN).symm.trans U;refine eW (t:=(cw.2 !=0)) (by kernel_rfl) cN ?_;refine aD ?_;refine rg [] [(7,(ar cw.2))] (pF v3 bu v2 v5 v8 []) (by kernel_rfl) ?_;refine c8 (fv (dg (dg (fv (dg ?_)))));have hr:=aqk U;subst hr;exact jA (by kernel_rfl)
  replace U:=(eF cN).symm.trans U;refine eP (t:=(cw.2 !=0)) (by kernel_rfl) cN ?_;refine dI ?_;refine iU ?_;refine bK ?_;refine re [(2,oq (cD h6 rfl h5))] [(36,(ar ((v6+1:Nat):Int))),(82,(ar ((v6+1:Nat):Int)))] (pF v3 bu v2 v5 v8 []) (by kernel_rfl) ?_;refine bK ?_;exact⟨(v6+1,v9,cw.1,bu),by kernel_rfl,⟨ma h6,U⟩,aqN _⟩
def Ml(N:Nat)(v5:Int64×Int)(v4:aqP (aqQ×aT))(v7:Int):aqR (fa×Int×(aqP (aqQ×aT))):=
 some ((⟨(⟨v5.1,(1:Int64)⟩:aA),(⟨(3:Int),(0:Int),(0:Int),(0:Int),(0:Int)⟩:aF)⟩:fa),v7,v4)
def I5(N:Nat)(v1:aqP aJ)(v2:aw)(v3:aqP aI)(v4:aqP (aqQ×aT)):aqR (fa×Int×(aqP (aqQ×aT))):=
 bif (v2.az==1)then
  some ((⟨v2.dt,v2.ax⟩:fa),(0:Int),v4)
 else
  bif (v2.az==2)then
   (vY N v2.bo v1).bind λv5=>
   Option.bind (bif (v5.2==0)then(bif (decide (v5.1.toInt>2147483647))then some true else some (decide (v5.1.toInt<(-2147483647:Int))))else some false) λv6=>
   bif v6 then
    Ml N v5 v4 (3:Int)
   else
    Ml N v5 v4 v5.2
  else
   (EU N v1 v2 v3 v4).bind λv8=>
   some (v8.1,v8.2.1,v8.2.2)
def Nx(v3:aqP aI)(v4:aqP (aqQ×aT))(v2:aw)(l:aqP aq):aqP aq:= .cells [(.mp 2)]:: .cells [(.d (.sl (aZ v3)))]:: .map (cf bZ v4):: .cells (aP v2).cells:: .cells dA::l
theorem alg{N v1 v2 v3 v4}:KP 66 [(.fn 68 [(.ptr 0 0),(.ptr 1 0)]),(.d (.sl (aW v1))),(aP v2)] [.cells [(.mp 2)], .cells [(.d (.sl (aZ v3)))], .map (cf bZ v4)] (λr=> .bj [(dK r.1),(ar r.2.1)]) (λr=>[.cells [(.mp 2)], .cells [(.d (.sl (aZ v3)))], .map (cf bZ r.2.2)]) (I5 N v1 v2 v3 v4):=
 fh 3 Tryz.func66 (gA [[],[],[]] (aC (λJ=>gH [[t0 J],[]]) λJ=>gA [[f0 J],[]] (aC (λh2=>aB λv5 h3=>gA [[t0 h2],[(10,cK EI h3)]] (gG (λv6=>[(37,(aK v6))]) (λ_=>(Nx v3 v4 v2 [])) (aC (λh4=>dE (2,bT h4) (aC (λh5=>gE [(5,bT h5)] [(25,bT h5)]) λh5=>gE [(5,bF h5)] [(25,bF h5)])) λh4=>gE [(2,bF h4),(5,uN)] []) λv6=>nq 1 [] [6,8,9] 5 (λ(v7:Int)=>⟨49,[(6,(.ptr 4 0)),(8,(bC v5.1)),(9,(ar v7))],(Nx v3 v4 v2 [])⟩) (Ml N v5 v4) (λf1 aU=>aC (λh7=>gm aU (3:Int) [[t0 h7],[]]) λh7=>gm aU v5.2 [[f0 h7]]) (λv7=>gH [[]]))) λh2=>aB λv8 h8=>gH [[f0 h2],[(10,oR [(.fn 68 [(.ptr 0 0),(.ptr 1 0)]),(.d (.sl (aW v1))),(aP v2)] (Nx v3 v4 v2 []) [0,1,2] (aeu N v1 v2 v3 v4 v8 h8))]])))
def Ci(N:Nat)(v1:Int64)(v2:Int64):aqR Int:=
 bif (decide (v1.toInt<v2.toInt))then
  some (-1:Int)
 else
  bif (decide (v1.toInt>v2.toInt))then
   some (1:Int)
  else
   some (0:Int)
theorem Qr{N v1 v2}:KO 227 [(bC v1),(bC v2)] ar (Ci N v1 v2):=
 fw Tryz.func227 (gA [[],[]] (jq λ_=>bQ λh2=>gR [[f0 h2],[]]))
def SH(N:Nat)(v1:aA)(v2:aA):aqR Int:=
 (kS N v1).bind λv3=>
 Option.bind (bif v3 then (kS N v2).bind λv4=>
 some v4 else some false) λv5=>
 bif v5 then
  Option.bind (Ci N (v1.xN*v2.xD) (v2.xN*v1.xD)) λv6=>
  some v6
 else
  (Ci N v1.xN v2.xN).bind λv7=>
  bif (v7 !=0)then
   some v7
  else
   (Ci N v1.xD v2.xD).bind λv8=>
   some v8
theorem ao1{N v1 v2}:KO 170 [(bq v1),(bq v2)] ar (SH N v1 v2):=
 fw Tryz.func170 (gA [[]] (aB λv3 J=>gG (λv5=>[(11,(aK v5))]) (λ_=>[.cells (bq v1).cells, .cells (bq v2).cells]) (dQ (4,cK nJ J) (aC (λh2=>aB λv4 h3=>gE [(2,bT h2)] [(13,cK nJ h3)]) λh2=>gE [(2,bF h2)] [])) λv5=>aC (λh5=>aB λv6 h6=>gR [[t0 h5],[(14,⟨_,_, .eq (lQ v1.xN v2.xD)⟩),(29,⟨_,_, .eq (lQ v2.xN v1.xD)⟩),(31,cK Qr h6)]]) λh5=>aB λv7 h7=>gA [[f0 h5],[(13,cK Qr h7)],[]] (bQ λh8=>aB λv8 h9=>gR [[f0 h8],[(13,cK Qr h9)]])))
def CF(N:Nat)(v1:aF)(v2:aA)(v3:aA):aqR Int:=
 (m7 N v1 v2).bind λv4=>
 Option.bind (bif v4 then (m7 N v1 v3).bind λv5=>
 some (!v5)else some true) λv6=>
 bif v6 then
  some (0:Int)
 else
  bif (v1.bg==1)then
   (SH N v2 v3).bind λv7=>
   some v7
  else
   bif (decide (v2.xN.toInt<v3.xN.toInt))then
    some (-1:Int)
   else
    bif (decide (v2.xN.toInt>v3.xN.toInt))then
     some (1:Int)
    else
     some (0:Int)
theorem Vt{N v1 v2 v3}:KO 112 [(cq v1),(bq v2),(bq v3)] ar (CF N v1 v2 v3):=
 fw Tryz.func112 (gA [[]] (aB λv4 J=>gG (λv6=>[(7,(aK v6))]) (λ_=>[.cells (cq v1).cells, .cells (bq v2).cells, .cells (bq v3).cells]) (dQ (7,cK vn J) (aC (λh2=>aB λv5 h3=>gE [(4,bF (dq h2))] [(22,cK vn h3)]) λh2=>gE [(4,bT (dZ h2))] [])) λv6=>jq λ_=>aC (λh6=>aB λv7 h7=>gR [[t0 h6],[(7,cK ao1 h7)]]) λh6=>gA [[f0 h6],[]] (jq λ_=>bQ λh9=>gR [[f0 h9],[]])))
def QT(N:Nat)(v1:Int)(v2:Int):aqR Bool:=
 bif (v1==13)then
  some (decide (v2<0))
 else
  bif (v1==14)then
   some (decide (v2<=0))
  else
   some (v2==0)
theorem aej{N v1 v2}:KO 111 [(ar v1),(ar v2)] aK (QT N v1 v2):=
 fw Tryz.func111 (gA [[],[],[]] (jq λ_=>bQ λh2=>gR [[f0 h2],[]]))
def Lx(N:Nat)(v1:aF):aqP aA->Nat->aqR Int
 |[],_=>
  some (0:Int)
 |v6::v7,v4=>
  (sB N v1 v6).bind λv8=>
  bif v8 then
   (Lx N v1 v7 (v4+1))
  else
   some (1:Int)
def qU(N:Nat)(v1:aF)(v2:aqP aA):aqR Int:=
 (uR N v1).bind λv3=>
 bif (v3 !=0)then
  some v3
 else
  Lx N v1 v2 0
theorem zw{N v1 v2}:KO 267 [(cq v1),(.d (.sl (dO v2)))] ar (qU N v1 v2):=
 fw Tryz.func267 (aB λv3 J=>gA [[],[(4,cK HO J)],[]] (bQ λh2=>gA [[f0 h2],[(4,oL v2 kX)]] (gT wj 1 v2 λh4=>fu 1 [] [2,13,14,15] 1 (λv4=>⟨24,[(2,(.ptr 0 0)),(13,(.d (.sl (dO v2)))),(14,(ar (v2.length:Int))),(15,(ar (v4:Int)))],[.cells (cq v1).cells]⟩) (λv4 h5 f1=>gR [[],[f0 (cu h5)],[]]) (λv4 v6 v7 h5 f1 aU=>aB λv8 h6=>gA [[],[t0 (cv h5)],[(1,oE (qO (bI h5)))],[(7,cK Pp h6)]] (k8 λh7=>gb aU () [[f0 (dq h7)],[(2,oq (cD h5 rfl h4))]] h5)))))
def vA(N:Nat)(v1:Int64)(v2:Int64):aqR (aA×Int):=
 bif (v2.toInt==0)then
  some (cP,(4:Int))
 else
  (zV N v1).bind λv3=>
  (zV N v2).bind λv4=>
  (DE N v3 v4).bind λv5=>
  bif (v5 !=0)then
  Option.bind (bif (decide ((IntKind.u64.wrap ((v3).tdiv v5))>2147483647))then some true else some (decide ((IntKind.u64.wrap ((v4).tdiv v5))>2147483647))) λv6=>
  bif v6 then
   some (cP,(3:Int))
  else
   bif ((decide (v1.toInt<0))==(decide (v2.toInt<0)))then
    some ((⟨(Int64.ofInt (IntKind.u64.wrap ((v3).tdiv v5))),(Int64.ofInt (IntKind.u64.wrap ((v4).tdiv v5)))⟩:aA),(0:Int))
   else
    some ((⟨(-(Int64.ofInt (IntKind.u64.wrap ((v3).tdiv v5)))),(Int64.ofInt (IntKind.u64.wrap ((v4).tdiv v5)))⟩:aA),(0:Int))
  else none
theorem Fc{N v1 v2}:KO 268 [(bC v1),(bC v2)] (λr=> .bj [(bq r.1),(ar r.2)]) (vA N v1 v2):=
 fw Tryz.func268 (gA [[],[]] (bQ λJ=>aB λv3 h2=>aB λv4 h3=>aB λv5 h4=>dN λh5=>gA [[f0 J],[],[(4,cK TR h2),(10,cK TR h3)],[(7,cK Xa h4)],[(7,⟨_,_, .nz (b:=v5) (bne_iff_ne.1 h5)⟩),(16,⟨_,_, .nz (b:=v5) (bne_iff_ne.1 h5)⟩)]] (gG (λv6=>[(36,(aK v6))]) (λ_=>[.cells iR]) (aC (λh7=>gE [(2,bT h7)] []) λh7=>gE [(2,bF h7)] []) λv6=>jq λ_=>aC (λbE=>gR [[f0 (dq bE)],[(5,⟨_,_, .eq (kA (IntKind.u64.wrap ((v3).tdiv v5)))⟩),(11,⟨_,_, .eq (kA (IntKind.u64.wrap ((v4).tdiv v5)))⟩)]]) λbE=>gR [[t0 (dZ bE)],[(5,⟨_,_, .eq (kA (IntKind.u64.wrap ((v3).tdiv v5)))⟩),(8,⟨_,_, .eq (zP (Int64.ofInt (IntKind.u64.wrap ((v3).tdiv v5))))⟩),(14,⟨_,_, .eq (kA (IntKind.u64.wrap ((v4).tdiv v5)))⟩)]])))
def S2(N:Nat)(v1:aF)(v2:aA):aqR (aA×Int):=
 Option.bind (qU N v1 [v2]) λv3=>
 bif (v3 !=0)then
  some (cP,v3)
 else
  bif (decide ((0:Int)<=v1.bM))then
  Option.bind (vA N v2.xN (Int64.ofInt ((1:Int)*2^(min (v1.bM).toNat (IntKind.bits .i64))))) λv4=>
  some (v4.1,v4.2)
  else none
theorem ahZ{N v1 v2}:KO 228 [(cq v1),(bq v2)] (λr=> .bj [(bq r.1),(ar r.2)]) (S2 N v1 v2):=
 fw Tryz.func228 (aB λv3 J=>gA [[],[(10,cK zw J)],[]] (bQ λh2=>dN λh3=>aB λv4 h4=>gR [[f0 h2],[(13,⟨_,_, .nn (b:=v1.bM) (of_decide_eq_true h3)⟩),(14,⟨_,_, .eq (kA ((1:Int)*2^(min (v1.bM).toNat (IntKind.bits .i64))))⟩),(16,cK Fc h4)]]))
def Je(N:Nat)(v1:aF)(v2:aA):aqR aA:=
 bif (v1.bg==2)then
  (S2 N v1 v2).bind λv3=>
  some v3.1
 else
  some v2
theorem akZ{N v1 v2}:KO 173 [(cq v1),(bq v2)] bq (Je N v1 v2):=
 fw Tryz.func173 (gA [[],[]] (qn λJ=>aB λv3 h2=>gR [[t0 J],[(7,cK ahZ h2)],[]]))
def Mf(N:Nat)(v3:Int64):aqR Int64:=
 some v3
def Dy(N:Nat)(v1:aA):aqR Int64:=
 (kS N v1).bind λv2=>
 bif v2 then
  bif (v1.xD.toInt !=0)then
  bif (decide ((Int64.ofInt ((v1.xN.toInt).tmod v1.xD.toInt)).toInt<0))then
   Mf N ((Int64.ofInt ((v1.xN.toInt).tdiv v1.xD.toInt))-(1:Int64))
  else
   Mf N (Int64.ofInt ((v1.xN.toInt).tdiv v1.xD.toInt))
  else none
 else
  some (0:Int64)
theorem ajn{N v1}:KO 174 [(bq v1)] bC (Dy N v1):=
 fw Tryz.func174 (aB λv2 J=>gA [[],[(4,cK nJ J)]] (k8 λh2=>dN λh3=>nq 1 [[f0 (dq h2)],[(13,⟨_,_, .nz (b:=v1.xD.toInt) (bne_iff_ne.1 h3)⟩),(14,⟨_,_, .eq (kA ((v1.xN.toInt).tdiv v1.xD.toInt))⟩)],[(13,⟨_,_, .nz (b:=v1.xD.toInt) (bne_iff_ne.1 h3)⟩),(14,⟨_,_, .eq (Sq v1.xN v1.xD.toInt)⟩)]] [3] 1 (λ(v3:Int64)=>⟨21,[(3,(bC v3))],[.cells (bq v1).cells]⟩) (Mf N) (λf1 aU=>aC (λh4=>gm aU ((Int64.ofInt ((v1.xN.toInt).tdiv v1.xD.toInt))-(1:Int64)) [[t0 h4],[(5,⟨_,_, .eq (xQ (Int64.ofInt ((v1.xN.toInt).tdiv v1.xD.toInt)) (1:Int64))⟩)]]) λh4=>gm aU (Int64.ofInt ((v1.xN.toInt).tdiv v1.xD.toInt)) [[f0 h4]]) (λv3=>gR [[]])))
def Cy(N:Nat)(v1:Int):aqR Bool:=
 Option.bind (bif (decide (v1>=1))then some (decide (v1<=4))else some false) λv2=>
 some v2
theorem adG{N v1}:KO 269 [(ar v1)] aK (Cy N v1):=
 fw Tryz.func269 (gA [[]] (gG (λv2=>[(2,(aK v2))]) (λ_=>[]) (aC (λJ=>gE [(2,bT J)] []) λJ=>gE [(2,bF J)] []) λv2=>gR []))
def CG(N:Nat)(v1:Int64):aqR Int:=
 bif (decide (v1.toInt<0))then
  some (IntKind.u64.wrap (0-(IntKind.u64.wrap v1.toInt)))
 else
  some (IntKind.u64.wrap v1.toInt)
theorem acs{N v1}:KO 293 [(bC v1)] (λr=> .d (.v (.int .u64 r))) (CG N v1):=
 fw Tryz.func293 (gA [[],[]] (bQ λJ=>gR [[f0 J],[]]))
def Np(N:Nat)(v1 v2:Int)(v3:Bool)(v4:Int):aqR Int:=bif v2 !=0then some (sL v1 v2 v3 v4)else none
theorem anE{N v1 v2 v3 v4 r}(U:Np N v1 v2 v3 v4=some r):gi Tryz.prog 292 [(.d (.v (.int .u64 v1))),(.d (.v (.int .u64 v2))),(aK v3),(ar v4)] (·=(.d (.v (.int .u64 r)))):=ahN v1 v2 v3 v4 r U
def Bw(N:Nat)(v1:Int64)(v2:Int64)(v3:Int):aqR (Int64×Int):=
 (Cy N v3).bind λv4=>
 bif v4 then
  bif (v2.toInt==0)then
   some ((0:Int64),(4:Int))
  else
   (CG N v1).bind λv5=>
   (CG N v2).bind λv6=>
   Option.bind (Np N v5 v6 (!((decide (v1.toInt<0))==(decide (v2.toInt<0)))) v3) λv7=>
   bif ((decide (v1.toInt<0))==(decide (v2.toInt<0)))then
    bif (decide (v7>=9223372036854775808))then
     some ((0:Int64),(3:Int))
    else
     some ((Int64.ofInt v7),(0:Int))
   else
    some ((Int64.ofInt (IntKind.u64.wrap (0-v7))),(0:Int))
 else
  some ((0:Int64),(1:Int))
theorem NW{N v1 v2 v3}:KO 270 [(bC v1),(bC v2),(ar v3)] (λr=> .bj [(bC r.1),(ar r.2)]) (Bw N v1 v2 v3):=
 fw Tryz.func270 (aB λv4 J=>gA [[],[(4,cK adG J)]] (k8 λh2=>gA [[f0 (dq h2)],[]] (bQ λh3=>aB λv5 h4=>aB λv6 h5=>aB λv7 h6=>gA [[f0 h3],[],[(4,cK acs h4),(10,cK acs h5),(19,cL (anE h6))],[]] (aC (λh7=>gA [[f0 (dq h7)],[]] (bQ λh8=>gR [[f0 h8],[(5,⟨_,_, .eq (kA v7)⟩)]])) λh7=>gR [[t0 (dZ h7)],[(8,⟨_,_, .eq (kA (IntKind.u64.wrap (0-v7)))⟩)]]))))
def Nv(N:Nat)(v1:aA)(v2:Int)(v3:Int):aqR (Int64×Int):=
 (kS N v1).bind λv4=>
 Option.bind (bif v4 then(bif (decide (v2<0))then some true else(bif (decide (v2>30))then some true else (Cy N v3).bind λv5=>
 some (!v5)))else some true) λv6=>
 bif v6 then
  some ((0:Int64),(1:Int))
 else
  bif (decide ((0:Int)<=(IntKind.u64.wrap v2)))then
  Option.bind (Bw N (Int64.ofInt (v1.xN.toInt*2^(min ((IntKind.u64.wrap v2)).toNat (IntKind.bits .i64)))) v1.xD v3) λv7=>
  some (v7.1,v7.2)
  else none
theorem apq{N v1 v2 v3}:KO 229 [(bq v1),(ar v2),(ar v3)] (λr=> .bj [(bC r.1),(ar r.2)]) (Nv N v1 v2 v3):=
 fw Tryz.func229 (gA [[]] (aB λv4 J=>gG (λv6=>[(23,(aK v6))]) (λ_=>[.cells (bq v1).cells]) (dQ (4,cK nJ J) (aC (λh2=>dE (3,bF (dq h2)) (aC (λh3=>gE [(7,bT h3),(11,bT rfl)] []) λh3=>dE (7,bF h3) (aC (λh4=>gE [(11,bT h4)] []) λh4=>aB λv5 h5=>gE [(11,bF h4)] [(40,cK adG h5)]))) λh2=>gE [(3,bT (dZ h2)),(7,bT rfl),(11,bT rfl)] [])) λv6=>bQ λh7=>dN λh8=>aB λv7 h9=>gR [[f0 h7],[(13,⟨_,_, .nn (b:=(IntKind.u64.wrap v2)) (of_decide_eq_true h8)⟩),(14,⟨_,_, .eq (kA (v1.xN.toInt*2^(min ((IntKind.u64.wrap v2)).toNat (IntKind.bits .i64))))⟩),(25,cK NW h9)]]))
def Ru(N:Nat)(v1:Int64)(v2:Int)(v3:Int):aqR (Int64×Bool):=
 (Bc N v2).bind λv4=>
 Option.bind (bif v4 then(bif (v3 !=1)then some (v3 !=2)else some false)else some true) λv5=>
 bif v5 then
  some ((0:Int64),false)
 else
  (Fu N v2).bind λv6=>
  (CA N v2).bind λv7=>
  Option.bind (bif (decide (v1.toInt>=v6.toInt))then some (decide (v1.toInt<=v7.toInt))else some false) λv8=>
  bif v8 then
   some (v1,false)
  else
   Option.bind (bif (v3==1)then some (decide (v1.toInt<v6.toInt))else some false) λv9=>
   bif v9 then
    some (v6,true)
   else
    bif (v3==1)then
     some (v7,true)
    else
     bif (decide ((0:Int)<=(IntKind.u64.wrap (aO ((64:Int)-v2)))))then
     some ((Int64.ofInt (((Int64.ofInt (IntKind.u64.wrap ((IntKind.u64.wrap v1.toInt)*2^(min ((IntKind.u64.wrap (aO ((64:Int)-v2)))).toNat (IntKind.bits .u64))))).toInt).fdiv (2^(min ((IntKind.u64.wrap (aO ((64:Int)-v2)))).toNat (IntKind.bits .i64))))),true)
     else none
theorem aiN{N v1 v2 v3}:KO 271 [(bC v1),(ar v2),(ar v3)] (λr=> .bj [(bC r.1),(aK r.2)]) (Ru N v1 v2 v3):=
 fw Tryz.func271 (gA [[]] (aB λv4 J=>gG (λv5=>[(21,(aK v5))]) (λ_=>[]) (dQ (4,cK OY J) (aC (λh2=>dE (3,bF (dq h2)) (aC (λh3=>gE [(6,bT h3)] [(28,bT h3)]) λh3=>gE [(6,bF h3)] [(28,bF h3)])) λh2=>gE [(3,bT (dZ h2)),(6,uN)] [])) λv5=>bQ λh5=>aB λv6 h6=>aB λv7 h7=>gA [[f0 h5],[(4,cK Yo h6),(10,cK We h7)]] (gG (λv8=>[(26,(aK v8))]) (λ_=>[]) (aC (λh8=>gE [(3,bT h8)] []) λh8=>gE [(3,bF h8)] []) λv8=>bQ λbE=>gA [[f0 bE]] (gG (λv9=>[(36,(aK v9))]) (λ_=>[]) (aC (λbD=>gE [(2,bT bD)] []) λbD=>gE [(2,bF bD)] []) λv9=>jq λ_=>bQ λcS=>dN λcH=>gR [[f0 cS],[],[(10,⟨_,_, .nn (b:=(IntKind.u64.wrap (aO ((64:Int)-v2)))) (of_decide_eq_true cH)⟩),(14,⟨_,_, .eq (kA (IntKind.u64.wrap ((IntKind.u64.wrap v1.toInt)*2^(min ((IntKind.u64.wrap (aO ((64:Int)-v2)))).toNat (IntKind.bits .u64)))))⟩),(19,⟨_,_, .nn (b:=(IntKind.u64.wrap (aO ((64:Int)-v2)))) (of_decide_eq_true cH)⟩),(20,⟨_,_, .eq (ac7 (Int64.ofInt (IntKind.u64.wrap ((IntKind.u64.wrap v1.toInt)*2^(min ((IntKind.u64.wrap (aO ((64:Int)-v2)))).toNat (IntKind.bits .u64))))) (min ((IntKind.u64.wrap (aO ((64:Int)-v2)))).toNat (IntKind.bits .i64)))⟩)]]))))
def pI(N:Nat)(v1:aF)(v2:Int64):aqR aA:=
 (Ru N v2 v1.bN v1.ck).bind λv3=>
 some (⟨v3.1,(1:Int64)⟩:aA)
theorem AN{N v1 v2}:KO 230 [(cq v1),(bC v2)] bq (pI N v1 v2):=
 fw Tryz.func230 (aB λv3 J=>gR [[],[(16,cK aiN J)],[]])
def GV(N:Nat)(v1:aF)(v2:aA):aqR (aA×Int):=
 (uR N v1).bind λv3=>
 bif (v3 !=0)then
  some (cP,v3)
 else
  (Nv N v2 v1.bM v1.cn).bind λv4=>
  Option.bind (bif (v4.2 !=0)then some true else (kS N v2).bind λv5=>
  some (!v5)) λv6=>
  bif v6 then
   some (cP,(1:Int))
  else
   (pI N v1 v4.1).bind λv7=>
   some (v7,(0:Int))
theorem amd{N v1 v2}:KO 175 [(cq v1),(bq v2)] (λr=> .bj [(bq r.1),(ar r.2)]) (GV N v1 v2):=
 fw Tryz.func175 (aB λv3 J=>gA [[],[(4,cK HO J)],[]] (bQ λh2=>aB λv4 h3=>gA [[f0 h2],[(16,cK apq h3)]] (gG (λv6=>[(30,(aK v6))]) (λ_=>[.cells (cq v1).cells, .cells (bq v2).cells, .cells iR]) (aC (λh4=>gE [(2,bT h4)] []) λh4=>aB λv5 h5=>gE [(2,bF h4)] [(13,cK nJ h5)]) λv6=>bQ λh7=>aB λv7 h8=>gR [[f0 h7],[(7,cK AN h8)]])))
def MW(N:Nat)(v1:aF)(v2:aF)(v3:aA):aqR (aA×Int):=
 (mC N v1).bind λv4=>
 Option.bind (bif (v4 !=0)then some true else (mC N v2).bind λv5=>
 some (v5 !=0)) λv6=>
 bif v6 then
  some (cP,(10:Int))
 else
  (m7 N v1 v3).bind λv7=>
  bif v7 then
   (Je N v1 v3).bind λv8=>
   bif (v2.bg==3)then
    (Dy N v8).bind λv9=>
    some ((⟨v9,(1:Int64)⟩:aA),(0:Int))
   else
    bif (v2.bg==2)then
     (GV N v2 v8).bind λv10=>
     some (v10.1,v10.2)
    else
     some (v8,(0:Int))
  else
   some (cP,(1:Int))
theorem ajS{N v1 v2 v3}:KO 114 [(cq v1),(cq v2),(bq v3)] (λr=> .bj [(bq r.1),(ar r.2)]) (MW N v1 v2 v3):=
 fw Tryz.func114 (gA [[]] (aB λv4 J=>gG (λv6=>[(9,(aK v6))]) (λ_=>[.cells (cq v1).cells, .cells (cq v2).cells, .cells (bq v3).cells, .cells iR]) (dQ (4,cK ph J) (aC (λh2=>gE [(3,bT h2)] []) λh2=>aB λv5 h3=>gE [(3,bF h2)] [(16,cK ph h3)])) λv6=>bQ λh5=>aB λv7 h6=>gA [[f0 h5],[(7,cK vn h6)]] (k8 λh7=>aB λv8 h8=>gA [[f0 (dq h7)],[(7,cK akZ h8)],[],[]] (aC (λh9=>aB λv9 bE=>gR [[t0 h9],[(4,cK ajn bE)]]) λh9=>gA [[f0 h9],[]] (qn λbD=>aB λv10 bw=>gR [[t0 bD],[(7,cK amd bw)]])))))
def PN(N:Nat)(v1:aF)(v2:Int64)(v3:Int64):aqR (Int64×Int):=
 some ((-v2),(0:Int))
theorem aiT{N v1 v2 v3}:KO 273 [(cq v1),(bC v2),(bC v3)] (λr=> .bj [(bC r.1),(ar r.2)]) (PN N v1 v2 v3):=
 fw Tryz.func273 (gR [[],[(5,⟨_,_, .eq (zP v2)⟩)]])
def O4(N:Nat)(v1:aF)(v2:aA)(v3:aA):aqR (aA×Int):=
 Option.bind (qU N v1 ([v2,v3])) λv4=>
 bif (v4 !=0)then
  some (cP,v4)
 else
  (PN N v1 v2.xN v3.xN).bind λv5=>
  bif (v5.2 !=0)then
   some (cP,v5.2)
  else
   (pI N v1 v5.1).bind λv6=>
   some (v6,(0:Int))
theorem apl{N v1 v2 v3}:KP 272 [(.agg [(.fn 273 [])]),(cq v1),(bq v2),(bq v3)] [] (λr=> .bj [(bq r.1),(ar r.2)]) (λ_=>[]) (O4 N v1 v2 v3):=
 fh 0 Tryz.func272 (aB λv4 J=>gA [[],[(13,cK zw J)],[]] (aC (λh2=>gH [[t0 h2],[]]) λh2=>aB λv5 h3=>gA [[f0 h2],[(22,cK aiT h3)],[]] (aC (λh4=>gH [[t0 h4],[]]) λh4=>aB λv6 h5=>gH [[f0 h4],[(7,cK AN h5)]])))
def Fw(N:Nat)(v1:aF)(v2:aA):aqR (aA×Int):=
 (O4 N v1 v2 v2).bind λv3=>
 some (v3.1,v3.2)
theorem afh{N v1 v2}:KO 231 [(cq v1),(bq v2)] (λr=> .bj [(bq r.1),(ar r.2)]) (Fw N v1 v2):=
 fw Tryz.func231 (aB λv3 J=>gR [[],[(13,oQ [(.agg [(.fn 273 [])]),(cq v1),(bq v2),(bq v2)] [.cells (cq v1).cells, .cells (bq v2).cells, .cells iR] [] (apl _ J))]])
def JU(N:Nat)(v1:aF)(v2:aA):aqR (aA×Int):=
 bif (v1.bg==2)then
  (Fw N v1 v2).bind λv3=>
  some (v3.1,v3.2)
 else
  some ((⟨(-v2.xN),v2.xD⟩:aA),(0:Int))
theorem ahV{N v1 v2}:KO 176 [(cq v1),(bq v2)] (λr=> .bj [(bq r.1),(ar r.2)]) (JU N v1 v2):=
 fw Tryz.func176 (gA [[],[]] (aC (λJ=>aB λv3 h2=>gR [[t0 J],[(7,cK afh h2)]]) λJ=>gR [[f0 J],[(8,⟨_,_, .eq (zP v2.xN)⟩)]]))
def F5(N:Nat)(v1:Int)(v2:Int64)(v3:Int64):aqR (aA×Int):=
 bif (v1==4)then
  Option.bind (pR N (v2+v3)) λv4=>
  bif v4 then
   some ((⟨(v2+v3),(1:Int64)⟩:aA),(0:Int))
  else
   some (cP,(3:Int))
 else
  bif (v1==5)then
   Option.bind (pR N (v2-v3)) λv5=>
   bif v5 then
    some ((⟨(v2-v3),(1:Int64)⟩:aA),(0:Int))
   else
    some (cP,(3:Int))
  else
   bif (v1==6)then
    Option.bind (pR N (v2*v3)) λv6=>
    bif v6 then
     some ((⟨(v2*v3),(1:Int64)⟩:aA),(0:Int))
    else
     some (cP,(3:Int))
   else
    bif (v3.toInt==0)then
     some (cP,(4:Int))
    else
     bif (v3.toInt !=0)then
     Option.bind (bif ((Int64.ofInt ((v2.toInt).tmod v3.toInt)).toInt !=0)then some (!((decide (v2.toInt<0))==(decide (v3.toInt<0))))else some false) λv7=>
     bif v7 then
      Option.bind (pR N ((Int64.ofInt ((v2.toInt).tdiv v3.toInt))-(1:Int64))) λv8=>
      bif v8 then
       some ((⟨((Int64.ofInt ((v2.toInt).tdiv v3.toInt))-(1:Int64)),(1:Int64)⟩:aA),(0:Int))
      else
       some (cP,(3:Int))
     else
      Option.bind (pR N (Int64.ofInt ((v2.toInt).tdiv v3.toInt))) λv9=>
      bif v9 then
       some ((⟨(Int64.ofInt ((v2.toInt).tdiv v3.toInt)),(1:Int64)⟩:aA),(0:Int))
      else
       some (cP,(3:Int))
     else none
theorem ao4{N v1 v2 v3}:KO 232 [(ar v1),(bC v2),(bC v3)] (λr=> .bj [(bq r.1),(ar r.2)]) (F5 N v1 v2 v3):=
 fw Tryz.func232 (gA [[],[],[],[]] (aC (λJ=>aB λv4 h2=>gA [[t0 J],[(8,⟨_,_, .eq (Ea v2 v3)⟩)],[(4,cK By h2)]] (qR λh3=>gR [[t0 (dZ h3)],[]])) λJ=>gA [[f0 J],[]] (aC (λh4=>aB λv5 h5=>gA [[t0 h4],[(8,⟨_,_, .eq (xQ v2 v3)⟩)],[(4,cK By h5)]] (qR λh6=>gR [[t0 (dZ h6)],[]])) λh4=>gA [[f0 h4],[]] (aC (λh7=>aB λv6 h8=>gA [[t0 h7],[(8,⟨_,_, .eq (lQ v2 v3)⟩)],[(4,cK By h8)]] (qR λh9=>gR [[t0 (dZ h9)],[]])) λh7=>gA [[f0 h7],[]] (bQ λbE=>dN λbD=>gA [[f0 bE],[(7,⟨_,_, .nz (b:=v3.toInt) (bne_iff_ne.1 bD)⟩),(8,⟨_,_, .eq (kA ((v2.toInt).tdiv v3.toInt))⟩)]] (gG (λv7=>[(26,(aK v7))]) (λ_=>[.cells iR]) (dQ (7,⟨_,_, .nz (b:=v3.toInt) (bne_iff_ne.1 bD)⟩) (dQ (8,⟨_,_, .eq (Sq v2 v3.toInt)⟩) (aC (λbw=>gE [(4,bT bw)] []) λbw=>gE [(4,bF bw)] []))) λv7=>aC (λcS=>aB λv8 cH=>gA [[t0 cS],[(5,⟨_,_, .eq (xQ (Int64.ofInt ((v2.toInt).tdiv v3.toInt)) (1:Int64))⟩)],[(4,cK By cH)]] (qR λcM=>gR [[t0 (dZ cM)],[]])) λcS=>aB λv9 eH=>gA [[f0 cS],[(4,cK By eH)]] (qR λfR=>gR [[t0 (dZ fR)],[]])))))))
def Qa(N:Nat)(v1:aF)(v2:Int64)(v3:Int64):aqR (Int64×Int):=
 some ((v2+v3),(0:Int))
theorem akA{N v1 v2 v3}:KO 274 [(cq v1),(bC v2),(bC v3)] (λr=> .bj [(bC r.1),(ar r.2)]) (Qa N v1 v2 v3):=
 fw Tryz.func274 (gR [[],[(8,⟨_,_, .eq (Ea v2 v3)⟩)]])
def RX(N:Nat)(v1:aF)(v2:aA)(v3:aA):aqR (aA×Int):=
 Option.bind (qU N v1 ([v2,v3])) λv4=>
 bif (v4 !=0)then
  some (cP,v4)
 else
  (Qa N v1 v2.xN v3.xN).bind λv5=>
  bif (v5.2 !=0)then
   some (cP,v5.2)
  else
   (pI N v1 v5.1).bind λv6=>
   some (v6,(0:Int))
theorem anT{N v1 v2 v3}:KP 272 [(.agg [(.fn 274 [])]),(cq v1),(bq v2),(bq v3)] [] (λr=> .bj [(bq r.1),(ar r.2)]) (λ_=>[]) (RX N v1 v2 v3):=
 fh 0 Tryz.func272 (aB λv4 J=>gA [[],[(13,cK zw J)],[]] (aC (λh2=>gH [[t0 h2],[]]) λh2=>aB λv5 h3=>gA [[f0 h2],[(22,cK akA h3)],[]] (aC (λh4=>gH [[t0 h4],[]]) λh4=>aB λv6 h5=>gH [[f0 h4],[(7,cK AN h5)]])))
def DR(N:Nat)(v1:aF)(v2:aA)(v3:aA):aqR (aA×Int):=
 (RX N v1 v2 v3).bind λv4=>
 some (v4.1,v4.2)
theorem adN{N v1 v2 v3}:KO 233 [(cq v1),(bq v2),(bq v3)] (λr=> .bj [(bq r.1),(ar r.2)]) (DR N v1 v2 v3):=
 fw Tryz.func233 (aB λv4 J=>gR [[],[(13,oQ [(.agg [(.fn 274 [])]),(cq v1),(bq v2),(bq v3)] [.cells (cq v1).cells, .cells (bq v2).cells, .cells (bq v3).cells, .cells iR] [] (anT _ J))]])
def SQ(N:Nat)(v1:aF)(v2:Int64)(v3:Int64):aqR (Int64×Int):=
 some ((v2-v3),(0:Int))
theorem aoJ{N v1 v2 v3}:KO 275 [(cq v1),(bC v2),(bC v3)] (λr=> .bj [(bC r.1),(ar r.2)]) (SQ N v1 v2 v3):=
 fw Tryz.func275 (gR [[],[(8,⟨_,_, .eq (xQ v2 v3)⟩)]])
def TA(N:Nat)(v1:aF)(v2:aA)(v3:aA):aqR (aA×Int):=
 Option.bind (qU N v1 ([v2,v3])) λv4=>
 bif (v4 !=0)then
  some (cP,v4)
 else
  (SQ N v1 v2.xN v3.xN).bind λv5=>
  bif (v5.2 !=0)then
   some (cP,v5.2)
  else
   (pI N v1 v5.1).bind λv6=>
   some (v6,(0:Int))
theorem apu{N v1 v2 v3}:KP 272 [(.agg [(.fn 275 [])]),(cq v1),(bq v2),(bq v3)] [] (λr=> .bj [(bq r.1),(ar r.2)]) (λ_=>[]) (TA N v1 v2 v3):=
 fh 0 Tryz.func272 (aB λv4 J=>gA [[],[(13,cK zw J)],[]] (aC (λh2=>gH [[t0 h2],[]]) λh2=>aB λv5 h3=>gA [[f0 h2],[(22,cK aoJ h3)],[]] (aC (λh4=>gH [[t0 h4],[]]) λh4=>aB λv6 h5=>gH [[f0 h4],[(7,cK AN h5)]])))
def FB(N:Nat)(v1:aF)(v2:aA)(v3:aA):aqR (aA×Int):=
 (TA N v1 v2 v3).bind λv4=>
 some (v4.1,v4.2)
theorem anC{N v1 v2 v3}:KO 234 [(cq v1),(bq v2),(bq v3)] (λr=> .bj [(bq r.1),(ar r.2)]) (FB N v1 v2 v3):=
 fw Tryz.func234 (aB λv4 J=>gR [[],[(13,oQ [(.agg [(.fn 275 [])]),(cq v1),(bq v2),(bq v3)] [.cells (cq v1).cells, .cells (bq v2).cells, .cells (bq v3).cells, .cells iR] [] (apu _ J))]])
def Qz(N:Nat)(v1:aF)(v2:Int64)(v3:Int64):aqR (Int64×Int):=
 bif (decide ((0:Int)<=v1.bM))then
 Option.bind (Bw N (v2*v3) (Int64.ofInt ((1:Int)*2^(min (v1.bM).toNat (IntKind.bits .i64)))) v1.cn) λv4=>
 some (v4.1,v4.2)
 else none
theorem aoP{N v1 v2 v3}:KO 276 [(cq v1),(bC v2),(bC v3)] (λr=> .bj [(bC r.1),(ar r.2)]) (Qz N v1 v2 v3):=
 fw Tryz.func276 (dN λJ=>aB λv4 h2=>gR [[],[(8,⟨_,_, .eq (lQ v2 v3)⟩),(16,⟨_,_, .nn (b:=v1.bM) (of_decide_eq_true J)⟩),(17,⟨_,_, .eq (kA ((1:Int)*2^(min (v1.bM).toNat (IntKind.bits .i64))))⟩),(25,cK NW h2)]])
def PJ(N:Nat)(v1:aF)(v2:aA)(v3:aA):aqR (aA×Int):=
 Option.bind (qU N v1 ([v2,v3])) λv4=>
 bif (v4 !=0)then
  some (cP,v4)
 else
  (Qz N v1 v2.xN v3.xN).bind λv5=>
  bif (v5.2 !=0)then
   some (cP,v5.2)
  else
   (pI N v1 v5.1).bind λv6=>
   some (v6,(0:Int))
theorem alC{N v1 v2 v3}:KP 272 [(.agg [(.fn 276 [])]),(cq v1),(bq v2),(bq v3)] [] (λr=> .bj [(bq r.1),(ar r.2)]) (λ_=>[]) (PJ N v1 v2 v3):=
 fh 0 Tryz.func272 (aB λv4 J=>gA [[],[(13,cK zw J)],[]] (aC (λh2=>gH [[t0 h2],[]]) λh2=>aB λv5 h3=>gA [[f0 h2],[(22,cK aoP h3)],[]] (aC (λh4=>gH [[t0 h4],[]]) λh4=>aB λv6 h5=>gH [[f0 h4],[(7,cK AN h5)]])))
def DG(N:Nat)(v1:aF)(v2:aA)(v3:aA):aqR (aA×Int):=
 (PJ N v1 v2 v3).bind λv4=>
 some (v4.1,v4.2)
theorem apc{N v1 v2 v3}:KO 235 [(cq v1),(bq v2),(bq v3)] (λr=> .bj [(bq r.1),(ar r.2)]) (DG N v1 v2 v3):=
 fw Tryz.func235 (aB λv4 J=>gR [[],[(13,oQ [(.agg [(.fn 276 [])]),(cq v1),(bq v2),(bq v3)] [.cells (cq v1).cells, .cells (bq v2).cells, .cells (bq v3).cells, .cells iR] [] (alC _ J))]])
def QQ(N:Nat)(v1:aF)(v2:Int64)(v3:Int64):aqR (Int64×Int):=
 bif (decide ((0:Int)<=v1.bM))then
 Option.bind (Bw N (Int64.ofInt (v2.toInt*2^(min (v1.bM).toNat (IntKind.bits .i64)))) v3 v1.cn) λv4=>
 some (v4.1,v4.2)
 else none
theorem akO{N v1 v2 v3}:KO 277 [(cq v1),(bC v2),(bC v3)] (λr=> .bj [(bC r.1),(ar r.2)]) (QQ N v1 v2 v3):=
 fw Tryz.func277 (dN λJ=>aB λv4 h2=>gR [[],[(10,⟨_,_, .nn (b:=v1.bM) (of_decide_eq_true J)⟩),(11,⟨_,_, .eq (kA (v2.toInt*2^(min (v1.bM).toNat (IntKind.bits .i64))))⟩),(22,cK NW h2)]])
end Go.Proofs.YtpeecnpmcbnahaaGreatDoor
