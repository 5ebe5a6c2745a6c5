/-
  Part 11 of the proof: PK5, PK6, PAll, ValNames, ValNode, ValTree, ValTree2, ValidLaw, InVal1, InVal2, InVal3, InVal4, CnB, CnC, CnD, CnE, CnF, CnG, CnH, CnI, CpE.
-/
import Derived.Test.YtmkmibahjanejaaGreatDoorPr10
namespace Go.Proofs.YtmkmibahjanejaaGreatDoor
open Go.RowKit
set_option maxRecDepth 100000
set_option maxHeartbeats 0
set_option linter.unusedVariables false
def Eb:dN:=⟨[],[]⟩
def zc5:apH AV:=[(.d (.v (.slice none 0 0))),(.d (.v (.slice none 0 0)))]
def Fp(N:Nat)(v1:dN)(v3:apI):apH apI->Nat->(apH apI)->(apH apI)->apJ dN
 |[],_,v8,v9=>
  bif (Nat.ble ((v8.length+v1.bH.length)*16) 140737488355328)then
  bif (Nat.ble ((v9.length+v1.yF.length)*16) 140737488355328)then
  some (⟨(v8++v1.bH),(v9++v1.yF)⟩:dN)
  else none
  else none
 |v6::v7,v4,v8,v9=>
  bif (Nat.ble ((v8.length+1)*16) 140737488355328)then
  Option.bind (GV N v3 (v4:Int)) λv10=>
  bif (Nat.ble ((v9.length+1)*16) 140737488355328)then
  (λbm eY=>Fp N v1 v3 v7 (v4+1) bm eY) (v8++[v6]) (v9++[v10])
  else none
  else none
def ry(N:Nat)(v1:dN)(v2:apH apI)(v3:apI):apJ dN:=
 Fp N v1 v3 v2 0 [] []
theorem Fa{N v1 v2 v3}:KO 42 [(ig v1),(.d (.sl (cw v2))),(aL v3)] ig (ry N v1 v2 v3):=
 fw Tryz.func42 (gA [[],[],[]] (li (λ_=>(mL 2 1 9 1 [] (.inr (by kernel_rfl)) ·)) (li (λ_=>(mL 2 0 9 1 [] (.inr (by kernel_rfl)) ·)) (gT gi 1 v2 λh2=>gx2 1 [] [1,2,3,6,7,8] 5 [] [(1,0),(1,1)] (λv4(v8:(apH apI))(v9:(apH apI))=>⟨45,[(1,(.d (.sl (cw v2)))),(2,(aL v3)),(3,(.ptr 0 0)),(6,(.ptr 1 0)),(7,(.ptr 2 0)),(8,(aq (v4:Int)))],[.cells (ig v1).cells, .cells zc5, .cells [(.own 4 (cw v8)),(.own 3 (cw v9))], .front 9 1 v9.length, .front 9 1 v8.length]⟩) (λv4 v8 v9 h3 f1=>bl λh4=>bl λh5=>gR [[(7,oL v2 fK)],[f0 (bK h3)],[(13,oA gi v8 v1.bH h4)],[(13,oA gi v9 v1.yF h5)],[]]) (λv4 v6 v7 v8 v9 h3 f1 aR=>bl λh6=>au λv10 h7=>bl λh8=>jm aR ((v8++[v6]),(v9++[v10])) [[(7,oL v2 fK)],[t0 (bI h3)],[(13,oE (jR (bt h3))),(22,oA gi v8 ([v6]) h6)],[(13,cK ald h7),(19,oA gi v9 ([v10]) h8)],[(5,oq (b5 h3 rfl h2))]] h3)))))
def CH(N:Nat)(v2:apI)(v1:dN):apH apI->Nat->apJ apI
 |[],_=>
  some v2
 |v5::v6,v3=>
  bif (bL v5==bL v2)then
   Option.bind (v1.yF[((v3:Int)).toNat]?) λv7=>
   some v7
  else
   (CH N v2 v1 v6 (v3+1))
def od(N:Nat)(v1:dN)(v2:apI):apJ apI:=
 CH N v2 v1 v1.bH 0
theorem tX{N v1 v2}:KO 43 [(ig v1),(aL v2)] aL (od N v1 v2):=
 fw Tryz.func43 (gA [[],[]] (gB gi 0 0 v1.bH λh2=>fu 1 [] [1,2,5] 1 (λv3=>⟨26,[(1,(aL v2)),(2,(.ptr 0 0)),(5,(aq (v3:Int)))],[.cells (ig v1).cells]⟩) (λv3 h3 f1=>gR [[(10,oL v1.bH fK)],[f0 (bK h3)],[]]) (λv3 v5 v6 h3 f1 aR=>gA [[(10,oL v1.bH fK)],[t0 (bI h3)],[(10,oE (jR (bt h3)))]] (aC (λh4=>au λv7 h5=>gR [[t0 h4],[(10,oE (jR h5))]]) λh4=>gb aR () [[f0 h4],[(5,oq (b5 h3 rfl h2))]] h3))))
def AX(N:Nat)(v7:apH bf)(v8:apI)(v5:bf)(fk:(apH bf)->apJ aN):apH bf->Nat->apJ aN
 |[],v9=>
  bif (decide ((0:Int)<=(v9:Int)))then
  bif (decide (((v9:Int)).toNat<=v7.length))then
  bif (Nat.ble ((0+((v7.take ((v9:Int)).toNat).drop 0).length)*24) 140737488355328)then
  bif (Nat.ble ((((v7.take ((v9:Int)).toNat).drop 0).length+1)*24) 140737488355328)then
  bif (Nat.ble (((((v7.take ((v9:Int)).toNat).drop 0)++[(⟨v8,v5.ck⟩:bf)]).length+(v7.drop ((v9:Int)).toNat).length)*24) 140737488355328)then
  fk ((((v7.take ((v9:Int)).toNat).drop 0)++[(⟨v8,v5.ck⟩:bf)])++(v7.drop ((v9:Int)).toNat))
  else none
  else none
  else none
  else none
  else none
 |v11::v12,v9=>
  bif (Op.bytesLess (bL v11.ao) (bL v8))then
   (AX N v7 v8 v5 fk v12 (v9+1))
  else
   bif (decide (((v9:Int)).toNat<=v7.length))then
   bif (Nat.ble ((0+((v7.take ((v9:Int)).toNat).drop 0).length)*24) 140737488355328)then
   bif (Nat.ble ((((v7.take ((v9:Int)).toNat).drop 0).length+1)*24) 140737488355328)then
   bif (Nat.ble (((((v7.take ((v9:Int)).toNat).drop 0)++[(⟨v8,v5.ck⟩:bf)]).length+(v7.drop ((v9:Int)).toNat).length)*24) 140737488355328)then
   fk ((((v7.take ((v9:Int)).toNat).drop 0)++[(⟨v8,v5.ck⟩:bf)])++(v7.drop ((v9:Int)).toNat))
   else none
   else none
   else none
   else none
def wc(N:Nat)(v2:aN)(v1:dN):apH bf->Nat->(apH bf)->apJ aN
 |[],_,v7=>
  some (⟨v2.xK,v7⟩:aN)
 |v5::v6,v3,v7=>
  (od N v1 v5.ao).bind λv8=>
  AX N v7 v8 v5 (λbm=>wc N v2 v1 v6 (v3+1) bm) v7 0
def vw(N:Nat)(v1:dN)(v2:aN):apJ aN:=
 wc N v2 v1 v2.xL 0 []
theorem Dg{N v1 v2}:KO 44 [(ig v1),(cP v2)] cP (vw N v1 v2):=
 fw Tryz.func44 (gA [[],[],[]] (li (λ_=>(mL 3 1 115 2 [] (.inr (by kernel_rfl)) ·)) (li (λ_=>(akR 3 ·)) (gB nU 1 1 v2.xL λh2=>jH 1 [] [2,3,4,5,6] 5 [] [(2,1)] (λv3(v7:(apH bf))=>⟨71,[(2,(.ptr 0 0)),(3,(.ptr 1 0)),(4,(.ptr 2 0)),(5,(.ptr 3 0)),(6,(aq (v3:Int)))],[.cells (ig v1).cells, .cells (cP v2).cells, .cells Q5, .cells [(de v2.xK),(.d (.sl (c9 v7)))], .front 115 2 0]⟩) (λv3 v7 h3 f1=>gR [[(10,oL v2.xL fG)],[f0 (bK h3)],[]]) (λv3 v5 v6 v7 h3 f1 aR=>au λv8 h4=>gA [[(10,oL v2.xL fG)],[t0 (bI h3)],[(13,oE (o0 (bt h3))),(22,cK tX h4),(34,oE (o0 (bt h3)))],[]] (gB nU 3 1 v7 λh6=>gx0 2 [] [2,3,4,5,6,7,8] 6 [] [(2,1)] (λv9=>⟨71,[(2,(.ptr 0 0)),(3,(.ptr 1 0)),(4,(.ptr 2 0)),(5,(.ptr 3 0)),(6,(aq (v3:Int))),(7,(.ptr 5 0)),(8,(aq (v9:Int)))],[.cells (ig v1).cells, .cells (cP v2).cells, .cells Q5, .cells [(de v2.xK),(.d (.sl (c9 v7)))], .front 115 2 0, .cells [(aL v8),(de v5.ck)]]⟩) (λv9 h7 f2=>bl λh8=>bl λh9=>bl λbM=>bl λbY=>bl λbU=>jm aR ((((v7.take ((v9:Int)).toNat).drop 0)++[(⟨v8,v5.ck⟩:bf)])++(v7.drop ((v9:Int)).toNat)) [[(10,oL v7 fG),(18,bF (bK h7)),(21,bF (bK h7)),(24,bF (bK h7)),(27,bF (bK h7)),(30,bF (bK h7)),(33,bF (bK h7)),(36,bF (bK h7)),(39,bF (bK h7)),(42,bF (bK h7)),(46,bF (bK h7))],[f0 rfl],[],[(13,⟨_,_, .sub (xs:=c9 v7) (lo:=0) (hi:=(v9:Int)) (by decide) (Nat.zero_le _) (of_decide_eq_true h8) (by rw[fG];exact(of_decide_eq_true h9)) u4 XU⟩),(16,oZ nU ((v7.take ((v9:Int)).toNat).drop 0) bM)],[(10,oA nU ((v7.take ((v9:Int)).toNat).drop 0) ([(⟨v8,v5.ck⟩:bf)]) bY)],[(13,⟨_,_, .NX (xs:=c9 v7) (lo:=(v9:Int)) (of_decide_eq_true h8) (by rw[fG];exact(of_decide_eq_true h9)) u4 ach⟩),(16,oA nU (((v7.take ((v9:Int)).toNat).drop 0)++[(⟨v8,v5.ck⟩:bf)]) (v7.drop ((v9:Int)).toNat) bU)],[(5,oq (b5 h3 rfl h2))]] h3) (λv9 v11 v12 h7 f2 cM=>gA [[(10,oL v7 fG),(18,bT (bI h7)),(21,bT (bI h7)),(24,bT (bI h7)),(27,bT (bI h7)),(28,oE (o0 (bt h7))),(30,bT (bI h7)),(33,bT (bI h7)),(36,bT (bI h7)),(39,bT (bI h7)),(42,bT (bI h7)),(46,bT (bI h7))]] (aC (λdp=>jm cM () [[t0 dp],[(5,oq (b5 h7 rfl h6))]] h7) λdp=>bl λdt=>bl λcN=>bl λb9=>bl λdG=>jm aR ((((v7.take ((v9:Int)).toNat).drop 0)++[(⟨v8,v5.ck⟩:bf)])++(v7.drop ((v9:Int)).toNat)) [[f0 dp],[],[(13,⟨_,_, .sub (xs:=c9 v7) (lo:=0) (hi:=(v9:Int)) (by decide) (Nat.zero_le _) (of_decide_eq_true (apA (Int.natCast_nonneg _))) (by rw[fG];exact(of_decide_eq_true dt)) u4 XU⟩),(16,oZ nU ((v7.take ((v9:Int)).toNat).drop 0) cN)],[(10,oA nU ((v7.take ((v9:Int)).toNat).drop 0) ([(⟨v8,v5.ck⟩:bf)]) b9)],[(13,⟨_,_, .NX (xs:=c9 v7) (lo:=(v9:Int)) (of_decide_eq_true (apA (Int.natCast_nonneg _))) (by rw[fG];exact(of_decide_eq_true dt)) u4 ach⟩),(16,oA nU (((v7.take ((v9:Int)).toNat).drop 0)++[(⟨v8,v5.ck⟩:bf)]) (v7.drop ((v9:Int)).toNat) dG)],[(5,oq (b5 h3 rfl h2))]] h3))))))))
def DH(N:Nat)(v1:dN):apH aN->Nat->(apH aN)->apJ ((apH aN))
 |[],_,v7=>
  some v7
 |v5::v6,v3,v7=>
  (vw N v1 v5).bind λv8=>
  bif (Nat.ble ((v7.length+1)*32) 140737488355328)then
  (λbm=>DH N v1 v6 (v3+1) bm) (v7++[v8])
  else none
def GH(N:Nat)(v1:dN)(v2:apH aN):apJ ((apH aN)):=
 DH N v1 v2 0 []
theorem W4{N v1 v2}:KO 45 [(ig v1),(.d (.sl (dE v2)))] (λr=> .d (.sl (dE r))) (GH N v1 v2):=
 fw Tryz.func45 (gA [[],[],[]] (li (λ_=>(l0 5 52 2 [] (.inr (by kernel_rfl)) ·)) (gT pv 1 v2 λh2=>gn 1 [] [1,2,5,6] 2 (λv3(v7:apH aN)=>⟨23,[(1,(.d (.sl (dE v2)))),(2,(.ptr 0 0)),(5,(.own 1 (dE v7))),(6,(aq (v3:Int)))],[.cells (ig v1).cells, .front 52 2 v7.length]⟩) (λv3 v7 h3 f1=>gR [[(7,oL v2 gj)],[f0 (bK h3)],[]]) (λv3 v5 v6 v7 h3 f1 aR=>au λv8 h4=>bl λh5=>gb aR (v7++[v8]) [[(7,oL v2 gj)],[t0 (bI h3)],[(13,oE (oJ (bt h3))),(19,cK Dg h4),(25,oA pv v7 ([v8]) h5)],[(5,oq (b5 h3 rfl h2))]] h3))))
def Cn(N:Nat)(v1:dN):apH bV->Nat->(apH bV)->apJ ((apH bV))
 |[],_,v7=>
  some v7
 |v5::v6,v3,v7=>
  (od N v1 v5.ao).bind λv8=>
  (vw N v1 v5.cg).bind λv9=>
  bif (Nat.ble ((v7.length+1)*48) 140737488355328)then
  (λbm=>Cn N v1 v6 (v3+1) bm) (v7++[(⟨v8,v9⟩:bV)])
  else none
def Fs(N:Nat)(v1:dN)(v2:apH bV):apJ ((apH bV)):=
 Cn N v1 v2 0 []
theorem YG{N v1 v2}:KO 47 [(ig v1),(.d (.sl (dL v2)))] (λr=> .d (.sl (dL r))) (Fs N v1 v2):=
 fw Tryz.func47 (gA [[],[],[]] (li (λ_=>(l0 5 72 3 [] (.inr (by kernel_rfl)) ·)) (gT mO 1 v2 λh2=>gn 1 [] [1,2,5,6] 2 (λv3(v7:apH bV)=>⟨32,[(1,(.d (.sl (dL v2)))),(2,(.ptr 0 0)),(5,(.own 1 (dL v7))),(6,(aq (v3:Int)))],[.cells (ig v1).cells, .front 72 3 v7.length]⟩) (λv3 v7 h3 f1=>gR [[(7,oL v2 eG)],[f0 (bK h3)],[]]) (λv3 v5 v6 v7 h3 f1 aR=>au λv8 h4=>au λv9 h5=>bl λh6=>gb aR (v7++[(⟨v8,v9⟩:bV)]) [[(7,oL v2 eG)],[t0 (bI h3)],[(13,oE (lR (bt h3))),(22,cK tX h4),(34,oE (lR (bt h3))),(43,cK Dg h5),(52,oA mO v7 ([(⟨v8,v9⟩:bV)]) h6)],[(5,oq (b5 h3 rfl h2))]] h3))))
def CD(N:Nat)(v1:dN)(v2:dN):apH bu->Nat->(apH bu)->apJ ((apH bu))
 |[],_,v8=>
  some v8
 |v6::v7,v4,v8=>
  (vw N v1 v6.aQ).bind λv9=>
  (od N v2 v6.bH).bind λv10=>
  (GH N v1 v6.bG).bind λv11=>
  bif (Nat.ble ((v8.length+1)*72) 140737488355328)then
  (λbm=>CD N v1 v2 v7 (v4+1) bm) (v8++[(⟨v9,v10,v11⟩:bu)])
  else none
def N3(N:Nat)(v1:dN)(v2:dN)(v3:apH bu):apJ ((apH bu)):=
 CD N v1 v2 v3 0 []
theorem aod{N v1 v2 v3}:KO 99 [(ig v1),(ig v2),(.d (.sl (cQ v3)))] (λr=> .d (.sl (cQ r))) (N3 N v1 v2 v3):=
 fw Tryz.func99 (gA [[],[],[]] (li (λ_=>(l0 7 111 4 [] (.inr (by kernel_rfl)) ·)) (gT rW 2 v3 λh2=>gn 1 [] [2,3,4,7,8] 3 (λv4(v8:apH bu)=>⟨41,[(2,(.d (.sl (cQ v3)))),(3,(.ptr 0 0)),(4,(.ptr 1 0)),(7,(.own 2 (cQ v8))),(8,(aq (v4:Int)))],[.cells (ig v1).cells, .cells (ig v2).cells, .front 111 4 v8.length]⟩) (λv4 v8 h3 f1=>gR [[(7,oL v3 jD)],[f0 (bK h3)],[]]) (λv4 v6 v7 v8 h3 f1 aR=>au λv9 h4=>au λv10 h5=>au λv11 h6=>bl λh7=>gb aR (v8++[(⟨v9,v10,v11⟩:bu)]) [[(7,oL v3 jD)],[t0 (bI h3)],[(13,oE (kO (bt h3))),(22,cK Dg h4),(34,oE (kO (bt h3))),(43,cK tX h5),(55,oE (kO (bt h3))),(64,cK W4 h6),(73,oA rW v8 ([(⟨v9,v10,v11⟩:bu)]) h7)],[(5,oq (b5 h3 rfl h2))]] h3))))
def Ci(N:Nat)(v3:ar)(v5:apI)(v4:aN)(v6:(apH bu))(aaK:dN->dN->ar->apJ ar)(v1:dN)(v2:dN):apH ar->Nat->(apH ar)->apJ ar
 |[],_,v11=>
  some (⟨v3.aJ,v5,v3.dK,v3.aM,v4,v6,v11⟩:ar)
 |v9::v10,v7,v11=>
  (aaK v1 v2 v9).bind λv12=>
  bif (Nat.ble ((v11.length+1)*160) 140737488355328)then
  (λbm=>Ci N v3 v5 v4 v6 aaK v1 v2 v10 (v7+1) bm) (v11++[v12])
  else none
def tZ(N:Nat):Nat->dN->dN->ar->apJ ar
 |0,_,_,_=>none
 |d+1,v1,v2,v3=>
  (vw N v1 v3.aQ).bind λv4=>
  (od N v2 v3.ao).bind λv5=>
  (N3 N v1 v2 v3.xIdx).bind λv6=>
  Ci N v3 v5 v4 v6 (tZ N d) v1 v2 v3.bk 0 []
def QD(N:Nat)(v1:dN)(v2:dN)(v3:ar):apJ ar:=tZ N N v1 v2 v3
theorem ajg(N:Nat):∀d:Nat,(∀{v1:dN}{v2:dN}{v3:ar},KO 48 [(ig v1),(ig v2),(aW v3)] aW (tZ N d v1 v2 v3)):=by
 intro d
 induction d with
 |zero=>intro v1 v2 v3 r hF;rw[tZ]at hF;cases hF
 |succ d ih=>
  have ade:= @ih;intro v1 v2 v3;rw[tZ];exact fw Tryz.func48 (au λv4 h1=>au λv5 h2=>au λv6 h3=>gA [[],[],[(10,cK Dg h1)],[(10,cK tX h2)],[(13,cK aod h3)],[],[]] (li (λ_=>(mL 4 12 67 13 [] (.inr (by kernel_rfl)) ·)) (gB pD 2 12 v3.bk λh5=>jH 1 [] [3,4,5,6,7,8] 6 [] [(3,10),(3,11),(3,12)] (λv7(v11:(apH ar))=>⟨48,[(3,(.ptr 0 0)),(4,(.ptr 1 0)),(5,(.ptr 2 0)),(6,(.ptr 3 0)),(7,(.ptr 4 0)),(8,(aq (v7:Int)))],[.cells (ig v1).cells, .cells (ig v2).cells, .cells (aW v3).cells, .cells GY, .cells ((aq v3.aJ)::(aL v5)::UP v3 [(de v4.xK),(.d (.sl (c9 v4.xL))),(.d (.sl (cQ v6))),(.own 5 (dU v11))]), .front 67 13 v11.length]⟩) (λv7 v11 h6 f1=>gR [[(10,oL v3.bk j0)],[(0,bF (bK h6))],[]]) (λv7 v9 v10 v11 h6 f1 aR=>au λv12 h7=>bl λh8=>jm aR (v11++[v12]) [[(10,oL v3.bk j0)],[(0,bT (bI h6))],[(22,oE (ma (bt h6))),(28,cK ade h7),(32,⟨_,_, .eq (congrArg AV.full (rY [v12]).symm)⟩),(34,oA pD v11 ([v12]) h8)],[(5,oq (b5 h6 rfl h5))]] h6))))
theorem alr{N v1 v2 v3}:KO 48 [(ig v1),(ig v2),(aW v3)] aW (QD N v1 v2 v3):=(ajg N N)
def zn(N:Nat)(v20:apH apI)(v25:apH cz)(v30:apH cf)(v35:apH aX)(bC:dN):apH apI->Nat->(apH apI)->apJ aG
 |[],_,v40=>
  some (⟨v20,v25,v30,v35,v40⟩:aG)
 |kT::v39,mi,v40=>
  (od N bC kT).bind λv41=>
  bif (Nat.ble ((v40.length+1)*16) 140737488355328)then
  (λN6=>zn N v20 v25 v30 v35 bC v39 (mi+1) N6) (v40++[v41])
  else none
def y7(N:Nat)(v20:apH apI)(v25:apH cz)(v30:apH cf)(bC:dN)(v1:aG)(v3:dN)(v2:ij):apH aX->Nat->(apH aX)->apJ aG
 |[],_,v35=>
  zn N v20 v25 v30 v35 bC v1.bW 0 []
 |v33::nH,v31,v35=>
  (Gk N v33).bind λmK=>
  (ry N v3 mK v2.nh).bind λsI=>
  (od N bC v33.ao).bind λv44=>
  (Fs N sI v33.aO).bind λv45=>
  (Fs N sI v33.aU).bind λv46=>
  (QD N sI bC v33.bR).bind λwE=>
  bif (Nat.ble ((v35.length+1)*272) 140737488355328)then
  (λRB=>y7 N v20 v25 v30 bC v1 v3 v2 nH (v31+1) RB) (v35++[(⟨v44,v33.aM,v45,v46,v33.cr,wE⟩:aX)])
  else none
def zL(N:Nat)(v20:apH apI)(v25:apH cz)(bC:dN)(v1:aG)(v3:dN)(v2:ij):apH cf->Nat->(apH cf)->apJ aG
 |[],_,v30=>
  y7 N v20 v25 v30 bC v1 v3 v2 v1.aw 0 []
 |v28::iB,v26,v30=>
  (od N bC v28.ao).bind λwj=>
  (GH N v3 v28.aO).bind λv49=>
  bif (Nat.ble ((v30.length+1)*80) 140737488355328)then
  (λF2=>zL N v20 v25 bC v1 v3 v2 iB (v26+1) F2) (v30++[(⟨wj,v28.aM,v49⟩:cf)])
  else none
def zR(N:Nat)(v20:apH apI)(bC:dN)(v1:aG)(v3:dN)(v2:ij):apH cz->Nat->(apH cz)->apJ aG
 |[],_,v25=>
  zL N v20 v25 bC v1 v3 v2 v1.aE 0 []
 |v23::v24,v21,v25=>
  (vw N v3 v23.aQ).bind λv50=>
  bif (Nat.ble ((v25.length+1)*40) 140737488355328)then
  (λnA=>zR N v20 bC v1 v3 v2 v24 (v21+1) nA) (v25++[(⟨v50,v23.hY⟩:cz)])
  else none
def FW(N:Nat)(bC:dN)(v1:aG)(v3:dN)(v2:ij):apH apI->Nat->(apH apI)->apJ aG
 |[],_,v20=>
  zR N v20 bC v1 v3 v2 v1.cd 0 []
 |cB::dA,ct,v20=>
  (od N v3 cB).bind λv51=>
  bif (Nat.ble ((v20.length+1)*16) 140737488355328)then
  (λme=>FW N bC v1 v3 v2 dA (ct+1) me) (v20++[v51])
  else none
def ua(N:Nat)(v2:ij)(v8:apH apI)(v1:aG)(v3:dN):apH aX->Nat->(apH apI)->apJ aG
 |[],_,ba=>
  (ry N Eb ba v2.aw).bind λbX=>
  (ry N bX v8 v2.aE).bind λbC=>
  FW N bC v1 v3 v2 v1.az 0 []
 |v11::v12,v9,ba=>
  bif (Nat.ble ((ba.length+1)*16) 140737488355328)then
  (λiP=>ua N v2 v8 v1 v3 v12 (v9+1) iP) (ba++[v11.ao])
  else none
def FO(N:Nat)(v2:ij)(v1:aG)(v3:dN):apH cf->Nat->(apH apI)->apJ aG
 |[],_,v8=>
  ua N v2 v8 v1 v3 v1.aw 0 []
 |v6::v7,v4,v8=>
  bif (Nat.ble ((v8.length+1)*16) 140737488355328)then
  (λbm=>FO N v2 v1 v3 v7 (v4+1) bm) (v8++[v6.ao])
  else none
def Bm(N:Nat)(v1:aG)(v2:ij):apJ aG:=
 (ry N Eb v1.az v2.az).bind λv3=>
 FO N v2 v1 v3 v1.aE 0 []
def Pe(v1:aG)(v2:ij)(v3:dN)(v8:apH apI)(l:apH an):apH an:= .cells (eB v1).cells:: .cells (Ru v2).cells:: .cells Va:: .cells (ig v3).cells:: .front 9 1 v8.length::l
def Dm(v1:aG)(v2:ij)(v3:dN)(v8:apH apI)(ba:apH apI)(bC:dN)(l:apH an):apH an:=Pe v1 v2 v3 v8 (.front 9 1 ba.length:: .cells (ig bC).cells::l)
theorem ag2{N v1 v2}:KO 14 [(eB v1),(Ru v2)] eB (Bm N v1 v2):=
 fw Tryz.func14 (au λv3 h1=>gA [[],[(16,cK Fa h1)],[],[]] (li (λ_=>(l0 6 9 1 [] (.inr (by kernel_rfl)) ·)) (gB pV 0 2 v1.aE λh3=>jH 1 [] [2,3,4,5,6,7,8] 5 [7] [(2,0),(2,1),(2,2),(2,3),(2,4)] (λv4(v8:(apH apI))=>⟨206,[(2,(.ptr 0 0)),(3,(.ptr 1 0)),(4,(.ptr 2 0)),(5,(.ptr 3 0)),(6,(.own 4 (cw v8))),(7,(.d (.v (.slice none 0 0)))),(8,(aq (v4:Int)))],(Pe v1 v2 v3 v8 [])⟩) (λv4 v8 h4 f1=>gA [[(10,oL v1.aE ky)],[f0 (bK h4)],[]] (li (λ_=>(l0 7 9 1 [] (.inr (by kernel_rfl)) ·)) (gB qa 0 3 v1.aw λh6=>jH 2 [] [2,3,4,5,6,7,9] 6 [] [(2,0),(2,1),(2,2),(2,3),(2,4)] (λv9(ba:(apH apI))=>⟨206,[(2,(.ptr 0 0)),(3,(.ptr 1 0)),(4,(.ptr 2 0)),(5,(.ptr 3 0)),(6,(.own 4 (cw v8))),(7,(.own 5 (cw ba))),(9,(aq (v9:Int)))],(Pe v1 v2 v3 v8 [.front 9 1 ba.length])⟩) (λv9 ba h7 f2=>au λbX h8=>au λbC h9=>gA [[(10,oL v1.aw kp)],[f0 (bK h7)],[(13,cK Fa h8),(25,cK Fa h9)],[],[]] (li (λ_=>(mL 7 0 9 1 [] (.inr (by kernel_rfl)) ·)) (gB gi 0 0 v1.az λbY=>jH 3 [] [2,3,4,5,10,11,12] 9 [] [(2,0),(2,1),(2,2),(2,3),(2,4),(7,1),(7,2),(7,3),(7,4)] (λct(v20:(apH apI))=>⟨206,[(2,(.ptr 0 0)),(3,(.ptr 1 0)),(4,(.ptr 2 0)),(5,(.ptr 3 0)),(10,(.ptr 6 0)),(11,(.ptr 7 0)),(12,(aq (ct:Int)))],(Dm v1 v2 v3 v8 ba bC [.cells [(.own 8 (cw v20)),(.d (.v (.slice none 0 0))),(.d (.v (.slice none 0 0))),(.d (.v (.slice none 0 0))),(.d (.v (.slice none 0 0)))], .front 9 1 v20.length])⟩) (λct v20 bU f3=>gA [[(10,oL v1.az fK)],[f0 (bK bU)],[]] (li (λ_=>(mL 7 1 54 3 [] (.inr (by kernel_rfl)) ·)) (gB wP 0 1 v1.cd λdt=>jH 4 [] [2,3,4,5,10,11,13] 10 [] [(2,0),(2,1),(2,2),(2,3),(2,4),(7,2),(7,3),(7,4)] (λv21(v25:(apH cz))=>⟨206,[(2,(.ptr 0 0)),(3,(.ptr 1 0)),(4,(.ptr 2 0)),(5,(.ptr 3 0)),(10,(.ptr 6 0)),(11,(.ptr 7 0)),(13,(aq (v21:Int)))],(Dm v1 v2 v3 v8 ba bC [.cells [(.own 8 (cw v20)),(.own 9 (gU v25)),(.d (.v (.slice none 0 0))),(.d (.v (.slice none 0 0))),(.d (.v (.slice none 0 0)))], .front 9 1 v20.length, .front 54 3 v25.length])⟩) (λv21 v25 cN f4=>gA [[(10,oL v1.cd mH)],[f0 (bK cN)],[]] (li (λ_=>(mL 7 2 59 7 [] (.inr (by kernel_rfl)) ·)) (gB pV 0 2 v1.aE λdG=>jH 5 [] [2,3,4,5,10,11,14] 11 [] [(2,0),(2,1),(2,2),(2,3),(2,4),(7,3),(7,4)] (λv26(v30:(apH cf))=>⟨206,[(2,(.ptr 0 0)),(3,(.ptr 1 0)),(4,(.ptr 2 0)),(5,(.ptr 3 0)),(10,(.ptr 6 0)),(11,(.ptr 7 0)),(14,(aq (v26:Int)))],(Dm v1 v2 v3 v8 ba bC [.cells [(.own 8 (cw v20)),(.own 9 (gU v25)),(.own 10 (iR v30)),(.d (.v (.slice none 0 0))),(.d (.v (.slice none 0 0)))], .front 9 1 v20.length, .front 54 3 v25.length, .front 59 7 v30.length])⟩) (λv26 v30 eM f5=>gA [[(10,oL v1.aE ky)],[f0 (bK eM)],[]] (li (λ_=>(mL 7 3 69 22 [] (.inr (by kernel_rfl)) ·)) (gB qa 0 3 v1.aw λdx=>jH 6 [] [2,3,4,5,10,11,16] 12 [] [(2,0),(2,1),(2,2),(2,3),(2,4),(7,4)] (λv31(v35:(apH aX))=>⟨206,[(2,(.ptr 0 0)),(3,(.ptr 1 0)),(4,(.ptr 2 0)),(5,(.ptr 3 0)),(10,(.ptr 6 0)),(11,(.ptr 7 0)),(16,(aq (v31:Int)))],(Dm v1 v2 v3 v8 ba bC [.cells [(.own 8 (cw v20)),(.own 9 (gU v25)),(.own 10 (iR v30)),(.own 11 (gK v35)),(.d (.v (.slice none 0 0)))], .front 9 1 v20.length, .front 54 3 v25.length, .front 59 7 v30.length, .front 69 22 v35.length])⟩) (λv31 v35 fB f6=>gA [[(10,oL v1.aw kp)],[f0 (bK fB)],[]] (li (λ_=>(mL 7 4 9 1 [] (.inr (by kernel_rfl)) ·)) (gB gi 0 4 v1.bW λfP=>jH 7 [] [2,4,10,11,19] 13 [] [(2,0),(2,1),(2,2),(2,3),(2,4)] (λmi(v40:(apH apI))=>⟨206,[(2,(.ptr 0 0)),(4,(.ptr 2 0)),(10,(.ptr 6 0)),(11,(.ptr 7 0)),(19,(aq (mi:Int)))],(Dm v1 v2 v3 v8 ba bC [.cells [(.own 8 (cw v20)),(.own 9 (gU v25)),(.own 10 (iR v30)),(.own 11 (gK v35)),(.own 12 (cw v40))], .front 9 1 v20.length, .front 54 3 v25.length, .front 59 7 v30.length, .front 69 22 v35.length, .front 9 1 v40.length])⟩) (λmi v40 fz f7=>gR [[(10,oL v1.bW fK)],[f0 (bK fz)],[]]) (λmi kT v39 v40 fz f7 MO=>au λv41 ir=>bl λgg=>jm MO (v40++[v41]) [[(10,oL v1.bW fK)],[t0 (bI fz)],[(19,oE (jR (bt fz))),(25,cK tX ir),(31,oA gi v40 ([v41]) gg)],[(5,oq (b5 fz rfl fP))]] fz)))) (λv31 v33 nH v35 fB f6 AK=>au λmK ik=>au λsI fM=>au λv44 jt=>au λv45 iv=>au λv46 lD=>au λwE kr=>bl λk9=>jm AK (v35++[(⟨v44,v33.aM,v45,v46,v33.cr,wE⟩:aX)]) [[(10,oL v1.aw kp)],[t0 (bI fB)],[(10,oE (oY (bt fB)))],[(7,cK ak2 ik),(16,cK Fa fM)],[(16,cK tX jt),(34,cK YG iv),(46,cK YG lD),(67,cK alr kr),(76,oA qa v35 ([(⟨v44,v33.aM,v45,v46,v33.cr,wE⟩:aX)]) k9)],[(5,oq (b5 fB rfl dx))]] fB)))) (λv26 v28 iB v30 eM f5 uM=>au λwj nD=>au λv49 nP=>bl λlf=>jm uM (v30++[(⟨wj,v28.aM,v49⟩:cf)]) [[(10,oL v1.aE ky)],[t0 (bI eM)],[(10,oE (mC (bt eM)))],[(16,cK tX nD),(34,cK W4 nP),(43,oA pV v30 ([(⟨wj,v28.aM,v49⟩:cf)]) lf)],[(5,oq (b5 eM rfl dG))]] eM)))) (λv21 v23 v24 v25 cN f4 jY=>au λv50 qn=>bl λsD=>jm jY (v25++[(⟨v50,v23.hY⟩:cz)]) [[(10,oL v1.cd mH)],[t0 (bI cN)],[(19,oE (uL (bt cN))),(28,cK Dg qn),(40,oE (uL (bt cN))),(55,oA wP v25 ([(⟨v50,v23.hY⟩:cz)]) sD)],[(5,oq (b5 cN rfl dt))]] cN)))) (λct cB dA v20 bU f3 ie=>au λv51 qz=>bl λrK=>jm ie (v20++[v51]) [[(10,oL v1.az fK)],[t0 (bI bU)],[(19,oE (jR (bt bU))),(25,cK tX qz),(31,oA gi v20 ([v51]) rK)],[(5,oq (b5 bU rfl bY))]] bU)))) (λv9 v11 v12 ba h7 f2 cM=>bl λwe=>jm cM (ba++[v11.ao]) [[(10,oL v1.aw kp)],[t0 (bI h7)],[(13,oE (oY (bt h7))),(25,oA gi ba ([v11.ao]) we)],[(5,oq (b5 h7 rfl h6))]] h7)))) (λv4 v6 v7 v8 h4 f1 aR=>bl λtI=>jm aR (v8++[v6.ao]) [[(10,oL v1.aE ky)],[t0 (bI h4)],[(13,oE (mC (bt h4))),(25,oA gi v8 ([v6.ao]) tI)],[(5,oq (b5 h4 rfl h3))]] h4))))
def Qu(N:Nat)(v4:apI)(fk:apI->apJ (apI×Bool))(v8:apI):apJ (apI×Bool):=
 bif (Nat.ble (v8.size+v4.size) 9223372036854775807)then
 fk (v8++v4)
 else none
def Bw(N:Nat):apH apI->Nat->apI->apJ (apI×Bool)
 |[],_,v6=>
  some (v6,true)
 |v4::v5,v2,v6=>
  (pJ N v4).bind λv7=>
  bif v7 then
   bif (decide ((v2:Int)>0))then
    bif (Nat.ble (v6.size+(bs [44,32]).size) 9223372036854775807)then
    Qu N v4 (λbm=>Bw N v5 (v2+1) bm) (v6++(bs [44,32]))
    else none
   else
    Qu N v4 (λbm=>Bw N v5 (v2+1) bm) v6
  else
   some ((bs []),false)
def I2(N:Nat)(v1:apH apI):apJ (apI×Bool):=
 Bw N v1 0 (bs [])
def CS(N:Nat)(v1:cz):apJ Int:=
 (o6 N v1.aQ).bind λv2=>
 bif v2 then
  some (0:Int)
 else
  some (1:Int)
def W5(N:Nat)(v1:aN):apJ Int:=
 (o6 N v1).bind λv2=>
 bif v2 then
  some (0:Int)
 else
  some (1:Int)
def EM(N:Nat)(v1:Int64):apJ Int:=
 bif (decide (v1.toInt<0))then
  some (IntKind.u64.wrap ((IntKind.u64.wrap (-(v1+(1:Int64))).toInt)+(1:Int)))
 else
  some (IntKind.u64.wrap v1.toInt)
def HL(N:Nat):Nat->Int->apI->apJ apI
 |0,_,_=>none
 |v2+1,v3,v4=>
  bif (Nat.ble ((zt [(IntKind.u8.wrap (IntKind.u64.wrap ((48:Int)+((v3).tmod (10:Int)))))]).size+v4.size) 9223372036854775807)then
  bif ((IntKind.u64.wrap ((v3).tdiv (10:Int)))==0)then
   some ((zt [(IntKind.u8.wrap (IntKind.u64.wrap ((48:Int)+((v3).tmod (10:Int)))))])++v4)
  else
   (λbm eY=>HL N v2 bm eY) (IntKind.u64.wrap ((v3).tdiv (10:Int))) ((zt [(IntKind.u8.wrap (IntKind.u64.wrap ((48:Int)+((v3).tmod (10:Int)))))])++v4)
  else none
def PU(N:Nat)(v1:Int):apJ apI:=
 HL N N v1 (bs [])
def L2(N:Nat)(v1:apI)(v2:Bool)(v3:apI):apJ apI:=
 Option.bind (bif (bL v1==bL (bs []))then some v2 else some false) λv4=>
 bif v4 then
  bif (Nat.ble ((bs [45]).size+v3.size) 9223372036854775807)then
  some ((bs [45])++v3)
  else none
 else
  bif (bL v1==bL (bs []))then
   some v3
  else
   bif v2 then
    bif (Nat.ble (v1.size+(bs [32,45,32]).size) 9223372036854775807)then
    bif (Nat.ble ((v1++(bs [32,45,32])).size+v3.size) 9223372036854775807)then
    some ((v1++(bs [32,45,32]))++v3)
    else none
    else none
   else
    bif (Nat.ble (v1.size+(bs [32,43,32]).size) 9223372036854775807)then
    bif (Nat.ble ((v1++(bs [32,43,32])).size+v3.size) 9223372036854775807)then
    some ((v1++(bs [32,43,32]))++v3)
    else none
    else none
def U8(N:Nat)(v9:apI):apJ apI:=
 some v9
def L3(N:Nat)(v7:apI)(v5:bf)(fk:apI->apJ apI)(bX:apI):apJ apI:=
 Option.bind (L2 N v7 (decide (v5.ck.toInt<0)) bX) λbC=>
 fk bC
def uB(N:Nat)(v1:aN):apH bf->Nat->apI->apJ apI
 |[],_,v7=>
  Option.bind (bif (v1.xK.toInt !=0)then some true else some ((v1.xL.length:Int)==0)) λv8=>
  bif v8 then
   (EM N v1.xK).bind λv10=>
   (PU N v10).bind λv11=>
   Option.bind (L2 N v7 (decide (v1.xK.toInt<0)) v11) λv12=>
   U8 N v12
  else
   U8 N v7
 |v5::v6,v3,v7=>
  (EM N v5.ck).bind λba=>
  bif (ba !=1)then
   (EM N v5.ck).bind λct=>
   (PU N ct).bind λv17=>
   bif (Nat.ble (v17.size+(bs [42]).size) 9223372036854775807)then
   bif (Nat.ble ((v17++(bs [42])).size+v5.ao.size) 9223372036854775807)then
   L3 N v7 v5 (λbm=>uB N v1 v6 (v3+1) bm) ((v17++(bs [42]))++v5.ao)
   else none
   else none
  else
   L3 N v7 v5 (λbm=>uB N v1 v6 (v3+1) bm) v5.ao
def wB(N:Nat)(v1:aN):apJ apI:=
 (W5 N v1).bind λv2=>
 bif (v2 !=0)then
  some (bs [])
 else
  uB N v1 v1.xL 0 (bs [])
def Pb(N:Nat)(v1:cz):apJ apI:=
 (CS N v1).bind λv2=>
 bif (v2 !=0)then
  some (bs [])
 else
  bif v1.hY then
   (wB N v1.aQ).bind λv3=>
   bif (Nat.ble ((bs [48,32,61,61,32]).size+v3.size) 9223372036854775807)then
   some ((bs [48,32,61,61,32])++v3)
   else none
  else
   (wB N v1.aQ).bind λv4=>
   bif (Nat.ble ((bs [48,32,60,61,32]).size+v4.size) 9223372036854775807)then
   some ((bs [48,32,60,61,32])++v4)
   else none
def Jh(N:Nat):apH aN->Nat->apJ Bool
 |[],_=>
  some true
 |v4::v5,v2=>
  (o6 N v4).bind λv6=>
  bif v6 then
   (Jh N v5 (v2+1))
  else
   some false
def S5(N:Nat)(v1:apH aN):apJ Bool:=
 Jh N v1 0
def QQ(N:Nat)(v1:Int):apJ apI:=
 bif (v1==1)then
  some (bs [102,108,111,111,114])
 else
  bif (v1==2)then
   some (bs [99,101,105,108])
  else
   bif (v1==3)then
    some (bs [122,101,114,111])
   else
    some (bs [101,118,101,110])
def G5(N:Nat)(v1:bq)(v3:apI):apJ apI:=
 bif (bh v1.cb==v1.cb)then
 Option.bind (nO N (Int64.ofInt v1.cb)) λv4=>
 bif (Nat.ble ((bs [102,105,120,40]).size+v4.size) 9223372036854775807)then
 bif (Nat.ble (((bs [102,105,120,40])++v4).size+(bs [44,32]).size) 9223372036854775807)then
 bif (bh v1.ca==v1.ca)then
 Option.bind (nO N (Int64.ofInt v1.ca)) λv5=>
 bif (Nat.ble ((((bs [102,105,120,40])++v4)++(bs [44,32])).size+v5.size) 9223372036854775807)then
 bif (Nat.ble (((((bs [102,105,120,40])++v4)++(bs [44,32]))++v5).size+(bs [44,32]).size) 9223372036854775807)then
 (QQ N v1.cJ).bind λv6=>
 bif (Nat.ble ((((((bs [102,105,120,40])++v4)++(bs [44,32]))++v5)++(bs [44,32])).size+v6.size) 9223372036854775807)then
 bif (Nat.ble (((((((bs [102,105,120,40])++v4)++(bs [44,32]))++v5)++(bs [44,32]))++v6).size+(bs [44,32]).size) 9223372036854775807)then
 bif (Nat.ble ((((((((bs [102,105,120,40])++v4)++(bs [44,32]))++v5)++(bs [44,32]))++v6)++(bs [44,32])).size+v3.size) 9223372036854775807)then
 bif (Nat.ble (((((((((bs [102,105,120,40])++v4)++(bs [44,32]))++v5)++(bs [44,32]))++v6)++(bs [44,32]))++v3).size+(bs [41]).size) 9223372036854775807)then
 some (((((((((bs [102,105,120,40])++v4)++(bs [44,32]))++v5)++(bs [44,32]))++v6)++(bs [44,32]))++v3)++(bs [41]))
 else none
 else none
 else none
 else none
 else none
 else none
 else none
 else none
 else none
 else none
def Bh(N:Nat)(v1:bq):apJ apI:=
 (qY N v1).bind λv2=>
 bif v2 then
  bif (v1.bS==1)then
   some (bs [102,114,97,99])
  else
   bif (v1.bS==3)then
    some (bs [105,110,116])
   else
    bif (v1.cH==2)then
     G5 N v1 (bs [119,114,97,112])
    else
     G5 N v1 (bs [115,97,116])
 else
  some (bs [])
def P8(N:Nat)(v4:aN)(fk:apI->apJ apI)(v7:apI):apJ apI:=
 (wB N v4).bind λv8=>
 bif (Nat.ble (v7.size+v8.size) 9223372036854775807)then
 fk (v7++v8)
 else none
def AR(N:Nat):apH aN->Nat->apI->apJ apI
 |[],_,v6=>
  some v6
 |v4::v5,v2,v6=>
  bif (decide ((v2:Int)>0))then
   bif (Nat.ble (v6.size+(bs [44,32]).size) 9223372036854775807)then
   P8 N v4 (λbm=>AR N v5 (v2+1) bm) (v6++(bs [44,32]))
   else none
  else
   P8 N v4 (λbm=>AR N v5 (v2+1) bm) v6
def Ha(N:Nat)(v1:apH aN):apJ apI:=
 AR N v1 0 (bs [])
def Q4(N:Nat)(v4:bV)(fk:apI->apJ (apI×Bool))(v10:apI):apJ (apI×Bool):=
 bif (Nat.ble (v10.size+v4.ao.size) 9223372036854775807)then
 bif (Nat.ble ((v10++v4.ao).size+(bs [32,60,32]).size) 9223372036854775807)then
 (wB N v4.cg).bind λv11=>
 bif (Nat.ble (((v10++v4.ao)++(bs [32,60,32])).size+v11.size) 9223372036854775807)then
 fk (((v10++v4.ao)++(bs [32,60,32]))++v11)
 else none
 else none
 else none
def AN(N:Nat):apH bV->Nat->apI->apJ (apI×Bool)
 |[],_,v6=>
  some (v6,true)
 |v4::v5,v2,v6=>
  (pJ N v4.ao).bind λv7=>
  Option.bind (bif v7 then (o6 N v4.cg).bind λv8=>
  some (!v8)else some true) λv9=>
  bif v9 then
   some ((bs []),false)
  else
   bif (decide ((v2:Int)>0))then
    bif (Nat.ble (v6.size+(bs [44,32]).size) 9223372036854775807)then
    Q4 N v4 (λbm=>AN N v5 (v2+1) bm) (v6++(bs [44,32]))
    else none
   else
    Q4 N v4 (λbm=>AN N v5 (v2+1) bm) v6
def Kd(N:Nat)(v1:apH bV):apJ (apI×Bool):=
 AN N v1 0 (bs [])
def abw(N:Nat)(v1:Int):apJ apI:=
 bif (v1==4)then
  some (bs [32,43,32])
 else
  bif (v1==5)then
   some (bs [32,45,32])
  else
   bif (v1==6)then
    some (bs [32,42,32])
   else
    bif (v1==7)then
     some (bs [32,47,32])
    else
     bif (v1==13)then
      some (bs [32,60,32])
     else
      bif (v1==14)then
       some (bs [32,60,61,32])
      else
       bif (v1==15)then
        some (bs [32,61,61,32])
       else
        bif (v1==16)then
         some (bs [32,38,32])
        else
         bif (v1==17)then
          some (bs [32,124,32])
         else
          some (bs [])
def Tc(N:Nat)(v1:bq)(v2:dy):apJ Bool:=
 (qY N v1).bind λv3=>
 Option.bind (bif v3 then (BP N v1 v2).bind λv4=>
 some v4 else some false) λv5=>
 some v5
def Of(N:Nat)(v1:bq):apJ Int64:=
 bif (decide ((0:Int)<=(IntKind.u64.wrap v1.ca)))then
 some (Int64.ofInt ((1:Int)*2^(min ((IntKind.u64.wrap v1.ca)).toNat (IntKind.bits .i64))))
 else none
def GN(N:Nat):Nat->Int->Int->apJ Int
 |0,_,_=>none
 |v3+1,v4,v5=>
  bif (v5 !=0)then
   (λbm eY=>GN N v3 bm eY) v5 ((v4).tmod v5)
  else
   some v4
def Xp(N:Nat)(v1:Int)(v2:Int):apJ Int:=
 GN N N v1 v2
def aas(N:Nat)(v1:Bool)(v2:Int)(v3:Int):apJ (dy×Int):=
 (Xp N v2 v3).bind λv4=>
 bif (v4 !=0)then
 Option.bind (bif (decide ((IntKind.u64.wrap ((v2).tdiv v4))>2147483647))then some true else some (decide ((IntKind.u64.wrap ((v3).tdiv v4))>2147483647))) λv5=>
 bif v5 then
  some (zb,(3:Int))
 else
  bif v1 then
   some ((⟨(-(Int64.ofInt (IntKind.u64.wrap ((v2).tdiv v4)))),(Int64.ofInt (IntKind.u64.wrap ((v3).tdiv v4)))⟩:dy),(0:Int))
  else
   some ((⟨(Int64.ofInt (IntKind.u64.wrap ((v2).tdiv v4))),(Int64.ofInt (IntKind.u64.wrap ((v3).tdiv v4)))⟩:dy),(0:Int))
 else none
def Oy(N:Nat)(v1:Int64)(v2:Int64):apJ (dy×Int):=
 bif (v2.toInt==0)then
  some (zb,(4:Int))
 else
  (AB N v1).bind λv3=>
  (AB N v2).bind λv4=>
  Option.bind (aas N (!((decide (v1.toInt<0))==(decide (v2.toInt<0)))) v3 v4) λv5=>
  some (v5.1,v5.2)
def TQ(N:Nat)(v3:Int64)(v4:Int64):apJ dy:=
 some (⟨v3,v4⟩:dy)
def MY(N:Nat)(v1:bq)(v2:dy):apJ dy:=
 bif (v1.bS==2)then
  (Of N v1).bind λv5=>
  (Oy N v2.xN v5).bind λv6=>
  TQ N v6.1.xN v6.1.xD
 else
  TQ N v2.xN v2.xD
def XQ(N:Nat)(v1:dy):apJ Bool:=
 Option.bind (BP N (⟨(1:Int),(0:Int),(0:Int),(0:Int),(0:Int)⟩:bq) v1) λv2=>
 some v2
def OJ(N:Nat)(v1:dy):apJ apI:=
 (XQ N v1).bind λv2=>
 bif v2 then
  bif (v1.xD.toInt==1)then
   (nO N v1.xN).bind λv3=>
   some v3
  else
   (nO N v1.xN).bind λv4=>
   bif (Nat.ble (v4.size+(bs [47]).size) 9223372036854775807)then
   (nO N v1.xD).bind λv5=>
   bif (Nat.ble ((v4++(bs [47])).size+v5.size) 9223372036854775807)then
   some ((v4++(bs [47]))++v5)
   else none
   else none
 else
  some (bs [])
def aaW(N:Nat)(v1:bq)(v2:dy):apJ apI:=
 (Tc N v1 v2).bind λv3=>
 bif v3 then
  (MY N v1 v2).bind λv4=>
  (OJ N v4).bind λv5=>
  some v5
 else
  some (bs [])
def It(N:Nat)(v1:bu):apJ apI:=
 (o6 N v1.aQ).bind λv2=>
 Option.bind (bif v2 then (S5 N v1.bG).bind λv3=>
 some (!v3)else some true) λv4=>
 bif v4 then
  some (bs [])
 else
  bif (bL v1.bH==bL (bs []))then
   bif (decide ((v1.bG.length:Int)>0))then
    some (bs [])
   else
    (wB N v1.aQ).bind λv5=>
    some v5
  else
   (pJ N v1.bH).bind λv6=>
   Option.bind (bif v6 then(bif (v1.aQ.xK.toInt !=0)then some true else some (decide ((v1.aQ.xL.length:Int)>0)))else some true) λv7=>
   bif v7 then
    some (bs [])
   else
    bif (Nat.ble (v1.bH.size+(bs [91]).size) 9223372036854775807)then
    (Ha N v1.bG).bind λv8=>
    bif (Nat.ble ((v1.bH++(bs [91])).size+v8.size) 9223372036854775807)then
    bif (Nat.ble (((v1.bH++(bs [91]))++v8).size+(bs [93]).size) 9223372036854775807)then
    some (((v1.bH++(bs [91]))++v8)++(bs [93]))
    else none
    else none
    else none
def NB(N:Nat)(v1:Int)(v4:Bool):apJ Int:=
 bif v4 then
  some (6:Int)
 else
  bif (v1==8)then
   some (7:Int)
  else
   some (8:Int)
def RO(N:Nat)(v1:Int)(v3:Bool):apJ Int:=
 bif v3 then
  some (5:Int)
 else
  bif (v1==6)then
   NB N v1 (v1==6)
  else
   NB N v1 (v1==7)
def LQ(N:Nat)(v1:Int)(v2:Bool):apJ Int:=
 bif v2 then
  some (4:Int)
 else
  bif (v1==4)then
   RO N v1 (v1==4)
  else
   RO N v1 (v1==5)
def Bx(N:Nat)(v1:Int):apJ Int:=
 bif (v1==17)then
  some (1:Int)
 else
  bif (v1==16)then
   some (2:Int)
  else
   bif (v1==18)then
    some (3:Int)
   else
    bif (v1==13)then
     LQ N v1 (v1==13)
    else
     bif (v1==14)then
      LQ N v1 (v1==14)
     else
      LQ N v1 (v1==15)
def QH(N:Nat)(v8:bu)(fk:apI->apJ apI)(v11:apI):apJ apI:=
 (It N v8).bind λv12=>
 bif (Nat.ble (v11.size+v12.size) 9223372036854775807)then
 fk (v11++v12)
 else none
def BB(N:Nat):apH bu->Nat->apI->apJ apI
 |[],_,v10=>
  bif (Nat.ble (v10.size+(bs [93]).size) 9223372036854775807)then
  some (v10++(bs [93]))
  else none
 |v8::v9,v6,v10=>
  bif (decide ((v6:Int)>0))then
   bif (Nat.ble (v10.size+(bs [44,32]).size) 9223372036854775807)then
   QH N v8 (λbm=>BB N v9 (v6+1) bm) (v10++(bs [44,32]))
   else none
  else
   QH N v8 (λbm=>BB N v9 (v6+1) bm) v10
mutual
def iz(N:Nat):Nat->ar->apJ apI
 |0,_=>none
 |d+1,v1=>
  (abw N v1.aJ).bind λv2=>
  bif (bL v2==bL (bs []))then
   bif (v1.aJ==1)then
    (Bh N v1.aM).bind λv3=>
    bif (Nat.ble (v3.size+(bs [40]).size) 9223372036854775807)then
    (aaW N v1.aM v1.dK).bind λv4=>
    bif (Nat.ble ((v3++(bs [40])).size+v4.size) 9223372036854775807)then
    bif (Nat.ble (((v3++(bs [40]))++v4).size+(bs [41]).size) 9223372036854775807)then
    some (((v3++(bs [40]))++v4)++(bs [41]))
    else none
    else none
    else none
   else
    bif (v1.aJ==2)then
     (wB N v1.aQ).bind λv5=>
     bif (Nat.ble ((bs [91]).size+v5.size) 9223372036854775807)then
     bif (Nat.ble (((bs [91])++v5).size+(bs [93]).size) 9223372036854775807)then
     some (((bs [91])++v5)++(bs [93]))
     else none
     else none
    else
     bif (v1.aJ==3)then
      bif (Nat.ble (v1.ao.size+(bs [91]).size) 9223372036854775807)then
      BB N v1.xIdx 0 (v1.ao++(bs [91]))
      else none
     else
      bif (v1.aJ==8)then
       Option.bind (v1.bk[0]?) λba=>
       Option.bind ((vg N d) ba (7:Int)) λbX=>
       bif (Nat.ble ((bs [45]).size+bX.size) 9223372036854775807)then
       some ((bs [45])++bX)
       else none
      else
       bif (v1.aJ==18)then
        Option.bind (v1.bk[0]?) λbC=>
        Option.bind ((vg N d) bC (3:Int)) λct=>
        bif (Nat.ble ((bs [33]).size+ct.size) 9223372036854775807)then
        some ((bs [33])++ct)
        else none
       else
        bif (v1.aJ==9)then
         Option.bind (v1.bk[0]?) λv17=>
         Option.bind ((iz N d) v17) λcB=>
         bif (Nat.ble ((bs [109,105,110,40]).size+cB.size) 9223372036854775807)then
         bif (Nat.ble (((bs [109,105,110,40])++cB).size+(bs [44,32]).size) 9223372036854775807)then
         Option.bind (v1.bk[1]?) λdA=>
         Option.bind ((iz N d) dA) λv20=>
         bif (Nat.ble ((((bs [109,105,110,40])++cB)++(bs [44,32])).size+v20.size) 9223372036854775807)then
         bif (Nat.ble (((((bs [109,105,110,40])++cB)++(bs [44,32]))++v20).size+(bs [41]).size) 9223372036854775807)then
         some (((((bs [109,105,110,40])++cB)++(bs [44,32]))++v20)++(bs [41]))
         else none
         else none
         else none
         else none
        else
         bif (v1.aJ==10)then
          Option.bind (v1.bk[0]?) λv21=>
          Option.bind ((iz N d) v21) λv22=>
          bif (Nat.ble ((bs [109,97,120,40]).size+v22.size) 9223372036854775807)then
          bif (Nat.ble (((bs [109,97,120,40])++v22).size+(bs [44,32]).size) 9223372036854775807)then
          Option.bind (v1.bk[1]?) λv23=>
          Option.bind ((iz N d) v23) λv24=>
          bif (Nat.ble ((((bs [109,97,120,40])++v22)++(bs [44,32])).size+v24.size) 9223372036854775807)then
          bif (Nat.ble (((((bs [109,97,120,40])++v22)++(bs [44,32]))++v24).size+(bs [41]).size) 9223372036854775807)then
          some (((((bs [109,97,120,40])++v22)++(bs [44,32]))++v24)++(bs [41]))
          else none
          else none
          else none
          else none
         else
          bif (v1.aJ==11)then
           Option.bind (v1.bk[0]?) λv25=>
           Option.bind ((iz N d) v25) λv26=>
           bif (Nat.ble ((bs [105,102,40]).size+v26.size) 9223372036854775807)then
           bif (Nat.ble (((bs [105,102,40])++v26).size+(bs [44,32]).size) 9223372036854775807)then
           Option.bind (v1.bk[1]?) λcW=>
           Option.bind ((iz N d) cW) λv28=>
           bif (Nat.ble ((((bs [105,102,40])++v26)++(bs [44,32])).size+v28.size) 9223372036854775807)then
           bif (Nat.ble (((((bs [105,102,40])++v26)++(bs [44,32]))++v28).size+(bs [44,32]).size) 9223372036854775807)then
           Option.bind (v1.bk[2]?) λiB=>
           Option.bind ((iz N d) iB) λv30=>
           bif (Nat.ble ((((((bs [105,102,40])++v26)++(bs [44,32]))++v28)++(bs [44,32])).size+v30.size) 9223372036854775807)then
           bif (Nat.ble (((((((bs [105,102,40])++v26)++(bs [44,32]))++v28)++(bs [44,32]))++v30).size+(bs [41]).size) 9223372036854775807)then
           some (((((((bs [105,102,40])++v26)++(bs [44,32]))++v28)++(bs [44,32]))++v30)++(bs [41]))
           else none
           else none
           else none
           else none
           else none
           else none
          else
           (Bh N v1.aM).bind λv31=>
           bif (Nat.ble ((bs [99,97,115,116,40]).size+v31.size) 9223372036854775807)then
           bif (Nat.ble (((bs [99,97,115,116,40])++v31).size+(bs [44,32]).size) 9223372036854775807)then
           Option.bind (v1.bk[0]?) λv32=>
           Option.bind ((iz N d) v32) λv33=>
           bif (Nat.ble ((((bs [99,97,115,116,40])++v31)++(bs [44,32])).size+v33.size) 9223372036854775807)then
           bif (Nat.ble (((((bs [99,97,115,116,40])++v31)++(bs [44,32]))++v33).size+(bs [41]).size) 9223372036854775807)then
           some (((((bs [99,97,115,116,40])++v31)++(bs [44,32]))++v33)++(bs [41]))
           else none
           else none
           else none
           else none
  else
   Option.bind (v1.bk[0]?) λnH=>
   (Bx N v1.aJ).bind λv35=>
   Option.bind ((vg N d) nH v35) λmi=>
   bif (Nat.ble (mi.size+v2.size) 9223372036854775807)then
   Option.bind (v1.bk[1]?) λv37=>
   (Bx N v1.aJ).bind λkT=>
   Option.bind ((vg N d) v37 (bh (kT+(1:Int)))) λv39=>
   bif (Nat.ble ((mi++v2).size+v39.size) 9223372036854775807)then
   some ((mi++v2)++v39)
   else none
   else none
def vg(N:Nat):Nat->ar->Int->apJ apI
 |0,_,_=>none
 |d+1,v1,v2=>
  (Bx N v1.aJ).bind λv3=>
  bif (decide (v3<v2))then
   Option.bind ((iz N d) v1) λv4=>
   bif (Nat.ble ((bs [40]).size+v4.size) 9223372036854775807)then
   bif (Nat.ble (((bs [40])++v4).size+(bs [41]).size) 9223372036854775807)then
   some (((bs [40])++v4)++(bs [41]))
   else none
   else none
  else
   Option.bind ((iz N d) v1) λv5=>
   some v5
end
def Y8(N:Nat)(v1:ar):apJ apI:=iz N N v1
def Xz(N:Nat)(v1:ar):apJ apI:=
 (rZ N v1).bind λv2=>
 bif (v2 !=0)then
  some (bs [])
 else
  (Y8 N v1).bind λv3=>
  some v3
def Om(N:Nat)(v1:Int):apJ apI:=
 bif (v1==1)then
  some (bs [115,117,109])
 else
  bif (v1==2)then
   some (bs [112,114,111,100])
  else
   bif (v1==3)then
    some (bs [109,105,110])
   else
    bif (v1==4)then
     some (bs [109,97,120])
    else
     some (bs [115,99,97,110])
def Ql(N:Nat)(v4:apI)(v10:apI):apJ apI:=
 bif (Nat.ble (v10.size+v4.size) 9223372036854775807)then
 bif (Nat.ble ((v10++v4).size+(bs [59]).size) 9223372036854775807)then
 some ((v10++v4)++(bs [59]))
 else none
 else none
def Sb(N:Nat)(v4:apI)(v12:apI):apJ apI:=
 bif (Nat.ble (v12.size+(bs [58,32]).size) 9223372036854775807)then
 Ql N v4 (v12++(bs [58,32]))
 else none
def SP(N:Nat)(v1:aX):apJ apI:=
 (Kd N v1.aO).bind λv2=>
 (Kd N v1.aU).bind λv3=>
 (Xz N v1.bR).bind λv4=>
 Option.bind (bif v2.2 then(bif v3.2 then(bif (bL v4==bL (bs []))then some true else (pJ N v1.ao).bind λv5=>
 (bif v5 then (qY N v1.aM).bind λv6=>
 (bif v6 then(bif (decide (v1.cr<0))then some true else some (decide (v1.cr>5)))else some true)else some true))else some true)else some true) λv7=>
 bif v7 then
  some (bs [])
 else
  Option.bind (bif (decide ((v1.aU.length:Int)>0))then(bif (v1.cr==0)then some true else some (v1.cr==5))else some false) λv8=>
  bif v8 then
   some (bs [])
  else
   bif (Nat.ble ((bs [100,101,102,32]).size+v1.ao.size) 9223372036854775807)then
   bif (Nat.ble (((bs [100,101,102,32])++v1.ao).size+(bs [58,32]).size) 9223372036854775807)then
   (Bh N v1.aM).bind λv9=>
   bif (Nat.ble ((((bs [100,101,102,32])++v1.ao)++(bs [58,32])).size+v9.size) 9223372036854775807)then
   bif (Nat.ble (((((bs [100,101,102,32])++v1.ao)++(bs [58,32]))++v9).size+(bs [91]).size) 9223372036854775807)then
   bif (Nat.ble ((((((bs [100,101,102,32])++v1.ao)++(bs [58,32]))++v9)++(bs [91])).size+v2.1.size) 9223372036854775807)then
   bif (Nat.ble (((((((bs [100,101,102,32])++v1.ao)++(bs [58,32]))++v9)++(bs [91]))++v2.1).size+(bs [93,32,61,32]).size) 9223372036854775807)then
   bif (v1.cr !=0)then
    (Om N v1.cr).bind λv11=>
    bif (Nat.ble ((((((((bs [100,101,102,32])++v1.ao)++(bs [58,32]))++v9)++(bs [91]))++v2.1)++(bs [93,32,61,32])).size+v11.size) 9223372036854775807)then
    bif (decide ((v1.aU.length:Int)>0))then
     bif (Nat.ble (((((((((bs [100,101,102,32])++v1.ao)++(bs [58,32]))++v9)++(bs [91]))++v2.1)++(bs [93,32,61,32]))++v11).size+(bs [32]).size) 9223372036854775807)then
     bif (Nat.ble ((((((((((bs [100,101,102,32])++v1.ao)++(bs [58,32]))++v9)++(bs [91]))++v2.1)++(bs [93,32,61,32]))++v11)++(bs [32])).size+v3.1.size) 9223372036854775807)then
     Sb N v4 ((((((((((bs [100,101,102,32])++v1.ao)++(bs [58,32]))++v9)++(bs [91]))++v2.1)++(bs [93,32,61,32]))++v11)++(bs [32]))++v3.1)
     else none
     else none
    else
     Sb N v4 ((((((((bs [100,101,102,32])++v1.ao)++(bs [58,32]))++v9)++(bs [91]))++v2.1)++(bs [93,32,61,32]))++v11)
    else none
   else
    Ql N v4 (((((((bs [100,101,102,32])++v1.ao)++(bs [58,32]))++v9)++(bs [91]))++v2.1)++(bs [93,32,61,32]))
   else none
   else none
   else none
   else none
   else none
   else none
def Uj(N:Nat)(v21:apI):apJ apI:=
 some v21
def Ca(N:Nat)(v1:aG)(v3:apI×Bool):apH aX->Nat->apI->apJ apI
 |[],_,v20=>
  bif (decide ((v1.bW.length:Int)>0))then
   bif (Nat.ble (v20.size+(bs [111,117,116,32]).size) 9223372036854775807)then
   bif (Nat.ble ((v20++(bs [111,117,116,32])).size+v3.1.size) 9223372036854775807)then
   bif (Nat.ble (((v20++(bs [111,117,116,32]))++v3.1).size+(bs [59,10]).size) 9223372036854775807)then
   Uj N (((v20++(bs [111,117,116,32]))++v3.1)++(bs [59,10]))
   else none
   else none
   else none
  else
   Uj N v20
 |cB::dA,ct,v20=>
  (SP N cB).bind λv22=>
  bif (bL v22==bL (bs []))then
   some (bs [])
  else
   bif (Nat.ble (v20.size+v22.size) 9223372036854775807)then
   bif (Nat.ble ((v20++v22).size+(bs [10]).size) 9223372036854775807)then
   (λnA=>Ca N v1 v3 dA (ct+1) nA) ((v20++v22)++(bs [10]))
   else none
   else none
def F6(N:Nat)(v1:aG)(v3:apI×Bool):apH cf->Nat->apI->apJ apI
 |[],_,bC=>
  Ca N v1 v3 v1.aw 0 bC
 |ba::bX,v11,bC=>
  (pJ N ba.ao).bind λv23=>
  Option.bind (bif v23 then (qY N ba.aM).bind λv24=>
  (bif v24 then (S5 N ba.aO).bind λv25=>
  some (!v25)else some true)else some true) λv26=>
  bif v26 then
   some (bs [])
  else
   bif (Nat.ble (bC.size+(bs [105,110,32]).size) 9223372036854775807)then
   bif (Nat.ble ((bC++(bs [105,110,32])).size+ba.ao.size) 9223372036854775807)then
   bif (Nat.ble (((bC++(bs [105,110,32]))++ba.ao).size+(bs [58,32]).size) 9223372036854775807)then
   (Bh N ba.aM).bind λcW=>
   bif (Nat.ble ((((bC++(bs [105,110,32]))++ba.ao)++(bs [58,32])).size+cW.size) 9223372036854775807)then
   bif (Nat.ble (((((bC++(bs [105,110,32]))++ba.ao)++(bs [58,32]))++cW).size+(bs [91]).size) 9223372036854775807)then
   (Ha N ba.aO).bind λv28=>
   bif (Nat.ble ((((((bC++(bs [105,110,32]))++ba.ao)++(bs [58,32]))++cW)++(bs [91])).size+v28.size) 9223372036854775807)then
   bif (Nat.ble (((((((bC++(bs [105,110,32]))++ba.ao)++(bs [58,32]))++cW)++(bs [91]))++v28).size+(bs [93,59,10]).size) 9223372036854775807)then
   (λme=>F6 N v1 v3 bX (v11+1) me) (((((((bC++(bs [105,110,32]))++ba.ao)++(bs [58,32]))++cW)++(bs [91]))++v28)++(bs [93,59,10]))
   else none
   else none
   else none
   else none
   else none
   else none
   else none
def Fi(N:Nat)(v1:aG)(v3:apI×Bool):apH cz->Nat->apI->apJ apI
 |[],_,v10=>
  F6 N v1 v3 v1.aE 0 v10
 |v8::v9,v6,v10=>
  (CS N v8).bind λiB=>
  bif (iB !=0)then
   some (bs [])
  else
   bif (Nat.ble (v10.size+(bs [119,104,101,114,101,32]).size) 9223372036854775807)then
   (Pb N v8).bind λv30=>
   bif (Nat.ble ((v10++(bs [119,104,101,114,101,32])).size+v30.size) 9223372036854775807)then
   bif (Nat.ble (((v10++(bs [119,104,101,114,101,32]))++v30).size+(bs [59,10]).size) 9223372036854775807)then
   (λiP=>Fi N v1 v3 v9 (v6+1) iP) (((v10++(bs [119,104,101,114,101,32]))++v30)++(bs [59,10]))
   else none
   else none
   else none
def Nb(N:Nat)(v1:aG)(v3:apI×Bool)(v5:apI):apJ apI:=
 Fi N v1 v3 v1.cd 0 v5
def S1(N:Nat)(v1:aG):apJ apI:=
 (I2 N v1.az).bind λv2=>
 (I2 N v1.bW).bind λv3=>
 Option.bind (bif v2.2 then some (!v3.2)else some true) λv4=>
 bif v4 then
  some (bs [])
 else
  bif (decide ((v1.az.length:Int)>0))then
   bif (Nat.ble ((bs [115,105,122,101,32]).size+v2.1.size) 9223372036854775807)then
   bif (Nat.ble (((bs [115,105,122,101,32])++v2.1).size+(bs [59,10]).size) 9223372036854775807)then
   Nb N v1 v3 (((bs [115,105,122,101,32])++v2.1)++(bs [59,10]))
   else none
   else none
  else
   Nb N v1 v3 (bs [])
def alS(N:Nat)(v2:apH dV)(v9:apI)(fk:apI->apJ (apI×Int))(v7:apI):apH dV->Nat->apJ (apI×Int)
 |[],v10=>
  bif ((v10:Int)==(v2.length:Int))then
   some ((bs []),(9:Int))
  else
   bif (Nat.ble (v9.size+(bs [32]).size) 9223372036854775807)then
   bif (decide ((0:Int)<=(v10:Int)))then
   Option.bind (v2[((v10:Int)).toNat]?) λbX=>
   (nO N bX.dK).bind λbC=>
   bif (Nat.ble ((v9++(bs [32])).size+bC.size) 9223372036854775807)then
   fk ((v9++(bs [32]))++bC)
   else none
   else none
   else none
 |v12::ba,v10=>
  bif (bL v12.ao==bL v7)then
   bif ((v10:Int)==(v2.length:Int))then
    some ((bs []),(9:Int))
   else
    bif (Nat.ble (v9.size+(bs [32]).size) 9223372036854775807)then
    (nO N v12.dK).bind λct=>
    bif (Nat.ble ((v9++(bs [32])).size+ct.size) 9223372036854775807)then
    fk ((v9++(bs [32]))++ct)
    else none
    else none
  else
   (alS N v2 v9 fk v7 ba (v10+1))
def Em(N:Nat)(v4:dN):apH dV->Nat->(apH dV)->apJ ((apH dV))
 |[],_,v9=>
  some v9
 |v7::v8,v5,v9=>
  (od N v4 v7.ao).bind λv10=>
  bif (Nat.ble ((v9.length+1)*24) 140737488355328)then
  (λbm=>Em N v4 v8 (v5+1) bm) (v9++[(⟨v10,v7.dK⟩:dV)])
  else none
def LI(N:Nat)(v1:aG)(v2:apH dV)(v3:apI):apJ ((apH dV)):=
 (ry N Eb v1.az v3).bind λv4=>
 Em N v4 v2 0 []
theorem aiT{N v1 v2 v3}:KO 16 [(eB v1),(.d (.sl (ja v2))),(aL v3)] (λr=> .d (.sl (ja r))) (LI N v1 v2 v3):=
 fw Tryz.func16 (au λv4 h1=>gA [[],[(13,cK Fa h1)],[],[]] (li (λ_=>(l0 8 47 2 [] (.inr (by kernel_rfl)) ·)) (gT Hy 1 v2 λh3=>gn 1 [] [1,7,8,9] 3 (λv5(v9:apH dV)=>⟨38,[(1,(.d (.sl (ja v2)))),(7,(.ptr 1 0)),(8,(.own 2 (ja v9))),(9,(aq (v5:Int)))],[.cells (eB v1).cells, .cells (ig v4).cells, .front 47 2 v9.length]⟩) (λv5 v9 h4 f1=>gR [[(7,oL v2 xp)],[f0 (bK h4)],[]]) (λv5 v7 v8 v9 h4 f1 aR=>au λv10 h5=>bl λh6=>gb aR (v9++[(⟨v10,v7.dK⟩:dV)]) [[(7,oL v2 xp)],[t0 (bI h4)],[(13,oE (De (bt h4))),(22,cK tX h5),(31,oE (De (bt h4))),(46,oA Hy v9 ([(⟨v10,v7.dK⟩:dV)]) h6)],[(5,oq (b5 h4 rfl h3))]] h4))))
def yM(N:Nat)(v1:aG)(v2:apH dV)(v9:ij)(v10:aG)(cB:apI×Int):apH dV->Nat->apJ Bool
 |[],_=>
  (LI N v1 v2 v9.az).bind λv23=>
  (BI N v10 v23).bind λv24=>
  Option.bind (bif (bL cB.1==bL v24.1)then(bif (cB.2==v24.2)then (tu N).bind λv25=>
  some v25 else some false)else some false) λv26=>
  some v26
 |v21::v22,dA=>
  (ud N v1.az v21.ao).bind λcW=>
  bif cW then
   (yM N v1 v2 v9 v10 cB v22 (dA+1))
  else
   (tu N).bind λv28=>
   some v28
def QI(N:Nat)(v1:aG)(v2:apH dV)(v3:Int):apJ Bool:=
 Option.bind (Dc N v1 (300:Int)) λv4=>
 Option.bind (bif v4 then some true else some (decide ((v2.length:Int)>40))) λv5=>
 bif v5 then
  (tu N).bind λv6=>
  some v6
 else
  (pg N v1).bind λv7=>
  bif (v7.2 !=0)then
   (tu N).bind λv8=>
   some v8
  else
   bif (decide ((0:Int)<=((v3).tmod (3:Int))))then
   Option.bind ([(⟨(bs [122,122]),(bs [121]),(bs [120]),(bs [119])⟩:ij),(⟨(bs [105]),(bs [100]),(bs [112]),(bs [115])⟩:ij),(⟨(bs [97,57,95]),(bs [98]),(bs [97]),(bs [110])⟩:ij)][(((v3).tmod (3:Int))).toNat]?) λv9=>
   (Bm N v1 v9).bind λv10=>
   (pE N v1).bind λv11=>
   (pE N v10).bind λv12=>
   (pE N v11.1).bind λba=>
   (pg N v11.1).bind λbX=>
   Option.bind (bif (v11.2 !=0)then some true else(bif (v12.2 !=0)then some true else(bif (ba.2 !=0)then some true else(bif (bX.2 !=0)then some true else (tc N v11.1 v12.1).bind λbC=>
   (bif bC then (tc N v11.1 ba.1).bind λct=>
   some (!ct)else some true))))) λv17=>
   bif v17 then
    some false
   else
    (BI N v1 v2).bind λcB=>
    yM N v1 v2 v9 v10 cB v2 0
   else none
def PY(v1:aG)(v9:ij)(v10:aG)(v11:aG×Int)(v12:aG×Int)(ba:aG×Int)(l:apH an):apH an:= .cells (eB v1).cells:: .cells (Ru v9).cells:: .cells (eB v10).cells:: .cells (eB v11.1).cells:: .cells (eB v12.1).cells:: .cells (eB ba.1).cells::l
theorem aeL{N v1 v2 v3}:KO 5 [(eB v1),(.d (.sl (ja v2))),(.d (.v (.int .u8 v3)))] aZ (QI N v1 v2 v3):=
 fw Tryz.func5 (gA [[]] (au λv4 h1=>gG (λv5=>[(30,(aZ v5))]) (λ_=>[.cells (eB v1).cells]) (c8 (4,cK aie h1) (aC (λh2=>gE [(2,bT h2)] []) λh2=>gE [(2,bF h2)] [(13,oL v2 xp)])) λv5=>aC (λh4=>au λv6 h5=>gR [[t0 h4],[(1,cK KA h5)]]) λh4=>au λv7 h6=>gA [[f0 h4],[(4,cK QJ h6)],[]] (aC (λh7=>au λv8 h8=>gR [[t0 h7],[(1,cK KA h8)]]) λh7=>bl λbM=>au λv9 h9=>au λv10 bY=>au λv11 bU=>au λv12 dp=>au λba dt=>au λbX cN=>gA [[f0 h7],[(16,⟨_,_, .nz (b:=3) (by decide)⟩),(19,⟨_,_, .el (xs:=Su [(⟨(bs [122,122]),(bs [121]),(bs [120]),(bs [119])⟩:ij),(⟨(bs [105]),(bs [100]),(bs [112]),(bs [115])⟩:ij),(⟨(bs [97,57,95]),(bs [98]),(bs [97]),(bs [110])⟩:ij)]) (i:=((v3).tmod (3:Int))) (of_decide_eq_true bM) (alP h9)⟩)],[(7,cK ag2 bY)],[(4,cK Da bU)],[(4,cK Da dp)],[(4,cK Da dt)],[(4,cK QJ cN)]] (gG (λv17=>[(96,(aZ v17))]) (λ_=>(PY v1 v9 v10 v11 v12 ba [])) (aC (λb9=>gE [(2,bT b9),(6,bT rfl),(10,bT rfl),(14,bT rfl),(20,bT rfl)] []) λb9=>dn (2,bF b9) (aC (λdG=>gE [(6,bT dG),(10,bT rfl),(14,bT rfl),(20,bT rfl)] []) λdG=>dn (6,bF dG) (aC (λeM=>gE [(10,bT eM),(14,bT rfl),(20,bT rfl)] []) λeM=>dn (10,bF eM) (aC (λfE=>gE [(14,bT fE),(20,bT rfl)] []) λfE=>au λbC dx=>dn (14,bF fE) (c8 (52,cK RF dx) (aC (λfB=>au λct gY=>gE [(20,bF (dw fB))] [(70,cK RF gY)]) λfB=>gE [(20,bT (eC fB))] [])))))) λv17=>cF λfz=>au λcB ir=>gA [[f0 fz],[(7,cK UN ir)],[]] (gT Hy 1 v2 λik=>fu 1 [] [1,3,9,10,19,20,21] 6 (λdA=>⟨140,[(1,(.d (.sl (ja v2)))),(3,(.ptr 0 0)),(9,(.ptr 1 0)),(10,(.ptr 2 0)),(19,(aL cB.1)),(20,(aq cB.2)),(21,(aq (dA:Int)))],(PY v1 v9 v10 v11 v12 ba [])⟩) (λdA fM f1=>au λv23 jt=>au λv24 iv=>gA [[(7,oL v2 xp)],[f0 (bK fM)],[(16,cK aiT jt),(19,cK UN iv)]] (gG (λv26=>[(6,(aZ v26))]) (λ_=>(PY v1 v9 v10 v11 v12 ba [])) (aC (λlD=>dn (3,bT lD) (aC (λkr=>au λv25 k9=>gE [(8,bT kr)] [(28,cK KA k9)]) λkr=>gE [(8,bF kr)] [])) λlD=>gE [(3,bF lD),(8,bF rfl)] []) λv26=>gR [])) (λdA v21 v22 fM f1 aR=>au λcW nP=>gA [[(7,oL v2 xp)],[t0 (bI fM)],[(13,oE (De (bt fM))),(22,cK ajV nP)]] (aC (λlf=>gb aR () [[f0 (dw lf)],[(5,oq (b5 fM rfl ik))]] fM) λlf=>au λv28 qn=>gR [[t0 (eC lf)],[(1,cK KA qn)]])))))))
end Go.Proofs.YtmkmibahjanejaaGreatDoor
namespace Go.Proofs.YtmkmibahjanejaaGreatDoor
end Go.Proofs.YtmkmibahjanejaaGreatDoor
namespace Go.Proofs.YtmkmibahjanejaaGreatDoor
open Go.RowKit
theorem GK(b:apI)(i:Nat):b[i]?=(bL b)[i]?:=by
 unfold bL;rw[apf];by_cases h:i<b.size
 ·rw[getElem?_pos b i h,ape (xs:=b.data) (by exact h)];rfl
 ·rw[getElem?_neg b i h,Array.getElem?_eq_none (xs:=b.data) (by exact Nat.le_of_not_lt h)]
theorem nk(b:apI):b.size=(bL b).length:=by unfold bL;rw[apq];rfl
theorem FU{i:Nat}(h:i<9223372036854775807):bh ((i:Int)+1)=((i+1:Nat):Int):=by
 unfold bh;rw[IntKind.wrap_i64]<;>omega
def oh(c:UInt8):Bool:=decide (97<=c.toNat)&&decide (c.toNat<=122)
def ju(c:UInt8):Bool:=oh c||(decide (48<=c.toNat)&&decide (c.toNat<=57))||c.toNat==95
def uS(l:apH UInt8):Bool:=nx.any λw=>bL w==l
def C6(l:apH UInt8):Bool:=decide (1<=l.length)&&(decide (l.length<=16)&&(!uS l&&((l.take 1).all oh&&l.all ju)))
def cE(s:apI):Bool:=C6 (bL s)
theorem Yf(c:UInt8):IntKind.i32.wrap (c.toNat:Int)=(c.toNat:Int):=by
 have:=c.toNat_lt;rw[IntKind.wrap_i32]<;>omega
theorem qi{p q:Prop} [Decidable p] [Decidable q](h:p↔q):decide p=decide q:=decide_eq_decide.2 h
theorem jn(a b:Bool):(bif a then some b else some false)=some (a&&b):=by cases a<;>rfl
theorem js(a b:Bool):(bif a then some true else some b)=some (a||b):=by cases a<;>rfl
theorem YK(N:Nat)(c:UInt8):B7 N (c.toNat:Int)=some (oh c):=by
 unfold B7 oh;rw[jn,aoR,qi (q:=97<=c.toNat) (by omega),qi (p:=(c.toNat:Int)<=122) (q:=c.toNat<=122) (by omega)]
theorem ael(N:Nat)(c:UInt8):IQ N (c.toNat:Int)=some (decide (48<=c.toNat)&&decide (c.toNat<=57)):=by
 unfold IQ;rw[jn,aoR,qi (q:=48<=c.toNat) (by omega),qi (p:=(c.toNat:Int)<=57) (q:=c.toNat<=57) (by omega)]
theorem yP(n k:Nat):((n:Int)==(k:Int))=(n==k):=by
 rw[Bool.eq_iff_iff,beq_iff_eq,beq_iff_eq];omega
theorem ahs(N:Nat)(c:UInt8):Ki N (c.toNat:Int)=some (ju c):=by
 unfold Ki ju;rw[YK,aoR,ael,aoR];have:=yP c.toNat 95;rw[show(((c.toNat:Int)==95))=(c.toNat==95)from this];rw[js,js,aoR,Bool.or_assoc]
theorem V1(N:Nat)(s:apI)(hs:s.size<9223372036854775807):∀(k i:Nat),i<=s.size->s.size-i<k->FE N s k (i:Int)=some ((i+(((bL s).drop i).takeWhile ju).length:Nat):Int)
 |0,i,_,hk=>absurd hk (apk _)
 |k+1,i,hi,hk=>by
  rw[FE];by_cases aH:i<s.size
  ·have h1:decide ((i:Int)<(s.size:Int))=true:=apA (by omega);have h2:decide ((0:Int)<=(i:Int))=true:=apA (by omega);rw[h1,h2];simp only[cond_true,apj];have hl:i<(bL s).length:=by rw[<-nk];exact aH
   rw[GK,aoW hl,List.drop_eq_getElem_cons hl,aoR,Yf,ahs,aoR,aoR];cases hw:ju (bL s)[i]with
   |true=>
    simp only[cond_true];rw[FU (Nat.lt_trans aH hs),V1 N s hs k (i+1) aH (by omega),List.takeWhile_cons_of_pos hw,aoV]
    congr 2;omega
   |false=>
    simp only[cond_false];rw[List.takeWhile_cons_of_neg (by rw[hw];simp)];rfl
  ·have h1:decide ((i:Int)<(s.size:Int))=false:=apB (by omega);rw[h1];simp only[cond_false,aoR];rw[List.drop_eq_nil_of_le (by rw[<-nk];omega)];rfl
theorem ajB(N:Nat)(s:apI)(hs:s.size<9223372036854775807)(hN:s.size<N):Lu N s=some ((((bL s).takeWhile ju).length:Nat):Int):=by
 unfold Lu;have:=V1 N s hs N 0 (Nat.zero_le _) (by omega);rw[aps,apc]at this;exact this
theorem XP{α:Type}(p:α->Bool):∀l:apH α,((l.takeWhile p).length==l.length)=l.all p
 |[]=>rfl
 |x::l=>by
  cases h:p x with
  |true=>
   rw[List.takeWhile_cons_of_pos h,apD,h,Bool.true_and,<-XP p l];simp
  |false=>rw[List.takeWhile_cons_of_neg (by rw[h];simp),apD,h];simp
theorem Oe(N:Nat)(v:apI):∀(l:apH apI)(k:Nat),∃z:Int,J0 N v l k=some z/\decide (z>=0)=l.any λw=>bL w==bL v
 |[],k=>⟨-1,rfl,rfl⟩
 |w::l,k=>by
  rw[J0,apE];have hc:(bL v==bL w)=(bL w==bL v):=by rw[Bool.eq_iff_iff,beq_iff_eq,beq_iff_eq];exact eq_comm
  cases h:bL v==bL w with
  |true=>rw[hc]at h;exact⟨k,rfl,by rw[h,Bool.true_or];exact apA (by omega)⟩
  |false=>
   obtain⟨z,h1,h2⟩:=Oe N v l (k+1);rw[hc]at h;exact⟨z,h1,by rw[h,Bool.false_or];exact h2⟩
theorem ag9(N:Nat)(v:apI):My N v=some (uS (bL v)):=by
 unfold My QB zg L4;obtain⟨z,h1,h2⟩:=Oe N v nx 0;rw[aoR,h1,aoR,aoR,h2];rfl
theorem ME{α:Type}{l:apH α}(h:0<l.length):l.take 1=[l[0]]:=by
 cases l with
 |nil=>cases h
 |cons x l=>rfl
theorem qj:bL (bs [])=[]:=rfl
theorem uy(N:Nat)(s:apI)(hN:16<N):pj N s=some (cE s):=by
 unfold pj cE C6;have hz:=nk s;by_cases h0:(bL s).length=0
 ·have:bL s=[]:=List.length_eq_zero_iff.1 h0;rw[this];rfl
 have cp:(bL s==bL (bs []))=false:=by
  rw[qj,beq_eq_false_iff_ne];intro h;rw[h]at h0;exact h0 rfl
 rw[cp,apA (show 1<=(bL s).length by omega),Bool.true_and];simp only[cond_false];by_cases b9:(bL s).length<=16
 ·rw[apA (show(s.size:Int)<=16 by omega),apA b9,Bool.true_and];simp only[cond_true];have hl:0<(bL s).length:=by omega
  rw[GK,aoW hl,aoR,Yf,YK,aoR,ajB N s (by omega) (by omega),aoR,ag9,aoR];rw[hz,yP,XP];have ht:(bL s).take 1=[(bL s)[0]]:=ME hl;rw[ht,apD,List.all_nil,Bool.and_true,jn,jn,aoR]
  congr 1
  cases uS (bL s)<;>cases oh (bL s)[0]<;>cases (bL s).all ju<;>rfl
 ·rw[apB (show ¬(s.size:Int)<=16 by omega),apB b9];rfl
theorem aen(N:Nat)(b:Bool):iG N b=some b:=by cases b<;>rfl
theorem akK(a b:Bool):(bif a then some a else some b)=some (a||b):=by cases a<;>rfl
theorem ahm(a b:apH UInt8):(a==b)=(b==a):=by rw[Bool.eq_iff_iff,beq_iff_eq,beq_iff_eq];exact eq_comm
theorem aga(N:Nat)(v:apI):HT N v=some (uS (bL v)):=by
 simp only[HT,aen,akK,uS,nx,apE,List.any_nil,Bool.or_false,ahm (bL v)]
theorem DD(n k:Nat):decide ((n:Int)<(k:Int))= !decide (k<=n):=by
 by_cases h:k<=n
 ·rw[apA h,apB (by omega)];rfl
 ·rw[apB h,apA (by omega)];rfl
theorem kL(n k:Nat):decide ((n:Int)>(k:Int))= !decide (n<=k):=by
 by_cases h:n<=k
 ·rw[apA h,apB (by omega)];rfl
 ·rw[apB h,apA (by omega)];rfl
theorem YR(n k:Nat):decide ((n:Int)>=(k:Int))=decide (k<=n):=qi (by omega)
theorem wR(n k:Nat):decide ((n:Int)<=(k:Int))=decide (n<=k):=qi (by omega)
theorem Oq(n k:Nat):((n:Int) !=(k:Int))= !(n==k):=by unfold bne;rw[yP]
theorem akL(c:UInt8):(bif (decide ((c.toNat:Int)<97))then(bif (decide ((c.toNat:Int)<48))then some ((c.toNat:Int) !=95)else(bif (decide ((c.toNat:Int)>57))then some ((c.toNat:Int) !=95)else some false))else(bif (decide ((c.toNat:Int)>122))then(bif (decide ((c.toNat:Int)<48))then some ((c.toNat:Int) !=95)else(bif (decide ((c.toNat:Int)>57))then some ((c.toNat:Int) !=95)else some false))else some false))=some (!ju c):=by
 have a1:=DD c.toNat 97;have a2:=DD c.toNat 48;have a3:=kL c.toNat 57;have a4:=kL c.toNat 122;have a5:=Oq c.toNat 95;simp only[Int.cast_ofNat_Int]at a1 a2 a3 a4 a5;rw[a1,a2,a3,a4,a5];unfold ju oh;cases decide (97<=c.toNat)<;>cases decide (48<=c.toNat)<;>cases decide (c.toNat<=57)<;>cases decide (c.toNat<=122)<;>cases (c.toNat==95)<;>rfl
theorem aa3(N:Nat)(s:apI)(hs:s.size<9223372036854775807):∀(k i:Nat),i<=s.size->s.size-i<k->BA N s k (i:Int)=some (((bL s).drop i).all ju)
 |0,i,_,hk=>absurd hk (apk _)
 |k+1,i,hi,hk=>by
  rw[BA];by_cases aH:i<s.size
  ·have h1:decide ((i:Int)<(s.size:Int))=true:=apA (by omega);have h2:decide ((0:Int)<=(i:Int))=true:=apA (by omega);rw[h1,h2];simp only[cond_true,apj];have hl:i<(bL s).length:=by rw[<-nk];exact aH
   rw[GK,aoW hl,List.drop_eq_getElem_cons hl,aoR,akL,aoR,apD];cases hw:ju (bL s)[i]with
   |true=>
    simp only[Bool.not_true,cond_false,Bool.true_and];rw[FU (Nat.lt_trans aH hs),aa3 N s hs k (i+1) aH (by omega)]
   |false=>rfl
  ·have h1:decide ((i:Int)<(s.size:Int))=false:=apB (by omega);rw[h1];simp only[cond_false];rw[List.drop_eq_nil_of_le (by rw[<-nk];omega)];rfl
theorem aj1(N:Nat)(s:apI)(hN:16<N):Lo N s=some (cE s):=by
 unfold Lo cE C6;have hz:=nk s;have a1:=DD s.size 1;have a2:=kL s.size 16;simp only[Int.cast_ofNat_Int]at a1 a2;rw[a1,a2,hz];cases h1:decide (1<=(bL s).length)with
 |false=>rfl
 |true=>
  cases b9:decide ((bL s).length<=16)with
  |false=>rfl
  |true=>
   have rT:=of_decide_eq_true h1;have aow:=of_decide_eq_true b9;have hl:0<(bL s).length:=by omega
   simp only[Bool.not_true,cond_false,Bool.true_and];rw[aga,aoR,GK,aoW hl,aoR];have b1:=DD (bL s)[0].toNat 97;have b2:=kL (bL s)[0].toNat 122;simp only[Int.cast_ofNat_Int]at b1 b2;rw[b1,b2,js,js,aoR,ME hl];have:=aa3 N s (by omega) N 0 (Nat.zero_le _) (by omega);rw[aps]at this;rw[show BA N s N 0=_ from this,apD,List.all_nil,Bool.and_true];unfold oh;cases uS (bL s)<;>cases decide (97<=(bL s)[0].toNat)<;>cases decide ((bL s)[0].toNat<=122)<;>rfl
theorem Tm(N:Nat)(v:apI):∀(l:apH apI)(k:Nat),Kk N v l k=some (l.any λw=>bL w==bL v)
 |[],_=>rfl
 |w::l,k=>by
  rw[Kk,apE,Tm N v l (k+1)];cases bL w==bL v<;>rfl
theorem aht(c:UInt8)(z:Bool):(bif (decide ((c.toNat:Int)>=97))then(bif (decide ((c.toNat:Int)<=122))then some (!true)else(bif z then(bif (decide ((c.toNat:Int)>=48))then(bif (decide ((c.toNat:Int)<=57))then some (!true)else some (!((c.toNat:Int)==95)))else some (!((c.toNat:Int)==95)))else some (!false)))else(bif z then(bif (decide ((c.toNat:Int)>=48))then(bif (decide ((c.toNat:Int)<=57))then some (!true)else some (!((c.toNat:Int)==95)))else some (!((c.toNat:Int)==95)))else some (!false)))=some (!(bif z then ju c else oh c)):=by
 have a1:=YR c.toNat 97;have a2:=YR c.toNat 48;have a3:=wR c.toNat 57;have a4:=wR c.toNat 122;have a5:=yP c.toNat 95;simp only[Int.cast_ofNat_Int]at a1 a2 a3 a4 a5;rw[a1,a2,a3,a4,a5];unfold ju oh;cases decide (97<=c.toNat)<;>cases decide (48<=c.toNat)<;>cases decide (c.toNat<=57)<;>cases decide (c.toNat<=122)<;>cases (c.toNat==95)<;>cases z<;>rfl
theorem XN(N:Nat)(s:apI)(hs:s.size<9223372036854775807):∀(k i:Nat),i<=s.size->s.size-i<k->Cu N s k (i:Int)=some (bif decide (i>0)then((bL s).drop i).all ju else((bL s).take 1).all oh&&((bL s).drop 1).all ju)
 |0,i,_,hk=>absurd hk (apk _)
 |k+1,i,hi,hk=>by
  rw[Cu];by_cases aH:i<s.size
  ·have h1:decide ((i:Int)<(s.size:Int))=true:=apA (by omega);have h2:decide ((0:Int)<=(i:Int))=true:=apA (by omega);rw[h1,h2];simp only[cond_true,apj];have hl:i<(bL s).length:=by rw[<-nk];exact aH
   rw[GK,aoW hl,aoR,aht,aoR];rw[FU (Nat.lt_trans aH hs),XN N s hs k (i+1) aH (by omega),apA (show i+1>0 by omega)];simp only[cond_true];by_cases h0:i=0
   ·subst h0;rw[apB (show ¬((0:Nat):Int)>0 by omega),apB (show ¬0>0 by omega)];simp only[cond_false];rw[ME hl,apD,List.all_nil,Bool.and_true];cases oh (bL s)[0]<;>rfl
   ·rw[apA (show(i:Int)>0 by omega),apA (show i>0 by omega)];simp only[cond_true];rw[List.drop_eq_getElem_cons hl,apD];cases ju (bL s)[i]<;>rfl
  ·have h1:decide ((i:Int)<(s.size:Int))=false:=apB (by omega);rw[h1];simp only[cond_false];have hn:(bL s).drop i=[]:=List.drop_eq_nil_of_le (by rw[<-nk];omega);by_cases h0:i=0
   ·subst h0;rw[aps]at hn;rw[hn];rfl
   ·rw[apA (show i>0 by omega),hn];rfl
theorem uh(N:Nat)(s:apI)(hN:16<N):pJ N s=some (cE s):=by
 unfold pJ cE C6;have hz:=nk s;have a1:=DD s.size 1;have a2:=kL s.size 16;simp only[Int.cast_ofNat_Int]at a1 a2;rw[a1,a2,hz];cases h1:decide (1<=(bL s).length)with
 |false=>rfl
 |true=>
  cases b9:decide ((bL s).length<=16)with
  |false=>rfl
  |true=>
   have rT:=of_decide_eq_true h1;have aow:=of_decide_eq_true b9;have hl:0<(bL s).length:=by omega
   simp only[Bool.not_true,cond_false,Bool.true_and];have hh:∀l,ud N l s=some (l.any λw=>bL w==bL s):=λl=>Tm N s l 0;unfold VI;rw[aoR,hh,aoR,aoR];have:=XN N s (by omega) N 0 (Nat.zero_le _) (by omega);rw[show Cu N s N 0=_ from this];show(bif uS (bL s)then some false else some (((bL s).take 1).all oh&&((bL s).drop 1).all ju))=_;have hw:(bL s).all ju=(ju (bL s)[0]&&((bL s).drop 1).all ju):=by
    have hd:bL s=(bL s)[0]::(bL s).drop 1:=by
     have:=List.drop_eq_getElem_cons hl
     rwa [aps]at this
    rw[<-apD,<-hd]
   rw[hw,ME hl,apD,List.all_nil,Bool.and_true];unfold ju;cases uS (bL s)<;>cases oh (bL s)[0]<;>simp
def eO(t:bq):Bool:=
 bif t.bS==1||t.bS==3 then t.cb==0&&(t.ca==0&&(t.cJ==0&&t.cH==0))
 else t.bS==2&&(decide (2<=t.cb)&&(decide (t.cb<=31)&&(decide (0<=t.ca)&&(decide (t.ca<=30)&&(decide (1<=t.cJ)&&(decide (t.cJ<=4)&&(t.cH==1||t.cH==2)))))))
theorem ahB(a:Bool):(bif a then some true else some false)=some a:=by cases a<;>rfl
theorem NP(a b:Int):decide (a<b)= !decide (b<=a):=by
 by_cases h:b<=a
 ·rw[apA h,apB (by omega)];rfl
 ·rw[apB h,apA (by omega)];rfl
theorem Lq(a b:Int):decide (a>b)= !decide (a<=b):=NP b a
theorem sK(a b:Int):decide (a>=b)=decide (b<=a):=rfl
theorem rj(a b:Int):(a !=b)= !(a==b):=rfl
theorem sk(N:Nat)(t:bq):qY N t=some (eO t):=by
 unfold qY eO;simp only[js,jn,aoR,sK];cases (t.bS==1||t.bS==3)<;>rfl
theorem Xb(N:Nat)(t:bq)(h:(t.bS==2)=true):uu N t=some (bif (decide (2<=t.cb)&&(decide (t.cb<=31)&&(decide (0<=t.ca)&&(decide (t.ca<=30)&&(decide (1<=t.cJ)&&(decide (t.cJ<=4)&&(t.cH==1||t.cH==2)))))))then 0 else 10):=by
 unfold uu;simp only[js,jn,aoR,sK,Lq,rj,h,Bool.not_true,Bool.false_or];cases decide (2<=t.cb)<;>cases decide (t.cb<=31)<;>cases decide (0<=t.ca)<;>cases decide (t.ca<=30)<;>cases decide (1<=t.cJ)<;>cases decide (t.cJ<=4)<;>cases t.cH==1<;>cases t.cH==2<;>rfl
theorem rP(N:Nat)(t:bq):qv N t=some (bif eO t then 0 else 10):=by
 unfold qv Cm eO O0;cases h1:t.bS==1 with
 |true=>
  simp only[cond_true,aoR,apC,Bool.true_and,Bool.true_or,Bool.and_true];cases (t.cb==0&&(t.ca==0&&(t.cJ==0&&t.cH==0)))<;>rfl
 |false=>
  cases h3:t.bS==3 with
  |true=>
   simp only[cond_true,cond_false,aoR,apC,Bool.true_and,Bool.or_true,Bool.and_true];cases (t.cb==0&&(t.ca==0&&(t.cJ==0&&t.cH==0)))<;>rfl
  |false=>
   cases h2:t.bS==2 with
   |true=>
    rw[Xb N t h2];simp only[cond_true,cond_false,aoR,Bool.true_and,Bool.or_false];cases (decide (2<=t.cb)&&(decide (t.cb<=31)&&(decide (0<=t.ca)&&(decide (t.ca<=30)&&(decide (1<=t.cJ)&&(decide (t.cJ<=4)&&(t.cH==1||t.cH==2)))))))<;>rfl
   |false=>rfl
def oM:apJ apI->apH bf->Bool
 |_,[]=>true
 |p,m::l=>cE m.ao&&(!(m.ck.toInt==0)&&((match p with|none=>true|some q=>Op.bytesLess (bL q) (bL m.ao))&&oM (some m.ao) l))
theorem AJ(p:apJ apI)(m:bf)(l:apH bf):oM p (m::l)=(cE m.ao&&(!(m.ck.toInt==0)&&((match p with|none=>true|some q=>Op.bytesLess (bL q) (bL m.ao))&&oM (some m.ao) l))):=by cases p<;>rfl
def dq(x:aN):Bool:=oM none x.xL
def tS(x:aN)(k:Nat):apJ apI:=bif k==0 then none else(x.xL[k-1]?).map (·.ao)
theorem afn{k:Nat}(h0:0<k)(h:k<=maxLen):bh ((k:Int)-1)=((k-1:Nat):Int):=by
 unfold bh;have:(k:Int)-1=((k-1:Nat):Int):=by omega
 rw[this];unfold maxLen at h;rw[IntKind.wrap_i64]<;>omega
theorem aa7{x:aN}{k:Nat}{m:bf}{l:apH bf}(hd:x.xL.drop k=m::l):tS x (k+1)=some m.ao:=by
 have:=bt hd;unfold tS;simp [this]
theorem Us{x:aN}{k:Nat}{m:bf}{l:apH bf}(hd:x.xL.drop k=m::l)(hm:x.xL.length<=maxLen):
 (bif (decide ((k:Int)>0))then bif (decide ((0:Int)<=(bh ((k:Int)-(1:Int)))))then
 Option.bind (x.xL[((bh ((k:Int)-(1:Int)))).toNat]?) λv7=>
 some (!(Op.bytesLess (bL v7.ao) (bL m.ao)))
 else none else some false)=some (!(match tS x k with|none=>true|some q=>Op.bytesLess (bL q) (bL m.ao))):=by
 have aH:k<x.xL.length:=(aoS.1 (bt hd)).1;by_cases h0:k=0
 ·subst h0;rfl
 ·rw[apA (show(k:Int)>0 by omega),afn (by omega) (by omega),apA (show(0:Int)<=((k-1:Nat):Int) by omega)];simp only[cond_true,apj];have hp:tS x k=(x.xL[k-1]?).map (·.ao):=by
    unfold tS;rw[beq_false_of_ne h0];rfl
  rw[hp,aoW (show k-1<x.xL.length by omega)];rfl
theorem XJ(N:Nat)(hN:16<N)(x:aN)(hm:x.xL.length<=maxLen):∀(l:apH bf)(k:Nat),x.xL.drop k=l->GS N x l k=some (bif oM (tS x k) l then 0 else 1)
 |[],k,_=>rfl
 |m::l,k,hd=>by
  rw[GS,aj1 N m.ao hN,aoR,AJ,Us hd hm,XJ N hN x hm l (k+1) (sf hd),aa7 hd];generalize (match tS x k with|none=>true|some q=>Op.bytesLess (bL q) (bL m.ao))=b;cases cE m.ao<;>cases (m.ck.toInt==0)<;>cases b<;>cases oM (some m.ao) l<;>rfl
theorem tB(N:Nat)(hN:16<N)(x:aN)(hm:x.xL.length<=maxLen):rR N x=some (bif dq x then 0 else 1):=XJ N hN x hm x.xL 0 rfl
theorem Zu(N:Nat)(hN:16<N)(x:aN)(hm:x.xL.length<=maxLen):∀(l:apH bf)(k:Nat),x.xL.drop k=l->HP N x l k=some (oM (tS x k) l)
 |[],k,_=>rfl
 |m::l,k,hd=>by
  rw[HP,uh N m.ao hN,aoR,AJ,Us hd hm,Zu N hN x hm l (k+1) (sf hd),aa7 hd];generalize (match tS x k with|none=>true|some q=>Op.bytesLess (bL q) (bL m.ao))=b;cases cE m.ao<;>cases (m.ck.toInt==0)<;>cases b<;>cases oM (some m.ao) l<;>rfl
theorem rF(N:Nat)(hN:16<N)(x:aN)(hm:x.xL.length<=maxLen):o6 N x=some (dq x):=Zu N hN x hm x.xL 0 rfl
def mr(t:bq)(v:dy):Bool:=
 bif t.bS==2 then v.xD.toInt==1&&(decide (-(2^(t.cb-1).toNat)<=v.xN.toInt)&&decide (v.xN.toInt<2^(t.cb-1).toNat))
 else decide (v.xN.toInt<=2147483647)&&(decide (-2147483647<=v.xN.toInt)&&(decide (1<=v.xD.toInt)&&(decide (v.xD.toInt<=2147483647)&&
  (bif t.bS==3 then v.xD.toInt==1 else Nat.gcd v.xN.toInt.natAbs v.xD.toInt.toNat==1))))
theorem agM:∀n:Fin 30,(decide ((0:Int)<=(IntKind.u64.wrap (bh (((n.val+2:Nat):Int)-(1:Int))))))=true/\(decide ((0:Int)<=(bh (((n.val+2:Nat):Int)-(1:Int)))))=true/\
 (-(Int64.ofInt ((1:Int)*2^(min ((IntKind.u64.wrap (bh (((n.val+2:Nat):Int)-(1:Int))))).toNat (IntKind.bits .i64))))).toInt= -(2^(n.val+1))/\
 ((Int64.ofInt ((1:Int)*2^(min ((IntKind.u64.wrap (bh (((n.val+2:Nat):Int)-(1:Int))))).toNat (IntKind.bits .i64))))-(1:Int64)).toInt=2^(n.val+1)-1/\
 (-(Int64.ofInt ((1:Int)*2^(min ((bh (((n.val+2:Nat):Int)-(1:Int)))).toNat (IntKind.bits .i64))))).toInt= -(2^(n.val+1))/\
 (Int64.ofInt ((1:Int)*2^(min ((bh (((n.val+2:Nat):Int)-(1:Int)))).toNat (IntKind.bits .i64)))).toInt=2^(n.val+1):=by decide+kernel
theorem ab7{b:Int}(h1:2<=b)(h2:b<=31):(decide ((0:Int)<=(IntKind.u64.wrap (bh (b-(1:Int))))))=true/\(decide ((0:Int)<=(bh (b-(1:Int)))))=true/\
 (-(Int64.ofInt ((1:Int)*2^(min ((IntKind.u64.wrap (bh (b-(1:Int))))).toNat (IntKind.bits .i64))))).toInt= -(2^(b-1).toNat)/\
 ((Int64.ofInt ((1:Int)*2^(min ((IntKind.u64.wrap (bh (b-(1:Int))))).toNat (IntKind.bits .i64))))-(1:Int64)).toInt=2^(b-1).toNat-1/\
 (-(Int64.ofInt ((1:Int)*2^(min ((bh (b-(1:Int)))).toNat (IntKind.bits .i64))))).toInt= -(2^(b-1).toNat)/\
 (Int64.ofInt ((1:Int)*2^(min ((bh (b-(1:Int)))).toNat (IntKind.bits .i64)))).toInt=2^(b-1).toNat:=by
 obtain⟨n,rfl⟩:∃n:Nat,b=n:=⟨b.toNat,by omega⟩;have:=agM ⟨n-2,by omega⟩;simp only[show n-2+2=n by omega,show n-2+1=n-1 by omega]at this;rw[show((n:Int)-1).toNat=n-1 by omega];exact this
theorem P6(N:Nat):∀(k a b:Nat),b<k->y5 N k (a:Int) (b:Int)=some ((Nat.gcd a b:Nat):Int)
 |0,a,b,h=>absurd h (apk _)
 |k+1,a,b,h=>by
  rw[y5];by_cases h0:b=0
  ·subst h0;simp
  ·rw[show(((b:Nat):Int) !=0)=true by rw[bne_iff_ne];omega];simp only[cond_true];rw[<-Int.ofNat_tmod,P6 N k b (a%b) (by have:=Nat.mod_lt a (Nat.pos_of_ne_zero h0);omega)];rw[Nat.gcd_comm a b,Nat.gcd_rec b a,Nat.gcd_comm]
theorem Wk(N:Nat):∀(k:Nat)(a b:Int64),0<=a.toInt->0<=b.toInt->b.toInt.toNat<k->∃g:Int64,Mf N k a b=some g/\g.toInt=((Nat.gcd a.toInt.toNat b.toInt.toNat:Nat):Int)
 |0,a,b,_,_,h=>absurd h (apk _)
 |k+1,a,b,ha,hb,h=>by
  rw[Mf];by_cases h0:b.toInt=0
  ·rw[h0];refine⟨a,rfl,?_⟩;show a.toInt=((Nat.gcd a.toInt.toNat 0:Nat):Int);rw[Nat.gcd_zero_right];omega
  ·rw[show(b.toInt !=0)=true by rw[bne_iff_ne];exact h0];simp only[cond_true];obtain⟨x,hx⟩:∃x:Nat,a.toInt=x:=⟨a.toInt.toNat,by omega⟩;obtain⟨y,hy⟩:∃y:Nat,b.toInt=y:=⟨b.toInt.toNat,by omega⟩;rw[hx,hy];have hyp:0<y:=by omega
   have hm:(x:Int).tmod (y:Int)=((x%y:Nat):Int):=(Int.ofNat_tmod x y).symm;have aH:=Nat.mod_lt x hyp;have jS:b.toInt<2^63:=Int64.toInt_lt b;have mg:(Int64.ofInt ((x%y:Nat):Int)).toInt=((x%y:Nat):Int):=by
    rw[Int64.toInt_ofInt_of_le]
    ·omega
    ·omega
   rw[hm];obtain⟨g,h1,h2⟩:=Wk N k b (Int64.ofInt ((x%y:Nat):Int)) hb (by rw[mg];omega) (by rw[mg];omega);refine⟨g,h1,?_⟩;rw[h2,mg,hy];simp only[apj];rw[Nat.gcd_comm x y,Nat.gcd_rec y x,Nat.gcd_comm]
theorem tg(z:Int):IntKind.u64.wrap z=z%18446744073709551616:=rfl
theorem IA(N:Nat)(v:Int64):BU N v=some ((v.toInt.natAbs:Nat):Int):=by
 unfold BU;have h1:v.toInt<2^63:=Int64.toInt_lt v;have h2: -2^63<=v.toInt:=Int64.le_toInt v;by_cases h:v.toInt<0
 ·rw[apA h];simp only[cond_true,tg]
  congr 1
  omega
 ·rw[apB h];simp only[cond_false,tg]
  congr 1
  omega
theorem Ta(N:Nat)(hN:2147483648<N)(t:bq)(v:dy)(ht:eO t=true):vH N t v=some (mr t v):=by
 unfold vH;rw[rP,ht,aoR];unfold mr;cases h2:t.bS==2 with
 |true=>
  simp only[cond_true];show Option.bind (vL N t v) _=_;unfold eO at ht;have hk:t.bS=2:=by simpa using h2
  rw[hk]at ht;have q9:(decide (2<=t.cb)&&(decide (t.cb<=31)&&(decide (0<=t.ca)&&(decide (t.ca<=30)&&(decide (1<=t.cJ)&&(decide (t.cJ<=4)&&(t.cH==1||t.cH==2)))))))=true:=ht;unfold vL;rw[Xb N t h2,q9,aoR];simp only[aoU,decide_eq_true_eq]at q9;obtain⟨b1,b2,_⟩:=q9;obtain⟨f1,f2,f3,f4,f5,f6⟩:=ab7 b1 b2;unfold M9 PC GM;rw[jn,aoR,aoR,sK,apA b1,apA b2];simp only[Bool.and_self,cond_true];rw[f1];simp only[cond_true,aoR];rw[f3,f4];rw[sK,jn,qi (p:=v.xN.toInt<=2^(t.cb-1).toNat-1) (q:=v.xN.toInt<2^(t.cb-1).toNat) (by omega)];cases (v.xD.toInt==1)<;>rfl
 |false=>
  simp only[cond_false];show(bif t.bS==3 then _ else _)=_;cases h3:t.bS==3 with
  |true=>
   simp only[cond_true];unfold RD;rw[sK,jn,aoR,aoR];by_cases hd:v.xD.toInt=1
   ·rw[hd];simp only[apC,cond_true,aoR,show decide ((1:Int)<=1)=true from rfl,show decide ((1:Int)<=2147483647)=true from rfl,Bool.and_true];rw[Bool.and_comm]
   ·rw[beq_false_of_ne hd];simp only[cond_false,aoR,Bool.and_false]
  |false=>
   simp only[cond_false];unfold x7 OF;rw[sK,sK,jn,aoR,aoR,IA,aoR];cases Gc:decide (1<=v.xD.toInt)with
   |false=>cases decide (v.xN.toInt<=2147483647)<;>cases decide (-2147483647<=v.xN.toInt)<;>rfl
   |true=>
    cases mI:decide (v.xD.toInt<=2147483647)with
    |false=>cases decide (v.xN.toInt<=2147483647)<;>cases decide (-2147483647<=v.xN.toInt)<;>rfl
    |true=>
     have e1:=of_decide_eq_true Gc;have e2:=of_decide_eq_true mI;have hw:IntKind.u64.wrap v.xD.toInt=((v.xD.toInt.toNat:Nat):Int):=by rw[tg];omega
     simp only[cond_true,Bool.true_and];rw[hw];unfold GA;rw[P6 N N v.xN.toInt.natAbs v.xD.toInt.toNat (by omega),aoR,show((((Nat.gcd v.xN.toInt.natAbs v.xD.toInt.toNat:Nat):Int))==1)=(Nat.gcd v.xN.toInt.natAbs v.xD.toInt.toNat==1)from yP _ 1,jn,aoR];cases decide (v.xN.toInt<=2147483647)<;>cases decide (-2147483647<=v.xN.toInt)<;>rfl
theorem Np(N:Nat)(hN:2147483648<N)(t:bq)(v:dy)(ht:eO t=true):BP N t v=some (mr t v):=by
 unfold BP mr;cases h2:t.bS==2 with
 |true=>
  simp only[cond_true];unfold eO at ht;have hk:t.bS=2:=by simpa using h2
  rw[hk]at ht;have q9:(decide (2<=t.cb)&&(decide (t.cb<=31)&&(decide (0<=t.ca)&&(decide (t.ca<=30)&&(decide (1<=t.cJ)&&(decide (t.cJ<=4)&&(t.cH==1||t.cH==2)))))))=true:=ht;simp only[aoU,decide_eq_true_eq]at q9;obtain⟨b1,b2,_⟩:=q9;obtain⟨f1,f2,f3,f4,f5,f6⟩:=ab7 b1 b2;rw[f2];simp only[cond_true];rw[f5,f6,sK,jn,jn,aoR]
 |false=>
  simp only[cond_false,Lq,js,aoR];cases wA:decide (v.xN.toInt<=2147483647)with
  |false=>rfl
  |true=>
   cases jT:decide (-2147483647<=v.xN.toInt)with
   |false=>rfl
   |true=>
    cases Gc:decide (1<=v.xD.toInt)with
    |false=>rfl
    |true=>
     cases mI:decide (v.xD.toInt<=2147483647)with
     |false=>rfl
     |true=>
      have n1:=of_decide_eq_true wA;have n2:=of_decide_eq_true jT;have e1:=of_decide_eq_true Gc;have e2:=of_decide_eq_true mI;simp only[Bool.not_true,Bool.or_false,cond_false,Bool.true_and];cases h3:t.bS==3 with
      |true=>rfl
      |false=>
       simp only[cond_false];have ahO:(-v.xN).toInt= -v.xN.toInt:=by
        rw[Int64.toInt_neg];rw[Int.bmod_eq_of_le]<;>omega
       have ym:(F0 v.xN (-v.xN)).toInt=((v.xN.toInt.natAbs:Nat):Int):=by
        rw[<-ahp,ahO];split<;>omega
       unfold ZB;obtain⟨g,g1,g2⟩:=Wk N N (F0 v.xN (-v.xN)) v.xD (by rw[ym];omega) (by omega) (by omega);rw[g1,aoR,g2,ym,apj];rw[show((((Nat.gcd v.xN.toInt.natAbs v.xD.toInt.toNat:Nat):Int))==1)=(Nat.gcd v.xN.toInt.natAbs v.xD.toInt.toNat==1)from yP _ 1]
set_option linter.unusedSimpArgs false
def jE(l:aN):Prop:=l.xL.length<=maxLen
structure aau(x:bu):Prop where
 eW:jE x.aQ
 at_:∀l∈x.bG,jE l
structure BQ(e:ar):Prop where
 eW:jE e.aQ
 idx:∀x∈e.xIdx,aau x
 args:e.bk.length<=maxLen
def po(e:ar):Prop:=∀x∈cy e,BQ x
def j8(l:aN):Bool:=l.xK.toInt==0&&l.xL.length==0
def kg(x:bu):Bool:=bif bL x.bH==[]then x.bG.length==0 else j8 x.aQ
def JK(v:dy):Bool:=v.xN.toInt==0&&v.xD.toInt==0
def HX(t:bq):Bool:=t.bS==0&&(t.cb==0&&(t.ca==0&&(t.cJ==0&&t.cH==0)))
def iA(e:ar):Bool:=decide (1<=e.aJ)&&(decide (e.aJ<=18)&&((e.aJ==1||JK e.dK)&&((e.aJ==1||(e.aJ==12||HX e.aM))&&((e.aJ==2||j8 e.aQ)&&((e.aJ==3||(bL e.ao==[]&&e.xIdx.length==0))&&e.xIdx.all kg)))))
def lM(e:ar):Bool:=(!(e.aJ==3)||cE e.ao)&&e.xIdx.all λx=>bL x.bH==[]||cE x.bH
def qT(op:Int):Int:=bif op==1||(op==2||op==3)then 0 else bif op==8||(op==12||op==18)then 1 else bif op==11 then 3 else 2
def kR(e:ar):Bool:=(e.bk.length:Int)==qT e.aJ&&(decide (e.xIdx.length<=6)&&e.xIdx.all λx=>decide (x.bG.length<=6))
def mM(e:ar):Bool:=decide (13<=e.aJ)&&decide (e.aJ<=18)
def xS(op:Int)(i:Nat):Bool:=(op==11&&i==0)||(op==16||(op==17||op==18))
def qU(op:Int):Nat->apH ar->Bool
 |_,[]=>true
 |i,a::l=>mM a==xS op i&&qU op (i+1) l
def kP(e:ar):Bool:=(!(e.aJ==1||e.aJ==12)||eO e.aM)&&qU e.aJ 0 e.bk
def lr(e:ar):Bool:=(!(e.aJ==1)||mr e.aM e.dK)&&(mY e).all dq
def lE(e:ar):Int:=bif iA e then bif lM e then bif kR e then bif kP e then bif lr e then 0 else 1 else 10 else 11 else 7 else 5
theorem p8(n:Nat):((n:Int)==0)=(n==0):=yP n 0
theorem j5(n:Nat):decide ((n:Int)>0)= !(n==0):=by
 by_cases h:n=0
 ·subst h;rfl
 ·rw[apA (show(n:Int)>0 by omega),beq_false_of_ne h];rfl
theorem UZ(N:Nat)(l:aN):Eh N l=some (j8 l):=by
 unfold Eh j8;rw[jn,aoR,p8]
theorem al8(N:Nat)(x:bu):Hj N x=some (kg x):=by
 unfold Hj kg;rw[UZ,aoR,p8,qj];cases bL x.bH==[]<;>rfl
theorem SH{α:Type}(f:α->Bool)(l:apH α):(l.any λx=> !f x)= !l.all f:=by
 induction l with
 |nil=>rfl
 |cons x l ih=>rw[apE,apD,ih];cases f x<;>rfl
theorem We(N:Nat):∀(l:apH bu)(k:Nat),∃z:Int,Ix N l k=some z/\decide (z>=0)=l.any λx=> !kg x
 |[],k=>⟨-1,rfl,rfl⟩
 |x::l,k=>by
  rw[Ix,apE];unfold Pj;rw[al8,aoR,aoR];cases h: !kg x with
  |true=>exact⟨k,rfl,apA (by omega)⟩
  |false=>exact We N l (k+1)
theorem ak6(N:Nat)(l:apH bu):I6 N l=some (!l.all kg):=by
 unfold I6 Rk;obtain⟨z,h1,h2⟩:=We N l 0;rw[h1,aoR,h2,SH]
theorem acr(v:dy):((v.xN.toInt==(0:Int64).toInt)&&((v.xD.toInt==(0:Int64).toInt)&&true))=JK v:=by rw[Bool.and_true];rfl
theorem Uk(t:bq):((t.bS==0)&&((t.cb==0)&&((t.ca==0)&&((t.cJ==0)&&((t.cH==0)&&true)))))=HX t:=by rw[Bool.and_true];rfl
theorem uw(a b:Bool):(bif a then some false else some b)=some (!a&&b):=by cases a<;>rfl
theorem ZP(a b:Bool):(bif a then some b else some true)=some (!a||b):=by cases a<;>rfl
theorem ak9(N:Nat)(e:ar):K6 N e=some (iA e):=by
 unfold K6 iA;simp only[j5];simp only[js,jn,uw,ZP,aoR,Lq,NP,UZ,ak6,acr,Uk,qj];cases decide (1<=e.aJ)<;>cases decide (e.aJ<=18)<;>cases e.aJ==1<;>cases JK e.dK<;>cases e.aJ==12<;>cases HX e.aM<;>cases e.aJ==2<;>cases j8 e.aQ<;>cases e.aJ==3<;>cases bL e.ao==[]<;>cases e.xIdx.length==0<;>cases e.xIdx.all kg<;>rfl
theorem aax(N:Nat):∀(l:apH bu)(k:Nat),L7 N l k=some (l.all kg)
 |[],_=>rfl
 |x::l,k=>by
  rw[L7,apD,aax N l (k+1)];unfold kg j8;simp only[js,ahB,jn,aoR,j5,rj,qj];cases bL x.bH==[]<;>cases x.bG.length==0<;>cases x.aQ.xK.toInt==0<;>cases x.aQ.xL.length==0<;>rfl
theorem aka(N:Nat)(e:ar):Sz N e=some (iA e):=by
 unfold Sz iA;simp only[j5];simp only[js,jn,uw,ZP,aoR,Lq,NP,rj,aax,acr,Uk,qj];unfold j8;cases decide (1<=e.aJ)<;>cases decide (e.aJ<=18)<;>cases e.aJ==1<;>cases JK e.dK<;>cases e.aJ==12<;>cases HX e.aM<;>cases e.aJ==2<;>cases e.aQ.xK.toInt==0<;>cases e.aQ.xL.length==0<;>cases e.aJ==3<;>cases bL e.ao==[]<;>cases e.xIdx.length==0<;>cases e.xIdx.all kg<;>rfl
theorem afZ(N:Nat)(hN:16<N)(x:bu):G8 N x=some (!(bL x.bH==[]||cE x.bH)):=by
 unfold G8;rw[uy N _ hN,aoR,uw,aoR,qj];cases bL x.bH==[]<;>rfl
theorem TA(N:Nat)(hN:16<N):∀(l:apH bu)(k:Nat),∃z:Int,KT N l k=some z/\decide (z>=0)=l.any λx=> !(bL x.bH==[]||cE x.bH)
 |[],k=>⟨-1,rfl,rfl⟩
 |x::l,k=>by
  rw[KT,apE,afZ N hN,aoR];cases h: !(bL x.bH==[]||cE x.bH)with
  |true=>exact⟨k,rfl,apA (by omega)⟩
  |false=>exact TA N hN l (k+1)
theorem akQ(N:Nat)(hN:16<N)(e:ar):LB N e=some (lM e):=by
 unfold LB lM NC P3;obtain⟨z,h1,h2⟩:=TA N hN e.xIdx 0;rw[uy N _ hN,aoR,h1];simp only[aoR,h2,SH,jn,uw];cases e.aJ==3<;>cases cE e.ao<;>cases (e.xIdx.all λx=>bL x.bH==[]||cE x.bH)<;>rfl
theorem Xq(N:Nat)(hN:16<N):∀(l:apH bu)(k:Nat),L0 N l k=some (l.all λx=>bL x.bH==[]||cE x.bH)
 |[],_=>rfl
 |x::l,k=>by
  rw[L0,apD,Xq N hN l (k+1),uh N _ hN,aoR,uw,aoR,uw,qj];cases bL x.bH==[]<;>cases cE x.bH<;>rfl
theorem amb(N:Nat)(hN:16<N)(e:ar):Po N e=some (lM e):=by
 unfold Po lM;rw[uh N _ hN,aoR,Xq N hN];simp only[aoR,jn,uw];cases e.aJ==3<;>cases cE e.ao<;>rfl
theorem ZW(N:Nat):∀(l:apH bu)(k:Nat),∃z:Int,Ib N l k=some z/\decide (z>=0)=l.any λx=> !decide (x.bG.length<=6)
 |[],k=>⟨-1,rfl,rfl⟩
 |x::l,k=>by
  rw[Ib,apE];unfold Nd;rw[aoR,show decide ((x.bG.length:Int)>6)= !decide (x.bG.length<=6)from kL _ 6];cases h: !decide (x.bG.length<=6)with
  |true=>exact⟨k,rfl,apA (by omega)⟩
  |false=>exact ZW N l (k+1)
theorem aoc(N:Nat)(op:Int):G4 N op=some (qT op):=by
 unfold G4 EF FH qT;cases op==1<;>cases op==2<;>cases op==3<;>cases op==8<;>cases op==12<;>cases op==18<;>cases op==11<;>rfl
theorem acV(N:Nat)(op:Int):M3 N op=some (qT op):=by
 unfold M3 Ml Ie qT;cases op==1<;>cases op==2<;>cases op==3<;>cases op==8<;>cases op==12<;>cases op==18<;>cases op==11<;>rfl
theorem aov(N:Nat)(e:ar):Jj N e=some (kR e):=by
 unfold Jj kR NG O4;obtain⟨z,h1,h2⟩:=ZW N e.xIdx 0;rw[aoc,aoR,h1,show decide ((e.xIdx.length:Int)>6)= !decide (e.xIdx.length<=6)from kL _ 6];simp only[aoR,h2,SH,js,uw,rj];cases (e.bk.length:Int)==qT e.aJ<;>cases decide (e.xIdx.length<=6)<;>cases (e.xIdx.all λx=>decide (x.bG.length<=6))<;>rfl
theorem Vu(N:Nat):∀(l:apH bu)(k:Nat),I8 N l k=some (l.all λx=>decide (x.bG.length<=6))
 |[],_=>rfl
 |x::l,k=>by
  rw[I8,apD,Vu N l (k+1),show decide ((x.bG.length:Int)>6)= !decide (x.bG.length<=6)from kL _ 6];cases decide (x.bG.length<=6)<;>rfl
theorem aim(N:Nat)(e:ar):Pr N e=some (kR e):=by
 unfold Pr kR;rw[acV,aoR,Vu,show decide ((e.xIdx.length:Int)>6)= !decide (e.xIdx.length<=6)from kL _ 6];simp only[aoR,js,uw,rj];cases (e.bk.length:Int)==qT e.aJ<;>cases decide (e.xIdx.length<=6)<;>rfl
theorem aa4(N:Nat)(e:ar):CA N e=some (mM e):=by
 unfold CA mM;rw[jn,aoR]
theorem D9(N:Nat)(e:ar):KD N e=some (mM e):=by
 unfold KD mM;rw[sK,jn,aoR]
theorem ah5(N:Nat)(op:Int)(i:Nat):KW N op (i:Int)=some (xS op i):=by
 unfold KW Ek xS;rw[p8];cases op==16<;>cases op==17<;>cases op==18<;>cases op==11<;>cases i==0<;>rfl
theorem alj(N:Nat)(op:Int)(i:Nat):Ss N op (i:Int)=some (xS op i):=by
 unfold Ss xS;rw[p8];cases op==16<;>cases op==17<;>cases op==18<;>cases op==11<;>cases i==0<;>rfl
theorem VH(N:Nat)(e:ar):∀(l:apH ar)(i:Nat),IX N e l i=some (qU e.aJ i l)
 |[],_=>rfl
 |a::l,i=>by
  rw[IX,qU,aa4,aoR,ah5,aoR,VH N e l (i+1)];cases mM a==xS e.aJ i<;>rfl
theorem Y0(N:Nat)(e:ar):∀(l:apH ar)(i:Nat),Kt N e l i=some (qU e.aJ i l)
 |[],_=>rfl
 |a::l,i=>by
  rw[Kt,qU,D9,aoR,alj,aoR,Y0 N e l (i+1)];cases mM a==xS e.aJ i<;>rfl
theorem ahY(b:Bool):((bif b then(0:Int)else 10) !=0)= !b:=by cases b<;>rfl
theorem af0(N:Nat)(e:ar):Mg N e=some (kP e):=by
 unfold Mg kP;rw[rP,aoR,VH];simp only[ahY];cases e.aJ==1<;>cases e.aJ==12<;>cases eO e.aM<;>rfl
theorem ann(N:Nat)(e:ar):PN N e=some (kP e):=by
 unfold PN kP;rw[sk,aoR,Y0];cases e.aJ==1<;>cases e.aJ==12<;>cases eO e.aM<;>rfl
theorem afe(b:Bool):((bif b then(0:Int)else 1) !=0)= !b:=by cases b<;>rfl
theorem Ys(N:Nat)(hN:16<N):∀l:apH aN,(∀x∈l,jE x)->wC N l=some (bif l.all dq then 0 else 1)
 |[],_=>rfl
 |x::l,h=>by
  rw[wC,tB N hN x (h x aoY),aoR,afe,Ys N hN l (λy hy=>h y (ao1 _ hy)),apD];cases dq x<;>rfl
theorem Vc(N:Nat)(hN:16<N)(c:Bool):∀(l:apH aN)(k:Nat),(∀x∈l,jE x)->HY N (some c) l k=some (l.all dq&&c)
 |[],_,_=>rfl
 |x::l,k,h=>by
  rw[HY,rF N hN x (h x aoY),aoR,Vc N hN c l (k+1) (λy hy=>h y (ao1 _ hy)),apD];cases dq x<;>rfl
theorem VS(N:Nat)(hN:16<N):∀(l:apH bu)(k:Nat),(∀x∈l,aau x)->MB N l k=some ((l.flatMap te).all dq)
 |[],_,_=>rfl
 |x::l,k,h=>by
  have hx:=h x aoY;rw[MB,rF N hN _ hx.eW,aoR,VS N hN l (k+1) (λy hy=>h y (ao1 _ hy)),Vc N hN _ _ _ hx.at_,List.flatMap_cons,te,List.cons_append,apD,List.all_append];cases dq x.aQ<;>rfl
theorem aou{e:ar}(h:BQ e):∀x∈mY e,jE x:=by
 intro x hx;unfold mY at hx;rcases apm.1 hx with rfl|hx
 ·exact h.eW
 ·obtain⟨y,hy,hx⟩:=List.mem_flatMap.1 hx;unfold te at hx;rcases apm.1 hx with rfl|hx
  ·exact(h.idx y hy).eW
  ·exact(h.idx y hy).at_ x hx
theorem ajU(N:Nat)(hN:2147483648<N)(e:ar)(h:BQ e)(ht:kP e=true):NY N e=some (lr e):=by
 unfold NY lr mY;rw[apD,rF N (by omega) _ h.eW,aoR,VS N (by omega) _ _ h.idx];cases h1:e.aJ==1 with
 |true=>
  have q7:eO e.aM=true:=by
   unfold kP at ht;rw[h1]at ht;simp only[Bool.true_or,Bool.not_true,Bool.false_or,aoU]at ht;exact ht.1
  rw[Np N hN _ _ q7,aoR];cases mr e.aM e.dK<;>cases dq e.aQ<;>rfl
 |false=>cases dq e.aQ<;>rfl
theorem adD(N:Nat)(hN:2147483648<N)(e:ar)(h:BQ e):EP N e=some (lE e):=by
 unfold EP lE;rw[ak9,aoR];cases iA e with
 |false=>rfl
 |true=>
  simp only[cond_true];rw[akQ N (by omega),aoR];cases lM e with
  |false=>rfl
  |true=>
   simp only[cond_true];rw[aov,aoR];cases kR e with
   |false=>rfl
   |true=>
    simp only[cond_true];rw[af0,aoR];cases ht:kP e with
    |false=>rfl
    |true=>
     simp only[cond_true];have hf:wC N (mY e)=_:=Ys N (by omega) (mY e) (aou h);unfold lr R5;rw[aoR,hf];cases h1:e.aJ==1 with
     |true=>
      have q7:eO e.aM=true:=by
       unfold kP at ht;rw[h1]at ht;simp only[Bool.true_or,Bool.not_true,Bool.false_or,aoU]at ht;exact ht.1
      rw[Ta N hN _ _ q7,aoR];cases mr e.aM e.dK<;>cases (mY e).all dq<;>rfl
     |false=>cases (mY e).all dq<;>rfl
theorem qc{e x:ar}(h:x∈e.bk):SizeOf.sizeOf x<SizeOf.sizeOf e:=by
 have h1:=List.sizeOf_lt_of_mem h;cases e
 simp only[ar.mk.sizeOf_spec]at*;omega
theorem zl{e x y:ar}(h:x∈e.bk)(hy:y∈cy x):y∈cy e:=by
 have gen:∀l:apH ar,x∈l->y∈gX l:=by
  intro l
  induction l with
  |nil=>intro h;cases h
  |cons z l ih=>
   intro h;rw[mG];rcases apm.1 h with rfl|h
   ·exact List.mem_append_left _ hy
   ·exact List.mem_append_right _ (ih h)
 exact ao1 _ (gen _ h)
theorem po.node{e:ar}(h:po e):BQ e:=h e aoY
theorem po.arg{e x:ar}(h:po e)(hx:x∈e.bk):po x:=λy hy=>h y (zl hx hy)
def jW:apH ar->Int
 |[]=>0
 |x::l=>bif lE x !=0 then lE x else jW l
theorem Vh:∀a b:apH ar,jW (a++b)=bif jW a !=0 then jW a else jW b
 |[],_=>rfl
 |x::a,b=>by
  rw[List.cons_append,jW,jW,Vh a b];cases h:lE x !=0 with
  |true=>simp only[cond_true,h]
  |false=>rfl
theorem XZ(N:Nat)(hN:2147483648<N):∀l:apH ar,(∀x∈l,BQ x)->xG N l=some (jW l)
 |[],_=>rfl
 |x::l,h=>by
  rw[xG,adD N hN x (h x aoY),aoR,XZ N hN l (λy hy=>h y (ao1 _ hy)),jW];cases lE x !=0<;>rfl
theorem aab(N:Nat)(rec:ar->apJ Int):∀(l:apH ar)(k:Nat),(∀x∈l,rec x=some (jW (cy x)))->I3 N rec l k=some (jW (gX l))
 |[],_,_=>by rw[gX];rfl
 |x::l,k,h=>by
  rw[I3,h x aoY,aoR,aab N rec l (k+1) (λy hy=>h y (ao1 _ hy)),mG,Vh];cases jW (cy x) !=0<;>rfl
theorem TU(N:Nat)(hN:2147483648<N):∀(d:Nat)(e:ar),SizeOf.sizeOf e<d->po e->CQ N d e=some (jW (cy e))
 |0,_,h,_=>absurd h (apk _)
 |d+1,e,h,hk=>by
  rw[CQ];have hl:=aab N (CQ N d) e.bk 0 λx hx=>TU N hN d x (by have:=qc hx;omega) (hk.arg hx);unfold cy;rw[jW];unfold lE;rw[aka,aoR];cases iA e with
  |false=>rfl
  |true=>
   simp only[cond_true];rw[amb N (by omega),aoR];cases lM e with
   |false=>rfl
   |true=>
    simp only[cond_true];rw[aim,aoR];cases kR e with
    |false=>rfl
    |true=>
     simp only[cond_true];rw[ann,aoR];cases ht:kP e with
     |false=>rfl
     |true=>
      simp only[cond_true];rw[ajU N hN e hk.node ht,aoR,hl];cases lr e<;>rfl
def gP:Nat->ar->Nat
 |0,_=>1
 |L+1,e=>e.bk.foldl (λm a=>max m (1+gP L a)) 1
theorem YQ{α:Type}(f:α->Nat)(b:Nat):∀(l:apH α)(m:Nat),m<=b->(∀x∈l,f x<=b)->l.foldl (λm a=>max m (f a)) m<=b
 |[],_,h,_=>h
 |x::l,_,h,hl=>YQ f b l _ (Nat.max_le.2 ⟨h,hl x aoY⟩) λy hy=>hl y (ao1 _ hy)
theorem M1:∀(L:Nat)(e:ar),gP L e<=L+1
 |0,_=>ao3 _
 |L+1,e=>YQ (λa=>1+gP L a) (L+2) e.bk 1 (by omega) λx _=>by have:=M1 L x;show 1+gP L x<=L+2;omega
theorem oV{z:Int}(h1: -9223372036854775808<=z)(h2:z<9223372036854775808):bh z=z:=by
 unfold bh;rw[IntKind.wrap_i64];omega
theorem Ke(a b:Nat):(if((a:Nat):Int)>((b:Nat):Int)then((a:Nat):Int)else(b:Int))=((max b a:Nat):Int):=by
 split<;>omega
theorem abA(N:Nat)(rec:ar->Int->apJ Int)(L:Nat)(hL:L<=100):∀(l:apH ar)(k m:Nat),(∀x∈l,rec x ((L:Int)+1)=some ((gP L x:Nat):Int))->HN N rec ((L:Int)+1+1) l k (m:Int)=some ((l.foldl (λm a=>max m (1+gP L a)) m:Nat):Int)
 |[],_,_,_=>rfl
 |x::l,k,m,h=>by
  have h1:=M1 L x;rw[HN,oV (by omega) (by omega),show(L:Int)+1+1-1=(L:Int)+1 by omega,h x aoY,aoR];rw[oV (by omega) (by omega),show(1:Int)+((gP L x:Nat):Int)=((1+gP L x:Nat):Int) by omega,Ke];exact abA N rec L hL l (k+1) _ λy hy=>h y (ao1 _ hy)
theorem Yv(N:Nat):∀(L d:Nat)(e:ar),L<d->L<=100->qV N d e ((L:Int)+1)=some ((gP L e:Nat):Int)
 |L,0,_,h,_=>absurd h (apk _)
 |0,d+1,e,_,_=>by rw[qV];rfl
 |L+1,d+1,e,h,hL=>by
  rw[qV,apB (by omega)];simp only[cond_false];exact abA N (qV N d) L (by omega) e.bk 0 1 λx _=>Yv N L d x (by omega) (by omega)
theorem Yt(N:Nat)(rec:ar->Int->apJ Int)(L:Nat)(hL:L<=100):∀(l:apH ar)(k m:Nat),(∀x∈l,rec x ((L:Int)+1)=some ((gP L x:Nat):Int))->Aw N ((L:Int)+1+1) rec l k (m:Int)=some ((l.foldl (λm a=>max m (1+gP L a)) m:Nat):Int)
 |[],_,_,_=>rfl
 |x::l,k,m,h=>by
  have h1:=M1 L x;rw[Aw,apA (show(L:Int)+1+1>1 by omega)];simp only[cond_true];rw[oV (by omega) (by omega),show(L:Int)+1+1-1=(L:Int)+1 by omega,h x aoY,aoR];rw[oV (by omega) (by omega),show(1:Int)+((gP L x:Nat):Int)=((1+gP L x:Nat):Int) by omega,Ke];exact Yt N rec L hL l (k+1) _ λy hy=>h y (ao1 _ hy)
theorem aja(N:Nat)(rec:ar->Int->apJ Int):∀l:apH ar,Aw N 1 rec l 0 1=some 1
 |[]=>rfl
 |x::l=>by rw[Aw];rfl
theorem V2(N:Nat):∀(L d:Nat)(e:ar),L<d->L<=100->xd N d e ((L:Int)+1)=some ((gP L e:Nat):Int)
 |L,0,_,h,_=>absurd h (apk _)
 |0,d+1,e,_,_=>by rw[xd];exact aja N _ _
 |L+1,d+1,e,h,hL=>by
  rw[xd];exact Yt N (xd N d) L (by omega) e.bk 0 1 λx _=>V2 N L d x (by omega) (by omega)
theorem Z3(N:Nat):∀(l:apH ar)(v:Nat),v<=2000->vy N l (v:Int)=some ((min (v+l.length) 2001:Nat):Int)
 |[],v,h=>by rw[vy];congr 2;simp only[ao4];omega
 |x::l,v,h=>by
  rw[vy,oV (by omega) (by omega)];by_cases h2:v+1>2000
  ·rw[apA (by omega)];simp only[cond_true]
   congr 1
   simp only[aoV];omega
  ·rw[apB (by omega)];simp only[cond_false];rw[show(v:Int)+1=((v+1:Nat):Int) by omega,Z3 N l (v+1) (by omega)]
   congr 3
   simp only[aoV];omega
theorem aix(N:Nat)(e:ar):EJ N e=some ((min (cy e).length 2001:Nat):Int):=by
 unfold EJ I7;have:=Z3 N (cy e) 0 (by omega);rw[apc]at this;exact this
theorem UM(N:Nat)(rec:ar->Int->apJ Int)(m:Nat)(hm:m<=4000):∀(l:apH ar)(k n:Nat),n<=m+1->(∀x∈l,∀q:Nat,q<=m->rec x (q:Int)=some ((min (cy x).length (q+1):Nat):Int))->Fz N (m:Int) rec l k (n:Int)=some ((min (n+(gX l).length) (m+1):Nat):Int)
 |[],k,n,hn,_=>by rw[Fz,gX];congr 2;simp only[ao4];omega
 |x::l,k,n,hn,h=>by
  rw[Fz];by_cases h2:n<=m
  ·rw[apA (by omega)];simp only[cond_true];rw[oV (by omega) (by omega),show(m:Int)-(n:Int)=((m-n:Nat):Int) by omega,h x aoY (m-n) (by omega),aoR];rw[oV (by omega) (by omega),show(n:Int)+((min (cy x).length (m-n+1):Nat):Int)=((n+min (cy x).length (m-n+1):Nat):Int) by omega];rw[UM N rec m hm l (k+1) _ (by omega) λy hy=>h y (ao1 _ hy),mG,aoT]
   congr 2
   omega
  ·rw[apB (by omega)];simp only[cond_false]
   congr 1
   omega
theorem Vv(N:Nat):∀(d:Nat)(e:ar)(m:Nat),SizeOf.sizeOf e<d->m<=4000->zV N d e (m:Int)=some ((min (cy e).length (m+1):Nat):Int)
 |0,_,_,h,_=>absurd h (apk _)
 |d+1,e,m,h,hm=>by
  rw[zV];have:=UM N (zV N d) m hm e.bk 0 1 (by omega) λx hx q hq=>Vv N d x q (by have:=qc hx;omega) (by omega);rw[show((1:Nat):Int)=1 from rfl]at this;rw[this]
  congr 2
  unfold cy;simp only[aoV];omega
def kE(e:ar):Int:=bif decide (40<gP 40 e)then 13 else bif decide (2000<(cy e).length)then 2 else jW (cy e)
theorem YV(N:Nat)(hN:2147483648<N)(e:ar)(h:po e):wu N e=some (kE e):=by
 unfold wu SI O6 kE;have hd:qV N N e 41=_:=Yv N 40 N e (by omega) (by omega);rw[hd,aoR,aoR,aix,aoR];rw[qi (p:=((gP 40 e:Nat):Int)>40) (q:=40<gP 40 e) (by omega),qi (p:=((min (cy e).length 2001:Nat):Int)>2000) (q:=2000<(cy e).length) (by omega)];cases decide (40<gP 40 e)<;>cases decide (2000<(cy e).length)<;>try rfl
 simp only[cond_false];exact XZ N hN (cy e) h
theorem HR(N:Nat)(hN:2147483648<N)(e:ar)(hs:SizeOf.sizeOf e<N)(h:po e):rZ N e=some (kE e):=by
 unfold rZ YP Z1 Wy abg Uv kE;have hd:xd N N e 41=_:=V2 N 40 N e (by omega) (by omega);have hz:zV N N e 2000=_:=Vv N N e 2000 hs (by omega);rw[hd,aoR,aoR,hz,aoR,aoR,TU N hN N e hs h,aoR];rw[qi (p:=((gP 40 e:Nat):Int)>40) (q:=40<gP 40 e) (by omega)];rw[show(if(2001:Int)<((min (cy e).length 2001:Nat):Int)then(2001:Int)else((min (cy e).length 2001:Nat):Int))=((min (cy e).length 2001:Nat):Int) by split<;>omega];rw[qi (p:=((min (cy e).length 2001:Nat):Int)>2000) (q:=2000<(cy e).length) (by omega)];cases decide (40<gP 40 e)<;>cases decide (2000<(cy e).length)<;>rfl
set_option linter.unusedVariables false
def cq(l:apH apI)(s:apI):Bool:=l.any λw=>bL w==bL s
theorem vc(N:Nat)(l:apH apI)(s:apI):ud N l s=some (cq l s):=Tm N s l 0
theorem lP(a b:apH apI)(s:apI):cq (a++b) s=(cq a s||cq b s):=List.any_append
theorem V0{s x:apI}(h:(bL s==bL x)=true)(l:apH apI):cq l x=cq l s:=by
 unfold cq;rw[beq_iff_eq.1 h]
theorem Fb(s x:apI):cq [s] x=(bL s==bL x):=by unfold cq;rw[apE,List.any_nil,Bool.or_false]
theorem aic(N:Nat)(l:apH apI)(s:apI):zg N l s=some (cq l s):=by
 unfold zg L4;obtain⟨z,h1,h2⟩:=Oe N s l 0;rw[h1,aoR,h2];rfl
def fi(t:apH apI)(s:apI):Int:=bif cE s then bif cq t s then 8 else 0 else 7
theorem xP(N:Nat)(hN:16<N)(s:apI)(t:apH apI):zJ N s t=some (fi t s):=by
 unfold zJ fi;rw[uh N s hN,aoR,vc,aoR];cases cE s<;>cases cq t s<;>rfl
theorem Er{t:apH apI}{s:apI}(h:fi t s=0):cE s=true/\cq t s=false:=by
 unfold fi at h;cases h1:cE s<;>cases h2:cq t s<;>rw[h1,h2]at h<;>first|exact⟨rfl,rfl⟩|(exact absurd h (by decide))
structure KN(m:List (ByteArray×Int))(S T:List ByteArray):Prop where
 val:∀s,eQ m s 0=bif cq S s then 1 else bif cq T s then 2 else 0
 len:m.length<=S.length+T.length
 UX:∀s,cq T s=true->cq S s=false
section
variable {m:apH (apI×Int)} {S T:apH apI}
theorem KN.ne0(h:KN m S T)(s:apI):(eQ m s 0 !=0)=cq (S++T) s:=by
 rw[h.val,lP];cases cq S s<;>cases cq T s<;>rfl
theorem KN.Ms(h:KN m S T)(s:apI):(eQ m s 0 !=1)= !cq S s:=by
 rw[h.val];cases cq S s<;>cases cq T s<;>rfl
theorem KN.CC(h:KN m S T)(s:apI):(eQ m s 0==1)=cq S s:=by
 rw[h.val];cases cq S s<;>cases cq T s<;>rfl
theorem KN.ne2(h:KN m S T)(s:apI):(eQ m s 0 !=2)= !cq T s:=by
 have:=h.UX s;rw[h.val];cases e1:cq S s<;>cases e2:cq T s<;>first|rfl|(rw[e1]at this;exact absurd (this e2) (by decide))
theorem K5{V:Type}(k:apI)(v:V)(m:apH (apI×V))(s:apI)(d:V):eQ ((k,v)::m) s d=bif bL k==bL s then v else eQ m s d:=rfl
theorem KN.abC(h:KN m S T){s:apI}(hs:cq (S++T) s=false):KN ((s,2)::m) S (T++[s]):=by
 rw[lP,apG]at hs;refine⟨λx=> ?_,by have:=h.len;simp only[aoV,aoT,ao4];omega,λx hx=> ?_⟩
 rotate_left
 ·rw[lP,Fb]at hx;cases e:bL s==bL x with
  |true=>rw[V0 e];exact hs.1
  |false=>rw[e,Bool.or_false]at hx;exact h.UX x hx
 rw[K5,h.val,lP,Fb];cases e:bL s==bL x with
 |true=>rw[V0 e,hs.1];cases cq T x<;>rfl
 |false=>cases cq S x<;>cases cq T x<;>rfl
theorem KN.u7(h:KN m S [])(s:apI):KN ((s,1)::m) (S++[s]) []:=by
 refine⟨λx=> ?_,by have:=h.len;simp only[aoV,aoT,ao4]at*;omega,λx hx=>by cases hx⟩;rw[K5,h.val,lP,Fb];cases e:bL s==bL x<;>cases cq S x<;>rfl
theorem KN.nil:KN [] [] []:=⟨λ_=>rfl,ao3 _,λ_ h=>by cases h⟩
theorem SJ(N:Nat)(hN:16<N)(s:apI)(k:Int)(p:aG)(h:KN m S T)(hl:S.length+T.length<9223372036854775807):
 BG N s k p m=some (fi (S++T) s,bif fi (S++T) s==0 then(s,k)::m else m):=by
 unfold BG fi;rw[uy N s hN,aoR,h.ne0,show Nat.blt m.length 9223372036854775807=true from Nat.ble_eq_true_of_le (by have:=h.len;omega)];cases cE s<;>cases cq (S++T) s<;>rfl
def fI(V:apH apI)(l:aN):Bool:=l.xL.all λm=>cq V m.ao
def fc(S:apH apI)(l:aN):Int:=bif dq l then bif fI S l then 0 else 9 else 1
theorem aaj(N:Nat)(h:KN m S T):∀(l:apH bf)(k:Nat),Lm N m l k=some (bif l.all (λm=>cq S m.ao)then 0 else 9)
 |[],_=>rfl
 |x::l,k=>by
  rw[Lm,h.Ms,apD,aaj N h l];cases cq S x.ao<;>rfl
theorem OR(N:Nat)(hN:16<N)(l:aN)(p:aG)(hl:jE l)(h:KN m S T):zK N l p m=some (fc S l):=by
 unfold zK fc;rw[tB N hN l hl,aoR,aaj N h];cases dq l<;>rfl
theorem Vt(N:Nat)(V W:apH apI):∀(l:apH bf)(k:Nat),Mm N V W l k=some (l.all λm=>cq (V++W) m.ao)
 |[],_=>rfl
 |x::l,k=>by
  rw[Mm,vc,vc,apD,Vt N V W l,lP];cases cq V x.ao<;>cases cq W x.ao<;>rfl
theorem OT(N:Nat)(V W:apH apI)(l:aN):H4 N l V W=some (fI (V++W) l):=Vt N V W l.xL 0
theorem MX(N:Nat)(hN:16<N)(l:aN)(hl:jE l)(S:apH apI):EV N l S=some (fc S l):=by
 unfold EV fc;rw[rF N hN l hl,aoR,OT,aoR];rw[List.nil_append];cases dq l<;>cases fI S l<;>rfl
theorem sL(n:Nat):decide ((n:Int)>6)= !decide (n<=6):=kL n 6
theorem ae8(N:Nat)(t:bq)(n:Nat):yZ N t [(n:Int)]=some (bif eO t then bif decide (n<=6)then 0 else 11 else 10):=by
 unfold yZ;rw[rP,aoR,show Fc N [(n:Int)]=some (n:Int)from rfl,aoR,sL];cases eO t<;>cases decide (n<=6)<;>rfl
theorem aeI(N:Nat)(t:bq)(n k:Nat):yZ N t [(n:Int),(k:Int)]=some (bif eO t then bif decide (n<=6)&&decide (k<=6)then 0 else 11 else 10):=by
 unfold yZ;rw[rP,aoR,show Fc N [(n:Int),(k:Int)]=some (if(k:Int)>(n:Int)then(k:Int)else(n:Int))from rfl,aoR,Ke,sL];have:decide (max n k<=6)=(decide (n<=6)&&decide (k<=6)):=by
  rw[Bool.eq_iff_iff,aoU,decide_eq_true_iff,decide_eq_true_iff,decide_eq_true_iff];omega
 rw[this];cases eO t<;>cases (decide (n<=6)&&decide (k<=6))<;>rfl
def fq{α:Type}(f:α->Int):apH α->Int
 |[]=>0
 |x::l=>bif f x !=0 then f x else fq f l
def pM(S T:apH apI)(x:cf):Int:=bif fi (S++T) x.ao !=0 then fi (S++T) x.ao else bif eO x.aM then bif decide (x.aO.length<=6)then fq (fc S) x.aO else 11 else 10
theorem acg(N:Nat)(hN:16<N)(p:aG)(q:Int×apH (apI×Int))(h:KN q.2 S T):∀(l:apH aN)(k:Nat),(∀x∈l,jE x)->KV N q p l k=some (fq (fc S) l,q.2)
 |[],_,_=>rfl
 |x::l,k,hx=>by
  rw[KV,OR N hN x p (hx x aoY) h,aoR,fq];cases fc S x !=0 with
  |true=>rfl
  |false=>exact acg N hN p q h l (k+1) λy hy=>hx y (ao1 _ hy)
theorem fD{a:Int}(h:(a !=0)=false):a=0:=by
 rw[bne_eq_false_iff_eq]at h;exact h
theorem aeu(N:Nat)(hN:16<N)(x:cf)(p:aG)(hx:∀y∈x.aO,jE y)(h:KN m S T)(hl:S.length+T.length<9223372036854775807):
 ∃m',IJ N x p m=some (pM S T x,m')/\(pM S T x=0->KN m' S (T++[x.ao])):=by
 unfold IJ pM;rw[SJ N hN x.ao 2 p h hl,aoR,ae8];simp only[];cases e:fi (S++T) x.ao !=0 with
 |true=>exact⟨_,rfl,λh0=>by rw[cond_true]at h0;rw[h0]at e;cases e⟩
 |false=>
  have e0:=fD e;have k:=h.abC (Er e0).2;rw[e0];simp only[apC,cond_true,cond_false];cases eO x.aM with
  |false=>exact⟨_,rfl,λh0=>by cases h0⟩
  |true=>
   cases decide (x.aO.length<=6)with
   |false=>exact⟨_,rfl,λh0=>by cases h0⟩
   |true=>exact⟨_,acg N hN p (0,(x.ao,2)::m) k x.aO 0 hx,λ_=>k⟩
theorem Wh(N:Nat)(hN:16<N)(S:apH apI):∀(l:apH aN)(k:Nat),(∀x∈l,jE x)->LL N S l k=some (fq (fc S) l)
 |[],_,_=>rfl
 |x::l,k,hx=>by
  rw[LL,MX N hN x (hx x aoY),aoR,fq];cases fc S x !=0 with
  |true=>rfl
  |false=>exact Wh N hN S l (k+1) λy hy=>hx y (ao1 _ hy)
theorem R9(N:Nat)(hN:16<N)(x:cf)(S T:apH apI)(hx:∀y∈x.aO,jE y):Rc N x S (S++T)=some (pM S T x):=by
 unfold Rc pM;rw[xP N hN,aoR,sk,aoR,sL,Wh N hN S _ _ hx];cases fi (S++T) x.ao !=0<;>cases eO x.aM<;>cases decide (x.aO.length<=6)<;>rfl
def lh(S:apH apI):apH apI->apH bV->Int
 |_,[]=>0
 |O,a::l=>bif fi (S++O) a.ao !=0 then fi (S++O) a.ao else bif fc S a.cg !=0 then fc S a.cg else lh S (O++[a.ao]) l
structure ON(w:List (ByteArray×Bool))(O:List ByteArray):Prop where
 val:∀s,eQ w s false=cq O s
 len:w.length<=O.length
theorem ON.add{w:apH (apI×Bool)}{O:apH apI}(h:ON w O)(s:apI):ON ((s,true)::w) (O++[s]):=by
 refine⟨λx=> ?_,by have:=h.len;simp only[aoV,aoT,ao4];omega⟩;rw[K5,h.val,lP,Fb];cases bL s==bL x<;>cases cq O x<;>rfl
theorem XR(N:Nat)(hN:16<N)(p:aG)(h:KN m S T):∀(l:apH bV)(k:Nat)(w:apH (apI×Bool))(O:apH apI),ON w O->(∀x∈l,jE x.cg)->O.length+l.length<9223372036854775807->
 Kz N m p l k w=some (lh S O l)
 |[],_,_,_,_,_,_=>rfl
 |a::l,k,w,O,hw,hx,hl=>by
  have pH:O.length+l.length+1<9223372036854775807:=by simp only[aoV]at hl;omega
  rw[Kz,uy N _ hN,aoR,hw.val,h.CC,OR N hN _ p (hx a aoY) h,aoR,lh,
    show Nat.blt w.length 9223372036854775807=true from Nat.ble_eq_true_of_le (by have:=hw.len;omega)]
  have ih:=XR N hN p h l (k+1) _ _ (hw.add a.ao) (λy hy=>hx y (ao1 _ hy)) (by simp only[aoT,aoV,ao4];omega);unfold fi;dsimp only;rw[lP,ih];cases cE a.ao<;>cases cq S a.ao<;>cases cq O a.ao<;>first|rfl|(cases fc S a.cg !=0<;>rfl)
theorem Zv(N:Nat)(hN:16<N)(S:apH apI):∀(l:apH bV)(k:Nat)(O:apH apI),(∀x∈l,jE x.cg)->S.length+O.length+l.length<1000000000->
 Kc N S l k (S++O)=some (lh S O l)
 |[],_,_,_,_=>rfl
 |a::l,k,O,hx,hl=>by
  have pH:S.length+O.length+l.length+1<1000000000:=by simp only[aoV]at hl;omega
  rw[Kc,xP N hN,aoR,MX N hN _ (hx a aoY),aoR,lh,
    show Nat.ble (((S++O).length+1)*16) 140737488355328=true from Nat.ble_eq_true_of_le (by rw[aoT];omega)]
  have ih:=Zv N hN S l (k+1) (O++[a.ao]) (λy hy=>hx y (ao1 _ hy)) (by simp only[aoT,aoV,ao4];omega);rw[<-ao9]at ih;dsimp only;rw[ih];cases fi (S++O) a.ao !=0<;>cases fc S a.cg !=0<;>rfl
theorem RM(N:Nat)(hN:16<N)(S:apH apI)(l:apH bV)(hx:∀x∈l,jE x.cg)(hl:S.length+l.length<1000000000):PS N l S=some (lh S [] l):=by
 unfold PS;have:=Zv N hN S l 0 [] hx (by simp only[ao4];omega);rw[apd]at this;rw[this,show Nat.ble ((0+S.length)*16) 140737488355328=true from Nat.ble_eq_true_of_le (by omega)];rfl
theorem DW{n:Nat}(h:n<=9223372036854775807):bh (n:Int)=(n:Int):=oV (by omega) (by omega)
theorem Uz(N:Nat)(a b:apH bV)(h:a.length+b.length<1000000000):AW N [a,b]=some (a++b):=by
 unfold AW;rw[uO,show bh ((0:Int)+(a.length:Int))=((a.length:Nat):Int) by rw[Int.zero_add,DW (by omega)],show decide ((a.length:Int)<0)=false from apB (by omega)];simp only[cond_false];rw[uO,show bh ((a.length:Int)+(b.length:Int))=((a.length+b.length:Nat):Int) by rw[<-Int.natCast_add,DW (by omega)],show decide (((a.length+b.length:Nat):Int)<0)=false from apB (by omega)];simp only[cond_false];rw[uO];unfold Nf;rw[show decide ((0:Int)<=((a.length+b.length:Nat):Int))=true from apA (by omega),apj,show Nat.ble ((a.length+b.length)*48) 140737488355328=true from Nat.ble_eq_true_of_le (by omega)];simp only[Bool.and_self,cond_true,aoR];rw[yp];rw[show Nat.ble ((([]:apH bV).length+a.length)*48) 140737488355328=true from Nat.ble_eq_true_of_le (by simp only[ao4];omega)];simp only[cond_true,List.nil_append];rw[yp];rw[show Nat.ble ((a.length+b.length)*48) 140737488355328=true from Nat.ble_eq_true_of_le (by omega)];rfl
theorem amY(N:Nat)(hN:16<N)(d:aX)(p:aG)(h:KN m S T)(hx:∀x∈d.aO++d.aU,jE x.cg)(hl:d.aO.length+d.aU.length<1000000000):
 JJ N d p m=some (lh S [] (d.aO++d.aU)):=by
 unfold JJ;rw[Uz N _ _ hl,aoR];exact XR N hN p h _ 0 [] [] ⟨λ_=>rfl,ao3 _⟩ hx (by simp only[aoT,ao4];omega)
end
def qm(d:aX):Int:=bif d.cr==0 then bif d.aU.length==0 then 0 else 11 else bif decide (1<=d.cr)&&decide (d.cr<=4)then bif d.aU.length==0 then 11 else 0 else bif d.cr==5 then bif d.aU.length==0&& !(d.aO.length==0)then 0 else 11 else 1
theorem TK(f:Int):f=0\/f=1\/f=2\/f=3\/f=4\/f=5\/(f<0\/5<f):=by omega
theorem anP(N:Nat)(d:aX):Iq N d=some (qm d):=by
 unfold Iq qm ze;rw[j5,p8,p8];rcases TK d.cr with h|h|h|h|h|h|h
 ·rw[h];cases d.aU.length==0<;>rfl
 ·rw[h];cases d.aU.length==0<;>rfl
 ·rw[h];cases d.aU.length==0<;>rfl
 ·rw[h];cases d.aU.length==0<;>rfl
 ·rw[h];cases d.aU.length==0<;>rfl
 ·rw[h];cases d.aU.length==0<;>cases d.aO.length==0<;>rfl
 ·have e:∀k:Int,0<=k->k<=5->(d.cr==k)=false:=λk h1 h2=>beq_eq_false_iff_ne.2 (by omega);have e2:(decide (1<=d.cr)&&decide (d.cr<=4))=false:=by
   rw[Bool.and_eq_false_iff,decide_eq_false_iff_not,decide_eq_false_iff_not];omega
  rw[e 0 (by decide) (by decide),e 1 (by decide) (by decide),e 2 (by decide) (by decide),e 3 (by decide) (by decide),e 4 (by decide) (by decide),e 5 (by decide) (by decide),e2];rfl
theorem QG(N:Nat)(d:aX):P2 N d=some (qm d):=by
 unfold P2 qm;rw[p8,p8];rcases TK d.cr with h|h|h|h|h|h|h
 ·rw[h];cases d.aU.length==0<;>rfl
 ·rw[h];cases d.aU.length==0<;>rfl
 ·rw[h];cases d.aU.length==0<;>rfl
 ·rw[h];cases d.aU.length==0<;>rfl
 ·rw[h];cases d.aU.length==0<;>rfl
 ·rw[h];cases d.aU.length==0<;>cases d.aO.length==0<;>rfl
 ·have e:∀k:Int,0<=k->k<=5->(d.cr==k)=false:=λk h1 h2=>beq_eq_false_iff_ne.2 (by omega);have e2:(decide (1<=d.cr)&&decide (d.cr<=4))=false:=by
   rw[Bool.and_eq_false_iff,decide_eq_false_iff_not,decide_eq_false_iff_not];omega
  have e3:(bif decide (d.cr<0)then some true else some (decide (d.cr>5)))=some true:=by
   rcases h with h|h
   ·rw[apA h];rfl
   ·rw[show decide (d.cr>5)=true from apA h];cases decide (d.cr<0)<;>rfl
  rw[e3,e 0 (by decide) (by decide),e 5 (by decide) (by decide),e2];rfl
def lL(B:Nat)(l:aN):Prop:=l.xL.length<=B
theorem lL.ok{l:aN}(h:lL 1000000000 l):jE l:=apa h (by decide)
theorem mu{n k:Nat}(h:n<=k):Nat.ble n k=true:=Nat.ble_eq_true_of_le h
theorem acB(N:Nat):∀(l:apH bV)(k:Nat)(acc:apH apI),acc.length+l.length<=1000000000->DU N l k acc=some (acc++l.map (·.ao))
 |[],_,acc,_=>by rw[DU,List.map_nil,apd]
 |a::l,k,acc,h=>by
  simp only[aoV]at h;rw[DU,mu (by omega),cond_true];dsimp only;rw[acB N l (k+1) _ (by simp only[aoT,aoV,ao4];omega)];rw[aph,ao9];rfl
theorem Yw(N:Nat)(d:aX)(h:d.aO.length+d.aU.length<1000000000):CV N d=some ((d.aO++d.aU).map (·.ao)):=by
 unfold CV;rw[Uz N _ _ h,aoR,acB N _ _ _ (by simp only[aoT,ao4];omega),List.nil_append]
theorem T9(N:Nat):∀(l:apH bV)(k:Nat)(acc:apH apI),acc.length+l.length<=1000000000->FK N l k acc=some (acc++l.map (·.ao))
 |[],_,acc,_=>by rw[FK,List.map_nil,apd]
 |a::l,k,acc,h=>by
  simp only[aoV]at h;rw[FK,mu (by omega),cond_true];dsimp only;rw[T9 N l (k+1) _ (by simp only[aoT,aoV,ao4];omega)];rw[aph,ao9];rfl
theorem XX(N:Nat)(d:aX):∀(l:apH bV)(k:Nat)(acc:apH apI),acc.length+l.length+d.aU.length<=1000000000->CU N d l k acc=some (acc++(l++d.aU).map (·.ao))
 |[],_,acc,h=>by rw[CU,T9 N _ _ _ (by simp only[ao4]at h;omega),List.nil_append]
 |a::l,k,acc,h=>by
  simp only[aoV]at h;rw[CU,mu (by omega),cond_true];dsimp only;rw[XX N d l (k+1) _ (by simp only[aoT,aoV,ao4];omega)];rw[List.cons_append,aph,ao9];rfl
theorem LY(N:Nat)(d:aX)(h:d.aO.length+d.aU.length<1000000000):Gk N d=some ((d.aO++d.aU).map (·.ao)):=by
 unfold Gk;rw[XX N d _ _ _ (by simp only[ao4];omega),List.nil_append]
theorem ZI(N:Nat)(l:aN)(h:lL 1000000000 l):DN N l=some l:=by
 unfold DN Rt;rw[mu (by have:=h;unfold lL at this;omega)];rfl
theorem U7(N:Nat):∀(l:apH aN)(k:Nat)(acc:apH aN),acc.length+l.length<=1000000000->(∀x∈l,lL 1000000000 x)->DX N l k acc=some (acc++l)
 |[],_,acc,_,_=>by rw[DX,apd]
 |a::l,k,acc,h,hx=>by
  simp only[aoV]at h;rw[DX,ZI N a (hx a aoY),aoR,mu (by omega),cond_true];dsimp only;rw[U7 N l (k+1) _ (by simp only[aoT,aoV,ao4];omega) λy hy=>hx y (ao1 _ hy)];rw[ao9];rfl
theorem amv(N:Nat)(l:apH aN)(h:l.length<=1000000000)(hx:∀x∈l,lL 1000000000 x):Im N l=some l:=by
 unfold Im;rw[U7 N l 0 [] (by simp only[ao4];omega) hx,List.nil_append]
def mW(s:apI)(d:aX):Bool:=bL d.ao==bL s
def Ay(D:apH aX)(s:apI)(k:Nat):Int:=match D.findIdx? (mW s)with|some i=>((k+i:Nat):Int)|none=> -1
theorem ajo(d:aX)(D:apH aX)(s:apI)(k:Nat):Ay (d::D) s k=bif mW s d then(k:Int)else Ay D s (k+1):=by
 unfold Ay;rw[List.findIdx?_cons];cases mW s d with
 |true=>rfl
 |false=>
  cases D.findIdx? (mW s)with
  |none=>rfl
  |some i=>simp only[cond_false,Bool.false_eq_true,if_false,Option.map_some];rw[Nat.add_assoc,Nat.add_comm 1 i]
theorem ab0(N:Nat)(s:apI):∀(l:apH aX)(k:Nat),Hn N s l k=some (Ay l s k)
 |[],_=>rfl
 |d::l,k=>by
  rw[Hn,ajo,show RT N d s=some (mW s d)from rfl,aoR,ab0 N s l];cases mW s d<;>rfl
theorem agl(N:Nat)(p:aG)(s:apI):Lv N p s=some (Ay p.aw s 0):=by
 unfold Lv OP;rw[ab0];rfl
theorem Yk{α:Type}(f:α->Bool):∀l:apH α,(l.findIdx? f=none/\l.find? f=none)\/∃i d,l.findIdx? f=some i/\l[i]?=some d/\l.find? f=some d/\f d=true
 |[]=> .inl ⟨rfl,rfl⟩
 |x::l=>by
  rw[List.findIdx?_cons,List.find?_cons];cases e:f x with
  |true=>exact .inr ⟨0,x,rfl,rfl,rfl,e⟩
  |false=>
   simp only[Bool.false_eq_true,if_false];rcases Yk f l with⟨h1,h2⟩|⟨i,d,h1,h2,h3,h4⟩
   ·exact .inl ⟨by rw[h1];rfl,h2⟩
   ·exact .inr ⟨i+1,d,by rw[h1];rfl,by rw[apu];exact h2,h3,h4⟩
def dz(P:apH cf)(D:apH aX)(s:apI):bq×apH aN×Bool:=
 match P.find? (λx=>bL x.ao==bL s)with
 |some x=>(x.aM,x.aO,true)
 |none=>match D.find? (mW s)with
  |some d=>(d.aM,d.aO.map (·.cg),true)
  |none=>(gr,[],false)
theorem Ul(N:Nat)(d:aX):∀(l:apH bV)(k:Nat)(acc:apH aN),acc.length+l.length<=1000000000->(∀x∈l,lL 1000000000 x.cg)->CG N d l k acc=some (d.aM,acc++l.map (·.cg),true)
 |[],_,acc,_,_=>by rw[CG,List.map_nil,apd]
 |a::l,k,acc,h,hx=>by
  simp only[aoV]at h;rw[CG,ZI N _ (hx a aoY),aoR,mu (by omega),cond_true];dsimp only;rw[Ul N d l (k+1) _ (by simp only[aoT,aoV,ao4];omega) λy hy=>hx y (ao1 _ hy)];rw[aph,ao9];rfl
theorem VL(N:Nat)(d:aX):∀(l:apH bV)(k:Nat)(acc:apH aN),acc.length+l.length<=1000000000->GG N d l k acc=some (d.aM,acc++l.map (·.cg),true)
 |[],_,acc,_=>by rw[GG,List.map_nil,apd]
 |a::l,k,acc,h=>by
  simp only[aoV]at h;rw[GG,mu (by omega),cond_true];dsimp only;rw[VL N d l (k+1) _ (by simp only[aoT,aoV,ao4];omega)];rw[aph,ao9];rfl
structure nR(P:List cf):Prop where
 len:∀x∈P,x.aO.length<=1000000000
 lS:∀x∈P,∀y∈x.aO,lL 1000000000 y
structure fZ(D:List aX):Prop where
 len:∀d∈D,d.aO.length+d.aU.length<900000000
 lS:∀d∈D,∀y∈d.aO++d.aU,lL 1000000000 y.cg
theorem fZ.ou{D:apH aX}(h:fZ D){d:aX}(hd:d∈D):∀y∈d.aO,lL 1000000000 y.cg:=λy hy=>h.lS d hd y (List.mem_append_left _ hy)
theorem px{α:Type}{l:apH α}{i:Nat}{d:α}(h:l[i]?=some d):d∈l:=ao5 h
theorem Wv(N:Nat)(p:aG)(s:apI)(hD:fZ p.aw):∀(l:apH cf)(k:Nat),nR l->B6 N p s l k=some (dz l p.aw s)
 |[],k,_=>by
  rw[B6,agl,aoR];unfold dz Ay;rw[List.find?_nil];rcases Yk (mW s) p.aw with⟨h1,h2⟩|⟨i,d,h1,h2,h3,_⟩
  ·rw[h1,h2];rfl
  ·rw[h1,h3];simp only[apc];rw[show decide ((i:Int)>=0)=true from apA (by omega),apj,h2];simp only[cond_true,aoR];rw[Ul N d _ _ _ (by have:=hD.len d (px h2);simp only[ao4];omega) (hD.ou (px h2)),List.nil_append]
 |x::l,k,hP=>by
  rw[B6,Wv N p s hD l (k+1) ⟨λy hy=>hP.len y (ao1 _ hy),λy hy=>hP.lS y (ao1 _ hy)⟩];unfold dz;rw[List.find?_cons];cases bL x.ao==bL s with
  |true=>simp only[cond_true];rw[amv N _ (hP.len x aoY) (hP.lS x aoY)];rfl
  |false=>rfl
theorem Z4(N:Nat)(p:aG)(s:apI)(hP:nR p.aE)(hD:fZ p.aw):Mn N p s=some (dz p.aE p.aw s):=Wv N p s hD p.aE 0 hP
theorem abK(N:Nat)(s:apI):∀(D:apH aX)(k:Nat),fZ D->H7 N s D k=some (dz [] D s)
 |[],_,_=>rfl
 |d::D,k,h=>by
  rw[H7,abK N s D (k+1) ⟨λy hy=>h.len y (ao1 _ hy),λy hy=>h.lS y (ao1 _ hy)⟩];unfold dz;rw[List.find?_nil,List.find?_cons];unfold mW;cases bL d.ao==bL s with
  |true=>
   simp only[cond_true];rw[VL N d _ _ _ (by have:=h.len d aoY;simp only[ao4];omega),List.nil_append]
  |false=>rfl
theorem aaa(N:Nat)(s:apI)(p:aG)(hD:fZ p.aw):∀(l:apH cf)(k:Nat),Cl N s p l k=some (dz l p.aw s)
 |[],k=>by rw[Cl,abK N s _ _ hD]
 |x::l,k=>by
  rw[Cl,aaa N s p hD l];unfold dz;rw[List.find?_cons];cases bL x.ao==bL s<;>rfl
theorem Bi(N:Nat)(p:aG)(s:apI)(hD:fZ p.aw):JZ N p s=some (dz p.aE p.aw s):=aaa N s p hD p.aE 0
structure VN(m:List (ByteArray×Int))(V:List ByteArray):Prop where
 val:∀s,(eQ m s 0==0)= !cq V s
 len:m.length<=V.length
theorem VN.add{m:apH (apI×Int)}{V:apH apI}(h:VN m V)(s:apI)(k:Int)(hk:(k==0)=false):VN ((s,k)::m) (V++[s]):=by
 refine⟨λx=> ?_,by have:=h.len;simp only[aoV,aoT,ao4];omega⟩;rw[K5,lP,Fb];cases e:bL s==bL x with
 |true=>rw[cond_true,hk,Bool.or_true];rfl
 |false=>rw[cond_false,h.val,Bool.or_false]
def ku(V:apH apI)(l:aN):Int:=bif fI V l then 0 else 9
theorem ZF(N:Nat){m:apH (apI×Int)}{V:apH apI}(h:VN m V):∀(l:apH bf)(k:Nat),J6 N m l k=some (bif l.all (λm=>cq V m.ao)then 0 else 9)
 |[],_=>rfl
 |x::l,k=>by
  rw[J6,h.val,apD,ZF N h l];cases cq V x.ao<;>rfl
theorem Qx(N:Nat){m:apH (apI×Int)}{V:apH apI}(h:VN m V)(l:aN)(p:aG):Fh N l p m=some (ku V l):=ZF N h l.xL 0
def mh(V:apH apI)(P:apH cf)(D:apH aX)(x:bu):Int:=
 bif bL x.bH==[]then ku V x.aQ else bif (dz P D x.bH).2.2 then bif (dz P D x.bH).1.bS !=3 then 10 else bif x.bG.length==(dz P D x.bH).2.1.length then fq (ku V) x.bG else 11 else 9
theorem Fv(a b:Nat):((a:Int) !=(b:Int))= !(a==b):=Oq a b
theorem Wb(N:Nat){m:apH (apI×Int)}{V:apH apI}(h:VN m V)(p:aG):∀(l:apH aN)(k:Nat),HM N p m l k=some (fq (ku V) l)
 |[],_=>rfl
 |x::l,k=>by
  rw[HM,Qx N h,aoR,fq,Wb N h p l];cases ku V x !=0<;>rfl
theorem af5(N:Nat){m:apH (apI×Int)}{V:apH apI}(h:VN m V)(p:aG)(hP:nR p.aE)(hD:fZ p.aw)(x:bu):Kr N x p m=some (mh V p.aE p.aw x):=by
 unfold Kr mh;rw[qj,Qx N h,Z4 N p _ hP hD,aoR,aoR,Fv,Wb N h p];cases bL x.bH==[]<;>cases (dz p.aE p.aw x.bH).2.2<;>cases (dz p.aE p.aw x.bH).1.bS !=3<;>cases x.bG.length==(dz p.aE p.aw x.bH).2.1.length<;>rfl
def lU(V:apH apI)(P:apH cf)(D:apH aX)(e:ar):Int:=
 bif (dz P D e.ao).2.2 then bif e.xIdx.length==(dz P D e.ao).2.1.length then fq (mh V P D) e.xIdx else 11 else 9
def xV(t:bq)(x:Int):bq×Int:=(bif x !=0 then gr else t,x)
theorem Uh(N:Nat){m:apH (apI×Int)}{V:apH apI}(h:VN m V)(p:aG)(hP:nR p.aE)(hD:fZ p.aw)(q:bq×apH aN×Bool):∀(l:apH bu)(k:Nat),J7 N q p m l k=some (xV q.1 (fq (mh V p.aE p.aw) l))
 |[],_=>rfl
 |x::l,k=>by
  rw[J7,af5 N h p hP hD,aoR,fq,Uh N h p hP hD q l];unfold xV;cases e:mh V p.aE p.aw x !=0 with
  |true=>simp only[cond_true];rw[e];rfl
  |false=>rfl
theorem aop(N:Nat){m:apH (apI×Int)}{V:apH apI}(h:VN m V)(p:aG)(hP:nR p.aE)(hD:fZ p.aw)(e:ar):IM N e p m=some (xV (dz p.aE p.aw e.ao).1 (lU V p.aE p.aw e)):=by
 unfold IM lU;rw[Z4 N p _ hP hD,aoR,Fv,Uh N h p hP hD];cases (dz p.aE p.aw e.ao).2.2<;>cases e.xIdx.length==(dz p.aE p.aw e.ao).2.1.length<;>rfl
theorem Uq(N:Nat)(V:apH apI)(p:aG):∀(l:apH aN)(k:Nat),Mv N V p l k=some (fq (ku (V++p.az)) l)
 |[],_=>rfl
 |x::l,k=>by
  rw[Mv,OT,aoR,fq,Uq N V p l];unfold ku;cases fI (V++p.az) x<;>rfl
theorem FI(N:Nat)(V:apH apI)(p:aG)(l:apH aN):QW N p V l=some (fq (ku (V++p.az)) l):=Uq N V p l 0
theorem aa1(N:Nat)(V:apH apI)(p:aG)(hD:fZ p.aw)(q:bq×apH aN×Bool):∀(l:apH bu)(k:Nat),Cp N q V p l k=some (xV q.1 (fq (mh (V++p.az) p.aE p.aw) l))
 |[],_=>rfl
 |x::l,k=>by
  rw[Cp,qj,OT,Bi N p _ hD,aoR,aoR,Fv,FI,aoR,fq,aa1 N V p hD q l];unfold xV mh ku;rw[show(x.bG.length==(dz p.aE p.aw x.bH).2.1.length)=((dz p.aE p.aw x.bH).2.1.length==x.bG.length)from Bool.eq_iff_iff.2 (by rw[beq_iff_eq,beq_iff_eq];exact eq_comm)];cases bL x.bH==[]with
  |true=>cases fI (V++p.az) x.aQ<;>rfl
  |false=>
   cases (dz p.aE p.aw x.bH).2.2 with
   |false=>rfl
   |true=>
    cases (dz p.aE p.aw x.bH).1.bS !=3 with
    |true=>rfl
    |false=>
     cases (dz p.aE p.aw x.bH).2.1.length==x.bG.length with
     |false=>rfl
     |true=>
      simp only[cond_true,cond_false,Bool.not_true];cases e:fq (λl=>bif fI (V++p.az) l then 0 else 9) x.bG !=0 with
      |true=>simp only[cond_true];first|rw[e];rfl|simp [e]
      |false=>rfl
theorem IS(N:Nat)(V:apH apI)(p:aG)(hD:fZ p.aw)(e:ar):Pw N p V e=some (xV (dz p.aE p.aw e.ao).1 (lU (V++p.az) p.aE p.aw e)):=by
 unfold Pw lU;rw[Bi N p _ hD,aoR,Fv,aa1 N V p hD];rw[show((dz p.aE p.aw e.ao).2.1.length==e.xIdx.length)=(e.xIdx.length==(dz p.aE p.aw e.ao).2.1.length)from Bool.eq_iff_iff.2 (by rw[beq_iff_eq,beq_iff_eq];exact eq_comm)];cases (dz p.aE p.aw e.ao).2.2<;>cases e.xIdx.length==(dz p.aE p.aw e.ao).2.1.length<;>rfl
def s7(e:ar):Prop:=∀x∈cy e,kR x=true/\iA x=true
theorem s7.arg{e x:ar}(h:s7 e)(hx:x∈e.bk):s7 x:=λy hy=>h y (zl hx hy)
theorem s7.len{e:ar}(h:s7 e):(e.bk.length:Int)=qT e.aJ:=by
 have:=(h e aoY).1;unfold kR at this;rw[aoU,beq_iff_eq]at this;exact this.1
theorem s7.op{e:ar}(h:s7 e):1<=e.aJ/\e.aJ<=18:=by
 have:=(h e aoY).2;unfold iA at this;simp only[aoU,decide_eq_true_eq]at this;exact⟨this.1,this.2.1⟩
theorem Yx:∀l:apH ar,jW l=0->∀x∈l,lE x=0
 |[],_,x,hx=>by cases hx
 |y::l,h,x,hx=>by
  rw[jW]at h;cases e:lE y !=0 with
  |true=>rw[e,cond_true]at h;rw[h]at e;cases e
  |false=>
   rw[e,cond_false]at h;rcases apm.1 hx with rfl|hx
   ·exact fD e
   ·exact Yx l h x hx
theorem yn{e:ar}(h:kE e=0):∀x∈cy e,lE x=0:=λx hx=>by
 unfold kE at h;cases h1:decide (40<gP 40 e)with
 |true=>rw[h1]at h;cases h
 |false=>
  cases h2:decide (2000<(cy e).length)with
  |true=>rw[h1,h2]at h;cases h
  |false=>rw[h1,h2]at h;exact Yx (cy e) h x hx
theorem y4{x:ar}(h:lE x=0):iA x=true/\lM x=true/\kR x=true/\kP x=true/\lr x=true:=by
 unfold lE at h;cases p:iA x<;>cases q:lM x<;>cases r:kR x<;>cases s:kP x<;>cases t:lr x<;>rw[p,q,r,s,t]at h<;>first|exact⟨rfl,rfl,rfl,rfl,rfl⟩|(exact absurd h (by decide))
theorem afz{e:ar}(h:kE e=0):s7 e:=λx hx=>⟨(y4 (yn h x hx)).2.2.1,(y4 (yn h x hx)).1⟩
section
variable {α:Type}
theorem K7{l:apH α}(h:(l.length:Int)=1):∃a,l=[a]:=by
 match l,h with
 |[a],_=>exact⟨a,rfl⟩
 |[],h=>simp at h
 |a::b::l,h=>simp at h;omega
theorem o9{l:apH α}(h:(l.length:Int)=2):∃a b,l=[a,b]:=by
 match l,h with
 |[a,b],_=>exact⟨a,b,rfl⟩
 |[],h=>simp at h
 |[a],h=>simp at h
 |a::b::c::l,h=>simp at h;omega
theorem WK{l:apH α}(h:(l.length:Int)=3):∃a b c,l=[a,b,c]:=by
 match l,h with
 |[a,b,c],_=>exact⟨a,b,c,rfl⟩
 |[],h=>simp at h
 |[a],h=>simp at h
 |[a,b],h=>simp at h
 |a::b::c::d::l,h=>simp at h;omega
end
def xl(a b:apJ (bq×Int)):Prop:=∃t t' x,a=some (t,x)/\b=some (t',x)/\(x=0->t=t')
theorem IT{α:Type}(f:α->Int)(x:α):fq f [x]=f x:=by
 rw[fq,fq];cases e:f x !=0 with
 |true=>rfl
 |false=>exact(fD e).symm
theorem alH{op:Int}(h1:1<=op)(h2:op<=18):(op=1\/op=2\/op=3\/op=8\/op=11\/op=12)\/(op=4\/op=5\/op=6\/op=7\/op=9\/op=10)\/(op=13\/op=14\/op=15)\/(op=16\/op=17\/op=18):=by omega
section
variable {N:Nat} {m:apH (apI×Int)} {vars:apH apI} {p p':aG}
theorem aj6(hV:VN m (vars++p'.az))(hP:p.aE=p'.aE)(xn:p.aw=p'.aw)(td:nR p.aE)(lC:fZ p.aw)(e:ar)(h1:1<=e.aJ)(h2:e.aJ<=18)(acc:apH bq)(hl:(acc.length:Int)=qT e.aJ)
 (r1:ar->aG->apH (apI×Int)->apJ (bq×Int)) (r2:aG->apH apI->ar->apJ (bq×Int)) (k:Nat):
 xl (xM N e p m r1 [] k acc) (lN N e p' vars r2 [] k acc):=by
 rw[xM,lN];unfold Kp FV EB Gs;rcases alH h1 h2 with(h|h|h|h|h|h)|(h|h|h|h|h|h)|(h|h|h)|(h|h|h)
 ·rw[h];exact⟨_,_,_,rfl,rfl,λ_=>rfl⟩
 ·rw[h,Qx N hV,FI,IT];exact⟨_,_,_,rfl,rfl,λ_=>rfl⟩
 ·rw[h,aop N hV p td lC,IS N vars p' (xn▸lC),hP,xn];exact⟨_,_,_,rfl,rfl,λ_=>rfl⟩
 ·rw[h]at hl;obtain⟨a,rfl⟩:=K7 hl;rw[h];exact⟨_,_,_,rfl,rfl,λ_=>rfl⟩
 ·rw[h]at hl;obtain⟨a,b,c,rfl⟩:=WK hl;rw[h];show xl (Option.bind (bif _ then _ else _) _) (bif _ then _ else _);cases ((b.bS==c.bS)&&((b.cb==c.cb)&&((b.ca==c.ca)&&((b.cJ==c.cJ)&&((b.cH==c.cH)&&true)))))with
  |true=>exact⟨_,_,_,rfl,rfl,λ_=>rfl⟩
  |false=>exact⟨_,_,_,rfl,rfl,λh=>by cases h⟩
 ·rw[h];exact⟨_,_,_,rfl,rfl,λ_=>rfl⟩
 all_goals first
  |(rw[h];exact⟨_,_,_,rfl,rfl,λ_=>rfl⟩)
  |(rw[h]at hl
    obtain⟨a,b,rfl⟩:=o9 hl;rw[h];show xl (Option.bind (bif _ then _ else _) _) (bif _ then _ else _);cases ((a.bS==b.bS)&&((a.cb==b.cb)&&((a.ca==b.ca)&&((a.cJ==b.cJ)&&((a.cH==b.cH)&&true)))))with
    |true=>exact⟨_,_,_,rfl,rfl,λ_=>rfl⟩
    |false=>exact⟨_,_,_,rfl,rfl,λh=>by cases h⟩)
theorem Ya(e:ar)(r1:ar->aG->apH (apI×Int)->apJ (bq×Int))(r2:aG->apH apI->ar->apJ (bq×Int)):
 ∀(l:apH ar)(k:Nat)(acc:apH bq),acc.length+l.length<=1000000000->(∀x∈l,xl (r1 x p m) (r2 p' vars x))->
  (∀(qM:apH bq)(k':Nat),qM.length=acc.length+l.length->xl (xM N e p m r1 [] k' qM) (lN N e p' vars r2 [] k' qM))->
  xl (xM N e p m r1 l k acc) (lN N e p' vars r2 l k acc)
 |[],k,acc,_,_,he=>he acc k rfl
 |x::l,k,acc,hb,hx,he=>by
  rw[xM,lN];obtain⟨t,t',z,e1,e2,e3⟩:=hx x aoY;rw[e1,e2,aoR,aoR];dsimp only;cases hz:z !=0 with
  |true=>exact⟨_,_,_,rfl,rfl,λ_=>rfl⟩
  |false=>
   obtain rfl:=e3 (fD hz);simp only[aoV]at hb;rw[mu (by omega)];exact Ya e r1 r2 l (k+1) (acc++[t]) (by simp only[aoT,aoV,ao4];omega) (λy hy=>hx y (ao1 _ hy)) λqM k' h'=>he qM k' (by simp only[aoT,aoV,ao4]at*;omega)
theorem VT(hV:VN m (vars++p'.az))(hP:p.aE=p'.aE)(xn:p.aw=p'.aw)(td:nR p.aE)(lC:fZ p.aw):
 ∀(d:Nat)(e:ar),SizeOf.sizeOf e<d->s7 e->xl (wY N d e p m) (sX N d p' vars e)
 |0,_,h,_=>absurd h (apk _)
 |d+1,e,h,hr=>by
  rw[wY,sX];have hlen:=hr.len;have h3:(e.bk.length:Int)<=3:=by
    rw[hlen];unfold qT;cases (e.aJ==1||(e.aJ==2||e.aJ==3))<;>cases (e.aJ==8||(e.aJ==12||e.aJ==18))<;>cases e.aJ==11<;>decide
  refine Ya e _ _ e.bk 0 [] (by simp only[ao4];omega) (λx hx=>VT hV hP xn td lC d x (by have:=qc hx;omega) (hr.arg hx)) λqM k' h'=> ?_;exact aj6 hV hP xn td lC e hr.op.1 hr.op.2 qM (by rw[h',<-hlen];simp only[ao4,apc]) _ _ k'
end
theorem adp{m:apH (apI×Int)}{V W:apH apI}(h:VN m V)(e:∀s,cq W s=cq V s)(hl:V.length<=W.length):VN m W:=⟨λs=>by rw[h.val,e],apa h.len hl⟩
theorem WW(N:Nat)(e:ar)(p:aG):∀(l:apH apI)(k:Nat)(m:apH (apI×Int))(V:apH apI),VN m V->V.length+l.length<1000000000->∃m' k',VN m' (V++l)/\xF N e p l k m=xF N e p [] k' m'
 |[],k,m,V,h,_=>⟨m,k,by rw[apd];exact h,rfl⟩
 |s::l,k,m,V,h,hb=>by
  simp only[aoV]at hb;rw[xF,show Nat.blt m.length 9223372036854775807=true from Nat.ble_eq_true_of_le (by have:=h.len;omega),cond_true];obtain⟨m',k',h1,h2⟩:=WW N e p l (k+1) _ _ (h.add s 3 rfl) (by simp only[aoT,aoV,ao4];omega);exact⟨m',k',by rw[ao9]at h1;exact h1,h2⟩
theorem WX(N:Nat)(e:ar)(p:aG)(vars:apH apI):∀(l:apH apI)(k:Nat)(m:apH (apI×Int))(V:apH apI),VN m V->V.length+l.length<1000000000->∃m',VN m' (V++l)/\Mj N e p vars l k m=xF N e p vars 0 m'
 |[],k,m,V,h,_=>⟨m,by rw[apd];exact h,rfl⟩
 |s::l,k,m,V,h,hb=>by
  simp only[aoV]at hb;rw[Mj,show Nat.blt m.length 9223372036854775807=true from Nat.ble_eq_true_of_le (by have:=h.len;omega),cond_true];obtain⟨m',h1,h2⟩:=WX N e p vars l (k+1) _ _ (h.add s 1 rfl) (by simp only[aoT,aoV,ao4];omega);exact⟨m',by rw[ao9]at h1;exact h1,h2⟩
theorem ama(N:Nat)(hN:2147483648<N)(p p':aG)(vars:apH apI)(e:ar)(hs:SizeOf.sizeOf e<N)(h:po e)(hS:p.az=p'.az)(hP:p.aE=p'.aE)(xn:p.aw=p'.aw)(td:nR p.aE)(lC:fZ p.aw)
 (hl:p.az.length+vars.length<1000000000):∃t x,Ly N p vars e=some (t,x)/\pn N p' vars e=some (t,x)/\(x=0->kE e=0):=by
 unfold Ly pn;rw[YV N hN e h,HR N hN e hs h,aoR,aoR];cases hv:kE e !=0 with
 |true=>exact⟨_,_,rfl,rfl,λh0=>h0⟩
 |false=>
  have hv:=fD hv;simp only[cond_false];rw[aa4,D9,aoR,aoR];cases mM e with
  |true=>exact⟨_,_,rfl,rfl,λh0=>by cases h0⟩
  |false=>
   simp only[cond_false];obtain⟨m1,h1,e1⟩:=WX N e p vars p.az 0 [] [] ⟨λ_=>rfl,ao3 _⟩ (by simp only[ao4];omega);obtain⟨m2,k2,h2,e2⟩:=WW N e p vars 0 m1 _ h1 (by simp only[ao4,List.nil_append];omega);rw[e1,e2,xF];have hV:VN m2 (vars++p'.az):=adp h2 (λs=>by rw[List.nil_append,lP,lP,hS,Bool.or_comm]) (by rw[hS];simp only[aoT,List.nil_append];omega);unfold Rm w9;obtain⟨t,t',x,a1,a2,a3⟩:=VT (N:=N) hV hP xn td lC N e hs (afz hv);rw[a1,a2,aoR,aoR];dsimp only;cases hx:x !=0 with
   |true=>exact⟨_,_,rfl,rfl,λ_=>hv⟩
   |false=>obtain rfl:=a3 (fD hx);exact⟨_,_,rfl,rfl,λ_=>hv⟩
theorem Kv{y:ar}:∀{l:apH ar},y∈gX l->∃x∈l,y∈cy x
 |[],h=>by rw[gX]at h;cases h
 |x::l,h=>by
  rw[mG]at h;rcases apv.1 h with h|h
  ·exact⟨x,aoY,h⟩
  ·obtain⟨z,h1,h2⟩:=Kv h;exact⟨z,ao1 _ h1,h2⟩
theorem YU{t t':bq}{x:Int}(h:xV t x=(t',0)):x=0:=congrArg Prod.snd h
theorem Ua(N:Nat)(e:ar)(p:aG)(vars:apH apI)(rec:aG->apH apI->ar->apJ (bq×Int)):
 ∀(l:apH ar)(k:Nat)(acc:apH bq)(t:bq),lN N e p vars rec l k acc=some (t,0)->
  (∀x∈l,∃t',rec p vars x=some (t',0))/\∃k' qM,lN N e p vars rec [] k' qM=some (t,0)
 |[],k,acc,t,h=>⟨λ_ hx=>(by cases hx),k,acc,h⟩
 |x::l,k,acc,t,h=>by
  rw[lN]at h;cases hr:rec p vars x with
  |none=>rw[hr]at h;cases h
  |some q=>
   rw[hr,aoR]at h;cases hz:q.2 !=0 with
   |true=>rw[hz,cond_true]at h;rw[(Prod.mk.inj (apb h)).2]at hz;cases hz
   |false=>
    rw[hz,cond_false]at h;cases hb:Nat.ble ((acc.length+1)*40) 140737488355328 with
    |false=>rw[hb]at h;cases h
    |true=>
     rw[hb,cond_true]at h;obtain⟨h1,h2⟩:=Ua N e p vars rec l (k+1) (acc++[q.1]) t h;refine⟨λy hy=> ?_,h2⟩;rcases apm.1 hy with rfl|hy
     ·exact⟨q.1,by rw[hr,<-fD hz]⟩
     ·exact h1 y hy
theorem XS(N:Nat)(p:aG)(vars:apH apI)(lC:fZ p.aw):∀(d:Nat)(e:ar)(t:bq),sX N d p vars e=some (t,0)->∀y∈cy e,(y.aJ=3->lU (vars++p.az) p.aE p.aw y=0)/\(y.aJ=2->ku (vars++p.az) y.aQ=0)
 |0,e,t,h=>by cases h
 |d+1,e,t,h=>by
  rw[sX]at h;obtain⟨h1,k',qM,h2⟩:=Ua N e p vars _ _ _ _ _ h;intro y hy;rcases apm.1 hy with rfl|hy
  ·refine⟨λhop=> ?_,λhop=> ?_⟩
   ·rw[lN,hop,IS N vars p lC]at h2;exact YU (apb h2)
   ·rw[lN,hop,FI,IT]at h2;have h3:=congrArg Prod.snd (apb h2);exact h3
  ·obtain⟨x,hx,hy⟩:=Kv hy;obtain⟨t',h3⟩:=h1 x hx;exact XS N p vars lC d x t' h3 y hy
theorem Ue(N:Nat)(p:aG)(vars:apH apI)(lC:fZ p.aw)(e:ar)(t:bq)(h:pn N p vars e=some (t,0)):∀y∈cy e,(y.aJ=3->lU (vars++p.az) p.aE p.aw y=0)/\(y.aJ=2->ku (vars++p.az) y.aQ=0):=by
 unfold pn at h;cases e1:rZ N e with
 |none=>rw[e1]at h;cases h
 |some a=>
  rw[e1,aoR]at h;cases h1:a !=0 with
  |true=>rw[h1,cond_true]at h;rw[(Prod.mk.inj (apb h)).2]at h1;cases h1
  |false=>
   rw[h1,cond_false,D9,aoR]at h;cases h2:mM e with
   |true=>rw[h2]at h;cases h
   |false=>
    rw[h2,cond_false]at h;cases e3:w9 N p vars e with
    |none=>rw[e3]at h;cases h
    |some q=>
     rw[e3,aoR]at h;cases h4:q.2 !=0 with
     |true=>rw[h4,cond_true]at h;rw[(Prod.mk.inj (apb h)).2]at h4;cases h4
     |false=>exact XS N p vars lC N e q.1 (by unfold w9 at e3;rw[e3,<-fD h4])
structure Bd(N:Nat)(p:aG):Prop where
 s:p.az.length<=1000
 w:p.cd.length<=1000
 q:p.aE.length<=1000
 d:p.aw.length<=1000
 o:p.bW.length<=1000
 P:nR p.aE
 D:fZ p.aw
 W:∀c∈p.cd,lL 1000000000 c.aQ
 E:∀d∈p.aw,po d.bR/\SizeOf.sizeOf d.bR<N
def dM(d:aX):apH apI:=(d.aO++d.aU).map (·.ao)
structure zq(p:aG)(k:Nat)(d:aX):Prop where
 par:cq (p.aE.map (·.ao)) d.ao=false
 body:kE d.bR=0
 nK:lh p.az [] (d.aO++d.aU)=0
 reads:∀y∈cy d.bR,y.aJ=3->lU (dM d++p.az) p.aE (p.aw.take k) y=0
 qB:∀y∈cy d.bR,y.aJ=2->ku (dM d++p.az) y.aQ=0
 len:d.aO.length<=6/\d.aU.length<=6
 aoD:cq ((p.aw.take k).map (·.ao)) d.ao=false
theorem Gi{D:apH aX}(h:fZ D)(k:Nat):fZ (D.take k):=⟨λd hd=>h.len d (List.mem_of_mem_take hd),λd hd=>h.lS d (List.mem_of_mem_take hd)⟩
section
variable {N:Nat} {p:aG}
theorem ane(hN:2147483648<N)(B:Bd N p){m:apH (apI×Int)}{T:apH apI}{k:Nat}{d:aX}(h:KN m p.az T)(hd:p.aw[k]?=some d)(hT:T.length<=1000000)(hq:∀s,cq (p.aE.map (·.ao)++(p.aw.take k).map (·.ao)) s=true->cq T s=true):
 ∃x m',Hg N (k:Int) p m=some (x,m')/\tU N p (k:Int) (p.az++T)=some x/\(x=0->KN m' p.az (T++[d.ao])/\zq p k d):=by
 have gZ:=px hd;have aoM:=B.D.len d gZ;have hlen:d.aO.length+d.aU.length<1000000000:=by omega
 have DT:∀x∈d.aO++d.aU,jE x.cg:=λx hx=>(B.D.lS d gZ x hx).ok;have hs:=B.s;unfold Hg tU;rw[show decide ((0:Int)<=(k:Int))=true from apA (by omega),apj,hd,cond_true,cond_true,aoR,aoR,
  SJ N (by omega) _ 2 p h (by omega),xP N (by omega),aoR,aoR,aeI,sk,aoR,aoR,sL,sL]
 dsimp only;cases e:fi (p.az++T) d.ao !=0 with
 |true=>exact⟨_,_,rfl,rfl,λh0=>by rw[h0]at e;cases e⟩
 |false=>
  have e0:=fD e;have k1:=h.abC (Er e0).2;rw[e0];simp only[cond_false,apC,cond_true];cases eO d.aM with
  |false=>exact⟨_,_,rfl,rfl,λh0=>by cases h0⟩
  |true=>
   simp only[cond_true];rw[show(bif !decide (d.aO.length<=6)then some true else some !decide (d.aU.length<=6))=some (!(decide (d.aO.length<=6)&&decide (d.aU.length<=6))) by cases decide (d.aO.length<=6)<;>cases decide (d.aU.length<=6)<;>rfl,aoR];cases e6:decide (d.aO.length<=6)&&decide (d.aU.length<=6)with
   |false=>exact⟨_,_,rfl,rfl,λh0=>by cases h0⟩
   |true=>
    rw[aoU,decide_eq_true_eq,decide_eq_true_eq]at e6;simp only[cond_true,Bool.not_true,cond_false];rw[mu (by omega),mu (by omega),amY N (by omega) d p k1 DT hlen,RM N (by omega) _ _ DT (by simp only[aoT];omega)];simp only[aoR,cond_true,bne_self_eq_false,cond_false];cases ea:lh p.az [] (d.aO++d.aU) !=0 with
    |true=>exact⟨_,_,rfl,rfl,λh0=>by rw[h0]at ea;cases ea⟩
    |false=>
     simp only[cond_false];rw[anP,QG,aoR,aoR];cases ef:qm d !=0 with
     |true=>exact⟨_,_,rfl,rfl,λh0=>by rw[h0]at ef;cases ef⟩
     |false=>
      simp only[cond_false];have hk:k<p.aw.length:=by
       by_cases hk:k<p.aw.length
       ·exact hk
       ·rw[apo (by omega)]at hd;cases hd
      rw[show decide (k<=p.aw.length)=true from apA (by omega),cond_true,cond_true,Yw N d hlen,LY N d hlen,aoR,aoR,aps];obtain⟨t,x,a1,a2,a3⟩:=ama N hN ⟨p.az,p.cd,p.aE,p.aw.take k,p.bW⟩ ⟨p.az,[],p.aE,p.aw.take k,[]⟩ ((d.aO++d.aU).map (·.ao)) d.bR (B.E d gZ).2 (B.E d gZ).1 rfl rfl rfl B.P (Gi B.D k)
        (by simp only[aoX,aoT];omega)
      rw[a1,a2,aoR,aoR];dsimp only;cases ex:x !=0 with
      |true=>exact⟨_,_,rfl,rfl,λh0=>by rw[h0]at ex;cases ex⟩
      |false=>
       have x0:=fD ex;simp only[cond_false];cases ((t.bS==d.aM.bS)&&((t.cb==d.aM.cb)&&((t.ca==d.aM.ca)&&((t.cJ==d.aM.cJ)&&((t.cH==d.aM.cH)&&true)))))with
       |false=>exact⟨_,_,rfl,rfl,λh0=>by cases h0⟩
       |true=>
        have e7:cq (p.aE.map (·.ao)++(p.aw.take k).map (·.ao)) d.ao=false:=by
         cases eq:cq (p.aE.map (·.ao)++(p.aw.take k).map (·.ao)) d.ao with
         |false=>rfl
         |true=>
          have:=(Er e0).2;rw[lP,hq _ eq,Bool.or_true]at this;cases this
        rw[lP,apG]at e7;rw[x0]at a2;have tr:=Ue N _ _ (Gi B.D k) d.bR t a2;exact⟨_,_,rfl,rfl,λ_=>⟨k1,e7.1,a3 x0,fD ea,λy hy=>(tr y hy).1,λy hy=>(tr y hy).2,e6,e7.2⟩⟩
def qQ(p:aG):Bool:=decide (p.az.length<=64)&&(decide (p.aE.length<=64)&&(decide (p.aw.length<=64)&&(decide (p.bW.length<=64)&&decide (p.cd.length<=256))))
theorem amq:Jc N p=some (qQ p):=by
 unfold Jc qQ;simp only[Ke];rw[show decide (((max (max (max p.az.length p.aE.length) p.aw.length) p.bW.length:Nat):Int)<=64)=decide (max (max (max p.az.length p.aE.length) p.aw.length) p.bW.length<=64)from wR _ 64,show decide ((p.cd.length:Int)<=256)=decide (p.cd.length<=256)from wR _ 256];rw[show decide (max (max (max p.az.length p.aE.length) p.aw.length) p.bW.length<=64)=(decide (p.az.length<=64)&&(decide (p.aE.length<=64)&&(decide (p.aw.length<=64)&&decide (p.bW.length<=64)))) by
  rw[Bool.eq_iff_iff];simp only[aoU,decide_eq_true_iff];omega]
 cases decide (p.az.length<=64)<;>cases decide (p.aE.length<=64)<;>cases decide (p.aw.length<=64)<;>cases decide (p.bW.length<=64)<;>rfl
theorem Ku:(bif (decide ((p.az.length:Int)>64))then some true else(bif (decide ((p.aE.length:Int)>64))then some true else(bif (decide ((p.aw.length:Int)>64))then some true else(bif (decide ((p.bW.length:Int)>64))then some true else some (decide ((p.cd.length:Int)>256))))))=some (!qQ p):=by
 unfold qQ;rw[show ∀n:Nat,decide ((n:Int)>64)= !decide (n<=64)from λn=>kL n 64];rw[show decide ((p.aE.length:Int)>64)= !decide (p.aE.length<=64)from kL _ 64,show decide ((p.aw.length:Int)>64)= !decide (p.aw.length<=64)from kL _ 64,show decide ((p.bW.length:Int)>64)= !decide (p.bW.length<=64)from kL _ 64,show decide ((p.cd.length:Int)>256)= !decide (p.cd.length<=256)from kL _ 256];cases decide (p.az.length<=64)<;>cases decide (p.aE.length<=64)<;>cases decide (p.aw.length<=64)<;>cases decide (p.bW.length<=64)<;>rfl
def lH:apH apI->apH apI->Int
 |_,[]=>0
 |S,s::l=>bif fi S s !=0 then fi S s else lH (S++[s]) l
theorem Nn(hN:16<N):∀(l:apH apI)(k:Nat)(m:apH (apI×Int))(S:apH apI),KN m S []->S.length+l.length<=1000->
 ∃m',KN m' (S++l) []/\IK N p l k m=bif lH S l !=0 then some (0,lH S l)else Gm N p m' p.cd 0
 |[],k,m,S,h,_=>⟨m,by rw[apd];exact h,rfl⟩
 |s::l,k,m,S,h,hb=>by
  simp only[aoV]at hb;rw[IK,SJ N hN s 1 p h (by simp only[ao4];omega),aoR,apd,lH];dsimp only;cases e:fi S s !=0 with
  |true=>
   obtain⟨m',h1,_⟩:=Nn hN l k _ _ (h.u7 s) (by simp only[aoT,aoV,ao4];omega);refine⟨m',by rw[ao9]at h1;exact h1,?_⟩;simp only[cond_true];rw[e];rfl
  |false=>
   rw[fD e];obtain⟨m',h1,h2⟩:=Nn hN l (k+1) _ _ (h.u7 s) (by simp only[aoT,aoV,ao4];omega);exact⟨m',by rw[ao9]at h1;exact h1,h2⟩
theorem MF{α:Type}{L l:apH α}{x:α}{k:Nat}(h:L.drop k=x::l):L.take (k+1)=L.take k++[x]:=by
 have:=bt h;rw[List.take_add_one,this];rfl
theorem kI{α:Type}{L l:apH α}{x:α}{k:Nat}(h:L.drop k=x::l):L.drop (k+1)=l:=by
 rw[<-List.drop_drop,h];rfl
theorem HO{α:Type}{L l:apH α}{x:α}{k:Nat}(h:L.drop k=x::l):k<L.length:=by
 by_cases hk:k<L.length
 ·exact hk
 ·rw[List.drop_eq_nil_of_le (by omega)]at h;cases h
theorem Db(hN:16<N):∀(l:apH apI)(k:Nat),p.az.drop k=l->LJ N p l k=some (lH (p.az.take k) l)
 |[],_,_=>rfl
 |s::l,k,h=>by
  rw[LJ,apj,show decide (k<=p.az.length)=true from apA (by have:=HO h;omega),cond_true,aps,xP N hN,aoR,lH,Db hN l (k+1) (kI h),MF h];cases fi (p.az.take k) s !=0<;>rfl
theorem ZD(hN:16<N){m:apH (apI×Int)}(h:KN m p.az []):∀(l:apH cz)(k:Nat),(∀c∈l,lL 1000000000 c.aQ)->
 Gm N p m l k=bif fq (λc=>fc p.az c.aQ) l !=0 then some (1,fq (λc=>fc p.az c.aQ) l)else BL N p p.aE 0 2 m
 |[],_,_=>rfl
 |c::l,k,hc=>by
  have ok:jE c.aQ:=(hc c aoY).ok;have e1:II N c p m=some (fc p.az c.aQ):=by
   unfold II tM;rw[tB N hN _ ok,aoR,aoR,OR N hN _ p ok h];unfold fc;cases dq c.aQ<;>rfl
  rw[Gm,e1,aoR,fq,ZD hN h l (k+1) λy hy=>hc y (ao1 _ hy)];cases e:fc p.az c.aQ !=0 with
  |true=>simp only[cond_true];rw[e];rfl
  |false=>rfl
theorem GJ(hN:16<N)(hs:p.az.length<=1000):∀(l:apH cz)(k:Nat),(∀c∈l,lL 1000000000 c.aQ)->
 Dv N p l k=bif fq (λc=>fc p.az c.aQ) l !=0 then some (1,fq (λc=>fc p.az c.aQ) l)else nQ N p p.aE 0 p.az 2
 |[],_,_=>by
  rw[Dv,mu (by omega)];rfl
 |c::l,k,hc=>by
  rw[Dv,MX N hN _ (hc c aoY).ok,aoR,fq,GJ hN hs l (k+1) λy hy=>hc y (ao1 _ hy)];cases e:fc p.az c.aQ !=0 with
  |true=>simp only[cond_true];rw[e];rfl
  |false=>rfl
theorem Xd(hN:16<N)(hs:p.az.length<=1000):∀(l:apH cf)(k:Nat)(at_:Int)(m:apH (apI×Int))(T:apH apI),KN m p.az T->nR l->T.length+l.length<=1000->
 (∃a x,x≠0/\BL N p l k at_ m=some (a,x)/\nQ N p l k (p.az++T) at_=some (a,x))\/
 ∃at' m',KN m' p.az (T++l.map (·.ao))/\BL N p l k at_ m=Ag N p p.aw 0 at' m'/\nQ N p l k (p.az++T) at_=l7 N p p.aw 0 (p.az++(T++l.map (·.ao))) at'
 |[],k,at_,m,T,h,_,_=> .inr ⟨at_,m,by rw[List.map_nil,apd];exact h,rfl,by rw[List.map_nil,apd];rfl⟩
 |x::l,k,at_,m,T,h,hl,hb=>by
  simp only[aoV]at hb;obtain⟨m1,e1,e2⟩:=aeu N hN x p (λy hy=>(hl.lS x aoY y hy).ok) h (by omega);rw[BL,nQ,e1,R9 N hN x p.az T (λy hy=>(hl.lS x aoY y hy).ok),aoR,aoR];dsimp only;cases e:pM p.az T x !=0 with
  |true=>exact .inl ⟨_,_,λh0=>(by rw[h0]at e;cases e),rfl,rfl⟩
  |false=>
   simp only[cond_false];rw[mu (by simp only[aoT];omega),cond_true,ao9];have:=Xd hN hs l (k+1) (bh (at_+1)) m1 (T++[x.ao]) (e2 (fD e)) ⟨λy hy=>hl.len y (ao1 _ hy),λy hy=>hl.lS y (ao1 _ hy)⟩ (by simp only[aoT,aoV,ao4];omega);rw[ao9]at this;exact this
theorem ZO(hN:2147483648<N)(B:Bd N p):∀(l:apH aX)(k:Nat)(at_:Int)(m:apH (apI×Int))(T:apH apI),p.aw.drop k=l->KN m p.az T->(∀s,cq (p.aE.map (·.ao)++(p.aw.take k).map (·.ao)) s=true->cq T s=true)->T.length+l.length<=10000->
 (∃a x,x≠0/\Ag N p l k at_ m=some (a,x)/\l7 N p l k (p.az++T) at_=some (a,x))\/
 ((∀i d,k<=i->p.aw[i]?=some d->zq p i d)/\∃at' m',KN m' p.az (T++l.map (·.ao))/\Ag N p l k at_ m=Gr N m' p p.bW 0 at'/\l7 N p l k (p.az++T) at_=mU N p p.bW 0 at')
 |[],k,at_,m,T,hd,h,_,_=>by
  refine .inr ⟨λi d hi hx=> ?_,at_,m,by rw[List.map_nil,apd];exact h,rfl,rfl⟩
  ·have:p.aw.length<=k:=by
    by_cases hk:p.aw.length<=k
    ·exact hk
    ·have:=congrArg List.length hd;simp at this;omega
   rw[apo (by omega)]at hx;cases hx
 |d::l,k,at_,m,T,hd,h,hq,hb=>by
  simp only[aoV]at hb;have hs:=B.s;obtain⟨x,m1,e1,e2,e3⟩:=ane hN B h (bt hd) (by omega) hq;rw[Ag,l7,e1,e2,aoR,aoR];dsimp only;cases e:x !=0 with
  |true=>exact .inl ⟨_,_,λh0=>(by rw[h0]at e;cases e),rfl,rfl⟩
  |false=>
   obtain⟨k1,g1⟩:=e3 (fD e);simp only[cond_false];rw[mu (by simp only[aoT];omega),cond_true,ao9];have:=ZO hN B l (k+1) (bh (at_+1)) m1 (T++[d.ao]) (kI hd) k1 (λs hs=>by
    rw[MF hd,List.map_append,<-ao9,lP]at hs;rw[lP];rcases Bool.or_eq_true _ _▸hs with hs|hs
    ·rw[hq s hs];rfl
    ·rw[show cq [d.ao] s=true from hs,Bool.or_true]) (by simp only[aoT,aoV,ao4];omega)
   rw[ao9]at this;rcases this with this|⟨g,this⟩
   ·exact .inl this
   ·refine .inr ⟨λi d' hi hx=> ?_,this⟩;by_cases om:i=k
    ·subst om;rw[bt hd]at hx;cases hx;exact g1
    ·exact g i d' (by omega) hx
theorem Qr{α:Type}(f:α->apI)(s:apI):∀l:apH α,cq (l.map f) s=(l.find? λx=>bL (f x)==bL s).isSome
 |[]=>rfl
 |x::l=>by
  rw[aph,List.find?_cons,show cq (f x::l.map f) s=(bL (f x)==bL s||cq (l.map f) s)from apE,Qr f s l];cases bL (f x)==bL s<;>rfl
theorem Co(P:apH cf)(D:apH aX)(s:apI):(dz P D s).2.2=cq (P.map (·.ao)++D.map (·.ao)) s:=by
 unfold dz;rw[lP,Qr,Qr];show _=(_||(D.find? (mW s)).isSome);cases P.find? λx=>bL x.ao==bL s with
 |some x=>rfl
 |none=>cases D.find? (mW s)<;>rfl
theorem T4(hD:fZ p.aw){m:apH (apI×Int)}(h:KN m p.az (p.aE.map (·.ao)++p.aw.map (·.ao))):∀(l:apH apI)(k:Nat)(at_:Int),p.bW.drop k=l->
 ∃a x,Gr N m p l k at_=some (a,x)/\mU N p l k at_=some (a,x)
 |[],_,_,_=>⟨_,_,rfl,rfl⟩
 |s::l,k,at_,hd=>by
  rw[Gr,mU,h.ne2,Bi N p s hD,aoR,Co,apj,show decide (k<=p.bW.length)=true from apA (by have:=HO hd;omega),aps,aic,vc,aoR,aoR];cases cq (p.aE.map (·.ao)++p.aw.map (·.ao)) s with
  |false=>exact⟨_,_,rfl,rfl⟩
  |true=>
   cases cq (p.bW.take k) s with
   |true=>exact⟨_,_,rfl,rfl⟩
   |false=>exact T4 hD h l (k+1) (bh (at_+1)) (kI hd)
theorem abh(hN:2147483648<N)(B:Bd N p):∃a x,pg N p=some (a,x)/\pY N p=some (a,x)/\(x=0->∀i d,p.aw[i]?=some d->zq p i d):=by
 have hs:=B.s;have hq:=B.q;have hd:=B.d;unfold pg pY Ei;rw[amq,Ku,aoR,aoR];cases qQ p with
 |false=>exact⟨_,_,rfl,rfl,λh=>by cases h⟩
 |true=>
  simp only[cond_true,Bool.not_true,cond_false];obtain⟨m1,k1,e1⟩:=Nn (N:=N) (p:=p) (by omega) p.az 0 [] [] KN.nil (by simp only[ao4];omega);rw[List.nil_append]at k1;rw[e1,Db (by omega) p.az 0 rfl,aoR,List.take_zero];cases ez:lH [] p.az !=0 with
  |true=>exact⟨_,_,rfl,rfl,λh0=>by rw[h0]at ez;cases ez⟩
  |false=>
   simp only[cond_false];rw[ZD (by omega) k1 _ _ B.W,GJ (by omega) hs _ _ B.W];cases ew:fq (λc=>fc p.az c.aQ) p.cd !=0 with
   |true=>exact⟨_,_,rfl,rfl,λh0=>by rw[h0]at ew;cases ew⟩
   |false=>
    simp only[cond_false];have pb:=Xd (N:=N) (p:=p) (by omega) hs p.aE 0 2 m1 [] k1 B.P (by simp only[ao4];omega);rw[apd,List.nil_append]at pb;rcases pb with⟨a,x,hx,e1,e2⟩|⟨at',m2,k2,e1,e2⟩
    ·exact⟨a,x,e1,e2,λh0=>absurd h0 hx⟩
    ·rw[e1,e2];rcases ZO hN B p.aw 0 at' m2 _ rfl k2 (λs h=>by rw[List.take_zero,List.map_nil,apd]at h;exact h) (by simp only[aoX];omega)with⟨a,x,hx,e1,e2⟩|⟨g,FC,m3,k3,e1,e2⟩
     ·exact⟨a,x,e1,e2,λh0=>absurd h0 hx⟩
     ·rw[e1,e2];obtain⟨a,x,e1,e2⟩:=T4 (N:=N) B.D k3 p.bW 0 FC rfl;exact⟨a,x,e1,e2,λ_ i d h=>g i d (Nat.zero_le _) h⟩
end
theorem ox{l:apH apI}{s:apI}:cq l s=true↔s∈l:=by
 unfold cq;rw[List.any_eq_true];constructor
 ·rintro⟨w,hw,e⟩;rw[beq_iff_eq]at e;rw[<-iJ e];exact hw
 ·intro h;exact⟨s,h,by simp⟩
theorem XI{l:apH apI}{s:apI}(h:cq l s=false):s ∉ l:=λhm=>by rw[ox.2 hm]at h;cases h
theorem tV{T:apH apI}{s:apI}(h:fi T s=0):cE s=true/\s ∉ T:=⟨(Er h).1,XI (Er h).2⟩
theorem Mh:∀(l S:apH apI),lH S l=0->(∀s∈l,cE s=true/\s ∉ S)/\l.Nodup
 |[],_,_=>⟨λs hs=>(by cases hs),List.nodup_nil⟩
 |s::l,S,h=>by
  rw[lH]at h;cases e:fi S s !=0 with
  |true=>rw[e]at h;simp only[cond_true]at h;rw[h]at e;cases e
  |false=>
   rw[e]at h;simp only[cond_false]at h;obtain⟨h1,h2⟩:=tV (fD e);obtain⟨k1,k2⟩:=Mh l (S++[s]) h;refine⟨λx hx=> ?_,List.nodup_cons.2 ⟨λhs=>(k1 s hs).2 (by simp),k2⟩⟩;rcases apm.1 hx with rfl|hx
   ·exact⟨h1,h2⟩
   ·exact⟨(k1 x hx).1,λhm=>(k1 x hx).2 (List.mem_append_left _ hm)⟩
theorem sZ{α:Type}{f:α->Int}:∀{l:apH α},fq f l=0->∀x∈l,f x=0
 |x::l,h,y,hy=>by
  rw[fq]at h;cases e:f x !=0 with
  |true=>rw[e]at h;simp only[cond_true]at h;rw[h]at e;cases e
  |false=>
   rw[e]at h;simp only[cond_false]at h;rcases apm.1 hy with rfl|hy
   ·exact fD e
   ·exact sZ h y hy
def uc(S:apH apI):apH apI->apH cf->Prop
 |_,[]=>True
 |T,x::l=>pM S T x=0/\uc S (T++[x.ao]) l
def JF:apH apI->apH aX->Prop
 |_,[]=>True
 |T,d::l=>fi T d.ao=0/\JF (T++[d.ao]) l
theorem A2{S:apH apI}:∀(l:apH cf)(T:apH apI),uc S T l->(∀x∈l,cE x.ao=true/\x.ao ∉ S++T/\fq (fc S) x.aO=0)/\(l.map (·.ao)).Nodup
 |[],_,_=>⟨λs hs=>(by cases hs),List.nodup_nil⟩
 |x::l,T,⟨h,hl⟩=>by
  unfold pM at h;cases e:fi (S++T) x.ao !=0 with
  |true=>rw[e]at h;simp only[cond_true]at h;rw[h]at e;cases e
  |false=>
   rw[e]at h;simp only[cond_false]at h;obtain⟨h1,h2⟩:=tV (fD e);obtain⟨k1,k2⟩:=A2 l (T++[x.ao]) hl;have hd:fq (fc S) x.aO=0:=by
     cases e1:eO x.aM with
     |false=>rw[e1]at h;cases h
     |true=>
      rw[e1]at h;simp only[cond_true]at h;cases e2:decide (x.aO.length<=6)with
      |false=>rw[e2]at h;cases h
      |true=>rw[e2]at h;exact h
   refine⟨λy hy=> ?_,List.nodup_cons.2 ⟨λhs=> ?_,k2⟩⟩
   ·rcases apm.1 hy with rfl|hy
    ·exact⟨h1,h2,hd⟩
    ·obtain⟨a,b,c⟩:=k1 y hy;exact⟨a,λhm=>b (by rcases apv.1 hm with hm|hm<;>simp [hm]),c⟩
   ·obtain⟨y,hy,ey⟩:=List.mem_map.1 hs;exact(k1 y hy).2.1 (by rw[show y.ao=x.ao from ey];simp)
theorem NH:∀(l:apH aX)(T:apH apI),JF T l->(∀x∈l,cE x.ao=true/\x.ao ∉ T)/\(l.map (·.ao)).Nodup
 |[],_,_=>⟨λs hs=>(by cases hs),List.nodup_nil⟩
 |x::l,T,⟨h,hl⟩=>by
  obtain⟨h1,h2⟩:=tV h;obtain⟨k1,k2⟩:=NH l (T++[x.ao]) hl;refine⟨λy hy=> ?_,List.nodup_cons.2 ⟨λhs=> ?_,k2⟩⟩
  ·rcases apm.1 hy with rfl|hy
   ·exact⟨h1,h2⟩
   ·obtain⟨a,b⟩:=k1 y hy;exact⟨a,λhm=>b (List.mem_append_left _ hm)⟩
  ·obtain⟨y,hy,ey⟩:=List.mem_map.1 hs;exact(k1 y hy).2 (by rw[show y.ao=x.ao from ey];simp)
structure VP(p:aG):Prop where
 names:lH [] p.az=0
 wh:∀c∈p.cd,fc p.az c.aQ=0
 qH:uc p.az [] p.aE
 defs:JF (p.az++p.aE.map (·.ao)) p.aw
 outs:∀s∈p.bW,s∈p.aE.map (·.ao)++p.aw.map (·.ao)
section
variable {N:Nat} {p:aG}
theorem YD(hD:fZ p.aw):∀(l:apH apI)(k:Nat)(at_:Int){a:Int},mU N p l k at_=some (a,0)->∀s∈l,s∈p.aE.map (·.ao)++p.aw.map (·.ao)
 |s::l,k,at_,a,h,y,hy=>by
  rw[mU,Bi N p s hD,aoR,Co]at h;cases e:cq (p.aE.map (·.ao)++p.aw.map (·.ao)) s with
  |false=>rw[e]at h;cases h
  |true=>
   rw[e]at h;simp only[cond_true]at h;obtain⟨_,h⟩:=qW h;rw[vc,aoR]at h;cases e2:cq ((p.bW.take ((k:Int)).toNat).drop 0) s with
   |true=>rw[e2]at h;cases h
   |false=>
    rw[e2]at h;rcases apm.1 hy with rfl|hy
    ·exact ox.1 e
    ·exact YD hD l (k+1) (bh (at_+1)) h y hy
theorem ag7(hN:16<N){k:Nat}{d:aX}{T:apH apI}(hd:p.aw[k]?=some d)(h:tU N p (k:Int) T=some 0):fi T d.ao=0:=by
 unfold tU at h;obtain⟨_,h⟩:=qW h;rw[apj,hd,aoR,xP N hN,aoR]at h;cases e:fi T d.ao !=0 with
 |false=>exact fD e
 |true=>rw[e]at h;simp only[cond_true]at h;rw[apb h]at e;cases e
theorem aaX(hN:16<N):∀(l:apH aX)(k:Nat)(at_:Int)(T:apH apI){a:Int},p.aw.drop k=l->l7 N p l k T at_=some (a,0)->JF T l/\∃at' a',mU N p p.bW 0 at'=some (a',0)
 |[],k,at_,T,a,_,h=>⟨trivial,at_,a,h⟩
 |d::l,k,at_,T,a,hk,h=>by
  rw[l7]at h;obtain⟨x,e,h⟩:=dv h;cases e2:x !=0 with
  |true=>rw[e2]at h;simp only[cond_true]at h;rw[(Prod.mk.inj (apb h)).2]at e2;cases e2
  |false=>
   rw[e2]at h;obtain⟨_,h⟩:=qW h;have hx:=fD e2;rw[hx]at e;obtain⟨k1,k2⟩:=aaX hN l (k+1) _ _ (kI hk) h;exact⟨⟨ag7 hN (bt hk) e,k1⟩,k2⟩
theorem Rn(hN:16<N):∀(l:apH cf)(k:Nat)(at_:Int)(T:apH apI){a:Int},nR l->nQ N p l k (p.az++T) at_=some (a,0)->uc p.az T l/\∃at' a',l7 N p p.aw 0 (p.az++(T++l.map (·.ao))) at'=some (a',0)
 |[],k,at_,T,a,_,h=>⟨trivial,at_,a,by rw[List.map_nil,apd];exact h⟩
 |x::l,k,at_,T,a,hl,h=>by
  rw[nQ,R9 N hN x p.az T (λy hy=>(hl.lS x aoY y hy).ok),aoR]at h;cases e2:pM p.az T x !=0 with
  |true=>rw[e2]at h;simp only[cond_true]at h;rw[(Prod.mk.inj (apb h)).2]at e2;cases e2
  |false=>
   rw[e2]at h;obtain⟨_,h⟩:=qW h;dsimp only at h;rw[ao9]at h;obtain⟨k1,k2⟩:=Rn hN l (k+1) _ (T++[x.ao]) ⟨λy hy=>hl.len y (ao1 _ hy),λy hy=>hl.lS y (ao1 _ hy)⟩ h;rw[ao9]at k2;exact⟨⟨fD e2,k1⟩,k2⟩
theorem Rl(hN:16<N)(B:Bd N p){a:Int}(h:pY N p=some (a,0)):VP p:=by
 have hs:=B.s;unfold pY Ei at h;rw[Ku,aoR]at h;cases e:qQ p with
 |false=>rw[e]at h;cases h
 |true=>
  rw[e]at h;simp only[Bool.not_true,cond_false]at h;rw[Db hN p.az 0 rfl,aoR,List.take_zero]at h;cases ez:lH [] p.az !=0 with
  |true=>rw[ez]at h;simp only[cond_true]at h;rw[(Prod.mk.inj (apb h)).2]at ez;cases ez
  |false=>
   rw[ez]at h;simp only[cond_false]at h;rw[GJ hN hs p.cd 0 B.W]at h;cases ew:fq (λc:cz=>fc p.az c.aQ) p.cd !=0 with
   |true=>rw[ew]at h;simp only[cond_true]at h;rw[(Prod.mk.inj (apb h)).2]at ew;cases ew
   |false=>
    rw[ew]at h;simp only[cond_false]at h;obtain⟨k1,RQ,a1,h1⟩:=Rn hN p.aE 0 2 [] B.P (by rw[apd];exact h);rw[List.nil_append]at h1;obtain⟨k2,FC,a2,h2⟩:=aaX hN p.aw 0 RQ _ rfl h1;exact⟨fD ez,sZ (fD ew),k1,k2,YD B.D p.bW 0 FC h2⟩
end
def aF:apH (apI×apI)->apI->apI
 |[],s=>s
 |(k,v)::l,s=>bif bL k==bL s then v else aF l s
theorem zX(N:Nat)(s:apI):∀m:apH (apI×apI),wL N s m=some (aF m s)
 |[]=>rfl
 |(k,v)::l=>by
  have ih:=zX N s l;unfold wL at ih ⊢;rw[pa,eQ,aF];cases bL k==bL s with
  |true=>rfl
  |false=>exact ih
theorem ab3(N:Nat)(s:apI)(F T:apH apI):∀(l:apH apI)(k:Nat),T.length=k+l.length->CH N s ⟨F,T⟩ l k=some (aF (l.zip (T.drop k)) s)
 |[],k,_=>by rw[CH];rfl
 |x::l,k,h=>by
  rw[aoV]at h;have hk:k<T.length:=by omega
  rw[CH,List.drop_eq_getElem_cons hk,List.zip_cons_cons,aF];cases bL x==bL s with
  |true=>
   simp only[cond_true,apj];rw[aoW hk];rfl
  |false=>exact ab3 N s F T l (k+1) (by omega)
theorem tL(N:Nat)(s:apI)(F T:apH apI)(h:T.length=F.length):od N ⟨F,T⟩ s=some (aF (F.zip T) s):=by
 unfold od;rw[ab3 N s F T F 0 (by omega),aps]
theorem Jk:∀(m:apH (apI×apI))(s:apI),s ∉ m.map (·.1)->aF m s=s
 |[],_,_=>rfl
 |(k,v)::l,s,h=>by
  rw[aph,apm]at h;rw[aF,show(bL k==bL s)=false from by
    rw[beq_eq_false_iff_ne];exact λe=>h (.inl (iJ e).symm)]
  exact Jk l s λhm=>h (.inr hm)
theorem Sm:∀(m:apH (apI×apI)),(m.map (·.1)).Nodup->∀p∈m,aF m p.1=p.2
 |(k,v)::l,h,p,hp=>by
  rw[aph,List.nodup_cons]at h;rw[aF];rcases apm.1 hp with rfl|hp
  ·rw[BEq.rfl];rfl
  ·rw[show(bL k==bL p.1)=false from by
     rw[beq_eq_false_iff_ne];exact λe=>h.1 (List.mem_map.2 ⟨p,hp,(iJ e).symm⟩)]
   exact Sm l h.2 p hp
theorem SO{m m':apH (apI×apI)}(hp:m.Perm m')(hn:(m.map (·.1)).Nodup)(s:apI):aF m s=aF m' s:=by
 have hk:=hp.map (·.1);have ee:(m'.map (·.1)).Nodup:=hk.nodup_iff.1 hn;by_cases h:s∈m.map (·.1)
 ·obtain⟨p,hm,rfl⟩:=List.mem_map.1 h;rw[Sm m hn p hm,Sm m' ee p (hp.mem_iff.1 hm)]
 ·rw[Jk m s h,Jk m' s λh'=>h (hk.mem_iff.2 h')]
theorem VG(x:bf):∀l:apH bf,(l.Pairwise λa b=>bL a.ao<bL b.ao)->(∀y∈l,bL y.ao≠bL x.ao)->(yf x l).Pairwise λa b=>bL a.ao<bL b.ao
 |[],_,_=>by simp [yf]
 |y::l,h,hx=>by
  obtain⟨h1,h2⟩:=List.pairwise_cons.1 h;unfold yf;rw[Jp];by_cases c:bL x.ao<bL y.ao
  ·rw[apA c];refine .cons (λz hz=> ?_) h;rcases apm.1 hz with rfl|hz
   ·exact c
   ·exact List.lt_trans c (h1 z hz)
  ·rw[apB c];refine .cons (λz hz=> ?_) (VG x l h2 λz hz=>hx z (ao1 _ hz));rcases apm.1 ((S0 x l).subset hz)with rfl|hz
   ·exact Classical.byContradiction λh3=>hx y aoY (List.le_antisymm (List.not_lt.1 c) (List.not_lt.1 h3))
   ·exact h1 z hz
theorem zc:∀l:apH bf,(l.Pairwise λa b=>bL a.ao≠bL b.ao)->(ib l).Pairwise λa b=>bL a.ao<bL b.ao
 |[],_=> .nil
 |x::l,h=>by
  obtain⟨h1,h2⟩:=List.pairwise_cons.1 h;unfold ib;exact VG x _ (zc l h2) λy hy=>λe=>h1 y ((oD l).subset hy) e.symm
theorem aaA:∀l:apH bf,(l.Pairwise λa b=>bL a.ao<bL b.ao)->tJ l=true
 |[],_=>rfl
 |[_],_=>rfl
 |x::y::l,h=>by
  obtain⟨h1,h2⟩:=List.pairwise_cons.1 h;unfold tJ;rw[Jp,apA (h1 y aoY),Bool.true_and];exact aaA (y::l) h2
def lT(x:bf):apH bf->apH bf
 |[]=>[x]
 |y::l=>bif vM y x then y::lT x l else x::y::l
theorem GO{α:Type}{v:apH α}{k:Nat}(h:k<=v.length):((v.take k).drop 0).length=k:=by rw[aps,List.length_take];omega
theorem ff{a b:Nat}(h:a<=b):Nat.ble a b=true:=by rw[Nat.ble_eq];exact h
theorem Xg(N:Nat)(v7:apH bf)(s:apI)(x:bf)(c:apH bf->apJ aN)(hb:(v7.length+1)*24<=140737488355328):∀(l:apH bf)(k:Nat),v7.drop k=l->k<=v7.length->AX N v7 s x c l k=c (v7.take k++lT ⟨s,x.ck⟩ l)
 |[],k,hd,hk=>by
  have hl:(v7.drop k).length=0:=by rw[hd];rfl
  have e1:((0:Int)<=(k:Int)):=Int.natCast_nonneg _;rw[AX,apA e1,apj,apA hk,GO hk,aoT,GO hk,hl,ff (by omega),ff (by omega),ff (by simp only[aoV,ao4];omega)];simp only[cond_true];rw[aps,hd,apd];rfl
 |y::l,k,hd,hk=>by
  have hl:(v7.drop k).length=l.length+1:=by rw[hd];rfl
  rw[List.length_drop]at hl;rw[AX,lT,vM];cases Op.bytesLess (bL y.ao) (bL s)with
  |true=>
   simp only[cond_true];have gy:v7.drop (k+1)=l:=by rw[<-List.drop_drop,hd];rfl
   rw[Xg N v7 s x c hb l (k+1) gy (by omega)];have ht:v7.take (k+1)=v7.take k++[y]:=by
     have hg:v7[k]?=some y:=by have:=congrArg (λl:apH bf=>l[0]?) hd;simpa using this
     rw[List.take_add_one,hg];rfl
   rw[ht,ao9];rfl
  |false=>
   simp only[cond_false];rw[apj,apA hk,GO hk,aoT,GO hk,List.length_drop,ff (by omega),ff (by omega),ff (by simp only[aoV,ao4];omega)];simp only[cond_true];rw[aps,hd,ao9];rfl
def wo(m:apH (apI×apI)):apH bf->apH bf->apH bf
 |[],a=>a
 |x::l,a=>wo m l (lT ⟨aF m x.ao,x.ck⟩ a)
theorem CT(x:bf):∀l,(lT x l).Perm (x::l)
 |[]=> .refl _
 |y::l=>by
  unfold lT;cases vM y x
  ·exact .refl _
  ·exact((CT x l).cons y).trans (.swap x y l)
theorem aad(m:apH (apI×apI)):∀(l a:apH bf),(wo m l a).Perm (l.map (λx=>(⟨aF m x.ao,x.ck⟩:bf))++a)
 |[],a=> .refl _
 |x::l,a=>by
  rw[wo,aph,List.cons_append];refine(aad m l _).trans ?_;refine(List.Perm.append_left _ (CT _ a)).trans ?_;exact List.perm_middle
theorem amI(N:Nat)(v2:aN)(F T:apH apI)(hT:T.length=F.length)(l:apH bf):∀(k:Nat)(a:apH bf),(l.length+a.length+1)*24<=140737488355328->wc N v2 ⟨F,T⟩ l k a=some ⟨v2.xK,wo (F.zip T) l a⟩:=by
 induction l with
 |nil=>intro k a _;rw[wc];rfl
 |cons x l ih=>
  intro k a hb;rw[aoV]at hb;rw[wo];have pL:(a.length+1)*24<=140737488355328:=apa (Nat.mul_le_mul_right 24 (Nat.succ_le_succ (Nat.le_add_left a.length (l.length+1)))) hb;have h2:(lT ⟨aF (F.zip T) x.ao,x.ck⟩ a).length=a.length+1:=(CT _ a).length_eq;have jS:(l.length+(lT ⟨aF (F.zip T) x.ao,x.ck⟩ a).length+1)*24<=140737488355328:=by
   generalize (lT ⟨aF (F.zip T) x.ao,x.ck⟩ a).length=q at h2 ⊢;subst h2;exact apa (Nat.le_of_eq (congrArg (·*24) (by rw[Nat.add_right_comm l.length 1 a.length,Nat.add_assoc l.length a.length 1]))) hb
  have h3:=ih (k+1) (lT ⟨aF (F.zip T) x.ao,x.ck⟩ a) jS;have h4:=Xg N a (aF (F.zip T) x.ao) x (λb=>wc N v2 ⟨F,T⟩ l (k+1) b) pL a 0 aps (Nat.zero_le _);rw[List.take_zero,List.nil_append]at h4;have h5:=tL N x.ao F T hT;generalize aF (F.zip T) x.ao=s at h3 h4 h5;generalize hc:(λb=>wc N v2 ⟨F,T⟩ l (k+1) b)=c at h4;have h6:c (lT ⟨s,x.ck⟩ a)=some ⟨v2.xK,wo (F.zip T) l (lT ⟨s,x.ck⟩ a)⟩:=by rw[<-hc];exact h3
  have h7:wc N v2 ⟨F,T⟩ (x::l) k a=Option.bind (od N ⟨F,T⟩ x.ao) λv8=>AX N a v8 x c a 0:=by rw[<-hc];exact wc.eq_2 ..
  simp only[h7,h5,aoR];exact h4.trans h3
theorem XH(x:bf):∀l:apH bf,(l.Pairwise λa b=>bL a.ao<bL b.ao)->(∀y∈l,bL y.ao≠bL x.ao)->(lT x l).Pairwise λa b=>bL a.ao<bL b.ao
 |[],_,_=>by simp [lT]
 |y::l,h,hx=>by
  obtain⟨h1,h2⟩:=List.pairwise_cons.1 h;unfold lT;rw[Jp];by_cases c:bL y.ao<bL x.ao
  ·rw[apA c];refine .cons (λz hz=> ?_) (XH x l h2 λz hz=>hx z (ao1 _ hz));rcases apm.1 ((CT x l).subset hz)with rfl|hz
   ·exact c
   ·exact h1 z hz
  ·rw[apB c];have c2:bL x.ao<bL y.ao:=Classical.byContradiction λh3=>hx y aoY (List.le_antisymm (List.not_lt.1 h3) (List.not_lt.1 c));refine .cons (λz hz=> ?_) h;rcases apm.1 hz with rfl|hz
   ·exact c2
   ·exact List.lt_trans c2 (h1 z hz)
theorem Zz(m:apH (apI×apI)):∀(l a:apH bf),(a.Pairwise λa b=>bL a.ao<bL b.ao)->((l.map (λx=>(⟨aF m x.ao,x.ck⟩:bf))++a).Pairwise λa b=>bL a.ao≠bL b.ao)->(wo m l a).Pairwise λa b=>bL a.ao<bL b.ao
 |[],a,h,_=>h
 |x::l,a,h,hn=>by
  rw[aph,List.cons_append]at hn;obtain⟨h1,h2⟩:=List.pairwise_cons.1 hn;rw[wo];refine Zz m l _ (XH _ a h λy hy e=>h1 y (List.mem_append_right _ hy) e.symm) ?_;have hp:(l.map (λx=>(⟨aF m x.ao,x.ck⟩:bf))++lT ⟨aF m x.ao,x.ck⟩ a).Perm (⟨aF m x.ao,x.ck⟩::(l.map (λx=>(⟨aF m x.ao,x.ck⟩:bf))++a)):=
    (List.Perm.append_left _ (CT _ a)).trans List.perm_middle
  exact(hp.pairwise_iff λh e=>h e.symm).2 hn
def dP(m:apH (apI×apI))(l:aN):aN:=⟨l.xK,ib (l.xL.map λx=>⟨aF m x.ao,x.ck⟩)⟩
def vE(m:apH (apI×apI))(l:aN):Prop:=(l.xL.map (λx=>(⟨aF m x.ao,x.ck⟩:bf))).Pairwise λa b=>bL a.ao≠bL b.ao
theorem FR(N:Nat)(F T:apH apI)(hT:T.length=F.length)(l:aN)(hd:vE (F.zip T) l)(hb:(l.xL.length+1)*24<=140737488355328):vw N ⟨F,T⟩ l=some (dP (F.zip T) l):=by
 unfold vw;rw[amI N l F T hT l.xL 0 [] (by simpa using hb)];unfold dP;have hp:=aad (F.zip T) l.xL [];rw[apd]at hp;have ha:=Zz (F.zip T) l.xL [] .nil (by rw[apd];exact hd);rw[Kj (λa b h1 h2=>List.lt_irrefl _ (List.lt_trans h1 h2)) _ _ (hp.trans (oD _).symm) ha (zc _ hd)]
theorem Yz(N:Nat)(v1:aN)(m:apH (apI×apI)):∀(l:apH bf)(k:Nat)(a:apH bf),(l.length+a.length)*24<=140737488355328->((a++l.map (λx=>(⟨aF m x.ao,x.ck⟩:bf))).Pairwise λa b=>bL a.ao≠bL b.ao)->vN N v1 m l k a.length a=some ⟨v1.xK,ib (a++l.map (λx=>(⟨aF m x.ao,x.ck⟩:bf)))⟩
 |[],_,a,hb,hn=>by
  rw[List.map_nil,apd]at hn ⊢;rw[vN];unfold RH;rw[show Nat.beq a.length a.length=true from Nat.beq_refl _,show Nat.blt a.length 4611686018427387904=true from by rw[Nat.blt_eq];simp at hb;omega,aaA _ (zc a hn)];simp only[Bool.and_true,cond_true,aoR];rw[(oD a).length_eq,show Nat.beq a.length a.length=true from Nat.beq_refl _];rfl
 |x::l,k,a,hb,hn=>by
  rw[aoV]at hb;rw[vN,zX,aoR,show Nat.beq a.length a.length=true from Nat.beq_refl _,ff (by omega)];simp only[cond_true];have:=Yz N v1 m l (k+1) (a++[⟨aF m x.ao,x.ck⟩]) (by rw[aoT,aoV,ao4];omega) (by rw[ao9];exact hn);rw[aoT,aoV,ao4,ao9]at this;exact this
theorem Ez(N:Nat)(m v3:apH (apI×apI))(l:aN)(hd:vE m l)(hb:(l.xL.length+1)*24<=140737488355328):tN N l m v3=some (dP m l):=by
 unfold tN;exact Yz N l m l.xL 0 [] (by simp;omega) hd
def iK(m:apH (apI×apI))(l:aN):Prop:=vE m l/\(l.xL.length+1)*24<=140737488355328
def lO(m:apH (apI×apI))(a:bV):bV:=⟨aF m a.ao,dP m a.cg⟩
theorem acU(N:Nat)(m v3:apH (apI×apI))(l:apH aN):∀(k:Nat)(a:apH aN),(∀x∈l,iK m x)->(a.length+l.length)*32<=140737488355328->Du N m v3 l k a=some (a++l.map (dP m)):=by
 induction l with
 |nil=>intro k a _ _;rw[Du,List.map_nil,apd]
 |cons x l ih=>
  intro k a h hb;rw[aoV]at hb;have h1:=h x aoY;have hc:Nat.ble ((a.length+1)*32) 140737488355328=true:=ff (by omega);have h2:=ih (k+1) (a++[dP m x]) (λy hy=>h y (ao1 _ hy)) (by rw[aoT,aoV,ao4];omega);rw[Du,Ez N m v3 x h1.1 h1.2,aoR,hc];rw[ao9]at h2;exact h2
theorem agN(N:Nat)(F T:apH apI)(hT:T.length=F.length)(l:apH aN):∀(k:Nat)(a:apH aN),(∀x∈l,iK (F.zip T) x)->(a.length+l.length)*32<=140737488355328->DH N ⟨F,T⟩ l k a=some (a++l.map (dP (F.zip T))):=by
 induction l with
 |nil=>intro k a _ _;rw[DH,List.map_nil,apd]
 |cons x l ih=>
  intro k a h hb;rw[aoV]at hb;have h1:=h x aoY;have hc:Nat.ble ((a.length+1)*32) 140737488355328=true:=ff (by omega);have h2:=ih (k+1) (a++[dP (F.zip T) x]) (λy hy=>h y (ao1 _ hy)) (by rw[aoT,aoV,ao4];omega);rw[DH,FR N F T hT x h1.1 h1.2,aoR,hc];rw[ao9]at h2;exact h2
theorem adn(N:Nat)(m v3:apH (apI×apI))(l:apH bV):∀(k:Nat)(a:apH bV),(∀x∈l,iK m x.cg)->(a.length+l.length)*48<=140737488355328->C8 N m v3 l k a=some (a++l.map (lO m)):=by
 induction l with
 |nil=>intro k a _ _;rw[C8,List.map_nil,apd]
 |cons x l ih=>
  intro k a h hb;rw[aoV]at hb;have h1:=h x aoY;have hc:Nat.ble ((a.length+1)*48) 140737488355328=true:=ff (by omega);have h2:=ih (k+1) (a++[lO m x]) (λy hy=>h y (ao1 _ hy)) (by rw[aoT,aoV,ao4];omega);rw[C8,zX,aoR,Ez N m v3 x.cg h1.1 h1.2,aoR,hc];rw[ao9]at h2;exact h2
theorem alA(N:Nat)(F T:apH apI)(hT:T.length=F.length)(l:apH bV):∀(k:Nat)(a:apH bV),(∀x∈l,iK (F.zip T) x.cg)->(a.length+l.length)*48<=140737488355328->Cn N ⟨F,T⟩ l k a=some (a++l.map (lO (F.zip T))):=by
 induction l with
 |nil=>intro k a _ _;rw[Cn,List.map_nil,apd]
 |cons x l ih=>
  intro k a h hb;rw[aoV]at hb;have h1:=h x aoY;have hc:Nat.ble ((a.length+1)*48) 140737488355328=true:=ff (by omega);have h2:=ih (k+1) (a++[lO (F.zip T) x]) (λy hy=>h y (ao1 _ hy)) (by rw[aoT,aoV,ao4];omega);rw[Cn,tL N x.ao F T hT,aoR,FR N F T hT x.cg h1.1 h1.2,aoR,hc];rw[ao9]at h2;exact h2
theorem abJ(N:Nat)(m v3:apH (apI×apI))(l:apH aN)(h:∀x∈l,iK m x)(hb:l.length*32<=140737488355328):EL N l m v3=some (l.map (dP m)):=by
 unfold EL;rw[acU N m v3 l 0 [] h (by simpa using hb),List.nil_append]
theorem Zw(N:Nat)(F T:apH apI)(hT:T.length=F.length)(l:apH aN)(h:∀x∈l,iK (F.zip T) x)(hb:l.length*32<=140737488355328):GH N ⟨F,T⟩ l=some (l.map (dP (F.zip T))):=by
 unfold GH;rw[agN N F T hT l 0 [] h (by simpa using hb),List.nil_append]
theorem Ux(N:Nat)(m v3:apH (apI×apI))(l:apH bV)(h:∀x∈l,iK m x.cg)(hb:l.length*48<=140737488355328):FJ N l m v3=some (l.map (lO m)):=by
 unfold FJ;rw[adn N m v3 l 0 [] h (by simpa using hb),List.nil_append]
theorem TP(N:Nat)(F T:apH apI)(hT:T.length=F.length)(l:apH bV)(h:∀x∈l,iK (F.zip T) x.cg)(hb:l.length*48<=140737488355328):Fs N ⟨F,T⟩ l=some (l.map (lO (F.zip T))):=by
 unfold Fs;rw[alA N F T hT l 0 [] h (by simpa using hb),List.nil_append]
def Gg(m:apH (apI×apI))(i:bu):Prop:=iK m i.aQ/\(∀x∈i.bG,iK m x)/\i.bG.length*32<=140737488355328
def uP(m t:apH (apI×apI))(i:bu):bu:=⟨dP m i.aQ,aF t i.bH,i.bG.map (dP m)⟩
theorem acM(N:Nat)(m t:apH (apI×apI))(hE:aF t (bs [])=bs [])(l:apH bu):∀(k:Nat)(a:apH bu),(∀x∈l,Gg m x)->(a.length+l.length)*72<=140737488355328->yq N m t l k a=some (a++l.map (uP m t)):=by
 induction l with
 |nil=>intro k a _ _;rw[yq,List.map_nil,apd]
 |cons x l ih=>
  intro k a h hb;rw[aoV]at hb;have h1:=h x aoY;have hc:Nat.ble ((a.length+1)*72) 140737488355328=true:=ff (by omega);have h2:=ih (k+1) (a++[uP m t x]) (λy hy=>h y (ao1 _ hy)) (by rw[aoT,aoV,ao4];omega);rw[ao9]at h2;rw[yq,Ez N m t x.aQ h1.1.1 h1.1.2,aoR,abJ N m t x.bG h1.2.1 h1.2.2,aoR];cases e:bL x.bH==bL (bs [])with
  |true=>
   have e1:x.bH=bs []:=iJ (by simpa using e);simp only[cond_true];unfold D6;rw[hc];have h3:uP m t x=⟨dP m x.aQ,bs [],x.bG.map (dP m)⟩:=by unfold uP;rw[e1,hE]
   rw[h3]at h2;rw[aph,h3];exact h2
  |false=>
   simp only[cond_false];rw[zX,aoR];unfold D6;rw[hc];exact h2
theorem adv(N:Nat)(F T A B:apH apI)(hT:T.length=F.length)(hB:B.length=A.length)(l:apH bu):∀(k:Nat)(a:apH bu),(∀x∈l,Gg (F.zip T) x)->(a.length+l.length)*72<=140737488355328->CD N ⟨F,T⟩ ⟨A,B⟩ l k a=some (a++l.map (uP (F.zip T) (A.zip B))):=by
 induction l with
 |nil=>intro k a _ _;rw[CD,List.map_nil,apd]
 |cons x l ih=>
  intro k a h hb;rw[aoV]at hb;have h1:=h x aoY;have hc:Nat.ble ((a.length+1)*72) 140737488355328=true:=ff (by omega);have h2:=ih (k+1) (a++[uP (F.zip T) (A.zip B) x]) (λy hy=>h y (ao1 _ hy)) (by rw[aoT,aoV,ao4];omega);rw[ao9]at h2;rw[CD,FR N F T hT x.aQ h1.1.1 h1.1.2,aoR,tL N x.bH A B hB,aoR,Zw N F T hT x.bG h1.2.1 h1.2.2,aoR,hc];exact h2
def dc(f:apI->apI)(l:aN):aN:=⟨l.xK,ib (l.xL.map λx=>⟨f x.ao,x.ck⟩)⟩
def lq(f g:apI->apI)(i:bu):bu:=⟨dc f i.aQ,g i.bH,i.bG.map (dc f)⟩
mutual
def du(f g:apI->apI):ar->ar
 |⟨o,n,v,t,l,i,a⟩=>⟨o,g n,v,t,dc f l,i.map (lq f g),Ht f g a⟩
def Ht(f g:apI->apI):apH ar->apH ar
 |[]=>[]
 |e::l=>du f g e::Ht f g l
end
theorem Zn(f g:apI->apI):∀l:apH ar,Ht f g l=l.map (du f g)
 |[]=>rfl
 |e::l=>by rw[Ht,Zn f g l];rfl
theorem kx(f g:apI->apI)(e:ar):du f g e=⟨e.aJ,g e.ao,e.dK,e.aM,dc f e.aQ,e.xIdx.map (lq f g),e.bk.map (du f g)⟩:=by
 cases e
 rw[du,Zn]
structure OkN(m t:List (ByteArray×ByteArray))(e:ar):Prop where
 eW:iK m e.aQ
 idx:∀i∈e.xIdx,Gg m i
 li:e.xIdx.length*72<=140737488355328
 la:e.bk.length*160<=140737488355328
 nm:e.aJ≠3->aF t e.ao=e.ao
def uf(m t:apH (apI×apI))(e:ar):Prop:=∀y∈cy e,OkN m t y
theorem uf.arg{m t:apH (apI×apI)}{e x:ar}(h:uf m t e)(hx:x∈e.bk):uf m t x:=λy hy=>h y (zl hx hy)
theorem aki(N:Nat)(v1:ar)(v6:apI)(v4:aN)(v5:apH bu)(rec:ar->apH (apI×apI)->apH (apI×apI)->apJ ar)(m t:apH (apI×apI))(f:ar->ar)(l:apH ar):∀(k:Nat)(a:apH ar),(∀x∈l,rec x m t=some (f x))->(a.length+l.length)*160<=140737488355328->
 Cy N v1 v6 v4 v5 rec m t l k a=some ⟨v1.aJ,v6,v1.dK,v1.aM,v4,v5,a++l.map f⟩:=by
 induction l with
 |nil=>intro k a _ _;rw[Cy,List.map_nil,apd]
 |cons x l ih=>
  intro k a h hb;rw[aoV]at hb;have hc:Nat.ble ((a.length+1)*160) 140737488355328=true:=ff (by omega);have h2:=ih (k+1) (a++[f x]) (λy hy=>h y (ao1 _ hy)) (by rw[aoT,aoV,ao4];omega);rw[ao9]at h2;rw[Cy,h x aoY,aoR,hc];exact h2
theorem alo(N:Nat)(v3:ar)(v5:apI)(v4:aN)(v6:apH bu)(rec:dN->dN->ar->apJ ar)(m t:dN)(f:ar->ar)(l:apH ar):∀(k:Nat)(a:apH ar),(∀x∈l,rec m t x=some (f x))->(a.length+l.length)*160<=140737488355328->
 Ci N v3 v5 v4 v6 rec m t l k a=some ⟨v3.aJ,v5,v3.dK,v3.aM,v4,v6,a++l.map f⟩:=by
 induction l with
 |nil=>intro k a _ _;rw[Ci,List.map_nil,apd]
 |cons x l ih=>
  intro k a h hb;rw[aoV]at hb;have hc:Nat.ble ((a.length+1)*160) 140737488355328=true:=ff (by omega);have h2:=ih (k+1) (a++[f x]) (λy hy=>h y (ao1 _ hy)) (by rw[aoT,aoV,ao4];omega);rw[ao9]at h2;rw[Ci,h x aoY,aoR,hc];exact h2
theorem UG(N:Nat)(m t:apH (apI×apI))(hE:aF t (bs [])=bs []):∀(d:Nat)(e:ar),SizeOf.sizeOf e<d->uf m t e->qk N d e m t=some (du (aF m) (aF t) e)
 |0,_,h,_=>absurd h (apk _)
 |d+1,e,h,hk=>by
  have hn:=hk e aoY;have ot:∀x∈e.bk,qk N d x m t=some (du (aF m) (aF t) x):=λx hx=>UG N m t hE d x (by have:=qc hx;omega) (hk.arg hx);have hL:=λv6=>aki N e v6 (dP m e.aQ) (e.xIdx.map (uP m t)) (qk N d) m t (du (aF m) (aF t)) e.bk 0 [] ot (by have:=hn.la;simpa using this);have hI:=acM N m t hE e.xIdx 0 [] hn.idx (by have:=hn.li;simpa using this);rw[List.nil_append]at hI;rw[qk,Ez N m t e.aQ hn.eW.1 hn.eW.2,aoR];unfold RP;rw[hI,aoR,kx];cases h3:e.aJ==3with
  |true=>
   simp only[cond_true];rw[zX,aoR];unfold Eg;rw[hL];rfl
  |false=>
   simp only[cond_false];unfold Eg;rw[hL,hn.nm (by simpa using h3)];rfl
theorem YJ(N:Nat)(F T A B:apH apI)(hT:T.length=F.length)(hB:B.length=A.length):∀(d:Nat)(e:ar),SizeOf.sizeOf e<d->uf (F.zip T) (A.zip B) e->tZ N d ⟨F,T⟩ ⟨A,B⟩ e=some (du (aF (F.zip T)) (aF (A.zip B)) e)
 |0,_,h,_=>absurd h (apk _)
 |d+1,e,h,hk=>by
  have hn:=hk e aoY;have ot:∀x∈e.bk,tZ N d ⟨F,T⟩ ⟨A,B⟩ x=some (du (aF (F.zip T)) (aF (A.zip B)) x):=λx hx=>YJ N F T A B hT hB d x (by have:=qc hx;omega) (hk.arg hx);have hL:=alo N e (aF (A.zip B) e.ao) (dP (F.zip T) e.aQ) (e.xIdx.map (uP (F.zip T) (A.zip B))) (tZ N d) ⟨F,T⟩ ⟨A,B⟩ (du (aF (F.zip T)) (aF (A.zip B))) e.bk 0 [] ot (by have:=hn.la;simpa using this);have hI:=adv N F T A B hT hB e.xIdx 0 [] hn.idx (by have:=hn.li;simpa using this);rw[List.nil_append]at hI;rw[tZ,FR N F T hT e.aQ hn.eW.1 hn.eW.2,aoR,tL N e.ao A B hB,aoR];unfold N3;rw[hI,aoR,kx,hL];rfl
def uQ:Nat->apI
 |0=>bs [48]|1=>bs [49]|2=>bs [50]|3=>bs [51]|4=>bs [52]|5=>bs [53]|6=>bs [54]|7=>bs [55]|8=>bs [56]|9=>bs [57]|10=>bs [49,48]|11=>bs [49,49]|_=>bs []
def gD(b:apI)(k:Nat):apI:=b++uQ k
theorem Qe{k:Nat}(h:k<12):k=0\/k=1\/k=2\/k=3\/k=4\/k=5\/k=6\/k=7\/k=8\/k=9\/k=10\/k=11:=by omega
theorem adZ(N:Nat){k:Nat}(h:k<12):y0 N (k:Int)=some (uQ k):=by
 rcases Qe h with rfl|rfl|rfl|rfl|rfl|rfl|rfl|rfl|rfl|rfl|rfl|rfl<;>kernel_rfl
theorem ajc(n:Nat){k:Nat}(h:k<12):nO (n+10) (Int64.ofInt (k:Int))=some (uQ k):=by
 rcases Qe h with rfl|rfl|rfl|rfl|rfl|rfl|rfl|rfl|rfl|rfl|rfl|rfl<;>kernel_rfl
theorem X5{k:Nat}(h:k<12):(uQ k).size<=2:=by
 rcases Qe h with rfl|rfl|rfl|rfl|rfl|rfl|rfl|rfl|rfl|rfl|rfl|rfl<;>decide
theorem Ia(N:Nat){b:apI}(hb:b.size<=100){k:Nat}(h:k<12):xB N b (k:Int)=some (gD b k):=by
 have:=X5 h;unfold xB;rw[adZ N h,aoR,ff (by omega)];rfl
theorem ac2{N:Nat}(hN:10<N){b:apI}(hb:b.size<=100){k:Nat}(h:k<12):GV N b (k:Int)=some (gD b k):=by
 have:=X5 h;obtain⟨n,rfl⟩:∃n,N=n+10:=⟨N-10,by omega⟩;unfold GV;rw[DW (by omega),BEq.rfl,cond_true,ajc n h,aoR,ff (by omega)];rfl
def nums(b:apI):Nat->Nat->apH apI
 |_,0=>[]
 |k,n+1=>gD b k::nums b (k+1) n
theorem sa(b:apI):∀n k:Nat,(nums b k n).length=n
 |0,_=>rfl
 |n+1,k=>by rw[nums,aoV,sa b n]
def dR(b:apI)(k:Nat)(l:apH apI):apH (apI×apI):=l.zip (nums b k l.length)
theorem GP(b:apI)(k:Nat)(x:apI)(l:apH apI):dR b k (x::l)=(x,gD b k)::dR b (k+1) l:=rfl
theorem z8(b:apI)(k:Nat)(l:apH apI):(dR b k l).map (·.1)=l:=by
 unfold dR;rw[List.map_fst_zip];rw[sa];exact ao3 _
theorem AY(b:apI)(k:Nat)(l:apH apI):(dR b k l).map (·.2)=nums b k l.length:=by
 unfold dR;rw[List.map_snd_zip];rw[sa];exact ao3 _
theorem agT(b:apI)(k:Nat)(l:apH apI):(dR b k l).length=l.length:=by
 rw[<-aoX (·.1),z8]
theorem V5{N:Nat}(hN:10<N)(v:dN){b:apI}(hb:b.size<=100):∀(l:apH apI)(k:Nat)(a c:apH apI),k+l.length<=12->(a.length+l.length+v.bH.length)*16<=140737488355328->(c.length+l.length+v.yF.length)*16<=140737488355328->
 Fp N v b l k a c=some ⟨a++(l++v.bH),c++(nums b k l.length++v.yF)⟩
 |[],k,a,c,_,h1,h2=>by
  rw[ao4]at h1 h2;rw[Fp,ff (by omega),ff (by omega)];rfl
 |x::l,k,a,c,hk,h1,h2=>by
  rw[aoV]at hk h1 h2;have ih:=V5 hN v hb l (k+1) (a++[x]) (c++[gD b k]) (by omega) (by rw[aoT,List.length_singleton];omega) (by rw[aoT,List.length_singleton];omega);rw[ao9,ao9]at ih;rw[Fp,ff (by omega),ac2 hN hb (by omega),aoR,ff (by omega)];exact ih
theorem EC{N:Nat}(hN:10<N)(F T:apH apI){b:apI}(hb:b.size<=100)(l:apH apI)(hl:l.length<=12)(h1:F.length<=100)(h2:T.length<=100):ry N ⟨F,T⟩ l b=some ⟨l++F,nums b 0 l.length++T⟩:=by
 unfold ry;rw[V5 hN ⟨F,T⟩ hb l 0 [] [] (by omega) (by simp only[ao4];omega) (by simp only[ao4];omega)];rfl
theorem TR(b:apI)(l F T:apH apI):(l++F).zip (nums b 0 l.length++T)=dR b 0 l++F.zip T:=List.zip_append (sa b l.length 0).symm
theorem Zd(N:Nat)(p:aG)(v7:apH (apI×apI)):∀(l:apH aX)(k:Nat)(a:apH (apI×apI)),k+l.length<=12->a.length+l.length<=1000->
 Cc N p v7 l k a=uv N ((dR (bs [100]) k (l.map (·.ao))).reverse++a) p v7 p.az 0 []
 |[],k,a,_,_=>by rw[Cc];rfl
 |x::l,k,a,hk,h=>by
  rw[aoV]at hk h;rw[Cc,Ia N (by decide) (by omega),aoR,show Nat.blt a.length 9223372036854775807=true from ff (by omega)];have ih:=Zd N p v7 l (k+1) ((x.ao,gD (bs [100]) k)::a) (by omega) (by rw[aoV];omega);rw[aph,GP,List.reverse_cons,ao9];exact ih
theorem abq(N:Nat)(p:aG)(v7:apH (apI×apI))(hd:p.aw.length<=12):∀(l:apH cf)(k:Nat)(a:apH (apI×apI)),k+l.length<=12->a.length+l.length<=500->
 E1 N p v7 l k a=uv N ((dR (bs [100]) 0 (p.aw.map (·.ao))).reverse++((dR (bs [112]) k (l.map (·.ao))).reverse++a)) p v7 p.az 0 []
 |[],k,a,_,h=>by rw[E1,Zd N p v7 p.aw 0 a (by omega) (by rw[ao4]at h;omega)];rfl
 |x::l,k,a,hk,h=>by
  rw[aoV]at hk h;rw[E1,Ia N (by decide) (by omega),aoR,show Nat.blt a.length 9223372036854775807=true from ff (by omega)];have ih:=abq N p v7 hd l (k+1) ((x.ao,gD (bs [112]) k)::a) (by omega) (by rw[aoV];omega);rw[aph,GP,List.reverse_cons,ao9];exact ih
theorem abI(N:Nat)(p:aG)(hq:p.aE.length<=12)(hd:p.aw.length<=12):∀(l:apH apI)(k:Nat)(a:apH (apI×apI)),k+l.length<=12->a.length+l.length<=500->
 zM N p l k a=uv N ((dR (bs [100]) 0 (p.aw.map (·.ao))).reverse++(dR (bs [112]) 0 (p.aE.map (·.ao))).reverse) p ((dR (bs [115]) k l).reverse++a) p.az 0 []
 |[],k,a,_,h=>by rw[zM,abq N p a hd p.aE 0 [] (by omega) (by rw[ao4];omega),apd];rfl
 |x::l,k,a,hk,h=>by
  rw[aoV]at hk h;rw[zM,Ia N (by decide) (by omega),aoR,show Nat.blt a.length 9223372036854775807=true from ff (by omega)];have ih:=abI N p hq hd l (k+1) ((x,gD (bs [115]) k)::a) (by omega) (by rw[aoV];omega);rw[GP,List.reverse_cons,ao9];exact ih
theorem aaN(N:Nat)(d:aX)(t:apH (apI×apI)):∀(l:apH apI)(k:Nat)(a:apH (apI×apI)),k+l.length<=12->a.length+l.length<=500->
 vQ N d t l k a=vQ N d t [] 0 ((dR (bs [105]) k l).reverse++a)
 |[],k,a,_,_=>by rw[vQ];rfl
 |x::l,k,a,hk,h=>by
  rw[aoV]at hk h;rw[vQ.eq_2,Ia N (by decide) (by omega),aoR,show Nat.blt a.length 9223372036854775807=true from ff (by omega)];have ih:=aaN N d t l (k+1) ((x,gD (bs [105]) k)::a) (by omega) (by rw[aoV];omega);rw[GP,List.reverse_cons,ao9];exact ih
abbrev Nm:=apH (apI×apI)
def mS(a:apI)(p:aG):Nm:=dR a 0 p.az
def mT(b c:apI)(p:aG):Nm:=dR b 0 (p.aE.map (·.ao))++dR c 0 (p.aw.map (·.ao))
def mV(a d:apI)(p:aG)(f:aX):Nm:=dR d 0 (dM f)++mS a p
def iD(f:apI->apI)(a:bV):bV:=⟨f a.ao,dc f a.cg⟩
def fU(f g:apI->apI)(d:aX):aX:=⟨g d.ao,d.aM,d.aO.map (iD f),d.aU.map (iD f),d.cr,du f g d.bR⟩
def kF(f g:apI->apI)(v:aX->apI->apI)(p:aG):aG:=
 ⟨p.az.map f,p.cd.map λc=>⟨dc f c.aQ,c.hY⟩,p.aE.map λx=>⟨g x.ao,x.aM,x.aO.map (dc f)⟩,p.aw.map λd=>fU (v d) g d,p.bW.map g⟩
def cv(a b c d:apI)(p:aG):aG:=kF (aF (mS a p)) (aF (mT b c p)) (λf=>aF (mV a d p f)) p
structure BE(N:Nat)(V T:Nm)(f:aX):Prop where
 ou:∀x∈f.aO,iK V x.cg
 red:∀x∈f.aU,iK V x.cg
 len:f.aO.length<=6/\f.aU.length<=6
 body:uf V T f.bR
 size:SizeOf.sizeOf f.bR<N
structure BK(N:Nat)(S T:Nm)(V:aX->Nm)(p:aG):Prop where
 s:p.az.length<=12
 w:p.cd.length<=12
 q:p.aE.length<=12
 d:p.aw.length<=12
 o:p.bW.length<=12
 W:∀c∈p.cd,iK S c.aQ
 P:∀x∈p.aE,(∀l∈x.aO,iK S l)/\x.aO.length<=12
 D:∀f∈p.aw,BE N (V f) T f
theorem wU{m m':Nm}(h:aF m=aF m'){l:aN}(k:iK m l):iK m' l:=by
 unfold iK vE at k ⊢;rw[<-h];exact k
theorem ajX{m m':Nm}(h:aF m=aF m'){i:bu}(k:Gg m i):Gg m' i:=⟨wU h k.1,λx hx=>wU h (k.2.1 x hx),k.2.2⟩
theorem am4{m m' t t':Nm}(h:aF m=aF m')(h':aF t=aF t'){e:ar}(k:uf m t e):uf m' t' e:=λy hy=>
 ⟨wU h (k y hy).eW,λi hi=>ajX h ((k y hy).idx i hi),(k y hy).li,(k y hy).la,by rw[<-h'];exact(k y hy).nm⟩
theorem ahI{N:Nat}{m m' t t':Nm}(h:aF m=aF m')(h':aF t=aF t'){f:aX}(k:BE N m t f):BE N m' t' f:=
 ⟨λx hx=>wU h (k.ou x hx),λx hx=>wU h (k.red x hx),k.len,am4 h h' k.body,k.size⟩
theorem aeO{N:Nat}{S S' T T':Nm}{V V':aX->Nm}{p:aG}(h:aF S=aF S')(h':aF T=aF T')(hv:∀f∈p.aw,aF (V f)=aF (V' f))(k:BK N S T V p):BK N S' T' V' p:=
 ⟨k.s,k.w,k.q,k.d,k.o,λc hc=>wU h (k.W c hc),λx hx=>⟨λl hl=>wU h ((k.P x hx).1 l hl),(k.P x hx).2⟩,λf hf=>ahI (hv f hf) h' (k.D f hf)⟩
theorem JW:∀(m:Nm)(s d:apI),s∈m.map (·.1)->eQ m s d=aF m s
 |(k,v)::l,s,d,h=>by
  rw[eQ,aF];rw[aph,apm]at h;cases e:bL k==bL s with
  |true=>rfl
  |false=>
   refine JW l s d (h.resolve_left λh=> ?_);rw[h,BEq.rfl]at e;cases e
theorem ahC(N:Nat)(f:aX)(S T:Nm)(hE:aF T (bs [])=bs [])(hS:S.length<=100)(h:BE N ((dR (bs [105]) 0 (dM f)).reverse++S) T f):KC N f S T=some (fU (aF ((dR (bs [105]) 0 (dM f)).reverse++S)) (aF T) f):=by
 have hl:=h.len;have hv:(dM f).length=f.aO.length+f.aU.length:=by unfold dM;rw[aoX,aoT]
 unfold KC;rw[Yw N f (by omega),aoR];show vQ N f T (dM f) 0 S=_;rw[aaN N f T (dM f) 0 S (by omega) (by omega)];generalize hV:(dR (bs [105]) 0 (dM f)).reverse++S=V at h;rw[vQ,zX,aoR,Ux N V T f.aO h.ou (by omega),aoR,Ux N V T f.aU h.red (by omega),aoR];unfold Sg;rw[UG N V T hE N f.bR h.size h.body];rfl
section
variable {N:Nat} {p:aG} {S T:Nm}
theorem alF(q:aG)(l:apH apI):∀(k:Nat)(a:apH apI),(∀s∈l,s∈T.map (·.1))->a.length+l.length<=1000->
 Af N q.az q.cd q.aE q.aw T l k a=some (⟨q.az,q.cd,q.aE,q.aw,a++l.map (aF T)⟩,0):=by
 induction l with
 |nil=>intro k a _ _;rw[Af,List.map_nil,apd]
 |cons x l ih=>
  intro k a h hb;rw[aoV]at hb;have h2:=ih (k+1) (a++[aF T x]) (λy hy=>h y (ao1 _ hy)) (by rw[aoT,aoV,ao4];omega);rw[ao9]at h2;rw[Af,JW T x _ (h x aoY),ff (by omega)];exact h2
theorem afs(q:aG)(hE:aF T (bs [])=bs [])(hS:S.length<=100)(l:apH aX):∀(k:Nat)(a:apH aX),(∀f∈l,BE N ((dR (bs [105]) 0 (dM f)).reverse++S) T f)->a.length+l.length<=1000->
 A1 N q.az q.cd q.aE T p S l k a=Af N q.az q.cd q.aE (a++l.map λf=>fU (aF ((dR (bs [105]) 0 (dM f)).reverse++S)) (aF T) f) T p.bW 0 []:=by
 induction l with
 |nil=>intro k a _ _;rw[A1,List.map_nil,apd]
 |cons x l ih=>
  intro k a h hb;rw[aoV]at hb;have h2:=ih (k+1) (a++[fU (aF ((dR (bs [105]) 0 (dM x)).reverse++S)) (aF T) x]) (λy hy=>h y (ao1 _ hy)) (by rw[aoT,aoV,ao4];omega);rw[ao9]at h2;rw[A1,ahC N x S T hE hS (h x aoY),aoR,ff (by omega)];exact h2
theorem aof(q:aG)(l:apH cf):∀(k:Nat)(a:apH cf),(∀x∈l,x.ao∈T.map (·.1))->(∀x∈l,(∀y∈x.aO,iK S y)/\x.aO.length<=12)->a.length+l.length<=1000->
 Az N q.az q.cd T p S l k a=A1 N q.az q.cd (a++l.map λx=>(⟨aF T x.ao,x.aM,x.aO.map (dc (aF S))⟩:cf)) T p S p.aw 0 []:=by
 induction l with
 |nil=>intro k a _ _ _;rw[Az,List.map_nil,apd]
 |cons x l ih=>
  intro k a h h' hb;rw[aoV]at hb;have hx:=h' x aoY;have h2:=ih (k+1) (a++[⟨aF T x.ao,x.aM,x.aO.map (dc (aF S))⟩]) (λy hy=>h y (ao1 _ hy)) (λy hy=>h' y (ao1 _ hy)) (by rw[aoT,aoV,ao4];omega);rw[ao9]at h2;rw[Az,abJ N S T x.aO hx.1 (by omega),aoR,JW T x.ao _ (h x aoY),ff (by omega)];exact h2
theorem afJ(q:aG)(l:apH cz):∀(k:Nat)(a:apH cz),(∀c∈l,iK S c.aQ)->a.length+l.length<=1000->
 zQ N q.az T p S l k a=Az N q.az (a++l.map λc=>(⟨dc (aF S) c.aQ,c.hY⟩:cz)) T p S p.aE 0 []:=by
 induction l with
 |nil=>intro k a _ _;rw[zQ,List.map_nil,apd]
 |cons x l ih=>
  intro k a h hb;rw[aoV]at hb;have hx:=h x aoY;have h2:=ih (k+1) (a++[⟨dc (aF S) x.aQ,x.hY⟩]) (λy hy=>h y (ao1 _ hy)) (by rw[aoT,aoV,ao4];omega);rw[ao9]at h2;rw[zQ,Ez N S T x.aQ hx.1 hx.2,aoR,ff (by omega)];exact h2
theorem aoa(l:apH apI):∀(k:Nat)(a:apH apI),(∀s∈l,s∈S.map (·.1))->a.length+l.length<=1000->
 uv N T p S l k a=zQ N (a++l.map (aF S)) T p S p.cd 0 []:=by
 induction l with
 |nil=>intro k a _ _;rw[uv,List.map_nil,apd]
 |cons x l ih=>
  intro k a h hb;rw[aoV]at hb;have h2:=ih (k+1) (a++[aF S x]) (λy hy=>h y (ao1 _ hy)) (by rw[aoT,aoV,ao4];omega);rw[ao9]at h2;rw[uv,JW S x _ (h x aoY),ff (by omega)];exact h2
theorem amL(hE:aF T (bs [])=bs [])(hS:S.length<=100)(h:BK N S T (λf=>(dR (bs [105]) 0 (dM f)).reverse++S) p)(h1:∀s∈p.az,s∈S.map (·.1))(h2:∀x∈p.aE,x.ao∈T.map (·.1))(h3:∀s∈p.bW,s∈T.map (·.1)):
 uv N T p S p.az 0 []=some (kF (aF S) (aF T) (λf=>aF ((dR (bs [105]) 0 (dM f)).reverse++S)) p,0):=by
 have l1:=h.s;have l2:=h.w;have l3:=h.q;have l4:=h.d;have l5:=h.o;have k4:=aoa (N:=N) (T:=T) (p:=p) p.az 0 [] h1 (by rw[ao4];omega)
 let q:aG:=kF (aF S) (aF T) (λf=>aF ((dR (bs [105]) 0 (dM f)).reverse++S)) p
 have k5:=afJ (N:=N) (T:=T) (p:=p) q p.cd 0 [] h.W (by rw[ao4];omega);have k6:=aof (N:=N) (T:=T) (p:=p) q p.aE 0 [] h2 h.P (by rw[ao4];omega);have k7:=afs (N:=N) (T:=T) (p:=p) q hE hS p.aw 0 [] h.D (by rw[ao4];omega);have k8:=alF (N:=N) (T:=T) q p.bW 0 [] h3 (by rw[ao4];omega);exact k4.trans (k5.trans (k6.trans (k7.trans k8)))
end
section
variable {N:Nat} {p:aG} {F G A B:apH apI} {sc:ij}
theorem ajn(q:aG)(hB:B.length=A.length)(l:apH apI):∀(k:Nat)(a:apH apI),a.length+l.length<=1000->
 zn N q.az q.cd q.aE q.aw ⟨A,B⟩ l k a=some ⟨q.az,q.cd,q.aE,q.aw,a++l.map (aF (A.zip B))⟩:=by
 induction l with
 |nil=>intro k a _;rw[zn,List.map_nil,apd]
 |cons x l ih=>
  intro k a hb;rw[aoV]at hb;have h2:=ih (k+1) (a++[aF (A.zip B) x]) (by rw[aoT,aoV,ao4];omega);rw[ao9]at h2;rw[zn,tL N x A B hB,aoR,ff (by omega)];exact h2
theorem aeq(q:aG)(hN:10<N)(hi:sc.nh.size<=100)(hG:G.length=F.length)(hF:F.length<=100)(hB:B.length=A.length)(l:apH aX):∀(k:Nat)(a:apH aX),(∀f∈l,BE N (dR sc.nh 0 (dM f)++F.zip G) (A.zip B) f)->a.length+l.length<=1000->
 y7 N q.az q.cd q.aE ⟨A,B⟩ p ⟨F,G⟩ sc l k a=zn N q.az q.cd q.aE (a++l.map λf=>fU (aF (dR sc.nh 0 (dM f)++F.zip G)) (aF (A.zip B)) f) ⟨A,B⟩ p.bW 0 []:=by
 induction l with
 |nil=>intro k a _ _;rw[y7,List.map_nil,apd]
 |cons x l ih=>
  intro k a h hb;rw[aoV]at hb;have hx:=h x aoY;have hl:=hx.len;have hv:(dM x).length=x.aO.length+x.aU.length:=by unfold dM;rw[aoX,aoT]
  have h2:=ih (k+1) (a++[fU (aF (dR sc.nh 0 (dM x)++F.zip G)) (aF (A.zip B)) x]) (λy hy=>h y (ao1 _ hy)) (by rw[aoT,aoV,ao4];omega);rw[ao9]at h2;have hT:(nums sc.nh 0 (dM x).length++G).length=(dM x++F).length:=by rw[aoT,aoT,sa,hG]
  have hz:=TR sc.nh (dM x) F G;rw[<-hz]at hx;rw[y7,LY N x (by omega),aoR];show(Option.bind (ry N ⟨F,G⟩ (dM x) sc.nh) _)=_;rw[EC hN F G hi (dM x) (by omega) hF (by omega),aoR,tL N x.ao A B hB,aoR,TP N _ _ hT x.aO hx.ou (by omega),aoR,TP N _ _ hT x.aU hx.red (by omega),aoR];unfold QD;rw[YJ N _ _ A B hT hB N x.bR hx.size hx.body,aoR,ff (by omega),hz];exact h2
theorem ahG(q:aG)(hG:G.length=F.length)(hB:B.length=A.length)(l:apH cf):∀(k:Nat)(a:apH cf),(∀x∈l,(∀y∈x.aO,iK (F.zip G) y)/\x.aO.length<=12)->a.length+l.length<=1000->
 zL N q.az q.cd ⟨A,B⟩ p ⟨F,G⟩ sc l k a=y7 N q.az q.cd (a++l.map λx=>(⟨aF (A.zip B) x.ao,x.aM,x.aO.map (dc (aF (F.zip G)))⟩:cf)) ⟨A,B⟩ p ⟨F,G⟩ sc p.aw 0 []:=by
 induction l with
 |nil=>intro k a _ _;rw[zL,List.map_nil,apd]
 |cons x l ih=>
  intro k a h' hb;rw[aoV]at hb;have hx:=h' x aoY;have h2:=ih (k+1) (a++[⟨aF (A.zip B) x.ao,x.aM,x.aO.map (dc (aF (F.zip G)))⟩]) (λy hy=>h' y (ao1 _ hy)) (by rw[aoT,aoV,ao4];omega);rw[ao9]at h2;rw[zL,tL N x.ao A B hB,aoR,Zw N F G hG x.aO hx.1 (by omega),aoR,ff (by omega)];exact h2
theorem aea(q:aG)(hG:G.length=F.length)(l:apH cz):∀(k:Nat)(a:apH cz),(∀c∈l,iK (F.zip G) c.aQ)->a.length+l.length<=1000->
 zR N q.az ⟨A,B⟩ p ⟨F,G⟩ sc l k a=zL N q.az (a++l.map λc=>(⟨dc (aF (F.zip G)) c.aQ,c.hY⟩:cz)) ⟨A,B⟩ p ⟨F,G⟩ sc p.aE 0 []:=by
 induction l with
 |nil=>intro k a _ _;rw[zR,List.map_nil,apd]
 |cons x l ih=>
  intro k a h hb;rw[aoV]at hb;have hx:=h x aoY;have h2:=ih (k+1) (a++[⟨dc (aF (F.zip G)) x.aQ,x.hY⟩]) (λy hy=>h y (ao1 _ hy)) (by rw[aoT,aoV,ao4];omega);rw[ao9]at h2;rw[zR,FR N F G hG x.aQ hx.1 hx.2,aoR,ff (by omega)];exact h2
theorem akE(hG:G.length=F.length)(l:apH apI):∀(k:Nat)(a:apH apI),a.length+l.length<=1000->
 FW N ⟨A,B⟩ p ⟨F,G⟩ sc l k a=zR N (a++l.map (aF (F.zip G))) ⟨A,B⟩ p ⟨F,G⟩ sc p.cd 0 []:=by
 induction l with
 |nil=>intro k a _;rw[FW,List.map_nil,apd]
 |cons x l ih=>
  intro k a hb;rw[aoV]at hb;have h2:=ih (k+1) (a++[aF (F.zip G) x]) (by rw[aoT,aoV,ao4];omega);rw[ao9]at h2;rw[FW,tL N x F G hG,aoR,ff (by omega)];exact h2
theorem ahf(v8:apH apI)(v3:dN)(l:apH aX):∀(k:Nat)(a:apH apI),a.length+l.length<=1000->
 ua N sc v8 p v3 l k a=ua N sc v8 p v3 [] 0 (a++l.map (·.ao)):=by
 induction l with
 |nil=>intro k a _;rw[ua,ua,List.map_nil,apd]
 |cons x l ih=>
  intro k a hb;rw[aoV]at hb;have h2:=ih (k+1) (a++[x.ao]) (by rw[aoT,aoV,ao4];omega);rw[ao9]at h2;rw[ua.eq_2,ff (by omega)];exact h2
theorem akg(v3:dN)(l:apH cf):∀(k:Nat)(a:apH apI),a.length+l.length<=1000->
 FO N sc p v3 l k a=ua N sc (a++l.map (·.ao)) p v3 p.aw 0 []:=by
 induction l with
 |nil=>intro k a _;rw[FO,List.map_nil,apd]
 |cons x l ih=>
  intro k a hb;rw[aoV]at hb;have h2:=ih (k+1) (a++[x.ao]) (by rw[aoT,aoV,ao4];omega);rw[ao9]at h2;rw[FO,ff (by omega)];exact h2
theorem aeQ(hN:10<N)(ha:sc.az.size<=100)(hb:sc.aE.size<=100)(hc:sc.aw.size<=100)(hd:sc.nh.size<=100)(h:BK N (mS sc.az p) (mT sc.aE sc.aw p) (mV sc.az sc.nh p) p):
 Bm N p sc=some (cv sc.az sc.aE sc.aw sc.nh p):=by
 have l1:=h.s;have l2:=h.w;have l3:=h.q;have l4:=h.d;have l5:=h.o;have hz:(⟨[],[]⟩:dN)=Eb:=rfl;have m1:(p.aw.map (·.ao)).length=p.aw.length:=aoX ..;have m2:(p.aE.map (·.ao)).length=p.aE.length:=aoX ..;unfold Bm;rw[<-hz,EC hN [] [] ha p.az l1 (Nat.zero_le _) (Nat.zero_le _),aoR,akg _ p.aE 0 [] (by rw[ao4];omega),ahf _ _ p.aw 0 [] (by rw[ao4];omega),List.nil_append,List.nil_append,apd,apd];rw[ua,<-hz,EC hN [] [] hc _ (by omega) (Nat.zero_le _) (Nat.zero_le _),aoR,apd,apd,EC hN _ _ hb _ (by omega) (by omega) (by rw[sa];omega),aoR];have hG:(nums sc.az 0 p.az.length).length=p.az.length:=sa ..;have hB:(nums sc.aE 0 (p.aE.map (·.ao)).length++nums sc.aw 0 (p.aw.map (·.ao)).length).length=(p.aE.map (·.ao)++p.aw.map (·.ao)).length:=by rw[aoT,aoT,sa,sa]
 have hT:mT sc.aE sc.aw p=(p.aE.map (·.ao)++p.aw.map (·.ao)).zip (nums sc.aE 0 (p.aE.map (·.ao)).length++nums sc.aw 0 (p.aw.map (·.ao)).length):=(TR _ _ _ _).symm;rw[hT]at h
 let q:aG:=cv sc.az sc.aE sc.aw sc.nh p
 have k3:=akE (N:=N) (p:=p) (sc:=sc) (A:=p.aE.map (·.ao)++p.aw.map (·.ao)) (B:=nums sc.aE 0 (p.aE.map (·.ao)).length++nums sc.aw 0 (p.aw.map (·.ao)).length) hG p.az 0 [] (by rw[ao4];omega);have k4:=aea (N:=N) (p:=p) (sc:=sc) (A:=p.aE.map (·.ao)++p.aw.map (·.ao)) (B:=nums sc.aE 0 (p.aE.map (·.ao)).length++nums sc.aw 0 (p.aw.map (·.ao)).length) q hG p.cd 0 [] h.W (by rw[ao4];omega);have k5:=ahG (N:=N) (p:=p) (sc:=sc) q hG hB p.aE 0 [] h.P (by rw[ao4];omega);have k6:=aeq (p:=p) (sc:=sc) q hN hd hG (by omega) hB p.aw 0 [] h.D (by rw[ao4];omega);have k7:=ajn (N:=N) q hB p.bW 0 [] (by rw[ao4];omega);rw[<-hT]at k5 k6 k7;exact k3.trans (k4.trans (k5.trans (k6.trans k7)))
end
set_option maxRecDepth 100000
structure bdX(x:bu):Prop where
 eW:lL 1000000 x.aQ
 at_:x.bG.length<=1000000
 qB:∀l∈x.bG,lL 1000000 l
structure bdN(e:ar):Prop where
 eW:lL 1000000 e.aQ
 idx:e.xIdx.length<=1000000
 each:∀x∈e.xIdx,bdX x
 args:e.bk.length<=1000000
def Rh(e:ar):Prop:=∀y∈cy e,bdN y
theorem Rh.ok{e:ar}(h:Rh e):po e:=λy hy=>
 ⟨apa (h y hy).eW (by decide),λx hx=>⟨apa ((h y hy).each x hx).eW (by decide),λl hl=>apa (((h y hy).each x hx).qB l hl) (by decide)⟩,apa (h y hy).args (by decide)⟩
end Go.Proofs.YtmkmibahjanejaaGreatDoor
