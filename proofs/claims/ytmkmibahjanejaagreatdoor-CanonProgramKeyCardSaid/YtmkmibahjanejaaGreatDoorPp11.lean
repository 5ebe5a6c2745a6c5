/-
  Part 11 of the proof: PK5, PK6, PAll, ValNames, ValNode, ValTree, ValTree2, ValidLaw, InVal1, InVal2, InVal3, InVal4, CnB, CnC, CnD, CnE, CnF, CnG.
-/
import Derived.Test.YtmkmibahjanejaaGreatDoorPp10
namespace Go.Proofs.YtmkmibahjanejaaGreatDoor
open Go.RowKit
set_option maxRecDepth 100000
set_option maxHeartbeats 0
set_option linter.unusedVariables false
def OB:dO:=⟨[],[]⟩
def zc5:aqx AV:=[(.d (.v (.slice none 0 0))),(.d (.v (.slice none 0 0)))]
def F0(N:Nat)(v1:dO)(v3:aqy):aqx aqy->Nat->(aqx aqy)->(aqx aqy)->aqz dO
 |[],_,v8,v9=>
  bif (Nat.ble ((v8.length+v1.bR.length)*16) 140737488355328)then
  bif (Nat.ble ((v9.length+v1.yF.length)*16) 140737488355328)then
  some (⟨(v8++v1.bR),(v9++v1.yF)⟩:dO)
  else none
  else none
 |v6::v7,v4,v8,v9=>
  bif (Nat.ble ((v8.length+1)*16) 140737488355328)then
  Option.bind (L6 N v3 (v4:Int)) λv10=>
  bif (Nat.ble ((v9.length+1)*16) 140737488355328)then
  (λbq fc=>F0 N v1 v3 v7 (v4+1) bq fc) (v8++[v6]) (v9++[v10])
  else none
  else none
def vT(N:Nat)(v1:dO)(v2:aqx aqy)(v3:aqy):aqz dO:=
 F0 N v1 v3 v2 0 [] []
theorem Jq{N v1 v2 v3}:KO 42 [(iB v1),(.d (.sl (b6 v2))),(aC v3)] iB (vT N v1 v2 v3):=
 fw Tryz.func42 (gA [[],[],[]] (li (λ_=>(nj 2 1 9 1 [] (.inr (by kernel_rfl)) ·)) (li (λ_=>(nj 2 0 9 1 [] (.inr (by kernel_rfl)) ·)) (gT fb 1 v2 λh2=>gx2 1 [] [1,2,3,6,7,8] 5 [] [(1,0),(1,1)] (λv4(v8:(aqx aqy))(v9:(aqx aqy))=>⟨45,[(1,(.d (.sl (b6 v2)))),(2,(aC v3)),(3,(.ptr 0 0)),(6,(.ptr 1 0)),(7,(.ptr 2 0)),(8,(ar (v4:Int)))],[.cells (iB v1).cells, .cells zc5, .cells [(.own 4 (b6 v8)),(.own 3 (b6 v9))], .front 9 1 v9.length, .front 9 1 v8.length]⟩) (λv4 v8 v9 h3 f1=>aF λh4=>aF λh5=>gR [[(7,oL v2 dX)],[f0 (bj h3)],[(13,oA fb v8 v1.bR h4)],[(13,oA fb v9 v1.yF h5)],[]]) (λv4 v6 v7 v8 v9 h3 f1 aB=>aF λh6=>aq λv10 h7=>aF λh8=>jM aB ((v8++[v6]),(v9++[v10])) [[(7,oL v2 dX)],[t0 (bk h3)],[(13,oE (ik (aW h3))),(22,oA fb v8 ([v6]) h6)],[(13,cK aoN h7),(19,oA fb v9 ([v10]) h8)],[(5,oq (bE h3 rfl h2))]] h3)))))
def C0(N:Nat)(v2:aqy)(v1:dO):aqx aqy->Nat->aqz aqy
 |[],_=>
  some v2
 |v5::v6,v3=>
  bif (bL v5==bL v2)then
   Option.bind (v1.yF[((v3:Int)).toNat]?) λv7=>
   some v7
  else
   (C0 N v2 v1 v6 (v3+1))
def pf(N:Nat)(v1:dO)(v2:aqy):aqz aqy:=
 C0 N v2 v1 v1.bR 0
theorem wq{N v1 v2}:KO 43 [(iB v1),(aC v2)] aC (pf N v1 v2):=
 fw Tryz.func43 (gA [[],[]] (gB fb 0 0 v1.bR λh2=>dK 1 [] [1,2,5] 1 (λv3=>⟨26,[(1,(aC v2)),(2,(.ptr 0 0)),(5,(ar (v3:Int)))],[.cells (iB v1).cells]⟩) (λv3 h3 f1=>gR [[(10,oL v1.bR dX)],[f0 (bj h3)],[]]) (λv3 v5 v6 h3 f1 aB=>gA [[(10,oL v1.bR dX)],[t0 (bk h3)],[(10,oE (ik (aW h3)))]] (aw (λh4=>aq λv7 h5=>gR [[t0 h4],[(10,oE (ik h5))]]) λh4=>gb aB () [[f0 h4],[(5,oq (bE h3 rfl h2))]] h3))))
def zP(N:Nat)(v7:aqx bt)(v8:aqy)(v5:bt)(fD:(aqx bt)->aqz aR):aqx bt->Nat->aqz aR
 |[],v9=>
  bif (decide ((0:Int)<=(v9:Int)))then
  bif (decide (((v9:Int)).toNat<=v7.length))then
  bif (Nat.ble ((0+((v7.take ((v9:Int)).toNat).drop 0).length)*24) 140737488355328)then
  bif (Nat.ble ((((v7.take ((v9:Int)).toNat).drop 0).length+1)*24) 140737488355328)then
  bif (Nat.ble (((((v7.take ((v9:Int)).toNat).drop 0)++[(⟨v8,v5.cN⟩:bt)]).length+(v7.drop ((v9:Int)).toNat).length)*24) 140737488355328)then
  fD ((((v7.take ((v9:Int)).toNat).drop 0)++[(⟨v8,v5.cN⟩:bt)])++(v7.drop ((v9:Int)).toNat))
  else none
  else none
  else none
  else none
  else none
 |v11::v12,v9=>
  bif (Op.bytesLess (bL v11.ao) (bL v8))then
   (zP N v7 v8 v5 fD v12 (v9+1))
  else
   bif (decide (((v9:Int)).toNat<=v7.length))then
   bif (Nat.ble ((0+((v7.take ((v9:Int)).toNat).drop 0).length)*24) 140737488355328)then
   bif (Nat.ble ((((v7.take ((v9:Int)).toNat).drop 0).length+1)*24) 140737488355328)then
   bif (Nat.ble (((((v7.take ((v9:Int)).toNat).drop 0)++[(⟨v8,v5.cN⟩:bt)]).length+(v7.drop ((v9:Int)).toNat).length)*24) 140737488355328)then
   fD ((((v7.take ((v9:Int)).toNat).drop 0)++[(⟨v8,v5.cN⟩:bt)])++(v7.drop ((v9:Int)).toNat))
   else none
   else none
   else none
   else none
def uY(N:Nat)(v2:aR)(v1:dO):aqx bt->Nat->(aqx bt)->aqz aR
 |[],_,v7=>
  some (⟨v2.xK,v7⟩:aR)
 |v5::v6,v3,v7=>
  (pf N v1 v5.ao).bind λv8=>
  zP N v7 v8 v5 (λbq=>uY N v2 v1 v6 (v3+1) bq) v7 0
def u7(N:Nat)(v1:dO)(v2:aR):aqz aR:=
 uY N v2 v1 v2.xL 0 []
theorem F2{N v1 v2}:KO 44 [(iB v1),(cE v2)] cE (u7 N v1 v2):=
 fw Tryz.func44 (gA [[],[],[]] (li (λ_=>(nj 3 1 115 2 [] (.inr (by kernel_rfl)) ·)) (li (λ_=>(aeF 3 ·)) (gB lI 1 1 v2.xL λh2=>jV 1 [] [2,3,4,5,6] 5 [] [(2,1)] (λv3(v7:(aqx bt))=>⟨71,[(2,(.ptr 0 0)),(3,(.ptr 1 0)),(4,(.ptr 2 0)),(5,(.ptr 3 0)),(6,(ar (v3:Int)))],[.cells (iB v1).cells, .cells (cE v2).cells, .cells QM, .cells [(cQ v2.xK),(.d (.sl (dh v7)))], .front 115 2 0]⟩) (λv3 v7 h3 f1=>gR [[(10,oL v2.xL eK)],[f0 (bj h3)],[]]) (λv3 v5 v6 v7 h3 f1 aB=>aq λv8 h4=>gA [[(10,oL v2.xL eK)],[t0 (bk h3)],[(13,oE (j7 (aW h3))),(22,cK wq h4),(34,oE (j7 (aW h3)))],[]] (gB lI 3 1 v7 λh6=>gx0 2 [] [2,3,4,5,6,7,8] 6 [] [(2,1)] (λv9=>⟨71,[(2,(.ptr 0 0)),(3,(.ptr 1 0)),(4,(.ptr 2 0)),(5,(.ptr 3 0)),(6,(ar (v3:Int))),(7,(.ptr 5 0)),(8,(ar (v9:Int)))],[.cells (iB v1).cells, .cells (cE v2).cells, .cells QM, .cells [(cQ v2.xK),(.d (.sl (dh v7)))], .front 115 2 0, .cells [(aC v8),(cQ v5.cN)]]⟩) (λv9 h7 f2=>aF λh8=>aF λh9=>aF λaU=>aF λbh=>aF λbn=>jM aB ((((v7.take ((v9:Int)).toNat).drop 0)++[(⟨v8,v5.cN⟩:bt)])++(v7.drop ((v9:Int)).toNat)) [[(10,oL v7 eK),(18,bF (bj h7)),(21,bF (bj h7)),(24,bF (bj h7)),(27,bF (bj h7)),(30,bF (bj h7)),(33,bF (bj h7)),(36,bF (bj h7)),(39,bF (bj h7)),(42,bF (bj h7)),(46,bF (bj h7))],[f0 rfl],[],[(13,⟨_,_, .sub (xs:=dh v7) (lo:=0) (hi:=(v9:Int)) (by decide) (Nat.zero_le _) (of_decide_eq_true h8) (by rw[eK];exact(of_decide_eq_true h9)) wP WX⟩),(16,oZ lI ((v7.take ((v9:Int)).toNat).drop 0) aU)],[(10,oA lI ((v7.take ((v9:Int)).toNat).drop 0) ([(⟨v8,v5.cN⟩:bt)]) bh)],[(13,⟨_,_, .PR (xs:=dh v7) (lo:=(v9:Int)) (of_decide_eq_true h8) (by rw[eK];exact(of_decide_eq_true h9)) wP abB⟩),(16,oA lI (((v7.take ((v9:Int)).toNat).drop 0)++[(⟨v8,v5.cN⟩:bt)]) (v7.drop ((v9:Int)).toNat) bn)],[(5,oq (bE h3 rfl h2))]] h3) (λv9 v11 v12 h7 f2 ca=>gA [[(10,oL v7 eK),(18,bT (bk h7)),(21,bT (bk h7)),(24,bT (bk h7)),(27,bT (bk h7)),(28,oE (j7 (aW h7))),(30,bT (bk h7)),(33,bT (bk h7)),(36,bT (bk h7)),(39,bT (bk h7)),(42,bT (bk h7)),(46,bT (bk h7))]] (aw (λb5=>jM ca () [[t0 b5],[(5,oq (bE h7 rfl h6))]] h7) λb5=>aF λbZ=>aF λbK=>aF λbV=>aF λcA=>jM aB ((((v7.take ((v9:Int)).toNat).drop 0)++[(⟨v8,v5.cN⟩:bt)])++(v7.drop ((v9:Int)).toNat)) [[f0 b5],[],[(13,⟨_,_, .sub (xs:=dh v7) (lo:=0) (hi:=(v9:Int)) (by decide) (Nat.zero_le _) (of_decide_eq_true (aqq (Int.natCast_nonneg _))) (by rw[eK];exact(of_decide_eq_true bZ)) wP WX⟩),(16,oZ lI ((v7.take ((v9:Int)).toNat).drop 0) bK)],[(10,oA lI ((v7.take ((v9:Int)).toNat).drop 0) ([(⟨v8,v5.cN⟩:bt)]) bV)],[(13,⟨_,_, .PR (xs:=dh v7) (lo:=(v9:Int)) (of_decide_eq_true (aqq (Int.natCast_nonneg _))) (by rw[eK];exact(of_decide_eq_true bZ)) wP abB⟩),(16,oA lI (((v7.take ((v9:Int)).toNat).drop 0)++[(⟨v8,v5.cN⟩:bt)]) (v7.drop ((v9:Int)).toNat) cA)],[(5,oq (bE h3 rfl h2))]] h3))))))))
def DE(N:Nat)(v1:dO):aqx aR->Nat->(aqx aR)->aqz ((aqx aR))
 |[],_,v7=>
  some v7
 |v5::v6,v3,v7=>
  (u7 N v1 v5).bind λv8=>
  bif (Nat.ble ((v7.length+1)*32) 140737488355328)then
  (λbq=>DE N v1 v6 (v3+1) bq) (v7++[v8])
  else none
def CW(N:Nat)(v1:dO)(v2:aqx aR):aqz ((aqx aR)):=
 DE N v1 v2 0 []
theorem Ww{N v1 v2}:KO 45 [(iB v1),(.d (.sl (c6 v2)))] (λr=> .d (.sl (c6 r))) (CW N v1 v2):=
 fw Tryz.func45 (gA [[],[],[]] (li (λ_=>(l8 5 52 2 [] (.inr (by kernel_rfl)) ·)) (gT lh 1 v2 λh2=>eM 1 [] [1,2,5,6] 2 (λv3(v7:aqx aR)=>⟨23,[(1,(.d (.sl (c6 v2)))),(2,(.ptr 0 0)),(5,(.own 1 (c6 v7))),(6,(ar (v3:Int)))],[.cells (iB v1).cells, .front 52 2 v7.length]⟩) (λv3 v7 h3 f1=>gR [[(7,oL v2 dT)],[f0 (bj h3)],[]]) (λv3 v5 v6 v7 h3 f1 aB=>aq λv8 h4=>aF λh5=>gb aB (v7++[v8]) [[(7,oL v2 dT)],[t0 (bk h3)],[(13,oE (k9 (aW h3))),(19,cK F2 h4),(25,oA lh v7 ([v8]) h5)],[(5,oq (bE h3 rfl h2))]] h3))))
def C6(N:Nat)(v1:dO):aqx cd->Nat->(aqx cd)->aqz ((aqx cd))
 |[],_,v7=>
  some v7
 |v5::v6,v3,v7=>
  (pf N v1 v5.ao).bind λv8=>
  (u7 N v1 v5.cw).bind λv9=>
  bif (Nat.ble ((v7.length+1)*48) 140737488355328)then
  (λbq=>C6 N v1 v6 (v3+1) bq) (v7++[(⟨v8,v9⟩:cd)])
  else none
def FN(N:Nat)(v1:dO)(v2:aqx cd):aqz ((aqx cd)):=
 C6 N v1 v2 0 []
theorem Wu{N v1 v2}:KO 47 [(iB v1),(.d (.sl (du v2)))] (λr=> .d (.sl (du r))) (FN N v1 v2):=
 fw Tryz.func47 (gA [[],[],[]] (li (λ_=>(l8 5 72 3 [] (.inr (by kernel_rfl)) ·)) (gT kW 1 v2 λh2=>eM 1 [] [1,2,5,6] 2 (λv3(v7:aqx cd)=>⟨32,[(1,(.d (.sl (du v2)))),(2,(.ptr 0 0)),(5,(.own 1 (du v7))),(6,(ar (v3:Int)))],[.cells (iB v1).cells, .front 72 3 v7.length]⟩) (λv3 v7 h3 f1=>gR [[(7,oL v2 dB)],[f0 (bj h3)],[]]) (λv3 v5 v6 v7 h3 f1 aB=>aq λv8 h4=>aq λv9 h5=>aF λh6=>gb aB (v7++[(⟨v8,v9⟩:cd)]) [[(7,oL v2 dB)],[t0 (bk h3)],[(13,oE (iE (aW h3))),(22,cK wq h4),(34,oE (iE (aW h3))),(43,cK F2 h5),(52,oA kW v7 ([(⟨v8,v9⟩:cd)]) h6)],[(5,oq (bE h3 rfl h2))]] h3))))
def Fe(N:Nat)(v1:dO)(v2:dO):aqx bH->Nat->(aqx bH)->aqz ((aqx bH))
 |[],_,v8=>
  some v8
 |v6::v7,v4,v8=>
  (u7 N v1 v6.aS).bind λv9=>
  (pf N v2 v6.bR).bind λv10=>
  (CW N v1 v6.bO).bind λv11=>
  bif (Nat.ble ((v8.length+1)*72) 140737488355328)then
  (λbq=>Fe N v1 v2 v7 (v4+1) bq) (v8++[(⟨v9,v10,v11⟩:bH)])
  else none
def Sf(N:Nat)(v1:dO)(v2:dO)(v3:aqx bH):aqz ((aqx bH)):=
 Fe N v1 v2 v3 0 []
theorem amx{N v1 v2 v3}:KO 99 [(iB v1),(iB v2),(.d (.sl (cZ v3)))] (λr=> .d (.sl (cZ r))) (Sf N v1 v2 v3):=
 fw Tryz.func99 (gA [[],[],[]] (li (λ_=>(l8 7 111 4 [] (.inr (by kernel_rfl)) ·)) (gT lX 2 v3 λh2=>eM 1 [] [2,3,4,7,8] 3 (λv4(v8:aqx bH)=>⟨41,[(2,(.d (.sl (cZ v3)))),(3,(.ptr 0 0)),(4,(.ptr 1 0)),(7,(.own 2 (cZ v8))),(8,(ar (v4:Int)))],[.cells (iB v1).cells, .cells (iB v2).cells, .front 111 4 v8.length]⟩) (λv4 v8 h3 f1=>gR [[(7,oL v3 fx)],[f0 (bj h3)],[]]) (λv4 v6 v7 v8 h3 f1 aB=>aq λv9 h4=>aq λv10 h5=>aq λv11 h6=>aF λh7=>gb aB (v8++[(⟨v9,v10,v11⟩:bH)]) [[(7,oL v3 fx)],[t0 (bk h3)],[(13,oE (gx (aW h3))),(22,cK F2 h4),(34,oE (gx (aW h3))),(43,cK wq h5),(55,oE (gx (aW h3))),(64,cK Ww h6),(73,oA lX v8 ([(⟨v9,v10,v11⟩:bH)]) h7)],[(5,oq (bE h3 rfl h2))]] h3))))
def Cz(N:Nat)(v3:au)(v5:aqy)(v4:aR)(v6:(aqx bH))(aai:dO->dO->au->aqz au)(v1:dO)(v2:dO):aqx au->Nat->(aqx au)->aqz au
 |[],_,v11=>
  some (⟨v3.aJ,v5,v3.dM,v3.aO,v4,v6,v11⟩:au)
 |v9::v10,v7,v11=>
  (aai v1 v2 v9).bind λv12=>
  bif (Nat.ble ((v11.length+1)*160) 140737488355328)then
  (λbq=>Cz N v3 v5 v4 v6 aai v1 v2 v10 (v7+1) bq) (v11++[v12])
  else none
def sK(N:Nat):Nat->dO->dO->au->aqz au
 |0,_,_,_=>none
 |d+1,v1,v2,v3=>
  (u7 N v1 v3.aS).bind λv4=>
  (pf N v2 v3.ao).bind λv5=>
  (Sf N v1 v2 v3.xIdx).bind λv6=>
  Cz N v3 v5 v4 v6 (sK N d) v1 v2 v3.bp 0 []
def Pp(N:Nat)(v1:dO)(v2:dO)(v3:au):aqz au:=sK N N v1 v2 v3
theorem ajO(N:Nat):∀d:Nat,(∀{v1:dO}{v2:dO}{v3:au},KO 48 [(iB v1),(iB v2),(aN v3)] aN (sK N d v1 v2 v3)):=by
 intro d
 induction d with
 |zero=>intro v1 v2 v3 r hF;rw[sK]at hF;cases hF
 |succ d ih=>
  have anu:= @ih;intro v1 v2 v3;rw[sK];exact fw Tryz.func48 (aq λv4 h1=>aq λv5 h2=>aq λv6 h3=>gA [[],[],[(10,cK F2 h1)],[(10,cK wq h2)],[(13,cK amx h3)],[],[]] (li (λ_=>(nj 4 12 67 13 [] (.inr (by kernel_rfl)) ·)) (gB lK 2 12 v3.bp λh5=>jV 1 [] [3,4,5,6,7,8] 6 [] [(3,10),(3,11),(3,12)] (λv7(v11:(aqx au))=>⟨48,[(3,(.ptr 0 0)),(4,(.ptr 1 0)),(5,(.ptr 2 0)),(6,(.ptr 3 0)),(7,(.ptr 4 0)),(8,(ar (v7:Int)))],[.cells (iB v1).cells, .cells (iB v2).cells, .cells (aN v3).cells, .cells L0, .cells ((ar v3.aJ)::(aC v5)::Yz v3 [(cQ v4.xK),(.d (.sl (dh v4.xL))),(.d (.sl (cZ v6))),(.own 5 (dW v11))]), .front 67 13 v11.length]⟩) (λv7 v11 h6 f1=>gR [[(10,oL v3.bp gq)],[(0,bF (bj h6))],[]]) (λv7 v9 v10 v11 h6 f1 aB=>aq λv12 h7=>aF λh8=>jM aB (v11++[v12]) [[(10,oL v3.bp gq)],[(0,bT (bk h6))],[(22,oE (fX (aW h6))),(28,cK anu h7),(32,⟨_,_, .eq (congrArg AV.full (ru [v12]).symm)⟩),(34,oA lK v11 ([v12]) h8)],[(5,oq (bE h6 rfl h5))]] h6))))
theorem adC{N v1 v2 v3}:KO 48 [(iB v1),(iB v2),(aN v3)] aN (Pp N v1 v2 v3):=(ajO N N)
def zL(N:Nat)(v20:aqx aqy)(v25:aqx c8)(v30:aqx cv)(v35:aqx bf)(v15:dO):aqx aqy->Nat->(aqx aqy)->aqz aK
 |[],_,v40=>
  some (⟨v20,v25,v30,v35,v40⟩:aK)
 |kT::v39,kQ,v40=>
  (pf N v15 kT).bind λv41=>
  bif (Nat.ble ((v40.length+1)*16) 140737488355328)then
  (λPu=>zL N v20 v25 v30 v35 v15 v39 (kQ+1) Pu) (v40++[v41])
  else none
def BB(N:Nat)(v20:aqx aqy)(v25:aqx c8)(v30:aqx cv)(v15:dO)(v1:aK)(v3:dO)(v2:o7):aqx bf->Nat->(aqx bf)->aqz aK
 |[],_,v35=>
  zL N v20 v25 v30 v35 v15 v1.b9 0 []
 |v33::mO,v31,v35=>
  (Dg N v33).bind λnw=>
  (vT N v3 nw v2.nY).bind λth=>
  (pf N v15 v33.ao).bind λv44=>
  (FN N th v33.aP).bind λv45=>
  (FN N th v33.aY).bind λv46=>
  (Pp N th v15 v33.cg).bind λu5=>
  bif (Nat.ble ((v35.length+1)*272) 140737488355328)then
  (λOj=>BB N v20 v25 v30 v15 v1 v3 v2 mO (v31+1) Oj) (v35++[(⟨v44,v33.aO,v45,v46,v33.cC,u5⟩:bf)])
  else none
def z8(N:Nat)(v20:aqx aqy)(v25:aqx c8)(v15:dO)(v1:aK)(v3:dO)(v2:o7):aqx cv->Nat->(aqx cv)->aqz aK
 |[],_,v30=>
  BB N v20 v25 v30 v15 v1 v3 v2 v1.ay 0 []
 |v28::ie,v26,v30=>
  (pf N v15 v28.ao).bind λwa=>
  (CW N v3 v28.aP).bind λv49=>
  bif (Nat.ble ((v30.length+1)*80) 140737488355328)then
  (λGF=>z8 N v20 v25 v15 v1 v3 v2 ie (v26+1) GF) (v30++[(⟨wa,v28.aO,v49⟩:cv)])
  else none
def AR(N:Nat)(v20:aqx aqy)(v15:dO)(v1:aK)(v3:dO)(v2:o7):aqx c8->Nat->(aqx c8)->aqz aK
 |[],_,v25=>
  z8 N v20 v25 v15 v1 v3 v2 v1.aG 0 []
 |v23::v24,v21,v25=>
  (u7 N v3 v23.aS).bind λv50=>
  bif (Nat.ble ((v25.length+1)*40) 140737488355328)then
  (λnN=>AR N v20 v15 v1 v3 v2 v24 (v21+1) nN) (v25++[(⟨v50,v23.jB⟩:c8)])
  else none
def F1(N:Nat)(v15:dO)(v1:aK)(v3:dO)(v2:o7):aqx aqy->Nat->(aqx aqy)->aqz aK
 |[],_,v20=>
  AR N v20 v15 v1 v3 v2 v1.cr 0 []
 |cJ::dy,cu,v20=>
  (pf N v3 cJ).bind λv51=>
  bif (Nat.ble ((v20.length+1)*16) 140737488355328)then
  (λmu=>F1 N v15 v1 v3 v2 dy (cu+1) mu) (v20++[v51])
  else none
def tE(N:Nat)(v2:o7)(v8:aqx aqy)(v1:aK)(v3:dO):aqx bf->Nat->(aqx aqy)->aqz aK
 |[],_,ba=>
  (vT N OB ba v2.ay).bind λb8=>
  (vT N b8 v8 v2.aG).bind λv15=>
  F1 N v15 v1 v3 v2 v1.aA 0 []
 |v11::v12,v9,ba=>
  bif (Nat.ble ((ba.length+1)*16) 140737488355328)then
  (λiW=>tE N v2 v8 v1 v3 v12 (v9+1) iW) (ba++[v11.ao])
  else none
def GR(N:Nat)(v2:o7)(v1:aK)(v3:dO):aqx cv->Nat->(aqx aqy)->aqz aK
 |[],_,v8=>
  tE N v2 v8 v1 v3 v1.ay 0 []
 |v6::v7,v4,v8=>
  bif (Nat.ble ((v8.length+1)*16) 140737488355328)then
  (λbq=>GR N v2 v1 v3 v7 (v4+1) bq) (v8++[v6.ao])
  else none
def Ef(N:Nat)(v1:aK)(v2:o7):aqz aK:=
 (vT N OB v1.aA v2.aA).bind λv3=>
 GR N v2 v1 v3 v1.aG 0 []
def Pn(v1:aK)(v2:o7)(v3:dO)(v8:aqx aqy)(l:aqx an):aqx an:= .cells (cX v1).cells:: .cells (aau v2).cells:: .cells zc3:: .cells (iB v3).cells:: .front 9 1 v8.length::l
def FI(v1:aK)(v2:o7)(v3:dO)(v8:aqx aqy)(ba:aqx aqy)(v15:dO)(l:aqx an):aqx an:=Pn v1 v2 v3 v8 (.front 9 1 ba.length:: .cells (iB v15).cells::l)
theorem akW{N v1 v2}:KO 14 [(cX v1),(aau v2)] cX (Ef N v1 v2):=
 fw Tryz.func14 (aq λv3 h1=>gA [[],[(16,cK Jq h1)],[],[]] (li (λ_=>(l8 6 9 1 [] (.inr (by kernel_rfl)) ·)) (gB ny 0 2 v1.aG λh3=>jV 1 [] [2,3,4,5,6,7,8] 5 [7] [(2,0),(2,1),(2,2),(2,3),(2,4)] (λv4(v8:(aqx aqy))=>⟨206,[(2,(.ptr 0 0)),(3,(.ptr 1 0)),(4,(.ptr 2 0)),(5,(.ptr 3 0)),(6,(.own 4 (b6 v8))),(7,(.d (.v (.slice none 0 0)))),(8,(ar (v4:Int)))],(Pn v1 v2 v3 v8 [])⟩) (λv4 v8 h4 f1=>gA [[(10,oL v1.aG iy)],[f0 (bj h4)],[]] (li (λ_=>(l8 7 9 1 [] (.inr (by kernel_rfl)) ·)) (gB nA 0 3 v1.ay λh6=>jV 2 [] [2,3,4,5,6,7,9] 6 [] [(2,0),(2,1),(2,2),(2,3),(2,4)] (λv9(ba:(aqx aqy))=>⟨206,[(2,(.ptr 0 0)),(3,(.ptr 1 0)),(4,(.ptr 2 0)),(5,(.ptr 3 0)),(6,(.own 4 (b6 v8))),(7,(.own 5 (b6 ba))),(9,(ar (v9:Int)))],(Pn v1 v2 v3 v8 [.front 9 1 ba.length])⟩) (λv9 ba h7 f2=>aq λb8 h8=>aq λv15 h9=>gA [[(10,oL v1.ay gY)],[f0 (bj h7)],[(13,cK Jq h8),(25,cK Jq h9)],[],[]] (li (λ_=>(nj 7 0 9 1 [] (.inr (by kernel_rfl)) ·)) (gB fb 0 0 v1.aA λbh=>jV 3 [] [2,3,4,5,10,11,12] 9 [] [(2,0),(2,1),(2,2),(2,3),(2,4),(7,1),(7,2),(7,3),(7,4)] (λcu(v20:(aqx aqy))=>⟨206,[(2,(.ptr 0 0)),(3,(.ptr 1 0)),(4,(.ptr 2 0)),(5,(.ptr 3 0)),(10,(.ptr 6 0)),(11,(.ptr 7 0)),(12,(ar (cu:Int)))],(FI v1 v2 v3 v8 ba v15 [.cells [(.own 8 (b6 v20)),(.d (.v (.slice none 0 0))),(.d (.v (.slice none 0 0))),(.d (.v (.slice none 0 0))),(.d (.v (.slice none 0 0)))], .front 9 1 v20.length])⟩) (λcu v20 bn f3=>gA [[(10,oL v1.aA dX)],[f0 (bj bn)],[]] (li (λ_=>(nj 7 1 54 3 [] (.inr (by kernel_rfl)) ·)) (gB rP 0 1 v1.cr λbZ=>jV 4 [] [2,3,4,5,10,11,13] 10 [] [(2,0),(2,1),(2,2),(2,3),(2,4),(7,2),(7,3),(7,4)] (λv21(v25:(aqx c8))=>⟨206,[(2,(.ptr 0 0)),(3,(.ptr 1 0)),(4,(.ptr 2 0)),(5,(.ptr 3 0)),(10,(.ptr 6 0)),(11,(.ptr 7 0)),(13,(ar (v21:Int)))],(FI v1 v2 v3 v8 ba v15 [.cells [(.own 8 (b6 v20)),(.own 9 (hY v25)),(.d (.v (.slice none 0 0))),(.d (.v (.slice none 0 0))),(.d (.v (.slice none 0 0)))], .front 9 1 v20.length, .front 54 3 v25.length])⟩) (λv21 v25 bK f4=>gA [[(10,oL v1.cr kg)],[f0 (bj bK)],[]] (li (λ_=>(nj 7 2 59 7 [] (.inr (by kernel_rfl)) ·)) (gB ny 0 2 v1.aG λcA=>jV 5 [] [2,3,4,5,10,11,14] 11 [] [(2,0),(2,1),(2,2),(2,3),(2,4),(7,3),(7,4)] (λv26(v30:(aqx cv))=>⟨206,[(2,(.ptr 0 0)),(3,(.ptr 1 0)),(4,(.ptr 2 0)),(5,(.ptr 3 0)),(10,(.ptr 6 0)),(11,(.ptr 7 0)),(14,(ar (v26:Int)))],(FI v1 v2 v3 v8 ba v15 [.cells [(.own 8 (b6 v20)),(.own 9 (hY v25)),(.own 10 (iT v30)),(.d (.v (.slice none 0 0))),(.d (.v (.slice none 0 0)))], .front 9 1 v20.length, .front 54 3 v25.length, .front 59 7 v30.length])⟩) (λv26 v30 dv f5=>gA [[(10,oL v1.aG iy)],[f0 (bj dv)],[]] (li (λ_=>(nj 7 3 69 22 [] (.inr (by kernel_rfl)) ·)) (gB nA 0 3 v1.ay λcH=>jV 6 [] [2,3,4,5,10,11,16] 12 [] [(2,0),(2,1),(2,2),(2,3),(2,4),(7,4)] (λv31(v35:(aqx bf))=>⟨206,[(2,(.ptr 0 0)),(3,(.ptr 1 0)),(4,(.ptr 2 0)),(5,(.ptr 3 0)),(10,(.ptr 6 0)),(11,(.ptr 7 0)),(16,(ar (v31:Int)))],(FI v1 v2 v3 v8 ba v15 [.cells [(.own 8 (b6 v20)),(.own 9 (hY v25)),(.own 10 (iT v30)),(.own 11 (gh v35)),(.d (.v (.slice none 0 0)))], .front 9 1 v20.length, .front 54 3 v25.length, .front 59 7 v30.length, .front 69 22 v35.length])⟩) (λv31 v35 dN f6=>gA [[(10,oL v1.ay gY)],[f0 (bj dN)],[]] (li (λ_=>(nj 7 4 9 1 [] (.inr (by kernel_rfl)) ·)) (gB fb 0 4 v1.b9 λdQ=>jV 7 [] [2,4,10,11,19] 13 [] [(2,0),(2,1),(2,2),(2,3),(2,4)] (λkQ(v40:(aqx aqy))=>⟨206,[(2,(.ptr 0 0)),(4,(.ptr 2 0)),(10,(.ptr 6 0)),(11,(.ptr 7 0)),(19,(ar (kQ:Int)))],(FI v1 v2 v3 v8 ba v15 [.cells [(.own 8 (b6 v20)),(.own 9 (hY v25)),(.own 10 (iT v30)),(.own 11 (gh v35)),(.own 12 (b6 v40))], .front 9 1 v20.length, .front 54 3 v25.length, .front 59 7 v30.length, .front 69 22 v35.length, .front 9 1 v40.length])⟩) (λkQ v40 eG f7=>gR [[(10,oL v1.b9 dX)],[f0 (bj eG)],[]]) (λkQ kT v39 v40 eG f7 Nr=>aq λv41 fQ=>aF λe9=>jM Nr (v40++[v41]) [[(10,oL v1.b9 dX)],[t0 (bk eG)],[(19,oE (ik (aW eG))),(25,cK wq fQ),(31,oA fb v40 ([v41]) e9)],[(5,oq (bE eG rfl dQ))]] eG)))) (λv31 v33 mO v35 dN f6 zu=>aq λnw fG=>aq λth gg=>aq λv44 iw=>aq λv45 gL=>aq λv46 iX=>aq λu5 jD=>aF λju=>jM zu (v35++[(⟨v44,v33.aO,v45,v46,v33.cC,u5⟩:bf)]) [[(10,oL v1.ay gY)],[t0 (bk dN)],[(10,oE (jH (aW dN)))],[(7,cK acu fG),(16,cK Jq gg)],[(16,cK wq iw),(34,cK Wu gL),(46,cK Wu iX),(67,cK adC jD),(76,oA nA v35 ([(⟨v44,v33.aO,v45,v46,v33.cC,u5⟩:bf)]) ju)],[(5,oq (bE dN rfl cH))]] dN)))) (λv26 v28 ie v30 dv f5 p9=>aq λwa lk=>aq λv49 my=>aF λkX=>jM p9 (v30++[(⟨wa,v28.aO,v49⟩:cv)]) [[(10,oL v1.aG iy)],[t0 (bk dv)],[(10,oE (jy (aW dv)))],[(16,cK wq lk),(34,cK Ww my),(43,oA ny v30 ([(⟨wa,v28.aO,v49⟩:cv)]) kX)],[(5,oq (bE dv rfl cA))]] dv)))) (λv21 v23 v24 v25 bK f4 iF=>aq λv50 ot=>aF λou=>jM iF (v25++[(⟨v50,v23.jB⟩:c8)]) [[(10,oL v1.cr kg)],[t0 (bk bK)],[(19,oE (pI (aW bK))),(28,cK F2 ot),(40,oE (pI (aW bK))),(55,oA rP v25 ([(⟨v50,v23.jB⟩:c8)]) ou)],[(5,oq (bE bK rfl bZ))]] bK)))) (λcu cJ dy v20 bn f3 fu=>aq λv51 mf=>aF λl9=>jM fu (v20++[v51]) [[(10,oL v1.aA dX)],[t0 (bk bn)],[(19,oE (ik (aW bn))),(25,cK wq mf),(31,oA fb v20 ([v51]) l9)],[(5,oq (bE bn rfl bh))]] bn)))) (λv9 v11 v12 ba h7 f2 ca=>aF λoT=>jM ca (ba++[v11.ao]) [[(10,oL v1.ay gY)],[t0 (bk h7)],[(13,oE (jH (aW h7))),(25,oA fb ba ([v11.ao]) oT)],[(5,oq (bE h7 rfl h6))]] h7)))) (λv4 v6 v7 v8 h4 f1 aB=>aF λoD=>jM aB (v8++[v6.ao]) [[(10,oL v1.aG iy)],[t0 (bk h4)],[(13,oE (jy (aW h4))),(25,oA fb v8 ([v6.ao]) oD)],[(5,oq (bE h4 rfl h3))]] h4))))
def P2(N:Nat)(v1:aK):aqz (aK×Int):=
 (n9 N v1).bind λv2=>
 bif (v2.2 !=0)then
  some (aci,v2.2)
 else
  Option.bind (Ef N v1 (⟨(bs [115]),(bs [112]),(bs [100]),(bs [105])⟩:o7)) λv3=>
  some (v3,(0:Int))
theorem apl{N v1}:KO 9 [(cX v1)] (λr=> .bz [(cX r.1),(ar r.2)]) (P2 N v1):=
 fw Tryz.func9 (aq λv2 h1=>gA [[],[(4,cK ano h1)],[]] (bB λh2=>aq λv3 h3=>gR [[f0 h2],[(7,cK akW h3)]]))
def J4(N:Nat)(v4:aqy)(fD:aqy->aqz (aqy×Bool))(v8:aqy):aqz (aqy×Bool):=
 bif (Nat.ble (v8.size+v4.size) 9223372036854775807)then
 fD (v8++v4)
 else none
def w8(N:Nat):aqx aqy->Nat->aqy->aqz (aqy×Bool)
 |[],_,v6=>
  some (v6,true)
 |v4::v5,v2,v6=>
  (ph N v4).bind λv7=>
  bif v7 then
   bif (decide ((v2:Int)>0))then
    bif (Nat.ble (v6.size+(bs [44,32]).size) 9223372036854775807)then
    J4 N v4 (λbq=>w8 N v5 (v2+1) bq) (v6++(bs [44,32]))
    else none
   else
    J4 N v4 (λbq=>w8 N v5 (v2+1) bq) v6
  else
   some ((bs []),false)
def EZ(N:Nat)(v1:aqx aqy):aqz (aqy×Bool):=
 w8 N v1 0 (bs [])
theorem aaL{N v1}:KO 81 [(.d (.sl (b6 v1)))] (λr=> .bz [(aC r.1),(aM r.2)]) (EZ N v1):=
 fw Tryz.func81 (gA [[],[],[]] (gT fb 0 v1 λh2=>eM 1 [] [0,4,5] 0 (λv2(v6:aqy)=>⟨29,[(0,(.d (.sl (b6 v1)))),(4,(aC v6)),(5,(ar (v2:Int)))],[]⟩) (λv2 v6 h3 f1=>gR [[(7,oL v1 dX)],[f0 (bj h3)],[]]) (λv2 v4 v5 v6 h3 f1 aB=>aq λv7 h4=>gA [[(7,oL v1 dX)],[t0 (bk h3)],[(7,oE (ik (aW h3))),(13,cK tQ h4)]] (ff λh5=>eB 2 [[f0 (cb h5)],[]] [0,4,5] 0 (λ(v8:aqy)=>⟨29,[(0,(.d (.sl (b6 v1)))),(4,(aC v8)),(5,(ar (v2:Int)))],[]⟩) (J4 N v4 (λbq=>w8 N v5 (v2+1) bq)) (λf2 ca=>aw (λh7=>aF λh8=>gm ca (v6++(bs [44,32])) [[t0 h7],[(4,⟨_,_, .cat (n:=v6.size+(bs [44,32]).size) (aZ h8)⟩)]]) λh7=>gm ca v6 [[f0 h7]]) (λv8=>aF λh6=>gb aB (v8++v4) [[(10,oE (ik (aW h3))),(16,⟨_,_, .cat (n:=v8.size+v4.size) (aZ h6)⟩)],[(5,oq (bE h3 rfl h2))]] h3)))))
def g_brocaderef06_Validate(N:Nat)(v1:c8):aqz Int:=
 (nP N v1.aS).bind λv2=>
 bif v2 then
  some (0:Int)
 else
  some (1:Int)
theorem abl{N v1}:KO 82 [(mP v1)] ar (g_brocaderef06_Validate N v1):=
 fw Tryz.func82 (aq λv2 h1=>gA [[],[(7,cK rJ h1)]] (C8 λh2=>gR [[t0 (cW h2)],[]]))
def Ns(N:Nat)(v1:aR):aqz Int:=
 (nP N v1).bind λv2=>
 bif v2 then
  some (0:Int)
 else
  some (1:Int)
theorem aeb{N v1}:KO 175 [(cE v1)] ar (Ns N v1):=
 fw Tryz.func175 (aq λv2 h1=>gA [[],[(4,cK rJ h1)]] (C8 λh2=>gR [[t0 (cW h2)],[]]))
def Bv(N:Nat)(v1:Int64):aqz Int:=
 bif (decide (v1.toInt<0))then
  some (IntKind.u64.wrap ((IntKind.u64.wrap (-(v1+(1:Int64))).toInt)+(1:Int)))
 else
  some (IntKind.u64.wrap v1.toInt)
theorem O4{N v1}:KO 176 [(cQ v1)] (λr=> .d (.v (.int .u64 r))) (Bv N v1):=
 fw Tryz.func176 (gA [[],[]] (lT λh1=>gR [[t0 h1],[(5,⟨_,_, .eq (UX v1 (1:Int64))⟩),(8,⟨_,_, .eq (xy (v1+(1:Int64)))⟩)]]))
def Fz(N:Nat):Nat->Int->aqy->aqz aqy
 |0,_,_=>none
 |v2+1,v3,v4=>
  bif (Nat.ble ((ta [(IntKind.u8.wrap (IntKind.u64.wrap ((48:Int)+((v3).tmod (10:Int)))))]).size+v4.size) 9223372036854775807)then
  bif ((IntKind.u64.wrap ((v3).tdiv (10:Int)))==0)then
   some ((ta [(IntKind.u8.wrap (IntKind.u64.wrap ((48:Int)+((v3).tmod (10:Int)))))])++v4)
  else
   (λbq fc=>Fz N v2 bq fc) (IntKind.u64.wrap ((v3).tdiv (10:Int))) ((ta [(IntKind.u8.wrap (IntKind.u64.wrap ((48:Int)+((v3).tmod (10:Int)))))])++v4)
  else none
def L7(N:Nat)(v1:Int):aqz aqy:=
 Fz N N v1 (bs [])
theorem aaU{N v1}:KO 177 [(.d (.v (.int .u64 v1)))] aC (L7 N v1):=
 fw Tryz.func177 (rT 1 [[],[]] [0,3] 0 (λ(v3:Int)(v4:aqy)=>⟨17,[(0,(.d (.v (.int .u64 v3)))),(3,(aC v4))],[]⟩) (Fz N) (λv2 v3 v4 f1 aB=>aF λh1=>gA [[(4,⟨_,_, .nz (b:=10) (by decide)⟩),(16,⟨_,_, .bm (xs:=alT [(IntKind.u8.wrap (IntKind.u64.wrap ((48:Int)+((v3).tmod (10:Int)))))]) (s:=ta [(IntKind.u8.wrap (IntKind.u64.wrap ((48:Int)+((v3).tmod (10:Int)))))]) ⟨[(IntKind.u8.wrap (IntKind.u64.wrap ((48:Int)+((v3).tmod (10:Int)))))],rfl,rfl⟩⟩),(22,⟨_,_, .cat (n:=(ta [(IntKind.u8.wrap (IntKind.u64.wrap ((48:Int)+((v3).tmod (10:Int)))))]).size+v4.size) (aZ h1)⟩)],[(4,⟨_,_, .nz (b:=10) (by decide)⟩)],[]] (bB λh2=>nB aB ((IntKind.u64.wrap ((v3).tdiv (10:Int))),((ta [(IntKind.u8.wrap (IntKind.u64.wrap ((48:Int)+((v3).tmod (10:Int)))))])++v4)) [[f0 h2]])))
def FF(N:Nat)(v1:aqy)(v2:Bool)(v3:aqy):aqz aqy:=
 Option.bind (bif (bL v1==bL (bs []))then some v2 else some false) λv4=>
 bif v4 then
  bif (Nat.ble ((bs [45]).size+v3.size) 9223372036854775807)then
  some ((bs [45])++v3)
  else none
 else
  bif (bL v1==bL (bs []))then
   some v3
  else
   bif v2 then
    bif (Nat.ble (v1.size+(bs [32,45,32]).size) 9223372036854775807)then
    bif (Nat.ble ((v1++(bs [32,45,32])).size+v3.size) 9223372036854775807)then
    some ((v1++(bs [32,45,32]))++v3)
    else none
    else none
   else
    bif (Nat.ble (v1.size+(bs [32,43,32]).size) 9223372036854775807)then
    bif (Nat.ble ((v1++(bs [32,43,32])).size+v3.size) 9223372036854775807)then
    some ((v1++(bs [32,43,32]))++v3)
    else none
    else none
theorem Xt{N v1 v2 v3}:KO 178 [(aC v1),(aM v2),(aC v3)] aC (FF N v1 v2 v3):=
 fw Tryz.func178 (gA [[]] (gG (λv4=>[(11,(aM v4))]) (λ_=>[]) (aw (λh1=>gE [(2,bT h1)] []) λh1=>gE [(2,bF h1)] []) λv4=>aw (λh3=>aF λh4=>gR [[t0 h3],[(4,⟨_,_, .cat (n:=(bs [45]).size+v3.size) (aZ h4)⟩)]]) λh3=>gA [[f0 h3],[]] (dd λ_=>aw (λh6=>aF λh7=>aF λh8=>gR [[t0 h6],[(4,⟨_,_, .cat (n:=v1.size+(bs [32,45,32]).size) (aZ h7)⟩),(10,⟨_,_, .cat (n:=(v1++(bs [32,45,32])).size+v3.size) (aZ h8)⟩)]]) λh6=>aF λh9=>aF λaU=>gR [[f0 h6],[(4,⟨_,_, .cat (n:=v1.size+(bs [32,43,32]).size) (aZ h9)⟩),(10,⟨_,_, .cat (n:=(v1++(bs [32,43,32])).size+v3.size) (aZ aU)⟩)]])))
def Qc(N:Nat)(v9:aqy):aqz aqy:=
 some v9
def BY(N:Nat)(v7:aqy)(v5:bt)(fD:aqy->aqz aqy)(b8:aqy):aqz aqy:=
 Option.bind (FF N v7 (decide (v5.cN.toInt<0)) b8) λv15=>
 fD v15
def sr(N:Nat)(v1:aR):aqx bt->Nat->aqy->aqz aqy
 |[],_,v7=>
  Option.bind (bif (v1.xK.toInt !=0)then some true else some ((v1.xL.length:Int)==0)) λv8=>
  bif v8 then
   (Bv N v1.xK).bind λv10=>
   (L7 N v10).bind λv11=>
   Option.bind (FF N v7 (decide (v1.xK.toInt<0)) v11) λv12=>
   Qc N v12
  else
   Qc N v7
 |v5::v6,v3,v7=>
  (Bv N v5.cN).bind λba=>
  bif (ba !=1)then
   (Bv N v5.cN).bind λcu=>
   (L7 N cu).bind λv17=>
   bif (Nat.ble (v17.size+(bs [42]).size) 9223372036854775807)then
   bif (Nat.ble ((v17++(bs [42])).size+v5.ao.size) 9223372036854775807)then
   BY N v7 v5 (λbq=>sr N v1 v6 (v3+1) bq) ((v17++(bs [42]))++v5.ao)
   else none
   else none
  else
   BY N v7 v5 (λbq=>sr N v1 v6 (v3+1) bq) v5.ao
def s9(N:Nat)(v1:aR):aqz aqy:=
 (Ns N v1).bind λv2=>
 bif (v2 !=0)then
  some (bs [])
 else
  sr N v1 v1.xL 0 (bs [])
theorem ze{N v1}:KO 134 [(cE v1)] aC (s9 N v1):=
 fw Tryz.func134 (aq λv2 h1=>gA [[],[(4,cK aeb h1)]] (bB λh2=>gA [[f0 h2],[],[]] (gB lI 0 1 v1.xL λh4=>eM 1 [] [1,3,4] 1 (λv3(v7:aqy)=>⟨62,[(1,(.ptr 0 0)),(3,(aC v7)),(4,(ar (v3:Int)))],[.cells (cE v1).cells]⟩) (λv3 v7 h5 f1=>gA [[(10,oL v1.xL eK)],[f0 (bj h5)]] (gG (λv8=>[(51,(aM v8))]) (λ_=>[.cells (cE v1).cells]) (aw (λh6=>gE [(3,bT h6)] []) λh6=>gE [(3,bF h6)] [(19,oL v1.xL eK)]) λv8=>eB 2 [] [3] 1 (λ(v9:aqy)=>⟨62,[(3,(aC v9))],[.cells (cE v1).cells]⟩) (Qc N) (λf2 ca=>aw (λh8=>aq λv10 h9=>aq λv11 aU=>aq λv12 bh=>gm ca v12 [[t0 h8],[(19,cK O4 h9),(22,cK aaU aU),(25,cK Xt bh)]]) λh8=>gm ca v7 [[f0 h8]]) (λv9=>gR [[]]))) (λv3 v5 v6 v7 h5 f1 aB=>aq λba bn=>eB 3 [[(10,oL v1.xL eK)],[t0 (bk h5)],[(10,oE (j7 (aW h5)))],[(10,oE (j7 (aW h5)))],[(4,cK O4 bn)]] [1,3,4,5,6] 1 (λ(b8:aqy)=>⟨62,[(1,(.ptr 0 0)),(3,(aC v7)),(4,(ar (v3:Int))),(5,(cQ v5.cN)),(6,(aC b8))],[.cells (cE v1).cells]⟩) (BY N v7 v5 (λbq=>sr N v1 v6 (v3+1) bq)) (λf3 fu=>aw (λbZ=>aq λcu bK=>aq λv17 bV=>aF λcA=>aF λdv=>gm fu ((v17++(bs [42]))++v5.ao) [[t0 bZ],[(4,cK O4 bK),(7,cK aaU bV),(10,⟨_,_, .cat (n:=v17.size+(bs [42]).size) (aZ cA)⟩),(16,⟨_,_, .cat (n:=(v17++(bs [42])).size+v5.ao.size) (aZ dv)⟩)]]) λbZ=>gm fu v5.ao [[f0 bZ]]) (λb8=>aq λv15 b5=>gb aB v15 [[(13,cK Xt b5)],[(5,oq (bE h5 rfl h4))]] h5)))))
def LN(N:Nat)(v1:c8):aqz aqy:=
 (g_brocaderef06_Validate N v1).bind λv2=>
 bif (v2 !=0)then
  some (bs [])
 else
  bif v1.jB then
   (s9 N v1.aS).bind λv3=>
   bif (Nat.ble ((bs [48,32,61,61,32]).size+v3.size) 9223372036854775807)then
   some ((bs [48,32,61,61,32])++v3)
   else none
  else
   (s9 N v1.aS).bind λv4=>
   bif (Nat.ble ((bs [48,32,60,61,32]).size+v4.size) 9223372036854775807)then
   some ((bs [48,32,60,61,32])++v4)
   else none
theorem aeU{N v1}:KO 83 [(mP v1)] aC (LN N v1):=
 fw Tryz.func83 (aq λv2 h1=>gA [[],[(4,cK abl h1)]] (dd λ_=>aw (λh3=>aq λv3 h4=>aF λh5=>gR [[t0 h3],[(7,cK ze h4),(10,⟨_,_, .cat (n:=(bs [48,32,61,61,32]).size+v3.size) (aZ h5)⟩)]]) λh3=>aq λv4 h6=>aF λh7=>gR [[f0 h3],[(7,cK ze h6),(10,⟨_,_, .cat (n:=(bs [48,32,60,61,32]).size+v4.size) (aZ h7)⟩)]]))
def IF(N:Nat):aqx aR->Nat->aqz Bool
 |[],_=>
  some true
 |v4::v5,v2=>
  (nP N v4).bind λv6=>
  bif v6 then
   (IF N v5 (v2+1))
  else
   some false
def LQ(N:Nat)(v1:aqx aR):aqz Bool:=
 IF N v1 0
theorem UW{N v1}:KO 86 [(.d (.sl (c6 v1)))] aM (LQ N v1):=
 fw Tryz.func86 (gA [[],[]] (gT lh 0 v1 λh2=>dK 1 [] [0,3] 0 (λv2=>⟨16,[(0,(.d (.sl (c6 v1)))),(3,(ar (v2:Int)))],[]⟩) (λv2 h3 f1=>gR [[(7,oL v1 dT)],[f0 (bj h3)],[]]) (λv2 v4 v5 h3 f1 aB=>aq λv6 h4=>gA [[(7,oL v1 dT)],[t0 (bk h3)],[(7,oE (k9 (aW h3))),(13,cK rJ h4)]] (ff λh5=>gb aB () [[f0 (cb h5)],[(5,oq (bE h3 rfl h2))]] h3))))
def IQ(N:Nat)(v1:Int):aqz aqy:=
 bif (v1==1)then
  some (bs [102,108,111,111,114])
 else
  bif (v1==2)then
   some (bs [99,101,105,108])
  else
   bif (v1==3)then
    some (bs [122,101,114,111])
   else
    some (bs [101,118,101,110])
theorem af5{N v1}:KO 136 [(ar v1)] aC (IQ N v1):=
 fw Tryz.func136 (gA [[],[],[]] (dd λ_=>dd λ_=>bB λh3=>gR [[f0 h3],[]]))
def Gg(N:Nat)(v1:bA)(v3:aqy):aqz aqy:=
 bif (bl v1.cp==v1.cp)then
 Option.bind (nU N (Int64.ofInt v1.cp)) λv4=>
 bif (Nat.ble ((bs [102,105,120,40]).size+v4.size) 9223372036854775807)then
 bif (Nat.ble (((bs [102,105,120,40])++v4).size+(bs [44,32]).size) 9223372036854775807)then
 bif (bl v1.cq==v1.cq)then
 Option.bind (nU N (Int64.ofInt v1.cq)) λv5=>
 bif (Nat.ble ((((bs [102,105,120,40])++v4)++(bs [44,32])).size+v5.size) 9223372036854775807)then
 bif (Nat.ble (((((bs [102,105,120,40])++v4)++(bs [44,32]))++v5).size+(bs [44,32]).size) 9223372036854775807)then
 (IQ N v1.cU).bind λv6=>
 bif (Nat.ble ((((((bs [102,105,120,40])++v4)++(bs [44,32]))++v5)++(bs [44,32])).size+v6.size) 9223372036854775807)then
 bif (Nat.ble (((((((bs [102,105,120,40])++v4)++(bs [44,32]))++v5)++(bs [44,32]))++v6).size+(bs [44,32]).size) 9223372036854775807)then
 bif (Nat.ble ((((((((bs [102,105,120,40])++v4)++(bs [44,32]))++v5)++(bs [44,32]))++v6)++(bs [44,32])).size+v3.size) 9223372036854775807)then
 bif (Nat.ble (((((((((bs [102,105,120,40])++v4)++(bs [44,32]))++v5)++(bs [44,32]))++v6)++(bs [44,32]))++v3).size+(bs [41]).size) 9223372036854775807)then
 some (((((((((bs [102,105,120,40])++v4)++(bs [44,32]))++v5)++(bs [44,32]))++v6)++(bs [44,32]))++v3)++(bs [41]))
 else none
 else none
 else none
 else none
 else none
 else none
 else none
 else none
 else none
 else none
def xh(N:Nat)(v1:bA):aqz aqy:=
 (pP N v1).bind λv2=>
 bif v2 then
  bif (v1.b7==1)then
   some (bs [102,114,97,99])
  else
   bif (v1.b7==3)then
    some (bs [105,110,116])
   else
    bif (v1.cS==2)then
     Gg N v1 (bs [119,114,97,112])
    else
     Gg N v1 (bs [115,97,116])
 else
  some (bs [])
theorem MS{N v1}:KO 87 [(dH v1)] aC (xh N v1):=
 fw Tryz.func87 (aq λv2 h1=>gA [[],[(4,cK vO h1)]] (ff λh2=>gA [[f0 (cb h2)],[]] (dd λ_=>bB λh4=>eB 1 [[f0 h4],[],[]] [1,3] 1 (λ(v3:aqy)=>⟨34,[(1,(.ptr 0 0)),(3,(aC v3))],[.cells (dH v1).cells]⟩) (Gg N v1) (λf1 aB=>aw (λdv=>gm aB (bs [119,114,97,112]) [[t0 dv],[]]) λdv=>gm aB (bs [115,97,116]) [[f0 dv]]) (λv3=>aF λh5=>aq λv4 h6=>aF λh7=>aF λh8=>aF λh9=>aq λv5 aU=>aF λbh=>aF λbn=>aq λv6 b5=>aF λbZ=>aF λbK=>aF λbV=>aF λcA=>gR [[(5,⟨_,_, .eq (BV (beq_iff_eq.1 h5))⟩),(7,cK vY h6),(10,⟨_,_, .cat (n:=(bs [102,105,120,40]).size+v4.size) (aZ h7)⟩),(13,⟨_,_, .cat (n:=((bs [102,105,120,40])++v4).size+(bs [44,32]).size) (aZ h8)⟩),(20,⟨_,_, .eq (BV (beq_iff_eq.1 h9))⟩),(22,cK vY aU),(25,⟨_,_, .cat (n:=(((bs [102,105,120,40])++v4)++(bs [44,32])).size+v5.size) (aZ bh)⟩),(28,⟨_,_, .cat (n:=((((bs [102,105,120,40])++v4)++(bs [44,32]))++v5).size+(bs [44,32]).size) (aZ bn)⟩),(37,cK af5 b5),(40,⟨_,_, .cat (n:=(((((bs [102,105,120,40])++v4)++(bs [44,32]))++v5)++(bs [44,32])).size+v6.size) (aZ bZ)⟩),(43,⟨_,_, .cat (n:=((((((bs [102,105,120,40])++v4)++(bs [44,32]))++v5)++(bs [44,32]))++v6).size+(bs [44,32]).size) (aZ bK)⟩),(49,⟨_,_, .cat (n:=(((((((bs [102,105,120,40])++v4)++(bs [44,32]))++v5)++(bs [44,32]))++v6)++(bs [44,32])).size+v3.size) (aZ bV)⟩),(52,⟨_,_, .cat (n:=((((((((bs [102,105,120,40])++v4)++(bs [44,32]))++v5)++(bs [44,32]))++v6)++(bs [44,32]))++v3).size+(bs [41]).size) (aZ cA)⟩)]]))))
def I7(N:Nat)(v4:aR)(fD:aqy->aqz aqy)(v7:aqy):aqz aqy:=
 (s9 N v4).bind λv8=>
 bif (Nat.ble (v7.size+v8.size) 9223372036854775807)then
 fD (v7++v8)
 else none
def yQ(N:Nat):aqx aR->Nat->aqy->aqz aqy
 |[],_,v6=>
  some v6
 |v4::v5,v2,v6=>
  bif (decide ((v2:Int)>0))then
   bif (Nat.ble (v6.size+(bs [44,32]).size) 9223372036854775807)then
   I7 N v4 (λbq=>yQ N v5 (v2+1) bq) (v6++(bs [44,32]))
   else none
  else
   I7 N v4 (λbq=>yQ N v5 (v2+1) bq) v6
def D4(N:Nat)(v1:aqx aR):aqz aqy:=
 yQ N v1 0 (bs [])
theorem abI{N v1}:KO 88 [(.d (.sl (c6 v1)))] aC (D4 N v1):=
 fw Tryz.func88 (gA [[],[],[]] (gT lh 0 v1 λh2=>eM 1 [] [0,3,4] 0 (λv2(v6:aqy)=>⟨23,[(0,(.d (.sl (c6 v1)))),(3,(aC v6)),(4,(ar (v2:Int)))],[]⟩) (λv2 v6 h3 f1=>gR [[(7,oL v1 dT)],[f0 (bj h3)],[]]) (λv2 v4 v5 v6 h3 f1 aB=>eB 2 [[(7,oL v1 dT)],[t0 (bk h3)],[]] [0,3,4] 0 (λ(v7:aqy)=>⟨23,[(0,(.d (.sl (c6 v1)))),(3,(aC v7)),(4,(ar (v2:Int)))],[]⟩) (I7 N v4 (λbq=>yQ N v5 (v2+1) bq)) (λf2 ca=>aw (λh6=>aF λh7=>gm ca (v6++(bs [44,32])) [[t0 h6],[(4,⟨_,_, .cat (n:=v6.size+(bs [44,32]).size) (aZ h7)⟩)]]) λh6=>gm ca v6 [[f0 h6]]) (λv7=>aq λv8 h4=>aF λh5=>gb aB (v7++v8) [[(10,oE (k9 (aW h3))),(16,cK ze h4),(19,⟨_,_, .cat (n:=v7.size+v8.size) (aZ h5)⟩)],[(5,oq (bE h3 rfl h2))]] h3))))
def Kt(N:Nat)(v4:cd)(fD:aqy->aqz (aqy×Bool))(v10:aqy):aqz (aqy×Bool):=
 bif (Nat.ble (v10.size+v4.ao.size) 9223372036854775807)then
 bif (Nat.ble ((v10++v4.ao).size+(bs [32,60,32]).size) 9223372036854775807)then
 (s9 N v4.cw).bind λv11=>
 bif (Nat.ble (((v10++v4.ao)++(bs [32,60,32])).size+v11.size) 9223372036854775807)then
 fD (((v10++v4.ao)++(bs [32,60,32]))++v11)
 else none
 else none
 else none
def y7(N:Nat):aqx cd->Nat->aqy->aqz (aqy×Bool)
 |[],_,v6=>
  some (v6,true)
 |v4::v5,v2,v6=>
  (ph N v4.ao).bind λv7=>
  Option.bind (bif v7 then (nP N v4.cw).bind λv8=>
  some (!v8)else some true) λv9=>
  bif v9 then
   some ((bs []),false)
  else
   bif (decide ((v2:Int)>0))then
    bif (Nat.ble (v6.size+(bs [44,32]).size) 9223372036854775807)then
    Kt N v4 (λbq=>y7 N v5 (v2+1) bq) (v6++(bs [44,32]))
    else none
   else
    Kt N v4 (λbq=>y7 N v5 (v2+1) bq) v6
def FK(N:Nat)(v1:aqx cd):aqz (aqy×Bool):=
 y7 N v1 0 (bs [])
theorem aaF{N v1}:KO 137 [(.d (.sl (du v1)))] (λr=> .bz [(aC r.1),(aM r.2)]) (FK N v1):=
 fw Tryz.func137 (gA [[],[],[]] (gT kW 0 v1 λh2=>eM 1 [] [0,4,5] 0 (λv2(v6:aqy)=>⟨48,[(0,(.d (.sl (du v1)))),(4,(aC v6)),(5,(ar (v2:Int)))],[]⟩) (λv2 v6 h3 f1=>gR [[(7,oL v1 dB)],[f0 (bj h3)],[]]) (λv2 v4 v5 v6 h3 f1 aB=>gA [[(7,oL v1 dB)],[t0 (bk h3)]] (aq λv7 h4=>gG (λv9=>[(27,(aM v9))]) (λ_=>[]) (cf (7,oE (iE (aW h3))) (cf (16,cK tQ h4) (aw (λh5=>aq λv8 h6=>gE [(7,bF (cb h5))] [(31,oE (iE (aW h3))),(40,cK rJ h6)]) λh5=>gE [(7,bT (cW h5))] []))) λv9=>bB λh8=>eB 2 [[f0 h8],[]] [0,4,5] 0 (λ(v10:aqy)=>⟨48,[(0,(.d (.sl (du v1)))),(4,(aC v10)),(5,(ar (v2:Int)))],[]⟩) (Kt N v4 (λbq=>y7 N v5 (v2+1) bq)) (λf2 ca=>aw (λb5=>aF λbZ=>gm ca (v6++(bs [44,32])) [[t0 b5],[(4,⟨_,_, .cat (n:=v6.size+(bs [44,32]).size) (aZ bZ)⟩)]]) λb5=>gm ca v6 [[f0 b5]]) (λv10=>aF λh9=>aF λaU=>aq λv11 bh=>aF λbn=>gb aB (((v10++v4.ao)++(bs [32,60,32]))++v11) [[(10,oE (iE (aW h3))),(19,⟨_,_, .cat (n:=v10.size+v4.ao.size) (aZ h9)⟩),(22,⟨_,_, .cat (n:=(v10++v4.ao).size+(bs [32,60,32]).size) (aZ aU)⟩),(31,oE (iE (aW h3))),(40,cK ze bh),(43,⟨_,_, .cat (n:=((v10++v4.ao)++(bs [32,60,32])).size+v11.size) (aZ bn)⟩)],[(5,oq (bE h3 rfl h2))]] h3)))))
def PS(N:Nat)(v1:Int):aqz aqy:=
 bif (v1==4)then
  some (bs [32,43,32])
 else
  bif (v1==5)then
   some (bs [32,45,32])
  else
   bif (v1==6)then
    some (bs [32,42,32])
   else
    bif (v1==7)then
     some (bs [32,47,32])
    else
     bif (v1==13)then
      some (bs [32,60,32])
     else
      bif (v1==14)then
       some (bs [32,60,61,32])
      else
       bif (v1==15)then
        some (bs [32,61,61,32])
       else
        bif (v1==16)then
         some (bs [32,38,32])
        else
         bif (v1==17)then
          some (bs [32,124,32])
         else
          some (bs [])
theorem aoQ{N v1}:KO 213 [(ar v1)] aC (PS N v1):=
 fw Tryz.func213 (gA [[],[],[]] (dd λ_=>dd λ_=>dd λ_=>dd λ_=>dd λ_=>dd λ_=>dd λ_=>dd λ_=>bB λh9=>gR [[f0 h9],[]]))
def Ls(N:Nat)(v1:bA)(v2:dx):aqz Bool:=
 (pP N v1).bind λv3=>
 Option.bind (bif v3 then (x7 N v1 v2).bind λv4=>
 some v4 else some false) λv5=>
 some v5
theorem aj6{N v1 v2}:KO 245 [(dH v1),(aVal v2)] aM (Ls N v1 v2):=
 fw Tryz.func245 (gA [[]] (aq λv3 h1=>gG (λv5=>[(4,(aM v5))]) (λ_=>[.cells (dH v1).cells, .cells (aVal v2).cells]) (cf (4,cK vO h1) (aw (λh2=>aq λv4 h3=>gE [(2,bT h2)] [(16,cK Ni h3)]) λh2=>gE [(2,bF h2)] [])) λv5=>gR []))
def IW(N:Nat)(v1:bA):aqz Int64:=
 bif (decide ((0:Int)<=(IntKind.u64.wrap v1.cq)))then
 some (Int64.ofInt ((1:Int)*2^(min ((IntKind.u64.wrap v1.cq)).toNat (IntKind.bits .i64))))
 else none
theorem afx{N v1}:KO 264 [(dH v1)] cQ (IW N v1):=
 fw Tryz.func264 (aF λh1=>gR [[],[(10,⟨_,_, .nn (b:=(IntKind.u64.wrap v1.cq)) (of_decide_eq_true h1)⟩),(11,⟨_,_, .eq (nk ((1:Int)*2^(min ((IntKind.u64.wrap v1.cq)).toNat (IntKind.bits .i64))))⟩)]])
def DP(N:Nat):Nat->Int->Int->aqz Int
 |0,_,_=>none
 |v3+1,v4,v5=>
  bif (v5 !=0)then
   (λbq fc=>DP N v3 bq fc) v5 ((v4).tmod v5)
  else
   some v4
def Pv(N:Nat)(v1:Int)(v2:Int):aqz Int:=
 DP N N v1 v2
theorem al3{N v1 v2}:KO 275 [(.d (.v (.int .u64 v1))),(.d (.v (.int .u64 v2)))] (λr=> .d (.v (.int .u64 r))) (Pv N v1 v2):=
 fw Tryz.func275 (rT 1 [[]] [0,1] 0 (λ(v4:Int)(v5:Int)=>⟨12,[(0,(.d (.v (.int .u64 v4)))),(1,(.d (.v (.int .u64 v5))))],[]⟩) (DP N) (λv3 v4 v5 f1 aB=>gA [[]] (lT λh1=>nB aB (v5,((v4).tmod v5)) [[t0 h1],[(10,⟨_,_, .nz (b:=v5) (bne_iff_ne.1 h1)⟩)]])))
def M8(N:Nat)(v1:Bool)(v2:Int)(v3:Int):aqz (dx×Int):=
 (Pv N v2 v3).bind λv4=>
 bif (v4 !=0)then
 Option.bind (bif (decide ((IntKind.u64.wrap ((v2).tdiv v4))>2147483647))then some true else some (decide ((IntKind.u64.wrap ((v3).tdiv v4))>2147483647))) λv5=>
 bif v5 then
  some (zG,(3:Int))
 else
  bif v1 then
   some ((⟨(-(Int64.ofInt (IntKind.u64.wrap ((v2).tdiv v4)))),(Int64.ofInt (IntKind.u64.wrap ((v3).tdiv v4)))⟩:dx),(0:Int))
  else
   some ((⟨(Int64.ofInt (IntKind.u64.wrap ((v2).tdiv v4))),(Int64.ofInt (IntKind.u64.wrap ((v3).tdiv v4)))⟩:dx),(0:Int))
 else none
theorem akz{N v1 v2 v3}:KO 274 [(aM v1),(.d (.v (.int .u64 v2))),(.d (.v (.int .u64 v3)))] (λr=> .bz [(aVal r.1),(ar r.2)]) (M8 N v1 v2 v3):=
 fw Tryz.func274 (aq λv4 h1=>aF λh2=>gA [[],[(7,cK al3 h1)],[(7,⟨_,_, .nz (b:=v4) (bne_iff_ne.1 h2)⟩)],[(7,⟨_,_, .nz (b:=v4) (bne_iff_ne.1 h2)⟩)]] (gG (λv5=>[(23,(aM v5))]) (λ_=>[.cells Oh]) (aw (λh4=>gE [(2,bT h4)] []) λh4=>gE [(2,bF h4)] []) λv5=>dd λ_=>aw (λh7=>gR [[t0 h7],[(5,⟨_,_, .eq (nk (IntKind.u64.wrap ((v2).tdiv v4)))⟩),(8,⟨_,_, .eq (xy (Int64.ofInt (IntKind.u64.wrap ((v2).tdiv v4))))⟩),(14,⟨_,_, .eq (nk (IntKind.u64.wrap ((v3).tdiv v4)))⟩)]]) λh7=>gR [[f0 h7],[(5,⟨_,_, .eq (nk (IntKind.u64.wrap ((v2).tdiv v4)))⟩),(11,⟨_,_, .eq (nk (IntKind.u64.wrap ((v3).tdiv v4)))⟩)]]))
def IN(N:Nat)(v1:Int64)(v2:Int64):aqz (dx×Int):=
 bif (v2.toInt==0)then
  some (zG,(4:Int))
 else
  (BN N v1).bind λv3=>
  (BN N v2).bind λv4=>
  Option.bind (M8 N (!((decide (v1.toInt<0))==(decide (v2.toInt<0)))) v3 v4) λv5=>
  some (v5.1,v5.2)
theorem aho{N v1 v2}:KO 263 [(cQ v1),(cQ v2)] (λr=> .bz [(aVal r.1),(ar r.2)]) (IN N v1 v2):=
 fw Tryz.func263 (gA [[],[]] (bB λh1=>aq λv3 h2=>aq λv4 h3=>aq λv5 h4=>gR [[f0 h1],[(19,cK I6 h2),(25,cK I6 h3),(28,cK akz h4)]]))
def Td(N:Nat)(v3:Int64)(v4:Int64):aqz dx:=
 some (⟨v3,v4⟩:dx)
def JR(N:Nat)(v1:bA)(v2:dx):aqz dx:=
 bif (v1.b7==2)then
  (IW N v1).bind λv5=>
  (IN N v2.xN v5).bind λv6=>
  Td N v6.1.xN v6.1.xD
 else
  Td N v2.xN v2.xD
theorem ahe{N v1 v2}:KO 247 [(dH v1),(aVal v2)] aVal (JR N v1 v2):=
 fw Tryz.func247 (gj2 1 [[],[]] [3,4] 3 (λ(v3:Int64)(v4:Int64)=>⟨17,[(3,(.ptr 1 0)),(4,(.ptr 2 0))],[.cells (dH v1).cells, .cells [(cQ v3),(cQ v4)], .cells Oh]⟩) (Td N) (λf1 aB=>aw (λh1=>aq λv5 h2=>aq λv6 h3=>gm aB (v6.1.xN,v6.1.xD) [[t0 h1],[(10,cK afx h2),(13,cK aho h3)]]) λh1=>gm aB (v2.xN,v2.xD) [[f0 h1]]) (λv3 v4=>gR [[]]))
def OA(N:Nat)(v1:dx):aqz Bool:=
 Option.bind (x7 N (⟨(1:Int),(0:Int),(0:Int),(0:Int),(0:Int)⟩:bA) v1) λv2=>
 some v2
theorem ah0{N v1}:KO 262 [(aVal v1)] aM (OA N v1):=
 fw Tryz.func262 (aq λv2 h1=>gR [[],[(7,cK Ni h1)]])
def G7(N:Nat)(v1:dx):aqz aqy:=
 (OA N v1).bind λv2=>
 bif v2 then
  bif (v1.xD.toInt==1)then
   (nU N v1.xN).bind λv3=>
   some v3
  else
   (nU N v1.xN).bind λv4=>
   bif (Nat.ble (v4.size+(bs [47]).size) 9223372036854775807)then
   (nU N v1.xD).bind λv5=>
   bif (Nat.ble ((v4++(bs [47])).size+v5.size) 9223372036854775807)then
   some ((v4++(bs [47]))++v5)
   else none
   else none
 else
  some (bs [])
theorem amu{N v1}:KO 246 [(aVal v1)] aC (G7 N v1):=
 fw Tryz.func246 (aq λv2 h1=>gA [[],[(4,cK ah0 h1)]] (ff λh2=>gA [[f0 (cb h2)],[]] (aw (λh3=>aq λv3 h4=>gR [[t0 h3],[(7,cK vY h4)]]) λh3=>aq λv4 h5=>aF λh6=>aq λv5 h7=>aF λh8=>gR [[f0 h3],[(7,cK vY h5),(10,⟨_,_, .cat (n:=v4.size+(bs [47]).size) (aZ h6)⟩),(19,cK vY h7),(22,⟨_,_, .cat (n:=(v4++(bs [47])).size+v5.size) (aZ h8)⟩)]])))
def Om(N:Nat)(v1:bA)(v2:dx):aqz aqy:=
 (Ls N v1 v2).bind λv3=>
 bif v3 then
  (JR N v1 v2).bind λv4=>
  (G7 N v4).bind λv5=>
  some v5
 else
  some (bs [])
theorem acV{N v1 v2}:KO 216 [(dH v1),(aVal v2)] aC (Om N v1 v2):=
 fw Tryz.func216 (aq λv3 h1=>gA [[],[(7,cK aj6 h1)]] (ff λh2=>aq λv4 h3=>aq λv5 h4=>gR [[f0 (cb h2)],[(7,cK ahe h3),(10,cK amu h4)]]))
def Dt(N:Nat)(v1:bH):aqz aqy:=
 (nP N v1.aS).bind λv2=>
 Option.bind (bif v2 then (LQ N v1.bO).bind λv3=>
 some (!v3)else some true) λv4=>
 bif v4 then
  some (bs [])
 else
  bif (bL v1.bR==bL (bs []))then
   bif (decide ((v1.bO.length:Int)>0))then
    some (bs [])
   else
    (s9 N v1.aS).bind λv5=>
    some v5
  else
   (ph N v1.bR).bind λv6=>
   Option.bind (bif v6 then(bif (v1.aS.xK.toInt !=0)then some true else some (decide ((v1.aS.xL.length:Int)>0)))else some true) λv7=>
   bif v7 then
    some (bs [])
   else
    bif (Nat.ble (v1.bR.size+(bs [91]).size) 9223372036854775807)then
    (D4 N v1.bO).bind λv8=>
    bif (Nat.ble ((v1.bR++(bs [91])).size+v8.size) 9223372036854775807)then
    bif (Nat.ble (((v1.bR++(bs [91]))++v8).size+(bs [93]).size) 9223372036854775807)then
    some (((v1.bR++(bs [91]))++v8)++(bs [93]))
    else none
    else none
    else none
theorem alK{N v1}:KO 217 [(fZ v1)] aC (Dt N v1):=
 fw Tryz.func217 (gA [[]] (aq λv2 h1=>gG (λv4=>[(12,(aM v4))]) (λ_=>[.cells (fZ v1).cells]) (cf (7,cK rJ h1) (aw (λh2=>aq λv3 h3=>gE [(4,bF (cb h2))] [(22,cK UW h3)]) λh2=>gE [(4,bT (cW h2))] [])) λv4=>dd λ_=>aw (λh6=>gA [[t0 h6],[(7,oL v1.bO dT)]] (bB λh7=>aq λv5 h8=>gR [[f0 h7],[(7,cK ze h8)]])) λh6=>gA [[f0 h6]] (aq λv6 h9=>gG (λv7=>[(39,(aM v7))]) (λ_=>[.cells (fZ v1).cells]) (cf (7,cK tQ h9) (aw (λaU=>bU (4,bF (cb aU)) (aw (λbh=>gE [(10,bT bh)] []) λbh=>gE [(10,bF bh)] [(43,oL v1.aS.xL eK)])) λaU=>gE [(4,bT (cW aU)),(10,bT rfl)] [])) λv7=>bB λb5=>aF λbZ=>aq λv8 bK=>aF λbV=>aF λcA=>gR [[f0 b5],[(7,⟨_,_, .cat (n:=v1.bR.size+(bs [91]).size) (aZ bZ)⟩),(16,cK abI bK),(19,⟨_,_, .cat (n:=(v1.bR++(bs [91])).size+v8.size) (aZ bV)⟩),(22,⟨_,_, .cat (n:=((v1.bR++(bs [91]))++v8).size+(bs [93]).size) (aZ cA)⟩)]])))
def Jj(N:Nat)(v1:Int)(v4:Bool):aqz Int:=
 bif v4 then
  some (6:Int)
 else
  bif (v1==8)then
   some (7:Int)
  else
   some (8:Int)
def Jw(N:Nat)(v1:Int)(v3:Bool):aqz Int:=
 bif v3 then
  some (5:Int)
 else
  bif (v1==6)then
   Jj N v1 (v1==6)
  else
   Jj N v1 (v1==7)
def GI(N:Nat)(v1:Int)(v2:Bool):aqz Int:=
 bif v2 then
  some (4:Int)
 else
  bif (v1==4)then
   Jw N v1 (v1==4)
  else
   Jw N v1 (v1==5)
def xf(N:Nat)(v1:Int):aqz Int:=
 bif (v1==17)then
  some (1:Int)
 else
  bif (v1==16)then
   some (2:Int)
  else
   bif (v1==18)then
    some (3:Int)
   else
    bif (v1==13)then
     GI N v1 (v1==13)
    else
     bif (v1==14)then
      GI N v1 (v1==14)
     else
      GI N v1 (v1==15)
theorem Nc{N v1}:KO 215 [(ar v1)] ar (xf N v1):=
 fw Tryz.func215 (gA [[],[],[]] (dd λ_=>dd λ_=>bB λh3=>eB 1 [[f0 h3],[]] [3,10] 0 (λ(v2:Bool)=>⟨22,[(3,(ar v1)),(10,(aM v2))],[]⟩) (GI N v1) (λf1 aB=>aw (λaU=>gm aB (v1==13) [[t0 aU]]) λaU=>gA [[f0 aU],[]] (aw (λbh=>gm aB (v1==14) [[t0 bh]]) λbh=>gm aB (v1==15) [[f0 bh],[]])) (λv2=>bB λh4=>eB 2 [[f0 h4],[]] [3,14] 0 (λ(v3:Bool)=>⟨22,[(3,(ar v1)),(14,(aM v3))],[]⟩) (Jw N v1) (λf2 ca=>aw (λh9=>gm ca (v1==4) [[t0 h9]]) λh9=>gm ca (v1==5) [[f0 h9],[]]) (λv3=>bB λh5=>eB 3 [[f0 h5],[]] [3,17] 0 (λ(v4:Bool)=>⟨22,[(3,(ar v1)),(17,(aM v4))],[]⟩) (Jj N v1) (λf3 fu=>aw (λh8=>gm fu (v1==6) [[t0 h8]]) λh8=>gm fu (v1==7) [[f0 h8],[]]) (λv4=>dd λ_=>bB λh7=>gR [[f0 h7],[]])))))
def JM(N:Nat)(v8:bH)(fD:aqy->aqz aqy)(v11:aqy):aqz aqy:=
 (Dt N v8).bind λv12=>
 bif (Nat.ble (v11.size+v12.size) 9223372036854775807)then
 fD (v11++v12)
 else none
def xl(N:Nat):aqx bH->Nat->aqy->aqz aqy
 |[],_,v10=>
  bif (Nat.ble (v10.size+(bs [93]).size) 9223372036854775807)then
  some (v10++(bs [93]))
  else none
 |v8::v9,v6,v10=>
  bif (decide ((v6:Int)>0))then
   bif (Nat.ble (v10.size+(bs [44,32]).size) 9223372036854775807)then
   JM N v8 (λbq=>xl N v9 (v6+1) bq) (v10++(bs [44,32]))
   else none
  else
   JM N v8 (λbq=>xl N v9 (v6+1) bq) v10
mutual
def g_brocaderef15_textR(N:Nat):Nat->au->aqz aqy
 |0,_=>none
 |d+1,v1=>
  (PS N v1.aJ).bind λv2=>
  bif (bL v2==bL (bs []))then
   bif (v1.aJ==1)then
    (xh N v1.aO).bind λv3=>
    bif (Nat.ble (v3.size+(bs [40]).size) 9223372036854775807)then
    (Om N v1.aO v1.dM).bind λv4=>
    bif (Nat.ble ((v3++(bs [40])).size+v4.size) 9223372036854775807)then
    bif (Nat.ble (((v3++(bs [40]))++v4).size+(bs [41]).size) 9223372036854775807)then
    some (((v3++(bs [40]))++v4)++(bs [41]))
    else none
    else none
    else none
   else
    bif (v1.aJ==2)then
     (s9 N v1.aS).bind λv5=>
     bif (Nat.ble ((bs [91]).size+v5.size) 9223372036854775807)then
     bif (Nat.ble (((bs [91])++v5).size+(bs [93]).size) 9223372036854775807)then
     some (((bs [91])++v5)++(bs [93]))
     else none
     else none
    else
     bif (v1.aJ==3)then
      bif (Nat.ble (v1.ao.size+(bs [91]).size) 9223372036854775807)then
      xl N v1.xIdx 0 (v1.ao++(bs [91]))
      else none
     else
      bif (v1.aJ==8)then
       Option.bind (v1.bp[0]?) λba=>
       Option.bind ((pQ N d) ba (7:Int)) λb8=>
       bif (Nat.ble ((bs [45]).size+b8.size) 9223372036854775807)then
       some ((bs [45])++b8)
       else none
      else
       bif (v1.aJ==18)then
        Option.bind (v1.bp[0]?) λv15=>
        Option.bind ((pQ N d) v15 (3:Int)) λcu=>
        bif (Nat.ble ((bs [33]).size+cu.size) 9223372036854775807)then
        some ((bs [33])++cu)
        else none
       else
        bif (v1.aJ==9)then
         Option.bind (v1.bp[0]?) λv17=>
         Option.bind ((g_brocaderef15_textR N d) v17) λcJ=>
         bif (Nat.ble ((bs [109,105,110,40]).size+cJ.size) 9223372036854775807)then
         bif (Nat.ble (((bs [109,105,110,40])++cJ).size+(bs [44,32]).size) 9223372036854775807)then
         Option.bind (v1.bp[1]?) λdy=>
         Option.bind ((g_brocaderef15_textR N d) dy) λv20=>
         bif (Nat.ble ((((bs [109,105,110,40])++cJ)++(bs [44,32])).size+v20.size) 9223372036854775807)then
         bif (Nat.ble (((((bs [109,105,110,40])++cJ)++(bs [44,32]))++v20).size+(bs [41]).size) 9223372036854775807)then
         some (((((bs [109,105,110,40])++cJ)++(bs [44,32]))++v20)++(bs [41]))
         else none
         else none
         else none
         else none
        else
         bif (v1.aJ==10)then
          Option.bind (v1.bp[0]?) λv21=>
          Option.bind ((g_brocaderef15_textR N d) v21) λv22=>
          bif (Nat.ble ((bs [109,97,120,40]).size+v22.size) 9223372036854775807)then
          bif (Nat.ble (((bs [109,97,120,40])++v22).size+(bs [44,32]).size) 9223372036854775807)then
          Option.bind (v1.bp[1]?) λv23=>
          Option.bind ((g_brocaderef15_textR N d) v23) λv24=>
          bif (Nat.ble ((((bs [109,97,120,40])++v22)++(bs [44,32])).size+v24.size) 9223372036854775807)then
          bif (Nat.ble (((((bs [109,97,120,40])++v22)++(bs [44,32]))++v24).size+(bs [41]).size) 9223372036854775807)then
          some (((((bs [109,97,120,40])++v22)++(bs [44,32]))++v24)++(bs [41]))
          else none
          else none
          else none
          else none
         else
          bif (v1.aJ==11)then
           Option.bind (v1.bp[0]?) λv25=>
           Option.bind ((g_brocaderef15_textR N d) v25) λv26=>
           bif (Nat.ble ((bs [105,102,40]).size+v26.size) 9223372036854775807)then
           bif (Nat.ble (((bs [105,102,40])++v26).size+(bs [44,32]).size) 9223372036854775807)then
           Option.bind (v1.bp[1]?) λcV=>
           Option.bind ((g_brocaderef15_textR N d) cV) λv28=>
           bif (Nat.ble ((((bs [105,102,40])++v26)++(bs [44,32])).size+v28.size) 9223372036854775807)then
           bif (Nat.ble (((((bs [105,102,40])++v26)++(bs [44,32]))++v28).size+(bs [44,32]).size) 9223372036854775807)then
           Option.bind (v1.bp[2]?) λie=>
           Option.bind ((g_brocaderef15_textR N d) ie) λv30=>
           bif (Nat.ble ((((((bs [105,102,40])++v26)++(bs [44,32]))++v28)++(bs [44,32])).size+v30.size) 9223372036854775807)then
           bif (Nat.ble (((((((bs [105,102,40])++v26)++(bs [44,32]))++v28)++(bs [44,32]))++v30).size+(bs [41]).size) 9223372036854775807)then
           some (((((((bs [105,102,40])++v26)++(bs [44,32]))++v28)++(bs [44,32]))++v30)++(bs [41]))
           else none
           else none
           else none
           else none
           else none
           else none
          else
           (xh N v1.aO).bind λv31=>
           bif (Nat.ble ((bs [99,97,115,116,40]).size+v31.size) 9223372036854775807)then
           bif (Nat.ble (((bs [99,97,115,116,40])++v31).size+(bs [44,32]).size) 9223372036854775807)then
           Option.bind (v1.bp[0]?) λv32=>
           Option.bind ((g_brocaderef15_textR N d) v32) λv33=>
           bif (Nat.ble ((((bs [99,97,115,116,40])++v31)++(bs [44,32])).size+v33.size) 9223372036854775807)then
           bif (Nat.ble (((((bs [99,97,115,116,40])++v31)++(bs [44,32]))++v33).size+(bs [41]).size) 9223372036854775807)then
           some (((((bs [99,97,115,116,40])++v31)++(bs [44,32]))++v33)++(bs [41]))
           else none
           else none
           else none
           else none
  else
   Option.bind (v1.bp[0]?) λmO=>
   (xf N v1.aJ).bind λv35=>
   Option.bind ((pQ N d) mO v35) λkQ=>
   bif (Nat.ble (kQ.size+v2.size) 9223372036854775807)then
   Option.bind (v1.bp[1]?) λv37=>
   (xf N v1.aJ).bind λkT=>
   Option.bind ((pQ N d) v37 (bl (kT+(1:Int)))) λv39=>
   bif (Nat.ble ((kQ++v2).size+v39.size) 9223372036854775807)then
   some ((kQ++v2)++v39)
   else none
   else none
def pQ(N:Nat):Nat->au->Int->aqz aqy
 |0,_,_=>none
 |d+1,v1,v2=>
  (xf N v1.aJ).bind λv3=>
  bif (decide (v3<v2))then
   Option.bind ((g_brocaderef15_textR N d) v1) λv4=>
   bif (Nat.ble ((bs [40]).size+v4.size) 9223372036854775807)then
   bif (Nat.ble (((bs [40])++v4).size+(bs [41]).size) 9223372036854775807)then
   some (((bs [40])++v4)++(bs [41]))
   else none
   else none
  else
   Option.bind ((g_brocaderef15_textR N d) v1) λv5=>
   some v5
end
def QC(N:Nat)(v1:au):aqz aqy:=g_brocaderef15_textR N N v1
theorem akt(N:Nat):∀d:Nat,(∀{v1:au},KO 179 [(aN v1)] aC (g_brocaderef15_textR N d v1))/\(∀{v1:au}{v2:Int},KO 214 [(aN v1),(ar v2)] aC (pQ N d v1 v2)):=by
 intro d
 induction d with
 |zero=>exact⟨(by intro v1 r hF;rw[g_brocaderef15_textR]at hF;cases hF),(by intro v1 v2 r hF;rw[pQ]at hF;cases hF)⟩
 |succ d ih=>
  have rW:= @ih.1;have Jb:= @ih.2;refine⟨?_,?_⟩
  ·intro v1;rw[g_brocaderef15_textR];exact fw Tryz.func179 (aq λv2 h1=>gA [[],[(7,cK aoQ h1)],[]] (aw (λh2=>gA [[(0,bF (cb h2))],[],[]] (aw (λh3=>aq λv3 h4=>aF λh5=>aq λv4 h6=>aF λh7=>aF λh8=>gR [[(0,bT h3)],[(7,cK MS h4),(10,⟨_,_, .cat (n:=v3.size+(bs [40]).size) (aZ h5)⟩),(25,cK acV h6),(28,⟨_,_, .cat (n:=(v3++(bs [40])).size+v4.size) (aZ h7)⟩),(31,⟨_,_, .cat (n:=((v3++(bs [40]))++v4).size+(bs [41]).size) (aZ h8)⟩)]]) λh3=>gA [[(0,bF h3)],[]] (aw (λh9=>aq λv5 aU=>aF λbh=>aF λbn=>gR [[(0,bT h9)],[(7,cK ze aU),(10,⟨_,_, .cat (n:=(bs [91]).size+v5.size) (aZ bh)⟩),(13,⟨_,_, .cat (n:=((bs [91])++v5).size+(bs [93]).size) (aZ bn)⟩)]]) λh9=>gA [[(0,bF h9)],[]] (aw (λb5=>aF λbZ=>gA [[(0,bT b5)],[(7,⟨_,_, .cat (n:=v1.ao.size+(bs [91]).size) (aZ bZ)⟩)],[]] (gB lX 0 11 v1.xIdx λbV=>eM 1 [] [1,4,5] 1 (λv6(v10:aqy)=>⟨162,[(1,(.ptr 0 0)),(4,(aC v10)),(5,(ar (v6:Int)))],[.cells (aN v1).cells]⟩) (λv6 v10 cA f1=>aF λdv=>gR [[(10,oL v1.xIdx fx)],[(0,bF (bj cA))],[(4,⟨_,_, .cat (n:=v10.size+(bs [93]).size) (aZ dv)⟩)]]) (λv6 v8 v9 v10 cA f1 aB=>eB 2 [[(10,oL v1.xIdx fx)],[(0,bT (bk cA))],[]] [1,4,5] 1 (λ(v11:aqy)=>⟨162,[(1,(.ptr 0 0)),(4,(aC v11)),(5,(ar (v6:Int)))],[.cells (aN v1).cells]⟩) (JM N v8 (λbq=>xl N v9 (v6+1) bq)) (λf2 ca=>aw (λdN=>aF λfe=>gm ca (v10++(bs [44,32])) [[(0,bT dN)],[(4,⟨_,_, .cat (n:=v10.size+(bs [44,32]).size) (aZ fe)⟩)]]) λdN=>gm ca v10 [[(0,bF dN)]]) (λv11=>aq λv12 eu=>aF λcH=>gb aB (v11++v12) [[(13,oE (gx (aW cA))),(19,cK alK eu),(22,⟨_,_, .cat (n:=v11.size+v12.size) (aZ cH)⟩)],[(5,oq (bE cA rfl bV))]] cA)))) λb5=>gA [[(0,bF b5)],[]] (aw (λdQ=>aq λba eG=>aq λb8 fQ=>aF λe9=>gR [[(0,bT dQ)],[(7,oE (k:=0) (fX eG)),(13,cK Jb fQ),(16,⟨_,_, .cat (n:=(bs [45]).size+b8.size) (aZ e9)⟩)]]) λdQ=>gA [[(0,bF dQ)],[]] (aw (λfG=>aq λv15 gg=>aq λcu iw=>aF λgL=>gR [[(0,bT fG)],[(7,oE (k:=0) (fX gg)),(13,cK Jb iw),(16,⟨_,_, .cat (n:=(bs [33]).size+cu.size) (aZ gL)⟩)]]) λfG=>gA [[(0,bF fG)],[]] (aw (λiX=>aq λv17 jD=>aq λcJ ju=>aF λlk=>aF λmy=>aq λdy kX=>aq λv20 ot=>aF λou=>aF λmf=>gR [[(0,bT iX)],[(7,oE (k:=0) (fX jD)),(13,cK rW ju),(16,⟨_,_, .cat (n:=(bs [109,105,110,40]).size+cJ.size) (aZ lk)⟩),(19,⟨_,_, .cat (n:=((bs [109,105,110,40])++cJ).size+(bs [44,32]).size) (aZ my)⟩),(28,oE (k:=1) (fX kX)),(34,cK rW ot),(37,⟨_,_, .cat (n:=(((bs [109,105,110,40])++cJ)++(bs [44,32])).size+v20.size) (aZ ou)⟩),(40,⟨_,_, .cat (n:=((((bs [109,105,110,40])++cJ)++(bs [44,32]))++v20).size+(bs [41]).size) (aZ mf)⟩)]]) λiX=>gA [[(0,bF iX)],[]] (aw (λl9=>aq λv21 oT=>aq λv22 oD=>aF λyr=>aF λyw=>aq λv23 sZ=>aq λv24 GC=>aF λCo=>aF λFg=>gR [[(0,bT l9)],[(7,oE (k:=0) (fX oT)),(13,cK rW oD),(16,⟨_,_, .cat (n:=(bs [109,97,120,40]).size+v22.size) (aZ yr)⟩),(19,⟨_,_, .cat (n:=((bs [109,97,120,40])++v22).size+(bs [44,32]).size) (aZ yw)⟩),(28,oE (k:=1) (fX sZ)),(34,cK rW GC),(37,⟨_,_, .cat (n:=(((bs [109,97,120,40])++v22)++(bs [44,32])).size+v24.size) (aZ Co)⟩),(40,⟨_,_, .cat (n:=((((bs [109,97,120,40])++v22)++(bs [44,32]))++v24).size+(bs [41]).size) (aZ Fg)⟩)]]) λl9=>gA [[(0,bF l9)],[]] (aw (λE5=>aq λv25 iU=>aq λv26 h51=>aF λh52=>aF λh53=>aq λcV h54=>aq λv28 h55=>aF λh56=>aF λh57=>aq λie h58=>aq λv30 h59=>aF λh60=>aF λh61=>gR [[(0,bT E5)],[(7,oE (k:=0) (fX iU)),(13,cK rW h51),(16,⟨_,_, .cat (n:=(bs [105,102,40]).size+v26.size) (aZ h52)⟩),(19,⟨_,_, .cat (n:=((bs [105,102,40])++v26).size+(bs [44,32]).size) (aZ h53)⟩),(28,oE (k:=1) (fX h54)),(34,cK rW h55),(37,⟨_,_, .cat (n:=(((bs [105,102,40])++v26)++(bs [44,32])).size+v28.size) (aZ h56)⟩),(40,⟨_,_, .cat (n:=((((bs [105,102,40])++v26)++(bs [44,32]))++v28).size+(bs [44,32]).size) (aZ h57)⟩),(49,oE (k:=2) (fX h58)),(55,cK rW h59),(58,⟨_,_, .cat (n:=(((((bs [105,102,40])++v26)++(bs [44,32]))++v28)++(bs [44,32])).size+v30.size) (aZ h60)⟩),(61,⟨_,_, .cat (n:=((((((bs [105,102,40])++v26)++(bs [44,32]))++v28)++(bs [44,32]))++v30).size+(bs [41]).size) (aZ h61)⟩)]]) λE5=>aq λv31 h62=>aF λRb=>aF λh64=>aq λv32 h65=>aq λv33 h66=>aF λh67=>aF λh68=>gR [[(0,bF E5)],[(7,cK MS h62),(10,⟨_,_, .cat (n:=(bs [99,97,115,116,40]).size+v31.size) (aZ Rb)⟩),(13,⟨_,_, .cat (n:=((bs [99,97,115,116,40])++v31).size+(bs [44,32]).size) (aZ h64)⟩),(22,oE (k:=0) (fX h65)),(28,cK rW h66),(31,⟨_,_, .cat (n:=(((bs [99,97,115,116,40])++v31)++(bs [44,32])).size+v33.size) (aZ h67)⟩),(34,⟨_,_, .cat (n:=((((bs [99,97,115,116,40])++v31)++(bs [44,32]))++v33).size+(bs [41]).size) (aZ h68)⟩)]]))))))))) λh2=>aq λmO h69=>aq λv35 h70=>aq λkQ h71=>aF λh72=>aq λv37 h73=>aq λkT h74=>aq λv39 h75=>aF λh76=>gR [[(0,bT (cW h2))],[(7,oE (k:=0) (fX h69)),(19,cK Nc h70),(22,cK Jb h71),(28,⟨_,_, .cat (n:=kQ.size+v2.size) (aZ h72)⟩),(37,oE (k:=1) (fX h73)),(49,cK Nc h74),(55,cK Jb h75),(58,⟨_,_, .cat (n:=(kQ++v2).size+v39.size) (aZ h76)⟩)]]))
  intro v1 v2;rw[pQ];exact fw Tryz.func214 (aq λv3 h1=>gA [[],[(7,cK Nc h1)]] (aw (λh2=>aq λv4 h3=>aF λh4=>aF λh5=>gR [[(0,bT h2)],[(4,cK rW h3),(7,⟨_,_, .cat (n:=(bs [40]).size+v4.size) (aZ h4)⟩),(10,⟨_,_, .cat (n:=((bs [40])++v4).size+(bs [41]).size) (aZ h5)⟩)]]) λh2=>aq λv5 h6=>gR [[(0,bF h2)],[(4,cK rW h6)]]))
theorem aiZ{N v1}:KO 179 [(aN v1)] aC (QC N v1):=(akt N N).1
def Tu(N:Nat)(v1:au):aqz aqy:=
 (qv N v1).bind λv2=>
 bif (v2 !=0)then
  some (bs [])
 else
  (QC N v1).bind λv3=>
  some v3
theorem ahs{N v1}:KO 138 [(aN v1)] aC (Tu N v1):=
 fw Tryz.func138 (aq λv2 h1=>gA [[],[(4,cK Yr h1)]] (bB λh2=>aq λv3 h3=>gR [[f0 h2],[(4,cK aiZ h3)]]))
def Kd(N:Nat)(v1:Int):aqz aqy:=
 bif (v1==1)then
  some (bs [115,117,109])
 else
  bif (v1==2)then
   some (bs [112,114,111,100])
  else
   bif (v1==3)then
    some (bs [109,105,110])
   else
    bif (v1==4)then
     some (bs [109,97,120])
    else
     some (bs [115,99,97,110])
theorem ag5{N v1}:KO 139 [(ar v1)] aC (Kd N v1):=
 fw Tryz.func139 (gA [[],[],[]] (dd λ_=>dd λ_=>dd λ_=>bB λh4=>gR [[f0 h4],[]]))
def MP(N:Nat)(v4:aqy)(v10:aqy):aqz aqy:=
 bif (Nat.ble (v10.size+v4.size) 9223372036854775807)then
 bif (Nat.ble ((v10++v4).size+(bs [59]).size) 9223372036854775807)then
 some ((v10++v4)++(bs [59]))
 else none
 else none
def IS(N:Nat)(v4:aqy)(v12:aqy):aqz aqy:=
 bif (Nat.ble (v12.size+(bs [58,32]).size) 9223372036854775807)then
 MP N v4 (v12++(bs [58,32]))
 else none
def GZ(N:Nat)(v1:bf):aqz aqy:=
 (FK N v1.aP).bind λv2=>
 (FK N v1.aY).bind λv3=>
 (Tu N v1.cg).bind λv4=>
 Option.bind (bif v2.2 then(bif v3.2 then(bif (bL v4==bL (bs []))then some true else (ph N v1.ao).bind λv5=>
 (bif v5 then (pP N v1.aO).bind λv6=>
 (bif v6 then(bif (decide (v1.cC<0))then some true else some (decide (v1.cC>5)))else some true)else some true))else some true)else some true) λv7=>
 bif v7 then
  some (bs [])
 else
  Option.bind (bif (decide ((v1.aY.length:Int)>0))then(bif (v1.cC==0)then some true else some (v1.cC==5))else some false) λv8=>
  bif v8 then
   some (bs [])
  else
   bif (Nat.ble ((bs [100,101,102,32]).size+v1.ao.size) 9223372036854775807)then
   bif (Nat.ble (((bs [100,101,102,32])++v1.ao).size+(bs [58,32]).size) 9223372036854775807)then
   (xh N v1.aO).bind λv9=>
   bif (Nat.ble ((((bs [100,101,102,32])++v1.ao)++(bs [58,32])).size+v9.size) 9223372036854775807)then
   bif (Nat.ble (((((bs [100,101,102,32])++v1.ao)++(bs [58,32]))++v9).size+(bs [91]).size) 9223372036854775807)then
   bif (Nat.ble ((((((bs [100,101,102,32])++v1.ao)++(bs [58,32]))++v9)++(bs [91])).size+v2.1.size) 9223372036854775807)then
   bif (Nat.ble (((((((bs [100,101,102,32])++v1.ao)++(bs [58,32]))++v9)++(bs [91]))++v2.1).size+(bs [93,32,61,32]).size) 9223372036854775807)then
   bif (v1.cC !=0)then
    (Kd N v1.cC).bind λv11=>
    bif (Nat.ble ((((((((bs [100,101,102,32])++v1.ao)++(bs [58,32]))++v9)++(bs [91]))++v2.1)++(bs [93,32,61,32])).size+v11.size) 9223372036854775807)then
    bif (decide ((v1.aY.length:Int)>0))then
     bif (Nat.ble (((((((((bs [100,101,102,32])++v1.ao)++(bs [58,32]))++v9)++(bs [91]))++v2.1)++(bs [93,32,61,32]))++v11).size+(bs [32]).size) 9223372036854775807)then
     bif (Nat.ble ((((((((((bs [100,101,102,32])++v1.ao)++(bs [58,32]))++v9)++(bs [91]))++v2.1)++(bs [93,32,61,32]))++v11)++(bs [32])).size+v3.1.size) 9223372036854775807)then
     IS N v4 ((((((((((bs [100,101,102,32])++v1.ao)++(bs [58,32]))++v9)++(bs [91]))++v2.1)++(bs [93,32,61,32]))++v11)++(bs [32]))++v3.1)
     else none
     else none
    else
     IS N v4 ((((((((bs [100,101,102,32])++v1.ao)++(bs [58,32]))++v9)++(bs [91]))++v2.1)++(bs [93,32,61,32]))++v11)
    else none
   else
    MP N v4 (((((((bs [100,101,102,32])++v1.ao)++(bs [58,32]))++v9)++(bs [91]))++v2.1)++(bs [93,32,61,32]))
   else none
   else none
   else none
   else none
   else none
   else none
theorem ahw{N v1}:KO 89 [(ep v1)] aC (GZ N v1):=
 fw Tryz.func89 (aq λv2 h1=>aq λv3 h2=>aq λv4 h3=>gA [[],[(7,cK aaF h1)],[(7,cK aaF h2)],[(7,cK ahs h3)]] (gG (λv7=>[(55,(aM v7))]) (λ_=>[.cells (ep v1).cells]) (aw (λh4=>bU (2,bF (cb h4)) (aw (λh5=>bU (6,bF (cb h5)) (aw (λh6=>gE [(10,bT h6),(16,bT rfl),(22,bT rfl),(27,bT rfl)] []) λh6=>aq λv5 h7=>bU (10,bF h6) (cf (40,cK tQ h7) (aw (λh8=>aq λv6 h9=>bU (16,bF (cb h8)) (cf (58,cK vO h9) (aw (λaU=>bU (22,bF (cb aU)) (aw (λbh=>gE [(27,bT bh)] []) λbh=>gE [(27,bF bh)] [])) λaU=>gE [(22,bT (cW aU)),(27,bT rfl)] []))) λh8=>gE [(16,bT (cW h8)),(22,bT rfl),(27,bT rfl)] [])))) λh5=>gE [(6,bT (cW h5)),(10,bT rfl),(16,bT rfl),(22,bT rfl),(27,bT rfl)] [])) λh4=>gE [(2,bT (cW h4)),(6,bT rfl),(10,bT rfl),(16,bT rfl),(22,bT rfl),(27,bT rfl)] []) λv7=>bB λb5=>gA [[f0 b5]] (gG (λv8=>[(69,(aM v8))]) (λ_=>[.cells (ep v1).cells]) (cf (7,oL v1.aY dB) (aw (λbZ=>bU (4,bT bZ) (aw (λbK=>gE [(8,bT bK)] [(37,bT bK)]) λbK=>gE [(8,bF bK)] [(37,bF bK)])) λbZ=>gE [(4,bF bZ),(8,uN)] [])) λv8=>bB λcA=>aF λdv=>aF λeu=>aq λv9 cH=>aF λdN=>aF λfe=>aF λdQ=>aF λeG=>eB 1 [[f0 cA],[(7,⟨_,_, .cat (n:=(bs [100,101,102,32]).size+v1.ao.size) (aZ dv)⟩),(10,⟨_,_, .cat (n:=((bs [100,101,102,32])++v1.ao).size+(bs [58,32]).size) (aZ eu)⟩),(19,cK MS cH),(22,⟨_,_, .cat (n:=(((bs [100,101,102,32])++v1.ao)++(bs [58,32])).size+v9.size) (aZ dN)⟩),(25,⟨_,_, .cat (n:=((((bs [100,101,102,32])++v1.ao)++(bs [58,32]))++v9).size+(bs [91]).size) (aZ fe)⟩),(31,⟨_,_, .cat (n:=(((((bs [100,101,102,32])++v1.ao)++(bs [58,32]))++v9)++(bs [91])).size+v2.1.size) (aZ dQ)⟩),(34,⟨_,_, .cat (n:=((((((bs [100,101,102,32])++v1.ao)++(bs [58,32]))++v9)++(bs [91]))++v2.1).size+(bs [93,32,61,32]).size) (aZ eG)⟩)],[]] [7,8] 1 (λ(v10:aqy)=>⟨104,[(7,(aC v4)),(8,(aC v10))],[.cells (ep v1).cells]⟩) (MP N v4) (λf1 aB=>aw (λfG=>aq λv11 gg=>aF λiw=>eB 2 [[t0 fG],[(10,cK ag5 gg),(13,⟨_,_, .cat (n:=(((((((bs [100,101,102,32])++v1.ao)++(bs [58,32]))++v9)++(bs [91]))++v2.1)++(bs [93,32,61,32])).size+v11.size) (aZ iw)⟩)],[(7,oL v1.aY dB)]] [7,8] 1 (λ(v12:aqy)=>⟨104,[(7,(aC v4)),(8,(aC v12))],[.cells (ep v1).cells]⟩) (IS N v4) (λf2 ca=>aw (λiX=>aF λjD=>aF λju=>gm ca ((((((((((bs [100,101,102,32])++v1.ao)++(bs [58,32]))++v9)++(bs [91]))++v2.1)++(bs [93,32,61,32]))++v11)++(bs [32]))++v3.1) [[t0 iX],[(4,⟨_,_, .cat (n:=((((((((bs [100,101,102,32])++v1.ao)++(bs [58,32]))++v9)++(bs [91]))++v2.1)++(bs [93,32,61,32]))++v11).size+(bs [32]).size) (aZ jD)⟩),(10,⟨_,_, .cat (n:=(((((((((bs [100,101,102,32])++v1.ao)++(bs [58,32]))++v9)++(bs [91]))++v2.1)++(bs [93,32,61,32]))++v11)++(bs [32])).size+v3.1.size) (aZ ju)⟩)]]) λiX=>gm ca ((((((((bs [100,101,102,32])++v1.ao)++(bs [58,32]))++v9)++(bs [91]))++v2.1)++(bs [93,32,61,32]))++v11) [[f0 iX]]) (λv12=>aF λgL=>gm aB (v12++(bs [58,32])) [[(4,⟨_,_, .cat (n:=v12.size+(bs [58,32]).size) (aZ gL)⟩)]])) λfG=>gm aB (((((((bs [100,101,102,32])++v1.ao)++(bs [58,32]))++v9)++(bs [91]))++v2.1)++(bs [93,32,61,32])) [[f0 fG]]) (λv10=>aF λfQ=>aF λe9=>gR [[(7,⟨_,_, .cat (n:=v10.size+v4.size) (aZ fQ)⟩),(10,⟨_,_, .cat (n:=(v10++v4).size+(bs [59]).size) (aZ e9)⟩)]]))))
def Pt(N:Nat)(v21:aqy):aqz aqy:=
 some v21
def CR(N:Nat)(v1:aK)(v3:aqy×Bool):aqx bf->Nat->aqy->aqz aqy
 |[],_,v20=>
  bif (decide ((v1.b9.length:Int)>0))then
   bif (Nat.ble (v20.size+(bs [111,117,116,32]).size) 9223372036854775807)then
   bif (Nat.ble ((v20++(bs [111,117,116,32])).size+v3.1.size) 9223372036854775807)then
   bif (Nat.ble (((v20++(bs [111,117,116,32]))++v3.1).size+(bs [59,10]).size) 9223372036854775807)then
   Pt N (((v20++(bs [111,117,116,32]))++v3.1)++(bs [59,10]))
   else none
   else none
   else none
  else
   Pt N v20
 |cJ::dy,cu,v20=>
  (GZ N cJ).bind λv22=>
  bif (bL v22==bL (bs []))then
   some (bs [])
  else
   bif (Nat.ble (v20.size+v22.size) 9223372036854775807)then
   bif (Nat.ble ((v20++v22).size+(bs [10]).size) 9223372036854775807)then
   (λnN=>CR N v1 v3 dy (cu+1) nN) ((v20++v22)++(bs [10]))
   else none
   else none
def Cy(N:Nat)(v1:aK)(v3:aqy×Bool):aqx cv->Nat->aqy->aqz aqy
 |[],_,v15=>
  CR N v1 v3 v1.ay 0 v15
 |ba::b8,v11,v15=>
  (ph N ba.ao).bind λv23=>
  Option.bind (bif v23 then (pP N ba.aO).bind λv24=>
  (bif v24 then (LQ N ba.aP).bind λv25=>
  some (!v25)else some true)else some true) λv26=>
  bif v26 then
   some (bs [])
  else
   bif (Nat.ble (v15.size+(bs [105,110,32]).size) 9223372036854775807)then
   bif (Nat.ble ((v15++(bs [105,110,32])).size+ba.ao.size) 9223372036854775807)then
   bif (Nat.ble (((v15++(bs [105,110,32]))++ba.ao).size+(bs [58,32]).size) 9223372036854775807)then
   (xh N ba.aO).bind λcV=>
   bif (Nat.ble ((((v15++(bs [105,110,32]))++ba.ao)++(bs [58,32])).size+cV.size) 9223372036854775807)then
   bif (Nat.ble (((((v15++(bs [105,110,32]))++ba.ao)++(bs [58,32]))++cV).size+(bs [91]).size) 9223372036854775807)then
   (D4 N ba.aP).bind λv28=>
   bif (Nat.ble ((((((v15++(bs [105,110,32]))++ba.ao)++(bs [58,32]))++cV)++(bs [91])).size+v28.size) 9223372036854775807)then
   bif (Nat.ble (((((((v15++(bs [105,110,32]))++ba.ao)++(bs [58,32]))++cV)++(bs [91]))++v28).size+(bs [93,59,10]).size) 9223372036854775807)then
   (λmu=>Cy N v1 v3 b8 (v11+1) mu) (((((((v15++(bs [105,110,32]))++ba.ao)++(bs [58,32]))++cV)++(bs [91]))++v28)++(bs [93,59,10]))
   else none
   else none
   else none
   else none
   else none
   else none
   else none
def Fi(N:Nat)(v1:aK)(v3:aqy×Bool):aqx c8->Nat->aqy->aqz aqy
 |[],_,v10=>
  Cy N v1 v3 v1.aG 0 v10
 |v8::v9,v6,v10=>
  (g_brocaderef06_Validate N v8).bind λie=>
  bif (ie !=0)then
   some (bs [])
  else
   bif (Nat.ble (v10.size+(bs [119,104,101,114,101,32]).size) 9223372036854775807)then
   (LN N v8).bind λv30=>
   bif (Nat.ble ((v10++(bs [119,104,101,114,101,32])).size+v30.size) 9223372036854775807)then
   bif (Nat.ble (((v10++(bs [119,104,101,114,101,32]))++v30).size+(bs [59,10]).size) 9223372036854775807)then
   (λiW=>Fi N v1 v3 v9 (v6+1) iW) (((v10++(bs [119,104,101,114,101,32]))++v30)++(bs [59,10]))
   else none
   else none
   else none
def Ja(N:Nat)(v1:aK)(v3:aqy×Bool)(v5:aqy):aqz aqy:=
 Fi N v1 v3 v1.cr 0 v5
def Gl(N:Nat)(v1:aK):aqz aqy:=
 (EZ N v1.aA).bind λv2=>
 (EZ N v1.b9).bind λv3=>
 Option.bind (bif v2.2 then some (!v3.2)else some true) λv4=>
 bif v4 then
  some (bs [])
 else
  bif (decide ((v1.aA.length:Int)>0))then
   bif (Nat.ble ((bs [115,105,122,101,32]).size+v2.1.size) 9223372036854775807)then
   bif (Nat.ble (((bs [115,105,122,101,32])++v2.1).size+(bs [59,10]).size) 9223372036854775807)then
   Ja N v1 v3 (((bs [115,105,122,101,32])++v2.1)++(bs [59,10]))
   else none
   else none
  else
   Ja N v1 v3 (bs [])
def y4(v1:aK)(l:aqx an):aqx an:= .cells (cX v1).cells::l
theorem alC{N v1}:KO 34 [(cX v1)] aC (Gl N v1):=
 fw Tryz.func34 (aq λv2 h1=>aq λv3 h2=>gA [[],[(7,cK aaL h1)],[(7,cK aaL h2)]] (gG (λv4=>[(30,(aM v4))]) (λ_=>(y4 v1 [])) (aw (λh3=>gE [(2,bF (cb h3))] []) λh3=>gE [(2,bT (cW h3))] []) λv4=>bB λh5=>eB 1 [[f0 h5],[],[(7,oL v1.aA dX)]] [1,5,7] 1 (λ(v5:aqy)=>⟨135,[(1,(.ptr 0 0)),(5,(aC v3.1)),(7,(aC v5))],(y4 v1 [])⟩) (Ja N v1 v3) (λf1 aB=>aw (λsZ=>aF λGC=>aF λCo=>gm aB (((bs [115,105,122,101,32])++v2.1)++(bs [59,10])) [[t0 sZ],[(4,⟨_,_, .cat (n:=(bs [115,105,122,101,32]).size+v2.1.size) (aZ GC)⟩),(7,⟨_,_, .cat (n:=((bs [115,105,122,101,32])++v2.1).size+(bs [59,10]).size) (aZ Co)⟩)]]) λsZ=>gm aB (bs []) [[f0 sZ]]) (λv5=>gA [[]] (gB rP 0 1 v1.cr λh7=>eM 2 [] [1,5,7,8] 1 (λv6(v10:aqy)=>⟨135,[(1,(.ptr 0 0)),(5,(aC v3.1)),(7,(aC v10)),(8,(ar (v6:Int)))],(y4 v1 [])⟩) (λv6 v10 h8 f2=>gA [[(10,oL v1.cr kg)],[f0 (bj h8)],[]] (gB ny 0 2 v1.aG λaU=>eM 3 [] [1,5,7,9] 1 (λv11(v15:aqy)=>⟨135,[(1,(.ptr 0 0)),(5,(aC v3.1)),(7,(aC v15)),(9,(ar (v11:Int)))],(y4 v1 [])⟩) (λv11 v15 bh f3=>gA [[(10,oL v1.aG iy)],[f0 (bj bh)],[]] (gB nA 0 3 v1.ay λb5=>eM 4 [] [1,5,7,11] 1 (λcu(v20:aqy)=>⟨135,[(1,(.ptr 0 0)),(5,(aC v3.1)),(7,(aC v20)),(11,(ar (cu:Int)))],(y4 v1 [])⟩) (λcu v20 bZ f4=>eB 5 [[(10,oL v1.ay gY)],[f0 (bj bZ)],[(7,oL v1.b9 dX)]] [7] 1 (λ(v21:aqy)=>⟨135,[(7,(aC v21))],(y4 v1 [])⟩) (Pt N) (λf5 p9=>aw (λbK=>aF λbV=>aF λcA=>aF λdv=>gm p9 (((v20++(bs [111,117,116,32]))++v3.1)++(bs [59,10])) [[t0 bK],[(4,⟨_,_, .cat (n:=v20.size+(bs [111,117,116,32]).size) (aZ bV)⟩),(10,⟨_,_, .cat (n:=(v20++(bs [111,117,116,32])).size+v3.1.size) (aZ cA)⟩),(13,⟨_,_, .cat (n:=((v20++(bs [111,117,116,32]))++v3.1).size+(bs [59,10]).size) (aZ dv)⟩)]]) λbK=>gm p9 v20 [[f0 bK]]) (λv21=>gR [[]])) (λcu cJ dy v20 bZ f4 iF=>aq λv22 eu=>gA [[(10,oL v1.ay gY)],[t0 (bk bZ)],[(10,oE (jH (aW bZ))),(16,cK ahw eu)],[]] (bB λcH=>aF λdN=>aF λfe=>gb iF ((v20++v22)++(bs [10])) [[f0 cH],[(7,⟨_,_, .cat (n:=v20.size+v22.size) (aZ dN)⟩),(10,⟨_,_, .cat (n:=(v20++v22).size+(bs [10]).size) (aZ fe)⟩)],[(5,oq (bE bZ rfl b5))]] bZ)))) (λv11 ba b8 v15 bh f3 fu=>gA [[(10,oL v1.aG iy)],[t0 (bk bh)],[(10,oE (jy (aW bh)))]] (aq λv23 dQ=>gG (λv26=>[(89,(aM v26))]) (λ_=>(y4 v1 [.cells (mZ ba).cells])) (cf (7,cK tQ dQ) (aw (λeG=>aq λv24 fQ=>bU (4,bF (cb eG)) (cf (22,cK vO fQ) (aw (λe9=>aq λv25 fG=>gE [(10,bF (cb e9))] [(40,cK UW fG)]) λe9=>gE [(10,bT (cW e9))] []))) λeG=>gE [(4,bT (cW eG)),(10,bT rfl)] [])) λv26=>bB λiw=>aF λgL=>aF λiX=>aF λjD=>aq λcV ju=>aF λlk=>aF λmy=>aq λv28 kX=>aF λot=>aF λou=>gb fu (((((((v15++(bs [105,110,32]))++ba.ao)++(bs [58,32]))++cV)++(bs [91]))++v28)++(bs [93,59,10])) [[f0 iw],[(4,⟨_,_, .cat (n:=v15.size+(bs [105,110,32]).size) (aZ gL)⟩),(13,⟨_,_, .cat (n:=(v15++(bs [105,110,32])).size+ba.ao.size) (aZ iX)⟩),(16,⟨_,_, .cat (n:=((v15++(bs [105,110,32]))++ba.ao).size+(bs [58,32]).size) (aZ jD)⟩),(25,cK MS ju),(28,⟨_,_, .cat (n:=(((v15++(bs [105,110,32]))++ba.ao)++(bs [58,32])).size+cV.size) (aZ lk)⟩),(31,⟨_,_, .cat (n:=((((v15++(bs [105,110,32]))++ba.ao)++(bs [58,32]))++cV).size+(bs [91]).size) (aZ my)⟩),(40,cK abI kX),(43,⟨_,_, .cat (n:=(((((v15++(bs [105,110,32]))++ba.ao)++(bs [58,32]))++cV)++(bs [91])).size+v28.size) (aZ ot)⟩),(46,⟨_,_, .cat (n:=((((((v15++(bs [105,110,32]))++ba.ao)++(bs [58,32]))++cV)++(bs [91]))++v28).size+(bs [93,59,10]).size) (aZ ou)⟩)],[(5,oq (bE bh rfl aU))]] bh)))) (λv6 v8 v9 v10 h8 f2 ca=>aq λie mf=>gA [[(10,oL v1.cr kg)],[t0 (bk h8)],[(10,oE (pI (aW h8))),(16,cK abl mf)]] (bB λl9=>aF λoT=>aq λv30 oD=>aF λyr=>aF λyw=>gb ca (((v10++(bs [119,104,101,114,101,32]))++v30)++(bs [59,10])) [[f0 l9],[(4,⟨_,_, .cat (n:=v10.size+(bs [119,104,101,114,101,32]).size) (aZ oT)⟩),(16,oE (pI (aW h8))),(22,cK aeU oD),(25,⟨_,_, .cat (n:=(v10++(bs [119,104,101,114,101,32])).size+v30.size) (aZ yr)⟩),(28,⟨_,_, .cat (n:=((v10++(bs [119,104,101,114,101,32]))++v30).size+(bs [59,10]).size) (aZ yw)⟩)],[(5,oq (bE h8 rfl h7))]] h8))))))
def yJ(N:Nat)(v2:aqx ga)(v9:aqy)(fD:aqy->aqz (aqy×Int))(v7:aqy):aqx ga->Nat->aqz (aqy×Int)
 |[],v10=>
  bif ((v10:Int)==(v2.length:Int))then
   some ((bs []),(9:Int))
  else
   bif (Nat.ble (v9.size+(bs [32]).size) 9223372036854775807)then
   bif (decide ((0:Int)<=(v10:Int)))then
   Option.bind (v2[((v10:Int)).toNat]?) λb8=>
   (nU N b8.dM).bind λv15=>
   bif (Nat.ble ((v9++(bs [32])).size+v15.size) 9223372036854775807)then
   fD ((v9++(bs [32]))++v15)
   else none
   else none
   else none
 |v12::ba,v10=>
  bif (bL v12.ao==bL v7)then
   bif ((v10:Int)==(v2.length:Int))then
    some ((bs []),(9:Int))
   else
    bif (Nat.ble (v9.size+(bs [32]).size) 9223372036854775807)then
    (nU N v12.dM).bind λcu=>
    bif (Nat.ble ((v9++(bs [32])).size+cu.size) 9223372036854775807)then
    fD ((v9++(bs [32]))++cu)
    else none
    else none
  else
   (yJ N v2 v9 fD v7 ba (v10+1))
def Cj(N:Nat)(v2:aqx ga):aqx aqy->Nat->aqy->aqz (aqy×Int)
 |[],_,v9=>
  some (v9,(0:Int))
 |v7::v8,v5,v9=>
  yJ N v2 v9 (λbq=>Cj N v2 v8 (v5+1) bq) v7 v2 0
def L1(N:Nat)(v1:aK)(v2:aqx ga):aqz (aqy×Int):=
 (P2 N v1).bind λv3=>
 bif (v3.2 !=0)then
  some ((bs []),v3.2)
 else
  (Gl N v3.1).bind λv4=>
  Cj N v2 v1.aA 0 v4
theorem anV{N v1 v2}:KO 12 [(cX v1),(.d (.sl (jz v2)))] (λr=> .bz [(aC r.1),(ar r.2)]) (L1 N v1 v2):=
 fw Tryz.func12 (aq λv3 h1=>gA [[],[(4,cK apl h1)],[]] (bB λh2=>aq λv4 h3=>gA [[f0 h2],[(4,cK alC h3)],[]] (gB fb 0 0 v1.aA λh5=>eM 1 [] [1,2,8,9] 2 (λv5(v9:aqy)=>⟨61,[(1,(.d (.sl (jz v2)))),(2,(.ptr 0 0)),(8,(aC v9)),(9,(ar (v5:Int)))],[.cells (cX v1).cells, .cells (cX v3.1).cells]⟩) (λv5 v9 h6 f1=>gR [[(10,oL v1.aA dX)],[f0 (bj h6)],[]]) (λv5 v7 v8 v9 h6 f1 aB=>gA [[(10,oL v1.aA dX)],[t0 (bk h6)],[]] (gT WZ 1 v2 λh8=>dK 2 [] [1,2,8,9,10] 2 (λv10=>⟨61,[(1,(.d (.sl (jz v2)))),(2,(.ptr 0 0)),(8,(aC v9)),(9,(ar (v5:Int))),(10,(ar (v10:Int)))],[.cells (cX v1).cells, .cells (cX v3.1).cells]⟩) (λv10 h9 f2=>gA [[(7,oL v2 xU),(15,bF (bj h9)),(18,bF (bj h9)),(21,bF (bj h9)),(24,bF (bj h9)),(27,bF (bj h9)),(30,bF (bj h9)),(33,bF (bj h9)),(36,bF (bj h9)),(39,bF (bj h9)),(42,bF (bj h9)),(45,bF (bj h9)),(49,bF (bj h9))],[f0 rfl],[(7,oL v2 xU)]] (bB λaU=>aF λbh=>aF λb5=>aq λb8 bn=>aq λv15 bZ=>aF λbK=>gb aB ((v9++(bs [32]))++v15) [[f0 aU],[(4,⟨_,_, .cat (n:=v9.size+(bs [32]).size) (aZ bh)⟩),(13,⟨_,_, .el (xs:=jz v2) (i:=(v10:Int)) (of_decide_eq_true b5) (BW bn)⟩),(22,cK vY bZ),(25,⟨_,_, .cat (n:=(v9++(bs [32])).size+v15.size) (aZ bK)⟩)],[(5,oq (bE h6 rfl h5))]] h6)) (λv10 v12 ba h9 f2 ca=>gA [[(7,oL v2 xU),(15,bT (bk h9)),(18,bT (bk h9)),(21,bT (bk h9)),(22,oE (BW (aW h9))),(24,bT (bk h9)),(27,bT (bk h9)),(30,bT (bk h9)),(33,bT (bk h9)),(36,bT (bk h9)),(39,bT (bk h9)),(40,oE (ik (aW h6))),(42,bT (bk h9)),(45,bT (bk h9)),(49,bT (bk h9))]] (aw (λbV=>gA [[f0 (cb bV)],[(7,oL v2 xU)]] (bB λcA=>aF λdv=>aq λcu eu=>aF λcH=>gb aB ((v9++(bs [32]))++cu) [[f0 cA],[(4,⟨_,_, .cat (n:=v9.size+(bs [32]).size) (aZ dv)⟩),(13,oE (BW (aW h9))),(22,cK vY eu),(25,⟨_,_, .cat (n:=(v9++(bs [32])).size+cu.size) (aZ cH)⟩)],[(5,oq (bE h6 rfl h5))]] h6)) λbV=>gb ca () [[t0 (cW bV)],[(5,oq (bE h9 rfl h8))]] h9)))))))
def Na(N:Nat)(v1:aK)(v2:aqx ga):aqz Bool:=
 Option.bind (EB N v1 (300:Int)) λv3=>
 Option.bind (bif v3 then some true else some (decide ((v2.length:Int)>40))) λv4=>
 bif v4 then
  (Gr N).bind λv5=>
  some v5
 else
  (Ih N v1 v2).bind λv6=>
  (L1 N v1 v2).bind λv7=>
  Option.bind (bif (bL v6.1==bL v7.1)then(bif (v6.2==v7.2)then (Gr N).bind λv8=>
  some v8 else some false)else some false) λv9=>
  some v9
theorem ahG{N v1 v2}:KO 4 [(cX v1),(.d (.sl (jz v2)))] aM (Na N v1 v2):=
 fw Tryz.func4 (gA [[]] (aq λv3 h1=>gG (λv4=>[(15,(aM v4))]) (λ_=>[.cells (cX v1).cells]) (cf (4,cK ajb h1) (aw (λh2=>gE [(2,bT h2)] []) λh2=>gE [(2,bF h2)] [(13,oL v2 xU)])) λv4=>aw (λh4=>aq λv5 h5=>gR [[t0 h4],[(1,cK T5 h5)]]) λh4=>aq λv6 h6=>aq λv7 h7=>gA [[f0 h4],[(7,cK am5 h6)],[(7,cK anV h7)]] (gG (λv9=>[(4,(aM v9))]) (λ_=>[.cells (cX v1).cells]) (aw (λh8=>bU (3,bT h8) (aw (λh9=>aq λv8 aU=>gE [(8,bT h9)] [(28,cK T5 aU)]) λh9=>gE [(8,bF h9)] [])) λh8=>gE [(3,bF h8),(8,bF rfl)] []) λv9=>gR [])))
end Go.Proofs.YtmkmibahjanejaaGreatDoor
namespace Go.Proofs.YtmkmibahjanejaaGreatDoor
end Go.Proofs.YtmkmibahjanejaaGreatDoor
namespace Go.Proofs.YtmkmibahjanejaaGreatDoor
open Go.RowKit
theorem D0(b:aqy)(i:Nat):b[i]?=(bL b)[i]?:=by
 unfold bL;rw[ap6];by_cases h:i<b.size
 ·rw[getElem?_pos b i h,ap5 (xs:=b.data) (by exact h)];rfl
 ·rw[getElem?_neg b i h,Array.getElem?_eq_none (xs:=b.data) (by exact Nat.le_of_not_lt h)]
theorem nx(b:aqy):b.size=(bL b).length:=by unfold bL;rw[aqg];rfl
theorem GG{i:Nat}(h:i<9223372036854775807):bl ((i:Int)+1)=((i+1:Nat):Int):=by
 unfold bl;rw[IntKind.wrap_i64]<;>omega
def oz(c:UInt8):Bool:=decide (97<=c.toNat)&&decide (c.toNat<=122)
def jA(c:UInt8):Bool:=oz c||(decide (48<=c.toNat)&&decide (c.toNat<=57))||c.toNat==95
def wL(l:aqx UInt8):Bool:=oG.any λw=>bL w==l
def Gw(l:aqx UInt8):Bool:=decide (1<=l.length)&&(decide (l.length<=16)&&(!wL l&&((l.take 1).all oz&&l.all jA)))
def cO(s:aqy):Bool:=Gw (bL s)
theorem XT(c:UInt8):IntKind.i32.wrap (c.toNat:Int)=(c.toNat:Int):=by
 have:=c.toNat_lt;rw[IntKind.wrap_i32]<;>omega
theorem p8{p q:Prop} [Decidable p] [Decidable q](h:p↔q):decide p=decide q:=decide_eq_decide.2 h
theorem jG(a b:Bool):(bif a then some b else some false)=some (a&&b):=by cases a<;>rfl
theorem jF(a b:Bool):(bif a then some true else some b)=some (a||b):=by cases a<;>rfl
theorem aaj(N:Nat)(c:UInt8):D6 N (c.toNat:Int)=some (oz c):=by
 unfold D6 oz;rw[jG,apI,p8 (q:=97<=c.toNat) (by omega),p8 (p:=(c.toNat:Int)<=122) (q:=c.toNat<=122) (by omega)]
theorem ai4(N:Nat)(c:UInt8):MA N (c.toNat:Int)=some (decide (48<=c.toNat)&&decide (c.toNat<=57)):=by
 unfold MA;rw[jG,apI,p8 (q:=48<=c.toNat) (by omega),p8 (p:=(c.toNat:Int)<=57) (q:=c.toNat<=57) (by omega)]
theorem yW(n k:Nat):((n:Int)==(k:Int))=(n==k):=by
 rw[Bool.eq_iff_iff,beq_iff_eq,beq_iff_eq];omega
theorem akH(N:Nat)(c:UInt8):JQ N (c.toNat:Int)=some (jA c):=by
 unfold JQ jA;rw[aaj,apI,ai4,apI];have:=yW c.toNat 95;rw[show(((c.toNat:Int)==95))=(c.toNat==95)from this];rw[jF,jF,apI,Bool.or_assoc]
theorem ZP(N:Nat)(s:aqy)(hs:s.size<9223372036854775807):∀(k i:Nat),i<=s.size->s.size-i<k->ER N s k (i:Int)=some ((i+(((bL s).drop i).takeWhile jA).length:Nat):Int)
 |0,i,_,hk=>absurd hk (aqb _)
 |k+1,i,hi,hk=>by
  rw[ER];by_cases aH:i<s.size
  ·have h1:decide ((i:Int)<(s.size:Int))=true:=aqq (by omega);have h2:decide ((0:Int)<=(i:Int))=true:=aqq (by omega);rw[h1,h2];simp only[cond_true,aqa];have hl:i<(bL s).length:=by rw[<-nx];exact aH
   rw[D0,apN hl,List.drop_eq_getElem_cons hl,apI,XT,akH,apI,apI];cases hw:jA (bL s)[i]with
   |true=>
    simp only[cond_true];rw[GG (Nat.lt_trans aH hs),ZP N s hs k (i+1) aH (by omega),List.takeWhile_cons_of_pos hw,apM]
    congr 2;omega
   |false=>
    simp only[cond_false];rw[List.takeWhile_cons_of_neg (by rw[hw];simp)];rfl
  ·have h1:decide ((i:Int)<(s.size:Int))=false:=aqr (by omega);rw[h1];simp only[cond_false,apI];rw[List.drop_eq_nil_of_le (by rw[<-nx];omega)];rfl
theorem ali(N:Nat)(s:aqy)(hs:s.size<9223372036854775807)(hN:s.size<N):J8 N s=some ((((bL s).takeWhile jA).length:Nat):Int):=by
 unfold J8;have:=ZP N s hs N 0 (Nat.zero_le _) (by omega);rw[aqi,ap3]at this;exact this
theorem Xk{α:Type}(p:α->Bool):∀l:aqx α,((l.takeWhile p).length==l.length)=l.all p
 |[]=>rfl
 |x::l=>by
  cases h:p x with
  |true=>
   rw[List.takeWhile_cons_of_pos h,aqt,h,Bool.true_and,<-Xk p l];simp
  |false=>rw[List.takeWhile_cons_of_neg (by rw[h];simp),aqt,h];simp
theorem PW(N:Nat)(v:aqy):∀(l:aqx aqy)(k:Nat),∃z:Int,LU N v l k=some z/\decide (z>=0)=l.any λw=>bL w==bL v
 |[],k=>⟨-1,rfl,rfl⟩
 |w::l,k=>by
  rw[LU,aqu];have hc:(bL v==bL w)=(bL w==bL v):=by rw[Bool.eq_iff_iff,beq_iff_eq,beq_iff_eq];exact eq_comm
  cases h:bL v==bL w with
  |true=>rw[hc]at h;exact⟨k,rfl,by rw[h,Bool.true_or];exact aqq (by omega)⟩
  |false=>
   obtain⟨z,h1,h2⟩:=PW N v l (k+1);rw[hc]at h;exact⟨z,h1,by rw[h,Bool.false_or];exact h2⟩
theorem aei(N:Nat)(v:aqy):Jn N v=some (wL (bL v)):=by
 unfold Jn SX Br MQ;obtain⟨z,h1,h2⟩:=PW N v oG 0;rw[apI,h1,apI,apI,h2];rfl
theorem MU{α:Type}{l:aqx α}(h:0<l.length):l.take 1=[l[0]]:=by
 cases l with
 |nil=>cases h
 |cons x l=>rfl
theorem qB:bL (bs [])=[]:=rfl
theorem tV(N:Nat)(s:aqy)(hN:16<N):pj N s=some (cO s):=by
 unfold pj cO Gw;have hz:=nx s;by_cases h0:(bL s).length=0
 ·have:bL s=[]:=List.length_eq_zero_iff.1 h0;rw[this];rfl
 have cy:(bL s==bL (bs []))=false:=by
  rw[qB,beq_eq_false_iff_ne];intro h;rw[h]at h0;exact h0 rfl
 rw[cy,aqq (show 1<=(bL s).length by omega),Bool.true_and];simp only[cond_false];by_cases bV:(bL s).length<=16
 ·rw[aqq (show(s.size:Int)<=16 by omega),aqq bV,Bool.true_and];simp only[cond_true];have hl:0<(bL s).length:=by omega
  rw[D0,apN hl,apI,XT,aaj,apI,ali N s (by omega) (by omega),apI,aei,apI];rw[hz,yW,Xk];have ht:(bL s).take 1=[(bL s)[0]]:=MU hl;rw[ht,aqt,List.all_nil,Bool.and_true,jG,jG,apI]
  congr 1
  cases wL (bL s)<;>cases oz (bL s)[0]<;>cases (bL s).all jA<;>rfl
 ·rw[aqr (show ¬(s.size:Int)<=16 by omega),aqr bV];rfl
theorem amO(N:Nat)(b:Bool):iG N b=some b:=by cases b<;>rfl
theorem alg(a b:Bool):(bif a then some a else some b)=some (a||b):=by cases a<;>rfl
theorem amM(a b:aqx UInt8):(a==b)=(b==a):=by rw[Bool.eq_iff_iff,beq_iff_eq,beq_iff_eq];exact eq_comm
theorem al5(N:Nat)(v:aqy):MN N v=some (wL (bL v)):=by
 simp only[MN,amO,alg,wL,oG,aqu,List.any_nil,Bool.or_false,amM (bL v)]
theorem Cv(n k:Nat):decide ((n:Int)<(k:Int))= !decide (k<=n):=by
 by_cases h:k<=n
 ·rw[aqq h,aqr (by omega)];rfl
 ·rw[aqr h,aqq (by omega)];rfl
theorem kG(n k:Nat):decide ((n:Int)>(k:Int))= !decide (n<=k):=by
 by_cases h:n<=k
 ·rw[aqq h,aqr (by omega)];rfl
 ·rw[aqr h,aqq (by omega)];rfl
theorem Wl(n k:Nat):decide ((n:Int)>=(k:Int))=decide (k<=n):=p8 (by omega)
theorem wV(n k:Nat):decide ((n:Int)<=(k:Int))=decide (n<=k):=p8 (by omega)
theorem NI(n k:Nat):((n:Int) !=(k:Int))= !(n==k):=by unfold bne;rw[yW]
theorem anU(c:UInt8):(bif (decide ((c.toNat:Int)<97))then(bif (decide ((c.toNat:Int)<48))then some ((c.toNat:Int) !=95)else(bif (decide ((c.toNat:Int)>57))then some ((c.toNat:Int) !=95)else some false))else(bif (decide ((c.toNat:Int)>122))then(bif (decide ((c.toNat:Int)<48))then some ((c.toNat:Int) !=95)else(bif (decide ((c.toNat:Int)>57))then some ((c.toNat:Int) !=95)else some false))else some false))=some (!jA c):=by
 have a1:=Cv c.toNat 97;have a2:=Cv c.toNat 48;have a3:=kG c.toNat 57;have a4:=kG c.toNat 122;have a5:=NI c.toNat 95;simp only[Int.cast_ofNat_Int]at a1 a2 a3 a4 a5;rw[a1,a2,a3,a4,a5];unfold jA oz;cases decide (97<=c.toNat)<;>cases decide (48<=c.toNat)<;>cases decide (c.toNat<=57)<;>cases decide (c.toNat<=122)<;>cases (c.toNat==95)<;>rfl
theorem Y4(N:Nat)(s:aqy)(hs:s.size<9223372036854775807):∀(k i:Nat),i<=s.size->s.size-i<k->BC N s k (i:Int)=some (((bL s).drop i).all jA)
 |0,i,_,hk=>absurd hk (aqb _)
 |k+1,i,hi,hk=>by
  rw[BC];by_cases aH:i<s.size
  ·have h1:decide ((i:Int)<(s.size:Int))=true:=aqq (by omega);have h2:decide ((0:Int)<=(i:Int))=true:=aqq (by omega);rw[h1,h2];simp only[cond_true,aqa];have hl:i<(bL s).length:=by rw[<-nx];exact aH
   rw[D0,apN hl,List.drop_eq_getElem_cons hl,apI,anU,apI,aqt];cases hw:jA (bL s)[i]with
   |true=>
    simp only[Bool.not_true,cond_false,Bool.true_and];rw[GG (Nat.lt_trans aH hs),Y4 N s hs k (i+1) aH (by omega)]
   |false=>rfl
  ·have h1:decide ((i:Int)<(s.size:Int))=false:=aqr (by omega);rw[h1];simp only[cond_false];rw[List.drop_eq_nil_of_le (by rw[<-nx];omega)];rfl
theorem adf(N:Nat)(s:aqy)(hN:16<N):Hb N s=some (cO s):=by
 unfold Hb cO Gw;have hz:=nx s;have a1:=Cv s.size 1;have a2:=kG s.size 16;simp only[Int.cast_ofNat_Int]at a1 a2;rw[a1,a2,hz];cases h1:decide (1<=(bL s).length)with
 |false=>rfl
 |true=>
  cases bV:decide ((bL s).length<=16)with
  |false=>rfl
  |true=>
   have rH:=of_decide_eq_true h1;have ai6:=of_decide_eq_true bV;have hl:0<(bL s).length:=by omega
   simp only[Bool.not_true,cond_false,Bool.true_and];rw[al5,apI,D0,apN hl,apI];have b1:=Cv (bL s)[0].toNat 97;have b2:=kG (bL s)[0].toNat 122;simp only[Int.cast_ofNat_Int]at b1 b2;rw[b1,b2,jF,jF,apI,MU hl];have:=Y4 N s (by omega) N 0 (Nat.zero_le _) (by omega);rw[aqi]at this;rw[show BC N s N 0=_ from this,aqt,List.all_nil,Bool.and_true];unfold oz;cases wL (bL s)<;>cases decide (97<=(bL s)[0].toNat)<;>cases decide ((bL s)[0].toNat<=122)<;>rfl
theorem Tx(N:Nat)(v:aqy):∀(l:aqx aqy)(k:Nat),LY N v l k=some (l.any λw=>bL w==bL v)
 |[],_=>rfl
 |w::l,k=>by
  rw[LY,aqu,Tx N v l (k+1)];cases bL w==bL v<;>rfl
theorem amr(c:UInt8)(z:Bool):(bif (decide ((c.toNat:Int)>=97))then(bif (decide ((c.toNat:Int)<=122))then some (!true)else(bif z then(bif (decide ((c.toNat:Int)>=48))then(bif (decide ((c.toNat:Int)<=57))then some (!true)else some (!((c.toNat:Int)==95)))else some (!((c.toNat:Int)==95)))else some (!false)))else(bif z then(bif (decide ((c.toNat:Int)>=48))then(bif (decide ((c.toNat:Int)<=57))then some (!true)else some (!((c.toNat:Int)==95)))else some (!((c.toNat:Int)==95)))else some (!false)))=some (!(bif z then jA c else oz c)):=by
 have a1:=Wl c.toNat 97;have a2:=Wl c.toNat 48;have a3:=wV c.toNat 57;have a4:=wV c.toNat 122;have a5:=yW c.toNat 95;simp only[Int.cast_ofNat_Int]at a1 a2 a3 a4 a5;rw[a1,a2,a3,a4,a5];unfold jA oz;cases decide (97<=c.toNat)<;>cases decide (48<=c.toNat)<;>cases decide (c.toNat<=57)<;>cases decide (c.toNat<=122)<;>cases (c.toNat==95)<;>cases z<;>rfl
theorem V0(N:Nat)(s:aqy)(hs:s.size<9223372036854775807):∀(k i:Nat),i<=s.size->s.size-i<k->Bz N s k (i:Int)=some (bif decide (i>0)then((bL s).drop i).all jA else((bL s).take 1).all oz&&((bL s).drop 1).all jA)
 |0,i,_,hk=>absurd hk (aqb _)
 |k+1,i,hi,hk=>by
  rw[Bz];by_cases aH:i<s.size
  ·have h1:decide ((i:Int)<(s.size:Int))=true:=aqq (by omega);have h2:decide ((0:Int)<=(i:Int))=true:=aqq (by omega);rw[h1,h2];simp only[cond_true,aqa];have hl:i<(bL s).length:=by rw[<-nx];exact aH
   rw[D0,apN hl,apI,amr,apI];rw[GG (Nat.lt_trans aH hs),V0 N s hs k (i+1) aH (by omega),aqq (show i+1>0 by omega)];simp only[cond_true];by_cases h0:i=0
   ·subst h0;rw[aqr (show ¬((0:Nat):Int)>0 by omega),aqr (show ¬0>0 by omega)];simp only[cond_false];rw[MU hl,aqt,List.all_nil,Bool.and_true];cases oz (bL s)[0]<;>rfl
   ·rw[aqq (show(i:Int)>0 by omega),aqq (show i>0 by omega)];simp only[cond_true];rw[List.drop_eq_getElem_cons hl,aqt];cases jA (bL s)[i]<;>rfl
  ·have h1:decide ((i:Int)<(s.size:Int))=false:=aqr (by omega);rw[h1];simp only[cond_false];have hn:(bL s).drop i=[]:=List.drop_eq_nil_of_le (by rw[<-nx];omega);by_cases h0:i=0
   ·subst h0;rw[aqi]at hn;rw[hn];rfl
   ·rw[aqq (show i>0 by omega),hn];rfl
theorem sf(N:Nat)(s:aqy)(hN:16<N):ph N s=some (cO s):=by
 unfold ph cO Gw;have hz:=nx s;have a1:=Cv s.size 1;have a2:=kG s.size 16;simp only[Int.cast_ofNat_Int]at a1 a2;rw[a1,a2,hz];cases h1:decide (1<=(bL s).length)with
 |false=>rfl
 |true=>
  cases bV:decide ((bL s).length<=16)with
  |false=>rfl
  |true=>
   have rH:=of_decide_eq_true h1;have ai6:=of_decide_eq_true bV;have hl:0<(bL s).length:=by omega
   simp only[Bool.not_true,cond_false,Bool.true_and];have hh:∀l,vF N l s=some (l.any λw=>bL w==bL s):=λl=>Tx N s l 0;unfold OE;rw[apI,hh,apI,apI];have:=V0 N s (by omega) N 0 (Nat.zero_le _) (by omega);rw[show Bz N s N 0=_ from this];show(bif wL (bL s)then some false else some (((bL s).take 1).all oz&&((bL s).drop 1).all jA))=_;have hw:(bL s).all jA=(jA (bL s)[0]&&((bL s).drop 1).all jA):=by
    have hd:bL s=(bL s)[0]::(bL s).drop 1:=by
     have:=List.drop_eq_getElem_cons hl
     rwa [aqi]at this
    rw[<-aqt,<-hd]
   rw[hw,MU hl,aqt,List.all_nil,Bool.and_true];unfold jA;cases wL (bL s)<;>cases oz (bL s)[0]<;>simp
def eX(t:bA):Bool:=
 bif t.b7==1||t.b7==3 then t.cp==0&&(t.cq==0&&(t.cU==0&&t.cS==0))
 else t.b7==2&&(decide (2<=t.cp)&&(decide (t.cp<=31)&&(decide (0<=t.cq)&&(decide (t.cq<=30)&&(decide (1<=t.cU)&&(decide (t.cU<=4)&&(t.cS==1||t.cS==2)))))))
theorem ajQ(a:Bool):(bif a then some true else some false)=some a:=by cases a<;>rfl
theorem M5(a b:Int):decide (a<b)= !decide (b<=a):=by
 by_cases h:b<=a
 ·rw[aqq h,aqr (by omega)];rfl
 ·rw[aqr h,aqq (by omega)];rfl
theorem KT(a b:Int):decide (a>b)= !decide (a<=b):=M5 b a
theorem sJ(a b:Int):decide (a>=b)=decide (b<=a):=rfl
theorem qH(a b:Int):(a !=b)= !(a==b):=rfl
theorem sR(N:Nat)(t:bA):pP N t=some (eX t):=by
 unfold pP eX;simp only[jF,jG,apI,sJ];cases (t.b7==1||t.b7==3)<;>rfl
theorem Un(N:Nat)(t:bA)(h:(t.b7==2)=true):sQ N t=some (bif (decide (2<=t.cp)&&(decide (t.cp<=31)&&(decide (0<=t.cq)&&(decide (t.cq<=30)&&(decide (1<=t.cU)&&(decide (t.cU<=4)&&(t.cS==1||t.cS==2)))))))then 0 else 10):=by
 unfold sQ;simp only[jF,jG,apI,sJ,KT,qH,h,Bool.not_true,Bool.false_or];cases decide (2<=t.cp)<;>cases decide (t.cp<=31)<;>cases decide (0<=t.cq)<;>cases decide (t.cq<=30)<;>cases decide (1<=t.cU)<;>cases decide (t.cU<=4)<;>cases t.cS==1<;>cases t.cS==2<;>rfl
theorem qW(N:Nat)(t:bA):qa N t=some (bif eX t then 0 else 10):=by
 unfold qa DK eX Rf;cases h1:t.b7==1 with
 |true=>
  simp only[cond_true,apI,aqs,Bool.true_and,Bool.true_or,Bool.and_true];cases (t.cp==0&&(t.cq==0&&(t.cU==0&&t.cS==0)))<;>rfl
 |false=>
  cases h3:t.b7==3 with
  |true=>
   simp only[cond_true,cond_false,apI,aqs,Bool.true_and,Bool.or_true,Bool.and_true];cases (t.cp==0&&(t.cq==0&&(t.cU==0&&t.cS==0)))<;>rfl
  |false=>
   cases h2:t.b7==2 with
   |true=>
    rw[Un N t h2];simp only[cond_true,cond_false,apI,Bool.true_and,Bool.or_false];cases (decide (2<=t.cp)&&(decide (t.cp<=31)&&(decide (0<=t.cq)&&(decide (t.cq<=30)&&(decide (1<=t.cU)&&(decide (t.cU<=4)&&(t.cS==1||t.cS==2)))))))<;>rfl
   |false=>rfl
def pw:aqz aqy->aqx bt->Bool
 |_,[]=>true
 |p,m::l=>cO m.ao&&(!(m.cN.toInt==0)&&((match p with|none=>true|some q=>Op.bytesLess (bL q) (bL m.ao))&&pw (some m.ao) l))
theorem BA(p:aqz aqy)(m:bt)(l:aqx bt):pw p (m::l)=(cO m.ao&&(!(m.cN.toInt==0)&&((match p with|none=>true|some q=>Op.bytesLess (bL q) (bL m.ao))&&pw (some m.ao) l))):=by cases p<;>rfl
def dF(x:aR):Bool:=pw none x.xL
def sY(x:aR)(k:Nat):aqz aqy:=bif k==0 then none else(x.xL[k-1]?).map (·.ao)
theorem akF{k:Nat}(h0:0<k)(h:k<=maxLen):bl ((k:Int)-1)=((k-1:Nat):Int):=by
 unfold bl;have:(k:Int)-1=((k-1:Nat):Int):=by omega
 rw[this];unfold maxLen at h;rw[IntKind.wrap_i64]<;>omega
theorem VG{x:aR}{k:Nat}{m:bt}{l:aqx bt}(hd:x.xL.drop k=m::l):sY x (k+1)=some m.ao:=by
 have:=aW hd;unfold sY;simp [this]
theorem abJ{x:aR}{k:Nat}{m:bt}{l:aqx bt}(hd:x.xL.drop k=m::l)(hm:x.xL.length<=maxLen):
 (bif (decide ((k:Int)>0))then bif (decide ((0:Int)<=(bl ((k:Int)-(1:Int)))))then
 Option.bind (x.xL[((bl ((k:Int)-(1:Int)))).toNat]?) λv7=>
 some (!(Op.bytesLess (bL v7.ao) (bL m.ao)))
 else none else some false)=some (!(match sY x k with|none=>true|some q=>Op.bytesLess (bL q) (bL m.ao))):=by
 have aH:k<x.xL.length:=(apJ.1 (aW hd)).1;by_cases h0:k=0
 ·subst h0;rfl
 ·rw[aqq (show(k:Int)>0 by omega),akF (by omega) (by omega),aqq (show(0:Int)<=((k-1:Nat):Int) by omega)];simp only[cond_true,aqa];have hp:sY x k=(x.xL[k-1]?).map (·.ao):=by
    unfold sY;rw[beq_false_of_ne h0];rfl
  rw[hp,apN (show k-1<x.xL.length by omega)];rfl
theorem abM(N:Nat)(hN:16<N)(x:aR)(hm:x.xL.length<=maxLen):∀(l:aqx bt)(k:Nat),x.xL.drop k=l->KL N x l k=some (bif pw (sY x k) l then 0 else 1)
 |[],k,_=>rfl
 |m::l,k,hd=>by
  rw[KL,adf N m.ao hN,apI,BA,abJ hd hm,abM N hN x hm l (k+1) (tW hd),VG hd];generalize (match sY x k with|none=>true|some q=>Op.bytesLess (bL q) (bL m.ao))=b;cases cO m.ao<;>cases (m.cN.toInt==0)<;>cases b<;>cases pw (some m.ao) l<;>rfl
theorem sI(N:Nat)(hN:16<N)(x:aR)(hm:x.xL.length<=maxLen):qX N x=some (bif dF x then 0 else 1):=abM N hN x hm x.xL 0 rfl
theorem acB(N:Nat)(hN:16<N)(x:aR)(hm:x.xL.length<=maxLen):∀(l:aqx bt)(k:Nat),x.xL.drop k=l->JN N x l k=some (pw (sY x k) l)
 |[],k,_=>rfl
 |m::l,k,hd=>by
  rw[JN,sf N m.ao hN,apI,BA,abJ hd hm,acB N hN x hm l (k+1) (tW hd),VG hd];generalize (match sY x k with|none=>true|some q=>Op.bytesLess (bL q) (bL m.ao))=b;cases cO m.ao<;>cases (m.cN.toInt==0)<;>cases b<;>cases pw (some m.ao) l<;>rfl
theorem qK(N:Nat)(hN:16<N)(x:aR)(hm:x.xL.length<=maxLen):nP N x=some (dF x):=acB N hN x hm x.xL 0 rfl
def mw(t:bA)(v:dx):Bool:=
 bif t.b7==2 then v.xD.toInt==1&&(decide (-(2^(t.cp-1).toNat)<=v.xN.toInt)&&decide (v.xN.toInt<2^(t.cp-1).toNat))
 else decide (v.xN.toInt<=2147483647)&&(decide (-2147483647<=v.xN.toInt)&&(decide (1<=v.xD.toInt)&&(decide (v.xD.toInt<=2147483647)&&
  (bif t.b7==3 then v.xD.toInt==1 else Nat.gcd v.xN.toInt.natAbs v.xD.toInt.toNat==1))))
theorem aem:∀n:Fin 30,(decide ((0:Int)<=(IntKind.u64.wrap (bl (((n.val+2:Nat):Int)-(1:Int))))))=true/\(decide ((0:Int)<=(bl (((n.val+2:Nat):Int)-(1:Int)))))=true/\
 (-(Int64.ofInt ((1:Int)*2^(min ((IntKind.u64.wrap (bl (((n.val+2:Nat):Int)-(1:Int))))).toNat (IntKind.bits .i64))))).toInt= -(2^(n.val+1))/\
 ((Int64.ofInt ((1:Int)*2^(min ((IntKind.u64.wrap (bl (((n.val+2:Nat):Int)-(1:Int))))).toNat (IntKind.bits .i64))))-(1:Int64)).toInt=2^(n.val+1)-1/\
 (-(Int64.ofInt ((1:Int)*2^(min ((bl (((n.val+2:Nat):Int)-(1:Int)))).toNat (IntKind.bits .i64))))).toInt= -(2^(n.val+1))/\
 (Int64.ofInt ((1:Int)*2^(min ((bl (((n.val+2:Nat):Int)-(1:Int)))).toNat (IntKind.bits .i64)))).toInt=2^(n.val+1):=by decide+kernel
theorem WK{b:Int}(h1:2<=b)(h2:b<=31):(decide ((0:Int)<=(IntKind.u64.wrap (bl (b-(1:Int))))))=true/\(decide ((0:Int)<=(bl (b-(1:Int)))))=true/\
 (-(Int64.ofInt ((1:Int)*2^(min ((IntKind.u64.wrap (bl (b-(1:Int))))).toNat (IntKind.bits .i64))))).toInt= -(2^(b-1).toNat)/\
 ((Int64.ofInt ((1:Int)*2^(min ((IntKind.u64.wrap (bl (b-(1:Int))))).toNat (IntKind.bits .i64))))-(1:Int64)).toInt=2^(b-1).toNat-1/\
 (-(Int64.ofInt ((1:Int)*2^(min ((bl (b-(1:Int)))).toNat (IntKind.bits .i64))))).toInt= -(2^(b-1).toNat)/\
 (Int64.ofInt ((1:Int)*2^(min ((bl (b-(1:Int)))).toNat (IntKind.bits .i64)))).toInt=2^(b-1).toNat:=by
 obtain⟨n,rfl⟩:∃n:Nat,b=n:=⟨b.toNat,by omega⟩;have:=aem ⟨n-2,by omega⟩;simp only[show n-2+2=n by omega,show n-2+1=n-1 by omega]at this;rw[show((n:Int)-1).toNat=n-1 by omega];exact this
theorem SU(N:Nat):∀(k a b:Nat),b<k->y8 N k (a:Int) (b:Int)=some ((Nat.gcd a b:Nat):Int)
 |0,a,b,h=>absurd h (aqb _)
 |k+1,a,b,h=>by
  rw[y8];by_cases h0:b=0
  ·subst h0;simp
  ·rw[show(((b:Nat):Int) !=0)=true by rw[bne_iff_ne];omega];simp only[cond_true];rw[<-Int.ofNat_tmod,SU N k b (a%b) (by have:=Nat.mod_lt a (Nat.pos_of_ne_zero h0);omega)];rw[Nat.gcd_comm a b,Nat.gcd_rec b a,Nat.gcd_comm]
theorem Xy(N:Nat):∀(k:Nat)(a b:Int64),0<=a.toInt->0<=b.toInt->b.toInt.toNat<k->∃g:Int64,DD N k a b=some g/\g.toInt=((Nat.gcd a.toInt.toNat b.toInt.toNat:Nat):Int)
 |0,a,b,_,_,h=>absurd h (aqb _)
 |k+1,a,b,ha,hb,h=>by
  rw[DD];by_cases h0:b.toInt=0
  ·rw[h0];refine⟨a,rfl,?_⟩;show a.toInt=((Nat.gcd a.toInt.toNat 0:Nat):Int);rw[Nat.gcd_zero_right];omega
  ·rw[show(b.toInt !=0)=true by rw[bne_iff_ne];exact h0];simp only[cond_true];obtain⟨x,hx⟩:∃x:Nat,a.toInt=x:=⟨a.toInt.toNat,by omega⟩;obtain⟨y,hy⟩:∃y:Nat,b.toInt=y:=⟨b.toInt.toNat,by omega⟩;rw[hx,hy];have hyp:0<y:=by omega
   have hm:(x:Int).tmod (y:Int)=((x%y:Nat):Int):=(Int.ofNat_tmod x y).symm;have aH:=Nat.mod_lt x hyp;have jR:b.toInt<2^63:=Int64.toInt_lt b;have mh:(Int64.ofInt ((x%y:Nat):Int)).toInt=((x%y:Nat):Int):=by
    rw[Int64.toInt_ofInt_of_le]
    ·omega
    ·omega
   rw[hm];obtain⟨g,h1,h2⟩:=Xy N k b (Int64.ofInt ((x%y:Nat):Int)) hb (by rw[mh];omega) (by rw[mh];omega);refine⟨g,h1,?_⟩;rw[h2,mh,hy];simp only[aqa];rw[Nat.gcd_comm x y,Nat.gcd_rec y x,Nat.gcd_comm]
theorem su(z:Int):IntKind.u64.wrap z=z%18446744073709551616:=rfl
theorem Iy(N:Nat)(v:Int64):Ar N v=some ((v.toInt.natAbs:Nat):Int):=by
 unfold Ar;have h1:v.toInt<2^63:=Int64.toInt_lt v;have h2: -2^63<=v.toInt:=Int64.le_toInt v;by_cases h:v.toInt<0
 ·rw[aqq h];simp only[cond_true,su]
  congr 1
  omega
 ·rw[aqr h];simp only[cond_false,su]
  congr 1
  omega
theorem QJ(N:Nat)(hN:2147483648<N)(t:bA)(v:dx)(ht:eX t=true):wD N t v=some (mw t v):=by
 unfold wD;rw[qW,ht,apI];unfold mw;cases h2:t.b7==2 with
 |true=>
  simp only[cond_true];show Option.bind (u6 N t v) _=_;unfold eX at ht;have hk:t.b7=2:=by simpa using h2
  rw[hk]at ht;have rV:(decide (2<=t.cp)&&(decide (t.cp<=31)&&(decide (0<=t.cq)&&(decide (t.cq<=30)&&(decide (1<=t.cU)&&(decide (t.cU<=4)&&(t.cS==1||t.cS==2)))))))=true:=ht;unfold u6;rw[Un N t h2,rV,apI];simp only[apL,decide_eq_true_eq]at rV;obtain⟨b1,b2,_⟩:=rV;obtain⟨f1,f2,f3,f4,f5,f6⟩:=WK b1 b2;unfold SV QK H0;rw[jG,apI,apI,sJ,aqq b1,aqq b2];simp only[Bool.and_self,cond_true];rw[f1];simp only[cond_true,apI];rw[f3,f4];rw[sJ,jG,p8 (p:=v.xN.toInt<=2^(t.cp-1).toNat-1) (q:=v.xN.toInt<2^(t.cp-1).toNat) (by omega)];cases (v.xD.toInt==1)<;>rfl
 |false=>
  simp only[cond_false];show(bif t.b7==3 then _ else _)=_;cases h3:t.b7==3 with
  |true=>
   simp only[cond_true];unfold NR;rw[sJ,jG,apI,apI];by_cases hd:v.xD.toInt=1
   ·rw[hd];simp only[aqs,cond_true,apI,show decide ((1:Int)<=1)=true from rfl,show decide ((1:Int)<=2147483647)=true from rfl,Bool.and_true];rw[Bool.and_comm]
   ·rw[beq_false_of_ne hd];simp only[cond_false,apI,Bool.and_false]
  |false=>
   simp only[cond_false];unfold y6 Sp;rw[sJ,sJ,jG,apI,apI,Iy,apI];cases Es:decide (1<=v.xD.toInt)with
   |false=>cases decide (v.xN.toInt<=2147483647)<;>cases decide (-2147483647<=v.xN.toInt)<;>rfl
   |true=>
    cases mR:decide (v.xD.toInt<=2147483647)with
    |false=>cases decide (v.xN.toInt<=2147483647)<;>cases decide (-2147483647<=v.xN.toInt)<;>rfl
    |true=>
     have e1:=of_decide_eq_true Es;have e2:=of_decide_eq_true mR;have hw:IntKind.u64.wrap v.xD.toInt=((v.xD.toInt.toNat:Nat):Int):=by rw[su];omega
     simp only[cond_true,Bool.true_and];rw[hw];unfold Cl;rw[SU N N v.xN.toInt.natAbs v.xD.toInt.toNat (by omega),apI,show((((Nat.gcd v.xN.toInt.natAbs v.xD.toInt.toNat:Nat):Int))==1)=(Nat.gcd v.xN.toInt.natAbs v.xD.toInt.toNat==1)from yW _ 1,jG,apI];cases decide (v.xN.toInt<=2147483647)<;>cases decide (-2147483647<=v.xN.toInt)<;>rfl
theorem R4(N:Nat)(hN:2147483648<N)(t:bA)(v:dx)(ht:eX t=true):x7 N t v=some (mw t v):=by
 unfold x7 mw;cases h2:t.b7==2 with
 |true=>
  simp only[cond_true];unfold eX at ht;have hk:t.b7=2:=by simpa using h2
  rw[hk]at ht;have rV:(decide (2<=t.cp)&&(decide (t.cp<=31)&&(decide (0<=t.cq)&&(decide (t.cq<=30)&&(decide (1<=t.cU)&&(decide (t.cU<=4)&&(t.cS==1||t.cS==2)))))))=true:=ht;simp only[apL,decide_eq_true_eq]at rV;obtain⟨b1,b2,_⟩:=rV;obtain⟨f1,f2,f3,f4,f5,f6⟩:=WK b1 b2;rw[f2];simp only[cond_true];rw[f5,f6,sJ,jG,jG,apI]
 |false=>
  simp only[cond_false,KT,jF,apI];cases vM:decide (v.xN.toInt<=2147483647)with
  |false=>rfl
  |true=>
   cases j6:decide (-2147483647<=v.xN.toInt)with
   |false=>rfl
   |true=>
    cases Es:decide (1<=v.xD.toInt)with
    |false=>rfl
    |true=>
     cases mR:decide (v.xD.toInt<=2147483647)with
     |false=>rfl
     |true=>
      have n1:=of_decide_eq_true vM;have n2:=of_decide_eq_true j6;have e1:=of_decide_eq_true Es;have e2:=of_decide_eq_true mR;simp only[Bool.not_true,Bool.or_false,cond_false,Bool.true_and];cases h3:t.b7==3 with
      |true=>rfl
      |false=>
       simp only[cond_false];have alw:(-v.xN).toInt= -v.xN.toInt:=by
        rw[Int64.toInt_neg];rw[Int.bmod_eq_of_le]<;>omega
       have yk:(AL v.xN (-v.xN)).toInt=((v.xN.toInt.natAbs:Nat):Int):=by
        rw[<-UN,alw];split<;>omega
       unfold NH;obtain⟨g,g1,g2⟩:=Xy N N (AL v.xN (-v.xN)) v.xD (by rw[yk];omega) (by omega) (by omega);rw[g1,apI,g2,yk,aqa];rw[show((((Nat.gcd v.xN.toInt.natAbs v.xD.toInt.toNat:Nat):Int))==1)=(Nat.gcd v.xN.toInt.natAbs v.xD.toInt.toNat==1)from yW _ 1]
set_option linter.unusedSimpArgs false
def jr(l:aR):Prop:=l.xL.length<=maxLen
structure Xm(x:bH):Prop where
 fi:jr x.aS
 at_:∀l∈x.bO,jr l
structure zq(e:au):Prop where
 fi:jr e.aS
 idx:∀x∈e.xIdx,Xm x
 args:e.bp.length<=maxLen
def pA(e:au):Prop:=∀x∈cM e,zq x
def kt(l:aR):Bool:=l.xK.toInt==0&&l.xL.length==0
def kh(x:bH):Bool:=bif bL x.bR==[]then x.bO.length==0 else kt x.aS
def JA(v:dx):Bool:=v.xN.toInt==0&&v.xD.toInt==0
def Mu(t:bA):Bool:=t.b7==0&&(t.cp==0&&(t.cq==0&&(t.cU==0&&t.cS==0)))
def iA(e:au):Bool:=decide (1<=e.aJ)&&(decide (e.aJ<=18)&&((e.aJ==1||JA e.dM)&&((e.aJ==1||(e.aJ==12||Mu e.aO))&&((e.aJ==2||kt e.aS)&&((e.aJ==3||(bL e.ao==[]&&e.xIdx.length==0))&&e.xIdx.all kh)))))
def lN(e:au):Bool:=(!(e.aJ==3)||cO e.ao)&&e.xIdx.all λx=>bL x.bR==[]||cO x.bR
def rL(op:Int):Int:=bif op==1||(op==2||op==3)then 0 else bif op==8||(op==12||op==18)then 1 else bif op==11 then 3 else 2
def kH(e:au):Bool:=(e.bp.length:Int)==rL e.aJ&&(decide (e.xIdx.length<=6)&&e.xIdx.all λx=>decide (x.bO.length<=6))
def mW(e:au):Bool:=decide (13<=e.aJ)&&decide (e.aJ<=18)
def xx(op:Int)(i:Nat):Bool:=(op==11&&i==0)||(op==16||(op==17||op==18))
def rb(op:Int):Nat->aqx au->Bool
 |_,[]=>true
 |i,a::l=>mW a==xx op i&&rb op (i+1) l
def kI(e:au):Bool:=(!(e.aJ==1||e.aJ==12)||eX e.aO)&&rb e.aJ 0 e.bp
def mC(e:au):Bool:=(!(e.aJ==1)||mw e.aO e.dM)&&(nE e).all dF
def lB(e:au):Int:=bif iA e then bif lN e then bif kH e then bif kI e then bif mC e then 0 else 1 else 10 else 11 else 7 else 5
theorem pM(n:Nat):((n:Int)==0)=(n==0):=yW n 0
theorem ku(n:Nat):decide ((n:Int)>0)= !(n==0):=by
 by_cases h:n=0
 ·subst h;rfl
 ·rw[aqq (show(n:Int)>0 by omega),beq_false_of_ne h];rfl
theorem VM(N:Nat)(l:aR):Ec N l=some (kt l):=by
 unfold Ec kt;rw[jG,apI,pM]
theorem aj7(N:Nat)(x:bH):JL N x=some (kh x):=by
 unfold JL kh;rw[VM,apI,pM,qB];cases bL x.bR==[]<;>rfl
theorem SC{α:Type}(f:α->Bool)(l:aqx α):(l.any λx=> !f x)= !l.all f:=by
 induction l with
 |nil=>rfl
 |cons x l ih=>rw[aqu,aqt,ih];cases f x<;>rfl
theorem V1(N:Nat):∀(l:aqx bH)(k:Nat),∃z:Int,Jx N l k=some z/\decide (z>=0)=l.any λx=> !kh x
 |[],k=>⟨-1,rfl,rfl⟩
 |x::l,k=>by
  rw[Jx,aqu];unfold To;rw[aj7,apI,apI];cases h: !kh x with
  |true=>exact⟨k,rfl,aqq (by omega)⟩
  |false=>exact V1 N l (k+1)
theorem adJ(N:Nat)(l:aqx bH):Kb N l=some (!l.all kh):=by
 unfold Kb Qj;obtain⟨z,h1,h2⟩:=V1 N l 0;rw[h1,apI,h2,SC]
theorem ab1(v:dx):((v.xN.toInt==(0:Int64).toInt)&&((v.xD.toInt==(0:Int64).toInt)&&true))=JA v:=by rw[Bool.and_true];rfl
theorem U9(t:bA):((t.b7==0)&&((t.cp==0)&&((t.cq==0)&&((t.cU==0)&&((t.cS==0)&&true)))))=Mu t:=by rw[Bool.and_true];rfl
theorem sk(a b:Bool):(bif a then some false else some b)=some (!a&&b):=by cases a<;>rfl
theorem Yw(a b:Bool):(bif a then some b else some true)=some (!a||b):=by cases a<;>rfl
theorem adx(N:Nat)(e:au):J9 N e=some (iA e):=by
 unfold J9 iA;simp only[ku];simp only[jF,jG,sk,Yw,apI,KT,M5,VM,adJ,ab1,U9,qB];cases decide (1<=e.aJ)<;>cases decide (e.aJ<=18)<;>cases e.aJ==1<;>cases JA e.dM<;>cases e.aJ==12<;>cases Mu e.aO<;>cases e.aJ==2<;>cases kt e.aS<;>cases e.aJ==3<;>cases bL e.ao==[]<;>cases e.xIdx.length==0<;>cases e.xIdx.all kh<;>rfl
theorem YD(N:Nat):∀(l:aqx bH)(k:Nat),LK N l k=some (l.all kh)
 |[],_=>rfl
 |x::l,k=>by
  rw[LK,aqt,YD N l (k+1)];unfold kh kt;simp only[jF,ajQ,jG,apI,ku,qH,qB];cases bL x.bR==[]<;>cases x.bO.length==0<;>cases x.aS.xK.toInt==0<;>cases x.aS.xL.length==0<;>rfl
theorem ain(N:Nat)(e:au):Io N e=some (iA e):=by
 unfold Io iA;simp only[ku];simp only[jF,jG,sk,Yw,apI,KT,M5,qH,YD,ab1,U9,qB];unfold kt;cases decide (1<=e.aJ)<;>cases decide (e.aJ<=18)<;>cases e.aJ==1<;>cases JA e.dM<;>cases e.aJ==12<;>cases Mu e.aO<;>cases e.aJ==2<;>cases e.aS.xK.toInt==0<;>cases e.aS.xL.length==0<;>cases e.aJ==3<;>cases bL e.ao==[]<;>cases e.xIdx.length==0<;>cases e.xIdx.all kh<;>rfl
theorem anE(N:Nat)(hN:16<N)(x:bH):Kr N x=some (!(bL x.bR==[]||cO x.bR)):=by
 unfold Kr;rw[tV N _ hN,apI,sk,apI,qB];cases bL x.bR==[]<;>rfl
theorem U1(N:Nat)(hN:16<N):∀(l:aqx bH)(k:Nat),∃z:Int,KK N l k=some z/\decide (z>=0)=l.any λx=> !(bL x.bR==[]||cO x.bR)
 |[],k=>⟨-1,rfl,rfl⟩
 |x::l,k=>by
  rw[KK,aqu,anE N hN,apI];cases h: !(bL x.bR==[]||cO x.bR)with
  |true=>exact⟨k,rfl,aqq (by omega)⟩
  |false=>exact U1 N hN l (k+1)
theorem ajS(N:Nat)(hN:16<N)(e:au):J3 N e=some (lN e):=by
 unfold J3 lN QW SH;obtain⟨z,h1,h2⟩:=U1 N hN e.xIdx 0;rw[tV N _ hN,apI,h1];simp only[apI,h2,SC,jG,sk];cases e.aJ==3<;>cases cO e.ao<;>cases (e.xIdx.all λx=>bL x.bR==[]||cO x.bR)<;>rfl
theorem Ya(N:Nat)(hN:16<N):∀(l:aqx bH)(k:Nat),JF N l k=some (l.all λx=>bL x.bR==[]||cO x.bR)
 |[],_=>rfl
 |x::l,k=>by
  rw[JF,aqt,Ya N hN l (k+1),sf N _ hN,apI,sk,apI,sk,qB];cases bL x.bR==[]<;>cases cO x.bR<;>rfl
theorem aej(N:Nat)(hN:16<N)(e:au):K3 N e=some (lN e):=by
 unfold K3 lN;rw[sf N _ hN,apI,Ya N hN];simp only[apI,jG,sk];cases e.aJ==3<;>cases cO e.ao<;>rfl
theorem XO(N:Nat):∀(l:aqx bH)(k:Nat),∃z:Int,IZ N l k=some z/\decide (z>=0)=l.any λx=> !decide (x.bO.length<=6)
 |[],k=>⟨-1,rfl,rfl⟩
 |x::l,k=>by
  rw[IZ,aqu];unfold PO;rw[apI,show decide ((x.bO.length:Int)>6)= !decide (x.bO.length<=6)from kG _ 6];cases h: !decide (x.bO.length<=6)with
  |true=>exact⟨k,rfl,aqq (by omega)⟩
  |false=>exact XO N l (k+1)
theorem an5(N:Nat)(op:Int):Hm N op=some (rL op):=by
 unfold Hm GQ Dm rL;cases op==1<;>cases op==2<;>cases op==3<;>cases op==8<;>cases op==12<;>cases op==18<;>cases op==11<;>rfl
theorem amm(N:Nat)(op:Int):Lm N op=some (rL op):=by
 unfold Lm Gq Ce rL;cases op==1<;>cases op==2<;>cases op==3<;>cases op==8<;>cases op==12<;>cases op==18<;>cases op==11<;>rfl
theorem afv(N:Nat)(e:au):HX N e=some (kH e):=by
 unfold HX kH QV NF;obtain⟨z,h1,h2⟩:=XO N e.xIdx 0;rw[an5,apI,h1,show decide ((e.xIdx.length:Int)>6)= !decide (e.xIdx.length<=6)from kG _ 6];simp only[apI,h2,SC,jF,sk,qH];cases (e.bp.length:Int)==rL e.aJ<;>cases decide (e.xIdx.length<=6)<;>cases (e.xIdx.all λx=>decide (x.bO.length<=6))<;>rfl
theorem abR(N:Nat):∀(l:aqx bH)(k:Nat),Kc N l k=some (l.all λx=>decide (x.bO.length<=6))
 |[],_=>rfl
 |x::l,k=>by
  rw[Kc,aqt,abR N l (k+1),show decide ((x.bO.length:Int)>6)= !decide (x.bO.length<=6)from kG _ 6];cases decide (x.bO.length<=6)<;>rfl
theorem ana(N:Nat)(e:au):KV N e=some (kH e):=by
 unfold KV kH;rw[amm,apI,abR,show decide ((e.xIdx.length:Int)>6)= !decide (e.xIdx.length<=6)from kG _ 6];simp only[apI,jF,sk,qH];cases (e.bp.length:Int)==rL e.aJ<;>cases decide (e.xIdx.length<=6)<;>rfl
theorem abE(N:Nat)(e:au):CE N e=some (mW e):=by
 unfold CE mW;rw[jG,apI]
theorem C2(N:Nat)(e:au):Eg N e=some (mW e):=by
 unfold Eg mW;rw[sJ,jG,apI]
theorem ajU(N:Nat)(op:Int)(i:Nat):I3 N op (i:Int)=some (xx op i):=by
 unfold I3 Fw xx;rw[pM];cases op==16<;>cases op==17<;>cases op==18<;>cases op==11<;>cases i==0<;>rfl
theorem ajy(N:Nat)(op:Int)(i:Nat):Ms N op (i:Int)=some (xx op i):=by
 unfold Ms xx;rw[pM];cases op==16<;>cases op==17<;>cases op==18<;>cases op==11<;>cases i==0<;>rfl
theorem XY(N:Nat)(e:au):∀(l:aqx au)(i:Nat),H4 N e l i=some (rb e.aJ i l)
 |[],_=>rfl
 |a::l,i=>by
  rw[H4,rb,abE,apI,ajU,apI,XY N e l (i+1)];cases mW a==xx e.aJ i<;>rfl
theorem ZO(N:Nat)(e:au):∀(l:aqx au)(i:Nat),MO N e l i=some (rb e.aJ i l)
 |[],_=>rfl
 |a::l,i=>by
  rw[MO,rb,C2,apI,ajy,apI,ZO N e l (i+1)];cases mW a==xx e.aJ i<;>rfl
theorem acR(b:Bool):((bif b then(0:Int)else 10) !=0)= !b:=by cases b<;>rfl
theorem aeR(N:Nat)(e:au):Ke N e=some (kI e):=by
 unfold Ke kI;rw[qW,apI,XY];simp only[acR];cases e.aJ==1<;>cases e.aJ==12<;>cases eX e.aO<;>rfl
theorem aoA(N:Nat)(e:au):Ki N e=some (kI e):=by
 unfold Ki kI;rw[sR,apI,ZO];cases e.aJ==1<;>cases e.aJ==12<;>cases eX e.aO<;>rfl
theorem akf(b:Bool):((bif b then(0:Int)else 1) !=0)= !b:=by cases b<;>rfl
theorem XZ(N:Nat)(hN:16<N):∀l:aqx aR,(∀x∈l,jr x)->uM N l=some (bif l.all dF then 0 else 1)
 |[],_=>rfl
 |x::l,h=>by
  rw[uM,sI N hN x (h x apP),apI,akf,XZ N hN l (λy hy=>h y (apS _ hy)),aqt];cases dF x<;>rfl
theorem Zy(N:Nat)(hN:16<N)(c:Bool):∀(l:aqx aR)(k:Nat),(∀x∈l,jr x)->Ic N (some c) l k=some (l.all dF&&c)
 |[],_,_=>rfl
 |x::l,k,h=>by
  rw[Ic,qK N hN x (h x apP),apI,Zy N hN c l (k+1) (λy hy=>h y (apS _ hy)),aqt];cases dF x<;>rfl
theorem WD(N:Nat)(hN:16<N):∀(l:aqx bH)(k:Nat),(∀x∈l,Xm x)->Ky N l k=some ((l.flatMap uA).all dF)
 |[],_,_=>rfl
 |x::l,k,h=>by
  have hx:=h x apP;rw[Ky,qK N hN _ hx.fi,apI,WD N hN l (k+1) (λy hy=>h y (apS _ hy)),Zy N hN _ _ _ hx.at_,List.flatMap_cons,uA,List.cons_append,aqt,List.all_append];cases dF x.aS<;>rfl
theorem af3{e:au}(h:zq e):∀x∈nE e,jr x:=by
 intro x hx;unfold nE at hx;rcases aqd.1 hx with rfl|hx
 ·exact h.fi
 ·obtain⟨y,hy,hx⟩:=List.mem_flatMap.1 hx;unfold uA at hx;rcases aqd.1 hx with rfl|hx
  ·exact(h.idx y hy).fi
  ·exact(h.idx y hy).at_ x hx
theorem aeW(N:Nat)(hN:2147483648<N)(e:au)(h:zq e)(ht:kI e=true):Ir N e=some (mC e):=by
 unfold Ir mC nE;rw[aqt,qK N (by omega) _ h.fi,apI,WD N (by omega) _ _ h.idx];cases h1:e.aJ==1 with
 |true=>
  have rm:eX e.aO=true:=by
   unfold kI at ht;rw[h1]at ht;simp only[Bool.true_or,Bool.not_true,Bool.false_or,apL]at ht;exact ht.1
  rw[R4 N hN _ _ rm,apI];cases mw e.aO e.dM<;>cases dF e.aS<;>rfl
 |false=>cases dF e.aS<;>rfl
theorem akM(N:Nat)(hN:2147483648<N)(e:au)(h:zq e):DF N e=some (lB e):=by
 unfold DF lB;rw[adx,apI];cases iA e with
 |false=>rfl
 |true=>
  simp only[cond_true];rw[ajS N (by omega),apI];cases lN e with
  |false=>rfl
  |true=>
   simp only[cond_true];rw[afv,apI];cases kH e with
   |false=>rfl
   |true=>
    simp only[cond_true];rw[aeR,apI];cases ht:kI e with
    |false=>rfl
    |true=>
     simp only[cond_true];have hf:uM N (nE e)=_:=XZ N (by omega) (nE e) (af3 h);unfold mC QQ;rw[apI,hf];cases h1:e.aJ==1 with
     |true=>
      have rm:eX e.aO=true:=by
       unfold kI at ht;rw[h1]at ht;simp only[Bool.true_or,Bool.not_true,Bool.false_or,apL]at ht;exact ht.1
      rw[QJ N hN _ _ rm,apI];cases mw e.aO e.dM<;>cases (nE e).all dF<;>rfl
     |false=>cases (nE e).all dF<;>rfl
theorem tK{e x:au}(h:x∈e.bp):SizeOf.sizeOf x<SizeOf.sizeOf e:=by
 have h1:=List.sizeOf_lt_of_mem h;cases e
 simp only[au.mk.sizeOf_spec]at*;omega
theorem Gn{e x y:au}(h:x∈e.bp)(hy:y∈cM x):y∈cM e:=by
 have gen:∀l:aqx au,x∈l->y∈gW l:=by
  intro l
  induction l with
  |nil=>intro h;cases h
  |cons z l ih=>
   intro h;rw[nC];rcases aqd.1 h with rfl|h
   ·exact List.mem_append_left _ hy
   ·exact List.mem_append_right _ (ih h)
 exact apS _ (gen _ h)
theorem pA.node{e:au}(h:pA e):zq e:=h e apP
theorem pA.arg{e x:au}(h:pA e)(hx:x∈e.bp):pA x:=λy hy=>h y (Gn hx hy)
def jS:aqx au->Int
 |[]=>0
 |x::l=>bif lB x !=0 then lB x else jS l
theorem XI:∀a b:aqx au,jS (a++b)=bif jS a !=0 then jS a else jS b
 |[],_=>rfl
 |x::a,b=>by
  rw[List.cons_append,jS,jS,XI a b];cases h:lB x !=0 with
  |true=>simp only[cond_true,h]
  |false=>rfl
theorem ZR(N:Nat)(hN:2147483648<N):∀l:aqx au,(∀x∈l,zq x)->xF N l=some (jS l)
 |[],_=>rfl
 |x::l,h=>by
  rw[xF,akM N hN x (h x apP),apI,ZR N hN l (λy hy=>h y (apS _ hy)),jS];cases lB x !=0<;>rfl
theorem aaR(N:Nat)(rec:au->aqz Int):∀(l:aqx au)(k:Nat),(∀x∈l,rec x=some (jS (cM x)))->MJ N rec l k=some (jS (gW l))
 |[],_,_=>by rw[gW];rfl
 |x::l,k,h=>by
  rw[MJ,h x apP,apI,aaR N rec l (k+1) (λy hy=>h y (apS _ hy)),nC,XI];cases jS (cM x) !=0<;>rfl
theorem Xz(N:Nat)(hN:2147483648<N):∀(d:Nat)(e:au),SizeOf.sizeOf e<d->pA e->wv N d e=some (jS (cM e))
 |0,_,h,_=>absurd h (aqb _)
 |d+1,e,h,hk=>by
  rw[wv];have hl:=aaR N (wv N d) e.bp 0 λx hx=>Xz N hN d x (by have:=tK hx;omega) (hk.arg hx);unfold cM;rw[jS];unfold lB;rw[ain,apI];cases iA e with
  |false=>rfl
  |true=>
   simp only[cond_true];rw[aej N (by omega),apI];cases lN e with
   |false=>rfl
   |true=>
    simp only[cond_true];rw[ana,apI];cases kH e with
    |false=>rfl
    |true=>
     simp only[cond_true];rw[aoA,apI];cases ht:kI e with
     |false=>rfl
     |true=>
      simp only[cond_true];rw[aeW N hN e hk.node ht,apI,hl];cases mC e<;>rfl
def gU:Nat->au->Nat
 |0,_=>1
 |L+1,e=>e.bp.foldl (λm a=>max m (1+gU L a)) 1
theorem Z3{α:Type}(f:α->Nat)(b:Nat):∀(l:aqx α)(m:Nat),m<=b->(∀x∈l,f x<=b)->l.foldl (λm a=>max m (f a)) m<=b
 |[],_,h,_=>h
 |x::l,_,h,hl=>Z3 f b l _ (Nat.max_le.2 ⟨h,hl x apP⟩) λy hy=>hl y (apS _ hy)
theorem SN:∀(L:Nat)(e:au),gU L e<=L+1
 |0,_=>apU _
 |L+1,e=>Z3 (λa=>1+gU L a) (L+2) e.bp 1 (by omega) λx _=>by have:=SN L x;show 1+gU L x<=L+2;omega
theorem pk{z:Int}(h1: -9223372036854775808<=z)(h2:z<9223372036854775808):bl z=z:=by
 unfold bl;rw[IntKind.wrap_i64];omega
theorem HF(a b:Nat):(if((a:Nat):Int)>((b:Nat):Int)then((a:Nat):Int)else(b:Int))=((max b a:Nat):Int):=by
 split<;>omega
theorem W1(N:Nat)(rec:au->Int->aqz Int)(L:Nat)(hL:L<=100):∀(l:aqx au)(k m:Nat),(∀x∈l,rec x ((L:Int)+1)=some ((gU L x:Nat):Int))->I4 N rec ((L:Int)+1+1) l k (m:Int)=some ((l.foldl (λm a=>max m (1+gU L a)) m:Nat):Int)
 |[],_,_,_=>rfl
 |x::l,k,m,h=>by
  have h1:=SN L x;rw[I4,pk (by omega) (by omega),show(L:Int)+1+1-1=(L:Int)+1 by omega,h x apP,apI];rw[pk (by omega) (by omega),show(1:Int)+((gU L x:Nat):Int)=((1+gU L x:Nat):Int) by omega,HF];exact W1 N rec L hL l (k+1) _ λy hy=>h y (apS _ hy)
theorem aay(N:Nat):∀(L d:Nat)(e:au),L<d->L<=100->rU N d e ((L:Int)+1)=some ((gU L e:Nat):Int)
 |L,0,_,h,_=>absurd h (aqb _)
 |0,d+1,e,_,_=>by rw[rU];rfl
 |L+1,d+1,e,h,hL=>by
  rw[rU,aqr (by omega)];simp only[cond_false];exact W1 N (rU N d) L (by omega) e.bp 0 1 λx _=>aay N L d x (by omega) (by omega)
theorem X8(N:Nat)(rec:au->Int->aqz Int)(L:Nat)(hL:L<=100):∀(l:aqx au)(k m:Nat),(∀x∈l,rec x ((L:Int)+1)=some ((gU L x:Nat):Int))->zn N ((L:Int)+1+1) rec l k (m:Int)=some ((l.foldl (λm a=>max m (1+gU L a)) m:Nat):Int)
 |[],_,_,_=>rfl
 |x::l,k,m,h=>by
  have h1:=SN L x;rw[zn,aqq (show(L:Int)+1+1>1 by omega)];simp only[cond_true];rw[pk (by omega) (by omega),show(L:Int)+1+1-1=(L:Int)+1 by omega,h x apP,apI];rw[pk (by omega) (by omega),show(1:Int)+((gU L x:Nat):Int)=((1+gU L x:Nat):Int) by omega,HF];exact X8 N rec L hL l (k+1) _ λy hy=>h y (apS _ hy)
theorem ajm(N:Nat)(rec:au->Int->aqz Int):∀l:aqx au,zn N 1 rec l 0 1=some 1
 |[]=>rfl
 |x::l=>by rw[zn];rfl
theorem abD(N:Nat):∀(L d:Nat)(e:au),L<d->L<=100->qP N d e ((L:Int)+1)=some ((gU L e:Nat):Int)
 |L,0,_,h,_=>absurd h (aqb _)
 |0,d+1,e,_,_=>by rw[qP];exact ajm N _ _
 |L+1,d+1,e,h,hL=>by
  rw[qP];exact X8 N (qP N d) L (by omega) e.bp 0 1 λx _=>abD N L d x (by omega) (by omega)
theorem YJ(N:Nat):∀(l:aqx au)(v:Nat),v<=2000->vR N l (v:Int)=some ((min (v+l.length) 2001:Nat):Int)
 |[],v,h=>by rw[vR];congr 2;simp only[apV];omega
 |x::l,v,h=>by
  rw[vR,pk (by omega) (by omega)];by_cases h2:v+1>2000
  ·rw[aqq (by omega)];simp only[cond_true]
   congr 1
   simp only[apM];omega
  ·rw[aqr (by omega)];simp only[cond_false];rw[show(v:Int)+1=((v+1:Nat):Int) by omega,YJ N l (v+1) (by omega)]
   congr 3
   simp only[apM];omega
theorem al8(N:Nat)(e:au):Dq N e=some ((min (cM e).length 2001:Nat):Int):=by
 unfold Dq Jh;have:=YJ N (cM e) 0 (by omega);rw[ap3]at this;exact this
theorem Ux(N:Nat)(rec:au->Int->aqz Int)(m:Nat)(hm:m<=4000):∀(l:aqx au)(k n:Nat),n<=m+1->(∀x∈l,∀q:Nat,q<=m->rec x (q:Int)=some ((min (cM x).length (q+1):Nat):Int))->Cf N (m:Int) rec l k (n:Int)=some ((min (n+(gW l).length) (m+1):Nat):Int)
 |[],k,n,hn,_=>by rw[Cf,gW];congr 2;simp only[apV];omega
 |x::l,k,n,hn,h=>by
  rw[Cf];by_cases h2:n<=m
  ·rw[aqq (by omega)];simp only[cond_true];rw[pk (by omega) (by omega),show(m:Int)-(n:Int)=((m-n:Nat):Int) by omega,h x apP (m-n) (by omega),apI];rw[pk (by omega) (by omega),show(n:Int)+((min (cM x).length (m-n+1):Nat):Int)=((n+min (cM x).length (m-n+1):Nat):Int) by omega];rw[Ux N rec m hm l (k+1) _ (by omega) λy hy=>h y (apS _ hy),nC,apK]
   congr 2
   omega
  ·rw[aqr (by omega)];simp only[cond_false]
   congr 1
   omega
theorem abQ(N:Nat):∀(d:Nat)(e:au)(m:Nat),SizeOf.sizeOf e<d->m<=4000->sC N d e (m:Int)=some ((min (cM e).length (m+1):Nat):Int)
 |0,_,_,h,_=>absurd h (aqb _)
 |d+1,e,m,h,hm=>by
  rw[sC];have:=Ux N (sC N d) m hm e.bp 0 1 (by omega) λx hx q hq=>abQ N d x q (by have:=tK hx;omega) (by omega);rw[show((1:Nat):Int)=1 from rfl]at this;rw[this]
  congr 2
  unfold cM;simp only[apM];omega
def kL(e:au):Int:=bif decide (40<gU 40 e)then 13 else bif decide (2000<(cM e).length)then 2 else jS (cM e)
theorem Tz(N:Nat)(hN:2147483648<N)(e:au)(h:pA e):uW N e=some (kL e):=by
 unfold uW Pm Q0 kL;have hd:rU N N e 41=_:=aay N 40 N e (by omega) (by omega);rw[hd,apI,apI,al8,apI];rw[p8 (p:=((gU 40 e:Nat):Int)>40) (q:=40<gU 40 e) (by omega),p8 (p:=((min (cM e).length 2001:Nat):Int)>2000) (q:=2000<(cM e).length) (by omega)];cases decide (40<gU 40 e)<;>cases decide (2000<(cM e).length)<;>try rfl
 simp only[cond_false];exact ZR N hN (cM e) h
theorem LJ(N:Nat)(hN:2147483648<N)(e:au)(hs:SizeOf.sizeOf e<N)(h:pA e):qv N e=some (kL e):=by
 unfold qv PF Tl PN Nv NL kL;have hd:qP N N e 41=_:=abD N 40 N e (by omega) (by omega);have hz:sC N N e 2000=_:=abQ N N e 2000 hs (by omega);rw[hd,apI,apI,hz,apI,apI,Xz N hN N e hs h,apI];rw[p8 (p:=((gU 40 e:Nat):Int)>40) (q:=40<gU 40 e) (by omega)];rw[show(if(2001:Int)<((min (cM e).length 2001:Nat):Int)then(2001:Int)else((min (cM e).length 2001:Nat):Int))=((min (cM e).length 2001:Nat):Int) by split<;>omega];rw[p8 (p:=((min (cM e).length 2001:Nat):Int)>2000) (q:=2000<(cM e).length) (by omega)];cases decide (40<gU 40 e)<;>cases decide (2000<(cM e).length)<;>rfl
set_option linter.unusedVariables false
def cB(l:aqx aqy)(s:aqy):Bool:=l.any λw=>bL w==bL s
theorem yT(N:Nat)(l:aqx aqy)(s:aqy):vF N l s=some (cB l s):=Tx N s l 0
theorem lG(a b:aqx aqy)(s:aqy):cB (a++b) s=(cB a s||cB b s):=List.any_append
theorem TG{s x:aqy}(h:(bL s==bL x)=true)(l:aqx aqy):cB l x=cB l s:=by
 unfold cB;rw[beq_iff_eq.1 h]
theorem F8(s x:aqy):cB [s] x=(bL s==bL x):=by unfold cB;rw[aqu,List.any_nil,Bool.or_false]
theorem alb(N:Nat)(l:aqx aqy)(s:aqy):Br N l s=some (cB l s):=by
 unfold Br MQ;obtain⟨z,h1,h2⟩:=PW N s l 0;rw[h1,apI,h2];rfl
def fE(t:aqx aqy)(s:aqy):Int:=bif cO s then bif cB t s then 8 else 0 else 7
theorem yY(N:Nat)(hN:16<N)(s:aqy)(t:aqx aqy):xb N s t=some (fE t s):=by
 unfold xb fE;rw[sf N s hN,apI,yT,apI];cases cO s<;>cases cB t s<;>rfl
theorem ED{t:aqx aqy}{s:aqy}(h:fE t s=0):cO s=true/\cB t s=false:=by
 unfold fE at h;cases h1:cO s<;>cases h2:cB t s<;>rw[h1,h2]at h<;>first|exact⟨rfl,rfl⟩|(exact absurd h (by decide))
structure KN(m:List (ByteArray×Int))(S T:List ByteArray):Prop where
 val:∀s,eZ m s 0=bif cB S s then 1 else bif cB T s then 2 else 0
 len:m.length<=S.length+T.length
 XX:∀s,cB T s=true->cB S s=false
section
variable {m:aqx (aqy×Int)} {S T:aqx aqy}
theorem KN.ne0(h:KN m S T)(s:aqy):(eZ m s 0 !=0)=cB (S++T) s:=by
 rw[h.val,lG];cases cB S s<;>cases cB T s<;>rfl
theorem KN.GS(h:KN m S T)(s:aqy):(eZ m s 0 !=1)= !cB S s:=by
 rw[h.val];cases cB S s<;>cases cB T s<;>rfl
theorem KN.Gj(h:KN m S T)(s:aqy):(eZ m s 0==1)=cB S s:=by
 rw[h.val];cases cB S s<;>cases cB T s<;>rfl
theorem KN.ne2(h:KN m S T)(s:aqy):(eZ m s 0 !=2)= !cB T s:=by
 have:=h.XX s;rw[h.val];cases e1:cB S s<;>cases e2:cB T s<;>first|rfl|(rw[e1]at this;exact absurd (this e2) (by decide))
theorem KG{V:Type}(k:aqy)(v:V)(m:aqx (aqy×V))(s:aqy)(d:V):eZ ((k,v)::m) s d=bif bL k==bL s then v else eZ m s d:=rfl
theorem KN.XJ(h:KN m S T){s:aqy}(hs:cB (S++T) s=false):KN ((s,2)::m) S (T++[s]):=by
 rw[lG,aqw]at hs;refine⟨λx=> ?_,by have:=h.len;simp only[apM,apK,apV];omega,λx hx=> ?_⟩
 rotate_left
 ·rw[lG,F8]at hx;cases e:bL s==bL x with
  |true=>rw[TG e];exact hs.1
  |false=>rw[e,Bool.or_false]at hx;exact h.XX x hx
 rw[KG,h.val,lG,F8];cases e:bL s==bL x with
 |true=>rw[TG e,hs.1];cases cB T x<;>rfl
 |false=>cases cB S x<;>cases cB T x<;>rfl
theorem KN.vo(h:KN m S [])(s:aqy):KN ((s,1)::m) (S++[s]) []:=by
 refine⟨λx=> ?_,by have:=h.len;simp only[apM,apK,apV]at*;omega,λx hx=>by cases hx⟩;rw[KG,h.val,lG,F8];cases e:bL s==bL x<;>cases cB S x<;>rfl
theorem KN.nil:KN [] [] []:=⟨λ_=>rfl,apU _,λ_ h=>by cases h⟩
theorem Qk(N:Nat)(hN:16<N)(s:aqy)(k:Int)(p:aK)(h:KN m S T)(hl:S.length+T.length<9223372036854775807):
 Bg N s k p m=some (fE (S++T) s,bif fE (S++T) s==0 then(s,k)::m else m):=by
 unfold Bg fE;rw[tV N s hN,apI,h.ne0,show Nat.blt m.length 9223372036854775807=true from Nat.ble_eq_true_of_le (by have:=h.len;omega)];cases cO s<;>cases cB (S++T) s<;>rfl
def ic(V:aqx aqy)(l:aR):Bool:=l.xL.all λm=>cB V m.ao
def fz(S:aqx aqy)(l:aR):Int:=bif dF l then bif ic S l then 0 else 9 else 1
theorem YU(N:Nat)(h:KN m S T):∀(l:aqx bt)(k:Nat),KC N m l k=some (bif l.all (λm=>cB S m.ao)then 0 else 9)
 |[],_=>rfl
 |x::l,k=>by
  rw[KC,h.GS,aqt,YU N h l];cases cB S x.ao<;>rfl
theorem Ti(N:Nat)(hN:16<N)(l:aR)(p:aK)(hl:jr l)(h:KN m S T):Bf N l p m=some (fz S l):=by
 unfold Bf fz;rw[sI N hN l hl,apI,YU N h];cases dF l<;>rfl
theorem Z5(N:Nat)(V W:aqx aqy):∀(l:aqx bt)(k:Nat),Jt N V W l k=some (l.all λm=>cB (V++W) m.ao)
 |[],_=>rfl
 |x::l,k=>by
  rw[Jt,yT,yT,aqt,Z5 N V W l,lG];cases cB V x.ao<;>cases cB W x.ao<;>rfl
theorem Qe(N:Nat)(V W:aqx aqy)(l:aR):Fl N l V W=some (ic (V++W) l):=Z5 N V W l.xL 0
theorem QZ(N:Nat)(hN:16<N)(l:aR)(hl:jr l)(S:aqx aqy):Bi N l S=some (fz S l):=by
 unfold Bi fz;rw[qK N hN l hl,apI,Qe,apI];rw[List.nil_append];cases dF l<;>cases ic S l<;>rfl
theorem tL(n:Nat):decide ((n:Int)>6)= !decide (n<=6):=kG n 6
theorem agN(N:Nat)(t:bA)(n:Nat):xu N t [(n:Int)]=some (bif eX t then bif decide (n<=6)then 0 else 11 else 10):=by
 unfold xu;rw[qW,apI,show C1 N [(n:Int)]=some (n:Int)from rfl,apI,tL];cases eX t<;>cases decide (n<=6)<;>rfl
theorem ajE(N:Nat)(t:bA)(n k:Nat):xu N t [(n:Int),(k:Int)]=some (bif eX t then bif decide (n<=6)&&decide (k<=6)then 0 else 11 else 10):=by
 unfold xu;rw[qW,apI,show C1 N [(n:Int),(k:Int)]=some (if(k:Int)>(n:Int)then(k:Int)else(n:Int))from rfl,apI,HF,tL];have:decide (max n k<=6)=(decide (n<=6)&&decide (k<=6)):=by
  rw[Bool.eq_iff_iff,apL,decide_eq_true_iff,decide_eq_true_iff,decide_eq_true_iff];omega
 rw[this];cases eX t<;>cases (decide (n<=6)&&decide (k<=6))<;>rfl
def fF{α:Type}(f:α->Int):aqx α->Int
 |[]=>0
 |x::l=>bif f x !=0 then f x else fF f l
def qq(S T:aqx aqy)(x:cv):Int:=bif fE (S++T) x.ao !=0 then fE (S++T) x.ao else bif eX x.aO then bif decide (x.aP.length<=6)then fF (fz S) x.aP else 11 else 10
theorem aaW(N:Nat)(hN:16<N)(p:aK)(q:Int×aqx (aqy×Int))(h:KN q.2 S T):∀(l:aqx aR)(k:Nat),(∀x∈l,jr x)->HQ N q p l k=some (fF (fz S) l,q.2)
 |[],_,_=>rfl
 |x::l,k,hx=>by
  rw[HQ,Ti N hN x p (hx x apP) h,apI,fF];cases fz S x !=0 with
  |true=>rfl
  |false=>exact aaW N hN p q h l (k+1) λy hy=>hx y (apS _ hy)
theorem fO{a:Int}(h:(a !=0)=false):a=0:=by
 rw[bne_eq_false_iff_eq]at h;exact h
theorem aks(N:Nat)(hN:16<N)(x:cv)(p:aK)(hx:∀y∈x.aP,jr y)(h:KN m S T)(hl:S.length+T.length<9223372036854775807):
 ∃m',J1 N x p m=some (qq S T x,m')/\(qq S T x=0->KN m' S (T++[x.ao])):=by
 unfold J1 qq;rw[Qk N hN x.ao 2 p h hl,apI,agN];simp only[];cases e:fE (S++T) x.ao !=0 with
 |true=>exact⟨_,rfl,λh0=>by rw[cond_true]at h0;rw[h0]at e;cases e⟩
 |false=>
  have e0:=fO e;have k:=h.XJ (ED e0).2;rw[e0];simp only[aqs,cond_true,cond_false];cases eX x.aO with
  |false=>exact⟨_,rfl,λh0=>by cases h0⟩
  |true=>
   cases decide (x.aP.length<=6)with
   |false=>exact⟨_,rfl,λh0=>by cases h0⟩
   |true=>exact⟨_,aaW N hN p (0,(x.ao,2)::m) k x.aP 0 hx,λ_=>k⟩
theorem Ze(N:Nat)(hN:16<N)(S:aqx aqy):∀(l:aqx aR)(k:Nat),(∀x∈l,jr x)->Ij N S l k=some (fF (fz S) l)
 |[],_,_=>rfl
 |x::l,k,hx=>by
  rw[Ij,QZ N hN x (hx x apP),apI,fF];cases fz S x !=0 with
  |true=>rfl
  |false=>exact Ze N hN S l (k+1) λy hy=>hx y (apS _ hy)
theorem Pj(N:Nat)(hN:16<N)(x:cv)(S T:aqx aqy)(hx:∀y∈x.aP,jr y):LV N x S (S++T)=some (qq S T x):=by
 unfold LV qq;rw[yY N hN,apI,sR,apI,tL,Ze N hN S _ _ hx];cases fE (S++T) x.ao !=0<;>cases eX x.aO<;>cases decide (x.aP.length<=6)<;>rfl
def lu(S:aqx aqy):aqx aqy->aqx cd->Int
 |_,[]=>0
 |O,a::l=>bif fE (S++O) a.ao !=0 then fE (S++O) a.ao else bif fz S a.cw !=0 then fz S a.cw else lu S (O++[a.ao]) l
structure ON(w:List (ByteArray×Bool))(O:List ByteArray):Prop where
 val:∀s,eZ w s false=cB O s
 len:w.length<=O.length
theorem ON.add{w:aqx (aqy×Bool)}{O:aqx aqy}(h:ON w O)(s:aqy):ON ((s,true)::w) (O++[s]):=by
 refine⟨λx=> ?_,by have:=h.len;simp only[apM,apK,apV];omega⟩;rw[KG,h.val,lG,F8];cases bL s==bL x<;>cases cB O x<;>rfl
theorem aa5(N:Nat)(hN:16<N)(p:aK)(h:KN m S T):∀(l:aqx cd)(k:Nat)(w:aqx (aqy×Bool))(O:aqx aqy),ON w O->(∀x∈l,jr x.cw)->O.length+l.length<9223372036854775807->
 IU N m p l k w=some (lu S O l)
 |[],_,_,_,_,_,_=>rfl
 |a::l,k,w,O,hw,hx,hl=>by
  have qc:O.length+l.length+1<9223372036854775807:=by simp only[apM]at hl;omega
  rw[IU,tV N _ hN,apI,hw.val,h.Gj,Ti N hN _ p (hx a apP) h,apI,lu,
    show Nat.blt w.length 9223372036854775807=true from Nat.ble_eq_true_of_le (by have:=hw.len;omega)]
  have ih:=aa5 N hN p h l (k+1) _ _ (hw.add a.ao) (λy hy=>hx y (apS _ hy)) (by simp only[apK,apM,apV];omega);unfold fE;dsimp only;rw[lG,ih];cases cO a.ao<;>cases cB S a.ao<;>cases cB O a.ao<;>first|rfl|(cases fz S a.cw !=0<;>rfl)
theorem Vi(N:Nat)(hN:16<N)(S:aqx aqy):∀(l:aqx cd)(k:Nat)(O:aqx aqy),(∀x∈l,jr x.cw)->S.length+O.length+l.length<1000000000->
 MR N S l k (S++O)=some (lu S O l)
 |[],_,_,_,_=>rfl
 |a::l,k,O,hx,hl=>by
  have qc:S.length+O.length+l.length+1<1000000000:=by simp only[apM]at hl;omega
  rw[MR,yY N hN,apI,QZ N hN _ (hx a apP),apI,lu,
    show Nat.ble (((S++O).length+1)*16) 140737488355328=true from Nat.ble_eq_true_of_le (by rw[apK];omega)]
  have ih:=Vi N hN S l (k+1) (O++[a.ao]) (λy hy=>hx y (apS _ hy)) (by simp only[apK,apM,apV];omega);rw[<-ap0]at ih;dsimp only;rw[ih];cases fE (S++O) a.ao !=0<;>cases fz S a.cw !=0<;>rfl
theorem O7(N:Nat)(hN:16<N)(S:aqx aqy)(l:aqx cd)(hx:∀x∈l,jr x.cw)(hl:S.length+l.length<1000000000):IC N l S=some (lu S [] l):=by
 unfold IC;have:=Vi N hN S l 0 [] hx (by simp only[apV];omega);rw[ap4]at this;rw[this,show Nat.ble ((0+S.length)*16) 140737488355328=true from Nat.ble_eq_true_of_le (by omega)];rfl
theorem E8{n:Nat}(h:n<=9223372036854775807):bl (n:Int)=(n:Int):=pk (by omega) (by omega)
theorem Xj(N:Nat)(a b:aqx cd)(h:a.length+b.length<1000000000):Aa N [a,b]=some (a++b):=by
 unfold Aa;rw[vl,show bl ((0:Int)+(a.length:Int))=((a.length:Nat):Int) by rw[Int.zero_add,E8 (by omega)],show decide ((a.length:Int)<0)=false from aqr (by omega)];simp only[cond_false];rw[vl,show bl ((a.length:Int)+(b.length:Int))=((a.length+b.length:Nat):Int) by rw[<-Int.natCast_add,E8 (by omega)],show decide (((a.length+b.length:Nat):Int)<0)=false from aqr (by omega)];simp only[cond_false];rw[vl];unfold Nh;rw[show decide ((0:Int)<=((a.length+b.length:Nat):Int))=true from aqq (by omega),aqa,show Nat.ble ((a.length+b.length)*48) 140737488355328=true from Nat.ble_eq_true_of_le (by omega)];simp only[Bool.and_self,cond_true,apI];rw[yc];rw[show Nat.ble ((([]:aqx cd).length+a.length)*48) 140737488355328=true from Nat.ble_eq_true_of_le (by simp only[apV];omega)];simp only[cond_true,List.nil_append];rw[yc];rw[show Nat.ble ((a.length+b.length)*48) 140737488355328=true from Nat.ble_eq_true_of_le (by omega)];rfl
theorem apm(N:Nat)(hN:16<N)(d:bf)(p:aK)(h:KN m S T)(hx:∀x∈d.aP++d.aY,jr x.cw)(hl:d.aP.length+d.aY.length<1000000000):
 Jc N d p m=some (lu S [] (d.aP++d.aY)):=by
 unfold Jc;rw[Xj N _ _ hl,apI];exact aa5 N hN p h _ 0 [] [] ⟨λ_=>rfl,apU _⟩ hx (by simp only[apK,apV];omega)
end
def qu(d:bf):Int:=bif d.cC==0 then bif d.aY.length==0 then 0 else 11 else bif decide (1<=d.cC)&&decide (d.cC<=4)then bif d.aY.length==0 then 11 else 0 else bif d.cC==5 then bif d.aY.length==0&& !(d.aP.length==0)then 0 else 11 else 1
theorem Wq(f:Int):f=0\/f=1\/f=2\/f=3\/f=4\/f=5\/(f<0\/5<f):=by omega
theorem agA(N:Nat)(d:bf):MB N d=some (qu d):=by
 unfold MB qu Bw;rw[ku,pM,pM];rcases Wq d.cC with h|h|h|h|h|h|h
 ·rw[h];cases d.aY.length==0<;>rfl
 ·rw[h];cases d.aY.length==0<;>rfl
 ·rw[h];cases d.aY.length==0<;>rfl
 ·rw[h];cases d.aY.length==0<;>rfl
 ·rw[h];cases d.aY.length==0<;>rfl
 ·rw[h];cases d.aY.length==0<;>cases d.aP.length==0<;>rfl
 ·have e:∀k:Int,0<=k->k<=5->(d.cC==k)=false:=λk h1 h2=>beq_eq_false_iff_ne.2 (by omega);have e2:(decide (1<=d.cC)&&decide (d.cC<=4))=false:=by
   rw[Bool.and_eq_false_iff,decide_eq_false_iff_not,decide_eq_false_iff_not];omega
  rw[e 0 (by decide) (by decide),e 1 (by decide) (by decide),e 2 (by decide) (by decide),e 3 (by decide) (by decide),e 4 (by decide) (by decide),e 5 (by decide) (by decide),e2];rfl
theorem Ru(N:Nat)(d:bf):JU N d=some (qu d):=by
 unfold JU qu;rw[pM,pM];rcases Wq d.cC with h|h|h|h|h|h|h
 ·rw[h];cases d.aY.length==0<;>rfl
 ·rw[h];cases d.aY.length==0<;>rfl
 ·rw[h];cases d.aY.length==0<;>rfl
 ·rw[h];cases d.aY.length==0<;>rfl
 ·rw[h];cases d.aY.length==0<;>rfl
 ·rw[h];cases d.aY.length==0<;>cases d.aP.length==0<;>rfl
 ·have e:∀k:Int,0<=k->k<=5->(d.cC==k)=false:=λk h1 h2=>beq_eq_false_iff_ne.2 (by omega);have e2:(decide (1<=d.cC)&&decide (d.cC<=4))=false:=by
   rw[Bool.and_eq_false_iff,decide_eq_false_iff_not,decide_eq_false_iff_not];omega
  have e3:(bif decide (d.cC<0)then some true else some (decide (d.cC>5)))=some true:=by
   rcases h with h|h
   ·rw[aqq h];rfl
   ·rw[show decide (d.cC>5)=true from aqq h];cases decide (d.cC<0)<;>rfl
  rw[e3,e 0 (by decide) (by decide),e 5 (by decide) (by decide),e2];rfl
def lQ(B:Nat)(l:aR):Prop:=l.xL.length<=B
theorem lQ.ok{l:aR}(h:lQ 1000000000 l):jr l:=ap1 h (by decide)
theorem mz{n k:Nat}(h:n<=k):Nat.ble n k=true:=Nat.ble_eq_true_of_le h
theorem acz(N:Nat):∀(l:aqx cd)(k:Nat)(acc:aqx aqy),acc.length+l.length<=1000000000->B7 N l k acc=some (acc++l.map (·.ao))
 |[],_,acc,_=>by rw[B7,List.map_nil,ap4]
 |a::l,k,acc,h=>by
  simp only[apM]at h;rw[B7,mz (by omega),cond_true];dsimp only;rw[acz N l (k+1) _ (by simp only[apK,apM,apV];omega)];rw[ap8,ap0];rfl
theorem Ve(N:Nat)(d:bf)(h:d.aP.length+d.aY.length<1000000000):Gm N d=some ((d.aP++d.aY).map (·.ao)):=by
 unfold Gm;rw[Xj N _ _ h,apI,acz N _ _ _ (by simp only[apK,apV];omega),List.nil_append]
theorem acn(N:Nat):∀(l:aqx cd)(k:Nat)(acc:aqx aqy),acc.length+l.length<=1000000000->Fu N l k acc=some (acc++l.map (·.ao))
 |[],_,acc,_=>by rw[Fu,List.map_nil,ap4]
 |a::l,k,acc,h=>by
  simp only[apM]at h;rw[Fu,mz (by omega),cond_true];dsimp only;rw[acn N l (k+1) _ (by simp only[apK,apM,apV];omega)];rw[ap8,ap0];rfl
theorem V2(N:Nat)(d:bf):∀(l:aqx cd)(k:Nat)(acc:aqx aqy),acc.length+l.length+d.aY.length<=1000000000->Ee N d l k acc=some (acc++(l++d.aY).map (·.ao))
 |[],_,acc,h=>by rw[Ee,acn N _ _ _ (by simp only[apV]at h;omega),List.nil_append]
 |a::l,k,acc,h=>by
  simp only[apM]at h;rw[Ee,mz (by omega),cond_true];dsimp only;rw[V2 N d l (k+1) _ (by simp only[apK,apM,apV];omega)];rw[List.cons_append,ap8,ap0];rfl
theorem MM(N:Nat)(d:bf)(h:d.aP.length+d.aY.length<1000000000):Dg N d=some ((d.aP++d.aY).map (·.ao)):=by
 unfold Dg;rw[V2 N d _ _ _ (by simp only[apV];omega),List.nil_append]
theorem abb(N:Nat)(l:aR)(h:lQ 1000000000 l):EW N l=some l:=by
 unfold EW SK;rw[mz (by have:=h;unfold lQ at this;omega)];rfl
theorem WU(N:Nat):∀(l:aqx aR)(k:Nat)(acc:aqx aR),acc.length+l.length<=1000000000->(∀x∈l,lQ 1000000000 x)->FP N l k acc=some (acc++l)
 |[],_,acc,_,_=>by rw[FP,ap4]
 |a::l,k,acc,h,hx=>by
  simp only[apM]at h;rw[FP,abb N a (hx a apP),apI,mz (by omega),cond_true];dsimp only;rw[WU N l (k+1) _ (by simp only[apK,apM,apV];omega) λy hy=>hx y (apS _ hy)];rw[ap0];rfl
theorem amf(N:Nat)(l:aqx aR)(h:l.length<=1000000000)(hx:∀x∈l,lQ 1000000000 x):IP N l=some l:=by
 unfold IP;rw[WU N l 0 [] (by simp only[apV];omega) hx,List.nil_append]
def mX(s:aqy)(d:bf):Bool:=bL d.ao==bL s
def Bm(D:aqx bf)(s:aqy)(k:Nat):Int:=match D.findIdx? (mX s)with|some i=>((k+i:Nat):Int)|none=> -1
theorem aeE(d:bf)(D:aqx bf)(s:aqy)(k:Nat):Bm (d::D) s k=bif mX s d then(k:Int)else Bm D s (k+1):=by
 unfold Bm;rw[List.findIdx?_cons];cases mX s d with
 |true=>rfl
 |false=>
  cases D.findIdx? (mX s)with
  |none=>rfl
  |some i=>simp only[cond_false,Bool.false_eq_true,if_false,Option.map_some];rw[Nat.add_assoc,Nat.add_comm 1 i]
theorem aaQ(N:Nat)(s:aqy):∀(l:aqx bf)(k:Nat),Kk N s l k=some (Bm l s k)
 |[],_=>rfl
 |d::l,k=>by
  rw[Kk,aeE,show OP N d s=some (mX s d)from rfl,apI,aaQ N s l];cases mX s d<;>rfl
theorem apg(N:Nat)(p:aK)(s:aqy):JI N p s=some (Bm p.ay s 0):=by
 unfold JI QT;rw[aaQ];rfl
theorem aby{α:Type}(f:α->Bool):∀l:aqx α,(l.findIdx? f=none/\l.find? f=none)\/∃i d,l.findIdx? f=some i/\l[i]?=some d/\l.find? f=some d/\f d=true
 |[]=> .inl ⟨rfl,rfl⟩
 |x::l=>by
  rw[List.findIdx?_cons,List.find?_cons];cases e:f x with
  |true=>exact .inr ⟨0,x,rfl,rfl,rfl,e⟩
  |false=>
   simp only[Bool.false_eq_true,if_false];rcases aby f l with⟨h1,h2⟩|⟨i,d,h1,h2,h3,h4⟩
   ·exact .inl ⟨by rw[h1];rfl,h2⟩
   ·exact .inr ⟨i+1,d,by rw[h1];rfl,by rw[aqk];exact h2,h3,h4⟩
def dz(P:aqx cv)(D:aqx bf)(s:aqy):bA×aqx aR×Bool:=
 match P.find? (λx=>bL x.ao==bL s)with
 |some x=>(x.aO,x.aP,true)
 |none=>match D.find? (mX s)with
  |some d=>(d.aO,d.aP.map (·.cw),true)
  |none=>(gF,[],false)
theorem Ug(N:Nat)(d:bf):∀(l:aqx cd)(k:Nat)(acc:aqx aR),acc.length+l.length<=1000000000->(∀x∈l,lQ 1000000000 x.cw)->Ct N d l k acc=some (d.aO,acc++l.map (·.cw),true)
 |[],_,acc,_,_=>by rw[Ct,List.map_nil,ap4]
 |a::l,k,acc,h,hx=>by
  simp only[apM]at h;rw[Ct,abb N _ (hx a apP),apI,mz (by omega),cond_true];dsimp only;rw[Ug N d l (k+1) _ (by simp only[apK,apM,apV];omega) λy hy=>hx y (apS _ hy)];rw[ap8,ap0];rfl
theorem TM(N:Nat)(d:bf):∀(l:aqx cd)(k:Nat)(acc:aqx aR),acc.length+l.length<=1000000000->D9 N d l k acc=some (d.aO,acc++l.map (·.cw),true)
 |[],_,acc,_=>by rw[D9,List.map_nil,ap4]
 |a::l,k,acc,h=>by
  simp only[apM]at h;rw[D9,mz (by omega),cond_true];dsimp only;rw[TM N d l (k+1) _ (by simp only[apK,apM,apV];omega)];rw[ap8,ap0];rfl
structure nO(P:List cv):Prop where
 len:∀x∈P,x.aP.length<=1000000000
 lM:∀x∈P,∀y∈x.aP,lQ 1000000000 y
structure gr(D:List bf):Prop where
 len:∀d∈D,d.aP.length+d.aY.length<900000000
 lM:∀d∈D,∀y∈d.aP++d.aY,lQ 1000000000 y.cw
theorem gr.nV{D:aqx bf}(h:gr D){d:bf}(hd:d∈D):∀y∈d.aP,lQ 1000000000 y.cw:=λy hy=>h.lM d hd y (List.mem_append_left _ hy)
theorem rI{α:Type}{l:aqx α}{i:Nat}{d:α}(h:l[i]?=some d):d∈l:=apW h
theorem acm(N:Nat)(p:aK)(s:aqy)(hD:gr p.ay):∀(l:aqx cv)(k:Nat),nO l->Fp N p s l k=some (dz l p.ay s)
 |[],k,_=>by
  rw[Fp,apg,apI];unfold dz Bm;rw[List.find?_nil];rcases aby (mX s) p.ay with⟨h1,h2⟩|⟨i,d,h1,h2,h3,_⟩
  ·rw[h1,h2];rfl
  ·rw[h1,h3];simp only[ap3];rw[show decide ((i:Int)>=0)=true from aqq (by omega),aqa,h2];simp only[cond_true,apI];rw[Ug N d _ _ _ (by have:=hD.len d (rI h2);simp only[apV];omega) (hD.nV (rI h2)),List.nil_append]
 |x::l,k,hP=>by
  rw[Fp,acm N p s hD l (k+1) ⟨λy hy=>hP.len y (apS _ hy),λy hy=>hP.lM y (apS _ hy)⟩];unfold dz;rw[List.find?_cons];cases bL x.ao==bL s with
  |true=>simp only[cond_true];rw[amf N _ (hP.len x apP) (hP.lM x apP)];rfl
  |false=>rfl
theorem abv(N:Nat)(p:aK)(s:aqy)(hP:nO p.aG)(hD:gr p.ay):Mw N p s=some (dz p.aG p.ay s):=acm N p s hD p.aG 0 hP
theorem abq(N:Nat)(s:aqy):∀(D:aqx bf)(k:Nat),gr D->Lj N s D k=some (dz [] D s)
 |[],_,_=>rfl
 |d::D,k,h=>by
  rw[Lj,abq N s D (k+1) ⟨λy hy=>h.len y (apS _ hy),λy hy=>h.lM y (apS _ hy)⟩];unfold dz;rw[List.find?_nil,List.find?_cons];unfold mX;cases bL d.ao==bL s with
  |true=>
   simp only[cond_true];rw[TM N d _ _ _ (by have:=h.len d apP;simp only[apV];omega),List.nil_append]
  |false=>rfl
theorem aba(N:Nat)(s:aqy)(p:aK)(hD:gr p.ay):∀(l:aqx cv)(k:Nat),EP N s p l k=some (dz l p.ay s)
 |[],k=>by rw[EP,abq N s _ _ hD]
 |x::l,k=>by
  rw[EP,aba N s p hD l];unfold dz;rw[List.find?_cons];cases bL x.ao==bL s<;>rfl
theorem BH(N:Nat)(p:aK)(s:aqy)(hD:gr p.ay):D8 N p s=some (dz p.aG p.ay s):=aba N s p hD p.aG 0
structure VN(m:List (ByteArray×Int))(V:List ByteArray):Prop where
 val:∀s,(eZ m s 0==0)= !cB V s
 len:m.length<=V.length
theorem VN.add{m:aqx (aqy×Int)}{V:aqx aqy}(h:VN m V)(s:aqy)(k:Int)(hk:(k==0)=false):VN ((s,k)::m) (V++[s]):=by
 refine⟨λx=> ?_,by have:=h.len;simp only[apM,apK,apV];omega⟩;rw[KG,lG,F8];cases e:bL s==bL x with
 |true=>rw[cond_true,hk,Bool.or_true];rfl
 |false=>rw[cond_false,h.val,Bool.or_false]
def kA(V:aqx aqy)(l:aR):Int:=bif ic V l then 0 else 9
theorem ace(N:Nat){m:aqx (aqy×Int)}{V:aqx aqy}(h:VN m V):∀(l:aqx bt)(k:Nat),Kh N m l k=some (bif l.all (λm=>cB V m.ao)then 0 else 9)
 |[],_=>rfl
 |x::l,k=>by
  rw[Kh,h.val,aqt,ace N h l];cases cB V x.ao<;>rfl
theorem Rw(N:Nat){m:aqx (aqy×Int)}{V:aqx aqy}(h:VN m V)(l:aR)(p:aK):De N l p m=some (kA V l):=ace N h l.xL 0
def mE(V:aqx aqy)(P:aqx cv)(D:aqx bf)(x:bH):Int:=
 bif bL x.bR==[]then kA V x.aS else bif (dz P D x.bR).2.2 then bif (dz P D x.bR).1.b7 !=3 then 10 else bif x.bO.length==(dz P D x.bR).2.1.length then fF (kA V) x.bO else 11 else 9
theorem MI(a b:Nat):((a:Int) !=(b:Int))= !(a==b):=NI a b
theorem Xo(N:Nat){m:aqx (aqy×Int)}{V:aqx aqy}(h:VN m V)(p:aK):∀(l:aqx aR)(k:Nat),Jp N p m l k=some (fF (kA V) l)
 |[],_=>rfl
 |x::l,k=>by
  rw[Jp,Rw N h,apI,fF,Xo N h p l];cases kA V x !=0<;>rfl
theorem akU(N:Nat){m:aqx (aqy×Int)}{V:aqx aqy}(h:VN m V)(p:aK)(hP:nO p.aG)(hD:gr p.ay)(x:bH):Lr N x p m=some (mE V p.aG p.ay x):=by
 unfold Lr mE;rw[qB,Rw N h,abv N p _ hP hD,apI,apI,MI,Xo N h p];cases bL x.bR==[]<;>cases (dz p.aG p.ay x.bR).2.2<;>cases (dz p.aG p.ay x.bR).1.b7 !=3<;>cases x.bO.length==(dz p.aG p.ay x.bR).2.1.length<;>rfl
def lV(V:aqx aqy)(P:aqx cv)(D:aqx bf)(e:au):Int:=
 bif (dz P D e.ao).2.2 then bif e.xIdx.length==(dz P D e.ao).2.1.length then fF (mE V P D) e.xIdx else 11 else 9
def yb(t:bA)(x:Int):bA×Int:=(bif x !=0 then gF else t,x)
theorem Zu(N:Nat){m:aqx (aqy×Int)}{V:aqx aqy}(h:VN m V)(p:aK)(hP:nO p.aG)(hD:gr p.ay)(q:bA×aqx aR×Bool):∀(l:aqx bH)(k:Nat),JW N q p m l k=some (yb q.1 (fF (mE V p.aG p.ay) l))
 |[],_=>rfl
 |x::l,k=>by
  rw[JW,akU N h p hP hD,apI,fF,Zu N h p hP hD q l];unfold yb;cases e:mE V p.aG p.ay x !=0 with
  |true=>simp only[cond_true];rw[e];rfl
  |false=>rfl
theorem aoc(N:Nat){m:aqx (aqy×Int)}{V:aqx aqy}(h:VN m V)(p:aK)(hP:nO p.aG)(hD:gr p.ay)(e:au):ME N e p m=some (yb (dz p.aG p.ay e.ao).1 (lV V p.aG p.ay e)):=by
 unfold ME lV;rw[abv N p _ hP hD,apI,MI,Zu N h p hP hD];cases (dz p.aG p.ay e.ao).2.2<;>cases e.xIdx.length==(dz p.aG p.ay e.ao).2.1.length<;>rfl
theorem Wi(N:Nat)(V:aqx aqy)(p:aK):∀(l:aqx aR)(k:Nat),Ks N V p l k=some (fF (kA (V++p.aA)) l)
 |[],_=>rfl
 |x::l,k=>by
  rw[Ks,Qe,apI,fF,Wi N V p l];unfold kA;cases ic (V++p.aA) x<;>rfl
theorem E4(N:Nat)(V:aqx aqy)(p:aK)(l:aqx aR):JB N p V l=some (fF (kA (V++p.aA)) l):=Wi N V p l 0
theorem abk(N:Nat)(V:aqx aqy)(p:aK)(hD:gr p.ay)(q:bA×aqx aR×Bool):∀(l:aqx bH)(k:Nat),CF N q V p l k=some (yb q.1 (fF (mE (V++p.aA) p.aG p.ay) l))
 |[],_=>rfl
 |x::l,k=>by
  rw[CF,qB,Qe,BH N p _ hD,apI,apI,MI,E4,apI,fF,abk N V p hD q l];unfold yb mE kA;rw[show(x.bO.length==(dz p.aG p.ay x.bR).2.1.length)=((dz p.aG p.ay x.bR).2.1.length==x.bO.length)from Bool.eq_iff_iff.2 (by rw[beq_iff_eq,beq_iff_eq];exact eq_comm)];cases bL x.bR==[]with
  |true=>cases ic (V++p.aA) x.aS<;>rfl
  |false=>
   cases (dz p.aG p.ay x.bR).2.2 with
   |false=>rfl
   |true=>
    cases (dz p.aG p.ay x.bR).1.b7 !=3 with
    |true=>rfl
    |false=>
     cases (dz p.aG p.ay x.bR).2.1.length==x.bO.length with
     |false=>rfl
     |true=>
      simp only[cond_true,cond_false,Bool.not_true];cases e:fF (λl=>bif ic (V++p.aA) l then 0 else 9) x.bO !=0 with
      |true=>simp only[cond_true];first|rw[e];rfl|simp [e]
      |false=>rfl
theorem Kp(N:Nat)(V:aqx aqy)(p:aK)(hD:gr p.ay)(e:au):K4 N p V e=some (yb (dz p.aG p.ay e.ao).1 (lV (V++p.aA) p.aG p.ay e)):=by
 unfold K4 lV;rw[BH N p _ hD,apI,MI,abk N V p hD];rw[show((dz p.aG p.ay e.ao).2.1.length==e.xIdx.length)=(e.xIdx.length==(dz p.aG p.ay e.ao).2.1.length)from Bool.eq_iff_iff.2 (by rw[beq_iff_eq,beq_iff_eq];exact eq_comm)];cases (dz p.aG p.ay e.ao).2.2<;>cases e.xIdx.length==(dz p.aG p.ay e.ao).2.1.length<;>rfl
def tP(e:au):Prop:=∀x∈cM e,kH x=true/\iA x=true
theorem tP.arg{e x:au}(h:tP e)(hx:x∈e.bp):tP x:=λy hy=>h y (Gn hx hy)
theorem tP.len{e:au}(h:tP e):(e.bp.length:Int)=rL e.aJ:=by
 have:=(h e apP).1;unfold kH at this;rw[apL,beq_iff_eq]at this;exact this.1
theorem tP.op{e:au}(h:tP e):1<=e.aJ/\e.aJ<=18:=by
 have:=(h e apP).2;unfold iA at this;simp only[apL,decide_eq_true_eq]at this;exact⟨this.1,this.2.1⟩
theorem aaJ:∀l:aqx au,jS l=0->∀x∈l,lB x=0
 |[],_,x,hx=>by cases hx
 |y::l,h,x,hx=>by
  rw[jS]at h;cases e:lB y !=0 with
  |true=>rw[e,cond_true]at h;rw[h]at e;cases e
  |false=>
   rw[e,cond_false]at h;rcases aqd.1 hx with rfl|hx
   ·exact fO e
   ·exact aaJ l h x hx
theorem Bc{e:au}(h:kL e=0):∀x∈cM e,lB x=0:=λx hx=>by
 unfold kL at h;cases h1:decide (40<gU 40 e)with
 |true=>rw[h1]at h;cases h
 |false=>
  cases h2:decide (2000<(cM e).length)with
  |true=>rw[h1,h2]at h;cases h
  |false=>rw[h1,h2]at h;exact aaJ (cM e) h x hx
theorem AW{x:au}(h:lB x=0):iA x=true/\lN x=true/\kH x=true/\kI x=true/\mC x=true:=by
 unfold lB at h;cases p:iA x<;>cases q:lN x<;>cases r:kH x<;>cases s:kI x<;>cases t:mC x<;>rw[p,q,r,s,t]at h<;>first|exact⟨rfl,rfl,rfl,rfl,rfl⟩|(exact absurd h (by decide))
theorem ad1{e:au}(h:kL e=0):tP e:=λx hx=>⟨(AW (Bc h x hx)).2.2.1,(AW (Bc h x hx)).1⟩
section
variable {α:Type}
theorem Jz{l:aqx α}(h:(l.length:Int)=1):∃a,l=[a]:=by
 match l,h with
 |[a],_=>exact⟨a,rfl⟩
 |[],h=>simp at h
 |a::b::l,h=>simp at h;omega
theorem pg{l:aqx α}(h:(l.length:Int)=2):∃a b,l=[a,b]:=by
 match l,h with
 |[a,b],_=>exact⟨a,b,rfl⟩
 |[],h=>simp at h
 |[a],h=>simp at h
 |a::b::c::l,h=>simp at h;omega
theorem VC{l:aqx α}(h:(l.length:Int)=3):∃a b c,l=[a,b,c]:=by
 match l,h with
 |[a,b,c],_=>exact⟨a,b,c,rfl⟩
 |[],h=>simp at h
 |[a],h=>simp at h
 |[a,b],h=>simp at h
 |a::b::c::d::l,h=>simp at h;omega
end
def ya(a b:aqz (bA×Int)):Prop:=∃t t' x,a=some (t,x)/\b=some (t',x)/\(x=0->t=t')
theorem L8{α:Type}(f:α->Int)(x:α):fF f [x]=f x:=by
 rw[fF,fF];cases e:f x !=0 with
 |true=>rfl
 |false=>exact(fO e).symm
theorem am1{op:Int}(h1:1<=op)(h2:op<=18):(op=1\/op=2\/op=3\/op=8\/op=11\/op=12)\/(op=4\/op=5\/op=6\/op=7\/op=9\/op=10)\/(op=13\/op=14\/op=15)\/(op=16\/op=17\/op=18):=by omega
section
variable {N:Nat} {m:aqx (aqy×Int)} {vars:aqx aqy} {p p':aK}
theorem aiL(hV:VN m (vars++p'.aA))(hP:p.aG=p'.aG)(za:p.ay=p'.ay)(uh:nO p.aG)(lF:gr p.ay)(e:au)(h1:1<=e.aJ)(h2:e.aJ<=18)(acc:aqx bA)(hl:(acc.length:Int)=rL e.aJ)
 (r1:au->aK->aqx (aqy×Int)->aqz (bA×Int)) (r2:aK->aqx aqy->au->aqz (bA×Int)) (k:Nat):
 ya (w9 N e p m r1 [] k acc) (lH N e p' vars r2 [] k acc):=by
 rw[w9,lH];unfold L4 Cb CY Df;rcases am1 h1 h2 with(h|h|h|h|h|h)|(h|h|h|h|h|h)|(h|h|h)|(h|h|h)
 ·rw[h];exact⟨_,_,_,rfl,rfl,λ_=>rfl⟩
 ·rw[h,Rw N hV,E4,L8];exact⟨_,_,_,rfl,rfl,λ_=>rfl⟩
 ·rw[h,aoc N hV p uh lF,Kp N vars p' (za▸lF),hP,za];exact⟨_,_,_,rfl,rfl,λ_=>rfl⟩
 ·rw[h]at hl;obtain⟨a,rfl⟩:=Jz hl;rw[h];exact⟨_,_,_,rfl,rfl,λ_=>rfl⟩
 ·rw[h]at hl;obtain⟨a,b,c,rfl⟩:=VC hl;rw[h];show ya (Option.bind (bif _ then _ else _) _) (bif _ then _ else _);cases ((b.b7==c.b7)&&((b.cp==c.cp)&&((b.cq==c.cq)&&((b.cU==c.cU)&&((b.cS==c.cS)&&true)))))with
  |true=>exact⟨_,_,_,rfl,rfl,λ_=>rfl⟩
  |false=>exact⟨_,_,_,rfl,rfl,λh=>by cases h⟩
 ·rw[h];exact⟨_,_,_,rfl,rfl,λ_=>rfl⟩
 all_goals first
  |(rw[h];exact⟨_,_,_,rfl,rfl,λ_=>rfl⟩)
  |(rw[h]at hl
    obtain⟨a,b,rfl⟩:=pg hl;rw[h];show ya (Option.bind (bif _ then _ else _) _) (bif _ then _ else _);cases ((a.b7==b.b7)&&((a.cp==b.cp)&&((a.cq==b.cq)&&((a.cU==b.cU)&&((a.cS==b.cS)&&true)))))with
    |true=>exact⟨_,_,_,rfl,rfl,λ_=>rfl⟩
    |false=>exact⟨_,_,_,rfl,rfl,λh=>by cases h⟩)
theorem ZD(e:au)(r1:au->aK->aqx (aqy×Int)->aqz (bA×Int))(r2:aK->aqx aqy->au->aqz (bA×Int)):
 ∀(l:aqx au)(k:Nat)(acc:aqx bA),acc.length+l.length<=1000000000->(∀x∈l,ya (r1 x p m) (r2 p' vars x))->
  (∀(rO:aqx bA)(k':Nat),rO.length=acc.length+l.length->ya (w9 N e p m r1 [] k' rO) (lH N e p' vars r2 [] k' rO))->
  ya (w9 N e p m r1 l k acc) (lH N e p' vars r2 l k acc)
 |[],k,acc,_,_,he=>he acc k rfl
 |x::l,k,acc,hb,hx,he=>by
  rw[w9,lH];obtain⟨t,t',z,e1,e2,e3⟩:=hx x apP;rw[e1,e2,apI,apI];dsimp only;cases hz:z !=0 with
  |true=>exact⟨_,_,_,rfl,rfl,λ_=>rfl⟩
  |false=>
   obtain rfl:=e3 (fO hz);simp only[apM]at hb;rw[mz (by omega)];exact ZD e r1 r2 l (k+1) (acc++[t]) (by simp only[apK,apM,apV];omega) (λy hy=>hx y (apS _ hy)) λrO k' h'=>he rO k' (by simp only[apK,apM,apV]at*;omega)
theorem XQ(hV:VN m (vars++p'.aA))(hP:p.aG=p'.aG)(za:p.ay=p'.ay)(uh:nO p.aG)(lF:gr p.ay):
 ∀(d:Nat)(e:au),SizeOf.sizeOf e<d->tP e->ya (xg N d e p m) (oO N d p' vars e)
 |0,_,h,_=>absurd h (aqb _)
 |d+1,e,h,hr=>by
  rw[xg,oO];have hlen:=hr.len;have h3:(e.bp.length:Int)<=3:=by
    rw[hlen];unfold rL;cases (e.aJ==1||(e.aJ==2||e.aJ==3))<;>cases (e.aJ==8||(e.aJ==12||e.aJ==18))<;>cases e.aJ==11<;>decide
  refine ZD e _ _ e.bp 0 [] (by simp only[apV];omega) (λx hx=>XQ hV hP za uh lF d x (by have:=tK hx;omega) (hr.arg hx)) λrO k' h'=> ?_;exact aiL hV hP za uh lF e hr.op.1 hr.op.2 rO (by rw[h',<-hlen];simp only[apV,ap3]) _ _ k'
end
theorem ape{m:aqx (aqy×Int)}{V W:aqx aqy}(h:VN m V)(e:∀s,cB W s=cB V s)(hl:V.length<=W.length):VN m W:=⟨λs=>by rw[h.val,e],ap1 h.len hl⟩
theorem UE(N:Nat)(e:au)(p:aK):∀(l:aqx aqy)(k:Nat)(m:aqx (aqy×Int))(V:aqx aqy),VN m V->V.length+l.length<1000000000->∃m' k',VN m' (V++l)/\xw N e p l k m=xw N e p [] k' m'
 |[],k,m,V,h,_=>⟨m,k,by rw[ap4];exact h,rfl⟩
 |s::l,k,m,V,h,hb=>by
  simp only[apM]at hb;rw[xw,show Nat.blt m.length 9223372036854775807=true from Nat.ble_eq_true_of_le (by have:=h.len;omega),cond_true];obtain⟨m',k',h1,h2⟩:=UE N e p l (k+1) _ _ (h.add s 3 rfl) (by simp only[apK,apM,apV];omega);exact⟨m',k',by rw[ap0]at h1;exact h1,h2⟩
theorem acr(N:Nat)(e:au)(p:aK)(vars:aqx aqy):∀(l:aqx aqy)(k:Nat)(m:aqx (aqy×Int))(V:aqx aqy),VN m V->V.length+l.length<1000000000->∃m',VN m' (V++l)/\Lo N e p vars l k m=xw N e p vars 0 m'
 |[],k,m,V,h,_=>⟨m,by rw[ap4];exact h,rfl⟩
 |s::l,k,m,V,h,hb=>by
  simp only[apM]at hb;rw[Lo,show Nat.blt m.length 9223372036854775807=true from Nat.ble_eq_true_of_le (by have:=h.len;omega),cond_true];obtain⟨m',h1,h2⟩:=acr N e p vars l (k+1) _ _ (h.add s 1 rfl) (by simp only[apK,apM,apV];omega);exact⟨m',by rw[ap0]at h1;exact h1,h2⟩
theorem ajt(N:Nat)(hN:2147483648<N)(p p':aK)(vars:aqx aqy)(e:au)(hs:SizeOf.sizeOf e<N)(h:pA e)(hS:p.aA=p'.aA)(hP:p.aG=p'.aG)(za:p.ay=p'.ay)(uh:nO p.aG)(lF:gr p.ay)
 (hl:p.aA.length+vars.length<1000000000):∃t x,LH N p vars e=some (t,x)/\nW N p' vars e=some (t,x)/\(x=0->kL e=0):=by
 unfold LH nW;rw[Tz N hN e h,LJ N hN e hs h,apI,apI];cases hv:kL e !=0 with
 |true=>exact⟨_,_,rfl,rfl,λh0=>h0⟩
 |false=>
  have hv:=fO hv;simp only[cond_false];rw[abE,C2,apI,apI];cases mW e with
  |true=>exact⟨_,_,rfl,rfl,λh0=>by cases h0⟩
  |false=>
   simp only[cond_false];obtain⟨m1,h1,e1⟩:=acr N e p vars p.aA 0 [] [] ⟨λ_=>rfl,apU _⟩ (by simp only[apV];omega);obtain⟨m2,k2,h2,e2⟩:=UE N e p vars 0 m1 _ h1 (by simp only[apV,List.nil_append];omega);rw[e1,e2,xw];have hV:VN m2 (vars++p'.aA):=ape h2 (λs=>by rw[List.nil_append,lG,lG,hS,Bool.or_comm]) (by rw[hS];simp only[apK,List.nil_append];omega);unfold Qb vH;obtain⟨t,t',x,a1,a2,a3⟩:=XQ (N:=N) hV hP za uh lF N e hs (ad1 hv);rw[a1,a2,apI,apI];dsimp only;cases hx:x !=0 with
   |true=>exact⟨_,_,rfl,rfl,λ_=>hv⟩
   |false=>obtain rfl:=a3 (fO hx);exact⟨_,_,rfl,rfl,λ_=>hv⟩
theorem MD{y:au}:∀{l:aqx au},y∈gW l->∃x∈l,y∈cM x
 |[],h=>by rw[gW]at h;cases h
 |x::l,h=>by
  rw[nC]at h;rcases aql.1 h with h|h
  ·exact⟨x,apP,h⟩
  ·obtain⟨z,h1,h2⟩:=MD h;exact⟨z,apS _ h1,h2⟩
theorem TH{t t':bA}{x:Int}(h:yb t x=(t',0)):x=0:=congrArg Prod.snd h
theorem Ub(N:Nat)(e:au)(p:aK)(vars:aqx aqy)(rec:aK->aqx aqy->au->aqz (bA×Int)):
 ∀(l:aqx au)(k:Nat)(acc:aqx bA)(t:bA),lH N e p vars rec l k acc=some (t,0)->
  (∀x∈l,∃t',rec p vars x=some (t',0))/\∃k' rO,lH N e p vars rec [] k' rO=some (t,0)
 |[],k,acc,t,h=>⟨λ_ hx=>(by cases hx),k,acc,h⟩
 |x::l,k,acc,t,h=>by
  rw[lH]at h;cases hr:rec p vars x with
  |none=>rw[hr]at h;cases h
  |some q=>
   rw[hr,apI]at h;cases hz:q.2 !=0 with
   |true=>rw[hz,cond_true]at h;rw[(Prod.mk.inj (ap2 h)).2]at hz;cases hz
   |false=>
    rw[hz,cond_false]at h;cases hb:Nat.ble ((acc.length+1)*40) 140737488355328 with
    |false=>rw[hb]at h;cases h
    |true=>
     rw[hb,cond_true]at h;obtain⟨h1,h2⟩:=Ub N e p vars rec l (k+1) (acc++[q.1]) t h;refine⟨λy hy=> ?_,h2⟩;rcases aqd.1 hy with rfl|hy
     ·exact⟨q.1,by rw[hr,<-fO hz]⟩
     ·exact h1 y hy
theorem Zl(N:Nat)(p:aK)(vars:aqx aqy)(lF:gr p.ay):∀(d:Nat)(e:au)(t:bA),oO N d p vars e=some (t,0)->∀y∈cM e,(y.aJ=3->lV (vars++p.aA) p.aG p.ay y=0)/\(y.aJ=2->kA (vars++p.aA) y.aS=0)
 |0,e,t,h=>by cases h
 |d+1,e,t,h=>by
  rw[oO]at h;obtain⟨h1,k',rO,h2⟩:=Ub N e p vars _ _ _ _ _ h;intro y hy;rcases aqd.1 hy with rfl|hy
  ·refine⟨λhop=> ?_,λhop=> ?_⟩
   ·rw[lH,hop,Kp N vars p lF]at h2;exact TH (ap2 h2)
   ·rw[lH,hop,E4,L8]at h2;have h3:=congrArg Prod.snd (ap2 h2);exact h3
  ·obtain⟨x,hx,hy⟩:=MD hy;obtain⟨t',h3⟩:=h1 x hx;exact Zl N p vars lF d x t' h3 y hy
theorem W9(N:Nat)(p:aK)(vars:aqx aqy)(lF:gr p.ay)(e:au)(t:bA)(h:nW N p vars e=some (t,0)):∀y∈cM e,(y.aJ=3->lV (vars++p.aA) p.aG p.ay y=0)/\(y.aJ=2->kA (vars++p.aA) y.aS=0):=by
 unfold nW at h;cases e1:qv N e with
 |none=>rw[e1]at h;cases h
 |some a=>
  rw[e1,apI]at h;cases h1:a !=0 with
  |true=>rw[h1,cond_true]at h;rw[(Prod.mk.inj (ap2 h)).2]at h1;cases h1
  |false=>
   rw[h1,cond_false,C2,apI]at h;cases h2:mW e with
   |true=>rw[h2]at h;cases h
   |false=>
    rw[h2,cond_false]at h;cases e3:vH N p vars e with
    |none=>rw[e3]at h;cases h
    |some q=>
     rw[e3,apI]at h;cases h4:q.2 !=0 with
     |true=>rw[h4,cond_true]at h;rw[(Prod.mk.inj (ap2 h)).2]at h4;cases h4
     |false=>exact Zl N p vars lF N e q.1 (by unfold vH at e3;rw[e3,<-fO h4])
structure Bd(N:Nat)(p:aK):Prop where
 s:p.aA.length<=1000
 w:p.cr.length<=1000
 q:p.aG.length<=1000
 d:p.ay.length<=1000
 o:p.b9.length<=1000
 P:nO p.aG
 D:gr p.ay
 W:∀c∈p.cr,lQ 1000000000 c.aS
 E:∀d∈p.ay,pA d.cg/\SizeOf.sizeOf d.cg<N
def dV(d:bf):aqx aqy:=(d.aP++d.aY).map (·.ao)
structure AO(p:aK)(k:Nat)(d:bf):Prop where
 par:cB (p.aG.map (·.ao)) d.ao=false
 body:kL d.cg=0
 pE:lu p.aA [] (d.aP++d.aY)=0
 reads:∀y∈cM d.cg,y.aJ=3->lV (dV d++p.aA) p.aG (p.ay.take k) y=0
 q7:∀y∈cM d.cg,y.aJ=2->kA (dV d++p.aA) y.aS=0
 len:d.aP.length<=6/\d.aY.length<=6
 apv:cB ((p.ay.take k).map (·.ao)) d.ao=false
theorem FG{D:aqx bf}(h:gr D)(k:Nat):gr (D.take k):=⟨λd hd=>h.len d (List.mem_of_mem_take hd),λd hd=>h.lM d (List.mem_of_mem_take hd)⟩
section
variable {N:Nat} {p:aK}
theorem ahW(hN:2147483648<N)(B:Bd N p){m:aqx (aqy×Int)}{T:aqx aqy}{k:Nat}{d:bf}(h:KN m p.aA T)(hd:p.ay[k]?=some d)(hT:T.length<=1000000)(hq:∀s,cB (p.aG.map (·.ao)++(p.ay.take k).map (·.ao)) s=true->cB T s=true):
 ∃x m',I0 N (k:Int) p m=some (x,m')/\rz N p (k:Int) (p.aA++T)=some x/\(x=0->KN m' p.aA (T++[d.ao])/\AO p k d):=by
 have hmem:=rI hd;have apz:=B.D.len d hmem;have hlen:d.aP.length+d.aY.length<1000000000:=by omega
 have QF:∀x∈d.aP++d.aY,jr x.cw:=λx hx=>(B.D.lM d hmem x hx).ok;have hs:=B.s;unfold I0 rz;rw[show decide ((0:Int)<=(k:Int))=true from aqq (by omega),aqa,hd,cond_true,cond_true,apI,apI,
  Qk N (by omega) _ 2 p h (by omega),yY N (by omega),apI,apI,ajE,sR,apI,apI,tL,tL]
 dsimp only;cases e:fE (p.aA++T) d.ao !=0 with
 |true=>exact⟨_,_,rfl,rfl,λh0=>by rw[h0]at e;cases e⟩
 |false=>
  have e0:=fO e;have k1:=h.XJ (ED e0).2;rw[e0];simp only[cond_false,aqs,cond_true];cases eX d.aO with
  |false=>exact⟨_,_,rfl,rfl,λh0=>by cases h0⟩
  |true=>
   simp only[cond_true];rw[show(bif !decide (d.aP.length<=6)then some true else some !decide (d.aY.length<=6))=some (!(decide (d.aP.length<=6)&&decide (d.aY.length<=6))) by cases decide (d.aP.length<=6)<;>cases decide (d.aY.length<=6)<;>rfl,apI];cases e6:decide (d.aP.length<=6)&&decide (d.aY.length<=6)with
   |false=>exact⟨_,_,rfl,rfl,λh0=>by cases h0⟩
   |true=>
    rw[apL,decide_eq_true_eq,decide_eq_true_eq]at e6;simp only[cond_true,Bool.not_true,cond_false];rw[mz (by omega),mz (by omega),apm N (by omega) d p k1 QF hlen,O7 N (by omega) _ _ QF (by simp only[apK];omega)];simp only[apI,cond_true,bne_self_eq_false,cond_false];cases ea:lu p.aA [] (d.aP++d.aY) !=0 with
    |true=>exact⟨_,_,rfl,rfl,λh0=>by rw[h0]at ea;cases ea⟩
    |false=>
     simp only[cond_false];rw[agA,Ru,apI,apI];cases ef:qu d !=0 with
     |true=>exact⟨_,_,rfl,rfl,λh0=>by rw[h0]at ef;cases ef⟩
     |false=>
      simp only[cond_false];have hk:k<p.ay.length:=by
       by_cases hk:k<p.ay.length
       ·exact hk
       ·rw[aqf (by omega)]at hd;cases hd
      rw[show decide (k<=p.ay.length)=true from aqq (by omega),cond_true,cond_true,Ve N d hlen,MM N d hlen,apI,apI,aqi];obtain⟨t,x,a1,a2,a3⟩:=ajt N hN ⟨p.aA,p.cr,p.aG,p.ay.take k,p.b9⟩ ⟨p.aA,[],p.aG,p.ay.take k,[]⟩ ((d.aP++d.aY).map (·.ao)) d.cg (B.E d hmem).2 (B.E d hmem).1 rfl rfl rfl B.P (FG B.D k)
        (by simp only[apO,apK];omega)
      rw[a1,a2,apI,apI];dsimp only;cases ex:x !=0 with
      |true=>exact⟨_,_,rfl,rfl,λh0=>by rw[h0]at ex;cases ex⟩
      |false=>
       have x0:=fO ex;simp only[cond_false];cases ((t.b7==d.aO.b7)&&((t.cp==d.aO.cp)&&((t.cq==d.aO.cq)&&((t.cU==d.aO.cU)&&((t.cS==d.aO.cS)&&true)))))with
       |false=>exact⟨_,_,rfl,rfl,λh0=>by cases h0⟩
       |true=>
        have fq:cB (p.aG.map (·.ao)++(p.ay.take k).map (·.ao)) d.ao=false:=by
         cases eq:cB (p.aG.map (·.ao)++(p.ay.take k).map (·.ao)) d.ao with
         |false=>rfl
         |true=>
          have:=(ED e0).2;rw[lG,hq _ eq,Bool.or_true]at this;cases this
        rw[lG,aqw]at fq;rw[x0]at a2;have tr:=W9 N _ _ (FG B.D k) d.cg t a2;exact⟨_,_,rfl,rfl,λ_=>⟨k1,fq.1,a3 x0,fO ea,λy hy=>(tr y hy).1,λy hy=>(tr y hy).2,e6,fq.2⟩⟩
def rQ(p:aK):Bool:=decide (p.aA.length<=64)&&(decide (p.aG.length<=64)&&(decide (p.ay.length<=64)&&(decide (p.b9.length<=64)&&decide (p.cr.length<=256))))
theorem aiI:L2 N p=some (rQ p):=by
 unfold L2 rQ;simp only[HF];rw[show decide (((max (max (max p.aA.length p.aG.length) p.ay.length) p.b9.length:Nat):Int)<=64)=decide (max (max (max p.aA.length p.aG.length) p.ay.length) p.b9.length<=64)from wV _ 64,show decide ((p.cr.length:Int)<=256)=decide (p.cr.length<=256)from wV _ 256];rw[show decide (max (max (max p.aA.length p.aG.length) p.ay.length) p.b9.length<=64)=(decide (p.aA.length<=64)&&(decide (p.aG.length<=64)&&(decide (p.ay.length<=64)&&decide (p.b9.length<=64)))) by
  rw[Bool.eq_iff_iff];simp only[apL,decide_eq_true_iff];omega]
 cases decide (p.aA.length<=64)<;>cases decide (p.aG.length<=64)<;>cases decide (p.ay.length<=64)<;>cases decide (p.b9.length<=64)<;>rfl
theorem IG:(bif (decide ((p.aA.length:Int)>64))then some true else(bif (decide ((p.aG.length:Int)>64))then some true else(bif (decide ((p.ay.length:Int)>64))then some true else(bif (decide ((p.b9.length:Int)>64))then some true else some (decide ((p.cr.length:Int)>256))))))=some (!rQ p):=by
 unfold rQ;rw[show ∀n:Nat,decide ((n:Int)>64)= !decide (n<=64)from λn=>kG n 64];rw[show decide ((p.aG.length:Int)>64)= !decide (p.aG.length<=64)from kG _ 64,show decide ((p.ay.length:Int)>64)= !decide (p.ay.length<=64)from kG _ 64,show decide ((p.b9.length:Int)>64)= !decide (p.b9.length<=64)from kG _ 64,show decide ((p.cr.length:Int)>256)= !decide (p.cr.length<=256)from kG _ 256];cases decide (p.aA.length<=64)<;>cases decide (p.aG.length<=64)<;>cases decide (p.ay.length<=64)<;>cases decide (p.b9.length<=64)<;>rfl
def l7:aqx aqy->aqx aqy->Int
 |_,[]=>0
 |S,s::l=>bif fE S s !=0 then fE S s else l7 (S++[s]) l
theorem QA(hN:16<N):∀(l:aqx aqy)(k:Nat)(m:aqx (aqy×Int))(S:aqx aqy),KN m S []->S.length+l.length<=1000->
 ∃m',KN m' (S++l) []/\KZ N p l k m=bif l7 S l !=0 then some (0,l7 S l)else Cq N p m' p.cr 0
 |[],k,m,S,h,_=>⟨m,by rw[ap4];exact h,rfl⟩
 |s::l,k,m,S,h,hb=>by
  simp only[apM]at hb;rw[KZ,Qk N hN s 1 p h (by simp only[apV];omega),apI,ap4,l7];dsimp only;cases e:fE S s !=0 with
  |true=>
   obtain⟨m',h1,_⟩:=QA hN l k _ _ (h.vo s) (by simp only[apK,apM,apV];omega);refine⟨m',by rw[ap0]at h1;exact h1,?_⟩;simp only[cond_true];rw[e];rfl
  |false=>
   rw[fO e];obtain⟨m',h1,h2⟩:=QA hN l (k+1) _ _ (h.vo s) (by simp only[apK,apM,apV];omega);exact⟨m',by rw[ap0]at h1;exact h1,h2⟩
theorem MT{α:Type}{L l:aqx α}{x:α}{k:Nat}(h:L.drop k=x::l):L.take (k+1)=L.take k++[x]:=by
 have:=aW h;rw[List.take_add_one,this];rfl
theorem rR{α:Type}{L l:aqx α}{x:α}{k:Nat}(h:L.drop k=x::l):L.drop (k+1)=l:=by
 rw[<-List.drop_drop,h];rfl
theorem GL{α:Type}{L l:aqx α}{x:α}{k:Nat}(h:L.drop k=x::l):k<L.length:=by
 by_cases hk:k<L.length
 ·exact hk
 ·rw[List.drop_eq_nil_of_le (by omega)]at h;cases h
theorem DS(hN:16<N):∀(l:aqx aqy)(k:Nat),p.aA.drop k=l->H8 N p l k=some (l7 (p.aA.take k) l)
 |[],_,_=>rfl
 |s::l,k,h=>by
  rw[H8,aqa,show decide (k<=p.aA.length)=true from aqq (by have:=GL h;omega),cond_true,aqi,yY N hN,apI,l7,DS hN l (k+1) (rR h),MT h];cases fE (p.aA.take k) s !=0<;>rfl
theorem TJ(hN:16<N){m:aqx (aqy×Int)}(h:KN m p.aA []):∀(l:aqx c8)(k:Nat),(∀c∈l,lQ 1000000000 c.aS)->
 Cq N p m l k=bif fF (λc=>fz p.aA c.aS) l !=0 then some (1,fF (λc=>fz p.aA c.aS) l)else zC N p p.aG 0 2 m
 |[],_,_=>rfl
 |c::l,k,hc=>by
  have ok:jr c.aS:=(hc c apP).ok;have e1:Lc N c p m=some (fz p.aA c.aS):=by
   unfold Lc te;rw[sI N hN _ ok,apI,apI,Ti N hN _ p ok h];unfold fz;cases dF c.aS<;>rfl
  rw[Cq,e1,apI,fF,TJ hN h l (k+1) λy hy=>hc y (apS _ hy)];cases e:fz p.aA c.aS !=0 with
  |true=>simp only[cond_true];rw[e];rfl
  |false=>rfl
theorem C9(hN:16<N)(hs:p.aA.length<=1000):∀(l:aqx c8)(k:Nat),(∀c∈l,lQ 1000000000 c.aS)->
 E0 N p l k=bif fF (λc=>fz p.aA c.aS) l !=0 then some (1,fF (λc=>fz p.aA c.aS) l)else oC N p p.aG 0 p.aA 2
 |[],_,_=>by
  rw[E0,mz (by omega)];rfl
 |c::l,k,hc=>by
  rw[E0,QZ N hN _ (hc c apP).ok,apI,fF,C9 hN hs l (k+1) λy hy=>hc y (apS _ hy)];cases e:fz p.aA c.aS !=0 with
  |true=>simp only[cond_true];rw[e];rfl
  |false=>rfl
theorem WQ(hN:16<N)(hs:p.aA.length<=1000):∀(l:aqx cv)(k:Nat)(at_:Int)(m:aqx (aqy×Int))(T:aqx aqy),KN m p.aA T->nO l->T.length+l.length<=1000->
 (∃a x,x≠0/\zC N p l k at_ m=some (a,x)/\oC N p l k (p.aA++T) at_=some (a,x))\/
 ∃at' m',KN m' p.aA (T++l.map (·.ao))/\zC N p l k at_ m=zj N p p.ay 0 at' m'/\oC N p l k (p.aA++T) at_=mj N p p.ay 0 (p.aA++(T++l.map (·.ao))) at'
 |[],k,at_,m,T,h,_,_=> .inr ⟨at_,m,by rw[List.map_nil,ap4];exact h,rfl,by rw[List.map_nil,ap4];rfl⟩
 |x::l,k,at_,m,T,h,hl,hb=>by
  simp only[apM]at hb;obtain⟨m1,e1,e2⟩:=aks N hN x p (λy hy=>(hl.lM x apP y hy).ok) h (by omega);rw[zC,oC,e1,Pj N hN x p.aA T (λy hy=>(hl.lM x apP y hy).ok),apI,apI];dsimp only;cases e:qq p.aA T x !=0 with
  |true=>exact .inl ⟨_,_,λh0=>(by rw[h0]at e;cases e),rfl,rfl⟩
  |false=>
   simp only[cond_false];rw[mz (by simp only[apK];omega),cond_true,ap0];have:=WQ hN hs l (k+1) (bl (at_+1)) m1 (T++[x.ao]) (e2 (fO e)) ⟨λy hy=>hl.len y (apS _ hy),λy hy=>hl.lM y (apS _ hy)⟩ (by simp only[apK,apM,apV];omega);rw[ap0]at this;exact this
theorem X7(hN:2147483648<N)(B:Bd N p):∀(l:aqx bf)(k:Nat)(at_:Int)(m:aqx (aqy×Int))(T:aqx aqy),p.ay.drop k=l->KN m p.aA T->(∀s,cB (p.aG.map (·.ao)++(p.ay.take k).map (·.ao)) s=true->cB T s=true)->T.length+l.length<=10000->
 (∃a x,x≠0/\zj N p l k at_ m=some (a,x)/\mj N p l k (p.aA++T) at_=some (a,x))\/
 ((∀i d,k<=i->p.ay[i]?=some d->AO p i d)/\∃at' m',KN m' p.aA (T++l.map (·.ao))/\zj N p l k at_ m=GD N m' p p.b9 0 at'/\mj N p l k (p.aA++T) at_=mQ N p p.b9 0 at')
 |[],k,at_,m,T,hd,h,_,_=>by
  refine .inr ⟨λi d hi hx=> ?_,at_,m,by rw[List.map_nil,ap4];exact h,rfl,rfl⟩
  ·have:p.ay.length<=k:=by
    by_cases hk:p.ay.length<=k
    ·exact hk
    ·have:=congrArg List.length hd;simp at this;omega
   rw[aqf (by omega)]at hx;cases hx
 |d::l,k,at_,m,T,hd,h,hq,hb=>by
  simp only[apM]at hb;have hs:=B.s;obtain⟨x,m1,e1,e2,e3⟩:=ahW hN B h (aW hd) (by omega) hq;rw[zj,mj,e1,e2,apI,apI];dsimp only;cases e:x !=0 with
  |true=>exact .inl ⟨_,_,λh0=>(by rw[h0]at e;cases e),rfl,rfl⟩
  |false=>
   obtain⟨k1,g1⟩:=e3 (fO e);simp only[cond_false];rw[mz (by simp only[apK];omega),cond_true,ap0];have:=X7 hN B l (k+1) (bl (at_+1)) m1 (T++[d.ao]) (rR hd) k1 (λs hs=>by
    rw[MT hd,List.map_append,<-ap0,lG]at hs;rw[lG];rcases Bool.or_eq_true _ _▸hs with hs|hs
    ·rw[hq s hs];rfl
    ·rw[show cB [d.ao] s=true from hs,Bool.or_true]) (by simp only[apK,apM,apV];omega)
   rw[ap0]at this;rcases this with this|⟨g,this⟩
   ·exact .inl this
   ·refine .inr ⟨λi d' hi hx=> ?_,this⟩;by_cases nZ:i=k
    ·subst nZ;rw[aW hd]at hx;cases hx;exact g1
    ·exact g i d' (by omega) hx
theorem QB{α:Type}(f:α->aqy)(s:aqy):∀l:aqx α,cB (l.map f) s=(l.find? λx=>bL (f x)==bL s).isSome
 |[]=>rfl
 |x::l=>by
  rw[ap8,List.find?_cons,show cB (f x::l.map f) s=(bL (f x)==bL s||cB (l.map f) s)from aqu,QB f s l];cases bL (f x)==bL s<;>rfl
theorem FU(P:aqx cv)(D:aqx bf)(s:aqy):(dz P D s).2.2=cB (P.map (·.ao)++D.map (·.ao)) s:=by
 unfold dz;rw[lG,QB,QB];show _=(_||(D.find? (mX s)).isSome);cases P.find? λx=>bL x.ao==bL s with
 |some x=>rfl
 |none=>cases D.find? (mX s)<;>rfl
theorem YX(hD:gr p.ay){m:aqx (aqy×Int)}(h:KN m p.aA (p.aG.map (·.ao)++p.ay.map (·.ao))):∀(l:aqx aqy)(k:Nat)(at_:Int),p.b9.drop k=l->
 ∃a x,GD N m p l k at_=some (a,x)/\mQ N p l k at_=some (a,x)
 |[],_,_,_=>⟨_,_,rfl,rfl⟩
 |s::l,k,at_,hd=>by
  rw[GD,mQ,h.ne2,BH N p s hD,apI,FU,aqa,show decide (k<=p.b9.length)=true from aqq (by have:=GL hd;omega),aqi,alb,yT,apI,apI];cases cB (p.aG.map (·.ao)++p.ay.map (·.ao)) s with
  |false=>exact⟨_,_,rfl,rfl⟩
  |true=>
   cases cB (p.b9.take k) s with
   |true=>exact⟨_,_,rfl,rfl⟩
   |false=>exact YX hD h l (k+1) (bl (at_+1)) (rR hd)
theorem abe(hN:2147483648<N)(B:Bd N p):∃a x,A5 N p=some (a,x)/\n9 N p=some (a,x)/\(x=0->∀i d,p.ay[i]?=some d->AO p i d):=by
 have hs:=B.s;have hq:=B.q;have hd:=B.d;unfold A5 n9 By;rw[aiI,IG,apI,apI];cases rQ p with
 |false=>exact⟨_,_,rfl,rfl,λh=>by cases h⟩
 |true=>
  simp only[cond_true,Bool.not_true,cond_false];obtain⟨m1,k1,e1⟩:=QA (N:=N) (p:=p) (by omega) p.aA 0 [] [] KN.nil (by simp only[apV];omega);rw[List.nil_append]at k1;rw[e1,DS (by omega) p.aA 0 rfl,apI,List.take_zero];cases ez:l7 [] p.aA !=0 with
  |true=>exact⟨_,_,rfl,rfl,λh0=>by rw[h0]at ez;cases ez⟩
  |false=>
   simp only[cond_false];rw[TJ (by omega) k1 _ _ B.W,C9 (by omega) hs _ _ B.W];cases ew:fF (λc=>fz p.aA c.aS) p.cr !=0 with
   |true=>exact⟨_,_,rfl,rfl,λh0=>by rw[h0]at ew;cases ew⟩
   |false=>
    simp only[cond_false];have pb:=WQ (N:=N) (p:=p) (by omega) hs p.aG 0 2 m1 [] k1 B.P (by simp only[apV];omega);rw[ap4,List.nil_append]at pb;rcases pb with⟨a,x,hx,e1,e2⟩|⟨at',m2,k2,e1,e2⟩
    ·exact⟨a,x,e1,e2,λh0=>absurd h0 hx⟩
    ·rw[e1,e2];rcases X7 hN B p.ay 0 at' m2 _ rfl k2 (λs h=>by rw[List.take_zero,List.map_nil,ap4]at h;exact h) (by simp only[apO];omega)with⟨a,x,hx,e1,e2⟩|⟨g,ES,m3,k3,e1,e2⟩
     ·exact⟨a,x,e1,e2,λh0=>absurd h0 hx⟩
     ·rw[e1,e2];obtain⟨a,x,e1,e2⟩:=YX (N:=N) B.D k3 p.b9 0 ES rfl;exact⟨a,x,e1,e2,λ_ i d h=>g i d (Nat.zero_le _) h⟩
end
theorem tC{l:aqx aqy}{s:aqy}:cB l s=true↔s∈l:=by
 unfold cB;rw[List.any_eq_true];constructor
 ·rintro⟨w,hw,e⟩;rw[beq_iff_eq]at e;rw[<-iL e];exact hw
 ·intro h;exact⟨s,h,by simp⟩
theorem XF{l:aqx aqy}{s:aqy}(h:cB l s=false):s ∉ l:=λhm=>by rw[tC.2 hm]at h;cases h
theorem tc{T:aqx aqy}{s:aqy}(h:fE T s=0):cO s=true/\s ∉ T:=⟨(ED h).1,XF (ED h).2⟩
theorem H9:∀(l S:aqx aqy),l7 S l=0->(∀s∈l,cO s=true/\s ∉ S)/\l.Nodup
 |[],_,_=>⟨λs hs=>(by cases hs),List.nodup_nil⟩
 |s::l,S,h=>by
  rw[l7]at h;cases e:fE S s !=0 with
  |true=>rw[e]at h;simp only[cond_true]at h;rw[h]at e;cases e
  |false=>
   rw[e]at h;simp only[cond_false]at h;obtain⟨h1,h2⟩:=tc (fO e);obtain⟨k1,k2⟩:=H9 l (S++[s]) h;refine⟨λx hx=> ?_,List.nodup_cons.2 ⟨λhs=>(k1 s hs).2 (by simp),k2⟩⟩;rcases aqd.1 hx with rfl|hx
   ·exact⟨h1,h2⟩
   ·exact⟨(k1 x hx).1,λhm=>(k1 x hx).2 (List.mem_append_left _ hm)⟩
theorem vt{α:Type}{f:α->Int}:∀{l:aqx α},fF f l=0->∀x∈l,f x=0
 |x::l,h,y,hy=>by
  rw[fF]at h;cases e:f x !=0 with
  |true=>rw[e]at h;simp only[cond_true]at h;rw[h]at e;cases e
  |false=>
   rw[e]at h;simp only[cond_false]at h;rcases aqd.1 hy with rfl|hy
   ·exact fO e
   ·exact vt h y hy
def ue(S:aqx aqy):aqx aqy->aqx cv->Prop
 |_,[]=>True
 |T,x::l=>qq S T x=0/\ue S (T++[x.ao]) l
def KD:aqx aqy->aqx bf->Prop
 |_,[]=>True
 |T,d::l=>fE T d.ao=0/\KD (T++[d.ao]) l
theorem Dp{S:aqx aqy}:∀(l:aqx cv)(T:aqx aqy),ue S T l->(∀x∈l,cO x.ao=true/\x.ao ∉ S++T/\fF (fz S) x.aP=0)/\(l.map (·.ao)).Nodup
 |[],_,_=>⟨λs hs=>(by cases hs),List.nodup_nil⟩
 |x::l,T,⟨h,hl⟩=>by
  unfold qq at h;cases e:fE (S++T) x.ao !=0 with
  |true=>rw[e]at h;simp only[cond_true]at h;rw[h]at e;cases e
  |false=>
   rw[e]at h;simp only[cond_false]at h;obtain⟨h1,h2⟩:=tc (fO e);obtain⟨k1,k2⟩:=Dp l (T++[x.ao]) hl;have hd:fF (fz S) x.aP=0:=by
     cases e1:eX x.aO with
     |false=>rw[e1]at h;cases h
     |true=>
      rw[e1]at h;simp only[cond_true]at h;cases e2:decide (x.aP.length<=6)with
      |false=>rw[e2]at h;cases h
      |true=>rw[e2]at h;exact h
   refine⟨λy hy=> ?_,List.nodup_cons.2 ⟨λhs=> ?_,k2⟩⟩
   ·rcases aqd.1 hy with rfl|hy
    ·exact⟨h1,h2,hd⟩
    ·obtain⟨a,b,c⟩:=k1 y hy;exact⟨a,λhm=>b (by rcases aql.1 hm with hm|hm<;>simp [hm]),c⟩
   ·obtain⟨y,hy,ey⟩:=List.mem_map.1 hs;exact(k1 y hy).2.1 (by rw[show y.ao=x.ao from ey];simp)
theorem Sj:∀(l:aqx bf)(T:aqx aqy),KD T l->(∀x∈l,cO x.ao=true/\x.ao ∉ T)/\(l.map (·.ao)).Nodup
 |[],_,_=>⟨λs hs=>(by cases hs),List.nodup_nil⟩
 |x::l,T,⟨h,hl⟩=>by
  obtain⟨h1,h2⟩:=tc h;obtain⟨k1,k2⟩:=Sj l (T++[x.ao]) hl;refine⟨λy hy=> ?_,List.nodup_cons.2 ⟨λhs=> ?_,k2⟩⟩
  ·rcases aqd.1 hy with rfl|hy
   ·exact⟨h1,h2⟩
   ·obtain⟨a,b⟩:=k1 y hy;exact⟨a,λhm=>b (List.mem_append_left _ hm)⟩
  ·obtain⟨y,hy,ey⟩:=List.mem_map.1 hs;exact(k1 y hy).2 (by rw[show y.ao=x.ao from ey];simp)
structure VP(p:aK):Prop where
 names:l7 [] p.aA=0
 wh:∀c∈p.cr,fz p.aA c.aS=0
 sx:ue p.aA [] p.aG
 defs:KD (p.aA++p.aG.map (·.ao)) p.ay
 outs:∀s∈p.b9,s∈p.aG.map (·.ao)++p.ay.map (·.ao)
section
variable {N:Nat} {p:aK}
theorem Z1(hD:gr p.ay):∀(l:aqx aqy)(k:Nat)(at_:Int){a:Int},mQ N p l k at_=some (a,0)->∀s∈l,s∈p.aG.map (·.ao)++p.ay.map (·.ao)
 |s::l,k,at_,a,h,y,hy=>by
  rw[mQ,BH N p s hD,apI,FU]at h;cases e:cB (p.aG.map (·.ao)++p.ay.map (·.ao)) s with
  |false=>rw[e]at h;cases h
  |true=>
   rw[e]at h;simp only[cond_true]at h;obtain⟨_,h⟩:=rY h;rw[yT,apI]at h;cases e2:cB ((p.b9.take ((k:Int)).toNat).drop 0) s with
   |true=>rw[e2]at h;cases h
   |false=>
    rw[e2]at h;rcases aqd.1 hy with rfl|hy
    ·exact tC.1 e
    ·exact Z1 hD l (k+1) (bl (at_+1)) h y hy
theorem ahH(hN:16<N){k:Nat}{d:bf}{T:aqx aqy}(hd:p.ay[k]?=some d)(h:rz N p (k:Int) T=some 0):fE T d.ao=0:=by
 unfold rz at h;obtain⟨_,h⟩:=rY h;rw[aqa,hd,apI,yY N hN,apI]at h;cases e:fE T d.ao !=0 with
 |false=>exact fO e
 |true=>rw[e]at h;simp only[cond_true]at h;rw[ap2 h]at e;cases e
theorem ab5(hN:16<N):∀(l:aqx bf)(k:Nat)(at_:Int)(T:aqx aqy){a:Int},p.ay.drop k=l->mj N p l k T at_=some (a,0)->KD T l/\∃at' a',mQ N p p.b9 0 at'=some (a',0)
 |[],k,at_,T,a,_,h=>⟨trivial,at_,a,h⟩
 |d::l,k,at_,T,a,hk,h=>by
  rw[mj]at h;obtain⟨x,e,h⟩:=dw h;cases e2:x !=0 with
  |true=>rw[e2]at h;simp only[cond_true]at h;rw[(Prod.mk.inj (ap2 h)).2]at e2;cases e2
  |false=>
   rw[e2]at h;obtain⟨_,h⟩:=rY h;have hx:=fO e2;rw[hx]at e;obtain⟨k1,k2⟩:=ab5 hN l (k+1) _ _ (rR hk) h;exact⟨⟨ahH hN (aW hk) e,k1⟩,k2⟩
theorem Ta(hN:16<N):∀(l:aqx cv)(k:Nat)(at_:Int)(T:aqx aqy){a:Int},nO l->oC N p l k (p.aA++T) at_=some (a,0)->ue p.aA T l/\∃at' a',mj N p p.ay 0 (p.aA++(T++l.map (·.ao))) at'=some (a',0)
 |[],k,at_,T,a,_,h=>⟨trivial,at_,a,by rw[List.map_nil,ap4];exact h⟩
 |x::l,k,at_,T,a,hl,h=>by
  rw[oC,Pj N hN x p.aA T (λy hy=>(hl.lM x apP y hy).ok),apI]at h;cases e2:qq p.aA T x !=0 with
  |true=>rw[e2]at h;simp only[cond_true]at h;rw[(Prod.mk.inj (ap2 h)).2]at e2;cases e2
  |false=>
   rw[e2]at h;obtain⟨_,h⟩:=rY h;dsimp only at h;rw[ap0]at h;obtain⟨k1,k2⟩:=Ta hN l (k+1) _ (T++[x.ao]) ⟨λy hy=>hl.len y (apS _ hy),λy hy=>hl.lM y (apS _ hy)⟩ h;rw[ap0]at k2;exact⟨⟨fO e2,k1⟩,k2⟩
theorem RH(hN:16<N)(B:Bd N p){a:Int}(h:n9 N p=some (a,0)):VP p:=by
 have hs:=B.s;unfold n9 By at h;rw[IG,apI]at h;cases e:rQ p with
 |false=>rw[e]at h;cases h
 |true=>
  rw[e]at h;simp only[Bool.not_true,cond_false]at h;rw[DS hN p.aA 0 rfl,apI,List.take_zero]at h;cases ez:l7 [] p.aA !=0 with
  |true=>rw[ez]at h;simp only[cond_true]at h;rw[(Prod.mk.inj (ap2 h)).2]at ez;cases ez
  |false=>
   rw[ez]at h;simp only[cond_false]at h;rw[C9 hN hs p.cr 0 B.W]at h;cases ew:fF (λc:c8=>fz p.aA c.aS) p.cr !=0 with
   |true=>rw[ew]at h;simp only[cond_true]at h;rw[(Prod.mk.inj (ap2 h)).2]at ew;cases ew
   |false=>
    rw[ew]at h;simp only[cond_false]at h;obtain⟨k1,Nd,a1,h1⟩:=Ta hN p.aG 0 2 [] B.P (by rw[ap4];exact h);rw[List.nil_append]at h1;obtain⟨k2,ES,a2,h2⟩:=ab5 hN p.ay 0 Nd _ rfl h1;exact⟨fO ez,vt (fO ew),k1,k2,Z1 B.D p.b9 0 ES h2⟩
end
def bx:aqx (aqy×aqy)->aqy->aqy
 |[],s=>s
 |(k,v)::l,s=>bif bL k==bL s then v else bx l s
theorem zo(N:Nat)(s:aqy):∀m:aqx (aqy×aqy),u4 N s m=some (bx m s)
 |[]=>rfl
 |(k,v)::l=>by
  have ih:=zo N s l;unfold u4 at ih ⊢;rw[o8,eZ,bx];cases bL k==bL s with
  |true=>rfl
  |false=>exact ih
theorem Yj(N:Nat)(s:aqy)(F T:aqx aqy):∀(l:aqx aqy)(k:Nat),T.length=k+l.length->C0 N s ⟨F,T⟩ l k=some (bx (l.zip (T.drop k)) s)
 |[],k,_=>by rw[C0];rfl
 |x::l,k,h=>by
  rw[apM]at h;have hk:k<T.length:=by omega
  rw[C0,List.drop_eq_getElem_cons hk,List.zip_cons_cons,bx];cases bL x==bL s with
  |true=>
   simp only[cond_true,aqa];rw[apN hk];rfl
  |false=>exact Yj N s F T l (k+1) (by omega)
theorem vN(N:Nat)(s:aqy)(F T:aqx aqy)(h:T.length=F.length):pf N ⟨F,T⟩ s=some (bx (F.zip T) s):=by
 unfold pf;rw[Yj N s F T F 0 (by omega),aqi]
theorem KU:∀(m:aqx (aqy×aqy))(s:aqy),s ∉ m.map (·.1)->bx m s=s
 |[],_,_=>rfl
 |(k,v)::l,s,h=>by
  rw[ap8,aqd]at h;rw[bx,show(bL k==bL s)=false from by
    rw[beq_eq_false_iff_ne];exact λe=>h (.inl (iL e).symm)]
  exact KU l s λhm=>h (.inr hm)
theorem S7:∀(m:aqx (aqy×aqy)),(m.map (·.1)).Nodup->∀p∈m,bx m p.1=p.2
 |(k,v)::l,h,p,hp=>by
  rw[ap8,List.nodup_cons]at h;rw[bx];rcases aqd.1 hp with rfl|hp
  ·rw[BEq.rfl];rfl
  ·rw[show(bL k==bL p.1)=false from by
     rw[beq_eq_false_iff_ne];exact λe=>h.1 (List.mem_map.2 ⟨p,hp,(iL e).symm⟩)]
   exact S7 l h.2 p hp
theorem Rq{m m':aqx (aqy×aqy)}(hp:m.Perm m')(hn:(m.map (·.1)).Nodup)(s:aqy):bx m s=bx m' s:=by
 have hk:=hp.map (·.1);have eE:(m'.map (·.1)).Nodup:=hk.nodup_iff.1 hn;by_cases h:s∈m.map (·.1)
 ·obtain⟨p,hm,rfl⟩:=List.mem_map.1 h;rw[S7 m hn p hm,S7 m' eE p (hp.mem_iff.1 hm)]
 ·rw[KU m s h,KU m' s λh'=>h (hk.mem_iff.2 h')]
theorem UP(x:bt):∀l:aqx bt,(l.Pairwise λa b=>bL a.ao<bL b.ao)->(∀y∈l,bL y.ao≠bL x.ao)->(xY x l).Pairwise λa b=>bL a.ao<bL b.ao
 |[],_,_=>by simp [xY]
 |y::l,h,hx=>by
  obtain⟨h1,h2⟩:=List.pairwise_cons.1 h;unfold xY;rw[Js];by_cases c:bL x.ao<bL y.ao
  ·rw[aqq c];refine .cons (λz hz=> ?_) h;rcases aqd.1 hz with rfl|hz
   ·exact c
   ·exact List.lt_trans c (h1 z hz)
  ·rw[aqr c];refine .cons (λz hz=> ?_) (UP x l h2 λz hz=>hx z (apS _ hz));rcases aqd.1 ((N3 x l).subset hz)with rfl|hz
   ·exact Classical.byContradiction λh3=>hx y apP (List.le_antisymm (List.not_lt.1 c) (List.not_lt.1 h3))
   ·exact h1 z hz
theorem HA:∀l:aqx bt,(l.Pairwise λa b=>bL a.ao≠bL b.ao)->(jg l).Pairwise λa b=>bL a.ao<bL b.ao
 |[],_=> .nil
 |x::l,h=>by
  obtain⟨h1,h2⟩:=List.pairwise_cons.1 h;unfold jg;exact UP x _ (HA l h2) λy hy=>λe=>h1 y ((tk l).subset hy) e.symm
theorem UF:∀l:aqx bt,(l.Pairwise λa b=>bL a.ao<bL b.ao)->tZ l=true
 |[],_=>rfl
 |[_],_=>rfl
 |x::y::l,h=>by
  obtain⟨h1,h2⟩:=List.pairwise_cons.1 h;unfold tZ;rw[Js,aqq (h1 y apP),Bool.true_and];exact UF (y::l) h2
def lR(x:bt):aqx bt->aqx bt
 |[]=>[x]
 |y::l=>bif uO y x then y::lR x l else x::y::l
theorem Hc{α:Type}{v:aqx α}{k:Nat}(h:k<=v.length):((v.take k).drop 0).length=k:=by rw[aqi,List.length_take];omega
theorem ft{a b:Nat}(h:a<=b):Nat.ble a b=true:=by rw[Nat.ble_eq];exact h
theorem aat(N:Nat)(v7:aqx bt)(s:aqy)(x:bt)(c:aqx bt->aqz aR)(hb:(v7.length+1)*24<=140737488355328):∀(l:aqx bt)(k:Nat),v7.drop k=l->k<=v7.length->zP N v7 s x c l k=c (v7.take k++lR ⟨s,x.cN⟩ l)
 |[],k,hd,hk=>by
  have hl:(v7.drop k).length=0:=by rw[hd];rfl
  have e1:((0:Int)<=(k:Int)):=Int.natCast_nonneg _;rw[zP,aqq e1,aqa,aqq hk,Hc hk,apK,Hc hk,hl,ft (by omega),ft (by omega),ft (by simp only[apM,apV];omega)];simp only[cond_true];rw[aqi,hd,ap4];rfl
 |y::l,k,hd,hk=>by
  have hl:(v7.drop k).length=l.length+1:=by rw[hd];rfl
  rw[List.length_drop]at hl;rw[zP,lR,uO];cases Op.bytesLess (bL y.ao) (bL s)with
  |true=>
   simp only[cond_true];have gz:v7.drop (k+1)=l:=by rw[<-List.drop_drop,hd];rfl
   rw[aat N v7 s x c hb l (k+1) gz (by omega)];have ht:v7.take (k+1)=v7.take k++[y]:=by
     have hg:v7[k]?=some y:=by have:=congrArg (λl:aqx bt=>l[0]?) hd;simpa using this
     rw[List.take_add_one,hg];rfl
   rw[ht,ap0];rfl
  |false=>
   simp only[cond_false];rw[aqa,aqq hk,Hc hk,apK,Hc hk,List.length_drop,ft (by omega),ft (by omega),ft (by simp only[apM,apV];omega)];simp only[cond_true];rw[aqi,hd,ap0];rfl
def uH(m:aqx (aqy×aqy)):aqx bt->aqx bt->aqx bt
 |[],a=>a
 |x::l,a=>uH m l (lR ⟨bx m x.ao,x.cN⟩ a)
theorem D5(x:bt):∀l,(lR x l).Perm (x::l)
 |[]=> .refl _
 |y::l=>by
  unfold lR;cases uO y x
  ·exact .refl _
  ·exact((D5 x l).cons y).trans (.swap x y l)
theorem Yd(m:aqx (aqy×aqy)):∀(l a:aqx bt),(uH m l a).Perm (l.map (λx=>(⟨bx m x.ao,x.cN⟩:bt))++a)
 |[],a=> .refl _
 |x::l,a=>by
  rw[uH,ap8,List.cons_append];refine(Yd m l _).trans ?_;refine(List.Perm.append_left _ (D5 _ a)).trans ?_;exact List.perm_middle
theorem agx(N:Nat)(v2:aR)(F T:aqx aqy)(hT:T.length=F.length)(l:aqx bt):∀(k:Nat)(a:aqx bt),(l.length+a.length+1)*24<=140737488355328->uY N v2 ⟨F,T⟩ l k a=some ⟨v2.xK,uH (F.zip T) l a⟩:=by
 induction l with
 |nil=>intro k a _;rw[uY];rfl
 |cons x l ih=>
  intro k a hb;rw[apM]at hb;rw[uH];have pJ:(a.length+1)*24<=140737488355328:=ap1 (Nat.mul_le_mul_right 24 (Nat.succ_le_succ (Nat.le_add_left a.length (l.length+1)))) hb;have h2:(lR ⟨bx (F.zip T) x.ao,x.cN⟩ a).length=a.length+1:=(D5 _ a).length_eq;have jR:(l.length+(lR ⟨bx (F.zip T) x.ao,x.cN⟩ a).length+1)*24<=140737488355328:=by
   generalize (lR ⟨bx (F.zip T) x.ao,x.cN⟩ a).length=q at h2 ⊢;subst h2;exact ap1 (Nat.le_of_eq (congrArg (·*24) (by rw[Nat.add_right_comm l.length 1 a.length,Nat.add_assoc l.length a.length 1]))) hb
  have h3:=ih (k+1) (lR ⟨bx (F.zip T) x.ao,x.cN⟩ a) jR;have h4:=aat N a (bx (F.zip T) x.ao) x (λb=>uY N v2 ⟨F,T⟩ l (k+1) b) pJ a 0 aqi (Nat.zero_le _);rw[List.take_zero,List.nil_append]at h4;have h5:=vN N x.ao F T hT;generalize bx (F.zip T) x.ao=s at h3 h4 h5;generalize hc:(λb=>uY N v2 ⟨F,T⟩ l (k+1) b)=c at h4;have h6:c (lR ⟨s,x.cN⟩ a)=some ⟨v2.xK,uH (F.zip T) l (lR ⟨s,x.cN⟩ a)⟩:=by rw[<-hc];exact h3
  have h7:uY N v2 ⟨F,T⟩ (x::l) k a=Option.bind (pf N ⟨F,T⟩ x.ao) λv8=>zP N a v8 x c a 0:=by rw[<-hc];exact uY.eq_2 ..
  simp only[h7,h5,apI];exact h4.trans h3
theorem U3(x:bt):∀l:aqx bt,(l.Pairwise λa b=>bL a.ao<bL b.ao)->(∀y∈l,bL y.ao≠bL x.ao)->(lR x l).Pairwise λa b=>bL a.ao<bL b.ao
 |[],_,_=>by simp [lR]
 |y::l,h,hx=>by
  obtain⟨h1,h2⟩:=List.pairwise_cons.1 h;unfold lR;rw[Js];by_cases c:bL y.ao<bL x.ao
  ·rw[aqq c];refine .cons (λz hz=> ?_) (U3 x l h2 λz hz=>hx z (apS _ hz));rcases aqd.1 ((D5 x l).subset hz)with rfl|hz
   ·exact c
   ·exact h1 z hz
  ·rw[aqr c];have c2:bL x.ao<bL y.ao:=Classical.byContradiction λh3=>hx y apP (List.le_antisymm (List.not_lt.1 h3) (List.not_lt.1 c));refine .cons (λz hz=> ?_) h;rcases aqd.1 hz with rfl|hz
   ·exact c2
   ·exact List.lt_trans c2 (h1 z hz)
theorem Zg(m:aqx (aqy×aqy)):∀(l a:aqx bt),(a.Pairwise λa b=>bL a.ao<bL b.ao)->((l.map (λx=>(⟨bx m x.ao,x.cN⟩:bt))++a).Pairwise λa b=>bL a.ao≠bL b.ao)->(uH m l a).Pairwise λa b=>bL a.ao<bL b.ao
 |[],a,h,_=>h
 |x::l,a,h,hn=>by
  rw[ap8,List.cons_append]at hn;obtain⟨h1,h2⟩:=List.pairwise_cons.1 hn;rw[uH];refine Zg m l _ (U3 _ a h λy hy e=>h1 y (List.mem_append_right _ hy) e.symm) ?_;have hp:(l.map (λx=>(⟨bx m x.ao,x.cN⟩:bt))++lR ⟨bx m x.ao,x.cN⟩ a).Perm (⟨bx m x.ao,x.cN⟩::(l.map (λx=>(⟨bx m x.ao,x.cN⟩:bt))++a)):=
    (List.Perm.append_left _ (D5 _ a)).trans List.perm_middle
  exact(hp.pairwise_iff λh e=>h e.symm).2 hn
def dR(m:aqx (aqy×aqy))(l:aR):aR:=⟨l.xK,jg (l.xL.map λx=>⟨bx m x.ao,x.cN⟩)⟩
def vb(m:aqx (aqy×aqy))(l:aR):Prop:=(l.xL.map (λx=>(⟨bx m x.ao,x.cN⟩:bt))).Pairwise λa b=>bL a.ao≠bL b.ao
theorem Fb(N:Nat)(F T:aqx aqy)(hT:T.length=F.length)(l:aR)(hd:vb (F.zip T) l)(hb:(l.xL.length+1)*24<=140737488355328):u7 N ⟨F,T⟩ l=some (dR (F.zip T) l):=by
 unfold u7;rw[agx N l F T hT l.xL 0 [] (by simpa using hb)];unfold dR;have hp:=Yd (F.zip T) l.xL [];rw[ap4]at hp;have ha:=Zg (F.zip T) l.xL [] .nil (by rw[ap4];exact hd);rw[Ry (λa b h1 h2=>List.lt_irrefl _ (List.lt_trans h1 h2)) _ _ (hp.trans (tk _).symm) ha (HA _ hd)]
theorem X1(N:Nat)(v1:aR)(m:aqx (aqy×aqy)):∀(l:aqx bt)(k:Nat)(a:aqx bt),(l.length+a.length)*24<=140737488355328->((a++l.map (λx=>(⟨bx m x.ao,x.cN⟩:bt))).Pairwise λa b=>bL a.ao≠bL b.ao)->vV N v1 m l k a.length a=some ⟨v1.xK,jg (a++l.map (λx=>(⟨bx m x.ao,x.cN⟩:bt)))⟩
 |[],_,a,hb,hn=>by
  rw[List.map_nil,ap4]at hn ⊢;rw[vV];unfold RL;rw[show Nat.beq a.length a.length=true from Nat.beq_refl _,show Nat.blt a.length 4611686018427387904=true from by rw[Nat.blt_eq];simp at hb;omega,UF _ (HA a hn)];simp only[Bool.and_true,cond_true,apI];rw[(tk a).length_eq,show Nat.beq a.length a.length=true from Nat.beq_refl _];rfl
 |x::l,k,a,hb,hn=>by
  rw[apM]at hb;rw[vV,zo,apI,show Nat.beq a.length a.length=true from Nat.beq_refl _,ft (by omega)];simp only[cond_true];have:=X1 N v1 m l (k+1) (a++[⟨bx m x.ao,x.cN⟩]) (by rw[apK,apM,apV];omega) (by rw[ap0];exact hn);rw[apK,apM,apV,ap0]at this;exact this
theorem BU(N:Nat)(m v3:aqx (aqy×aqy))(l:aR)(hd:vb m l)(hb:(l.xL.length+1)*24<=140737488355328):ur N l m v3=some (dR m l):=by
 unfold ur;exact X1 N l m l.xL 0 [] (by simp;omega) hd
def iS(m:aqx (aqy×aqy))(l:aR):Prop:=vb m l/\(l.xL.length+1)*24<=140737488355328
def lY(m:aqx (aqy×aqy))(a:cd):cd:=⟨bx m a.ao,dR m a.cw⟩
theorem aom(N:Nat)(m v3:aqx (aqy×aqy))(l:aqx aR):∀(k:Nat)(a:aqx aR),(∀x∈l,iS m x)->(a.length+l.length)*32<=140737488355328->CL N m v3 l k a=some (a++l.map (dR m)):=by
 induction l with
 |nil=>intro k a _ _;rw[CL,List.map_nil,ap4]
 |cons x l ih=>
  intro k a h hb;rw[apM]at hb;have h1:=h x apP;have hc:Nat.ble ((a.length+1)*32) 140737488355328=true:=ft (by omega);have h2:=ih (k+1) (a++[dR m x]) (λy hy=>h y (apS _ hy)) (by rw[apK,apM,apV];omega);rw[CL,BU N m v3 x h1.1 h1.2,apI,hc];rw[ap0]at h2;exact h2
theorem adb(N:Nat)(F T:aqx aqy)(hT:T.length=F.length)(l:aqx aR):∀(k:Nat)(a:aqx aR),(∀x∈l,iS (F.zip T) x)->(a.length+l.length)*32<=140737488355328->DE N ⟨F,T⟩ l k a=some (a++l.map (dR (F.zip T))):=by
 induction l with
 |nil=>intro k a _ _;rw[DE,List.map_nil,ap4]
 |cons x l ih=>
  intro k a h hb;rw[apM]at hb;have h1:=h x apP;have hc:Nat.ble ((a.length+1)*32) 140737488355328=true:=ft (by omega);have h2:=ih (k+1) (a++[dR (F.zip T) x]) (λy hy=>h y (apS _ hy)) (by rw[apK,apM,apV];omega);rw[DE,Fb N F T hT x h1.1 h1.2,apI,hc];rw[ap0]at h2;exact h2
theorem afz(N:Nat)(m v3:aqx (aqy×aqy))(l:aqx cd):∀(k:Nat)(a:aqx cd),(∀x∈l,iS m x.cw)->(a.length+l.length)*48<=140737488355328->CC N m v3 l k a=some (a++l.map (lY m)):=by
 induction l with
 |nil=>intro k a _ _;rw[CC,List.map_nil,ap4]
 |cons x l ih=>
  intro k a h hb;rw[apM]at hb;have h1:=h x apP;have hc:Nat.ble ((a.length+1)*48) 140737488355328=true:=ft (by omega);have h2:=ih (k+1) (a++[lY m x]) (λy hy=>h y (apS _ hy)) (by rw[apK,apM,apV];omega);rw[CC,zo,apI,BU N m v3 x.cw h1.1 h1.2,apI,hc];rw[ap0]at h2;exact h2
theorem adw(N:Nat)(F T:aqx aqy)(hT:T.length=F.length)(l:aqx cd):∀(k:Nat)(a:aqx cd),(∀x∈l,iS (F.zip T) x.cw)->(a.length+l.length)*48<=140737488355328->C6 N ⟨F,T⟩ l k a=some (a++l.map (lY (F.zip T))):=by
 induction l with
 |nil=>intro k a _ _;rw[C6,List.map_nil,ap4]
 |cons x l ih=>
  intro k a h hb;rw[apM]at hb;have h1:=h x apP;have hc:Nat.ble ((a.length+1)*48) 140737488355328=true:=ft (by omega);have h2:=ih (k+1) (a++[lY (F.zip T) x]) (λy hy=>h y (apS _ hy)) (by rw[apK,apM,apV];omega);rw[C6,vN N x.ao F T hT,apI,Fb N F T hT x.cw h1.1 h1.2,apI,hc];rw[ap0]at h2;exact h2
theorem YQ(N:Nat)(m v3:aqx (aqy×aqy))(l:aqx aR)(h:∀x∈l,iS m x)(hb:l.length*32<=140737488355328):Gy N l m v3=some (l.map (dR m)):=by
 unfold Gy;rw[aom N m v3 l 0 [] h (by simpa using hb),List.nil_append]
theorem aal(N:Nat)(F T:aqx aqy)(hT:T.length=F.length)(l:aqx aR)(h:∀x∈l,iS (F.zip T) x)(hb:l.length*32<=140737488355328):CW N ⟨F,T⟩ l=some (l.map (dR (F.zip T))):=by
 unfold CW;rw[adb N F T hT l 0 [] h (by simpa using hb),List.nil_append]
theorem Y5(N:Nat)(m v3:aqx (aqy×aqy))(l:aqx cd)(h:∀x∈l,iS m x.cw)(hb:l.length*48<=140737488355328):FV N l m v3=some (l.map (lY m)):=by
 unfold FV;rw[afz N m v3 l 0 [] h (by simpa using hb),List.nil_append]
theorem XD(N:Nat)(F T:aqx aqy)(hT:T.length=F.length)(l:aqx cd)(h:∀x∈l,iS (F.zip T) x.cw)(hb:l.length*48<=140737488355328):FN N ⟨F,T⟩ l=some (l.map (lY (F.zip T))):=by
 unfold FN;rw[adw N F T hT l 0 [] h (by simpa using hb),List.nil_append]
def EH(m:aqx (aqy×aqy))(i:bH):Prop:=iS m i.aS/\(∀x∈i.bO,iS m x)/\i.bO.length*32<=140737488355328
def vh(m t:aqx (aqy×aqy))(i:bH):bH:=⟨dR m i.aS,bx t i.bR,i.bO.map (dR m)⟩
theorem aiJ(N:Nat)(m t:aqx (aqy×aqy))(hE:bx t (bs [])=bs [])(l:aqx bH):∀(k:Nat)(a:aqx bH),(∀x∈l,EH m x)->(a.length+l.length)*72<=140737488355328->xn N m t l k a=some (a++l.map (vh m t)):=by
 induction l with
 |nil=>intro k a _ _;rw[xn,List.map_nil,ap4]
 |cons x l ih=>
  intro k a h hb;rw[apM]at hb;have h1:=h x apP;have hc:Nat.ble ((a.length+1)*72) 140737488355328=true:=ft (by omega);have h2:=ih (k+1) (a++[vh m t x]) (λy hy=>h y (apS _ hy)) (by rw[apK,apM,apV];omega);rw[ap0]at h2;rw[xn,BU N m t x.aS h1.1.1 h1.1.2,apI,YQ N m t x.bO h1.2.1 h1.2.2,apI];cases e:bL x.bR==bL (bs [])with
  |true=>
   have e1:x.bR=bs []:=iL (by simpa using e);simp only[cond_true];unfold FR;rw[hc];have h3:vh m t x=⟨dR m x.aS,bs [],x.bO.map (dR m)⟩:=by unfold vh;rw[e1,hE]
   rw[h3]at h2;rw[ap8,h3];exact h2
  |false=>
   simp only[cond_false];rw[zo,apI];unfold FR;rw[hc];exact h2
theorem akl(N:Nat)(F T A B:aqx aqy)(hT:T.length=F.length)(hB:B.length=A.length)(l:aqx bH):∀(k:Nat)(a:aqx bH),(∀x∈l,EH (F.zip T) x)->(a.length+l.length)*72<=140737488355328->Fe N ⟨F,T⟩ ⟨A,B⟩ l k a=some (a++l.map (vh (F.zip T) (A.zip B))):=by
 induction l with
 |nil=>intro k a _ _;rw[Fe,List.map_nil,ap4]
 |cons x l ih=>
  intro k a h hb;rw[apM]at hb;have h1:=h x apP;have hc:Nat.ble ((a.length+1)*72) 140737488355328=true:=ft (by omega);have h2:=ih (k+1) (a++[vh (F.zip T) (A.zip B) x]) (λy hy=>h y (apS _ hy)) (by rw[apK,apM,apV];omega);rw[ap0]at h2;rw[Fe,Fb N F T hT x.aS h1.1.1 h1.1.2,apI,vN N x.bR A B hB,apI,aal N F T hT x.bO h1.2.1 h1.2.2,apI,hc];exact h2
def gv(f:aqy->aqy)(l:aR):aR:=⟨l.xK,jg (l.xL.map λx=>⟨f x.ao,x.cN⟩)⟩
def qn(f g:aqy->aqy)(i:bH):bH:=⟨gv f i.aS,g i.bR,i.bO.map (gv f)⟩
mutual
def dP(f g:aqy->aqy):au->au
 |⟨o,n,v,t,l,i,a⟩=>⟨o,g n,v,t,gv f l,i.map (qn f g),Ju f g a⟩
def Ju(f g:aqy->aqy):aqx au->aqx au
 |[]=>[]
 |e::l=>dP f g e::Ju f g l
end
theorem Wd(f g:aqy->aqy):∀l:aqx au,Ju f g l=l.map (dP f g)
 |[]=>rfl
 |e::l=>by rw[Ju,Wd f g l];rfl
theorem mI(f g:aqy->aqy)(e:au):dP f g e=⟨e.aJ,g e.ao,e.dM,e.aO,gv f e.aS,e.xIdx.map (qn f g),e.bp.map (dP f g)⟩:=by
 cases e
 rw[dP,Wd]
structure OkN(m t:List (ByteArray×ByteArray))(e:au):Prop where
 fi:iS m e.aS
 idx:∀i∈e.xIdx,EH m i
 li:e.xIdx.length*72<=140737488355328
 la:e.bp.length*160<=140737488355328
 nm:e.aJ≠3->bx t e.ao=e.ao
def sX(m t:aqx (aqy×aqy))(e:au):Prop:=∀y∈cM e,OkN m t y
theorem sX.arg{m t:aqx (aqy×aqy)}{e x:au}(h:sX m t e)(hx:x∈e.bp):sX m t x:=λy hy=>h y (Gn hx hy)
theorem adB(N:Nat)(v1:au)(v6:aqy)(v4:aR)(v5:aqx bH)(rec:au->aqx (aqy×aqy)->aqx (aqy×aqy)->aqz au)(m t:aqx (aqy×aqy))(f:au->au)(l:aqx au):∀(k:Nat)(a:aqx au),(∀x∈l,rec x m t=some (f x))->(a.length+l.length)*160<=140737488355328->
 Fh N v1 v6 v4 v5 rec m t l k a=some ⟨v1.aJ,v6,v1.dM,v1.aO,v4,v5,a++l.map f⟩:=by
 induction l with
 |nil=>intro k a _ _;rw[Fh,List.map_nil,ap4]
 |cons x l ih=>
  intro k a h hb;rw[apM]at hb;have hc:Nat.ble ((a.length+1)*160) 140737488355328=true:=ft (by omega);have h2:=ih (k+1) (a++[f x]) (λy hy=>h y (apS _ hy)) (by rw[apK,apM,apV];omega);rw[ap0]at h2;rw[Fh,h x apP,apI,hc];exact h2
theorem aju(N:Nat)(v3:au)(v5:aqy)(v4:aR)(v6:aqx bH)(rec:dO->dO->au->aqz au)(m t:dO)(f:au->au)(l:aqx au):∀(k:Nat)(a:aqx au),(∀x∈l,rec m t x=some (f x))->(a.length+l.length)*160<=140737488355328->
 Cz N v3 v5 v4 v6 rec m t l k a=some ⟨v3.aJ,v5,v3.dM,v3.aO,v4,v6,a++l.map f⟩:=by
 induction l with
 |nil=>intro k a _ _;rw[Cz,List.map_nil,ap4]
 |cons x l ih=>
  intro k a h hb;rw[apM]at hb;have hc:Nat.ble ((a.length+1)*160) 140737488355328=true:=ft (by omega);have h2:=ih (k+1) (a++[f x]) (λy hy=>h y (apS _ hy)) (by rw[apK,apM,apV];omega);rw[ap0]at h2;rw[Cz,h x apP,apI,hc];exact h2
theorem Yk(N:Nat)(m t:aqx (aqy×aqy))(hE:bx t (bs [])=bs []):∀(d:Nat)(e:au),SizeOf.sizeOf e<d->sX m t e->qh N d e m t=some (dP (bx m) (bx t) e)
 |0,_,h,_=>absurd h (aqb _)
 |d+1,e,h,hk=>by
  have hn:=hk e apP;have nR:∀x∈e.bp,qh N d x m t=some (dP (bx m) (bx t) x):=λx hx=>Yk N m t hE d x (by have:=tK hx;omega) (hk.arg hx);have hL:=λv6=>adB N e v6 (dR m e.aS) (e.xIdx.map (vh m t)) (qh N d) m t (dP (bx m) (bx t)) e.bp 0 [] nR (by have:=hn.la;simpa using this);have hI:=aiJ N m t hE e.xIdx 0 [] hn.idx (by have:=hn.li;simpa using this);rw[List.nil_append]at hI;rw[qh,BU N m t e.aS hn.fi.1 hn.fi.2,apI];unfold Ql;rw[hI,apI,mI];cases h3:e.aJ==3with
  |true=>
   simp only[cond_true];rw[zo,apI];unfold C7;rw[hL];rfl
  |false=>
   simp only[cond_false];unfold C7;rw[hL,hn.nm (by simpa using h3)];rfl
theorem Zx(N:Nat)(F T A B:aqx aqy)(hT:T.length=F.length)(hB:B.length=A.length):∀(d:Nat)(e:au),SizeOf.sizeOf e<d->sX (F.zip T) (A.zip B) e->sK N d ⟨F,T⟩ ⟨A,B⟩ e=some (dP (bx (F.zip T)) (bx (A.zip B)) e)
 |0,_,h,_=>absurd h (aqb _)
 |d+1,e,h,hk=>by
  have hn:=hk e apP;have nR:∀x∈e.bp,sK N d ⟨F,T⟩ ⟨A,B⟩ x=some (dP (bx (F.zip T)) (bx (A.zip B)) x):=λx hx=>Zx N F T A B hT hB d x (by have:=tK hx;omega) (hk.arg hx);have hL:=aju N e (bx (A.zip B) e.ao) (dR (F.zip T) e.aS) (e.xIdx.map (vh (F.zip T) (A.zip B))) (sK N d) ⟨F,T⟩ ⟨A,B⟩ (dP (bx (F.zip T)) (bx (A.zip B))) e.bp 0 [] nR (by have:=hn.la;simpa using this);have hI:=akl N F T A B hT hB e.xIdx 0 [] hn.idx (by have:=hn.li;simpa using this);rw[List.nil_append]at hI;rw[sK,Fb N F T hT e.aS hn.fi.1 hn.fi.2,apI,vN N e.ao A B hB,apI];unfold Sf;rw[hI,apI,mI,hL];rfl
end Go.Proofs.YtmkmibahjanejaaGreatDoor
