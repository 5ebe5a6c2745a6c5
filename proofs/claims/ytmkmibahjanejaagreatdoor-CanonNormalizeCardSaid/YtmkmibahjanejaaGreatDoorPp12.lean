/-
  Part 12 of the proof: PQ4.
-/
import Derived.Test.YtmkmibahjanejaaGreatDoorPp11
namespace Go.Proofs.YtmkmibahjanejaaGreatDoor
open Go.RowKit
set_option maxRecDepth 100000
set_option maxHeartbeats 0
set_option linter.unusedVariables false
def HR:cW:=⟨[],[]⟩
def uZ(N:Nat)(v7:agK aR)(v8:agL)(v5:aR)(lR:(agK aR)->agM aI):agK aR->Nat->agM aI
 |[],v9=>
  bif (decide ((0:Int)<=(v9:Int)))then
  bif (decide (((v9:Int)).toNat<=v7.length))then
  bif (Nat.ble ((0+((v7.take ((v9:Int)).toNat).drop 0).length)*24) 140737488355328)then
  bif (Nat.ble ((((v7.take ((v9:Int)).toNat).drop 0).length+1)*24) 140737488355328)then
  bif (Nat.ble (((((v7.take ((v9:Int)).toNat).drop 0)++[(⟨v8,v5.cO⟩:aR)]).length+(v7.drop ((v9:Int)).toNat).length)*24) 140737488355328)then
  lR ((((v7.take ((v9:Int)).toNat).drop 0)++[(⟨v8,v5.cO⟩:aR)])++(v7.drop ((v9:Int)).toNat))
  else none
  else none
  else none
  else none
  else none
 |v11::v12,v9=>
  bif (Op.bytesLess (bL v11.ak) (bL v8))then
   (uZ N v7 v8 v5 lR v12 (v9+1))
  else
   bif (decide (((v9:Int)).toNat<=v7.length))then
   bif (Nat.ble ((0+((v7.take ((v9:Int)).toNat).drop 0).length)*24) 140737488355328)then
   bif (Nat.ble ((((v7.take ((v9:Int)).toNat).drop 0).length+1)*24) 140737488355328)then
   bif (Nat.ble (((((v7.take ((v9:Int)).toNat).drop 0)++[(⟨v8,v5.cO⟩:aR)]).length+(v7.drop ((v9:Int)).toNat).length)*24) 140737488355328)then
   lR ((((v7.take ((v9:Int)).toNat).drop 0)++[(⟨v8,v5.cO⟩:aR)])++(v7.drop ((v9:Int)).toNat))
   else none
   else none
   else none
   else none
def qA(N:Nat)(v2:aI)(v1:cW):agK aR->Nat->(agK aR)->agM aI
 |[],_,v7=>
  some (⟨v2.xK,v7⟩:aI)
 |v5::v6,v3,v7=>
  (lQ N v1 v5.ak).bind λv8=>
  uZ N v7 v8 v5 (λbV=>qA N v2 v1 v6 (v3+1) bV) v7 0
def qt(N:Nat)(v1:cW)(v2:aI):agM aI:=
 qA N v2 v1 v2.xL 0 []
theorem A7{N v1 v2}:KO 44 [(fO v1),(ca v2)] ca (qt N v1 v2):=
 fw Tryz.func44 (gA [[],[],[]] (li (λ_=>(kg 3 1 115 2 [] (.inr (by kernel_rfl)) ·)) (li (λ_=>(ab4 3 ·)) (gB ku 1 1 v2.xL λh2=>hJ 1 [] [2,3,4,5,6] 5 [] [(2,1)] (λv3(v7:(agK aR))=>⟨71,[(2,(.ptr 0 0)),(3,(.ptr 1 0)),(4,(.ptr 2 0)),(5,(.ptr 3 0)),(6,(an (v3:Int)))],[.cells (fO v1).cells, .cells (ca v2).cells, .cells LO, .cells [(cD v2.xK),(.d (.sl (cw v7)))], .front 115 2 0]⟩) (λv3 v7 h3 f1=>gR [[(10,oL v2.xL dO)],[f0 (aU h3)],[]]) (λv3 v5 v6 v7 h3 f1 aE=>aq λv8 h4=>gA [[(10,oL v2.xL dO)],[t0 (aV h3)],[(13,oE (iY (aL h3))),(22,cK qx h4),(34,oE (iY (aL h3)))],[]] (gB ku 3 1 v7 λh6=>ZG 2 [] [2,3,4,5,6,7,8] 6 [] [(2,1)] (λv9=>⟨71,[(2,(.ptr 0 0)),(3,(.ptr 1 0)),(4,(.ptr 2 0)),(5,(.ptr 3 0)),(6,(an (v3:Int))),(7,(.ptr 5 0)),(8,(an (v9:Int)))],[.cells (fO v1).cells, .cells (ca v2).cells, .cells LO, .cells [(cD v2.xK),(.d (.sl (cw v7)))], .front 115 2 0, .cells [(bu v8),(cD v5.cO)]]⟩) (λv9 h7 f2=>bq λh8=>bq λh9=>bq λbn=>bq λbo=>bq λa8=>gS aE ((((v7.take ((v9:Int)).toNat).drop 0)++[(⟨v8,v5.cO⟩:aR)])++(v7.drop ((v9:Int)).toNat)) [[(10,oL v7 dO),(18,bF (aU h7)),(21,bF (aU h7)),(24,bF (aU h7)),(27,bF (aU h7)),(30,bF (aU h7)),(33,bF (aU h7)),(36,bF (aU h7)),(39,bF (aU h7)),(42,bF (aU h7)),(46,bF (aU h7))],[f0 rfl],[],[(13,⟨_,_, .sub (xs:=cw v7) (lo:=0) (hi:=(v9:Int)) (by decide) (Nat.zero_le _) (of_decide_eq_true h8) (by rw[dO];exact(of_decide_eq_true h9)) rD S4⟩),(16,oZ ku ((v7.take ((v9:Int)).toNat).drop 0) bn)],[(10,oA ku ((v7.take ((v9:Int)).toNat).drop 0) ([(⟨v8,v5.cO⟩:aR)]) bo)],[(13,⟨_,_, .GL (xs:=cw v7) (lo:=(v9:Int)) (of_decide_eq_true h8) (by rw[dO];exact(of_decide_eq_true h9)) rD To⟩),(16,oA ku (((v7.take ((v9:Int)).toNat).drop 0)++[(⟨v8,v5.cO⟩:aR)]) (v7.drop ((v9:Int)).toNat) a8)],[(5,oq (bk h3 rfl h2))]] h3) (λv9 v11 v12 h7 f2 de=>gA [[(10,oL v7 dO),(18,bT (aV h7)),(21,bT (aV h7)),(24,bT (aV h7)),(27,bT (aV h7)),(28,oE (iY (aL h7))),(30,bT (aV h7)),(33,bT (aV h7)),(36,bT (aV h7)),(39,bT (aV h7)),(42,bT (aV h7)),(46,bT (aV h7))]] (au (λcn=>gS de () [[t0 cn],[(5,oq (bk h7 rfl h6))]] h7) λcn=>bq λcg=>bq λbG=>bq λcf=>bq λcP=>gS aE ((((v7.take ((v9:Int)).toNat).drop 0)++[(⟨v8,v5.cO⟩:aR)])++(v7.drop ((v9:Int)).toNat)) [[f0 cn],[],[(13,⟨_,_, .sub (xs:=cw v7) (lo:=0) (hi:=(v9:Int)) (by decide) (Nat.zero_le _) (of_decide_eq_true (agD (Int.natCast_nonneg _))) (by rw[dO];exact(of_decide_eq_true cg)) rD S4⟩),(16,oZ ku ((v7.take ((v9:Int)).toNat).drop 0) bG)],[(10,oA ku ((v7.take ((v9:Int)).toNat).drop 0) ([(⟨v8,v5.cO⟩:aR)]) cf)],[(13,⟨_,_, .GL (xs:=cw v7) (lo:=(v9:Int)) (of_decide_eq_true (agD (Int.natCast_nonneg _))) (by rw[dO];exact(of_decide_eq_true cg)) rD To⟩),(16,oA ku (((v7.take ((v9:Int)).toNat).drop 0)++[(⟨v8,v5.cO⟩:aR)]) (v7.drop ((v9:Int)).toNat) cP)],[(5,oq (bk h3 rfl h2))]] h3))))))))
def yn(N:Nat)(v1:cW):agK aI->Nat->(agK aI)->agM ((agK aI))
 |[],_,v7=>
  some v7
 |v5::v6,v3,v7=>
  (qt N v1 v5).bind λv8=>
  bif (Nat.ble ((v7.length+1)*32) 140737488355328)then
  (λbV=>yn N v1 v6 (v3+1) bV) (v7++[v8])
  else none
def yN(N:Nat)(v1:cW)(v2:agK aI):agM ((agK aI)):=
 yn N v1 v2 0 []
theorem Tv{N v1 v2}:KO 45 [(fO v1),(.d (.sl (cV v2)))] (λr=> .d (.sl (cV r))) (yN N v1 v2):=
 fw Tryz.func45 (gA [[],[],[]] (li (λ_=>(jw 5 52 2 [] (.inr (by kernel_rfl)) ·)) (gT j9 1 v2 λh2=>eY 1 [] [1,2,5,6] 2 (λv3(v7:agK aI)=>⟨23,[(1,(.d (.sl (cV v2)))),(2,(.ptr 0 0)),(5,(.own 1 (cV v7))),(6,(an (v3:Int)))],[.cells (fO v1).cells, .front 52 2 v7.length]⟩) (λv3 v7 h3 f1=>gR [[(7,oL v2 dC)],[f0 (aU h3)],[]]) (λv3 v5 v6 v7 h3 f1 aE=>aq λv8 h4=>bq λh5=>gb aE (v7++[v8]) [[(7,oL v2 dC)],[t0 (aV h3)],[(13,oE (kS (aL h3))),(19,cK A7 h4),(25,oA j9 v7 ([v8]) h5)],[(5,oq (bk h3 rfl h2))]] h3))))
def yx(N:Nat)(v1:cW):agK bH->Nat->(agK bH)->agM ((agK bH))
 |[],_,v7=>
  some v7
 |v5::v6,v3,v7=>
  (lQ N v1 v5.ak).bind λv8=>
  (qt N v1 v5.cU).bind λv9=>
  bif (Nat.ble ((v7.length+1)*48) 140737488355328)then
  (λbV=>yx N v1 v6 (v3+1) bV) (v7++[(⟨v8,v9⟩:bH)])
  else none
def zy(N:Nat)(v1:cW)(v2:agK bH):agM ((agK bH)):=
 yx N v1 v2 0 []
theorem PM{N v1 v2}:KO 47 [(fO v1),(.d (.sl (dD v2)))] (λr=> .d (.sl (dD r))) (zy N v1 v2):=
 fw Tryz.func47 (gA [[],[],[]] (li (λ_=>(jw 5 72 3 [] (.inr (by kernel_rfl)) ·)) (gT ji 1 v2 λh2=>eY 1 [] [1,2,5,6] 2 (λv3(v7:agK bH)=>⟨32,[(1,(.d (.sl (dD v2)))),(2,(.ptr 0 0)),(5,(.own 1 (dD v7))),(6,(an (v3:Int)))],[.cells (fO v1).cells, .front 72 3 v7.length]⟩) (λv3 v7 h3 f1=>gR [[(7,oL v2 dW)],[f0 (aU h3)],[]]) (λv3 v5 v6 v7 h3 f1 aE=>aq λv8 h4=>aq λv9 h5=>bq λh6=>gb aE (v7++[(⟨v8,v9⟩:bH)]) [[(7,oL v2 dW)],[t0 (aV h3)],[(13,oE (iX (aL h3))),(22,cK qx h4),(34,oE (iX (aL h3))),(43,cK A7 h5),(52,oA ji v7 ([(⟨v8,v9⟩:bH)]) h6)],[(5,oq (bk h3 rfl h2))]] h3))))
def xq(N:Nat)(v1:cW)(v2:cW):agK bl->Nat->(agK bl)->agM ((agK bl))
 |[],_,v8=>
  some v8
 |v6::v7,v4,v8=>
  (qt N v1 v6.aP).bind λv9=>
  (lQ N v2 v6.b7).bind λv10=>
  (yN N v1 v6.bK).bind λv11=>
  bif (Nat.ble ((v8.length+1)*72) 140737488355328)then
  (λbV=>xq N v1 v2 v7 (v4+1) bV) (v8++[(⟨v9,v10,v11⟩:bl)])
  else none
def KL(N:Nat)(v1:cW)(v2:cW)(v3:agK bl):agM ((agK bl)):=
 xq N v1 v2 v3 0 []
theorem Yp{N v1 v2 v3}:KO 99 [(fO v1),(fO v2),(.d (.sl (cE v3)))] (λr=> .d (.sl (cE r))) (KL N v1 v2 v3):=
 fw Tryz.func99 (gA [[],[],[]] (li (λ_=>(jw 7 111 4 [] (.inr (by kernel_rfl)) ·)) (gT jO 2 v3 λh2=>eY 1 [] [2,3,4,7,8] 3 (λv4(v8:agK bl)=>⟨41,[(2,(.d (.sl (cE v3)))),(3,(.ptr 0 0)),(4,(.ptr 1 0)),(7,(.own 2 (cE v8))),(8,(an (v4:Int)))],[.cells (fO v1).cells, .cells (fO v2).cells, .front 111 4 v8.length]⟩) (λv4 v8 h3 f1=>gR [[(7,oL v3 ee)],[f0 (aU h3)],[]]) (λv4 v6 v7 v8 h3 f1 aE=>aq λv9 h4=>aq λv10 h5=>aq λv11 h6=>bq λh7=>gb aE (v8++[(⟨v9,v10,v11⟩:bl)]) [[(7,oL v3 ee)],[t0 (aV h3)],[(13,oE (ff (aL h3))),(22,cK A7 h4),(34,oE (ff (aL h3))),(43,cK qx h5),(55,oE (ff (aL h3))),(64,cK Tv h6),(73,oA jO v8 ([(⟨v9,v10,v11⟩:bl)]) h7)],[(5,oq (bk h3 rfl h2))]] h3))))
def xo(N:Nat)(v3:ao)(v5:agL)(v4:aI)(v6:(agK bl))(Se:cW->cW->ao->agM ao)(v1:cW)(v2:cW):agK ao->Nat->(agK ao)->agM ao
 |[],_,v11=>
  some (⟨v3.aM,v5,v3.dL,v3.aH,v4,v6,v11⟩:ao)
 |v9::v10,v7,v11=>
  (Se v1 v2 v9).bind λv12=>
  bif (Nat.ble ((v11.length+1)*160) 140737488355328)then
  (λbV=>xo N v3 v5 v4 v6 Se v1 v2 v10 (v7+1) bV) (v11++[v12])
  else none
def pj(N:Nat):Nat->cW->cW->ao->agM ao
 |0,_,_,_=>none
 |d+1,v1,v2,v3=>
  (qt N v1 v3.aP).bind λv4=>
  (lQ N v2 v3.ak).bind λv5=>
  (KL N v1 v2 v3.xIdx).bind λv6=>
  xo N v3 v5 v4 v6 (pj N d) v1 v2 v3.ba 0 []
def LI(N:Nat)(v1:cW)(v2:cW)(v3:ao):agM ao:=pj N N v1 v2 v3
theorem Y4(N:Nat):∀d:Nat,(∀{v1:cW}{v2:cW}{v3:ao},KO 48 [(fO v1),(fO v2),(aO v3)] aO (pj N d v1 v2 v3)):=by
 intro d
 induction d with
 |zero=>intro v1 v2 v3 r hF;rw[pj]at hF;cases hF
 |succ d ih=>
  have acW:= @ih;intro v1 v2 v3;rw[pj];exact fw Tryz.func48 (aq λv4 h1=>aq λv5 h2=>aq λv6 h3=>gA [[],[],[(10,cK A7 h1)],[(10,cK qx h2)],[(13,cK Yp h3)],[],[]] (li (λ_=>(kg 4 12 67 13 [] (.inr (by kernel_rfl)) ·)) (gB jM 2 12 v3.ba λh5=>hJ 1 [] [3,4,5,6,7,8] 6 [] [(3,10),(3,11),(3,12)] (λv7(v11:(agK ao))=>⟨48,[(3,(.ptr 0 0)),(4,(.ptr 1 0)),(5,(.ptr 2 0)),(6,(.ptr 3 0)),(7,(.ptr 4 0)),(8,(an (v7:Int)))],[.cells (fO v1).cells, .cells (fO v2).cells, .cells (aO v3).cells, .cells Gg, .cells ((an v3.aM)::(bu v5)::Qe v3 [(cD v4.xK),(.d (.sl (cw v4.xL))),(.d (.sl (cE v6))),(.own 5 (et v11))]), .front 67 13 v11.length]⟩) (λv7 v11 h6 f1=>gR [[(10,oL v3.ba eX)],[(0,bF (aU h6))],[]]) (λv7 v9 v10 v11 h6 f1 aE=>aq λv12 h7=>bq λh8=>gS aE (v11++[v12]) [[(10,oL v3.ba eX)],[(0,bT (aV h6))],[(22,oE (j6 (aL h6))),(28,cK acW h7),(32,⟨_,_, .eq (congrArg J.full (nD [v12]).symm)⟩),(34,oA jM v11 ([v12]) h8)],[(5,oq (bk h6 rfl h5))]] h6))))
theorem YV{N v1 v2 v3}:KO 48 [(fO v1),(fO v2),(aO v3)] aO (LI N v1 v2 v3):=(Y4 N N)
def vl(N:Nat)(v20:agK agL)(v25:agK cC)(v30:agK ck)(v35:agK aT)(bI:cW):agK agL->Nat->(agK agL)->agM aB
 |[],_,v40=>
  some (⟨v20,v25,v30,v35,v40⟩:aB)
 |ql::v39,qK,v40=>
  (lQ N bI ql).bind λv41=>
  bif (Nat.ble ((v40.length+1)*16) 140737488355328)then
  (λHb=>vl N v20 v25 v30 v35 bI v39 (qK+1) Hb) (v40++[v41])
  else none
def vu(N:Nat)(v20:agK agL)(v25:agK cC)(v30:agK ck)(bI:cW)(v1:aB)(v3:cW)(v2:lI):agK aT->Nat->(agK aT)->agM aB
 |[],_,v35=>
  vl N v20 v25 v30 v35 bI v1.cd 0 []
 |v33::SF,v31,v35=>
  (A2 N v33).bind λko=>
  (p7 N v3 ko v2.kV).bind λpk=>
  (lQ N bI v33.ak).bind λv44=>
  (zy N pk v33.aK).bind λv45=>
  (zy N pk v33.bx).bind λv46=>
  (LI N pk bI v33.bY).bind λrV=>
  bif (Nat.ble ((v35.length+1)*272) 140737488355328)then
  (λHS=>vu N v20 v25 v30 bI v1 v3 v2 SF (v31+1) HS) (v35++[(⟨v44,v33.aH,v45,v46,v33.dd,rV⟩:aT)])
  else none
def uY(N:Nat)(v20:agK agL)(v25:agK cC)(bI:cW)(v1:aB)(v3:cW)(v2:lI):agK ck->Nat->(agK ck)->agM aB
 |[],_,v30=>
  vu N v20 v25 v30 bI v1 v3 v2 v1.aw 0 []
 |v28::zl,v26,v30=>
  (lQ N bI v28.ak).bind λqh=>
  (yN N v3 v28.aK).bind λv49=>
  bif (Nat.ble ((v30.length+1)*80) 140737488355328)then
  (λAT=>uY N v20 v25 bI v1 v3 v2 zl (v26+1) AT) (v30++[(⟨qh,v28.aH,v49⟩:ck)])
  else none
def vZ(N:Nat)(v20:agK agL)(bI:cW)(v1:aB)(v3:cW)(v2:lI):agK cC->Nat->(agK cC)->agM aB
 |[],_,v25=>
  uY N v20 v25 bI v1 v3 v2 v1.aC 0 []
 |v23::v24,v21,v25=>
  (qt N v3 v23.aP).bind λv50=>
  bif (Nat.ble ((v25.length+1)*40) 140737488355328)then
  (λmv=>vZ N v20 bI v1 v3 v2 v24 (v21+1) mv) (v25++[(⟨v50,v23.jA⟩:cC)])
  else none
def Bm(N:Nat)(bI:cW)(v1:aB)(v3:cW)(v2:lI):agK agL->Nat->(agK agL)->agM aB
 |[],_,v20=>
  vZ N v20 bI v1 v3 v2 v1.bX 0 []
 |c6::dT,cY,v20=>
  (lQ N v3 c6).bind λv51=>
  bif (Nat.ble ((v20.length+1)*16) 140737488355328)then
  (λmG=>Bm N bI v1 v3 v2 dT (cY+1) mG) (v20++[v51])
  else none
def pK(N:Nat)(v2:lI)(v8:agK agL)(v1:aB)(v3:cW):agK aT->Nat->(agK agL)->agM aB
 |[],_,bP=>
  (p7 N HR bP v2.aw).bind λcb=>
  (p7 N cb v8 v2.aC).bind λbI=>
  Bm N bI v1 v3 v2 v1.aD 0 []
 |v11::v12,v9,bP=>
  bif (Nat.ble ((bP.length+1)*16) 140737488355328)then
  (λig=>pK N v2 v8 v1 v3 v12 (v9+1) ig) (bP++[v11.ak])
  else none
def yb(N:Nat)(v2:lI)(v1:aB)(v3:cW):agK ck->Nat->(agK agL)->agM aB
 |[],_,v8=>
  pK N v2 v8 v1 v3 v1.aw 0 []
 |v6::v7,v4,v8=>
  bif (Nat.ble ((v8.length+1)*16) 140737488355328)then
  (λbV=>yb N v2 v1 v3 v7 (v4+1) bV) (v8++[v6.ak])
  else none
def AK(N:Nat)(v1:aB)(v2:lI):agM aB:=
 (p7 N HR v1.aD v2.aD).bind λv3=>
 yb N v2 v1 v3 v1.aC 0 []
def GA(v1:aB)(v2:lI)(v3:cW)(v8:agK agL)(l:agK aj):agK aj:= .cells (cH v1).cells:: .cells (SH v2).cells:: .cells Pu:: .cells (fO v3).cells:: .front 9 1 v8.length::l
def xQ(v1:aB)(v2:lI)(v3:cW)(v8:agK agL)(bP:agK agL)(bI:cW)(l:agK aj):agK aj:=GA v1 v2 v3 v8 (.front 9 1 bP.length:: .cells (fO bI).cells::l)
theorem YL{N v1 v2}:KO 14 [(cH v1),(SH v2)] cH (AK N v1 v2):=
 fw Tryz.func14 (aq λv3 h1=>gA [[],[(16,cK BT h1)],[],[]] (li (λ_=>(jw 6 9 1 [] (.inr (by kernel_rfl)) ·)) (gB lW 0 2 v1.aC λh3=>hJ 1 [] [2,3,4,5,6,7,8] 5 [7] [(2,0),(2,1),(2,2),(2,3),(2,4)] (λv4(v8:(agK agL))=>⟨206,[(2,(.ptr 0 0)),(3,(.ptr 1 0)),(4,(.ptr 2 0)),(5,(.ptr 3 0)),(6,(.own 4 (bD v8))),(7,(.d (.v (.slice none 0 0)))),(8,(an (v4:Int)))],(GA v1 v2 v3 v8 [])⟩) (λv4 v8 h4 f1=>gA [[(10,oL v1.aC gv)],[f0 (aU h4)],[]] (li (λ_=>(jw 7 9 1 [] (.inr (by kernel_rfl)) ·)) (gB lT 0 3 v1.aw λh6=>hJ 2 [] [2,3,4,5,6,7,9] 6 [] [(2,0),(2,1),(2,2),(2,3),(2,4)] (λv9(bP:(agK agL))=>⟨206,[(2,(.ptr 0 0)),(3,(.ptr 1 0)),(4,(.ptr 2 0)),(5,(.ptr 3 0)),(6,(.own 4 (bD v8))),(7,(.own 5 (bD bP))),(9,(an (v9:Int)))],(GA v1 v2 v3 v8 [.front 9 1 bP.length])⟩) (λv9 bP h7 f2=>aq λcb h8=>aq λbI h9=>gA [[(10,oL v1.aw fF)],[f0 (aU h7)],[(13,cK BT h8),(25,cK BT h9)],[],[]] (li (λ_=>(kg 7 0 9 1 [] (.inr (by kernel_rfl)) ·)) (gB dU 0 0 v1.aD λbo=>hJ 3 [] [2,3,4,5,10,11,12] 9 [] [(2,0),(2,1),(2,2),(2,3),(2,4),(7,1),(7,2),(7,3),(7,4)] (λcY(v20:(agK agL))=>⟨206,[(2,(.ptr 0 0)),(3,(.ptr 1 0)),(4,(.ptr 2 0)),(5,(.ptr 3 0)),(10,(.ptr 6 0)),(11,(.ptr 7 0)),(12,(an (cY:Int)))],(xQ v1 v2 v3 v8 bP bI [.cells [(.own 8 (bD v20)),(.d (.v (.slice none 0 0))),(.d (.v (.slice none 0 0))),(.d (.v (.slice none 0 0))),(.d (.v (.slice none 0 0)))], .front 9 1 v20.length])⟩) (λcY v20 a8 f3=>gA [[(10,oL v1.aD dI)],[f0 (aU a8)],[]] (li (λ_=>(kg 7 1 54 3 [] (.inr (by kernel_rfl)) ·)) (gB rB 0 1 v1.bX λcg=>hJ 4 [] [2,3,4,5,10,11,13] 10 [] [(2,0),(2,1),(2,2),(2,3),(2,4),(7,2),(7,3),(7,4)] (λv21(v25:(agK cC))=>⟨206,[(2,(.ptr 0 0)),(3,(.ptr 1 0)),(4,(.ptr 2 0)),(5,(.ptr 3 0)),(10,(.ptr 6 0)),(11,(.ptr 7 0)),(13,(an (v21:Int)))],(xQ v1 v2 v3 v8 bP bI [.cells [(.own 8 (bD v20)),(.own 9 (ft v25)),(.d (.v (.slice none 0 0))),(.d (.v (.slice none 0 0))),(.d (.v (.slice none 0 0)))], .front 9 1 v20.length, .front 54 3 v25.length])⟩) (λv21 v25 bG f4=>gA [[(10,oL v1.bX jr)],[f0 (aU bG)],[]] (li (λ_=>(kg 7 2 59 7 [] (.inr (by kernel_rfl)) ·)) (gB lW 0 2 v1.aC λcP=>hJ 5 [] [2,3,4,5,10,11,14] 11 [] [(2,0),(2,1),(2,2),(2,3),(2,4),(7,3),(7,4)] (λv26(v30:(agK ck))=>⟨206,[(2,(.ptr 0 0)),(3,(.ptr 1 0)),(4,(.ptr 2 0)),(5,(.ptr 3 0)),(10,(.ptr 6 0)),(11,(.ptr 7 0)),(14,(an (v26:Int)))],(xQ v1 v2 v3 v8 bP bI [.cells [(.own 8 (bD v20)),(.own 9 (ft v25)),(.own 10 (gq v30)),(.d (.v (.slice none 0 0))),(.d (.v (.slice none 0 0)))], .front 9 1 v20.length, .front 54 3 v25.length, .front 59 7 v30.length])⟩) (λv26 v30 fc f5=>gA [[(10,oL v1.aC gv)],[f0 (aU fc)],[]] (li (λ_=>(kg 7 3 69 22 [] (.inr (by kernel_rfl)) ·)) (gB lT 0 3 v1.aw λdu=>hJ 6 [] [2,3,4,5,10,11,16] 12 [] [(2,0),(2,1),(2,2),(2,3),(2,4),(7,4)] (λv31(v35:(agK aT))=>⟨206,[(2,(.ptr 0 0)),(3,(.ptr 1 0)),(4,(.ptr 2 0)),(5,(.ptr 3 0)),(10,(.ptr 6 0)),(11,(.ptr 7 0)),(16,(an (v31:Int)))],(xQ v1 v2 v3 v8 bP bI [.cells [(.own 8 (bD v20)),(.own 9 (ft v25)),(.own 10 (gq v30)),(.own 11 (eI v35)),(.d (.v (.slice none 0 0)))], .front 9 1 v20.length, .front 54 3 v25.length, .front 59 7 v30.length, .front 69 22 v35.length])⟩) (λv31 v35 eK f6=>gA [[(10,oL v1.aw fF)],[f0 (aU eK)],[]] (li (λ_=>(kg 7 4 9 1 [] (.inr (by kernel_rfl)) ·)) (gB dU 0 4 v1.cd λeM=>hJ 7 [] [2,4,10,11,19] 13 [] [(2,0),(2,1),(2,2),(2,3),(2,4)] (λqK(v40:(agK agL))=>⟨206,[(2,(.ptr 0 0)),(4,(.ptr 2 0)),(10,(.ptr 6 0)),(11,(.ptr 7 0)),(19,(an (qK:Int)))],(xQ v1 v2 v3 v8 bP bI [.cells [(.own 8 (bD v20)),(.own 9 (ft v25)),(.own 10 (gq v30)),(.own 11 (eI v35)),(.own 12 (bD v40))], .front 9 1 v20.length, .front 54 3 v25.length, .front 59 7 v30.length, .front 69 22 v35.length, .front 9 1 v40.length])⟩) (λqK v40 ie f7=>gR [[(10,oL v1.cd dI)],[f0 (aU ie)],[]]) (λqK ql v39 v40 ie f7 Lp=>aq λv41 jB=>bq λib=>gS Lp (v40++[v41]) [[(10,oL v1.cd dI)],[t0 (aV ie)],[(19,oE (ia (aL ie))),(25,cK qx jB),(31,oA dU v40 ([v41]) ib)],[(5,oq (bk ie rfl eM))]] ie)))) (λv31 v33 SF v35 eK f6 Ln=>aq λko jZ=>aq λpk nc=>aq λv44 ph=>aq λv45 sA=>aq λv46 yG=>aq λrV KR=>bq λLa=>gS Ln (v35++[(⟨v44,v33.aH,v45,v46,v33.dd,rV⟩:aT)]) [[(10,oL v1.aw fF)],[t0 (aV eK)],[(10,oE (iA (aL eK)))],[(7,cK Q6 jZ),(16,cK BT nc)],[(16,cK qx ph),(34,cK PM sA),(46,cK PM yG),(67,cK YV KR),(76,oA lT v35 ([(⟨v44,v33.aH,v45,v46,v33.dd,rV⟩:aT)]) La)],[(5,oq (bk eK rfl du))]] eK)))) (λv26 v28 zl v30 fc f5 xz=>aq λqh G8=>aq λv49 GN=>bq λGY=>gS xz (v30++[(⟨qh,v28.aH,v49⟩:ck)]) [[(10,oL v1.aC gv)],[t0 (aV fc)],[(10,oE (iz (aL fc)))],[(16,cK qx G8),(34,cK Tv GN),(43,oA lW v30 ([(⟨qh,v28.aH,v49⟩:ck)]) GY)],[(5,oq (bk fc rfl cP))]] fc)))) (λv21 v23 v24 v25 bG f4 jV=>aq λv50 Ii=>bq λLj=>gS jV (v25++[(⟨v50,v23.jA⟩:cC)]) [[(10,oL v1.bX jr)],[t0 (aV bG)],[(19,oE (qR (aL bG))),(28,cK A7 Ii),(40,oE (qR (aL bG))),(55,oA rB v25 ([(⟨v50,v23.jA⟩:cC)]) Lj)],[(5,oq (bk bG rfl cg))]] bG)))) (λcY c6 dT v20 a8 f3 iV=>aq λv51 Jd=>bq λLr=>gS iV (v20++[v51]) [[(10,oL v1.aD dI)],[t0 (aV a8)],[(19,oE (ia (aL a8))),(25,cK qx Jd),(31,oA dU v20 ([v51]) Lr)],[(5,oq (bk a8 rfl bo))]] a8)))) (λv9 v11 v12 bP h7 f2 de=>bq λTM=>gS de (bP++[v11.ak]) [[(10,oL v1.aw fF)],[t0 (aV h7)],[(13,oE (iA (aL h7))),(25,oA dU bP ([v11.ak]) TM)],[(5,oq (bk h7 rfl h6))]] h7)))) (λv4 v6 v7 v8 h4 f1 aE=>bq λVF=>gS aE (v8++[v6.ak]) [[(10,oL v1.aC gv)],[t0 (aV h4)],[(13,oE (iz (aL h4))),(25,oA dU v8 ([v6.ak]) VF)],[(5,oq (bk h4 rfl h3))]] h4))))
def Jk(N:Nat)(v1:aB):agM (aB×Int):=
 (wv N v1).bind λv2=>
 bif (v2.2 !=0)then
  some (Ic,v2.2)
 else
  Option.bind (AK N v1 (⟨(bs [115]),(bs [112]),(bs [100]),(bs [105])⟩:lI)) λv3=>
  some (v3,(0:Int))
theorem WG{N v1}:KO 9 [(cH v1)] (λr=> .bp [(cH r.1),(an r.2)]) (Jk N v1):=
 fw Tryz.func9 (aq λv2 h1=>gA [[],[(4,cK acD h1)],[]] (bJ λh2=>aq λv3 h3=>gR [[f0 h2],[(7,cK YL h3)]]))
def Lv(N:Nat)(v1:aB):agM Bool:=
 Option.bind (yE N v1 (300:Int)) λv2=>
 bif v2 then
  (yD N).bind λv3=>
  some v3
 else
  (EW N v1).bind λv4=>
  (Jk N v1).bind λv5=>
  (zB N v4.1 v5.1).bind λv6=>
  Option.bind (bif v6 then(bif (v4.2==v5.2)then (yD N).bind λv7=>
  some v7 else some false)else some false) λv8=>
  some v8
theorem ae8{N v1}:KO 3 [(cH v1)] aJ (Lv N v1):=
 fw Tryz.func3 (aq λv2 h1=>gA [[],[(4,cK X1 h1)]] (au (λh2=>aq λv3 h3=>gR [[t0 h2],[(1,cK Tr h3)]]) λh2=>aq λv4 h4=>aq λv5 h5=>gA [[f0 h2],[(4,cK SD h4)],[(4,cK WG h5)]] (aq λv6 h6=>gG (λv8=>[(2,(aJ v8))]) (λ_=>[.cells (cH v1).cells, .cells (cH v4.1).cells, .cells (cH v5.1).cells]) (bS (7,cK MY h6) (au (λh7=>bt (3,bT h7) (au (λh8=>aq λv7 h9=>gE [(8,bT h8)] [(28,cK Tr h9)]) λh8=>gE [(8,bF h8)] [])) λh7=>gE [(3,bF h7),(8,bF rfl)] [])) λv8=>gR [])))
end Go.Proofs.YtmkmibahjanejaaGreatDoor
