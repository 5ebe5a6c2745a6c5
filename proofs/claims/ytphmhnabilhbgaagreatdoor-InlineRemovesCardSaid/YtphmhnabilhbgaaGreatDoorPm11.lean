/-
  Part 11 of the proof: PQ5.
-/
import Derived.Test.YtphmhnabilhbgaaGreatDoorPm10
namespace Go.Proofs.YtphmhnabilhbgaaGreatDoor
open Go.RowKit
set_option maxRecDepth 100000
set_option maxHeartbeats 0
set_option linter.unusedVariables false
def pw:aY:=⟨[],[],[],[],[]⟩
def l9(N:Nat)(v4:(agU agV)×(agU cv)×(agU bN)×Nat×(agU agV)×(agU aG))(v6:aG)(v2:agV)(v5:Int):Nat→Int→(agU aG)→agW (aY×Int)
 |0,_,_=>none
 |v7+1,v8,v9=>
  bif (decide (v8<(v4.2.2.2.1:Int)))then
   bif (Nat.beq v9.length v4.2.2.2.1)then
   bif (decide ((0:Int)≤v8))then
   Option.bind (v9[(v8).toNat]?) fun v10=>
   Option.bind (EJ N v10.bq v6) fun v11=>
   bif (v11.2 !=(0:Int))then
    some (pw,v11.2)
   else
    (fun bE dP=>l9 N v4 v6 v2 v5 v7 bE dP) (a8 (v8+(1:Int))) (v9.set ((v8).toNat) (⟨v10.aq,v10.aC,v10.aS,v10.bI,v10.cG,v11.1⟩:aG))
   else none
   else none
  else
   Option.bind (qD N v4.2.2.2.2.1 v2) fun v12=>
   bif v12 then
    bif (Nat.beq v9.length v4.2.2.2.1)then
    Option.bind (se N (⟨v4.1,v4.2.1,v4.2.2.1,v9,v4.2.2.2.2.1⟩:aY)) fun aH=>
    bif (aH.2 !=(0:Int))then
     some (pw,aH.2)
    else
     Option.bind (sK N (⟨v4.1,v4.2.1,v4.2.2.1,v9,v4.2.2.2.2.1⟩:aY)) fun aA=>
     bif (Nat.beq aA.2.2.2.2.2.length aA.2.2.2.1)then
     some ((⟨aA.1,aA.2.1,aA.2.2.1,aA.2.2.2.2.2,aA.2.2.2.2.1⟩:aY),(0:Int))
     else none
    else none
   else
    Option.bind (Dx N v9 v5 v4.2.2.2.1) fun aT=>
    bif (Nat.beq (aT.length+1) v4.2.2.2.1)then
    bif (Nat.beq aT.length (v4.2.2.2.1-1))then
    Option.bind (se N (⟨v4.1,v4.2.1,v4.2.2.1,aT,v4.2.2.2.2.1⟩:aY)) fun aX=>
    bif (aX.2 !=(0:Int))then
     some (pw,aX.2)
    else
     Option.bind (sK N (⟨v4.1,v4.2.1,v4.2.2.1,aT,v4.2.2.2.2.1⟩:aY)) fun aK=>
     bif (Nat.beq aK.2.2.2.2.2.length aK.2.2.2.1)then
     some ((⟨aK.1,aK.2.1,aK.2.2.1,aK.2.2.2.2.2,aK.2.2.2.2.1⟩:aY),(0:Int))
     else none
    else none
    else none
def p6(N:Nat)(v1:aY)(v2:agV):agW (aY×Int):=
 Option.bind (rJ N v1 v2) fun v3=>
 bif (v3 !=(0:Int))then
  some (pw,v3)
 else
  Option.bind (sK N v1) fun v4=>
  Option.bind (BM N v4.1 v4.2.1 v4.2.2.1 v4.2.2.2.1 v4.2.2.2.2.1 v2 v4.2.2.2.2.2) fun v5=>
  bif (Nat.beq v4.2.2.2.2.2.length v4.2.2.2.1)then
  bif (decide ((0:Int)≤v5))then
  bif (decide (v5<(v4.2.2.2.1:Int)))then
  Option.bind (v4.2.2.2.2.2[(v5).toNat]?) fun v6=>
  l9 N v4 v6 v2 v5 N (0:Int) v4.2.2.2.2.2
  else none
  else none
  else none
theorem HV(N:Nat)(v1:aY)(v2:agV)(r:aY×Int)(J:p6 N v1 v2=some r):bA Tryz.prog 8 [(aZ v1),(bp v2)] (·=(.bU [(aZ r.1),(ao r.2)])):=by
 rw[p6]at J;refine pk Tryz.func8 rfl (by kernel_rfl) ?_;refine gk [0,1] 0 (agh _) (s':=⟨83,[(0,(aZ v1)),(1,(bp v2))],[]⟩) (by kernel_rfl) ?_;refine aP ?_;refine rg [] [(2,(.ptr 0 0)),(4,(.ptr 1 0))] [.cells (aZ v1).cells, .cells di] (by kernel_rfl) ?_;refine aP ?_;refine aP ?_;obtain⟨v3,h1,J⟩:=au J;refine rg [(7,cL (aaB N v1 v2 v3 h1))] [(6,(ao v3))] [.cells (aZ v1).cells, .cells di] (by kernel_rfl) ?_;refine aP ?_;refine rg [] [(19,(aU (v3 !=(0:Int))))] [.cells (aZ v1).cells, .cells di] (by kernel_rfl) ?_;rcases fS (v3 !=(0:Int))with h2|h2
 ·replace J:=(dM h2).symm.trans J;refine fy (t:=(v3 !=(0:Int))) (by kernel_rfl) h2 ?_;refine aP ?_;refine rg [] [(5,(ao v3))] [.cells (aZ v1).cells, .cells di] (by kernel_rfl) ?_;refine dD (dW ?_);have hr:=agp J;subst hr;exact fJ (by kernel_rfl)
 replace J:=(fP h2).symm.trans J;refine fp (t:=(v3 !=(0:Int))) (by kernel_rfl) h2 ?_;refine eo ?_;refine bX ?_;refine aP ?_;obtain⟨v4,h3,J⟩:=au J;refine rg [(4,⟨_,_, .lT ij (oS (xn (oS (qK (qK (lv (xs:=(v4.2.2.2.2.2.map b6)) ij)))))) (cb:=[(aZ v1)]) (h:=[.cells (aZ v1).cells, .cells di]) (l:=[]) (by kernel_rfl) (by kernel_rfl) (by kernel_rfl) (by kernel_rfl) (DN N v1 v4 h3)⟩)] [(7,(.ptr 8 0))] [.cells (aZ v1).cells, .cells di, .gone, .cells [(.d (.sl (aB v4.1))),(.own 5 (bw v4.2.1)),(.own 6 (bx v4.2.2.1)),(.vec 7 0 v4.2.2.2.1 v4.2.2.2.1 22),(.d (.sl (aB v4.2.2.2.2.1)))], .gone, .front 57 3 v4.2.1.length, .front 60 7 v4.2.2.1.length, .vec 54 22 (aI (v4.2.2.2.2.2.map b6)), .cells [(.d (.sl (aB v4.1))),(.own 5 (bw v4.2.1)),(.own 6 (bx v4.2.2.1)),(.vec 7 0 v4.2.2.2.1 v4.2.2.2.1 22),(.d (.sl (aB v4.2.2.2.2.1)))]] (by kernel_rfl) ?_;refine aP ?_;obtain⟨v5,h4,J⟩:=au J;refine rg [(7,⟨_,_, .lT (lv (xs:=(v4.2.2.2.2.2.map b6)) ij) (lv (xs:=(v4.2.2.2.2.2.map b6)) ij) (cb:=[(.agg [(.d (.sl (aB v4.1))),(.d (.sl (bw v4.2.1))),(.d (.sl (bx v4.2.2.1))),(.vec 7 0 v4.2.2.2.1 v4.2.2.2.1 22),(.d (.sl (aB v4.2.2.2.2.1)))]),(bp v2)]) (h:=[.cells (aZ v1).cells, .cells di, .gone, .cells [(.d (.sl (aB v4.1))),(.own 5 (bw v4.2.1)),(.own 6 (bx v4.2.2.1)),(.vec 7 0 v4.2.2.2.1 v4.2.2.2.1 22),(.d (.sl (aB v4.2.2.2.2.1)))], .gone, .front 57 3 v4.2.1.length, .front 60 7 v4.2.2.1.length, .vec 54 22 (aI (v4.2.2.2.2.2.map b6)), .cells [(.d (.sl (aB v4.1))),(.own 5 (bw v4.2.1)),(.own 6 (bx v4.2.2.1)),(.vec 7 0 v4.2.2.2.1 v4.2.2.2.1 22),(.d (.sl (aB v4.2.2.2.2.1)))]]) (l:=[7]) (by kernel_rfl) (by kernel_rfl) (by kernel_rfl) (by kernel_rfl) (aev N v4.1 v4.2.1 v4.2.2.1 v4.2.2.2.1 v4.2.2.2.2.1 v2 v4.2.2.2.2.2 v5 h4)⟩)] [(8,(ao v5))] [.cells (aZ v1).cells, .cells di, .gone, .cells [(.d (.sl (aB v4.1))),(.own 5 (bw v4.2.1)),(.own 6 (bx v4.2.2.1)),(.vec 7 0 v4.2.2.2.1 v4.2.2.2.1 22),(.d (.sl (aB v4.2.2.2.2.1)))], .gone, .front 57 3 v4.2.1.length, .front 60 7 v4.2.2.1.length, .vec 54 22 (aI (v4.2.2.2.2.2.map b6)), .cells [(.d (.sl (aB v4.1))),(.own 5 (bw v4.2.1)),(.own 6 (bx v4.2.2.1)),(.vec 7 0 v4.2.2.2.1 v4.2.2.2.1 22),(.d (.sl (aB v4.2.2.2.2.1)))]] (by kernel_rfl) ?_
 refine aP ?_;have h5:=iu J;replace J:=(dM h5).symm.trans J;have h6:=iu J;replace J:=(dM h6).symm.trans J;have h7:=iu J;replace J:=(dM h7).symm.trans J;obtain⟨v6,h8,J⟩:=au J;refine rg [(10,⟨_,_, .pr (.ix ((v5).toNat)) (oV (jQ (f:=b6) (agk h5)) (of_decide_eq_true h6) (of_decide_eq_true h7) rfl)⟩),(13,⟨_,_, .pr (.el ((b6 v6).map AV.d)) (KE (f:=b6) (agk h5) h8)⟩)] [(9,(.ptr 9 0))] [.cells (aZ v1).cells, .cells di, .gone, .cells [(.d (.sl (aB v4.1))),(.own 5 (bw v4.2.1)),(.own 6 (bx v4.2.2.1)),(.vec 7 0 v4.2.2.2.1 v4.2.2.2.1 22),(.d (.sl (aB v4.2.2.2.2.1)))], .gone, .front 57 3 v4.2.1.length, .front 60 7 v4.2.2.1.length, .vec 54 22 (aI (v4.2.2.2.2.2.map b6)), .cells [(.d (.sl (aB v4.1))),(.own 5 (bw v4.2.1)),(.own 6 (bx v4.2.2.1)),(.vec 7 0 v4.2.2.2.1 v4.2.2.2.1 22),(.d (.sl (aB v4.2.2.2.2.1)))], .cells (cp v6).cells] (by kernel_rfl) ?_;refine aP ?_;refine aP ?_;refine rg [(7,⟨_,_, .pr .no (jQ (f:=b6) (agk h5))⟩)] [(34,(ao (v4.2.2.2.1:Int))),(35,(ao (0:Int)))] [.cells (aZ v1).cells, .cells di, .gone, .cells [(.d (.sl (aB v4.1))),(.own 5 (bw v4.2.1)),(.own 6 (bx v4.2.2.1)),(.vec 7 0 v4.2.2.2.1 v4.2.2.2.1 22),(.d (.sl (aB v4.2.2.2.2.1)))], .gone, .front 57 3 v4.2.1.length, .front 60 7 v4.2.2.1.length, .vec 54 22 (aI (v4.2.2.2.2.2.map b6)), .cells [(.d (.sl (aB v4.1))),(.own 5 (bw v4.2.1)),(.own 6 (bx v4.2.2.1)),(.vec 7 0 v4.2.2.2.1 v4.2.2.2.1 22),(.d (.sl (aB v4.2.2.2.2.1)))], .cells (cp v6).cells] (by kernel_rfl) ?_
 refine fi ?_;refine vp [1,4,7,8,9,34,35] 10 [] [(1,0),(1,1),(1,2),(1,3),(1,4)] (fun((v7,v8,v9):Nat×Int×(agU aG))=>⟨83,[(1,(bp v2)),(4,(.ptr 1 0)),(7,(.ptr 8 0)),(8,(ao v5)),(9,(.ptr 9 0)),(34,(ao (v4.2.2.2.1:Int))),(35,(ao v8))],[.cells (aZ v1).cells, .cells di, .gone, .cells [(.d (.sl (aB v4.1))),(.own 5 (bw v4.2.1)),(.own 6 (bx v4.2.2.1)),(.vec 7 0 v4.2.2.2.1 v4.2.2.2.1 22),(.d (.sl (aB v4.2.2.2.2.1)))], .gone, .front 57 3 v4.2.1.length, .front 60 7 v4.2.2.1.length, .vec 54 22 (aI (v9.map b6)), .cells [(.d (.sl (aB v4.1))),(.own 5 (bw v4.2.1)),(.own 6 (bx v4.2.2.1)),(.vec 7 0 v4.2.2.2.1 v4.2.2.2.1 22),(.d (.sl (aB v4.2.2.2.2.1)))], .cells (cp v6).cells]⟩) (fun((v7,v8,v9):Nat×Int×(agU aG))=>l9 N v4 v6 v2 v5 v7 v8 v9=some r) (fun((v7,v8,v9):Nat×Int×(agU aG))=>v7) (N,(0:Int),v4.2.2.2.2.2) (agd rfl) ⟨(cw trivial (cw trivial (cw trivial (cw trivial (cw trivial (cw trivial (cw trivial (gp (xs:=(v4.2.2.2.2.2.map b6)) (cw trivial (cw trivial fj)))))))))),by kernel_rfl⟩ J ?_;rintro⟨v7,v8,v9⟩ J
 try dsimp only at J
 cases v7 with
 |zero=>
  rw[l9]at J;cases J
 |succ v7=>
  rw[l9]at J;refine aP ?_;refine rg [] [(36,(aU (decide (v8<(v4.2.2.2.1:Int)))))] [.cells (aZ v1).cells, .cells di, .gone, .cells [(.d (.sl (aB v4.1))),(.own 5 (bw v4.2.1)),(.own 6 (bx v4.2.2.1)),(.vec 7 0 v4.2.2.2.1 v4.2.2.2.1 22),(.d (.sl (aB v4.2.2.2.2.1)))], .gone, .front 57 3 v4.2.1.length, .front 60 7 v4.2.2.1.length, .vec 54 22 (aI (v9.map b6)), .cells [(.d (.sl (aB v4.1))),(.own 5 (bw v4.2.1)),(.own 6 (bx v4.2.2.1)),(.vec 7 0 v4.2.2.2.1 v4.2.2.2.1 22),(.d (.sl (aB v4.2.2.2.2.1)))], .cells (cp v6).cells] (by kernel_rfl) ?_;refine aP ?_;rcases fS (decide (v8<(v4.2.2.2.1:Int)))with h9|h9
  ·replace J:=(dM h9).symm.trans J;refine fy (t:=(decide (v8<(v4.2.2.2.1:Int)))) (by kernel_rfl) h9 ?_;refine eo ?_;refine bX ?_;refine aP ?_;refine fi ?_;refine aP ?_;refine rg [] [(10,(ao v8))] [.cells (aZ v1).cells, .cells di, .gone, .cells [(.d (.sl (aB v4.1))),(.own 5 (bw v4.2.1)),(.own 6 (bx v4.2.2.1)),(.vec 7 0 v4.2.2.2.1 v4.2.2.2.1 22),(.d (.sl (aB v4.2.2.2.2.1)))], .gone, .front 57 3 v4.2.1.length, .front 60 7 v4.2.2.1.length, .vec 54 22 (aI (v9.map b6)), .cells [(.d (.sl (aB v4.1))),(.own 5 (bw v4.2.1)),(.own 6 (bx v4.2.2.1)),(.vec 7 0 v4.2.2.2.1 v4.2.2.2.1 22),(.d (.sl (aB v4.2.2.2.2.1)))], .cells (cp v6).cells] (by kernel_rfl) ?_;refine aP ?_;have aJ:=iu J;replace J:=(dM aJ).symm.trans J;have bQ:=iu J;replace J:=(dM bQ).symm.trans J;obtain⟨v10,cl,J⟩:=au J;obtain⟨v11,dg,J⟩:=au J;refine rd ak (by kernel_rfl) [(10,⟨_,_, .pr (.ix ((v8).toNat)) (oV (jQ (f:=b6) (agk aJ)) (of_decide_eq_true bQ) (of_decide_eq_true h9) rfl)⟩),(13,⟨_,_, .pr .no trivial⟩),(16,⟨_,_, .pr (.el ((b6 v10).map AV.d)) (KE (f:=b6) (agk aJ) cl)⟩),(22,cL (abD N v10.bq v6 v11 dg))] [(11,(.ptr 10 0)),(12,(ao v11.2))] [.cells (aZ v1).cells, .cells di, .gone, .cells [(.d (.sl (aB v4.1))),(.own 5 (bw v4.2.1)),(.own 6 (bx v4.2.2.1)),(.vec 7 0 v4.2.2.2.1 v4.2.2.2.1 22),(.d (.sl (aB v4.2.2.2.2.1)))], .gone, .front 57 3 v4.2.1.length, .front 60 7 v4.2.2.1.length, .vec 54 22 (aI (v9.map b6)), .cells [(.d (.sl (aB v4.1))),(.own 5 (bw v4.2.1)),(.own 6 (bx v4.2.2.1)),(.vec 7 0 v4.2.2.2.1 v4.2.2.2.1 22),(.d (.sl (aB v4.2.2.2.2.1)))], .cells (cp v6).cells, .cells (aD v11.1).cells] (by kernel_rfl) ?_
   refine aP ?_;refine aP ?_;refine rg [] [(50,(aU (v11.2 !=(0:Int))))] [.cells (aZ v1).cells, .cells di, .gone, .cells [(.d (.sl (aB v4.1))),(.own 5 (bw v4.2.1)),(.own 6 (bx v4.2.2.1)),(.vec 7 0 v4.2.2.2.1 v4.2.2.2.1 22),(.d (.sl (aB v4.2.2.2.2.1)))], .gone, .front 57 3 v4.2.1.length, .front 60 7 v4.2.2.1.length, .vec 54 22 (aI (v9.map b6)), .cells [(.d (.sl (aB v4.1))),(.own 5 (bw v4.2.1)),(.own 6 (bx v4.2.2.1)),(.vec 7 0 v4.2.2.2.1 v4.2.2.2.1 22),(.d (.sl (aB v4.2.2.2.2.1)))], .cells (cp v6).cells, .cells (aD v11.1).cells] (by kernel_rfl) ?_;rcases fS (v11.2 !=(0:Int))with cg|cg
   ·replace J:=(dM cg).symm.trans J;refine fy (t:=(v11.2 !=(0:Int))) (by kernel_rfl) cg ?_;refine aP ?_;refine rg [] [(5,(ao v11.2))] [.cells (aZ v1).cells, .cells di, .gone, .cells [(.d (.sl (aB v4.1))),(.own 5 (bw v4.2.1)),(.own 6 (bx v4.2.2.1)),(.vec 7 0 v4.2.2.2.1 v4.2.2.2.1 22),(.d (.sl (aB v4.2.2.2.2.1)))], .gone, .front 57 3 v4.2.1.length, .front 60 7 v4.2.2.1.length, .vec 54 22 (aI (v9.map b6)), .cells [(.d (.sl (aB v4.1))),(.own 5 (bw v4.2.1)),(.own 6 (bx v4.2.2.1)),(.vec 7 0 v4.2.2.2.1 v4.2.2.2.1 22),(.d (.sl (aB v4.2.2.2.2.1)))], .cells (cp v6).cells, .cells (aD v11.1).cells] (by kernel_rfl) ?_;refine dD (dW (ff (dW (dW (ff (dW ?_))))));have hr:=agp J;subst hr;exact fJ (by kernel_rfl)
   replace J:=(fP cg).symm.trans J;refine fp (t:=(v11.2 !=(0:Int))) (by kernel_rfl) cg ?_;refine eo ?_;refine bX ?_;refine re [(13,⟨_,_, .pr (.ix ((v8).toNat)) (oV (jQ (f:=b6) (agk aJ)) (of_decide_eq_true bQ) (of_decide_eq_true h9) rfl)⟩),(16,⟨_,_, .pr .no trivial⟩),(19,⟨_,_, .pr (.st ((b6 v10).map AV.d) (aI ((v9.set ((v8).toNat) (⟨v10.aq,v10.aC,v10.aS,v10.bI,v10.cG,v11.1⟩:aG)).map b6))) (Ep (f:=b6) (j:=9) (y:=(⟨v10.aq,v10.aC,v10.aS,v10.bI,v10.cG,v11.1⟩:aG)) (zs:=[(ao v11.1.aQ),(bp v11.1.aq),(bt v11.1.dm.xN),(bt v11.1.dm.xD),(ao v11.1.aC.bW),(ao v11.1.aC.ca),(ao v11.1.aC.cF),(ao v11.1.aC.cE),(ao v11.1.aC.cJ),(bt v11.1.aL.xK),(.d (.sl (bJ v11.1.aL.xL))),(.d (.sl (bC v11.1.xIdx))),(.d (.sl (cQ v11.1.a7)))]) (agk aJ) cl rfl)⟩)] [(58,(.de 7 ((v8).toNat) 9 v4.2.2.2.1 22)),(57,(.de 7 ((v8).toNat) 0 v4.2.2.2.1 22)),(56,(aD v11.1)),(55,(ao v8)),(54,(.vec 7 0 v4.2.2.2.1 v4.2.2.2.1 22)),(53,(.ptr 8 3))] [.cells (aZ v1).cells, .cells di, .gone, .cells [(.d (.sl (aB v4.1))),(.own 5 (bw v4.2.1)),(.own 6 (bx v4.2.2.1)),(.vec 7 0 v4.2.2.2.1 v4.2.2.2.1 22),(.d (.sl (aB v4.2.2.2.2.1)))], .gone, .front 57 3 v4.2.1.length, .front 60 7 v4.2.2.1.length, .vec 54 22 (aI ((v9.set ((v8).toNat) (⟨v10.aq,v10.aC,v10.aS,v10.bI,v10.cG,v11.1⟩:aG)).map b6)), .cells [(.d (.sl (aB v4.1))),(.own 5 (bw v4.2.1)),(.own 6 (bx v4.2.2.1)),(.vec 7 0 v4.2.2.2.1 v4.2.2.2.1 22),(.d (.sl (aB v4.2.2.2.2.1)))], .cells (cp v6).cells, .cells (aD v11.1).cells] (by kernel_rfl) ?_
   refine ie ?_;refine bX ?_;refine re [] [(35,(ao (a8 (v8+(1:Int))))),(59,(ao (a8 (v8+(1:Int)))))] [.cells (aZ v1).cells, .cells di, .gone, .cells [(.d (.sl (aB v4.1))),(.own 5 (bw v4.2.1)),(.own 6 (bx v4.2.2.1)),(.vec 7 0 v4.2.2.2.1 v4.2.2.2.1 22),(.d (.sl (aB v4.2.2.2.2.1)))], .gone, .front 57 3 v4.2.1.length, .front 60 7 v4.2.2.1.length, .vec 54 22 (aI ((v9.set ((v8).toNat) (⟨v10.aq,v10.aC,v10.aS,v10.bI,v10.cG,v11.1⟩:aG)).map b6)), .cells [(.d (.sl (aB v4.1))),(.own 5 (bw v4.2.1)),(.own 6 (bx v4.2.2.1)),(.vec 7 0 v4.2.2.2.1 v4.2.2.2.1 22),(.d (.sl (aB v4.2.2.2.2.1)))], .cells (cp v6).cells, .cells (aD v11.1).cells] (by kernel_rfl) ?_;refine bX ?_;exact⟨(v7,(a8 (v8+(1:Int))),(v9.set ((v8).toNat) (⟨v10.aq,v10.aC,v10.aS,v10.bI,v10.cG,v11.1⟩:aG))),⟨(cw trivial (cw trivial (cw trivial (cw trivial (cw trivial (cw trivial (cw trivial (gp (xs:=((v9.set ((v8).toNat) (⟨v10.aq,v10.aC,v10.aS,v10.bI,v10.cG,v11.1⟩:aG)).map b6)) (cw trivial (cw trivial fj)))))))))),by kernel_rfl⟩,J,agS _⟩
  replace J:=(fP h9).symm.trans J;refine fp (t:=(decide (v8<(v4.2.2.2.1:Int)))) (by kernel_rfl) h9 ?_;refine lL (iU (iU (nb rfl ?_)));refine bX ?_;refine aP ?_;refine aP ?_;obtain⟨v12,cV,J⟩:=au J;refine rg [(10,cL (Jz N v4.2.2.2.2.1 v2 v12 cV))] [(64,(aU (!v12)))] [.cells (aZ v1).cells, .cells di, .gone, .cells [(.d (.sl (aB v4.1))),(.own 5 (bw v4.2.1)),(.own 6 (bx v4.2.2.1)),(.vec 7 0 v4.2.2.2.1 v4.2.2.2.1 22),(.d (.sl (aB v4.2.2.2.2.1)))], .gone, .front 57 3 v4.2.1.length, .front 60 7 v4.2.2.1.length, .vec 54 22 (aI (v9.map b6)), .cells [(.d (.sl (aB v4.1))),(.own 5 (bw v4.2.1)),(.own 6 (bx v4.2.2.1)),(.vec 7 0 v4.2.2.2.1 v4.2.2.2.1 22),(.d (.sl (aB v4.2.2.2.2.1)))], .cells (cp v6).cells] (by kernel_rfl) ?_;rcases fS v12 with b9|b9
  ·replace J:=(dM b9).symm.trans J;refine fp (t:=(!v12)) (by kernel_rfl) (dH b9) ?_;refine eo ?_;refine bX ?_;refine aP ?_;refine aP ?_;have c8:=iu J;replace J:=(dM c8).symm.trans J;refine KG [4,7] 7 (v9.map b6) (bP v9) (L:=v4.2.2.2.1) [.cells (aZ v1).cells, .cells di, .gone, .cells [(.d (.sl (aB v4.1))),(.own 5 (bw v4.2.1)),(.own 6 (bx v4.2.2.1)),(.d (.sl (bP v9))),(.d (.sl (aB v4.2.2.2.2.1)))], .gone, .front 57 3 v4.2.1.length, .front 60 7 v4.2.2.1.length, .vec 54 22 (aI (v9.map b6)), .cells [(.d (.sl (aB v4.1))),(.own 5 (bw v4.2.1)),(.own 6 (bx v4.2.2.1)),(.d (.sl (bP v9))),(.d (.sl (aB v4.2.2.2.2.1)))], .cells (cp v6).cells] 0 rfl (qt (fun _=>rfl) _) (rR (agk c8)) (me _) (by kernel_rfl) (.cells 0 rfl (by kernel_rfl) (.cells 0 rfl (by kernel_rfl) (.gone (.cells 1 (by kernel_rfl) (by kernel_rfl) (.gone (.front (.front (.dat (.cells 1 (by kernel_rfl) (by kernel_rfl) (.cells 0 rfl (by kernel_rfl) .nil)))))))))) ?_;refine mG (s':=⟨83,[(4,(.ptr 1 0)),(7,(.ptr 8 0))],[.cells (aZ v1).cells, .cells di, .gone, .cells [(.d (.sl (aB v4.1))),(.own 5 (bw v4.2.1)),(.own 6 (bx v4.2.2.1)),(.d (.sl (bP v9))),(.d (.sl (aB v4.2.2.2.2.1)))], .gone, .front 57 3 v4.2.1.length, .front 60 7 v4.2.2.1.length, .gone, .cells [(.d (.sl (aB v4.1))),(.own 5 (bw v4.2.1)),(.own 6 (bx v4.2.2.1)),(.d (.sl (bP v9))),(.d (.sl (aB v4.2.2.2.2.1)))], .cells (cp v6).cells]⟩) (by kernel_rfl) ?_
   obtain⟨aH,cr,J⟩:=au J;refine rg [(4,cL (ES N (⟨v4.1,v4.2.1,v4.2.2.1,v9,v4.2.2.2.2.1⟩:aY) aH cr))] [(14,(ao aH.2))] [.cells (aZ v1).cells, .cells di, .gone, .cells [(.d (.sl (aB v4.1))),(.own 5 (bw v4.2.1)),(.own 6 (bx v4.2.2.1)),(.d (.sl (bP v9))),(.d (.sl (aB v4.2.2.2.2.1)))], .gone, .front 57 3 v4.2.1.length, .front 60 7 v4.2.2.1.length, .gone, .cells [(.d (.sl (aB v4.1))),(.own 5 (bw v4.2.1)),(.own 6 (bx v4.2.2.1)),(.d (.sl (bP v9))),(.d (.sl (aB v4.2.2.2.2.1)))], .cells (cp v6).cells] (by kernel_rfl) ?_;refine aP ?_;refine rg [] [(78,(aU (aH.2 !=(0:Int))))] [.cells (aZ v1).cells, .cells di, .gone, .cells [(.d (.sl (aB v4.1))),(.own 5 (bw v4.2.1)),(.own 6 (bx v4.2.2.1)),(.d (.sl (bP v9))),(.d (.sl (aB v4.2.2.2.2.1)))], .gone, .front 57 3 v4.2.1.length, .front 60 7 v4.2.2.1.length, .gone, .cells [(.d (.sl (aB v4.1))),(.own 5 (bw v4.2.1)),(.own 6 (bx v4.2.2.1)),(.d (.sl (bP v9))),(.d (.sl (aB v4.2.2.2.2.1)))], .cells (cp v6).cells] (by kernel_rfl) ?_;rcases fS (aH.2 !=(0:Int))with dk|dk
   ·replace J:=(dM dk).symm.trans J;refine fy (t:=(aH.2 !=(0:Int))) (by kernel_rfl) dk ?_;refine aP ?_;refine rg [] [(5,(ao aH.2))] [.cells (aZ v1).cells, .cells di, .gone, .cells [(.d (.sl (aB v4.1))),(.own 5 (bw v4.2.1)),(.own 6 (bx v4.2.2.1)),(.d (.sl (bP v9))),(.d (.sl (aB v4.2.2.2.2.1)))], .gone, .front 57 3 v4.2.1.length, .front 60 7 v4.2.2.1.length, .gone, .cells [(.d (.sl (aB v4.1))),(.own 5 (bw v4.2.1)),(.own 6 (bx v4.2.2.1)),(.d (.sl (bP v9))),(.d (.sl (aB v4.2.2.2.2.1)))], .cells (cp v6).cells] (by kernel_rfl) ?_;refine dD (dW ?_);have hr:=agp J;subst hr;exact fJ (by kernel_rfl)
   replace J:=(fP dk).symm.trans J;refine fp (t:=(aH.2 !=(0:Int))) (by kernel_rfl) dk ?_;refine eo ?_;refine bX ?_;refine aP ?_;obtain⟨aA,eY,J⟩:=au J;refine rg [(4,⟨_,_, .lT ij (oS (xn (oS (qK (qK (lv (xs:=(aA.2.2.2.2.2.map b6)) ij)))))) (cb:=[(aZ (⟨v4.1,v4.2.1,v4.2.2.1,v9,v4.2.2.2.2.1⟩:aY))]) (h:=[.cells (aZ v1).cells, .cells di, .gone, .cells [(.d (.sl (aB v4.1))),(.own 5 (bw v4.2.1)),(.own 6 (bx v4.2.2.1)),(.d (.sl (bP v9))),(.d (.sl (aB v4.2.2.2.2.1)))], .gone, .front 57 3 v4.2.1.length, .front 60 7 v4.2.2.1.length, .gone, .cells [(.d (.sl (aB v4.1))),(.own 5 (bw v4.2.1)),(.own 6 (bx v4.2.2.1)),(.d (.sl (bP v9))),(.d (.sl (aB v4.2.2.2.2.1)))], .cells (cp v6).cells]) (l:=[]) (by kernel_rfl) (by kernel_rfl) (by kernel_rfl) (by kernel_rfl) (DN N (⟨v4.1,v4.2.1,v4.2.2.1,v9,v4.2.2.2.2.1⟩:aY) aA eY)⟩)] [(5,(ao (0:Int)))] [.cells (aZ v1).cells, .cells [(.d (.sl (aB aA.1))),(.own 13 (bw aA.2.1)),(.own 14 (bx aA.2.2.1)),(.vec 15 0 aA.2.2.2.1 aA.2.2.2.1 22),(.d (.sl (aB aA.2.2.2.2.1)))], .gone, .cells [(.d (.sl (aB v4.1))),(.own 5 (bw v4.2.1)),(.own 6 (bx v4.2.2.1)),(.d (.sl (bP v9))),(.d (.sl (aB v4.2.2.2.2.1)))], .gone, .front 57 3 v4.2.1.length, .front 60 7 v4.2.2.1.length, .gone, .cells [(.d (.sl (aB v4.1))),(.own 5 (bw v4.2.1)),(.own 6 (bx v4.2.2.1)),(.d (.sl (bP v9))),(.d (.sl (aB v4.2.2.2.2.1)))], .cells (cp v6).cells, .gone, .cells [(.d (.sl (aB aA.1))),(.own 13 (bw aA.2.1)),(.own 14 (bx aA.2.2.1)),(.vec 15 0 aA.2.2.2.1 aA.2.2.2.1 22),(.d (.sl (aB aA.2.2.2.2.1)))], .gone, .front 57 3 aA.2.1.length, .front 60 7 aA.2.2.1.length, .vec 54 22 (aI (aA.2.2.2.2.2.map b6))] (by kernel_rfl) ?_
   have gB:=iu J;replace J:=(dM gB).symm.trans J;refine KG [4,5] 15 (aA.2.2.2.2.2.map b6) (bP aA.2.2.2.2.2) (L:=aA.2.2.2.1) [.cells (aZ v1).cells, .cells [(.d (.sl (aB aA.1))),(.own 13 (bw aA.2.1)),(.own 14 (bx aA.2.2.1)),(.d (.sl (bP aA.2.2.2.2.2))),(.d (.sl (aB aA.2.2.2.2.1)))], .gone, .cells [(.d (.sl (aB v4.1))),(.own 5 (bw v4.2.1)),(.own 6 (bx v4.2.2.1)),(.d (.sl (bP v9))),(.d (.sl (aB v4.2.2.2.2.1)))], .gone, .front 57 3 v4.2.1.length, .front 60 7 v4.2.2.1.length, .gone, .cells [(.d (.sl (aB v4.1))),(.own 5 (bw v4.2.1)),(.own 6 (bx v4.2.2.1)),(.d (.sl (bP v9))),(.d (.sl (aB v4.2.2.2.2.1)))], .cells (cp v6).cells, .gone, .cells [(.d (.sl (aB aA.1))),(.own 13 (bw aA.2.1)),(.own 14 (bx aA.2.2.1)),(.d (.sl (bP aA.2.2.2.2.2))),(.d (.sl (aB aA.2.2.2.2.1)))], .gone, .front 57 3 aA.2.1.length, .front 60 7 aA.2.2.1.length, .vec 54 22 (aI (aA.2.2.2.2.2.map b6))] 0 rfl (qt (fun _=>rfl) _) (rR (agk gB)) (me _) (by kernel_rfl) (.cells 0 rfl (by kernel_rfl) (.cells 1 (by kernel_rfl) (by kernel_rfl) (.gone (.cells 0 rfl (by kernel_rfl) (.gone (.front (.front (.gone (.cells 0 rfl (by kernel_rfl) (.cells 0 rfl (by kernel_rfl) (.gone (.cells 1 (by kernel_rfl) (by kernel_rfl) (.gone (.front (.front (.dat .nil)))))))))))))))) ?_;refine mG (s':=⟨83,[(4,(.ptr 1 0)),(5,(ao (0:Int)))],[.cells (aZ v1).cells, .cells [(.d (.sl (aB aA.1))),(.own 13 (bw aA.2.1)),(.own 14 (bx aA.2.2.1)),(.d (.sl (bP aA.2.2.2.2.2))),(.d (.sl (aB aA.2.2.2.2.1)))], .gone, .cells [(.d (.sl (aB v4.1))),(.own 5 (bw v4.2.1)),(.own 6 (bx v4.2.2.1)),(.d (.sl (bP v9))),(.d (.sl (aB v4.2.2.2.2.1)))], .gone, .front 57 3 v4.2.1.length, .front 60 7 v4.2.2.1.length, .gone, .cells [(.d (.sl (aB v4.1))),(.own 5 (bw v4.2.1)),(.own 6 (bx v4.2.2.1)),(.d (.sl (bP v9))),(.d (.sl (aB v4.2.2.2.2.1)))], .cells (cp v6).cells, .gone, .cells [(.d (.sl (aB aA.1))),(.own 13 (bw aA.2.1)),(.own 14 (bx aA.2.2.1)),(.d (.sl (bP aA.2.2.2.2.2))),(.d (.sl (aB aA.2.2.2.2.1)))], .gone, .front 57 3 aA.2.1.length, .front 60 7 aA.2.2.1.length, .gone]⟩) (by kernel_rfl) ?_
   refine dD ?_;have hr:=agp J;subst hr;exact fJ (by kernel_rfl)
  replace J:=(fP b9).symm.trans J;refine fy (t:=(!v12)) (by kernel_rfl) (dK b9) ?_;obtain⟨aT,gn,J⟩:=au J;refine rg [(16,⟨_,_, .lT (lv (xs:=(v9.map b6)) ij) (XN (xs:=(aT.map b6)) ij) (cb:=[(.vec 7 0 v4.2.2.2.1 v4.2.2.2.1 22),(ao v5),(ao (a8 (v5+(1:Int))))]) (h:=[.cells (aZ v1).cells, .cells di, .gone, .cells [(.d (.sl (aB v4.1))),(.own 5 (bw v4.2.1)),(.own 6 (bx v4.2.2.1)),(.vec 7 0 v4.2.2.2.1 v4.2.2.2.1 22),(.d (.sl (aB v4.2.2.2.2.1)))], .gone, .front 57 3 v4.2.1.length, .front 60 7 v4.2.2.1.length, .vec 54 22 (aI (v9.map b6)), .cells [(.d (.sl (aB v4.1))),(.own 5 (bw v4.2.1)),(.own 6 (bx v4.2.2.1)),(.vec 7 0 v4.2.2.2.1 v4.2.2.2.1 22),(.d (.sl (aB v4.2.2.2.2.1)))], .cells (cp v6).cells]) (l:=[7]) (by kernel_rfl) (by kernel_rfl) (by kernel_rfl) (by kernel_rfl) (XC N v9 v5 v4.2.2.2.1 aT gn)⟩)] [] [.cells (aZ v1).cells, .cells di, .gone, .cells [(.d (.sl (aB v4.1))),(.own 5 (bw v4.2.1)),(.own 6 (bx v4.2.2.1)),(.vec 7 0 v4.2.2.2.1 v4.2.2.2.1 22),(.d (.sl (aB v4.2.2.2.2.1)))], .gone, .front 57 3 v4.2.1.length, .front 60 7 v4.2.2.1.length, .vec 54 22 (aI (aT.map b6)++[List.replicate 22 .dead]), .cells [(.d (.sl (aB v4.1))),(.own 5 (bw v4.2.1)),(.own 6 (bx v4.2.2.1)),(.vec 7 0 (v4.2.2.2.1-1) v4.2.2.2.1 22),(.d (.sl (aB v4.2.2.2.2.1)))], .cells (cp v6).cells] (by kernel_rfl) ?_
  refine aP ?_;refine aP ?_;have iH:=iu J;replace J:=(dM iH).symm.trans J;have gU:=iu J;replace J:=(dM gU).symm.trans J;refine adK [4,7] 7 (aT.map b6) (bP aT) (ln:=(v4.2.2.2.1-1)) (L:=v4.2.2.2.1) [.cells (aZ v1).cells, .cells di, .gone, .gone, .gone, .front 57 3 v4.2.1.length, .front 60 7 v4.2.2.1.length, .gone, .cells [(.d (.sl (aB v4.1))),(.own 5 (bw v4.2.1)),(.own 6 (bx v4.2.2.1)),(.d (.sl (bP aT))),(.d (.sl (aB v4.2.2.2.2.1)))], .cells (cp v6).cells] 0 rfl (afi (agk iH)) acI (qt (fun _=>rfl) _) (rR (agk gU)) (me _) rfl (by kernel_rfl) (.cells 0 rfl (by kernel_rfl) (.cells 0 rfl (by kernel_rfl) (.gone (.drop (.gone (.front (.front (.drop (.cells 1 (by kernel_rfl) (by kernel_rfl) (.cells 0 rfl (by kernel_rfl) .nil)))))))))) ?_;refine mG (s':=⟨83,[(4,(.ptr 1 0)),(7,(.ptr 8 0))],[.cells (aZ v1).cells, .cells di, .gone, .gone, .gone, .front 57 3 v4.2.1.length, .front 60 7 v4.2.2.1.length, .gone, .cells [(.d (.sl (aB v4.1))),(.own 5 (bw v4.2.1)),(.own 6 (bx v4.2.2.1)),(.d (.sl (bP aT))),(.d (.sl (aB v4.2.2.2.2.1)))], .cells (cp v6).cells]⟩) (by kernel_rfl) ?_;obtain⟨aX,jn,J⟩:=au J;refine rg [(4,cL (ES N (⟨v4.1,v4.2.1,v4.2.2.1,aT,v4.2.2.2.2.1⟩:aY) aX jn))] [(14,(ao aX.2))] [.cells (aZ v1).cells, .cells di, .gone, .gone, .gone, .front 57 3 v4.2.1.length, .front 60 7 v4.2.2.1.length, .gone, .cells [(.d (.sl (aB v4.1))),(.own 5 (bw v4.2.1)),(.own 6 (bx v4.2.2.1)),(.d (.sl (bP aT))),(.d (.sl (aB v4.2.2.2.2.1)))], .cells (cp v6).cells] (by kernel_rfl) ?_
  refine aP ?_;refine rg [] [(78,(aU (aX.2 !=(0:Int))))] [.cells (aZ v1).cells, .cells di, .gone, .gone, .gone, .front 57 3 v4.2.1.length, .front 60 7 v4.2.2.1.length, .gone, .cells [(.d (.sl (aB v4.1))),(.own 5 (bw v4.2.1)),(.own 6 (bx v4.2.2.1)),(.d (.sl (bP aT))),(.d (.sl (aB v4.2.2.2.2.1)))], .cells (cp v6).cells] (by kernel_rfl) ?_;rcases fS (aX.2 !=(0:Int))with gR|gR
  ·replace J:=(dM gR).symm.trans J;refine fy (t:=(aX.2 !=(0:Int))) (by kernel_rfl) gR ?_;refine aP ?_;refine rg [] [(5,(ao aX.2))] [.cells (aZ v1).cells, .cells di, .gone, .gone, .gone, .front 57 3 v4.2.1.length, .front 60 7 v4.2.2.1.length, .gone, .cells [(.d (.sl (aB v4.1))),(.own 5 (bw v4.2.1)),(.own 6 (bx v4.2.2.1)),(.d (.sl (bP aT))),(.d (.sl (aB v4.2.2.2.2.1)))], .cells (cp v6).cells] (by kernel_rfl) ?_;refine dD (dW ?_);have hr:=agp J;subst hr;exact fJ (by kernel_rfl)
  replace J:=(fP gR).symm.trans J;refine fp (t:=(aX.2 !=(0:Int))) (by kernel_rfl) gR ?_;refine eo ?_;refine bX ?_;refine aP ?_;obtain⟨aK,gL,J⟩:=au J;refine rg [(4,⟨_,_, .lT ij (oS (xn (oS (qK (qK (lv (xs:=(aK.2.2.2.2.2.map b6)) ij)))))) (cb:=[(aZ (⟨v4.1,v4.2.1,v4.2.2.1,aT,v4.2.2.2.2.1⟩:aY))]) (h:=[.cells (aZ v1).cells, .cells di, .gone, .gone, .gone, .front 57 3 v4.2.1.length, .front 60 7 v4.2.2.1.length, .gone, .cells [(.d (.sl (aB v4.1))),(.own 5 (bw v4.2.1)),(.own 6 (bx v4.2.2.1)),(.d (.sl (bP aT))),(.d (.sl (aB v4.2.2.2.2.1)))], .cells (cp v6).cells]) (l:=[]) (by kernel_rfl) (by kernel_rfl) (by kernel_rfl) (by kernel_rfl) (DN N (⟨v4.1,v4.2.1,v4.2.2.1,aT,v4.2.2.2.2.1⟩:aY) aK gL)⟩)] [(5,(ao (0:Int)))] [.cells (aZ v1).cells, .cells [(.d (.sl (aB aK.1))),(.own 13 (bw aK.2.1)),(.own 14 (bx aK.2.2.1)),(.vec 15 0 aK.2.2.2.1 aK.2.2.2.1 22),(.d (.sl (aB aK.2.2.2.2.1)))], .gone, .gone, .gone, .front 57 3 v4.2.1.length, .front 60 7 v4.2.2.1.length, .gone, .cells [(.d (.sl (aB v4.1))),(.own 5 (bw v4.2.1)),(.own 6 (bx v4.2.2.1)),(.d (.sl (bP aT))),(.d (.sl (aB v4.2.2.2.2.1)))], .cells (cp v6).cells, .gone, .cells [(.d (.sl (aB aK.1))),(.own 13 (bw aK.2.1)),(.own 14 (bx aK.2.2.1)),(.vec 15 0 aK.2.2.2.1 aK.2.2.2.1 22),(.d (.sl (aB aK.2.2.2.2.1)))], .gone, .front 57 3 aK.2.1.length, .front 60 7 aK.2.2.1.length, .vec 54 22 (aI (aK.2.2.2.2.2.map b6))] (by kernel_rfl) ?_
  have kF:=iu J;replace J:=(dM kF).symm.trans J;refine KG [4,5] 15 (aK.2.2.2.2.2.map b6) (bP aK.2.2.2.2.2) (L:=aK.2.2.2.1) [.cells (aZ v1).cells, .cells [(.d (.sl (aB aK.1))),(.own 13 (bw aK.2.1)),(.own 14 (bx aK.2.2.1)),(.d (.sl (bP aK.2.2.2.2.2))),(.d (.sl (aB aK.2.2.2.2.1)))], .gone, .gone, .gone, .front 57 3 v4.2.1.length, .front 60 7 v4.2.2.1.length, .gone, .cells [(.d (.sl (aB v4.1))),(.own 5 (bw v4.2.1)),(.own 6 (bx v4.2.2.1)),(.d (.sl (bP aT))),(.d (.sl (aB v4.2.2.2.2.1)))], .cells (cp v6).cells, .gone, .cells [(.d (.sl (aB aK.1))),(.own 13 (bw aK.2.1)),(.own 14 (bx aK.2.2.1)),(.d (.sl (bP aK.2.2.2.2.2))),(.d (.sl (aB aK.2.2.2.2.1)))], .gone, .front 57 3 aK.2.1.length, .front 60 7 aK.2.2.1.length, .vec 54 22 (aI (aK.2.2.2.2.2.map b6))] 0 rfl (qt (fun _=>rfl) _) (rR (agk kF)) (me _) (by kernel_rfl) (.cells 0 rfl (by kernel_rfl) (.cells 1 (by kernel_rfl) (by kernel_rfl) (.gone (.gone (.gone (.front (.front (.gone (.cells 0 rfl (by kernel_rfl) (.cells 0 rfl (by kernel_rfl) (.gone (.cells 1 (by kernel_rfl) (by kernel_rfl) (.gone (.front (.front (.dat .nil)))))))))))))))) ?_;refine mG (s':=⟨83,[(4,(.ptr 1 0)),(5,(ao (0:Int)))],[.cells (aZ v1).cells, .cells [(.d (.sl (aB aK.1))),(.own 13 (bw aK.2.1)),(.own 14 (bx aK.2.2.1)),(.d (.sl (bP aK.2.2.2.2.2))),(.d (.sl (aB aK.2.2.2.2.1)))], .gone, .gone, .gone, .front 57 3 v4.2.1.length, .front 60 7 v4.2.2.1.length, .gone, .cells [(.d (.sl (aB v4.1))),(.own 5 (bw v4.2.1)),(.own 6 (bx v4.2.2.1)),(.d (.sl (bP aT))),(.d (.sl (aB v4.2.2.2.2.1)))], .cells (cp v6).cells, .gone, .cells [(.d (.sl (aB aK.1))),(.own 13 (bw aK.2.1)),(.own 14 (bx aK.2.2.1)),(.d (.sl (bP aK.2.2.2.2.2))),(.d (.sl (aB aK.2.2.2.2.1)))], .gone, .front 57 3 aK.2.1.length, .front 60 7 aK.2.2.1.length, .gone]⟩) (by kernel_rfl) ?_
  refine dD ?_;have hr:=agp J;subst hr;exact fJ (by kernel_rfl)
def xm(N:Nat):agU az→Nat→Int→agW Int
 |[],_,v7=>
  some (a8 ((1:Int)+v7))
 |v5::v6,v3,v7=>
  bif (bL v5.aV==bL (bs []))then
   (fun fx=>xm N v6 (v3+1) fx) v7
  else
   (fun fx=>xm N v6 (v3+1) fx) (a8 (v7+(1:Int)))
def BW(N:Nat)(Fo:ar→agW Int):agU ar→Nat→Int→agW Int
 |[],_,v12=>
  some (a8 ((1:Int)+v12))
 |v10::v11,v8,v12=>
  Option.bind (Fo v10) fun aH=>
  (fun jq=>BW N Fo v11 (v8+1) jq) (a8 (v12+aH))
def Es(N:Nat)(v1:ar)(Fo:ar→agW Int)(v2:Bool):agW Int:=
 bif v2 then
  some (0:Int)
 else
  bif (v1.aQ==(3:Int))then
   xm N v1.xIdx 0 (0:Int)
  else
   BW N Fo v1.a7 0 (0:Int)
def rF(N:Nat):Nat→ar→agW Int
 |0,_=>none
 |d+1,v1=>
  bif (v1.aQ==(1:Int))then
   Es N v1 (rF N d) (v1.aQ==(1:Int))
  else
   Es N v1 (rF N d) (v1.aQ==(2:Int))
def NB(N:Nat)(v1:ar):agW Int:=rF N N v1
theorem Zn(N:Nat):∀d:Nat,(∀(v1:ar)(r:Int),rF N d v1=some r→bA Tryz.prog 42 [(aD v1)] (·=(ao r))):=by
 intro d
 induction d with
 |zero=>intro v1 r J;rw[rF]at J;cases J
 |succ d ih=>
  have Zk:=ih;intro v1 r J;rw[rF]at J;refine bZ Tryz.func42 (by kernel_rfl) (by kernel_rfl) ?_;refine ni ak 1 [[],[],[],[]] [1,3,9,10] 1 (fun(v2:Bool)=>⟨44,[(1,(.ptr 0 0)),(3,(ao (0:Int))),(9,(ao v1.aQ)),(10,(aU v2))],[.cells (aD v1).cells]⟩) (fun(v2:Bool)=>Es N v1 (rF N d) v2=some r) ?_ ?_
  ·intro f1 ba;refine bc J (fun bQ J=> ?_) fun bQ J=> ?_
   ·exact dN ak ba (v1.aQ==(1:Int)) [[(0,bT bQ)]] J
   exact dN ak ba (v1.aQ==(2:Int)) [[(0,bF bQ)],[]] J
  rintro v2 J
  try dsimp only at J
  rw[Es]at J;refine bc J (fun h1 J=> ?_) fun h1 J=> ?_
  ·cases J;exact wr ak [[(0,bT h1)],[]]
  refine ax ak [[(0,bF h1)],[]] ?_;refine bc J (fun h2 J=> ?_) fun h2 J=> ?_
  ·refine ax ak [[(0,bT h2)],[(7,oL v1.xIdx cW)]] ?_;refine dj 16 (bC v1.xIdx) (by kernel_rfl) fun h3=> ?_;have h4:=cP cW h3;refine c9 ak 2 [] [3,16,17,18] 1 (fun((v3,v4,v7):Nat×(agU az)×Int)=>⟨44,[(3,(ao v7)),(16,(.d (.sl (bC v1.xIdx)))),(17,(ao (v1.xIdx.length:Int))),(18,(ao (v3:Int)))],[.cells (aD v1).cells]⟩) (fun((v3,v4,v7):Nat×(agU az)×Int)=>v1.xIdx.drop v3=v4∧xm N v4 v3 v7=some r) (fun((v3,v4,v7):Nat×(agU az)×Int)=>v4.length) (0,v1.xIdx,(0:Int)) ⟨rfl,J⟩ ?_;rintro⟨v3,v4,v7⟩ ⟨h5,J⟩ f2 fD;cases v4 with
   |nil=>
    rw[xm]at J;cases J;exact wr ak [[],[(0,bF (ck h5))],[]]
   |cons v5 v6=>
    rw[xm]at J;refine ax ak [[],[(0,bT (cf h5))],[(1,oE (ik (bS h5)))],[]] ?_;refine bc J (fun h6 J=> ?_) fun h6 J=> ?_
    ·exact cU ak fD (v3+1,v6,v7) [[(0,bF (dH h6))],[(2,oq (cx h5 rfl h4))]] ⟨ct h5,J⟩
    exact cU ak fD (v3+1,v6,(a8 (v7+(1:Int)))) [[(0,bT (dK h6))],[],[(2,oq (cx h5 rfl h4))]] ⟨ct h5,J⟩
  refine ax ak [[(0,bF h2)],[(7,oL v1.a7 da)]] ?_;refine dj 31 (cQ v1.a7) (by kernel_rfl) fun h7=> ?_;have h8:=cP da h7;refine c9 ak 3 [] [3,31,32,33] 1 (fun((v8,v9,v12):Nat×(agU ar)×Int)=>⟨44,[(3,(ao v12)),(31,(.d (.sl (cQ v1.a7)))),(32,(ao (v1.a7.length:Int))),(33,(ao (v8:Int)))],[.cells (aD v1).cells]⟩) (fun((v8,v9,v12):Nat×(agU ar)×Int)=>v1.a7.drop v8=v9∧BW N (rF N d) v9 v8 v12=some r) (fun((v8,v9,v12):Nat×(agU ar)×Int)=>v9.length) (0,v1.a7,(0:Int)) ⟨rfl,J⟩ ?_;rintro⟨v8,v9,v12⟩ ⟨h9,J⟩ f3 lK;cases v9 with
  |nil=>
   rw[BW]at J;cases J;exact wr ak [[],[(0,bF (ck h9))],[]]
  |cons v10 v11=>
   rw[BW]at J;obtain⟨aH,aJ,J⟩:=au J;exact cU ak lK (v8+1,v11,(a8 (v12+aH))) [[],[(0,bT (cf h9))],[(1,oE (lh (bS h9)))],[(7,cL (Zk v10 aH aJ))],[(2,oq (cx h9 rfl h8))]] ⟨ct h9,J⟩
theorem aaU(N:Nat)(v1:ar)(r:Int)(J:NB N v1=some r):bA Tryz.prog 42 [(aD v1)] (·=(ao r)):=(Zn N N) v1 r J
def Ar(N:Nat)(v2:agU agV):agU agV→Nat→agW Bool
 |[],_=>
  some true
 |v5::v6,v3=>
  Option.bind (v2[((v3:Int)).toNat]?) fun v7=>
  bif (bL v5==bL v7)then
   (Ar N v2 v6 (v3+1))
  else
   some false
def Gn(N:Nat)(v1:agU agV)(v2:agU agV):agW Bool:=
 bif ((v1.length:Int) !=(v2.length:Int))then
  some false
 else
  Ar N v2 v1 0
theorem oK(N:Nat)(v1:agU agV)(v2:agU agV)(r:Bool)(J:Gn N v1 v2=some r):bA Tryz.prog 75 [(.d (.sl (aB v1))),(.d (.sl (aB v2)))] (·=(aU r)):=by
 rw[Gn]at J;refine bZ Tryz.func75 (by kernel_rfl) (by kernel_rfl) ?_;refine ax ak [[],[(4,oL v1 dz),(10,oL v2 dz)]] ?_;refine bc J (fun h1 J=> ?_) fun h1 J=> ?_
 ·cases J;exact wr ak [[(0,bT h1)],[]]
 refine ax ak [[(0,bF h1)],[(4,oL v1 dz)]] ?_;refine dj 0 (aB v1) (by kernel_rfl) fun h2=> ?_;have h3:=cP dz h2;refine c9 ak 1 [] [0,1,12,13] 0 (fun((v3,v4):Nat×(agU agV))=>⟨26,[(0,(.d (.sl (aB v1)))),(1,(.d (.sl (aB v2)))),(12,(ao (v1.length:Int))),(13,(ao (v3:Int)))],[]⟩) (fun((v3,v4):Nat×(agU agV))=>v1.drop v3=v4∧Ar N v2 v4 v3=some r) (fun((v3,v4):Nat×(agU agV))=>v4.length) (0,v1) ⟨rfl,J⟩ ?_;rintro⟨v3,v4⟩ ⟨h4,J⟩ f1 ba;cases v4 with
 |nil=>
  rw[Ar]at J;cases J;exact wr ak [[],[(0,bF (ck h4))],[]]
 |cons v5 v6=>
  rw[Ar]at J;obtain⟨v7,h5,J⟩:=au J;refine ax ak [[],[(0,bT (cf h4))],[],[(7,oE (m5 (bS h4))),(19,oE (m5 h5))]] ?_;refine bc J (fun h7 J=> ?_) fun h7 J=> ?_
  ·exact cU ak ba (v3+1,v6) [[(0,bF (dH h7))],[(2,oq (cx h4 rfl h3))]] ⟨ct h4,J⟩
  cases J;exact wr ak [[(0,bT (dK h7))],[]]
def CD(N:Nat)(v2:agU aF):agU aF→Nat→agW Bool
 |[],_=>
  some true
 |v5::v6,v3=>
  Option.bind (v2[((v3:Int)).toNat]?) fun v7=>
  bif ((bL v5.aq==bL v7.aq)&&((v5.cZ.toInt==v7.cZ.toInt)&&true))then
   (CD N v2 v6 (v3+1))
  else
   some false
def LL(N:Nat)(v1:agU aF)(v2:agU aF):agW Bool:=
 bif ((v1.length:Int) !=(v2.length:Int))then
  some false
 else
  CD N v2 v1 0
theorem WZ(N:Nat)(v1:agU aF)(v2:agU aF)(r:Bool)(J:LL N v1 v2=some r):bA Tryz.prog 145 [(.d (.sl (bJ v1))),(.d (.sl (bJ v2)))] (·=(aU r)):=by
 rw[LL]at J;refine bZ Tryz.func145 (by kernel_rfl) (by kernel_rfl) ?_;refine ax ak [[],[(4,oL v1 cS),(10,oL v2 cS)]] ?_;refine bc J (fun h1 J=> ?_) fun h1 J=> ?_
 ·cases J;exact wr ak [[(0,bT h1)],[]]
 refine ax ak [[(0,bF h1)],[(4,oL v1 cS)]] ?_;refine dj 0 (bJ v1) (by kernel_rfl) fun h2=> ?_;have h3:=cP cS h2;refine c9 ak 1 [] [0,1,12,13] 0 (fun((v3,v4):Nat×(agU aF))=>⟨26,[(0,(.d (.sl (bJ v1)))),(1,(.d (.sl (bJ v2)))),(12,(ao (v1.length:Int))),(13,(ao (v3:Int)))],[]⟩) (fun((v3,v4):Nat×(agU aF))=>v1.drop v3=v4∧CD N v2 v4 v3=some r) (fun((v3,v4):Nat×(agU aF))=>v4.length) (0,v1) ⟨rfl,J⟩ ?_;rintro⟨v3,v4⟩ ⟨h4,J⟩ f1 ba;cases v4 with
 |nil=>
  rw[CD]at J;cases J;exact wr ak [[],[(0,bF (ck h4))],[]]
 |cons v5 v6=>
  rw[CD]at J;obtain⟨v7,h5,J⟩:=au J;refine ax ak [[],[(0,bT (cf h4))],[],[(7,oE (gV (bS h4))),(19,oE (gV h5))]] ?_;refine bc J (fun h7 J=> ?_) fun h7 J=> ?_
  ·exact cU ak ba (v3+1,v6) [[(0,bF (dH h7))],[(2,oq (cx h4 rfl h3))]] ⟨ct h4,J⟩
  cases J;exact wr ak [[(0,bT (dK h7))],[]]
def A5(N:Nat)(v1:aw)(v2:aw):agW Bool:=
 Option.bind (bif (v1.xK.toInt==v2.xK.toInt)then Option.bind (LL N v1.xL v2.xL) fun v3=>
 some v3 else some false) fun v4=>
 some v4
theorem Hb(N:Nat)(v1:aw)(v2:aw)(r:Bool)(J:A5 N v1 v2=some r):bA Tryz.prog 113 [(bY v1),(bY v2)] (·=(aU r)):=by
 rw[A5]at J;refine bZ Tryz.func113 (by kernel_rfl) (by kernel_rfl) ?_;refine ax ak [[]] ?_;obtain⟨v4,h3,J⟩:=au J;refine dn ak [(4,(aU v4))] [.cells (bY v1).cells, .cells (bY v2).cells] ?_ ?_
 ·refine bc h3 (fun h1 h3=> ?_) fun h1 h3=> ?_
  ·obtain⟨v3,h2,h3⟩:=au h3;obtain rfl:=sj h3;exact⟨so (os [18,21,24,27,30,34] (bT h1) [(31,cL (WZ N v1.xL v2.xL v3 h2))]),by kernel_rfl⟩
  cases h3;exact⟨so (os [18,21,24,27,30,34] (bF h1) []),by kernel_rfl⟩
 cases J;exact wr ak []
def HP(N:Nat)(v1:cv)(v2:cv):agW Bool:=
 Option.bind (bif (v1.gK==v2.gK)then Option.bind (A5 N v1.aL v2.aL) fun v3=>
 some v3 else some false) fun v4=>
 some v4
theorem acV(N:Nat)(v1:cv)(v2:cv)(r:Bool)(J:HP N v1 v2=some r):bA Tryz.prog 77 [(lV v1),(lV v2)] (·=(aU r)):=by
 rw[HP]at J;refine bZ Tryz.func77 (by kernel_rfl) (by kernel_rfl) ?_;refine ax ak [[]] ?_;obtain⟨v4,h3,J⟩:=au J;refine dn ak [(4,(aU v4))] [.cells (lV v1).cells, .cells (lV v2).cells] ?_ ?_
 ·refine bc h3 (fun h1 h3=> ?_) fun h1 h3=> ?_
  ·obtain⟨v3,h2,h3⟩:=au h3;obtain rfl:=sj h3;exact⟨so (os [18,21,24,27,30,34] (bT h1) [(31,cL (Hb N v1.aL v2.aL v3 h2))]),by kernel_rfl⟩
  cases h3;exact⟨so (os [18,21,24,27,30,34] (bF h1) []),by kernel_rfl⟩
 cases J;exact wr ak []
def Cr(N:Nat)(v2:agU cv):agU cv→Nat→agW Bool
 |[],_=>
  some true
 |v5::v6,v3=>
  Option.bind (v2[((v3:Int)).toNat]?) fun v7=>
  Option.bind (HP N v5 v7) fun v8=>
  bif v8 then
   (Cr N v2 v6 (v3+1))
  else
   some false
def Ie(N:Nat)(v1:agU cv)(v2:agU cv):agW Bool:=
 bif ((v1.length:Int) !=(v2.length:Int))then
  some false
 else
  Cr N v2 v1 0
theorem Hu(N:Nat)(v1:agU cv)(v2:agU cv)(r:Bool)(J:Ie N v1 v2=some r):bD Tryz.prog 76 [(.d (.sl (bw v1))),(.d (.sl (bw v2))),(.fn 77 [])] [] fun r1 h1=>r1=(aU r)∧h1=[]:=by
 rw[Ie]at J;refine dS 0 Tryz.func76 (by kernel_rfl) (by kernel_rfl) (agd rfl) ?_;refine ax ak [[],[(4,oL v1 fv),(10,oL v2 fv)]] ?_;refine bc J (fun h1 J=> ?_) fun h1 J=> ?_
 ·cases J;exact bH ak [[(0,bT h1)],[]]
 refine ax ak [[(0,bF h1)],[(4,oL v1 fv)]] ?_;refine dj 0 (bw v1) (by kernel_rfl) fun h2=> ?_;have h3:=cP fv h2;refine c9 ak 1 [] [1,2,15,16,17] 0 (fun((v3,v4):Nat×(agU cv))=>⟨32,[(1,(.d (.sl (bw v2)))),(2,(.fn 77 [])),(15,(.d (.sl (bw v1)))),(16,(ao (v1.length:Int))),(17,(ao (v3:Int)))],[]⟩) (fun((v3,v4):Nat×(agU cv))=>v1.drop v3=v4∧Cr N v2 v4 v3=some r) (fun((v3,v4):Nat×(agU cv))=>v4.length) (0,v1) ⟨rfl,J⟩ ?_;rintro⟨v3,v4⟩ ⟨h4,J⟩ f1 ba;cases v4 with
 |nil=>
  rw[Cr]at J;cases J;exact bH ak [[],[(0,bF (ck h4))],[]]
 |cons v5 v6=>
  rw[Cr]at J;obtain⟨v7,h5,J⟩:=au J;obtain⟨v8,h7,J⟩:=au J;refine ax ak [[],[(0,bT (cf h4))],[(4,oE (AT (bS h4)))],[(7,oE (AT h5))],[(10,cL (acV N v5 v7 v8 h7))]] ?_;refine bc J (fun h8 J=> ?_) fun h8 J=> ?_
  ·exact cU ak ba (v3+1,v6) [[(0,bF (dH h8))],[(2,oq (cx h4 rfl h3))]] ⟨ct h4,J⟩
  cases J;exact bH ak [[(0,bT (dK h8))],[]]
def Bq(N:Nat)(v2:agU aw):agU aw→Nat→agW Bool
 |[],_=>
  some true
 |v5::v6,v3=>
  Option.bind (v2[((v3:Int)).toNat]?) fun v7=>
  Option.bind (A5 N v5 v7) fun v8=>
  bif v8 then
   (Bq N v2 v6 (v3+1))
  else
   some false
def Mn(N:Nat)(v1:agU aw)(v2:agU aw):agW Bool:=
 bif ((v1.length:Int) !=(v2.length:Int))then
  some false
 else
  Bq N v2 v1 0
theorem ZF(N:Nat)(v1:agU aw)(v2:agU aw)(r:Bool)(J:Mn N v1 v2=some r):bD Tryz.prog 114 [(.d (.sl (cH v1))),(.d (.sl (cH v2))),(.fn 113 [])] [] fun r1 h1=>r1=(aU r)∧h1=[]:=by
 rw[Mn]at J;refine dS 0 Tryz.func114 (by kernel_rfl) (by kernel_rfl) (agd rfl) ?_;refine ax ak [[],[(4,oL v1 cd),(10,oL v2 cd)]] ?_;refine bc J (fun h1 J=> ?_) fun h1 J=> ?_
 ·cases J;exact bH ak [[(0,bT h1)],[]]
 refine ax ak [[(0,bF h1)],[(4,oL v1 cd)]] ?_;refine dj 0 (cH v1) (by kernel_rfl) fun h2=> ?_;have h3:=cP cd h2;refine c9 ak 1 [] [1,2,15,16,17] 0 (fun((v3,v4):Nat×(agU aw))=>⟨32,[(1,(.d (.sl (cH v2)))),(2,(.fn 113 [])),(15,(.d (.sl (cH v1)))),(16,(ao (v1.length:Int))),(17,(ao (v3:Int)))],[]⟩) (fun((v3,v4):Nat×(agU aw))=>v1.drop v3=v4∧Bq N v2 v4 v3=some r) (fun((v3,v4):Nat×(agU aw))=>v4.length) (0,v1) ⟨rfl,J⟩ ?_;rintro⟨v3,v4⟩ ⟨h4,J⟩ f1 ba;cases v4 with
 |nil=>
  rw[Bq]at J;cases J;exact bH ak [[],[(0,bF (ck h4))],[]]
 |cons v5 v6=>
  rw[Bq]at J;obtain⟨v7,h5,J⟩:=au J;obtain⟨v8,h7,J⟩:=au J;refine ax ak [[],[(0,bT (cf h4))],[(4,oE (ku (bS h4)))],[(7,oE (ku h5))],[(10,cL (Hb N v5 v7 v8 h7))]] ?_;refine bc J (fun h8 J=> ?_) fun h8 J=> ?_
  ·exact cU ak ba (v3+1,v6) [[(0,bF (dH h8))],[(2,oq (cx h4 rfl h3))]] ⟨ct h4,J⟩
  cases J;exact bH ak [[(0,bT (dK h8))],[]]
def LH(N:Nat)(v1:bN)(v2:bN):agW Bool:=
 Option.bind (bif (bL v1.aq==bL v2.aq)then(bif ((v1.aC.bW==v2.aC.bW)&&((v1.aC.ca==v2.aC.ca)&&((v1.aC.cF==v2.aC.cF)&&((v1.aC.cE==v2.aC.cE)&&((v1.aC.cJ==v2.aC.cJ)&&true)))))then Option.bind (Mn N v1.aS v2.aS) fun v3=>
 some v3 else some false)else some false) fun v4=>
 some v4
theorem Y8(N:Nat)(v1:bN)(v2:bN)(r:Bool)(J:LH N v1 v2=some r):bA Tryz.prog 79 [(lC v1),(lC v2)] (·=(aU r)):=by
 rw[LH]at J;refine bZ Tryz.func79 (by kernel_rfl) (by kernel_rfl) ?_;refine ax ak [[]] ?_;obtain⟨v4,h4,J⟩:=au J;refine dn ak [(4,(aU v4))] [.cells (lC v1).cells, .cells (lC v2).cells] ?_ ?_
 ·refine bc h4 (fun h1 h4=> ?_) fun h1 h4=> ?_
  ·refine bc h4 (fun h2 h4=> ?_) fun h2 h4=> ?_
   ·obtain⟨v3,h3,h4⟩:=au h4;obtain rfl:=sj h4;exact⟨so (os [18,21,24,27,30,34] (bT h1) (os [39,42,45,48,51,55] (bT h2) [(52,⟨_,_, .rq (cb:=[(.d (.sl (cH v1.aS))),(.d (.sl (cH v2.aS))),(.fn 113 [])]) (h:=[.cells (lC v1).cells, .cells (lC v2).cells]) (l:=[]) (by kernel_rfl) (by kernel_rfl) (by kernel_rfl) (by kernel_rfl) (ZF N v1.aS v2.aS v3 h3)⟩)])),by kernel_rfl⟩
   cases h4;exact⟨so (os [18,21,24,27,30,34] (bT h1) (os [39,42,45,48,51,55] (bF h2) [])),by kernel_rfl⟩
  cases h4;exact⟨so (os [18,21,24,27,30,34] (bF h1) (os [39,42,45,48,51,55] (bF rfl) [])),by kernel_rfl⟩
 cases J;exact wr ak []
def CG(N:Nat)(v2:agU bN):agU bN→Nat→agW Bool
 |[],_=>
  some true
 |v5::v6,v3=>
  Option.bind (v2[((v3:Int)).toNat]?) fun v7=>
  Option.bind (LH N v5 v7) fun v8=>
  bif v8 then
   (CG N v2 v6 (v3+1))
  else
   some false
def Jv(N:Nat)(v1:agU bN)(v2:agU bN):agW Bool:=
 bif ((v1.length:Int) !=(v2.length:Int))then
  some false
 else
  CG N v2 v1 0
theorem Ur(N:Nat)(v1:agU bN)(v2:agU bN)(r:Bool)(J:Jv N v1 v2=some r):bD Tryz.prog 78 [(.d (.sl (bx v1))),(.d (.sl (bx v2))),(.fn 79 [])] [] fun r1 h1=>r1=(aU r)∧h1=[]:=by
 rw[Jv]at J;refine dS 0 Tryz.func78 (by kernel_rfl) (by kernel_rfl) (agd rfl) ?_;refine ax ak [[],[(4,oL v1 e9),(10,oL v2 e9)]] ?_;refine bc J (fun h1 J=> ?_) fun h1 J=> ?_
 ·cases J;exact bH ak [[(0,bT h1)],[]]
 refine ax ak [[(0,bF h1)],[(4,oL v1 e9)]] ?_;refine dj 0 (bx v1) (by kernel_rfl) fun h2=> ?_;have h3:=cP e9 h2;refine c9 ak 1 [] [1,2,15,16,17] 0 (fun((v3,v4):Nat×(agU bN))=>⟨32,[(1,(.d (.sl (bx v2)))),(2,(.fn 79 [])),(15,(.d (.sl (bx v1)))),(16,(ao (v1.length:Int))),(17,(ao (v3:Int)))],[]⟩) (fun((v3,v4):Nat×(agU bN))=>v1.drop v3=v4∧CG N v2 v4 v3=some r) (fun((v3,v4):Nat×(agU bN))=>v4.length) (0,v1) ⟨rfl,J⟩ ?_;rintro⟨v3,v4⟩ ⟨h4,J⟩ f1 ba;cases v4 with
 |nil=>
  rw[CG]at J;cases J;exact bH ak [[],[(0,bF (ck h4))],[]]
 |cons v5 v6=>
  rw[CG]at J;obtain⟨v7,h5,J⟩:=au J;obtain⟨v8,h7,J⟩:=au J;refine ax ak [[],[(0,bT (cf h4))],[(4,oE (s5 (bS h4)))],[(7,oE (s5 h5))],[(10,cL (Y8 N v5 v7 v8 h7))]] ?_;refine bc J (fun h8 J=> ?_) fun h8 J=> ?_
  ·exact cU ak ba (v3+1,v6) [[(0,bF (dH h8))],[(2,oq (cx h4 rfl h3))]] ⟨ct h4,J⟩
  cases J;exact bH ak [[(0,bT (dK h8))],[]]
def Hf(N:Nat)(v1:bf)(v2:bf):agW Bool:=
 Option.bind (bif (bL v1.aq==bL v2.aq)then Option.bind (A5 N v1.ep v2.ep) fun v3=>
 some v3 else some false) fun v4=>
 some v4
theorem afs(N:Nat)(v1:bf)(v2:bf)(r:Bool)(J:Hf N v1 v2=some r):bA Tryz.prog 116 [(pM v1),(pM v2)] (·=(aU r)):=by
 rw[Hf]at J;refine bZ Tryz.func116 (by kernel_rfl) (by kernel_rfl) ?_;refine ax ak [[]] ?_;obtain⟨v4,h3,J⟩:=au J;refine dn ak [(4,(aU v4))] [.cells (pM v1).cells, .cells (pM v2).cells] ?_ ?_
 ·refine bc h3 (fun h1 h3=> ?_) fun h1 h3=> ?_
  ·obtain⟨v3,h2,h3⟩:=au h3;obtain rfl:=sj h3;exact⟨so (os [18,21,24,27,30,34] (bT h1) [(31,cL (Hb N v1.ep v2.ep v3 h2))]),by kernel_rfl⟩
  cases h3;exact⟨so (os [18,21,24,27,30,34] (bF h1) []),by kernel_rfl⟩
 cases J;exact wr ak []
def Aa(N:Nat)(v2:agU bf):agU bf→Nat→agW Bool
 |[],_=>
  some true
 |v5::v6,v3=>
  Option.bind (v2[((v3:Int)).toNat]?) fun v7=>
  Option.bind (Hf N v5 v7) fun v8=>
  bif v8 then
   (Aa N v2 v6 (v3+1))
  else
   some false
def FT(N:Nat)(v1:agU bf)(v2:agU bf):agW Bool:=
 bif ((v1.length:Int) !=(v2.length:Int))then
  some false
 else
  Aa N v2 v1 0
theorem Cb(N:Nat)(v1:agU bf)(v2:agU bf)(r:Bool)(J:FT N v1 v2=some r):bD Tryz.prog 115 [(.d (.sl (cm v1))),(.d (.sl (cm v2))),(.fn 116 [])] [] fun r1 h1=>r1=(aU r)∧h1=[]:=by
 rw[FT]at J;refine dS 0 Tryz.func115 (by kernel_rfl) (by kernel_rfl) (agd rfl) ?_;refine ax ak [[],[(4,oL v1 cK),(10,oL v2 cK)]] ?_;refine bc J (fun h1 J=> ?_) fun h1 J=> ?_
 ·cases J;exact bH ak [[(0,bT h1)],[]]
 refine ax ak [[(0,bF h1)],[(4,oL v1 cK)]] ?_;refine dj 0 (cm v1) (by kernel_rfl) fun h2=> ?_;have h3:=cP cK h2;refine c9 ak 1 [] [1,2,15,16,17] 0 (fun((v3,v4):Nat×(agU bf))=>⟨32,[(1,(.d (.sl (cm v2)))),(2,(.fn 116 [])),(15,(.d (.sl (cm v1)))),(16,(ao (v1.length:Int))),(17,(ao (v3:Int)))],[]⟩) (fun((v3,v4):Nat×(agU bf))=>v1.drop v3=v4∧Aa N v2 v4 v3=some r) (fun((v3,v4):Nat×(agU bf))=>v4.length) (0,v1) ⟨rfl,J⟩ ?_;rintro⟨v3,v4⟩ ⟨h4,J⟩ f1 ba;cases v4 with
 |nil=>
  rw[Aa]at J;cases J;exact bH ak [[],[(0,bF (ck h4))],[]]
 |cons v5 v6=>
  rw[Aa]at J;obtain⟨v7,h5,J⟩:=au J;obtain⟨v8,h7,J⟩:=au J;refine ax ak [[],[(0,bT (cf h4))],[(4,oE (rB (bS h4)))],[(7,oE (rB h5))],[(10,cL (afs N v5 v7 v8 h7))]] ?_;refine bc J (fun h8 J=> ?_) fun h8 J=> ?_
  ·exact cU ak ba (v3+1,v6) [[(0,bF (dH h8))],[(2,oq (cx h4 rfl h3))]] ⟨ct h4,J⟩
  cases J;exact bH ak [[(0,bT (dK h8))],[]]
def F4(N:Nat)(v1:Int):agW Bool:=
 some (v1 !=v1)
theorem QT(N:Nat)(v1:Int)(r:Bool)(J:F4 N v1=some r):bA Tryz.prog 216 [(ao v1)] (·=(aU r)):=by
 rw[F4]at J;refine bZ Tryz.func216 (by kernel_rfl) (by kernel_rfl) ?_;cases J;exact wr ak [[],[]]
def m6(N:Nat)(v1:Int)(v2:Int):agW Int:=
 Option.bind (F4 N v1) fun v3=>
 Option.bind (F4 N v2) fun v4=>
 bif v3 then
  bif v4 then
   some (0:Int)
  else
   some (-1:Int)
 else
  bif v4 then
   some (1:Int)
  else
   bif (decide (v1<v2))then
    some (-1:Int)
   else
    bif (decide (v1>v2))then
     some (1:Int)
    else
     some (0:Int)
theorem qd(N:Nat)(v1:Int)(v2:Int)(r:Int)(J:m6 N v1 v2=some r):bA Tryz.prog 184 [(ao v1),(ao v2)] (·=(ao r)):=by
 rw[m6]at J;refine bZ Tryz.func184 (by kernel_rfl) (by kernel_rfl) ?_;obtain⟨v3,h1,J⟩:=au J;obtain⟨v4,h2,J⟩:=au J;refine ax ak [[],[(4,cL (QT N v1 v3 h1))],[(4,cL (QT N v2 v4 h2))],[]] ?_;refine bc J (fun h3 J=> ?_) fun h3 J=> ?_
 ·refine ax ak [[(0,bT h3)],[]] ?_;refine bc J (fun h4 J=> ?_) fun h4 J=> ?_
  ·cases J;exact wr ak [[(0,bT h4)],[]]
  cases J;exact wr ak [[(0,bF h4)],[]]
 refine ax ak [[(0,bF h3)],[]] ?_;refine bc J (fun h5 J=> ?_) fun h5 J=> ?_
 ·cases J;exact wr ak [[(0,bT h5)],[]]
 refine ax ak [[(0,bF h5)],[]] ?_;refine bc J (fun h6 J=> ?_) fun h6 J=> ?_
 ·cases J;exact wr ak [[(0,bT h6)],[]]
 refine ax ak [[(0,bF h6)],[]] ?_;refine bc J (fun h7 J=> ?_) fun h7 J=> ?_
 ·cases J;exact wr ak [[(0,bT h7)],[]]
 cases J;exact wr ak [[(0,bF h7)],[]]
def EW(N:Nat)(v1 v2:agV):agW Int:=some (Dy v1 v2)
theorem L3(N:Nat)(v1 v2:agV)(r:Int)(J:EW N v1 v2=some r):bA Tryz.prog 185 [(bp v1),(bp v2)] (·=(ao r)):=by
 cases J;exact aap v1 v2
def GP(N:Nat)(v1:Int64):agW Bool:=
 some (v1.toInt !=v1.toInt)
theorem TS(N:Nat)(v1:Int64)(r:Bool)(J:GP N v1=some r):bA Tryz.prog 218 [(bt v1)] (·=(aU r)):=by
 rw[GP]at J;refine bZ Tryz.func218 (by kernel_rfl) (by kernel_rfl) ?_;cases J;exact wr ak [[],[]]
def Ey(N:Nat)(v1:Int64)(v2:Int64):agW Int:=
 Option.bind (GP N v1) fun v3=>
 Option.bind (GP N v2) fun v4=>
 bif v3 then
  bif v4 then
   some (0:Int)
  else
   some (-1:Int)
 else
  bif v4 then
   some (1:Int)
  else
   bif (decide (v1.toInt<v2.toInt))then
    some (-1:Int)
   else
    bif (decide (v1.toInt>v2.toInt))then
     some (1:Int)
    else
     some (0:Int)
theorem MV(N:Nat)(v1:Int64)(v2:Int64)(r:Int)(J:Ey N v1 v2=some r):bA Tryz.prog 186 [(bt v1),(bt v2)] (·=(ao r)):=by
 rw[Ey]at J;refine bZ Tryz.func186 (by kernel_rfl) (by kernel_rfl) ?_;obtain⟨v3,h1,J⟩:=au J;obtain⟨v4,h2,J⟩:=au J;refine ax ak [[],[(4,cL (TS N v1 v3 h1))],[(4,cL (TS N v2 v4 h2))],[]] ?_;refine bc J (fun h3 J=> ?_) fun h3 J=> ?_
 ·refine ax ak [[(0,bT h3)],[]] ?_;refine bc J (fun h4 J=> ?_) fun h4 J=> ?_
  ·cases J;exact wr ak [[(0,bT h4)],[]]
  cases J;exact wr ak [[(0,bF h4)],[]]
 refine ax ak [[(0,bF h3)],[]] ?_;refine bc J (fun h5 J=> ?_) fun h5 J=> ?_
 ·cases J;exact wr ak [[(0,bT h5)],[]]
 refine ax ak [[(0,bF h5)],[]] ?_;refine bc J (fun h6 J=> ?_) fun h6 J=> ?_
 ·cases J;exact wr ak [[(0,bT h6)],[]]
 refine ax ak [[(0,bF h6)],[]] ?_;refine bc J (fun h7 J=> ?_) fun h7 J=> ?_
 ·cases J;exact wr ak [[(0,bT h7)],[]]
 cases J;exact wr ak [[(0,bF h7)],[]]
def CC(N:Nat):agU Int→Nat→agW Int
 |[],_=>
  some (0:Int)
 |v4::v5,v2=>
  bif (v4 !=(0:Int))then
   some v4
  else
   (CC N v5 (v2+1))
def EM(N:Nat)(v1:agU Int):agW Int:=
 CC N v1 0
theorem Nt(N:Nat)(v1:agU Int)(r:Int)(J:EM N v1=some r):bA Tryz.prog 183 [(.d (.sl (nw v1)))] (·=(ao r)):=by
 rw[EM]at J;refine bZ Tryz.func183 (by kernel_rfl) (by kernel_rfl) ?_;refine ax ak [[],[],[(4,oL v1 xJ)]] ?_;refine dj 0 (nw v1) (by kernel_rfl) fun h1=> ?_;have h2:=cP xJ h1;refine c9 ak 1 [] [3,6,7,8] 0 (fun((v2,v3):Nat×(agU Int))=>⟨18,[(3,(ao (0:Int))),(6,(.d (.sl (nw v1)))),(7,(ao (v1.length:Int))),(8,(ao (v2:Int)))],[]⟩) (fun((v2,v3):Nat×(agU Int))=>v1.drop v2=v3∧CC N v3 v2=some r) (fun((v2,v3):Nat×(agU Int))=>v3.length) (0,v1) ⟨rfl,J⟩ ?_;rintro⟨v2,v3⟩ ⟨h3,J⟩ f1 ba;cases v3 with
 |nil=>
  rw[CC]at J;cases J;exact wr ak [[],[(0,bF (ck h3))],[]]
 |cons v4 v5=>
  rw[CC]at J;refine ax ak [[],[(0,bT (cf h3))],[(1,oE (J9 (bS h3)))],[]] ?_;refine bc J (fun h4 J=> ?_) fun h4 J=> ?_
  ·cases J;exact wr ak [[(0,bT h4)],[]]
  exact cU ak ba (v2+1,v5) [[(0,bF h4)],[(2,oq (cx h3 rfl h2))]] ⟨ct h3,J⟩
def L9(N:Nat)(v1:bn)(v2:bn):agW Int:=
 Option.bind (m6 N v1.bW v2.bW) fun v3=>
 Option.bind (m6 N v1.ca v2.ca) fun v4=>
 Option.bind (m6 N v1.cF v2.cF) fun v5=>
 Option.bind (m6 N v1.cE v2.cE) fun v6=>
 Option.bind (m6 N v1.cJ v2.cJ) fun v7=>
 Option.bind (EM N ([v3,v4,v5,v6,v7])) fun v8=>
 some v8
theorem acZ(N:Nat)(v1:bn)(v2:bn)(r:Int)(J:L9 N v1 v2=some r):bA Tryz.prog 187 [(gO v1),(gO v2)] (·=(ao r)):=by
 rw[L9]at J;refine bZ Tryz.func187 (by kernel_rfl) (by kernel_rfl) ?_;obtain⟨v3,h1,J⟩:=au J;obtain⟨v4,h2,J⟩:=au J;obtain⟨v5,h3,J⟩:=au J;obtain⟨v6,h4,J⟩:=au J;obtain⟨v7,h5,J⟩:=au J;obtain⟨v8,h6,J⟩:=au J;obtain rfl:=sj J;exact wr ak [[],[(13,cL (qd N v1.bW v2.bW v3 h1)),(28,cL (qd N v1.ca v2.ca v4 h2)),(43,cL (qd N v1.cF v2.cF v5 h3)),(58,cL (qd N v1.cE v2.cE v6 h4)),(73,cL (qd N v1.cJ v2.cJ v7 h5)),(79,cL (Nt N ([v3,v4,v5,v6,v7]) v8 h6))]]
def C3(N:Nat)(v1:Int64)(v2:Int64):agW Int:=
 bif (decide (v1.toInt<v2.toInt))then
  some (-1:Int)
 else
  bif (decide (v1.toInt>v2.toInt))then
   some (1:Int)
  else
   some (0:Int)
theorem QB(N:Nat)(v1:Int64)(v2:Int64)(r:Int)(J:C3 N v1 v2=some r):bA Tryz.prog 221 [(bt v1),(bt v2)] (·=(ao r)):=by
 rw[C3]at J;refine bZ Tryz.func221 (by kernel_rfl) (by kernel_rfl) ?_;refine ax ak [[],[]] ?_;refine bc J (fun h1 J=> ?_) fun h1 J=> ?_
 ·cases J;exact wr ak [[(0,bT h1)],[]]
 refine ax ak [[(0,bF h1)],[]] ?_;refine bc J (fun h2 J=> ?_) fun h2 J=> ?_
 ·cases J;exact wr ak [[(0,bT h2)],[]]
 cases J;exact wr ak [[(0,bF h2)],[]]
def Mg(N:Nat)(v1:aF)(v2:aF):agW Int:=
 bif (bL v1.aq==bL v2.aq)then
  Option.bind (C3 N v1.cZ v2.cZ) fun v3=>
  some v3
 else
  Option.bind (EW N v1.aq v2.aq) fun v4=>
  some v4
theorem XM(N:Nat)(v1:aF)(v2:aF)(r:Int)(J:Mg N v1 v2=some r):bA Tryz.prog 220 [(mh v1),(mh v2)] (·=(ao r)):=by
 rw[Mg]at J;refine bZ Tryz.func220 (by kernel_rfl) (by kernel_rfl) ?_;refine ax ak [[],[]] ?_;refine bc J (fun h1 J=> ?_) fun h1 J=> ?_
 ·obtain⟨v3,h2,J⟩:=au J;obtain rfl:=sj J;exact wr ak [[(0,bF (dH h1))],[(13,cL (QB N v1.cZ v2.cZ v3 h2))]]
 obtain⟨v4,h3,J⟩:=au J;obtain rfl:=sj J;exact wr ak [[(0,bT (dK h1))],[(13,cL (L3 N v1.aq v2.aq v4 h3))]]
def AS(N:Nat)(v1:agU aF)(v2:agU aF):agU aF→Nat→agW Int
 |[],_=>
  bif (decide ((v1.length:Int)<(v2.length:Int)))then
   some (-1:Int)
  else
   some (0:Int)
 |v5::v6,v3=>
  bif (decide ((v3:Int)≥(v2.length:Int)))then
   some (1:Int)
  else
   Option.bind (v2[((v3:Int)).toNat]?) fun v7=>
   Option.bind (Mg N v5 v7) fun v8=>
   bif (v8 !=(0:Int))then
    some v8
   else
    (AS N v1 v2 v6 (v3+1))
def Hp(N:Nat)(v1:agU aF)(v2:agU aF):agW Int:=
 AS N v1 v2 v1 0
theorem aay(N:Nat)(v1:agU aF)(v2:agU aF)(r:Int)(J:Hp N v1 v2=some r):bD Tryz.prog 219 [(.d (.sl (bJ v1))),(.d (.sl (bJ v2))),(.fn 220 [])] [] fun r1 h1=>r1=(ao r)∧h1=[]:=by
 rw[Hp]at J;refine dS 0 Tryz.func219 (by kernel_rfl) (by kernel_rfl) (agd rfl) ?_;refine ax ak [[],[(4,oL v1 cS)]] ?_;refine dj 0 (bJ v1) (by kernel_rfl) fun h1=> ?_;have h2:=cP cS h1;refine c9 ak 1 [] [0,1,2,11,12,13] 0 (fun((v3,v4):Nat×(agU aF))=>⟨39,[(0,(.d (.sl (bJ v1)))),(1,(.d (.sl (bJ v2)))),(2,(.fn 220 [])),(11,(.d (.sl (bJ v1)))),(12,(ao (v1.length:Int))),(13,(ao (v3:Int)))],[]⟩) (fun((v3,v4):Nat×(agU aF))=>v1.drop v3=v4∧AS N v1 v2 v4 v3=some r) (fun((v3,v4):Nat×(agU aF))=>v4.length) (0,v1) ⟨rfl,J⟩ ?_;rintro⟨v3,v4⟩ ⟨h3,J⟩ f1 ba;cases v4 with
 |nil=>
  rw[AS]at J;refine ax ak [[],[(0,bF (ck h3))],[(4,oL v1 cS),(10,oL v2 cS)]] ?_;refine bc J (fun h4 J=> ?_) fun h4 J=> ?_
  ·cases J;exact bH ak [[(0,bT h4)],[]]
  cases J;exact bH ak [[(0,bF h4)],[]]
 |cons v5 v6=>
  rw[AS]at J;refine ax ak [[],[(0,bT (cf h3))],[(4,oE (gV (bS h3)))],[(7,oL v2 cS)]] ?_;refine bc J (fun h5 J=> ?_) fun h5 J=> ?_
  ·cases J;exact bH ak [[(0,bT h5)],[]]
  obtain⟨v7,h6,J⟩:=au J;obtain⟨v8,h8,J⟩:=au J;refine ax ak [[(0,bF h5)],[(7,oE (gV h6))],[(10,cL (XM N v5 v7 v8 h8))],[]] ?_;refine bc J (fun h9 J=> ?_) fun h9 J=> ?_
  ·cases J;exact bH ak [[(0,bT h9)],[]]
  exact cU ak ba (v3+1,v6) [[(0,bF h9)],[(2,oq (cx h3 rfl h2))]] ⟨ct h3,J⟩
def zg(N:Nat)(v1:aw)(v2:aw):agW Int:=
 Option.bind (Hp N v1.xL v2.xL) fun v3=>
 bif (v3 !=(0:Int))then
  some v3
 else
  Option.bind (C3 N v1.xK v2.xK) fun v4=>
  some v4
theorem Ki(N:Nat)(v1:aw)(v2:aw)(r:Int)(J:zg N v1 v2=some r):bA Tryz.prog 188 [(bY v1),(bY v2)] (·=(ao r)):=by
 rw[zg]at J;refine bZ Tryz.func188 (by kernel_rfl) (by kernel_rfl) ?_;obtain⟨v3,h1,J⟩:=au J;refine ax ak [[],[(13,⟨_,_, .rq (cb:=[(.d (.sl (bJ v1.xL))),(.d (.sl (bJ v2.xL))),(.fn 220 [])]) (h:=[.cells (bY v1).cells, .cells (bY v2).cells]) (l:=[]) (by kernel_rfl) (by kernel_rfl) (by kernel_rfl) (by kernel_rfl) (aay N v1.xL v2.xL v3 h1)⟩)],[]] ?_;refine bc J (fun h2 J=> ?_) fun h2 J=> ?_
 ·cases J;exact wr ak [[(0,bT h2)],[]]
 obtain⟨v4,h3,J⟩:=au J;obtain rfl:=sj J;exact wr ak [[(0,bF h2)],[(13,cL (QB N v1.xK v2.xK v4 h3))]]
def Ac(N:Nat)(v1:agU aw)(v2:agU aw):agU aw→Nat→agW Int
 |[],_=>
  bif (decide ((v1.length:Int)<(v2.length:Int)))then
   some (-1:Int)
  else
   some (0:Int)
 |v5::v6,v3=>
  bif (decide ((v3:Int)≥(v2.length:Int)))then
   some (1:Int)
  else
   Option.bind (v2[((v3:Int)).toNat]?) fun v7=>
   Option.bind (zg N v5 v7) fun v8=>
   bif (v8 !=(0:Int))then
    some v8
   else
    (Ac N v1 v2 v6 (v3+1))
def JB(N:Nat)(v1:agU aw)(v2:agU aw):agW Int:=
 Ac N v1 v2 v1 0
theorem YO(N:Nat)(v1:agU aw)(v2:agU aw)(r:Int)(J:JB N v1 v2=some r):bD Tryz.prog 243 [(.d (.sl (cH v1))),(.d (.sl (cH v2))),(.fn 188 [])] [] fun r1 h1=>r1=(ao r)∧h1=[]:=by
 rw[JB]at J;refine dS 0 Tryz.func243 (by kernel_rfl) (by kernel_rfl) (agd rfl) ?_;refine ax ak [[],[(4,oL v1 cd)]] ?_;refine dj 0 (cH v1) (by kernel_rfl) fun h1=> ?_;have h2:=cP cd h1;refine c9 ak 1 [] [0,1,2,11,12,13] 0 (fun((v3,v4):Nat×(agU aw))=>⟨39,[(0,(.d (.sl (cH v1)))),(1,(.d (.sl (cH v2)))),(2,(.fn 188 [])),(11,(.d (.sl (cH v1)))),(12,(ao (v1.length:Int))),(13,(ao (v3:Int)))],[]⟩) (fun((v3,v4):Nat×(agU aw))=>v1.drop v3=v4∧Ac N v1 v2 v4 v3=some r) (fun((v3,v4):Nat×(agU aw))=>v4.length) (0,v1) ⟨rfl,J⟩ ?_;rintro⟨v3,v4⟩ ⟨h3,J⟩ f1 ba;cases v4 with
 |nil=>
  rw[Ac]at J;refine ax ak [[],[(0,bF (ck h3))],[(4,oL v1 cd),(10,oL v2 cd)]] ?_;refine bc J (fun h4 J=> ?_) fun h4 J=> ?_
  ·cases J;exact bH ak [[(0,bT h4)],[]]
  cases J;exact bH ak [[(0,bF h4)],[]]
 |cons v5 v6=>
  rw[Ac]at J;refine ax ak [[],[(0,bT (cf h3))],[(4,oE (ku (bS h3)))],[(7,oL v2 cd)]] ?_;refine bc J (fun h5 J=> ?_) fun h5 J=> ?_
  ·cases J;exact bH ak [[(0,bT h5)],[]]
  obtain⟨v7,h6,J⟩:=au J;obtain⟨v8,h8,J⟩:=au J;refine ax ak [[(0,bF h5)],[(7,oE (ku h6))],[(10,cL (Ki N v5 v7 v8 h8))],[]] ?_;refine bc J (fun h9 J=> ?_) fun h9 J=> ?_
  ·cases J;exact bH ak [[(0,bT h9)],[]]
  exact cU ak ba (v3+1,v6) [[(0,bF h9)],[(2,oq (cx h3 rfl h2))]] ⟨ct h3,J⟩
def H0(N:Nat)(v1:agU aw)(v2:agU aw):agW Int:=
 Option.bind (m6 N (v1.length:Int) (v2.length:Int)) fun v3=>
 bif (v3 !=(0:Int))then
  some v3
 else
  Option.bind (JB N v1 v2) fun v4=>
  some v4
theorem Zx(N:Nat)(v1:agU aw)(v2:agU aw)(r:Int)(J:H0 N v1 v2=some r):bD Tryz.prog 223 [(.d (.sl (cH v1))),(.d (.sl (cH v2))),(.fn 188 [])] [] fun r1 h1=>r1=(ao r)∧h1=[]:=by
 rw[H0]at J;refine dS 0 Tryz.func223 (by kernel_rfl) (by kernel_rfl) (agd rfl) ?_;obtain⟨v3,h1,J⟩:=au J;refine ax ak [[],[(4,oL v1 cd),(10,oL v2 cd),(13,cL (qd N (v1.length:Int) (v2.length:Int) v3 h1))],[]] ?_;refine bc J (fun h2 J=> ?_) fun h2 J=> ?_
 ·cases J;exact bH ak [[(0,bT h2)],[]]
 obtain⟨v4,h3,J⟩:=au J;obtain rfl:=sj J;exact bH ak [[(0,bF h2)],[(10,⟨_,_, .rq (cb:=[(.d (.sl (cH v1))),(.d (.sl (cH v2))),(.fn 188 [])]) (h:=[]) (l:=[]) (by kernel_rfl) (by kernel_rfl) (by kernel_rfl) (by kernel_rfl) (YO N v1 v2 v4 h3)⟩)]]
def Mi(N:Nat)(v1:az)(v2:az):agW Int:=
 Option.bind (EW N v1.aV v2.aV) fun v3=>
 bif (v3 !=(0:Int))then
  some v3
 else
  Option.bind (zg N v1.aL v2.aL) fun v4=>
  bif (v4 !=(0:Int))then
   some v4
  else
   Option.bind (H0 N v1.bj v2.bj) fun v5=>
   some v5
theorem aeb(N:Nat)(v1:az)(v2:az)(r:Int)(J:Mi N v1 v2=some r):bA Tryz.prog 190 [(eC v1),(eC v2)] (·=(ao r)):=by
 rw[Mi]at J;refine bZ Tryz.func190 (by kernel_rfl) (by kernel_rfl) ?_;obtain⟨v3,h1,J⟩:=au J;refine ax ak [[],[(13,cL (L3 N v1.aV v2.aV v3 h1))],[]] ?_;refine bc J (fun h2 J=> ?_) fun h2 J=> ?_
 ·cases J;exact wr ak [[(0,bT h2)],[]]
 obtain⟨v4,h3,J⟩:=au J;refine ax ak [[(0,bF h2)],[(13,cL (Ki N v1.aL v2.aL v4 h3))],[]] ?_;refine bc J (fun h4 J=> ?_) fun h4 J=> ?_
 ·cases J;exact wr ak [[(0,bT h4)],[]]
 obtain⟨v5,h5,J⟩:=au J;obtain rfl:=sj J;exact wr ak [[(0,bF h4)],[(13,⟨_,_, .rq (cb:=[(.d (.sl (cH v1.bj))),(.d (.sl (cH v2.bj))),(.fn 188 [])]) (h:=[.cells (eC v1).cells, .cells (eC v2).cells]) (l:=[]) (by kernel_rfl) (by kernel_rfl) (by kernel_rfl) (by kernel_rfl) (Zx N v1.bj v2.bj v5 h5)⟩)]]
def zY(N:Nat)(v1:agU az)(v2:agU az):agU az→Nat→agW Int
 |[],_=>
  bif (decide ((v1.length:Int)<(v2.length:Int)))then
   some (-1:Int)
  else
   some (0:Int)
 |v5::v6,v3=>
  bif (decide ((v3:Int)≥(v2.length:Int)))then
   some (1:Int)
  else
   Option.bind (v2[((v3:Int)).toNat]?) fun v7=>
   Option.bind (Mi N v5 v7) fun v8=>
   bif (v8 !=(0:Int))then
    some v8
   else
    (zY N v1 v2 v6 (v3+1))
def Io(N:Nat)(v1:agU az)(v2:agU az):agW Int:=
 zY N v1 v2 v1 0
theorem V3(N:Nat)(v1:agU az)(v2:agU az)(r:Int)(J:Io N v1 v2=some r):bD Tryz.prog 222 [(.d (.sl (bC v1))),(.d (.sl (bC v2))),(.fn 190 [])] [] fun r1 h1=>r1=(ao r)∧h1=[]:=by
 rw[Io]at J;refine dS 0 Tryz.func222 (by kernel_rfl) (by kernel_rfl) (agd rfl) ?_;refine ax ak [[],[(4,oL v1 cW)]] ?_;refine dj 0 (bC v1) (by kernel_rfl) fun h1=> ?_;have h2:=cP cW h1;refine c9 ak 1 [] [0,1,2,11,12,13] 0 (fun((v3,v4):Nat×(agU az))=>⟨39,[(0,(.d (.sl (bC v1)))),(1,(.d (.sl (bC v2)))),(2,(.fn 190 [])),(11,(.d (.sl (bC v1)))),(12,(ao (v1.length:Int))),(13,(ao (v3:Int)))],[]⟩) (fun((v3,v4):Nat×(agU az))=>v1.drop v3=v4∧zY N v1 v2 v4 v3=some r) (fun((v3,v4):Nat×(agU az))=>v4.length) (0,v1) ⟨rfl,J⟩ ?_;rintro⟨v3,v4⟩ ⟨h3,J⟩ f1 ba;cases v4 with
 |nil=>
  rw[zY]at J;refine ax ak [[],[(0,bF (ck h3))],[(4,oL v1 cW),(10,oL v2 cW)]] ?_;refine bc J (fun h4 J=> ?_) fun h4 J=> ?_
  ·cases J;exact bH ak [[(0,bT h4)],[]]
  cases J;exact bH ak [[(0,bF h4)],[]]
 |cons v5 v6=>
  rw[zY]at J;refine ax ak [[],[(0,bT (cf h3))],[(4,oE (ik (bS h3)))],[(7,oL v2 cW)]] ?_;refine bc J (fun h5 J=> ?_) fun h5 J=> ?_
  ·cases J;exact bH ak [[(0,bT h5)],[]]
  obtain⟨v7,h6,J⟩:=au J;obtain⟨v8,h8,J⟩:=au J;refine ax ak [[(0,bF h5)],[(7,oE (ik h6))],[(10,cL (aeb N v5 v7 v8 h8))],[]] ?_;refine bc J (fun h9 J=> ?_) fun h9 J=> ?_
  ·cases J;exact bH ak [[(0,bT h9)],[]]
  exact cU ak ba (v3+1,v6) [[(0,bF h9)],[(2,oq (cx h3 rfl h2))]] ⟨ct h3,J⟩
def HW(N:Nat)(v1:agU az)(v2:agU az):agW Int:=
 Option.bind (m6 N (v1.length:Int) (v2.length:Int)) fun v3=>
 bif (v3 !=(0:Int))then
  some v3
 else
  Option.bind (Io N v1 v2) fun v4=>
  some v4
theorem Zs(N:Nat)(v1:agU az)(v2:agU az)(r:Int)(J:HW N v1 v2=some r):bD Tryz.prog 189 [(.d (.sl (bC v1))),(.d (.sl (bC v2))),(.fn 190 [])] [] fun r1 h1=>r1=(ao r)∧h1=[]:=by
 rw[HW]at J;refine dS 0 Tryz.func189 (by kernel_rfl) (by kernel_rfl) (agd rfl) ?_;obtain⟨v3,h1,J⟩:=au J;refine ax ak [[],[(4,oL v1 cW),(10,oL v2 cW),(13,cL (qd N (v1.length:Int) (v2.length:Int) v3 h1))],[]] ?_;refine bc J (fun h2 J=> ?_) fun h2 J=> ?_
 ·cases J;exact bH ak [[(0,bT h2)],[]]
 obtain⟨v4,h3,J⟩:=au J;obtain rfl:=sj J;exact bH ak [[(0,bF h2)],[(10,⟨_,_, .rq (cb:=[(.d (.sl (bC v1))),(.d (.sl (bC v2))),(.fn 190 [])]) (h:=[]) (l:=[]) (by kernel_rfl) (by kernel_rfl) (by kernel_rfl) (by kernel_rfl) (V3 N v1 v2 v4 h3)⟩)]]
def zT(N:Nat)(v1:agU ar)(v2:agU ar)(Nz:ar→ar→agW Int):agU ar→Nat→agW Int
 |[],_=>
  bif (decide ((v1.length:Int)<(v2.length:Int)))then
   some (-1:Int)
  else
   some (0:Int)
 |v5::v6,v3=>
  bif (decide ((v3:Int)≥(v2.length:Int)))then
   some (1:Int)
  else
   Option.bind (v2[((v3:Int)).toNat]?) fun v7=>
   Option.bind (Nz v5 v7) fun v8=>
   bif (v8 !=(0:Int))then
    some v8
   else
    (zT N v1 v2 Nz v6 (v3+1))
mutual
def vM(N:Nat):Nat→ar→ar→agW Int
 |0,_,_=>none
 |d+1,v1,v2=>
  Option.bind (m6 N v1.aQ v2.aQ) fun v3=>
  Option.bind (EW N v1.aq v2.aq) fun v4=>
  Option.bind (Ey N v1.dm.xN v2.dm.xN) fun v5=>
  Option.bind (Ey N v1.dm.xD v2.dm.xD) fun v6=>
  Option.bind (L9 N v1.aC v2.aC) fun v7=>
  Option.bind (zg N v1.aL v2.aL) fun v8=>
  Option.bind (EM N ([v3,v4,v5,v6,v7,v8])) fun v9=>
  bif (v9 !=(0:Int))then
   some v9
  else
   Option.bind (HW N v1.xIdx v2.xIdx) fun v10=>
   bif (v10 !=(0:Int))then
    some v10
   else
    Option.bind ((FI N d) v1.a7 v2.a7) fun v11=>
    some v11
def FI(N:Nat):Nat→(agU ar)→(agU ar)→agW Int
 |0,_,_=>none
 |d+1,v1,v2=>
  Option.bind (m6 N (v1.length:Int) (v2.length:Int)) fun v3=>
  bif (v3 !=(0:Int))then
   some v3
  else
   Option.bind ((F8 N d) v1 v2) fun v4=>
   some v4
def F8(N:Nat):Nat→(agU ar)→(agU ar)→agW Int
 |0,_,_=>none
 |d+1,v1,v2=>
  zT N v1 v2 (vM N d) v1 0
end
def O8(N:Nat)(v1:ar)(v2:ar):agW Int:=vM N N v1 v2
theorem ab4(N:Nat):∀d:Nat,(∀(v1:ar)(v2:ar)(r:Int),vM N d v1 v2=some r→bA Tryz.prog 146 [(aD v1),(aD v2)] (·=(ao r)))∧(∀(v1:agU ar)(v2:agU ar)(r:Int),FI N d v1 v2=some r→bD Tryz.prog 191 [(.d (.sl (cQ v1))),(.d (.sl (cQ v2))),(.fn 146 [])] [] fun r1 h1=>r1=(ao r)∧h1=[])∧(∀(v1:agU ar)(v2:agU ar)(r:Int),F8 N d v1 v2=some r→bD Tryz.prog 224 [(.d (.sl (cQ v1))),(.d (.sl (cQ v2))),(.fn 146 [])] [] fun r1 h1=>r1=(ao r)∧h1=[]):=by
 intro d
 induction d with
 |zero=>exact⟨fun v1 v2 r J=>(by rw[vM]at J;cases J),fun v1 v2 r J=>(by rw[FI]at J;cases J),fun v1 v2 r J=>(by rw[F8]at J;cases J)⟩
 |succ d ih=>
  have adl:=ih.1;have YP:=ih.2.1;have Y1:=ih.2.2;refine⟨?_,?_,?_⟩
  ·intro v1 v2 r J;rw[vM]at J;refine bZ Tryz.func146 (by kernel_rfl) (by kernel_rfl) ?_;obtain⟨v3,h1,J⟩:=au J;obtain⟨v4,h2,J⟩:=au J;obtain⟨v5,h3,J⟩:=au J;obtain⟨v6,h4,J⟩:=au J;obtain⟨v7,h5,J⟩:=au J;obtain⟨v8,h6,J⟩:=au J;obtain⟨v9,h7,J⟩:=au J;refine ax ak [[],[(13,cL (qd N v1.aQ v2.aQ v3 h1)),(28,cL (L3 N v1.aq v2.aq v4 h2)),(49,cL (MV N v1.dm.xN v2.dm.xN v5 h3)),(70,cL (MV N v1.dm.xD v2.dm.xD v6 h4)),(85,cL (acZ N v1.aC v2.aC v7 h5)),(100,cL (Ki N v1.aL v2.aL v8 h6)),(106,cL (Nt N ([v3,v4,v5,v6,v7,v8]) v9 h7))],[]] ?_;refine bc J (fun h8 J=> ?_) fun h8 J=> ?_
   ·cases J;exact wr ak [[(0,bT h8)],[]]
   obtain⟨v10,h9,J⟩:=au J;refine ax ak [[(0,bF h8)],[(13,⟨_,_, .rq (cb:=[(.d (.sl (bC v1.xIdx))),(.d (.sl (bC v2.xIdx))),(.fn 190 [])]) (h:=[.cells (aD v1).cells, .cells (aD v2).cells]) (l:=[]) (by kernel_rfl) (by kernel_rfl) (by kernel_rfl) (by kernel_rfl) (Zs N v1.xIdx v2.xIdx v10 h9)⟩)],[]] ?_;refine bc J (fun aJ J=> ?_) fun aJ J=> ?_
   ·cases J;exact wr ak [[(0,bT aJ)],[]]
   obtain⟨v11,bQ,J⟩:=au J;obtain rfl:=sj J;exact wr ak [[(0,bF aJ)],[(13,⟨_,_, .rq (cb:=[(.d (.sl (cQ v1.a7))),(.d (.sl (cQ v2.a7))),(.fn 146 [])]) (h:=[.cells (aD v1).cells, .cells (aD v2).cells]) (l:=[]) (by kernel_rfl) (by kernel_rfl) (by kernel_rfl) (by kernel_rfl) (YP v1.a7 v2.a7 v11 bQ)⟩)]]
  ·intro v1 v2 r J;rw[FI]at J;refine dS 0 Tryz.func191 (by kernel_rfl) (by kernel_rfl) (agd rfl) ?_;obtain⟨v3,h1,J⟩:=au J;refine ax ak [[],[(4,oL v1 da),(10,oL v2 da),(13,cL (qd N (v1.length:Int) (v2.length:Int) v3 h1))],[]] ?_;refine bc J (fun h2 J=> ?_) fun h2 J=> ?_
   ·cases J;exact bH ak [[(0,bT h2)],[]]
   obtain⟨v4,h3,J⟩:=au J;obtain rfl:=sj J;exact bH ak [[(0,bF h2)],[(10,⟨_,_, .rq (cb:=[(.d (.sl (cQ v1))),(.d (.sl (cQ v2))),(.fn 146 [])]) (h:=[]) (l:=[]) (by kernel_rfl) (by kernel_rfl) (by kernel_rfl) (by kernel_rfl) (Y1 v1 v2 v4 h3)⟩)]]
  intro v1 v2 r J;rw[F8]at J;refine dS 0 Tryz.func224 (by kernel_rfl) (by kernel_rfl) (agd rfl) ?_;refine ax ak [[],[(4,oL v1 da)]] ?_;refine dj 0 (cQ v1) (by kernel_rfl) fun h1=> ?_;have h2:=cP da h1;refine c9 ak 1 [] [0,1,2,11,12,13] 0 (fun((v3,v4):Nat×(agU ar))=>⟨39,[(0,(.d (.sl (cQ v1)))),(1,(.d (.sl (cQ v2)))),(2,(.fn 146 [])),(11,(.d (.sl (cQ v1)))),(12,(ao (v1.length:Int))),(13,(ao (v3:Int)))],[]⟩) (fun((v3,v4):Nat×(agU ar))=>v1.drop v3=v4∧zT N v1 v2 (vM N d) v4 v3=some r) (fun((v3,v4):Nat×(agU ar))=>v4.length) (0,v1) ⟨rfl,J⟩ ?_;rintro⟨v3,v4⟩ ⟨h3,J⟩ f1 ba;cases v4 with
  |nil=>
   rw[zT]at J;refine ax ak [[],[(0,bF (ck h3))],[(4,oL v1 da),(10,oL v2 da)]] ?_;refine bc J (fun h4 J=> ?_) fun h4 J=> ?_
   ·cases J;exact bH ak [[(0,bT h4)],[]]
   cases J;exact bH ak [[(0,bF h4)],[]]
  |cons v5 v6=>
   rw[zT]at J;refine ax ak [[],[(0,bT (cf h3))],[(4,oE (lh (bS h3)))],[(7,oL v2 da)]] ?_;refine bc J (fun h5 J=> ?_) fun h5 J=> ?_
   ·cases J;exact bH ak [[(0,bT h5)],[]]
   obtain⟨v7,h6,J⟩:=au J;obtain⟨v8,h8,J⟩:=au J;refine ax ak [[(0,bF h5)],[(7,oE (lh h6))],[(10,cL (adl v5 v7 v8 h8))],[]] ?_;refine bc J (fun h9 J=> ?_) fun h9 J=> ?_
   ·cases J;exact bH ak [[(0,bT h9)],[]]
   exact cU ak ba (v3+1,v6) [[(0,bF h9)],[(2,oq (cx h3 rfl h2))]] ⟨ct h3,J⟩
theorem XY(N:Nat)(v1:ar)(v2:ar)(r:Int)(J:O8 N v1 v2=some r):bA Tryz.prog 146 [(aD v1),(aD v2)] (·=(ao r)):=(ab4 N N).1 v1 v2 r J
end Go.Proofs.YtphmhnabilhbgaaGreatDoor
