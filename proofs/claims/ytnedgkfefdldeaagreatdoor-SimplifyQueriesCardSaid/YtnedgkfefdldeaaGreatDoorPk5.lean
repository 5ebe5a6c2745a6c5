/-
  Part 5 of the proof: PVal1.
-/
import Derived.Test.YtnedgkfefdldeaaGreatDoorPk4
/-! PVal1: Functions of the program as Lean functions, each with its proof. Written by a program (wip/abs/dc3.py). -/
namespace Go.Proofs.YtnedgkfefdldeaaGreatDoor
open Go.RowKit
set_option maxRecDepth 100000
set_option maxHeartbeats 0
set_option linter.unusedVariables false
def g_expr_depth_L1 (N : Nat) (rec2 : ExprD → Int → Option Int) (v2 : Int) : List ExprD → Nat → Int → Option Int
 | [], _, v7 =>
  some v7
 | v5 :: v6, v3, v7 =>
  Option.bind (rec2 v5 (w64 (v2 - (1 : Int)))) fun v8 =>
  (fun b1_0 => g_expr_depth_L1 N rec2 v2 v6 (v3 + 1) b1_0) (if (w64 ((1 : Int) + v8)) > v7 then (w64 ((1 : Int) + v8)) else v7)
def g_expr_depthR (N : Nat) : Nat → ExprD → Int → Option Int
 | 0, _, _ => none
 | d + 1, v1, v2 =>
  bif (decide (v2 ≤ (1 : Int))) then
   some v2
  else
   g_expr_depth_L1 N (g_expr_depthR N d) v2 v1.xArgs 0 (1 : Int)
def g_expr_depth (N : Nat) (v1 : ExprD) (v2 : Int) : Option Int := g_expr_depthR N N v1 v2
theorem g_expr_depthR_all (N : Nat) : ∀ d : Nat, (∀ (v1 : ExprD) (v2 : Int) (r : Int), g_expr_depthR N d v1 v2 = some r → AFn Tryz.prog 90 [(aExpr v1), (aInt v2)] (· = (aInt r))) := by
 intro d
 induction d with
 | zero => intro v1 v2 r hF; rw [g_expr_depthR] at hF; cases hF
 | succ d ih =>
  have ih2 := ih
  intro v1 v2 r hF
  rw [g_expr_depthR] at hF
  refine afn_of Tryz.func90 rfl (by kernel_rfl) ?_
  refine aw_cut [0, 1] 0 (Nat.le_refl _) (s' := ⟨27, [(0, (aExpr v1)), (1, (aInt v2))], []⟩) (by kernel_rfl) ?_
  refine aw_seq ?_
  refine rg [] [(2, (.ptr 0 0))] [.cells (aExpr v1).cells] (by kernel_rfl) ?_
  refine aw_seq ?_
  refine aw_seq ?_
  refine rg [] [(9, (aBool (decide (v2 ≤ (1 : Int)))))] [.cells (aExpr v1).cells] (by kernel_rfl) ?_
  rcases bool_cases (decide (v2 ≤ (1 : Int))) with h1 | h1
  · replace hF := (cond_t h1).symm.trans hF
    refine aw_cond_h (t := (decide (v2 ≤ (1 : Int)))) (by kernel_rfl) h1 ?_
    refine aw_seq ?_
    refine rg [] [(4, (aInt v2))] [.cells (aExpr v1).cells] (by kernel_rfl) ?_
    refine aw_ret (at_r ?_)
    have hr := Option.some.inj hF; subst hr; exact ret_ok (by kernel_rfl)
  · replace hF := (cond_f h1).symm.trans hF
    refine aw_cond_g (t := (decide (v2 ≤ (1 : Int)))) (by kernel_rfl) h1 ?_
    refine aw_skip ?_
    refine at_n ?_
    refine aw_seq ?_
    refine rg [] [(5, (aInt (1 : Int)))] [.cells (aExpr v1).cells] (by kernel_rfl) ?_
    refine aw_seq ?_
    refine aw_seq ?_
    refine rg [(7, ⟨_, _, .len (xs := dExprs v1.xArgs) dExprs_len⟩)] [(12, (.d (.sl (dExprs v1.xArgs)))), (13, (aInt (v1.xArgs.length : Int))), (14, (aInt (0 : Int)))] [.cells (aExpr v1).cells] (by kernel_rfl) ?_
    refine aw_block ?_
    refine aw_okT 12 (dExprs v1.xArgs) (by kernel_rfl) fun h2 => ?_
    have h3 : v1.xArgs.length ≤ maxLen := by rw [← dExprs_len]; exact ok_len h2
    refine aw_loopC [1, 5, 12, 13, 14] 1 (fun ((v3, v4, v7) : Nat × (List ExprD) × Int) => ⟨27, [(1, (aInt v2)), (5, (aInt v7)), (12, (.d (.sl (dExprs v1.xArgs)))), (13, (aInt (v1.xArgs.length : Int))), (14, (aInt (v3 : Int)))], [.cells (aExpr v1).cells]⟩) (fun ((v3, v4, v7) : Nat × (List ExprD) × Int) => v1.xArgs.drop v3 = v4 ∧ g_expr_depth_L1 N (g_expr_depthR N d) v2 v4 v3 v7 = some r) (fun ((v3, v4, v7) : Nat × (List ExprD) × Int) => v4.length) (0, v1.xArgs, (1 : Int)) (Nat.le_of_ble_eq_true rfl) (by kernel_rfl) ⟨rfl, hF⟩ ?_
    rintro ⟨v3, v4, v7⟩ ⟨h4, hF⟩
    cases v4 with
    | nil =>
     rw [g_expr_depth_L1] at hF
     refine aw_seq ?_
     refine rg [] [(15, (aBool (decide ((v3 : Int) < (v1.xArgs.length : Int)))))] [.cells (aExpr v1).cells] (by kernel_rfl) ?_
     refine aw_seq ?_
     refine aw_cond_g (t := (decide ((v3 : Int) < (v1.xArgs.length : Int)))) (by kernel_rfl) (lt_f h4) ?_
     refine aw_exit (at_e (at_e (ab_y rfl ?_)))
     refine at_n ?_
     refine aw_seq ?_
     refine rg [] [(4, (aInt v7))] [.cells (aExpr v1).cells] (by kernel_rfl) ?_
     refine aw_ret ?_
     have hr := Option.some.inj hF; subst hr; exact ret_ok (by kernel_rfl)
    | cons v5 v6 =>
     rw [g_expr_depth_L1] at hF
     refine aw_seq ?_
     refine rg [] [(15, (aBool (decide ((v3 : Int) < (v1.xArgs.length : Int)))))] [.cells (aExpr v1).cells] (by kernel_rfl) ?_
     refine aw_seq ?_
     refine aw_cond_h (t := (decide ((v3 : Int) < (v1.xArgs.length : Int)))) (by kernel_rfl) (lt_t h4) ?_
     refine aw_skip ?_
     refine at_n ?_
     refine aw_seq ?_
     refine aw_block ?_
     refine aw_seq ?_
     refine rg [(1, ⟨_, _, .el (xs := dExprs v1.xArgs) (i := (v3 : Int)) (Int.natCast_nonneg _) (dExprs_get (drop_get h4))⟩)] [(7, (.ptr 1 0))] [.cells (aExpr v1).cells, .cells (aExpr v5).cells] (by kernel_rfl) ?_
     obtain ⟨v8, h5, hF⟩ := bind_some hF
     refine re [(13, cL (ih2 v5 (w64 (v2 - (1 : Int))) v8 h5))] [(5, (aInt (if (w64 ((1 : Int) + v8)) > v7 then (w64 ((1 : Int) + v8)) else v7))), (24, (aInt (if (w64 ((1 : Int) + v8)) > v7 then (w64 ((1 : Int) + v8)) else v7))), (23, (aInt (w64 ((1 : Int) + v8)))), (22, (aInt v8)), (21, (aInt (w64 (v2 - (1 : Int))))), (20, (aInt v2)), (19, (aExpr v5)), (18, (aInt v7))] [.cells (aExpr v1).cells, .cells (aExpr v5).cells] (by kernel_rfl) ?_
     refine ab_n ?_
     refine at_n ?_
     refine re [(2, ⟨_, _, .eq (wrap_nx h4 rfl h3)⟩)] [(14, (aInt ((v3 + 1 : Nat) : Int))), (25, (aInt ((v3 + 1 : Nat) : Int)))] [.cells (aExpr v1).cells, .cells (aExpr v5).cells] (by kernel_rfl) ?_
     refine at_n ?_
     exact ⟨(v3 + 1, v6, (if (w64 ((1 : Int) + v8)) > v7 then (w64 ((1 : Int) + v8)) else v7)), by kernel_rfl, ⟨drop_nx h4, hF⟩, Nat.lt_succ_self _⟩
theorem g_expr_depth_ok (N : Nat) (v1 : ExprD) (v2 : Int) (r : Int) (hF : g_expr_depth N v1 v2 = some r) : AFn Tryz.prog 90 [(aExpr v1), (aInt v2)] (· = (aInt r)) := (g_expr_depthR_all N N) v1 v2 r hF
def g_expr_Depth (N : Nat) (v1 : ExprD) : Option Int :=
 Option.bind (g_expr_depth N v1 (41 : Int)) fun v2 =>
 some v2
theorem g_expr_Depth_ok (N : Nat) (v1 : ExprD) (r : Int) (hF : g_expr_Depth N v1 = some r) : AFn Tryz.prog 53 [(aExpr v1)] (· = (aInt r)) := by
 rw [g_expr_Depth] at hF
 refine afn_of Tryz.func53 rfl (by kernel_rfl) ?_
 refine aw_cut [0] 0 (Nat.le_refl _) (s' := ⟨5, [(0, (aExpr v1))], []⟩) (by kernel_rfl) ?_
 refine aw_seq ?_
 refine rg [] [(1, (.ptr 0 0))] [.cells (aExpr v1).cells] (by kernel_rfl) ?_
 refine aw_seq ?_
 obtain ⟨v2, h1, hF⟩ := bind_some hF
 refine rg [(4, cL (g_expr_depth_ok N v1 (41 : Int) v2 h1))] [(2, (aInt v2))] [.cells (aExpr v1).cells] (by kernel_rfl) ?_
 refine aw_ret ?_
 have hr := Option.some.inj hF; subst hr; exact ret_ok (by kernel_rfl)
def g_expr_Walk (N : Nat) (v1 : ExprD) : Option ExprD := some v1
theorem g_expr_Walk_ok (N : Nat) (v1 r : ExprD) (hF : g_expr_Walk N v1 = some r) : AFn Tryz.prog 40 [(aExpr v1)] (· = (.fn 67 [(.elt [dExpr r] 0 0)])) := by
 cases hF; exact walkIt_abs v1
def g_expr_Size_L1 (N : Nat) : List ExprD → Int → Option Int
 | [], v3 =>
  some v3
 | _ :: v5, v3 =>
  bif (decide ((w64 (v3 + (1 : Int))) > (2000 : Int))) then
   some (w64 (v3 + (1 : Int)))
  else
   (fun b1_0 => g_expr_Size_L1 N v5 b1_0) (w64 (v3 + (1 : Int)))
def g_expr_Size (N : Nat) (v1 : ExprD) : Option Int :=
 Option.bind (g_expr_Walk N v1) fun v2 =>
 g_expr_Size_L1 N (nodes v2) (0 : Int)
theorem g_expr_Size_ok (N : Nat) (v1 : ExprD) (r : Int) (hF : g_expr_Size N v1 = some r) : AFn Tryz.prog 14 [(aExpr v1)] (· = (aInt r)) := by
 rw [g_expr_Size] at hF
 refine afn_of Tryz.func14 rfl (by kernel_rfl) ?_
 refine aw_cut [0] 0 (Nat.le_refl _) (s' := ⟨12, [(0, (aExpr v1))], []⟩) (by kernel_rfl) ?_
 refine aw_seq ?_
 refine rg [] [(1, (.ptr 0 0))] [.cells (aExpr v1).cells] (by kernel_rfl) ?_
 refine aw_seq ?_
 refine rg [] [(3, (.ptr 1 0))] [.cells (aExpr v1).cells, .cells [(aInt (0 : Int))]] (by kernel_rfl) ?_
 refine aw_seq ?_
 refine aw_seq ?_
 obtain ⟨v2, h1, hF⟩ := bind_some hF
 refine rg [(4, cL (g_expr_Walk_ok N v1 v2 h1))] [(5, (.fn 67 [(.elt [dExpr v2] 0 0)]))] [.cells (aExpr v1).cells, .cells [(aInt (0 : Int))]] (by kernel_rfl) ?_
 refine aw_block ?_
 refine aw_cut [3, 5] 2 (Nat.le_of_ble_eq_true rfl) (s' := ⟨12, [(3, (.ptr 1 0)), (5, (.fn 67 [(.elt [dExpr v2] 0 0)]))], [.cells (aExpr v1).cells, .cells [(aInt (0 : Int))]]⟩) (by kernel_rfl) ?_
 refine aw_rangeL (m := 2) (enc := aExpr) (xs := (nodes v2)) (by kernel_rfl) (iterWalk v2) (fun (v3 : Int) => [.cells (aExpr v1).cells, .cells [(aInt v3)]]) (fun (v3 : Int) l => g_expr_Size_L1 N l v3 = some r) (0 : Int) (by kernel_rfl) hF (by rintro v3; rfl) (by rintro v3; kernel_rfl) (by kernel_rfl) rfl ?_ ?_
 · rintro v3 v4 v5 hF h2 c1_1 c1_2
   try dsimp only at hF
   rw [g_expr_Size_L1] at hF
   refine aw_cut [3] 3 (Nat.le_refl _) (s' := ⟨12, [(3, (.ptr 1 0))], [.cells (aExpr v1).cells, .cells [(aInt v3)], .lp .ready 6 c1_1 c1_2 (denseT 12 [(3, (.ptr 1 0)), (5, (.fn 67 [(.elt [dExpr v2] 0 0)]))])]⟩) (by kernel_rfl) ?_
   refine aw_skip ?_
   refine at_n ?_
   refine ⟨[.cells (aExpr v1).cells, .cells [(aInt v3)]], [], rfl, (by kernel_rfl), ?_⟩
   refine aw_cut [3] 3 (Nat.le_of_ble_eq_true rfl) (s' := ⟨12, [(3, (.ptr 1 0))], [.cells (aExpr v1).cells, .cells [(aInt v3)], .lp .busy 6 c1_1 c1_2 (denseT 12 [(3, (.ptr 1 0)), (5, (.fn 67 [(.elt [dExpr v2] 0 0)]))])]⟩) (by kernel_rfl) ?_
   refine aw_block ?_
   refine aw_seq ?_
   refine rg [] [] [.cells (aExpr v1).cells, .cells [(aInt (w64 (v3 + (1 : Int))))], .lp .busy 6 c1_1 c1_2 (denseT 12 [(3, (.ptr 1 0)), (5, (.fn 67 [(.elt [dExpr v2] 0 0)]))])] (by kernel_rfl) ?_
   refine aw_seq ?_
   refine rg [] [(10, (aBool (decide ((w64 (v3 + (1 : Int))) > (2000 : Int)))))] [.cells (aExpr v1).cells, .cells [(aInt (w64 (v3 + (1 : Int))))], .lp .busy 6 c1_1 c1_2 (denseT 12 [(3, (.ptr 1 0)), (5, (.fn 67 [(.elt [dExpr v2] 0 0)]))])] (by kernel_rfl) ?_
   rcases bool_cases (decide ((w64 (v3 + (1 : Int))) > (2000 : Int))) with h3 | h3
   · replace hF := (cond_t h3).symm.trans hF
     refine aw_cond_h (t := (decide ((w64 (v3 + (1 : Int))) > (2000 : Int)))) (by kernel_rfl) h3 ?_
     refine aw_exit (ab_x rfl ?_)
     refine rl_x [.cells (aExpr v1).cells, .cells [(aInt (w64 (v3 + (1 : Int))))]] rfl (by kernel_rfl) (by kernel_rfl) ?_
     refine (ab_y rfl ?_)
     refine at_n ?_
     refine aw_seq ?_
     refine rg [] [(2, (aInt (w64 (v3 + (1 : Int)))))] [.cells (aExpr v1).cells, .cells [(aInt (w64 (v3 + (1 : Int))))], .gone] (by kernel_rfl) ?_
     refine aw_ret ?_
     have hr := Option.some.inj hF; subst hr; exact ret_ok (by kernel_rfl)
   · replace hF := (cond_f h3).symm.trans hF
     refine aw_cond_g (t := (decide ((w64 (v3 + (1 : Int))) > (2000 : Int)))) (by kernel_rfl) h3 ?_
     refine aw_skip ?_
     refine ab_n ?_
     refine rl_n [.cells (aExpr v1).cells, .cells [(aInt (w64 (v3 + (1 : Int))))]] rfl (by kernel_rfl) (by kernel_rfl) ?_
     exact ⟨(w64 (v3 + (1 : Int))), (by kernel_rfl), hF⟩
 · rintro v3 hF
   try dsimp only at hF
   rw [g_expr_Size_L1] at hF
   refine ab_n ?_
   refine at_n ?_
   refine aw_seq ?_
   refine rg [] [(2, (aInt v3))] [.cells (aExpr v1).cells, .cells [(aInt v3)], .gone] (by kernel_rfl) ?_
   refine aw_ret ?_
   have hr := Option.some.inj hF; subst hr; exact ret_ok (by kernel_rfl)
def g_expr_isZero (N : Nat) (v1 : LinD) : Option Bool :=
 Option.bind (bif (v1.xK.toInt == (0 : Int)) then some ((v1.xL.length : Int) == (0 : Int)) else some false) fun v2 =>
 some v2
theorem g_expr_isZero_ok (N : Nat) (v1 : LinD) (r : Bool) (hF : g_expr_isZero N v1 = some r) : AFn Tryz.prog 153 [(aLin v1)] (· = (aBool r)) := by
 rw [g_expr_isZero] at hF
 refine afn_of Tryz.func153 rfl (by kernel_rfl) ?_
 refine aw_cut [0] 0 (Nat.le_refl _) (s' := ⟨12, [(0, (aLin v1))], []⟩) (by kernel_rfl) ?_
 refine aw_seq ?_
 refine rg [] [(1, (.ptr 0 0))] [.cells (aLin v1).cells] (by kernel_rfl) ?_
 refine aw_seq ?_
 obtain ⟨v2, h2, hF⟩ := bind_some hF
 refine rgE [(2, (aBool v2))] [.cells (aLin v1).cells] ?_ ?_
 · rcases bool_cases (v1.xK.toInt == (0 : Int)) with h1 | h1
   · replace h2 := (cond_t h1).symm.trans h2
     have he := Option.some.inj h2; subst he; exact ⟨[(12, bT h1), (15, bT h1), (18, bT h1), (19, ⟨_, _, .len (xs := dMonos v1.xL) dMonos_len⟩), (21, bT h1), (25, bT h1)], by kernel_rfl⟩
   · replace h2 := (cond_f h1).symm.trans h2
     have he := Option.some.inj h2; subst he; exact ⟨[(12, bF h1), (15, bF h1), (18, bF h1), (21, bF h1), (25, bF h1)], by kernel_rfl⟩
 · refine aw_ret ?_
   have hr := Option.some.inj hF; subst hr; exact ret_ok (by kernel_rfl)
def g_expr_wellFormed (N : Nat) (v1 : IndexD) : Option Bool :=
 bif (bL v1.xFrom == bL (bs [])) then
  some ((v1.xAt.length : Int) == (0 : Int))
 else
  Option.bind (g_expr_isZero N v1.xLin) fun v2 =>
  some v2
theorem g_expr_wellFormed_ok (N : Nat) (v1 : IndexD) (r : Bool) (hF : g_expr_wellFormed N v1 = some r) : AFn Tryz.prog 156 [(aIndex v1)] (· = (aBool r)) := by
 rw [g_expr_wellFormed] at hF
 refine afn_of Tryz.func156 rfl (by kernel_rfl) ?_
 refine aw_cut [0] 0 (Nat.le_refl _) (s' := ⟨13, [(0, (aIndex v1))], []⟩) (by kernel_rfl) ?_
 refine aw_seq ?_
 refine rg [] [(1, (.ptr 0 0))] [.cells (aIndex v1).cells] (by kernel_rfl) ?_
 refine aw_seq ?_
 refine aw_seq ?_
 refine rg [] [(5, (aBool (bL v1.xFrom == bL (bs []))))] [.cells (aIndex v1).cells] (by kernel_rfl) ?_
 rcases bool_cases (bL v1.xFrom == bL (bs [])) with h1 | h1
 · replace hF := (cond_t h1).symm.trans hF
   refine aw_cond_h (t := (bL v1.xFrom == bL (bs []))) (by kernel_rfl) h1 ?_
   refine aw_seq ?_
   refine rg [(7, ⟨_, _, .len (xs := dLins v1.xAt) dLins_len⟩)] [(2, (aBool ((v1.xAt.length : Int) == (0 : Int))))] [.cells (aIndex v1).cells] (by kernel_rfl) ?_
   refine aw_ret (at_r ?_)
   have hr := Option.some.inj hF; subst hr; exact ret_ok (by kernel_rfl)
 · replace hF := (cond_f h1).symm.trans hF
   refine aw_cond_g (t := (bL v1.xFrom == bL (bs []))) (by kernel_rfl) h1 ?_
   refine aw_skip ?_
   refine at_n ?_
   refine aw_seq ?_
   obtain ⟨v2, h2, hF⟩ := bind_some hF
   refine rg [(7, cL (g_expr_isZero_ok N v1.xLin v2 h2))] [(2, (aBool v2))] [.cells (aIndex v1).cells] (by kernel_rfl) ?_
   refine aw_ret ?_
   have hr := Option.some.inj hF; subst hr; exact ret_ok (by kernel_rfl)
def g_expr_syntax_1 (N : Nat) (v1 : IndexD) : Option Bool :=
 Option.bind (g_expr_wellFormed N v1) fun v2 =>
 some (!v2)
theorem g_expr_syntax_1_ok (N : Nat) (v1 : IndexD) (r : Bool) (hF : g_expr_syntax_1 N v1 = some r) : AFn Tryz.prog 155 [(aIndex v1)] (· = (aBool r)) := by
 rw [g_expr_syntax_1] at hF
 refine afn_of Tryz.func155 rfl (by kernel_rfl) ?_
 refine aw_cut [0] 0 (Nat.le_refl _) (s' := ⟨6, [(0, (aIndex v1))], []⟩) (by kernel_rfl) ?_
 refine aw_seq ?_
 refine rg [] [(1, (.ptr 0 0))] [.cells (aIndex v1).cells] (by kernel_rfl) ?_
 refine aw_seq ?_
 obtain ⟨v2, h1, hF⟩ := bind_some hF
 refine rg [(4, cL (g_expr_wellFormed_ok N v1 v2 h1))] [(2, (aBool (!v2)))] [.cells (aIndex v1).cells] (by kernel_rfl) ?_
 refine aw_ret ?_
 have hr := Option.some.inj hF; subst hr; exact ret_ok (by kernel_rfl)
def g_slices_IndexFunc_api_Index_api_Index_L1 (N : Nat) : List IndexD → Nat → Option Int
 | [], _ =>
  some (-1 : Int)
 | v4 :: v5, v2 =>
  Option.bind (g_expr_syntax_1 N v4) fun v6 =>
  bif v6 then
   some (v2 : Int)
  else
   (g_slices_IndexFunc_api_Index_api_Index_L1 N v5 (v2 + 1))
def g_slices_IndexFunc_api_Index_api_Index (N : Nat) (v1 : List IndexD) : Option Int :=
 g_slices_IndexFunc_api_Index_api_Index_L1 N v1 0
theorem g_slices_IndexFunc_api_Index_api_Index_ok (N : Nat) (v1 : List IndexD) (r : Int) (hF : g_slices_IndexFunc_api_Index_api_Index N v1 = some r) : ACalls Tryz.prog 209 [(.d (.sl (dIndexs v1))), (.fn 155 [])] [] fun r1 h1 => r1 = (aInt r) ∧ h1 = [] := by
 rw [g_slices_IndexFunc_api_Index_api_Index] at hF
 refine acn_of 0 Tryz.func209 rfl (by kernel_rfl) (Nat.le_of_ble_eq_true rfl) ?_
 refine aw_chg (s' := ⟨19, [(0, (.d (.sl (dIndexs v1)))), (1, (.fn 155 []))], []⟩) (by kernel_rfl) ?_
 refine aw_seq ?_
 refine rg [] [] [] (by kernel_rfl) ?_
 refine aw_seq ?_
 refine aw_seq ?_
 refine rg [(4, ⟨_, _, .len (xs := dIndexs v1) dIndexs_len⟩)] [(7, (aInt (v1.length : Int))), (8, (aInt (0 : Int)))] [] (by kernel_rfl) ?_
 refine aw_block ?_
 refine aw_okT 0 (dIndexs v1) (by kernel_rfl) fun h1 => ?_
 have h2 : v1.length ≤ maxLen := by rw [← dIndexs_len]; exact ok_len h1
 refine aw_loopC [0, 1, 7, 8] 0 (fun ((v2, v3) : Nat × (List IndexD)) => ⟨19, [(0, (.d (.sl (dIndexs v1)))), (1, (.fn 155 [])), (7, (aInt (v1.length : Int))), (8, (aInt (v2 : Int)))], []⟩) (fun ((v2, v3) : Nat × (List IndexD)) => v1.drop v2 = v3 ∧ g_slices_IndexFunc_api_Index_api_Index_L1 N v3 v2 = some r) (fun ((v2, v3) : Nat × (List IndexD)) => v3.length) (0, v1) (Nat.le_of_ble_eq_true rfl) (by kernel_rfl) ⟨rfl, hF⟩ ?_
 rintro ⟨v2, v3⟩ ⟨h3, hF⟩
 cases v3 with
 | nil =>
  rw [g_slices_IndexFunc_api_Index_api_Index_L1] at hF
  refine aw_seq ?_
  refine rg [] [(9, (aBool (decide ((v2 : Int) < (v1.length : Int)))))] [] (by kernel_rfl) ?_
  refine aw_seq ?_
  refine aw_cond_g (t := (decide ((v2 : Int) < (v1.length : Int)))) (by kernel_rfl) (lt_f h3) ?_
  refine aw_exit (at_e (at_e (ab_y rfl ?_)))
  refine at_n ?_
  refine aw_seq ?_
  refine rg [] [(4, (aInt (-1 : Int)))] [] (by kernel_rfl) ?_
  refine aw_ret ?_
  have hr := Option.some.inj hF; subst hr; exact reth_ok (by kernel_rfl)
 | cons v4 v5 =>
  rw [g_slices_IndexFunc_api_Index_api_Index_L1] at hF
  refine aw_seq ?_
  refine rg [] [(9, (aBool (decide ((v2 : Int) < (v1.length : Int)))))] [] (by kernel_rfl) ?_
  refine aw_seq ?_
  refine aw_cond_h (t := (decide ((v2 : Int) < (v1.length : Int)))) (by kernel_rfl) (lt_t h3) ?_
  refine aw_skip ?_
  refine at_n ?_
  refine aw_seq ?_
  refine aw_block ?_
  refine aw_seq ?_
  refine rg [] [(5, (aInt (v2 : Int)))] [] (by kernel_rfl) ?_
  refine aw_seq ?_
  obtain ⟨v6, h4, hF⟩ := bind_some hF
  refine rg [(10, ⟨_, _, .el (xs := dIndexs v1) (i := (v2 : Int)) (Int.natCast_nonneg _) (dIndexs_get (drop_get h3))⟩), (16, cL (g_expr_syntax_1_ok N v4 v6 h4))] [(16, (aBool v6))] [] (by kernel_rfl) ?_
  rcases bool_cases v6 with h5 | h5
  · replace hF := (cond_t h5).symm.trans hF
    refine aw_cond_h (t := v6) (by kernel_rfl) h5 ?_
    refine aw_seq ?_
    refine rg [] [(4, (aInt (v2 : Int)))] [] (by kernel_rfl) ?_
    refine aw_ret (ab_r (at_r (at_r (ab_r (at_r ?_)))))
    have hr := Option.some.inj hF; subst hr; exact reth_ok (by kernel_rfl)
  · replace hF := (cond_f h5).symm.trans hF
    refine aw_cond_g (t := v6) (by kernel_rfl) h5 ?_
    refine aw_skip ?_
    refine ab_n ?_
    refine at_n ?_
    refine re [(2, ⟨_, _, .eq (wrap_nx h3 rfl h2)⟩)] [(8, (aInt ((v2 + 1 : Nat) : Int))), (18, (aInt ((v2 + 1 : Nat) : Int)))] [] (by kernel_rfl) ?_
    refine at_n ?_
    exact ⟨(v2 + 1, v5), by kernel_rfl, ⟨drop_nx h3, hF⟩, Nat.lt_succ_self _⟩
def g_slices_ContainsFunc_api_Index_api_Index (N : Nat) (v1 : List IndexD) : Option Bool :=
 Option.bind (g_slices_IndexFunc_api_Index_api_Index N v1) fun v2 =>
 some (decide (v2 ≥ (0 : Int)))
theorem g_slices_ContainsFunc_api_Index_api_Index_ok (N : Nat) (v1 : List IndexD) (r : Bool) (hF : g_slices_ContainsFunc_api_Index_api_Index N v1 = some r) : ACalls Tryz.prog 154 [(.d (.sl (dIndexs v1))), (.fn 155 [])] [] fun r1 h1 => r1 = (aBool r) ∧ h1 = [] := by
 rw [g_slices_ContainsFunc_api_Index_api_Index] at hF
 refine acn_of 0 Tryz.func154 rfl (by kernel_rfl) (Nat.le_of_ble_eq_true rfl) ?_
 refine aw_chg (s' := ⟨9, [(0, (.d (.sl (dIndexs v1)))), (1, (.fn 155 []))], []⟩) (by kernel_rfl) ?_
 refine aw_seq ?_
 refine rg [] [] [] (by kernel_rfl) ?_
 refine aw_seq ?_
 obtain ⟨v2, h1, hF⟩ := bind_some hF
 refine rg [(7, ⟨_, _, .rq (asA := [(.d (.sl (dIndexs v1))), (.fn 155 [])]) (h := []) (l := []) (by kernel_rfl) (by kernel_rfl) (by kernel_rfl) (by kernel_rfl) (g_slices_IndexFunc_api_Index_api_Index_ok N v1 v2 h1)⟩)] [(4, (aBool (decide (v2 ≥ (0 : Int)))))] [] (by kernel_rfl) ?_
 refine aw_ret ?_
 have hr := Option.some.inj hF; subst hr; exact reth_ok (by kernel_rfl)
def g_expr_syntax (N : Nat) (v1 : ExprD) : Option Bool :=
 Option.bind (bif (v1.xOp == (1 : Int)) then some true else some (v1.xOp == (12 : Int))) fun v2 =>
 Option.bind (bif (decide (v1.xOp < (1 : Int))) then some true else some (decide (v1.xOp > (18 : Int)))) fun v3 =>
 bif v3 then
  some false
 else
  Option.bind (bif (v1.xOp == (1 : Int)) then some false else some (!((v1.xVal.xN.toInt == (0 : Int64).toInt) && ((v1.xVal.xD.toInt == (0 : Int64).toInt) && true)))) fun v4 =>
  bif v4 then
   some false
  else
   Option.bind (bif v2 then some false else some (!((v1.xType.xKind == (0 : Int)) && ((v1.xType.xBits == (0 : Int)) && ((v1.xType.xFrac == (0 : Int)) && ((v1.xType.xRound == (0 : Int)) && ((v1.xType.xOver == (0 : Int)) && true))))))) fun v5 =>
   bif v5 then
    some false
   else
    Option.bind (bif (v1.xOp == (2 : Int)) then some false else Option.bind (g_expr_isZero N v1.xLin) fun v6 =>
    some (!v6)) fun v7 =>
    bif v7 then
     some false
    else
     Option.bind (bif (v1.xOp == (3 : Int)) then some false else (bif (bL v1.xName == bL (bs [])) then some (decide ((v1.xIdx.length : Int) > (0 : Int))) else some true)) fun v8 =>
     bif v8 then
      some false
     else
      Option.bind (g_slices_ContainsFunc_api_Index_api_Index N v1.xIdx) fun v9 =>
      some (!v9)
theorem g_expr_syntax_ok (N : Nat) (v1 : ExprD) (r : Bool) (hF : g_expr_syntax N v1 = some r) : AFn Tryz.prog 91 [(aExpr v1)] (· = (aBool r)) := by
 rw [g_expr_syntax] at hF
 refine afn_of Tryz.func91 rfl (by kernel_rfl) ?_
 refine aw_cut [0] 0 (Nat.le_refl _) (s' := ⟨78, [(0, (aExpr v1))], []⟩) (by kernel_rfl) ?_
 refine aw_seq ?_
 refine rg [] [(1, (.ptr 0 0))] [.cells (aExpr v1).cells] (by kernel_rfl) ?_
 refine aw_seq ?_
 obtain ⟨v2, h2, hF⟩ := bind_some hF
 refine rdE mixed (by kernel_rfl) [(3, (aBool (v1.xOp == (1 : Int)))), (4, (aBool v2))] [.cells (aExpr v1).cells] ?_ ?_
 · rcases bool_cases (v1.xOp == (1 : Int)) with h1 | h1
   · replace h2 := (cond_t h1).symm.trans h2
     have he := Option.some.inj h2; subst he; exact ⟨[(21, bT h1), (24, bT h1), (27, bT h1), (31, bT h1)], by kernel_rfl⟩
   · replace h2 := (cond_f h1).symm.trans h2
     have he := Option.some.inj h2; subst he; exact ⟨[(21, bF h1), (24, bF h1), (27, bF h1), (31, bF h1)], by kernel_rfl⟩
 · refine aw_seq ?_
   refine rd mixed (by kernel_rfl) [] [(5, (aBool (v1.xOp == (2 : Int)))), (6, (aBool (v1.xOp == (3 : Int))))] [.cells (aExpr v1).cells] (by kernel_rfl) ?_
   refine aw_seq ?_
   refine aw_block ?_
   refine aw_seq ?_
   obtain ⟨v3, h4, hF⟩ := bind_some hF
   refine rgE [(24, (aBool v3))] [.cells (aExpr v1).cells] ?_ ?_
   · rcases bool_cases (decide (v1.xOp < (1 : Int))) with h3 | h3
     · replace h4 := (cond_t h3).symm.trans h4
       have he := Option.some.inj h4; subst he; exact ⟨[(12, bT h3), (15, bT h3), (18, bT h3), (22, bT h3)], by kernel_rfl⟩
     · replace h4 := (cond_f h3).symm.trans h4
       have he := Option.some.inj h4; subst he; exact ⟨[(12, bF h3), (15, bF h3), (18, bF h3), (22, bF h3)], by kernel_rfl⟩
   · rcases bool_cases v3 with h5 | h5
     · replace hF := (cond_t h5).symm.trans hF
       refine aw_cond_h (t := v3) (by kernel_rfl) h5 ?_
       refine aw_seq ?_
       refine rg [] [(2, (aBool false))] [.cells (aExpr v1).cells] (by kernel_rfl) ?_
       refine aw_ret (ab_r (at_r ?_))
       have hr := Option.some.inj hF; subst hr; exact ret_ok (by kernel_rfl)
     · replace hF := (cond_f h5).symm.trans hF
       refine aw_cond_g (t := v3) (by kernel_rfl) h5 ?_
       refine aw_seq ?_
       obtain ⟨v4, h7, hF⟩ := bind_some hF
       refine rgE [(33, (aBool v4))] [.cells (aExpr v1).cells] ?_ ?_
       · rcases bool_cases (v1.xOp == (1 : Int)) with h6 | h6
         · replace h7 := (cond_t h6).symm.trans h7
           have he := Option.some.inj h7; subst he; exact ⟨[(9, bF (not_t h6)), (12, bF (not_t h6)), (15, bF (not_t h6)), (18, bF (not_t h6)), (22, bF (not_t h6))], by kernel_rfl⟩
         · replace h7 := (cond_f h6).symm.trans h7
           have he := Option.some.inj h7; subst he; exact ⟨[(9, bT (not_f h6)), (12, bT (not_f h6)), (15, bT (not_f h6)), (18, bT (not_f h6)), (22, bT (not_f h6))], by kernel_rfl⟩
       · rcases bool_cases v4 with h8 | h8
         · replace hF := (cond_t h8).symm.trans hF
           refine aw_cond_h (t := v4) (by kernel_rfl) h8 ?_
           refine aw_seq ?_
           refine rg [] [(2, (aBool false))] [.cells (aExpr v1).cells] (by kernel_rfl) ?_
           refine aw_ret (ab_r (at_r ?_))
           have hr := Option.some.inj hF; subst hr; exact ret_ok (by kernel_rfl)
         · replace hF := (cond_f h8).symm.trans hF
           refine aw_cond_g (t := v4) (by kernel_rfl) h8 ?_
           refine aw_seq ?_
           obtain ⟨v5, h10, hF⟩ := bind_some hF
           refine rgE [(42, (aBool v5))] [.cells (aExpr v1).cells] ?_ ?_
           · rcases bool_cases v2 with h9 | h9
             · replace h10 := (cond_t h9).symm.trans h10
               have he := Option.some.inj h10; subst he; exact ⟨[(9, bF (not_t h9)), (12, bF (not_t h9)), (15, bF (not_t h9)), (18, bF (not_t h9)), (22, bF (not_t h9))], by kernel_rfl⟩
             · replace h10 := (cond_f h9).symm.trans h10
               have he := Option.some.inj h10; subst he; exact ⟨[(9, bT (not_f h9)), (12, bT (not_f h9)), (15, bT (not_f h9)), (18, bT (not_f h9)), (22, bT (not_f h9))], by kernel_rfl⟩
           · rcases bool_cases v5 with h11 | h11
             · replace hF := (cond_t h11).symm.trans hF
               refine aw_cond_h (t := v5) (by kernel_rfl) h11 ?_
               refine aw_seq ?_
               refine rg [] [(2, (aBool false))] [.cells (aExpr v1).cells] (by kernel_rfl) ?_
               refine aw_ret (ab_r (at_r ?_))
               have hr := Option.some.inj hF; subst hr; exact ret_ok (by kernel_rfl)
             · replace hF := (cond_f h11).symm.trans hF
               refine aw_cond_g (t := v5) (by kernel_rfl) h11 ?_
               refine aw_seq ?_
               obtain ⟨v7, h14, hF⟩ := bind_some hF
               refine rgE [(51, (aBool v7))] [.cells (aExpr v1).cells] ?_ ?_
               · rcases bool_cases (v1.xOp == (2 : Int)) with h12 | h12
                 · replace h14 := (cond_t h12).symm.trans h14
                   have he := Option.some.inj h14; subst he; exact ⟨[(9, bF (not_t h12)), (12, bF (not_t h12)), (15, bF (not_t h12)), (18, bF (not_t h12)), (22, bF (not_t h12))], by kernel_rfl⟩
                 · replace h14 := (cond_f h12).symm.trans h14
                   obtain ⟨v6, h13, h14⟩ := bind_some h14
                   have he := Option.some.inj h14; subst he; exact ⟨[(9, bT (not_f h12)), (12, bT (not_f h12)), (15, bT (not_f h12)), (16, cL (g_expr_isZero_ok N v1.xLin v6 h13)), (18, bT (not_f h12)), (22, bT (not_f h12))], by kernel_rfl⟩
               · rcases bool_cases v7 with h15 | h15
                 · replace hF := (cond_t h15).symm.trans hF
                   refine aw_cond_h (t := v7) (by kernel_rfl) h15 ?_
                   refine aw_seq ?_
                   refine rg [] [(2, (aBool false))] [.cells (aExpr v1).cells] (by kernel_rfl) ?_
                   refine aw_ret (ab_r (at_r ?_))
                   have hr := Option.some.inj hF; subst hr; exact ret_ok (by kernel_rfl)
                 · replace hF := (cond_f h15).symm.trans hF
                   refine aw_cond_g (t := v7) (by kernel_rfl) h15 ?_
                   refine aw_seq ?_
                   obtain ⟨v8, h18, hF⟩ := bind_some hF
                   refine rgE [(60, (aBool v8))] [.cells (aExpr v1).cells] ?_ ?_
                   · rcases bool_cases (v1.xOp == (3 : Int)) with h16 | h16
                     · replace h18 := (cond_t h16).symm.trans h18
                       have he := Option.some.inj h18; subst he; exact ⟨[(9, bF (not_t h16)), (12, bF (not_t h16)), (15, bF (not_t h16)), (18, bF (not_t h16)), (21, uN), (24, uN), (27, uN), (30, uN), (33, bF (not_t h16)), (37, bF (not_t h16))], by kernel_rfl⟩
                     · replace h18 := (cond_f h16).symm.trans h18
                       rcases bool_cases (bL v1.xName == bL (bs [])) with h17 | h17
                       · replace h18 := (cond_t h17).symm.trans h18
                         have he := Option.some.inj h18; subst he; exact ⟨[(9, bT (not_f h16)), (12, bT (not_f h16)), (15, bT (not_f h16)), (18, bT (not_f h16)), (21, bF (not_t h17)), (24, bF (not_t h17)), (27, bF (not_t h17)), (28, ⟨_, _, .len (xs := dIndexs v1.xIdx) dIndexs_len⟩), (30, bF (not_t h17)), (33, bT (not_f h16)), (34, bF (not_t h17)), (37, bT (not_f h16))], by kernel_rfl⟩
                       · replace h18 := (cond_f h17).symm.trans h18
                         have he := Option.some.inj h18; subst he; exact ⟨[(9, bT (not_f h16)), (12, bT (not_f h16)), (15, bT (not_f h16)), (18, bT (not_f h16)), (21, bT (not_f h17)), (24, bT (not_f h17)), (27, bT (not_f h17)), (30, bT (not_f h17)), (33, bT (not_f h16)), (34, bT (not_f h17)), (37, bT (not_f h16))], by kernel_rfl⟩
                   · rcases bool_cases v8 with h19 | h19
                     · replace hF := (cond_t h19).symm.trans hF
                       refine aw_cond_h (t := v8) (by kernel_rfl) h19 ?_
                       refine aw_seq ?_
                       refine rg [] [(2, (aBool false))] [.cells (aExpr v1).cells] (by kernel_rfl) ?_
                       refine aw_ret (ab_r (at_r ?_))
                       have hr := Option.some.inj hF; subst hr; exact ret_ok (by kernel_rfl)
                     · replace hF := (cond_f h19).symm.trans hF
                       refine aw_cond_g (t := v8) (by kernel_rfl) h19 ?_
                       refine aw_skip ?_
                       refine ab_n ?_
                       refine at_n ?_
                       refine aw_seq ?_
                       obtain ⟨v9, h20, hF⟩ := bind_some hF
                       refine rg [(7, ⟨_, _, .rq (asA := [(.d (.sl (dIndexs v1.xIdx))), (.fn 155 [])]) (h := [.cells (aExpr v1).cells]) (l := []) (by kernel_rfl) (by kernel_rfl) (by kernel_rfl) (by kernel_rfl) (g_slices_ContainsFunc_api_Index_api_Index_ok N v1.xIdx v9 h20)⟩)] [(2, (aBool (!v9)))] [.cells (aExpr v1).cells] (by kernel_rfl) ?_
                       refine aw_ret ?_
                       have hr := Option.some.inj hF; subst hr; exact ret_ok (by kernel_rfl)
def g_lexer_letter (N : Nat) (v1 : Int) : Option Bool :=
 Option.bind (bif (decide (v1 ≥ (97 : Int))) then some (decide (v1 ≤ (122 : Int))) else some false) fun v2 =>
 some v2
theorem g_lexer_letter_ok (N : Nat) (v1 : Int) (r : Bool) (hF : g_lexer_letter N v1 = some r) : AFn Tryz.prog 201 [(.d (.v (.int .i32 v1)))] (· = (aBool r)) := by
 rw [g_lexer_letter] at hF
 refine afn_of Tryz.func201 rfl (by kernel_rfl) ?_
 refine aw_cut [0] 0 (Nat.le_refl _) (s' := ⟨9, [(0, (.d (.v (.int .i32 v1))))], []⟩) (by kernel_rfl) ?_
 refine aw_seq ?_
 refine rg [] [] [] (by kernel_rfl) ?_
 refine aw_seq ?_
 obtain ⟨v2, h2, hF⟩ := bind_some hF
 refine rgE [(2, (aBool v2))] [] ?_ ?_
 · rcases bool_cases (decide (v1 ≥ (97 : Int))) with h1 | h1
   · replace h2 := (cond_t h1).symm.trans h2
     have he := Option.some.inj h2; subst he; exact ⟨[(9, bT h1), (12, bT h1), (16, bT h1)], by kernel_rfl⟩
   · replace h2 := (cond_f h1).symm.trans h2
     have he := Option.some.inj h2; subst he; exact ⟨[(9, bF h1), (12, bF h1), (16, bF h1)], by kernel_rfl⟩
 · refine aw_ret ?_
   have hr := Option.some.inj hF; subst hr; exact ret_ok (by kernel_rfl)
def g_lexer_digit (N : Nat) (v1 : Int) : Option Bool :=
 Option.bind (bif (decide (v1 ≥ (48 : Int))) then some (decide (v1 ≤ (57 : Int))) else some false) fun v2 =>
 some v2
theorem g_lexer_digit_ok (N : Nat) (v1 : Int) (r : Bool) (hF : g_lexer_digit N v1 = some r) : AFn Tryz.prog 249 [(.d (.v (.int .i32 v1)))] (· = (aBool r)) := by
 rw [g_lexer_digit] at hF
 refine afn_of Tryz.func249 rfl (by kernel_rfl) ?_
 refine aw_cut [0] 0 (Nat.le_refl _) (s' := ⟨9, [(0, (.d (.v (.int .i32 v1))))], []⟩) (by kernel_rfl) ?_
 refine aw_seq ?_
 refine rg [] [] [] (by kernel_rfl) ?_
 refine aw_seq ?_
 obtain ⟨v2, h2, hF⟩ := bind_some hF
 refine rgE [(2, (aBool v2))] [] ?_ ?_
 · rcases bool_cases (decide (v1 ≥ (48 : Int))) with h1 | h1
   · replace h2 := (cond_t h1).symm.trans h2
     have he := Option.some.inj h2; subst he; exact ⟨[(9, bT h1), (12, bT h1), (16, bT h1)], by kernel_rfl⟩
   · replace h2 := (cond_f h1).symm.trans h2
     have he := Option.some.inj h2; subst he; exact ⟨[(9, bF h1), (12, bF h1), (16, bF h1)], by kernel_rfl⟩
 · refine aw_ret ?_
   have hr := Option.some.inj hF; subst hr; exact ret_ok (by kernel_rfl)
def g_lexer_inWord (N : Nat) (v1 : Int) : Option Bool :=
 Option.bind (g_lexer_letter N v1) fun v2 =>
 Option.bind (bif v2 then some true else Option.bind (g_lexer_digit N v1) fun v3 =>
 (bif v3 then some true else some (v1 == (95 : Int)))) fun v4 =>
 some v4
theorem g_lexer_inWord_ok (N : Nat) (v1 : Int) (r : Bool) (hF : g_lexer_inWord N v1 = some r) : AFn Tryz.prog 203 [(.d (.v (.int .i32 v1)))] (· = (aBool r)) := by
 rw [g_lexer_inWord] at hF
 refine afn_of Tryz.func203 rfl (by kernel_rfl) ?_
 refine aw_cut [0] 0 (Nat.le_refl _) (s' := ⟨13, [(0, (.d (.v (.int .i32 v1))))], []⟩) (by kernel_rfl) ?_
 refine aw_seq ?_
 refine rg [] [] [] (by kernel_rfl) ?_
 refine aw_seq ?_
 obtain ⟨v2, h1, hF⟩ := bind_some hF
 obtain ⟨v4, h5, hF⟩ := bind_some hF
 refine rgE [(2, (aBool v4))] [] ?_ ?_
 · rcases bool_cases v2 with h2 | h2
   · replace h5 := (cond_t h2).symm.trans h5
     have he := Option.some.inj h5; subst he; exact ⟨[(4, cL (g_lexer_letter_ok N v1 v2 h1)), (9, bT h2), (12, bT h2), (16, bT h2), (21, bT rfl), (24, bT rfl), (28, bT rfl)], by kernel_rfl⟩
   · replace h5 := (cond_f h2).symm.trans h5
     obtain ⟨v3, h3, h5⟩ := bind_some h5
     rcases bool_cases v3 with h4 | h4
     · replace h5 := (cond_t h4).symm.trans h5
       have he := Option.some.inj h5; subst he; exact ⟨[(4, cL (g_lexer_letter_ok N v1 v2 h1)), (9, bF h2), (12, bF h2), (13, cL (g_lexer_digit_ok N v1 v3 h3)), (16, bF h2), (21, bT h4), (24, bT h4), (28, bT h4)], by kernel_rfl⟩
     · replace h5 := (cond_f h4).symm.trans h5
       have he := Option.some.inj h5; subst he; exact ⟨[(4, cL (g_lexer_letter_ok N v1 v2 h1)), (9, bF h2), (12, bF h2), (13, cL (g_lexer_digit_ok N v1 v3 h3)), (16, bF h2), (21, bF h4), (24, bF h4), (28, bF h4)], by kernel_rfl⟩
 · refine aw_ret ?_
   have hr := Option.some.inj hF; subst hr; exact ret_ok (by kernel_rfl)
def g_lexer_span_L1 (N : Nat) (v1 : ByteArray) : Nat → Int → Option Int
 | 0, _ => none
 | v2 + 1, v3 =>
  Option.bind (bif (decide (v3 < (v1.size : Int))) then bif (decide ((0 : Int) ≤ v3)) then
  Option.bind (v1[(v3).toNat]?) fun v4 =>
  Option.bind (g_lexer_inWord N (IntKind.i32.wrap (v4.toNat : Int))) fun v5 =>
  some v5
  else none else some false) fun v6 =>
  bif v6 then
   (fun b1_0 => g_lexer_span_L1 N v1 v2 b1_0) (w64 (v3 + (1 : Int)))
  else
   some v3
def g_lexer_span (N : Nat) (v1 : ByteArray) : Option Int :=
 g_lexer_span_L1 N v1 N (0 : Int)
theorem g_lexer_span_ok (N : Nat) (v1 : ByteArray) (r : Int) (hF : g_lexer_span N v1 = some r) : ACalls Tryz.prog 202 [(aStr v1), (.fn 203 [])] [] fun r1 h1 => r1 = (aInt r) ∧ h1 = [] := by
 rw [g_lexer_span] at hF
 refine acn_of 0 Tryz.func202 rfl (by kernel_rfl) (Nat.le_of_ble_eq_true rfl) ?_
 refine aw_chg (s' := ⟨21, [(0, (aStr v1)), (1, (.fn 203 []))], []⟩) (by kernel_rfl) ?_
 refine aw_seq ?_
 refine rg [] [] [] (by kernel_rfl) ?_
 refine aw_seq ?_
 refine rg [] [(5, (aInt (0 : Int)))] [] (by kernel_rfl) ?_
 refine aw_seq ?_
 refine aw_block ?_
 refine aw_loopC [0, 1, 5] 0 (fun ((v2, v3) : Nat × Int) => ⟨21, [(0, (aStr v1)), (1, (.fn 203 [])), (5, (aInt v3))], []⟩) (fun ((v2, v3) : Nat × Int) => g_lexer_span_L1 N v1 v2 v3 = some r) (fun ((v2, v3) : Nat × Int) => v2) (N, (0 : Int)) (Nat.le_of_ble_eq_true rfl) (by kernel_rfl) hF ?_
 rintro ⟨v2, v3⟩ hF
 try dsimp only at hF
 cases v2 with
 | zero =>
  rw [g_lexer_span_L1] at hF
  cases hF
 | succ v2 =>
  rw [g_lexer_span_L1] at hF
  refine aw_seq ?_
  refine aw_seq ?_
  obtain ⟨v6, h5, hF⟩ := bind_some hF
  refine rgE [(17, (aBool v6))] [] ?_ ?_
  · rcases bool_cases (decide (v3 < (v1.size : Int))) with h1 | h1
    · replace h5 := (cond_t h1).symm.trans h5
      have h3 := chk_t h5
      replace h5 := (cond_t h3).symm.trans h5
      obtain ⟨v4, h2, h5⟩ := bind_some h5
      obtain ⟨v5, h4, h5⟩ := bind_some h5
      have he := Option.some.inj h5; subst he; exact ⟨[(15, bT h1), (18, bT h1), (21, bT h1), (24, bT h1), (25, ⟨_, _, .ch (i := v3) (of_decide_eq_true h3) h2⟩), (27, bT h1), (30, bT h1), (31, cL (g_lexer_inWord_ok N (IntKind.i32.wrap (v4.toNat : Int)) v5 h4)), (34, bT h1)], by kernel_rfl⟩
    · replace h5 := (cond_f h1).symm.trans h5
      have he := Option.some.inj h5; subst he; exact ⟨[(15, bF h1), (18, bF h1), (21, bF h1), (24, bF h1), (27, bF h1), (30, bF h1), (34, bF h1)], by kernel_rfl⟩
  · rcases bool_cases v6 with h6 | h6
    · replace hF := (cond_t h6).symm.trans hF
      refine aw_cond_h (t := v6) (by kernel_rfl) h6 ?_
      refine aw_skip ?_
      refine at_n ?_
      refine aw_block ?_
      refine re [] [(5, (aInt (w64 (v3 + (1 : Int))))), (19, (aInt (w64 (v3 + (1 : Int))))), (18, (aInt v3))] [] (by kernel_rfl) ?_
      refine ab_n ?_
      refine at_n ?_
      exact ⟨(v2, (w64 (v3 + (1 : Int)))), by kernel_rfl, hF, Nat.lt_succ_self _⟩
    · replace hF := (cond_f h6).symm.trans hF
      refine aw_cond_g (t := v6) (by kernel_rfl) h6 ?_
      refine aw_exit (at_e (at_e (ab_y rfl ?_)))
      refine at_n ?_
      refine aw_seq ?_
      refine rg [] [(4, (aInt v3))] [] (by kernel_rfl) ?_
      refine aw_ret ?_
      have hr := Option.some.inj hF; subst hr; exact reth_ok (by kernel_rfl)
def g_lexer_keywords (N : Nat) : Option (List ByteArray) := some kwL
theorem g_lexer_keywords_ok (N : Nat) (r : List ByteArray) (hF : g_lexer_keywords N = some r) : AFn Tryz.prog 250 [] (· = (.d (.sl (dStrs r)))) := by
 cases hF; exact keywords_hand
def g_slices_Index_string_string_L1 (N : Nat) (v2 : ByteArray) : List ByteArray → Nat → Option Int
 | [], _ =>
  some (-1 : Int)
 | v5 :: v6, v3 =>
  bif (bL v2 == bL v5) then
   some (v3 : Int)
  else
   (g_slices_Index_string_string_L1 N v2 v6 (v3 + 1))
def g_slices_Index_string_string (N : Nat) (v1 : List ByteArray) (v2 : ByteArray) : Option Int :=
 g_slices_Index_string_string_L1 N v2 v1 0
theorem g_slices_Index_string_string_ok (N : Nat) (v1 : List ByteArray) (v2 : ByteArray) (r : Int) (hF : g_slices_Index_string_string N v1 v2 = some r) : AFn Tryz.prog 145 [(.d (.sl (dStrs v1))), (aStr v2)] (· = (aInt r)) := by
 rw [g_slices_Index_string_string] at hF
 refine afn_of Tryz.func145 rfl (by kernel_rfl) ?_
 refine aw_cut [0, 1] 0 (Nat.le_refl _) (s' := ⟨19, [(0, (.d (.sl (dStrs v1)))), (1, (aStr v2))], []⟩) (by kernel_rfl) ?_
 refine aw_seq ?_
 refine rg [] [] [] (by kernel_rfl) ?_
 refine aw_seq ?_
 refine aw_seq ?_
 refine rg [(4, ⟨_, _, .len (xs := dStrs v1) dStrs_len⟩)] [(7, (aInt (v1.length : Int))), (8, (aInt (0 : Int)))] [] (by kernel_rfl) ?_
 refine aw_block ?_
 refine aw_okT 0 (dStrs v1) (by kernel_rfl) fun h1 => ?_
 have h2 : v1.length ≤ maxLen := by rw [← dStrs_len]; exact ok_len h1
 refine aw_loopC [0, 1, 7, 8] 0 (fun ((v3, v4) : Nat × (List ByteArray)) => ⟨19, [(0, (.d (.sl (dStrs v1)))), (1, (aStr v2)), (7, (aInt (v1.length : Int))), (8, (aInt (v3 : Int)))], []⟩) (fun ((v3, v4) : Nat × (List ByteArray)) => v1.drop v3 = v4 ∧ g_slices_Index_string_string_L1 N v2 v4 v3 = some r) (fun ((v3, v4) : Nat × (List ByteArray)) => v4.length) (0, v1) (Nat.le_of_ble_eq_true rfl) (by kernel_rfl) ⟨rfl, hF⟩ ?_
 rintro ⟨v3, v4⟩ ⟨h3, hF⟩
 cases v4 with
 | nil =>
  rw [g_slices_Index_string_string_L1] at hF
  refine aw_seq ?_
  refine rg [] [(9, (aBool (decide ((v3 : Int) < (v1.length : Int)))))] [] (by kernel_rfl) ?_
  refine aw_seq ?_
  refine aw_cond_g (t := (decide ((v3 : Int) < (v1.length : Int)))) (by kernel_rfl) (lt_f h3) ?_
  refine aw_exit (at_e (at_e (ab_y rfl ?_)))
  refine at_n ?_
  refine aw_seq ?_
  refine rg [] [(4, (aInt (-1 : Int)))] [] (by kernel_rfl) ?_
  refine aw_ret ?_
  have hr := Option.some.inj hF; subst hr; exact ret_ok (by kernel_rfl)
 | cons v5 v6 =>
  rw [g_slices_Index_string_string_L1] at hF
  refine aw_seq ?_
  refine rg [] [(9, (aBool (decide ((v3 : Int) < (v1.length : Int)))))] [] (by kernel_rfl) ?_
  refine aw_seq ?_
  refine aw_cond_h (t := (decide ((v3 : Int) < (v1.length : Int)))) (by kernel_rfl) (lt_t h3) ?_
  refine aw_skip ?_
  refine at_n ?_
  refine aw_seq ?_
  refine aw_block ?_
  refine aw_seq ?_
  refine rg [] [(5, (aInt (v3 : Int)))] [] (by kernel_rfl) ?_
  refine aw_seq ?_
  refine rg [(10, ⟨_, _, .el (xs := dStrs v1) (i := (v3 : Int)) (Int.natCast_nonneg _) (dStrs_get (drop_get h3))⟩)] [(16, (aBool (bL v2 == bL v5)))] [] (by kernel_rfl) ?_
  rcases bool_cases (bL v2 == bL v5) with h4 | h4
  · replace hF := (cond_t h4).symm.trans hF
    refine aw_cond_h (t := (bL v2 == bL v5)) (by kernel_rfl) h4 ?_
    refine aw_seq ?_
    refine rg [] [(4, (aInt (v3 : Int)))] [] (by kernel_rfl) ?_
    refine aw_ret (ab_r (at_r (at_r (ab_r (at_r ?_)))))
    have hr := Option.some.inj hF; subst hr; exact ret_ok (by kernel_rfl)
  · replace hF := (cond_f h4).symm.trans hF
    refine aw_cond_g (t := (bL v2 == bL v5)) (by kernel_rfl) h4 ?_
    refine aw_skip ?_
    refine ab_n ?_
    refine at_n ?_
    refine re [(2, ⟨_, _, .eq (wrap_nx h3 rfl h2)⟩)] [(8, (aInt ((v3 + 1 : Nat) : Int))), (18, (aInt ((v3 + 1 : Nat) : Int)))] [] (by kernel_rfl) ?_
    refine at_n ?_
    exact ⟨(v3 + 1, v6), by kernel_rfl, ⟨drop_nx h3, hF⟩, Nat.lt_succ_self _⟩
def g_slices_Contains_string_string (N : Nat) (v1 : List ByteArray) (v2 : ByteArray) : Option Bool :=
 Option.bind (g_slices_Index_string_string N v1 v2) fun v3 =>
 some (decide (v3 ≥ (0 : Int)))
theorem g_slices_Contains_string_string_ok (N : Nat) (v1 : List ByteArray) (v2 : ByteArray) (r : Bool) (hF : g_slices_Contains_string_string N v1 v2 = some r) : AFn Tryz.prog 81 [(.d (.sl (dStrs v1))), (aStr v2)] (· = (aBool r)) := by
 rw [g_slices_Contains_string_string] at hF
 refine afn_of Tryz.func81 rfl (by kernel_rfl) ?_
 refine aw_cut [0, 1] 0 (Nat.le_refl _) (s' := ⟨9, [(0, (.d (.sl (dStrs v1)))), (1, (aStr v2))], []⟩) (by kernel_rfl) ?_
 refine aw_seq ?_
 refine rg [] [] [] (by kernel_rfl) ?_
 refine aw_seq ?_
 obtain ⟨v3, h1, hF⟩ := bind_some hF
 refine rg [(7, cL (g_slices_Index_string_string_ok N v1 v2 v3 h1))] [(4, (aBool (decide (v3 ≥ (0 : Int)))))] [] (by kernel_rfl) ?_
 refine aw_ret ?_
 have hr := Option.some.inj hF; subst hr; exact ret_ok (by kernel_rfl)
def g_lexer_IsKeyword (N : Nat) (v1 : ByteArray) : Option Bool :=
 Option.bind (g_lexer_keywords N) fun v2 =>
 Option.bind (g_slices_Contains_string_string N v2 v1) fun v3 =>
 some v3
theorem g_lexer_IsKeyword_ok (N : Nat) (v1 : ByteArray) (r : Bool) (hF : g_lexer_IsKeyword N v1 = some r) : AFn Tryz.prog 204 [(aStr v1)] (· = (aBool r)) := by
 rw [g_lexer_IsKeyword] at hF
 refine afn_of Tryz.func204 rfl (by kernel_rfl) ?_
 refine aw_cut [0] 0 (Nat.le_refl _) (s' := ⟨6, [(0, (aStr v1))], []⟩) (by kernel_rfl) ?_
 refine aw_seq ?_
 refine rg [] [] [] (by kernel_rfl) ?_
 refine aw_seq ?_
 obtain ⟨v2, h1, hF⟩ := bind_some hF
 obtain ⟨v3, h2, hF⟩ := bind_some hF
 refine rg [(1, cL (g_lexer_keywords_ok N v2 h1)), (7, cL (g_slices_Contains_string_string_ok N v2 v1 v3 h2))] [(2, (aBool v3))] [] (by kernel_rfl) ?_
 refine aw_ret ?_
 have hr := Option.some.inj hF; subst hr; exact ret_ok (by kernel_rfl)
def g_lexer_IsName (N : Nat) (v1 : ByteArray) : Option Bool :=
 Option.bind (bif (bL v1 == bL (bs [])) then some false else (bif (decide ((v1.size : Int) ≤ (16 : Int))) then Option.bind (v1[0]?) fun v2 =>
 Option.bind (g_lexer_letter N (IntKind.i32.wrap (v2.toNat : Int))) fun v3 =>
 (bif v3 then Option.bind (g_lexer_span N v1) fun v4 =>
 (bif (v4 == (v1.size : Int)) then Option.bind (g_lexer_IsKeyword N v1) fun v5 =>
 some (!v5) else some false) else some false) else some false)) fun v6 =>
 some v6
theorem g_lexer_IsName_ok (N : Nat) (v1 : ByteArray) (r : Bool) (hF : g_lexer_IsName N v1 = some r) : AFn Tryz.prog 137 [(aStr v1)] (· = (aBool r)) := by
 rw [g_lexer_IsName] at hF
 refine afn_of Tryz.func137 rfl (by kernel_rfl) ?_
 refine aw_cut [0] 0 (Nat.le_refl _) (s' := ⟨28, [(0, (aStr v1))], []⟩) (by kernel_rfl) ?_
 refine aw_seq ?_
 refine rg [] [] [] (by kernel_rfl) ?_
 refine aw_seq ?_
 obtain ⟨v6, h9, hF⟩ := bind_some hF
 refine rgE [(2, (aBool v6))] [] ?_ ?_
 · rcases bool_cases (bL v1 == bL (bs [])) with h1 | h1
   · replace h9 := (cond_t h1).symm.trans h9
     have he := Option.some.inj h9; subst he; exact ⟨[(9, bF (not_t h1)), (12, bF (not_t h1)), (15, bF (not_t h1)), (19, bF (not_t h1)), (24, bF rfl), (27, bF rfl), (30, bF rfl), (33, bF rfl), (37, bF rfl), (42, bF rfl), (45, bF rfl), (48, bF rfl), (51, bF rfl), (54, bF rfl), (58, bF rfl), (63, bF rfl), (66, bF rfl), (69, bF rfl), (73, bF rfl)], by kernel_rfl⟩
   · replace h9 := (cond_f h1).symm.trans h9
     rcases bool_cases (decide ((v1.size : Int) ≤ (16 : Int))) with h2 | h2
     · replace h9 := (cond_t h2).symm.trans h9
       obtain ⟨v2, h3, h9⟩ := bind_some h9
       obtain ⟨v3, h4, h9⟩ := bind_some h9
       rcases bool_cases v3 with h5 | h5
       · replace h9 := (cond_t h5).symm.trans h9
         obtain ⟨v4, h6, h9⟩ := bind_some h9
         rcases bool_cases (v4 == (v1.size : Int)) with h7 | h7
         · replace h9 := (cond_t h7).symm.trans h9
           obtain ⟨v5, h8, h9⟩ := bind_some h9
           have he := Option.some.inj h9; subst he; exact ⟨[(9, bT (not_f h1)), (12, bT (not_f h1)), (15, bT (not_f h1)), (19, bT (not_f h1)), (24, bT h2), (27, bT h2), (28, ⟨_, _, .ch (i := (0 : Int)) (by decide) h3⟩), (30, bT h2), (33, bT h2), (34, cL (g_lexer_letter_ok N (IntKind.i32.wrap (v2.toNat : Int)) v3 h4)), (37, bT h2), (42, bT h5), (45, bT h5), (46, ⟨_, _, .rq (asA := [(aStr v1), (.fn 203 [])]) (h := []) (l := []) (by kernel_rfl) (by kernel_rfl) (by kernel_rfl) (by kernel_rfl) (g_lexer_span_ok N v1 v4 h6)⟩), (48, bT h5), (51, bT h5), (54, bT h5), (58, bT h5), (63, bT h7), (66, bT h7), (67, cL (g_lexer_IsKeyword_ok N v1 v5 h8)), (69, bT h7), (73, bT h7)], by kernel_rfl⟩
         · replace h9 := (cond_f h7).symm.trans h9
           have he := Option.some.inj h9; subst he; exact ⟨[(9, bT (not_f h1)), (12, bT (not_f h1)), (15, bT (not_f h1)), (19, bT (not_f h1)), (24, bT h2), (27, bT h2), (28, ⟨_, _, .ch (i := (0 : Int)) (by decide) h3⟩), (30, bT h2), (33, bT h2), (34, cL (g_lexer_letter_ok N (IntKind.i32.wrap (v2.toNat : Int)) v3 h4)), (37, bT h2), (42, bT h5), (45, bT h5), (46, ⟨_, _, .rq (asA := [(aStr v1), (.fn 203 [])]) (h := []) (l := []) (by kernel_rfl) (by kernel_rfl) (by kernel_rfl) (by kernel_rfl) (g_lexer_span_ok N v1 v4 h6)⟩), (48, bT h5), (51, bT h5), (54, bT h5), (58, bT h5), (63, bF h7), (66, bF h7), (69, bF h7), (73, bF h7)], by kernel_rfl⟩
       · replace h9 := (cond_f h5).symm.trans h9
         have he := Option.some.inj h9; subst he; exact ⟨[(9, bT (not_f h1)), (12, bT (not_f h1)), (15, bT (not_f h1)), (19, bT (not_f h1)), (24, bT h2), (27, bT h2), (28, ⟨_, _, .ch (i := (0 : Int)) (by decide) h3⟩), (30, bT h2), (33, bT h2), (34, cL (g_lexer_letter_ok N (IntKind.i32.wrap (v2.toNat : Int)) v3 h4)), (37, bT h2), (42, bF h5), (45, bF h5), (48, bF h5), (51, bF h5), (54, bF h5), (58, bF h5), (63, bF rfl), (66, bF rfl), (69, bF rfl), (73, bF rfl)], by kernel_rfl⟩
     · replace h9 := (cond_f h2).symm.trans h9
       have he := Option.some.inj h9; subst he; exact ⟨[(9, bT (not_f h1)), (12, bT (not_f h1)), (15, bT (not_f h1)), (19, bT (not_f h1)), (24, bF h2), (27, bF h2), (30, bF h2), (33, bF h2), (37, bF h2), (42, bF rfl), (45, bF rfl), (48, bF rfl), (51, bF rfl), (54, bF rfl), (58, bF rfl), (63, bF rfl), (66, bF rfl), (69, bF rfl), (73, bF rfl)], by kernel_rfl⟩
 · refine aw_ret ?_
   have hr := Option.some.inj hF; subst hr; exact ret_ok (by kernel_rfl)
def g_expr_names_1 (N : Nat) (v1 : IndexD) : Option Bool :=
 Option.bind (bif (bL v1.xFrom == bL (bs [])) then some false else Option.bind (g_lexer_IsName N v1.xFrom) fun v2 =>
 some (!v2)) fun v3 =>
 some v3
theorem g_expr_names_1_ok (N : Nat) (v1 : IndexD) (r : Bool) (hF : g_expr_names_1 N v1 = some r) : AFn Tryz.prog 157 [(aIndex v1)] (· = (aBool r)) := by
 rw [g_expr_names_1] at hF
 refine afn_of Tryz.func157 rfl (by kernel_rfl) ?_
 refine aw_cut [0] 0 (Nat.le_refl _) (s' := ⟨12, [(0, (aIndex v1))], []⟩) (by kernel_rfl) ?_
 refine aw_seq ?_
 refine rg [] [(1, (.ptr 0 0))] [.cells (aIndex v1).cells] (by kernel_rfl) ?_
 refine aw_seq ?_
 obtain ⟨v3, h3, hF⟩ := bind_some hF
 refine rgE [(2, (aBool v3))] [.cells (aIndex v1).cells] ?_ ?_
 · rcases bool_cases (bL v1.xFrom == bL (bs [])) with h1 | h1
   · replace h3 := (cond_t h1).symm.trans h3
     have he := Option.some.inj h3; subst he; exact ⟨[(12, bF (not_t h1)), (15, bF (not_t h1)), (18, bF (not_t h1)), (21, bF (not_t h1)), (25, bF (not_t h1))], by kernel_rfl⟩
   · replace h3 := (cond_f h1).symm.trans h3
     obtain ⟨v2, h2, h3⟩ := bind_some h3
     have he := Option.some.inj h3; subst he; exact ⟨[(12, bT (not_f h1)), (15, bT (not_f h1)), (18, bT (not_f h1)), (19, cL (g_lexer_IsName_ok N v1.xFrom v2 h2)), (21, bT (not_f h1)), (25, bT (not_f h1))], by kernel_rfl⟩
 · refine aw_ret ?_
   have hr := Option.some.inj hF; subst hr; exact ret_ok (by kernel_rfl)
def g_slices_IndexFunc_api_Index_api_Index_1_L1 (N : Nat) : List IndexD → Nat → Option Int
 | [], _ =>
  some (-1 : Int)
 | v4 :: v5, v2 =>
  Option.bind (g_expr_names_1 N v4) fun v6 =>
  bif v6 then
   some (v2 : Int)
  else
   (g_slices_IndexFunc_api_Index_api_Index_1_L1 N v5 (v2 + 1))
def g_slices_IndexFunc_api_Index_api_Index_1 (N : Nat) (v1 : List IndexD) : Option Int :=
 g_slices_IndexFunc_api_Index_api_Index_1_L1 N v1 0
theorem g_slices_IndexFunc_api_Index_api_Index_1_ok (N : Nat) (v1 : List IndexD) (r : Int) (hF : g_slices_IndexFunc_api_Index_api_Index_1 N v1 = some r) : ACalls Tryz.prog 209 [(.d (.sl (dIndexs v1))), (.fn 157 [])] [] fun r1 h1 => r1 = (aInt r) ∧ h1 = [] := by
 rw [g_slices_IndexFunc_api_Index_api_Index_1] at hF
 refine acn_of 0 Tryz.func209 rfl (by kernel_rfl) (Nat.le_of_ble_eq_true rfl) ?_
 refine aw_chg (s' := ⟨19, [(0, (.d (.sl (dIndexs v1)))), (1, (.fn 157 []))], []⟩) (by kernel_rfl) ?_
 refine aw_seq ?_
 refine rg [] [] [] (by kernel_rfl) ?_
 refine aw_seq ?_
 refine aw_seq ?_
 refine rg [(4, ⟨_, _, .len (xs := dIndexs v1) dIndexs_len⟩)] [(7, (aInt (v1.length : Int))), (8, (aInt (0 : Int)))] [] (by kernel_rfl) ?_
 refine aw_block ?_
 refine aw_okT 0 (dIndexs v1) (by kernel_rfl) fun h1 => ?_
 have h2 : v1.length ≤ maxLen := by rw [← dIndexs_len]; exact ok_len h1
 refine aw_loopC [0, 1, 7, 8] 0 (fun ((v2, v3) : Nat × (List IndexD)) => ⟨19, [(0, (.d (.sl (dIndexs v1)))), (1, (.fn 157 [])), (7, (aInt (v1.length : Int))), (8, (aInt (v2 : Int)))], []⟩) (fun ((v2, v3) : Nat × (List IndexD)) => v1.drop v2 = v3 ∧ g_slices_IndexFunc_api_Index_api_Index_1_L1 N v3 v2 = some r) (fun ((v2, v3) : Nat × (List IndexD)) => v3.length) (0, v1) (Nat.le_of_ble_eq_true rfl) (by kernel_rfl) ⟨rfl, hF⟩ ?_
 rintro ⟨v2, v3⟩ ⟨h3, hF⟩
 cases v3 with
 | nil =>
  rw [g_slices_IndexFunc_api_Index_api_Index_1_L1] at hF
  refine aw_seq ?_
  refine rg [] [(9, (aBool (decide ((v2 : Int) < (v1.length : Int)))))] [] (by kernel_rfl) ?_
  refine aw_seq ?_
  refine aw_cond_g (t := (decide ((v2 : Int) < (v1.length : Int)))) (by kernel_rfl) (lt_f h3) ?_
  refine aw_exit (at_e (at_e (ab_y rfl ?_)))
  refine at_n ?_
  refine aw_seq ?_
  refine rg [] [(4, (aInt (-1 : Int)))] [] (by kernel_rfl) ?_
  refine aw_ret ?_
  have hr := Option.some.inj hF; subst hr; exact reth_ok (by kernel_rfl)
 | cons v4 v5 =>
  rw [g_slices_IndexFunc_api_Index_api_Index_1_L1] at hF
  refine aw_seq ?_
  refine rg [] [(9, (aBool (decide ((v2 : Int) < (v1.length : Int)))))] [] (by kernel_rfl) ?_
  refine aw_seq ?_
  refine aw_cond_h (t := (decide ((v2 : Int) < (v1.length : Int)))) (by kernel_rfl) (lt_t h3) ?_
  refine aw_skip ?_
  refine at_n ?_
  refine aw_seq ?_
  refine aw_block ?_
  refine aw_seq ?_
  refine rg [] [(5, (aInt (v2 : Int)))] [] (by kernel_rfl) ?_
  refine aw_seq ?_
  obtain ⟨v6, h4, hF⟩ := bind_some hF
  refine rg [(10, ⟨_, _, .el (xs := dIndexs v1) (i := (v2 : Int)) (Int.natCast_nonneg _) (dIndexs_get (drop_get h3))⟩), (16, cL (g_expr_names_1_ok N v4 v6 h4))] [(16, (aBool v6))] [] (by kernel_rfl) ?_
  rcases bool_cases v6 with h5 | h5
  · replace hF := (cond_t h5).symm.trans hF
    refine aw_cond_h (t := v6) (by kernel_rfl) h5 ?_
    refine aw_seq ?_
    refine rg [] [(4, (aInt (v2 : Int)))] [] (by kernel_rfl) ?_
    refine aw_ret (ab_r (at_r (at_r (ab_r (at_r ?_)))))
    have hr := Option.some.inj hF; subst hr; exact reth_ok (by kernel_rfl)
  · replace hF := (cond_f h5).symm.trans hF
    refine aw_cond_g (t := v6) (by kernel_rfl) h5 ?_
    refine aw_skip ?_
    refine ab_n ?_
    refine at_n ?_
    refine re [(2, ⟨_, _, .eq (wrap_nx h3 rfl h2)⟩)] [(8, (aInt ((v2 + 1 : Nat) : Int))), (18, (aInt ((v2 + 1 : Nat) : Int)))] [] (by kernel_rfl) ?_
    refine at_n ?_
    exact ⟨(v2 + 1, v5), by kernel_rfl, ⟨drop_nx h3, hF⟩, Nat.lt_succ_self _⟩
def g_slices_ContainsFunc_api_Index_api_Index_1 (N : Nat) (v1 : List IndexD) : Option Bool :=
 Option.bind (g_slices_IndexFunc_api_Index_api_Index_1 N v1) fun v2 =>
 some (decide (v2 ≥ (0 : Int)))
theorem g_slices_ContainsFunc_api_Index_api_Index_1_ok (N : Nat) (v1 : List IndexD) (r : Bool) (hF : g_slices_ContainsFunc_api_Index_api_Index_1 N v1 = some r) : ACalls Tryz.prog 154 [(.d (.sl (dIndexs v1))), (.fn 157 [])] [] fun r1 h1 => r1 = (aBool r) ∧ h1 = [] := by
 rw [g_slices_ContainsFunc_api_Index_api_Index_1] at hF
 refine acn_of 0 Tryz.func154 rfl (by kernel_rfl) (Nat.le_of_ble_eq_true rfl) ?_
 refine aw_chg (s' := ⟨9, [(0, (.d (.sl (dIndexs v1)))), (1, (.fn 157 []))], []⟩) (by kernel_rfl) ?_
 refine aw_seq ?_
 refine rg [] [] [] (by kernel_rfl) ?_
 refine aw_seq ?_
 obtain ⟨v2, h1, hF⟩ := bind_some hF
 refine rg [(7, ⟨_, _, .rq (asA := [(.d (.sl (dIndexs v1))), (.fn 157 [])]) (h := []) (l := []) (by kernel_rfl) (by kernel_rfl) (by kernel_rfl) (by kernel_rfl) (g_slices_IndexFunc_api_Index_api_Index_1_ok N v1 v2 h1)⟩)] [(4, (aBool (decide (v2 ≥ (0 : Int)))))] [] (by kernel_rfl) ?_
 refine aw_ret ?_
 have hr := Option.some.inj hF; subst hr; exact reth_ok (by kernel_rfl)
def g_expr_names (N : Nat) (v1 : ExprD) : Option Bool :=
 Option.bind (bif (v1.xOp == (3 : Int)) then Option.bind (g_lexer_IsName N v1.xName) fun v2 =>
 some (!v2) else some false) fun v3 =>
 bif v3 then
  some false
 else
  Option.bind (g_slices_ContainsFunc_api_Index_api_Index_1 N v1.xIdx) fun v4 =>
  some (!v4)
theorem g_expr_names_ok (N : Nat) (v1 : ExprD) (r : Bool) (hF : g_expr_names N v1 = some r) : AFn Tryz.prog 92 [(aExpr v1)] (· = (aBool r)) := by
 rw [g_expr_names] at hF
 refine afn_of Tryz.func92 rfl (by kernel_rfl) ?_
 refine aw_cut [0] 0 (Nat.le_refl _) (s' := ⟨16, [(0, (aExpr v1))], []⟩) (by kernel_rfl) ?_
 refine aw_seq ?_
 refine rg [] [(1, (.ptr 0 0))] [.cells (aExpr v1).cells] (by kernel_rfl) ?_
 refine aw_seq ?_
 refine aw_seq ?_
 obtain ⟨v3, h3, hF⟩ := bind_some hF
 refine rgE [(11, (aBool v3))] [.cells (aExpr v1).cells] ?_ ?_
 · rcases bool_cases (v1.xOp == (3 : Int)) with h1 | h1
   · replace h3 := (cond_t h1).symm.trans h3
     obtain ⟨v2, h2, h3⟩ := bind_some h3
     have he := Option.some.inj h3; subst he; exact ⟨[(12, bT h1), (15, bT h1), (18, bT h1), (19, cL (g_lexer_IsName_ok N v1.xName v2 h2)), (21, bT h1), (25, bT h1)], by kernel_rfl⟩
   · replace h3 := (cond_f h1).symm.trans h3
     have he := Option.some.inj h3; subst he; exact ⟨[(12, bF h1), (15, bF h1), (18, bF h1), (21, bF h1), (25, bF h1)], by kernel_rfl⟩
 · rcases bool_cases v3 with h4 | h4
   · replace hF := (cond_t h4).symm.trans hF
     refine aw_cond_h (t := v3) (by kernel_rfl) h4 ?_
     refine aw_seq ?_
     refine rg [] [(2, (aBool false))] [.cells (aExpr v1).cells] (by kernel_rfl) ?_
     refine aw_ret (at_r ?_)
     have hr := Option.some.inj hF; subst hr; exact ret_ok (by kernel_rfl)
   · replace hF := (cond_f h4).symm.trans hF
     refine aw_cond_g (t := v3) (by kernel_rfl) h4 ?_
     refine aw_skip ?_
     refine at_n ?_
     refine aw_seq ?_
     obtain ⟨v4, h5, hF⟩ := bind_some hF
     refine rg [(7, ⟨_, _, .rq (asA := [(.d (.sl (dIndexs v1.xIdx))), (.fn 157 [])]) (h := [.cells (aExpr v1).cells]) (l := []) (by kernel_rfl) (by kernel_rfl) (by kernel_rfl) (by kernel_rfl) (g_slices_ContainsFunc_api_Index_api_Index_1_ok N v1.xIdx v4 h5)⟩)] [(2, (aBool (!v4)))] [.cells (aExpr v1).cells] (by kernel_rfl) ?_
     refine aw_ret ?_
     have hr := Option.some.inj hF; subst hr; exact ret_ok (by kernel_rfl)
def g_expr_operands_J2 (N : Nat) (v1 : Int) (v3 : Bool) : Option Int :=
 bif v3 then
  some (1 : Int)
 else
  bif (v1 == (11 : Int)) then
   some (3 : Int)
  else
   some (2 : Int)
def g_expr_operands_J1 (N : Nat) (v1 : Int) (v2 : Bool) : Option Int :=
 bif v2 then
  some (0 : Int)
 else
  bif (v1 == (8 : Int)) then
   g_expr_operands_J2 N v1 (v1 == (8 : Int))
  else
   bif (v1 == (12 : Int)) then
    g_expr_operands_J2 N v1 (v1 == (12 : Int))
   else
    g_expr_operands_J2 N v1 (v1 == (18 : Int))
def g_expr_operands (N : Nat) (v1 : Int) : Option Int :=
 bif (v1 == (1 : Int)) then
  g_expr_operands_J1 N v1 (v1 == (1 : Int))
 else
  bif (v1 == (2 : Int)) then
   g_expr_operands_J1 N v1 (v1 == (2 : Int))
  else
   g_expr_operands_J1 N v1 (v1 == (3 : Int))
theorem g_expr_operands_ok (N : Nat) (v1 : Int) (r : Int) (hF : g_expr_operands N v1 = some r) : AFn Tryz.prog 158 [(aInt v1)] (· = (aInt r)) := by
 rw [g_expr_operands] at hF
 refine afn_of Tryz.func158 rfl (by kernel_rfl) ?_
 refine aw_cut [0] 0 (Nat.le_refl _) (s' := ⟨14, [(0, (aInt v1))], []⟩) (by kernel_rfl) ?_
 refine aw_seq ?_
 refine rg [] [] [] (by kernel_rfl) ?_
 refine aw_seq ?_
 refine aw_seq ?_
 refine rg [] [(3, (aInt v1))] [] (by kernel_rfl) ?_
 refine aw_block ?_
 refine aw_seq ?_
 refine aw_seq ?_
 refine rg [] [(4, (aBool (v1 == (1 : Int))))] [] (by kernel_rfl) ?_
 refine aw_joinC [3, 4] 0 (fun (v2 : Bool) => ⟨14, [(3, (aInt v1)), (4, (aBool v2))], []⟩) (fun (v2 : Bool) => g_expr_operands_J1 N v1 v2 = some r) (Nat.le_of_ble_eq_true rfl) ?_ ?_
 · rcases bool_cases (v1 == (1 : Int)) with h6 | h6
   · replace hF := (cond_t h6).symm.trans hF
     refine aw_cond_h (t := (v1 == (1 : Int))) (by kernel_rfl) h6 ?_
     refine aw_skip ?_
     refine at_n ?_
     exact ⟨(v1 == (1 : Int)), by kernel_rfl, hF⟩
   · replace hF := (cond_f h6).symm.trans hF
     refine aw_cond_g (t := (v1 == (1 : Int))) (by kernel_rfl) h6 ?_
     refine aw_seq ?_
     refine rg [] [(4, (aBool (v1 == (2 : Int))))] [] (by kernel_rfl) ?_
     rcases bool_cases (v1 == (2 : Int)) with h7 | h7
     · replace hF := (cond_t h7).symm.trans hF
       refine aw_cond_h (t := (v1 == (2 : Int))) (by kernel_rfl) h7 ?_
       refine aw_skip ?_
       refine at_n ?_
       exact ⟨(v1 == (2 : Int)), by kernel_rfl, hF⟩
     · replace hF := (cond_f h7).symm.trans hF
       refine aw_cond_g (t := (v1 == (2 : Int))) (by kernel_rfl) h7 ?_
       refine re [] [(4, (aBool (v1 == (3 : Int)))), (7, (aBool (v1 == (3 : Int))))] [] (by kernel_rfl) ?_
       refine at_n ?_
       exact ⟨(v1 == (3 : Int)), by kernel_rfl, hF⟩
 · rintro v2 hF
   try dsimp only at hF
   rw [g_expr_operands_J1] at hF
   rcases bool_cases v2 with h1 | h1
   · replace hF := (cond_t h1).symm.trans hF
     refine aw_cond_h (t := v2) (by kernel_rfl) h1 ?_
     refine aw_seq ?_
     refine rg [] [(2, (aInt (0 : Int)))] [] (by kernel_rfl) ?_
     refine aw_ret (ab_r (at_r ?_))
     have hr := Option.some.inj hF; subst hr; exact ret_ok (by kernel_rfl)
   · replace hF := (cond_f h1).symm.trans hF
     refine aw_cond_g (t := v2) (by kernel_rfl) h1 ?_
     refine aw_seq ?_
     refine aw_seq ?_
     refine rg [] [(8, (aBool (v1 == (8 : Int))))] [] (by kernel_rfl) ?_
     refine aw_joinC [3, 8] 0 (fun (v3 : Bool) => ⟨14, [(3, (aInt v1)), (8, (aBool v3))], []⟩) (fun (v3 : Bool) => g_expr_operands_J2 N v1 v3 = some r) (Nat.le_of_ble_eq_true rfl) ?_ ?_
     · rcases bool_cases (v1 == (8 : Int)) with h4 | h4
       · replace hF := (cond_t h4).symm.trans hF
         refine aw_cond_h (t := (v1 == (8 : Int))) (by kernel_rfl) h4 ?_
         refine aw_skip ?_
         refine at_n ?_
         exact ⟨(v1 == (8 : Int)), by kernel_rfl, hF⟩
       · replace hF := (cond_f h4).symm.trans hF
         refine aw_cond_g (t := (v1 == (8 : Int))) (by kernel_rfl) h4 ?_
         refine aw_seq ?_
         refine rg [] [(8, (aBool (v1 == (12 : Int))))] [] (by kernel_rfl) ?_
         rcases bool_cases (v1 == (12 : Int)) with h5 | h5
         · replace hF := (cond_t h5).symm.trans hF
           refine aw_cond_h (t := (v1 == (12 : Int))) (by kernel_rfl) h5 ?_
           refine aw_skip ?_
           refine at_n ?_
           exact ⟨(v1 == (12 : Int)), by kernel_rfl, hF⟩
         · replace hF := (cond_f h5).symm.trans hF
           refine aw_cond_g (t := (v1 == (12 : Int))) (by kernel_rfl) h5 ?_
           refine re [] [(8, (aBool (v1 == (18 : Int)))), (11, (aBool (v1 == (18 : Int))))] [] (by kernel_rfl) ?_
           refine at_n ?_
           exact ⟨(v1 == (18 : Int)), by kernel_rfl, hF⟩
     · rintro v3 hF
       try dsimp only at hF
       rw [g_expr_operands_J2] at hF
       rcases bool_cases v3 with h2 | h2
       · replace hF := (cond_t h2).symm.trans hF
         refine aw_cond_h (t := v3) (by kernel_rfl) h2 ?_
         refine aw_seq ?_
         refine rg [] [(2, (aInt (1 : Int)))] [] (by kernel_rfl) ?_
         refine aw_ret (ab_r (at_r ?_))
         have hr := Option.some.inj hF; subst hr; exact ret_ok (by kernel_rfl)
       · replace hF := (cond_f h2).symm.trans hF
         refine aw_cond_g (t := v3) (by kernel_rfl) h2 ?_
         refine aw_seq ?_
         refine rg [] [(12, (aBool (v1 == (11 : Int))))] [] (by kernel_rfl) ?_
         rcases bool_cases (v1 == (11 : Int)) with h3 | h3
         · replace hF := (cond_t h3).symm.trans hF
           refine aw_cond_h (t := (v1 == (11 : Int))) (by kernel_rfl) h3 ?_
           refine aw_seq ?_
           refine rg [] [(2, (aInt (3 : Int)))] [] (by kernel_rfl) ?_
           refine aw_ret (ab_r (at_r ?_))
           have hr := Option.some.inj hF; subst hr; exact ret_ok (by kernel_rfl)
         · replace hF := (cond_f h3).symm.trans hF
           refine aw_cond_g (t := (v1 == (11 : Int))) (by kernel_rfl) h3 ?_
           refine aw_skip ?_
           refine ab_n ?_
           refine at_n ?_
           refine aw_seq ?_
           refine rg [] [(2, (aInt (2 : Int)))] [] (by kernel_rfl) ?_
           refine aw_ret ?_
           have hr := Option.some.inj hF; subst hr; exact ret_ok (by kernel_rfl)
def g_expr_rank_1 (N : Nat) (v1 : IndexD) : Option Bool :=
 some (decide ((v1.xAt.length : Int) > (6 : Int)))
theorem g_expr_rank_1_ok (N : Nat) (v1 : IndexD) (r : Bool) (hF : g_expr_rank_1 N v1 = some r) : AFn Tryz.prog 159 [(aIndex v1)] (· = (aBool r)) := by
 rw [g_expr_rank_1] at hF
 refine afn_of Tryz.func159 rfl (by kernel_rfl) ?_
 refine aw_cut [0] 0 (Nat.le_refl _) (s' := ⟨7, [(0, (aIndex v1))], []⟩) (by kernel_rfl) ?_
 refine aw_seq ?_
 refine rg [] [(1, (.ptr 0 0))] [.cells (aIndex v1).cells] (by kernel_rfl) ?_
 refine aw_seq ?_
 refine rg [(7, ⟨_, _, .len (xs := dLins v1.xAt) dLins_len⟩)] [(2, (aBool (decide ((v1.xAt.length : Int) > (6 : Int)))))] [.cells (aIndex v1).cells] (by kernel_rfl) ?_
 refine aw_ret ?_
 have hr := Option.some.inj hF; subst hr; exact ret_ok (by kernel_rfl)
def g_slices_IndexFunc_api_Index_api_Index_2_L1 (N : Nat) : List IndexD → Nat → Option Int
 | [], _ =>
  some (-1 : Int)
 | v4 :: v5, v2 =>
  Option.bind (g_expr_rank_1 N v4) fun v6 =>
  bif v6 then
   some (v2 : Int)
  else
   (g_slices_IndexFunc_api_Index_api_Index_2_L1 N v5 (v2 + 1))
def g_slices_IndexFunc_api_Index_api_Index_2 (N : Nat) (v1 : List IndexD) : Option Int :=
 g_slices_IndexFunc_api_Index_api_Index_2_L1 N v1 0
theorem g_slices_IndexFunc_api_Index_api_Index_2_ok (N : Nat) (v1 : List IndexD) (r : Int) (hF : g_slices_IndexFunc_api_Index_api_Index_2 N v1 = some r) : ACalls Tryz.prog 209 [(.d (.sl (dIndexs v1))), (.fn 159 [])] [] fun r1 h1 => r1 = (aInt r) ∧ h1 = [] := by
 rw [g_slices_IndexFunc_api_Index_api_Index_2] at hF
 refine acn_of 0 Tryz.func209 rfl (by kernel_rfl) (Nat.le_of_ble_eq_true rfl) ?_
 refine aw_chg (s' := ⟨19, [(0, (.d (.sl (dIndexs v1)))), (1, (.fn 159 []))], []⟩) (by kernel_rfl) ?_
 refine aw_seq ?_
 refine rg [] [] [] (by kernel_rfl) ?_
 refine aw_seq ?_
 refine aw_seq ?_
 refine rg [(4, ⟨_, _, .len (xs := dIndexs v1) dIndexs_len⟩)] [(7, (aInt (v1.length : Int))), (8, (aInt (0 : Int)))] [] (by kernel_rfl) ?_
 refine aw_block ?_
 refine aw_okT 0 (dIndexs v1) (by kernel_rfl) fun h1 => ?_
 have h2 : v1.length ≤ maxLen := by rw [← dIndexs_len]; exact ok_len h1
 refine aw_loopC [0, 1, 7, 8] 0 (fun ((v2, v3) : Nat × (List IndexD)) => ⟨19, [(0, (.d (.sl (dIndexs v1)))), (1, (.fn 159 [])), (7, (aInt (v1.length : Int))), (8, (aInt (v2 : Int)))], []⟩) (fun ((v2, v3) : Nat × (List IndexD)) => v1.drop v2 = v3 ∧ g_slices_IndexFunc_api_Index_api_Index_2_L1 N v3 v2 = some r) (fun ((v2, v3) : Nat × (List IndexD)) => v3.length) (0, v1) (Nat.le_of_ble_eq_true rfl) (by kernel_rfl) ⟨rfl, hF⟩ ?_
 rintro ⟨v2, v3⟩ ⟨h3, hF⟩
 cases v3 with
 | nil =>
  rw [g_slices_IndexFunc_api_Index_api_Index_2_L1] at hF
  refine aw_seq ?_
  refine rg [] [(9, (aBool (decide ((v2 : Int) < (v1.length : Int)))))] [] (by kernel_rfl) ?_
  refine aw_seq ?_
  refine aw_cond_g (t := (decide ((v2 : Int) < (v1.length : Int)))) (by kernel_rfl) (lt_f h3) ?_
  refine aw_exit (at_e (at_e (ab_y rfl ?_)))
  refine at_n ?_
  refine aw_seq ?_
  refine rg [] [(4, (aInt (-1 : Int)))] [] (by kernel_rfl) ?_
  refine aw_ret ?_
  have hr := Option.some.inj hF; subst hr; exact reth_ok (by kernel_rfl)
 | cons v4 v5 =>
  rw [g_slices_IndexFunc_api_Index_api_Index_2_L1] at hF
  refine aw_seq ?_
  refine rg [] [(9, (aBool (decide ((v2 : Int) < (v1.length : Int)))))] [] (by kernel_rfl) ?_
  refine aw_seq ?_
  refine aw_cond_h (t := (decide ((v2 : Int) < (v1.length : Int)))) (by kernel_rfl) (lt_t h3) ?_
  refine aw_skip ?_
  refine at_n ?_
  refine aw_seq ?_
  refine aw_block ?_
  refine aw_seq ?_
  refine rg [] [(5, (aInt (v2 : Int)))] [] (by kernel_rfl) ?_
  refine aw_seq ?_
  obtain ⟨v6, h4, hF⟩ := bind_some hF
  refine rg [(10, ⟨_, _, .el (xs := dIndexs v1) (i := (v2 : Int)) (Int.natCast_nonneg _) (dIndexs_get (drop_get h3))⟩), (16, cL (g_expr_rank_1_ok N v4 v6 h4))] [(16, (aBool v6))] [] (by kernel_rfl) ?_
  rcases bool_cases v6 with h5 | h5
  · replace hF := (cond_t h5).symm.trans hF
    refine aw_cond_h (t := v6) (by kernel_rfl) h5 ?_
    refine aw_seq ?_
    refine rg [] [(4, (aInt (v2 : Int)))] [] (by kernel_rfl) ?_
    refine aw_ret (ab_r (at_r (at_r (ab_r (at_r ?_)))))
    have hr := Option.some.inj hF; subst hr; exact reth_ok (by kernel_rfl)
  · replace hF := (cond_f h5).symm.trans hF
    refine aw_cond_g (t := v6) (by kernel_rfl) h5 ?_
    refine aw_skip ?_
    refine ab_n ?_
    refine at_n ?_
    refine re [(2, ⟨_, _, .eq (wrap_nx h3 rfl h2)⟩)] [(8, (aInt ((v2 + 1 : Nat) : Int))), (18, (aInt ((v2 + 1 : Nat) : Int)))] [] (by kernel_rfl) ?_
    refine at_n ?_
    exact ⟨(v2 + 1, v5), by kernel_rfl, ⟨drop_nx h3, hF⟩, Nat.lt_succ_self _⟩
def g_slices_ContainsFunc_api_Index_api_Index_2 (N : Nat) (v1 : List IndexD) : Option Bool :=
 Option.bind (g_slices_IndexFunc_api_Index_api_Index_2 N v1) fun v2 =>
 some (decide (v2 ≥ (0 : Int)))
theorem g_slices_ContainsFunc_api_Index_api_Index_2_ok (N : Nat) (v1 : List IndexD) (r : Bool) (hF : g_slices_ContainsFunc_api_Index_api_Index_2 N v1 = some r) : ACalls Tryz.prog 154 [(.d (.sl (dIndexs v1))), (.fn 159 [])] [] fun r1 h1 => r1 = (aBool r) ∧ h1 = [] := by
 rw [g_slices_ContainsFunc_api_Index_api_Index_2] at hF
 refine acn_of 0 Tryz.func154 rfl (by kernel_rfl) (Nat.le_of_ble_eq_true rfl) ?_
 refine aw_chg (s' := ⟨9, [(0, (.d (.sl (dIndexs v1)))), (1, (.fn 159 []))], []⟩) (by kernel_rfl) ?_
 refine aw_seq ?_
 refine rg [] [] [] (by kernel_rfl) ?_
 refine aw_seq ?_
 obtain ⟨v2, h1, hF⟩ := bind_some hF
 refine rg [(7, ⟨_, _, .rq (asA := [(.d (.sl (dIndexs v1))), (.fn 159 [])]) (h := []) (l := []) (by kernel_rfl) (by kernel_rfl) (by kernel_rfl) (by kernel_rfl) (g_slices_IndexFunc_api_Index_api_Index_2_ok N v1 v2 h1)⟩)] [(4, (aBool (decide (v2 ≥ (0 : Int)))))] [] (by kernel_rfl) ?_
 refine aw_ret ?_
 have hr := Option.some.inj hF; subst hr; exact reth_ok (by kernel_rfl)
def g_expr_rank (N : Nat) (v1 : ExprD) : Option Bool :=
 Option.bind (g_expr_operands N v1.xOp) fun v2 =>
 Option.bind (bif ((v1.xArgs.length : Int) != v2) then some true else some (decide ((v1.xIdx.length : Int) > (6 : Int)))) fun v3 =>
 bif v3 then
  some false
 else
  Option.bind (g_slices_ContainsFunc_api_Index_api_Index_2 N v1.xIdx) fun v4 =>
  some (!v4)
theorem g_expr_rank_ok (N : Nat) (v1 : ExprD) (r : Bool) (hF : g_expr_rank N v1 = some r) : AFn Tryz.prog 93 [(aExpr v1)] (· = (aBool r)) := by
 rw [g_expr_rank] at hF
 refine afn_of Tryz.func93 rfl (by kernel_rfl) ?_
 refine aw_cut [0] 0 (Nat.le_refl _) (s' := ⟨20, [(0, (aExpr v1))], []⟩) (by kernel_rfl) ?_
 refine aw_seq ?_
 refine rg [] [(1, (.ptr 0 0))] [.cells (aExpr v1).cells] (by kernel_rfl) ?_
 refine aw_seq ?_
 refine aw_seq ?_
 obtain ⟨v2, h1, hF⟩ := bind_some hF
 obtain ⟨v3, h3, hF⟩ := bind_some hF
 refine rdE mixed (by kernel_rfl) [(15, (aBool v3))] [.cells (aExpr v1).cells] ?_ ?_
 · rcases bool_cases ((v1.xArgs.length : Int) != v2) with h2 | h2
   · replace h3 := (cond_t h2).symm.trans h3
     have he := Option.some.inj h3; subst he; exact ⟨[(7, ⟨_, _, .len (xs := dExprs v1.xArgs) dExprs_len⟩), (16, cL (g_expr_operands_ok N v1.xOp v2 h1)), (24, bT h2), (27, bT h2), (30, bT h2), (33, bT h2), (37, bT h2)], by kernel_rfl⟩
   · replace h3 := (cond_f h2).symm.trans h3
     have he := Option.some.inj h3; subst he; exact ⟨[(7, ⟨_, _, .len (xs := dExprs v1.xArgs) dExprs_len⟩), (16, cL (g_expr_operands_ok N v1.xOp v2 h1)), (24, bF h2), (27, bF h2), (30, bF h2), (31, ⟨_, _, .len (xs := dIndexs v1.xIdx) dIndexs_len⟩), (33, bF h2), (37, bF h2)], by kernel_rfl⟩
 · rcases bool_cases v3 with h4 | h4
   · replace hF := (cond_t h4).symm.trans hF
     refine aw_cond_h (t := v3) (by kernel_rfl) h4 ?_
     refine aw_seq ?_
     refine rg [] [(2, (aBool false))] [.cells (aExpr v1).cells] (by kernel_rfl) ?_
     refine aw_ret (at_r ?_)
     have hr := Option.some.inj hF; subst hr; exact ret_ok (by kernel_rfl)
   · replace hF := (cond_f h4).symm.trans hF
     refine aw_cond_g (t := v3) (by kernel_rfl) h4 ?_
     refine aw_skip ?_
     refine at_n ?_
     refine aw_seq ?_
     obtain ⟨v4, h5, hF⟩ := bind_some hF
     refine rg [(7, ⟨_, _, .rq (asA := [(.d (.sl (dIndexs v1.xIdx))), (.fn 159 [])]) (h := [.cells (aExpr v1).cells]) (l := []) (by kernel_rfl) (by kernel_rfl) (by kernel_rfl) (by kernel_rfl) (g_slices_ContainsFunc_api_Index_api_Index_2_ok N v1.xIdx v4 h5)⟩)] [(2, (aBool (!v4)))] [.cells (aExpr v1).cells] (by kernel_rfl) ?_
     refine aw_ret ?_
     have hr := Option.some.inj hF; subst hr; exact ret_ok (by kernel_rfl)
def g_value_plain (N : Nat) (v1 : TypeD) : Option Bool :=
 some ((v1.xKind == v1.xKind) && ((v1.xBits == (0 : Int)) && ((v1.xFrac == (0 : Int)) && ((v1.xRound == (0 : Int)) && ((v1.xOver == (0 : Int)) && true)))))
theorem g_value_plain_ok (N : Nat) (v1 : TypeD) (r : Bool) (hF : g_value_plain N v1 = some r) : AFn Tryz.prog 51 [(aType v1)] (· = (aBool r)) := by
 rw [g_value_plain] at hF
 refine afn_of Tryz.func51 rfl (by kernel_rfl) ?_
 refine aw_cut [0] 0 (Nat.le_refl _) (s' := ⟨8, [(0, (aType v1))], []⟩) (by kernel_rfl) ?_
 refine aw_seq ?_
 refine rg [] [(1, (.ptr 0 0))] [.cells (aType v1).cells] (by kernel_rfl) ?_
 refine aw_seq ?_
 refine rg [] [(2, (aBool ((v1.xKind == v1.xKind) && ((v1.xBits == (0 : Int)) && ((v1.xFrac == (0 : Int)) && ((v1.xRound == (0 : Int)) && ((v1.xOver == (0 : Int)) && true)))))))] [.cells (aType v1).cells] (by kernel_rfl) ?_
 refine aw_ret ?_
 have hr := Option.some.inj hF; subst hr; exact ret_ok (by kernel_rfl)
def g_fixed_ValidateType (N : Nat) (v1 : TypeD) : Option Int :=
 Option.bind (bif (decide (v1.xRound ≥ (1 : Int))) then (bif (decide (v1.xRound ≤ (4 : Int))) then (bif (v1.xOver == (1 : Int)) then some true else some (v1.xOver == (2 : Int))) else some false) else some false) fun v2 =>
 Option.bind (bif (v1.xKind != (2 : Int)) then some true else (bif (decide (v1.xBits < (2 : Int))) then some true else (bif (decide (v1.xBits > (31 : Int))) then some true else (bif (decide (v1.xFrac < (0 : Int))) then some true else (bif (decide (v1.xFrac > (30 : Int))) then some true else some (!v2)))))) fun v3 =>
 bif v3 then
  some (10 : Int)
 else
  some (0 : Int)
theorem g_fixed_ValidateType_ok (N : Nat) (v1 : TypeD) (r : Int) (hF : g_fixed_ValidateType N v1 = some r) : AFn Tryz.prog 52 [(aType v1)] (· = (aInt r)) := by
 rw [g_fixed_ValidateType] at hF
 refine afn_of Tryz.func52 rfl (by kernel_rfl) ?_
 refine aw_cut [0] 0 (Nat.le_refl _) (s' := ⟨49, [(0, (aType v1))], []⟩) (by kernel_rfl) ?_
 refine aw_seq ?_
 refine rg [] [(1, (.ptr 0 0))] [.cells (aType v1).cells] (by kernel_rfl) ?_
 refine aw_seq ?_
 obtain ⟨v2, h4, hF⟩ := bind_some hF
 refine rgE [(3, (aBool v2))] [.cells (aType v1).cells] ?_ ?_
 · rcases bool_cases (decide (v1.xRound ≥ (1 : Int))) with h1 | h1
   · replace h4 := (cond_t h1).symm.trans h4
     rcases bool_cases (decide (v1.xRound ≤ (4 : Int))) with h2 | h2
     · replace h4 := (cond_t h2).symm.trans h4
       rcases bool_cases (v1.xOver == (1 : Int)) with h3 | h3
       · replace h4 := (cond_t h3).symm.trans h4
         have he := Option.some.inj h4; subst he; exact ⟨[(12, bT h1), (15, bT h1), (18, bT h1), (22, bT h1), (27, bT h2), (30, bT h2), (33, bT h2), (36, bT h2), (39, bT h3), (42, bT h3), (45, bT h3), (48, bT h2), (49, bT h3), (52, bT h2)], by kernel_rfl⟩
       · replace h4 := (cond_f h3).symm.trans h4
         have he := Option.some.inj h4; subst he; exact ⟨[(12, bT h1), (15, bT h1), (18, bT h1), (22, bT h1), (27, bT h2), (30, bT h2), (33, bT h2), (36, bT h2), (39, bF h3), (42, bF h3), (45, bF h3), (48, bT h2), (49, bF h3), (52, bT h2)], by kernel_rfl⟩
     · replace h4 := (cond_f h2).symm.trans h4
       have he := Option.some.inj h4; subst he; exact ⟨[(12, bT h1), (15, bT h1), (18, bT h1), (22, bT h1), (27, bF h2), (30, bF h2), (33, bF h2), (36, bF h2), (39, uN), (42, uN), (45, uN), (48, bF h2), (52, bF h2)], by kernel_rfl⟩
   · replace h4 := (cond_f h1).symm.trans h4
     have he := Option.some.inj h4; subst he; exact ⟨[(12, bF h1), (15, bF h1), (18, bF h1), (22, bF h1), (27, bF rfl), (30, bF rfl), (33, bF rfl), (36, bF rfl), (39, uN), (42, uN), (45, uN), (48, bF rfl), (52, bF rfl)], by kernel_rfl⟩
 · refine aw_seq ?_
   refine aw_seq ?_
   obtain ⟨v3, h10, hF⟩ := bind_some hF
   refine rgE [(48, (aBool v3))] [.cells (aType v1).cells] ?_ ?_
   · rcases bool_cases (v1.xKind != (2 : Int)) with h5 | h5
     · replace h10 := (cond_t h5).symm.trans h10
       have he := Option.some.inj h10; subst he; exact ⟨[(12, bT h5), (15, bT h5), (18, bT h5), (22, bT h5), (27, bT rfl), (30, bT rfl), (33, bT rfl), (37, bT rfl), (42, bT rfl), (45, bT rfl), (48, bT rfl), (52, bT rfl), (57, bT rfl), (60, bT rfl), (63, bT rfl), (67, bT rfl), (72, bT rfl), (75, bT rfl), (79, bT rfl)], by kernel_rfl⟩
     · replace h10 := (cond_f h5).symm.trans h10
       rcases bool_cases (decide (v1.xBits < (2 : Int))) with h6 | h6
       · replace h10 := (cond_t h6).symm.trans h10
         have he := Option.some.inj h10; subst he; exact ⟨[(12, bF h5), (15, bF h5), (18, bF h5), (22, bF h5), (27, bT h6), (30, bT h6), (33, bT h6), (37, bT h6), (42, bT rfl), (45, bT rfl), (48, bT rfl), (52, bT rfl), (57, bT rfl), (60, bT rfl), (63, bT rfl), (67, bT rfl), (72, bT rfl), (75, bT rfl), (79, bT rfl)], by kernel_rfl⟩
       · replace h10 := (cond_f h6).symm.trans h10
         rcases bool_cases (decide (v1.xBits > (31 : Int))) with h7 | h7
         · replace h10 := (cond_t h7).symm.trans h10
           have he := Option.some.inj h10; subst he; exact ⟨[(12, bF h5), (15, bF h5), (18, bF h5), (22, bF h5), (27, bF h6), (30, bF h6), (33, bF h6), (37, bF h6), (42, bT h7), (45, bT h7), (48, bT h7), (52, bT h7), (57, bT rfl), (60, bT rfl), (63, bT rfl), (67, bT rfl), (72, bT rfl), (75, bT rfl), (79, bT rfl)], by kernel_rfl⟩
         · replace h10 := (cond_f h7).symm.trans h10
           rcases bool_cases (decide (v1.xFrac < (0 : Int))) with h8 | h8
           · replace h10 := (cond_t h8).symm.trans h10
             have he := Option.some.inj h10; subst he; exact ⟨[(12, bF h5), (15, bF h5), (18, bF h5), (22, bF h5), (27, bF h6), (30, bF h6), (33, bF h6), (37, bF h6), (42, bF h7), (45, bF h7), (48, bF h7), (52, bF h7), (57, bT h8), (60, bT h8), (63, bT h8), (67, bT h8), (72, bT rfl), (75, bT rfl), (79, bT rfl)], by kernel_rfl⟩
           · replace h10 := (cond_f h8).symm.trans h10
             rcases bool_cases (decide (v1.xFrac > (30 : Int))) with h9 | h9
             · replace h10 := (cond_t h9).symm.trans h10
               have he := Option.some.inj h10; subst he; exact ⟨[(12, bF h5), (15, bF h5), (18, bF h5), (22, bF h5), (27, bF h6), (30, bF h6), (33, bF h6), (37, bF h6), (42, bF h7), (45, bF h7), (48, bF h7), (52, bF h7), (57, bF h8), (60, bF h8), (63, bF h8), (67, bF h8), (72, bT h9), (75, bT h9), (79, bT h9)], by kernel_rfl⟩
             · replace h10 := (cond_f h9).symm.trans h10
               have he := Option.some.inj h10; subst he; exact ⟨[(12, bF h5), (15, bF h5), (18, bF h5), (22, bF h5), (27, bF h6), (30, bF h6), (33, bF h6), (37, bF h6), (42, bF h7), (45, bF h7), (48, bF h7), (52, bF h7), (57, bF h8), (60, bF h8), (63, bF h8), (67, bF h8), (72, bF h9), (75, bF h9), (79, bF h9)], by kernel_rfl⟩
   · rcases bool_cases v3 with h11 | h11
     · replace hF := (cond_t h11).symm.trans hF
       refine aw_cond_h (t := v3) (by kernel_rfl) h11 ?_
       refine aw_seq ?_
       refine rg [] [(2, (aInt (10 : Int)))] [.cells (aType v1).cells] (by kernel_rfl) ?_
       refine aw_ret (at_r ?_)
       have hr := Option.some.inj hF; subst hr; exact ret_ok (by kernel_rfl)
     · replace hF := (cond_f h11).symm.trans hF
       refine aw_cond_g (t := v3) (by kernel_rfl) h11 ?_
       refine aw_skip ?_
       refine at_n ?_
       refine aw_seq ?_
       refine rg [] [(2, (aInt (0 : Int)))] [.cells (aType v1).cells] (by kernel_rfl) ?_
       refine aw_ret ?_
       have hr := Option.some.inj hF; subst hr; exact ret_ok (by kernel_rfl)
def g_value_ValidateType_J1 (N : Nat) (v1 : TypeD) (v2 : Bool) : Option Int :=
 bif v2 then
  Option.bind (g_value_plain N v1) fun v3 =>
  bif v3 then
   some (0 : Int)
  else
   some (10 : Int)
 else
  bif (v1.xKind == (2 : Int)) then
   Option.bind (g_fixed_ValidateType N v1) fun v4 =>
   bif (v4 == (0 : Int)) then
    some (0 : Int)
   else
    some (10 : Int)
  else
   some (10 : Int)
def g_value_ValidateType (N : Nat) (v1 : TypeD) : Option Int :=
 bif (v1.xKind == (1 : Int)) then
  g_value_ValidateType_J1 N v1 (v1.xKind == (1 : Int))
 else
  g_value_ValidateType_J1 N v1 (v1.xKind == (3 : Int))
theorem g_value_ValidateType_ok (N : Nat) (v1 : TypeD) (r : Int) (hF : g_value_ValidateType N v1 = some r) : AFn Tryz.prog 26 [(aType v1)] (· = (aInt r)) := by
 rw [g_value_ValidateType] at hF
 refine afn_of Tryz.func26 rfl (by kernel_rfl) ?_
 refine aw_cut [0] 0 (Nat.le_refl _) (s' := ⟨15, [(0, (aType v1))], []⟩) (by kernel_rfl) ?_
 refine aw_seq ?_
 refine rg [] [(1, (.ptr 0 0))] [.cells (aType v1).cells] (by kernel_rfl) ?_
 refine aw_seq ?_
 refine aw_seq ?_
 refine rg [] [(4, (aInt v1.xKind))] [.cells (aType v1).cells] (by kernel_rfl) ?_
 refine aw_block ?_
 refine aw_seq ?_
 refine aw_seq ?_
 refine rg [] [(5, (aBool (v1.xKind == (1 : Int))))] [.cells (aType v1).cells] (by kernel_rfl) ?_
 refine aw_joinC [1, 4, 5] 1 (fun (v2 : Bool) => ⟨15, [(1, (.ptr 0 0)), (4, (aInt v1.xKind)), (5, (aBool v2))], [.cells (aType v1).cells]⟩) (fun (v2 : Bool) => g_value_ValidateType_J1 N v1 v2 = some r) (Nat.le_of_ble_eq_true rfl) ?_ ?_
 · rcases bool_cases (v1.xKind == (1 : Int)) with h7 | h7
   · replace hF := (cond_t h7).symm.trans hF
     refine aw_cond_h (t := (v1.xKind == (1 : Int))) (by kernel_rfl) h7 ?_
     refine aw_skip ?_
     refine at_n ?_
     exact ⟨(v1.xKind == (1 : Int)), by kernel_rfl, hF⟩
   · replace hF := (cond_f h7).symm.trans hF
     refine aw_cond_g (t := (v1.xKind == (1 : Int))) (by kernel_rfl) h7 ?_
     refine re [] [(5, (aBool (v1.xKind == (3 : Int)))), (7, (aBool (v1.xKind == (3 : Int))))] [.cells (aType v1).cells] (by kernel_rfl) ?_
     refine at_n ?_
     exact ⟨(v1.xKind == (3 : Int)), by kernel_rfl, hF⟩
 · rintro v2 hF
   try dsimp only at hF
   rw [g_value_ValidateType_J1] at hF
   rcases bool_cases v2 with h1 | h1
   · replace hF := (cond_t h1).symm.trans hF
     refine aw_cond_h (t := v2) (by kernel_rfl) h1 ?_
     refine aw_seq ?_
     obtain ⟨v3, h2, hF⟩ := bind_some hF
     refine rg [(4, cL (g_value_plain_ok N v1 v3 h2))] [(9, (aBool v3))] [.cells (aType v1).cells] (by kernel_rfl) ?_
     rcases bool_cases v3 with h3 | h3
     · replace hF := (cond_t h3).symm.trans hF
       refine aw_cond_h (t := v3) (by kernel_rfl) h3 ?_
       refine aw_seq ?_
       refine rg [] [(2, (aInt (0 : Int)))] [.cells (aType v1).cells] (by kernel_rfl) ?_
       refine aw_ret (ab_r (at_r ?_))
       have hr := Option.some.inj hF; subst hr; exact ret_ok (by kernel_rfl)
     · replace hF := (cond_f h3).symm.trans hF
       refine aw_cond_g (t := v3) (by kernel_rfl) h3 ?_
       refine aw_skip ?_
       refine ab_n ?_
       refine at_n ?_
       refine aw_seq ?_
       refine rg [] [(2, (aInt (10 : Int)))] [.cells (aType v1).cells] (by kernel_rfl) ?_
       refine aw_ret ?_
       have hr := Option.some.inj hF; subst hr; exact ret_ok (by kernel_rfl)
   · replace hF := (cond_f h1).symm.trans hF
     refine aw_cond_g (t := v2) (by kernel_rfl) h1 ?_
     refine aw_seq ?_
     refine rg [] [(10, (aBool (v1.xKind == (2 : Int))))] [.cells (aType v1).cells] (by kernel_rfl) ?_
     rcases bool_cases (v1.xKind == (2 : Int)) with h4 | h4
     · replace hF := (cond_t h4).symm.trans hF
       refine aw_cond_h (t := (v1.xKind == (2 : Int))) (by kernel_rfl) h4 ?_
       refine aw_seq ?_
       obtain ⟨v4, h5, hF⟩ := bind_some hF
       refine rg [(4, cL (g_fixed_ValidateType_ok N v1 v4 h5))] [(14, (aBool (v4 == (0 : Int))))] [.cells (aType v1).cells] (by kernel_rfl) ?_
       rcases bool_cases (v4 == (0 : Int)) with h6 | h6
       · replace hF := (cond_t h6).symm.trans hF
         refine aw_cond_h (t := (v4 == (0 : Int))) (by kernel_rfl) h6 ?_
         refine aw_seq ?_
         refine rg [] [(2, (aInt (0 : Int)))] [.cells (aType v1).cells] (by kernel_rfl) ?_
         refine aw_ret (ab_r (at_r ?_))
         have hr := Option.some.inj hF; subst hr; exact ret_ok (by kernel_rfl)
       · replace hF := (cond_f h6).symm.trans hF
         refine aw_cond_g (t := (v4 == (0 : Int))) (by kernel_rfl) h6 ?_
         refine aw_skip ?_
         refine ab_n ?_
         refine at_n ?_
         refine aw_seq ?_
         refine rg [] [(2, (aInt (10 : Int)))] [.cells (aType v1).cells] (by kernel_rfl) ?_
         refine aw_ret ?_
         have hr := Option.some.inj hF; subst hr; exact ret_ok (by kernel_rfl)
     · replace hF := (cond_f h4).symm.trans hF
       refine aw_cond_g (t := (v1.xKind == (2 : Int))) (by kernel_rfl) h4 ?_
       refine aw_skip ?_
       refine ab_n ?_
       refine at_n ?_
       refine aw_seq ?_
       refine rg [] [(2, (aInt (10 : Int)))] [.cells (aType v1).cells] (by kernel_rfl) ?_
       refine aw_ret ?_
       have hr := Option.some.inj hF; subst hr; exact ret_ok (by kernel_rfl)
def g_expr_IsCondition (N : Nat) (v1 : ExprD) : Option Bool :=
 Option.bind (bif (decide ((13 : Int) ≤ v1.xOp)) then some (decide (v1.xOp ≤ (18 : Int))) else some false) fun v2 =>
 some v2
theorem g_expr_IsCondition_ok (N : Nat) (v1 : ExprD) (r : Bool) (hF : g_expr_IsCondition N v1 = some r) : AFn Tryz.prog 30 [(aExpr v1)] (· = (aBool r)) := by
 rw [g_expr_IsCondition] at hF
 refine afn_of Tryz.func30 rfl (by kernel_rfl) ?_
 refine aw_cut [0] 0 (Nat.le_refl _) (s' := ⟨11, [(0, (aExpr v1))], []⟩) (by kernel_rfl) ?_
 refine aw_seq ?_
 refine rg [] [(1, (.ptr 0 0))] [.cells (aExpr v1).cells] (by kernel_rfl) ?_
 refine aw_seq ?_
 obtain ⟨v2, h2, hF⟩ := bind_some hF
 refine rgE [(2, (aBool v2))] [.cells (aExpr v1).cells] ?_ ?_
 · rcases bool_cases (decide ((13 : Int) ≤ v1.xOp)) with h1 | h1
   · replace h2 := (cond_t h1).symm.trans h2
     have he := Option.some.inj h2; subst he; exact ⟨[(12, bT h1), (15, bT h1), (18, bT h1), (22, bT h1)], by kernel_rfl⟩
   · replace h2 := (cond_f h1).symm.trans h2
     have he := Option.some.inj h2; subst he; exact ⟨[(12, bF h1), (15, bF h1), (18, bF h1), (22, bF h1)], by kernel_rfl⟩
 · refine aw_ret ?_
   have hr := Option.some.inj hF; subst hr; exact ret_ok (by kernel_rfl)
def g_expr_requiresCondition_J1 (N : Nat) (v1 : Int) (v2 : Int) (v3 : Bool) : Option Bool :=
 bif v3 then
  some true
 else
  Option.bind (bif (v1 == (11 : Int)) then some (v2 == (0 : Int)) else some false) fun v4 =>
  some v4
def g_expr_requiresCondition (N : Nat) (v1 : Int) (v2 : Int) : Option Bool :=
 bif (v1 == (16 : Int)) then
  g_expr_requiresCondition_J1 N v1 v2 (v1 == (16 : Int))
 else
  bif (v1 == (17 : Int)) then
   g_expr_requiresCondition_J1 N v1 v2 (v1 == (17 : Int))
  else
   g_expr_requiresCondition_J1 N v1 v2 (v1 == (18 : Int))
theorem g_expr_requiresCondition_ok (N : Nat) (v1 : Int) (v2 : Int) (r : Bool) (hF : g_expr_requiresCondition N v1 v2 = some r) : AFn Tryz.prog 160 [(aInt v1), (aInt v2)] (· = (aBool r)) := by
 rw [g_expr_requiresCondition] at hF
 refine afn_of Tryz.func160 rfl (by kernel_rfl) ?_
 refine aw_cut [0, 1] 0 (Nat.le_refl _) (s' := ⟨16, [(0, (aInt v1)), (1, (aInt v2))], []⟩) (by kernel_rfl) ?_
 refine aw_seq ?_
 refine rg [] [] [] (by kernel_rfl) ?_
 refine aw_seq ?_
 refine aw_seq ?_
 refine rg [] [(5, (aInt v1))] [] (by kernel_rfl) ?_
 refine aw_block ?_
 refine aw_seq ?_
 refine aw_seq ?_
 refine rg [] [(6, (aBool (v1 == (16 : Int))))] [] (by kernel_rfl) ?_
 refine aw_joinC [0, 1, 6] 0 (fun (v3 : Bool) => ⟨16, [(0, (aInt v1)), (1, (aInt v2)), (6, (aBool v3))], []⟩) (fun (v3 : Bool) => g_expr_requiresCondition_J1 N v1 v2 v3 = some r) (Nat.le_of_ble_eq_true rfl) ?_ ?_
 · rcases bool_cases (v1 == (16 : Int)) with h4 | h4
   · replace hF := (cond_t h4).symm.trans hF
     refine aw_cond_h (t := (v1 == (16 : Int))) (by kernel_rfl) h4 ?_
     refine aw_skip ?_
     refine at_n ?_
     exact ⟨(v1 == (16 : Int)), by kernel_rfl, hF⟩
   · replace hF := (cond_f h4).symm.trans hF
     refine aw_cond_g (t := (v1 == (16 : Int))) (by kernel_rfl) h4 ?_
     refine aw_seq ?_
     refine rg [] [(6, (aBool (v1 == (17 : Int))))] [] (by kernel_rfl) ?_
     rcases bool_cases (v1 == (17 : Int)) with h5 | h5
     · replace hF := (cond_t h5).symm.trans hF
       refine aw_cond_h (t := (v1 == (17 : Int))) (by kernel_rfl) h5 ?_
       refine aw_skip ?_
       refine at_n ?_
       exact ⟨(v1 == (17 : Int)), by kernel_rfl, hF⟩
     · replace hF := (cond_f h5).symm.trans hF
       refine aw_cond_g (t := (v1 == (17 : Int))) (by kernel_rfl) h5 ?_
       refine re [] [(6, (aBool (v1 == (18 : Int)))), (9, (aBool (v1 == (18 : Int))))] [] (by kernel_rfl) ?_
       refine at_n ?_
       exact ⟨(v1 == (18 : Int)), by kernel_rfl, hF⟩
 · rintro v3 hF
   try dsimp only at hF
   rw [g_expr_requiresCondition_J1] at hF
   rcases bool_cases v3 with h1 | h1
   · replace hF := (cond_t h1).symm.trans hF
     refine aw_cond_h (t := v3) (by kernel_rfl) h1 ?_
     refine aw_seq ?_
     refine rg [] [(4, (aBool true))] [] (by kernel_rfl) ?_
     refine aw_ret (ab_r (at_r ?_))
     have hr := Option.some.inj hF; subst hr; exact ret_ok (by kernel_rfl)
   · replace hF := (cond_f h1).symm.trans hF
     refine aw_cond_g (t := v3) (by kernel_rfl) h1 ?_
     refine aw_skip ?_
     refine ab_n ?_
     refine at_n ?_
     refine aw_seq ?_
     obtain ⟨v4, h3, hF⟩ := bind_some hF
     refine rgE [(4, (aBool v4))] [] ?_ ?_
     · rcases bool_cases (v1 == (11 : Int)) with h2 | h2
       · replace h3 := (cond_t h2).symm.trans h3
         have he := Option.some.inj h3; subst he; exact ⟨[(9, bT h2), (12, bT h2), (16, bT h2)], by kernel_rfl⟩
       · replace h3 := (cond_f h2).symm.trans h3
         have he := Option.some.inj h3; subst he; exact ⟨[(9, bF h2), (12, bF h2), (16, bF h2)], by kernel_rfl⟩
     · refine aw_ret ?_
       have hr := Option.some.inj hF; subst hr; exact ret_ok (by kernel_rfl)
def g_expr_types_L1 (N : Nat) (v1 : ExprD) : List ExprD → Nat → Option Bool
 | [], _ =>
  some true
 | v7 :: v8, v5 =>
  Option.bind (g_expr_IsCondition N v7) fun v9 =>
  Option.bind (g_expr_requiresCondition N v1.xOp (v5 : Int)) fun v10 =>
  bif (v9 == v10) then
   (g_expr_types_L1 N v1 v8 (v5 + 1))
  else
   some false
def g_expr_types (N : Nat) (v1 : ExprD) : Option Bool :=
 Option.bind (bif (v1.xOp == (1 : Int)) then Option.bind (g_value_ValidateType N v1.xType) fun v2 =>
 some (v2 != (0 : Int)) else (bif (v1.xOp == (12 : Int)) then Option.bind (g_value_ValidateType N v1.xType) fun v3 =>
 some (v3 != (0 : Int)) else some false)) fun v4 =>
 bif v4 then
  some false
 else
  g_expr_types_L1 N v1 v1.xArgs 0
theorem g_expr_types_ok (N : Nat) (v1 : ExprD) (r : Bool) (hF : g_expr_types N v1 = some r) : AFn Tryz.prog 94 [(aExpr v1)] (· = (aBool r)) := by
 rw [g_expr_types] at hF
 refine afn_of Tryz.func94 rfl (by kernel_rfl) ?_
 refine aw_cut [0] 0 (Nat.le_refl _) (s' := ⟨35, [(0, (aExpr v1))], []⟩) (by kernel_rfl) ?_
 refine aw_seq ?_
 refine rg [] [(1, (.ptr 0 0))] [.cells (aExpr v1).cells] (by kernel_rfl) ?_
 refine aw_seq ?_
 refine aw_seq ?_
 obtain ⟨v4, h5, hF⟩ := bind_some hF
 refine rgE [(18, (aBool v4))] [.cells (aExpr v1).cells] ?_ ?_
 · rcases bool_cases (v1.xOp == (1 : Int)) with h1 | h1
   · replace h5 := (cond_t h1).symm.trans h5
     obtain ⟨v2, h2, h5⟩ := bind_some h5
     have he := Option.some.inj h5; subst he; exact ⟨[(12, bT h1), (15, bT h1), (18, bT h1), (22, bT h1), (27, bT rfl), (30, bT rfl), (33, bT rfl), (34, cL (g_value_ValidateType_ok N v1.xType v2 h2)), (36, bT rfl), (40, bT rfl)], by kernel_rfl⟩
   · replace h5 := (cond_f h1).symm.trans h5
     rcases bool_cases (v1.xOp == (12 : Int)) with h3 | h3
     · replace h5 := (cond_t h3).symm.trans h5
       obtain ⟨v3, h4, h5⟩ := bind_some h5
       have he := Option.some.inj h5; subst he; exact ⟨[(12, bF h1), (15, bF h1), (18, bF h1), (22, bF h1), (27, bT h3), (30, bT h3), (33, bT h3), (34, cL (g_value_ValidateType_ok N v1.xType v3 h4)), (36, bT h3), (40, bT h3)], by kernel_rfl⟩
     · replace h5 := (cond_f h3).symm.trans h5
       have he := Option.some.inj h5; subst he; exact ⟨[(12, bF h1), (15, bF h1), (18, bF h1), (22, bF h1), (27, bF h3), (30, bF h3), (33, bF h3), (36, bF h3), (40, bF h3)], by kernel_rfl⟩
 · rcases bool_cases v4 with h6 | h6
   · replace hF := (cond_t h6).symm.trans hF
     refine aw_cond_h (t := v4) (by kernel_rfl) h6 ?_
     refine aw_seq ?_
     refine rg [] [(2, (aBool false))] [.cells (aExpr v1).cells] (by kernel_rfl) ?_
     refine aw_ret (at_r ?_)
     have hr := Option.some.inj hF; subst hr; exact ret_ok (by kernel_rfl)
   · replace hF := (cond_f h6).symm.trans hF
     refine aw_cond_g (t := v4) (by kernel_rfl) h6 ?_
     refine aw_skip ?_
     refine at_n ?_
     refine aw_seq ?_
     refine aw_seq ?_
     refine rg [(7, ⟨_, _, .len (xs := dExprs v1.xArgs) dExprs_len⟩)] [(20, (.d (.sl (dExprs v1.xArgs)))), (21, (aInt (v1.xArgs.length : Int))), (22, (aInt (0 : Int)))] [.cells (aExpr v1).cells] (by kernel_rfl) ?_
     refine aw_block ?_
     refine aw_okT 20 (dExprs v1.xArgs) (by kernel_rfl) fun h7 => ?_
     have h8 : v1.xArgs.length ≤ maxLen := by rw [← dExprs_len]; exact ok_len h7
     refine aw_loopC [1, 20, 21, 22] 1 (fun ((v5, v6) : Nat × (List ExprD)) => ⟨35, [(1, (.ptr 0 0)), (20, (.d (.sl (dExprs v1.xArgs)))), (21, (aInt (v1.xArgs.length : Int))), (22, (aInt (v5 : Int)))], [.cells (aExpr v1).cells]⟩) (fun ((v5, v6) : Nat × (List ExprD)) => v1.xArgs.drop v5 = v6 ∧ g_expr_types_L1 N v1 v6 v5 = some r) (fun ((v5, v6) : Nat × (List ExprD)) => v6.length) (0, v1.xArgs) (Nat.le_of_ble_eq_true rfl) (by kernel_rfl) ⟨rfl, hF⟩ ?_
     rintro ⟨v5, v6⟩ ⟨h9, hF⟩
     cases v6 with
     | nil =>
      rw [g_expr_types_L1] at hF
      refine aw_seq ?_
      refine rg [] [(23, (aBool (decide ((v5 : Int) < (v1.xArgs.length : Int)))))] [.cells (aExpr v1).cells] (by kernel_rfl) ?_
      refine aw_seq ?_
      refine aw_cond_g (t := (decide ((v5 : Int) < (v1.xArgs.length : Int)))) (by kernel_rfl) (lt_f h9) ?_
      refine aw_exit (at_e (at_e (ab_y rfl ?_)))
      refine at_n ?_
      refine aw_seq ?_
      refine rg [] [(2, (aBool true))] [.cells (aExpr v1).cells] (by kernel_rfl) ?_
      refine aw_ret ?_
      have hr := Option.some.inj hF; subst hr; exact ret_ok (by kernel_rfl)
     | cons v7 v8 =>
      rw [g_expr_types_L1] at hF
      refine aw_seq ?_
      refine rg [] [(23, (aBool (decide ((v5 : Int) < (v1.xArgs.length : Int)))))] [.cells (aExpr v1).cells] (by kernel_rfl) ?_
      refine aw_seq ?_
      refine aw_cond_h (t := (decide ((v5 : Int) < (v1.xArgs.length : Int)))) (by kernel_rfl) (lt_t h9) ?_
      refine aw_skip ?_
      refine at_n ?_
      refine aw_seq ?_
      refine aw_block ?_
      refine aw_seq ?_
      refine rg [(4, ⟨_, _, .el (xs := dExprs v1.xArgs) (i := (v5 : Int)) (Int.natCast_nonneg _) (dExprs_get (drop_get h9))⟩)] [(4, (.ptr 1 0)), (3, (aInt (v5 : Int)))] [.cells (aExpr v1).cells, .cells (aExpr v7).cells] (by kernel_rfl) ?_
      refine aw_seq ?_
      obtain ⟨v9, h10, hF⟩ := bind_some hF
      obtain ⟨v10, h11, hF⟩ := bind_some hF
      refine rd mixed (by kernel_rfl) [(4, cL (g_expr_IsCondition_ok N v7 v9 h10)), (16, cL (g_expr_requiresCondition_ok N v1.xOp (v5 : Int) v10 h11))] [(33, (aBool (!(v9 == v10))))] [.cells (aExpr v1).cells, .cells (aExpr v7).cells] (by kernel_rfl) ?_
      rcases bool_cases (v9 == v10) with h12 | h12
      · replace hF := (cond_t h12).symm.trans hF
        refine aw_cond_g (t := (!(v9 == v10))) (by kernel_rfl) (not_t h12) ?_
        refine aw_skip ?_
        refine ab_n ?_
        refine at_n ?_
        refine re [(2, ⟨_, _, .eq (wrap_nx h9 rfl h8)⟩)] [(22, (aInt ((v5 + 1 : Nat) : Int))), (34, (aInt ((v5 + 1 : Nat) : Int)))] [.cells (aExpr v1).cells, .cells (aExpr v7).cells] (by kernel_rfl) ?_
        refine at_n ?_
        exact ⟨(v5 + 1, v8), by kernel_rfl, ⟨drop_nx h9, hF⟩, Nat.lt_succ_self _⟩
      · replace hF := (cond_f h12).symm.trans hF
        refine aw_cond_h (t := (!(v9 == v10))) (by kernel_rfl) (not_f h12) ?_
        refine aw_seq ?_
        refine rg [] [(2, (aBool false))] [.cells (aExpr v1).cells, .cells (aExpr v7).cells] (by kernel_rfl) ?_
        refine aw_ret (ab_r (at_r (at_r (ab_r (at_r ?_)))))
        have hr := Option.some.inj hF; subst hr; exact ret_ok (by kernel_rfl)
def g_round_valid (N : Nat) (v1 : Int) : Option Bool :=
 Option.bind (bif (decide (v1 ≥ (2 : Int))) then some (decide (v1 ≤ (31 : Int))) else some false) fun v2 =>
 some v2
theorem g_round_valid_ok (N : Nat) (v1 : Int) (r : Bool) (hF : g_round_valid N v1 = some r) : AFn Tryz.prog 257 [(aInt v1)] (· = (aBool r)) := by
 rw [g_round_valid] at hF
 refine afn_of Tryz.func257 rfl (by kernel_rfl) ?_
 refine aw_cut [0] 0 (Nat.le_refl _) (s' := ⟨9, [(0, (aInt v1))], []⟩) (by kernel_rfl) ?_
 refine aw_seq ?_
 refine rg [] [] [] (by kernel_rfl) ?_
 refine aw_seq ?_
 obtain ⟨v2, h2, hF⟩ := bind_some hF
 refine rgE [(2, (aBool v2))] [] ?_ ?_
 · rcases bool_cases (decide (v1 ≥ (2 : Int))) with h1 | h1
   · replace h2 := (cond_t h1).symm.trans h2
     have he := Option.some.inj h2; subst he; exact ⟨[(9, bT h1), (12, bT h1), (16, bT h1)], by kernel_rfl⟩
   · replace h2 := (cond_f h1).symm.trans h2
     have he := Option.some.inj h2; subst he; exact ⟨[(9, bF h1), (12, bF h1), (16, bF h1)], by kernel_rfl⟩
 · refine aw_ret ?_
   have hr := Option.some.inj hF; subst hr; exact ret_ok (by kernel_rfl)
def g_round_MinInt (N : Nat) (v1 : Int) : Option Int64 :=
 Option.bind (g_round_valid N v1) fun v2 =>
 bif v2 then
  bif (decide ((0 : Int) ≤ (IntKind.u64.wrap (w64 (v1 - (1 : Int)))))) then
  some (-(Int64.ofInt ((1 : Int) * 2 ^ (min ((IntKind.u64.wrap (w64 (v1 - (1 : Int))))).toNat (IntKind.bits .i64)))))
  else none
 else
  some (0 : Int64)
theorem g_round_MinInt_ok (N : Nat) (v1 : Int) (r : Int64) (hF : g_round_MinInt N v1 = some r) : AFn Tryz.prog 210 [(aInt v1)] (· = (aI64 r)) := by
 rw [g_round_MinInt] at hF
 refine afn_of Tryz.func210 rfl (by kernel_rfl) ?_
 refine aw_cut [0] 0 (Nat.le_refl _) (s' := ⟨11, [(0, (aInt v1))], []⟩) (by kernel_rfl) ?_
 refine aw_seq ?_
 refine rg [] [] [] (by kernel_rfl) ?_
 refine aw_seq ?_
 refine aw_seq ?_
 obtain ⟨v2, h1, hF⟩ := bind_some hF
 refine rg [(4, cL (g_round_valid_ok N v1 v2 h1))] [(5, (aBool (!v2)))] [] (by kernel_rfl) ?_
 rcases bool_cases v2 with h2 | h2
 · replace hF := (cond_t h2).symm.trans hF
   refine aw_cond_g (t := (!v2)) (by kernel_rfl) (not_t h2) ?_
   refine aw_skip ?_
   refine at_n ?_
   refine aw_seq ?_
   have h3 := chk_t hF
   replace hF := (cond_t h3).symm.trans hF
   refine rg [(10, ⟨_, _, .nn (b := (IntKind.u64.wrap (w64 (v1 - (1 : Int))))) (of_decide_eq_true h3)⟩), (11, ⟨_, _, .eq (i64_of ((1 : Int) * 2 ^ (min ((IntKind.u64.wrap (w64 (v1 - (1 : Int))))).toNat (IntKind.bits .i64))))⟩), (14, ⟨_, _, .eq (i64_neg (Int64.ofInt ((1 : Int) * 2 ^ (min ((IntKind.u64.wrap (w64 (v1 - (1 : Int))))).toNat (IntKind.bits .i64)))))⟩)] [(2, (aI64 (-(Int64.ofInt ((1 : Int) * 2 ^ (min ((IntKind.u64.wrap (w64 (v1 - (1 : Int))))).toNat (IntKind.bits .i64)))))))] [] (by kernel_rfl) ?_
   refine aw_ret ?_
   have hr := Option.some.inj hF; subst hr; exact ret_ok (by kernel_rfl)
 · replace hF := (cond_f h2).symm.trans hF
   refine aw_cond_h (t := (!v2)) (by kernel_rfl) (not_f h2) ?_
   refine aw_seq ?_
   refine rg [] [(2, (aI64 (0 : Int64)))] [] (by kernel_rfl) ?_
   refine aw_ret (at_r ?_)
   have hr := Option.some.inj hF; subst hr; exact ret_ok (by kernel_rfl)
def g_round_MaxInt (N : Nat) (v1 : Int) : Option Int64 :=
 Option.bind (g_round_valid N v1) fun v2 =>
 bif v2 then
  bif (decide ((0 : Int) ≤ (IntKind.u64.wrap (w64 (v1 - (1 : Int)))))) then
  some ((Int64.ofInt ((1 : Int) * 2 ^ (min ((IntKind.u64.wrap (w64 (v1 - (1 : Int))))).toNat (IntKind.bits .i64)))) - (1 : Int64))
  else none
 else
  some (0 : Int64)
theorem g_round_MaxInt_ok (N : Nat) (v1 : Int) (r : Int64) (hF : g_round_MaxInt N v1 = some r) : AFn Tryz.prog 211 [(aInt v1)] (· = (aI64 r)) := by
 rw [g_round_MaxInt] at hF
 refine afn_of Tryz.func211 rfl (by kernel_rfl) ?_
 refine aw_cut [0] 0 (Nat.le_refl _) (s' := ⟨11, [(0, (aInt v1))], []⟩) (by kernel_rfl) ?_
 refine aw_seq ?_
 refine rg [] [] [] (by kernel_rfl) ?_
 refine aw_seq ?_
 refine aw_seq ?_
 obtain ⟨v2, h1, hF⟩ := bind_some hF
 refine rg [(4, cL (g_round_valid_ok N v1 v2 h1))] [(5, (aBool (!v2)))] [] (by kernel_rfl) ?_
 rcases bool_cases v2 with h2 | h2
 · replace hF := (cond_t h2).symm.trans hF
   refine aw_cond_g (t := (!v2)) (by kernel_rfl) (not_t h2) ?_
   refine aw_skip ?_
   refine at_n ?_
   refine aw_seq ?_
   have h3 := chk_t hF
   replace hF := (cond_t h3).symm.trans hF
   refine rg [(10, ⟨_, _, .nn (b := (IntKind.u64.wrap (w64 (v1 - (1 : Int))))) (of_decide_eq_true h3)⟩), (11, ⟨_, _, .eq (i64_of ((1 : Int) * 2 ^ (min ((IntKind.u64.wrap (w64 (v1 - (1 : Int))))).toNat (IntKind.bits .i64))))⟩), (14, ⟨_, _, .eq (i64_sub (Int64.ofInt ((1 : Int) * 2 ^ (min ((IntKind.u64.wrap (w64 (v1 - (1 : Int))))).toNat (IntKind.bits .i64)))) (1 : Int64))⟩)] [(2, (aI64 ((Int64.ofInt ((1 : Int) * 2 ^ (min ((IntKind.u64.wrap (w64 (v1 - (1 : Int))))).toNat (IntKind.bits .i64)))) - (1 : Int64))))] [] (by kernel_rfl) ?_
   refine aw_ret ?_
   have hr := Option.some.inj hF; subst hr; exact ret_ok (by kernel_rfl)
 · replace hF := (cond_f h2).symm.trans hF
   refine aw_cond_h (t := (!v2)) (by kernel_rfl) (not_f h2) ?_
   refine aw_seq ?_
   refine rg [] [(2, (aI64 (0 : Int64)))] [] (by kernel_rfl) ?_
   refine aw_ret (at_r ?_)
   have hr := Option.some.inj hF; subst hr; exact ret_ok (by kernel_rfl)
def g_fixed_Valid (N : Nat) (v1 : TypeD) (v2 : ValD) : Option Bool :=
 Option.bind (g_fixed_ValidateType N v1) fun v3 =>
 Option.bind (bif (v3 == (0 : Int)) then (bif (v2.xD.toInt == (1 : Int)) then Option.bind (g_round_MinInt N v1.xBits) fun v4 =>
 (bif (decide (v2.xN.toInt ≥ v4.toInt)) then Option.bind (g_round_MaxInt N v1.xBits) fun v5 =>
 some (decide (v2.xN.toInt ≤ v5.toInt)) else some false) else some false) else some false) fun v6 =>
 some v6
theorem g_fixed_Valid_ok (N : Nat) (v1 : TypeD) (v2 : ValD) (r : Bool) (hF : g_fixed_Valid N v1 v2 = some r) : AFn Tryz.prog 161 [(aType v1), (aVal v2)] (· = (aBool r)) := by
 rw [g_fixed_Valid] at hF
 refine afn_of Tryz.func161 rfl (by kernel_rfl) ?_
 refine aw_cut [0, 1] 0 (Nat.le_refl _) (s' := ⟨29, [(0, (aType v1)), (1, (aVal v2))], []⟩) (by kernel_rfl) ?_
 refine aw_seq ?_
 refine rg [] [(2, (.ptr 0 0)), (3, (.ptr 1 0))] [.cells (aType v1).cells, .cells (aVal v2).cells] (by kernel_rfl) ?_
 refine aw_seq ?_
 obtain ⟨v3, h1, hF⟩ := bind_some hF
 obtain ⟨v6, h7, hF⟩ := bind_some hF
 refine rdE mixed (by kernel_rfl) [(4, (aBool v6))] [.cells (aType v1).cells, .cells (aVal v2).cells] ?_ ?_
 · rcases bool_cases (v3 == (0 : Int)) with h2 | h2
   · replace h7 := (cond_t h2).symm.trans h7
     rcases bool_cases (v2.xD.toInt == (1 : Int)) with h3 | h3
     · replace h7 := (cond_t h3).symm.trans h7
       obtain ⟨v4, h4, h7⟩ := bind_some h7
       rcases bool_cases (decide (v2.xN.toInt ≥ v4.toInt)) with h5 | h5
       · replace h7 := (cond_t h5).symm.trans h7
         obtain ⟨v5, h6, h7⟩ := bind_some h7
         have he := Option.some.inj h7; subst he; exact ⟨[(4, cL (g_fixed_ValidateType_ok N v1 v3 h1)), (12, bT h2), (15, bT h2), (18, bT h2), (22, bT h2), (27, bT h3), (30, bT h3), (33, bT h3), (36, bT h3), (39, bT h3), (40, cL (g_round_MinInt_ok N v1.xBits v4 h4)), (42, bT h3), (46, bT h3), (51, bT h5), (54, bT h5), (57, bT h5), (60, bT h5), (63, bT h5), (64, cL (g_round_MaxInt_ok N v1.xBits v5 h6)), (66, bT h5), (70, bT h5)], by kernel_rfl⟩
       · replace h7 := (cond_f h5).symm.trans h7
         have he := Option.some.inj h7; subst he; exact ⟨[(4, cL (g_fixed_ValidateType_ok N v1 v3 h1)), (12, bT h2), (15, bT h2), (18, bT h2), (22, bT h2), (27, bT h3), (30, bT h3), (33, bT h3), (36, bT h3), (39, bT h3), (40, cL (g_round_MinInt_ok N v1.xBits v4 h4)), (42, bT h3), (46, bT h3), (51, bF h5), (54, bF h5), (57, bF h5), (60, bF h5), (63, bF h5), (66, bF h5), (70, bF h5)], by kernel_rfl⟩
     · replace h7 := (cond_f h3).symm.trans h7
       have he := Option.some.inj h7; subst he; exact ⟨[(4, cL (g_fixed_ValidateType_ok N v1 v3 h1)), (12, bT h2), (15, bT h2), (18, bT h2), (22, bT h2), (27, bF h3), (30, bF h3), (33, bF h3), (36, bF h3), (39, bF h3), (42, bF h3), (46, bF h3), (51, bF rfl), (54, bF rfl), (57, bF rfl), (60, bF rfl), (63, bF rfl), (66, bF rfl), (70, bF rfl)], by kernel_rfl⟩
   · replace h7 := (cond_f h2).symm.trans h7
     have he := Option.some.inj h7; subst he; exact ⟨[(4, cL (g_fixed_ValidateType_ok N v1 v3 h1)), (12, bF h2), (15, bF h2), (18, bF h2), (22, bF h2), (27, bF rfl), (30, bF rfl), (33, bF rfl), (36, bF rfl), (39, bF rfl), (42, bF rfl), (46, bF rfl), (51, bF rfl), (54, bF rfl), (57, bF rfl), (60, bF rfl), (63, bF rfl), (66, bF rfl), (70, bF rfl)], by kernel_rfl⟩
 · refine aw_ret ?_
   have hr := Option.some.inj hF; subst hr; exact ret_ok (by kernel_rfl)
def g_value_whole (N : Nat) (v1 : Int64) : Option Bool :=
 Option.bind (bif (decide (v1.toInt ≥ (-2147483647 : Int))) then some (decide (v1.toInt ≤ (2147483647 : Int))) else some false) fun v2 =>
 some v2
theorem g_value_whole_ok (N : Nat) (v1 : Int64) (r : Bool) (hF : g_value_whole N v1 = some r) : AFn Tryz.prog 162 [(aI64 v1)] (· = (aBool r)) := by
 rw [g_value_whole] at hF
 refine afn_of Tryz.func162 rfl (by kernel_rfl) ?_
 refine aw_cut [0] 0 (Nat.le_refl _) (s' := ⟨9, [(0, (aI64 v1))], []⟩) (by kernel_rfl) ?_
 refine aw_seq ?_
 refine rg [] [] [] (by kernel_rfl) ?_
 refine aw_seq ?_
 obtain ⟨v2, h2, hF⟩ := bind_some hF
 refine rgE [(2, (aBool v2))] [] ?_ ?_
 · rcases bool_cases (decide (v1.toInt ≥ (-2147483647 : Int))) with h1 | h1
   · replace h2 := (cond_t h1).symm.trans h2
     have he := Option.some.inj h2; subst he; exact ⟨[(9, bT h1), (12, bT h1), (16, bT h1)], by kernel_rfl⟩
   · replace h2 := (cond_f h1).symm.trans h2
     have he := Option.some.inj h2; subst he; exact ⟨[(9, bF h1), (12, bF h1), (16, bF h1)], by kernel_rfl⟩
 · refine aw_ret ?_
   have hr := Option.some.inj hF; subst hr; exact ret_ok (by kernel_rfl)
def g_frac_inRange (N : Nat) (v1 : Int64) : Option Bool :=
 Option.bind (bif (decide (v1.toInt ≥ (-2147483647 : Int))) then some (decide (v1.toInt ≤ (2147483647 : Int))) else some false) fun v2 =>
 some v2
theorem g_frac_inRange_ok (N : Nat) (v1 : Int64) (r : Bool) (hF : g_frac_inRange N v1 = some r) : AFn Tryz.prog 212 [(aI64 v1)] (· = (aBool r)) := by
 rw [g_frac_inRange] at hF
 refine afn_of Tryz.func212 rfl (by kernel_rfl) ?_
 refine aw_cut [0] 0 (Nat.le_refl _) (s' := ⟨9, [(0, (aI64 v1))], []⟩) (by kernel_rfl) ?_
 refine aw_seq ?_
 refine rg [] [] [] (by kernel_rfl) ?_
 refine aw_seq ?_
 obtain ⟨v2, h2, hF⟩ := bind_some hF
 refine rgE [(2, (aBool v2))] [] ?_ ?_
 · rcases bool_cases (decide (v1.toInt ≥ (-2147483647 : Int))) with h1 | h1
   · replace h2 := (cond_t h1).symm.trans h2
     have he := Option.some.inj h2; subst he; exact ⟨[(9, bT h1), (12, bT h1), (16, bT h1)], by kernel_rfl⟩
   · replace h2 := (cond_f h1).symm.trans h2
     have he := Option.some.inj h2; subst he; exact ⟨[(9, bF h1), (12, bF h1), (16, bF h1)], by kernel_rfl⟩
 · refine aw_ret ?_
   have hr := Option.some.inj hF; subst hr; exact ret_ok (by kernel_rfl)
def g_frac_magnitude (N : Nat) (v1 : Int64) : Option Int :=
 bif (decide (v1.toInt < (0 : Int))) then
  some (IntKind.u64.wrap (0 - (IntKind.u64.wrap v1.toInt)))
 else
  some (IntKind.u64.wrap v1.toInt)
theorem g_frac_magnitude_ok (N : Nat) (v1 : Int64) (r : Int) (hF : g_frac_magnitude N v1 = some r) : AFn Tryz.prog 214 [(aI64 v1)] (· = (.d (.v (.int .u64 r)))) := by
 rw [g_frac_magnitude] at hF
 refine afn_of Tryz.func214 rfl (by kernel_rfl) ?_
 refine aw_cut [0] 0 (Nat.le_refl _) (s' := ⟨10, [(0, (aI64 v1))], []⟩) (by kernel_rfl) ?_
 refine aw_seq ?_
 refine rg [] [] [] (by kernel_rfl) ?_
 refine aw_seq ?_
 refine aw_seq ?_
 refine rg [] [(4, (aBool (decide (v1.toInt < (0 : Int)))))] [] (by kernel_rfl) ?_
 rcases bool_cases (decide (v1.toInt < (0 : Int))) with h1 | h1
 · replace hF := (cond_t h1).symm.trans hF
   refine aw_cond_h (t := (decide (v1.toInt < (0 : Int)))) (by kernel_rfl) h1 ?_
   refine aw_seq ?_
   refine rg [] [(2, (.d (.v (.int .u64 (IntKind.u64.wrap (0 - (IntKind.u64.wrap v1.toInt)))))))] [] (by kernel_rfl) ?_
   refine aw_ret (at_r ?_)
   have hr := Option.some.inj hF; subst hr; exact ret_ok (by kernel_rfl)
 · replace hF := (cond_f h1).symm.trans hF
   refine aw_cond_g (t := (decide (v1.toInt < (0 : Int)))) (by kernel_rfl) h1 ?_
   refine aw_skip ?_
   refine at_n ?_
   refine aw_seq ?_
   refine rg [] [(2, (.d (.v (.int .u64 (IntKind.u64.wrap v1.toInt)))))] [] (by kernel_rfl) ?_
   refine aw_ret ?_
   have hr := Option.some.inj hF; subst hr; exact ret_ok (by kernel_rfl)
def g_frac_gcd_L1 (N : Nat) : Nat → Int → Int → Option Int
 | 0, _, _ => none
 | v3 + 1, v4, v5 =>
  bif (v5 != (0 : Int)) then
   (fun b1_0 b1_1 => g_frac_gcd_L1 N v3 b1_0 b1_1) v5 ((v4).tmod v5)
  else
   some v4
def g_frac_gcd (N : Nat) (v1 : Int) (v2 : Int) : Option Int :=
 g_frac_gcd_L1 N N v1 v2
theorem g_frac_gcd_ok (N : Nat) (v1 : Int) (v2 : Int) (r : Int) (hF : g_frac_gcd N v1 v2 = some r) : AFn Tryz.prog 213 [(.d (.v (.int .u64 v1))), (.d (.v (.int .u64 v2)))] (· = (.d (.v (.int .u64 r)))) := by
 rw [g_frac_gcd] at hF
 refine afn_of Tryz.func213 rfl (by kernel_rfl) ?_
 refine aw_cut [0, 1] 0 (Nat.le_refl _) (s' := ⟨12, [(0, (.d (.v (.int .u64 v1)))), (1, (.d (.v (.int .u64 v2))))], []⟩) (by kernel_rfl) ?_
 refine aw_seq ?_
 refine rg [] [] [] (by kernel_rfl) ?_
 refine aw_seq ?_
 refine aw_block ?_
 refine aw_loopC [0, 1] 0 (fun ((v3, v4, v5) : Nat × Int × Int) => ⟨12, [(0, (.d (.v (.int .u64 v4)))), (1, (.d (.v (.int .u64 v5))))], []⟩) (fun ((v3, v4, v5) : Nat × Int × Int) => g_frac_gcd_L1 N v3 v4 v5 = some r) (fun ((v3, v4, v5) : Nat × Int × Int) => v3) (N, v1, v2) (Nat.le_of_ble_eq_true rfl) (by kernel_rfl) hF ?_
 rintro ⟨v3, v4, v5⟩ hF
 try dsimp only at hF
 cases v3 with
 | zero =>
  rw [g_frac_gcd_L1] at hF
  cases hF
 | succ v3 =>
  rw [g_frac_gcd_L1] at hF
  refine aw_seq ?_
  refine aw_seq ?_
  refine rg [] [(6, (aBool (v5 != (0 : Int))))] [] (by kernel_rfl) ?_
  rcases bool_cases (v5 != (0 : Int)) with h1 | h1
  · replace hF := (cond_t h1).symm.trans hF
    refine aw_cond_h (t := (v5 != (0 : Int))) (by kernel_rfl) h1 ?_
    refine aw_skip ?_
    refine at_n ?_
    refine aw_block ?_
    refine rde mixed (by kernel_rfl) [(10, ⟨_, _, .nz (b := v5) (bne_iff_ne.1 h1)⟩)] [(1, (.d (.v (.int .u64 ((v4).tmod v5))))), (0, (.d (.v (.int .u64 v5)))), (10, (.d (.v (.int .u64 ((v4).tmod v5))))), (9, (.d (.v (.int .u64 v5)))), (8, (.d (.v (.int .u64 v4)))), (7, (.d (.v (.int .u64 v5))))] [] (by kernel_rfl) ?_
    refine ab_n ?_
    refine at_n ?_
    exact ⟨(v3, v5, ((v4).tmod v5)), by kernel_rfl, hF, Nat.lt_succ_self _⟩
  · replace hF := (cond_f h1).symm.trans hF
    refine aw_cond_g (t := (v5 != (0 : Int))) (by kernel_rfl) h1 ?_
    refine aw_exit (at_e (at_e (ab_y rfl ?_)))
    refine at_n ?_
    refine aw_seq ?_
    refine rg [] [(4, (.d (.v (.int .u64 v4))))] [] (by kernel_rfl) ?_
    refine aw_ret ?_
    have hr := Option.some.inj hF; subst hr; exact ret_ok (by kernel_rfl)
def g_frac_Valid (N : Nat) (v1 : ValD) : Option Bool :=
 Option.bind (bif (decide (v1.xD.toInt ≥ (1 : Int))) then (bif (decide (v1.xD.toInt ≤ (2147483647 : Int))) then Option.bind (g_frac_inRange N v1.xN) fun v2 =>
 (bif v2 then Option.bind (g_frac_magnitude N v1.xN) fun v3 =>
 Option.bind (g_frac_gcd N v3 (IntKind.u64.wrap v1.xD.toInt)) fun v4 =>
 some (v4 == (1 : Int)) else some false) else some false) else some false) fun v5 =>
 some v5
theorem g_frac_Valid_ok (N : Nat) (v1 : ValD) (r : Bool) (hF : g_frac_Valid N v1 = some r) : AFn Tryz.prog 163 [(aVal v1)] (· = (aBool r)) := by
 rw [g_frac_Valid] at hF
 refine afn_of Tryz.func163 rfl (by kernel_rfl) ?_
 refine aw_cut [0] 0 (Nat.le_refl _) (s' := ⟨26, [(0, (aVal v1))], []⟩) (by kernel_rfl) ?_
 refine aw_seq ?_
 refine rg [] [(1, (.ptr 0 0))] [.cells (aVal v1).cells] (by kernel_rfl) ?_
 refine aw_seq ?_
 obtain ⟨v5, h7, hF⟩ := bind_some hF
 refine rdE mixed (by kernel_rfl) [(2, (aBool v5))] [.cells (aVal v1).cells] ?_ ?_
 · rcases bool_cases (decide (v1.xD.toInt ≥ (1 : Int))) with h1 | h1
   · replace h7 := (cond_t h1).symm.trans h7
     rcases bool_cases (decide (v1.xD.toInt ≤ (2147483647 : Int))) with h2 | h2
     · replace h7 := (cond_t h2).symm.trans h7
       obtain ⟨v2, h3, h7⟩ := bind_some h7
       rcases bool_cases v2 with h4 | h4
       · replace h7 := (cond_t h4).symm.trans h7
         obtain ⟨v3, h5, h7⟩ := bind_some h7
         obtain ⟨v4, h6, h7⟩ := bind_some h7
         have he := Option.some.inj h7; subst he; exact ⟨[(12, bT h1), (15, bT h1), (18, bT h1), (22, bT h1), (27, bT h2), (30, bT h2), (33, bT h2), (34, cL (g_frac_inRange_ok N v1.xN v2 h3)), (37, bT h2), (42, bT h4), (45, bT h4), (48, bT h4), (49, cL (g_frac_magnitude_ok N v1.xN v3 h5)), (51, bT h4), (54, bT h4), (57, bT h4), (60, bT h4), (61, cL (g_frac_gcd_ok N v3 (IntKind.u64.wrap v1.xD.toInt) v4 h6)), (63, bT h4), (67, bT h4)], by kernel_rfl⟩
       · replace h7 := (cond_f h4).symm.trans h7
         have he := Option.some.inj h7; subst he; exact ⟨[(12, bT h1), (15, bT h1), (18, bT h1), (22, bT h1), (27, bT h2), (30, bT h2), (33, bT h2), (34, cL (g_frac_inRange_ok N v1.xN v2 h3)), (37, bT h2), (42, bF h4), (45, bF h4), (48, bF h4), (51, bF h4), (54, bF h4), (57, bF h4), (60, bF h4), (63, bF h4), (67, bF h4)], by kernel_rfl⟩
     · replace h7 := (cond_f h2).symm.trans h7
       have he := Option.some.inj h7; subst he; exact ⟨[(12, bT h1), (15, bT h1), (18, bT h1), (22, bT h1), (27, bF h2), (30, bF h2), (33, bF h2), (37, bF h2), (42, bF rfl), (45, bF rfl), (48, bF rfl), (51, bF rfl), (54, bF rfl), (57, bF rfl), (60, bF rfl), (63, bF rfl), (67, bF rfl)], by kernel_rfl⟩
   · replace h7 := (cond_f h1).symm.trans h7
     have he := Option.some.inj h7; subst he; exact ⟨[(12, bF h1), (15, bF h1), (18, bF h1), (22, bF h1), (27, bF rfl), (30, bF rfl), (33, bF rfl), (37, bF rfl), (42, bF rfl), (45, bF rfl), (48, bF rfl), (51, bF rfl), (54, bF rfl), (57, bF rfl), (60, bF rfl), (63, bF rfl), (67, bF rfl)], by kernel_rfl⟩
 · refine aw_ret ?_
   have hr := Option.some.inj hF; subst hr; exact ret_ok (by kernel_rfl)
def g_value_Valid (N : Nat) (v1 : TypeD) (v2 : ValD) : Option Bool :=
 Option.bind (g_value_ValidateType N v1) fun v3 =>
 bif (v3 != (0 : Int)) then
  some false
 else
  bif (v1.xKind == (2 : Int)) then
   Option.bind (g_fixed_Valid N v1 v2) fun v4 =>
   some v4
  else
   bif (v1.xKind == (3 : Int)) then
    Option.bind (bif (v2.xD.toInt == (1 : Int)) then Option.bind (g_value_whole N v2.xN) fun v5 =>
    some v5 else some false) fun v6 =>
    some v6
   else
    Option.bind (g_frac_Valid N v2) fun v7 =>
    some v7
theorem g_value_Valid_ok (N : Nat) (v1 : TypeD) (v2 : ValD) (r : Bool) (hF : g_value_Valid N v1 v2 = some r) : AFn Tryz.prog 95 [(aType v1), (aVal v2)] (· = (aBool r)) := by
 rw [g_value_Valid] at hF
 refine afn_of Tryz.func95 rfl (by kernel_rfl) ?_
 refine aw_cut [0, 1] 0 (Nat.le_refl _) (s' := ⟨27, [(0, (aType v1)), (1, (aVal v2))], []⟩) (by kernel_rfl) ?_
 refine aw_seq ?_
 refine rg [] [(2, (.ptr 0 0)), (3, (.ptr 1 0))] [.cells (aType v1).cells, .cells (aVal v2).cells] (by kernel_rfl) ?_
 refine aw_seq ?_
 refine aw_seq ?_
 obtain ⟨v3, h1, hF⟩ := bind_some hF
 refine rg [(4, cL (g_value_ValidateType_ok N v1 v3 h1))] [(7, (aBool (v3 != (0 : Int))))] [.cells (aType v1).cells, .cells (aVal v2).cells] (by kernel_rfl) ?_
 rcases bool_cases (v3 != (0 : Int)) with h2 | h2
 · replace hF := (cond_t h2).symm.trans hF
   refine aw_cond_h (t := (v3 != (0 : Int))) (by kernel_rfl) h2 ?_
   refine aw_seq ?_
   refine rg [] [(4, (aBool false))] [.cells (aType v1).cells, .cells (aVal v2).cells] (by kernel_rfl) ?_
   refine aw_ret (at_r ?_)
   have hr := Option.some.inj hF; subst hr; exact ret_ok (by kernel_rfl)
 · replace hF := (cond_f h2).symm.trans hF
   refine aw_cond_g (t := (v3 != (0 : Int))) (by kernel_rfl) h2 ?_
   refine aw_skip ?_
   refine at_n ?_
   refine aw_seq ?_
   refine aw_seq ?_
   refine rg [] [(9, (aInt v1.xKind))] [.cells (aType v1).cells, .cells (aVal v2).cells] (by kernel_rfl) ?_
   refine aw_block ?_
   refine aw_seq ?_
   refine rg [] [(10, (aBool (v1.xKind == (2 : Int))))] [.cells (aType v1).cells, .cells (aVal v2).cells] (by kernel_rfl) ?_
   rcases bool_cases (v1.xKind == (2 : Int)) with h3 | h3
   · replace hF := (cond_t h3).symm.trans hF
     refine aw_cond_h (t := (v1.xKind == (2 : Int))) (by kernel_rfl) h3 ?_
     refine aw_seq ?_
     obtain ⟨v4, h4, hF⟩ := bind_some hF
     refine rg [(7, cL (g_fixed_Valid_ok N v1 v2 v4 h4))] [(4, (aBool v4))] [.cells (aType v1).cells, .cells (aVal v2).cells] (by kernel_rfl) ?_
     refine aw_ret (ab_r (at_r ?_))
     have hr := Option.some.inj hF; subst hr; exact ret_ok (by kernel_rfl)
   · replace hF := (cond_f h3).symm.trans hF
     refine aw_cond_g (t := (v1.xKind == (2 : Int))) (by kernel_rfl) h3 ?_
     refine aw_seq ?_
     refine rg [] [(15, (aBool (v1.xKind == (3 : Int))))] [.cells (aType v1).cells, .cells (aVal v2).cells] (by kernel_rfl) ?_
     rcases bool_cases (v1.xKind == (3 : Int)) with h5 | h5
     · replace hF := (cond_t h5).symm.trans hF
       refine aw_cond_h (t := (v1.xKind == (3 : Int))) (by kernel_rfl) h5 ?_
       refine aw_seq ?_
       obtain ⟨v6, h8, hF⟩ := bind_some hF
       refine rgE [(4, (aBool v6))] [.cells (aType v1).cells, .cells (aVal v2).cells] ?_ ?_
       · rcases bool_cases (v2.xD.toInt == (1 : Int)) with h6 | h6
         · replace h8 := (cond_t h6).symm.trans h8
           obtain ⟨v5, h7, h8⟩ := bind_some h8
           have he := Option.some.inj h8; subst he; exact ⟨[(12, bT h6), (15, bT h6), (18, bT h6), (19, cL (g_value_whole_ok N v2.xN v5 h7)), (22, bT h6)], by kernel_rfl⟩
         · replace h8 := (cond_f h6).symm.trans h8
           have he := Option.some.inj h8; subst he; exact ⟨[(12, bF h6), (15, bF h6), (18, bF h6), (22, bF h6)], by kernel_rfl⟩
       · refine aw_ret (ab_r (at_r ?_))
         have hr := Option.some.inj hF; subst hr; exact ret_ok (by kernel_rfl)
     · replace hF := (cond_f h5).symm.trans hF
       refine aw_cond_g (t := (v1.xKind == (3 : Int))) (by kernel_rfl) h5 ?_
       refine aw_skip ?_
       refine ab_n ?_
       refine at_n ?_
       refine aw_seq ?_
       obtain ⟨v7, h9, hF⟩ := bind_some hF
       refine rg [(4, cL (g_frac_Valid_ok N v2 v7 h9))] [(4, (aBool v7))] [.cells (aType v1).cells, .cells (aVal v2).cells] (by kernel_rfl) ?_
       refine aw_ret ?_
       have hr := Option.some.inj hF; subst hr; exact ret_ok (by kernel_rfl)
def g_expr_forms (N : Nat) (v1 : ExprD) : Option ExprD := some v1
theorem g_expr_forms_ok (N : Nat) (v1 r : ExprD) (hF : g_expr_forms N v1 = some r) : AFn Tryz.prog 96 [(aExpr v1)] (· = (.fn 164 [(.elt [dExpr r] 0 0)])) := by
 cases hF; exact formsIt_abs v1
def g_lin_reserved_J1 (N : Nat) (v2 : Bool) : Option Bool :=
 bif v2 then
  some true
 else
  some false
def g_lin_reserved (N : Nat) (v1 : ByteArray) : Option Bool :=
 bif (bL v1 == bL (bs [115, 105, 122, 101])) then
  g_lin_reserved_J1 N (bL v1 == bL (bs [115, 105, 122, 101]))
 else
  bif (bL v1 == bL (bs [119, 104, 101, 114, 101])) then
   g_lin_reserved_J1 N (bL v1 == bL (bs [119, 104, 101, 114, 101]))
  else
   bif (bL v1 == bL (bs [105, 110])) then
    g_lin_reserved_J1 N (bL v1 == bL (bs [105, 110]))
   else
    bif (bL v1 == bL (bs [100, 101, 102])) then
     g_lin_reserved_J1 N (bL v1 == bL (bs [100, 101, 102]))
    else
     bif (bL v1 == bL (bs [111, 117, 116])) then
      g_lin_reserved_J1 N (bL v1 == bL (bs [111, 117, 116]))
     else
      bif (bL v1 == bL (bs [115, 117, 109])) then
       g_lin_reserved_J1 N (bL v1 == bL (bs [115, 117, 109]))
      else
       bif (bL v1 == bL (bs [112, 114, 111, 100])) then
        g_lin_reserved_J1 N (bL v1 == bL (bs [112, 114, 111, 100]))
       else
        bif (bL v1 == bL (bs [109, 105, 110])) then
         g_lin_reserved_J1 N (bL v1 == bL (bs [109, 105, 110]))
        else
         bif (bL v1 == bL (bs [109, 97, 120])) then
          g_lin_reserved_J1 N (bL v1 == bL (bs [109, 97, 120]))
         else
          bif (bL v1 == bL (bs [115, 99, 97, 110])) then
           g_lin_reserved_J1 N (bL v1 == bL (bs [115, 99, 97, 110]))
          else
           bif (bL v1 == bL (bs [111, 118, 101, 114])) then
            g_lin_reserved_J1 N (bL v1 == bL (bs [111, 118, 101, 114]))
           else
            bif (bL v1 == bL (bs [105, 102])) then
             g_lin_reserved_J1 N (bL v1 == bL (bs [105, 102]))
            else
             bif (bL v1 == bL (bs [99, 97, 115, 116])) then
              g_lin_reserved_J1 N (bL v1 == bL (bs [99, 97, 115, 116]))
             else
              bif (bL v1 == bL (bs [102, 114, 97, 99])) then
               g_lin_reserved_J1 N (bL v1 == bL (bs [102, 114, 97, 99]))
              else
               bif (bL v1 == bL (bs [105, 110, 116])) then
                g_lin_reserved_J1 N (bL v1 == bL (bs [105, 110, 116]))
               else
                bif (bL v1 == bL (bs [102, 105, 120])) then
                 g_lin_reserved_J1 N (bL v1 == bL (bs [102, 105, 120]))
                else
                 bif (bL v1 == bL (bs [99, 101, 105, 108])) then
                  g_lin_reserved_J1 N (bL v1 == bL (bs [99, 101, 105, 108]))
                 else
                  bif (bL v1 == bL (bs [102, 108, 111, 111, 114])) then
                   g_lin_reserved_J1 N (bL v1 == bL (bs [102, 108, 111, 111, 114]))
                  else
                   bif (bL v1 == bL (bs [122, 101, 114, 111])) then
                    g_lin_reserved_J1 N (bL v1 == bL (bs [122, 101, 114, 111]))
                   else
                    bif (bL v1 == bL (bs [101, 118, 101, 110])) then
                     g_lin_reserved_J1 N (bL v1 == bL (bs [101, 118, 101, 110]))
                    else
                     bif (bL v1 == bL (bs [115, 97, 116])) then
                      g_lin_reserved_J1 N (bL v1 == bL (bs [115, 97, 116]))
                     else
                      g_lin_reserved_J1 N (bL v1 == bL (bs [119, 114, 97, 112]))
theorem g_lin_reserved_ok (N : Nat) (v1 : ByteArray) (r : Bool) (hF : g_lin_reserved N v1 = some r) : AFn Tryz.prog 215 [(aStr v1)] (· = (aBool r)) := by
 rw [g_lin_reserved] at hF
 refine afn_of Tryz.func215 rfl (by kernel_rfl) ?_
 refine aw_cut [0] 0 (Nat.le_refl _) (s' := ⟨27, [(0, (aStr v1))], []⟩) (by kernel_rfl) ?_
 refine aw_seq ?_
 refine rg [] [] [] (by kernel_rfl) ?_
 refine aw_seq ?_
 refine aw_seq ?_
 refine rg [] [(3, (aStr v1))] [] (by kernel_rfl) ?_
 refine aw_block ?_
 refine aw_seq ?_
 refine aw_seq ?_
 refine rg [] [(4, (aBool (bL v1 == bL (bs [115, 105, 122, 101]))))] [] (by kernel_rfl) ?_
 refine aw_joinC [4] 0 (fun (v2 : Bool) => ⟨27, [(4, (aBool v2))], []⟩) (fun (v2 : Bool) => g_lin_reserved_J1 N v2 = some r) (Nat.le_of_ble_eq_true rfl) ?_ ?_
 · rcases bool_cases (bL v1 == bL (bs [115, 105, 122, 101])) with h2 | h2
   · replace hF := (cond_t h2).symm.trans hF
     refine aw_cond_h (t := (bL v1 == bL (bs [115, 105, 122, 101]))) (by kernel_rfl) h2 ?_
     refine aw_skip ?_
     refine at_n ?_
     exact ⟨(bL v1 == bL (bs [115, 105, 122, 101])), by kernel_rfl, hF⟩
   · replace hF := (cond_f h2).symm.trans hF
     refine aw_cond_g (t := (bL v1 == bL (bs [115, 105, 122, 101]))) (by kernel_rfl) h2 ?_
     refine aw_seq ?_
     refine rg [] [(4, (aBool (bL v1 == bL (bs [119, 104, 101, 114, 101]))))] [] (by kernel_rfl) ?_
     rcases bool_cases (bL v1 == bL (bs [119, 104, 101, 114, 101])) with h3 | h3
     · replace hF := (cond_t h3).symm.trans hF
       refine aw_cond_h (t := (bL v1 == bL (bs [119, 104, 101, 114, 101]))) (by kernel_rfl) h3 ?_
       refine aw_skip ?_
       refine at_n ?_
       exact ⟨(bL v1 == bL (bs [119, 104, 101, 114, 101])), by kernel_rfl, hF⟩
     · replace hF := (cond_f h3).symm.trans hF
       refine aw_cond_g (t := (bL v1 == bL (bs [119, 104, 101, 114, 101]))) (by kernel_rfl) h3 ?_
       refine aw_seq ?_
       refine rg [] [(4, (aBool (bL v1 == bL (bs [105, 110]))))] [] (by kernel_rfl) ?_
       rcases bool_cases (bL v1 == bL (bs [105, 110])) with h4 | h4
       · replace hF := (cond_t h4).symm.trans hF
         refine aw_cond_h (t := (bL v1 == bL (bs [105, 110]))) (by kernel_rfl) h4 ?_
         refine aw_skip ?_
         refine at_n ?_
         exact ⟨(bL v1 == bL (bs [105, 110])), by kernel_rfl, hF⟩
       · replace hF := (cond_f h4).symm.trans hF
         refine aw_cond_g (t := (bL v1 == bL (bs [105, 110]))) (by kernel_rfl) h4 ?_
         refine aw_seq ?_
         refine rg [] [(4, (aBool (bL v1 == bL (bs [100, 101, 102]))))] [] (by kernel_rfl) ?_
         rcases bool_cases (bL v1 == bL (bs [100, 101, 102])) with h5 | h5
         · replace hF := (cond_t h5).symm.trans hF
           refine aw_cond_h (t := (bL v1 == bL (bs [100, 101, 102]))) (by kernel_rfl) h5 ?_
           refine aw_skip ?_
           refine at_n ?_
           exact ⟨(bL v1 == bL (bs [100, 101, 102])), by kernel_rfl, hF⟩
         · replace hF := (cond_f h5).symm.trans hF
           refine aw_cond_g (t := (bL v1 == bL (bs [100, 101, 102]))) (by kernel_rfl) h5 ?_
           refine aw_seq ?_
           refine rg [] [(4, (aBool (bL v1 == bL (bs [111, 117, 116]))))] [] (by kernel_rfl) ?_
           rcases bool_cases (bL v1 == bL (bs [111, 117, 116])) with h6 | h6
           · replace hF := (cond_t h6).symm.trans hF
             refine aw_cond_h (t := (bL v1 == bL (bs [111, 117, 116]))) (by kernel_rfl) h6 ?_
             refine aw_skip ?_
             refine at_n ?_
             exact ⟨(bL v1 == bL (bs [111, 117, 116])), by kernel_rfl, hF⟩
           · replace hF := (cond_f h6).symm.trans hF
             refine aw_cond_g (t := (bL v1 == bL (bs [111, 117, 116]))) (by kernel_rfl) h6 ?_
             refine aw_seq ?_
             refine rg [] [(4, (aBool (bL v1 == bL (bs [115, 117, 109]))))] [] (by kernel_rfl) ?_
             rcases bool_cases (bL v1 == bL (bs [115, 117, 109])) with h7 | h7
             · replace hF := (cond_t h7).symm.trans hF
               refine aw_cond_h (t := (bL v1 == bL (bs [115, 117, 109]))) (by kernel_rfl) h7 ?_
               refine aw_skip ?_
               refine at_n ?_
               exact ⟨(bL v1 == bL (bs [115, 117, 109])), by kernel_rfl, hF⟩
             · replace hF := (cond_f h7).symm.trans hF
               refine aw_cond_g (t := (bL v1 == bL (bs [115, 117, 109]))) (by kernel_rfl) h7 ?_
               refine aw_seq ?_
               refine rg [] [(4, (aBool (bL v1 == bL (bs [112, 114, 111, 100]))))] [] (by kernel_rfl) ?_
               rcases bool_cases (bL v1 == bL (bs [112, 114, 111, 100])) with h8 | h8
               · replace hF := (cond_t h8).symm.trans hF
                 refine aw_cond_h (t := (bL v1 == bL (bs [112, 114, 111, 100]))) (by kernel_rfl) h8 ?_
                 refine aw_skip ?_
                 refine at_n ?_
                 exact ⟨(bL v1 == bL (bs [112, 114, 111, 100])), by kernel_rfl, hF⟩
               · replace hF := (cond_f h8).symm.trans hF
                 refine aw_cond_g (t := (bL v1 == bL (bs [112, 114, 111, 100]))) (by kernel_rfl) h8 ?_
                 refine aw_seq ?_
                 refine rg [] [(4, (aBool (bL v1 == bL (bs [109, 105, 110]))))] [] (by kernel_rfl) ?_
                 rcases bool_cases (bL v1 == bL (bs [109, 105, 110])) with h9 | h9
                 · replace hF := (cond_t h9).symm.trans hF
                   refine aw_cond_h (t := (bL v1 == bL (bs [109, 105, 110]))) (by kernel_rfl) h9 ?_
                   refine aw_skip ?_
                   refine at_n ?_
                   exact ⟨(bL v1 == bL (bs [109, 105, 110])), by kernel_rfl, hF⟩
                 · replace hF := (cond_f h9).symm.trans hF
                   refine aw_cond_g (t := (bL v1 == bL (bs [109, 105, 110]))) (by kernel_rfl) h9 ?_
                   refine aw_seq ?_
                   refine rg [] [(4, (aBool (bL v1 == bL (bs [109, 97, 120]))))] [] (by kernel_rfl) ?_
                   rcases bool_cases (bL v1 == bL (bs [109, 97, 120])) with h10 | h10
                   · replace hF := (cond_t h10).symm.trans hF
                     refine aw_cond_h (t := (bL v1 == bL (bs [109, 97, 120]))) (by kernel_rfl) h10 ?_
                     refine aw_skip ?_
                     refine at_n ?_
                     exact ⟨(bL v1 == bL (bs [109, 97, 120])), by kernel_rfl, hF⟩
                   · replace hF := (cond_f h10).symm.trans hF
                     refine aw_cond_g (t := (bL v1 == bL (bs [109, 97, 120]))) (by kernel_rfl) h10 ?_
                     refine aw_seq ?_
                     refine rg [] [(4, (aBool (bL v1 == bL (bs [115, 99, 97, 110]))))] [] (by kernel_rfl) ?_
                     rcases bool_cases (bL v1 == bL (bs [115, 99, 97, 110])) with h11 | h11
                     · replace hF := (cond_t h11).symm.trans hF
                       refine aw_cond_h (t := (bL v1 == bL (bs [115, 99, 97, 110]))) (by kernel_rfl) h11 ?_
                       refine aw_skip ?_
                       refine at_n ?_
                       exact ⟨(bL v1 == bL (bs [115, 99, 97, 110])), by kernel_rfl, hF⟩
                     · replace hF := (cond_f h11).symm.trans hF
                       refine aw_cond_g (t := (bL v1 == bL (bs [115, 99, 97, 110]))) (by kernel_rfl) h11 ?_
                       refine aw_seq ?_
                       refine rg [] [(4, (aBool (bL v1 == bL (bs [111, 118, 101, 114]))))] [] (by kernel_rfl) ?_
                       rcases bool_cases (bL v1 == bL (bs [111, 118, 101, 114])) with h12 | h12
                       · replace hF := (cond_t h12).symm.trans hF
                         refine aw_cond_h (t := (bL v1 == bL (bs [111, 118, 101, 114]))) (by kernel_rfl) h12 ?_
                         refine aw_skip ?_
                         refine at_n ?_
                         exact ⟨(bL v1 == bL (bs [111, 118, 101, 114])), by kernel_rfl, hF⟩
                       · replace hF := (cond_f h12).symm.trans hF
                         refine aw_cond_g (t := (bL v1 == bL (bs [111, 118, 101, 114]))) (by kernel_rfl) h12 ?_
                         refine aw_seq ?_
                         refine rg [] [(4, (aBool (bL v1 == bL (bs [105, 102]))))] [] (by kernel_rfl) ?_
                         rcases bool_cases (bL v1 == bL (bs [105, 102])) with h13 | h13
                         · replace hF := (cond_t h13).symm.trans hF
                           refine aw_cond_h (t := (bL v1 == bL (bs [105, 102]))) (by kernel_rfl) h13 ?_
                           refine aw_skip ?_
                           refine at_n ?_
                           exact ⟨(bL v1 == bL (bs [105, 102])), by kernel_rfl, hF⟩
                         · replace hF := (cond_f h13).symm.trans hF
                           refine aw_cond_g (t := (bL v1 == bL (bs [105, 102]))) (by kernel_rfl) h13 ?_
                           refine aw_seq ?_
                           refine rg [] [(4, (aBool (bL v1 == bL (bs [99, 97, 115, 116]))))] [] (by kernel_rfl) ?_
                           rcases bool_cases (bL v1 == bL (bs [99, 97, 115, 116])) with h14 | h14
                           · replace hF := (cond_t h14).symm.trans hF
                             refine aw_cond_h (t := (bL v1 == bL (bs [99, 97, 115, 116]))) (by kernel_rfl) h14 ?_
                             refine aw_skip ?_
                             refine at_n ?_
                             exact ⟨(bL v1 == bL (bs [99, 97, 115, 116])), by kernel_rfl, hF⟩
                           · replace hF := (cond_f h14).symm.trans hF
                             refine aw_cond_g (t := (bL v1 == bL (bs [99, 97, 115, 116]))) (by kernel_rfl) h14 ?_
                             refine aw_seq ?_
                             refine rg [] [(4, (aBool (bL v1 == bL (bs [102, 114, 97, 99]))))] [] (by kernel_rfl) ?_
                             rcases bool_cases (bL v1 == bL (bs [102, 114, 97, 99])) with h15 | h15
                             · replace hF := (cond_t h15).symm.trans hF
                               refine aw_cond_h (t := (bL v1 == bL (bs [102, 114, 97, 99]))) (by kernel_rfl) h15 ?_
                               refine aw_skip ?_
                               refine at_n ?_
                               exact ⟨(bL v1 == bL (bs [102, 114, 97, 99])), by kernel_rfl, hF⟩
                             · replace hF := (cond_f h15).symm.trans hF
                               refine aw_cond_g (t := (bL v1 == bL (bs [102, 114, 97, 99]))) (by kernel_rfl) h15 ?_
                               refine aw_seq ?_
                               refine rg [] [(4, (aBool (bL v1 == bL (bs [105, 110, 116]))))] [] (by kernel_rfl) ?_
                               rcases bool_cases (bL v1 == bL (bs [105, 110, 116])) with h16 | h16
                               · replace hF := (cond_t h16).symm.trans hF
                                 refine aw_cond_h (t := (bL v1 == bL (bs [105, 110, 116]))) (by kernel_rfl) h16 ?_
                                 refine aw_skip ?_
                                 refine at_n ?_
                                 exact ⟨(bL v1 == bL (bs [105, 110, 116])), by kernel_rfl, hF⟩
                               · replace hF := (cond_f h16).symm.trans hF
                                 refine aw_cond_g (t := (bL v1 == bL (bs [105, 110, 116]))) (by kernel_rfl) h16 ?_
                                 refine aw_seq ?_
                                 refine rg [] [(4, (aBool (bL v1 == bL (bs [102, 105, 120]))))] [] (by kernel_rfl) ?_
                                 rcases bool_cases (bL v1 == bL (bs [102, 105, 120])) with h17 | h17
                                 · replace hF := (cond_t h17).symm.trans hF
                                   refine aw_cond_h (t := (bL v1 == bL (bs [102, 105, 120]))) (by kernel_rfl) h17 ?_
                                   refine aw_skip ?_
                                   refine at_n ?_
                                   exact ⟨(bL v1 == bL (bs [102, 105, 120])), by kernel_rfl, hF⟩
                                 · replace hF := (cond_f h17).symm.trans hF
                                   refine aw_cond_g (t := (bL v1 == bL (bs [102, 105, 120]))) (by kernel_rfl) h17 ?_
                                   refine aw_seq ?_
                                   refine rg [] [(4, (aBool (bL v1 == bL (bs [99, 101, 105, 108]))))] [] (by kernel_rfl) ?_
                                   rcases bool_cases (bL v1 == bL (bs [99, 101, 105, 108])) with h18 | h18
                                   · replace hF := (cond_t h18).symm.trans hF
                                     refine aw_cond_h (t := (bL v1 == bL (bs [99, 101, 105, 108]))) (by kernel_rfl) h18 ?_
                                     refine aw_skip ?_
                                     refine at_n ?_
                                     exact ⟨(bL v1 == bL (bs [99, 101, 105, 108])), by kernel_rfl, hF⟩
                                   · replace hF := (cond_f h18).symm.trans hF
                                     refine aw_cond_g (t := (bL v1 == bL (bs [99, 101, 105, 108]))) (by kernel_rfl) h18 ?_
                                     refine aw_seq ?_
                                     refine rg [] [(4, (aBool (bL v1 == bL (bs [102, 108, 111, 111, 114]))))] [] (by kernel_rfl) ?_
                                     rcases bool_cases (bL v1 == bL (bs [102, 108, 111, 111, 114])) with h19 | h19
                                     · replace hF := (cond_t h19).symm.trans hF
                                       refine aw_cond_h (t := (bL v1 == bL (bs [102, 108, 111, 111, 114]))) (by kernel_rfl) h19 ?_
                                       refine aw_skip ?_
                                       refine at_n ?_
                                       exact ⟨(bL v1 == bL (bs [102, 108, 111, 111, 114])), by kernel_rfl, hF⟩
                                     · replace hF := (cond_f h19).symm.trans hF
                                       refine aw_cond_g (t := (bL v1 == bL (bs [102, 108, 111, 111, 114]))) (by kernel_rfl) h19 ?_
                                       refine aw_seq ?_
                                       refine rg [] [(4, (aBool (bL v1 == bL (bs [122, 101, 114, 111]))))] [] (by kernel_rfl) ?_
                                       rcases bool_cases (bL v1 == bL (bs [122, 101, 114, 111])) with h20 | h20
                                       · replace hF := (cond_t h20).symm.trans hF
                                         refine aw_cond_h (t := (bL v1 == bL (bs [122, 101, 114, 111]))) (by kernel_rfl) h20 ?_
                                         refine aw_skip ?_
                                         refine at_n ?_
                                         exact ⟨(bL v1 == bL (bs [122, 101, 114, 111])), by kernel_rfl, hF⟩
                                       · replace hF := (cond_f h20).symm.trans hF
                                         refine aw_cond_g (t := (bL v1 == bL (bs [122, 101, 114, 111]))) (by kernel_rfl) h20 ?_
                                         refine aw_seq ?_
                                         refine rg [] [(4, (aBool (bL v1 == bL (bs [101, 118, 101, 110]))))] [] (by kernel_rfl) ?_
                                         rcases bool_cases (bL v1 == bL (bs [101, 118, 101, 110])) with h21 | h21
                                         · replace hF := (cond_t h21).symm.trans hF
                                           refine aw_cond_h (t := (bL v1 == bL (bs [101, 118, 101, 110]))) (by kernel_rfl) h21 ?_
                                           refine aw_skip ?_
                                           refine at_n ?_
                                           exact ⟨(bL v1 == bL (bs [101, 118, 101, 110])), by kernel_rfl, hF⟩
                                         · replace hF := (cond_f h21).symm.trans hF
                                           refine aw_cond_g (t := (bL v1 == bL (bs [101, 118, 101, 110]))) (by kernel_rfl) h21 ?_
                                           refine aw_seq ?_
                                           refine rg [] [(4, (aBool (bL v1 == bL (bs [115, 97, 116]))))] [] (by kernel_rfl) ?_
                                           rcases bool_cases (bL v1 == bL (bs [115, 97, 116])) with h22 | h22
                                           · replace hF := (cond_t h22).symm.trans hF
                                             refine aw_cond_h (t := (bL v1 == bL (bs [115, 97, 116]))) (by kernel_rfl) h22 ?_
                                             refine aw_skip ?_
                                             refine at_n ?_
                                             exact ⟨(bL v1 == bL (bs [115, 97, 116])), by kernel_rfl, hF⟩
                                           · replace hF := (cond_f h22).symm.trans hF
                                             refine aw_cond_g (t := (bL v1 == bL (bs [115, 97, 116]))) (by kernel_rfl) h22 ?_
                                             refine re [] [(4, (aBool (bL v1 == bL (bs [119, 114, 97, 112])))), (26, (aBool (bL v1 == bL (bs [119, 114, 97, 112]))))] [] (by kernel_rfl) ?_
                                             refine at_n ?_
                                             exact ⟨(bL v1 == bL (bs [119, 114, 97, 112])), by kernel_rfl, hF⟩
 · rintro v2 hF
   try dsimp only at hF
   rw [g_lin_reserved_J1] at hF
   rcases bool_cases v2 with h1 | h1
   · replace hF := (cond_t h1).symm.trans hF
     refine aw_cond_h (t := v2) (by kernel_rfl) h1 ?_
     refine aw_seq ?_
     refine rg [] [(2, (aBool true))] [] (by kernel_rfl) ?_
     refine aw_ret (ab_r (at_r ?_))
     have hr := Option.some.inj hF; subst hr; exact ret_ok (by kernel_rfl)
   · replace hF := (cond_f h1).symm.trans hF
     refine aw_cond_g (t := v2) (by kernel_rfl) h1 ?_
     refine aw_skip ?_
     refine ab_n ?_
     refine at_n ?_
     refine aw_seq ?_
     refine rg [] [(2, (aBool false))] [] (by kernel_rfl) ?_
     refine aw_ret ?_
     have hr := Option.some.inj hF; subst hr; exact ret_ok (by kernel_rfl)
def g_lin_identifier_L1 (N : Nat) (v1 : ByteArray) : Nat → Int → Option Bool
 | 0, _ => none
 | v5 + 1, v6 =>
  bif (decide (v6 < (v1.size : Int))) then
   bif (decide ((0 : Int) ≤ v6)) then
   Option.bind (v1[(v6).toNat]?) fun v7 =>
   Option.bind (bif (decide ((v7.toNat : Int) < (97 : Int))) then (bif (decide ((v7.toNat : Int) < (48 : Int))) then some ((v7.toNat : Int) != (95 : Int)) else (bif (decide ((v7.toNat : Int) > (57 : Int))) then some ((v7.toNat : Int) != (95 : Int)) else some false)) else (bif (decide ((v7.toNat : Int) > (122 : Int))) then (bif (decide ((v7.toNat : Int) < (48 : Int))) then some ((v7.toNat : Int) != (95 : Int)) else (bif (decide ((v7.toNat : Int) > (57 : Int))) then some ((v7.toNat : Int) != (95 : Int)) else some false)) else some false)) fun v8 =>
   bif v8 then
    some false
   else
    (fun b1_0 => g_lin_identifier_L1 N v1 v5 b1_0) (w64 (v6 + (1 : Int)))
   else none
  else
   some true
def g_lin_identifier (N : Nat) (v1 : ByteArray) : Option Bool :=
 Option.bind (bif (decide ((v1.size : Int) < (1 : Int))) then some true else (bif (decide ((v1.size : Int) > (16 : Int))) then some true else Option.bind (g_lin_reserved N v1) fun v2 =>
 (bif v2 then some true else Option.bind (v1[0]?) fun v3 =>
 (bif (decide ((v3.toNat : Int) < (97 : Int))) then some true else some (decide ((v3.toNat : Int) > (122 : Int))))))) fun v4 =>
 bif v4 then
  some false
 else
  g_lin_identifier_L1 N v1 N (0 : Int)
theorem g_lin_identifier_ok (N : Nat) (v1 : ByteArray) (r : Bool) (hF : g_lin_identifier N v1 = some r) : AFn Tryz.prog 165 [(aStr v1)] (· = (aBool r)) := by
 rw [g_lin_identifier] at hF
 refine afn_of Tryz.func165 rfl (by kernel_rfl) ?_
 refine aw_cut [0] 0 (Nat.le_refl _) (s' := ⟨54, [(0, (aStr v1))], []⟩) (by kernel_rfl) ?_
 refine aw_seq ?_
 refine rg [] [] [] (by kernel_rfl) ?_
 refine aw_seq ?_
 refine aw_seq ?_
 obtain ⟨v4, h7, hF⟩ := bind_some hF
 refine rgE [(26, (aBool v4))] [] ?_ ?_
 · rcases bool_cases (decide ((v1.size : Int) < (1 : Int))) with h1 | h1
   · replace h7 := (cond_t h1).symm.trans h7
     have he := Option.some.inj h7; subst he; exact ⟨[(12, bT h1), (15, bT h1), (18, bT h1), (22, bT h1), (27, bT rfl), (30, bT rfl), (34, bT rfl), (39, bT rfl), (42, bT rfl), (45, bT rfl), (49, bT rfl), (54, bT rfl), (57, bT rfl), (60, bT rfl), (64, bT rfl)], by kernel_rfl⟩
   · replace h7 := (cond_f h1).symm.trans h7
     rcases bool_cases (decide ((v1.size : Int) > (16 : Int))) with h2 | h2
     · replace h7 := (cond_t h2).symm.trans h7
       have he := Option.some.inj h7; subst he; exact ⟨[(12, bF h1), (15, bF h1), (18, bF h1), (22, bF h1), (27, bT h2), (30, bT h2), (34, bT h2), (39, bT rfl), (42, bT rfl), (45, bT rfl), (49, bT rfl), (54, bT rfl), (57, bT rfl), (60, bT rfl), (64, bT rfl)], by kernel_rfl⟩
     · replace h7 := (cond_f h2).symm.trans h7
       obtain ⟨v2, h3, h7⟩ := bind_some h7
       rcases bool_cases v2 with h4 | h4
       · replace h7 := (cond_t h4).symm.trans h7
         have he := Option.some.inj h7; subst he; exact ⟨[(12, bF h1), (15, bF h1), (18, bF h1), (22, bF h1), (27, bF h2), (30, bF h2), (31, cL (g_lin_reserved_ok N v1 v2 h3)), (34, bF h2), (39, bT h4), (42, bT h4), (45, bT h4), (49, bT h4), (54, bT rfl), (57, bT rfl), (60, bT rfl), (64, bT rfl)], by kernel_rfl⟩
       · replace h7 := (cond_f h4).symm.trans h7
         obtain ⟨v3, h5, h7⟩ := bind_some h7
         rcases bool_cases (decide ((v3.toNat : Int) < (97 : Int))) with h6 | h6
         · replace h7 := (cond_t h6).symm.trans h7
           have he := Option.some.inj h7; subst he; exact ⟨[(12, bF h1), (15, bF h1), (18, bF h1), (22, bF h1), (27, bF h2), (30, bF h2), (31, cL (g_lin_reserved_ok N v1 v2 h3)), (34, bF h2), (39, bF h4), (42, bF h4), (43, ⟨_, _, .ch (i := (0 : Int)) (by decide) h5⟩), (45, bF h4), (49, bF h4), (54, bT h6), (57, bT h6), (60, bT h6), (64, bT h6)], by kernel_rfl⟩
         · replace h7 := (cond_f h6).symm.trans h7
           have he := Option.some.inj h7; subst he; exact ⟨[(12, bF h1), (15, bF h1), (18, bF h1), (22, bF h1), (27, bF h2), (30, bF h2), (31, cL (g_lin_reserved_ok N v1 v2 h3)), (34, bF h2), (39, bF h4), (42, bF h4), (43, ⟨_, _, .ch (i := (0 : Int)) (by decide) h5⟩), (45, bF h4), (49, bF h4), (54, bF h6), (57, bF h6), (58, ⟨_, _, .ch (i := (0 : Int)) (by decide) h5⟩), (60, bF h6), (64, bF h6)], by kernel_rfl⟩
 · rcases bool_cases v4 with h8 | h8
   · replace hF := (cond_t h8).symm.trans hF
     refine aw_cond_h (t := v4) (by kernel_rfl) h8 ?_
     refine aw_seq ?_
     refine rg [] [(2, (aBool false))] [] (by kernel_rfl) ?_
     refine aw_ret (at_r ?_)
     have hr := Option.some.inj hF; subst hr; exact ret_ok (by kernel_rfl)
   · replace hF := (cond_f h8).symm.trans hF
     refine aw_cond_g (t := v4) (by kernel_rfl) h8 ?_
     refine aw_skip ?_
     refine at_n ?_
     refine aw_seq ?_
     refine aw_seq ?_
     refine rg [] [(28, (aInt (v1.size : Int))), (29, (aInt (0 : Int)))] [] (by kernel_rfl) ?_
     refine aw_block ?_
     refine aw_loopC [0, 28, 29] 0 (fun ((v5, v6) : Nat × Int) => ⟨54, [(0, (aStr v1)), (28, (aInt (v1.size : Int))), (29, (aInt v6))], []⟩) (fun ((v5, v6) : Nat × Int) => g_lin_identifier_L1 N v1 v5 v6 = some r) (fun ((v5, v6) : Nat × Int) => v5) (N, (0 : Int)) (Nat.le_of_ble_eq_true rfl) (by kernel_rfl) hF ?_
     rintro ⟨v5, v6⟩ hF
     try dsimp only at hF
     cases v5 with
     | zero =>
      rw [g_lin_identifier_L1] at hF
      cases hF
     | succ v5 =>
      rw [g_lin_identifier_L1] at hF
      refine aw_seq ?_
      refine rg [] [(30, (aBool (decide (v6 < (v1.size : Int)))))] [] (by kernel_rfl) ?_
      refine aw_seq ?_
      rcases bool_cases (decide (v6 < (v1.size : Int))) with h9 | h9
      · replace hF := (cond_t h9).symm.trans hF
        refine aw_cond_h (t := (decide (v6 < (v1.size : Int)))) (by kernel_rfl) h9 ?_
        refine aw_skip ?_
        refine at_n ?_
        refine aw_seq ?_
        refine aw_block ?_
        refine aw_seq ?_
        refine rg [] [(3, (aInt v6))] [] (by kernel_rfl) ?_
        refine aw_seq ?_
        have h11 := chk_t hF
        replace hF := (cond_t h11).symm.trans hF
        obtain ⟨v7, h10, hF⟩ := bind_some hF
        refine rg [(7, ⟨_, _, .ch (i := v6) (of_decide_eq_true h11) h10⟩)] [(4, (.d (.v (.int .u8 (v7.toNat : Int)))))] [] (by kernel_rfl) ?_
        refine aw_seq ?_
        obtain ⟨v8, h18, hF⟩ := bind_some hF
        refine rgE [(52, (aBool v8))] [] ?_ ?_
        · rcases bool_cases (decide ((v7.toNat : Int) < (97 : Int))) with h12 | h12
          · replace h18 := (cond_t h12).symm.trans h18
            rcases bool_cases (decide ((v7.toNat : Int) < (48 : Int))) with h13 | h13
            · replace h18 := (cond_t h13).symm.trans h18
              have he := Option.some.inj h18; subst he; exact ⟨[(9, bT h12), (12, bT h12), (16, bT h12), (21, bT rfl), (24, bT rfl), (27, bT rfl), (30, bT h13), (33, bT h13), (36, bT rfl), (37, bT h13), (40, bT rfl), (45, bT rfl), (48, bT rfl), (52, bT rfl)], by kernel_rfl⟩
            · replace h18 := (cond_f h13).symm.trans h18
              rcases bool_cases (decide ((v7.toNat : Int) > (57 : Int))) with h14 | h14
              · replace h18 := (cond_t h14).symm.trans h18
                have he := Option.some.inj h18; subst he; exact ⟨[(9, bT h12), (12, bT h12), (16, bT h12), (21, bT rfl), (24, bT rfl), (27, bT rfl), (30, bF h13), (33, bF h13), (36, bT rfl), (37, bF h13), (40, bT rfl), (45, bT h14), (48, bT h14), (52, bT h14)], by kernel_rfl⟩
              · replace h18 := (cond_f h14).symm.trans h18
                have he := Option.some.inj h18; subst he; exact ⟨[(9, bT h12), (12, bT h12), (16, bT h12), (21, bT rfl), (24, bT rfl), (27, bT rfl), (30, bF h13), (33, bF h13), (36, bT rfl), (37, bF h13), (40, bT rfl), (45, bF h14), (48, bF h14), (52, bF h14)], by kernel_rfl⟩
          · replace h18 := (cond_f h12).symm.trans h18
            rcases bool_cases (decide ((v7.toNat : Int) > (122 : Int))) with h15 | h15
            · replace h18 := (cond_t h15).symm.trans h18
              rcases bool_cases (decide ((v7.toNat : Int) < (48 : Int))) with h16 | h16
              · replace h18 := (cond_t h16).symm.trans h18
                have he := Option.some.inj h18; subst he; exact ⟨[(9, bF h12), (12, bF h12), (16, bF h12), (21, bT h15), (24, bT h15), (27, bT h15), (30, bT h16), (33, bT h16), (36, bT h15), (37, bT h16), (40, bT h15), (45, bT rfl), (48, bT rfl), (52, bT rfl)], by kernel_rfl⟩
              · replace h18 := (cond_f h16).symm.trans h18
                rcases bool_cases (decide ((v7.toNat : Int) > (57 : Int))) with h17 | h17
                · replace h18 := (cond_t h17).symm.trans h18
                  have he := Option.some.inj h18; subst he; exact ⟨[(9, bF h12), (12, bF h12), (16, bF h12), (21, bT h15), (24, bT h15), (27, bT h15), (30, bF h16), (33, bF h16), (36, bT h15), (37, bF h16), (40, bT h15), (45, bT h17), (48, bT h17), (52, bT h17)], by kernel_rfl⟩
                · replace h18 := (cond_f h17).symm.trans h18
                  have he := Option.some.inj h18; subst he; exact ⟨[(9, bF h12), (12, bF h12), (16, bF h12), (21, bT h15), (24, bT h15), (27, bT h15), (30, bF h16), (33, bF h16), (36, bT h15), (37, bF h16), (40, bT h15), (45, bF h17), (48, bF h17), (52, bF h17)], by kernel_rfl⟩
            · replace h18 := (cond_f h15).symm.trans h18
              have he := Option.some.inj h18; subst he; exact ⟨[(9, bF h12), (12, bF h12), (16, bF h12), (21, bF h15), (24, bF h15), (27, bF h15), (30, uN), (33, uN), (36, bF h15), (40, bF h15), (45, bF rfl), (48, bF rfl), (52, bF rfl)], by kernel_rfl⟩
        · rcases bool_cases v8 with h19 | h19
          · replace hF := (cond_t h19).symm.trans hF
            refine aw_cond_h (t := v8) (by kernel_rfl) h19 ?_
            refine aw_seq ?_
            refine rg [] [(2, (aBool false))] [] (by kernel_rfl) ?_
            refine aw_ret (ab_r (at_r (at_r (ab_r (at_r ?_)))))
            have hr := Option.some.inj hF; subst hr; exact ret_ok (by kernel_rfl)
          · replace hF := (cond_f h19).symm.trans hF
            refine aw_cond_g (t := v8) (by kernel_rfl) h19 ?_
            refine aw_skip ?_
            refine ab_n ?_
            refine at_n ?_
            refine re [] [(29, (aInt (w64 (v6 + (1 : Int))))), (53, (aInt (w64 (v6 + (1 : Int)))))] [] (by kernel_rfl) ?_
            refine at_n ?_
            exact ⟨(v5, (w64 (v6 + (1 : Int)))), by kernel_rfl, hF, Nat.lt_succ_self _⟩
      · replace hF := (cond_f h9).symm.trans hF
        refine aw_cond_g (t := (decide (v6 < (v1.size : Int)))) (by kernel_rfl) h9 ?_
        refine aw_exit (at_e (at_e (ab_y rfl ?_)))
        refine at_n ?_
        refine aw_seq ?_
        refine rg [] [(2, (aBool true))] [] (by kernel_rfl) ?_
        refine aw_ret ?_
        have hr := Option.some.inj hF; subst hr; exact ret_ok (by kernel_rfl)
def g_lin_Validate_L1 (N : Nat) (v1 : LinD) : List MonoD → Nat → Option Int
 | [], _ =>
  some (0 : Int)
 | v4 :: v5, v2 =>
  Option.bind (g_lin_identifier N v4.xName) fun v6 =>
  Option.bind (bif v6 then (bif (v4.xBy.toInt == (0 : Int)) then some true else (bif (decide ((v2 : Int) > (0 : Int))) then bif (decide ((0 : Int) ≤ (w64 ((v2 : Int) - (1 : Int))))) then
  Option.bind (v1.xL[((w64 ((v2 : Int) - (1 : Int)))).toNat]?) fun v7 =>
  some (!(Op.bytesLess (bL v7.xName) (bL v4.xName)))
  else none else some false)) else some true) fun v8 =>
  bif v8 then
   some (1 : Int)
  else
   (g_lin_Validate_L1 N v1 v5 (v2 + 1))
def g_lin_Validate (N : Nat) (v1 : LinD) : Option Int :=
 g_lin_Validate_L1 N v1 v1.xL 0
theorem g_lin_Validate_ok (N : Nat) (v1 : LinD) (r : Int) (hF : g_lin_Validate N v1 = some r) : AFn Tryz.prog 97 [(aLin v1)] (· = (aInt r)) := by
 rw [g_lin_Validate] at hF
 refine afn_of Tryz.func97 rfl (by kernel_rfl) ?_
 refine aw_cut [0] 0 (Nat.le_refl _) (s' := ⟨39, [(0, (aLin v1))], []⟩) (by kernel_rfl) ?_
 refine aw_seq ?_
 refine rg [] [(1, (.ptr 0 0))] [.cells (aLin v1).cells] (by kernel_rfl) ?_
 refine aw_seq ?_
 refine aw_seq ?_
 refine rg [(7, ⟨_, _, .len (xs := dMonos v1.xL) dMonos_len⟩)] [(6, (.d (.sl (dMonos v1.xL)))), (7, (aInt (v1.xL.length : Int))), (8, (aInt (0 : Int)))] [.cells (aLin v1).cells] (by kernel_rfl) ?_
 refine aw_block ?_
 refine aw_okT 6 (dMonos v1.xL) (by kernel_rfl) fun h1 => ?_
 have h2 : v1.xL.length ≤ maxLen := by rw [← dMonos_len]; exact ok_len h1
 refine aw_loopC [1, 6, 7, 8] 1 (fun ((v2, v3) : Nat × (List MonoD)) => ⟨39, [(1, (.ptr 0 0)), (6, (.d (.sl (dMonos v1.xL)))), (7, (aInt (v1.xL.length : Int))), (8, (aInt (v2 : Int)))], [.cells (aLin v1).cells]⟩) (fun ((v2, v3) : Nat × (List MonoD)) => v1.xL.drop v2 = v3 ∧ g_lin_Validate_L1 N v1 v3 v2 = some r) (fun ((v2, v3) : Nat × (List MonoD)) => v3.length) (0, v1.xL) (Nat.le_of_ble_eq_true rfl) (by kernel_rfl) ⟨rfl, hF⟩ ?_
 rintro ⟨v2, v3⟩ ⟨h3, hF⟩
 cases v3 with
 | nil =>
  rw [g_lin_Validate_L1] at hF
  refine aw_seq ?_
  refine rg [] [(9, (aBool (decide ((v2 : Int) < (v1.xL.length : Int)))))] [.cells (aLin v1).cells] (by kernel_rfl) ?_
  refine aw_seq ?_
  refine aw_cond_g (t := (decide ((v2 : Int) < (v1.xL.length : Int)))) (by kernel_rfl) (lt_f h3) ?_
  refine aw_exit (at_e (at_e (ab_y rfl ?_)))
  refine at_n ?_
  refine aw_seq ?_
  refine rg [] [(2, (aInt (0 : Int)))] [.cells (aLin v1).cells] (by kernel_rfl) ?_
  refine aw_ret ?_
  have hr := Option.some.inj hF; subst hr; exact ret_ok (by kernel_rfl)
 | cons v4 v5 =>
  rw [g_lin_Validate_L1] at hF
  refine aw_seq ?_
  refine rg [] [(9, (aBool (decide ((v2 : Int) < (v1.xL.length : Int)))))] [.cells (aLin v1).cells] (by kernel_rfl) ?_
  refine aw_seq ?_
  refine aw_cond_h (t := (decide ((v2 : Int) < (v1.xL.length : Int)))) (by kernel_rfl) (lt_t h3) ?_
  refine aw_skip ?_
  refine at_n ?_
  refine aw_seq ?_
  refine aw_block ?_
  refine aw_seq ?_
  refine rg [(4, ⟨_, _, .el (xs := dMonos v1.xL) (i := (v2 : Int)) (Int.natCast_nonneg _) (dMonos_get (drop_get h3))⟩)] [(4, (.ptr 1 0)), (3, (aInt (v2 : Int)))] [.cells (aLin v1).cells, .cells (aMono v4).cells] (by kernel_rfl) ?_
  refine aw_seq ?_
  obtain ⟨v6, h4, hF⟩ := bind_some hF
  obtain ⟨v8, h10, hF⟩ := bind_some hF
  refine rdE mixed (by kernel_rfl) [(37, (aBool v8))] [.cells (aLin v1).cells, .cells (aMono v4).cells] ?_ ?_
  · rcases bool_cases v6 with h5 | h5
    · replace h10 := (cond_t h5).symm.trans h10
      rcases bool_cases (v4.xBy.toInt == (0 : Int)) with h6 | h6
      · replace h10 := (cond_t h6).symm.trans h10
        have he := Option.some.inj h10; subst he; exact ⟨[(7, cL (g_lin_identifier_ok N v4.xName v6 h4)), (15, bF (not_t h5)), (18, bF (not_t h5)), (21, bF (not_t h5)), (25, bF (not_t h5)), (30, bT h6), (33, bT h6), (36, bT h6), (39, uN), (42, uN), (45, uN), (48, uN), (51, uN), (54, uN), (57, uN), (60, uN), (63, uN), (66, uN), (69, bT h6), (73, bT h6)], by kernel_rfl⟩
      · replace h10 := (cond_f h6).symm.trans h10
        rcases bool_cases (decide ((v2 : Int) > (0 : Int))) with h7 | h7
        · replace h10 := (cond_t h7).symm.trans h10
          have h9 := chk_t h10
          replace h10 := (cond_t h9).symm.trans h10
          obtain ⟨v7, h8, h10⟩ := bind_some h10
          have he := Option.some.inj h10; subst he; exact ⟨[(7, cL (g_lin_identifier_ok N v4.xName v6 h4)), (15, bF (not_t h5)), (18, bF (not_t h5)), (21, bF (not_t h5)), (25, bF (not_t h5)), (30, bF h6), (33, bF h6), (36, bF h6), (39, bT h7), (42, bT h7), (45, bT h7), (48, bT h7), (51, bT h7), (52, ⟨_, _, .el (xs := dMonos v1.xL) (i := (w64 ((v2 : Int) - (1 : Int)))) (of_decide_eq_true h9) (dMonos_get h8)⟩), (54, bT h7), (57, bT h7), (60, bT h7), (63, bT h7), (66, bT h7), (69, bF h6), (70, bT h7), (73, bF h6)], by kernel_rfl⟩
        · replace h10 := (cond_f h7).symm.trans h10
          have he := Option.some.inj h10; subst he; exact ⟨[(7, cL (g_lin_identifier_ok N v4.xName v6 h4)), (15, bF (not_t h5)), (18, bF (not_t h5)), (21, bF (not_t h5)), (25, bF (not_t h5)), (30, bF h6), (33, bF h6), (36, bF h6), (39, bF h7), (42, bF h7), (45, bF h7), (48, bF h7), (51, bF h7), (54, bF h7), (57, bF h7), (60, bF h7), (63, bF h7), (66, bF h7), (69, bF h6), (70, bF h7), (73, bF h6)], by kernel_rfl⟩
    · replace h10 := (cond_f h5).symm.trans h10
      have he := Option.some.inj h10; subst he; exact ⟨[(7, cL (g_lin_identifier_ok N v4.xName v6 h4)), (15, bT (not_f h5)), (18, bT (not_f h5)), (21, bT (not_f h5)), (25, bT (not_f h5)), (30, bT rfl), (33, bT rfl), (36, bT rfl), (39, uN), (42, uN), (45, uN), (48, uN), (51, uN), (54, uN), (57, uN), (60, uN), (63, uN), (66, uN), (69, bT rfl), (73, bT rfl)], by kernel_rfl⟩
  · rcases bool_cases v8 with h11 | h11
    · replace hF := (cond_t h11).symm.trans hF
      refine aw_cond_h (t := v8) (by kernel_rfl) h11 ?_
      refine aw_seq ?_
      refine rg [] [(2, (aInt (1 : Int)))] [.cells (aLin v1).cells, .cells (aMono v4).cells] (by kernel_rfl) ?_
      refine aw_ret (ab_r (at_r (at_r (ab_r (at_r ?_)))))
      have hr := Option.some.inj hF; subst hr; exact ret_ok (by kernel_rfl)
    · replace hF := (cond_f h11).symm.trans hF
      refine aw_cond_g (t := v8) (by kernel_rfl) h11 ?_
      refine aw_skip ?_
      refine ab_n ?_
      refine at_n ?_
      refine re [(2, ⟨_, _, .eq (wrap_nx h3 rfl h2)⟩)] [(8, (aInt ((v2 + 1 : Nat) : Int))), (38, (aInt ((v2 + 1 : Nat) : Int)))] [.cells (aLin v1).cells, .cells (aMono v4).cells] (by kernel_rfl) ?_
      refine at_n ?_
      exact ⟨(v2 + 1, v5), by kernel_rfl, ⟨drop_nx h3, hF⟩, Nat.lt_succ_self _⟩
def g_expr_validNode_L1 (N : Nat) : List LinD → Option Int
 | [] =>
  some (0 : Int)
 | v9 :: v10 =>
  Option.bind (g_lin_Validate N v9) fun v11 =>
  bif (v11 != (0 : Int)) then
   some (1 : Int)
  else
   (g_expr_validNode_L1 N v10)
def g_expr_validNode (N : Nat) (v1 : ExprD) : Option Int :=
 Option.bind (g_expr_syntax N v1) fun v2 =>
 bif v2 then
  Option.bind (g_expr_names N v1) fun v3 =>
  bif v3 then
   Option.bind (g_expr_rank N v1) fun v4 =>
   bif v4 then
    Option.bind (g_expr_types N v1) fun v5 =>
    bif v5 then
     Option.bind (bif (v1.xOp == (1 : Int)) then Option.bind (g_value_Valid N v1.xType v1.xVal) fun v6 =>
     some (!v6) else some false) fun v7 =>
     bif v7 then
      some (1 : Int)
     else
      Option.bind (g_expr_forms N v1) fun v8 =>
      g_expr_validNode_L1 N (formsL v8)
    else
     some (10 : Int)
   else
    some (11 : Int)
  else
   some (7 : Int)
 else
  some (5 : Int)
theorem g_expr_validNode_ok (N : Nat) (v1 : ExprD) (r : Int) (hF : g_expr_validNode N v1 = some r) : AFn Tryz.prog 54 [(aExpr v1)] (· = (aInt r)) := by
 rw [g_expr_validNode] at hF
 refine afn_of Tryz.func54 rfl (by kernel_rfl) ?_
 refine aw_cut [0] 0 (Nat.le_refl _) (s' := ⟨38, [(0, (aExpr v1))], []⟩) (by kernel_rfl) ?_
 refine aw_seq ?_
 refine rg [] [(1, (.ptr 0 0)), (2, (.ptr 1 0))] [.cells (aExpr v1).cells, .cells [(aInt (0 : Int))]] (by kernel_rfl) ?_
 refine aw_seq ?_
 refine aw_block ?_
 refine aw_seq ?_
 obtain ⟨v2, h1, hF⟩ := bind_some hF
 refine rg [(4, cL (g_expr_syntax_ok N v1 v2 h1))] [(4, (aBool (!v2)))] [.cells (aExpr v1).cells, .cells [(aInt (0 : Int))]] (by kernel_rfl) ?_
 rcases bool_cases v2 with h2 | h2
 · replace hF := (cond_t h2).symm.trans hF
   refine aw_cond_g (t := (!v2)) (by kernel_rfl) (not_t h2) ?_
   refine aw_seq ?_
   obtain ⟨v3, h3, hF⟩ := bind_some hF
   refine rg [(4, cL (g_expr_names_ok N v1 v3 h3))] [(8, (aBool (!v3)))] [.cells (aExpr v1).cells, .cells [(aInt (0 : Int))]] (by kernel_rfl) ?_
   rcases bool_cases v3 with h4 | h4
   · replace hF := (cond_t h4).symm.trans hF
     refine aw_cond_g (t := (!v3)) (by kernel_rfl) (not_t h4) ?_
     refine aw_seq ?_
     obtain ⟨v4, h5, hF⟩ := bind_some hF
     refine rg [(4, cL (g_expr_rank_ok N v1 v4 h5))] [(12, (aBool (!v4)))] [.cells (aExpr v1).cells, .cells [(aInt (0 : Int))]] (by kernel_rfl) ?_
     rcases bool_cases v4 with h6 | h6
     · replace hF := (cond_t h6).symm.trans hF
       refine aw_cond_g (t := (!v4)) (by kernel_rfl) (not_t h6) ?_
       refine aw_seq ?_
       obtain ⟨v5, h7, hF⟩ := bind_some hF
       refine rg [(4, cL (g_expr_types_ok N v1 v5 h7))] [(16, (aBool (!v5)))] [.cells (aExpr v1).cells, .cells [(aInt (0 : Int))]] (by kernel_rfl) ?_
       rcases bool_cases v5 with h8 | h8
       · replace hF := (cond_t h8).symm.trans hF
         refine aw_cond_g (t := (!v5)) (by kernel_rfl) (not_t h8) ?_
         refine aw_seq ?_
         obtain ⟨v7, h11, hF⟩ := bind_some hF
         refine rgE [(20, (aBool v7))] [.cells (aExpr v1).cells, .cells [(aInt (0 : Int))]] ?_ ?_
         · rcases bool_cases (v1.xOp == (1 : Int)) with h9 | h9
           · replace h11 := (cond_t h9).symm.trans h11
             obtain ⟨v6, h10, h11⟩ := bind_some h11
             have he := Option.some.inj h11; subst he; exact ⟨[(12, bT h9), (15, bT h9), (18, bT h9), (21, bT h9), (24, bT h9), (25, cL (g_value_Valid_ok N v1.xType v1.xVal v6 h10)), (27, bT h9), (31, bT h9)], by kernel_rfl⟩
           · replace h11 := (cond_f h9).symm.trans h11
             have he := Option.some.inj h11; subst he; exact ⟨[(12, bF h9), (15, bF h9), (18, bF h9), (21, bF h9), (24, bF h9), (27, bF h9), (31, bF h9)], by kernel_rfl⟩
         · rcases bool_cases v7 with h12 | h12
           · replace hF := (cond_t h12).symm.trans hF
             refine aw_cond_h (t := v7) (by kernel_rfl) h12 ?_
             refine aw_seq ?_
             refine rg [] [] [.cells (aExpr v1).cells, .cells [(aInt (1 : Int))]] (by kernel_rfl) ?_
             refine aw_ret (ab_r (at_r ?_))
             have hr := Option.some.inj hF; subst hr; exact ret_ok (by kernel_rfl)
           · replace hF := (cond_f h12).symm.trans hF
             refine aw_cond_g (t := v7) (by kernel_rfl) h12 ?_
             refine aw_skip ?_
             refine ab_n ?_
             refine at_n ?_
             refine aw_seq ?_
             refine aw_seq ?_
             obtain ⟨v8, h13, hF⟩ := bind_some hF
             refine rg [(4, cL (g_expr_forms_ok N v1 v8 h13))] [(33, (.fn 164 [(.elt [dExpr v8] 0 0)]))] [.cells (aExpr v1).cells, .cells [(aInt (0 : Int))]] (by kernel_rfl) ?_
             refine aw_block ?_
             refine aw_cut [2, 33] 2 (Nat.le_of_ble_eq_true rfl) (s' := ⟨38, [(2, (.ptr 1 0)), (33, (.fn 164 [(.elt [dExpr v8] 0 0)]))], [.cells (aExpr v1).cells, .cells [(aInt (0 : Int))]]⟩) (by kernel_rfl) ?_
             refine aw_rangeL (m := 2) (enc := aLin) (xs := (formsL v8)) (by kernel_rfl) (iterForms v8) (fun (_ : Unit) => [.cells (aExpr v1).cells, .cells [(aInt (0 : Int))]]) (fun (_ : Unit) l => g_expr_validNode_L1 N l = some r) () (by kernel_rfl) hF (by rintro _; rfl) (by rintro _; kernel_rfl) (by kernel_rfl) rfl ?_ ?_
             · rintro _ v9 v10 hF h14 c1_1 c1_2
               try dsimp only at hF
               rw [g_expr_validNode_L1] at hF
               refine aw_cut [2, 34] 3 (Nat.le_refl _) (s' := ⟨38, [(2, (.ptr 1 0)), (34, (aLin v9))], [.cells (aExpr v1).cells, .cells [(aInt (0 : Int))], .lp .ready 34 c1_1 c1_2 (denseT 38 [(2, (.ptr 1 0)), (33, (.fn 164 [(.elt [dExpr v8] 0 0)]))])]⟩) (by kernel_rfl) ?_
               refine re [] [(3, (.ptr 3 0))] [.cells (aExpr v1).cells, .cells [(aInt (0 : Int))], .lp .ready 34 c1_1 c1_2 (denseT 38 [(2, (.ptr 1 0)), (33, (.fn 164 [(.elt [dExpr v8] 0 0)]))]), .cells (aLin v9).cells] (by kernel_rfl) ?_
               refine at_n ?_
               refine ⟨[.cells (aExpr v1).cells, .cells [(aInt (0 : Int))]], [.cells (aLin v9).cells], rfl, (by kernel_rfl), ?_⟩
               refine aw_cut [2, 3] 4 (Nat.le_of_ble_eq_true rfl) (s' := ⟨38, [(2, (.ptr 1 0)), (3, (.ptr 3 0))], [.cells (aExpr v1).cells, .cells [(aInt (0 : Int))], .lp .busy 34 c1_1 c1_2 (denseT 38 [(2, (.ptr 1 0)), (33, (.fn 164 [(.elt [dExpr v8] 0 0)]))]), .cells (aLin v9).cells]⟩) (by kernel_rfl) ?_
               refine aw_block ?_
               refine aw_seq ?_
               obtain ⟨v11, h15, hF⟩ := bind_some hF
               refine rg [(4, cL (g_lin_Validate_ok N v9 v11 h15))] [(37, (aBool (v11 != (0 : Int))))] [.cells (aExpr v1).cells, .cells [(aInt (0 : Int))], .lp .busy 34 c1_1 c1_2 (denseT 38 [(2, (.ptr 1 0)), (33, (.fn 164 [(.elt [dExpr v8] 0 0)]))]), .cells (aLin v9).cells] (by kernel_rfl) ?_
               rcases bool_cases (v11 != (0 : Int)) with h16 | h16
               · replace hF := (cond_t h16).symm.trans hF
                 refine aw_cond_h (t := (v11 != (0 : Int))) (by kernel_rfl) h16 ?_
                 refine aw_seq ?_
                 refine rg [] [] [.cells (aExpr v1).cells, .cells [(aInt (1 : Int))], .lp .busy 34 c1_1 c1_2 (denseT 38 [(2, (.ptr 1 0)), (33, (.fn 164 [(.elt [dExpr v8] 0 0)]))]), .cells (aLin v9).cells] (by kernel_rfl) ?_
                 refine aw_ret (ab_r ?_)
                 refine rl_r [.cells (aExpr v1).cells, .cells [(aInt (1 : Int))]] rfl (by kernel_rfl) (by kernel_rfl) ?_
                 refine (ab_r (at_r ?_))
                 have hr := Option.some.inj hF; subst hr; exact ret_ok (by kernel_rfl)
               · replace hF := (cond_f h16).symm.trans hF
                 refine aw_cond_g (t := (v11 != (0 : Int))) (by kernel_rfl) h16 ?_
                 refine aw_skip ?_
                 refine ab_n ?_
                 refine rl_n [.cells (aExpr v1).cells, .cells [(aInt (0 : Int))]] rfl (by kernel_rfl) (by kernel_rfl) ?_
                 exact ⟨(), (by kernel_rfl), hF⟩
             · rintro _ hF
               try dsimp only at hF
               rw [g_expr_validNode_L1] at hF
               refine ab_n ?_
               refine at_n ?_
               refine aw_seq ?_
               refine rg [] [] [.cells (aExpr v1).cells, .cells [(aInt (0 : Int))], .gone] (by kernel_rfl) ?_
               refine aw_ret ?_
               have hr := Option.some.inj hF; subst hr; exact ret_ok (by kernel_rfl)
       · replace hF := (cond_f h8).symm.trans hF
         refine aw_cond_h (t := (!v5)) (by kernel_rfl) (not_f h8) ?_
         refine aw_seq ?_
         refine rg [] [] [.cells (aExpr v1).cells, .cells [(aInt (10 : Int))]] (by kernel_rfl) ?_
         refine aw_ret (ab_r (at_r ?_))
         have hr := Option.some.inj hF; subst hr; exact ret_ok (by kernel_rfl)
     · replace hF := (cond_f h6).symm.trans hF
       refine aw_cond_h (t := (!v4)) (by kernel_rfl) (not_f h6) ?_
       refine aw_seq ?_
       refine rg [] [] [.cells (aExpr v1).cells, .cells [(aInt (11 : Int))]] (by kernel_rfl) ?_
       refine aw_ret (ab_r (at_r ?_))
       have hr := Option.some.inj hF; subst hr; exact ret_ok (by kernel_rfl)
   · replace hF := (cond_f h4).symm.trans hF
     refine aw_cond_h (t := (!v3)) (by kernel_rfl) (not_f h4) ?_
     refine aw_seq ?_
     refine rg [] [] [.cells (aExpr v1).cells, .cells [(aInt (7 : Int))]] (by kernel_rfl) ?_
     refine aw_ret (ab_r (at_r ?_))
     have hr := Option.some.inj hF; subst hr; exact ret_ok (by kernel_rfl)
 · replace hF := (cond_f h2).symm.trans hF
   refine aw_cond_h (t := (!v2)) (by kernel_rfl) (not_f h2) ?_
   refine aw_seq ?_
   refine rg [] [] [.cells (aExpr v1).cells, .cells [(aInt (5 : Int))]] (by kernel_rfl) ?_
   refine aw_ret (ab_r (at_r ?_))
   have hr := Option.some.inj hF; subst hr; exact ret_ok (by kernel_rfl)
def g_expr_Validate_L1 (N : Nat) : List ExprD → Option Int
 | [] =>
  some (0 : Int)
 | v5 :: v6 =>
  Option.bind (g_expr_validNode N v5) fun v7 =>
  bif (v7 != (0 : Int)) then
   some v7
  else
   (g_expr_Validate_L1 N v6)
def g_expr_Validate (N : Nat) (v1 : ExprD) : Option Int :=
 Option.bind (g_expr_Depth N v1) fun v2 =>
 bif (decide (v2 > (40 : Int))) then
  some (13 : Int)
 else
  Option.bind (g_expr_Size N v1) fun v3 =>
  bif (decide (v3 > (2000 : Int))) then
   some (2 : Int)
  else
   Option.bind (g_expr_Walk N v1) fun v4 =>
   g_expr_Validate_L1 N (nodes v4)
theorem g_expr_Validate_ok (N : Nat) (v1 : ExprD) (r : Int) (hF : g_expr_Validate N v1 = some r) : AFn Tryz.prog 27 [(aExpr v1)] (· = (aInt r)) := by
 rw [g_expr_Validate] at hF
 refine afn_of Tryz.func27 rfl (by kernel_rfl) ?_
 refine aw_cut [0] 0 (Nat.le_refl _) (s' := ⟨19, [(0, (aExpr v1))], []⟩) (by kernel_rfl) ?_
 refine aw_seq ?_
 refine rg [] [(1, (.ptr 0 0)), (2, (.ptr 1 0))] [.cells (aExpr v1).cells, .cells [(aInt (0 : Int))]] (by kernel_rfl) ?_
 refine aw_seq ?_
 refine aw_seq ?_
 obtain ⟨v2, h1, hF⟩ := bind_some hF
 refine rg [(4, cL (g_expr_Depth_ok N v1 v2 h1))] [(7, (aBool (decide (v2 > (40 : Int)))))] [.cells (aExpr v1).cells, .cells [(aInt (0 : Int))]] (by kernel_rfl) ?_
 rcases bool_cases (decide (v2 > (40 : Int))) with h2 | h2
 · replace hF := (cond_t h2).symm.trans hF
   refine aw_cond_h (t := (decide (v2 > (40 : Int)))) (by kernel_rfl) h2 ?_
   refine aw_seq ?_
   refine rg [] [] [.cells (aExpr v1).cells, .cells [(aInt (13 : Int))]] (by kernel_rfl) ?_
   refine aw_ret (at_r ?_)
   have hr := Option.some.inj hF; subst hr; exact ret_ok (by kernel_rfl)
 · replace hF := (cond_f h2).symm.trans hF
   refine aw_cond_g (t := (decide (v2 > (40 : Int)))) (by kernel_rfl) h2 ?_
   refine aw_skip ?_
   refine at_n ?_
   refine aw_seq ?_
   refine aw_seq ?_
   obtain ⟨v3, h3, hF⟩ := bind_some hF
   refine rg [(4, cL (g_expr_Size_ok N v1 v3 h3))] [(10, (aBool (decide (v3 > (2000 : Int)))))] [.cells (aExpr v1).cells, .cells [(aInt (0 : Int))]] (by kernel_rfl) ?_
   rcases bool_cases (decide (v3 > (2000 : Int))) with h4 | h4
   · replace hF := (cond_t h4).symm.trans hF
     refine aw_cond_h (t := (decide (v3 > (2000 : Int)))) (by kernel_rfl) h4 ?_
     refine aw_seq ?_
     refine rg [] [] [.cells (aExpr v1).cells, .cells [(aInt (2 : Int))]] (by kernel_rfl) ?_
     refine aw_ret (at_r ?_)
     have hr := Option.some.inj hF; subst hr; exact ret_ok (by kernel_rfl)
   · replace hF := (cond_f h4).symm.trans hF
     refine aw_cond_g (t := (decide (v3 > (2000 : Int)))) (by kernel_rfl) h4 ?_
     refine aw_skip ?_
     refine at_n ?_
     refine aw_seq ?_
     refine aw_seq ?_
     obtain ⟨v4, h5, hF⟩ := bind_some hF
     refine rg [(4, cL (g_expr_Walk_ok N v1 v4 h5))] [(12, (.fn 67 [(.elt [dExpr v4] 0 0)]))] [.cells (aExpr v1).cells, .cells [(aInt (0 : Int))]] (by kernel_rfl) ?_
     refine aw_block ?_
     refine aw_cut [2, 12] 2 (Nat.le_of_ble_eq_true rfl) (s' := ⟨19, [(2, (.ptr 1 0)), (12, (.fn 67 [(.elt [dExpr v4] 0 0)]))], [.cells (aExpr v1).cells, .cells [(aInt (0 : Int))]]⟩) (by kernel_rfl) ?_
     refine aw_rangeL (m := 2) (enc := aExpr) (xs := (nodes v4)) (by kernel_rfl) (iterWalk v4) (fun (_ : Unit) => [.cells (aExpr v1).cells, .cells [(aInt (0 : Int))]]) (fun (_ : Unit) l => g_expr_Validate_L1 N l = some r) () (by kernel_rfl) hF (by rintro _; rfl) (by rintro _; kernel_rfl) (by kernel_rfl) rfl ?_ ?_
     · rintro _ v5 v6 hF h6 c1_1 c1_2
       try dsimp only at hF
       rw [g_expr_Validate_L1] at hF
       refine aw_cut [2, 13] 3 (Nat.le_refl _) (s' := ⟨19, [(2, (.ptr 1 0)), (13, (aExpr v5))], [.cells (aExpr v1).cells, .cells [(aInt (0 : Int))], .lp .ready 13 c1_1 c1_2 (denseT 19 [(2, (.ptr 1 0)), (12, (.fn 67 [(.elt [dExpr v4] 0 0)]))])]⟩) (by kernel_rfl) ?_
       refine re [] [(3, (.ptr 3 0))] [.cells (aExpr v1).cells, .cells [(aInt (0 : Int))], .lp .ready 13 c1_1 c1_2 (denseT 19 [(2, (.ptr 1 0)), (12, (.fn 67 [(.elt [dExpr v4] 0 0)]))]), .cells (aExpr v5).cells] (by kernel_rfl) ?_
       refine at_n ?_
       refine ⟨[.cells (aExpr v1).cells, .cells [(aInt (0 : Int))]], [.cells (aExpr v5).cells], rfl, (by kernel_rfl), ?_⟩
       refine aw_cut [2, 3] 4 (Nat.le_of_ble_eq_true rfl) (s' := ⟨19, [(2, (.ptr 1 0)), (3, (.ptr 3 0))], [.cells (aExpr v1).cells, .cells [(aInt (0 : Int))], .lp .busy 13 c1_1 c1_2 (denseT 19 [(2, (.ptr 1 0)), (12, (.fn 67 [(.elt [dExpr v4] 0 0)]))]), .cells (aExpr v5).cells]⟩) (by kernel_rfl) ?_
       refine aw_block ?_
       refine aw_seq ?_
       obtain ⟨v7, h7, hF⟩ := bind_some hF
       refine rg [(4, cL (g_expr_validNode_ok N v5 v7 h7))] [(4, (aInt v7))] [.cells (aExpr v1).cells, .cells [(aInt (0 : Int))], .lp .busy 13 c1_1 c1_2 (denseT 19 [(2, (.ptr 1 0)), (12, (.fn 67 [(.elt [dExpr v4] 0 0)]))]), .cells (aExpr v5).cells] (by kernel_rfl) ?_
       refine aw_seq ?_
       refine rg [] [(17, (aBool (v7 != (0 : Int))))] [.cells (aExpr v1).cells, .cells [(aInt (0 : Int))], .lp .busy 13 c1_1 c1_2 (denseT 19 [(2, (.ptr 1 0)), (12, (.fn 67 [(.elt [dExpr v4] 0 0)]))]), .cells (aExpr v5).cells] (by kernel_rfl) ?_
       rcases bool_cases (v7 != (0 : Int)) with h8 | h8
       · replace hF := (cond_t h8).symm.trans hF
         refine aw_cond_h (t := (v7 != (0 : Int))) (by kernel_rfl) h8 ?_
         refine aw_seq ?_
         refine rg [] [] [.cells (aExpr v1).cells, .cells [(aInt v7)], .lp .busy 13 c1_1 c1_2 (denseT 19 [(2, (.ptr 1 0)), (12, (.fn 67 [(.elt [dExpr v4] 0 0)]))]), .cells (aExpr v5).cells] (by kernel_rfl) ?_
         refine aw_ret (ab_r ?_)
         refine rl_r [.cells (aExpr v1).cells, .cells [(aInt v7)]] rfl (by kernel_rfl) (by kernel_rfl) ?_
         refine (ab_r (at_r ?_))
         have hr := Option.some.inj hF; subst hr; exact ret_ok (by kernel_rfl)
       · replace hF := (cond_f h8).symm.trans hF
         refine aw_cond_g (t := (v7 != (0 : Int))) (by kernel_rfl) h8 ?_
         refine aw_skip ?_
         refine ab_n ?_
         refine rl_n [.cells (aExpr v1).cells, .cells [(aInt (0 : Int))]] rfl (by kernel_rfl) (by kernel_rfl) ?_
         exact ⟨(), (by kernel_rfl), hF⟩
     · rintro _ hF
       try dsimp only at hF
       rw [g_expr_Validate_L1] at hF
       refine ab_n ?_
       refine at_n ?_
       refine aw_seq ?_
       refine rg [] [] [.cells (aExpr v1).cells, .cells [(aInt (0 : Int))], .gone] (by kernel_rfl) ?_
       refine aw_ret ?_
       have hr := Option.some.inj hF; subst hr; exact ret_ok (by kernel_rfl)
def g_brocaderef14_depth_L1 (N : Nat) (v2 : Int) (rec52 : ExprD → Int → Option Int) : List ExprD → Nat → Int → Option Int
 | [], _, v7 =>
  some v7
 | v5 :: v6, v3, v7 =>
  bif (decide (v2 > (1 : Int))) then
   Option.bind (rec52 v5 (w64 (v2 - (1 : Int)))) fun v8 =>
   (fun b1_0 => g_brocaderef14_depth_L1 N v2 rec52 v6 (v3 + 1) b1_0) (if (w64 ((1 : Int) + v8)) > v7 then (w64 ((1 : Int) + v8)) else v7)
  else
   some v7
def g_brocaderef14_depthR (N : Nat) : Nat → ExprD → Int → Option Int
 | 0, _, _ => none
 | d + 1, v1, v2 =>
  g_brocaderef14_depth_L1 N v2 (g_brocaderef14_depthR N d) v1.xArgs 0 (1 : Int)
def g_brocaderef14_depth (N : Nat) (v1 : ExprD) (v2 : Int) : Option Int := g_brocaderef14_depthR N N v1 v2
theorem g_brocaderef14_depthR_all (N : Nat) : ∀ d : Nat, (∀ (v1 : ExprD) (v2 : Int) (r : Int), g_brocaderef14_depthR N d v1 v2 = some r → AFn Tryz.prog 115 [(aExpr v1), (aInt v2)] (· = (aInt r))) := by
 intro d
 induction d with
 | zero => intro v1 v2 r hF; rw [g_brocaderef14_depthR] at hF; cases hF
 | succ d ih =>
  have ih52 := ih
  intro v1 v2 r hF
  rw [g_brocaderef14_depthR] at hF
  refine afn_of Tryz.func115 rfl (by kernel_rfl) ?_
  refine aw_cut [0, 1] 0 (Nat.le_refl _) (s' := ⟨30, [(0, (aExpr v1)), (1, (aInt v2))], []⟩) (by kernel_rfl) ?_
  refine aw_seq ?_
  refine rg [] [(2, (.ptr 0 0))] [.cells (aExpr v1).cells] (by kernel_rfl) ?_
  refine aw_seq ?_
  refine rg [] [(5, (aInt (1 : Int)))] [.cells (aExpr v1).cells] (by kernel_rfl) ?_
  refine aw_seq ?_
  refine aw_seq ?_
  refine rg [] [(6, (aInt (0 : Int)))] [.cells (aExpr v1).cells] (by kernel_rfl) ?_
  refine aw_block ?_
  refine aw_okB 0 12 (dExprs v1.xArgs) (by kernel_rfl) fun h1 => ?_
  have h2 : v1.xArgs.length ≤ maxLen := by rw [← dExprs_len]; exact ok_len h1
  refine aw_loopC [1, 2, 5, 6] 1 (fun ((v3, v4, v7) : Nat × (List ExprD) × Int) => ⟨30, [(1, (aInt v2)), (2, (.ptr 0 0)), (5, (aInt v7)), (6, (aInt (v3 : Int)))], [.cells (aExpr v1).cells]⟩) (fun ((v3, v4, v7) : Nat × (List ExprD) × Int) => v1.xArgs.drop v3 = v4 ∧ g_brocaderef14_depth_L1 N v2 (g_brocaderef14_depthR N d) v4 v3 v7 = some r) (fun ((v3, v4, v7) : Nat × (List ExprD) × Int) => v4.length) (0, v1.xArgs, (1 : Int)) (Nat.le_of_ble_eq_true rfl) (by kernel_rfl) ⟨rfl, hF⟩ ?_
  rintro ⟨v3, v4, v7⟩ ⟨h3, hF⟩
  cases v4 with
  | nil =>
   rw [g_brocaderef14_depth_L1] at hF
   refine aw_seq ?_
   refine aw_seq ?_
   refine rg [(10, ⟨_, _, .len (xs := dExprs v1.xArgs) dExprs_len⟩), (18, bF (lt_f h3)), (21, bF (lt_f h3)), (25, bF (lt_f h3))] [(15, (aBool false))] [.cells (aExpr v1).cells] (by kernel_rfl) ?_
   refine aw_cond_g (t := false) (by kernel_rfl) rfl ?_
   refine aw_exit (at_e (at_e (ab_y rfl ?_)))
   refine at_n ?_
   refine aw_seq ?_
   refine rg [] [(4, (aInt v7))] [.cells (aExpr v1).cells] (by kernel_rfl) ?_
   refine aw_ret ?_
   have hr := Option.some.inj hF; subst hr; exact ret_ok (by kernel_rfl)
  | cons v5 v6 =>
   rw [g_brocaderef14_depth_L1] at hF
   refine aw_seq ?_
   refine aw_seq ?_
   refine rg [(10, ⟨_, _, .len (xs := dExprs v1.xArgs) dExprs_len⟩), (18, bT (lt_t h3)), (21, bT (lt_t h3)), (25, bT (lt_t h3))] [(15, (aBool (decide (v2 > (1 : Int)))))] [.cells (aExpr v1).cells] (by kernel_rfl) ?_
   rcases bool_cases (decide (v2 > (1 : Int))) with h4 | h4
   · replace hF := (cond_t h4).symm.trans hF
     refine aw_cond_h (t := (decide (v2 > (1 : Int)))) (by kernel_rfl) h4 ?_
     refine aw_skip ?_
     refine at_n ?_
     refine aw_seq ?_
     refine aw_block ?_
     obtain ⟨v8, h5, hF⟩ := bind_some hF
     refine re [(13, ⟨_, _, .el (xs := dExprs v1.xArgs) (i := (v3 : Int)) (Int.natCast_nonneg _) (dExprs_get (drop_get h3))⟩), (25, cL (ih52 v5 (w64 (v2 - (1 : Int))) v8 h5))] [(5, (aInt (if (w64 ((1 : Int) + v8)) > v7 then (w64 ((1 : Int) + v8)) else v7))), (28, (aInt (if (w64 ((1 : Int) + v8)) > v7 then (w64 ((1 : Int) + v8)) else v7))), (27, (aInt (w64 ((1 : Int) + v8)))), (26, (aInt v8)), (25, (aInt (w64 (v2 - (1 : Int))))), (24, (aInt v2)), (23, (aExpr v5)), (22, (.elt [dExpr v5] 0 0)), (21, (aInt (v3 : Int))), (20, (.d (.sl (dExprs v1.xArgs)))), (19, (.ptr 0 12)), (18, (aInt v7))] [.cells (aExpr v1).cells] (by kernel_rfl) ?_
     refine ab_n ?_
     refine at_n ?_
     refine re [(5, ⟨_, _, .eq (wrap_nx h3 rfl h2)⟩)] [(6, (aInt ((v3 + 1 : Nat) : Int))), (17, (aInt ((v3 + 1 : Nat) : Int))), (16, (aInt (v3 : Int)))] [.cells (aExpr v1).cells] (by kernel_rfl) ?_
     refine at_n ?_
     exact ⟨(v3 + 1, v6, (if (w64 ((1 : Int) + v8)) > v7 then (w64 ((1 : Int) + v8)) else v7)), by kernel_rfl, ⟨drop_nx h3, hF⟩, Nat.lt_succ_self _⟩
   · replace hF := (cond_f h4).symm.trans hF
     refine aw_cond_g (t := (decide (v2 > (1 : Int)))) (by kernel_rfl) h4 ?_
     refine aw_exit (at_e (at_e (ab_y rfl ?_)))
     refine at_n ?_
     refine aw_seq ?_
     refine rg [] [(4, (aInt v7))] [.cells (aExpr v1).cells] (by kernel_rfl) ?_
     refine aw_ret ?_
     have hr := Option.some.inj hF; subst hr; exact ret_ok (by kernel_rfl)
theorem g_brocaderef14_depth_ok (N : Nat) (v1 : ExprD) (v2 : Int) (r : Int) (hF : g_brocaderef14_depth N v1 v2 = some r) : AFn Tryz.prog 115 [(aExpr v1), (aInt v2)] (· = (aInt r)) := (g_brocaderef14_depthR_all N N) v1 v2 r hF
def g_brocaderef14_Depth (N : Nat) (v1 : ExprD) : Option Int :=
 Option.bind (g_brocaderef14_depth N v1 (41 : Int)) fun v2 =>
 some v2
theorem g_brocaderef14_Depth_ok (N : Nat) (v1 : ExprD) (r : Int) (hF : g_brocaderef14_Depth N v1 = some r) : AFn Tryz.prog 60 [(aExpr v1)] (· = (aInt r)) := by
 rw [g_brocaderef14_Depth] at hF
 refine afn_of Tryz.func60 rfl (by kernel_rfl) ?_
 refine aw_cut [0] 0 (Nat.le_refl _) (s' := ⟨5, [(0, (aExpr v1))], []⟩) (by kernel_rfl) ?_
 refine aw_seq ?_
 refine rg [] [(1, (.ptr 0 0))] [.cells (aExpr v1).cells] (by kernel_rfl) ?_
 refine aw_seq ?_
 obtain ⟨v2, h1, hF⟩ := bind_some hF
 refine rg [(4, cL (g_brocaderef14_depth_ok N v1 (41 : Int) v2 h1))] [(2, (aInt v2))] [.cells (aExpr v1).cells] (by kernel_rfl) ?_
 refine aw_ret ?_
 have hr := Option.some.inj hF; subst hr; exact ret_ok (by kernel_rfl)
def g_brocaderef14_size_L1 (N : Nat) (v2 : Int) (rec54 : ExprD → Int → Option Int) : List ExprD → Nat → Int → Option Int
 | [], _, v7 =>
  some v7
 | v5 :: v6, v3, v7 =>
  bif (decide (v7 ≤ v2)) then
   Option.bind (rec54 v5 (w64 (v2 - v7))) fun v8 =>
   (fun b1_0 => g_brocaderef14_size_L1 N v2 rec54 v6 (v3 + 1) b1_0) (w64 (v7 + v8))
  else
   some v7
def g_brocaderef14_sizeR (N : Nat) : Nat → ExprD → Int → Option Int
 | 0, _, _ => none
 | d + 1, v1, v2 =>
  g_brocaderef14_size_L1 N v2 (g_brocaderef14_sizeR N d) v1.xArgs 0 (1 : Int)
def g_brocaderef14_size (N : Nat) (v1 : ExprD) (v2 : Int) : Option Int := g_brocaderef14_sizeR N N v1 v2
theorem g_brocaderef14_sizeR_all (N : Nat) : ∀ d : Nat, (∀ (v1 : ExprD) (v2 : Int) (r : Int), g_brocaderef14_sizeR N d v1 v2 = some r → AFn Tryz.prog 116 [(aExpr v1), (aInt v2)] (· = (aInt r))) := by
 intro d
 induction d with
 | zero => intro v1 v2 r hF; rw [g_brocaderef14_sizeR] at hF; cases hF
 | succ d ih =>
  have ih54 := ih
  intro v1 v2 r hF
  rw [g_brocaderef14_sizeR] at hF
  refine afn_of Tryz.func116 rfl (by kernel_rfl) ?_
  refine aw_cut [0, 1] 0 (Nat.le_refl _) (s' := ⟨31, [(0, (aExpr v1)), (1, (aInt v2))], []⟩) (by kernel_rfl) ?_
  refine aw_seq ?_
  refine rg [] [(2, (.ptr 0 0))] [.cells (aExpr v1).cells] (by kernel_rfl) ?_
  refine aw_seq ?_
  refine rg [] [(5, (aInt (1 : Int)))] [.cells (aExpr v1).cells] (by kernel_rfl) ?_
  refine aw_seq ?_
  refine aw_seq ?_
  refine rg [] [(6, (aInt (0 : Int)))] [.cells (aExpr v1).cells] (by kernel_rfl) ?_
  refine aw_block ?_
  refine aw_okB 0 12 (dExprs v1.xArgs) (by kernel_rfl) fun h1 => ?_
  have h2 : v1.xArgs.length ≤ maxLen := by rw [← dExprs_len]; exact ok_len h1
  refine aw_loopC [1, 2, 5, 6] 1 (fun ((v3, v4, v7) : Nat × (List ExprD) × Int) => ⟨31, [(1, (aInt v2)), (2, (.ptr 0 0)), (5, (aInt v7)), (6, (aInt (v3 : Int)))], [.cells (aExpr v1).cells]⟩) (fun ((v3, v4, v7) : Nat × (List ExprD) × Int) => v1.xArgs.drop v3 = v4 ∧ g_brocaderef14_size_L1 N v2 (g_brocaderef14_sizeR N d) v4 v3 v7 = some r) (fun ((v3, v4, v7) : Nat × (List ExprD) × Int) => v4.length) (0, v1.xArgs, (1 : Int)) (Nat.le_of_ble_eq_true rfl) (by kernel_rfl) ⟨rfl, hF⟩ ?_
  rintro ⟨v3, v4, v7⟩ ⟨h3, hF⟩
  cases v4 with
  | nil =>
   rw [g_brocaderef14_size_L1] at hF
   refine aw_seq ?_
   refine aw_seq ?_
   refine rg [(10, ⟨_, _, .len (xs := dExprs v1.xArgs) dExprs_len⟩), (18, bF (lt_f h3)), (21, bF (lt_f h3)), (24, bF (lt_f h3)), (28, bF (lt_f h3))] [(16, (aBool false))] [.cells (aExpr v1).cells] (by kernel_rfl) ?_
   refine aw_cond_g (t := false) (by kernel_rfl) rfl ?_
   refine aw_exit (at_e (at_e (ab_y rfl ?_)))
   refine at_n ?_
   refine aw_seq ?_
   refine rg [] [(4, (aInt v7))] [.cells (aExpr v1).cells] (by kernel_rfl) ?_
   refine aw_ret ?_
   have hr := Option.some.inj hF; subst hr; exact ret_ok (by kernel_rfl)
  | cons v5 v6 =>
   rw [g_brocaderef14_size_L1] at hF
   refine aw_seq ?_
   refine aw_seq ?_
   refine rg [(10, ⟨_, _, .len (xs := dExprs v1.xArgs) dExprs_len⟩), (18, bT (lt_t h3)), (21, bT (lt_t h3)), (24, bT (lt_t h3)), (28, bT (lt_t h3))] [(16, (aBool (decide (v7 ≤ v2))))] [.cells (aExpr v1).cells] (by kernel_rfl) ?_
   rcases bool_cases (decide (v7 ≤ v2)) with h4 | h4
   · replace hF := (cond_t h4).symm.trans hF
     refine aw_cond_h (t := (decide (v7 ≤ v2))) (by kernel_rfl) h4 ?_
     refine aw_skip ?_
     refine at_n ?_
     refine aw_seq ?_
     refine aw_block ?_
     obtain ⟨v8, h5, hF⟩ := bind_some hF
     refine re [(13, ⟨_, _, .el (xs := dExprs v1.xArgs) (i := (v3 : Int)) (Int.natCast_nonneg _) (dExprs_get (drop_get h3))⟩), (28, cL (ih54 v5 (w64 (v2 - v7)) v8 h5))] [(5, (aInt (w64 (v7 + v8)))), (29, (aInt (w64 (v7 + v8)))), (28, (aInt v8)), (27, (aInt (w64 (v2 - v7)))), (26, (aInt v7)), (25, (aInt v2)), (24, (aExpr v5)), (23, (.elt [dExpr v5] 0 0)), (22, (aInt (v3 : Int))), (21, (.d (.sl (dExprs v1.xArgs)))), (20, (.ptr 0 12)), (19, (aInt v7))] [.cells (aExpr v1).cells] (by kernel_rfl) ?_
     refine ab_n ?_
     refine at_n ?_
     refine re [(5, ⟨_, _, .eq (wrap_nx h3 rfl h2)⟩)] [(6, (aInt ((v3 + 1 : Nat) : Int))), (18, (aInt ((v3 + 1 : Nat) : Int))), (17, (aInt (v3 : Int)))] [.cells (aExpr v1).cells] (by kernel_rfl) ?_
     refine at_n ?_
     exact ⟨(v3 + 1, v6, (w64 (v7 + v8))), by kernel_rfl, ⟨drop_nx h3, hF⟩, Nat.lt_succ_self _⟩
   · replace hF := (cond_f h4).symm.trans hF
     refine aw_cond_g (t := (decide (v7 ≤ v2))) (by kernel_rfl) h4 ?_
     refine aw_exit (at_e (at_e (ab_y rfl ?_)))
     refine at_n ?_
     refine aw_seq ?_
     refine rg [] [(4, (aInt v7))] [.cells (aExpr v1).cells] (by kernel_rfl) ?_
     refine aw_ret ?_
     have hr := Option.some.inj hF; subst hr; exact ret_ok (by kernel_rfl)
theorem g_brocaderef14_size_ok (N : Nat) (v1 : ExprD) (v2 : Int) (r : Int) (hF : g_brocaderef14_size N v1 v2 = some r) : AFn Tryz.prog 116 [(aExpr v1), (aInt v2)] (· = (aInt r)) := (g_brocaderef14_sizeR_all N N) v1 v2 r hF
def g_brocaderef14_Size (N : Nat) (v1 : ExprD) : Option Int :=
 Option.bind (g_brocaderef14_size N v1 (2000 : Int)) fun v2 =>
 some (if (2001 : Int) < v2 then (2001 : Int) else v2)
theorem g_brocaderef14_Size_ok (N : Nat) (v1 : ExprD) (r : Int) (hF : g_brocaderef14_Size N v1 = some r) : AFn Tryz.prog 61 [(aExpr v1)] (· = (aInt r)) := by
 rw [g_brocaderef14_Size] at hF
 refine afn_of Tryz.func61 rfl (by kernel_rfl) ?_
 refine aw_cut [0] 0 (Nat.le_refl _) (s' := ⟨6, [(0, (aExpr v1))], []⟩) (by kernel_rfl) ?_
 refine aw_seq ?_
 refine rg [] [(1, (.ptr 0 0))] [.cells (aExpr v1).cells] (by kernel_rfl) ?_
 refine aw_seq ?_
 obtain ⟨v2, h1, hF⟩ := bind_some hF
 refine rg [(4, cL (g_brocaderef14_size_ok N v1 (2000 : Int) v2 h1))] [(2, (aInt (if (2001 : Int) < v2 then (2001 : Int) else v2)))] [.cells (aExpr v1).cells] (by kernel_rfl) ?_
 refine aw_ret ?_
 have hr := Option.some.inj hF; subst hr; exact ret_ok (by kernel_rfl)
def g_brocaderef14_plain_L1 (N : Nat) : List IndexD → Nat → Option Bool
 | [], _ =>
  some true
 | v7 :: v8, v5 =>
  Option.bind (bif (bL v7.xFrom == bL (bs [])) then (bif (decide ((v7.xAt.length : Int) > (0 : Int))) then some true else some false) else (bif (v7.xLin.xK.toInt != (0 : Int)) then some true else some (decide ((v7.xLin.xL.length : Int) > (0 : Int))))) fun v9 =>
  bif v9 then
   some false
  else
   (g_brocaderef14_plain_L1 N v8 (v5 + 1))
def g_brocaderef14_plain (N : Nat) (v1 : ExprD) : Option Bool :=
 Option.bind (bif (decide (v1.xOp < (1 : Int))) then some true else some (decide (v1.xOp > (18 : Int)))) fun v2 =>
 bif v2 then
  some false
 else
  Option.bind (bif (v1.xOp != (1 : Int)) then (bif ((v1.xVal.xN.toInt == (0 : Int64).toInt) && ((v1.xVal.xD.toInt == (0 : Int64).toInt) && true)) then (bif (v1.xOp != (12 : Int)) then some (!((v1.xType.xKind == (0 : Int)) && ((v1.xType.xBits == (0 : Int)) && ((v1.xType.xFrac == (0 : Int)) && ((v1.xType.xRound == (0 : Int)) && ((v1.xType.xOver == (0 : Int)) && true)))))) else some false) else some true) else some false) fun v3 =>
  bif v3 then
   some false
  else
   Option.bind (bif (v1.xOp != (2 : Int)) then (bif (v1.xLin.xK.toInt != (0 : Int)) then some true else (bif (decide ((v1.xLin.xL.length : Int) > (0 : Int))) then some true else (bif (v1.xOp != (3 : Int)) then (bif (bL v1.xName == bL (bs [])) then some (decide ((v1.xIdx.length : Int) > (0 : Int))) else some true) else some false))) else (bif (v1.xOp != (3 : Int)) then (bif (bL v1.xName == bL (bs [])) then some (decide ((v1.xIdx.length : Int) > (0 : Int))) else some true) else some false)) fun v4 =>
   bif v4 then
    some false
   else
    g_brocaderef14_plain_L1 N v1.xIdx 0
theorem g_brocaderef14_plain_ok (N : Nat) (v1 : ExprD) (r : Bool) (hF : g_brocaderef14_plain N v1 = some r) : AFn Tryz.prog 117 [(aExpr v1)] (· = (aBool r)) := by
 rw [g_brocaderef14_plain] at hF
 refine afn_of Tryz.func117 rfl (by kernel_rfl) ?_
 refine aw_cut [0] 0 (Nat.le_refl _) (s' := ⟨109, [(0, (aExpr v1))], []⟩) (by kernel_rfl) ?_
 refine aw_seq ?_
 refine rg [] [(1, (.ptr 0 0))] [.cells (aExpr v1).cells] (by kernel_rfl) ?_
 refine aw_seq ?_
 refine aw_seq ?_
 obtain ⟨v2, h2, hF⟩ := bind_some hF
 refine rgE [(12, (aBool v2))] [.cells (aExpr v1).cells] ?_ ?_
 · rcases bool_cases (decide (v1.xOp < (1 : Int))) with h1 | h1
   · replace h2 := (cond_t h1).symm.trans h2
     have he := Option.some.inj h2; subst he; exact ⟨[(12, bT h1), (15, bT h1), (18, bT h1), (22, bT h1)], by kernel_rfl⟩
   · replace h2 := (cond_f h1).symm.trans h2
     have he := Option.some.inj h2; subst he; exact ⟨[(12, bF h1), (15, bF h1), (18, bF h1), (22, bF h1)], by kernel_rfl⟩
 · rcases bool_cases v2 with h3 | h3
   · replace hF := (cond_t h3).symm.trans hF
     refine aw_cond_h (t := v2) (by kernel_rfl) h3 ?_
     refine aw_seq ?_
     refine rg [] [(2, (aBool false))] [.cells (aExpr v1).cells] (by kernel_rfl) ?_
     refine aw_ret (at_r ?_)
     have hr := Option.some.inj hF; subst hr; exact ret_ok (by kernel_rfl)
   · replace hF := (cond_f h3).symm.trans hF
     refine aw_cond_g (t := v2) (by kernel_rfl) h3 ?_
     refine aw_skip ?_
     refine at_n ?_
     refine aw_seq ?_
     refine aw_seq ?_
     obtain ⟨v3, h7, hF⟩ := bind_some hF
     refine rgE [(37, (aBool v3))] [.cells (aExpr v1).cells] ?_ ?_
     · rcases bool_cases (v1.xOp != (1 : Int)) with h4 | h4
       · replace h7 := (cond_t h4).symm.trans h7
         rcases bool_cases ((v1.xVal.xN.toInt == (0 : Int64).toInt) && ((v1.xVal.xD.toInt == (0 : Int64).toInt) && true)) with h5 | h5
         · replace h7 := (cond_t h5).symm.trans h7
           rcases bool_cases (v1.xOp != (12 : Int)) with h6 | h6
           · replace h7 := (cond_t h6).symm.trans h7
             have he := Option.some.inj h7; subst he; exact ⟨[(12, bT h4), (15, bT h4), (18, bT h4), (21, bT h4), (25, bT h4), (30, bF (not_t h5)), (33, bF (not_t h5)), (36, bF (not_t h5)), (39, bF (not_t h5)), (42, bT h4), (45, bT h4), (48, bT h4), (51, bF (not_t h5)), (52, bT h4), (54, bF (not_t h5)), (57, bT h6), (60, bT h6), (63, bT h6), (66, bT h6), (69, bF (not_t h5)), (70, bT h6), (73, bF (not_t h5))], by kernel_rfl⟩
           · replace h7 := (cond_f h6).symm.trans h7
             have he := Option.some.inj h7; subst he; exact ⟨[(12, bT h4), (15, bT h4), (18, bT h4), (21, bT h4), (25, bT h4), (30, bF (not_t h5)), (33, bF (not_t h5)), (36, bF (not_t h5)), (39, bF (not_t h5)), (42, bT h4), (45, bT h4), (48, bT h4), (51, bF (not_t h5)), (52, bT h4), (54, bF (not_t h5)), (57, bF h6), (60, bF h6), (63, bF h6), (66, bF h6), (69, bF (not_t h5)), (70, bF h6), (73, bF (not_t h5))], by kernel_rfl⟩
         · replace h7 := (cond_f h5).symm.trans h7
           have he := Option.some.inj h7; subst he; exact ⟨[(12, bT h4), (15, bT h4), (18, bT h4), (21, bT h4), (25, bT h4), (30, bT (not_f h5)), (33, bT (not_f h5)), (36, bT (not_f h5)), (39, bT (not_f h5)), (42, uN), (45, uN), (48, uN), (51, bT (not_f h5)), (54, bT (not_f h5)), (57, uN), (60, uN), (63, uN), (66, uN), (69, bT (not_f h5)), (73, bT (not_f h5))], by kernel_rfl⟩
       · replace h7 := (cond_f h4).symm.trans h7
         have he := Option.some.inj h7; subst he; exact ⟨[(12, bF h4), (15, bF h4), (18, bF h4), (21, bF h4), (25, bF h4), (30, bF rfl), (33, bF rfl), (36, bF rfl), (39, bF rfl), (42, bF h4), (45, bF h4), (48, bF h4), (51, bF rfl), (52, bF h4), (54, bF rfl), (57, bF rfl), (60, bF rfl), (63, bF rfl), (66, bF rfl), (69, bF rfl), (70, bF rfl), (73, bF rfl)], by kernel_rfl⟩
     · rcases bool_cases v3 with h8 | h8
       · replace hF := (cond_t h8).symm.trans hF
         refine aw_cond_h (t := v3) (by kernel_rfl) h8 ?_
         refine aw_seq ?_
         refine rg [] [(2, (aBool false))] [.cells (aExpr v1).cells] (by kernel_rfl) ?_
         refine aw_ret (at_r ?_)
         have hr := Option.some.inj hF; subst hr; exact ret_ok (by kernel_rfl)
       · replace hF := (cond_f h8).symm.trans hF
         refine aw_cond_g (t := v3) (by kernel_rfl) h8 ?_
         refine aw_skip ?_
         refine at_n ?_
         refine aw_seq ?_
         refine aw_seq ?_
         obtain ⟨v4, h16, hF⟩ := bind_some hF
         refine rgE [(69, (aBool v4))] [.cells (aExpr v1).cells] ?_ ?_
         · rcases bool_cases (v1.xOp != (2 : Int)) with h9 | h9
           · replace h16 := (cond_t h9).symm.trans h16
             rcases bool_cases (v1.xLin.xK.toInt != (0 : Int)) with h10 | h10
             · replace h16 := (cond_t h10).symm.trans h16
               have he := Option.some.inj h16; subst he; exact ⟨[(12, bT h9), (15, bT h9), (18, bT h9), (21, bT h9), (24, bT h9), (27, bT h10), (30, bT h10), (33, bT h10), (36, bT h10), (39, bT h10), (42, bT h9), (43, bT h10), (46, bT h9), (51, bT rfl), (54, bT rfl), (57, bT rfl), (60, bT rfl), (63, uN), (66, uN), (69, uN), (72, uN), (75, uN), (78, uN), (81, uN), (84, uN), (87, uN), (90, bT rfl), (94, bT rfl)], by kernel_rfl⟩
             · replace h16 := (cond_f h10).symm.trans h16
               rcases bool_cases (decide ((v1.xLin.xL.length : Int) > (0 : Int))) with h11 | h11
               · replace h16 := (cond_t h11).symm.trans h16
                 have he := Option.some.inj h16; subst he; exact ⟨[(12, bT h9), (15, bT h9), (18, bT h9), (21, bT h9), (24, bT h9), (27, bF h10), (30, bF h10), (33, bF h10), (36, bF h10), (37, ⟨_, _, .len (xs := dMonos v1.xLin.xL) dMonos_len⟩), (39, bF h10), (42, bT h9), (43, bF h10), (46, bT h9), (51, bT h11), (54, bT h11), (57, bT h11), (60, bT h11), (63, uN), (66, uN), (69, uN), (72, uN), (75, uN), (78, uN), (81, uN), (84, uN), (87, uN), (90, bT h11), (94, bT h11)], by kernel_rfl⟩
               · replace h16 := (cond_f h11).symm.trans h16
                 rcases bool_cases (v1.xOp != (3 : Int)) with h12 | h12
                 · replace h16 := (cond_t h12).symm.trans h16
                   rcases bool_cases (bL v1.xName == bL (bs [])) with h13 | h13
                   · replace h16 := (cond_t h13).symm.trans h16
                     have he := Option.some.inj h16; subst he; exact ⟨[(12, bT h9), (15, bT h9), (18, bT h9), (21, bT h9), (24, bT h9), (27, bF h10), (30, bF h10), (33, bF h10), (36, bF h10), (37, ⟨_, _, .len (xs := dMonos v1.xLin.xL) dMonos_len⟩), (39, bF h10), (42, bT h9), (43, bF h10), (46, bT h9), (51, bF h11), (54, bF h11), (57, bF h11), (60, bF h11), (63, bT h12), (66, bT h12), (69, bT h12), (72, bT h12), (75, bF (not_t h13)), (78, bF (not_t h13)), (81, bF (not_t h13)), (82, ⟨_, _, .len (xs := dIndexs v1.xIdx) dIndexs_len⟩), (84, bF (not_t h13)), (87, bT h12), (88, bF (not_t h13)), (90, bF h11), (91, bT h12), (94, bF h11)], by kernel_rfl⟩
                   · replace h16 := (cond_f h13).symm.trans h16
                     have he := Option.some.inj h16; subst he; exact ⟨[(12, bT h9), (15, bT h9), (18, bT h9), (21, bT h9), (24, bT h9), (27, bF h10), (30, bF h10), (33, bF h10), (36, bF h10), (37, ⟨_, _, .len (xs := dMonos v1.xLin.xL) dMonos_len⟩), (39, bF h10), (42, bT h9), (43, bF h10), (46, bT h9), (51, bF h11), (54, bF h11), (57, bF h11), (60, bF h11), (63, bT h12), (66, bT h12), (69, bT h12), (72, bT h12), (75, bT (not_f h13)), (78, bT (not_f h13)), (81, bT (not_f h13)), (84, bT (not_f h13)), (87, bT h12), (88, bT (not_f h13)), (90, bF h11), (91, bT h12), (94, bF h11)], by kernel_rfl⟩
                 · replace h16 := (cond_f h12).symm.trans h16
                   have he := Option.some.inj h16; subst he; exact ⟨[(12, bT h9), (15, bT h9), (18, bT h9), (21, bT h9), (24, bT h9), (27, bF h10), (30, bF h10), (33, bF h10), (36, bF h10), (37, ⟨_, _, .len (xs := dMonos v1.xLin.xL) dMonos_len⟩), (39, bF h10), (42, bT h9), (43, bF h10), (46, bT h9), (51, bF h11), (54, bF h11), (57, bF h11), (60, bF h11), (63, bF h12), (66, bF h12), (69, bF h12), (72, bF h12), (75, uN), (78, uN), (81, uN), (84, uN), (87, bF h12), (90, bF h11), (91, bF h12), (94, bF h11)], by kernel_rfl⟩
           · replace h16 := (cond_f h9).symm.trans h16
             rcases bool_cases (v1.xOp != (3 : Int)) with h14 | h14
             · replace h16 := (cond_t h14).symm.trans h16
               rcases bool_cases (bL v1.xName == bL (bs [])) with h15 | h15
               · replace h16 := (cond_t h15).symm.trans h16
                 have he := Option.some.inj h16; subst he; exact ⟨[(12, bF h9), (15, bF h9), (18, bF h9), (21, bF h9), (24, bF h9), (27, uN), (30, uN), (33, uN), (36, uN), (39, uN), (42, bF h9), (46, bF h9), (51, bF rfl), (54, bF rfl), (57, bF rfl), (60, bF rfl), (63, bT h14), (66, bT h14), (69, bT h14), (72, bT h14), (75, bF (not_t h15)), (78, bF (not_t h15)), (81, bF (not_t h15)), (82, ⟨_, _, .len (xs := dIndexs v1.xIdx) dIndexs_len⟩), (84, bF (not_t h15)), (87, bT h14), (88, bF (not_t h15)), (90, bF rfl), (91, bT h14), (94, bF rfl)], by kernel_rfl⟩
               · replace h16 := (cond_f h15).symm.trans h16
                 have he := Option.some.inj h16; subst he; exact ⟨[(12, bF h9), (15, bF h9), (18, bF h9), (21, bF h9), (24, bF h9), (27, uN), (30, uN), (33, uN), (36, uN), (39, uN), (42, bF h9), (46, bF h9), (51, bF rfl), (54, bF rfl), (57, bF rfl), (60, bF rfl), (63, bT h14), (66, bT h14), (69, bT h14), (72, bT h14), (75, bT (not_f h15)), (78, bT (not_f h15)), (81, bT (not_f h15)), (84, bT (not_f h15)), (87, bT h14), (88, bT (not_f h15)), (90, bF rfl), (91, bT h14), (94, bF rfl)], by kernel_rfl⟩
             · replace h16 := (cond_f h14).symm.trans h16
               have he := Option.some.inj h16; subst he; exact ⟨[(12, bF h9), (15, bF h9), (18, bF h9), (21, bF h9), (24, bF h9), (27, uN), (30, uN), (33, uN), (36, uN), (39, uN), (42, bF h9), (46, bF h9), (51, bF rfl), (54, bF rfl), (57, bF rfl), (60, bF rfl), (63, bF h14), (66, bF h14), (69, bF h14), (72, bF h14), (75, uN), (78, uN), (81, uN), (84, uN), (87, bF h14), (90, bF rfl), (91, bF h14), (94, bF rfl)], by kernel_rfl⟩
         · rcases bool_cases v4 with h17 | h17
           · replace hF := (cond_t h17).symm.trans hF
             refine aw_cond_h (t := v4) (by kernel_rfl) h17 ?_
             refine aw_seq ?_
             refine rg [] [(2, (aBool false))] [.cells (aExpr v1).cells] (by kernel_rfl) ?_
             refine aw_ret (at_r ?_)
             have hr := Option.some.inj hF; subst hr; exact ret_ok (by kernel_rfl)
           · replace hF := (cond_f h17).symm.trans hF
             refine aw_cond_g (t := v4) (by kernel_rfl) h17 ?_
             refine aw_skip ?_
             refine at_n ?_
             refine aw_seq ?_
             refine aw_seq ?_
             refine rg [] [(3, (aInt (0 : Int)))] [.cells (aExpr v1).cells] (by kernel_rfl) ?_
             refine aw_block ?_
             refine aw_okB 0 11 (dIndexs v1.xIdx) (by kernel_rfl) fun h18 => ?_
             have h19 : v1.xIdx.length ≤ maxLen := by rw [← dIndexs_len]; exact ok_len h18
             refine aw_loopC [1, 3] 1 (fun ((v5, v6) : Nat × (List IndexD)) => ⟨109, [(1, (.ptr 0 0)), (3, (aInt (v5 : Int)))], [.cells (aExpr v1).cells]⟩) (fun ((v5, v6) : Nat × (List IndexD)) => v1.xIdx.drop v5 = v6 ∧ g_brocaderef14_plain_L1 N v6 v5 = some r) (fun ((v5, v6) : Nat × (List IndexD)) => v6.length) (0, v1.xIdx) (Nat.le_of_ble_eq_true rfl) (by kernel_rfl) ⟨rfl, hF⟩ ?_
             rintro ⟨v5, v6⟩ ⟨h20, hF⟩
             cases v6 with
             | nil =>
              rw [g_brocaderef14_plain_L1] at hF
              refine aw_seq ?_
              refine aw_seq ?_
              refine rg [(10, ⟨_, _, .len (xs := dIndexs v1.xIdx) dIndexs_len⟩)] [(74, (aBool (decide ((v5 : Int) < (v1.xIdx.length : Int)))))] [.cells (aExpr v1).cells] (by kernel_rfl) ?_
              refine aw_cond_g (t := (decide ((v5 : Int) < (v1.xIdx.length : Int)))) (by kernel_rfl) (lt_f h20) ?_
              refine aw_exit (at_e (at_e (ab_y rfl ?_)))
              refine at_n ?_
              refine aw_seq ?_
              refine rg [] [(2, (aBool true))] [.cells (aExpr v1).cells] (by kernel_rfl) ?_
              refine aw_ret ?_
              have hr := Option.some.inj hF; subst hr; exact ret_ok (by kernel_rfl)
             | cons v7 v8 =>
              rw [g_brocaderef14_plain_L1] at hF
              refine aw_seq ?_
              refine aw_seq ?_
              refine rg [(10, ⟨_, _, .len (xs := dIndexs v1.xIdx) dIndexs_len⟩)] [(74, (aBool (decide ((v5 : Int) < (v1.xIdx.length : Int)))))] [.cells (aExpr v1).cells] (by kernel_rfl) ?_
              refine aw_cond_h (t := (decide ((v5 : Int) < (v1.xIdx.length : Int)))) (by kernel_rfl) (lt_t h20) ?_
              refine aw_skip ?_
              refine at_n ?_
              refine aw_seq ?_
              refine aw_block ?_
              refine aw_seq ?_
              refine rg [(10, ⟨_, _, .el (xs := dIndexs v1.xIdx) (i := (v5 : Int)) (Int.natCast_nonneg _) (dIndexs_get (drop_get h20))⟩)] [(4, (.ptr 1 0))] [.cells (aExpr v1).cells, .cells (aIndex v7).cells] (by kernel_rfl) ?_
              refine aw_seq ?_
              obtain ⟨v9, h24, hF⟩ := bind_some hF
              refine rgE [(108, (aBool v9))] [.cells (aExpr v1).cells, .cells (aIndex v7).cells] ?_ ?_
              · rcases bool_cases (bL v7.xFrom == bL (bs [])) with h21 | h21
                · replace h24 := (cond_t h21).symm.trans h24
                  rcases bool_cases (decide ((v7.xAt.length : Int) > (0 : Int))) with h22 | h22
                  · replace h24 := (cond_t h22).symm.trans h24
                    have he := Option.some.inj h24; subst he; exact ⟨[(12, bT h21), (15, bT h21), (18, bT h21), (19, ⟨_, _, .len (xs := dLins v7.xAt) dLins_len⟩), (21, bT h21), (25, bT h21), (30, bT h22), (33, bT h22), (36, bT h22), (39, bT h22), (42, uN), (45, uN), (48, uN), (51, uN), (54, uN), (57, uN), (60, uN), (63, uN), (66, uN), (69, uN), (72, uN), (75, bT h22), (79, bT h22)], by kernel_rfl⟩
                  · replace h24 := (cond_f h22).symm.trans h24
                    have he := Option.some.inj h24; subst he; exact ⟨[(12, bT h21), (15, bT h21), (18, bT h21), (19, ⟨_, _, .len (xs := dLins v7.xAt) dLins_len⟩), (21, bT h21), (25, bT h21), (30, bF h22), (33, bF h22), (36, bF h22), (39, bF h22), (42, bF (not_t h21)), (45, bF (not_t h21)), (48, bF (not_t h21)), (51, bF (not_t h21)), (54, bF (not_t h21)), (57, uN), (60, uN), (63, uN), (66, uN), (69, uN), (72, bF (not_t h21)), (75, bF h22), (76, bF (not_t h21)), (79, bF h22)], by kernel_rfl⟩
                · replace h24 := (cond_f h21).symm.trans h24
                  rcases bool_cases (v7.xLin.xK.toInt != (0 : Int)) with h23 | h23
                  · replace h24 := (cond_t h23).symm.trans h24
                    have he := Option.some.inj h24; subst he; exact ⟨[(12, bF h21), (15, bF h21), (18, bF h21), (21, bF h21), (25, bF h21), (30, bF rfl), (33, bF rfl), (36, bF rfl), (39, bF rfl), (42, bT (not_f h21)), (45, bT (not_f h21)), (48, bT (not_f h21)), (51, bT (not_f h21)), (54, bT (not_f h21)), (57, bT h23), (60, bT h23), (63, bT h23), (66, bT h23), (69, bT h23), (72, bT (not_f h21)), (73, bT h23), (75, bF rfl), (76, bT (not_f h21)), (79, bF rfl)], by kernel_rfl⟩
                  · replace h24 := (cond_f h23).symm.trans h24
                    have he := Option.some.inj h24; subst he; exact ⟨[(12, bF h21), (15, bF h21), (18, bF h21), (21, bF h21), (25, bF h21), (30, bF rfl), (33, bF rfl), (36, bF rfl), (39, bF rfl), (42, bT (not_f h21)), (45, bT (not_f h21)), (48, bT (not_f h21)), (51, bT (not_f h21)), (54, bT (not_f h21)), (57, bF h23), (60, bF h23), (63, bF h23), (66, bF h23), (67, ⟨_, _, .len (xs := dMonos v7.xLin.xL) dMonos_len⟩), (69, bF h23), (72, bT (not_f h21)), (73, bF h23), (75, bF rfl), (76, bT (not_f h21)), (79, bF rfl)], by kernel_rfl⟩
              · rcases bool_cases v9 with h25 | h25
                · replace hF := (cond_t h25).symm.trans hF
                  refine aw_cond_h (t := v9) (by kernel_rfl) h25 ?_
                  refine aw_seq ?_
                  refine rg [] [(2, (aBool false))] [.cells (aExpr v1).cells, .cells (aIndex v7).cells] (by kernel_rfl) ?_
                  refine aw_ret (ab_r (at_r (at_r (ab_r (at_r ?_)))))
                  have hr := Option.some.inj hF; subst hr; exact ret_ok (by kernel_rfl)
                · replace hF := (cond_f h25).symm.trans hF
                  refine aw_cond_g (t := v9) (by kernel_rfl) h25 ?_
                  refine aw_skip ?_
                  refine ab_n ?_
                  refine at_n ?_
                  refine re [(5, ⟨_, _, .eq (wrap_nx h20 rfl h19)⟩)] [(3, (aInt ((v5 + 1 : Nat) : Int))), (76, (aInt ((v5 + 1 : Nat) : Int))), (75, (aInt (v5 : Int)))] [.cells (aExpr v1).cells, .cells (aIndex v7).cells] (by kernel_rfl) ?_
                  refine at_n ?_
                  exact ⟨(v5 + 1, v8), by kernel_rfl, ⟨drop_nx h20, hF⟩, Nat.lt_succ_self _⟩
def g_brocadebase_Words (N : Nat) : Option ((List ByteArray)) :=
 some [(bs [115, 105, 122, 101]), (bs [119, 104, 101, 114, 101]), (bs [105, 110]), (bs [100, 101, 102]), (bs [111, 117, 116]), (bs [115, 117, 109]), (bs [112, 114, 111, 100]), (bs [109, 105, 110]), (bs [109, 97, 120]), (bs [115, 99, 97, 110]), (bs [111, 118, 101, 114]), (bs [105, 102]), (bs [99, 97, 115, 116]), (bs [102, 114, 97, 99]), (bs [105, 110, 116]), (bs [102, 105, 120]), (bs [99, 101, 105, 108]), (bs [102, 108, 111, 111, 114]), (bs [122, 101, 114, 111]), (bs [101, 118, 101, 110]), (bs [115, 97, 116]), (bs [119, 114, 97, 112])]
theorem g_brocadebase_Words_ok (N : Nat) (r : (List ByteArray)) (hF : g_brocadebase_Words N = some r) : AFn Tryz.prog 228 [] (· = (.d (.sl (dStrs r)))) := by
 rw [g_brocadebase_Words] at hF
 refine afn_of Tryz.func228 rfl (by kernel_rfl) ?_
 refine aw_cut [] 0 (Nat.le_refl _) (s' := ⟨2, [], []⟩) (by kernel_rfl) ?_
 refine aw_seq ?_
 refine rg [] [] [] (by kernel_rfl) ?_
 refine aw_seq ?_
 refine rg [] [(0, (.full (dStrs [(bs [115, 105, 122, 101]), (bs [119, 104, 101, 114, 101]), (bs [105, 110]), (bs [100, 101, 102]), (bs [111, 117, 116]), (bs [115, 117, 109]), (bs [112, 114, 111, 100]), (bs [109, 105, 110]), (bs [109, 97, 120]), (bs [115, 99, 97, 110]), (bs [111, 118, 101, 114]), (bs [105, 102]), (bs [99, 97, 115, 116]), (bs [102, 114, 97, 99]), (bs [105, 110, 116]), (bs [102, 105, 120]), (bs [99, 101, 105, 108]), (bs [102, 108, 111, 111, 114]), (bs [122, 101, 114, 111]), (bs [101, 118, 101, 110]), (bs [115, 97, 116]), (bs [119, 114, 97, 112])])))] [] (by kernel_rfl) ?_
 refine aw_ret ?_
 have hr := Option.some.inj hF; subst hr; exact ret_ok (by kernel_rfl)
def g_brocadebase_Has_L1 (N : Nat) (v2 : ByteArray) : List ByteArray → Nat → Option Bool
 | [], _ =>
  some false
 | v5 :: v6, v3 =>
  bif (bL v5 == bL v2) then
   some true
  else
   (g_brocadebase_Has_L1 N v2 v6 (v3 + 1))
def g_brocadebase_Has (N : Nat) (v1 : List ByteArray) (v2 : ByteArray) : Option Bool :=
 g_brocadebase_Has_L1 N v2 v1 0
theorem g_brocadebase_Has_ok (N : Nat) (v1 : List ByteArray) (v2 : ByteArray) (r : Bool) (hF : g_brocadebase_Has N v1 v2 = some r) : AFn Tryz.prog 87 [(.d (.sl (dStrs v1))), (aStr v2)] (· = (aBool r)) := by
 rw [g_brocadebase_Has] at hF
 refine afn_of Tryz.func87 rfl (by kernel_rfl) ?_
 refine aw_cut [0, 1] 0 (Nat.le_refl _) (s' := ⟨18, [(0, (.d (.sl (dStrs v1)))), (1, (aStr v2))], []⟩) (by kernel_rfl) ?_
 refine aw_seq ?_
 refine rg [] [] [] (by kernel_rfl) ?_
 refine aw_seq ?_
 refine aw_seq ?_
 refine rg [] [(5, (aInt (0 : Int)))] [] (by kernel_rfl) ?_
 refine aw_block ?_
 refine aw_okT 0 (dStrs v1) (by kernel_rfl) fun h1 => ?_
 have h2 : v1.length ≤ maxLen := by rw [← dStrs_len]; exact ok_len h1
 refine aw_loopC [0, 1, 5] 0 (fun ((v3, v4) : Nat × (List ByteArray)) => ⟨18, [(0, (.d (.sl (dStrs v1)))), (1, (aStr v2)), (5, (aInt (v3 : Int)))], []⟩) (fun ((v3, v4) : Nat × (List ByteArray)) => v1.drop v3 = v4 ∧ g_brocadebase_Has_L1 N v2 v4 v3 = some r) (fun ((v3, v4) : Nat × (List ByteArray)) => v4.length) (0, v1) (Nat.le_of_ble_eq_true rfl) (by kernel_rfl) ⟨rfl, hF⟩ ?_
 rintro ⟨v3, v4⟩ ⟨h3, hF⟩
 cases v4 with
 | nil =>
  rw [g_brocadebase_Has_L1] at hF
  refine aw_seq ?_
  refine aw_seq ?_
  refine rg [(7, ⟨_, _, .len (xs := dStrs v1) dStrs_len⟩)] [(9, (aBool (decide ((v3 : Int) < (v1.length : Int)))))] [] (by kernel_rfl) ?_
  refine aw_cond_g (t := (decide ((v3 : Int) < (v1.length : Int)))) (by kernel_rfl) (lt_f h3) ?_
  refine aw_exit (at_e (at_e (ab_y rfl ?_)))
  refine at_n ?_
  refine aw_seq ?_
  refine rg [] [(4, (aBool false))] [] (by kernel_rfl) ?_
  refine aw_ret ?_
  have hr := Option.some.inj hF; subst hr; exact ret_ok (by kernel_rfl)
 | cons v5 v6 =>
  rw [g_brocadebase_Has_L1] at hF
  refine aw_seq ?_
  refine aw_seq ?_
  refine rg [(7, ⟨_, _, .len (xs := dStrs v1) dStrs_len⟩)] [(9, (aBool (decide ((v3 : Int) < (v1.length : Int)))))] [] (by kernel_rfl) ?_
  refine aw_cond_h (t := (decide ((v3 : Int) < (v1.length : Int)))) (by kernel_rfl) (lt_t h3) ?_
  refine aw_skip ?_
  refine at_n ?_
  refine aw_seq ?_
  refine aw_block ?_
  refine aw_seq ?_
  refine rg [(7, ⟨_, _, .el (xs := dStrs v1) (i := (v3 : Int)) (Int.natCast_nonneg _) (dStrs_get (drop_get h3))⟩)] [(17, (aBool (bL v5 == bL v2)))] [] (by kernel_rfl) ?_
  rcases bool_cases (bL v5 == bL v2) with h4 | h4
  · replace hF := (cond_t h4).symm.trans hF
    refine aw_cond_h (t := (bL v5 == bL v2)) (by kernel_rfl) h4 ?_
    refine aw_seq ?_
    refine rg [] [(4, (aBool true))] [] (by kernel_rfl) ?_
    refine aw_ret (ab_r (at_r (at_r (ab_r (at_r ?_)))))
    have hr := Option.some.inj hF; subst hr; exact ret_ok (by kernel_rfl)
  · replace hF := (cond_f h4).symm.trans hF
    refine aw_cond_g (t := (bL v5 == bL v2)) (by kernel_rfl) h4 ?_
    refine aw_skip ?_
    refine ab_n ?_
    refine at_n ?_
    refine re [(5, ⟨_, _, .eq (wrap_nx h3 rfl h2)⟩)] [(5, (aInt ((v3 + 1 : Nat) : Int))), (11, (aInt ((v3 + 1 : Nat) : Int))), (10, (aInt (v3 : Int)))] [] (by kernel_rfl) ?_
    refine at_n ?_
    exact ⟨(v3 + 1, v6), by kernel_rfl, ⟨drop_nx h3, hF⟩, Nat.lt_succ_self _⟩
def g_brocadebase_Name_L1 (N : Nat) (v1 : ByteArray) : Nat → Int → Option Bool
 | 0, _ => none
 | v5 + 1, v6 =>
  bif (decide (v6 < (v1.size : Int))) then
   bif (decide ((0 : Int) ≤ v6)) then
   Option.bind (v1[(v6).toNat]?) fun v7 =>
   Option.bind (bif (decide ((v7.toNat : Int) ≥ (97 : Int))) then (bif (decide ((v7.toNat : Int) ≤ (122 : Int))) then some (!true) else (bif (decide (v6 > (0 : Int))) then (bif (decide ((v7.toNat : Int) ≥ (48 : Int))) then (bif (decide ((v7.toNat : Int) ≤ (57 : Int))) then some (!true) else some (!((v7.toNat : Int) == (95 : Int)))) else some (!((v7.toNat : Int) == (95 : Int)))) else some (!false))) else (bif (decide (v6 > (0 : Int))) then (bif (decide ((v7.toNat : Int) ≥ (48 : Int))) then (bif (decide ((v7.toNat : Int) ≤ (57 : Int))) then some (!true) else some (!((v7.toNat : Int) == (95 : Int)))) else some (!((v7.toNat : Int) == (95 : Int)))) else some (!false))) fun v8 =>
   bif v8 then
    some false
   else
    (fun b1_0 => g_brocadebase_Name_L1 N v1 v5 b1_0) (w64 (v6 + (1 : Int)))
   else none
  else
   some true
def g_brocadebase_Name (N : Nat) (v1 : ByteArray) : Option Bool :=
 Option.bind (bif (decide ((v1.size : Int) < (1 : Int))) then some true else (bif (decide ((v1.size : Int) > (16 : Int))) then some true else Option.bind (g_brocadebase_Words N) fun v2 =>
 Option.bind (g_brocadebase_Has N v2 v1) fun v3 =>
 some v3)) fun v4 =>
 bif v4 then
  some false
 else
  g_brocadebase_Name_L1 N v1 N (0 : Int)
theorem g_brocadebase_Name_ok (N : Nat) (v1 : ByteArray) (r : Bool) (hF : g_brocadebase_Name N v1 = some r) : AFn Tryz.prog 181 [(aStr v1)] (· = (aBool r)) := by
 rw [g_brocadebase_Name] at hF
 refine afn_of Tryz.func181 rfl (by kernel_rfl) ?_
 refine aw_cut [0] 0 (Nat.le_refl _) (s' := ⟨50, [(0, (aStr v1))], []⟩) (by kernel_rfl) ?_
 refine aw_seq ?_
 refine rg [] [] [] (by kernel_rfl) ?_
 refine aw_seq ?_
 refine aw_seq ?_
 obtain ⟨v4, h5, hF⟩ := bind_some hF
 refine rgE [(17, (aBool v4))] [] ?_ ?_
 · rcases bool_cases (decide ((v1.size : Int) < (1 : Int))) with h1 | h1
   · replace h5 := (cond_t h1).symm.trans h5
     have he := Option.some.inj h5; subst he; exact ⟨[(12, bT h1), (15, bT h1), (18, bT h1), (22, bT h1), (27, bT rfl), (30, bT rfl), (33, bT rfl), (37, bT rfl)], by kernel_rfl⟩
   · replace h5 := (cond_f h1).symm.trans h5
     rcases bool_cases (decide ((v1.size : Int) > (16 : Int))) with h2 | h2
     · replace h5 := (cond_t h2).symm.trans h5
       have he := Option.some.inj h5; subst he; exact ⟨[(12, bF h1), (15, bF h1), (18, bF h1), (22, bF h1), (27, bT h2), (30, bT h2), (33, bT h2), (37, bT h2)], by kernel_rfl⟩
     · replace h5 := (cond_f h2).symm.trans h5
       obtain ⟨v2, h3, h5⟩ := bind_some h5
       obtain ⟨v3, h4, h5⟩ := bind_some h5
       have he := Option.some.inj h5; subst he; exact ⟨[(12, bF h1), (15, bF h1), (18, bF h1), (22, bF h1), (27, bF h2), (28, cL (g_brocadebase_Words_ok N v2 h3)), (30, bF h2), (33, bF h2), (34, cL (g_brocadebase_Has_ok N v2 v1 v3 h4)), (37, bF h2)], by kernel_rfl⟩
 · rcases bool_cases v4 with h6 | h6
   · replace hF := (cond_t h6).symm.trans hF
     refine aw_cond_h (t := v4) (by kernel_rfl) h6 ?_
     refine aw_seq ?_
     refine rg [] [(2, (aBool false))] [] (by kernel_rfl) ?_
     refine aw_ret (at_r ?_)
     have hr := Option.some.inj hF; subst hr; exact ret_ok (by kernel_rfl)
   · replace hF := (cond_f h6).symm.trans hF
     refine aw_cond_g (t := v4) (by kernel_rfl) h6 ?_
     refine aw_skip ?_
     refine at_n ?_
     refine aw_seq ?_
     refine aw_seq ?_
     refine rg [] [(3, (aInt (0 : Int)))] [] (by kernel_rfl) ?_
     refine aw_block ?_
     refine aw_loopC [0, 3] 0 (fun ((v5, v6) : Nat × Int) => ⟨50, [(0, (aStr v1)), (3, (aInt v6))], []⟩) (fun ((v5, v6) : Nat × Int) => g_brocadebase_Name_L1 N v1 v5 v6 = some r) (fun ((v5, v6) : Nat × Int) => v5) (N, (0 : Int)) (Nat.le_of_ble_eq_true rfl) (by kernel_rfl) hF ?_
     rintro ⟨v5, v6⟩ hF
     try dsimp only at hF
     cases v5 with
     | zero =>
      rw [g_brocadebase_Name_L1] at hF
      cases hF
     | succ v5 =>
      rw [g_brocadebase_Name_L1] at hF
      refine aw_seq ?_
      refine aw_seq ?_
      refine rg [] [(21, (aBool (decide (v6 < (v1.size : Int)))))] [] (by kernel_rfl) ?_
      rcases bool_cases (decide (v6 < (v1.size : Int))) with h7 | h7
      · replace hF := (cond_t h7).symm.trans hF
        refine aw_cond_h (t := (decide (v6 < (v1.size : Int)))) (by kernel_rfl) h7 ?_
        refine aw_skip ?_
        refine at_n ?_
        refine aw_seq ?_
        refine aw_block ?_
        refine aw_seq ?_
        have h9 := chk_t hF
        replace hF := (cond_t h9).symm.trans hF
        obtain ⟨v7, h8, hF⟩ := bind_some hF
        refine rg [(7, ⟨_, _, .ch (i := v6) (of_decide_eq_true h9) h8⟩)] [(4, (.d (.v (.int .u8 (v7.toNat : Int)))))] [] (by kernel_rfl) ?_
        refine aw_seq ?_
        obtain ⟨v8, h18, hF⟩ := bind_some hF
        refine rgE [(49, (aBool v8))] [] ?_ ?_
        · rcases bool_cases (decide ((v7.toNat : Int) ≥ (97 : Int))) with h10 | h10
          · replace h18 := (cond_t h10).symm.trans h18
            rcases bool_cases (decide ((v7.toNat : Int) ≤ (122 : Int))) with h11 | h11
            · replace h18 := (cond_t h11).symm.trans h18
              have he := Option.some.inj h18; subst he; exact ⟨[(9, bT h10), (12, bT h10), (16, bT h10), (21, bT h11), (24, bT h11), (27, bT h11), (30, uN), (33, uN), (36, uN), (39, uN), (42, uN), (45, uN), (48, uN), (51, uN), (54, uN), (57, uN), (60, bT h11), (64, bT h11)], by kernel_rfl⟩
            · replace h18 := (cond_f h11).symm.trans h18
              rcases bool_cases (decide (v6 > (0 : Int))) with h12 | h12
              · replace h18 := (cond_t h12).symm.trans h18
                rcases bool_cases (decide ((v7.toNat : Int) ≥ (48 : Int))) with h13 | h13
                · replace h18 := (cond_t h13).symm.trans h18
                  rcases bool_cases (decide ((v7.toNat : Int) ≤ (57 : Int))) with h14 | h14
                  · replace h18 := (cond_t h14).symm.trans h18
                    have he := Option.some.inj h18; subst he; exact ⟨[(9, bT h10), (12, bT h10), (16, bT h10), (21, bF h11), (24, bF h11), (27, bF h11), (30, bT h12), (33, bT h12), (36, bT h12), (39, bT h13), (42, bT h13), (45, bT h12), (46, bT h13), (48, bT h12), (51, bT h14), (54, bT h14), (57, bT h12), (58, bT h14), (60, bF h11), (61, bT h12), (64, bF h11)], by kernel_rfl⟩
                  · replace h18 := (cond_f h14).symm.trans h18
                    have he := Option.some.inj h18; subst he; exact ⟨[(9, bT h10), (12, bT h10), (16, bT h10), (21, bF h11), (24, bF h11), (27, bF h11), (30, bT h12), (33, bT h12), (36, bT h12), (39, bT h13), (42, bT h13), (45, bT h12), (46, bT h13), (48, bT h12), (51, bF h14), (54, bF h14), (57, bT h12), (58, bF h14), (60, bF h11), (61, bT h12), (64, bF h11)], by kernel_rfl⟩
                · replace h18 := (cond_f h13).symm.trans h18
                  have he := Option.some.inj h18; subst he; exact ⟨[(9, bT h10), (12, bT h10), (16, bT h10), (21, bF h11), (24, bF h11), (27, bF h11), (30, bT h12), (33, bT h12), (36, bT h12), (39, bF h13), (42, bF h13), (45, bT h12), (46, bF h13), (48, bT h12), (51, bF rfl), (54, bF rfl), (57, bT h12), (58, bF rfl), (60, bF h11), (61, bT h12), (64, bF h11)], by kernel_rfl⟩
              · replace h18 := (cond_f h12).symm.trans h18
                have he := Option.some.inj h18; subst he; exact ⟨[(9, bT h10), (12, bT h10), (16, bT h10), (21, bF h11), (24, bF h11), (27, bF h11), (30, bF h12), (33, bF h12), (36, bF h12), (39, uN), (42, uN), (45, bF h12), (48, bF h12), (51, uN), (54, uN), (57, bF h12), (60, bF h11), (61, bF h12), (64, bF h11)], by kernel_rfl⟩
          · replace h18 := (cond_f h10).symm.trans h18
            rcases bool_cases (decide (v6 > (0 : Int))) with h15 | h15
            · replace h18 := (cond_t h15).symm.trans h18
              rcases bool_cases (decide ((v7.toNat : Int) ≥ (48 : Int))) with h16 | h16
              · replace h18 := (cond_t h16).symm.trans h18
                rcases bool_cases (decide ((v7.toNat : Int) ≤ (57 : Int))) with h17 | h17
                · replace h18 := (cond_t h17).symm.trans h18
                  have he := Option.some.inj h18; subst he; exact ⟨[(9, bF h10), (12, bF h10), (16, bF h10), (21, bF rfl), (24, bF rfl), (27, bF rfl), (30, bT h15), (33, bT h15), (36, bT h15), (39, bT h16), (42, bT h16), (45, bT h15), (46, bT h16), (48, bT h15), (51, bT h17), (54, bT h17), (57, bT h15), (58, bT h17), (60, bF rfl), (61, bT h15), (64, bF rfl)], by kernel_rfl⟩
                · replace h18 := (cond_f h17).symm.trans h18
                  have he := Option.some.inj h18; subst he; exact ⟨[(9, bF h10), (12, bF h10), (16, bF h10), (21, bF rfl), (24, bF rfl), (27, bF rfl), (30, bT h15), (33, bT h15), (36, bT h15), (39, bT h16), (42, bT h16), (45, bT h15), (46, bT h16), (48, bT h15), (51, bF h17), (54, bF h17), (57, bT h15), (58, bF h17), (60, bF rfl), (61, bT h15), (64, bF rfl)], by kernel_rfl⟩
              · replace h18 := (cond_f h16).symm.trans h18
                have he := Option.some.inj h18; subst he; exact ⟨[(9, bF h10), (12, bF h10), (16, bF h10), (21, bF rfl), (24, bF rfl), (27, bF rfl), (30, bT h15), (33, bT h15), (36, bT h15), (39, bF h16), (42, bF h16), (45, bT h15), (46, bF h16), (48, bT h15), (51, bF rfl), (54, bF rfl), (57, bT h15), (58, bF rfl), (60, bF rfl), (61, bT h15), (64, bF rfl)], by kernel_rfl⟩
            · replace h18 := (cond_f h15).symm.trans h18
              have he := Option.some.inj h18; subst he; exact ⟨[(9, bF h10), (12, bF h10), (16, bF h10), (21, bF rfl), (24, bF rfl), (27, bF rfl), (30, bF h15), (33, bF h15), (36, bF h15), (39, uN), (42, uN), (45, bF h15), (48, bF h15), (51, uN), (54, uN), (57, bF h15), (60, bF rfl), (61, bF h15), (64, bF rfl)], by kernel_rfl⟩
        · rcases bool_cases v8 with h19 | h19
          · replace hF := (cond_t h19).symm.trans hF
            refine aw_cond_h (t := v8) (by kernel_rfl) h19 ?_
            refine aw_seq ?_
            refine rg [] [(2, (aBool false))] [] (by kernel_rfl) ?_
            refine aw_ret (ab_r (at_r (at_r (ab_r (at_r ?_)))))
            have hr := Option.some.inj hF; subst hr; exact ret_ok (by kernel_rfl)
          · replace hF := (cond_f h19).symm.trans hF
            refine aw_cond_g (t := v8) (by kernel_rfl) h19 ?_
            refine aw_skip ?_
            refine ab_n ?_
            refine at_n ?_
            refine re [] [(3, (aInt (w64 (v6 + (1 : Int))))), (23, (aInt (w64 (v6 + (1 : Int))))), (22, (aInt v6))] [] (by kernel_rfl) ?_
            refine at_n ?_
            exact ⟨(v5, (w64 (v6 + (1 : Int)))), by kernel_rfl, hF, Nat.lt_succ_self _⟩
      · replace hF := (cond_f h7).symm.trans hF
        refine aw_cond_g (t := (decide (v6 < (v1.size : Int)))) (by kernel_rfl) h7 ?_
        refine aw_exit (at_e (at_e (ab_y rfl ?_)))
        refine at_n ?_
        refine aw_seq ?_
        refine rg [] [(2, (aBool true))] [] (by kernel_rfl) ?_
        refine aw_ret ?_
        have hr := Option.some.inj hF; subst hr; exact ret_ok (by kernel_rfl)
def g_brocaderef14_named_L1 (N : Nat) : List IndexD → Nat → Option Bool
 | [], _ =>
  some true
 | v6 :: v7, v4 =>
  Option.bind (bif (bL v6.xFrom == bL (bs [])) then some false else Option.bind (g_brocadebase_Name N v6.xFrom) fun v8 =>
  some (!v8)) fun v9 =>
  bif v9 then
   some false
  else
   (g_brocaderef14_named_L1 N v7 (v4 + 1))
def g_brocaderef14_named (N : Nat) (v1 : ExprD) : Option Bool :=
 Option.bind (bif (v1.xOp == (3 : Int)) then Option.bind (g_brocadebase_Name N v1.xName) fun v2 =>
 some (!v2) else some false) fun v3 =>
 bif v3 then
  some false
 else
  g_brocaderef14_named_L1 N v1.xIdx 0
theorem g_brocaderef14_named_ok (N : Nat) (v1 : ExprD) (r : Bool) (hF : g_brocaderef14_named N v1 = some r) : AFn Tryz.prog 118 [(aExpr v1)] (· = (aBool r)) := by
 rw [g_brocaderef14_named] at hF
 refine afn_of Tryz.func118 rfl (by kernel_rfl) ?_
 refine aw_cut [0] 0 (Nat.le_refl _) (s' := ⟨37, [(0, (aExpr v1))], []⟩) (by kernel_rfl) ?_
 refine aw_seq ?_
 refine rg [] [(1, (.ptr 0 0))] [.cells (aExpr v1).cells] (by kernel_rfl) ?_
 refine aw_seq ?_
 refine aw_seq ?_
 obtain ⟨v3, h3, hF⟩ := bind_some hF
 refine rgE [(12, (aBool v3))] [.cells (aExpr v1).cells] ?_ ?_
 · rcases bool_cases (v1.xOp == (3 : Int)) with h1 | h1
   · replace h3 := (cond_t h1).symm.trans h3
     obtain ⟨v2, h2, h3⟩ := bind_some h3
     have he := Option.some.inj h3; subst he; exact ⟨[(12, bT h1), (15, bT h1), (18, bT h1), (19, cL (g_brocadebase_Name_ok N v1.xName v2 h2)), (21, bT h1), (25, bT h1)], by kernel_rfl⟩
   · replace h3 := (cond_f h1).symm.trans h3
     have he := Option.some.inj h3; subst he; exact ⟨[(12, bF h1), (15, bF h1), (18, bF h1), (21, bF h1), (25, bF h1)], by kernel_rfl⟩
 · rcases bool_cases v3 with h4 | h4
   · replace hF := (cond_t h4).symm.trans hF
     refine aw_cond_h (t := v3) (by kernel_rfl) h4 ?_
     refine aw_seq ?_
     refine rg [] [(2, (aBool false))] [.cells (aExpr v1).cells] (by kernel_rfl) ?_
     refine aw_ret (at_r ?_)
     have hr := Option.some.inj hF; subst hr; exact ret_ok (by kernel_rfl)
   · replace hF := (cond_f h4).symm.trans hF
     refine aw_cond_g (t := v3) (by kernel_rfl) h4 ?_
     refine aw_skip ?_
     refine at_n ?_
     refine aw_seq ?_
     refine aw_seq ?_
     refine rg [] [(3, (aInt (0 : Int)))] [.cells (aExpr v1).cells] (by kernel_rfl) ?_
     refine aw_block ?_
     refine aw_okB 0 11 (dIndexs v1.xIdx) (by kernel_rfl) fun h5 => ?_
     have h6 : v1.xIdx.length ≤ maxLen := by rw [← dIndexs_len]; exact ok_len h5
     refine aw_loopC [1, 3] 1 (fun ((v4, v5) : Nat × (List IndexD)) => ⟨37, [(1, (.ptr 0 0)), (3, (aInt (v4 : Int)))], [.cells (aExpr v1).cells]⟩) (fun ((v4, v5) : Nat × (List IndexD)) => v1.xIdx.drop v4 = v5 ∧ g_brocaderef14_named_L1 N v5 v4 = some r) (fun ((v4, v5) : Nat × (List IndexD)) => v5.length) (0, v1.xIdx) (Nat.le_of_ble_eq_true rfl) (by kernel_rfl) ⟨rfl, hF⟩ ?_
     rintro ⟨v4, v5⟩ ⟨h7, hF⟩
     cases v5 with
     | nil =>
      rw [g_brocaderef14_named_L1] at hF
      refine aw_seq ?_
      refine aw_seq ?_
      refine rg [(10, ⟨_, _, .len (xs := dIndexs v1.xIdx) dIndexs_len⟩)] [(17, (aBool (decide ((v4 : Int) < (v1.xIdx.length : Int)))))] [.cells (aExpr v1).cells] (by kernel_rfl) ?_
      refine aw_cond_g (t := (decide ((v4 : Int) < (v1.xIdx.length : Int)))) (by kernel_rfl) (lt_f h7) ?_
      refine aw_exit (at_e (at_e (ab_y rfl ?_)))
      refine at_n ?_
      refine aw_seq ?_
      refine rg [] [(2, (aBool true))] [.cells (aExpr v1).cells] (by kernel_rfl) ?_
      refine aw_ret ?_
      have hr := Option.some.inj hF; subst hr; exact ret_ok (by kernel_rfl)
     | cons v6 v7 =>
      rw [g_brocaderef14_named_L1] at hF
      refine aw_seq ?_
      refine aw_seq ?_
      refine rg [(10, ⟨_, _, .len (xs := dIndexs v1.xIdx) dIndexs_len⟩)] [(17, (aBool (decide ((v4 : Int) < (v1.xIdx.length : Int)))))] [.cells (aExpr v1).cells] (by kernel_rfl) ?_
      refine aw_cond_h (t := (decide ((v4 : Int) < (v1.xIdx.length : Int)))) (by kernel_rfl) (lt_t h7) ?_
      refine aw_skip ?_
      refine at_n ?_
      refine aw_seq ?_
      refine aw_block ?_
      refine aw_seq ?_
      obtain ⟨v9, h10, hF⟩ := bind_some hF
      refine rgE [(36, (aBool v9))] [.cells (aExpr v1).cells] ?_ ?_
      · rcases bool_cases (bL v6.xFrom == bL (bs [])) with h8 | h8
        · replace h10 := (cond_t h8).symm.trans h10
          have he := Option.some.inj h10; subst he; exact ⟨[(10, ⟨_, _, .el (xs := dIndexs v1.xIdx) (i := (v4 : Int)) (Int.natCast_nonneg _) (dIndexs_get (drop_get h7))⟩), (24, bF (not_t h8)), (27, bF (not_t h8)), (30, bF (not_t h8)), (33, bF (not_t h8)), (36, bF (not_t h8)), (39, bF (not_t h8)), (42, bF (not_t h8)), (45, bF (not_t h8)), (49, bF (not_t h8))], by kernel_rfl⟩
        · replace h10 := (cond_f h8).symm.trans h10
          obtain ⟨v8, h9, h10⟩ := bind_some h10
          have he := Option.some.inj h10; subst he; exact ⟨[(10, ⟨_, _, .el (xs := dIndexs v1.xIdx) (i := (v4 : Int)) (Int.natCast_nonneg _) (dIndexs_get (drop_get h7))⟩), (24, bT (not_f h8)), (27, bT (not_f h8)), (30, bT (not_f h8)), (33, bT (not_f h8)), (34, ⟨_, _, .el (xs := dIndexs v1.xIdx) (i := (v4 : Int)) (Int.natCast_nonneg _) (dIndexs_get (drop_get h7))⟩), (36, bT (not_f h8)), (39, bT (not_f h8)), (42, bT (not_f h8)), (43, cL (g_brocadebase_Name_ok N v6.xFrom v8 h9)), (45, bT (not_f h8)), (49, bT (not_f h8))], by kernel_rfl⟩
      · rcases bool_cases v9 with h11 | h11
        · replace hF := (cond_t h11).symm.trans hF
          refine aw_cond_h (t := v9) (by kernel_rfl) h11 ?_
          refine aw_seq ?_
          refine rg [] [(2, (aBool false))] [.cells (aExpr v1).cells] (by kernel_rfl) ?_
          refine aw_ret (ab_r (at_r (at_r (ab_r (at_r ?_)))))
          have hr := Option.some.inj hF; subst hr; exact ret_ok (by kernel_rfl)
        · replace hF := (cond_f h11).symm.trans hF
          refine aw_cond_g (t := v9) (by kernel_rfl) h11 ?_
          refine aw_skip ?_
          refine ab_n ?_
          refine at_n ?_
          refine re [(5, ⟨_, _, .eq (wrap_nx h7 rfl h6)⟩)] [(3, (aInt ((v4 + 1 : Nat) : Int))), (19, (aInt ((v4 + 1 : Nat) : Int))), (18, (aInt (v4 : Int)))] [.cells (aExpr v1).cells] (by kernel_rfl) ?_
          refine at_n ?_
          exact ⟨(v4 + 1, v7), by kernel_rfl, ⟨drop_nx h7, hF⟩, Nat.lt_succ_self _⟩
def g_brocaderef14_args_J2 (N : Nat) (v1 : Int) (v3 : Bool) : Option Int :=
 bif v3 then
  some (1 : Int)
 else
  bif (v1 == (11 : Int)) then
   some (3 : Int)
  else
   some (2 : Int)
def g_brocaderef14_args_J1 (N : Nat) (v1 : Int) (v2 : Bool) : Option Int :=
 bif v2 then
  some (0 : Int)
 else
  bif (v1 == (8 : Int)) then
   g_brocaderef14_args_J2 N v1 (v1 == (8 : Int))
  else
   bif (v1 == (12 : Int)) then
    g_brocaderef14_args_J2 N v1 (v1 == (12 : Int))
   else
    g_brocaderef14_args_J2 N v1 (v1 == (18 : Int))
def g_brocaderef14_args (N : Nat) (v1 : Int) : Option Int :=
 bif (v1 == (1 : Int)) then
  g_brocaderef14_args_J1 N v1 (v1 == (1 : Int))
 else
  bif (v1 == (2 : Int)) then
   g_brocaderef14_args_J1 N v1 (v1 == (2 : Int))
  else
   g_brocaderef14_args_J1 N v1 (v1 == (3 : Int))
theorem g_brocaderef14_args_ok (N : Nat) (v1 : Int) (r : Int) (hF : g_brocaderef14_args N v1 = some r) : AFn Tryz.prog 182 [(aInt v1)] (· = (aInt r)) := by
 rw [g_brocaderef14_args] at hF
 refine afn_of Tryz.func182 rfl (by kernel_rfl) ?_
 refine aw_cut [0] 0 (Nat.le_refl _) (s' := ⟨14, [(0, (aInt v1))], []⟩) (by kernel_rfl) ?_
 refine aw_seq ?_
 refine rg [] [] [] (by kernel_rfl) ?_
 refine aw_seq ?_
 refine aw_seq ?_
 refine rg [] [(3, (aInt v1))] [] (by kernel_rfl) ?_
 refine aw_block ?_
 refine aw_seq ?_
 refine aw_seq ?_
 refine rg [] [(4, (aBool (v1 == (1 : Int))))] [] (by kernel_rfl) ?_
 refine aw_joinC [3, 4] 0 (fun (v2 : Bool) => ⟨14, [(3, (aInt v1)), (4, (aBool v2))], []⟩) (fun (v2 : Bool) => g_brocaderef14_args_J1 N v1 v2 = some r) (Nat.le_of_ble_eq_true rfl) ?_ ?_
 · rcases bool_cases (v1 == (1 : Int)) with h6 | h6
   · replace hF := (cond_t h6).symm.trans hF
     refine aw_cond_h (t := (v1 == (1 : Int))) (by kernel_rfl) h6 ?_
     refine aw_skip ?_
     refine at_n ?_
     exact ⟨(v1 == (1 : Int)), by kernel_rfl, hF⟩
   · replace hF := (cond_f h6).symm.trans hF
     refine aw_cond_g (t := (v1 == (1 : Int))) (by kernel_rfl) h6 ?_
     refine aw_seq ?_
     refine rg [] [(4, (aBool (v1 == (2 : Int))))] [] (by kernel_rfl) ?_
     rcases bool_cases (v1 == (2 : Int)) with h7 | h7
     · replace hF := (cond_t h7).symm.trans hF
       refine aw_cond_h (t := (v1 == (2 : Int))) (by kernel_rfl) h7 ?_
       refine aw_skip ?_
       refine at_n ?_
       exact ⟨(v1 == (2 : Int)), by kernel_rfl, hF⟩
     · replace hF := (cond_f h7).symm.trans hF
       refine aw_cond_g (t := (v1 == (2 : Int))) (by kernel_rfl) h7 ?_
       refine re [] [(4, (aBool (v1 == (3 : Int)))), (7, (aBool (v1 == (3 : Int))))] [] (by kernel_rfl) ?_
       refine at_n ?_
       exact ⟨(v1 == (3 : Int)), by kernel_rfl, hF⟩
 · rintro v2 hF
   try dsimp only at hF
   rw [g_brocaderef14_args_J1] at hF
   rcases bool_cases v2 with h1 | h1
   · replace hF := (cond_t h1).symm.trans hF
     refine aw_cond_h (t := v2) (by kernel_rfl) h1 ?_
     refine aw_seq ?_
     refine rg [] [(2, (aInt (0 : Int)))] [] (by kernel_rfl) ?_
     refine aw_ret (ab_r (at_r ?_))
     have hr := Option.some.inj hF; subst hr; exact ret_ok (by kernel_rfl)
   · replace hF := (cond_f h1).symm.trans hF
     refine aw_cond_g (t := v2) (by kernel_rfl) h1 ?_
     refine aw_seq ?_
     refine aw_seq ?_
     refine rg [] [(8, (aBool (v1 == (8 : Int))))] [] (by kernel_rfl) ?_
     refine aw_joinC [3, 8] 0 (fun (v3 : Bool) => ⟨14, [(3, (aInt v1)), (8, (aBool v3))], []⟩) (fun (v3 : Bool) => g_brocaderef14_args_J2 N v1 v3 = some r) (Nat.le_of_ble_eq_true rfl) ?_ ?_
     · rcases bool_cases (v1 == (8 : Int)) with h4 | h4
       · replace hF := (cond_t h4).symm.trans hF
         refine aw_cond_h (t := (v1 == (8 : Int))) (by kernel_rfl) h4 ?_
         refine aw_skip ?_
         refine at_n ?_
         exact ⟨(v1 == (8 : Int)), by kernel_rfl, hF⟩
       · replace hF := (cond_f h4).symm.trans hF
         refine aw_cond_g (t := (v1 == (8 : Int))) (by kernel_rfl) h4 ?_
         refine aw_seq ?_
         refine rg [] [(8, (aBool (v1 == (12 : Int))))] [] (by kernel_rfl) ?_
         rcases bool_cases (v1 == (12 : Int)) with h5 | h5
         · replace hF := (cond_t h5).symm.trans hF
           refine aw_cond_h (t := (v1 == (12 : Int))) (by kernel_rfl) h5 ?_
           refine aw_skip ?_
           refine at_n ?_
           exact ⟨(v1 == (12 : Int)), by kernel_rfl, hF⟩
         · replace hF := (cond_f h5).symm.trans hF
           refine aw_cond_g (t := (v1 == (12 : Int))) (by kernel_rfl) h5 ?_
           refine re [] [(8, (aBool (v1 == (18 : Int)))), (11, (aBool (v1 == (18 : Int))))] [] (by kernel_rfl) ?_
           refine at_n ?_
           exact ⟨(v1 == (18 : Int)), by kernel_rfl, hF⟩
     · rintro v3 hF
       try dsimp only at hF
       rw [g_brocaderef14_args_J2] at hF
       rcases bool_cases v3 with h2 | h2
       · replace hF := (cond_t h2).symm.trans hF
         refine aw_cond_h (t := v3) (by kernel_rfl) h2 ?_
         refine aw_seq ?_
         refine rg [] [(2, (aInt (1 : Int)))] [] (by kernel_rfl) ?_
         refine aw_ret (ab_r (at_r ?_))
         have hr := Option.some.inj hF; subst hr; exact ret_ok (by kernel_rfl)
       · replace hF := (cond_f h2).symm.trans hF
         refine aw_cond_g (t := v3) (by kernel_rfl) h2 ?_
         refine aw_seq ?_
         refine rg [] [(12, (aBool (v1 == (11 : Int))))] [] (by kernel_rfl) ?_
         rcases bool_cases (v1 == (11 : Int)) with h3 | h3
         · replace hF := (cond_t h3).symm.trans hF
           refine aw_cond_h (t := (v1 == (11 : Int))) (by kernel_rfl) h3 ?_
           refine aw_seq ?_
           refine rg [] [(2, (aInt (3 : Int)))] [] (by kernel_rfl) ?_
           refine aw_ret (ab_r (at_r ?_))
           have hr := Option.some.inj hF; subst hr; exact ret_ok (by kernel_rfl)
         · replace hF := (cond_f h3).symm.trans hF
           refine aw_cond_g (t := (v1 == (11 : Int))) (by kernel_rfl) h3 ?_
           refine aw_skip ?_
           refine ab_n ?_
           refine at_n ?_
           refine aw_seq ?_
           refine rg [] [(2, (aInt (2 : Int)))] [] (by kernel_rfl) ?_
           refine aw_ret ?_
           have hr := Option.some.inj hF; subst hr; exact ret_ok (by kernel_rfl)
def g_brocaderef14_ranked_L1 (N : Nat) : List IndexD → Nat → Option Bool
 | [], _ =>
  some true
 | v6 :: v7, v4 =>
  bif (decide ((v6.xAt.length : Int) > (6 : Int))) then
   some false
  else
   (g_brocaderef14_ranked_L1 N v7 (v4 + 1))
def g_brocaderef14_ranked (N : Nat) (v1 : ExprD) : Option Bool :=
 Option.bind (g_brocaderef14_args N v1.xOp) fun v2 =>
 Option.bind (bif ((v1.xArgs.length : Int) != v2) then some true else some (decide ((v1.xIdx.length : Int) > (6 : Int)))) fun v3 =>
 bif v3 then
  some false
 else
  g_brocaderef14_ranked_L1 N v1.xIdx 0
theorem g_brocaderef14_ranked_ok (N : Nat) (v1 : ExprD) (r : Bool) (hF : g_brocaderef14_ranked N v1 = some r) : AFn Tryz.prog 119 [(aExpr v1)] (· = (aBool r)) := by
 rw [g_brocaderef14_ranked] at hF
 refine afn_of Tryz.func119 rfl (by kernel_rfl) ?_
 refine aw_cut [0] 0 (Nat.le_refl _) (s' := ⟨32, [(0, (aExpr v1))], []⟩) (by kernel_rfl) ?_
 refine aw_seq ?_
 refine rg [] [(1, (.ptr 0 0))] [.cells (aExpr v1).cells] (by kernel_rfl) ?_
 refine aw_seq ?_
 refine aw_seq ?_
 obtain ⟨v2, h1, hF⟩ := bind_some hF
 obtain ⟨v3, h3, hF⟩ := bind_some hF
 refine rdE mixed (by kernel_rfl) [(16, (aBool v3))] [.cells (aExpr v1).cells] ?_ ?_
 · rcases bool_cases ((v1.xArgs.length : Int) != v2) with h2 | h2
   · replace h3 := (cond_t h2).symm.trans h3
     have he := Option.some.inj h3; subst he; exact ⟨[(7, ⟨_, _, .len (xs := dExprs v1.xArgs) dExprs_len⟩), (16, cL (g_brocaderef14_args_ok N v1.xOp v2 h1)), (24, bT h2), (27, bT h2), (30, bT h2), (33, bT h2), (37, bT h2)], by kernel_rfl⟩
   · replace h3 := (cond_f h2).symm.trans h3
     have he := Option.some.inj h3; subst he; exact ⟨[(7, ⟨_, _, .len (xs := dExprs v1.xArgs) dExprs_len⟩), (16, cL (g_brocaderef14_args_ok N v1.xOp v2 h1)), (24, bF h2), (27, bF h2), (30, bF h2), (31, ⟨_, _, .len (xs := dIndexs v1.xIdx) dIndexs_len⟩), (33, bF h2), (37, bF h2)], by kernel_rfl⟩
 · rcases bool_cases v3 with h4 | h4
   · replace hF := (cond_t h4).symm.trans hF
     refine aw_cond_h (t := v3) (by kernel_rfl) h4 ?_
     refine aw_seq ?_
     refine rg [] [(2, (aBool false))] [.cells (aExpr v1).cells] (by kernel_rfl) ?_
     refine aw_ret (at_r ?_)
     have hr := Option.some.inj hF; subst hr; exact ret_ok (by kernel_rfl)
   · replace hF := (cond_f h4).symm.trans hF
     refine aw_cond_g (t := v3) (by kernel_rfl) h4 ?_
     refine aw_skip ?_
     refine at_n ?_
     refine aw_seq ?_
     refine aw_seq ?_
     refine rg [] [(3, (aInt (0 : Int)))] [.cells (aExpr v1).cells] (by kernel_rfl) ?_
     refine aw_block ?_
     refine aw_okB 0 11 (dIndexs v1.xIdx) (by kernel_rfl) fun h5 => ?_
     have h6 : v1.xIdx.length ≤ maxLen := by rw [← dIndexs_len]; exact ok_len h5
     refine aw_loopC [1, 3] 1 (fun ((v4, v5) : Nat × (List IndexD)) => ⟨32, [(1, (.ptr 0 0)), (3, (aInt (v4 : Int)))], [.cells (aExpr v1).cells]⟩) (fun ((v4, v5) : Nat × (List IndexD)) => v1.xIdx.drop v4 = v5 ∧ g_brocaderef14_ranked_L1 N v5 v4 = some r) (fun ((v4, v5) : Nat × (List IndexD)) => v5.length) (0, v1.xIdx) (Nat.le_of_ble_eq_true rfl) (by kernel_rfl) ⟨rfl, hF⟩ ?_
     rintro ⟨v4, v5⟩ ⟨h7, hF⟩
     cases v5 with
     | nil =>
      rw [g_brocaderef14_ranked_L1] at hF
      refine aw_seq ?_
      refine aw_seq ?_
      refine rg [(10, ⟨_, _, .len (xs := dIndexs v1.xIdx) dIndexs_len⟩)] [(21, (aBool (decide ((v4 : Int) < (v1.xIdx.length : Int)))))] [.cells (aExpr v1).cells] (by kernel_rfl) ?_
      refine aw_cond_g (t := (decide ((v4 : Int) < (v1.xIdx.length : Int)))) (by kernel_rfl) (lt_f h7) ?_
      refine aw_exit (at_e (at_e (ab_y rfl ?_)))
      refine at_n ?_
      refine aw_seq ?_
      refine rg [] [(2, (aBool true))] [.cells (aExpr v1).cells] (by kernel_rfl) ?_
      refine aw_ret ?_
      have hr := Option.some.inj hF; subst hr; exact ret_ok (by kernel_rfl)
     | cons v6 v7 =>
      rw [g_brocaderef14_ranked_L1] at hF
      refine aw_seq ?_
      refine aw_seq ?_
      refine rg [(10, ⟨_, _, .len (xs := dIndexs v1.xIdx) dIndexs_len⟩)] [(21, (aBool (decide ((v4 : Int) < (v1.xIdx.length : Int)))))] [.cells (aExpr v1).cells] (by kernel_rfl) ?_
      refine aw_cond_h (t := (decide ((v4 : Int) < (v1.xIdx.length : Int)))) (by kernel_rfl) (lt_t h7) ?_
      refine aw_skip ?_
      refine at_n ?_
      refine aw_seq ?_
      refine aw_block ?_
      refine aw_seq ?_
      refine rg [(10, ⟨_, _, .el (xs := dIndexs v1.xIdx) (i := (v4 : Int)) (Int.natCast_nonneg _) (dIndexs_get (drop_get h7))⟩), (19, ⟨_, _, .len (xs := dLins v6.xAt) dLins_len⟩)] [(31, (aBool (decide ((v6.xAt.length : Int) > (6 : Int)))))] [.cells (aExpr v1).cells] (by kernel_rfl) ?_
      rcases bool_cases (decide ((v6.xAt.length : Int) > (6 : Int))) with h8 | h8
      · replace hF := (cond_t h8).symm.trans hF
        refine aw_cond_h (t := (decide ((v6.xAt.length : Int) > (6 : Int)))) (by kernel_rfl) h8 ?_
        refine aw_seq ?_
        refine rg [] [(2, (aBool false))] [.cells (aExpr v1).cells] (by kernel_rfl) ?_
        refine aw_ret (ab_r (at_r (at_r (ab_r (at_r ?_)))))
        have hr := Option.some.inj hF; subst hr; exact ret_ok (by kernel_rfl)
      · replace hF := (cond_f h8).symm.trans hF
        refine aw_cond_g (t := (decide ((v6.xAt.length : Int) > (6 : Int)))) (by kernel_rfl) h8 ?_
        refine aw_skip ?_
        refine ab_n ?_
        refine at_n ?_
        refine re [(5, ⟨_, _, .eq (wrap_nx h7 rfl h6)⟩)] [(3, (aInt ((v4 + 1 : Nat) : Int))), (23, (aInt ((v4 + 1 : Nat) : Int))), (22, (aInt (v4 : Int)))] [.cells (aExpr v1).cells] (by kernel_rfl) ?_
        refine at_n ?_
        exact ⟨(v4 + 1, v7), by kernel_rfl, ⟨drop_nx h7, hF⟩, Nat.lt_succ_self _⟩
def g_brocadebase_Type (N : Nat) (v1 : TypeD) : Option Bool :=
 Option.bind (bif (v1.xKind == (1 : Int)) then some true else some (v1.xKind == (3 : Int))) fun v2 =>
 bif v2 then
  Option.bind (bif (v1.xBits == (0 : Int)) then (bif (v1.xFrac == (0 : Int)) then (bif (v1.xRound == (0 : Int)) then some (v1.xOver == (0 : Int)) else some false) else some false) else some false) fun v3 =>
  some v3
 else
  Option.bind (bif (v1.xKind == (2 : Int)) then (bif (decide (v1.xBits ≥ (2 : Int))) then (bif (decide (v1.xBits ≤ (31 : Int))) then (bif (decide (v1.xFrac ≥ (0 : Int))) then (bif (decide (v1.xFrac ≤ (30 : Int))) then (bif (decide (v1.xRound ≥ (1 : Int))) then (bif (decide (v1.xRound ≤ (4 : Int))) then (bif (v1.xOver == (1 : Int)) then some true else some (v1.xOver == (2 : Int))) else some false) else some false) else some false) else some false) else some false) else some false) else some false) fun v4 =>
  some v4
theorem g_brocadebase_Type_ok (N : Nat) (v1 : TypeD) (r : Bool) (hF : g_brocadebase_Type N v1 = some r) : AFn Tryz.prog 31 [(aType v1)] (· = (aBool r)) := by
 rw [g_brocadebase_Type] at hF
 refine afn_of Tryz.func31 rfl (by kernel_rfl) ?_
 refine aw_cut [0] 0 (Nat.le_refl _) (s' := ⟨72, [(0, (aType v1))], []⟩) (by kernel_rfl) ?_
 refine aw_seq ?_
 refine rg [] [(1, (.ptr 0 0))] [.cells (aType v1).cells] (by kernel_rfl) ?_
 refine aw_seq ?_
 refine aw_seq ?_
 obtain ⟨v2, h2, hF⟩ := bind_some hF
 refine rgE [(10, (aBool v2))] [.cells (aType v1).cells] ?_ ?_
 · rcases bool_cases (v1.xKind == (1 : Int)) with h1 | h1
   · replace h2 := (cond_t h1).symm.trans h2
     have he := Option.some.inj h2; subst he; exact ⟨[(12, bT h1), (15, bT h1), (18, bT h1), (22, bT h1)], by kernel_rfl⟩
   · replace h2 := (cond_f h1).symm.trans h2
     have he := Option.some.inj h2; subst he; exact ⟨[(12, bF h1), (15, bF h1), (18, bF h1), (22, bF h1)], by kernel_rfl⟩
 · rcases bool_cases v2 with h3 | h3
   · replace hF := (cond_t h3).symm.trans hF
     refine aw_cond_h (t := v2) (by kernel_rfl) h3 ?_
     refine aw_seq ?_
     obtain ⟨v3, h7, hF⟩ := bind_some hF
     refine rgE [(2, (aBool v3))] [.cells (aType v1).cells] ?_ ?_
     · rcases bool_cases (v1.xBits == (0 : Int)) with h4 | h4
       · replace h7 := (cond_t h4).symm.trans h7
         rcases bool_cases (v1.xFrac == (0 : Int)) with h5 | h5
         · replace h7 := (cond_t h5).symm.trans h7
           rcases bool_cases (v1.xRound == (0 : Int)) with h6 | h6
           · replace h7 := (cond_t h6).symm.trans h7
             have he := Option.some.inj h7; subst he; exact ⟨[(12, bT h4), (15, bT h4), (18, bT h4), (22, bT h4), (27, bT h5), (30, bT h5), (33, bT h5), (37, bT h5), (42, bT h6), (45, bT h6), (48, bT h6), (52, bT h6)], by kernel_rfl⟩
           · replace h7 := (cond_f h6).symm.trans h7
             have he := Option.some.inj h7; subst he; exact ⟨[(12, bT h4), (15, bT h4), (18, bT h4), (22, bT h4), (27, bT h5), (30, bT h5), (33, bT h5), (37, bT h5), (42, bF h6), (45, bF h6), (48, bF h6), (52, bF h6)], by kernel_rfl⟩
         · replace h7 := (cond_f h5).symm.trans h7
           have he := Option.some.inj h7; subst he; exact ⟨[(12, bT h4), (15, bT h4), (18, bT h4), (22, bT h4), (27, bF h5), (30, bF h5), (33, bF h5), (37, bF h5), (42, bF rfl), (45, bF rfl), (48, bF rfl), (52, bF rfl)], by kernel_rfl⟩
       · replace h7 := (cond_f h4).symm.trans h7
         have he := Option.some.inj h7; subst he; exact ⟨[(12, bF h4), (15, bF h4), (18, bF h4), (22, bF h4), (27, bF rfl), (30, bF rfl), (33, bF rfl), (37, bF rfl), (42, bF rfl), (45, bF rfl), (48, bF rfl), (52, bF rfl)], by kernel_rfl⟩
     · refine aw_ret (at_r ?_)
       have hr := Option.some.inj hF; subst hr; exact ret_ok (by kernel_rfl)
   · replace hF := (cond_f h3).symm.trans hF
     refine aw_cond_g (t := v2) (by kernel_rfl) h3 ?_
     refine aw_skip ?_
     refine at_n ?_
     refine aw_seq ?_
     obtain ⟨v4, h16, hF⟩ := bind_some hF
     refine rgE [(2, (aBool v4))] [.cells (aType v1).cells] ?_ ?_
     · rcases bool_cases (v1.xKind == (2 : Int)) with h8 | h8
       · replace h16 := (cond_t h8).symm.trans h16
         rcases bool_cases (decide (v1.xBits ≥ (2 : Int))) with h9 | h9
         · replace h16 := (cond_t h9).symm.trans h16
           rcases bool_cases (decide (v1.xBits ≤ (31 : Int))) with h10 | h10
           · replace h16 := (cond_t h10).symm.trans h16
             rcases bool_cases (decide (v1.xFrac ≥ (0 : Int))) with h11 | h11
             · replace h16 := (cond_t h11).symm.trans h16
               rcases bool_cases (decide (v1.xFrac ≤ (30 : Int))) with h12 | h12
               · replace h16 := (cond_t h12).symm.trans h16
                 rcases bool_cases (decide (v1.xRound ≥ (1 : Int))) with h13 | h13
                 · replace h16 := (cond_t h13).symm.trans h16
                   rcases bool_cases (decide (v1.xRound ≤ (4 : Int))) with h14 | h14
                   · replace h16 := (cond_t h14).symm.trans h16
                     rcases bool_cases (v1.xOver == (1 : Int)) with h15 | h15
                     · replace h16 := (cond_t h15).symm.trans h16
                       have he := Option.some.inj h16; subst he; exact ⟨[(12, bT h8), (15, bT h8), (18, bT h8), (22, bT h8), (27, bT h9), (30, bT h9), (33, bT h9), (37, bT h9), (42, bT h10), (45, bT h10), (48, bT h10), (52, bT h10), (57, bT h11), (60, bT h11), (63, bT h11), (67, bT h11), (72, bT h12), (75, bT h12), (78, bT h12), (82, bT h12), (87, bT h13), (90, bT h13), (93, bT h13), (97, bT h13), (102, bT h14), (105, bT h14), (108, bT h14), (111, bT h14), (114, bT h15), (117, bT h15), (120, bT h15), (123, bT h14), (124, bT h15), (127, bT h14)], by kernel_rfl⟩
                     · replace h16 := (cond_f h15).symm.trans h16
                       have he := Option.some.inj h16; subst he; exact ⟨[(12, bT h8), (15, bT h8), (18, bT h8), (22, bT h8), (27, bT h9), (30, bT h9), (33, bT h9), (37, bT h9), (42, bT h10), (45, bT h10), (48, bT h10), (52, bT h10), (57, bT h11), (60, bT h11), (63, bT h11), (67, bT h11), (72, bT h12), (75, bT h12), (78, bT h12), (82, bT h12), (87, bT h13), (90, bT h13), (93, bT h13), (97, bT h13), (102, bT h14), (105, bT h14), (108, bT h14), (111, bT h14), (114, bF h15), (117, bF h15), (120, bF h15), (123, bT h14), (124, bF h15), (127, bT h14)], by kernel_rfl⟩
                   · replace h16 := (cond_f h14).symm.trans h16
                     have he := Option.some.inj h16; subst he; exact ⟨[(12, bT h8), (15, bT h8), (18, bT h8), (22, bT h8), (27, bT h9), (30, bT h9), (33, bT h9), (37, bT h9), (42, bT h10), (45, bT h10), (48, bT h10), (52, bT h10), (57, bT h11), (60, bT h11), (63, bT h11), (67, bT h11), (72, bT h12), (75, bT h12), (78, bT h12), (82, bT h12), (87, bT h13), (90, bT h13), (93, bT h13), (97, bT h13), (102, bF h14), (105, bF h14), (108, bF h14), (111, bF h14), (114, uN), (117, uN), (120, uN), (123, bF h14), (127, bF h14)], by kernel_rfl⟩
                 · replace h16 := (cond_f h13).symm.trans h16
                   have he := Option.some.inj h16; subst he; exact ⟨[(12, bT h8), (15, bT h8), (18, bT h8), (22, bT h8), (27, bT h9), (30, bT h9), (33, bT h9), (37, bT h9), (42, bT h10), (45, bT h10), (48, bT h10), (52, bT h10), (57, bT h11), (60, bT h11), (63, bT h11), (67, bT h11), (72, bT h12), (75, bT h12), (78, bT h12), (82, bT h12), (87, bF h13), (90, bF h13), (93, bF h13), (97, bF h13), (102, bF rfl), (105, bF rfl), (108, bF rfl), (111, bF rfl), (114, uN), (117, uN), (120, uN), (123, bF rfl), (127, bF rfl)], by kernel_rfl⟩
               · replace h16 := (cond_f h12).symm.trans h16
                 have he := Option.some.inj h16; subst he; exact ⟨[(12, bT h8), (15, bT h8), (18, bT h8), (22, bT h8), (27, bT h9), (30, bT h9), (33, bT h9), (37, bT h9), (42, bT h10), (45, bT h10), (48, bT h10), (52, bT h10), (57, bT h11), (60, bT h11), (63, bT h11), (67, bT h11), (72, bF h12), (75, bF h12), (78, bF h12), (82, bF h12), (87, bF rfl), (90, bF rfl), (93, bF rfl), (97, bF rfl), (102, bF rfl), (105, bF rfl), (108, bF rfl), (111, bF rfl), (114, uN), (117, uN), (120, uN), (123, bF rfl), (127, bF rfl)], by kernel_rfl⟩
             · replace h16 := (cond_f h11).symm.trans h16
               have he := Option.some.inj h16; subst he; exact ⟨[(12, bT h8), (15, bT h8), (18, bT h8), (22, bT h8), (27, bT h9), (30, bT h9), (33, bT h9), (37, bT h9), (42, bT h10), (45, bT h10), (48, bT h10), (52, bT h10), (57, bF h11), (60, bF h11), (63, bF h11), (67, bF h11), (72, bF rfl), (75, bF rfl), (78, bF rfl), (82, bF rfl), (87, bF rfl), (90, bF rfl), (93, bF rfl), (97, bF rfl), (102, bF rfl), (105, bF rfl), (108, bF rfl), (111, bF rfl), (114, uN), (117, uN), (120, uN), (123, bF rfl), (127, bF rfl)], by kernel_rfl⟩
           · replace h16 := (cond_f h10).symm.trans h16
             have he := Option.some.inj h16; subst he; exact ⟨[(12, bT h8), (15, bT h8), (18, bT h8), (22, bT h8), (27, bT h9), (30, bT h9), (33, bT h9), (37, bT h9), (42, bF h10), (45, bF h10), (48, bF h10), (52, bF h10), (57, bF rfl), (60, bF rfl), (63, bF rfl), (67, bF rfl), (72, bF rfl), (75, bF rfl), (78, bF rfl), (82, bF rfl), (87, bF rfl), (90, bF rfl), (93, bF rfl), (97, bF rfl), (102, bF rfl), (105, bF rfl), (108, bF rfl), (111, bF rfl), (114, uN), (117, uN), (120, uN), (123, bF rfl), (127, bF rfl)], by kernel_rfl⟩
         · replace h16 := (cond_f h9).symm.trans h16
           have he := Option.some.inj h16; subst he; exact ⟨[(12, bT h8), (15, bT h8), (18, bT h8), (22, bT h8), (27, bF h9), (30, bF h9), (33, bF h9), (37, bF h9), (42, bF rfl), (45, bF rfl), (48, bF rfl), (52, bF rfl), (57, bF rfl), (60, bF rfl), (63, bF rfl), (67, bF rfl), (72, bF rfl), (75, bF rfl), (78, bF rfl), (82, bF rfl), (87, bF rfl), (90, bF rfl), (93, bF rfl), (97, bF rfl), (102, bF rfl), (105, bF rfl), (108, bF rfl), (111, bF rfl), (114, uN), (117, uN), (120, uN), (123, bF rfl), (127, bF rfl)], by kernel_rfl⟩
       · replace h16 := (cond_f h8).symm.trans h16
         have he := Option.some.inj h16; subst he; exact ⟨[(12, bF h8), (15, bF h8), (18, bF h8), (22, bF h8), (27, bF rfl), (30, bF rfl), (33, bF rfl), (37, bF rfl), (42, bF rfl), (45, bF rfl), (48, bF rfl), (52, bF rfl), (57, bF rfl), (60, bF rfl), (63, bF rfl), (67, bF rfl), (72, bF rfl), (75, bF rfl), (78, bF rfl), (82, bF rfl), (87, bF rfl), (90, bF rfl), (93, bF rfl), (97, bF rfl), (102, bF rfl), (105, bF rfl), (108, bF rfl), (111, bF rfl), (114, uN), (117, uN), (120, uN), (123, bF rfl), (127, bF rfl)], by kernel_rfl⟩
     · refine aw_ret ?_
       have hr := Option.some.inj hF; subst hr; exact ret_ok (by kernel_rfl)
def g_brocaderef14_IsCondition (N : Nat) (v1 : ExprD) : Option Bool :=
 Option.bind (bif (decide (v1.xOp ≥ (13 : Int))) then some (decide (v1.xOp ≤ (18 : Int))) else some false) fun v2 =>
 some v2
theorem g_brocaderef14_IsCondition_ok (N : Nat) (v1 : ExprD) (r : Bool) (hF : g_brocaderef14_IsCondition N v1 = some r) : AFn Tryz.prog 65 [(aExpr v1)] (· = (aBool r)) := by
 rw [g_brocaderef14_IsCondition] at hF
 refine afn_of Tryz.func65 rfl (by kernel_rfl) ?_
 refine aw_cut [0] 0 (Nat.le_refl _) (s' := ⟨11, [(0, (aExpr v1))], []⟩) (by kernel_rfl) ?_
 refine aw_seq ?_
 refine rg [] [(1, (.ptr 0 0))] [.cells (aExpr v1).cells] (by kernel_rfl) ?_
 refine aw_seq ?_
 obtain ⟨v2, h2, hF⟩ := bind_some hF
 refine rgE [(2, (aBool v2))] [.cells (aExpr v1).cells] ?_ ?_
 · rcases bool_cases (decide (v1.xOp ≥ (13 : Int))) with h1 | h1
   · replace h2 := (cond_t h1).symm.trans h2
     have he := Option.some.inj h2; subst he; exact ⟨[(12, bT h1), (15, bT h1), (18, bT h1), (22, bT h1)], by kernel_rfl⟩
   · replace h2 := (cond_f h1).symm.trans h2
     have he := Option.some.inj h2; subst he; exact ⟨[(12, bF h1), (15, bF h1), (18, bF h1), (22, bF h1)], by kernel_rfl⟩
 · refine aw_ret ?_
   have hr := Option.some.inj hF; subst hr; exact ret_ok (by kernel_rfl)
def g_brocaderef14_wants (N : Nat) (v1 : Int) (v2 : Int) : Option Bool :=
 Option.bind (bif (v1 == (11 : Int)) then (bif (v2 == (0 : Int)) then some true else (bif (v1 == (16 : Int)) then some true else (bif (v1 == (17 : Int)) then some true else some (v1 == (18 : Int))))) else (bif (v1 == (16 : Int)) then some true else (bif (v1 == (17 : Int)) then some true else some (v1 == (18 : Int))))) fun v3 =>
 some v3
theorem g_brocaderef14_wants_ok (N : Nat) (v1 : Int) (v2 : Int) (r : Bool) (hF : g_brocaderef14_wants N v1 v2 = some r) : AFn Tryz.prog 183 [(aInt v1), (aInt v2)] (· = (aBool r)) := by
 rw [g_brocaderef14_wants] at hF
 refine afn_of Tryz.func183 rfl (by kernel_rfl) ?_
 refine aw_cut [0, 1] 0 (Nat.le_refl _) (s' := ⟨23, [(0, (aInt v1)), (1, (aInt v2))], []⟩) (by kernel_rfl) ?_
 refine aw_seq ?_
 refine rg [] [] [] (by kernel_rfl) ?_
 refine aw_seq ?_
 obtain ⟨v3, h7, hF⟩ := bind_some hF
 refine rgE [(4, (aBool v3))] [] ?_ ?_
 · rcases bool_cases (v1 == (11 : Int)) with h1 | h1
   · replace h7 := (cond_t h1).symm.trans h7
     rcases bool_cases (v2 == (0 : Int)) with h2 | h2
     · replace h7 := (cond_t h2).symm.trans h7
       have he := Option.some.inj h7; subst he; exact ⟨[(9, bT h1), (12, bT h1), (16, bT h1), (21, bT h2), (24, bT h2), (28, bT h2), (33, bT rfl), (36, bT rfl), (40, bT rfl), (45, bT rfl), (48, bT rfl), (52, bT rfl)], by kernel_rfl⟩
     · replace h7 := (cond_f h2).symm.trans h7
       rcases bool_cases (v1 == (16 : Int)) with h3 | h3
       · replace h7 := (cond_t h3).symm.trans h7
         have he := Option.some.inj h7; subst he; exact ⟨[(9, bT h1), (12, bT h1), (16, bT h1), (21, bF h2), (24, bF h2), (28, bF h2), (33, bT h3), (36, bT h3), (40, bT h3), (45, bT rfl), (48, bT rfl), (52, bT rfl)], by kernel_rfl⟩
       · replace h7 := (cond_f h3).symm.trans h7
         rcases bool_cases (v1 == (17 : Int)) with h4 | h4
         · replace h7 := (cond_t h4).symm.trans h7
           have he := Option.some.inj h7; subst he; exact ⟨[(9, bT h1), (12, bT h1), (16, bT h1), (21, bF h2), (24, bF h2), (28, bF h2), (33, bF h3), (36, bF h3), (40, bF h3), (45, bT h4), (48, bT h4), (52, bT h4)], by kernel_rfl⟩
         · replace h7 := (cond_f h4).symm.trans h7
           have he := Option.some.inj h7; subst he; exact ⟨[(9, bT h1), (12, bT h1), (16, bT h1), (21, bF h2), (24, bF h2), (28, bF h2), (33, bF h3), (36, bF h3), (40, bF h3), (45, bF h4), (48, bF h4), (52, bF h4)], by kernel_rfl⟩
   · replace h7 := (cond_f h1).symm.trans h7
     rcases bool_cases (v1 == (16 : Int)) with h5 | h5
     · replace h7 := (cond_t h5).symm.trans h7
       have he := Option.some.inj h7; subst he; exact ⟨[(9, bF h1), (12, bF h1), (16, bF h1), (21, bF rfl), (24, bF rfl), (28, bF rfl), (33, bT h5), (36, bT h5), (40, bT h5), (45, bT rfl), (48, bT rfl), (52, bT rfl)], by kernel_rfl⟩
     · replace h7 := (cond_f h5).symm.trans h7
       rcases bool_cases (v1 == (17 : Int)) with h6 | h6
       · replace h7 := (cond_t h6).symm.trans h7
         have he := Option.some.inj h7; subst he; exact ⟨[(9, bF h1), (12, bF h1), (16, bF h1), (21, bF rfl), (24, bF rfl), (28, bF rfl), (33, bF h5), (36, bF h5), (40, bF h5), (45, bT h6), (48, bT h6), (52, bT h6)], by kernel_rfl⟩
       · replace h7 := (cond_f h6).symm.trans h7
         have he := Option.some.inj h7; subst he; exact ⟨[(9, bF h1), (12, bF h1), (16, bF h1), (21, bF rfl), (24, bF rfl), (28, bF rfl), (33, bF h5), (36, bF h5), (40, bF h5), (45, bF h6), (48, bF h6), (52, bF h6)], by kernel_rfl⟩
 · refine aw_ret ?_
   have hr := Option.some.inj hF; subst hr; exact ret_ok (by kernel_rfl)
def g_brocaderef14_typed_L1 (N : Nat) (v1 : ExprD) : List ExprD → Nat → Option Bool
 | [], _ =>
  some true
 | v7 :: v8, v5 =>
  Option.bind (g_brocaderef14_IsCondition N v7) fun v9 =>
  Option.bind (g_brocaderef14_wants N v1.xOp (v5 : Int)) fun v10 =>
  bif (v9 == v10) then
   (g_brocaderef14_typed_L1 N v1 v8 (v5 + 1))
  else
   some false
def g_brocaderef14_typed (N : Nat) (v1 : ExprD) : Option Bool :=
 Option.bind (bif (v1.xOp == (1 : Int)) then Option.bind (g_brocadebase_Type N v1.xType) fun v2 =>
 some (!v2) else (bif (v1.xOp == (12 : Int)) then Option.bind (g_brocadebase_Type N v1.xType) fun v3 =>
 some (!v3) else some false)) fun v4 =>
 bif v4 then
  some false
 else
  g_brocaderef14_typed_L1 N v1 v1.xArgs 0
theorem g_brocaderef14_typed_ok (N : Nat) (v1 : ExprD) (r : Bool) (hF : g_brocaderef14_typed N v1 = some r) : AFn Tryz.prog 120 [(aExpr v1)] (· = (aBool r)) := by
 rw [g_brocaderef14_typed] at hF
 refine afn_of Tryz.func120 rfl (by kernel_rfl) ?_
 refine aw_cut [0] 0 (Nat.le_refl _) (s' := ⟨36, [(0, (aExpr v1))], []⟩) (by kernel_rfl) ?_
 refine aw_seq ?_
 refine rg [] [(1, (.ptr 0 0))] [.cells (aExpr v1).cells] (by kernel_rfl) ?_
 refine aw_seq ?_
 refine aw_seq ?_
 obtain ⟨v4, h5, hF⟩ := bind_some hF
 refine rgE [(17, (aBool v4))] [.cells (aExpr v1).cells] ?_ ?_
 · rcases bool_cases (v1.xOp == (1 : Int)) with h1 | h1
   · replace h5 := (cond_t h1).symm.trans h5
     obtain ⟨v2, h2, h5⟩ := bind_some h5
     have he := Option.some.inj h5; subst he; exact ⟨[(12, bT h1), (15, bT h1), (18, bT h1), (22, bT h1), (27, bT rfl), (30, bT rfl), (33, bT rfl), (34, cL (g_brocadebase_Type_ok N v1.xType v2 h2)), (36, bT rfl), (40, bT rfl)], by kernel_rfl⟩
   · replace h5 := (cond_f h1).symm.trans h5
     rcases bool_cases (v1.xOp == (12 : Int)) with h3 | h3
     · replace h5 := (cond_t h3).symm.trans h5
       obtain ⟨v3, h4, h5⟩ := bind_some h5
       have he := Option.some.inj h5; subst he; exact ⟨[(12, bF h1), (15, bF h1), (18, bF h1), (22, bF h1), (27, bT h3), (30, bT h3), (33, bT h3), (34, cL (g_brocadebase_Type_ok N v1.xType v3 h4)), (36, bT h3), (40, bT h3)], by kernel_rfl⟩
     · replace h5 := (cond_f h3).symm.trans h5
       have he := Option.some.inj h5; subst he; exact ⟨[(12, bF h1), (15, bF h1), (18, bF h1), (22, bF h1), (27, bF h3), (30, bF h3), (33, bF h3), (36, bF h3), (40, bF h3)], by kernel_rfl⟩
 · rcases bool_cases v4 with h6 | h6
   · replace hF := (cond_t h6).symm.trans hF
     refine aw_cond_h (t := v4) (by kernel_rfl) h6 ?_
     refine aw_seq ?_
     refine rg [] [(2, (aBool false))] [.cells (aExpr v1).cells] (by kernel_rfl) ?_
     refine aw_ret (at_r ?_)
     have hr := Option.some.inj hF; subst hr; exact ret_ok (by kernel_rfl)
   · replace hF := (cond_f h6).symm.trans hF
     refine aw_cond_g (t := v4) (by kernel_rfl) h6 ?_
     refine aw_skip ?_
     refine at_n ?_
     refine aw_seq ?_
     refine aw_seq ?_
     refine rg [] [(3, (aInt (0 : Int)))] [.cells (aExpr v1).cells] (by kernel_rfl) ?_
     refine aw_block ?_
     refine aw_okB 0 12 (dExprs v1.xArgs) (by kernel_rfl) fun h7 => ?_
     have h8 : v1.xArgs.length ≤ maxLen := by rw [← dExprs_len]; exact ok_len h7
     refine aw_loopC [1, 3] 1 (fun ((v5, v6) : Nat × (List ExprD)) => ⟨36, [(1, (.ptr 0 0)), (3, (aInt (v5 : Int)))], [.cells (aExpr v1).cells]⟩) (fun ((v5, v6) : Nat × (List ExprD)) => v1.xArgs.drop v5 = v6 ∧ g_brocaderef14_typed_L1 N v1 v6 v5 = some r) (fun ((v5, v6) : Nat × (List ExprD)) => v6.length) (0, v1.xArgs) (Nat.le_of_ble_eq_true rfl) (by kernel_rfl) ⟨rfl, hF⟩ ?_
     rintro ⟨v5, v6⟩ ⟨h9, hF⟩
     cases v6 with
     | nil =>
      rw [g_brocaderef14_typed_L1] at hF
      refine aw_seq ?_
      refine aw_seq ?_
      refine rg [(10, ⟨_, _, .len (xs := dExprs v1.xArgs) dExprs_len⟩)] [(22, (aBool (decide ((v5 : Int) < (v1.xArgs.length : Int)))))] [.cells (aExpr v1).cells] (by kernel_rfl) ?_
      refine aw_cond_g (t := (decide ((v5 : Int) < (v1.xArgs.length : Int)))) (by kernel_rfl) (lt_f h9) ?_
      refine aw_exit (at_e (at_e (ab_y rfl ?_)))
      refine at_n ?_
      refine aw_seq ?_
      refine rg [] [(2, (aBool true))] [.cells (aExpr v1).cells] (by kernel_rfl) ?_
      refine aw_ret ?_
      have hr := Option.some.inj hF; subst hr; exact ret_ok (by kernel_rfl)
     | cons v7 v8 =>
      rw [g_brocaderef14_typed_L1] at hF
      refine aw_seq ?_
      refine aw_seq ?_
      refine rg [(10, ⟨_, _, .len (xs := dExprs v1.xArgs) dExprs_len⟩)] [(22, (aBool (decide ((v5 : Int) < (v1.xArgs.length : Int)))))] [.cells (aExpr v1).cells] (by kernel_rfl) ?_
      refine aw_cond_h (t := (decide ((v5 : Int) < (v1.xArgs.length : Int)))) (by kernel_rfl) (lt_t h9) ?_
      refine aw_skip ?_
      refine at_n ?_
      refine aw_seq ?_
      refine aw_block ?_
      refine aw_seq ?_
      obtain ⟨v9, h10, hF⟩ := bind_some hF
      obtain ⟨v10, h11, hF⟩ := bind_some hF
      refine rd mixed (by kernel_rfl) [(10, ⟨_, _, .el (xs := dExprs v1.xArgs) (i := (v5 : Int)) (Int.natCast_nonneg _) (dExprs_get (drop_get h9))⟩), (16, cL (g_brocaderef14_IsCondition_ok N v7 v9 h10)), (28, cL (g_brocaderef14_wants_ok N v1.xOp (v5 : Int) v10 h11))] [(35, (aBool (!(v9 == v10))))] [.cells (aExpr v1).cells] (by kernel_rfl) ?_
      rcases bool_cases (v9 == v10) with h12 | h12
      · replace hF := (cond_t h12).symm.trans hF
        refine aw_cond_g (t := (!(v9 == v10))) (by kernel_rfl) (not_t h12) ?_
        refine aw_skip ?_
        refine ab_n ?_
        refine at_n ?_
        refine re [(5, ⟨_, _, .eq (wrap_nx h9 rfl h8)⟩)] [(3, (aInt ((v5 + 1 : Nat) : Int))), (24, (aInt ((v5 + 1 : Nat) : Int))), (23, (aInt (v5 : Int)))] [.cells (aExpr v1).cells] (by kernel_rfl) ?_
        refine at_n ?_
        exact ⟨(v5 + 1, v8), by kernel_rfl, ⟨drop_nx h9, hF⟩, Nat.lt_succ_self _⟩
      · replace hF := (cond_f h12).symm.trans hF
        refine aw_cond_h (t := (!(v9 == v10))) (by kernel_rfl) (not_f h12) ?_
        refine aw_seq ?_
        refine rg [] [(2, (aBool false))] [.cells (aExpr v1).cells] (by kernel_rfl) ?_
        refine aw_ret (ab_r (at_r (at_r (ab_r (at_r ?_)))))
        have hr := Option.some.inj hF; subst hr; exact ret_ok (by kernel_rfl)
def g_brocadebase_gcd_L1 (N : Nat) : Nat → Int64 → Int64 → Option Int64
 | 0, _, _ => none
 | v3 + 1, v4, v5 =>
  bif (v5.toInt != (0 : Int)) then
   (fun b1_0 b1_1 => g_brocadebase_gcd_L1 N v3 b1_0 b1_1) v5 (Int64.ofInt ((v4.toInt).tmod v5.toInt))
  else
   some v4
def g_brocadebase_gcd (N : Nat) (v1 : Int64) (v2 : Int64) : Option Int64 :=
 g_brocadebase_gcd_L1 N N v1 v2
theorem g_brocadebase_gcd_ok (N : Nat) (v1 : Int64) (v2 : Int64) (r : Int64) (hF : g_brocadebase_gcd N v1 v2 = some r) : AFn Tryz.prog 229 [(aI64 v1), (aI64 v2)] (· = (aI64 r)) := by
 rw [g_brocadebase_gcd] at hF
 refine afn_of Tryz.func229 rfl (by kernel_rfl) ?_
 refine aw_cut [0, 1] 0 (Nat.le_refl _) (s' := ⟨12, [(0, (aI64 v1)), (1, (aI64 v2))], []⟩) (by kernel_rfl) ?_
 refine aw_seq ?_
 refine rg [] [] [] (by kernel_rfl) ?_
 refine aw_seq ?_
 refine aw_block ?_
 refine aw_loopC [0, 1] 0 (fun ((v3, v4, v5) : Nat × Int64 × Int64) => ⟨12, [(0, (aI64 v4)), (1, (aI64 v5))], []⟩) (fun ((v3, v4, v5) : Nat × Int64 × Int64) => g_brocadebase_gcd_L1 N v3 v4 v5 = some r) (fun ((v3, v4, v5) : Nat × Int64 × Int64) => v3) (N, v1, v2) (Nat.le_of_ble_eq_true rfl) (by kernel_rfl) hF ?_
 rintro ⟨v3, v4, v5⟩ hF
 try dsimp only at hF
 cases v3 with
 | zero =>
  rw [g_brocadebase_gcd_L1] at hF
  cases hF
 | succ v3 =>
  rw [g_brocadebase_gcd_L1] at hF
  refine aw_seq ?_
  refine aw_seq ?_
  refine rg [] [(6, (aBool (v5.toInt != (0 : Int))))] [] (by kernel_rfl) ?_
  rcases bool_cases (v5.toInt != (0 : Int)) with h1 | h1
  · replace hF := (cond_t h1).symm.trans hF
    refine aw_cond_h (t := (v5.toInt != (0 : Int))) (by kernel_rfl) h1 ?_
    refine aw_skip ?_
    refine at_n ?_
    refine aw_block ?_
    refine rde mixed (by kernel_rfl) [(10, ⟨_, _, .nz (b := v5.toInt) (bne_iff_ne.1 h1)⟩), (11, ⟨_, _, .eq (i64_rem v4 v5.toInt)⟩)] [(1, (aI64 (Int64.ofInt ((v4.toInt).tmod v5.toInt)))), (0, (aI64 v5)), (10, (aI64 (Int64.ofInt ((v4.toInt).tmod v5.toInt)))), (9, (aI64 v5)), (8, (aI64 v4)), (7, (aI64 v5))] [] (by kernel_rfl) ?_
    refine ab_n ?_
    refine at_n ?_
    exact ⟨(v3, v5, (Int64.ofInt ((v4.toInt).tmod v5.toInt))), by kernel_rfl, hF, Nat.lt_succ_self _⟩
  · replace hF := (cond_f h1).symm.trans hF
    refine aw_cond_g (t := (v5.toInt != (0 : Int))) (by kernel_rfl) h1 ?_
    refine aw_exit (at_e (at_e (ab_y rfl ?_)))
    refine at_n ?_
    refine aw_seq ?_
    refine rg [] [(4, (aI64 v4))] [] (by kernel_rfl) ?_
    refine aw_ret ?_
    have hr := Option.some.inj hF; subst hr; exact ret_ok (by kernel_rfl)
end Go.Proofs.YtnedgkfefdldeaaGreatDoor
