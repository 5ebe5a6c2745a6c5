/-
  Part 6 of the proof: PVal2, Clones, Exam, PSQ1.
-/
import Derived.Test.YtnedgkfefdldeaaGreatDoorPk5
/-! PVal2: Functions of the program as Lean functions, each with its proof. Written by a program (wip/abs/dc3.py). -/
namespace Go.Proofs.YtnedgkfefdldeaaGreatDoor
open Go.RowKit
set_option maxRecDepth 100000
set_option maxHeartbeats 0
set_option linter.unusedVariables false
def g_brocadebase_Val (N : Nat) (v1 : TypeD) (v2 : ValD) : Option Bool :=
 bif (v1.xKind == (2 : Int)) then
  bif (decide ((0 : Int) ≤ (w64 (v1.xBits - (1 : Int))))) then
  Option.bind (bif (v2.xD.toInt == (1 : Int)) then (bif (decide (v2.xN.toInt ≥ (-(Int64.ofInt ((1 : Int) * 2 ^ (min ((w64 (v1.xBits - (1 : Int)))).toNat (IntKind.bits .i64))))).toInt)) then some (decide (v2.xN.toInt < (Int64.ofInt ((1 : Int) * 2 ^ (min ((w64 (v1.xBits - (1 : Int)))).toNat (IntKind.bits .i64)))).toInt)) else some false) else some false) fun v3 =>
  some v3
  else none
 else
  Option.bind (bif (decide (v2.xN.toInt > (2147483647 : Int))) then some true else (bif (decide (v2.xN.toInt < (-2147483647 : Int))) then some true else (bif (decide (v2.xD.toInt < (1 : Int))) then some true else some (decide (v2.xD.toInt > (2147483647 : Int)))))) fun v4 =>
  bif v4 then
   some false
  else
   bif (v1.xKind == (3 : Int)) then
    some (v2.xD.toInt == (1 : Int))
   else
    Option.bind (g_brocadebase_gcd N (max64 v2.xN (-v2.xN)) v2.xD) fun v5 =>
    some (v5.toInt == (1 : Int))
theorem g_brocadebase_Val_ok (N : Nat) (v1 : TypeD) (v2 : ValD) (r : Bool) (hF : g_brocadebase_Val N v1 v2 = some r) : AFn Tryz.prog 184 [(aType v1), (aVal v2)] (· = (aBool r)) := by
 rw [g_brocadebase_Val] at hF
 refine afn_of Tryz.func184 rfl (by kernel_rfl) ?_
 refine aw_cut [0, 1] 0 (Nat.le_refl _) (s' := ⟨63, [(0, (aType v1)), (1, (aVal v2))], []⟩) (by kernel_rfl) ?_
 refine aw_seq ?_
 refine rg [] [(2, (.ptr 0 0)), (3, (.ptr 1 0))] [.cells (aType v1).cells, .cells (aVal v2).cells] (by kernel_rfl) ?_
 refine aw_seq ?_
 refine aw_seq ?_
 refine rg [] [(8, (aBool (v1.xKind == (2 : Int))))] [.cells (aType v1).cells, .cells (aVal v2).cells] (by kernel_rfl) ?_
 rcases bool_cases (v1.xKind == (2 : Int)) with h1 | h1
 · replace hF := (cond_t h1).symm.trans hF
   refine aw_cond_h (t := (v1.xKind == (2 : Int))) (by kernel_rfl) h1 ?_
   refine aw_seq ?_
   have h2 := chk_t hF
   replace hF := (cond_t h2).symm.trans hF
   refine rg [(10, ⟨_, _, .nn (b := (w64 (v1.xBits - (1 : Int)))) (of_decide_eq_true h2)⟩), (11, ⟨_, _, .eq (i64_of ((1 : Int) * 2 ^ (min ((w64 (v1.xBits - (1 : Int)))).toNat (IntKind.bits .i64))))⟩)] [(5, (aI64 (Int64.ofInt ((1 : Int) * 2 ^ (min ((w64 (v1.xBits - (1 : Int)))).toNat (IntKind.bits .i64))))))] [.cells (aType v1).cells, .cells (aVal v2).cells] (by kernel_rfl) ?_
   refine aw_seq ?_
   obtain ⟨v3, h5, hF⟩ := bind_some hF
   refine rgE [(4, (aBool v3))] [.cells (aType v1).cells, .cells (aVal v2).cells] ?_ ?_
   · rcases bool_cases (v2.xD.toInt == (1 : Int)) with h3 | h3
     · replace h5 := (cond_t h3).symm.trans h5
       rcases bool_cases (decide (v2.xN.toInt ≥ (-(Int64.ofInt ((1 : Int) * 2 ^ (min ((w64 (v1.xBits - (1 : Int)))).toNat (IntKind.bits .i64))))).toInt)) with h4 | h4
       · replace h5 := (cond_t h4).symm.trans h5
         have he := Option.some.inj h5; subst he; exact ⟨[(12, bT h3), (15, bT h3), (18, bT h3), (21, bT h3), (23, ⟨_, _, .eq (i64_neg (Int64.ofInt ((1 : Int) * 2 ^ (min ((w64 (v1.xBits - (1 : Int)))).toNat (IntKind.bits .i64)))))⟩), (24, bT h3), (28, bT h3), (33, bT h4), (36, bT h4), (39, bT h4), (42, bT h4), (46, bT h4)], by kernel_rfl⟩
       · replace h5 := (cond_f h4).symm.trans h5
         have he := Option.some.inj h5; subst he; exact ⟨[(12, bT h3), (15, bT h3), (18, bT h3), (21, bT h3), (23, ⟨_, _, .eq (i64_neg (Int64.ofInt ((1 : Int) * 2 ^ (min ((w64 (v1.xBits - (1 : Int)))).toNat (IntKind.bits .i64)))))⟩), (24, bT h3), (28, bT h3), (33, bF h4), (36, bF h4), (39, bF h4), (42, bF h4), (46, bF h4)], by kernel_rfl⟩
     · replace h5 := (cond_f h3).symm.trans h5
       have he := Option.some.inj h5; subst he; exact ⟨[(12, bF h3), (15, bF h3), (18, bF h3), (21, bF h3), (24, bF h3), (28, bF h3), (33, bF rfl), (36, bF rfl), (39, bF rfl), (42, bF rfl), (46, bF rfl)], by kernel_rfl⟩
   · refine aw_ret (at_r ?_)
     have hr := Option.some.inj hF; subst hr; exact ret_ok (by kernel_rfl)
 · replace hF := (cond_f h1).symm.trans hF
   refine aw_cond_g (t := (v1.xKind == (2 : Int))) (by kernel_rfl) h1 ?_
   refine aw_skip ?_
   refine at_n ?_
   refine aw_seq ?_
   refine aw_seq ?_
   obtain ⟨v4, h9, hF⟩ := bind_some hF
   refine rgE [(46, (aBool v4))] [.cells (aType v1).cells, .cells (aVal v2).cells] ?_ ?_
   · rcases bool_cases (decide (v2.xN.toInt > (2147483647 : Int))) with h6 | h6
     · replace h9 := (cond_t h6).symm.trans h9
       have he := Option.some.inj h9; subst he; exact ⟨[(12, bT h6), (15, bT h6), (18, bT h6), (22, bT h6), (27, bT rfl), (30, bT rfl), (33, bT rfl), (37, bT rfl), (42, bT rfl), (45, bT rfl), (48, bT rfl), (52, bT rfl)], by kernel_rfl⟩
     · replace h9 := (cond_f h6).symm.trans h9
       rcases bool_cases (decide (v2.xN.toInt < (-2147483647 : Int))) with h7 | h7
       · replace h9 := (cond_t h7).symm.trans h9
         have he := Option.some.inj h9; subst he; exact ⟨[(12, bF h6), (15, bF h6), (18, bF h6), (22, bF h6), (27, bT h7), (30, bT h7), (33, bT h7), (37, bT h7), (42, bT rfl), (45, bT rfl), (48, bT rfl), (52, bT rfl)], by kernel_rfl⟩
       · replace h9 := (cond_f h7).symm.trans h9
         rcases bool_cases (decide (v2.xD.toInt < (1 : Int))) with h8 | h8
         · replace h9 := (cond_t h8).symm.trans h9
           have he := Option.some.inj h9; subst he; exact ⟨[(12, bF h6), (15, bF h6), (18, bF h6), (22, bF h6), (27, bF h7), (30, bF h7), (33, bF h7), (37, bF h7), (42, bT h8), (45, bT h8), (48, bT h8), (52, bT h8)], by kernel_rfl⟩
         · replace h9 := (cond_f h8).symm.trans h9
           have he := Option.some.inj h9; subst he; exact ⟨[(12, bF h6), (15, bF h6), (18, bF h6), (22, bF h6), (27, bF h7), (30, bF h7), (33, bF h7), (37, bF h7), (42, bF h8), (45, bF h8), (48, bF h8), (52, bF h8)], by kernel_rfl⟩
   · rcases bool_cases v4 with h10 | h10
     · replace hF := (cond_t h10).symm.trans hF
       refine aw_cond_h (t := v4) (by kernel_rfl) h10 ?_
       refine aw_seq ?_
       refine rg [] [(4, (aBool false))] [.cells (aType v1).cells, .cells (aVal v2).cells] (by kernel_rfl) ?_
       refine aw_ret (at_r ?_)
       have hr := Option.some.inj hF; subst hr; exact ret_ok (by kernel_rfl)
     · replace hF := (cond_f h10).symm.trans hF
       refine aw_cond_g (t := v4) (by kernel_rfl) h10 ?_
       refine aw_skip ?_
       refine at_n ?_
       refine aw_seq ?_
       refine aw_seq ?_
       refine rg [] [(49, (aBool (v1.xKind == (3 : Int))))] [.cells (aType v1).cells, .cells (aVal v2).cells] (by kernel_rfl) ?_
       rcases bool_cases (v1.xKind == (3 : Int)) with h11 | h11
       · replace hF := (cond_t h11).symm.trans hF
         refine aw_cond_h (t := (v1.xKind == (3 : Int))) (by kernel_rfl) h11 ?_
         refine aw_seq ?_
         refine rg [] [(4, (aBool (v2.xD.toInt == (1 : Int))))] [.cells (aType v1).cells, .cells (aVal v2).cells] (by kernel_rfl) ?_
         refine aw_ret (at_r ?_)
         have hr := Option.some.inj hF; subst hr; exact ret_ok (by kernel_rfl)
       · replace hF := (cond_f h11).symm.trans hF
         refine aw_cond_g (t := (v1.xKind == (3 : Int))) (by kernel_rfl) h11 ?_
         refine aw_skip ?_
         refine at_n ?_
         refine aw_seq ?_
         obtain ⟨v5, h12, hF⟩ := bind_some hF
         refine rg [(14, ⟨_, _, .eq (i64_neg v2.xN)⟩), (17, ⟨_, _, .eq (max64_eq v2.xN (-v2.xN))⟩), (25, cL (g_brocadebase_gcd_ok N (max64 v2.xN (-v2.xN)) v2.xD v5 h12))] [(4, (aBool (v5.toInt == (1 : Int))))] [.cells (aType v1).cells, .cells (aVal v2).cells] (by kernel_rfl) ?_
         refine aw_ret ?_
         have hr := Option.some.inj hF; subst hr; exact ret_ok (by kernel_rfl)
def g_brocadebase_LinRight_L1 (N : Nat) (v1 : LinD) : List MonoD → Nat → Option Bool
 | [], _ =>
  some true
 | v4 :: v5, v2 =>
  Option.bind (g_brocadebase_Name N v4.xName) fun v6 =>
  Option.bind (bif v6 then (bif (v4.xBy.toInt == (0 : Int)) then some true else (bif (decide ((v2 : Int) > (0 : Int))) then bif (decide ((0 : Int) ≤ (w64 ((v2 : Int) - (1 : Int))))) then
  Option.bind (v1.xL[((w64 ((v2 : Int) - (1 : Int)))).toNat]?) fun v7 =>
  some (!(Op.bytesLess (bL v7.xName) (bL v4.xName)))
  else none else some false)) else some true) fun v8 =>
  bif v8 then
   some false
  else
   (g_brocadebase_LinRight_L1 N v1 v5 (v2 + 1))
def g_brocadebase_LinRight (N : Nat) (v1 : LinD) : Option Bool :=
 g_brocadebase_LinRight_L1 N v1 v1.xL 0
theorem g_brocadebase_LinRight_ok (N : Nat) (v1 : LinD) (r : Bool) (hF : g_brocadebase_LinRight N v1 = some r) : AFn Tryz.prog 147 [(aLin v1)] (· = (aBool r)) := by
 rw [g_brocadebase_LinRight] at hF
 refine afn_of Tryz.func147 rfl (by kernel_rfl) ?_
 refine aw_cut [0] 0 (Nat.le_refl _) (s' := ⟨48, [(0, (aLin v1))], []⟩) (by kernel_rfl) ?_
 refine aw_seq ?_
 refine rg [] [(1, (.ptr 0 0))] [.cells (aLin v1).cells] (by kernel_rfl) ?_
 refine aw_seq ?_
 refine aw_seq ?_
 refine rg [] [(3, (aInt (0 : Int)))] [.cells (aLin v1).cells] (by kernel_rfl) ?_
 refine aw_block ?_
 refine aw_okB 0 1 (dMonos v1.xL) (by kernel_rfl) fun h1 => ?_
 have h2 : v1.xL.length ≤ maxLen := by rw [← dMonos_len]; exact ok_len h1
 refine aw_loopC [1, 3] 1 (fun ((v2, v3) : Nat × (List MonoD)) => ⟨48, [(1, (.ptr 0 0)), (3, (aInt (v2 : Int)))], [.cells (aLin v1).cells]⟩) (fun ((v2, v3) : Nat × (List MonoD)) => v1.xL.drop v2 = v3 ∧ g_brocadebase_LinRight_L1 N v1 v3 v2 = some r) (fun ((v2, v3) : Nat × (List MonoD)) => v3.length) (0, v1.xL) (Nat.le_of_ble_eq_true rfl) (by kernel_rfl) ⟨rfl, hF⟩ ?_
 rintro ⟨v2, v3⟩ ⟨h3, hF⟩
 cases v3 with
 | nil =>
  rw [g_brocadebase_LinRight_L1] at hF
  refine aw_seq ?_
  refine aw_seq ?_
  refine rg [(10, ⟨_, _, .len (xs := dMonos v1.xL) dMonos_len⟩)] [(8, (aBool (decide ((v2 : Int) < (v1.xL.length : Int)))))] [.cells (aLin v1).cells] (by kernel_rfl) ?_
  refine aw_cond_g (t := (decide ((v2 : Int) < (v1.xL.length : Int)))) (by kernel_rfl) (lt_f h3) ?_
  refine aw_exit (at_e (at_e (ab_y rfl ?_)))
  refine at_n ?_
  refine aw_seq ?_
  refine rg [] [(2, (aBool true))] [.cells (aLin v1).cells] (by kernel_rfl) ?_
  refine aw_ret ?_
  have hr := Option.some.inj hF; subst hr; exact ret_ok (by kernel_rfl)
 | cons v4 v5 =>
  rw [g_brocadebase_LinRight_L1] at hF
  refine aw_seq ?_
  refine aw_seq ?_
  refine rg [(10, ⟨_, _, .len (xs := dMonos v1.xL) dMonos_len⟩)] [(8, (aBool (decide ((v2 : Int) < (v1.xL.length : Int)))))] [.cells (aLin v1).cells] (by kernel_rfl) ?_
  refine aw_cond_h (t := (decide ((v2 : Int) < (v1.xL.length : Int)))) (by kernel_rfl) (lt_t h3) ?_
  refine aw_skip ?_
  refine at_n ?_
  refine aw_seq ?_
  refine aw_block ?_
  refine aw_seq ?_
  obtain ⟨v6, h4, hF⟩ := bind_some hF
  obtain ⟨v8, h10, hF⟩ := bind_some hF
  refine rdE mixed (by kernel_rfl) [(47, (aBool v8))] [.cells (aLin v1).cells] ?_ ?_
  · rcases bool_cases v6 with h5 | h5
    · replace h10 := (cond_t h5).symm.trans h10
      rcases bool_cases (v4.xBy.toInt == (0 : Int)) with h6 | h6
      · replace h10 := (cond_t h6).symm.trans h10
        have he := Option.some.inj h10; subst he; exact ⟨[(10, ⟨_, _, .el (xs := dMonos v1.xL) (i := (v2 : Int)) (Int.natCast_nonneg _) (dMonos_get (drop_get h3))⟩), (19, cL (g_brocadebase_Name_ok N v4.xName v6 h4)), (27, bF (not_t h5)), (30, bF (not_t h5)), (33, bF (not_t h5)), (36, bF (not_t h5)), (37, ⟨_, _, .el (xs := dMonos v1.xL) (i := (v2 : Int)) (Int.natCast_nonneg _) (dMonos_get (drop_get h3))⟩), (39, bF (not_t h5)), (42, bF (not_t h5)), (45, bF (not_t h5)), (49, bF (not_t h5)), (54, bT h6), (57, bT h6), (60, bT h6), (63, uN), (66, uN), (69, uN), (72, uN), (75, uN), (78, uN), (81, uN), (84, uN), (87, uN), (90, uN), (93, uN), (96, uN), (99, uN), (102, uN), (105, bT h6), (109, bT h6)], by kernel_rfl⟩
      · replace h10 := (cond_f h6).symm.trans h10
        rcases bool_cases (decide ((v2 : Int) > (0 : Int))) with h7 | h7
        · replace h10 := (cond_t h7).symm.trans h10
          have h9 := chk_t h10
          replace h10 := (cond_t h9).symm.trans h10
          obtain ⟨v7, h8, h10⟩ := bind_some h10
          have he := Option.some.inj h10; subst he; exact ⟨[(10, ⟨_, _, .el (xs := dMonos v1.xL) (i := (v2 : Int)) (Int.natCast_nonneg _) (dMonos_get (drop_get h3))⟩), (19, cL (g_brocadebase_Name_ok N v4.xName v6 h4)), (27, bF (not_t h5)), (30, bF (not_t h5)), (33, bF (not_t h5)), (36, bF (not_t h5)), (37, ⟨_, _, .el (xs := dMonos v1.xL) (i := (v2 : Int)) (Int.natCast_nonneg _) (dMonos_get (drop_get h3))⟩), (39, bF (not_t h5)), (42, bF (not_t h5)), (45, bF (not_t h5)), (49, bF (not_t h5)), (54, bF h6), (57, bF h6), (60, bF h6), (63, bT h7), (66, bT h7), (69, bT h7), (72, bT h7), (75, bT h7), (76, ⟨_, _, .el (xs := dMonos v1.xL) (i := (w64 ((v2 : Int) - (1 : Int)))) (of_decide_eq_true h9) (dMonos_get h8)⟩), (78, bT h7), (81, bT h7), (84, bT h7), (87, bT h7), (90, bT h7), (93, bT h7), (94, ⟨_, _, .el (xs := dMonos v1.xL) (i := (v2 : Int)) (Int.natCast_nonneg _) (dMonos_get (drop_get h3))⟩), (96, bT h7), (99, bT h7), (102, bT h7), (105, bF h6), (106, bT h7), (109, bF h6)], by kernel_rfl⟩
        · replace h10 := (cond_f h7).symm.trans h10
          have he := Option.some.inj h10; subst he; exact ⟨[(10, ⟨_, _, .el (xs := dMonos v1.xL) (i := (v2 : Int)) (Int.natCast_nonneg _) (dMonos_get (drop_get h3))⟩), (19, cL (g_brocadebase_Name_ok N v4.xName v6 h4)), (27, bF (not_t h5)), (30, bF (not_t h5)), (33, bF (not_t h5)), (36, bF (not_t h5)), (37, ⟨_, _, .el (xs := dMonos v1.xL) (i := (v2 : Int)) (Int.natCast_nonneg _) (dMonos_get (drop_get h3))⟩), (39, bF (not_t h5)), (42, bF (not_t h5)), (45, bF (not_t h5)), (49, bF (not_t h5)), (54, bF h6), (57, bF h6), (60, bF h6), (63, bF h7), (66, bF h7), (69, bF h7), (72, bF h7), (75, bF h7), (78, bF h7), (81, bF h7), (84, bF h7), (87, bF h7), (90, bF h7), (93, bF h7), (96, bF h7), (99, bF h7), (102, bF h7), (105, bF h6), (106, bF h7), (109, bF h6)], by kernel_rfl⟩
    · replace h10 := (cond_f h5).symm.trans h10
      have he := Option.some.inj h10; subst he; exact ⟨[(10, ⟨_, _, .el (xs := dMonos v1.xL) (i := (v2 : Int)) (Int.natCast_nonneg _) (dMonos_get (drop_get h3))⟩), (19, cL (g_brocadebase_Name_ok N v4.xName v6 h4)), (27, bT (not_f h5)), (30, bT (not_f h5)), (33, bT (not_f h5)), (36, bT (not_f h5)), (39, bT (not_f h5)), (42, bT (not_f h5)), (45, bT (not_f h5)), (49, bT (not_f h5)), (54, bT rfl), (57, bT rfl), (60, bT rfl), (63, uN), (66, uN), (69, uN), (72, uN), (75, uN), (78, uN), (81, uN), (84, uN), (87, uN), (90, uN), (93, uN), (96, uN), (99, uN), (102, uN), (105, bT rfl), (109, bT rfl)], by kernel_rfl⟩
  · rcases bool_cases v8 with h11 | h11
    · replace hF := (cond_t h11).symm.trans hF
      refine aw_cond_h (t := v8) (by kernel_rfl) h11 ?_
      refine aw_seq ?_
      refine rg [] [(2, (aBool false))] [.cells (aLin v1).cells] (by kernel_rfl) ?_
      refine aw_ret (ab_r (at_r (at_r (ab_r (at_r ?_)))))
      have hr := Option.some.inj hF; subst hr; exact ret_ok (by kernel_rfl)
    · replace hF := (cond_f h11).symm.trans hF
      refine aw_cond_g (t := v8) (by kernel_rfl) h11 ?_
      refine aw_skip ?_
      refine ab_n ?_
      refine at_n ?_
      refine re [(5, ⟨_, _, .eq (wrap_nx h3 rfl h2)⟩)] [(3, (aInt ((v2 + 1 : Nat) : Int))), (10, (aInt ((v2 + 1 : Nat) : Int))), (9, (aInt (v2 : Int)))] [.cells (aLin v1).cells] (by kernel_rfl) ?_
      refine at_n ?_
      exact ⟨(v2 + 1, v5), by kernel_rfl, ⟨drop_nx h3, hF⟩, Nat.lt_succ_self _⟩
def g_brocaderef14_formed_L2 (N : Nat) (cL1 : Option Bool) : List LinD → Nat → Option Bool
 | [], _ =>
  cL1
 | v13 :: v14, v11 =>
  Option.bind (g_brocadebase_LinRight N v13) fun v15 =>
  bif v15 then
   (g_brocaderef14_formed_L2 N cL1 v14 (v11 + 1))
  else
   some false
def g_brocaderef14_formed_L1 (N : Nat) : List IndexD → Nat → Option Bool
 | [], _ =>
  some true
 | v8 :: v9, v6 =>
  Option.bind (g_brocadebase_LinRight N v8.xLin) fun v10 =>
  bif v10 then
   g_brocaderef14_formed_L2 N (g_brocaderef14_formed_L1 N v9 (v6 + 1)) v8.xAt 0
  else
   some false
def g_brocaderef14_formed (N : Nat) (v1 : ExprD) : Option Bool :=
 Option.bind (bif (v1.xOp == (1 : Int)) then Option.bind (g_brocadebase_Val N v1.xType v1.xVal) fun v2 =>
 (bif v2 then Option.bind (g_brocadebase_LinRight N v1.xLin) fun v3 =>
 some (!v3) else some true) else Option.bind (g_brocadebase_LinRight N v1.xLin) fun v4 =>
 some (!v4)) fun v5 =>
 bif v5 then
  some false
 else
  g_brocaderef14_formed_L1 N v1.xIdx 0
theorem g_brocaderef14_formed_ok (N : Nat) (v1 : ExprD) (r : Bool) (hF : g_brocaderef14_formed N v1 = some r) : AFn Tryz.prog 121 [(aExpr v1)] (· = (aBool r)) := by
 rw [g_brocaderef14_formed] at hF
 refine afn_of Tryz.func121 rfl (by kernel_rfl) ?_
 refine aw_cut [0] 0 (Nat.le_refl _) (s' := ⟨59, [(0, (aExpr v1))], []⟩) (by kernel_rfl) ?_
 refine aw_seq ?_
 refine rg [] [(1, (.ptr 0 0))] [.cells (aExpr v1).cells] (by kernel_rfl) ?_
 refine aw_seq ?_
 refine aw_seq ?_
 obtain ⟨v5, h6, hF⟩ := bind_some hF
 refine rgE [(21, (aBool v5))] [.cells (aExpr v1).cells] ?_ ?_
 · rcases bool_cases (v1.xOp == (1 : Int)) with h1 | h1
   · replace h6 := (cond_t h1).symm.trans h6
     obtain ⟨v2, h2, h6⟩ := bind_some h6
     rcases bool_cases v2 with h3 | h3
     · replace h6 := (cond_t h3).symm.trans h6
       obtain ⟨v3, h4, h6⟩ := bind_some h6
       have he := Option.some.inj h6; subst he; exact ⟨[(12, bT h1), (15, bT h1), (18, bT h1), (21, bT h1), (24, bT h1), (25, cL (g_brocadebase_Val_ok N v1.xType v1.xVal v2 h2)), (27, bT h1), (31, bT h1), (36, bF (not_t h3)), (39, bF (not_t h3)), (42, bF (not_t h3)), (43, cL (g_brocadebase_LinRight_ok N v1.xLin v3 h4)), (45, bF (not_t h3)), (49, bF (not_t h3))], by kernel_rfl⟩
     · replace h6 := (cond_f h3).symm.trans h6
       have he := Option.some.inj h6; subst he; exact ⟨[(12, bT h1), (15, bT h1), (18, bT h1), (21, bT h1), (24, bT h1), (25, cL (g_brocadebase_Val_ok N v1.xType v1.xVal v2 h2)), (27, bT h1), (31, bT h1), (36, bT (not_f h3)), (39, bT (not_f h3)), (42, bT (not_f h3)), (45, bT (not_f h3)), (49, bT (not_f h3))], by kernel_rfl⟩
   · replace h6 := (cond_f h1).symm.trans h6
     obtain ⟨v4, h5, h6⟩ := bind_some h6
     have he := Option.some.inj h6; subst he; exact ⟨[(12, bF h1), (15, bF h1), (18, bF h1), (21, bF h1), (24, bF h1), (27, bF h1), (31, bF h1), (36, bF rfl), (39, bF rfl), (42, bF rfl), (43, cL (g_brocadebase_LinRight_ok N v1.xLin v4 h5)), (45, bF rfl), (49, bF rfl)], by kernel_rfl⟩
 · rcases bool_cases v5 with h7 | h7
   · replace hF := (cond_t h7).symm.trans hF
     refine aw_cond_h (t := v5) (by kernel_rfl) h7 ?_
     refine aw_seq ?_
     refine rg [] [(2, (aBool false))] [.cells (aExpr v1).cells] (by kernel_rfl) ?_
     refine aw_ret (at_r ?_)
     have hr := Option.some.inj hF; subst hr; exact ret_ok (by kernel_rfl)
   · replace hF := (cond_f h7).symm.trans hF
     refine aw_cond_g (t := v5) (by kernel_rfl) h7 ?_
     refine aw_skip ?_
     refine at_n ?_
     refine aw_seq ?_
     refine aw_seq ?_
     refine rg [] [(3, (aInt (0 : Int)))] [.cells (aExpr v1).cells] (by kernel_rfl) ?_
     refine aw_block ?_
     refine aw_okB 0 11 (dIndexs v1.xIdx) (by kernel_rfl) fun h8 => ?_
     have h9 : v1.xIdx.length ≤ maxLen := by rw [← dIndexs_len]; exact ok_len h8
     refine aw_loopC [1, 3] 1 (fun ((v6, v7) : Nat × (List IndexD)) => ⟨59, [(1, (.ptr 0 0)), (3, (aInt (v6 : Int)))], [.cells (aExpr v1).cells]⟩) (fun ((v6, v7) : Nat × (List IndexD)) => v1.xIdx.drop v6 = v7 ∧ g_brocaderef14_formed_L1 N v7 v6 = some r) (fun ((v6, v7) : Nat × (List IndexD)) => v7.length) (0, v1.xIdx) (Nat.le_of_ble_eq_true rfl) (by kernel_rfl) ⟨rfl, hF⟩ ?_
     rintro ⟨v6, v7⟩ ⟨h10, hF⟩
     cases v7 with
     | nil =>
      rw [g_brocaderef14_formed_L1] at hF
      refine aw_seq ?_
      refine aw_seq ?_
      refine rg [(10, ⟨_, _, .len (xs := dIndexs v1.xIdx) dIndexs_len⟩)] [(26, (aBool (decide ((v6 : Int) < (v1.xIdx.length : Int)))))] [.cells (aExpr v1).cells] (by kernel_rfl) ?_
      refine aw_cond_g (t := (decide ((v6 : Int) < (v1.xIdx.length : Int)))) (by kernel_rfl) (lt_f h10) ?_
      refine aw_exit (at_e (at_e (ab_y rfl ?_)))
      refine at_n ?_
      refine aw_seq ?_
      refine rg [] [(2, (aBool true))] [.cells (aExpr v1).cells] (by kernel_rfl) ?_
      refine aw_ret ?_
      have hr := Option.some.inj hF; subst hr; exact ret_ok (by kernel_rfl)
     | cons v8 v9 =>
      rw [g_brocaderef14_formed_L1] at hF
      refine aw_seq ?_
      refine aw_seq ?_
      refine rg [(10, ⟨_, _, .len (xs := dIndexs v1.xIdx) dIndexs_len⟩)] [(26, (aBool (decide ((v6 : Int) < (v1.xIdx.length : Int)))))] [.cells (aExpr v1).cells] (by kernel_rfl) ?_
      refine aw_cond_h (t := (decide ((v6 : Int) < (v1.xIdx.length : Int)))) (by kernel_rfl) (lt_t h10) ?_
      refine aw_skip ?_
      refine at_n ?_
      refine aw_seq ?_
      refine aw_block ?_
      refine aw_seq ?_
      refine aw_seq ?_
      obtain ⟨v10, h11, hF⟩ := bind_some hF
      refine rg [(10, ⟨_, _, .el (xs := dIndexs v1.xIdx) (i := (v6 : Int)) (Int.natCast_nonneg _) (dIndexs_get (drop_get h10))⟩), (19, cL (g_brocadebase_LinRight_ok N v8.xLin v10 h11))] [(36, (aBool (!v10)))] [.cells (aExpr v1).cells] (by kernel_rfl) ?_
      rcases bool_cases v10 with h12 | h12
      · replace hF := (cond_t h12).symm.trans hF
        refine aw_cond_g (t := (!v10)) (by kernel_rfl) (not_t h12) ?_
        refine aw_skip ?_
        refine at_n ?_
        refine aw_seq ?_
        refine rg [] [(4, (aInt (0 : Int)))] [.cells (aExpr v1).cells] (by kernel_rfl) ?_
        refine aw_block ?_
        refine aw_okB 0 11 (dIndexs v1.xIdx) (by kernel_rfl) fun h13 => ?_
        have h14 : v8.xAt.length ≤ maxLen := by rw [← dLins_len]; exact ok_len (ok_el (j := 3) (d := .sl (dLins v8.xAt)) h13 (dIndexs_get (drop_get h10)) rfl)
        refine aw_loopC [1, 3, 4] 1 (fun ((v11, v12) : Nat × (List LinD)) => ⟨59, [(1, (.ptr 0 0)), (3, (aInt (v6 : Int))), (4, (aInt (v11 : Int)))], [.cells (aExpr v1).cells]⟩) (fun ((v11, v12) : Nat × (List LinD)) => v8.xAt.drop v11 = v12 ∧ g_brocaderef14_formed_L2 N (g_brocaderef14_formed_L1 N v9 (v6 + 1)) v12 v11 = some r) (fun ((v11, v12) : Nat × (List LinD)) => v12.length) (0, v8.xAt) (Nat.le_of_ble_eq_true rfl) (by kernel_rfl) ⟨rfl, hF⟩ ?_
        rintro ⟨v11, v12⟩ ⟨h15, hF⟩
        cases v12 with
        | nil =>
         rw [g_brocaderef14_formed_L2] at hF
         refine aw_seq ?_
         refine aw_seq ?_
         refine rg [(13, ⟨_, _, .el (xs := dIndexs v1.xIdx) (i := (v6 : Int)) (Int.natCast_nonneg _) (dIndexs_get (drop_get h10))⟩), (22, ⟨_, _, .len (xs := dLins v8.xAt) dLins_len⟩)] [(45, (aBool (decide ((v11 : Int) < (v8.xAt.length : Int)))))] [.cells (aExpr v1).cells] (by kernel_rfl) ?_
         refine aw_cond_g (t := (decide ((v11 : Int) < (v8.xAt.length : Int)))) (by kernel_rfl) (lt_f h15) ?_
         refine aw_exit (at_e (at_e (ab_y rfl ?_)))
         refine ab_n ?_
         refine at_n ?_
         refine re [(5, ⟨_, _, .eq (wrap_nx h10 rfl h9)⟩)] [(3, (aInt ((v6 + 1 : Nat) : Int))), (28, (aInt ((v6 + 1 : Nat) : Int))), (27, (aInt (v6 : Int)))] [.cells (aExpr v1).cells] (by kernel_rfl) ?_
         refine at_n ?_
         exact ⟨(v6 + 1, v9), by kernel_rfl, ⟨drop_nx h10, hF⟩, Nat.lt_succ_self _⟩
        | cons v13 v14 =>
         rw [g_brocaderef14_formed_L2] at hF
         refine aw_seq ?_
         refine aw_seq ?_
         refine rg [(13, ⟨_, _, .el (xs := dIndexs v1.xIdx) (i := (v6 : Int)) (Int.natCast_nonneg _) (dIndexs_get (drop_get h10))⟩), (22, ⟨_, _, .len (xs := dLins v8.xAt) dLins_len⟩)] [(45, (aBool (decide ((v11 : Int) < (v8.xAt.length : Int)))))] [.cells (aExpr v1).cells] (by kernel_rfl) ?_
         refine aw_cond_h (t := (decide ((v11 : Int) < (v8.xAt.length : Int)))) (by kernel_rfl) (lt_t h15) ?_
         refine aw_skip ?_
         refine at_n ?_
         refine aw_seq ?_
         refine aw_block ?_
         refine aw_seq ?_
         obtain ⟨v15, h16, hF⟩ := bind_some hF
         refine rg [(10, ⟨_, _, .el (xs := dIndexs v1.xIdx) (i := (v6 : Int)) (Int.natCast_nonneg _) (dIndexs_get (drop_get h10))⟩), (22, ⟨_, _, .el (xs := dLins v8.xAt) (i := (v11 : Int)) (Int.natCast_nonneg _) (dLins_get (drop_get h15))⟩), (28, cL (g_brocadebase_LinRight_ok N v13 v15 h16))] [(58, (aBool (!v15)))] [.cells (aExpr v1).cells] (by kernel_rfl) ?_
         rcases bool_cases v15 with h17 | h17
         · replace hF := (cond_t h17).symm.trans hF
           refine aw_cond_g (t := (!v15)) (by kernel_rfl) (not_t h17) ?_
           refine aw_skip ?_
           refine ab_n ?_
           refine at_n ?_
           refine re [(5, ⟨_, _, .eq (wrap_nx h15 rfl h14)⟩)] [(4, (aInt ((v11 + 1 : Nat) : Int))), (47, (aInt ((v11 + 1 : Nat) : Int))), (46, (aInt (v11 : Int)))] [.cells (aExpr v1).cells] (by kernel_rfl) ?_
           refine at_n ?_
           exact ⟨(v11 + 1, v14), by kernel_rfl, ⟨drop_nx h15, hF⟩, Nat.lt_succ_self _⟩
         · replace hF := (cond_f h17).symm.trans hF
           refine aw_cond_h (t := (!v15)) (by kernel_rfl) (not_f h17) ?_
           refine aw_seq ?_
           refine rg [] [(2, (aBool false))] [.cells (aExpr v1).cells] (by kernel_rfl) ?_
           refine aw_ret (ab_r (at_r (at_r (ab_r (ab_r (at_r (at_r (ab_r (at_r ?_)))))))))
           have hr := Option.some.inj hF; subst hr; exact ret_ok (by kernel_rfl)
      · replace hF := (cond_f h12).symm.trans hF
        refine aw_cond_h (t := (!v10)) (by kernel_rfl) (not_f h12) ?_
        refine aw_seq ?_
        refine rg [] [(2, (aBool false))] [.cells (aExpr v1).cells] (by kernel_rfl) ?_
        refine aw_ret (at_r (ab_r (at_r (at_r (ab_r (at_r ?_))))))
        have hr := Option.some.inj hF; subst hr; exact ret_ok (by kernel_rfl)
def g_brocaderef14_part_L1 (N : Nat) (rec55 : ExprD → Option Int) : List ExprD → Nat → Option Int
 | [], _ =>
  some (0 : Int)
 | v9 :: v10, v7 =>
  Option.bind (rec55 v9) fun v11 =>
  bif (v11 != (0 : Int)) then
   some v11
  else
   (g_brocaderef14_part_L1 N rec55 v10 (v7 + 1))
def g_brocaderef14_partR (N : Nat) : Nat → ExprD → Option Int
 | 0, _ => none
 | d + 1, v1 =>
  Option.bind (g_brocaderef14_plain N v1) fun v2 =>
  bif v2 then
   Option.bind (g_brocaderef14_named N v1) fun v3 =>
   bif v3 then
    Option.bind (g_brocaderef14_ranked N v1) fun v4 =>
    bif v4 then
     Option.bind (g_brocaderef14_typed N v1) fun v5 =>
     bif v5 then
      Option.bind (g_brocaderef14_formed N v1) fun v6 =>
      bif v6 then
       g_brocaderef14_part_L1 N (g_brocaderef14_partR N d) v1.xArgs 0
      else
       some (1 : Int)
     else
      some (10 : Int)
    else
     some (11 : Int)
   else
    some (7 : Int)
  else
   some (5 : Int)
def g_brocaderef14_part (N : Nat) (v1 : ExprD) : Option Int := g_brocaderef14_partR N N v1
theorem g_brocaderef14_partR_all (N : Nat) : ∀ d : Nat, (∀ (v1 : ExprD) (r : Int), g_brocaderef14_partR N d v1 = some r → AFn Tryz.prog 62 [(aExpr v1)] (· = (aInt r))) := by
 intro d
 induction d with
 | zero => intro v1 r hF; rw [g_brocaderef14_partR] at hF; cases hF
 | succ d ih =>
  have ih55 := ih
  intro v1 r hF
  rw [g_brocaderef14_partR] at hF
  refine afn_of Tryz.func62 rfl (by kernel_rfl) ?_
  refine aw_cut [0] 0 (Nat.le_refl _) (s' := ⟨41, [(0, (aExpr v1))], []⟩) (by kernel_rfl) ?_
  refine aw_seq ?_
  refine rg [] [(1, (.ptr 0 0))] [.cells (aExpr v1).cells] (by kernel_rfl) ?_
  refine aw_seq ?_
  refine aw_block ?_
  refine aw_seq ?_
  obtain ⟨v2, h1, hF⟩ := bind_some hF
  refine rg [(4, cL (g_brocaderef14_plain_ok N v1 v2 h1))] [(5, (aBool (!v2)))] [.cells (aExpr v1).cells] (by kernel_rfl) ?_
  rcases bool_cases v2 with h2 | h2
  · replace hF := (cond_t h2).symm.trans hF
    refine aw_cond_g (t := (!v2)) (by kernel_rfl) (not_t h2) ?_
    refine aw_seq ?_
    obtain ⟨v3, h3, hF⟩ := bind_some hF
    refine rg [(4, cL (g_brocaderef14_named_ok N v1 v3 h3))] [(9, (aBool (!v3)))] [.cells (aExpr v1).cells] (by kernel_rfl) ?_
    rcases bool_cases v3 with h4 | h4
    · replace hF := (cond_t h4).symm.trans hF
      refine aw_cond_g (t := (!v3)) (by kernel_rfl) (not_t h4) ?_
      refine aw_seq ?_
      obtain ⟨v4, h5, hF⟩ := bind_some hF
      refine rg [(4, cL (g_brocaderef14_ranked_ok N v1 v4 h5))] [(13, (aBool (!v4)))] [.cells (aExpr v1).cells] (by kernel_rfl) ?_
      rcases bool_cases v4 with h6 | h6
      · replace hF := (cond_t h6).symm.trans hF
        refine aw_cond_g (t := (!v4)) (by kernel_rfl) (not_t h6) ?_
        refine aw_seq ?_
        obtain ⟨v5, h7, hF⟩ := bind_some hF
        refine rg [(4, cL (g_brocaderef14_typed_ok N v1 v5 h7))] [(17, (aBool (!v5)))] [.cells (aExpr v1).cells] (by kernel_rfl) ?_
        rcases bool_cases v5 with h8 | h8
        · replace hF := (cond_t h8).symm.trans hF
          refine aw_cond_g (t := (!v5)) (by kernel_rfl) (not_t h8) ?_
          refine aw_seq ?_
          obtain ⟨v6, h9, hF⟩ := bind_some hF
          refine rg [(4, cL (g_brocaderef14_formed_ok N v1 v6 h9))] [(21, (aBool (!v6)))] [.cells (aExpr v1).cells] (by kernel_rfl) ?_
          rcases bool_cases v6 with h10 | h10
          · replace hF := (cond_t h10).symm.trans hF
            refine aw_cond_g (t := (!v6)) (by kernel_rfl) (not_t h10) ?_
            refine aw_skip ?_
            refine ab_n ?_
            refine at_n ?_
            refine aw_seq ?_
            refine aw_seq ?_
            refine rg [] [(3, (aInt (0 : Int)))] [.cells (aExpr v1).cells] (by kernel_rfl) ?_
            refine aw_block ?_
            refine aw_okB 0 12 (dExprs v1.xArgs) (by kernel_rfl) fun h11 => ?_
            have h12 : v1.xArgs.length ≤ maxLen := by rw [← dExprs_len]; exact ok_len h11
            refine aw_loopC [1, 3] 1 (fun ((v7, v8) : Nat × (List ExprD)) => ⟨41, [(1, (.ptr 0 0)), (3, (aInt (v7 : Int)))], [.cells (aExpr v1).cells]⟩) (fun ((v7, v8) : Nat × (List ExprD)) => v1.xArgs.drop v7 = v8 ∧ g_brocaderef14_part_L1 N (g_brocaderef14_partR N d) v8 v7 = some r) (fun ((v7, v8) : Nat × (List ExprD)) => v8.length) (0, v1.xArgs) (Nat.le_of_ble_eq_true rfl) (by kernel_rfl) ⟨rfl, hF⟩ ?_
            rintro ⟨v7, v8⟩ ⟨h13, hF⟩
            cases v8 with
            | nil =>
             rw [g_brocaderef14_part_L1] at hF
             refine aw_seq ?_
             refine aw_seq ?_
             refine rg [(10, ⟨_, _, .len (xs := dExprs v1.xArgs) dExprs_len⟩)] [(29, (aBool (decide ((v7 : Int) < (v1.xArgs.length : Int)))))] [.cells (aExpr v1).cells] (by kernel_rfl) ?_
             refine aw_cond_g (t := (decide ((v7 : Int) < (v1.xArgs.length : Int)))) (by kernel_rfl) (lt_f h13) ?_
             refine aw_exit (at_e (at_e (ab_y rfl ?_)))
             refine at_n ?_
             refine aw_seq ?_
             refine rg [] [(2, (aInt (0 : Int)))] [.cells (aExpr v1).cells] (by kernel_rfl) ?_
             refine aw_ret ?_
             have hr := Option.some.inj hF; subst hr; exact ret_ok (by kernel_rfl)
            | cons v9 v10 =>
             rw [g_brocaderef14_part_L1] at hF
             refine aw_seq ?_
             refine aw_seq ?_
             refine rg [(10, ⟨_, _, .len (xs := dExprs v1.xArgs) dExprs_len⟩)] [(29, (aBool (decide ((v7 : Int) < (v1.xArgs.length : Int)))))] [.cells (aExpr v1).cells] (by kernel_rfl) ?_
             refine aw_cond_h (t := (decide ((v7 : Int) < (v1.xArgs.length : Int)))) (by kernel_rfl) (lt_t h13) ?_
             refine aw_skip ?_
             refine at_n ?_
             refine aw_seq ?_
             refine aw_block ?_
             refine aw_seq ?_
             obtain ⟨v11, h14, hF⟩ := bind_some hF
             refine rg [(10, ⟨_, _, .el (xs := dExprs v1.xArgs) (i := (v7 : Int)) (Int.natCast_nonneg _) (dExprs_get (drop_get h13))⟩), (16, cL (ih55 v9 v11 h14))] [(4, (aInt v11))] [.cells (aExpr v1).cells] (by kernel_rfl) ?_
             refine aw_seq ?_
             refine rg [] [(39, (aBool (v11 != (0 : Int))))] [.cells (aExpr v1).cells] (by kernel_rfl) ?_
             rcases bool_cases (v11 != (0 : Int)) with h15 | h15
             · replace hF := (cond_t h15).symm.trans hF
               refine aw_cond_h (t := (v11 != (0 : Int))) (by kernel_rfl) h15 ?_
               refine aw_seq ?_
               refine rg [] [(2, (aInt v11))] [.cells (aExpr v1).cells] (by kernel_rfl) ?_
               refine aw_ret (ab_r (at_r (at_r (ab_r (at_r ?_)))))
               have hr := Option.some.inj hF; subst hr; exact ret_ok (by kernel_rfl)
             · replace hF := (cond_f h15).symm.trans hF
               refine aw_cond_g (t := (v11 != (0 : Int))) (by kernel_rfl) h15 ?_
               refine aw_skip ?_
               refine ab_n ?_
               refine at_n ?_
               refine re [(5, ⟨_, _, .eq (wrap_nx h13 rfl h12)⟩)] [(3, (aInt ((v7 + 1 : Nat) : Int))), (31, (aInt ((v7 + 1 : Nat) : Int))), (30, (aInt (v7 : Int)))] [.cells (aExpr v1).cells] (by kernel_rfl) ?_
               refine at_n ?_
               exact ⟨(v7 + 1, v10), by kernel_rfl, ⟨drop_nx h13, hF⟩, Nat.lt_succ_self _⟩
          · replace hF := (cond_f h10).symm.trans hF
            refine aw_cond_h (t := (!v6)) (by kernel_rfl) (not_f h10) ?_
            refine aw_seq ?_
            refine rg [] [(2, (aInt (1 : Int)))] [.cells (aExpr v1).cells] (by kernel_rfl) ?_
            refine aw_ret (ab_r (at_r ?_))
            have hr := Option.some.inj hF; subst hr; exact ret_ok (by kernel_rfl)
        · replace hF := (cond_f h8).symm.trans hF
          refine aw_cond_h (t := (!v5)) (by kernel_rfl) (not_f h8) ?_
          refine aw_seq ?_
          refine rg [] [(2, (aInt (10 : Int)))] [.cells (aExpr v1).cells] (by kernel_rfl) ?_
          refine aw_ret (ab_r (at_r ?_))
          have hr := Option.some.inj hF; subst hr; exact ret_ok (by kernel_rfl)
      · replace hF := (cond_f h6).symm.trans hF
        refine aw_cond_h (t := (!v4)) (by kernel_rfl) (not_f h6) ?_
        refine aw_seq ?_
        refine rg [] [(2, (aInt (11 : Int)))] [.cells (aExpr v1).cells] (by kernel_rfl) ?_
        refine aw_ret (ab_r (at_r ?_))
        have hr := Option.some.inj hF; subst hr; exact ret_ok (by kernel_rfl)
    · replace hF := (cond_f h4).symm.trans hF
      refine aw_cond_h (t := (!v3)) (by kernel_rfl) (not_f h4) ?_
      refine aw_seq ?_
      refine rg [] [(2, (aInt (7 : Int)))] [.cells (aExpr v1).cells] (by kernel_rfl) ?_
      refine aw_ret (ab_r (at_r ?_))
      have hr := Option.some.inj hF; subst hr; exact ret_ok (by kernel_rfl)
  · replace hF := (cond_f h2).symm.trans hF
    refine aw_cond_h (t := (!v2)) (by kernel_rfl) (not_f h2) ?_
    refine aw_seq ?_
    refine rg [] [(2, (aInt (5 : Int)))] [.cells (aExpr v1).cells] (by kernel_rfl) ?_
    refine aw_ret (ab_r (at_r ?_))
    have hr := Option.some.inj hF; subst hr; exact ret_ok (by kernel_rfl)
theorem g_brocaderef14_part_ok (N : Nat) (v1 : ExprD) (r : Int) (hF : g_brocaderef14_part N v1 = some r) : AFn Tryz.prog 62 [(aExpr v1)] (· = (aInt r)) := (g_brocaderef14_partR_all N N) v1 r hF
def g_brocaderef14_Validate (N : Nat) (v1 : ExprD) : Option Int :=
 Option.bind (g_brocaderef14_Depth N v1) fun v2 =>
 bif (decide (v2 > (40 : Int))) then
  some (13 : Int)
 else
  Option.bind (g_brocaderef14_Size N v1) fun v3 =>
  bif (decide (v3 > (2000 : Int))) then
   some (2 : Int)
  else
   Option.bind (g_brocaderef14_part N v1) fun v4 =>
   some v4
theorem g_brocaderef14_Validate_ok (N : Nat) (v1 : ExprD) (r : Int) (hF : g_brocaderef14_Validate N v1 = some r) : AFn Tryz.prog 32 [(aExpr v1)] (· = (aInt r)) := by
 rw [g_brocaderef14_Validate] at hF
 refine afn_of Tryz.func32 rfl (by kernel_rfl) ?_
 refine aw_cut [0] 0 (Nat.le_refl _) (s' := ⟨11, [(0, (aExpr v1))], []⟩) (by kernel_rfl) ?_
 refine aw_seq ?_
 refine rg [] [(1, (.ptr 0 0))] [.cells (aExpr v1).cells] (by kernel_rfl) ?_
 refine aw_seq ?_
 refine aw_seq ?_
 obtain ⟨v2, h1, hF⟩ := bind_some hF
 refine rg [(4, cL (g_brocaderef14_Depth_ok N v1 v2 h1))] [(5, (aBool (decide (v2 > (40 : Int)))))] [.cells (aExpr v1).cells] (by kernel_rfl) ?_
 rcases bool_cases (decide (v2 > (40 : Int))) with h2 | h2
 · replace hF := (cond_t h2).symm.trans hF
   refine aw_cond_h (t := (decide (v2 > (40 : Int)))) (by kernel_rfl) h2 ?_
   refine aw_seq ?_
   refine rg [] [(2, (aInt (13 : Int)))] [.cells (aExpr v1).cells] (by kernel_rfl) ?_
   refine aw_ret (at_r ?_)
   have hr := Option.some.inj hF; subst hr; exact ret_ok (by kernel_rfl)
 · replace hF := (cond_f h2).symm.trans hF
   refine aw_cond_g (t := (decide (v2 > (40 : Int)))) (by kernel_rfl) h2 ?_
   refine aw_skip ?_
   refine at_n ?_
   refine aw_seq ?_
   refine aw_seq ?_
   obtain ⟨v3, h3, hF⟩ := bind_some hF
   refine rg [(4, cL (g_brocaderef14_Size_ok N v1 v3 h3))] [(8, (aBool (decide (v3 > (2000 : Int)))))] [.cells (aExpr v1).cells] (by kernel_rfl) ?_
   rcases bool_cases (decide (v3 > (2000 : Int))) with h4 | h4
   · replace hF := (cond_t h4).symm.trans hF
     refine aw_cond_h (t := (decide (v3 > (2000 : Int)))) (by kernel_rfl) h4 ?_
     refine aw_seq ?_
     refine rg [] [(2, (aInt (2 : Int)))] [.cells (aExpr v1).cells] (by kernel_rfl) ?_
     refine aw_ret (at_r ?_)
     have hr := Option.some.inj hF; subst hr; exact ret_ok (by kernel_rfl)
   · replace hF := (cond_f h4).symm.trans hF
     refine aw_cond_g (t := (decide (v3 > (2000 : Int)))) (by kernel_rfl) h4 ?_
     refine aw_skip ?_
     refine at_n ?_
     refine aw_seq ?_
     obtain ⟨v4, h5, hF⟩ := bind_some hF
     refine rg [(4, cL (g_brocaderef14_part_ok N v1 v4 h5))] [(2, (aInt v4))] [.cells (aExpr v1).cells] (by kernel_rfl) ?_
     refine aw_ret ?_
     have hr := Option.some.inj hF; subst hr; exact ret_ok (by kernel_rfl)
end Go.Proofs.YtnedgkfefdldeaaGreatDoor

/-! Clones: slices.Clone at each type hands back the list. Written by a program (mkclone.py). -/
namespace Go.Proofs.YtnedgkfefdldeaaGreatDoor
open Go.RowKit
set_option maxRecDepth 100000
theorem clone_57 {xs : List (List D)} (hk : ∀ c ∈ xs, c.length = 2) (hm : xs.length ≤ maxLen) (hb : xs.length * 24 ≤ 140737488355328) : AFn Tryz.prog 57 [.d (.sl xs)] (· = .d (.sl xs)) := by
  refine afn_of Tryz.func57 rfl (by kernel_rfl) ?_
  refine aw_cut [0] 0 (Nat.le_refl _) (s' := ⟨8, [(0, .d (.sl xs))], []⟩) (by kernel_rfl) ?_
  refine aw_seq ?_
  refine rg [] [] [] (by kernel_rfl) ?_
  repeat refine aw_seq ?_
  refine aw_region ?_
  refine ao_cons rfl ?_
  refine op_s (x := .d (.sl xs)) (by kernel_rfl) rfl rfl ?_
  refine ao_cons rfl ?_
  refine op_nil (xs := xs) (q := (100, 2)) rfl rfl rfl (by kernel_rfl) rfl rfl (fun he => ?_) ?_
  · subst he
    refine at_n ?_
    refine aw_cond_t (by kernel_rfl) ?_
    repeat refine aw_seq ?_
    refine rg [] [(2, .d (.v (.slice none 0 0)))] [] (by kernel_rfl) ?_
    refine aw_ret ?_
    repeat (first | (with_reducible refine at_r ?_) | (with_reducible refine ab_r ?_))
    exact ret_ok (by kernel_rfl)
  · refine at_n ?_
    refine aw_cond_f (by kernel_rfl) ?_
    refine aw_skip ?_
    refine at_n ?_
    repeat refine aw_seq ?_
    refine rg [(7, ⟨_, _, .app (xs := []) (ys := xs) (zs := xs) (len := 0) (k := 2) (by_ := 24) (n := xs.length) rfl (fun _ hc => absurd hc List.not_mem_nil) hk (by simpa using hm) (by simpa using hb) rfl (by simp)⟩)] [(2, .own 0 xs)] [.front 100 2 xs.length] (by kernel_rfl) ?_
    refine aw_ret ?_
    repeat (first | (with_reducible refine at_r ?_) | (with_reducible refine ab_r ?_))
    exact ret_ok (by kernel_rfl)
theorem clone_72 {xs : List (List D)} (hk : ∀ c ∈ xs, c.length = 1) (hm : xs.length ≤ maxLen) (hb : xs.length * 16 ≤ 140737488355328) : AFn Tryz.prog 72 [.d (.sl xs)] (· = .d (.sl xs)) := by
  refine afn_of Tryz.func72 rfl (by kernel_rfl) ?_
  refine aw_cut [0] 0 (Nat.le_refl _) (s' := ⟨8, [(0, .d (.sl xs))], []⟩) (by kernel_rfl) ?_
  refine aw_seq ?_
  refine rg [] [] [] (by kernel_rfl) ?_
  repeat refine aw_seq ?_
  refine aw_region ?_
  refine ao_cons rfl ?_
  refine op_s (x := .d (.sl xs)) (by kernel_rfl) rfl rfl ?_
  refine ao_cons rfl ?_
  refine op_nil (xs := xs) (q := (9, 1)) rfl rfl rfl (by kernel_rfl) rfl rfl (fun he => ?_) ?_
  · subst he
    refine at_n ?_
    refine aw_cond_t (by kernel_rfl) ?_
    repeat refine aw_seq ?_
    refine rg [] [(2, .d (.v (.slice none 0 0)))] [] (by kernel_rfl) ?_
    refine aw_ret ?_
    repeat (first | (with_reducible refine at_r ?_) | (with_reducible refine ab_r ?_))
    exact ret_ok (by kernel_rfl)
  · refine at_n ?_
    refine aw_cond_f (by kernel_rfl) ?_
    refine aw_skip ?_
    refine at_n ?_
    repeat refine aw_seq ?_
    refine rg [(7, ⟨_, _, .app (xs := []) (ys := xs) (zs := xs) (len := 0) (k := 1) (by_ := 16) (n := xs.length) rfl (fun _ hc => absurd hc List.not_mem_nil) hk (by simpa using hm) (by simpa using hb) rfl (by simp)⟩)] [(2, .own 0 xs)] [.front 9 1 xs.length] (by kernel_rfl) ?_
    refine aw_ret ?_
    repeat (first | (with_reducible refine at_r ?_) | (with_reducible refine ab_r ?_))
    exact ret_ok (by kernel_rfl)
theorem clone_98 {xs : List (List D)} (hk : ∀ c ∈ xs, c.length = 4) (hm : xs.length ≤ maxLen) (hb : xs.length * 72 ≤ 140737488355328) : AFn Tryz.prog 98 [.d (.sl xs)] (· = .d (.sl xs)) := by
  refine afn_of Tryz.func98 rfl (by kernel_rfl) ?_
  refine aw_cut [0] 0 (Nat.le_refl _) (s' := ⟨8, [(0, .d (.sl xs))], []⟩) (by kernel_rfl) ?_
  refine aw_seq ?_
  refine rg [] [] [] (by kernel_rfl) ?_
  repeat refine aw_seq ?_
  refine aw_region ?_
  refine ao_cons rfl ?_
  refine op_s (x := .d (.sl xs)) (by kernel_rfl) rfl rfl ?_
  refine ao_cons rfl ?_
  refine op_nil (xs := xs) (q := (54, 4)) rfl rfl rfl (by kernel_rfl) rfl rfl (fun he => ?_) ?_
  · subst he
    refine at_n ?_
    refine aw_cond_t (by kernel_rfl) ?_
    repeat refine aw_seq ?_
    refine rg [] [(2, .d (.v (.slice none 0 0)))] [] (by kernel_rfl) ?_
    refine aw_ret ?_
    repeat (first | (with_reducible refine at_r ?_) | (with_reducible refine ab_r ?_))
    exact ret_ok (by kernel_rfl)
  · refine at_n ?_
    refine aw_cond_f (by kernel_rfl) ?_
    refine aw_skip ?_
    refine at_n ?_
    repeat refine aw_seq ?_
    refine rg [(7, ⟨_, _, .app (xs := []) (ys := xs) (zs := xs) (len := 0) (k := 4) (by_ := 72) (n := xs.length) rfl (fun _ hc => absurd hc List.not_mem_nil) hk (by simpa using hm) (by simpa using hb) rfl (by simp)⟩)] [(2, .own 0 xs)] [.front 54 4 xs.length] (by kernel_rfl) ?_
    refine aw_ret ?_
    repeat (first | (with_reducible refine at_r ?_) | (with_reducible refine ab_r ?_))
    exact ret_ok (by kernel_rfl)
theorem clone_99 {xs : List (List D)} (hk : ∀ c ∈ xs, c.length = 2) (hm : xs.length ≤ maxLen) (hb : xs.length * 32 ≤ 140737488355328) : AFn Tryz.prog 99 [.d (.sl xs)] (· = .d (.sl xs)) := by
  refine afn_of Tryz.func99 rfl (by kernel_rfl) ?_
  refine aw_cut [0] 0 (Nat.le_refl _) (s' := ⟨8, [(0, .d (.sl xs))], []⟩) (by kernel_rfl) ?_
  refine aw_seq ?_
  refine rg [] [] [] (by kernel_rfl) ?_
  repeat refine aw_seq ?_
  refine aw_region ?_
  refine ao_cons rfl ?_
  refine op_s (x := .d (.sl xs)) (by kernel_rfl) rfl rfl ?_
  refine ao_cons rfl ?_
  refine op_nil (xs := xs) (q := (28, 2)) rfl rfl rfl (by kernel_rfl) rfl rfl (fun he => ?_) ?_
  · subst he
    refine at_n ?_
    refine aw_cond_t (by kernel_rfl) ?_
    repeat refine aw_seq ?_
    refine rg [] [(2, .d (.v (.slice none 0 0)))] [] (by kernel_rfl) ?_
    refine aw_ret ?_
    repeat (first | (with_reducible refine at_r ?_) | (with_reducible refine ab_r ?_))
    exact ret_ok (by kernel_rfl)
  · refine at_n ?_
    refine aw_cond_f (by kernel_rfl) ?_
    refine aw_skip ?_
    refine at_n ?_
    repeat refine aw_seq ?_
    refine rg [(7, ⟨_, _, .app (xs := []) (ys := xs) (zs := xs) (len := 0) (k := 2) (by_ := 32) (n := xs.length) rfl (fun _ hc => absurd hc List.not_mem_nil) hk (by simpa using hm) (by simpa using hb) rfl (by simp)⟩)] [(2, .own 0 xs)] [.front 28 2 xs.length] (by kernel_rfl) ?_
    refine aw_ret ?_
    repeat (first | (with_reducible refine at_r ?_) | (with_reducible refine ab_r ?_))
    exact ret_ok (by kernel_rfl)
theorem clone_100 {xs : List (List D)} (hk : ∀ c ∈ xs, c.length = 13) (hm : xs.length ≤ maxLen) (hb : xs.length * 160 ≤ 140737488355328) : AFn Tryz.prog 100 [.d (.sl xs)] (· = .d (.sl xs)) := by
  refine afn_of Tryz.func100 rfl (by kernel_rfl) ?_
  refine aw_cut [0] 0 (Nat.le_refl _) (s' := ⟨8, [(0, .d (.sl xs))], []⟩) (by kernel_rfl) ?_
  refine aw_seq ?_
  refine rg [] [] [] (by kernel_rfl) ?_
  repeat refine aw_seq ?_
  refine aw_region ?_
  refine ao_cons rfl ?_
  refine op_s (x := .d (.sl xs)) (by kernel_rfl) rfl rfl ?_
  refine ao_cons rfl ?_
  refine op_nil (xs := xs) (q := (32, 13)) rfl rfl rfl (by kernel_rfl) rfl rfl (fun he => ?_) ?_
  · subst he
    refine at_n ?_
    refine aw_cond_t (by kernel_rfl) ?_
    repeat refine aw_seq ?_
    refine rg [] [(2, .d (.v (.slice none 0 0)))] [] (by kernel_rfl) ?_
    refine aw_ret ?_
    repeat (first | (with_reducible refine at_r ?_) | (with_reducible refine ab_r ?_))
    exact ret_ok (by kernel_rfl)
  · refine at_n ?_
    refine aw_cond_f (by kernel_rfl) ?_
    refine aw_skip ?_
    refine at_n ?_
    repeat refine aw_seq ?_
    refine rg [(7, ⟨_, _, .app (xs := []) (ys := xs) (zs := xs) (len := 0) (k := 13) (by_ := 160) (n := xs.length) rfl (fun _ hc => absurd hc List.not_mem_nil) hk (by simpa using hm) (by simpa using hb) rfl (by simp)⟩)] [(2, .own 0 xs)] [.front 32 13 xs.length] (by kernel_rfl) ?_
    refine aw_ret ?_
    repeat (first | (with_reducible refine at_r ?_) | (with_reducible refine ab_r ?_))
    exact ret_ok (by kernel_rfl)
theorem afn_le1 {P : Program} {f : FuncId} {x y r : AV} (hl : AV.Le x y) (hc : AFn P f [y] (· = r)) : AFn P f [x] (· = r) :=
  ⟨hc.1, fun G w vs hi hz hr => hc.2 G w vs hi hz fun i u c hu he => by
    cases i with
    | zero => cases he; exact hl G w u (hr 0 u x hu rfl)
    | succ i => simp at he⟩
def memoC : Memo := fun g args => bif g == 57 then (match args with | [.d (.sl [])] => some (some (.d (.sl []))) | [.d (.v (.slice none 0 0))] => some (some (.d (.sl []))) | [.full []] => some (some (.d (.sl []))) | _ => some none) else bif g == 72 then (match args with | [.d (.sl [])] => some (some (.d (.sl []))) | [.d (.v (.slice none 0 0))] => some (some (.d (.sl []))) | [.full []] => some (some (.d (.sl []))) | _ => some none) else bif g == 98 then (match args with | [.d (.sl [])] => some (some (.d (.sl []))) | [.d (.v (.slice none 0 0))] => some (some (.d (.sl []))) | [.full []] => some (some (.d (.sl []))) | _ => some none) else bif g == 99 then (match args with | [.d (.sl [])] => some (some (.d (.sl []))) | [.d (.v (.slice none 0 0))] => some (some (.d (.sl []))) | [.full []] => some (some (.d (.sl []))) | _ => some none) else bif g == 100 then (match args with | [.d (.sl [])] => some (some (.d (.sl []))) | [.d (.v (.slice none 0 0))] => some (some (.d (.sl []))) | [.full []] => some (some (.d (.sl []))) | _ => some none) else memoK g args
theorem memoC_ok : MemoOK Tryz.prog memoC := fun g args r h => by
  unfold memoC at h
  rcases bif_or h with ⟨hg, h⟩ | ⟨_, h⟩
  · have e : g = 57 := by simpa using hg
    subst e
    split at h
    · cases h
      exact clone_57 (xs := []) (fun _ hc => absurd hc List.not_mem_nil) (Nat.zero_le _) (Nat.zero_le _)
    · cases h
      exact afn_le1 AV.Le.nil (clone_57 (xs := []) (fun _ hc => absurd hc List.not_mem_nil) (Nat.zero_le _) (Nat.zero_le _))
    · cases h
      exact afn_le1 (AV.Le.full []) (clone_57 (xs := []) (fun _ hc => absurd hc List.not_mem_nil) (Nat.zero_le _) (Nat.zero_le _))
    · cases h
  rcases bif_or h with ⟨hg, h⟩ | ⟨_, h⟩
  · have e : g = 72 := by simpa using hg
    subst e
    split at h
    · cases h
      exact clone_72 (xs := []) (fun _ hc => absurd hc List.not_mem_nil) (Nat.zero_le _) (Nat.zero_le _)
    · cases h
      exact afn_le1 AV.Le.nil (clone_72 (xs := []) (fun _ hc => absurd hc List.not_mem_nil) (Nat.zero_le _) (Nat.zero_le _))
    · cases h
      exact afn_le1 (AV.Le.full []) (clone_72 (xs := []) (fun _ hc => absurd hc List.not_mem_nil) (Nat.zero_le _) (Nat.zero_le _))
    · cases h
  rcases bif_or h with ⟨hg, h⟩ | ⟨_, h⟩
  · have e : g = 98 := by simpa using hg
    subst e
    split at h
    · cases h
      exact clone_98 (xs := []) (fun _ hc => absurd hc List.not_mem_nil) (Nat.zero_le _) (Nat.zero_le _)
    · cases h
      exact afn_le1 AV.Le.nil (clone_98 (xs := []) (fun _ hc => absurd hc List.not_mem_nil) (Nat.zero_le _) (Nat.zero_le _))
    · cases h
      exact afn_le1 (AV.Le.full []) (clone_98 (xs := []) (fun _ hc => absurd hc List.not_mem_nil) (Nat.zero_le _) (Nat.zero_le _))
    · cases h
  rcases bif_or h with ⟨hg, h⟩ | ⟨_, h⟩
  · have e : g = 99 := by simpa using hg
    subst e
    split at h
    · cases h
      exact clone_99 (xs := []) (fun _ hc => absurd hc List.not_mem_nil) (Nat.zero_le _) (Nat.zero_le _)
    · cases h
      exact afn_le1 AV.Le.nil (clone_99 (xs := []) (fun _ hc => absurd hc List.not_mem_nil) (Nat.zero_le _) (Nat.zero_le _))
    · cases h
      exact afn_le1 (AV.Le.full []) (clone_99 (xs := []) (fun _ hc => absurd hc List.not_mem_nil) (Nat.zero_le _) (Nat.zero_le _))
    · cases h
  rcases bif_or h with ⟨hg, h⟩ | ⟨_, h⟩
  · have e : g = 100 := by simpa using hg
    subst e
    split at h
    · cases h
      exact clone_100 (xs := []) (fun _ hc => absurd hc List.not_mem_nil) (Nat.zero_le _) (Nat.zero_le _)
    · cases h
      exact afn_le1 AV.Le.nil (clone_100 (xs := []) (fun _ hc => absurd hc List.not_mem_nil) (Nat.zero_le _) (Nat.zero_le _))
    · cases h
      exact afn_le1 (AV.Le.full []) (clone_100 (xs := []) (fun _ hc => absurd hc List.not_mem_nil) (Nat.zero_le _) (Nat.zero_le _))
    · cases h
  exact memoK_ok g args r h
end Go.Proofs.YtnedgkfefdldeaaGreatDoor

/-! Exam: Calls that the chapter's examples make, worked out one by one; then the examples. Written by a program (mktab.py). -/
namespace Go.Proofs.YtnedgkfefdldeaaGreatDoor
open Go.RowKit
set_option maxRecDepth 1000000
set_option maxHeartbeats 0
theorem tab0_run : xPure (exec Tryz.prog memoC 600) Tryz.prog memoC 9 [.agg [.d (.v (.int .i64 (1))), .d (.v (.int .i64 (0))), .d (.v (.int .i64 (0))), .d (.v (.int .i64 (0))), .d (.v (.int .i64 (0)))], .agg [.d (.v (.int .i64 (4))), .d (.v (.string (bs []))), .d (.v (.int .i64 (0))), .d (.v (.int .i64 (0))), .d (.v (.int .i64 (0))), .d (.v (.int .i64 (0))), .d (.v (.int .i64 (0))), .d (.v (.int .i64 (0))), .d (.v (.int .i64 (0))), .d (.v (.int .i64 (0))), .d (.v (.slice none 0 0)), .d (.v (.slice none 0 0)), .full [[.v (.int .i64 (6)), .v (.string (bs [])), .v (.int .i64 (0)), .v (.int .i64 (0)), .v (.int .i64 (0)), .v (.int .i64 (0)), .v (.int .i64 (0)), .v (.int .i64 (0)), .v (.int .i64 (0)), .v (.int .i64 (0)), .sl [], .sl [], .sl [[.v (.int .i64 (3)), .v (.string (bs [97])), .v (.int .i64 (0)), .v (.int .i64 (0)), .v (.int .i64 (0)), .v (.int .i64 (0)), .v (.int .i64 (0)), .v (.int .i64 (0)), .v (.int .i64 (0)), .v (.int .i64 (0)), .sl [], .sl [[.v (.int .i64 (0)), .sl [[.v (.string (bs [105])), .v (.int .i64 (1))]], .v (.string (bs [])), .sl []]], .sl []], [.v (.int .i64 (1)), .v (.string (bs [])), .v (.int .i64 (1)), .v (.int .i64 (1)), .v (.int .i64 (1)), .v (.int .i64 (0)), .v (.int .i64 (0)), .v (.int .i64 (0)), .v (.int .i64 (0)), .v (.int .i64 (0)), .sl [], .sl [], .sl []]]], [.v (.int .i64 (1)), .v (.string (bs [])), .v (.int .i64 (0)), .v (.int .i64 (1)), .v (.int .i64 (1)), .v (.int .i64 (0)), .v (.int .i64 (0)), .v (.int .i64 (0)), .v (.int .i64 (0)), .v (.int .i64 (0)), .sl [], .sl [], .sl []]]]] = some (.tup [.agg [.d (.v (.int .i64 (6))), .d (.v (.string (bs []))), .d (.v (.int .i64 (0))), .d (.v (.int .i64 (0))), .d (.v (.int .i64 (0))), .d (.v (.int .i64 (0))), .d (.v (.int .i64 (0))), .d (.v (.int .i64 (0))), .d (.v (.int .i64 (0))), .d (.v (.int .i64 (0))), .d (.sl []), .d (.sl []), .d (.sl [[.v (.int .i64 (3)), .v (.string (bs [97])), .v (.int .i64 (0)), .v (.int .i64 (0)), .v (.int .i64 (0)), .v (.int .i64 (0)), .v (.int .i64 (0)), .v (.int .i64 (0)), .v (.int .i64 (0)), .v (.int .i64 (0)), .sl [], .sl [[.v (.int .i64 (0)), .sl [[.v (.string (bs [105])), .v (.int .i64 (1))]], .v (.string (bs [])), .sl []]], .sl []], [.v (.int .i64 (1)), .v (.string (bs [])), .v (.int .i64 (1)), .v (.int .i64 (1)), .v (.int .i64 (1)), .v (.int .i64 (0)), .v (.int .i64 (0)), .v (.int .i64 (0)), .v (.int .i64 (0)), .v (.int .i64 (0)), .sl [], .sl [], .sl []]])], .d (.v (.string (bs [122, 101, 114, 111]))), .d (.v (.bool true))]) := by kernel_rfl
theorem tab0_abs : AFn Tryz.prog 9 [.agg [.d (.v (.int .i64 (1))), .d (.v (.int .i64 (0))), .d (.v (.int .i64 (0))), .d (.v (.int .i64 (0))), .d (.v (.int .i64 (0)))], .agg [.d (.v (.int .i64 (4))), .d (.v (.string (bs []))), .d (.v (.int .i64 (0))), .d (.v (.int .i64 (0))), .d (.v (.int .i64 (0))), .d (.v (.int .i64 (0))), .d (.v (.int .i64 (0))), .d (.v (.int .i64 (0))), .d (.v (.int .i64 (0))), .d (.v (.int .i64 (0))), .d (.v (.slice none 0 0)), .d (.v (.slice none 0 0)), .full [[.v (.int .i64 (6)), .v (.string (bs [])), .v (.int .i64 (0)), .v (.int .i64 (0)), .v (.int .i64 (0)), .v (.int .i64 (0)), .v (.int .i64 (0)), .v (.int .i64 (0)), .v (.int .i64 (0)), .v (.int .i64 (0)), .sl [], .sl [], .sl [[.v (.int .i64 (3)), .v (.string (bs [97])), .v (.int .i64 (0)), .v (.int .i64 (0)), .v (.int .i64 (0)), .v (.int .i64 (0)), .v (.int .i64 (0)), .v (.int .i64 (0)), .v (.int .i64 (0)), .v (.int .i64 (0)), .sl [], .sl [[.v (.int .i64 (0)), .sl [[.v (.string (bs [105])), .v (.int .i64 (1))]], .v (.string (bs [])), .sl []]], .sl []], [.v (.int .i64 (1)), .v (.string (bs [])), .v (.int .i64 (1)), .v (.int .i64 (1)), .v (.int .i64 (1)), .v (.int .i64 (0)), .v (.int .i64 (0)), .v (.int .i64 (0)), .v (.int .i64 (0)), .v (.int .i64 (0)), .sl [], .sl [], .sl []]]], [.v (.int .i64 (1)), .v (.string (bs [])), .v (.int .i64 (0)), .v (.int .i64 (1)), .v (.int .i64 (1)), .v (.int .i64 (0)), .v (.int .i64 (0)), .v (.int .i64 (0)), .v (.int .i64 (0)), .v (.int .i64 (0)), .sl [], .sl [], .sl []]]]] (· = .tup [.agg [.d (.v (.int .i64 (6))), .d (.v (.string (bs []))), .d (.v (.int .i64 (0))), .d (.v (.int .i64 (0))), .d (.v (.int .i64 (0))), .d (.v (.int .i64 (0))), .d (.v (.int .i64 (0))), .d (.v (.int .i64 (0))), .d (.v (.int .i64 (0))), .d (.v (.int .i64 (0))), .d (.sl []), .d (.sl []), .d (.sl [[.v (.int .i64 (3)), .v (.string (bs [97])), .v (.int .i64 (0)), .v (.int .i64 (0)), .v (.int .i64 (0)), .v (.int .i64 (0)), .v (.int .i64 (0)), .v (.int .i64 (0)), .v (.int .i64 (0)), .v (.int .i64 (0)), .sl [], .sl [[.v (.int .i64 (0)), .sl [[.v (.string (bs [105])), .v (.int .i64 (1))]], .v (.string (bs [])), .sl []]], .sl []], [.v (.int .i64 (1)), .v (.string (bs [])), .v (.int .i64 (1)), .v (.int .i64 (1)), .v (.int .i64 (1)), .v (.int .i64 (0)), .v (.int .i64 (0)), .v (.int .i64 (0)), .v (.int .i64 (0)), .v (.int .i64 (0)), .sl [], .sl [], .sl []]])], .d (.v (.string (bs [122, 101, 114, 111]))), .d (.v (.bool true))]) := afn_run prog_mixed prog_noGor memoC_ok 600 tab0_run
theorem tab1_run : xPure (exec Tryz.prog memoC 600) Tryz.prog memoC 9 [.agg [.d (.v (.int .i64 (1))), .d (.v (.int .i64 (0))), .d (.v (.int .i64 (0))), .d (.v (.int .i64 (0))), .d (.v (.int .i64 (0)))], .agg [.d (.v (.int .i64 (6))), .d (.v (.string (bs []))), .d (.v (.int .i64 (0))), .d (.v (.int .i64 (0))), .d (.v (.int .i64 (0))), .d (.v (.int .i64 (0))), .d (.v (.int .i64 (0))), .d (.v (.int .i64 (0))), .d (.v (.int .i64 (0))), .d (.v (.int .i64 (0))), .d (.sl []), .d (.sl []), .d (.sl [[.v (.int .i64 (3)), .v (.string (bs [97])), .v (.int .i64 (0)), .v (.int .i64 (0)), .v (.int .i64 (0)), .v (.int .i64 (0)), .v (.int .i64 (0)), .v (.int .i64 (0)), .v (.int .i64 (0)), .v (.int .i64 (0)), .sl [], .sl [[.v (.int .i64 (0)), .sl [[.v (.string (bs [105])), .v (.int .i64 (1))]], .v (.string (bs [])), .sl []]], .sl []], [.v (.int .i64 (1)), .v (.string (bs [])), .v (.int .i64 (1)), .v (.int .i64 (1)), .v (.int .i64 (1)), .v (.int .i64 (0)), .v (.int .i64 (0)), .v (.int .i64 (0)), .v (.int .i64 (0)), .v (.int .i64 (0)), .sl [], .sl [], .sl []]])]] = some (.tup [.agg [.d (.v (.int .i64 (3))), .d (.v (.string (bs [97]))), .d (.v (.int .i64 (0))), .d (.v (.int .i64 (0))), .d (.v (.int .i64 (0))), .d (.v (.int .i64 (0))), .d (.v (.int .i64 (0))), .d (.v (.int .i64 (0))), .d (.v (.int .i64 (0))), .d (.v (.int .i64 (0))), .d (.sl []), .d (.sl [[.v (.int .i64 (0)), .sl [[.v (.string (bs [105])), .v (.int .i64 (1))]], .v (.string (bs [])), .sl []]]), .d (.sl [])], .d (.v (.string (bs [111, 110, 101]))), .d (.v (.bool true))]) := by kernel_rfl
theorem tab1_abs : AFn Tryz.prog 9 [.agg [.d (.v (.int .i64 (1))), .d (.v (.int .i64 (0))), .d (.v (.int .i64 (0))), .d (.v (.int .i64 (0))), .d (.v (.int .i64 (0)))], .agg [.d (.v (.int .i64 (6))), .d (.v (.string (bs []))), .d (.v (.int .i64 (0))), .d (.v (.int .i64 (0))), .d (.v (.int .i64 (0))), .d (.v (.int .i64 (0))), .d (.v (.int .i64 (0))), .d (.v (.int .i64 (0))), .d (.v (.int .i64 (0))), .d (.v (.int .i64 (0))), .d (.sl []), .d (.sl []), .d (.sl [[.v (.int .i64 (3)), .v (.string (bs [97])), .v (.int .i64 (0)), .v (.int .i64 (0)), .v (.int .i64 (0)), .v (.int .i64 (0)), .v (.int .i64 (0)), .v (.int .i64 (0)), .v (.int .i64 (0)), .v (.int .i64 (0)), .sl [], .sl [[.v (.int .i64 (0)), .sl [[.v (.string (bs [105])), .v (.int .i64 (1))]], .v (.string (bs [])), .sl []]], .sl []], [.v (.int .i64 (1)), .v (.string (bs [])), .v (.int .i64 (1)), .v (.int .i64 (1)), .v (.int .i64 (1)), .v (.int .i64 (0)), .v (.int .i64 (0)), .v (.int .i64 (0)), .v (.int .i64 (0)), .v (.int .i64 (0)), .sl [], .sl [], .sl []]])]] (· = .tup [.agg [.d (.v (.int .i64 (3))), .d (.v (.string (bs [97]))), .d (.v (.int .i64 (0))), .d (.v (.int .i64 (0))), .d (.v (.int .i64 (0))), .d (.v (.int .i64 (0))), .d (.v (.int .i64 (0))), .d (.v (.int .i64 (0))), .d (.v (.int .i64 (0))), .d (.v (.int .i64 (0))), .d (.sl []), .d (.sl [[.v (.int .i64 (0)), .sl [[.v (.string (bs [105])), .v (.int .i64 (1))]], .v (.string (bs [])), .sl []]]), .d (.sl [])], .d (.v (.string (bs [111, 110, 101]))), .d (.v (.bool true))]) := afn_run prog_mixed prog_noGor memoC_ok 600 tab1_run
theorem tab2_run : xPure (exec Tryz.prog memoC 600) Tryz.prog memoC 9 [.agg [.d (.v (.int .i64 (1))), .d (.v (.int .i64 (0))), .d (.v (.int .i64 (0))), .d (.v (.int .i64 (0))), .d (.v (.int .i64 (0)))], .agg [.d (.v (.int .i64 (3))), .d (.v (.string (bs [97]))), .d (.v (.int .i64 (0))), .d (.v (.int .i64 (0))), .d (.v (.int .i64 (0))), .d (.v (.int .i64 (0))), .d (.v (.int .i64 (0))), .d (.v (.int .i64 (0))), .d (.v (.int .i64 (0))), .d (.v (.int .i64 (0))), .d (.sl []), .d (.sl [[.v (.int .i64 (0)), .sl [[.v (.string (bs [105])), .v (.int .i64 (1))]], .v (.string (bs [])), .sl []]]), .d (.sl [])]] = some (.tup [.agg [.d (.v (.int .i64 (3))), .d (.v (.string (bs [97]))), .d (.v (.int .i64 (0))), .d (.v (.int .i64 (0))), .d (.v (.int .i64 (0))), .d (.v (.int .i64 (0))), .d (.v (.int .i64 (0))), .d (.v (.int .i64 (0))), .d (.v (.int .i64 (0))), .d (.v (.int .i64 (0))), .d (.sl []), .d (.sl [[.v (.int .i64 (0)), .sl [[.v (.string (bs [105])), .v (.int .i64 (1))]], .v (.string (bs [])), .sl []]]), .d (.sl [])], .d (.v (.string (bs []))), .d (.v (.bool false))]) := by kernel_rfl
theorem tab2_abs : AFn Tryz.prog 9 [.agg [.d (.v (.int .i64 (1))), .d (.v (.int .i64 (0))), .d (.v (.int .i64 (0))), .d (.v (.int .i64 (0))), .d (.v (.int .i64 (0)))], .agg [.d (.v (.int .i64 (3))), .d (.v (.string (bs [97]))), .d (.v (.int .i64 (0))), .d (.v (.int .i64 (0))), .d (.v (.int .i64 (0))), .d (.v (.int .i64 (0))), .d (.v (.int .i64 (0))), .d (.v (.int .i64 (0))), .d (.v (.int .i64 (0))), .d (.v (.int .i64 (0))), .d (.sl []), .d (.sl [[.v (.int .i64 (0)), .sl [[.v (.string (bs [105])), .v (.int .i64 (1))]], .v (.string (bs [])), .sl []]]), .d (.sl [])]] (· = .tup [.agg [.d (.v (.int .i64 (3))), .d (.v (.string (bs [97]))), .d (.v (.int .i64 (0))), .d (.v (.int .i64 (0))), .d (.v (.int .i64 (0))), .d (.v (.int .i64 (0))), .d (.v (.int .i64 (0))), .d (.v (.int .i64 (0))), .d (.v (.int .i64 (0))), .d (.v (.int .i64 (0))), .d (.sl []), .d (.sl [[.v (.int .i64 (0)), .sl [[.v (.string (bs [105])), .v (.int .i64 (1))]], .v (.string (bs [])), .sl []]]), .d (.sl [])], .d (.v (.string (bs []))), .d (.v (.bool false))]) := afn_run prog_mixed prog_noGor memoC_ok 600 tab2_run
theorem tab3_run : xPure (exec Tryz.prog memoC 600) Tryz.prog memoC 9 [.agg [.d (.v (.int .i64 (2))), .d (.v (.int .i64 (8))), .d (.v (.int .i64 (4))), .d (.v (.int .i64 (4))), .d (.v (.int .i64 (1)))], .agg [.d (.v (.int .i64 (8))), .d (.v (.string (bs []))), .d (.v (.int .i64 (0))), .d (.v (.int .i64 (0))), .d (.v (.int .i64 (0))), .d (.v (.int .i64 (0))), .d (.v (.int .i64 (0))), .d (.v (.int .i64 (0))), .d (.v (.int .i64 (0))), .d (.v (.int .i64 (0))), .d (.v (.slice none 0 0)), .d (.v (.slice none 0 0)), .full [[.v (.int .i64 (8)), .v (.string (bs [])), .v (.int .i64 (0)), .v (.int .i64 (0)), .v (.int .i64 (0)), .v (.int .i64 (0)), .v (.int .i64 (0)), .v (.int .i64 (0)), .v (.int .i64 (0)), .v (.int .i64 (0)), .sl [], .sl [], .sl [[.v (.int .i64 (3)), .v (.string (bs [97])), .v (.int .i64 (0)), .v (.int .i64 (0)), .v (.int .i64 (0)), .v (.int .i64 (0)), .v (.int .i64 (0)), .v (.int .i64 (0)), .v (.int .i64 (0)), .v (.int .i64 (0)), .sl [], .sl [[.v (.int .i64 (0)), .sl [[.v (.string (bs [105])), .v (.int .i64 (1))]], .v (.string (bs [])), .sl []]], .sl []]]]]]] = some (.tup [.agg [.d (.v (.int .i64 (8))), .d (.v (.string (bs []))), .d (.v (.int .i64 (0))), .d (.v (.int .i64 (0))), .d (.v (.int .i64 (0))), .d (.v (.int .i64 (0))), .d (.v (.int .i64 (0))), .d (.v (.int .i64 (0))), .d (.v (.int .i64 (0))), .d (.v (.int .i64 (0))), .d (.sl []), .d (.sl []), .d (.sl [[.v (.int .i64 (8)), .v (.string (bs [])), .v (.int .i64 (0)), .v (.int .i64 (0)), .v (.int .i64 (0)), .v (.int .i64 (0)), .v (.int .i64 (0)), .v (.int .i64 (0)), .v (.int .i64 (0)), .v (.int .i64 (0)), .sl [], .sl [], .sl [[.v (.int .i64 (3)), .v (.string (bs [97])), .v (.int .i64 (0)), .v (.int .i64 (0)), .v (.int .i64 (0)), .v (.int .i64 (0)), .v (.int .i64 (0)), .v (.int .i64 (0)), .v (.int .i64 (0)), .v (.int .i64 (0)), .sl [], .sl [[.v (.int .i64 (0)), .sl [[.v (.string (bs [105])), .v (.int .i64 (1))]], .v (.string (bs [])), .sl []]], .sl []]]]])], .d (.v (.string (bs []))), .d (.v (.bool false))]) := by kernel_rfl
theorem tab3_abs : AFn Tryz.prog 9 [.agg [.d (.v (.int .i64 (2))), .d (.v (.int .i64 (8))), .d (.v (.int .i64 (4))), .d (.v (.int .i64 (4))), .d (.v (.int .i64 (1)))], .agg [.d (.v (.int .i64 (8))), .d (.v (.string (bs []))), .d (.v (.int .i64 (0))), .d (.v (.int .i64 (0))), .d (.v (.int .i64 (0))), .d (.v (.int .i64 (0))), .d (.v (.int .i64 (0))), .d (.v (.int .i64 (0))), .d (.v (.int .i64 (0))), .d (.v (.int .i64 (0))), .d (.v (.slice none 0 0)), .d (.v (.slice none 0 0)), .full [[.v (.int .i64 (8)), .v (.string (bs [])), .v (.int .i64 (0)), .v (.int .i64 (0)), .v (.int .i64 (0)), .v (.int .i64 (0)), .v (.int .i64 (0)), .v (.int .i64 (0)), .v (.int .i64 (0)), .v (.int .i64 (0)), .sl [], .sl [], .sl [[.v (.int .i64 (3)), .v (.string (bs [97])), .v (.int .i64 (0)), .v (.int .i64 (0)), .v (.int .i64 (0)), .v (.int .i64 (0)), .v (.int .i64 (0)), .v (.int .i64 (0)), .v (.int .i64 (0)), .v (.int .i64 (0)), .sl [], .sl [[.v (.int .i64 (0)), .sl [[.v (.string (bs [105])), .v (.int .i64 (1))]], .v (.string (bs [])), .sl []]], .sl []]]]]]] (· = .tup [.agg [.d (.v (.int .i64 (8))), .d (.v (.string (bs []))), .d (.v (.int .i64 (0))), .d (.v (.int .i64 (0))), .d (.v (.int .i64 (0))), .d (.v (.int .i64 (0))), .d (.v (.int .i64 (0))), .d (.v (.int .i64 (0))), .d (.v (.int .i64 (0))), .d (.v (.int .i64 (0))), .d (.sl []), .d (.sl []), .d (.sl [[.v (.int .i64 (8)), .v (.string (bs [])), .v (.int .i64 (0)), .v (.int .i64 (0)), .v (.int .i64 (0)), .v (.int .i64 (0)), .v (.int .i64 (0)), .v (.int .i64 (0)), .v (.int .i64 (0)), .v (.int .i64 (0)), .sl [], .sl [], .sl [[.v (.int .i64 (3)), .v (.string (bs [97])), .v (.int .i64 (0)), .v (.int .i64 (0)), .v (.int .i64 (0)), .v (.int .i64 (0)), .v (.int .i64 (0)), .v (.int .i64 (0)), .v (.int .i64 (0)), .v (.int .i64 (0)), .sl [], .sl [[.v (.int .i64 (0)), .sl [[.v (.string (bs [105])), .v (.int .i64 (1))]], .v (.string (bs [])), .sl []]], .sl []]]]])], .d (.v (.string (bs []))), .d (.v (.bool false))]) := afn_run prog_mixed prog_noGor memoC_ok 600 tab3_run
theorem tab4_run : xPure (exec Tryz.prog memoC 600) Tryz.prog memoC 9 [.agg [.d (.v (.int .i64 (1))), .d (.v (.int .i64 (0))), .d (.v (.int .i64 (0))), .d (.v (.int .i64 (0))), .d (.v (.int .i64 (0)))], .agg [.d (.v (.int .i64 (8))), .d (.v (.string (bs []))), .d (.v (.int .i64 (0))), .d (.v (.int .i64 (0))), .d (.v (.int .i64 (0))), .d (.v (.int .i64 (0))), .d (.v (.int .i64 (0))), .d (.v (.int .i64 (0))), .d (.v (.int .i64 (0))), .d (.v (.int .i64 (0))), .d (.v (.slice none 0 0)), .d (.v (.slice none 0 0)), .full [[.v (.int .i64 (8)), .v (.string (bs [])), .v (.int .i64 (0)), .v (.int .i64 (0)), .v (.int .i64 (0)), .v (.int .i64 (0)), .v (.int .i64 (0)), .v (.int .i64 (0)), .v (.int .i64 (0)), .v (.int .i64 (0)), .sl [], .sl [], .sl [[.v (.int .i64 (3)), .v (.string (bs [97])), .v (.int .i64 (0)), .v (.int .i64 (0)), .v (.int .i64 (0)), .v (.int .i64 (0)), .v (.int .i64 (0)), .v (.int .i64 (0)), .v (.int .i64 (0)), .v (.int .i64 (0)), .sl [], .sl [[.v (.int .i64 (0)), .sl [[.v (.string (bs [105])), .v (.int .i64 (1))]], .v (.string (bs [])), .sl []]], .sl []]]]]]] = some (.tup [.agg [.d (.v (.int .i64 (3))), .d (.v (.string (bs [97]))), .d (.v (.int .i64 (0))), .d (.v (.int .i64 (0))), .d (.v (.int .i64 (0))), .d (.v (.int .i64 (0))), .d (.v (.int .i64 (0))), .d (.v (.int .i64 (0))), .d (.v (.int .i64 (0))), .d (.v (.int .i64 (0))), .d (.sl []), .d (.sl [[.v (.int .i64 (0)), .sl [[.v (.string (bs [105])), .v (.int .i64 (1))]], .v (.string (bs [])), .sl []]]), .d (.sl [])], .d (.v (.string (bs [110, 101, 103, 97, 116, 101]))), .d (.v (.bool true))]) := by kernel_rfl
theorem tab4_abs : AFn Tryz.prog 9 [.agg [.d (.v (.int .i64 (1))), .d (.v (.int .i64 (0))), .d (.v (.int .i64 (0))), .d (.v (.int .i64 (0))), .d (.v (.int .i64 (0)))], .agg [.d (.v (.int .i64 (8))), .d (.v (.string (bs []))), .d (.v (.int .i64 (0))), .d (.v (.int .i64 (0))), .d (.v (.int .i64 (0))), .d (.v (.int .i64 (0))), .d (.v (.int .i64 (0))), .d (.v (.int .i64 (0))), .d (.v (.int .i64 (0))), .d (.v (.int .i64 (0))), .d (.v (.slice none 0 0)), .d (.v (.slice none 0 0)), .full [[.v (.int .i64 (8)), .v (.string (bs [])), .v (.int .i64 (0)), .v (.int .i64 (0)), .v (.int .i64 (0)), .v (.int .i64 (0)), .v (.int .i64 (0)), .v (.int .i64 (0)), .v (.int .i64 (0)), .v (.int .i64 (0)), .sl [], .sl [], .sl [[.v (.int .i64 (3)), .v (.string (bs [97])), .v (.int .i64 (0)), .v (.int .i64 (0)), .v (.int .i64 (0)), .v (.int .i64 (0)), .v (.int .i64 (0)), .v (.int .i64 (0)), .v (.int .i64 (0)), .v (.int .i64 (0)), .sl [], .sl [[.v (.int .i64 (0)), .sl [[.v (.string (bs [105])), .v (.int .i64 (1))]], .v (.string (bs [])), .sl []]], .sl []]]]]]] (· = .tup [.agg [.d (.v (.int .i64 (3))), .d (.v (.string (bs [97]))), .d (.v (.int .i64 (0))), .d (.v (.int .i64 (0))), .d (.v (.int .i64 (0))), .d (.v (.int .i64 (0))), .d (.v (.int .i64 (0))), .d (.v (.int .i64 (0))), .d (.v (.int .i64 (0))), .d (.v (.int .i64 (0))), .d (.sl []), .d (.sl [[.v (.int .i64 (0)), .sl [[.v (.string (bs [105])), .v (.int .i64 (1))]], .v (.string (bs [])), .sl []]]), .d (.sl [])], .d (.v (.string (bs [110, 101, 103, 97, 116, 101]))), .d (.v (.bool true))]) := afn_run prog_mixed prog_noGor memoC_ok 600 tab4_run
theorem tab5_run : xPure (exec Tryz.prog memoC 600) Tryz.prog memoC 9 [.agg [.d (.v (.int .i64 (3))), .d (.v (.int .i64 (0))), .d (.v (.int .i64 (0))), .d (.v (.int .i64 (0))), .d (.v (.int .i64 (0)))], .agg [.d (.v (.int .i64 (4))), .d (.v (.string (bs []))), .d (.v (.int .i64 (0))), .d (.v (.int .i64 (0))), .d (.v (.int .i64 (0))), .d (.v (.int .i64 (0))), .d (.v (.int .i64 (0))), .d (.v (.int .i64 (0))), .d (.v (.int .i64 (0))), .d (.v (.int .i64 (0))), .d (.v (.slice none 0 0)), .d (.v (.slice none 0 0)), .full [[.v (.int .i64 (2)), .v (.string (bs [])), .v (.int .i64 (0)), .v (.int .i64 (0)), .v (.int .i64 (0)), .v (.int .i64 (0)), .v (.int .i64 (0)), .v (.int .i64 (0)), .v (.int .i64 (0)), .v (.int .i64 (0)), .sl [[.v (.string (bs [105])), .v (.int .i64 (1))]], .sl [], .sl []], [.v (.int .i64 (1)), .v (.string (bs [])), .v (.int .i64 (2)), .v (.int .i64 (1)), .v (.int .i64 (3)), .v (.int .i64 (0)), .v (.int .i64 (0)), .v (.int .i64 (0)), .v (.int .i64 (0)), .v (.int .i64 (0)), .sl [], .sl [], .sl []]]]] = some (.tup [.agg [.d (.v (.int .i64 (2))), .d (.v (.string (bs []))), .d (.v (.int .i64 (0))), .d (.v (.int .i64 (0))), .d (.v (.int .i64 (0))), .d (.v (.int .i64 (0))), .d (.v (.int .i64 (0))), .d (.v (.int .i64 (0))), .d (.v (.int .i64 (0))), .d (.v (.int .i64 (2))), .d (.sl [[.v (.string (bs [105])), .v (.int .i64 (1))]]), .d (.sl []), .d (.sl [])], .d (.v (.string (bs [105, 110, 100, 101, 120]))), .d (.v (.bool true))]) := by kernel_rfl
theorem tab5_abs : AFn Tryz.prog 9 [.agg [.d (.v (.int .i64 (3))), .d (.v (.int .i64 (0))), .d (.v (.int .i64 (0))), .d (.v (.int .i64 (0))), .d (.v (.int .i64 (0)))], .agg [.d (.v (.int .i64 (4))), .d (.v (.string (bs []))), .d (.v (.int .i64 (0))), .d (.v (.int .i64 (0))), .d (.v (.int .i64 (0))), .d (.v (.int .i64 (0))), .d (.v (.int .i64 (0))), .d (.v (.int .i64 (0))), .d (.v (.int .i64 (0))), .d (.v (.int .i64 (0))), .d (.v (.slice none 0 0)), .d (.v (.slice none 0 0)), .full [[.v (.int .i64 (2)), .v (.string (bs [])), .v (.int .i64 (0)), .v (.int .i64 (0)), .v (.int .i64 (0)), .v (.int .i64 (0)), .v (.int .i64 (0)), .v (.int .i64 (0)), .v (.int .i64 (0)), .v (.int .i64 (0)), .sl [[.v (.string (bs [105])), .v (.int .i64 (1))]], .sl [], .sl []], [.v (.int .i64 (1)), .v (.string (bs [])), .v (.int .i64 (2)), .v (.int .i64 (1)), .v (.int .i64 (3)), .v (.int .i64 (0)), .v (.int .i64 (0)), .v (.int .i64 (0)), .v (.int .i64 (0)), .v (.int .i64 (0)), .sl [], .sl [], .sl []]]]] (· = .tup [.agg [.d (.v (.int .i64 (2))), .d (.v (.string (bs []))), .d (.v (.int .i64 (0))), .d (.v (.int .i64 (0))), .d (.v (.int .i64 (0))), .d (.v (.int .i64 (0))), .d (.v (.int .i64 (0))), .d (.v (.int .i64 (0))), .d (.v (.int .i64 (0))), .d (.v (.int .i64 (2))), .d (.sl [[.v (.string (bs [105])), .v (.int .i64 (1))]]), .d (.sl []), .d (.sl [])], .d (.v (.string (bs [105, 110, 100, 101, 120]))), .d (.v (.bool true))]) := afn_run prog_mixed prog_noGor memoC_ok 600 tab5_run
theorem tab6_run : xPure (exec Tryz.prog memoC 600) Tryz.prog memoC 9 [.agg [.d (.v (.int .i64 (3))), .d (.v (.int .i64 (0))), .d (.v (.int .i64 (0))), .d (.v (.int .i64 (0))), .d (.v (.int .i64 (0)))], .agg [.d (.v (.int .i64 (2))), .d (.v (.string (bs []))), .d (.v (.int .i64 (0))), .d (.v (.int .i64 (0))), .d (.v (.int .i64 (0))), .d (.v (.int .i64 (0))), .d (.v (.int .i64 (0))), .d (.v (.int .i64 (0))), .d (.v (.int .i64 (0))), .d (.v (.int .i64 (2))), .d (.sl [[.v (.string (bs [105])), .v (.int .i64 (1))]]), .d (.sl []), .d (.sl [])]] = some (.tup [.agg [.d (.v (.int .i64 (2))), .d (.v (.string (bs []))), .d (.v (.int .i64 (0))), .d (.v (.int .i64 (0))), .d (.v (.int .i64 (0))), .d (.v (.int .i64 (0))), .d (.v (.int .i64 (0))), .d (.v (.int .i64 (0))), .d (.v (.int .i64 (0))), .d (.v (.int .i64 (2))), .d (.sl [[.v (.string (bs [105])), .v (.int .i64 (1))]]), .d (.sl []), .d (.sl [])], .d (.v (.string (bs []))), .d (.v (.bool false))]) := by kernel_rfl
theorem tab6_abs : AFn Tryz.prog 9 [.agg [.d (.v (.int .i64 (3))), .d (.v (.int .i64 (0))), .d (.v (.int .i64 (0))), .d (.v (.int .i64 (0))), .d (.v (.int .i64 (0)))], .agg [.d (.v (.int .i64 (2))), .d (.v (.string (bs []))), .d (.v (.int .i64 (0))), .d (.v (.int .i64 (0))), .d (.v (.int .i64 (0))), .d (.v (.int .i64 (0))), .d (.v (.int .i64 (0))), .d (.v (.int .i64 (0))), .d (.v (.int .i64 (0))), .d (.v (.int .i64 (2))), .d (.sl [[.v (.string (bs [105])), .v (.int .i64 (1))]]), .d (.sl []), .d (.sl [])]] (· = .tup [.agg [.d (.v (.int .i64 (2))), .d (.v (.string (bs []))), .d (.v (.int .i64 (0))), .d (.v (.int .i64 (0))), .d (.v (.int .i64 (0))), .d (.v (.int .i64 (0))), .d (.v (.int .i64 (0))), .d (.v (.int .i64 (0))), .d (.v (.int .i64 (0))), .d (.v (.int .i64 (2))), .d (.sl [[.v (.string (bs [105])), .v (.int .i64 (1))]]), .d (.sl []), .d (.sl [])], .d (.v (.string (bs []))), .d (.v (.bool false))]) := afn_run prog_mixed prog_noGor memoC_ok 600 tab6_run
def tabE : List (FuncId × List AV × AV) := [(9, [.agg [.d (.v (.int .i64 (1))), .d (.v (.int .i64 (0))), .d (.v (.int .i64 (0))), .d (.v (.int .i64 (0))), .d (.v (.int .i64 (0)))], .agg [.d (.v (.int .i64 (4))), .d (.v (.string (bs []))), .d (.v (.int .i64 (0))), .d (.v (.int .i64 (0))), .d (.v (.int .i64 (0))), .d (.v (.int .i64 (0))), .d (.v (.int .i64 (0))), .d (.v (.int .i64 (0))), .d (.v (.int .i64 (0))), .d (.v (.int .i64 (0))), .d (.v (.slice none 0 0)), .d (.v (.slice none 0 0)), .full [[.v (.int .i64 (6)), .v (.string (bs [])), .v (.int .i64 (0)), .v (.int .i64 (0)), .v (.int .i64 (0)), .v (.int .i64 (0)), .v (.int .i64 (0)), .v (.int .i64 (0)), .v (.int .i64 (0)), .v (.int .i64 (0)), .sl [], .sl [], .sl [[.v (.int .i64 (3)), .v (.string (bs [97])), .v (.int .i64 (0)), .v (.int .i64 (0)), .v (.int .i64 (0)), .v (.int .i64 (0)), .v (.int .i64 (0)), .v (.int .i64 (0)), .v (.int .i64 (0)), .v (.int .i64 (0)), .sl [], .sl [[.v (.int .i64 (0)), .sl [[.v (.string (bs [105])), .v (.int .i64 (1))]], .v (.string (bs [])), .sl []]], .sl []], [.v (.int .i64 (1)), .v (.string (bs [])), .v (.int .i64 (1)), .v (.int .i64 (1)), .v (.int .i64 (1)), .v (.int .i64 (0)), .v (.int .i64 (0)), .v (.int .i64 (0)), .v (.int .i64 (0)), .v (.int .i64 (0)), .sl [], .sl [], .sl []]]], [.v (.int .i64 (1)), .v (.string (bs [])), .v (.int .i64 (0)), .v (.int .i64 (1)), .v (.int .i64 (1)), .v (.int .i64 (0)), .v (.int .i64 (0)), .v (.int .i64 (0)), .v (.int .i64 (0)), .v (.int .i64 (0)), .sl [], .sl [], .sl []]]]], .tup [.agg [.d (.v (.int .i64 (6))), .d (.v (.string (bs []))), .d (.v (.int .i64 (0))), .d (.v (.int .i64 (0))), .d (.v (.int .i64 (0))), .d (.v (.int .i64 (0))), .d (.v (.int .i64 (0))), .d (.v (.int .i64 (0))), .d (.v (.int .i64 (0))), .d (.v (.int .i64 (0))), .d (.sl []), .d (.sl []), .d (.sl [[.v (.int .i64 (3)), .v (.string (bs [97])), .v (.int .i64 (0)), .v (.int .i64 (0)), .v (.int .i64 (0)), .v (.int .i64 (0)), .v (.int .i64 (0)), .v (.int .i64 (0)), .v (.int .i64 (0)), .v (.int .i64 (0)), .sl [], .sl [[.v (.int .i64 (0)), .sl [[.v (.string (bs [105])), .v (.int .i64 (1))]], .v (.string (bs [])), .sl []]], .sl []], [.v (.int .i64 (1)), .v (.string (bs [])), .v (.int .i64 (1)), .v (.int .i64 (1)), .v (.int .i64 (1)), .v (.int .i64 (0)), .v (.int .i64 (0)), .v (.int .i64 (0)), .v (.int .i64 (0)), .v (.int .i64 (0)), .sl [], .sl [], .sl []]])], .d (.v (.string (bs [122, 101, 114, 111]))), .d (.v (.bool true))]),
  (9, [.agg [.d (.v (.int .i64 (1))), .d (.v (.int .i64 (0))), .d (.v (.int .i64 (0))), .d (.v (.int .i64 (0))), .d (.v (.int .i64 (0)))], .agg [.d (.v (.int .i64 (6))), .d (.v (.string (bs []))), .d (.v (.int .i64 (0))), .d (.v (.int .i64 (0))), .d (.v (.int .i64 (0))), .d (.v (.int .i64 (0))), .d (.v (.int .i64 (0))), .d (.v (.int .i64 (0))), .d (.v (.int .i64 (0))), .d (.v (.int .i64 (0))), .d (.sl []), .d (.sl []), .d (.sl [[.v (.int .i64 (3)), .v (.string (bs [97])), .v (.int .i64 (0)), .v (.int .i64 (0)), .v (.int .i64 (0)), .v (.int .i64 (0)), .v (.int .i64 (0)), .v (.int .i64 (0)), .v (.int .i64 (0)), .v (.int .i64 (0)), .sl [], .sl [[.v (.int .i64 (0)), .sl [[.v (.string (bs [105])), .v (.int .i64 (1))]], .v (.string (bs [])), .sl []]], .sl []], [.v (.int .i64 (1)), .v (.string (bs [])), .v (.int .i64 (1)), .v (.int .i64 (1)), .v (.int .i64 (1)), .v (.int .i64 (0)), .v (.int .i64 (0)), .v (.int .i64 (0)), .v (.int .i64 (0)), .v (.int .i64 (0)), .sl [], .sl [], .sl []]])]], .tup [.agg [.d (.v (.int .i64 (3))), .d (.v (.string (bs [97]))), .d (.v (.int .i64 (0))), .d (.v (.int .i64 (0))), .d (.v (.int .i64 (0))), .d (.v (.int .i64 (0))), .d (.v (.int .i64 (0))), .d (.v (.int .i64 (0))), .d (.v (.int .i64 (0))), .d (.v (.int .i64 (0))), .d (.sl []), .d (.sl [[.v (.int .i64 (0)), .sl [[.v (.string (bs [105])), .v (.int .i64 (1))]], .v (.string (bs [])), .sl []]]), .d (.sl [])], .d (.v (.string (bs [111, 110, 101]))), .d (.v (.bool true))]),
  (9, [.agg [.d (.v (.int .i64 (1))), .d (.v (.int .i64 (0))), .d (.v (.int .i64 (0))), .d (.v (.int .i64 (0))), .d (.v (.int .i64 (0)))], .agg [.d (.v (.int .i64 (3))), .d (.v (.string (bs [97]))), .d (.v (.int .i64 (0))), .d (.v (.int .i64 (0))), .d (.v (.int .i64 (0))), .d (.v (.int .i64 (0))), .d (.v (.int .i64 (0))), .d (.v (.int .i64 (0))), .d (.v (.int .i64 (0))), .d (.v (.int .i64 (0))), .d (.sl []), .d (.sl [[.v (.int .i64 (0)), .sl [[.v (.string (bs [105])), .v (.int .i64 (1))]], .v (.string (bs [])), .sl []]]), .d (.sl [])]], .tup [.agg [.d (.v (.int .i64 (3))), .d (.v (.string (bs [97]))), .d (.v (.int .i64 (0))), .d (.v (.int .i64 (0))), .d (.v (.int .i64 (0))), .d (.v (.int .i64 (0))), .d (.v (.int .i64 (0))), .d (.v (.int .i64 (0))), .d (.v (.int .i64 (0))), .d (.v (.int .i64 (0))), .d (.sl []), .d (.sl [[.v (.int .i64 (0)), .sl [[.v (.string (bs [105])), .v (.int .i64 (1))]], .v (.string (bs [])), .sl []]]), .d (.sl [])], .d (.v (.string (bs []))), .d (.v (.bool false))]),
  (9, [.agg [.d (.v (.int .i64 (2))), .d (.v (.int .i64 (8))), .d (.v (.int .i64 (4))), .d (.v (.int .i64 (4))), .d (.v (.int .i64 (1)))], .agg [.d (.v (.int .i64 (8))), .d (.v (.string (bs []))), .d (.v (.int .i64 (0))), .d (.v (.int .i64 (0))), .d (.v (.int .i64 (0))), .d (.v (.int .i64 (0))), .d (.v (.int .i64 (0))), .d (.v (.int .i64 (0))), .d (.v (.int .i64 (0))), .d (.v (.int .i64 (0))), .d (.v (.slice none 0 0)), .d (.v (.slice none 0 0)), .full [[.v (.int .i64 (8)), .v (.string (bs [])), .v (.int .i64 (0)), .v (.int .i64 (0)), .v (.int .i64 (0)), .v (.int .i64 (0)), .v (.int .i64 (0)), .v (.int .i64 (0)), .v (.int .i64 (0)), .v (.int .i64 (0)), .sl [], .sl [], .sl [[.v (.int .i64 (3)), .v (.string (bs [97])), .v (.int .i64 (0)), .v (.int .i64 (0)), .v (.int .i64 (0)), .v (.int .i64 (0)), .v (.int .i64 (0)), .v (.int .i64 (0)), .v (.int .i64 (0)), .v (.int .i64 (0)), .sl [], .sl [[.v (.int .i64 (0)), .sl [[.v (.string (bs [105])), .v (.int .i64 (1))]], .v (.string (bs [])), .sl []]], .sl []]]]]]], .tup [.agg [.d (.v (.int .i64 (8))), .d (.v (.string (bs []))), .d (.v (.int .i64 (0))), .d (.v (.int .i64 (0))), .d (.v (.int .i64 (0))), .d (.v (.int .i64 (0))), .d (.v (.int .i64 (0))), .d (.v (.int .i64 (0))), .d (.v (.int .i64 (0))), .d (.v (.int .i64 (0))), .d (.sl []), .d (.sl []), .d (.sl [[.v (.int .i64 (8)), .v (.string (bs [])), .v (.int .i64 (0)), .v (.int .i64 (0)), .v (.int .i64 (0)), .v (.int .i64 (0)), .v (.int .i64 (0)), .v (.int .i64 (0)), .v (.int .i64 (0)), .v (.int .i64 (0)), .sl [], .sl [], .sl [[.v (.int .i64 (3)), .v (.string (bs [97])), .v (.int .i64 (0)), .v (.int .i64 (0)), .v (.int .i64 (0)), .v (.int .i64 (0)), .v (.int .i64 (0)), .v (.int .i64 (0)), .v (.int .i64 (0)), .v (.int .i64 (0)), .sl [], .sl [[.v (.int .i64 (0)), .sl [[.v (.string (bs [105])), .v (.int .i64 (1))]], .v (.string (bs [])), .sl []]], .sl []]]]])], .d (.v (.string (bs []))), .d (.v (.bool false))]),
  (9, [.agg [.d (.v (.int .i64 (1))), .d (.v (.int .i64 (0))), .d (.v (.int .i64 (0))), .d (.v (.int .i64 (0))), .d (.v (.int .i64 (0)))], .agg [.d (.v (.int .i64 (8))), .d (.v (.string (bs []))), .d (.v (.int .i64 (0))), .d (.v (.int .i64 (0))), .d (.v (.int .i64 (0))), .d (.v (.int .i64 (0))), .d (.v (.int .i64 (0))), .d (.v (.int .i64 (0))), .d (.v (.int .i64 (0))), .d (.v (.int .i64 (0))), .d (.v (.slice none 0 0)), .d (.v (.slice none 0 0)), .full [[.v (.int .i64 (8)), .v (.string (bs [])), .v (.int .i64 (0)), .v (.int .i64 (0)), .v (.int .i64 (0)), .v (.int .i64 (0)), .v (.int .i64 (0)), .v (.int .i64 (0)), .v (.int .i64 (0)), .v (.int .i64 (0)), .sl [], .sl [], .sl [[.v (.int .i64 (3)), .v (.string (bs [97])), .v (.int .i64 (0)), .v (.int .i64 (0)), .v (.int .i64 (0)), .v (.int .i64 (0)), .v (.int .i64 (0)), .v (.int .i64 (0)), .v (.int .i64 (0)), .v (.int .i64 (0)), .sl [], .sl [[.v (.int .i64 (0)), .sl [[.v (.string (bs [105])), .v (.int .i64 (1))]], .v (.string (bs [])), .sl []]], .sl []]]]]]], .tup [.agg [.d (.v (.int .i64 (3))), .d (.v (.string (bs [97]))), .d (.v (.int .i64 (0))), .d (.v (.int .i64 (0))), .d (.v (.int .i64 (0))), .d (.v (.int .i64 (0))), .d (.v (.int .i64 (0))), .d (.v (.int .i64 (0))), .d (.v (.int .i64 (0))), .d (.v (.int .i64 (0))), .d (.sl []), .d (.sl [[.v (.int .i64 (0)), .sl [[.v (.string (bs [105])), .v (.int .i64 (1))]], .v (.string (bs [])), .sl []]]), .d (.sl [])], .d (.v (.string (bs [110, 101, 103, 97, 116, 101]))), .d (.v (.bool true))]),
  (9, [.agg [.d (.v (.int .i64 (3))), .d (.v (.int .i64 (0))), .d (.v (.int .i64 (0))), .d (.v (.int .i64 (0))), .d (.v (.int .i64 (0)))], .agg [.d (.v (.int .i64 (4))), .d (.v (.string (bs []))), .d (.v (.int .i64 (0))), .d (.v (.int .i64 (0))), .d (.v (.int .i64 (0))), .d (.v (.int .i64 (0))), .d (.v (.int .i64 (0))), .d (.v (.int .i64 (0))), .d (.v (.int .i64 (0))), .d (.v (.int .i64 (0))), .d (.v (.slice none 0 0)), .d (.v (.slice none 0 0)), .full [[.v (.int .i64 (2)), .v (.string (bs [])), .v (.int .i64 (0)), .v (.int .i64 (0)), .v (.int .i64 (0)), .v (.int .i64 (0)), .v (.int .i64 (0)), .v (.int .i64 (0)), .v (.int .i64 (0)), .v (.int .i64 (0)), .sl [[.v (.string (bs [105])), .v (.int .i64 (1))]], .sl [], .sl []], [.v (.int .i64 (1)), .v (.string (bs [])), .v (.int .i64 (2)), .v (.int .i64 (1)), .v (.int .i64 (3)), .v (.int .i64 (0)), .v (.int .i64 (0)), .v (.int .i64 (0)), .v (.int .i64 (0)), .v (.int .i64 (0)), .sl [], .sl [], .sl []]]]], .tup [.agg [.d (.v (.int .i64 (2))), .d (.v (.string (bs []))), .d (.v (.int .i64 (0))), .d (.v (.int .i64 (0))), .d (.v (.int .i64 (0))), .d (.v (.int .i64 (0))), .d (.v (.int .i64 (0))), .d (.v (.int .i64 (0))), .d (.v (.int .i64 (0))), .d (.v (.int .i64 (2))), .d (.sl [[.v (.string (bs [105])), .v (.int .i64 (1))]]), .d (.sl []), .d (.sl [])], .d (.v (.string (bs [105, 110, 100, 101, 120]))), .d (.v (.bool true))]),
  (9, [.agg [.d (.v (.int .i64 (3))), .d (.v (.int .i64 (0))), .d (.v (.int .i64 (0))), .d (.v (.int .i64 (0))), .d (.v (.int .i64 (0)))], .agg [.d (.v (.int .i64 (2))), .d (.v (.string (bs []))), .d (.v (.int .i64 (0))), .d (.v (.int .i64 (0))), .d (.v (.int .i64 (0))), .d (.v (.int .i64 (0))), .d (.v (.int .i64 (0))), .d (.v (.int .i64 (0))), .d (.v (.int .i64 (0))), .d (.v (.int .i64 (2))), .d (.sl [[.v (.string (bs [105])), .v (.int .i64 (1))]]), .d (.sl []), .d (.sl [])]], .tup [.agg [.d (.v (.int .i64 (2))), .d (.v (.string (bs []))), .d (.v (.int .i64 (0))), .d (.v (.int .i64 (0))), .d (.v (.int .i64 (0))), .d (.v (.int .i64 (0))), .d (.v (.int .i64 (0))), .d (.v (.int .i64 (0))), .d (.v (.int .i64 (0))), .d (.v (.int .i64 (2))), .d (.sl [[.v (.string (bs [105])), .v (.int .i64 (1))]]), .d (.sl []), .d (.sl [])], .d (.v (.string (bs []))), .d (.v (.bool false))])]
theorem tabE_ok : ∀ e ∈ tabE, AFn Tryz.prog e.1 e.2.1 (· = e.2.2) := fun e he => by
  unfold tabE at he
  simp only [List.mem_cons, List.not_mem_nil, or_false] at he
  rcases he with rfl | rfl | rfl | rfl | rfl | rfl | rfl
  · exact tab0_abs
  · exact tab1_abs
  · exact tab2_abs
  · exact tab3_abs
  · exact tab4_abs
  · exact tab5_abs
  · exact tab6_abs
theorem examples_run : xPure (exec Tryz.prog (memoT memoC tabE) 600) Tryz.prog (memoT memoC tabE) 8 [] = some (.d (.v (.bool true))) := by kernel_rfl
theorem examples_abs : AFn Tryz.prog 8 [] (· = .d (.v (.bool true))) := afn_run prog_mixed prog_noGor (memoT_ok memoC_ok tabE_ok) 600 examples_run
end Go.Proofs.YtnedgkfefdldeaaGreatDoor

/-! PSQ1: Functions of the program as Lean functions, each with its proof. Written by a program (wip/abs/dc3.py). -/
namespace Go.Proofs.YtnedgkfefdldeaaGreatDoor
open Go.RowKit
set_option maxRecDepth 100000
set_option maxHeartbeats 0
set_option linter.unusedVariables false
def g_brocadebase_Weigh_L2 (N : Nat) (v2 : Int) (rec72 : ExprD → Int → Option Int) : List ExprD → Nat → Int → Option Int
 | [], _, v12 =>
  some v12
 | v10 :: v11, v8, v12 =>
  bif (decide (v12 ≤ v2)) then
   Option.bind (rec72 v10 (w64 (v2 - v12))) fun v13 =>
   (fun b2_0 => g_brocadebase_Weigh_L2 N v2 rec72 v11 (v8 + 1) b2_0) (w64 (v12 + v13))
  else
   some v12
def g_brocadebase_Weigh_L3 (N : Nat) (cL1 : Int → Option Int) (v2 : Int) : List LinD → Nat → Int → Option Int
 | [], _, v18 =>
  cL1 v18
 | v16 :: v17, v14, v18 =>
  bif (decide (v18 ≤ v2)) then
   (fun b3_0 => g_brocadebase_Weigh_L3 N cL1 v2 v17 (v14 + 1) b3_0) (w64 (v18 + (v16.xL.length : Int)))
  else
   cL1 v18
def g_brocadebase_Weigh_L4 (N : Nat) (v2 : Int) (rec72 : ExprD → Int → Option Int) : List ExprD → Nat → Int → Option Int
 | [], _, v23 =>
  some v23
 | v21 :: v22, v19, v23 =>
  bif (decide (v23 ≤ v2)) then
   Option.bind (rec72 v21 (w64 (v2 - v23))) fun v24 =>
   (fun b4_0 => g_brocadebase_Weigh_L4 N v2 rec72 v22 (v19 + 1) b4_0) (w64 (v23 + v24))
  else
   some v23
def g_brocadebase_Weigh_L1 (N : Nat) (v2 : Int) (rec72 : ExprD → Int → Option Int) (v1 : ExprD) : List IndexD → Nat → Int → Option Int
 | [], _, v7 =>
  g_brocadebase_Weigh_L2 N v2 rec72 v1.xArgs 0 v7
 | v5 :: v6, v3, v7 =>
  bif (decide (v7 ≤ v2)) then
   g_brocadebase_Weigh_L3 N (fun b1_0 => g_brocadebase_Weigh_L1 N v2 rec72 v1 v6 (v3 + 1) b1_0) v2 v5.xAt 0 (w64 ((w64 (v7 + (v5.xLin.xL.length : Int))) + (v5.xAt.length : Int)))
  else
   g_brocadebase_Weigh_L4 N v2 rec72 v1.xArgs 0 v7
def g_brocadebase_WeighR (N : Nat) : Nat → ExprD → Int → Option Int
 | 0, _, _ => none
 | d + 1, v1, v2 =>
  g_brocadebase_Weigh_L1 N v2 (g_brocadebase_WeighR N d) v1 v1.xIdx 0 (w64 ((w64 ((1 : Int) + (v1.xLin.xL.length : Int))) + (v1.xIdx.length : Int)))
def g_brocadebase_Weigh (N : Nat) (v1 : ExprD) (v2 : Int) : Option Int := g_brocadebase_WeighR N N v1 v2
theorem g_brocadebase_WeighR_all (N : Nat) : ∀ d : Nat, (∀ (v1 : ExprD) (v2 : Int) (r : Int), g_brocadebase_WeighR N d v1 v2 = some r → AFn Tryz.prog 7 [(aExpr v1), (aInt v2)] (· = (aInt r))) := by
 intro d
 induction d with
 | zero => intro v1 v2 r hF; rw [g_brocadebase_WeighR] at hF; cases hF
 | succ d ih =>
  have ih72 := ih
  intro v1 v2 r hF
  rw [g_brocadebase_WeighR] at hF
  refine afn_of Tryz.func7 rfl (by kernel_rfl) ?_
  refine aw_cut [0, 1] 0 (Nat.le_refl _) (s' := ⟨101, [(0, (aExpr v1)), (1, (aInt v2))], []⟩) (by kernel_rfl) ?_
  refine aw_seq ?_
  refine rg [] [(2, (.ptr 0 0))] [.cells (aExpr v1).cells] (by kernel_rfl) ?_
  refine aw_seq ?_
  refine rg [(10, ⟨_, _, .len (xs := dMonos v1.xLin.xL) dMonos_len⟩), (22, ⟨_, _, .len (xs := dIndexs v1.xIdx) dIndexs_len⟩)] [(5, (aInt (w64 ((w64 ((1 : Int) + (v1.xLin.xL.length : Int))) + (v1.xIdx.length : Int)))))] [.cells (aExpr v1).cells] (by kernel_rfl) ?_
  refine aw_seq ?_
  refine aw_seq ?_
  refine rg [] [(6, (aInt (0 : Int)))] [.cells (aExpr v1).cells] (by kernel_rfl) ?_
  refine aw_block ?_
  refine aw_okB 0 11 (dIndexs v1.xIdx) (by kernel_rfl) fun h1 => ?_
  have h2 : v1.xIdx.length ≤ maxLen := by rw [← dIndexs_len]; exact ok_len h1
  refine aw_loopC [1, 2, 5, 6] 1 (fun ((v3, v4, v7) : Nat × (List IndexD) × Int) => ⟨101, [(1, (aInt v2)), (2, (.ptr 0 0)), (5, (aInt v7)), (6, (aInt (v3 : Int)))], [.cells (aExpr v1).cells]⟩) (fun ((v3, v4, v7) : Nat × (List IndexD) × Int) => v1.xIdx.drop v3 = v4 ∧ g_brocadebase_Weigh_L1 N v2 (g_brocadebase_WeighR N d) v1 v4 v3 v7 = some r) (fun ((v3, v4, v7) : Nat × (List IndexD) × Int) => v4.length) (0, v1.xIdx, (w64 ((w64 ((1 : Int) + (v1.xLin.xL.length : Int))) + (v1.xIdx.length : Int)))) (Nat.le_of_ble_eq_true rfl) (by kernel_rfl) ⟨rfl, hF⟩ ?_
  rintro ⟨v3, v4, v7⟩ ⟨h3, hF⟩
  cases v4 with
  | nil =>
   rw [g_brocadebase_Weigh_L1] at hF
   refine aw_seq ?_
   refine aw_seq ?_
   refine rg [(10, ⟨_, _, .len (xs := dIndexs v1.xIdx) dIndexs_len⟩), (18, bF (lt_f h3)), (21, bF (lt_f h3)), (24, bF (lt_f h3)), (28, bF (lt_f h3))] [(27, (aBool false))] [.cells (aExpr v1).cells] (by kernel_rfl) ?_
   refine aw_cond_g (t := false) (by kernel_rfl) rfl ?_
   refine aw_exit (at_e (at_e (ab_y rfl ?_)))
   refine at_n ?_
   refine aw_seq ?_
   refine aw_seq ?_
   refine rg [] [(8, (aInt (0 : Int)))] [.cells (aExpr v1).cells] (by kernel_rfl) ?_
   refine aw_block ?_
   refine aw_okB 0 12 (dExprs v1.xArgs) (by kernel_rfl) fun h4 => ?_
   have h5 : v1.xArgs.length ≤ maxLen := by rw [← dExprs_len]; exact ok_len h4
   refine aw_loopC [1, 2, 5, 8] 1 (fun ((v8, v9, v12) : Nat × (List ExprD) × Int) => ⟨101, [(1, (aInt v2)), (2, (.ptr 0 0)), (5, (aInt v12)), (8, (aInt (v8 : Int)))], [.cells (aExpr v1).cells]⟩) (fun ((v8, v9, v12) : Nat × (List ExprD) × Int) => v1.xArgs.drop v8 = v9 ∧ g_brocadebase_Weigh_L2 N v2 (g_brocadebase_WeighR N d) v9 v8 v12 = some r) (fun ((v8, v9, v12) : Nat × (List ExprD) × Int) => v9.length) (0, v1.xArgs, v7) (Nat.le_of_ble_eq_true rfl) (by kernel_rfl) ⟨rfl, hF⟩ ?_
   rintro ⟨v8, v9, v12⟩ ⟨h6, hF⟩
   cases v9 with
   | nil =>
    rw [g_brocadebase_Weigh_L2] at hF
    refine aw_seq ?_
    refine aw_seq ?_
    refine rg [(10, ⟨_, _, .len (xs := dExprs v1.xArgs) dExprs_len⟩), (18, bF (lt_f h6)), (21, bF (lt_f h6)), (24, bF (lt_f h6)), (28, bF (lt_f h6))] [(86, (aBool false))] [.cells (aExpr v1).cells] (by kernel_rfl) ?_
    refine aw_cond_g (t := false) (by kernel_rfl) rfl ?_
    refine aw_exit (at_e (at_e (ab_y rfl ?_)))
    refine at_n ?_
    refine aw_seq ?_
    refine rg [] [(4, (aInt v12))] [.cells (aExpr v1).cells] (by kernel_rfl) ?_
    refine aw_ret ?_
    have hr := Option.some.inj hF; subst hr; exact ret_ok (by kernel_rfl)
   | cons v10 v11 =>
    rw [g_brocadebase_Weigh_L2] at hF
    refine aw_seq ?_
    refine aw_seq ?_
    refine rg [(10, ⟨_, _, .len (xs := dExprs v1.xArgs) dExprs_len⟩), (18, bT (lt_t h6)), (21, bT (lt_t h6)), (24, bT (lt_t h6)), (28, bT (lt_t h6))] [(86, (aBool (decide (v12 ≤ v2))))] [.cells (aExpr v1).cells] (by kernel_rfl) ?_
    rcases bool_cases (decide (v12 ≤ v2)) with h7 | h7
    · replace hF := (cond_t h7).symm.trans hF
      refine aw_cond_h (t := (decide (v12 ≤ v2))) (by kernel_rfl) h7 ?_
      refine aw_skip ?_
      refine at_n ?_
      refine aw_seq ?_
      refine aw_block ?_
      obtain ⟨v13, h8, hF⟩ := bind_some hF
      refine re [(13, ⟨_, _, .el (xs := dExprs v1.xArgs) (i := (v8 : Int)) (Int.natCast_nonneg _) (dExprs_get (drop_get h6))⟩), (28, cL (ih72 v10 (w64 (v2 - v12)) v13 h8))] [(5, (aInt (w64 (v12 + v13)))), (99, (aInt (w64 (v12 + v13)))), (98, (aInt v13)), (97, (aInt (w64 (v2 - v12)))), (96, (aInt v12)), (95, (aInt v2)), (94, (aExpr v10)), (93, (.elt [dExpr v10] 0 0)), (92, (aInt (v8 : Int))), (91, (.d (.sl (dExprs v1.xArgs)))), (90, (.ptr 0 12)), (89, (aInt v12))] [.cells (aExpr v1).cells] (by kernel_rfl) ?_
      refine ab_n ?_
      refine at_n ?_
      refine re [(5, ⟨_, _, .eq (wrap_nx h6 rfl h5)⟩)] [(8, (aInt ((v8 + 1 : Nat) : Int))), (88, (aInt ((v8 + 1 : Nat) : Int))), (87, (aInt (v8 : Int)))] [.cells (aExpr v1).cells] (by kernel_rfl) ?_
      refine at_n ?_
      exact ⟨(v8 + 1, v11, (w64 (v12 + v13))), by kernel_rfl, ⟨drop_nx h6, hF⟩, Nat.lt_succ_self _⟩
    · replace hF := (cond_f h7).symm.trans hF
      refine aw_cond_g (t := (decide (v12 ≤ v2))) (by kernel_rfl) h7 ?_
      refine aw_exit (at_e (at_e (ab_y rfl ?_)))
      refine at_n ?_
      refine aw_seq ?_
      refine rg [] [(4, (aInt v12))] [.cells (aExpr v1).cells] (by kernel_rfl) ?_
      refine aw_ret ?_
      have hr := Option.some.inj hF; subst hr; exact ret_ok (by kernel_rfl)
  | cons v5 v6 =>
   rw [g_brocadebase_Weigh_L1] at hF
   refine aw_seq ?_
   refine aw_seq ?_
   refine rg [(10, ⟨_, _, .len (xs := dIndexs v1.xIdx) dIndexs_len⟩), (18, bT (lt_t h3)), (21, bT (lt_t h3)), (24, bT (lt_t h3)), (28, bT (lt_t h3))] [(27, (aBool (decide (v7 ≤ v2))))] [.cells (aExpr v1).cells] (by kernel_rfl) ?_
   rcases bool_cases (decide (v7 ≤ v2)) with h9 | h9
   · replace hF := (cond_t h9).symm.trans hF
     refine aw_cond_h (t := (decide (v7 ≤ v2))) (by kernel_rfl) h9 ?_
     refine aw_skip ?_
     refine at_n ?_
     refine aw_seq ?_
     refine aw_block ?_
     refine aw_seq ?_
     refine rd mixed (by kernel_rfl) [(13, ⟨_, _, .el (xs := dIndexs v1.xIdx) (i := (v3 : Int)) (Int.natCast_nonneg _) (dIndexs_get (drop_get h3))⟩), (25, ⟨_, _, .len (xs := dMonos v5.xLin.xL) dMonos_len⟩), (40, ⟨_, _, .el (xs := dIndexs v1.xIdx) (i := (v3 : Int)) (Int.natCast_nonneg _) (dIndexs_get (drop_get h3))⟩), (49, ⟨_, _, .len (xs := dLins v5.xAt) dLins_len⟩)] [(5, (aInt (w64 ((w64 (v7 + (v5.xLin.xL.length : Int))) + (v5.xAt.length : Int)))))] [.cells (aExpr v1).cells] (by kernel_rfl) ?_
     refine aw_seq ?_
     refine rg [] [(7, (aInt (0 : Int)))] [.cells (aExpr v1).cells] (by kernel_rfl) ?_
     refine aw_block ?_
     refine aw_okB 0 11 (dIndexs v1.xIdx) (by kernel_rfl) fun h10 => ?_
     have h11 : v5.xAt.length ≤ maxLen := by rw [← dLins_len]; exact ok_len (ok_el (j := 3) (d := .sl (dLins v5.xAt)) h10 (dIndexs_get (drop_get h3)) rfl)
     refine aw_loopC [1, 2, 5, 6, 7] 1 (fun ((v14, v15, v18) : Nat × (List LinD) × Int) => ⟨101, [(1, (aInt v2)), (2, (.ptr 0 0)), (5, (aInt v18)), (6, (aInt (v3 : Int))), (7, (aInt (v14 : Int)))], [.cells (aExpr v1).cells]⟩) (fun ((v14, v15, v18) : Nat × (List LinD) × Int) => v5.xAt.drop v14 = v15 ∧ g_brocadebase_Weigh_L3 N (fun b1_0 => g_brocadebase_Weigh_L1 N v2 (g_brocadebase_WeighR N d) v1 v6 (v3 + 1) b1_0) v2 v15 v14 v18 = some r) (fun ((v14, v15, v18) : Nat × (List LinD) × Int) => v15.length) (0, v5.xAt, (w64 ((w64 (v7 + (v5.xLin.xL.length : Int))) + (v5.xAt.length : Int)))) (Nat.le_of_ble_eq_true rfl) (by kernel_rfl) ⟨rfl, hF⟩ ?_
     rintro ⟨v14, v15, v18⟩ ⟨h12, hF⟩
     cases v15 with
     | nil =>
      rw [g_brocadebase_Weigh_L3] at hF
      refine aw_seq ?_
      refine aw_seq ?_
      refine rg [(13, ⟨_, _, .el (xs := dIndexs v1.xIdx) (i := (v3 : Int)) (Int.natCast_nonneg _) (dIndexs_get (drop_get h3))⟩), (22, ⟨_, _, .len (xs := dLins v5.xAt) dLins_len⟩), (30, bF (lt_f h12)), (33, bF (lt_f h12)), (36, bF (lt_f h12)), (40, bF (lt_f h12))] [(61, (aBool false))] [.cells (aExpr v1).cells] (by kernel_rfl) ?_
      refine aw_cond_g (t := false) (by kernel_rfl) rfl ?_
      refine aw_exit (at_e (at_e (ab_y rfl ?_)))
      refine ab_n ?_
      refine at_n ?_
      refine re [(5, ⟨_, _, .eq (wrap_nx h3 rfl h2)⟩)] [(6, (aInt ((v3 + 1 : Nat) : Int))), (29, (aInt ((v3 + 1 : Nat) : Int))), (28, (aInt (v3 : Int)))] [.cells (aExpr v1).cells] (by kernel_rfl) ?_
      refine at_n ?_
      exact ⟨(v3 + 1, v6, v18), by kernel_rfl, ⟨drop_nx h3, hF⟩, Nat.lt_succ_self _⟩
     | cons v16 v17 =>
      rw [g_brocadebase_Weigh_L3] at hF
      refine aw_seq ?_
      refine aw_seq ?_
      refine rg [(13, ⟨_, _, .el (xs := dIndexs v1.xIdx) (i := (v3 : Int)) (Int.natCast_nonneg _) (dIndexs_get (drop_get h3))⟩), (22, ⟨_, _, .len (xs := dLins v5.xAt) dLins_len⟩), (30, bT (lt_t h12)), (33, bT (lt_t h12)), (36, bT (lt_t h12)), (40, bT (lt_t h12))] [(61, (aBool (decide (v18 ≤ v2))))] [.cells (aExpr v1).cells] (by kernel_rfl) ?_
      rcases bool_cases (decide (v18 ≤ v2)) with h13 | h13
      · replace hF := (cond_t h13).symm.trans hF
        refine aw_cond_h (t := (decide (v18 ≤ v2))) (by kernel_rfl) h13 ?_
        refine aw_skip ?_
        refine at_n ?_
        refine aw_seq ?_
        refine aw_block ?_
        refine re [(13, ⟨_, _, .el (xs := dIndexs v1.xIdx) (i := (v3 : Int)) (Int.natCast_nonneg _) (dIndexs_get (drop_get h3))⟩), (25, ⟨_, _, .el (xs := dLins v5.xAt) (i := (v14 : Int)) (Int.natCast_nonneg _) (dLins_get (drop_get h12))⟩), (34, ⟨_, _, .len (xs := dMonos v16.xL) dMonos_len⟩)] [(5, (aInt (w64 (v18 + (v16.xL.length : Int))))), (76, (aInt (w64 (v18 + (v16.xL.length : Int))))), (75, (aInt (v16.xL.length : Int))), (74, (.d (.sl (dMonos v16.xL)))), (73, (.elt [dLin v16] 0 1)), (72, (.elt [dLin v16] 0 0)), (71, (aInt (v14 : Int))), (70, (.d (.sl (dLins v5.xAt)))), (69, (.elt [dIndex v5] 0 3)), (68, (.elt [dIndex v5] 0 0)), (67, (aInt (v3 : Int))), (66, (.d (.sl (dIndexs v1.xIdx)))), (65, (.ptr 0 11)), (64, (aInt v18))] [.cells (aExpr v1).cells] (by kernel_rfl) ?_
        refine ab_n ?_
        refine at_n ?_
        refine re [(5, ⟨_, _, .eq (wrap_nx h12 rfl h11)⟩)] [(7, (aInt ((v14 + 1 : Nat) : Int))), (63, (aInt ((v14 + 1 : Nat) : Int))), (62, (aInt (v14 : Int)))] [.cells (aExpr v1).cells] (by kernel_rfl) ?_
        refine at_n ?_
        exact ⟨(v14 + 1, v17, (w64 (v18 + (v16.xL.length : Int)))), by kernel_rfl, ⟨drop_nx h12, hF⟩, Nat.lt_succ_self _⟩
      · replace hF := (cond_f h13).symm.trans hF
        refine aw_cond_g (t := (decide (v18 ≤ v2))) (by kernel_rfl) h13 ?_
        refine aw_exit (at_e (at_e (ab_y rfl ?_)))
        refine ab_n ?_
        refine at_n ?_
        refine re [(5, ⟨_, _, .eq (wrap_nx h3 rfl h2)⟩)] [(6, (aInt ((v3 + 1 : Nat) : Int))), (29, (aInt ((v3 + 1 : Nat) : Int))), (28, (aInt (v3 : Int)))] [.cells (aExpr v1).cells] (by kernel_rfl) ?_
        refine at_n ?_
        exact ⟨(v3 + 1, v6, v18), by kernel_rfl, ⟨drop_nx h3, hF⟩, Nat.lt_succ_self _⟩
   · replace hF := (cond_f h9).symm.trans hF
     refine aw_cond_g (t := (decide (v7 ≤ v2))) (by kernel_rfl) h9 ?_
     refine aw_exit (at_e (at_e (ab_y rfl ?_)))
     refine at_n ?_
     refine aw_seq ?_
     refine aw_seq ?_
     refine rg [] [(8, (aInt (0 : Int)))] [.cells (aExpr v1).cells] (by kernel_rfl) ?_
     refine aw_block ?_
     refine aw_okB 0 12 (dExprs v1.xArgs) (by kernel_rfl) fun h14 => ?_
     have h15 : v1.xArgs.length ≤ maxLen := by rw [← dExprs_len]; exact ok_len h14
     refine aw_loopC [1, 2, 5, 8] 1 (fun ((v19, v20, v23) : Nat × (List ExprD) × Int) => ⟨101, [(1, (aInt v2)), (2, (.ptr 0 0)), (5, (aInt v23)), (8, (aInt (v19 : Int)))], [.cells (aExpr v1).cells]⟩) (fun ((v19, v20, v23) : Nat × (List ExprD) × Int) => v1.xArgs.drop v19 = v20 ∧ g_brocadebase_Weigh_L4 N v2 (g_brocadebase_WeighR N d) v20 v19 v23 = some r) (fun ((v19, v20, v23) : Nat × (List ExprD) × Int) => v20.length) (0, v1.xArgs, v7) (Nat.le_of_ble_eq_true rfl) (by kernel_rfl) ⟨rfl, hF⟩ ?_
     rintro ⟨v19, v20, v23⟩ ⟨h16, hF⟩
     cases v20 with
     | nil =>
      rw [g_brocadebase_Weigh_L4] at hF
      refine aw_seq ?_
      refine aw_seq ?_
      refine rg [(10, ⟨_, _, .len (xs := dExprs v1.xArgs) dExprs_len⟩), (18, bF (lt_f h16)), (21, bF (lt_f h16)), (24, bF (lt_f h16)), (28, bF (lt_f h16))] [(86, (aBool false))] [.cells (aExpr v1).cells] (by kernel_rfl) ?_
      refine aw_cond_g (t := false) (by kernel_rfl) rfl ?_
      refine aw_exit (at_e (at_e (ab_y rfl ?_)))
      refine at_n ?_
      refine aw_seq ?_
      refine rg [] [(4, (aInt v23))] [.cells (aExpr v1).cells] (by kernel_rfl) ?_
      refine aw_ret ?_
      have hr := Option.some.inj hF; subst hr; exact ret_ok (by kernel_rfl)
     | cons v21 v22 =>
      rw [g_brocadebase_Weigh_L4] at hF
      refine aw_seq ?_
      refine aw_seq ?_
      refine rg [(10, ⟨_, _, .len (xs := dExprs v1.xArgs) dExprs_len⟩), (18, bT (lt_t h16)), (21, bT (lt_t h16)), (24, bT (lt_t h16)), (28, bT (lt_t h16))] [(86, (aBool (decide (v23 ≤ v2))))] [.cells (aExpr v1).cells] (by kernel_rfl) ?_
      rcases bool_cases (decide (v23 ≤ v2)) with h17 | h17
      · replace hF := (cond_t h17).symm.trans hF
        refine aw_cond_h (t := (decide (v23 ≤ v2))) (by kernel_rfl) h17 ?_
        refine aw_skip ?_
        refine at_n ?_
        refine aw_seq ?_
        refine aw_block ?_
        obtain ⟨v24, h18, hF⟩ := bind_some hF
        refine re [(13, ⟨_, _, .el (xs := dExprs v1.xArgs) (i := (v19 : Int)) (Int.natCast_nonneg _) (dExprs_get (drop_get h16))⟩), (28, cL (ih72 v21 (w64 (v2 - v23)) v24 h18))] [(5, (aInt (w64 (v23 + v24)))), (99, (aInt (w64 (v23 + v24)))), (98, (aInt v24)), (97, (aInt (w64 (v2 - v23)))), (96, (aInt v23)), (95, (aInt v2)), (94, (aExpr v21)), (93, (.elt [dExpr v21] 0 0)), (92, (aInt (v19 : Int))), (91, (.d (.sl (dExprs v1.xArgs)))), (90, (.ptr 0 12)), (89, (aInt v23))] [.cells (aExpr v1).cells] (by kernel_rfl) ?_
        refine ab_n ?_
        refine at_n ?_
        refine re [(5, ⟨_, _, .eq (wrap_nx h16 rfl h15)⟩)] [(8, (aInt ((v19 + 1 : Nat) : Int))), (88, (aInt ((v19 + 1 : Nat) : Int))), (87, (aInt (v19 : Int)))] [.cells (aExpr v1).cells] (by kernel_rfl) ?_
        refine at_n ?_
        exact ⟨(v19 + 1, v22, (w64 (v23 + v24))), by kernel_rfl, ⟨drop_nx h16, hF⟩, Nat.lt_succ_self _⟩
      · replace hF := (cond_f h17).symm.trans hF
        refine aw_cond_g (t := (decide (v23 ≤ v2))) (by kernel_rfl) h17 ?_
        refine aw_exit (at_e (at_e (ab_y rfl ?_)))
        refine at_n ?_
        refine aw_seq ?_
        refine rg [] [(4, (aInt v23))] [.cells (aExpr v1).cells] (by kernel_rfl) ?_
        refine aw_ret ?_
        have hr := Option.some.inj hF; subst hr; exact ret_ok (by kernel_rfl)
theorem g_brocadebase_Weigh_ok (N : Nat) (v1 : ExprD) (v2 : Int) (r : Int) (hF : g_brocadebase_Weigh N v1 v2 = some r) : AFn Tryz.prog 7 [(aExpr v1), (aInt v2)] (· = (aInt r)) := (g_brocadebase_WeighR_all N N) v1 v2 r hF
def g_brocadelaw21_examples (N : Nat) : Option Bool := some true
theorem g_brocadelaw21_examples_ok (N : Nat) (r : Bool) (hF : g_brocadelaw21_examples N = some r) : AFn Tryz.prog 8 [] (· = (aBool r)) := by
 cases hF; exact examples_abs
def g_simplify_Cost_L2 (N : Nat) : List IndexD → Nat → Int → Option Int
 | [], _, v7 =>
  some (w64 ((1 : Int) + v7))
 | v5 :: v6, v3, v7 =>
  bif (bL v5.xFrom == bL (bs [])) then
   (fun b2_0 => g_simplify_Cost_L2 N v6 (v3 + 1) b2_0) v7
  else
   (fun b2_0 => g_simplify_Cost_L2 N v6 (v3 + 1) b2_0) (w64 (v7 + (1 : Int)))
def g_simplify_Cost_L3 (N : Nat) (rec74 : ExprD → Option Int) : List ExprD → Nat → Int → Option Int
 | [], _, v12 =>
  some (w64 ((1 : Int) + v12))
 | v10 :: v11, v8, v12 =>
  Option.bind (rec74 v10) fun v13 =>
  (fun b3_0 => g_simplify_Cost_L3 N rec74 v11 (v8 + 1) b3_0) (w64 (v12 + v13))
def g_simplify_Cost_J1 (N : Nat) (v1 : ExprD) (rec74 : ExprD → Option Int) (v2 : Bool) : Option Int :=
 bif v2 then
  some (0 : Int)
 else
  bif (v1.xOp == (3 : Int)) then
   g_simplify_Cost_L2 N v1.xIdx 0 (0 : Int)
  else
   g_simplify_Cost_L3 N rec74 v1.xArgs 0 (0 : Int)
def g_simplify_CostR (N : Nat) : Nat → ExprD → Option Int
 | 0, _ => none
 | d + 1, v1 =>
  bif (v1.xOp == (1 : Int)) then
   g_simplify_Cost_J1 N v1 (g_simplify_CostR N d) (v1.xOp == (1 : Int))
  else
   g_simplify_Cost_J1 N v1 (g_simplify_CostR N d) (v1.xOp == (2 : Int))
def g_simplify_Cost (N : Nat) (v1 : ExprD) : Option Int := g_simplify_CostR N N v1
theorem g_simplify_CostR_all (N : Nat) : ∀ d : Nat, (∀ (v1 : ExprD) (r : Int), g_simplify_CostR N d v1 = some r → AFn Tryz.prog 15 [(aExpr v1)] (· = (aInt r))) := by
 intro d
 induction d with
 | zero => intro v1 r hF; rw [g_simplify_CostR] at hF; cases hF
 | succ d ih =>
  have ih74 := ih
  intro v1 r hF
  rw [g_simplify_CostR] at hF
  refine afn_of Tryz.func15 rfl (by kernel_rfl) ?_
  refine aw_cut [0] 0 (Nat.le_refl _) (s' := ⟨44, [(0, (aExpr v1))], []⟩) (by kernel_rfl) ?_
  refine aw_seq ?_
  refine rg [] [(1, (.ptr 0 0))] [.cells (aExpr v1).cells] (by kernel_rfl) ?_
  refine aw_seq ?_
  refine rg [] [(3, (aInt (0 : Int)))] [.cells (aExpr v1).cells] (by kernel_rfl) ?_
  refine aw_seq ?_
  refine aw_seq ?_
  refine rg [] [(9, (aInt v1.xOp))] [.cells (aExpr v1).cells] (by kernel_rfl) ?_
  refine aw_block ?_
  refine aw_seq ?_
  refine aw_seq ?_
  refine rg [] [(10, (aBool (v1.xOp == (1 : Int))))] [.cells (aExpr v1).cells] (by kernel_rfl) ?_
  refine aw_joinC [1, 3, 9, 10] 1 (fun (v2 : Bool) => ⟨44, [(1, (.ptr 0 0)), (3, (aInt (0 : Int))), (9, (aInt v1.xOp)), (10, (aBool v2))], [.cells (aExpr v1).cells]⟩) (fun (v2 : Bool) => g_simplify_Cost_J1 N v1 (g_simplify_CostR N d) v2 = some r) (Nat.le_of_ble_eq_true rfl) ?_ ?_
  · rcases bool_cases (v1.xOp == (1 : Int)) with h11 | h11
    · replace hF := (cond_t h11).symm.trans hF
      refine aw_cond_h (t := (v1.xOp == (1 : Int))) (by kernel_rfl) h11 ?_
      refine aw_skip ?_
      refine at_n ?_
      exact ⟨(v1.xOp == (1 : Int)), by kernel_rfl, hF⟩
    · replace hF := (cond_f h11).symm.trans hF
      refine aw_cond_g (t := (v1.xOp == (1 : Int))) (by kernel_rfl) h11 ?_
      refine re [] [(10, (aBool (v1.xOp == (2 : Int)))), (12, (aBool (v1.xOp == (2 : Int))))] [.cells (aExpr v1).cells] (by kernel_rfl) ?_
      refine at_n ?_
      exact ⟨(v1.xOp == (2 : Int)), by kernel_rfl, hF⟩
  · rintro v2 hF
    try dsimp only at hF
    rw [g_simplify_Cost_J1] at hF
    rcases bool_cases v2 with h1 | h1
    · replace hF := (cond_t h1).symm.trans hF
      refine aw_cond_h (t := v2) (by kernel_rfl) h1 ?_
      refine aw_seq ?_
      refine rg [] [(2, (aInt (0 : Int)))] [.cells (aExpr v1).cells] (by kernel_rfl) ?_
      refine aw_ret (ab_r (at_r ?_))
      have hr := Option.some.inj hF; subst hr; exact ret_ok (by kernel_rfl)
    · replace hF := (cond_f h1).symm.trans hF
      refine aw_cond_g (t := v2) (by kernel_rfl) h1 ?_
      refine aw_seq ?_
      refine rg [] [(13, (aBool (v1.xOp == (3 : Int))))] [.cells (aExpr v1).cells] (by kernel_rfl) ?_
      rcases bool_cases (v1.xOp == (3 : Int)) with h2 | h2
      · replace hF := (cond_t h2).symm.trans hF
        refine aw_cond_h (t := (v1.xOp == (3 : Int))) (by kernel_rfl) h2 ?_
        refine aw_seq ?_
        refine aw_seq ?_
        refine rg [(7, ⟨_, _, .len (xs := dIndexs v1.xIdx) dIndexs_len⟩)] [(16, (.d (.sl (dIndexs v1.xIdx)))), (17, (aInt (v1.xIdx.length : Int))), (18, (aInt (0 : Int)))] [.cells (aExpr v1).cells] (by kernel_rfl) ?_
        refine aw_block ?_
        refine aw_okT 16 (dIndexs v1.xIdx) (by kernel_rfl) fun h3 => ?_
        have h4 : v1.xIdx.length ≤ maxLen := by rw [← dIndexs_len]; exact ok_len h3
        refine aw_loopC [3, 16, 17, 18] 1 (fun ((v3, v4, v7) : Nat × (List IndexD) × Int) => ⟨44, [(3, (aInt v7)), (16, (.d (.sl (dIndexs v1.xIdx)))), (17, (aInt (v1.xIdx.length : Int))), (18, (aInt (v3 : Int)))], [.cells (aExpr v1).cells]⟩) (fun ((v3, v4, v7) : Nat × (List IndexD) × Int) => v1.xIdx.drop v3 = v4 ∧ g_simplify_Cost_L2 N v4 v3 v7 = some r) (fun ((v3, v4, v7) : Nat × (List IndexD) × Int) => v4.length) (0, v1.xIdx, (0 : Int)) (Nat.le_of_ble_eq_true rfl) (by kernel_rfl) ⟨rfl, hF⟩ ?_
        rintro ⟨v3, v4, v7⟩ ⟨h5, hF⟩
        cases v4 with
        | nil =>
         rw [g_simplify_Cost_L2] at hF
         refine aw_seq ?_
         refine rg [] [(19, (aBool (decide ((v3 : Int) < (v1.xIdx.length : Int)))))] [.cells (aExpr v1).cells] (by kernel_rfl) ?_
         refine aw_seq ?_
         refine aw_cond_g (t := (decide ((v3 : Int) < (v1.xIdx.length : Int)))) (by kernel_rfl) (lt_f h5) ?_
         refine aw_exit (at_e (at_e (ab_y rfl ?_)))
         refine at_n ?_
         refine aw_seq ?_
         refine rg [] [(2, (aInt (w64 ((1 : Int) + v7))))] [.cells (aExpr v1).cells] (by kernel_rfl) ?_
         refine aw_ret (ab_r (at_r ?_))
         have hr := Option.some.inj hF; subst hr; exact ret_ok (by kernel_rfl)
        | cons v5 v6 =>
         rw [g_simplify_Cost_L2] at hF
         refine aw_seq ?_
         refine rg [] [(19, (aBool (decide ((v3 : Int) < (v1.xIdx.length : Int)))))] [.cells (aExpr v1).cells] (by kernel_rfl) ?_
         refine aw_seq ?_
         refine aw_cond_h (t := (decide ((v3 : Int) < (v1.xIdx.length : Int)))) (by kernel_rfl) (lt_t h5) ?_
         refine aw_skip ?_
         refine at_n ?_
         refine aw_seq ?_
         refine aw_block ?_
         refine aw_seq ?_
         refine rg [(1, ⟨_, _, .el (xs := dIndexs v1.xIdx) (i := (v3 : Int)) (Int.natCast_nonneg _) (dIndexs_get (drop_get h5))⟩)] [(5, (.ptr 1 0))] [.cells (aExpr v1).cells, .cells (aIndex v5).cells] (by kernel_rfl) ?_
         refine aw_seq ?_
         refine rg [] [(24, (aBool (!(bL v5.xFrom == bL (bs [])))))] [.cells (aExpr v1).cells, .cells (aIndex v5).cells] (by kernel_rfl) ?_
         rcases bool_cases (bL v5.xFrom == bL (bs [])) with h6 | h6
         · replace hF := (cond_t h6).symm.trans hF
           refine aw_cond_g (t := (!(bL v5.xFrom == bL (bs [])))) (by kernel_rfl) (not_t h6) ?_
           refine aw_skip ?_
           refine ab_n ?_
           refine at_n ?_
           refine re [(2, ⟨_, _, .eq (wrap_nx h5 rfl h4)⟩)] [(18, (aInt ((v3 + 1 : Nat) : Int))), (27, (aInt ((v3 + 1 : Nat) : Int)))] [.cells (aExpr v1).cells, .cells (aIndex v5).cells] (by kernel_rfl) ?_
           refine at_n ?_
           exact ⟨(v3 + 1, v6, v7), by kernel_rfl, ⟨drop_nx h5, hF⟩, Nat.lt_succ_self _⟩
         · replace hF := (cond_f h6).symm.trans hF
           refine aw_cond_h (t := (!(bL v5.xFrom == bL (bs [])))) (by kernel_rfl) (not_f h6) ?_
           refine re [] [(3, (aInt (w64 (v7 + (1 : Int))))), (26, (aInt (w64 (v7 + (1 : Int))))), (25, (aInt v7))] [.cells (aExpr v1).cells, .cells (aIndex v5).cells] (by kernel_rfl) ?_
           refine ab_n ?_
           refine at_n ?_
           refine re [(2, ⟨_, _, .eq (wrap_nx h5 rfl h4)⟩)] [(18, (aInt ((v3 + 1 : Nat) : Int))), (27, (aInt ((v3 + 1 : Nat) : Int)))] [.cells (aExpr v1).cells, .cells (aIndex v5).cells] (by kernel_rfl) ?_
           refine at_n ?_
           exact ⟨(v3 + 1, v6, (w64 (v7 + (1 : Int)))), by kernel_rfl, ⟨drop_nx h5, hF⟩, Nat.lt_succ_self _⟩
      · replace hF := (cond_f h2).symm.trans hF
        refine aw_cond_g (t := (v1.xOp == (3 : Int))) (by kernel_rfl) h2 ?_
        refine aw_skip ?_
        refine ab_n ?_
        refine at_n ?_
        refine aw_seq ?_
        refine aw_seq ?_
        refine rg [(7, ⟨_, _, .len (xs := dExprs v1.xArgs) dExprs_len⟩)] [(31, (.d (.sl (dExprs v1.xArgs)))), (32, (aInt (v1.xArgs.length : Int))), (33, (aInt (0 : Int)))] [.cells (aExpr v1).cells] (by kernel_rfl) ?_
        refine aw_block ?_
        refine aw_okT 31 (dExprs v1.xArgs) (by kernel_rfl) fun h7 => ?_
        have h8 : v1.xArgs.length ≤ maxLen := by rw [← dExprs_len]; exact ok_len h7
        refine aw_loopC [3, 31, 32, 33] 1 (fun ((v8, v9, v12) : Nat × (List ExprD) × Int) => ⟨44, [(3, (aInt v12)), (31, (.d (.sl (dExprs v1.xArgs)))), (32, (aInt (v1.xArgs.length : Int))), (33, (aInt (v8 : Int)))], [.cells (aExpr v1).cells]⟩) (fun ((v8, v9, v12) : Nat × (List ExprD) × Int) => v1.xArgs.drop v8 = v9 ∧ g_simplify_Cost_L3 N (g_simplify_CostR N d) v9 v8 v12 = some r) (fun ((v8, v9, v12) : Nat × (List ExprD) × Int) => v9.length) (0, v1.xArgs, (0 : Int)) (Nat.le_of_ble_eq_true rfl) (by kernel_rfl) ⟨rfl, hF⟩ ?_
        rintro ⟨v8, v9, v12⟩ ⟨h9, hF⟩
        cases v9 with
        | nil =>
         rw [g_simplify_Cost_L3] at hF
         refine aw_seq ?_
         refine rg [] [(34, (aBool (decide ((v8 : Int) < (v1.xArgs.length : Int)))))] [.cells (aExpr v1).cells] (by kernel_rfl) ?_
         refine aw_seq ?_
         refine aw_cond_g (t := (decide ((v8 : Int) < (v1.xArgs.length : Int)))) (by kernel_rfl) (lt_f h9) ?_
         refine aw_exit (at_e (at_e (ab_y rfl ?_)))
         refine at_n ?_
         refine aw_seq ?_
         refine rg [] [(2, (aInt (w64 ((1 : Int) + v12))))] [.cells (aExpr v1).cells] (by kernel_rfl) ?_
         refine aw_ret ?_
         have hr := Option.some.inj hF; subst hr; exact ret_ok (by kernel_rfl)
        | cons v10 v11 =>
         rw [g_simplify_Cost_L3] at hF
         refine aw_seq ?_
         refine rg [] [(34, (aBool (decide ((v8 : Int) < (v1.xArgs.length : Int)))))] [.cells (aExpr v1).cells] (by kernel_rfl) ?_
         refine aw_seq ?_
         refine aw_cond_h (t := (decide ((v8 : Int) < (v1.xArgs.length : Int)))) (by kernel_rfl) (lt_t h9) ?_
         refine aw_skip ?_
         refine at_n ?_
         refine aw_seq ?_
         refine aw_block ?_
         refine aw_seq ?_
         refine rg [(1, ⟨_, _, .el (xs := dExprs v1.xArgs) (i := (v8 : Int)) (Int.natCast_nonneg _) (dExprs_get (drop_get h9))⟩)] [(7, (.ptr 1 0))] [.cells (aExpr v1).cells, .cells (aExpr v10).cells] (by kernel_rfl) ?_
         obtain ⟨v13, h10, hF⟩ := bind_some hF
         refine re [(7, cL (ih74 v10 v13 h10))] [(3, (aInt (w64 (v12 + v13)))), (40, (aInt (w64 (v12 + v13)))), (39, (aInt v13)), (38, (aExpr v10)), (37, (aInt v12))] [.cells (aExpr v1).cells, .cells (aExpr v10).cells] (by kernel_rfl) ?_
         refine ab_n ?_
         refine at_n ?_
         refine re [(2, ⟨_, _, .eq (wrap_nx h9 rfl h8)⟩)] [(33, (aInt ((v8 + 1 : Nat) : Int))), (41, (aInt ((v8 + 1 : Nat) : Int)))] [.cells (aExpr v1).cells, .cells (aExpr v10).cells] (by kernel_rfl) ?_
         refine at_n ?_
         exact ⟨(v8 + 1, v11, (w64 (v12 + v13))), by kernel_rfl, ⟨drop_nx h9, hF⟩, Nat.lt_succ_self _⟩
theorem g_simplify_Cost_ok (N : Nat) (v1 : ExprD) (r : Int) (hF : g_simplify_Cost N v1 = some r) : AFn Tryz.prog 15 [(aExpr v1)] (· = (aInt r)) := (g_simplify_CostR_all N N) v1 r hF
def g_brocaderef21_Cost_L1 (N : Nat) : List IndexD → Nat → Int → Option Int
 | [], _, v7 =>
  some v7
 | v5 :: v6, v3, v7 =>
  bif (bL v5.xFrom == bL (bs [])) then
   (fun b1_0 => g_brocaderef21_Cost_L1 N v6 (v3 + 1) b1_0) v7
  else
   (fun b1_0 => g_brocaderef21_Cost_L1 N v6 (v3 + 1) b1_0) (w64 (v7 + (1 : Int)))
def g_brocaderef21_Cost_L2 (N : Nat) (rec75 : ExprD → Option Int) : List ExprD → Nat → Int → Option Int
 | [], _, v12 =>
  some v12
 | v10 :: v11, v8, v12 =>
  Option.bind (rec75 v10) fun v13 =>
  (fun b2_0 => g_brocaderef21_Cost_L2 N rec75 v11 (v8 + 1) b2_0) (w64 (v12 + v13))
def g_brocaderef21_CostR (N : Nat) : Nat → ExprD → Option Int
 | 0, _ => none
 | d + 1, v1 =>
  Option.bind (bif (v1.xOp == (1 : Int)) then some true else some (v1.xOp == (2 : Int))) fun v2 =>
  bif v2 then
   some (0 : Int)
  else
   bif (v1.xOp == (3 : Int)) then
    g_brocaderef21_Cost_L1 N v1.xIdx 0 (1 : Int)
   else
    g_brocaderef21_Cost_L2 N (g_brocaderef21_CostR N d) v1.xArgs 0 (1 : Int)
def g_brocaderef21_Cost (N : Nat) (v1 : ExprD) : Option Int := g_brocaderef21_CostR N N v1
theorem g_brocaderef21_CostR_all (N : Nat) : ∀ d : Nat, (∀ (v1 : ExprD) (r : Int), g_brocaderef21_CostR N d v1 = some r → AFn Tryz.prog 16 [(aExpr v1)] (· = (aInt r))) := by
 intro d
 induction d with
 | zero => intro v1 r hF; rw [g_brocaderef21_CostR] at hF; cases hF
 | succ d ih =>
  have ih75 := ih
  intro v1 r hF
  rw [g_brocaderef21_CostR] at hF
  refine afn_of Tryz.func16 rfl (by kernel_rfl) ?_
  refine aw_cut [0] 0 (Nat.le_refl _) (s' := ⟨50, [(0, (aExpr v1))], []⟩) (by kernel_rfl) ?_
  refine aw_seq ?_
  refine rg [] [(1, (.ptr 0 0))] [.cells (aExpr v1).cells] (by kernel_rfl) ?_
  refine aw_seq ?_
  refine aw_seq ?_
  obtain ⟨v2, h2, hF⟩ := bind_some hF
  refine rgE [(13, (aBool v2))] [.cells (aExpr v1).cells] ?_ ?_
  · rcases bool_cases (v1.xOp == (1 : Int)) with h1 | h1
    · replace h2 := (cond_t h1).symm.trans h2
      have he := Option.some.inj h2; subst he; exact ⟨[(12, bT h1), (15, bT h1), (18, bT h1), (22, bT h1)], by kernel_rfl⟩
    · replace h2 := (cond_f h1).symm.trans h2
      have he := Option.some.inj h2; subst he; exact ⟨[(12, bF h1), (15, bF h1), (18, bF h1), (22, bF h1)], by kernel_rfl⟩
  · rcases bool_cases v2 with h3 | h3
    · replace hF := (cond_t h3).symm.trans hF
      refine aw_cond_h (t := v2) (by kernel_rfl) h3 ?_
      refine aw_seq ?_
      refine rg [] [(2, (aInt (0 : Int)))] [.cells (aExpr v1).cells] (by kernel_rfl) ?_
      refine aw_ret (at_r ?_)
      have hr := Option.some.inj hF; subst hr; exact ret_ok (by kernel_rfl)
    · replace hF := (cond_f h3).symm.trans hF
      refine aw_cond_g (t := v2) (by kernel_rfl) h3 ?_
      refine aw_skip ?_
      refine at_n ?_
      refine aw_seq ?_
      refine rg [] [(3, (aInt (1 : Int)))] [.cells (aExpr v1).cells] (by kernel_rfl) ?_
      refine aw_seq ?_
      refine aw_seq ?_
      refine rg [] [(16, (aBool (v1.xOp == (3 : Int))))] [.cells (aExpr v1).cells] (by kernel_rfl) ?_
      rcases bool_cases (v1.xOp == (3 : Int)) with h4 | h4
      · replace hF := (cond_t h4).symm.trans hF
        refine aw_cond_h (t := (v1.xOp == (3 : Int))) (by kernel_rfl) h4 ?_
        refine aw_seq ?_
        refine aw_seq ?_
        refine rg [] [(4, (aInt (0 : Int)))] [.cells (aExpr v1).cells] (by kernel_rfl) ?_
        refine aw_block ?_
        refine aw_okB 0 11 (dIndexs v1.xIdx) (by kernel_rfl) fun h5 => ?_
        have h6 : v1.xIdx.length ≤ maxLen := by rw [← dIndexs_len]; exact ok_len h5
        refine aw_loopC [1, 3, 4] 1 (fun ((v3, v4, v7) : Nat × (List IndexD) × Int) => ⟨50, [(1, (.ptr 0 0)), (3, (aInt v7)), (4, (aInt (v3 : Int)))], [.cells (aExpr v1).cells]⟩) (fun ((v3, v4, v7) : Nat × (List IndexD) × Int) => v1.xIdx.drop v3 = v4 ∧ g_brocaderef21_Cost_L1 N v4 v3 v7 = some r) (fun ((v3, v4, v7) : Nat × (List IndexD) × Int) => v4.length) (0, v1.xIdx, (1 : Int)) (Nat.le_of_ble_eq_true rfl) (by kernel_rfl) ⟨rfl, hF⟩ ?_
        rintro ⟨v3, v4, v7⟩ ⟨h7, hF⟩
        cases v4 with
        | nil =>
         rw [g_brocaderef21_Cost_L1] at hF
         refine aw_seq ?_
         refine aw_seq ?_
         refine rg [(10, ⟨_, _, .len (xs := dIndexs v1.xIdx) dIndexs_len⟩)] [(21, (aBool (decide ((v3 : Int) < (v1.xIdx.length : Int)))))] [.cells (aExpr v1).cells] (by kernel_rfl) ?_
         refine aw_cond_g (t := (decide ((v3 : Int) < (v1.xIdx.length : Int)))) (by kernel_rfl) (lt_f h7) ?_
         refine aw_exit (at_e (at_e (ab_y rfl ?_)))
         refine at_n ?_
         refine aw_seq ?_
         refine rg [] [(2, (aInt v7))] [.cells (aExpr v1).cells] (by kernel_rfl) ?_
         refine aw_ret (at_r ?_)
         have hr := Option.some.inj hF; subst hr; exact ret_ok (by kernel_rfl)
        | cons v5 v6 =>
         rw [g_brocaderef21_Cost_L1] at hF
         refine aw_seq ?_
         refine aw_seq ?_
         refine rg [(10, ⟨_, _, .len (xs := dIndexs v1.xIdx) dIndexs_len⟩)] [(21, (aBool (decide ((v3 : Int) < (v1.xIdx.length : Int)))))] [.cells (aExpr v1).cells] (by kernel_rfl) ?_
         refine aw_cond_h (t := (decide ((v3 : Int) < (v1.xIdx.length : Int)))) (by kernel_rfl) (lt_t h7) ?_
         refine aw_skip ?_
         refine at_n ?_
         refine aw_seq ?_
         refine aw_block ?_
         refine aw_seq ?_
         refine rg [(10, ⟨_, _, .el (xs := dIndexs v1.xIdx) (i := (v3 : Int)) (Int.natCast_nonneg _) (dIndexs_get (drop_get h7))⟩)] [(30, (aBool (!(bL v5.xFrom == bL (bs [])))))] [.cells (aExpr v1).cells] (by kernel_rfl) ?_
         rcases bool_cases (bL v5.xFrom == bL (bs [])) with h8 | h8
         · replace hF := (cond_t h8).symm.trans hF
           refine aw_cond_g (t := (!(bL v5.xFrom == bL (bs [])))) (by kernel_rfl) (not_t h8) ?_
           refine aw_skip ?_
           refine ab_n ?_
           refine at_n ?_
           refine re [(5, ⟨_, _, .eq (wrap_nx h7 rfl h6)⟩)] [(4, (aInt ((v3 + 1 : Nat) : Int))), (23, (aInt ((v3 + 1 : Nat) : Int))), (22, (aInt (v3 : Int)))] [.cells (aExpr v1).cells] (by kernel_rfl) ?_
           refine at_n ?_
           exact ⟨(v3 + 1, v6, v7), by kernel_rfl, ⟨drop_nx h7, hF⟩, Nat.lt_succ_self _⟩
         · replace hF := (cond_f h8).symm.trans hF
           refine aw_cond_h (t := (!(bL v5.xFrom == bL (bs [])))) (by kernel_rfl) (not_f h8) ?_
           refine re [] [(3, (aInt (w64 (v7 + (1 : Int))))), (32, (aInt (w64 (v7 + (1 : Int))))), (31, (aInt v7))] [.cells (aExpr v1).cells] (by kernel_rfl) ?_
           refine ab_n ?_
           refine at_n ?_
           refine re [(5, ⟨_, _, .eq (wrap_nx h7 rfl h6)⟩)] [(4, (aInt ((v3 + 1 : Nat) : Int))), (23, (aInt ((v3 + 1 : Nat) : Int))), (22, (aInt (v3 : Int)))] [.cells (aExpr v1).cells] (by kernel_rfl) ?_
           refine at_n ?_
           exact ⟨(v3 + 1, v6, (w64 (v7 + (1 : Int)))), by kernel_rfl, ⟨drop_nx h7, hF⟩, Nat.lt_succ_self _⟩
      · replace hF := (cond_f h4).symm.trans hF
        refine aw_cond_g (t := (v1.xOp == (3 : Int))) (by kernel_rfl) h4 ?_
        refine aw_skip ?_
        refine at_n ?_
        refine aw_seq ?_
        refine aw_seq ?_
        refine rg [] [(5, (aInt (0 : Int)))] [.cells (aExpr v1).cells] (by kernel_rfl) ?_
        refine aw_block ?_
        refine aw_okB 0 12 (dExprs v1.xArgs) (by kernel_rfl) fun h9 => ?_
        have h10 : v1.xArgs.length ≤ maxLen := by rw [← dExprs_len]; exact ok_len h9
        refine aw_loopC [1, 3, 5] 1 (fun ((v8, v9, v12) : Nat × (List ExprD) × Int) => ⟨50, [(1, (.ptr 0 0)), (3, (aInt v12)), (5, (aInt (v8 : Int)))], [.cells (aExpr v1).cells]⟩) (fun ((v8, v9, v12) : Nat × (List ExprD) × Int) => v1.xArgs.drop v8 = v9 ∧ g_brocaderef21_Cost_L2 N (g_brocaderef21_CostR N d) v9 v8 v12 = some r) (fun ((v8, v9, v12) : Nat × (List ExprD) × Int) => v9.length) (0, v1.xArgs, (1 : Int)) (Nat.le_of_ble_eq_true rfl) (by kernel_rfl) ⟨rfl, hF⟩ ?_
        rintro ⟨v8, v9, v12⟩ ⟨h11, hF⟩
        cases v9 with
        | nil =>
         rw [g_brocaderef21_Cost_L2] at hF
         refine aw_seq ?_
         refine aw_seq ?_
         refine rg [(10, ⟨_, _, .len (xs := dExprs v1.xArgs) dExprs_len⟩)] [(38, (aBool (decide ((v8 : Int) < (v1.xArgs.length : Int)))))] [.cells (aExpr v1).cells] (by kernel_rfl) ?_
         refine aw_cond_g (t := (decide ((v8 : Int) < (v1.xArgs.length : Int)))) (by kernel_rfl) (lt_f h11) ?_
         refine aw_exit (at_e (at_e (ab_y rfl ?_)))
         refine at_n ?_
         refine aw_seq ?_
         refine rg [] [(2, (aInt v12))] [.cells (aExpr v1).cells] (by kernel_rfl) ?_
         refine aw_ret ?_
         have hr := Option.some.inj hF; subst hr; exact ret_ok (by kernel_rfl)
        | cons v10 v11 =>
         rw [g_brocaderef21_Cost_L2] at hF
         refine aw_seq ?_
         refine aw_seq ?_
         refine rg [(10, ⟨_, _, .len (xs := dExprs v1.xArgs) dExprs_len⟩)] [(38, (aBool (decide ((v8 : Int) < (v1.xArgs.length : Int)))))] [.cells (aExpr v1).cells] (by kernel_rfl) ?_
         refine aw_cond_h (t := (decide ((v8 : Int) < (v1.xArgs.length : Int)))) (by kernel_rfl) (lt_t h11) ?_
         refine aw_skip ?_
         refine at_n ?_
         refine aw_seq ?_
         refine aw_block ?_
         obtain ⟨v13, h12, hF⟩ := bind_some hF
         refine re [(13, ⟨_, _, .el (xs := dExprs v1.xArgs) (i := (v8 : Int)) (Int.natCast_nonneg _) (dExprs_get (drop_get h11))⟩), (19, cL (ih75 v10 v13 h12))] [(3, (aInt (w64 (v12 + v13)))), (48, (aInt (w64 (v12 + v13)))), (47, (aInt v13)), (46, (aExpr v10)), (45, (.elt [dExpr v10] 0 0)), (44, (aInt (v8 : Int))), (43, (.d (.sl (dExprs v1.xArgs)))), (42, (.ptr 0 12)), (41, (aInt v12))] [.cells (aExpr v1).cells] (by kernel_rfl) ?_
         refine ab_n ?_
         refine at_n ?_
         refine re [(5, ⟨_, _, .eq (wrap_nx h11 rfl h10)⟩)] [(5, (aInt ((v8 + 1 : Nat) : Int))), (40, (aInt ((v8 + 1 : Nat) : Int))), (39, (aInt (v8 : Int)))] [.cells (aExpr v1).cells] (by kernel_rfl) ?_
         refine at_n ?_
         exact ⟨(v8 + 1, v11, (w64 (v12 + v13))), by kernel_rfl, ⟨drop_nx h11, hF⟩, Nat.lt_succ_self _⟩
theorem g_brocaderef21_Cost_ok (N : Nat) (v1 : ExprD) (r : Int) (hF : g_brocaderef21_Cost N v1 = some r) : AFn Tryz.prog 16 [(aExpr v1)] (· = (aInt r)) := (g_brocaderef21_CostR_all N N) v1 r hF
def g_simplify_bounded_1_J1 (N : Nat) (v2 : Int) (v3 : Int) (v4 : Int) : Option (Bool × Int) :=
 bif (v2 != (0 : Int)) then
 bif (decide (v4 > (IntKind.u64.wrap ((v3).tdiv v2)))) then
  some (false, v3)
 else
  some (true, (IntKind.u64.wrap (v3 - (IntKind.u64.wrap (v4 * v2)))))
 else none
def g_simplify_bounded_1 (N : Nat) (v1 : Int64) (v2 : Int) (v3 : Int) : Option (Bool × Int) :=
 bif (decide (v1.toInt < (0 : Int))) then
  g_simplify_bounded_1_J1 N v2 v3 (IntKind.u64.wrap (0 - (IntKind.u64.wrap v1.toInt)))
 else
  g_simplify_bounded_1_J1 N v2 v3 (IntKind.u64.wrap v1.toInt)
theorem g_simplify_bounded_1_ok (N : Nat) (v1 : Int64) (v2 : Int) (v3 : Int) (r : Bool × Int) (hF : g_simplify_bounded_1 N v1 v2 v3 = some r) : ACalls Tryz.prog 200 [(aI64 v1), (.d (.v (.int .u64 v2))), (.ptr 0 0)] [.cells [(.d (.v (.int .u64 v3)))]] fun r1 h1 => r1 = (aBool r.1) ∧ h1 = [.cells [(.d (.v (.int .u64 r.2)))]] := by
 rw [g_simplify_bounded_1] at hF
 refine acn_of 1 Tryz.func200 rfl (by kernel_rfl) (Nat.le_of_ble_eq_true rfl) ?_
 refine aw_chg (s' := ⟨23, [(0, (aI64 v1)), (1, (.d (.v (.int .u64 v2)))), (2, (.ptr 0 0))], [.cells [(.d (.v (.int .u64 v3)))]]⟩) (by kernel_rfl) ?_
 refine aw_seq ?_
 refine rg [] [] [.cells [(.d (.v (.int .u64 v3)))]] (by kernel_rfl) ?_
 refine aw_seq ?_
 refine rg [] [(6, (.d (.v (.int .u64 (IntKind.u64.wrap v1.toInt)))))] [.cells [(.d (.v (.int .u64 v3)))]] (by kernel_rfl) ?_
 refine aw_seq ?_
 refine aw_seq ?_
 refine rg [] [(10, (aBool (decide (v1.toInt < (0 : Int)))))] [.cells [(.d (.v (.int .u64 v3)))]] (by kernel_rfl) ?_
 refine aw_joinC [1, 2, 6] 1 (fun (v4 : Int) => ⟨23, [(1, (.d (.v (.int .u64 v2)))), (2, (.ptr 0 0)), (6, (.d (.v (.int .u64 v4))))], [.cells [(.d (.v (.int .u64 v3)))]]⟩) (fun (v4 : Int) => g_simplify_bounded_1_J1 N v2 v3 v4 = some r) (Nat.le_of_ble_eq_true rfl) ?_ ?_
 · rcases bool_cases (decide (v1.toInt < (0 : Int))) with h3 | h3
   · replace hF := (cond_t h3).symm.trans hF
     refine aw_cond_h (t := (decide (v1.toInt < (0 : Int)))) (by kernel_rfl) h3 ?_
     refine re [] [(6, (.d (.v (.int .u64 (IntKind.u64.wrap (0 - (IntKind.u64.wrap v1.toInt))))))), (12, (.d (.v (.int .u64 (IntKind.u64.wrap (0 - (IntKind.u64.wrap v1.toInt))))))), (11, (.d (.v (.int .u64 (IntKind.u64.wrap v1.toInt)))))] [.cells [(.d (.v (.int .u64 v3)))]] (by kernel_rfl) ?_
     refine at_n ?_
     exact ⟨(IntKind.u64.wrap (0 - (IntKind.u64.wrap v1.toInt))), by kernel_rfl, hF⟩
   · replace hF := (cond_f h3).symm.trans hF
     refine aw_cond_g (t := (decide (v1.toInt < (0 : Int)))) (by kernel_rfl) h3 ?_
     refine aw_skip ?_
     refine at_n ?_
     exact ⟨(IntKind.u64.wrap v1.toInt), by kernel_rfl, hF⟩
 · rintro v4 hF
   try dsimp only at hF
   rw [g_simplify_bounded_1_J1] at hF
   refine aw_seq ?_
   refine aw_seq ?_
   have h1 := chk_t hF
   replace hF := (cond_t h1).symm.trans hF
   refine rg [(10, ⟨_, _, .nz (b := v2) (bne_iff_ne.1 h1)⟩)] [(17, (aBool (decide (v4 > (IntKind.u64.wrap ((v3).tdiv v2))))))] [.cells [(.d (.v (.int .u64 v3)))]] (by kernel_rfl) ?_
   rcases bool_cases (decide (v4 > (IntKind.u64.wrap ((v3).tdiv v2)))) with h2 | h2
   · replace hF := (cond_t h2).symm.trans hF
     refine aw_cond_h (t := (decide (v4 > (IntKind.u64.wrap ((v3).tdiv v2))))) (by kernel_rfl) h2 ?_
     refine aw_seq ?_
     refine rg [] [(5, (aBool false))] [.cells [(.d (.v (.int .u64 v3)))]] (by kernel_rfl) ?_
     refine aw_ret (at_r ?_)
     have hr := Option.some.inj hF; subst hr; exact reth_ok (by kernel_rfl)
   · replace hF := (cond_f h2).symm.trans hF
     refine aw_cond_g (t := (decide (v4 > (IntKind.u64.wrap ((v3).tdiv v2))))) (by kernel_rfl) h2 ?_
     refine aw_skip ?_
     refine at_n ?_
     refine aw_seq ?_
     refine rg [] [] [.cells [(.d (.v (.int .u64 (IntKind.u64.wrap (v3 - (IntKind.u64.wrap (v4 * v2)))))))]] (by kernel_rfl) ?_
     refine aw_seq ?_
     refine rg [] [(5, (aBool true))] [.cells [(.d (.v (.int .u64 (IntKind.u64.wrap (v3 - (IntKind.u64.wrap (v4 * v2)))))))]] (by kernel_rfl) ?_
     refine aw_ret ?_
     have hr := Option.some.inj hF; subst hr; exact reth_ok (by kernel_rfl)
def g_simplify_bounded_L1 (N : Nat) : List MonoD → Nat → Int → Option Bool
 | [], _, _ =>
  some true
 | v5 :: v6, v3, v7 =>
  Option.bind (g_simplify_bounded_1 N v5.xBy (4096 : Int) v7) fun v8 =>
  bif v8.1 then
   (fun b1_0 => g_simplify_bounded_L1 N v6 (v3 + 1) b1_0) v8.2
  else
   some false
def g_simplify_bounded (N : Nat) (v1 : LinD) : Option Bool :=
 Option.bind (g_simplify_bounded_1 N v1.xK (1 : Int) (2147483647 : Int)) fun v2 =>
 bif v2.1 then
  g_simplify_bounded_L1 N v1.xL 0 v2.2
 else
  some false
theorem g_simplify_bounded_ok (N : Nat) (v1 : LinD) (r : Bool) (hF : g_simplify_bounded N v1 = some r) : AFn Tryz.prog 135 [(aLin v1)] (· = (aBool r)) := by
 rw [g_simplify_bounded] at hF
 refine afn_of Tryz.func135 rfl (by kernel_rfl) ?_
 refine aw_cut [0] 0 (Nat.le_refl _) (s' := ⟨26, [(0, (aLin v1))], []⟩) (by kernel_rfl) ?_
 refine aw_seq ?_
 refine rg [] [(1, (.ptr 0 0))] [.cells (aLin v1).cells] (by kernel_rfl) ?_
 refine aw_seq ?_
 refine rg [] [(3, (.ptr 1 0))] [.cells (aLin v1).cells, .cells [(.d (.v (.int .u64 (2147483647 : Int))))]] (by kernel_rfl) ?_
 refine aw_seq ?_
 refine rg [] [(4, (.fn 200 [(.ptr 1 0)]))] [.cells (aLin v1).cells, .cells [(.d (.v (.int .u64 (2147483647 : Int))))]] (by kernel_rfl) ?_
 refine aw_seq ?_
 refine aw_seq ?_
 obtain ⟨v2, h1, hF⟩ := bind_some hF
 refine rg [(10, ⟨_, _, .rcall (asA := [(aI64 v1.xK), (.d (.v (.int .u64 (1 : Int)))), (.ptr 1 0)]) (h := [.cells (aLin v1).cells, .cells [(.d (.v (.int .u64 (2147483647 : Int))))]]) (l := [1]) (by kernel_rfl) (by kernel_rfl) (by kernel_rfl) (by kernel_rfl) (g_simplify_bounded_1_ok N v1.xK (1 : Int) (2147483647 : Int) v2 h1)⟩)] [(12, (aBool (!v2.1)))] [.cells (aLin v1).cells, .cells [(.d (.v (.int .u64 v2.2)))]] (by kernel_rfl) ?_
 rcases bool_cases v2.1 with h2 | h2
 · replace hF := (cond_t h2).symm.trans hF
   refine aw_cond_g (t := (!v2.1)) (by kernel_rfl) (not_t h2) ?_
   refine aw_skip ?_
   refine at_n ?_
   refine aw_seq ?_
   refine aw_seq ?_
   refine rg [(7, ⟨_, _, .len (xs := dMonos v1.xL) dMonos_len⟩)] [(14, (.d (.sl (dMonos v1.xL)))), (15, (aInt (v1.xL.length : Int))), (16, (aInt (0 : Int)))] [.cells (aLin v1).cells, .cells [(.d (.v (.int .u64 v2.2)))]] (by kernel_rfl) ?_
   refine aw_block ?_
   refine aw_okT 14 (dMonos v1.xL) (by kernel_rfl) fun h3 => ?_
   have h4 : v1.xL.length ≤ maxLen := by rw [← dMonos_len]; exact ok_len h3
   refine aw_loopC [4, 14, 15, 16] 2 (fun ((v3, v4, v7) : Nat × (List MonoD) × Int) => ⟨26, [(4, (.fn 200 [(.ptr 1 0)])), (14, (.d (.sl (dMonos v1.xL)))), (15, (aInt (v1.xL.length : Int))), (16, (aInt (v3 : Int)))], [.cells (aLin v1).cells, .cells [(.d (.v (.int .u64 v7)))]]⟩) (fun ((v3, v4, v7) : Nat × (List MonoD) × Int) => v1.xL.drop v3 = v4 ∧ g_simplify_bounded_L1 N v4 v3 v7 = some r) (fun ((v3, v4, v7) : Nat × (List MonoD) × Int) => v4.length) (0, v1.xL, v2.2) (Nat.le_of_ble_eq_true rfl) (by kernel_rfl) ⟨rfl, hF⟩ ?_
   rintro ⟨v3, v4, v7⟩ ⟨h5, hF⟩
   cases v4 with
   | nil =>
    rw [g_simplify_bounded_L1] at hF
    refine aw_seq ?_
    refine rg [] [(17, (aBool (decide ((v3 : Int) < (v1.xL.length : Int)))))] [.cells (aLin v1).cells, .cells [(.d (.v (.int .u64 v7)))]] (by kernel_rfl) ?_
    refine aw_seq ?_
    refine aw_cond_g (t := (decide ((v3 : Int) < (v1.xL.length : Int)))) (by kernel_rfl) (lt_f h5) ?_
    refine aw_exit (at_e (at_e (ab_y rfl ?_)))
    refine at_n ?_
    refine aw_seq ?_
    refine rg [] [(2, (aBool true))] [.cells (aLin v1).cells, .cells [(.d (.v (.int .u64 v7)))]] (by kernel_rfl) ?_
    refine aw_ret ?_
    have hr := Option.some.inj hF; subst hr; exact ret_ok (by kernel_rfl)
   | cons v5 v6 =>
    rw [g_simplify_bounded_L1] at hF
    refine aw_seq ?_
    refine rg [] [(17, (aBool (decide ((v3 : Int) < (v1.xL.length : Int)))))] [.cells (aLin v1).cells, .cells [(.d (.v (.int .u64 v7)))]] (by kernel_rfl) ?_
    refine aw_seq ?_
    refine aw_cond_h (t := (decide ((v3 : Int) < (v1.xL.length : Int)))) (by kernel_rfl) (lt_t h5) ?_
    refine aw_skip ?_
    refine at_n ?_
    refine aw_seq ?_
    refine aw_block ?_
    refine aw_seq ?_
    refine rg [(1, ⟨_, _, .el (xs := dMonos v1.xL) (i := (v3 : Int)) (Int.natCast_nonneg _) (dMonos_get (drop_get h5))⟩)] [(6, (.ptr 2 0))] [.cells (aLin v1).cells, .cells [(.d (.v (.int .u64 v7)))], .cells (aMono v5).cells] (by kernel_rfl) ?_
    refine aw_seq ?_
    obtain ⟨v8, h6, hF⟩ := bind_some hF
    refine rg [(10, ⟨_, _, .rcall (asA := [(aI64 v5.xBy), (.d (.v (.int .u64 (4096 : Int)))), (.ptr 1 0)]) (h := [.cells (aLin v1).cells, .cells [(.d (.v (.int .u64 v7)))], .cells (aMono v5).cells]) (l := [1]) (by kernel_rfl) (by kernel_rfl) (by kernel_rfl) (by kernel_rfl) (g_simplify_bounded_1_ok N v5.xBy (4096 : Int) v7 v8 h6)⟩)] [(24, (aBool (!v8.1)))] [.cells (aLin v1).cells, .cells [(.d (.v (.int .u64 v8.2)))], .cells (aMono v5).cells] (by kernel_rfl) ?_
    rcases bool_cases v8.1 with h7 | h7
    · replace hF := (cond_t h7).symm.trans hF
      refine aw_cond_g (t := (!v8.1)) (by kernel_rfl) (not_t h7) ?_
      refine aw_skip ?_
      refine ab_n ?_
      refine at_n ?_
      refine re [(2, ⟨_, _, .eq (wrap_nx h5 rfl h4)⟩)] [(16, (aInt ((v3 + 1 : Nat) : Int))), (25, (aInt ((v3 + 1 : Nat) : Int)))] [.cells (aLin v1).cells, .cells [(.d (.v (.int .u64 v8.2)))], .cells (aMono v5).cells] (by kernel_rfl) ?_
      refine at_n ?_
      exact ⟨(v3 + 1, v6, v8.2), by kernel_rfl, ⟨drop_nx h5, hF⟩, Nat.lt_succ_self _⟩
    · replace hF := (cond_f h7).symm.trans hF
      refine aw_cond_h (t := (!v8.1)) (by kernel_rfl) (not_f h7) ?_
      refine aw_seq ?_
      refine rg [] [(2, (aBool false))] [.cells (aLin v1).cells, .cells [(.d (.v (.int .u64 v8.2)))], .cells (aMono v5).cells] (by kernel_rfl) ?_
      refine aw_ret (ab_r (at_r (at_r (ab_r (at_r ?_)))))
      have hr := Option.some.inj hF; subst hr; exact ret_ok (by kernel_rfl)
 · replace hF := (cond_f h2).symm.trans hF
   refine aw_cond_h (t := (!v2.1)) (by kernel_rfl) (not_f h2) ?_
   refine aw_seq ?_
   refine rg [] [(2, (aBool false))] [.cells (aLin v1).cells, .cells [(.d (.v (.int .u64 v2.2)))]] (by kernel_rfl) ?_
   refine aw_ret (at_r ?_)
   have hr := Option.some.inj hF; subst hr; exact ret_ok (by kernel_rfl)
def g_simplify_constant_L1 (N : Nat) (v1 : IndexD) : List LinD → Nat → Option Bool
 | [], _ =>
  Option.bind (bif (v1.xLin.xK.toInt == (0 : Int)) then some ((v1.xLin.xL.length : Int) == (0 : Int)) else some false) fun v6 =>
  some v6
 | v4 :: v5, v2 =>
  Option.bind (bif (v4.xK.toInt != (0 : Int)) then some true else some (decide ((v4.xL.length : Int) > (0 : Int)))) fun v7 =>
  bif v7 then
   some false
  else
   (g_simplify_constant_L1 N v1 v5 (v2 + 1))
def g_simplify_constant (N : Nat) (v1 : IndexD) : Option Bool :=
 g_simplify_constant_L1 N v1 v1.xAt 0
theorem g_simplify_constant_ok (N : Nat) (v1 : IndexD) (r : Bool) (hF : g_simplify_constant N v1 = some r) : AFn Tryz.prog 136 [(aIndex v1)] (· = (aBool r)) := by
 rw [g_simplify_constant] at hF
 refine afn_of Tryz.func136 rfl (by kernel_rfl) ?_
 refine aw_cut [0] 0 (Nat.le_refl _) (s' := ⟨33, [(0, (aIndex v1))], []⟩) (by kernel_rfl) ?_
 refine aw_seq ?_
 refine rg [] [(1, (.ptr 0 0))] [.cells (aIndex v1).cells] (by kernel_rfl) ?_
 refine aw_seq ?_
 refine aw_seq ?_
 refine rg [(7, ⟨_, _, .len (xs := dLins v1.xAt) dLins_len⟩)] [(6, (.d (.sl (dLins v1.xAt)))), (7, (aInt (v1.xAt.length : Int))), (8, (aInt (0 : Int)))] [.cells (aIndex v1).cells] (by kernel_rfl) ?_
 refine aw_block ?_
 refine aw_okT 6 (dLins v1.xAt) (by kernel_rfl) fun h1 => ?_
 have h2 : v1.xAt.length ≤ maxLen := by rw [← dLins_len]; exact ok_len h1
 refine aw_loopC [1, 6, 7, 8] 1 (fun ((v2, v3) : Nat × (List LinD)) => ⟨33, [(1, (.ptr 0 0)), (6, (.d (.sl (dLins v1.xAt)))), (7, (aInt (v1.xAt.length : Int))), (8, (aInt (v2 : Int)))], [.cells (aIndex v1).cells]⟩) (fun ((v2, v3) : Nat × (List LinD)) => v1.xAt.drop v2 = v3 ∧ g_simplify_constant_L1 N v1 v3 v2 = some r) (fun ((v2, v3) : Nat × (List LinD)) => v3.length) (0, v1.xAt) (Nat.le_of_ble_eq_true rfl) (by kernel_rfl) ⟨rfl, hF⟩ ?_
 rintro ⟨v2, v3⟩ ⟨h3, hF⟩
 cases v3 with
 | nil =>
  rw [g_simplify_constant_L1] at hF
  refine aw_seq ?_
  refine rg [] [(9, (aBool (decide ((v2 : Int) < (v1.xAt.length : Int)))))] [.cells (aIndex v1).cells] (by kernel_rfl) ?_
  refine aw_seq ?_
  refine aw_cond_g (t := (decide ((v2 : Int) < (v1.xAt.length : Int)))) (by kernel_rfl) (lt_f h3) ?_
  refine aw_exit (at_e (at_e (ab_y rfl ?_)))
  refine at_n ?_
  refine aw_seq ?_
  obtain ⟨v6, h5, hF⟩ := bind_some hF
  refine rgE [(2, (aBool v6))] [.cells (aIndex v1).cells] ?_ ?_
  · rcases bool_cases (v1.xLin.xK.toInt == (0 : Int)) with h4 | h4
    · replace h5 := (cond_t h4).symm.trans h5
      have he := Option.some.inj h5; subst he; exact ⟨[(15, bT h4), (18, bT h4), (21, bT h4), (24, bT h4), (25, ⟨_, _, .len (xs := dMonos v1.xLin.xL) dMonos_len⟩), (27, bT h4), (31, bT h4)], by kernel_rfl⟩
    · replace h5 := (cond_f h4).symm.trans h5
      have he := Option.some.inj h5; subst he; exact ⟨[(15, bF h4), (18, bF h4), (21, bF h4), (24, bF h4), (27, bF h4), (31, bF h4)], by kernel_rfl⟩
  · refine aw_ret ?_
    have hr := Option.some.inj hF; subst hr; exact ret_ok (by kernel_rfl)
 | cons v4 v5 =>
  rw [g_simplify_constant_L1] at hF
  refine aw_seq ?_
  refine rg [] [(9, (aBool (decide ((v2 : Int) < (v1.xAt.length : Int)))))] [.cells (aIndex v1).cells] (by kernel_rfl) ?_
  refine aw_seq ?_
  refine aw_cond_h (t := (decide ((v2 : Int) < (v1.xAt.length : Int)))) (by kernel_rfl) (lt_t h3) ?_
  refine aw_skip ?_
  refine at_n ?_
  refine aw_seq ?_
  refine aw_block ?_
  refine aw_seq ?_
  refine rg [(1, ⟨_, _, .el (xs := dLins v1.xAt) (i := (v2 : Int)) (Int.natCast_nonneg _) (dLins_get (drop_get h3))⟩)] [(4, (.ptr 1 0))] [.cells (aIndex v1).cells, .cells (aLin v4).cells] (by kernel_rfl) ?_
  refine aw_seq ?_
  obtain ⟨v7, h7, hF⟩ := bind_some hF
  refine rgE [(20, (aBool v7))] [.cells (aIndex v1).cells, .cells (aLin v4).cells] ?_ ?_
  · rcases bool_cases (v4.xK.toInt != (0 : Int)) with h6 | h6
    · replace h7 := (cond_t h6).symm.trans h7
      have he := Option.some.inj h7; subst he; exact ⟨[(12, bT h6), (15, bT h6), (18, bT h6), (21, bT h6), (25, bT h6)], by kernel_rfl⟩
    · replace h7 := (cond_f h6).symm.trans h7
      have he := Option.some.inj h7; subst he; exact ⟨[(12, bF h6), (15, bF h6), (18, bF h6), (19, ⟨_, _, .len (xs := dMonos v4.xL) dMonos_len⟩), (21, bF h6), (25, bF h6)], by kernel_rfl⟩
  · rcases bool_cases v7 with h8 | h8
    · replace hF := (cond_t h8).symm.trans hF
      refine aw_cond_h (t := v7) (by kernel_rfl) h8 ?_
      refine aw_seq ?_
      refine rg [] [(2, (aBool false))] [.cells (aIndex v1).cells, .cells (aLin v4).cells] (by kernel_rfl) ?_
      refine aw_ret (ab_r (at_r (at_r (ab_r (at_r ?_)))))
      have hr := Option.some.inj hF; subst hr; exact ret_ok (by kernel_rfl)
    · replace hF := (cond_f h8).symm.trans hF
      refine aw_cond_g (t := v7) (by kernel_rfl) h8 ?_
      refine aw_skip ?_
      refine ab_n ?_
      refine at_n ?_
      refine re [(2, ⟨_, _, .eq (wrap_nx h3 rfl h2)⟩)] [(8, (aInt ((v2 + 1 : Nat) : Int))), (21, (aInt ((v2 + 1 : Nat) : Int)))] [.cells (aIndex v1).cells, .cells (aLin v4).cells] (by kernel_rfl) ?_
      refine at_n ?_
      exact ⟨(v2 + 1, v5), by kernel_rfl, ⟨drop_nx h3, hF⟩, Nat.lt_succ_self _⟩
def g_simplify_sure_L1 (N : Nat) : List IndexD → Nat → Option Bool
 | [], _ =>
  some true
 | v7 :: v8, v5 =>
  Option.bind (g_simplify_constant N v7) fun v9 =>
  bif v9 then
   (g_simplify_sure_L1 N v8 (v5 + 1))
  else
   some false
def g_simplify_sure_J2 (N : Nat) (v3 : Bool) (v1 : ExprD) (v10 : Bool) : Option Bool :=
 bif v10 then
  some v3
 else
  bif (v1.xOp == (7 : Int)) then
   Option.bind (bif v3 then Option.bind (v1.xArgs[1]?) fun v11 =>
   (bif (v11.xOp == (1 : Int)) then some (v11.xVal.xN.toInt != (0 : Int)) else some false) else some false) fun v12 =>
   some v12
  else
   some true
def g_simplify_sure (N : Nat) (v1 : ExprD) (v2 : simplify_typD) : Option Bool :=
 Option.bind (bif v2.yOk then some (v2.yT.xKind == (2 : Int)) else some false) fun v3 =>
 bif (v1.xOp == (2 : Int)) then
  Option.bind (g_simplify_bounded N v1.xLin) fun v4 =>
  some v4
 else
  bif (v1.xOp == (3 : Int)) then
   g_simplify_sure_L1 N v1.xIdx 0
  else
   bif (v1.xOp == (4 : Int)) then
    g_simplify_sure_J2 N v3 v1 (v1.xOp == (4 : Int))
   else
    bif (v1.xOp == (5 : Int)) then
     g_simplify_sure_J2 N v3 v1 (v1.xOp == (5 : Int))
    else
     g_simplify_sure_J2 N v3 v1 (v1.xOp == (6 : Int))
theorem g_simplify_sure_ok (N : Nat) (v1 : ExprD) (v2 : simplify_typD) (r : Bool) (hF : g_simplify_sure N v1 v2 = some r) : AFn Tryz.prog 69 [(aExpr v1), (asimplify_typ v2)] (· = (aBool r)) := by
 rw [g_simplify_sure] at hF
 refine afn_of Tryz.func69 rfl (by kernel_rfl) ?_
 refine aw_cut [0, 1] 0 (Nat.le_refl _) (s' := ⟨61, [(0, (aExpr v1)), (1, (asimplify_typ v2))], []⟩) (by kernel_rfl) ?_
 refine aw_seq ?_
 refine rg [] [(2, (.ptr 0 0)), (3, (.ptr 1 0))] [.cells (aExpr v1).cells, .cells (asimplify_typ v2).cells] (by kernel_rfl) ?_
 refine aw_seq ?_
 obtain ⟨v3, h2, hF⟩ := bind_some hF
 refine rgE [(5, (aBool v3))] [.cells (aExpr v1).cells, .cells (asimplify_typ v2).cells] ?_ ?_
 · rcases bool_cases v2.yOk with h1 | h1
   · replace h2 := (cond_t h1).symm.trans h2
     have he := Option.some.inj h2; subst he; exact ⟨[(9, bT h1), (12, bT h1), (15, bT h1), (18, bT h1), (22, bT h1)], by kernel_rfl⟩
   · replace h2 := (cond_f h1).symm.trans h2
     have he := Option.some.inj h2; subst he; exact ⟨[(9, bF h1), (12, bF h1), (15, bF h1), (18, bF h1), (22, bF h1)], by kernel_rfl⟩
 · refine aw_seq ?_
   refine aw_seq ?_
   refine rg [] [(17, (aInt v1.xOp))] [.cells (aExpr v1).cells, .cells (asimplify_typ v2).cells] (by kernel_rfl) ?_
   refine aw_block ?_
   refine aw_seq ?_
   refine rg [] [(18, (aBool (v1.xOp == (2 : Int))))] [.cells (aExpr v1).cells, .cells (asimplify_typ v2).cells] (by kernel_rfl) ?_
   rcases bool_cases (v1.xOp == (2 : Int)) with h3 | h3
   · replace hF := (cond_t h3).symm.trans hF
     refine aw_cond_h (t := (v1.xOp == (2 : Int))) (by kernel_rfl) h3 ?_
     refine aw_seq ?_
     obtain ⟨v4, h4, hF⟩ := bind_some hF
     refine rg [(7, cL (g_simplify_bounded_ok N v1.xLin v4 h4))] [(4, (aBool v4))] [.cells (aExpr v1).cells, .cells (asimplify_typ v2).cells] (by kernel_rfl) ?_
     refine aw_ret (ab_r (at_r ?_))
     have hr := Option.some.inj hF; subst hr; exact ret_ok (by kernel_rfl)
   · replace hF := (cond_f h3).symm.trans hF
     refine aw_cond_g (t := (v1.xOp == (2 : Int))) (by kernel_rfl) h3 ?_
     refine aw_seq ?_
     refine rg [] [(23, (aBool (v1.xOp == (3 : Int))))] [.cells (aExpr v1).cells, .cells (asimplify_typ v2).cells] (by kernel_rfl) ?_
     rcases bool_cases (v1.xOp == (3 : Int)) with h5 | h5
     · replace hF := (cond_t h5).symm.trans hF
       refine aw_cond_h (t := (v1.xOp == (3 : Int))) (by kernel_rfl) h5 ?_
       refine aw_seq ?_
       refine rg [(7, ⟨_, _, .len (xs := dIndexs v1.xIdx) dIndexs_len⟩)] [(26, (.d (.sl (dIndexs v1.xIdx)))), (27, (aInt (v1.xIdx.length : Int))), (28, (aInt (0 : Int)))] [.cells (aExpr v1).cells, .cells (asimplify_typ v2).cells] (by kernel_rfl) ?_
       refine aw_block ?_
       refine aw_okT 26 (dIndexs v1.xIdx) (by kernel_rfl) fun h6 => ?_
       have h7 : v1.xIdx.length ≤ maxLen := by rw [← dIndexs_len]; exact ok_len h6
       refine aw_loopC [26, 27, 28] 2 (fun ((v5, v6) : Nat × (List IndexD)) => ⟨61, [(26, (.d (.sl (dIndexs v1.xIdx)))), (27, (aInt (v1.xIdx.length : Int))), (28, (aInt (v5 : Int)))], [.cells (aExpr v1).cells, .cells (asimplify_typ v2).cells]⟩) (fun ((v5, v6) : Nat × (List IndexD)) => v1.xIdx.drop v5 = v6 ∧ g_simplify_sure_L1 N v6 v5 = some r) (fun ((v5, v6) : Nat × (List IndexD)) => v6.length) (0, v1.xIdx) (Nat.le_of_ble_eq_true rfl) (by kernel_rfl) ⟨rfl, hF⟩ ?_
       rintro ⟨v5, v6⟩ ⟨h8, hF⟩
       cases v6 with
       | nil =>
        rw [g_simplify_sure_L1] at hF
        refine aw_seq ?_
        refine rg [] [(29, (aBool (decide ((v5 : Int) < (v1.xIdx.length : Int)))))] [.cells (aExpr v1).cells, .cells (asimplify_typ v2).cells] (by kernel_rfl) ?_
        refine aw_seq ?_
        refine aw_cond_g (t := (decide ((v5 : Int) < (v1.xIdx.length : Int)))) (by kernel_rfl) (lt_f h8) ?_
        refine aw_exit (at_e (at_e (ab_y rfl ?_)))
        refine ab_n ?_
        refine at_n ?_
        refine aw_seq ?_
        refine rg [] [(4, (aBool true))] [.cells (aExpr v1).cells, .cells (asimplify_typ v2).cells] (by kernel_rfl) ?_
        refine aw_ret ?_
        have hr := Option.some.inj hF; subst hr; exact ret_ok (by kernel_rfl)
       | cons v7 v8 =>
        rw [g_simplify_sure_L1] at hF
        refine aw_seq ?_
        refine rg [] [(29, (aBool (decide ((v5 : Int) < (v1.xIdx.length : Int)))))] [.cells (aExpr v1).cells, .cells (asimplify_typ v2).cells] (by kernel_rfl) ?_
        refine aw_seq ?_
        refine aw_cond_h (t := (decide ((v5 : Int) < (v1.xIdx.length : Int)))) (by kernel_rfl) (lt_t h8) ?_
        refine aw_skip ?_
        refine at_n ?_
        refine aw_seq ?_
        refine aw_block ?_
        refine aw_seq ?_
        refine rg [(1, ⟨_, _, .el (xs := dIndexs v1.xIdx) (i := (v5 : Int)) (Int.natCast_nonneg _) (dIndexs_get (drop_get h8))⟩)] [(7, (.ptr 2 0))] [.cells (aExpr v1).cells, .cells (asimplify_typ v2).cells, .cells (aIndex v7).cells] (by kernel_rfl) ?_
        refine aw_seq ?_
        obtain ⟨v9, h9, hF⟩ := bind_some hF
        refine rg [(4, cL (g_simplify_constant_ok N v7 v9 h9))] [(34, (aBool (!v9)))] [.cells (aExpr v1).cells, .cells (asimplify_typ v2).cells, .cells (aIndex v7).cells] (by kernel_rfl) ?_
        rcases bool_cases v9 with h10 | h10
        · replace hF := (cond_t h10).symm.trans hF
          refine aw_cond_g (t := (!v9)) (by kernel_rfl) (not_t h10) ?_
          refine aw_skip ?_
          refine ab_n ?_
          refine at_n ?_
          refine re [(2, ⟨_, _, .eq (wrap_nx h8 rfl h7)⟩)] [(28, (aInt ((v5 + 1 : Nat) : Int))), (35, (aInt ((v5 + 1 : Nat) : Int)))] [.cells (aExpr v1).cells, .cells (asimplify_typ v2).cells, .cells (aIndex v7).cells] (by kernel_rfl) ?_
          refine at_n ?_
          exact ⟨(v5 + 1, v8), by kernel_rfl, ⟨drop_nx h8, hF⟩, Nat.lt_succ_self _⟩
        · replace hF := (cond_f h10).symm.trans hF
          refine aw_cond_h (t := (!v9)) (by kernel_rfl) (not_f h10) ?_
          refine aw_seq ?_
          refine rg [] [(4, (aBool false))] [.cells (aExpr v1).cells, .cells (asimplify_typ v2).cells, .cells (aIndex v7).cells] (by kernel_rfl) ?_
          refine aw_ret (ab_r (at_r (at_r (ab_r (ab_r (at_r ?_))))))
          have hr := Option.some.inj hF; subst hr; exact ret_ok (by kernel_rfl)
     · replace hF := (cond_f h5).symm.trans hF
       refine aw_cond_g (t := (v1.xOp == (3 : Int))) (by kernel_rfl) h5 ?_
       refine aw_seq ?_
       refine aw_seq ?_
       refine rg [] [(36, (aBool (v1.xOp == (4 : Int))))] [.cells (aExpr v1).cells, .cells (asimplify_typ v2).cells] (by kernel_rfl) ?_
       refine aw_joinC [2, 5, 17, 36] 2 (fun (v10 : Bool) => ⟨61, [(2, (.ptr 0 0)), (5, (aBool v3)), (17, (aInt v1.xOp)), (36, (aBool v10))], [.cells (aExpr v1).cells, .cells (asimplify_typ v2).cells]⟩) (fun (v10 : Bool) => g_simplify_sure_J2 N v3 v1 v10 = some r) (Nat.le_of_ble_eq_true rfl) ?_ ?_
       · rcases bool_cases (v1.xOp == (4 : Int)) with h17 | h17
         · replace hF := (cond_t h17).symm.trans hF
           refine aw_cond_h (t := (v1.xOp == (4 : Int))) (by kernel_rfl) h17 ?_
           refine aw_skip ?_
           refine at_n ?_
           exact ⟨(v1.xOp == (4 : Int)), by kernel_rfl, hF⟩
         · replace hF := (cond_f h17).symm.trans hF
           refine aw_cond_g (t := (v1.xOp == (4 : Int))) (by kernel_rfl) h17 ?_
           refine aw_seq ?_
           refine rg [] [(36, (aBool (v1.xOp == (5 : Int))))] [.cells (aExpr v1).cells, .cells (asimplify_typ v2).cells] (by kernel_rfl) ?_
           rcases bool_cases (v1.xOp == (5 : Int)) with h18 | h18
           · replace hF := (cond_t h18).symm.trans hF
             refine aw_cond_h (t := (v1.xOp == (5 : Int))) (by kernel_rfl) h18 ?_
             refine aw_skip ?_
             refine at_n ?_
             exact ⟨(v1.xOp == (5 : Int)), by kernel_rfl, hF⟩
           · replace hF := (cond_f h18).symm.trans hF
             refine aw_cond_g (t := (v1.xOp == (5 : Int))) (by kernel_rfl) h18 ?_
             refine re [] [(36, (aBool (v1.xOp == (6 : Int)))), (39, (aBool (v1.xOp == (6 : Int))))] [.cells (aExpr v1).cells, .cells (asimplify_typ v2).cells] (by kernel_rfl) ?_
             refine at_n ?_
             exact ⟨(v1.xOp == (6 : Int)), by kernel_rfl, hF⟩
       · rintro v10 hF
         try dsimp only at hF
         rw [g_simplify_sure_J2] at hF
         rcases bool_cases v10 with h11 | h11
         · replace hF := (cond_t h11).symm.trans hF
           refine aw_cond_h (t := v10) (by kernel_rfl) h11 ?_
           refine aw_seq ?_
           refine rg [] [(4, (aBool v3))] [.cells (aExpr v1).cells, .cells (asimplify_typ v2).cells] (by kernel_rfl) ?_
           refine aw_ret (ab_r (at_r ?_))
           have hr := Option.some.inj hF; subst hr; exact ret_ok (by kernel_rfl)
         · replace hF := (cond_f h11).symm.trans hF
           refine aw_cond_g (t := v10) (by kernel_rfl) h11 ?_
           refine aw_seq ?_
           refine rg [] [(41, (aBool (v1.xOp == (7 : Int))))] [.cells (aExpr v1).cells, .cells (asimplify_typ v2).cells] (by kernel_rfl) ?_
           rcases bool_cases (v1.xOp == (7 : Int)) with h12 | h12
           · replace hF := (cond_t h12).symm.trans hF
             refine aw_cond_h (t := (v1.xOp == (7 : Int))) (by kernel_rfl) h12 ?_
             refine aw_seq ?_
             obtain ⟨v12, h16, hF⟩ := bind_some hF
             refine rgE [(4, (aBool v12))] [.cells (aExpr v1).cells, .cells (asimplify_typ v2).cells] ?_ ?_
             · rcases bool_cases v3 with h13 | h13
               · replace h16 := (cond_t h13).symm.trans h16
                 obtain ⟨v11, h14, h16⟩ := bind_some h16
                 rcases bool_cases (v11.xOp == (1 : Int)) with h15 | h15
                 · replace h16 := (cond_t h15).symm.trans h16
                   have he := Option.some.inj h16; subst he; exact ⟨[(6, bT h13), (9, bT h13), (12, bT h13), (13, ⟨_, _, .el (xs := dExprs v1.xArgs) (i := (1 : Int)) (by decide) (dExprs_get h14)⟩), (15, bT h13), (18, bT h13), (21, bT h13), (25, bT h13), (30, bT h15), (33, bT h15), (36, bT h15), (37, ⟨_, _, .el (xs := dExprs v1.xArgs) (i := (1 : Int)) (by decide) (dExprs_get h14)⟩), (39, bT h15), (42, bT h15), (45, bT h15), (48, bT h15), (52, bT h15)], by kernel_rfl⟩
                 · replace h16 := (cond_f h15).symm.trans h16
                   have he := Option.some.inj h16; subst he; exact ⟨[(6, bT h13), (9, bT h13), (12, bT h13), (13, ⟨_, _, .el (xs := dExprs v1.xArgs) (i := (1 : Int)) (by decide) (dExprs_get h14)⟩), (15, bT h13), (18, bT h13), (21, bT h13), (25, bT h13), (30, bF h15), (33, bF h15), (36, bF h15), (39, bF h15), (42, bF h15), (45, bF h15), (48, bF h15), (52, bF h15)], by kernel_rfl⟩
               · replace h16 := (cond_f h13).symm.trans h16
                 have he := Option.some.inj h16; subst he; exact ⟨[(6, bF h13), (9, bF h13), (12, bF h13), (15, bF h13), (18, bF h13), (21, bF h13), (25, bF h13), (30, bF rfl), (33, bF rfl), (36, bF rfl), (39, bF rfl), (42, bF rfl), (45, bF rfl), (48, bF rfl), (52, bF rfl)], by kernel_rfl⟩
             · refine aw_ret (ab_r (at_r ?_))
               have hr := Option.some.inj hF; subst hr; exact ret_ok (by kernel_rfl)
           · replace hF := (cond_f h12).symm.trans hF
             refine aw_cond_g (t := (v1.xOp == (7 : Int))) (by kernel_rfl) h12 ?_
             refine aw_skip ?_
             refine ab_n ?_
             refine at_n ?_
             refine aw_seq ?_
             refine rg [] [(4, (aBool true))] [.cells (aExpr v1).cells, .cells (asimplify_typ v2).cells] (by kernel_rfl) ?_
             refine aw_ret ?_
             have hr := Option.some.inj hF; subst hr; exact ret_ok (by kernel_rfl)
def g_simplify_typ_or (N : Nat) (v1 : simplify_typD) (v2 : simplify_typD) : Option simplify_typD :=
 bif v1.yOk then
  some v1
 else
  some v2
theorem g_simplify_typ_or_ok (N : Nat) (v1 : simplify_typD) (v2 : simplify_typD) (r : simplify_typD) (hF : g_simplify_typ_or N v1 v2 = some r) : AFn Tryz.prog 114 [(asimplify_typ v1), (asimplify_typ v2)] (· = (asimplify_typ r)) := by
 rw [g_simplify_typ_or] at hF
 refine afn_of Tryz.func114 rfl (by kernel_rfl) ?_
 refine aw_cut [0, 1] 0 (Nat.le_refl _) (s' := ⟨9, [(0, (asimplify_typ v1)), (1, (asimplify_typ v2))], []⟩) (by kernel_rfl) ?_
 refine aw_seq ?_
 refine rg [] [(2, (.ptr 0 0)), (3, (.ptr 1 0)), (4, (.ptr 2 0))] [.cells (asimplify_typ v1).cells, .cells (asimplify_typ v2).cells, .cells [(aInt (0 : Int)), (aInt (0 : Int)), (aInt (0 : Int)), (aInt (0 : Int)), (aInt (0 : Int)), (aBool false)]] (by kernel_rfl) ?_
 refine aw_seq ?_
 refine aw_seq ?_
 refine rg [] [(6, (aBool v1.yOk))] [.cells (asimplify_typ v1).cells, .cells (asimplify_typ v2).cells, .cells [(aInt (0 : Int)), (aInt (0 : Int)), (aInt (0 : Int)), (aInt (0 : Int)), (aInt (0 : Int)), (aBool false)]] (by kernel_rfl) ?_
 rcases bool_cases v1.yOk with h1 | h1
 · replace hF := (cond_t h1).symm.trans hF
   refine aw_cond_h (t := v1.yOk) (by kernel_rfl) h1 ?_
   refine aw_seq ?_
   refine rg [] [] [.cells (asimplify_typ v1).cells, .cells (asimplify_typ v2).cells, .cells (asimplify_typ v1).cells] (by kernel_rfl) ?_
   refine aw_ret (at_r ?_)
   have hr := Option.some.inj hF; subst hr; exact ret_ok (by kernel_rfl)
 · replace hF := (cond_f h1).symm.trans hF
   refine aw_cond_g (t := v1.yOk) (by kernel_rfl) h1 ?_
   refine aw_skip ?_
   refine at_n ?_
   refine aw_seq ?_
   refine rg [] [] [.cells (asimplify_typ v1).cells, .cells (asimplify_typ v2).cells, .cells (asimplify_typ v2).cells] (by kernel_rfl) ?_
   refine aw_ret ?_
   have hr := Option.some.inj hF; subst hr; exact ret_ok (by kernel_rfl)
def g_simplify_derived_J2 (N : Nat) (v1 : ExprD) (rec83 : ExprD → Option simplify_typD) (v10 : Bool) : Option simplify_typD :=
 bif v10 then
  Option.bind (v1.xArgs[0]?) fun v11 =>
  Option.bind (rec83 v11) fun v12 =>
  Option.bind (v1.xArgs[1]?) fun v13 =>
  Option.bind (rec83 v13) fun v14 =>
  Option.bind (g_simplify_typ_or N v12 v14) fun v15 =>
  some v15
 else
  some (⟨(⟨(0 : Int), (0 : Int), (0 : Int), (0 : Int), (0 : Int)⟩ : TypeD), false⟩ : simplify_typD)
def g_simplify_derived_J1 (N : Nat) (v1 : ExprD) (rec83 : ExprD → Option simplify_typD) (v2 : Bool) : Option simplify_typD :=
 bif v2 then
  some (⟨v1.xType, true⟩ : simplify_typD)
 else
  bif (v1.xOp == (2 : Int)) then
   some (⟨(⟨(3 : Int), (0 : Int), (0 : Int), (0 : Int), (0 : Int)⟩ : TypeD), true⟩ : simplify_typD)
  else
   bif (v1.xOp == (8 : Int)) then
    Option.bind (v1.xArgs[0]?) fun v3 =>
    Option.bind (rec83 v3) fun v4 =>
    some v4
   else
    bif (v1.xOp == (11 : Int)) then
     Option.bind (v1.xArgs[1]?) fun v5 =>
     Option.bind (rec83 v5) fun v6 =>
     Option.bind (bif v6.yOk then Option.bind (v1.xArgs[2]?) fun v7 =>
     Option.bind (rec83 v7) fun v8 =>
     some (((v6.yT.xKind == v8.yT.xKind) && ((v6.yT.xBits == v8.yT.xBits) && ((v6.yT.xFrac == v8.yT.xFrac) && ((v6.yT.xRound == v8.yT.xRound) && ((v6.yT.xOver == v8.yT.xOver) && true))))) && ((v6.yOk == v8.yOk) && true)) else some false) fun v9 =>
     bif v9 then
      some v6
     else
      some (⟨(⟨(0 : Int), (0 : Int), (0 : Int), (0 : Int), (0 : Int)⟩ : TypeD), false⟩ : simplify_typD)
    else
     bif (v1.xOp == (4 : Int)) then
      g_simplify_derived_J2 N v1 rec83 (v1.xOp == (4 : Int))
     else
      bif (v1.xOp == (5 : Int)) then
       g_simplify_derived_J2 N v1 rec83 (v1.xOp == (5 : Int))
      else
       bif (v1.xOp == (6 : Int)) then
        g_simplify_derived_J2 N v1 rec83 (v1.xOp == (6 : Int))
       else
        bif (v1.xOp == (7 : Int)) then
         g_simplify_derived_J2 N v1 rec83 (v1.xOp == (7 : Int))
        else
         bif (v1.xOp == (9 : Int)) then
          g_simplify_derived_J2 N v1 rec83 (v1.xOp == (9 : Int))
         else
          g_simplify_derived_J2 N v1 rec83 (v1.xOp == (10 : Int))
def g_simplify_derivedR (N : Nat) : Nat → ExprD → Option simplify_typD
 | 0, _ => none
 | d + 1, v1 =>
  bif (v1.xOp == (1 : Int)) then
   g_simplify_derived_J1 N v1 (g_simplify_derivedR N d) (v1.xOp == (1 : Int))
  else
   g_simplify_derived_J1 N v1 (g_simplify_derivedR N d) (v1.xOp == (12 : Int))
def g_simplify_derived (N : Nat) (v1 : ExprD) : Option simplify_typD := g_simplify_derivedR N N v1
theorem g_simplify_derivedR_all (N : Nat) : ∀ d : Nat, (∀ (v1 : ExprD) (r : simplify_typD), g_simplify_derivedR N d v1 = some r → AFn Tryz.prog 113 [(aExpr v1)] (· = (asimplify_typ r))) := by
 intro d
 induction d with
 | zero => intro v1 r hF; rw [g_simplify_derivedR] at hF; cases hF
 | succ d ih =>
  have ih83 := ih
  intro v1 r hF
  rw [g_simplify_derivedR] at hF
  refine afn_of Tryz.func113 rfl (by kernel_rfl) ?_
  refine aw_cut [0] 0 (Nat.le_refl _) (s' := ⟨61, [(0, (aExpr v1))], []⟩) (by kernel_rfl) ?_
  refine aw_seq ?_
  refine rg [] [(1, (.ptr 0 0)), (2, (.ptr 1 0))] [.cells (aExpr v1).cells, .cells [(aInt (0 : Int)), (aInt (0 : Int)), (aInt (0 : Int)), (aInt (0 : Int)), (aInt (0 : Int)), (aBool false)]] (by kernel_rfl) ?_
  refine aw_seq ?_
  refine aw_seq ?_
  refine rg [] [(5, (aInt v1.xOp))] [.cells (aExpr v1).cells, .cells [(aInt (0 : Int)), (aInt (0 : Int)), (aInt (0 : Int)), (aInt (0 : Int)), (aInt (0 : Int)), (aBool false)]] (by kernel_rfl) ?_
  refine aw_block ?_
  refine aw_seq ?_
  refine aw_seq ?_
  refine rg [] [(6, (aBool (v1.xOp == (1 : Int))))] [.cells (aExpr v1).cells, .cells [(aInt (0 : Int)), (aInt (0 : Int)), (aInt (0 : Int)), (aInt (0 : Int)), (aInt (0 : Int)), (aBool false)]] (by kernel_rfl) ?_
  refine aw_joinC [1, 2, 5, 6] 2 (fun (v2 : Bool) => ⟨61, [(1, (.ptr 0 0)), (2, (.ptr 1 0)), (5, (aInt v1.xOp)), (6, (aBool v2))], [.cells (aExpr v1).cells, .cells [(aInt (0 : Int)), (aInt (0 : Int)), (aInt (0 : Int)), (aInt (0 : Int)), (aInt (0 : Int)), (aBool false)]]⟩) (fun (v2 : Bool) => g_simplify_derived_J1 N v1 (g_simplify_derivedR N d) v2 = some r) (Nat.le_of_ble_eq_true rfl) ?_ ?_
  · rcases bool_cases (v1.xOp == (1 : Int)) with h25 | h25
    · replace hF := (cond_t h25).symm.trans hF
      refine aw_cond_h (t := (v1.xOp == (1 : Int))) (by kernel_rfl) h25 ?_
      refine aw_skip ?_
      refine at_n ?_
      exact ⟨(v1.xOp == (1 : Int)), by kernel_rfl, hF⟩
    · replace hF := (cond_f h25).symm.trans hF
      refine aw_cond_g (t := (v1.xOp == (1 : Int))) (by kernel_rfl) h25 ?_
      refine re [] [(6, (aBool (v1.xOp == (12 : Int)))), (8, (aBool (v1.xOp == (12 : Int))))] [.cells (aExpr v1).cells, .cells [(aInt (0 : Int)), (aInt (0 : Int)), (aInt (0 : Int)), (aInt (0 : Int)), (aInt (0 : Int)), (aBool false)]] (by kernel_rfl) ?_
      refine at_n ?_
      exact ⟨(v1.xOp == (12 : Int)), by kernel_rfl, hF⟩
  · rintro v2 hF
    try dsimp only at hF
    rw [g_simplify_derived_J1] at hF
    rcases bool_cases v2 with h1 | h1
    · replace hF := (cond_t h1).symm.trans hF
      refine aw_cond_h (t := v2) (by kernel_rfl) h1 ?_
      refine aw_seq ?_
      refine rg [] [] [.cells (aExpr v1).cells, .cells [(aInt v1.xType.xKind), (aInt v1.xType.xBits), (aInt v1.xType.xFrac), (aInt v1.xType.xRound), (aInt v1.xType.xOver), (aBool true)]] (by kernel_rfl) ?_
      refine aw_ret (ab_r (at_r ?_))
      have hr := Option.some.inj hF; subst hr; exact ret_ok (by kernel_rfl)
    · replace hF := (cond_f h1).symm.trans hF
      refine aw_cond_g (t := v2) (by kernel_rfl) h1 ?_
      refine aw_seq ?_
      refine rg [] [(12, (aBool (v1.xOp == (2 : Int))))] [.cells (aExpr v1).cells, .cells [(aInt (0 : Int)), (aInt (0 : Int)), (aInt (0 : Int)), (aInt (0 : Int)), (aInt (0 : Int)), (aBool false)]] (by kernel_rfl) ?_
      rcases bool_cases (v1.xOp == (2 : Int)) with h2 | h2
      · replace hF := (cond_t h2).symm.trans hF
        refine aw_cond_h (t := (v1.xOp == (2 : Int))) (by kernel_rfl) h2 ?_
        refine aw_seq ?_
        refine rg [] [] [.cells (aExpr v1).cells, .cells [(aInt (3 : Int)), (aInt (0 : Int)), (aInt (0 : Int)), (aInt (0 : Int)), (aInt (0 : Int)), (aBool true)]] (by kernel_rfl) ?_
        refine aw_ret (ab_r (at_r ?_))
        have hr := Option.some.inj hF; subst hr; exact ret_ok (by kernel_rfl)
      · replace hF := (cond_f h2).symm.trans hF
        refine aw_cond_g (t := (v1.xOp == (2 : Int))) (by kernel_rfl) h2 ?_
        refine aw_seq ?_
        refine rg [] [(16, (aBool (v1.xOp == (8 : Int))))] [.cells (aExpr v1).cells, .cells [(aInt (0 : Int)), (aInt (0 : Int)), (aInt (0 : Int)), (aInt (0 : Int)), (aInt (0 : Int)), (aBool false)]] (by kernel_rfl) ?_
        rcases bool_cases (v1.xOp == (8 : Int)) with h3 | h3
        · replace hF := (cond_t h3).symm.trans hF
          refine aw_cond_h (t := (v1.xOp == (8 : Int))) (by kernel_rfl) h3 ?_
          refine aw_seq ?_
          obtain ⟨v3, h4, hF⟩ := bind_some hF
          obtain ⟨v4, h5, hF⟩ := bind_some hF
          refine rg [(7, ⟨_, _, .el (xs := dExprs v1.xArgs) (i := (0 : Int)) (by decide) (dExprs_get h4)⟩), (13, cL (ih83 v3 v4 h5))] [] [.cells (aExpr v1).cells, .cells (asimplify_typ v4).cells] (by kernel_rfl) ?_
          refine aw_ret (ab_r (at_r ?_))
          have hr := Option.some.inj hF; subst hr; exact ret_ok (by kernel_rfl)
        · replace hF := (cond_f h3).symm.trans hF
          refine aw_cond_g (t := (v1.xOp == (8 : Int))) (by kernel_rfl) h3 ?_
          refine aw_seq ?_
          refine rg [] [(23, (aBool (v1.xOp == (11 : Int))))] [.cells (aExpr v1).cells, .cells [(aInt (0 : Int)), (aInt (0 : Int)), (aInt (0 : Int)), (aInt (0 : Int)), (aInt (0 : Int)), (aBool false)]] (by kernel_rfl) ?_
          rcases bool_cases (v1.xOp == (11 : Int)) with h6 | h6
          · replace hF := (cond_t h6).symm.trans hF
            refine aw_cond_h (t := (v1.xOp == (11 : Int))) (by kernel_rfl) h6 ?_
            refine aw_seq ?_
            obtain ⟨v5, h7, hF⟩ := bind_some hF
            obtain ⟨v6, h8, hF⟩ := bind_some hF
            refine rg [(7, ⟨_, _, .el (xs := dExprs v1.xArgs) (i := (1 : Int)) (by decide) (dExprs_get h7)⟩), (13, cL (ih83 v5 v6 h8))] [(3, (.ptr 2 0))] [.cells (aExpr v1).cells, .cells [(aInt (0 : Int)), (aInt (0 : Int)), (aInt (0 : Int)), (aInt (0 : Int)), (aInt (0 : Int)), (aBool false)], .cells (asimplify_typ v6).cells] (by kernel_rfl) ?_
            refine aw_seq ?_
            obtain ⟨v9, h12, hF⟩ := bind_some hF
            refine rdE mixed (by kernel_rfl) [(40, (aBool v9))] [.cells (aExpr v1).cells, .cells [(aInt (0 : Int)), (aInt (0 : Int)), (aInt (0 : Int)), (aInt (0 : Int)), (aInt (0 : Int)), (aBool false)], .cells (asimplify_typ v6).cells] ?_ ?_
            · rcases bool_cases v6.yOk with h9 | h9
              · replace h12 := (cond_t h9).symm.trans h12
                obtain ⟨v7, h10, h12⟩ := bind_some h12
                obtain ⟨v8, h11, h12⟩ := bind_some h12
                have he := Option.some.inj h12; subst he; exact ⟨[(9, bT h9), (12, bT h9), (15, bT h9), (18, bT h9), (19, ⟨_, _, .el (xs := dExprs v1.xArgs) (i := (2 : Int)) (by decide) (dExprs_get h10)⟩), (21, bT h9), (24, bT h9), (25, cL (ih83 v7 v8 h11)), (27, bT h9), (31, bT h9)], by kernel_rfl⟩
              · replace h12 := (cond_f h9).symm.trans h12
                have he := Option.some.inj h12; subst he; exact ⟨[(9, bF h9), (12, bF h9), (15, bF h9), (18, bF h9), (21, bF h9), (24, bF h9), (27, bF h9), (31, bF h9)], by kernel_rfl⟩
            · rcases bool_cases v9 with h13 | h13
              · replace hF := (cond_t h13).symm.trans hF
                refine aw_cond_h (t := v9) (by kernel_rfl) h13 ?_
                refine aw_seq ?_
                refine rg [] [] [.cells (aExpr v1).cells, .cells (asimplify_typ v6).cells, .cells (asimplify_typ v6).cells] (by kernel_rfl) ?_
                refine aw_ret (ab_r (at_r ?_))
                have hr := Option.some.inj hF; subst hr; exact ret_ok (by kernel_rfl)
              · replace hF := (cond_f h13).symm.trans hF
                refine aw_cond_g (t := v9) (by kernel_rfl) h13 ?_
                refine aw_skip ?_
                refine ab_n ?_
                refine at_n ?_
                refine aw_seq ?_
                refine rg [] [] [.cells (aExpr v1).cells, .cells [(aInt (0 : Int)), (aInt (0 : Int)), (aInt (0 : Int)), (aInt (0 : Int)), (aInt (0 : Int)), (aBool false)], .cells (asimplify_typ v6).cells] (by kernel_rfl) ?_
                refine aw_ret ?_
                have hr := Option.some.inj hF; subst hr; exact ret_ok (by kernel_rfl)
          · replace hF := (cond_f h6).symm.trans hF
            refine aw_cond_g (t := (v1.xOp == (11 : Int))) (by kernel_rfl) h6 ?_
            refine aw_seq ?_
            refine aw_seq ?_
            refine rg [] [(42, (aBool (v1.xOp == (4 : Int))))] [.cells (aExpr v1).cells, .cells [(aInt (0 : Int)), (aInt (0 : Int)), (aInt (0 : Int)), (aInt (0 : Int)), (aInt (0 : Int)), (aBool false)]] (by kernel_rfl) ?_
            refine aw_joinC [1, 2, 42] 2 (fun (v10 : Bool) => ⟨61, [(1, (.ptr 0 0)), (2, (.ptr 1 0)), (42, (aBool v10))], [.cells (aExpr v1).cells, .cells [(aInt (0 : Int)), (aInt (0 : Int)), (aInt (0 : Int)), (aInt (0 : Int)), (aInt (0 : Int)), (aBool false)]]⟩) (fun (v10 : Bool) => g_simplify_derived_J2 N v1 (g_simplify_derivedR N d) v10 = some r) (Nat.le_of_ble_eq_true rfl) ?_ ?_
            · rcases bool_cases (v1.xOp == (4 : Int)) with h20 | h20
              · replace hF := (cond_t h20).symm.trans hF
                refine aw_cond_h (t := (v1.xOp == (4 : Int))) (by kernel_rfl) h20 ?_
                refine aw_skip ?_
                refine at_n ?_
                exact ⟨(v1.xOp == (4 : Int)), by kernel_rfl, hF⟩
              · replace hF := (cond_f h20).symm.trans hF
                refine aw_cond_g (t := (v1.xOp == (4 : Int))) (by kernel_rfl) h20 ?_
                refine aw_seq ?_
                refine rg [] [(42, (aBool (v1.xOp == (5 : Int))))] [.cells (aExpr v1).cells, .cells [(aInt (0 : Int)), (aInt (0 : Int)), (aInt (0 : Int)), (aInt (0 : Int)), (aInt (0 : Int)), (aBool false)]] (by kernel_rfl) ?_
                rcases bool_cases (v1.xOp == (5 : Int)) with h21 | h21
                · replace hF := (cond_t h21).symm.trans hF
                  refine aw_cond_h (t := (v1.xOp == (5 : Int))) (by kernel_rfl) h21 ?_
                  refine aw_skip ?_
                  refine at_n ?_
                  exact ⟨(v1.xOp == (5 : Int)), by kernel_rfl, hF⟩
                · replace hF := (cond_f h21).symm.trans hF
                  refine aw_cond_g (t := (v1.xOp == (5 : Int))) (by kernel_rfl) h21 ?_
                  refine aw_seq ?_
                  refine rg [] [(42, (aBool (v1.xOp == (6 : Int))))] [.cells (aExpr v1).cells, .cells [(aInt (0 : Int)), (aInt (0 : Int)), (aInt (0 : Int)), (aInt (0 : Int)), (aInt (0 : Int)), (aBool false)]] (by kernel_rfl) ?_
                  rcases bool_cases (v1.xOp == (6 : Int)) with h22 | h22
                  · replace hF := (cond_t h22).symm.trans hF
                    refine aw_cond_h (t := (v1.xOp == (6 : Int))) (by kernel_rfl) h22 ?_
                    refine aw_skip ?_
                    refine at_n ?_
                    exact ⟨(v1.xOp == (6 : Int)), by kernel_rfl, hF⟩
                  · replace hF := (cond_f h22).symm.trans hF
                    refine aw_cond_g (t := (v1.xOp == (6 : Int))) (by kernel_rfl) h22 ?_
                    refine aw_seq ?_
                    refine rg [] [(42, (aBool (v1.xOp == (7 : Int))))] [.cells (aExpr v1).cells, .cells [(aInt (0 : Int)), (aInt (0 : Int)), (aInt (0 : Int)), (aInt (0 : Int)), (aInt (0 : Int)), (aBool false)]] (by kernel_rfl) ?_
                    rcases bool_cases (v1.xOp == (7 : Int)) with h23 | h23
                    · replace hF := (cond_t h23).symm.trans hF
                      refine aw_cond_h (t := (v1.xOp == (7 : Int))) (by kernel_rfl) h23 ?_
                      refine aw_skip ?_
                      refine at_n ?_
                      exact ⟨(v1.xOp == (7 : Int)), by kernel_rfl, hF⟩
                    · replace hF := (cond_f h23).symm.trans hF
                      refine aw_cond_g (t := (v1.xOp == (7 : Int))) (by kernel_rfl) h23 ?_
                      refine aw_seq ?_
                      refine rg [] [(42, (aBool (v1.xOp == (9 : Int))))] [.cells (aExpr v1).cells, .cells [(aInt (0 : Int)), (aInt (0 : Int)), (aInt (0 : Int)), (aInt (0 : Int)), (aInt (0 : Int)), (aBool false)]] (by kernel_rfl) ?_
                      rcases bool_cases (v1.xOp == (9 : Int)) with h24 | h24
                      · replace hF := (cond_t h24).symm.trans hF
                        refine aw_cond_h (t := (v1.xOp == (9 : Int))) (by kernel_rfl) h24 ?_
                        refine aw_skip ?_
                        refine at_n ?_
                        exact ⟨(v1.xOp == (9 : Int)), by kernel_rfl, hF⟩
                      · replace hF := (cond_f h24).symm.trans hF
                        refine aw_cond_g (t := (v1.xOp == (9 : Int))) (by kernel_rfl) h24 ?_
                        refine re [] [(42, (aBool (v1.xOp == (10 : Int)))), (48, (aBool (v1.xOp == (10 : Int))))] [.cells (aExpr v1).cells, .cells [(aInt (0 : Int)), (aInt (0 : Int)), (aInt (0 : Int)), (aInt (0 : Int)), (aInt (0 : Int)), (aBool false)]] (by kernel_rfl) ?_
                        refine at_n ?_
                        exact ⟨(v1.xOp == (10 : Int)), by kernel_rfl, hF⟩
            · rintro v10 hF
              try dsimp only at hF
              rw [g_simplify_derived_J2] at hF
              rcases bool_cases v10 with h14 | h14
              · replace hF := (cond_t h14).symm.trans hF
                refine aw_cond_h (t := v10) (by kernel_rfl) h14 ?_
                refine aw_seq ?_
                obtain ⟨v11, h15, hF⟩ := bind_some hF
                obtain ⟨v12, h16, hF⟩ := bind_some hF
                obtain ⟨v13, h17, hF⟩ := bind_some hF
                obtain ⟨v14, h18, hF⟩ := bind_some hF
                obtain ⟨v15, h19, hF⟩ := bind_some hF
                refine rd mixed (by kernel_rfl) [(7, ⟨_, _, .el (xs := dExprs v1.xArgs) (i := (0 : Int)) (by decide) (dExprs_get h15)⟩), (13, cL (ih83 v11 v12 h16)), (22, ⟨_, _, .el (xs := dExprs v1.xArgs) (i := (1 : Int)) (by decide) (dExprs_get h17)⟩), (28, cL (ih83 v13 v14 h18)), (31, cL (g_simplify_typ_or_ok N v12 v14 v15 h19))] [] [.cells (aExpr v1).cells, .cells (asimplify_typ v15).cells] (by kernel_rfl) ?_
                refine aw_ret (ab_r (at_r ?_))
                have hr := Option.some.inj hF; subst hr; exact ret_ok (by kernel_rfl)
              · replace hF := (cond_f h14).symm.trans hF
                refine aw_cond_g (t := v10) (by kernel_rfl) h14 ?_
                refine aw_skip ?_
                refine ab_n ?_
                refine at_n ?_
                refine aw_seq ?_
                refine rg [] [] [.cells (aExpr v1).cells, .cells [(aInt (0 : Int)), (aInt (0 : Int)), (aInt (0 : Int)), (aInt (0 : Int)), (aInt (0 : Int)), (aBool false)]] (by kernel_rfl) ?_
                refine aw_ret ?_
                have hr := Option.some.inj hF; subst hr; exact ret_ok (by kernel_rfl)
theorem g_simplify_derived_ok (N : Nat) (v1 : ExprD) (r : simplify_typD) (hF : g_simplify_derived N v1 = some r) : AFn Tryz.prog 113 [(aExpr v1)] (· = (asimplify_typ r)) := (g_simplify_derivedR_all N N) v1 r hF
def g_simplify_operand_J2 (N : Nat) (v1 : ExprD) (v5 : Bool) : Option simplify_typD :=
 bif v5 then
  Option.bind (v1.xArgs[0]?) fun v6 =>
  Option.bind (g_simplify_derived N v6) fun v7 =>
  Option.bind (v1.xArgs[1]?) fun v8 =>
  Option.bind (g_simplify_derived N v8) fun v9 =>
  Option.bind (g_simplify_typ_or N v7 v9) fun v10 =>
  some v10
 else
  bif (v1.xOp == (12 : Int)) then
   Option.bind (v1.xArgs[0]?) fun v11 =>
   Option.bind (g_simplify_derived N v11) fun v12 =>
   some v12
  else
   some (⟨(⟨(0 : Int), (0 : Int), (0 : Int), (0 : Int), (0 : Int)⟩ : TypeD), false⟩ : simplify_typD)
def g_simplify_operand_J1 (N : Nat) (v2 : simplify_typD) (v1 : ExprD) (v3 : Int) (v4 : Bool) : Option simplify_typD :=
 bif v4 then
  some v2
 else
  bif (v1.xOp == (11 : Int)) then
   bif (decide (v3 > (0 : Int))) then
    some v2
   else
    some (⟨(⟨(0 : Int), (0 : Int), (0 : Int), (0 : Int), (0 : Int)⟩ : TypeD), false⟩ : simplify_typD)
  else
   bif (v1.xOp == (13 : Int)) then
    g_simplify_operand_J2 N v1 (v1.xOp == (13 : Int))
   else
    bif (v1.xOp == (14 : Int)) then
     g_simplify_operand_J2 N v1 (v1.xOp == (14 : Int))
    else
     g_simplify_operand_J2 N v1 (v1.xOp == (15 : Int))
def g_simplify_operand (N : Nat) (v1 : ExprD) (v2 : simplify_typD) (v3 : Int) : Option simplify_typD :=
 bif (v1.xOp == (4 : Int)) then
  g_simplify_operand_J1 N v2 v1 v3 (v1.xOp == (4 : Int))
 else
  bif (v1.xOp == (5 : Int)) then
   g_simplify_operand_J1 N v2 v1 v3 (v1.xOp == (5 : Int))
  else
   bif (v1.xOp == (6 : Int)) then
    g_simplify_operand_J1 N v2 v1 v3 (v1.xOp == (6 : Int))
   else
    bif (v1.xOp == (7 : Int)) then
     g_simplify_operand_J1 N v2 v1 v3 (v1.xOp == (7 : Int))
    else
     bif (v1.xOp == (9 : Int)) then
      g_simplify_operand_J1 N v2 v1 v3 (v1.xOp == (9 : Int))
     else
      bif (v1.xOp == (10 : Int)) then
       g_simplify_operand_J1 N v2 v1 v3 (v1.xOp == (10 : Int))
      else
       g_simplify_operand_J1 N v2 v1 v3 (v1.xOp == (8 : Int))
theorem g_simplify_operand_ok (N : Nat) (v1 : ExprD) (v2 : simplify_typD) (v3 : Int) (r : simplify_typD) (hF : g_simplify_operand N v1 v2 v3 = some r) : AFn Tryz.prog 59 [(aExpr v1), (asimplify_typ v2), (aInt v3)] (· = (asimplify_typ r)) := by
 rw [g_simplify_operand] at hF
 refine afn_of Tryz.func59 rfl (by kernel_rfl) ?_
 refine aw_cut [0, 1, 2] 0 (Nat.le_refl _) (s' := ⟨46, [(0, (aExpr v1)), (1, (asimplify_typ v2)), (2, (aInt v3))], []⟩) (by kernel_rfl) ?_
 refine aw_seq ?_
 refine rg [] [(3, (.ptr 0 0)), (4, (.ptr 1 0)), (6, (.ptr 2 0))] [.cells (aExpr v1).cells, .cells (asimplify_typ v2).cells, .cells [(aInt (0 : Int)), (aInt (0 : Int)), (aInt (0 : Int)), (aInt (0 : Int)), (aInt (0 : Int)), (aBool false)]] (by kernel_rfl) ?_
 refine aw_seq ?_
 refine aw_seq ?_
 refine rg [] [(8, (aInt v1.xOp))] [.cells (aExpr v1).cells, .cells (asimplify_typ v2).cells, .cells [(aInt (0 : Int)), (aInt (0 : Int)), (aInt (0 : Int)), (aInt (0 : Int)), (aInt (0 : Int)), (aBool false)]] (by kernel_rfl) ?_
 refine aw_block ?_
 refine aw_seq ?_
 refine aw_seq ?_
 refine rg [] [(9, (aBool (v1.xOp == (4 : Int))))] [.cells (aExpr v1).cells, .cells (asimplify_typ v2).cells, .cells [(aInt (0 : Int)), (aInt (0 : Int)), (aInt (0 : Int)), (aInt (0 : Int)), (aInt (0 : Int)), (aBool false)]] (by kernel_rfl) ?_
 refine aw_joinC [2, 3, 4, 6, 8, 9] 3 (fun (v4 : Bool) => ⟨46, [(2, (aInt v3)), (3, (.ptr 0 0)), (4, (.ptr 1 0)), (6, (.ptr 2 0)), (8, (aInt v1.xOp)), (9, (aBool v4))], [.cells (aExpr v1).cells, .cells (asimplify_typ v2).cells, .cells [(aInt (0 : Int)), (aInt (0 : Int)), (aInt (0 : Int)), (aInt (0 : Int)), (aInt (0 : Int)), (aBool false)]]⟩) (fun (v4 : Bool) => g_simplify_operand_J1 N v2 v1 v3 v4 = some r) (Nat.le_of_ble_eq_true rfl) ?_ ?_
 · rcases bool_cases (v1.xOp == (4 : Int)) with h15 | h15
   · replace hF := (cond_t h15).symm.trans hF
     refine aw_cond_h (t := (v1.xOp == (4 : Int))) (by kernel_rfl) h15 ?_
     refine aw_skip ?_
     refine at_n ?_
     exact ⟨(v1.xOp == (4 : Int)), by kernel_rfl, hF⟩
   · replace hF := (cond_f h15).symm.trans hF
     refine aw_cond_g (t := (v1.xOp == (4 : Int))) (by kernel_rfl) h15 ?_
     refine aw_seq ?_
     refine rg [] [(9, (aBool (v1.xOp == (5 : Int))))] [.cells (aExpr v1).cells, .cells (asimplify_typ v2).cells, .cells [(aInt (0 : Int)), (aInt (0 : Int)), (aInt (0 : Int)), (aInt (0 : Int)), (aInt (0 : Int)), (aBool false)]] (by kernel_rfl) ?_
     rcases bool_cases (v1.xOp == (5 : Int)) with h16 | h16
     · replace hF := (cond_t h16).symm.trans hF
       refine aw_cond_h (t := (v1.xOp == (5 : Int))) (by kernel_rfl) h16 ?_
       refine aw_skip ?_
       refine at_n ?_
       exact ⟨(v1.xOp == (5 : Int)), by kernel_rfl, hF⟩
     · replace hF := (cond_f h16).symm.trans hF
       refine aw_cond_g (t := (v1.xOp == (5 : Int))) (by kernel_rfl) h16 ?_
       refine aw_seq ?_
       refine rg [] [(9, (aBool (v1.xOp == (6 : Int))))] [.cells (aExpr v1).cells, .cells (asimplify_typ v2).cells, .cells [(aInt (0 : Int)), (aInt (0 : Int)), (aInt (0 : Int)), (aInt (0 : Int)), (aInt (0 : Int)), (aBool false)]] (by kernel_rfl) ?_
       rcases bool_cases (v1.xOp == (6 : Int)) with h17 | h17
       · replace hF := (cond_t h17).symm.trans hF
         refine aw_cond_h (t := (v1.xOp == (6 : Int))) (by kernel_rfl) h17 ?_
         refine aw_skip ?_
         refine at_n ?_
         exact ⟨(v1.xOp == (6 : Int)), by kernel_rfl, hF⟩
       · replace hF := (cond_f h17).symm.trans hF
         refine aw_cond_g (t := (v1.xOp == (6 : Int))) (by kernel_rfl) h17 ?_
         refine aw_seq ?_
         refine rg [] [(9, (aBool (v1.xOp == (7 : Int))))] [.cells (aExpr v1).cells, .cells (asimplify_typ v2).cells, .cells [(aInt (0 : Int)), (aInt (0 : Int)), (aInt (0 : Int)), (aInt (0 : Int)), (aInt (0 : Int)), (aBool false)]] (by kernel_rfl) ?_
         rcases bool_cases (v1.xOp == (7 : Int)) with h18 | h18
         · replace hF := (cond_t h18).symm.trans hF
           refine aw_cond_h (t := (v1.xOp == (7 : Int))) (by kernel_rfl) h18 ?_
           refine aw_skip ?_
           refine at_n ?_
           exact ⟨(v1.xOp == (7 : Int)), by kernel_rfl, hF⟩
         · replace hF := (cond_f h18).symm.trans hF
           refine aw_cond_g (t := (v1.xOp == (7 : Int))) (by kernel_rfl) h18 ?_
           refine aw_seq ?_
           refine rg [] [(9, (aBool (v1.xOp == (9 : Int))))] [.cells (aExpr v1).cells, .cells (asimplify_typ v2).cells, .cells [(aInt (0 : Int)), (aInt (0 : Int)), (aInt (0 : Int)), (aInt (0 : Int)), (aInt (0 : Int)), (aBool false)]] (by kernel_rfl) ?_
           rcases bool_cases (v1.xOp == (9 : Int)) with h19 | h19
           · replace hF := (cond_t h19).symm.trans hF
             refine aw_cond_h (t := (v1.xOp == (9 : Int))) (by kernel_rfl) h19 ?_
             refine aw_skip ?_
             refine at_n ?_
             exact ⟨(v1.xOp == (9 : Int)), by kernel_rfl, hF⟩
           · replace hF := (cond_f h19).symm.trans hF
             refine aw_cond_g (t := (v1.xOp == (9 : Int))) (by kernel_rfl) h19 ?_
             refine aw_seq ?_
             refine rg [] [(9, (aBool (v1.xOp == (10 : Int))))] [.cells (aExpr v1).cells, .cells (asimplify_typ v2).cells, .cells [(aInt (0 : Int)), (aInt (0 : Int)), (aInt (0 : Int)), (aInt (0 : Int)), (aInt (0 : Int)), (aBool false)]] (by kernel_rfl) ?_
             rcases bool_cases (v1.xOp == (10 : Int)) with h20 | h20
             · replace hF := (cond_t h20).symm.trans hF
               refine aw_cond_h (t := (v1.xOp == (10 : Int))) (by kernel_rfl) h20 ?_
               refine aw_skip ?_
               refine at_n ?_
               exact ⟨(v1.xOp == (10 : Int)), by kernel_rfl, hF⟩
             · replace hF := (cond_f h20).symm.trans hF
               refine aw_cond_g (t := (v1.xOp == (10 : Int))) (by kernel_rfl) h20 ?_
               refine re [] [(9, (aBool (v1.xOp == (8 : Int)))), (16, (aBool (v1.xOp == (8 : Int))))] [.cells (aExpr v1).cells, .cells (asimplify_typ v2).cells, .cells [(aInt (0 : Int)), (aInt (0 : Int)), (aInt (0 : Int)), (aInt (0 : Int)), (aInt (0 : Int)), (aBool false)]] (by kernel_rfl) ?_
               refine at_n ?_
               exact ⟨(v1.xOp == (8 : Int)), by kernel_rfl, hF⟩
 · rintro v4 hF
   try dsimp only at hF
   rw [g_simplify_operand_J1] at hF
   rcases bool_cases v4 with h1 | h1
   · replace hF := (cond_t h1).symm.trans hF
     refine aw_cond_h (t := v4) (by kernel_rfl) h1 ?_
     refine aw_seq ?_
     refine rg [] [] [.cells (aExpr v1).cells, .cells (asimplify_typ v2).cells, .cells (asimplify_typ v2).cells] (by kernel_rfl) ?_
     refine aw_ret (ab_r (at_r ?_))
     have hr := Option.some.inj hF; subst hr; exact ret_ok (by kernel_rfl)
   · replace hF := (cond_f h1).symm.trans hF
     refine aw_cond_g (t := v4) (by kernel_rfl) h1 ?_
     refine aw_seq ?_
     refine rg [] [(18, (aBool (v1.xOp == (11 : Int))))] [.cells (aExpr v1).cells, .cells (asimplify_typ v2).cells, .cells [(aInt (0 : Int)), (aInt (0 : Int)), (aInt (0 : Int)), (aInt (0 : Int)), (aInt (0 : Int)), (aBool false)]] (by kernel_rfl) ?_
     rcases bool_cases (v1.xOp == (11 : Int)) with h2 | h2
     · replace hF := (cond_t h2).symm.trans hF
       refine aw_cond_h (t := (v1.xOp == (11 : Int))) (by kernel_rfl) h2 ?_
       refine aw_seq ?_
       refine rg [] [(21, (aBool (decide (v3 > (0 : Int)))))] [.cells (aExpr v1).cells, .cells (asimplify_typ v2).cells, .cells [(aInt (0 : Int)), (aInt (0 : Int)), (aInt (0 : Int)), (aInt (0 : Int)), (aInt (0 : Int)), (aBool false)]] (by kernel_rfl) ?_
       rcases bool_cases (decide (v3 > (0 : Int))) with h3 | h3
       · replace hF := (cond_t h3).symm.trans hF
         refine aw_cond_h (t := (decide (v3 > (0 : Int)))) (by kernel_rfl) h3 ?_
         refine aw_seq ?_
         refine rg [] [] [.cells (aExpr v1).cells, .cells (asimplify_typ v2).cells, .cells (asimplify_typ v2).cells] (by kernel_rfl) ?_
         refine aw_ret (ab_r (at_r ?_))
         have hr := Option.some.inj hF; subst hr; exact ret_ok (by kernel_rfl)
       · replace hF := (cond_f h3).symm.trans hF
         refine aw_cond_g (t := (decide (v3 > (0 : Int)))) (by kernel_rfl) h3 ?_
         refine aw_skip ?_
         refine ab_n ?_
         refine at_n ?_
         refine aw_seq ?_
         refine rg [] [] [.cells (aExpr v1).cells, .cells (asimplify_typ v2).cells, .cells [(aInt (0 : Int)), (aInt (0 : Int)), (aInt (0 : Int)), (aInt (0 : Int)), (aInt (0 : Int)), (aBool false)]] (by kernel_rfl) ?_
         refine aw_ret ?_
         have hr := Option.some.inj hF; subst hr; exact ret_ok (by kernel_rfl)
     · replace hF := (cond_f h2).symm.trans hF
       refine aw_cond_g (t := (v1.xOp == (11 : Int))) (by kernel_rfl) h2 ?_
       refine aw_seq ?_
       refine aw_seq ?_
       refine rg [] [(23, (aBool (v1.xOp == (13 : Int))))] [.cells (aExpr v1).cells, .cells (asimplify_typ v2).cells, .cells [(aInt (0 : Int)), (aInt (0 : Int)), (aInt (0 : Int)), (aInt (0 : Int)), (aInt (0 : Int)), (aBool false)]] (by kernel_rfl) ?_
       refine aw_joinC [3, 6, 8, 23] 3 (fun (v5 : Bool) => ⟨46, [(3, (.ptr 0 0)), (6, (.ptr 2 0)), (8, (aInt v1.xOp)), (23, (aBool v5))], [.cells (aExpr v1).cells, .cells (asimplify_typ v2).cells, .cells [(aInt (0 : Int)), (aInt (0 : Int)), (aInt (0 : Int)), (aInt (0 : Int)), (aInt (0 : Int)), (aBool false)]]⟩) (fun (v5 : Bool) => g_simplify_operand_J2 N v1 v5 = some r) (Nat.le_of_ble_eq_true rfl) ?_ ?_
       · rcases bool_cases (v1.xOp == (13 : Int)) with h13 | h13
         · replace hF := (cond_t h13).symm.trans hF
           refine aw_cond_h (t := (v1.xOp == (13 : Int))) (by kernel_rfl) h13 ?_
           refine aw_skip ?_
           refine at_n ?_
           exact ⟨(v1.xOp == (13 : Int)), by kernel_rfl, hF⟩
         · replace hF := (cond_f h13).symm.trans hF
           refine aw_cond_g (t := (v1.xOp == (13 : Int))) (by kernel_rfl) h13 ?_
           refine aw_seq ?_
           refine rg [] [(23, (aBool (v1.xOp == (14 : Int))))] [.cells (aExpr v1).cells, .cells (asimplify_typ v2).cells, .cells [(aInt (0 : Int)), (aInt (0 : Int)), (aInt (0 : Int)), (aInt (0 : Int)), (aInt (0 : Int)), (aBool false)]] (by kernel_rfl) ?_
           rcases bool_cases (v1.xOp == (14 : Int)) with h14 | h14
           · replace hF := (cond_t h14).symm.trans hF
             refine aw_cond_h (t := (v1.xOp == (14 : Int))) (by kernel_rfl) h14 ?_
             refine aw_skip ?_
             refine at_n ?_
             exact ⟨(v1.xOp == (14 : Int)), by kernel_rfl, hF⟩
           · replace hF := (cond_f h14).symm.trans hF
             refine aw_cond_g (t := (v1.xOp == (14 : Int))) (by kernel_rfl) h14 ?_
             refine re [] [(23, (aBool (v1.xOp == (15 : Int)))), (26, (aBool (v1.xOp == (15 : Int))))] [.cells (aExpr v1).cells, .cells (asimplify_typ v2).cells, .cells [(aInt (0 : Int)), (aInt (0 : Int)), (aInt (0 : Int)), (aInt (0 : Int)), (aInt (0 : Int)), (aBool false)]] (by kernel_rfl) ?_
             refine at_n ?_
             exact ⟨(v1.xOp == (15 : Int)), by kernel_rfl, hF⟩
       · rintro v5 hF
         try dsimp only at hF
         rw [g_simplify_operand_J2] at hF
         rcases bool_cases v5 with h4 | h4
         · replace hF := (cond_t h4).symm.trans hF
           refine aw_cond_h (t := v5) (by kernel_rfl) h4 ?_
           refine aw_seq ?_
           obtain ⟨v6, h5, hF⟩ := bind_some hF
           obtain ⟨v7, h6, hF⟩ := bind_some hF
           obtain ⟨v8, h7, hF⟩ := bind_some hF
           obtain ⟨v9, h8, hF⟩ := bind_some hF
           obtain ⟨v10, h9, hF⟩ := bind_some hF
           refine rd mixed (by kernel_rfl) [(7, ⟨_, _, .el (xs := dExprs v1.xArgs) (i := (0 : Int)) (by decide) (dExprs_get h5)⟩), (13, cL (g_simplify_derived_ok N v6 v7 h6)), (22, ⟨_, _, .el (xs := dExprs v1.xArgs) (i := (1 : Int)) (by decide) (dExprs_get h7)⟩), (28, cL (g_simplify_derived_ok N v8 v9 h8)), (31, cL (g_simplify_typ_or_ok N v7 v9 v10 h9))] [] [.cells (aExpr v1).cells, .cells (asimplify_typ v2).cells, .cells (asimplify_typ v10).cells] (by kernel_rfl) ?_
           refine aw_ret (ab_r (at_r ?_))
           have hr := Option.some.inj hF; subst hr; exact ret_ok (by kernel_rfl)
         · replace hF := (cond_f h4).symm.trans hF
           refine aw_cond_g (t := v5) (by kernel_rfl) h4 ?_
           refine aw_seq ?_
           refine rg [] [(38, (aBool (v1.xOp == (12 : Int))))] [.cells (aExpr v1).cells, .cells (asimplify_typ v2).cells, .cells [(aInt (0 : Int)), (aInt (0 : Int)), (aInt (0 : Int)), (aInt (0 : Int)), (aInt (0 : Int)), (aBool false)]] (by kernel_rfl) ?_
           rcases bool_cases (v1.xOp == (12 : Int)) with h10 | h10
           · replace hF := (cond_t h10).symm.trans hF
             refine aw_cond_h (t := (v1.xOp == (12 : Int))) (by kernel_rfl) h10 ?_
             refine aw_seq ?_
             obtain ⟨v11, h11, hF⟩ := bind_some hF
             obtain ⟨v12, h12, hF⟩ := bind_some hF
             refine rg [(7, ⟨_, _, .el (xs := dExprs v1.xArgs) (i := (0 : Int)) (by decide) (dExprs_get h11)⟩), (13, cL (g_simplify_derived_ok N v11 v12 h12))] [] [.cells (aExpr v1).cells, .cells (asimplify_typ v2).cells, .cells (asimplify_typ v12).cells] (by kernel_rfl) ?_
             refine aw_ret (ab_r (at_r ?_))
             have hr := Option.some.inj hF; subst hr; exact ret_ok (by kernel_rfl)
           · replace hF := (cond_f h10).symm.trans hF
             refine aw_cond_g (t := (v1.xOp == (12 : Int))) (by kernel_rfl) h10 ?_
             refine aw_skip ?_
             refine ab_n ?_
             refine at_n ?_
             refine aw_seq ?_
             refine rg [] [] [.cells (aExpr v1).cells, .cells (asimplify_typ v2).cells, .cells [(aInt (0 : Int)), (aInt (0 : Int)), (aInt (0 : Int)), (aInt (0 : Int)), (aInt (0 : Int)), (aBool false)]] (by kernel_rfl) ?_
             refine aw_ret ?_
             have hr := Option.some.inj hF; subst hr; exact ret_ok (by kernel_rfl)
def g_simplify_allSure_L1 (N : Nat) (v1 : ExprD) (v2 : simplify_typD) (rec77 : ExprD → simplify_typD → Option Bool) : List ExprD → Nat → Option Bool
 | [], _ =>
  some true
 | v6 :: v7, v4 =>
  Option.bind (g_simplify_operand N v1 v2 (v4 : Int)) fun v8 =>
  Option.bind (rec77 v6 v8) fun v9 =>
  bif v9 then
   (g_simplify_allSure_L1 N v1 v2 rec77 v7 (v4 + 1))
  else
   some false
def g_simplify_allSureR (N : Nat) : Nat → ExprD → simplify_typD → Option Bool
 | 0, _, _ => none
 | d + 1, v1, v2 =>
  Option.bind (g_simplify_sure N v1 v2) fun v3 =>
  bif v3 then
   g_simplify_allSure_L1 N v1 v2 (g_simplify_allSureR N d) v1.xArgs 0
  else
   some false
def g_simplify_allSure (N : Nat) (v1 : ExprD) (v2 : simplify_typD) : Option Bool := g_simplify_allSureR N N v1 v2
theorem g_simplify_allSureR_all (N : Nat) : ∀ d : Nat, (∀ (v1 : ExprD) (v2 : simplify_typD) (r : Bool), g_simplify_allSureR N d v1 v2 = some r → AFn Tryz.prog 41 [(aExpr v1), (asimplify_typ v2)] (· = (aBool r))) := by
 intro d
 induction d with
 | zero => intro v1 v2 r hF; rw [g_simplify_allSureR] at hF; cases hF
 | succ d ih =>
  have ih77 := ih
  intro v1 v2 r hF
  rw [g_simplify_allSureR] at hF
  refine afn_of Tryz.func41 rfl (by kernel_rfl) ?_
  refine aw_cut [0, 1] 0 (Nat.le_refl _) (s' := ⟨27, [(0, (aExpr v1)), (1, (asimplify_typ v2))], []⟩) (by kernel_rfl) ?_
  refine aw_seq ?_
  refine rg [] [(2, (.ptr 0 0)), (3, (.ptr 1 0))] [.cells (aExpr v1).cells, .cells (asimplify_typ v2).cells] (by kernel_rfl) ?_
  refine aw_seq ?_
  refine aw_seq ?_
  obtain ⟨v3, h1, hF⟩ := bind_some hF
  refine rg [(7, cL (g_simplify_sure_ok N v1 v2 v3 h1))] [(10, (aBool (!v3)))] [.cells (aExpr v1).cells, .cells (asimplify_typ v2).cells] (by kernel_rfl) ?_
  rcases bool_cases v3 with h2 | h2
  · replace hF := (cond_t h2).symm.trans hF
    refine aw_cond_g (t := (!v3)) (by kernel_rfl) (not_t h2) ?_
    refine aw_skip ?_
    refine at_n ?_
    refine aw_seq ?_
    refine aw_seq ?_
    refine rg [(7, ⟨_, _, .len (xs := dExprs v1.xArgs) dExprs_len⟩)] [(12, (.d (.sl (dExprs v1.xArgs)))), (13, (aInt (v1.xArgs.length : Int))), (14, (aInt (0 : Int)))] [.cells (aExpr v1).cells, .cells (asimplify_typ v2).cells] (by kernel_rfl) ?_
    refine aw_block ?_
    refine aw_okT 12 (dExprs v1.xArgs) (by kernel_rfl) fun h3 => ?_
    have h4 : v1.xArgs.length ≤ maxLen := by rw [← dExprs_len]; exact ok_len h3
    refine aw_loopC [2, 3, 12, 13, 14] 2 (fun ((v4, v5) : Nat × (List ExprD)) => ⟨27, [(2, (.ptr 0 0)), (3, (.ptr 1 0)), (12, (.d (.sl (dExprs v1.xArgs)))), (13, (aInt (v1.xArgs.length : Int))), (14, (aInt (v4 : Int)))], [.cells (aExpr v1).cells, .cells (asimplify_typ v2).cells]⟩) (fun ((v4, v5) : Nat × (List ExprD)) => v1.xArgs.drop v4 = v5 ∧ g_simplify_allSure_L1 N v1 v2 (g_simplify_allSureR N d) v5 v4 = some r) (fun ((v4, v5) : Nat × (List ExprD)) => v5.length) (0, v1.xArgs) (Nat.le_of_ble_eq_true rfl) (by kernel_rfl) ⟨rfl, hF⟩ ?_
    rintro ⟨v4, v5⟩ ⟨h5, hF⟩
    cases v5 with
    | nil =>
     rw [g_simplify_allSure_L1] at hF
     refine aw_seq ?_
     refine rg [] [(15, (aBool (decide ((v4 : Int) < (v1.xArgs.length : Int)))))] [.cells (aExpr v1).cells, .cells (asimplify_typ v2).cells] (by kernel_rfl) ?_
     refine aw_seq ?_
     refine aw_cond_g (t := (decide ((v4 : Int) < (v1.xArgs.length : Int)))) (by kernel_rfl) (lt_f h5) ?_
     refine aw_exit (at_e (at_e (ab_y rfl ?_)))
     refine at_n ?_
     refine aw_seq ?_
     refine rg [] [(4, (aBool true))] [.cells (aExpr v1).cells, .cells (asimplify_typ v2).cells] (by kernel_rfl) ?_
     refine aw_ret ?_
     have hr := Option.some.inj hF; subst hr; exact ret_ok (by kernel_rfl)
    | cons v6 v7 =>
     rw [g_simplify_allSure_L1] at hF
     refine aw_seq ?_
     refine rg [] [(15, (aBool (decide ((v4 : Int) < (v1.xArgs.length : Int)))))] [.cells (aExpr v1).cells, .cells (asimplify_typ v2).cells] (by kernel_rfl) ?_
     refine aw_seq ?_
     refine aw_cond_h (t := (decide ((v4 : Int) < (v1.xArgs.length : Int)))) (by kernel_rfl) (lt_t h5) ?_
     refine aw_skip ?_
     refine at_n ?_
     refine aw_seq ?_
     refine aw_block ?_
     refine aw_seq ?_
     refine rg [(4, ⟨_, _, .el (xs := dExprs v1.xArgs) (i := (v4 : Int)) (Int.natCast_nonneg _) (dExprs_get (drop_get h5))⟩)] [(6, (.ptr 2 0)), (5, (aInt (v4 : Int)))] [.cells (aExpr v1).cells, .cells (asimplify_typ v2).cells, .cells (aExpr v6).cells] (by kernel_rfl) ?_
     refine aw_seq ?_
     obtain ⟨v8, h6, hF⟩ := bind_some hF
     obtain ⟨v9, h7, hF⟩ := bind_some hF
     refine rd mixed (by kernel_rfl) [(13, cL (g_simplify_operand_ok N v1 v2 (v4 : Int) v8 h6)), (16, cL (ih77 v6 v8 v9 h7))] [(25, (aBool (!v9)))] [.cells (aExpr v1).cells, .cells (asimplify_typ v2).cells, .cells (aExpr v6).cells] (by kernel_rfl) ?_
     rcases bool_cases v9 with h8 | h8
     · replace hF := (cond_t h8).symm.trans hF
       refine aw_cond_g (t := (!v9)) (by kernel_rfl) (not_t h8) ?_
       refine aw_skip ?_
       refine ab_n ?_
       refine at_n ?_
       refine re [(2, ⟨_, _, .eq (wrap_nx h5 rfl h4)⟩)] [(14, (aInt ((v4 + 1 : Nat) : Int))), (26, (aInt ((v4 + 1 : Nat) : Int)))] [.cells (aExpr v1).cells, .cells (asimplify_typ v2).cells, .cells (aExpr v6).cells] (by kernel_rfl) ?_
       refine at_n ?_
       exact ⟨(v4 + 1, v7), by kernel_rfl, ⟨drop_nx h5, hF⟩, Nat.lt_succ_self _⟩
     · replace hF := (cond_f h8).symm.trans hF
       refine aw_cond_h (t := (!v9)) (by kernel_rfl) (not_f h8) ?_
       refine aw_seq ?_
       refine rg [] [(4, (aBool false))] [.cells (aExpr v1).cells, .cells (asimplify_typ v2).cells, .cells (aExpr v6).cells] (by kernel_rfl) ?_
       refine aw_ret (ab_r (at_r (at_r (ab_r (at_r ?_)))))
       have hr := Option.some.inj hF; subst hr; exact ret_ok (by kernel_rfl)
  · replace hF := (cond_f h2).symm.trans hF
    refine aw_cond_h (t := (!v3)) (by kernel_rfl) (not_f h2) ?_
    refine aw_seq ?_
    refine rg [] [(4, (aBool false))] [.cells (aExpr v1).cells, .cells (asimplify_typ v2).cells] (by kernel_rfl) ?_
    refine aw_ret (at_r ?_)
    have hr := Option.some.inj hF; subst hr; exact ret_ok (by kernel_rfl)
theorem g_simplify_allSure_ok (N : Nat) (v1 : ExprD) (v2 : simplify_typD) (r : Bool) (hF : g_simplify_allSure N v1 v2 = some r) : AFn Tryz.prog 41 [(aExpr v1), (asimplify_typ v2)] (· = (aBool r)) := (g_simplify_allSureR_all N N) v1 v2 r hF
def g_simplify_CannotFail (N : Nat) (v1 : TypeD) (v2 : ExprD) : Option Bool :=
 Option.bind (g_value_ValidateType N v1) fun v3 =>
 Option.bind (bif (v3 == (0 : Int)) then Option.bind (g_expr_Validate N v2) fun v4 =>
 (bif (v4 == (0 : Int)) then Option.bind (g_expr_IsCondition N v2) fun v5 =>
 Option.bind (g_simplify_allSure N v2 (⟨v1, (!v5)⟩ : simplify_typD)) fun v6 =>
 some v6 else some false) else some false) fun v7 =>
 some v7
theorem g_simplify_CannotFail_ok (N : Nat) (v1 : TypeD) (v2 : ExprD) (r : Bool) (hF : g_simplify_CannotFail N v1 v2 = some r) : AFn Tryz.prog 17 [(aType v1), (aExpr v2)] (· = (aBool r)) := by
 rw [g_simplify_CannotFail] at hF
 refine afn_of Tryz.func17 rfl (by kernel_rfl) ?_
 refine aw_cut [0, 1] 0 (Nat.le_refl _) (s' := ⟨22, [(0, (aType v1)), (1, (aExpr v2))], []⟩) (by kernel_rfl) ?_
 refine aw_seq ?_
 refine rg [] [(2, (.ptr 0 0)), (3, (.ptr 1 0))] [.cells (aType v1).cells, .cells (aExpr v2).cells] (by kernel_rfl) ?_
 refine aw_seq ?_
 obtain ⟨v3, h1, hF⟩ := bind_some hF
 obtain ⟨v7, h7, hF⟩ := bind_some hF
 refine rdE mixed (by kernel_rfl) [(4, (aBool v7))] [.cells (aType v1).cells, .cells (aExpr v2).cells] ?_ ?_
 · rcases bool_cases (v3 == (0 : Int)) with h2 | h2
   · replace h7 := (cond_t h2).symm.trans h7
     obtain ⟨v4, h3, h7⟩ := bind_some h7
     rcases bool_cases (v4 == (0 : Int)) with h4 | h4
     · replace h7 := (cond_t h4).symm.trans h7
       obtain ⟨v5, h5, h7⟩ := bind_some h7
       obtain ⟨v6, h6, h7⟩ := bind_some h7
       have he := Option.some.inj h7; subst he; exact ⟨[(4, cL (g_value_ValidateType_ok N v1 v3 h1)), (12, bT h2), (15, bT h2), (16, cL (g_expr_Validate_ok N v2 v4 h3)), (18, bT h2), (22, bT h2), (27, bT h4), (30, bT h4), (33, bT h4), (36, bT h4), (37, cL (g_expr_IsCondition_ok N v2 v5 h5)), (39, bT h4), (42, bT h4), (45, bT h4), (46, cL (g_simplify_allSure_ok N v2 (⟨v1, (!v5)⟩ : simplify_typD) v6 h6)), (49, bT h4)], by kernel_rfl⟩
     · replace h7 := (cond_f h4).symm.trans h7
       have he := Option.some.inj h7; subst he; exact ⟨[(4, cL (g_value_ValidateType_ok N v1 v3 h1)), (12, bT h2), (15, bT h2), (16, cL (g_expr_Validate_ok N v2 v4 h3)), (18, bT h2), (22, bT h2), (27, bF h4), (30, bF h4), (33, bF h4), (36, bF h4), (39, bF h4), (42, bF h4), (45, bF h4), (49, bF h4)], by kernel_rfl⟩
   · replace h7 := (cond_f h2).symm.trans h7
     have he := Option.some.inj h7; subst he; exact ⟨[(4, cL (g_value_ValidateType_ok N v1 v3 h1)), (12, bF h2), (15, bF h2), (18, bF h2), (22, bF h2), (27, bF rfl), (30, bF rfl), (33, bF rfl), (36, bF rfl), (39, bF rfl), (42, bF rfl), (45, bF rfl), (49, bF rfl)], by kernel_rfl⟩
 · refine aw_ret ?_
   have hr := Option.some.inj hF; subst hr; exact ret_ok (by kernel_rfl)
def g_brocaderef21_root (N : Nat) (v1 : TypeD) (v2 : ExprD) : Option brocaderef21_KnownD :=
 Option.bind (g_brocaderef14_IsCondition N v2) fun v3 =>
 some (⟨v1, (!v3)⟩ : brocaderef21_KnownD)
theorem g_brocaderef21_root_ok (N : Nat) (v1 : TypeD) (v2 : ExprD) (r : brocaderef21_KnownD) (hF : g_brocaderef21_root N v1 v2 = some r) : AFn Tryz.prog 34 [(aType v1), (aExpr v2)] (· = (abrocaderef21_Known r)) := by
 rw [g_brocaderef21_root] at hF
 refine afn_of Tryz.func34 rfl (by kernel_rfl) ?_
 refine aw_cut [0, 1] 0 (Nat.le_refl _) (s' := ⟨10, [(0, (aType v1)), (1, (aExpr v2))], []⟩) (by kernel_rfl) ?_
 refine aw_seq ?_
 refine rg [] [(2, (.ptr 0 0)), (3, (.ptr 1 0)), (4, (.ptr 2 0))] [.cells (aType v1).cells, .cells (aExpr v2).cells, .cells [(aInt (0 : Int)), (aInt (0 : Int)), (aInt (0 : Int)), (aInt (0 : Int)), (aInt (0 : Int)), (aBool false)]] (by kernel_rfl) ?_
 refine aw_seq ?_
 obtain ⟨v3, h1, hF⟩ := bind_some hF
 refine rd mixed (by kernel_rfl) [(7, cL (g_brocaderef14_IsCondition_ok N v2 v3 h1))] [] [.cells (aType v1).cells, .cells (aExpr v2).cells, .cells [(aInt v1.xKind), (aInt v1.xBits), (aInt v1.xFrac), (aInt v1.xRound), (aInt v1.xOver), (aBool (!v3))]] (by kernel_rfl) ?_
 refine aw_ret ?_
 have hr := Option.some.inj hF; subst hr; exact ret_ok (by kernel_rfl)
def g_brocaderef21_bounded_L1 (N : Nat) : List MonoD → Nat → Int64 → Option Bool
 | [], _, _ =>
  some true
 | v5 :: v6, v3, v7 =>
  Option.bind (bif (decide (v5.xBy.toInt > (2147483647 : Int))) then some true else some (decide (v5.xBy.toInt < (-2147483647 : Int)))) fun v8 =>
  bif v8 then
   some false
  else
   bif (decide ((v7 + ((max64 v5.xBy (-v5.xBy)) * (4096 : Int64))).toInt > (2147483647 : Int))) then
    some false
   else
    (fun b1_0 => g_brocaderef21_bounded_L1 N v6 (v3 + 1) b1_0) (v7 + ((max64 v5.xBy (-v5.xBy)) * (4096 : Int64)))
def g_brocaderef21_bounded (N : Nat) (v1 : LinD) : Option Bool :=
 Option.bind (bif (decide (v1.xK.toInt > (2147483647 : Int))) then some true else some (decide (v1.xK.toInt < (-2147483647 : Int)))) fun v2 =>
 bif v2 then
  some false
 else
  g_brocaderef21_bounded_L1 N v1.xL 0 (max64 v1.xK (-v1.xK))
theorem g_brocaderef21_bounded_ok (N : Nat) (v1 : LinD) (r : Bool) (hF : g_brocaderef21_bounded N v1 = some r) : AFn Tryz.prog 70 [(aLin v1)] (· = (aBool r)) := by
 rw [g_brocaderef21_bounded] at hF
 refine afn_of Tryz.func70 rfl (by kernel_rfl) ?_
 refine aw_cut [0] 0 (Nat.le_refl _) (s' := ⟨48, [(0, (aLin v1))], []⟩) (by kernel_rfl) ?_
 refine aw_seq ?_
 refine rg [] [(1, (.ptr 0 0))] [.cells (aLin v1).cells] (by kernel_rfl) ?_
 refine aw_seq ?_
 refine aw_seq ?_
 obtain ⟨v2, h2, hF⟩ := bind_some hF
 refine rgE [(13, (aBool v2))] [.cells (aLin v1).cells] ?_ ?_
 · rcases bool_cases (decide (v1.xK.toInt > (2147483647 : Int))) with h1 | h1
   · replace h2 := (cond_t h1).symm.trans h2
     have he := Option.some.inj h2; subst he; exact ⟨[(12, bT h1), (15, bT h1), (18, bT h1), (22, bT h1)], by kernel_rfl⟩
   · replace h2 := (cond_f h1).symm.trans h2
     have he := Option.some.inj h2; subst he; exact ⟨[(12, bF h1), (15, bF h1), (18, bF h1), (22, bF h1)], by kernel_rfl⟩
 · rcases bool_cases v2 with h3 | h3
   · replace hF := (cond_t h3).symm.trans hF
     refine aw_cond_h (t := v2) (by kernel_rfl) h3 ?_
     refine aw_seq ?_
     refine rg [] [(2, (aBool false))] [.cells (aLin v1).cells] (by kernel_rfl) ?_
     refine aw_ret (at_r ?_)
     have hr := Option.some.inj hF; subst hr; exact ret_ok (by kernel_rfl)
   · replace hF := (cond_f h3).symm.trans hF
     refine aw_cond_g (t := v2) (by kernel_rfl) h3 ?_
     refine aw_skip ?_
     refine at_n ?_
     refine aw_seq ?_
     refine rg [(14, ⟨_, _, .eq (i64_neg v1.xK)⟩), (17, ⟨_, _, .eq (max64_eq v1.xK (-v1.xK))⟩)] [(3, (aI64 (max64 v1.xK (-v1.xK))))] [.cells (aLin v1).cells] (by kernel_rfl) ?_
     refine aw_seq ?_
     refine aw_seq ?_
     refine rg [] [(4, (aInt (0 : Int)))] [.cells (aLin v1).cells] (by kernel_rfl) ?_
     refine aw_block ?_
     refine aw_okB 0 1 (dMonos v1.xL) (by kernel_rfl) fun h4 => ?_
     have h5 : v1.xL.length ≤ maxLen := by rw [← dMonos_len]; exact ok_len h4
     refine aw_loopC [1, 3, 4] 1 (fun ((v3, v4, v7) : Nat × (List MonoD) × Int64) => ⟨48, [(1, (.ptr 0 0)), (3, (aI64 v7)), (4, (aInt (v3 : Int)))], [.cells (aLin v1).cells]⟩) (fun ((v3, v4, v7) : Nat × (List MonoD) × Int64) => v1.xL.drop v3 = v4 ∧ g_brocaderef21_bounded_L1 N v4 v3 v7 = some r) (fun ((v3, v4, v7) : Nat × (List MonoD) × Int64) => v4.length) (0, v1.xL, (max64 v1.xK (-v1.xK))) (Nat.le_of_ble_eq_true rfl) (by kernel_rfl) ⟨rfl, hF⟩ ?_
     rintro ⟨v3, v4, v7⟩ ⟨h6, hF⟩
     cases v4 with
     | nil =>
      rw [g_brocaderef21_bounded_L1] at hF
      refine aw_seq ?_
      refine aw_seq ?_
      refine rg [(10, ⟨_, _, .len (xs := dMonos v1.xL) dMonos_len⟩)] [(24, (aBool (decide ((v3 : Int) < (v1.xL.length : Int)))))] [.cells (aLin v1).cells] (by kernel_rfl) ?_
      refine aw_cond_g (t := (decide ((v3 : Int) < (v1.xL.length : Int)))) (by kernel_rfl) (lt_f h6) ?_
      refine aw_exit (at_e (at_e (ab_y rfl ?_)))
      refine at_n ?_
      refine aw_seq ?_
      refine rg [] [(2, (aBool true))] [.cells (aLin v1).cells] (by kernel_rfl) ?_
      refine aw_ret ?_
      have hr := Option.some.inj hF; subst hr; exact ret_ok (by kernel_rfl)
     | cons v5 v6 =>
      rw [g_brocaderef21_bounded_L1] at hF
      refine aw_seq ?_
      refine aw_seq ?_
      refine rg [(10, ⟨_, _, .len (xs := dMonos v1.xL) dMonos_len⟩)] [(24, (aBool (decide ((v3 : Int) < (v1.xL.length : Int)))))] [.cells (aLin v1).cells] (by kernel_rfl) ?_
      refine aw_cond_h (t := (decide ((v3 : Int) < (v1.xL.length : Int)))) (by kernel_rfl) (lt_t h6) ?_
      refine aw_skip ?_
      refine at_n ?_
      refine aw_seq ?_
      refine aw_block ?_
      refine aw_seq ?_
      refine rg [(10, ⟨_, _, .el (xs := dMonos v1.xL) (i := (v3 : Int)) (Int.natCast_nonneg _) (dMonos_get (drop_get h6))⟩)] [(5, (aI64 v5.xBy))] [.cells (aLin v1).cells] (by kernel_rfl) ?_
      refine aw_seq ?_
      refine aw_seq ?_
      obtain ⟨v8, h8, hF⟩ := bind_some hF
      refine rgE [(38, (aBool v8))] [.cells (aLin v1).cells] ?_ ?_
      · rcases bool_cases (decide (v5.xBy.toInt > (2147483647 : Int))) with h7 | h7
        · replace h8 := (cond_t h7).symm.trans h8
          have he := Option.some.inj h8; subst he; exact ⟨[(9, bT h7), (12, bT h7), (16, bT h7)], by kernel_rfl⟩
        · replace h8 := (cond_f h7).symm.trans h8
          have he := Option.some.inj h8; subst he; exact ⟨[(9, bF h7), (12, bF h7), (16, bF h7)], by kernel_rfl⟩
      · rcases bool_cases v8 with h9 | h9
        · replace hF := (cond_t h9).symm.trans hF
          refine aw_cond_h (t := v8) (by kernel_rfl) h9 ?_
          refine aw_seq ?_
          refine rg [] [(2, (aBool false))] [.cells (aLin v1).cells] (by kernel_rfl) ?_
          refine aw_ret (at_r (ab_r (at_r (at_r (ab_r (at_r ?_))))))
          have hr := Option.some.inj hF; subst hr; exact ret_ok (by kernel_rfl)
        · replace hF := (cond_f h9).symm.trans hF
          refine aw_cond_g (t := v8) (by kernel_rfl) h9 ?_
          refine aw_skip ?_
          refine at_n ?_
          refine aw_seq ?_
          refine rg [(11, ⟨_, _, .eq (i64_neg v5.xBy)⟩), (14, ⟨_, _, .eq (max64_eq v5.xBy (-v5.xBy))⟩), (17, ⟨_, _, .eq (i64_mul (max64 v5.xBy (-v5.xBy)) (4096 : Int64))⟩), (20, ⟨_, _, .eq (i64_add v7 ((max64 v5.xBy (-v5.xBy)) * (4096 : Int64)))⟩)] [(3, (aI64 (v7 + ((max64 v5.xBy (-v5.xBy)) * (4096 : Int64)))))] [.cells (aLin v1).cells] (by kernel_rfl) ?_
          refine aw_seq ?_
          refine rg [] [(47, (aBool (decide ((v7 + ((max64 v5.xBy (-v5.xBy)) * (4096 : Int64))).toInt > (2147483647 : Int)))))] [.cells (aLin v1).cells] (by kernel_rfl) ?_
          rcases bool_cases (decide ((v7 + ((max64 v5.xBy (-v5.xBy)) * (4096 : Int64))).toInt > (2147483647 : Int))) with h10 | h10
          · replace hF := (cond_t h10).symm.trans hF
            refine aw_cond_h (t := (decide ((v7 + ((max64 v5.xBy (-v5.xBy)) * (4096 : Int64))).toInt > (2147483647 : Int)))) (by kernel_rfl) h10 ?_
            refine aw_seq ?_
            refine rg [] [(2, (aBool false))] [.cells (aLin v1).cells] (by kernel_rfl) ?_
            refine aw_ret (ab_r (at_r (at_r (ab_r (at_r ?_)))))
            have hr := Option.some.inj hF; subst hr; exact ret_ok (by kernel_rfl)
          · replace hF := (cond_f h10).symm.trans hF
            refine aw_cond_g (t := (decide ((v7 + ((max64 v5.xBy (-v5.xBy)) * (4096 : Int64))).toInt > (2147483647 : Int)))) (by kernel_rfl) h10 ?_
            refine aw_skip ?_
            refine ab_n ?_
            refine at_n ?_
            refine re [(5, ⟨_, _, .eq (wrap_nx h6 rfl h5)⟩)] [(4, (aInt ((v3 + 1 : Nat) : Int))), (26, (aInt ((v3 + 1 : Nat) : Int))), (25, (aInt (v3 : Int)))] [.cells (aLin v1).cells] (by kernel_rfl) ?_
            refine at_n ?_
            exact ⟨(v3 + 1, v6, (v7 + ((max64 v5.xBy (-v5.xBy)) * (4096 : Int64)))), by kernel_rfl, ⟨drop_nx h6, hF⟩, Nat.lt_succ_self _⟩
def g_brocaderef21_origin_L2 (N : Nat) (cL1 : Option Bool) : List LinD → Nat → Option Bool
 | [], _ =>
  cL1
 | v9 :: v10, v7 =>
  Option.bind (bif (v9.xK.toInt != (0 : Int)) then some true else some (decide ((v9.xL.length : Int) > (0 : Int)))) fun v11 =>
  bif v11 then
   some false
  else
   (g_brocaderef21_origin_L2 N cL1 v10 (v7 + 1))
def g_brocaderef21_origin_L1 (N : Nat) : List IndexD → Nat → Option Bool
 | [], _ =>
  some true
 | v4 :: v5, v2 =>
  Option.bind (bif (bL v4.xFrom == bL (bs [])) then (bif (v4.xLin.xK.toInt != (0 : Int)) then some true else some (decide ((v4.xLin.xL.length : Int) > (0 : Int)))) else some false) fun v6 =>
  bif v6 then
   some false
  else
   g_brocaderef21_origin_L2 N (g_brocaderef21_origin_L1 N v5 (v2 + 1)) v4.xAt 0
def g_brocaderef21_origin (N : Nat) (v1 : List IndexD) : Option Bool :=
 g_brocaderef21_origin_L1 N v1 0
theorem g_brocaderef21_origin_ok (N : Nat) (v1 : List IndexD) (r : Bool) (hF : g_brocaderef21_origin N v1 = some r) : AFn Tryz.prog 71 [(.d (.sl (dIndexs v1)))] (· = (aBool r)) := by
 rw [g_brocaderef21_origin] at hF
 refine afn_of Tryz.func71 rfl (by kernel_rfl) ?_
 refine aw_cut [0] 0 (Nat.le_refl _) (s' := ⟨69, [(0, (.d (.sl (dIndexs v1))))], []⟩) (by kernel_rfl) ?_
 refine aw_seq ?_
 refine rg [] [] [] (by kernel_rfl) ?_
 refine aw_seq ?_
 refine aw_seq ?_
 refine rg [] [(3, (aInt (0 : Int)))] [] (by kernel_rfl) ?_
 refine aw_block ?_
 refine aw_okT 0 (dIndexs v1) (by kernel_rfl) fun h1 => ?_
 have h2 : v1.length ≤ maxLen := by rw [← dIndexs_len]; exact ok_len h1
 refine aw_loopC [0, 3] 0 (fun ((v2, v3) : Nat × (List IndexD)) => ⟨69, [(0, (.d (.sl (dIndexs v1)))), (3, (aInt (v2 : Int)))], []⟩) (fun ((v2, v3) : Nat × (List IndexD)) => v1.drop v2 = v3 ∧ g_brocaderef21_origin_L1 N v3 v2 = some r) (fun ((v2, v3) : Nat × (List IndexD)) => v3.length) (0, v1) (Nat.le_of_ble_eq_true rfl) (by kernel_rfl) ⟨rfl, hF⟩ ?_
 rintro ⟨v2, v3⟩ ⟨h3, hF⟩
 cases v3 with
 | nil =>
  rw [g_brocaderef21_origin_L1] at hF
  refine aw_seq ?_
  refine aw_seq ?_
  refine rg [(7, ⟨_, _, .len (xs := dIndexs v1) dIndexs_len⟩)] [(8, (aBool (decide ((v2 : Int) < (v1.length : Int)))))] [] (by kernel_rfl) ?_
  refine aw_cond_g (t := (decide ((v2 : Int) < (v1.length : Int)))) (by kernel_rfl) (lt_f h3) ?_
  refine aw_exit (at_e (at_e (ab_y rfl ?_)))
  refine at_n ?_
  refine aw_seq ?_
  refine rg [] [(2, (aBool true))] [] (by kernel_rfl) ?_
  refine aw_ret ?_
  have hr := Option.some.inj hF; subst hr; exact ret_ok (by kernel_rfl)
 | cons v4 v5 =>
  rw [g_brocaderef21_origin_L1] at hF
  refine aw_seq ?_
  refine aw_seq ?_
  refine rg [(7, ⟨_, _, .len (xs := dIndexs v1) dIndexs_len⟩)] [(8, (aBool (decide ((v2 : Int) < (v1.length : Int)))))] [] (by kernel_rfl) ?_
  refine aw_cond_h (t := (decide ((v2 : Int) < (v1.length : Int)))) (by kernel_rfl) (lt_t h3) ?_
  refine aw_skip ?_
  refine at_n ?_
  refine aw_seq ?_
  refine aw_block ?_
  refine aw_seq ?_
  refine aw_seq ?_
  obtain ⟨v6, h6, hF⟩ := bind_some hF
  refine rgE [(35, (aBool v6))] [] ?_ ?_
  · rcases bool_cases (bL v4.xFrom == bL (bs [])) with h4 | h4
    · replace h6 := (cond_t h4).symm.trans h6
      rcases bool_cases (v4.xLin.xK.toInt != (0 : Int)) with h5 | h5
      · replace h6 := (cond_t h5).symm.trans h6
        have he := Option.some.inj h6; subst he; exact ⟨[(7, ⟨_, _, .el (xs := dIndexs v1) (i := (v2 : Int)) (Int.natCast_nonneg _) (dIndexs_get (drop_get h3))⟩), (21, bT h4), (24, bT h4), (27, bT h4), (28, ⟨_, _, .el (xs := dIndexs v1) (i := (v2 : Int)) (Int.natCast_nonneg _) (dIndexs_get (drop_get h3))⟩), (30, bT h4), (33, bT h4), (36, bT h4), (39, bT h4), (42, bT h4), (45, bT h5), (48, bT h5), (51, bT h5), (54, bT h5), (57, bT h5), (60, bT h5), (63, bT h5), (66, bT h5), (69, bT h4), (70, bT h5), (73, bT h4)], by kernel_rfl⟩
      · replace h6 := (cond_f h5).symm.trans h6
        have he := Option.some.inj h6; subst he; exact ⟨[(7, ⟨_, _, .el (xs := dIndexs v1) (i := (v2 : Int)) (Int.natCast_nonneg _) (dIndexs_get (drop_get h3))⟩), (21, bT h4), (24, bT h4), (27, bT h4), (28, ⟨_, _, .el (xs := dIndexs v1) (i := (v2 : Int)) (Int.natCast_nonneg _) (dIndexs_get (drop_get h3))⟩), (30, bT h4), (33, bT h4), (36, bT h4), (39, bT h4), (42, bT h4), (45, bF h5), (48, bF h5), (51, bF h5), (52, ⟨_, _, .el (xs := dIndexs v1) (i := (v2 : Int)) (Int.natCast_nonneg _) (dIndexs_get (drop_get h3))⟩), (54, bF h5), (57, bF h5), (60, bF h5), (63, bF h5), (64, ⟨_, _, .len (xs := dMonos v4.xLin.xL) dMonos_len⟩), (66, bF h5), (69, bT h4), (70, bF h5), (73, bT h4)], by kernel_rfl⟩
    · replace h6 := (cond_f h4).symm.trans h6
      have he := Option.some.inj h6; subst he; exact ⟨[(7, ⟨_, _, .el (xs := dIndexs v1) (i := (v2 : Int)) (Int.natCast_nonneg _) (dIndexs_get (drop_get h3))⟩), (21, bF h4), (24, bF h4), (27, bF h4), (30, bF h4), (33, bF h4), (36, bF h4), (39, bF h4), (42, bF h4), (45, uN), (48, uN), (51, uN), (54, uN), (57, uN), (60, uN), (63, uN), (66, uN), (69, bF h4), (73, bF h4)], by kernel_rfl⟩
  · rcases bool_cases v6 with h7 | h7
    · replace hF := (cond_t h7).symm.trans hF
      refine aw_cond_h (t := v6) (by kernel_rfl) h7 ?_
      refine aw_seq ?_
      refine rg [] [(2, (aBool false))] [] (by kernel_rfl) ?_
      refine aw_ret (at_r (ab_r (at_r (at_r (ab_r (at_r ?_))))))
      have hr := Option.some.inj hF; subst hr; exact ret_ok (by kernel_rfl)
    · replace hF := (cond_f h7).symm.trans hF
      refine aw_cond_g (t := v6) (by kernel_rfl) h7 ?_
      refine aw_skip ?_
      refine at_n ?_
      refine aw_seq ?_
      refine rg [] [(4, (aInt (0 : Int)))] [] (by kernel_rfl) ?_
      refine aw_block ?_
      refine aw_okT 0 (dIndexs v1) (by kernel_rfl) fun h8 => ?_
      have h9 : v4.xAt.length ≤ maxLen := by rw [← dLins_len]; exact ok_len (ok_el (j := 3) (d := .sl (dLins v4.xAt)) h8 (dIndexs_get (drop_get h3)) rfl)
      refine aw_loopC [0, 3, 4] 0 (fun ((v7, v8) : Nat × (List LinD)) => ⟨69, [(0, (.d (.sl (dIndexs v1)))), (3, (aInt (v2 : Int))), (4, (aInt (v7 : Int)))], []⟩) (fun ((v7, v8) : Nat × (List LinD)) => v4.xAt.drop v7 = v8 ∧ g_brocaderef21_origin_L2 N (g_brocaderef21_origin_L1 N v5 (v2 + 1)) v8 v7 = some r) (fun ((v7, v8) : Nat × (List LinD)) => v8.length) (0, v4.xAt) (Nat.le_of_ble_eq_true rfl) (by kernel_rfl) ⟨rfl, hF⟩ ?_
      rintro ⟨v7, v8⟩ ⟨h10, hF⟩
      cases v8 with
      | nil =>
       rw [g_brocaderef21_origin_L2] at hF
       refine aw_seq ?_
       refine aw_seq ?_
       refine rg [(10, ⟨_, _, .el (xs := dIndexs v1) (i := (v2 : Int)) (Int.natCast_nonneg _) (dIndexs_get (drop_get h3))⟩), (19, ⟨_, _, .len (xs := dLins v4.xAt) dLins_len⟩)] [(43, (aBool (decide ((v7 : Int) < (v4.xAt.length : Int)))))] [] (by kernel_rfl) ?_
       refine aw_cond_g (t := (decide ((v7 : Int) < (v4.xAt.length : Int)))) (by kernel_rfl) (lt_f h10) ?_
       refine aw_exit (at_e (at_e (ab_y rfl ?_)))
       refine ab_n ?_
       refine at_n ?_
       refine re [(5, ⟨_, _, .eq (wrap_nx h3 rfl h2)⟩)] [(3, (aInt ((v2 + 1 : Nat) : Int))), (10, (aInt ((v2 + 1 : Nat) : Int))), (9, (aInt (v2 : Int)))] [] (by kernel_rfl) ?_
       refine at_n ?_
       exact ⟨(v2 + 1, v5), by kernel_rfl, ⟨drop_nx h3, hF⟩, Nat.lt_succ_self _⟩
      | cons v9 v10 =>
       rw [g_brocaderef21_origin_L2] at hF
       refine aw_seq ?_
       refine aw_seq ?_
       refine rg [(10, ⟨_, _, .el (xs := dIndexs v1) (i := (v2 : Int)) (Int.natCast_nonneg _) (dIndexs_get (drop_get h3))⟩), (19, ⟨_, _, .len (xs := dLins v4.xAt) dLins_len⟩)] [(43, (aBool (decide ((v7 : Int) < (v4.xAt.length : Int)))))] [] (by kernel_rfl) ?_
       refine aw_cond_h (t := (decide ((v7 : Int) < (v4.xAt.length : Int)))) (by kernel_rfl) (lt_t h10) ?_
       refine aw_skip ?_
       refine at_n ?_
       refine aw_seq ?_
       refine aw_block ?_
       refine aw_seq ?_
       obtain ⟨v11, h12, hF⟩ := bind_some hF
       refine rgE [(68, (aBool v11))] [] ?_ ?_
       · rcases bool_cases (v9.xK.toInt != (0 : Int)) with h11 | h11
         · replace h12 := (cond_t h11).symm.trans h12
           have he := Option.some.inj h12; subst he; exact ⟨[(7, ⟨_, _, .el (xs := dIndexs v1) (i := (v2 : Int)) (Int.natCast_nonneg _) (dIndexs_get (drop_get h3))⟩), (19, ⟨_, _, .el (xs := dLins v4.xAt) (i := (v7 : Int)) (Int.natCast_nonneg _) (dLins_get (drop_get h10))⟩), (33, bT h11), (36, bT h11), (39, bT h11), (42, bT h11), (45, bT h11), (48, bT h11), (51, bT h11), (54, bT h11), (57, bT h11), (60, bT h11), (63, bT h11), (67, bT h11)], by kernel_rfl⟩
         · replace h12 := (cond_f h11).symm.trans h12
           have he := Option.some.inj h12; subst he; exact ⟨[(7, ⟨_, _, .el (xs := dIndexs v1) (i := (v2 : Int)) (Int.natCast_nonneg _) (dIndexs_get (drop_get h3))⟩), (19, ⟨_, _, .el (xs := dLins v4.xAt) (i := (v7 : Int)) (Int.natCast_nonneg _) (dLins_get (drop_get h10))⟩), (33, bF h11), (36, bF h11), (39, bF h11), (40, ⟨_, _, .el (xs := dIndexs v1) (i := (v2 : Int)) (Int.natCast_nonneg _) (dIndexs_get (drop_get h3))⟩), (42, bF h11), (45, bF h11), (48, bF h11), (51, bF h11), (52, ⟨_, _, .el (xs := dLins v4.xAt) (i := (v7 : Int)) (Int.natCast_nonneg _) (dLins_get (drop_get h10))⟩), (54, bF h11), (57, bF h11), (60, bF h11), (61, ⟨_, _, .len (xs := dMonos v9.xL) dMonos_len⟩), (63, bF h11), (67, bF h11)], by kernel_rfl⟩
       · rcases bool_cases v11 with h13 | h13
         · replace hF := (cond_t h13).symm.trans hF
           refine aw_cond_h (t := v11) (by kernel_rfl) h13 ?_
           refine aw_seq ?_
           refine rg [] [(2, (aBool false))] [] (by kernel_rfl) ?_
           refine aw_ret (ab_r (at_r (at_r (ab_r (ab_r (at_r (at_r (ab_r (at_r ?_)))))))))
           have hr := Option.some.inj hF; subst hr; exact ret_ok (by kernel_rfl)
         · replace hF := (cond_f h13).symm.trans hF
           refine aw_cond_g (t := v11) (by kernel_rfl) h13 ?_
           refine aw_skip ?_
           refine ab_n ?_
           refine at_n ?_
           refine re [(5, ⟨_, _, .eq (wrap_nx h10 rfl h9)⟩)] [(4, (aInt ((v7 + 1 : Nat) : Int))), (45, (aInt ((v7 + 1 : Nat) : Int))), (44, (aInt (v7 : Int)))] [] (by kernel_rfl) ?_
           refine at_n ?_
           exact ⟨(v7 + 1, v10), by kernel_rfl, ⟨drop_nx h10, hF⟩, Nat.lt_succ_self _⟩
mutual
def g_brocaderef21_eitherR (N : Nat) : Nat → ExprD → ExprD → Option brocaderef21_KnownD
 | 0, _, _ => none
 | d + 1, v1, v2 =>
  Option.bind ((g_brocaderef21_derivedR N d) v1) fun v3 =>
  bif v3.xIs then
   some v3
  else
   Option.bind ((g_brocaderef21_derivedR N d) v2) fun v4 =>
   some v4
def g_brocaderef21_derivedR (N : Nat) : Nat → ExprD → Option brocaderef21_KnownD
 | 0, _ => none
 | d + 1, v1 =>
  Option.bind (bif (v1.xOp == (1 : Int)) then some true else some (v1.xOp == (12 : Int))) fun v2 =>
  bif v2 then
   some (⟨v1.xType, true⟩ : brocaderef21_KnownD)
  else
   bif (v1.xOp == (2 : Int)) then
    some (⟨(⟨(3 : Int), (0 : Int), (0 : Int), (0 : Int), (0 : Int)⟩ : TypeD), true⟩ : brocaderef21_KnownD)
   else
    bif (v1.xOp == (8 : Int)) then
     Option.bind (v1.xArgs[0]?) fun v3 =>
     Option.bind ((g_brocaderef21_derivedR N d) v3) fun v4 =>
     some v4
    else
     Option.bind (bif (decide (v1.xOp ≥ (4 : Int))) then some (decide (v1.xOp ≤ (10 : Int))) else some false) fun v5 =>
     bif v5 then
      Option.bind (v1.xArgs[0]?) fun v6 =>
      Option.bind (v1.xArgs[1]?) fun v7 =>
      Option.bind ((g_brocaderef21_eitherR N d) v6 v7) fun v8 =>
      some v8
     else
      bif (v1.xOp == (11 : Int)) then
       Option.bind (v1.xArgs[1]?) fun v9 =>
       Option.bind ((g_brocaderef21_derivedR N d) v9) fun v10 =>
       Option.bind (v1.xArgs[2]?) fun v11 =>
       Option.bind ((g_brocaderef21_derivedR N d) v11) fun v12 =>
       Option.bind (bif v10.xIs then (bif v12.xIs then some ((v10.xT.xKind == v12.xT.xKind) && ((v10.xT.xBits == v12.xT.xBits) && ((v10.xT.xFrac == v12.xT.xFrac) && ((v10.xT.xRound == v12.xT.xRound) && ((v10.xT.xOver == v12.xT.xOver) && true))))) else some false) else some false) fun v13 =>
       bif v13 then
        some v10
       else
        some (⟨(⟨(0 : Int), (0 : Int), (0 : Int), (0 : Int), (0 : Int)⟩ : TypeD), false⟩ : brocaderef21_KnownD)
      else
       some (⟨(⟨(0 : Int), (0 : Int), (0 : Int), (0 : Int), (0 : Int)⟩ : TypeD), false⟩ : brocaderef21_KnownD)
end
def g_brocaderef21_either (N : Nat) (v1 : ExprD) (v2 : ExprD) : Option brocaderef21_KnownD := g_brocaderef21_eitherR N N v1 v2
def g_brocaderef21_derived (N : Nat) (v1 : ExprD) : Option brocaderef21_KnownD := g_brocaderef21_derivedR N N v1
theorem g_brocaderef21_eitherR_all (N : Nat) : ∀ d : Nat, (∀ (v1 : ExprD) (v2 : ExprD) (r : brocaderef21_KnownD), g_brocaderef21_eitherR N d v1 v2 = some r → AFn Tryz.prog 133 [(aExpr v1), (aExpr v2)] (· = (abrocaderef21_Known r))) ∧ (∀ (v1 : ExprD) (r : brocaderef21_KnownD), g_brocaderef21_derivedR N d v1 = some r → AFn Tryz.prog 134 [(aExpr v1)] (· = (abrocaderef21_Known r))) := by
 intro d
 induction d with
 | zero => exact ⟨fun v1 v2 r hF => (by rw [g_brocaderef21_eitherR] at hF; cases hF), fun v1 r hF => (by rw [g_brocaderef21_derivedR] at hF; cases hF)⟩
 | succ d ih =>
  have ih91 := ih.1
  have ih92 := ih.2
  refine ⟨?_, ?_⟩
  · intro v1 v2 r hF
    rw [g_brocaderef21_eitherR] at hF
    refine afn_of Tryz.func133 rfl (by kernel_rfl) ?_
    refine aw_cut [0, 1] 0 (Nat.le_refl _) (s' := ⟨13, [(0, (aExpr v1)), (1, (aExpr v2))], []⟩) (by kernel_rfl) ?_
    refine aw_seq ?_
    refine rg [] [(2, (.ptr 0 0)), (3, (.ptr 1 0)), (4, (.ptr 2 0))] [.cells (aExpr v1).cells, .cells (aExpr v2).cells, .cells [(aInt (0 : Int)), (aInt (0 : Int)), (aInt (0 : Int)), (aInt (0 : Int)), (aInt (0 : Int)), (aBool false)]] (by kernel_rfl) ?_
    refine aw_seq ?_
    refine aw_seq ?_
    obtain ⟨v3, h1, hF⟩ := bind_some hF
    refine rg [(4, cL (ih92 v1 v3 h1))] [(5, (.ptr 3 0))] [.cells (aExpr v1).cells, .cells (aExpr v2).cells, .cells [(aInt (0 : Int)), (aInt (0 : Int)), (aInt (0 : Int)), (aInt (0 : Int)), (aInt (0 : Int)), (aBool false)], .cells (abrocaderef21_Known v3).cells] (by kernel_rfl) ?_
    refine aw_seq ?_
    refine rg [] [(9, (aBool v3.xIs))] [.cells (aExpr v1).cells, .cells (aExpr v2).cells, .cells [(aInt (0 : Int)), (aInt (0 : Int)), (aInt (0 : Int)), (aInt (0 : Int)), (aInt (0 : Int)), (aBool false)], .cells (abrocaderef21_Known v3).cells] (by kernel_rfl) ?_
    rcases bool_cases v3.xIs with h2 | h2
    · replace hF := (cond_t h2).symm.trans hF
      refine aw_cond_h (t := v3.xIs) (by kernel_rfl) h2 ?_
      refine aw_seq ?_
      refine rg [] [] [.cells (aExpr v1).cells, .cells (aExpr v2).cells, .cells (abrocaderef21_Known v3).cells, .cells (abrocaderef21_Known v3).cells] (by kernel_rfl) ?_
      refine aw_ret (at_r ?_)
      have hr := Option.some.inj hF; subst hr; exact ret_ok (by kernel_rfl)
    · replace hF := (cond_f h2).symm.trans hF
      refine aw_cond_g (t := v3.xIs) (by kernel_rfl) h2 ?_
      refine aw_skip ?_
      refine at_n ?_
      refine aw_seq ?_
      obtain ⟨v4, h3, hF⟩ := bind_some hF
      refine rg [(4, cL (ih92 v2 v4 h3))] [] [.cells (aExpr v1).cells, .cells (aExpr v2).cells, .cells (abrocaderef21_Known v4).cells, .cells (abrocaderef21_Known v3).cells] (by kernel_rfl) ?_
      refine aw_ret ?_
      have hr := Option.some.inj hF; subst hr; exact ret_ok (by kernel_rfl)
  · intro v1 r hF
    rw [g_brocaderef21_derivedR] at hF
    refine afn_of Tryz.func134 rfl (by kernel_rfl) ?_
    refine aw_cut [0] 0 (Nat.le_refl _) (s' := ⟨79, [(0, (aExpr v1))], []⟩) (by kernel_rfl) ?_
    refine aw_seq ?_
    refine rg [] [(1, (.ptr 0 0)), (2, (.ptr 1 0))] [.cells (aExpr v1).cells, .cells [(aInt (0 : Int)), (aInt (0 : Int)), (aInt (0 : Int)), (aInt (0 : Int)), (aInt (0 : Int)), (aBool false)]] (by kernel_rfl) ?_
    refine aw_seq ?_
    refine aw_block ?_
    refine aw_seq ?_
    obtain ⟨v2, h2, hF⟩ := bind_some hF
    refine rgE [(5, (aBool v2))] [.cells (aExpr v1).cells, .cells [(aInt (0 : Int)), (aInt (0 : Int)), (aInt (0 : Int)), (aInt (0 : Int)), (aInt (0 : Int)), (aBool false)]] ?_ ?_
    · rcases bool_cases (v1.xOp == (1 : Int)) with h1 | h1
      · replace h2 := (cond_t h1).symm.trans h2
        have he := Option.some.inj h2; subst he; exact ⟨[(12, bT h1), (15, bT h1), (18, bT h1), (22, bT h1)], by kernel_rfl⟩
      · replace h2 := (cond_f h1).symm.trans h2
        have he := Option.some.inj h2; subst he; exact ⟨[(12, bF h1), (15, bF h1), (18, bF h1), (22, bF h1)], by kernel_rfl⟩
    · rcases bool_cases v2 with h3 | h3
      · replace hF := (cond_t h3).symm.trans hF
        refine aw_cond_h (t := v2) (by kernel_rfl) h3 ?_
        refine aw_seq ?_
        refine rg [] [] [.cells (aExpr v1).cells, .cells [(aInt v1.xType.xKind), (aInt v1.xType.xBits), (aInt v1.xType.xFrac), (aInt v1.xType.xRound), (aInt v1.xType.xOver), (aBool true)]] (by kernel_rfl) ?_
        refine aw_ret (ab_r (at_r ?_))
        have hr := Option.some.inj hF; subst hr; exact ret_ok (by kernel_rfl)
      · replace hF := (cond_f h3).symm.trans hF
        refine aw_cond_g (t := v2) (by kernel_rfl) h3 ?_
        refine aw_seq ?_
        refine rg [] [(17, (aBool (v1.xOp == (2 : Int))))] [.cells (aExpr v1).cells, .cells [(aInt (0 : Int)), (aInt (0 : Int)), (aInt (0 : Int)), (aInt (0 : Int)), (aInt (0 : Int)), (aBool false)]] (by kernel_rfl) ?_
        rcases bool_cases (v1.xOp == (2 : Int)) with h4 | h4
        · replace hF := (cond_t h4).symm.trans hF
          refine aw_cond_h (t := (v1.xOp == (2 : Int))) (by kernel_rfl) h4 ?_
          refine aw_seq ?_
          refine rg [] [] [.cells (aExpr v1).cells, .cells [(aInt (3 : Int)), (aInt (0 : Int)), (aInt (0 : Int)), (aInt (0 : Int)), (aInt (0 : Int)), (aBool true)]] (by kernel_rfl) ?_
          refine aw_ret (ab_r (at_r ?_))
          have hr := Option.some.inj hF; subst hr; exact ret_ok (by kernel_rfl)
        · replace hF := (cond_f h4).symm.trans hF
          refine aw_cond_g (t := (v1.xOp == (2 : Int))) (by kernel_rfl) h4 ?_
          refine aw_seq ?_
          refine rg [] [(23, (aBool (v1.xOp == (8 : Int))))] [.cells (aExpr v1).cells, .cells [(aInt (0 : Int)), (aInt (0 : Int)), (aInt (0 : Int)), (aInt (0 : Int)), (aInt (0 : Int)), (aBool false)]] (by kernel_rfl) ?_
          rcases bool_cases (v1.xOp == (8 : Int)) with h5 | h5
          · replace hF := (cond_t h5).symm.trans hF
            refine aw_cond_h (t := (v1.xOp == (8 : Int))) (by kernel_rfl) h5 ?_
            refine aw_seq ?_
            obtain ⟨v3, h6, hF⟩ := bind_some hF
            obtain ⟨v4, h7, hF⟩ := bind_some hF
            refine rg [(7, ⟨_, _, .el (xs := dExprs v1.xArgs) (i := (0 : Int)) (by decide) (dExprs_get h6)⟩), (13, cL (ih92 v3 v4 h7))] [] [.cells (aExpr v1).cells, .cells (abrocaderef21_Known v4).cells] (by kernel_rfl) ?_
            refine aw_ret (ab_r (at_r ?_))
            have hr := Option.some.inj hF; subst hr; exact ret_ok (by kernel_rfl)
          · replace hF := (cond_f h5).symm.trans hF
            refine aw_cond_g (t := (v1.xOp == (8 : Int))) (by kernel_rfl) h5 ?_
            refine aw_seq ?_
            obtain ⟨v5, h9, hF⟩ := bind_some hF
            refine rgE [(32, (aBool v5))] [.cells (aExpr v1).cells, .cells [(aInt (0 : Int)), (aInt (0 : Int)), (aInt (0 : Int)), (aInt (0 : Int)), (aInt (0 : Int)), (aBool false)]] ?_ ?_
            · rcases bool_cases (decide (v1.xOp ≥ (4 : Int))) with h8 | h8
              · replace h9 := (cond_t h8).symm.trans h9
                have he := Option.some.inj h9; subst he; exact ⟨[(12, bT h8), (15, bT h8), (18, bT h8), (22, bT h8)], by kernel_rfl⟩
              · replace h9 := (cond_f h8).symm.trans h9
                have he := Option.some.inj h9; subst he; exact ⟨[(12, bF h8), (15, bF h8), (18, bF h8), (22, bF h8)], by kernel_rfl⟩
            · rcases bool_cases v5 with h10 | h10
              · replace hF := (cond_t h10).symm.trans hF
                refine aw_cond_h (t := v5) (by kernel_rfl) h10 ?_
                refine aw_seq ?_
                obtain ⟨v6, h11, hF⟩ := bind_some hF
                obtain ⟨v7, h12, hF⟩ := bind_some hF
                obtain ⟨v8, h13, hF⟩ := bind_some hF
                refine rd mixed (by kernel_rfl) [(7, ⟨_, _, .el (xs := dExprs v1.xArgs) (i := (0 : Int)) (by decide) (dExprs_get h11)⟩), (19, ⟨_, _, .el (xs := dExprs v1.xArgs) (i := (1 : Int)) (by decide) (dExprs_get h12)⟩), (25, cL (ih91 v6 v7 v8 h13))] [] [.cells (aExpr v1).cells, .cells (abrocaderef21_Known v8).cells] (by kernel_rfl) ?_
                refine aw_ret (ab_r (at_r ?_))
                have hr := Option.some.inj hF; subst hr; exact ret_ok (by kernel_rfl)
              · replace hF := (cond_f h10).symm.trans hF
                refine aw_cond_g (t := v5) (by kernel_rfl) h10 ?_
                refine aw_seq ?_
                refine rg [] [(50, (aBool (v1.xOp == (11 : Int))))] [.cells (aExpr v1).cells, .cells [(aInt (0 : Int)), (aInt (0 : Int)), (aInt (0 : Int)), (aInt (0 : Int)), (aInt (0 : Int)), (aBool false)]] (by kernel_rfl) ?_
                rcases bool_cases (v1.xOp == (11 : Int)) with h14 | h14
                · replace hF := (cond_t h14).symm.trans hF
                  refine aw_cond_h (t := (v1.xOp == (11 : Int))) (by kernel_rfl) h14 ?_
                  refine aw_seq ?_
                  obtain ⟨v9, h15, hF⟩ := bind_some hF
                  obtain ⟨v10, h16, hF⟩ := bind_some hF
                  obtain ⟨v11, h17, hF⟩ := bind_some hF
                  obtain ⟨v12, h18, hF⟩ := bind_some hF
                  refine rt 2 mixed [(7, ⟨_, _, .el (xs := dExprs v1.xArgs) (i := (1 : Int)) (by decide) (dExprs_get h15)⟩), (13, cL (ih92 v9 v10 h16)), (22, ⟨_, _, .el (xs := dExprs v1.xArgs) (i := (2 : Int)) (by decide) (dExprs_get h17)⟩), (28, cL (ih92 v11 v12 h18))] [(3, (.ptr 2 0)), (4, (.ptr 3 0))] [.cells (aExpr v1).cells, .cells [(aInt (0 : Int)), (aInt (0 : Int)), (aInt (0 : Int)), (aInt (0 : Int)), (aInt (0 : Int)), (aBool false)], .cells (abrocaderef21_Known v10).cells, .cells (abrocaderef21_Known v12).cells] (by kernel_rfl) ?_
                  refine aw_seq ?_
                  obtain ⟨v13, h21, hF⟩ := bind_some hF
                  refine rgE [(76, (aBool v13))] [.cells (aExpr v1).cells, .cells [(aInt (0 : Int)), (aInt (0 : Int)), (aInt (0 : Int)), (aInt (0 : Int)), (aInt (0 : Int)), (aBool false)], .cells (abrocaderef21_Known v10).cells, .cells (abrocaderef21_Known v12).cells] ?_ ?_
                  · rcases bool_cases v10.xIs with h19 | h19
                    · replace h21 := (cond_t h19).symm.trans h21
                      rcases bool_cases v12.xIs with h20 | h20
                      · replace h21 := (cond_t h20).symm.trans h21
                        have he := Option.some.inj h21; subst he; exact ⟨[(9, bT h19), (12, bT h19), (16, bT h19), (21, bT h20), (24, bT h20), (27, bT h20), (30, bT h20), (33, bT h20), (37, bT h20)], by kernel_rfl⟩
                      · replace h21 := (cond_f h20).symm.trans h21
                        have he := Option.some.inj h21; subst he; exact ⟨[(9, bT h19), (12, bT h19), (16, bT h19), (21, bF h20), (24, bF h20), (27, bF h20), (30, bF h20), (33, bF h20), (37, bF h20)], by kernel_rfl⟩
                    · replace h21 := (cond_f h19).symm.trans h21
                      have he := Option.some.inj h21; subst he; exact ⟨[(9, bF h19), (12, bF h19), (16, bF h19), (21, bF rfl), (24, bF rfl), (27, bF rfl), (30, bF rfl), (33, bF rfl), (37, bF rfl)], by kernel_rfl⟩
                  · rcases bool_cases v13 with h22 | h22
                    · replace hF := (cond_t h22).symm.trans hF
                      refine aw_cond_h (t := v13) (by kernel_rfl) h22 ?_
                      refine aw_seq ?_
                      refine rg [] [] [.cells (aExpr v1).cells, .cells (abrocaderef21_Known v10).cells, .cells (abrocaderef21_Known v10).cells, .cells (abrocaderef21_Known v12).cells] (by kernel_rfl) ?_
                      refine aw_ret (ab_r (at_r ?_))
                      have hr := Option.some.inj hF; subst hr; exact ret_ok (by kernel_rfl)
                    · replace hF := (cond_f h22).symm.trans hF
                      refine aw_cond_g (t := v13) (by kernel_rfl) h22 ?_
                      refine aw_skip ?_
                      refine ab_n ?_
                      refine at_n ?_
                      refine aw_seq ?_
                      refine rg [] [] [.cells (aExpr v1).cells, .cells [(aInt (0 : Int)), (aInt (0 : Int)), (aInt (0 : Int)), (aInt (0 : Int)), (aInt (0 : Int)), (aBool false)], .cells (abrocaderef21_Known v10).cells, .cells (abrocaderef21_Known v12).cells] (by kernel_rfl) ?_
                      refine aw_ret ?_
                      have hr := Option.some.inj hF; subst hr; exact ret_ok (by kernel_rfl)
                · replace hF := (cond_f h14).symm.trans hF
                  refine aw_cond_g (t := (v1.xOp == (11 : Int))) (by kernel_rfl) h14 ?_
                  refine aw_skip ?_
                  refine ab_n ?_
                  refine at_n ?_
                  refine aw_seq ?_
                  refine rg [] [] [.cells (aExpr v1).cells, .cells [(aInt (0 : Int)), (aInt (0 : Int)), (aInt (0 : Int)), (aInt (0 : Int)), (aInt (0 : Int)), (aBool false)]] (by kernel_rfl) ?_
                  refine aw_ret ?_
                  have hr := Option.some.inj hF; subst hr; exact ret_ok (by kernel_rfl)
theorem g_brocaderef21_either_ok (N : Nat) (v1 : ExprD) (v2 : ExprD) (r : brocaderef21_KnownD) (hF : g_brocaderef21_either N v1 v2 = some r) : AFn Tryz.prog 133 [(aExpr v1), (aExpr v2)] (· = (abrocaderef21_Known r)) := (g_brocaderef21_eitherR_all N N).1 v1 v2 r hF
theorem g_brocaderef21_derived_ok (N : Nat) (v1 : ExprD) (r : brocaderef21_KnownD) (hF : g_brocaderef21_derived N v1 = some r) : AFn Tryz.prog 134 [(aExpr v1)] (· = (abrocaderef21_Known r)) := (g_brocaderef21_eitherR_all N N).2 v1 r hF
def g_brocaderef21_below (N : Nat) (v1 : ExprD) (v2 : Int) (v3 : brocaderef21_KnownD) : Option brocaderef21_KnownD :=
 Option.bind (bif (decide (v1.xOp ≥ (4 : Int))) then (bif (decide (v1.xOp ≤ (10 : Int))) then some true else (bif (v1.xOp == (11 : Int)) then some (decide (v2 > (0 : Int))) else some false)) else (bif (v1.xOp == (11 : Int)) then some (decide (v2 > (0 : Int))) else some false)) fun v4 =>
 bif v4 then
  some v3
 else
  Option.bind (bif (decide (v1.xOp ≥ (13 : Int))) then some (decide (v1.xOp ≤ (15 : Int))) else some false) fun v5 =>
  bif v5 then
   Option.bind (v1.xArgs[0]?) fun v6 =>
   Option.bind (v1.xArgs[1]?) fun v7 =>
   Option.bind (g_brocaderef21_either N v6 v7) fun v8 =>
   some v8
  else
   bif (v1.xOp == (12 : Int)) then
    Option.bind (v1.xArgs[0]?) fun v9 =>
    Option.bind (g_brocaderef21_derived N v9) fun v10 =>
    some v10
   else
    some (⟨(⟨(0 : Int), (0 : Int), (0 : Int), (0 : Int), (0 : Int)⟩ : TypeD), false⟩ : brocaderef21_KnownD)
theorem g_brocaderef21_below_ok (N : Nat) (v1 : ExprD) (v2 : Int) (v3 : brocaderef21_KnownD) (r : brocaderef21_KnownD) (hF : g_brocaderef21_below N v1 v2 v3 = some r) : AFn Tryz.prog 64 [(aExpr v1), (aInt v2), (abrocaderef21_Known v3)] (· = (abrocaderef21_Known r)) := by
 rw [g_brocaderef21_below] at hF
 refine afn_of Tryz.func64 rfl (by kernel_rfl) ?_
 refine aw_cut [0, 1, 2] 0 (Nat.le_refl _) (s' := ⟨54, [(0, (aExpr v1)), (1, (aInt v2)), (2, (abrocaderef21_Known v3))], []⟩) (by kernel_rfl) ?_
 refine aw_seq ?_
 refine rg [] [(3, (.ptr 0 0)), (5, (.ptr 1 0)), (6, (.ptr 2 0))] [.cells (aExpr v1).cells, .cells (abrocaderef21_Known v3).cells, .cells [(aInt (0 : Int)), (aInt (0 : Int)), (aInt (0 : Int)), (aInt (0 : Int)), (aInt (0 : Int)), (aBool false)]] (by kernel_rfl) ?_
 refine aw_seq ?_
 refine aw_block ?_
 refine aw_seq ?_
 obtain ⟨v4, h5, hF⟩ := bind_some hF
 refine rgE [(7, (aBool v4))] [.cells (aExpr v1).cells, .cells (abrocaderef21_Known v3).cells, .cells [(aInt (0 : Int)), (aInt (0 : Int)), (aInt (0 : Int)), (aInt (0 : Int)), (aInt (0 : Int)), (aBool false)]] ?_ ?_
 · rcases bool_cases (decide (v1.xOp ≥ (4 : Int))) with h1 | h1
   · replace h5 := (cond_t h1).symm.trans h5
     rcases bool_cases (decide (v1.xOp ≤ (10 : Int))) with h2 | h2
     · replace h5 := (cond_t h2).symm.trans h5
       have he := Option.some.inj h5; subst he; exact ⟨[(12, bT h1), (15, bT h1), (18, bT h1), (22, bT h1), (27, bT h2), (30, bT h2), (33, bT h2), (36, bT h2), (39, uN), (42, uN), (45, bT h2), (49, bT h2)], by kernel_rfl⟩
     · replace h5 := (cond_f h2).symm.trans h5
       rcases bool_cases (v1.xOp == (11 : Int)) with h3 | h3
       · replace h5 := (cond_t h3).symm.trans h5
         have he := Option.some.inj h5; subst he; exact ⟨[(12, bT h1), (15, bT h1), (18, bT h1), (22, bT h1), (27, bF h2), (30, bF h2), (33, bF h2), (36, bF h2), (39, bT h3), (42, bT h3), (45, bF h2), (46, bT h3), (49, bF h2)], by kernel_rfl⟩
       · replace h5 := (cond_f h3).symm.trans h5
         have he := Option.some.inj h5; subst he; exact ⟨[(12, bT h1), (15, bT h1), (18, bT h1), (22, bT h1), (27, bF h2), (30, bF h2), (33, bF h2), (36, bF h2), (39, bF h3), (42, bF h3), (45, bF h2), (46, bF h3), (49, bF h2)], by kernel_rfl⟩
   · replace h5 := (cond_f h1).symm.trans h5
     rcases bool_cases (v1.xOp == (11 : Int)) with h4 | h4
     · replace h5 := (cond_t h4).symm.trans h5
       have he := Option.some.inj h5; subst he; exact ⟨[(12, bF h1), (15, bF h1), (18, bF h1), (22, bF h1), (27, bF rfl), (30, bF rfl), (33, bF rfl), (36, bF rfl), (39, bT h4), (42, bT h4), (45, bF rfl), (46, bT h4), (49, bF rfl)], by kernel_rfl⟩
     · replace h5 := (cond_f h4).symm.trans h5
       have he := Option.some.inj h5; subst he; exact ⟨[(12, bF h1), (15, bF h1), (18, bF h1), (22, bF h1), (27, bF rfl), (30, bF rfl), (33, bF rfl), (36, bF rfl), (39, bF h4), (42, bF h4), (45, bF rfl), (46, bF h4), (49, bF rfl)], by kernel_rfl⟩
 · rcases bool_cases v4 with h6 | h6
   · replace hF := (cond_t h6).symm.trans hF
     refine aw_cond_h (t := v4) (by kernel_rfl) h6 ?_
     refine aw_seq ?_
     refine rg [] [] [.cells (aExpr v1).cells, .cells (abrocaderef21_Known v3).cells, .cells (abrocaderef21_Known v3).cells] (by kernel_rfl) ?_
     refine aw_ret (ab_r (at_r ?_))
     have hr := Option.some.inj hF; subst hr; exact ret_ok (by kernel_rfl)
   · replace hF := (cond_f h6).symm.trans hF
     refine aw_cond_g (t := v4) (by kernel_rfl) h6 ?_
     refine aw_seq ?_
     obtain ⟨v5, h8, hF⟩ := bind_some hF
     refine rgE [(26, (aBool v5))] [.cells (aExpr v1).cells, .cells (abrocaderef21_Known v3).cells, .cells [(aInt (0 : Int)), (aInt (0 : Int)), (aInt (0 : Int)), (aInt (0 : Int)), (aInt (0 : Int)), (aBool false)]] ?_ ?_
     · rcases bool_cases (decide (v1.xOp ≥ (13 : Int))) with h7 | h7
       · replace h8 := (cond_t h7).symm.trans h8
         have he := Option.some.inj h8; subst he; exact ⟨[(12, bT h7), (15, bT h7), (18, bT h7), (22, bT h7)], by kernel_rfl⟩
       · replace h8 := (cond_f h7).symm.trans h8
         have he := Option.some.inj h8; subst he; exact ⟨[(12, bF h7), (15, bF h7), (18, bF h7), (22, bF h7)], by kernel_rfl⟩
     · rcases bool_cases v5 with h9 | h9
       · replace hF := (cond_t h9).symm.trans hF
         refine aw_cond_h (t := v5) (by kernel_rfl) h9 ?_
         refine aw_seq ?_
         obtain ⟨v6, h10, hF⟩ := bind_some hF
         obtain ⟨v7, h11, hF⟩ := bind_some hF
         obtain ⟨v8, h12, hF⟩ := bind_some hF
         refine rd mixed (by kernel_rfl) [(7, ⟨_, _, .el (xs := dExprs v1.xArgs) (i := (0 : Int)) (by decide) (dExprs_get h10)⟩), (19, ⟨_, _, .el (xs := dExprs v1.xArgs) (i := (1 : Int)) (by decide) (dExprs_get h11)⟩), (25, cL (g_brocaderef21_either_ok N v6 v7 v8 h12))] [] [.cells (aExpr v1).cells, .cells (abrocaderef21_Known v3).cells, .cells (abrocaderef21_Known v8).cells] (by kernel_rfl) ?_
         refine aw_ret (ab_r (at_r ?_))
         have hr := Option.some.inj hF; subst hr; exact ret_ok (by kernel_rfl)
       · replace hF := (cond_f h9).symm.trans hF
         refine aw_cond_g (t := v5) (by kernel_rfl) h9 ?_
         refine aw_seq ?_
         refine rg [] [(44, (aBool (v1.xOp == (12 : Int))))] [.cells (aExpr v1).cells, .cells (abrocaderef21_Known v3).cells, .cells [(aInt (0 : Int)), (aInt (0 : Int)), (aInt (0 : Int)), (aInt (0 : Int)), (aInt (0 : Int)), (aBool false)]] (by kernel_rfl) ?_
         rcases bool_cases (v1.xOp == (12 : Int)) with h13 | h13
         · replace hF := (cond_t h13).symm.trans hF
           refine aw_cond_h (t := (v1.xOp == (12 : Int))) (by kernel_rfl) h13 ?_
           refine aw_seq ?_
           obtain ⟨v9, h14, hF⟩ := bind_some hF
           obtain ⟨v10, h15, hF⟩ := bind_some hF
           refine rg [(7, ⟨_, _, .el (xs := dExprs v1.xArgs) (i := (0 : Int)) (by decide) (dExprs_get h14)⟩), (13, cL (g_brocaderef21_derived_ok N v9 v10 h15))] [] [.cells (aExpr v1).cells, .cells (abrocaderef21_Known v3).cells, .cells (abrocaderef21_Known v10).cells] (by kernel_rfl) ?_
           refine aw_ret (ab_r (at_r ?_))
           have hr := Option.some.inj hF; subst hr; exact ret_ok (by kernel_rfl)
         · replace hF := (cond_f h13).symm.trans hF
           refine aw_cond_g (t := (v1.xOp == (12 : Int))) (by kernel_rfl) h13 ?_
           refine aw_skip ?_
           refine ab_n ?_
           refine at_n ?_
           refine aw_seq ?_
           refine rg [] [] [.cells (aExpr v1).cells, .cells (abrocaderef21_Known v3).cells, .cells [(aInt (0 : Int)), (aInt (0 : Int)), (aInt (0 : Int)), (aInt (0 : Int)), (aInt (0 : Int)), (aBool false)]] (by kernel_rfl) ?_
           refine aw_ret ?_
           have hr := Option.some.inj hF; subst hr; exact ret_ok (by kernel_rfl)
def g_brocaderef21_total_L2 (N : Nat) (v1 : ExprD) (v2 : brocaderef21_KnownD) (rec87 : ExprD → brocaderef21_KnownD → Option Bool) : List ExprD → Nat → Option Bool
 | [], _ =>
  some true
 | v9 :: v10, v7 =>
  Option.bind (g_brocaderef21_below N v1 (v7 : Int) v2) fun v11 =>
  Option.bind (rec87 v9 v11) fun v12 =>
  bif v12 then
   (g_brocaderef21_total_L2 N v1 v2 rec87 v10 (v7 + 1))
  else
   some false
def g_brocaderef21_total_L3 (N : Nat) (v1 : ExprD) (v2 : brocaderef21_KnownD) (rec87 : ExprD → brocaderef21_KnownD → Option Bool) : List ExprD → Nat → Option Bool
 | [], _ =>
  some true
 | v17 :: v18, v15 =>
  Option.bind (g_brocaderef21_below N v1 (v15 : Int) v2) fun v19 =>
  Option.bind (rec87 v17 v19) fun v20 =>
  bif v20 then
   (g_brocaderef21_total_L3 N v1 v2 rec87 v18 (v15 + 1))
  else
   some false
def g_brocaderef21_total_L4 (N : Nat) (v1 : ExprD) (v2 : brocaderef21_KnownD) (rec87 : ExprD → brocaderef21_KnownD → Option Bool) : List ExprD → Nat → Option Bool
 | [], _ =>
  some true
 | v23 :: v24, v21 =>
  Option.bind (g_brocaderef21_below N v1 (v21 : Int) v2) fun v25 =>
  Option.bind (rec87 v23 v25) fun v26 =>
  bif v26 then
   (g_brocaderef21_total_L4 N v1 v2 rec87 v24 (v21 + 1))
  else
   some false
def g_brocaderef21_total_J1 (N : Nat) (v3 : Bool) (v1 : ExprD) (v2 : brocaderef21_KnownD) (rec87 : ExprD → brocaderef21_KnownD → Option Bool) (v6 : Bool) : Option Bool :=
 bif v6 then
  bif v3 then
   g_brocaderef21_total_L2 N v1 v2 rec87 v1.xArgs 0
  else
   some false
 else
  bif (v1.xOp == (7 : Int)) then
   Option.bind (bif v3 then Option.bind (v1.xArgs[1]?) fun v13 =>
   (bif (v13.xOp != (1 : Int)) then some true else some (v13.xVal.xN.toInt == (0 : Int))) else some true) fun v14 =>
   bif v14 then
    some false
   else
    g_brocaderef21_total_L3 N v1 v2 rec87 v1.xArgs 0
  else
   g_brocaderef21_total_L4 N v1 v2 rec87 v1.xArgs 0
def g_brocaderef21_totalR (N : Nat) : Nat → ExprD → brocaderef21_KnownD → Option Bool
 | 0, _, _ => none
 | d + 1, v1, v2 =>
  Option.bind (bif v2.xIs then some (v2.xT.xKind == (2 : Int)) else some false) fun v3 =>
  bif (v1.xOp == (2 : Int)) then
   Option.bind (g_brocaderef21_bounded N v1.xLin) fun v4 =>
   some v4
  else
   bif (v1.xOp == (3 : Int)) then
    Option.bind (g_brocaderef21_origin N v1.xIdx) fun v5 =>
    some v5
   else
    bif (v1.xOp == (4 : Int)) then
     g_brocaderef21_total_J1 N v3 v1 v2 (g_brocaderef21_totalR N d) (v1.xOp == (4 : Int))
    else
     bif (v1.xOp == (5 : Int)) then
      g_brocaderef21_total_J1 N v3 v1 v2 (g_brocaderef21_totalR N d) (v1.xOp == (5 : Int))
     else
      g_brocaderef21_total_J1 N v3 v1 v2 (g_brocaderef21_totalR N d) (v1.xOp == (6 : Int))
def g_brocaderef21_total (N : Nat) (v1 : ExprD) (v2 : brocaderef21_KnownD) : Option Bool := g_brocaderef21_totalR N N v1 v2
theorem g_brocaderef21_totalR_all (N : Nat) : ∀ d : Nat, (∀ (v1 : ExprD) (v2 : brocaderef21_KnownD) (r : Bool), g_brocaderef21_totalR N d v1 v2 = some r → AFn Tryz.prog 42 [(aExpr v1), (abrocaderef21_Known v2)] (· = (aBool r))) := by
 intro d
 induction d with
 | zero => intro v1 v2 r hF; rw [g_brocaderef21_totalR] at hF; cases hF
 | succ d ih =>
  have ih87 := ih
  intro v1 v2 r hF
  rw [g_brocaderef21_totalR] at hF
  refine afn_of Tryz.func42 rfl (by kernel_rfl) ?_
  refine aw_cut [0, 1] 0 (Nat.le_refl _) (s' := ⟨72, [(0, (aExpr v1)), (1, (abrocaderef21_Known v2))], []⟩) (by kernel_rfl) ?_
  refine aw_seq ?_
  refine rg [] [(2, (.ptr 0 0)), (3, (.ptr 1 0))] [.cells (aExpr v1).cells, .cells (abrocaderef21_Known v2).cells] (by kernel_rfl) ?_
  refine aw_seq ?_
  obtain ⟨v3, h2, hF⟩ := bind_some hF
  refine rgE [(5, (aBool v3))] [.cells (aExpr v1).cells, .cells (abrocaderef21_Known v2).cells] ?_ ?_
  · rcases bool_cases v2.xIs with h1 | h1
    · replace h2 := (cond_t h1).symm.trans h2
      have he := Option.some.inj h2; subst he; exact ⟨[(9, bT h1), (12, bT h1), (15, bT h1), (18, bT h1), (22, bT h1)], by kernel_rfl⟩
    · replace h2 := (cond_f h1).symm.trans h2
      have he := Option.some.inj h2; subst he; exact ⟨[(9, bF h1), (12, bF h1), (15, bF h1), (18, bF h1), (22, bF h1)], by kernel_rfl⟩
  · refine aw_seq ?_
    refine aw_seq ?_
    refine rg [] [(16, (aInt v1.xOp))] [.cells (aExpr v1).cells, .cells (abrocaderef21_Known v2).cells] (by kernel_rfl) ?_
    refine aw_block ?_
    refine aw_seq ?_
    refine rg [] [(17, (aBool (v1.xOp == (2 : Int))))] [.cells (aExpr v1).cells, .cells (abrocaderef21_Known v2).cells] (by kernel_rfl) ?_
    rcases bool_cases (v1.xOp == (2 : Int)) with h3 | h3
    · replace hF := (cond_t h3).symm.trans hF
      refine aw_cond_h (t := (v1.xOp == (2 : Int))) (by kernel_rfl) h3 ?_
      refine aw_seq ?_
      obtain ⟨v4, h4, hF⟩ := bind_some hF
      refine rg [(7, cL (g_brocaderef21_bounded_ok N v1.xLin v4 h4))] [(4, (aBool v4))] [.cells (aExpr v1).cells, .cells (abrocaderef21_Known v2).cells] (by kernel_rfl) ?_
      refine aw_ret (ab_r (at_r ?_))
      have hr := Option.some.inj hF; subst hr; exact ret_ok (by kernel_rfl)
    · replace hF := (cond_f h3).symm.trans hF
      refine aw_cond_g (t := (v1.xOp == (2 : Int))) (by kernel_rfl) h3 ?_
      refine aw_seq ?_
      refine rg [] [(22, (aBool (v1.xOp == (3 : Int))))] [.cells (aExpr v1).cells, .cells (abrocaderef21_Known v2).cells] (by kernel_rfl) ?_
      rcases bool_cases (v1.xOp == (3 : Int)) with h5 | h5
      · replace hF := (cond_t h5).symm.trans hF
        refine aw_cond_h (t := (v1.xOp == (3 : Int))) (by kernel_rfl) h5 ?_
        refine aw_seq ?_
        obtain ⟨v5, h6, hF⟩ := bind_some hF
        refine rg [(7, cL (g_brocaderef21_origin_ok N v1.xIdx v5 h6))] [(4, (aBool v5))] [.cells (aExpr v1).cells, .cells (abrocaderef21_Known v2).cells] (by kernel_rfl) ?_
        refine aw_ret (ab_r (at_r ?_))
        have hr := Option.some.inj hF; subst hr; exact ret_ok (by kernel_rfl)
      · replace hF := (cond_f h5).symm.trans hF
        refine aw_cond_g (t := (v1.xOp == (3 : Int))) (by kernel_rfl) h5 ?_
        refine aw_seq ?_
        refine aw_seq ?_
        refine rg [] [(27, (aBool (v1.xOp == (4 : Int))))] [.cells (aExpr v1).cells, .cells (abrocaderef21_Known v2).cells] (by kernel_rfl) ?_
        refine aw_joinC [2, 3, 5, 16, 27] 2 (fun (v6 : Bool) => ⟨72, [(2, (.ptr 0 0)), (3, (.ptr 1 0)), (5, (aBool v3)), (16, (aInt v1.xOp)), (27, (aBool v6))], [.cells (aExpr v1).cells, .cells (abrocaderef21_Known v2).cells]⟩) (fun (v6 : Bool) => g_brocaderef21_total_J1 N v3 v1 v2 (g_brocaderef21_totalR N d) v6 = some r) (Nat.le_of_ble_eq_true rfl) ?_ ?_
        · rcases bool_cases (v1.xOp == (4 : Int)) with h33 | h33
          · replace hF := (cond_t h33).symm.trans hF
            refine aw_cond_h (t := (v1.xOp == (4 : Int))) (by kernel_rfl) h33 ?_
            refine aw_skip ?_
            refine at_n ?_
            exact ⟨(v1.xOp == (4 : Int)), by kernel_rfl, hF⟩
          · replace hF := (cond_f h33).symm.trans hF
            refine aw_cond_g (t := (v1.xOp == (4 : Int))) (by kernel_rfl) h33 ?_
            refine aw_seq ?_
            refine rg [] [(27, (aBool (v1.xOp == (5 : Int))))] [.cells (aExpr v1).cells, .cells (abrocaderef21_Known v2).cells] (by kernel_rfl) ?_
            rcases bool_cases (v1.xOp == (5 : Int)) with h34 | h34
            · replace hF := (cond_t h34).symm.trans hF
              refine aw_cond_h (t := (v1.xOp == (5 : Int))) (by kernel_rfl) h34 ?_
              refine aw_skip ?_
              refine at_n ?_
              exact ⟨(v1.xOp == (5 : Int)), by kernel_rfl, hF⟩
            · replace hF := (cond_f h34).symm.trans hF
              refine aw_cond_g (t := (v1.xOp == (5 : Int))) (by kernel_rfl) h34 ?_
              refine re [] [(27, (aBool (v1.xOp == (6 : Int)))), (30, (aBool (v1.xOp == (6 : Int))))] [.cells (aExpr v1).cells, .cells (abrocaderef21_Known v2).cells] (by kernel_rfl) ?_
              refine at_n ?_
              exact ⟨(v1.xOp == (6 : Int)), by kernel_rfl, hF⟩
        · rintro v6 hF
          try dsimp only at hF
          rw [g_brocaderef21_total_J1] at hF
          rcases bool_cases v6 with h7 | h7
          · replace hF := (cond_t h7).symm.trans hF
            refine aw_cond_h (t := v6) (by kernel_rfl) h7 ?_
            refine aw_seq ?_
            refine rg [] [(32, (aBool (!v3)))] [.cells (aExpr v1).cells, .cells (abrocaderef21_Known v2).cells] (by kernel_rfl) ?_
            rcases bool_cases v3 with h8 | h8
            · replace hF := (cond_t h8).symm.trans hF
              refine aw_cond_g (t := (!v3)) (by kernel_rfl) (not_t h8) ?_
              refine aw_skip ?_
              refine ab_n ?_
              refine at_n ?_
              refine aw_seq ?_
              refine aw_seq ?_
              refine rg [] [(6, (aInt (0 : Int)))] [.cells (aExpr v1).cells, .cells (abrocaderef21_Known v2).cells] (by kernel_rfl) ?_
              refine aw_block ?_
              refine aw_okB 0 12 (dExprs v1.xArgs) (by kernel_rfl) fun h9 => ?_
              have h10 : v1.xArgs.length ≤ maxLen := by rw [← dExprs_len]; exact ok_len h9
              refine aw_loopC [2, 3, 6] 2 (fun ((v7, v8) : Nat × (List ExprD)) => ⟨72, [(2, (.ptr 0 0)), (3, (.ptr 1 0)), (6, (aInt (v7 : Int)))], [.cells (aExpr v1).cells, .cells (abrocaderef21_Known v2).cells]⟩) (fun ((v7, v8) : Nat × (List ExprD)) => v1.xArgs.drop v7 = v8 ∧ g_brocaderef21_total_L2 N v1 v2 (g_brocaderef21_totalR N d) v8 v7 = some r) (fun ((v7, v8) : Nat × (List ExprD)) => v8.length) (0, v1.xArgs) (Nat.le_of_ble_eq_true rfl) (by kernel_rfl) ⟨rfl, hF⟩ ?_
              rintro ⟨v7, v8⟩ ⟨h11, hF⟩
              cases v8 with
              | nil =>
               rw [g_brocaderef21_total_L2] at hF
               refine aw_seq ?_
               refine aw_seq ?_
               refine rg [(10, ⟨_, _, .len (xs := dExprs v1.xArgs) dExprs_len⟩)] [(58, (aBool (decide ((v7 : Int) < (v1.xArgs.length : Int)))))] [.cells (aExpr v1).cells, .cells (abrocaderef21_Known v2).cells] (by kernel_rfl) ?_
               refine aw_cond_g (t := (decide ((v7 : Int) < (v1.xArgs.length : Int)))) (by kernel_rfl) (lt_f h11) ?_
               refine aw_exit (at_e (at_e (ab_y rfl ?_)))
               refine at_n ?_
               refine aw_seq ?_
               refine rg [] [(4, (aBool true))] [.cells (aExpr v1).cells, .cells (abrocaderef21_Known v2).cells] (by kernel_rfl) ?_
               refine aw_ret ?_
               have hr := Option.some.inj hF; subst hr; exact ret_ok (by kernel_rfl)
              | cons v9 v10 =>
               rw [g_brocaderef21_total_L2] at hF
               refine aw_seq ?_
               refine aw_seq ?_
               refine rg [(10, ⟨_, _, .len (xs := dExprs v1.xArgs) dExprs_len⟩)] [(58, (aBool (decide ((v7 : Int) < (v1.xArgs.length : Int)))))] [.cells (aExpr v1).cells, .cells (abrocaderef21_Known v2).cells] (by kernel_rfl) ?_
               refine aw_cond_h (t := (decide ((v7 : Int) < (v1.xArgs.length : Int)))) (by kernel_rfl) (lt_t h11) ?_
               refine aw_skip ?_
               refine at_n ?_
               refine aw_seq ?_
               refine aw_block ?_
               refine aw_seq ?_
               obtain ⟨v11, h12, hF⟩ := bind_some hF
               obtain ⟨v12, h13, hF⟩ := bind_some hF
               refine rd mixed (by kernel_rfl) [(10, ⟨_, _, .el (xs := dExprs v1.xArgs) (i := (v7 : Int)) (Int.natCast_nonneg _) (dExprs_get (drop_get h11))⟩), (25, cL (g_brocaderef21_below_ok N v1 (v7 : Int) v2 v11 h12)), (28, cL (ih87 v9 v11 v12 h13))] [(71, (aBool (!v12)))] [.cells (aExpr v1).cells, .cells (abrocaderef21_Known v2).cells] (by kernel_rfl) ?_
               rcases bool_cases v12 with h14 | h14
               · replace hF := (cond_t h14).symm.trans hF
                 refine aw_cond_g (t := (!v12)) (by kernel_rfl) (not_t h14) ?_
                 refine aw_skip ?_
                 refine ab_n ?_
                 refine at_n ?_
                 refine re [(5, ⟨_, _, .eq (wrap_nx h11 rfl h10)⟩)] [(6, (aInt ((v7 + 1 : Nat) : Int))), (60, (aInt ((v7 + 1 : Nat) : Int))), (59, (aInt (v7 : Int)))] [.cells (aExpr v1).cells, .cells (abrocaderef21_Known v2).cells] (by kernel_rfl) ?_
                 refine at_n ?_
                 exact ⟨(v7 + 1, v10), by kernel_rfl, ⟨drop_nx h11, hF⟩, Nat.lt_succ_self _⟩
               · replace hF := (cond_f h14).symm.trans hF
                 refine aw_cond_h (t := (!v12)) (by kernel_rfl) (not_f h14) ?_
                 refine aw_seq ?_
                 refine rg [] [(4, (aBool false))] [.cells (aExpr v1).cells, .cells (abrocaderef21_Known v2).cells] (by kernel_rfl) ?_
                 refine aw_ret (ab_r (at_r (at_r (ab_r (at_r ?_)))))
                 have hr := Option.some.inj hF; subst hr; exact ret_ok (by kernel_rfl)
            · replace hF := (cond_f h8).symm.trans hF
              refine aw_cond_h (t := (!v3)) (by kernel_rfl) (not_f h8) ?_
              refine aw_seq ?_
              refine rg [] [(4, (aBool false))] [.cells (aExpr v1).cells, .cells (abrocaderef21_Known v2).cells] (by kernel_rfl) ?_
              refine aw_ret (ab_r (at_r ?_))
              have hr := Option.some.inj hF; subst hr; exact ret_ok (by kernel_rfl)
          · replace hF := (cond_f h7).symm.trans hF
            refine aw_cond_g (t := v6) (by kernel_rfl) h7 ?_
            refine aw_seq ?_
            refine rg [] [(33, (aBool (v1.xOp == (7 : Int))))] [.cells (aExpr v1).cells, .cells (abrocaderef21_Known v2).cells] (by kernel_rfl) ?_
            rcases bool_cases (v1.xOp == (7 : Int)) with h15 | h15
            · replace hF := (cond_t h15).symm.trans hF
              refine aw_cond_h (t := (v1.xOp == (7 : Int))) (by kernel_rfl) h15 ?_
              refine aw_seq ?_
              obtain ⟨v14, h19, hF⟩ := bind_some hF
              refine rgE [(53, (aBool v14))] [.cells (aExpr v1).cells, .cells (abrocaderef21_Known v2).cells] ?_ ?_
              · rcases bool_cases v3 with h16 | h16
                · replace h19 := (cond_t h16).symm.trans h19
                  obtain ⟨v13, h17, h19⟩ := bind_some h19
                  rcases bool_cases (v13.xOp != (1 : Int)) with h18 | h18
                  · replace h19 := (cond_t h18).symm.trans h19
                    have he := Option.some.inj h19; subst he; exact ⟨[(9, bF (not_t h16)), (12, bF (not_t h16)), (15, bF (not_t h16)), (16, ⟨_, _, .el (xs := dExprs v1.xArgs) (i := (1 : Int)) (by decide) (dExprs_get h17)⟩), (18, bF (not_t h16)), (21, bF (not_t h16)), (24, bF (not_t h16)), (28, bF (not_t h16)), (33, bT h18), (36, bT h18), (39, bT h18), (42, bT h18), (45, bT h18), (48, bT h18), (51, bT h18), (55, bT h18)], by kernel_rfl⟩
                  · replace h19 := (cond_f h18).symm.trans h19
                    have he := Option.some.inj h19; subst he; exact ⟨[(9, bF (not_t h16)), (12, bF (not_t h16)), (15, bF (not_t h16)), (16, ⟨_, _, .el (xs := dExprs v1.xArgs) (i := (1 : Int)) (by decide) (dExprs_get h17)⟩), (18, bF (not_t h16)), (21, bF (not_t h16)), (24, bF (not_t h16)), (28, bF (not_t h16)), (33, bF h18), (36, bF h18), (39, bF h18), (40, ⟨_, _, .el (xs := dExprs v1.xArgs) (i := (1 : Int)) (by decide) (dExprs_get h17)⟩), (42, bF h18), (45, bF h18), (48, bF h18), (51, bF h18), (55, bF h18)], by kernel_rfl⟩
                · replace h19 := (cond_f h16).symm.trans h19
                  have he := Option.some.inj h19; subst he; exact ⟨[(9, bT (not_f h16)), (12, bT (not_f h16)), (15, bT (not_f h16)), (18, bT (not_f h16)), (21, bT (not_f h16)), (24, bT (not_f h16)), (28, bT (not_f h16)), (33, bT rfl), (36, bT rfl), (39, bT rfl), (42, bT rfl), (45, bT rfl), (48, bT rfl), (51, bT rfl), (55, bT rfl)], by kernel_rfl⟩
              · rcases bool_cases v14 with h20 | h20
                · replace hF := (cond_t h20).symm.trans hF
                  refine aw_cond_h (t := v14) (by kernel_rfl) h20 ?_
                  refine aw_seq ?_
                  refine rg [] [(4, (aBool false))] [.cells (aExpr v1).cells, .cells (abrocaderef21_Known v2).cells] (by kernel_rfl) ?_
                  refine aw_ret (ab_r (at_r ?_))
                  have hr := Option.some.inj hF; subst hr; exact ret_ok (by kernel_rfl)
                · replace hF := (cond_f h20).symm.trans hF
                  refine aw_cond_g (t := v14) (by kernel_rfl) h20 ?_
                  refine aw_skip ?_
                  refine ab_n ?_
                  refine at_n ?_
                  refine aw_seq ?_
                  refine aw_seq ?_
                  refine rg [] [(6, (aInt (0 : Int)))] [.cells (aExpr v1).cells, .cells (abrocaderef21_Known v2).cells] (by kernel_rfl) ?_
                  refine aw_block ?_
                  refine aw_okB 0 12 (dExprs v1.xArgs) (by kernel_rfl) fun h21 => ?_
                  have h22 : v1.xArgs.length ≤ maxLen := by rw [← dExprs_len]; exact ok_len h21
                  refine aw_loopC [2, 3, 6] 2 (fun ((v15, v16) : Nat × (List ExprD)) => ⟨72, [(2, (.ptr 0 0)), (3, (.ptr 1 0)), (6, (aInt (v15 : Int)))], [.cells (aExpr v1).cells, .cells (abrocaderef21_Known v2).cells]⟩) (fun ((v15, v16) : Nat × (List ExprD)) => v1.xArgs.drop v15 = v16 ∧ g_brocaderef21_total_L3 N v1 v2 (g_brocaderef21_totalR N d) v16 v15 = some r) (fun ((v15, v16) : Nat × (List ExprD)) => v16.length) (0, v1.xArgs) (Nat.le_of_ble_eq_true rfl) (by kernel_rfl) ⟨rfl, hF⟩ ?_
                  rintro ⟨v15, v16⟩ ⟨h23, hF⟩
                  cases v16 with
                  | nil =>
                   rw [g_brocaderef21_total_L3] at hF
                   refine aw_seq ?_
                   refine aw_seq ?_
                   refine rg [(10, ⟨_, _, .len (xs := dExprs v1.xArgs) dExprs_len⟩)] [(58, (aBool (decide ((v15 : Int) < (v1.xArgs.length : Int)))))] [.cells (aExpr v1).cells, .cells (abrocaderef21_Known v2).cells] (by kernel_rfl) ?_
                   refine aw_cond_g (t := (decide ((v15 : Int) < (v1.xArgs.length : Int)))) (by kernel_rfl) (lt_f h23) ?_
                   refine aw_exit (at_e (at_e (ab_y rfl ?_)))
                   refine at_n ?_
                   refine aw_seq ?_
                   refine rg [] [(4, (aBool true))] [.cells (aExpr v1).cells, .cells (abrocaderef21_Known v2).cells] (by kernel_rfl) ?_
                   refine aw_ret ?_
                   have hr := Option.some.inj hF; subst hr; exact ret_ok (by kernel_rfl)
                  | cons v17 v18 =>
                   rw [g_brocaderef21_total_L3] at hF
                   refine aw_seq ?_
                   refine aw_seq ?_
                   refine rg [(10, ⟨_, _, .len (xs := dExprs v1.xArgs) dExprs_len⟩)] [(58, (aBool (decide ((v15 : Int) < (v1.xArgs.length : Int)))))] [.cells (aExpr v1).cells, .cells (abrocaderef21_Known v2).cells] (by kernel_rfl) ?_
                   refine aw_cond_h (t := (decide ((v15 : Int) < (v1.xArgs.length : Int)))) (by kernel_rfl) (lt_t h23) ?_
                   refine aw_skip ?_
                   refine at_n ?_
                   refine aw_seq ?_
                   refine aw_block ?_
                   refine aw_seq ?_
                   obtain ⟨v19, h24, hF⟩ := bind_some hF
                   obtain ⟨v20, h25, hF⟩ := bind_some hF
                   refine rd mixed (by kernel_rfl) [(10, ⟨_, _, .el (xs := dExprs v1.xArgs) (i := (v15 : Int)) (Int.natCast_nonneg _) (dExprs_get (drop_get h23))⟩), (25, cL (g_brocaderef21_below_ok N v1 (v15 : Int) v2 v19 h24)), (28, cL (ih87 v17 v19 v20 h25))] [(71, (aBool (!v20)))] [.cells (aExpr v1).cells, .cells (abrocaderef21_Known v2).cells] (by kernel_rfl) ?_
                   rcases bool_cases v20 with h26 | h26
                   · replace hF := (cond_t h26).symm.trans hF
                     refine aw_cond_g (t := (!v20)) (by kernel_rfl) (not_t h26) ?_
                     refine aw_skip ?_
                     refine ab_n ?_
                     refine at_n ?_
                     refine re [(5, ⟨_, _, .eq (wrap_nx h23 rfl h22)⟩)] [(6, (aInt ((v15 + 1 : Nat) : Int))), (60, (aInt ((v15 + 1 : Nat) : Int))), (59, (aInt (v15 : Int)))] [.cells (aExpr v1).cells, .cells (abrocaderef21_Known v2).cells] (by kernel_rfl) ?_
                     refine at_n ?_
                     exact ⟨(v15 + 1, v18), by kernel_rfl, ⟨drop_nx h23, hF⟩, Nat.lt_succ_self _⟩
                   · replace hF := (cond_f h26).symm.trans hF
                     refine aw_cond_h (t := (!v20)) (by kernel_rfl) (not_f h26) ?_
                     refine aw_seq ?_
                     refine rg [] [(4, (aBool false))] [.cells (aExpr v1).cells, .cells (abrocaderef21_Known v2).cells] (by kernel_rfl) ?_
                     refine aw_ret (ab_r (at_r (at_r (ab_r (at_r ?_)))))
                     have hr := Option.some.inj hF; subst hr; exact ret_ok (by kernel_rfl)
            · replace hF := (cond_f h15).symm.trans hF
              refine aw_cond_g (t := (v1.xOp == (7 : Int))) (by kernel_rfl) h15 ?_
              refine aw_skip ?_
              refine ab_n ?_
              refine at_n ?_
              refine aw_seq ?_
              refine aw_seq ?_
              refine rg [] [(6, (aInt (0 : Int)))] [.cells (aExpr v1).cells, .cells (abrocaderef21_Known v2).cells] (by kernel_rfl) ?_
              refine aw_block ?_
              refine aw_okB 0 12 (dExprs v1.xArgs) (by kernel_rfl) fun h27 => ?_
              have h28 : v1.xArgs.length ≤ maxLen := by rw [← dExprs_len]; exact ok_len h27
              refine aw_loopC [2, 3, 6] 2 (fun ((v21, v22) : Nat × (List ExprD)) => ⟨72, [(2, (.ptr 0 0)), (3, (.ptr 1 0)), (6, (aInt (v21 : Int)))], [.cells (aExpr v1).cells, .cells (abrocaderef21_Known v2).cells]⟩) (fun ((v21, v22) : Nat × (List ExprD)) => v1.xArgs.drop v21 = v22 ∧ g_brocaderef21_total_L4 N v1 v2 (g_brocaderef21_totalR N d) v22 v21 = some r) (fun ((v21, v22) : Nat × (List ExprD)) => v22.length) (0, v1.xArgs) (Nat.le_of_ble_eq_true rfl) (by kernel_rfl) ⟨rfl, hF⟩ ?_
              rintro ⟨v21, v22⟩ ⟨h29, hF⟩
              cases v22 with
              | nil =>
               rw [g_brocaderef21_total_L4] at hF
               refine aw_seq ?_
               refine aw_seq ?_
               refine rg [(10, ⟨_, _, .len (xs := dExprs v1.xArgs) dExprs_len⟩)] [(58, (aBool (decide ((v21 : Int) < (v1.xArgs.length : Int)))))] [.cells (aExpr v1).cells, .cells (abrocaderef21_Known v2).cells] (by kernel_rfl) ?_
               refine aw_cond_g (t := (decide ((v21 : Int) < (v1.xArgs.length : Int)))) (by kernel_rfl) (lt_f h29) ?_
               refine aw_exit (at_e (at_e (ab_y rfl ?_)))
               refine at_n ?_
               refine aw_seq ?_
               refine rg [] [(4, (aBool true))] [.cells (aExpr v1).cells, .cells (abrocaderef21_Known v2).cells] (by kernel_rfl) ?_
               refine aw_ret ?_
               have hr := Option.some.inj hF; subst hr; exact ret_ok (by kernel_rfl)
              | cons v23 v24 =>
               rw [g_brocaderef21_total_L4] at hF
               refine aw_seq ?_
               refine aw_seq ?_
               refine rg [(10, ⟨_, _, .len (xs := dExprs v1.xArgs) dExprs_len⟩)] [(58, (aBool (decide ((v21 : Int) < (v1.xArgs.length : Int)))))] [.cells (aExpr v1).cells, .cells (abrocaderef21_Known v2).cells] (by kernel_rfl) ?_
               refine aw_cond_h (t := (decide ((v21 : Int) < (v1.xArgs.length : Int)))) (by kernel_rfl) (lt_t h29) ?_
               refine aw_skip ?_
               refine at_n ?_
               refine aw_seq ?_
               refine aw_block ?_
               refine aw_seq ?_
               obtain ⟨v25, h30, hF⟩ := bind_some hF
               obtain ⟨v26, h31, hF⟩ := bind_some hF
               refine rd mixed (by kernel_rfl) [(10, ⟨_, _, .el (xs := dExprs v1.xArgs) (i := (v21 : Int)) (Int.natCast_nonneg _) (dExprs_get (drop_get h29))⟩), (25, cL (g_brocaderef21_below_ok N v1 (v21 : Int) v2 v25 h30)), (28, cL (ih87 v23 v25 v26 h31))] [(71, (aBool (!v26)))] [.cells (aExpr v1).cells, .cells (abrocaderef21_Known v2).cells] (by kernel_rfl) ?_
               rcases bool_cases v26 with h32 | h32
               · replace hF := (cond_t h32).symm.trans hF
                 refine aw_cond_g (t := (!v26)) (by kernel_rfl) (not_t h32) ?_
                 refine aw_skip ?_
                 refine ab_n ?_
                 refine at_n ?_
                 refine re [(5, ⟨_, _, .eq (wrap_nx h29 rfl h28)⟩)] [(6, (aInt ((v21 + 1 : Nat) : Int))), (60, (aInt ((v21 + 1 : Nat) : Int))), (59, (aInt (v21 : Int)))] [.cells (aExpr v1).cells, .cells (abrocaderef21_Known v2).cells] (by kernel_rfl) ?_
                 refine at_n ?_
                 exact ⟨(v21 + 1, v24), by kernel_rfl, ⟨drop_nx h29, hF⟩, Nat.lt_succ_self _⟩
               · replace hF := (cond_f h32).symm.trans hF
                 refine aw_cond_h (t := (!v26)) (by kernel_rfl) (not_f h32) ?_
                 refine aw_seq ?_
                 refine rg [] [(4, (aBool false))] [.cells (aExpr v1).cells, .cells (abrocaderef21_Known v2).cells] (by kernel_rfl) ?_
                 refine aw_ret (ab_r (at_r (at_r (ab_r (at_r ?_)))))
                 have hr := Option.some.inj hF; subst hr; exact ret_ok (by kernel_rfl)
theorem g_brocaderef21_total_ok (N : Nat) (v1 : ExprD) (v2 : brocaderef21_KnownD) (r : Bool) (hF : g_brocaderef21_total N v1 v2 = some r) : AFn Tryz.prog 42 [(aExpr v1), (abrocaderef21_Known v2)] (· = (aBool r)) := (g_brocaderef21_totalR_all N N) v1 v2 r hF
def g_brocaderef21_CannotFail (N : Nat) (v1 : TypeD) (v2 : ExprD) : Option Bool :=
 Option.bind (g_brocadebase_Type N v1) fun v3 =>
 Option.bind (bif v3 then Option.bind (g_brocaderef14_Validate N v2) fun v4 =>
 (bif (v4 == (0 : Int)) then Option.bind (g_brocaderef21_root N v1 v2) fun v5 =>
 Option.bind (g_brocaderef21_total N v2 v5) fun v6 =>
 some v6 else some false) else some false) fun v7 =>
 some v7
theorem g_brocaderef21_CannotFail_ok (N : Nat) (v1 : TypeD) (v2 : ExprD) (r : Bool) (hF : g_brocaderef21_CannotFail N v1 v2 = some r) : AFn Tryz.prog 18 [(aType v1), (aExpr v2)] (· = (aBool r)) := by
 rw [g_brocaderef21_CannotFail] at hF
 refine afn_of Tryz.func18 rfl (by kernel_rfl) ?_
 refine aw_cut [0, 1] 0 (Nat.le_refl _) (s' := ⟨19, [(0, (aType v1)), (1, (aExpr v2))], []⟩) (by kernel_rfl) ?_
 refine aw_seq ?_
 refine rg [] [(2, (.ptr 0 0)), (3, (.ptr 1 0))] [.cells (aType v1).cells, .cells (aExpr v2).cells] (by kernel_rfl) ?_
 refine aw_seq ?_
 obtain ⟨v3, h1, hF⟩ := bind_some hF
 obtain ⟨v7, h7, hF⟩ := bind_some hF
 refine rdE mixed (by kernel_rfl) [(4, (aBool v7))] [.cells (aType v1).cells, .cells (aExpr v2).cells] ?_ ?_
 · rcases bool_cases v3 with h2 | h2
   · replace h7 := (cond_t h2).symm.trans h7
     obtain ⟨v4, h3, h7⟩ := bind_some h7
     rcases bool_cases (v4 == (0 : Int)) with h4 | h4
     · replace h7 := (cond_t h4).symm.trans h7
       obtain ⟨v5, h5, h7⟩ := bind_some h7
       obtain ⟨v6, h6, h7⟩ := bind_some h7
       have he := Option.some.inj h7; subst he; exact ⟨[(4, cL (g_brocadebase_Type_ok N v1 v3 h1)), (9, bT h2), (12, bT h2), (13, cL (g_brocaderef14_Validate_ok N v2 v4 h3)), (15, bT h2), (19, bT h2), (24, bT h4), (27, bT h4), (30, bT h4), (33, bT h4), (34, cL (g_brocaderef21_root_ok N v1 v2 v5 h5)), (36, bT h4), (37, cL (g_brocaderef21_total_ok N v2 v5 v6 h6)), (40, bT h4)], by kernel_rfl⟩
     · replace h7 := (cond_f h4).symm.trans h7
       have he := Option.some.inj h7; subst he; exact ⟨[(4, cL (g_brocadebase_Type_ok N v1 v3 h1)), (9, bT h2), (12, bT h2), (13, cL (g_brocaderef14_Validate_ok N v2 v4 h3)), (15, bT h2), (19, bT h2), (24, bF h4), (27, bF h4), (30, bF h4), (33, bF h4), (36, bF h4), (40, bF h4)], by kernel_rfl⟩
   · replace h7 := (cond_f h2).symm.trans h7
     have he := Option.some.inj h7; subst he; exact ⟨[(4, cL (g_brocadebase_Type_ok N v1 v3 h1)), (9, bF h2), (12, bF h2), (15, bF h2), (19, bF h2), (24, bF rfl), (27, bF rfl), (30, bF rfl), (33, bF rfl), (36, bF rfl), (40, bF rfl)], by kernel_rfl⟩
 · refine aw_ret ?_
   have hr := Option.some.inj hF; subst hr; exact ret_ok (by kernel_rfl)
def g_brocadelaw21_SimplifyQueries (N : Nat) (v1 : TypeD) (v2 : ExprD) : Option Bool :=
 Option.bind (g_brocadebase_Weigh N v2 (300 : Int)) fun v3 =>
 bif (decide (v3 > (300 : Int))) then
  Option.bind (g_brocadelaw21_examples N) fun v4 =>
  some v4
 else
  Option.bind (g_simplify_Cost N v2) fun v5 =>
  Option.bind (g_brocaderef21_Cost N v2) fun v6 =>
  Option.bind (bif (v5 == v6) then Option.bind (g_simplify_CannotFail N v1 v2) fun v7 =>
  Option.bind (g_brocaderef21_CannotFail N v1 v2) fun v8 =>
  (bif (v7 == v8) then Option.bind (g_brocadelaw21_examples N) fun v9 =>
  some v9 else some false) else some false) fun v10 =>
  some v10
theorem g_brocadelaw21_SimplifyQueries_ok (N : Nat) (v1 : TypeD) (v2 : ExprD) (r : Bool) (hF : g_brocadelaw21_SimplifyQueries N v1 v2 = some r) : AFn Tryz.prog 5 [(aType v1), (aExpr v2)] (· = (aBool r)) := by
 rw [g_brocadelaw21_SimplifyQueries] at hF
 refine afn_of Tryz.func5 rfl (by kernel_rfl) ?_
 refine aw_cut [0, 1] 0 (Nat.le_refl _) (s' := ⟨26, [(0, (aType v1)), (1, (aExpr v2))], []⟩) (by kernel_rfl) ?_
 refine aw_seq ?_
 refine rg [] [(2, (.ptr 0 0)), (3, (.ptr 1 0))] [.cells (aType v1).cells, .cells (aExpr v2).cells] (by kernel_rfl) ?_
 refine aw_seq ?_
 refine aw_seq ?_
 obtain ⟨v3, h1, hF⟩ := bind_some hF
 refine rg [(4, cL (g_brocadebase_Weigh_ok N v2 (300 : Int) v3 h1))] [(7, (aBool (decide (v3 > (300 : Int)))))] [.cells (aType v1).cells, .cells (aExpr v2).cells] (by kernel_rfl) ?_
 rcases bool_cases (decide (v3 > (300 : Int))) with h2 | h2
 · replace hF := (cond_t h2).symm.trans hF
   refine aw_cond_h (t := (decide (v3 > (300 : Int)))) (by kernel_rfl) h2 ?_
   refine aw_seq ?_
   obtain ⟨v4, h3, hF⟩ := bind_some hF
   refine rg [(1, cL (g_brocadelaw21_examples_ok N v4 h3))] [(4, (aBool v4))] [.cells (aType v1).cells, .cells (aExpr v2).cells] (by kernel_rfl) ?_
   refine aw_ret (at_r ?_)
   have hr := Option.some.inj hF; subst hr; exact ret_ok (by kernel_rfl)
 · replace hF := (cond_f h2).symm.trans hF
   refine aw_cond_g (t := (decide (v3 > (300 : Int)))) (by kernel_rfl) h2 ?_
   refine aw_skip ?_
   refine at_n ?_
   refine aw_seq ?_
   obtain ⟨v5, h4, hF⟩ := bind_some hF
   obtain ⟨v6, h5, hF⟩ := bind_some hF
   obtain ⟨v10, h11, hF⟩ := bind_some hF
   refine rdE mixed (by kernel_rfl) [(4, (aBool v10))] [.cells (aType v1).cells, .cells (aExpr v2).cells] ?_ ?_
   · rcases bool_cases (v5 == v6) with h6 | h6
     · replace h11 := (cond_t h6).symm.trans h11
       obtain ⟨v7, h7, h11⟩ := bind_some h11
       obtain ⟨v8, h8, h11⟩ := bind_some h11
       rcases bool_cases (v7 == v8) with h9 | h9
       · replace h11 := (cond_t h9).symm.trans h11
         obtain ⟨v9, h10, h11⟩ := bind_some h11
         have he := Option.some.inj h11; subst he; exact ⟨[(4, cL (g_simplify_Cost_ok N v2 v5 h4)), (10, cL (g_brocaderef21_Cost_ok N v2 v6 h5)), (18, bT h6), (21, bT h6), (24, bT h6), (25, cL (g_simplify_CannotFail_ok N v1 v2 v7 h7)), (27, bT h6), (30, bT h6), (33, bT h6), (34, cL (g_brocaderef21_CannotFail_ok N v1 v2 v8 h8)), (36, bT h6), (40, bT h6), (45, bT h9), (46, cL (g_brocadelaw21_examples_ok N v9 h10)), (49, bT h9)], by kernel_rfl⟩
       · replace h11 := (cond_f h9).symm.trans h11
         have he := Option.some.inj h11; subst he; exact ⟨[(4, cL (g_simplify_Cost_ok N v2 v5 h4)), (10, cL (g_brocaderef21_Cost_ok N v2 v6 h5)), (18, bT h6), (21, bT h6), (24, bT h6), (25, cL (g_simplify_CannotFail_ok N v1 v2 v7 h7)), (27, bT h6), (30, bT h6), (33, bT h6), (34, cL (g_brocaderef21_CannotFail_ok N v1 v2 v8 h8)), (36, bT h6), (40, bT h6), (45, bF h9), (49, bF h9)], by kernel_rfl⟩
     · replace h11 := (cond_f h6).symm.trans h11
       have he := Option.some.inj h11; subst he; exact ⟨[(4, cL (g_simplify_Cost_ok N v2 v5 h4)), (10, cL (g_brocaderef21_Cost_ok N v2 v6 h5)), (18, bF h6), (21, bF h6), (24, bF h6), (27, bF h6), (30, bF h6), (33, bF h6), (36, bF h6), (40, bF h6), (45, bF rfl), (49, bF rfl)], by kernel_rfl⟩
   · refine aw_ret ?_
     have hr := Option.some.inj hF; subst hr; exact ret_ok (by kernel_rfl)
end Go.Proofs.YtnedgkfefdldeaaGreatDoor
