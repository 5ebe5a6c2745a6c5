import Derived.Test.YtaiihhogoogkmaaGreatDoorAbsDat
import Derived.Test.YtaiihhogoogkmaaGreatDoorAbsExam55
namespace Go.Proofs.YtaiihhogoogkmaaGreatDoor
open Go.RowKit
set_option maxRecDepth 100000
set_option maxHeartbeats 0
set_option linter.unusedVariables false

/-! brocade/brocadelaw55.examples -/
def g_brocadelaw55_examples (N : Nat) : Option Bool := some true
theorem g_brocadelaw55_examples_ok (N : Nat) (r : Bool) (hF : g_brocadelaw55_examples N = some r) : AFn Tryz.prog 8 [] (· = (aBool r)) := by
  cases hF; exact examples_abs
/-! brocade/canon.Hash -/
def g_canon_Hash_L1 (N : Nat) (v1 : ByteArray) : Nat → Int → Int → Option Int
  | 0, _, _ => none
  | v2 + 1, v3, v4 =>
    bif (decide (v4 < (v1.size : Int))) then
      bif (decide ((0 : Int) ≤ v4)) then
      Option.bind (v1[(v4).toNat]?) fun v5 =>
      (fun b1_0 b1_1 => g_canon_Hash_L1 N v1 v2 b1_0 b1_1) (IntKind.u64.wrap ((IntKind.u64.wrap ((BitVec.ofInt (IntKind.bits .u64) v3 ^^^ BitVec.ofInt (IntKind.bits .u64) (IntKind.u64.wrap (v5.toNat : Int))).toNat : Int)) * (1099511628211 : Int))) (w64 (v4 + (1 : Int)))
      else none
    else
      some v3
def g_canon_Hash (N : Nat) (v1 : ByteArray) : Option Int :=
  g_canon_Hash_L1 N v1 N (14695981039346656037 : Int) (0 : Int)
theorem g_canon_Hash_ok (N : Nat) (v1 : ByteArray) (r : Int) (hF : g_canon_Hash N v1 = some r) : AFn Tryz.prog 12 [(aStr v1)] (· = (.d (.v (.int .u64 r)))) := by
  rw [g_canon_Hash] at hF
  refine afn_of Tryz.func12 rfl (by kernel_rfl) ?_
  refine aw_cut [0] 0 (Nat.le_refl _) (s' := ⟨19, [(0, (aStr v1))], []⟩) (by kernel_rfl) ?_
  refine aw_seq ?_
  refine rg [] [] [] (by kernel_rfl) ?_
  refine aw_seq ?_
  refine rg [] [(3, (.d (.v (.int .u64 (14695981039346656037 : Int)))))] [] (by kernel_rfl) ?_
  refine aw_seq ?_
  refine aw_seq ?_
  refine rg [] [(6, (aInt (v1.size : Int))), (7, (aInt (0 : Int)))] [] (by kernel_rfl) ?_
  refine aw_block ?_
  refine aw_loopC [0, 3, 6, 7] 0 (fun ((v2, v3, v4) : Nat × Int × Int) => ⟨19, [(0, (aStr v1)), (3, (.d (.v (.int .u64 v3)))), (6, (aInt (v1.size : Int))), (7, (aInt v4))], []⟩) (fun ((v2, v3, v4) : Nat × Int × Int) => g_canon_Hash_L1 N v1 v2 v3 v4 = some r) (fun ((v2, v3, v4) : Nat × Int × Int) => v2) (N, (14695981039346656037 : Int), (0 : Int)) (Nat.le_of_ble_eq_true rfl) (by kernel_rfl) hF ?_
  rintro ⟨v2, v3, v4⟩ hF
  try dsimp only at hF
  cases v2 with
  | zero =>
    rw [g_canon_Hash_L1] at hF
    cases hF
  | succ v2 =>
    rw [g_canon_Hash_L1] at hF
    refine aw_seq ?_
    refine rg [] [(8, (aBool (decide (v4 < (v1.size : Int)))))] [] (by kernel_rfl) ?_
    refine aw_seq ?_
    rcases bool_cases (decide (v4 < (v1.size : Int))) with h1 | h1
    · replace hF := (cond_t h1).symm.trans hF
      refine aw_cond_h (t := (decide (v4 < (v1.size : Int)))) (by kernel_rfl) h1 ?_
      refine aw_skip ?_
      refine at_n ?_
      refine aw_seq ?_
      refine aw_block ?_
      refine aw_seq ?_
      refine rg [] [(4, (aInt v4))] [] (by kernel_rfl) ?_
      have h3 := chk_t hF
      replace hF := (cond_t h3).symm.trans hF
      obtain ⟨v5, h2, hF⟩ := bind_some hF
      refine re [(10, ⟨_, _, .ch (i := v4) (of_decide_eq_true h3) h2⟩)] [(3, (.d (.v (.int .u64 (IntKind.u64.wrap ((IntKind.u64.wrap ((BitVec.ofInt (IntKind.bits .u64) v3 ^^^ BitVec.ofInt (IntKind.bits .u64) (IntKind.u64.wrap (v5.toNat : Int))).toNat : Int)) * (1099511628211 : Int))))))), (16, (.d (.v (.int .u64 (IntKind.u64.wrap ((IntKind.u64.wrap ((BitVec.ofInt (IntKind.bits .u64) v3 ^^^ BitVec.ofInt (IntKind.bits .u64) (IntKind.u64.wrap (v5.toNat : Int))).toNat : Int)) * (1099511628211 : Int))))))), (15, (.d (.v (.int .u64 (IntKind.u64.wrap ((BitVec.ofInt (IntKind.bits .u64) v3 ^^^ BitVec.ofInt (IntKind.bits .u64) (IntKind.u64.wrap (v5.toNat : Int))).toNat : Int)))))), (14, (.d (.v (.int .u64 (IntKind.u64.wrap (v5.toNat : Int)))))), (13, (.d (.v (.int .u8 (v5.toNat : Int))))), (12, (aInt v4)), (11, (aStr v1)), (10, (.d (.v (.int .u64 v3))))] [] (by kernel_rfl) ?_
      refine ab_n ?_
      refine at_n ?_
      refine re [] [(7, (aInt (w64 (v4 + (1 : Int))))), (17, (aInt (w64 (v4 + (1 : Int)))))] [] (by kernel_rfl) ?_
      refine at_n ?_
      exact ⟨(v2, (IntKind.u64.wrap ((IntKind.u64.wrap ((BitVec.ofInt (IntKind.bits .u64) v3 ^^^ BitVec.ofInt (IntKind.bits .u64) (IntKind.u64.wrap (v5.toNat : Int))).toNat : Int)) * (1099511628211 : Int))), (w64 (v4 + (1 : Int)))), by kernel_rfl, hF, Nat.lt_succ_self _⟩
    · replace hF := (cond_f h1).symm.trans hF
      refine aw_cond_g (t := (decide (v4 < (v1.size : Int)))) (by kernel_rfl) h1 ?_
      refine aw_exit (at_e (at_e (ab_y rfl ?_)))
      refine at_n ?_
      refine aw_seq ?_
      refine rg [] [(2, (.d (.v (.int .u64 v3))))] [] (by kernel_rfl) ?_
      refine aw_ret ?_
      have hr := Option.some.inj hF; subst hr; exact ret_ok (by kernel_rfl)
/-! brocade/brocaderef55.Hash -/
def g_brocaderef55_Hash_L1 (N : Nat) (v1 : ByteArray) : Nat → Int → Int → Option Int
  | 0, _, _ => none
  | v2 + 1, v3, v4 =>
    bif (decide (v4 < (v1.size : Int))) then
      bif (decide ((0 : Int) ≤ v4)) then
      Option.bind (v1[(v4).toNat]?) fun v5 =>
      (fun b1_0 b1_1 => g_brocaderef55_Hash_L1 N v1 v2 b1_0 b1_1) (IntKind.u64.wrap ((IntKind.u64.wrap ((BitVec.ofInt (IntKind.bits .u64) v3 ^^^ BitVec.ofInt (IntKind.bits .u64) (IntKind.u64.wrap (v5.toNat : Int))).toNat : Int)) * (1099511628211 : Int))) (w64 (v4 + (1 : Int)))
      else none
    else
      some v3
def g_brocaderef55_Hash (N : Nat) (v1 : ByteArray) : Option Int :=
  g_brocaderef55_Hash_L1 N v1 N (14695981039346656037 : Int) (0 : Int)
theorem g_brocaderef55_Hash_ok (N : Nat) (v1 : ByteArray) (r : Int) (hF : g_brocaderef55_Hash N v1 = some r) : AFn Tryz.prog 13 [(aStr v1)] (· = (.d (.v (.int .u64 r)))) := by
  rw [g_brocaderef55_Hash] at hF
  refine afn_of Tryz.func13 rfl (by kernel_rfl) ?_
  refine aw_cut [0] 0 (Nat.le_refl _) (s' := ⟨19, [(0, (aStr v1))], []⟩) (by kernel_rfl) ?_
  refine aw_seq ?_
  refine rg [] [] [] (by kernel_rfl) ?_
  refine aw_seq ?_
  refine rg [] [(3, (.d (.v (.int .u64 (14695981039346656037 : Int)))))] [] (by kernel_rfl) ?_
  refine aw_seq ?_
  refine aw_seq ?_
  refine rg [] [(4, (aInt (0 : Int)))] [] (by kernel_rfl) ?_
  refine aw_block ?_
  refine aw_loopC [0, 3, 4] 0 (fun ((v2, v3, v4) : Nat × Int × Int) => ⟨19, [(0, (aStr v1)), (3, (.d (.v (.int .u64 v3)))), (4, (aInt v4))], []⟩) (fun ((v2, v3, v4) : Nat × Int × Int) => g_brocaderef55_Hash_L1 N v1 v2 v3 v4 = some r) (fun ((v2, v3, v4) : Nat × Int × Int) => v2) (N, (14695981039346656037 : Int), (0 : Int)) (Nat.le_of_ble_eq_true rfl) (by kernel_rfl) hF ?_
  rintro ⟨v2, v3, v4⟩ hF
  try dsimp only at hF
  cases v2 with
  | zero =>
    rw [g_brocaderef55_Hash_L1] at hF
    cases hF
  | succ v2 =>
    rw [g_brocaderef55_Hash_L1] at hF
    refine aw_seq ?_
    refine aw_seq ?_
    refine rg [] [(8, (aBool (decide (v4 < (v1.size : Int)))))] [] (by kernel_rfl) ?_
    rcases bool_cases (decide (v4 < (v1.size : Int))) with h1 | h1
    · replace hF := (cond_t h1).symm.trans hF
      refine aw_cond_h (t := (decide (v4 < (v1.size : Int)))) (by kernel_rfl) h1 ?_
      refine aw_skip ?_
      refine at_n ?_
      refine aw_seq ?_
      refine aw_block ?_
      have h3 := chk_t hF
      replace hF := (cond_t h3).symm.trans hF
      obtain ⟨v5, h2, hF⟩ := bind_some hF
      refine re [(10, ⟨_, _, .ch (i := v4) (of_decide_eq_true h3) h2⟩)] [(3, (.d (.v (.int .u64 (IntKind.u64.wrap ((IntKind.u64.wrap ((BitVec.ofInt (IntKind.bits .u64) v3 ^^^ BitVec.ofInt (IntKind.bits .u64) (IntKind.u64.wrap (v5.toNat : Int))).toNat : Int)) * (1099511628211 : Int))))))), (17, (.d (.v (.int .u64 (IntKind.u64.wrap ((IntKind.u64.wrap ((BitVec.ofInt (IntKind.bits .u64) v3 ^^^ BitVec.ofInt (IntKind.bits .u64) (IntKind.u64.wrap (v5.toNat : Int))).toNat : Int)) * (1099511628211 : Int))))))), (16, (.d (.v (.int .u64 (IntKind.u64.wrap ((BitVec.ofInt (IntKind.bits .u64) v3 ^^^ BitVec.ofInt (IntKind.bits .u64) (IntKind.u64.wrap (v5.toNat : Int))).toNat : Int)))))), (15, (.d (.v (.int .u64 (IntKind.u64.wrap (v5.toNat : Int)))))), (14, (.d (.v (.int .u8 (v5.toNat : Int))))), (13, (aInt v4)), (12, (aStr v1)), (11, (.d (.v (.int .u64 v3))))] [] (by kernel_rfl) ?_
      refine ab_n ?_
      refine at_n ?_
      refine re [] [(4, (aInt (w64 (v4 + (1 : Int))))), (10, (aInt (w64 (v4 + (1 : Int))))), (9, (aInt v4))] [] (by kernel_rfl) ?_
      refine at_n ?_
      exact ⟨(v2, (IntKind.u64.wrap ((IntKind.u64.wrap ((BitVec.ofInt (IntKind.bits .u64) v3 ^^^ BitVec.ofInt (IntKind.bits .u64) (IntKind.u64.wrap (v5.toNat : Int))).toNat : Int)) * (1099511628211 : Int))), (w64 (v4 + (1 : Int)))), by kernel_rfl, hF, Nat.lt_succ_self _⟩
    · replace hF := (cond_f h1).symm.trans hF
      refine aw_cond_g (t := (decide (v4 < (v1.size : Int)))) (by kernel_rfl) h1 ?_
      refine aw_exit (at_e (at_e (ab_y rfl ?_)))
      refine at_n ?_
      refine aw_seq ?_
      refine rg [] [(2, (.d (.v (.int .u64 v3))))] [] (by kernel_rfl) ?_
      refine aw_ret ?_
      have hr := Option.some.inj hF; subst hr; exact ret_ok (by kernel_rfl)
/-! brocade/brocadelaw55.CanonHash -/
def g_brocadelaw55_CanonHash (N : Nat) (v1 : ByteArray) (v2 : Int) : Option Bool :=
  bif (decide ((v1.size : Int) > (5000 : Int))) then
    Option.bind (g_brocadelaw55_examples N) fun v3 =>
    some v3
  else
    Option.bind (g_canon_Hash N v1) fun v4 =>
    Option.bind (g_brocaderef55_Hash N v1) fun v5 =>
    Option.bind (bif (v4 == v5) then bif (Nat.ble (v1.size + (sbytes [v2]).size) 9223372036854775807) then
    Option.bind (g_canon_Hash N (v1 ++ (sbytes [v2]))) fun v6 =>
    (bif (v6 == (IntKind.u64.wrap ((IntKind.u64.wrap ((BitVec.ofInt (IntKind.bits .u64) v4 ^^^ BitVec.ofInt (IntKind.bits .u64) (IntKind.u64.wrap v2)).toNat : Int)) * (1099511628211 : Int)))) then Option.bind (g_brocadelaw55_examples N) fun v7 =>
    some v7 else some false)
    else none else some false) fun v8 =>
    some v8
theorem g_brocadelaw55_CanonHash_ok (N : Nat) (v1 : ByteArray) (v2 : Int) (r : Bool) (hF : g_brocadelaw55_CanonHash N v1 v2 = some r) : AFn Tryz.prog 4 [(aStr v1), (.d (.v (.int .u8 v2)))] (· = (aBool r)) := by
  rw [g_brocadelaw55_CanonHash] at hF
  refine afn_of Tryz.func4 rfl (by kernel_rfl) ?_
  refine aw_cut [0, 1] 0 (Nat.le_refl _) (s' := ⟨33, [(0, (aStr v1)), (1, (.d (.v (.int .u8 v2))))], []⟩) (by kernel_rfl) ?_
  refine aw_seq ?_
  refine rg [] [] [] (by kernel_rfl) ?_
  refine aw_seq ?_
  refine aw_seq ?_
  refine rg [] [(8, (aBool (decide ((v1.size : Int) > (5000 : Int)))))] [] (by kernel_rfl) ?_
  rcases bool_cases (decide ((v1.size : Int) > (5000 : Int))) with h1 | h1
  · replace hF := (cond_t h1).symm.trans hF
    refine aw_cond_h (t := (decide ((v1.size : Int) > (5000 : Int)))) (by kernel_rfl) h1 ?_
    refine aw_seq ?_
    obtain ⟨v3, h2, hF⟩ := bind_some hF
    refine rg [(1, ⟨_, _, .call (g_brocadelaw55_examples_ok N v3 h2)⟩)] [(4, (aBool v3))] [] (by kernel_rfl) ?_
    refine aw_ret (at_r ?_)
    have hr := Option.some.inj hF; subst hr; exact ret_ok (by kernel_rfl)
  · replace hF := (cond_f h1).symm.trans hF
    refine aw_cond_g (t := (decide ((v1.size : Int) > (5000 : Int)))) (by kernel_rfl) h1 ?_
    refine aw_skip ?_
    refine at_n ?_
    refine aw_seq ?_
    obtain ⟨v4, h3, hF⟩ := bind_some hF
    refine rg [(4, ⟨_, _, .call (g_canon_Hash_ok N v1 v4 h3)⟩)] [(5, (.d (.v (.int .u64 v4))))] [] (by kernel_rfl) ?_
    refine aw_seq ?_
    obtain ⟨v5, h4, hF⟩ := bind_some hF
    obtain ⟨v8, h10, hF⟩ := bind_some hF
    refine rgE [(4, (aBool v8))] [] ?_ ?_
    · rcases bool_cases (v4 == v5) with h5 | h5
      · replace h10 := (cond_t h5).symm.trans h10
        have h6 := chk_t h10
        replace h10 := (cond_t h6).symm.trans h10
        obtain ⟨v6, h7, h10⟩ := bind_some h10
        rcases bool_cases (v6 == (IntKind.u64.wrap ((IntKind.u64.wrap ((BitVec.ofInt (IntKind.bits .u64) v4 ^^^ BitVec.ofInt (IntKind.bits .u64) (IntKind.u64.wrap v2)).toNat : Int)) * (1099511628211 : Int)))) with h8 | h8
        · replace h10 := (cond_t h8).symm.trans h10
          obtain ⟨v7, h9, h10⟩ := bind_some h10
          have he := Option.some.inj h10; subst he; exact ⟨[(7, ⟨_, _, .call (g_brocaderef55_Hash_ok N v1 v5 h4)⟩), (15, ⟨_, _, .bit (b := true) h5⟩), (18, ⟨_, _, .bit (b := true) h5⟩), (21, ⟨_, _, .bit (b := true) h5⟩), (24, ⟨_, _, .bit (b := true) h5⟩), (25, ⟨_, _, .byt (xs := dU8s [v2]) (s := sbytes [v2]) ⟨[v2], rfl, rfl⟩⟩), (27, ⟨_, _, .bit (b := true) h5⟩), (28, ⟨_, _, .cat (n := v1.size + (sbytes [v2]).size) (cat_ok h6)⟩), (30, ⟨_, _, .bit (b := true) h5⟩), (31, ⟨_, _, .call (g_canon_Hash_ok N (v1 ++ (sbytes [v2])) v6 h7)⟩), (33, ⟨_, _, .bit (b := true) h5⟩), (36, ⟨_, _, .bit (b := true) h5⟩), (39, ⟨_, _, .bit (b := true) h5⟩), (42, ⟨_, _, .bit (b := true) h5⟩), (45, ⟨_, _, .bit (b := true) h5⟩), (48, ⟨_, _, .bit (b := true) h5⟩), (52, ⟨_, _, .bit (b := true) h5⟩), (57, ⟨_, _, .bit (b := true) h8⟩), (58, ⟨_, _, .call (g_brocadelaw55_examples_ok N v7 h9)⟩), (61, ⟨_, _, .bit (b := true) h8⟩)], by kernel_rfl⟩
        · replace h10 := (cond_f h8).symm.trans h10
          have he := Option.some.inj h10; subst he; exact ⟨[(7, ⟨_, _, .call (g_brocaderef55_Hash_ok N v1 v5 h4)⟩), (15, ⟨_, _, .bit (b := true) h5⟩), (18, ⟨_, _, .bit (b := true) h5⟩), (21, ⟨_, _, .bit (b := true) h5⟩), (24, ⟨_, _, .bit (b := true) h5⟩), (25, ⟨_, _, .byt (xs := dU8s [v2]) (s := sbytes [v2]) ⟨[v2], rfl, rfl⟩⟩), (27, ⟨_, _, .bit (b := true) h5⟩), (28, ⟨_, _, .cat (n := v1.size + (sbytes [v2]).size) (cat_ok h6)⟩), (30, ⟨_, _, .bit (b := true) h5⟩), (31, ⟨_, _, .call (g_canon_Hash_ok N (v1 ++ (sbytes [v2])) v6 h7)⟩), (33, ⟨_, _, .bit (b := true) h5⟩), (36, ⟨_, _, .bit (b := true) h5⟩), (39, ⟨_, _, .bit (b := true) h5⟩), (42, ⟨_, _, .bit (b := true) h5⟩), (45, ⟨_, _, .bit (b := true) h5⟩), (48, ⟨_, _, .bit (b := true) h5⟩), (52, ⟨_, _, .bit (b := true) h5⟩), (57, ⟨_, _, .bit (b := false) h8⟩), (61, ⟨_, _, .bit (b := false) h8⟩)], by kernel_rfl⟩
      · replace h10 := (cond_f h5).symm.trans h10
        have he := Option.some.inj h10; subst he; exact ⟨[(7, ⟨_, _, .call (g_brocaderef55_Hash_ok N v1 v5 h4)⟩), (15, ⟨_, _, .bit (b := false) h5⟩), (18, ⟨_, _, .bit (b := false) h5⟩), (21, ⟨_, _, .bit (b := false) h5⟩), (24, ⟨_, _, .bit (b := false) h5⟩), (27, ⟨_, _, .bit (b := false) h5⟩), (30, ⟨_, _, .bit (b := false) h5⟩), (33, ⟨_, _, .bit (b := false) h5⟩), (36, ⟨_, _, .bit (b := false) h5⟩), (39, ⟨_, _, .bit (b := false) h5⟩), (42, ⟨_, _, .bit (b := false) h5⟩), (45, ⟨_, _, .bit (b := false) h5⟩), (48, ⟨_, _, .bit (b := false) h5⟩), (52, ⟨_, _, .bit (b := false) h5⟩), (57, ⟨_, _, .bit (b := false) rfl⟩), (61, ⟨_, _, .bit (b := false) rfl⟩)], by kernel_rfl⟩
    · refine aw_ret ?_
      have hr := Option.some.inj hF; subst hr; exact ret_ok (by kernel_rfl)
end Go.Proofs.YtaiihhogoogkmaaGreatDoor
