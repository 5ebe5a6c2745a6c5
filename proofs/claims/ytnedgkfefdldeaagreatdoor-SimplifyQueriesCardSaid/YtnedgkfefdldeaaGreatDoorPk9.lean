/-
  The statement SimplifyQueries: for every input the law answers true, and each argument reads afterwards as it read before; the listed tables hold what the program's text lays in them (the card ties that). No other condition.
-/
import Derived.Test.YtnedgkfefdldeaaGreatDoorPk8
import Derived.Test.YtnedgkfefdldeaaGreatDoorCards
import Derived.Test.YtnedgkfefdldeaaGreatDoorTie
import Derived.SevenTiedAt
import Derived.Carry
/-! SqCard: The statement SimplifyQueries: for every input the law answers true, and each argument reads afterwards as it read before; the listed tables hold what the program's text lays in them (the card ties that). No other condition. -/
namespace Go.Proofs.YtnedgkfefdldeaaGreatDoor
open Go.ChangeShapes Go.WideShapes Go.ChangeAt Go.RowKit
open Go.ChangeMaps (open_string shut_string)
set_option maxRecDepth 100000
set_option linter.unusedVariables false
theorem laid_out : laidOutB Tryz.prog = true := by kernel_rfl
theorem queries_lifted (os : Os) (started : os.Started) (H : Type) (enc : TypeId × Value → H) :
    ReturnsInHanded {} Tryz.checked os 5 .any (fun w args => (Rows.simplifyQueriesSpec.pre enc Tryz.prog Tryz.f5 [] false w args ∧ laidMetH Tryz.prog laidAll w) ∧ sizedMet enc Tryz.prog Tryz.f5 (OpenSpec.ofChange Rows.simplifyQueriesSpec) false w args)
      (Rows.simplifyQueriesSpec.post enc Tryz.prog Tryz.f5 false true false false) := by
  refine returnsInHanded_of_change_and (C := Tryz.checked) (X := fun w _ => laidMetH Tryz.prog laidAll w) (fun _ _ _ hh h => h.of_heap hh) own_knob started (by kernel_rfl) Tryz.func5
    (top_witness (enc := enc) (os := os) false #[.agg #[.int .i64 0, .int .i64 0, .int .i64 0, .int .i64 0, .int .i64 0], .agg #[.int .i64 0, .string ⟨#[]⟩, .int .i64 0, .int .i64 0, .int .i64 0, .int .i64 0, .int .i64 0, .int .i64 0, .int .i64 0, .int .i64 0, .slice none 0 0, .slice none 0 0, .slice none 0 0]] 8 (by kernel_rfl) (by kernel_rfl) (by kernel_rfl)) ?_
  intro W base args ds gs before hval0 hW _ _ hL _
  have hval : ∀ (j : Nat) t v, Tryz.f5.params[j]? = some t → args[j]? = some v → Value.okWide Tryz.prog W .any base t v := hval0
  have hW' := hW
  obtain ⟨p, q, hA0, hV, rfl, hfz, hnd⟩ := hW
  have hA : DataW.TrodAll enc Tryz.prog W 0 (fun _ => true) true Tryz.f5.params.toList args.toList ds p := hA0
  rw [Tryz.params5] at hA hval
  obtain ⟨v0, vs0, d0, ds0, p0, q0, hargs, rfl, rfl, h0, r0⟩ := trodAll_cons hA
  obtain ⟨v1, vs1, d1, ds1, p1, q1, rfl, rfl, rfl, h1, r1⟩ := trodAll_cons r0
  obtain ⟨rfl, rfl, rfl⟩ := trodAll_nil r1
  obtain rfl : args = #[v0, v1] := by cases args; simp_all
  obtain ⟨rfl, rfl⟩ := trodVars_none hV
  have lt0 : ∀ x ∈ p0, x.block < W.heap.size := by obtain ⟨m, hm⟩ := h0; exact DataW.trod_lt m _ _ _ hm
  obtain ⟨c0, rfl⟩ := okWide_struct Tryz.underlying23 (hval 0 23 v0 rfl rfl)
  obtain ⟨x0, s0, e0⟩ := open_arg okTypes_ok (by decide) h0
  obtain ⟨a0, rfl, w0⟩ := shp_Type s0
  have lt1 : ∀ x ∈ p1, x.block < W.heap.size := by obtain ⟨m, hm⟩ := h1; exact DataW.trod_lt m _ _ _ hm
  obtain ⟨c1, rfl⟩ := okWide_struct Tryz.underlying32 (hval 1 32 v1 rfl rfl)
  obtain ⟨x1, s1, e1⟩ := open_arg okTypes_ok (by decide) h1
  obtain ⟨a1, rfl, w1⟩ := shp_Expr s1
  clear hA0 hval0
  refine (top_true (queries_abs a0 a1 w0 w1) (tabs_of_laid hL) _ rfl fun i u c hu hc => ?_).mono fun e W' ⟨he, bel⟩ => ?_
  · match i with
    | 0 => cases hu; cases hc; exact rel_agg rfl e0
    | 1 => cases hu; cases hc; exact rel_agg rfl e1
    | i + 2 => simp at hu
  · subst he
    exact ⟨_, rfl, _, _, _, [], _, [], hW', trodAll_mk1 (shut_bool Tryz.underlying4 _), (trodAll_cons_mk (Below.trod laid_out (by kernel_rfl) (of_decide_eq_true (by kernel_rfl)) h0 bel lt0) (trodAll_cons_mk (Below.trod laid_out (by kernel_rfl) (of_decide_eq_true (by kernel_rfl)) h1 bel lt1) trodAll_mk0)), rfl, bel.frame _, fun h => by cases h⟩
theorem queries_row : Rows.SimplifyQueriesSaid :=
  OpenClaim.holds_of_wide 5 Tryz.f5 rfl rfl rfl rfl rfl rfl rfl ⟨rfl, rfl, rfl, rfl, rfl⟩ rfl rfl rfl rfl rfl (by kernel_rfl) Tryz.func5 (by kernel_rfl)
    (of_decide_eq_true (by kernel_rfl)) (by unfold Func.isWrapper; first | (rw [if_pos (by decide +kernel)]; kernel_rfl) | (rw [if_neg (by decide +kernel)]; exact ⟨rfl, rfl⟩))
    (fun os started H enc _ => queries_lifted os started H enc)
theorem queries_proved : Rows.SimplifyQueriesCardSaid :=
  Claim7.holds_tied_plain_at .later [] [.listed, .data] true (true, "9be3f0f36b2c3456aa1474c02e588b12bb931ddddb0b8c2dde71b22a1a851776") false
    queries_row (fun _ h => by cases h) (by kernel_rfl) (fun _ h => by cases h) simplifyQueries_row_tie rfl ⟨rfl, rfl⟩ (by kernel_rfl) rfl
    (fun f fn hf hfn => by
      obtain rfl : f = 5 := (Option.some.inj ((show Tryz.prog.funcNamed "brocade/brocadelaw21.SimplifyQueries" = some 5 by kernel_rfl).symm.trans hf)).symm
      obtain rfl : fn = Tryz.f5 := (Option.some.inj (Tryz.func5.symm.trans hfn)).symm
      refine ⟨by kernel_rfl, fun j t ht => ?_⟩
      rw [Tryz.params5] at ht
      match j with
      | 0 => cases ht; exact (show Tryz.prog.wantsStandIn 23 = false by kernel_rfl)
      | 1 => cases ht; exact (show Tryz.prog.wantsStandIn 32 = false by kernel_rfl)
      | j + 2 => simp at ht)
    (by kernel_rfl)
#print axioms queries_proved
end Go.Proofs.YtnedgkfefdldeaaGreatDoor
