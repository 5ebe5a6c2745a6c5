/-
  The statement CacheNil: the law answers true at every input, and each argument reads afterwards as it read before; no condition.
-/
import Derived.Test.YtniopdfcdmifiaaCI5
import Derived.Test.YtniopdfcdmifiaaAlive
import Derived.ProofKit
import Derived.OpenShut
import Derived.ShutString
import Derived.ChangeOld
namespace Go.Proofs.Ytniopdfcdmifiaa
open Go.ChangeShapes Go.WideShapes Go.ChangeAt Go.RowKit
open Go.ChangeMaps (open_string shut_string)

set_option maxHeartbeats 1600000 in
theorem empty_inv (p : Value) (key : ByteArray) (v : Int) (w : World) (hv : Calls Try.prog 33 #[p] w fun e w' => e = .returned (.bool false) ∧ w = w') :
    Calls Try.prog 31 #[p, .string key, .int .i64 v] w fun e w' => e = .returned (.bool true) ∧ w = w' := by
  have H1 := Lib.hid (CI.put_inv p w hv key v)
  have H2 := Lib.hid (CI.get_inv p w hv key)
  have H3 := Lib.hid (CI.stats_inv p w hv)
  have H4 := Lib.hid (CI.len_inv p w hv)
  have H5 := Lib.hid (CI.keys_inv p w hv)
  have H6 := Lib.hid (CI.remove_inv p w hv key)
  clear hv
  go_enter Try.func31, Try.ntmps31
  go_wp2_with (first | (go_at_call 10; refine H1.out.mono ?_; rintro e w1 ⟨rfl, rfl⟩) | (go_at_call 12; refine H2.out.mono ?_; rintro e w1 ⟨rfl, rfl⟩) | (go_at_call 47; refine H3.out.mono ?_; rintro e w1 ⟨rfl, rfl⟩) | (go_at_call 27; refine H4.out.mono ?_; rintro e w1 ⟨rfl, rfl⟩) | (go_at_call 26; refine H5.out.mono ?_; rintro e w1 ⟨rfl, rfl⟩) | (go_at_call 28; refine H6.out.mono ?_; rintro e w1 ⟨rfl, rfl⟩))
  go_ret
  exact ⟨rfl, rfl⟩

set_option maxHeartbeats 800000 in
theorem nil_walk (key : ByteArray) (v : Int) (w : World) : Calls Try.prog 7 #[.string key, .int .i64 v] w fun e w' => e = .returned (.bool true) ∧ Below w.heap.size w w' := by
  have H1 := Lib.hid (empty_inv (.pointer none) key v (w.alloc (.cells #[.int .i64 0, .slice none 0 0, .int .i64 0, .int .i64 0] 66)) (CI.valid_nil _))
  have H2 := Lib.hid (empty_inv (.pointer (some ⟨w.heap.size, 0, none⟩)) key v (w.alloc (.cells #[.int .i64 0, .slice none 0 0, .int .i64 0, .int .i64 0] 66)) (CI.valid_zero w.heap.size _ (World.cell?_alloc_at _ _ _ _ rfl)))
  go_enter Try.func7, Try.ntmps7
  go_wp2_with fail
  refine H1.out.mono ?_
  rintro e w1 ⟨rfl, rfl⟩
  go_wp2_with fail
  refine H2.out.mono ?_
  rintro e w1 ⟨rfl, rfl⟩
  go_wp2_with (go_at_call 9; refine (alive_any _).mono ?_; rintro e w2 ⟨rfl, h2⟩; have HB := Lib.hid h2; clear h2)
  go_ret
  exact ⟨rfl, ((Below.refl _ w).alloc (Nat.le_refl _) _).trans (HB.out.mono (by simp))⟩

theorem nil_own_knob : ownKnob Try.prog.godebug = none := by kernel_rfl
theorem nil_laid_out : laidOutB Try.prog = true := by kernel_rfl

set_option maxRecDepth 100000 in
theorem nil_lifted (os : Os) (started : os.Started) (H : Type) (enc : TypeId × Value → H) :
    ReturnsInHanded {} Try.checked os 7 .any (Rows.cacheNilSpec.pre6 enc Try.prog Try.f7 Rows.cacheNilRow.domain false) (Rows.cacheNilSpec.post enc Try.prog Try.f7 false true false false) := by
  refine returnsInHanded_of_change (C := Try.checked) nil_own_knob started (by kernel_rfl) Try.func7
    (ChangeSpec.witness6 (enc := enc) (C := Try.checked) false ⟨#[], #[.string ⟨#[]⟩, .int .i64 0], []⟩ 8 (by kernel_rfl) (by kernel_rfl) (by kernel_rfl) (by kernel_rfl)) ?_
  intro W base args ds gs before hval0 hW hcnd _
  have hval : ∀ (j : Nat) t v, Try.f7.params[j]? = some t → args[j]? = some v → Value.okWide Try.prog W .any base t v := hval0
  have hW' := hW
  obtain ⟨p, q, hA0, hV, rfl, hfz, hnd⟩ := hW
  have hA : DataW.TrodAll enc Try.prog W 0 (fun _ => true) true Try.f7.params.toList args.toList ds p := hA0
  rw [Try.params7] at hA hval
  obtain ⟨v0, vs0, d0, ds0, p0, q0, hargs, rfl, rfl, h0, r0⟩ := trodAll_cons hA
  obtain ⟨v1, vs1, d1, ds1, p1, q1, rfl, rfl, rfl, h1, r1⟩ := trodAll_cons r0
  obtain ⟨rfl, rfl, rfl⟩ := trodAll_nil r1
  obtain rfl : args = #[v0, v1] := by cases args; simp_all
  obtain ⟨rfl, rfl⟩ := trodVars_none hV
  obtain ⟨a0, rfl, rfl, rfl, w0⟩ := open_string Try.underlying9 (hval 0 9 v0 rfl rfl) h0
  obtain ⟨a1, rfl, rfl, rfl, w1⟩ := open_int Try.underlying3 (hval 1 3 v1 rfl rfl) h1
  clear hA0 hval0
  refine (nil_walk a0 a1 W).mono fun e W' ⟨he, bel⟩ => ?_
  subst he
  exact ⟨_, rfl, _, _, _, [], _, [], hW', trodAll_mk1 (shut_bool Try.underlying4 _), (trodAll_cons_mk (shut_string Try.underlying9 w0) (trodAll_cons_mk (shut_int Try.underlying3 w1) trodAll_mk0)), rfl, bel.frame _, fun h => by cases h⟩

theorem nil_over : Rows.cacheNilRow.holds Try.pinned (OpenSpec.ofChange Rows.cacheNilSpec) :=
  OpenClaim.holds_of_wide 7 Try.f7 rfl rfl rfl rfl rfl rfl rfl ⟨rfl, rfl, rfl, rfl, rfl⟩ rfl rfl rfl rfl rfl (by kernel_rfl) Try.func7 (by kernel_rfl)
    (of_decide_eq_true (by kernel_rfl)) (by unfold Func.isWrapper; first | (rw [if_pos (by decide +kernel)]; kernel_rfl) | (rw [if_neg (by decide +kernel)]; exact ⟨rfl, rfl⟩))
    (fun os started H enc _ => nil_lifted os started H enc)

theorem nil_proved : Rows.CacheNilSaid := nil_over
#print axioms nil_proved
end Go.Proofs.Ytniopdfcdmifiaa
