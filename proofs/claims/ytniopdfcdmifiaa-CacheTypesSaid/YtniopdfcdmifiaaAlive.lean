/-
  The law's helper 'alive' answers true, and the helper Has of the statements' base.
-/
import Derived.Test.YtniopdfcdmifiaaCS5
namespace Go.Proofs.Ytniopdfcdmifiaa
open Go.RowKit

set_option maxHeartbeats 1600000 in
theorem alive_any (w : World) : Calls Try.prog 9 #[] w fun e w' => e = .returned (.bool true) ∧ Below w.heap.size w w' := by
  go_enter Try.func9, Try.ntmps9
  go_wp2_with fail
  refine (CS.new_ok 1 w (by omega) (by omega)).mono ?_
  rintro e w1 ⟨rfl, hb1, hc1⟩
  have Hb1 := Lib.hid hb1; clear hb1
  have Hc1 := Lib.hid hc1; clear hc1
  go_wp2_with fail
  refine (CS.put_any _ _ 1 0 0 [] (⟨#[97]⟩, ⟨#[120]⟩) w1 Hc1.out (by omega) (by simp)).mono ?_
  rintro e w2 ⟨he, hc2, hf2⟩
  have e2 : putB 1 ((⟨#[97]⟩, ⟨#[120]⟩) : ByteArray × ByteArray) [] = false := by decide
  rw [e2] at he
  subst he
  clear e2
  have Hc2 := Lib.hid hc2; clear hc2
  have Hf2 := Lib.hid hf2; clear hf2
  go_wp2_with fail
  refine (CS.get_any _ _ 1 0 0 _ ⟨#[97]⟩ w2 Hc2.out (by omega) (by simp [putL]) (by omega) (by omega)).mono ?_
  rintro e w3 ⟨⟨x, hx⟩, hf3⟩
  have e3 : look (⟨#[97]⟩ : ByteArray) (putL 1 ((⟨#[97]⟩, ⟨#[120]⟩) : ByteArray × ByteArray) []) = some (⟨#[97]⟩, ⟨#[120]⟩) := by kernel_rfl
  have e4 : getL (⟨#[97]⟩ : ByteArray) (putL 1 ((⟨#[97]⟩, ⟨#[120]⟩) : ByteArray × ByteArray) []) = [(⟨#[97]⟩, ⟨#[120]⟩)] := by kernel_rfl
  rw [e3, e4] at hx
  clear e3 e4
  rcases hx with ⟨hx, he, hc3⟩ | ⟨hx, _⟩
  case inr => cases hx
  cases hx
  subst he
  have Hc3 := Lib.hid hc3; clear hc3
  have Hf3 := Lib.hid hf3; clear hf3
  go_wp2_with fail
  refine (CS.put_any _ _ 1 1 0 _ (⟨#[98]⟩, ⟨#[121]⟩) w3 Hc3.out (by omega) (by simp)).mono ?_
  rintro e w4 ⟨he, hc4, hf4⟩
  have e4 : putB 1 ((⟨#[98]⟩, ⟨#[121]⟩) : ByteArray × ByteArray) [(⟨#[97]⟩, ⟨#[120]⟩)] = true := by kernel_rfl
  have e5 : putL 1 ((⟨#[98]⟩, ⟨#[121]⟩) : ByteArray × ByteArray) [(⟨#[97]⟩, ⟨#[120]⟩)] = [(⟨#[98]⟩, ⟨#[121]⟩)] := by kernel_rfl
  rw [e4] at he
  rw [e5] at hc4
  subst he
  clear e4 e5
  have Hc4 := Lib.hid hc4; clear hc4
  have Hf4 := Lib.hid hf4; clear hf4
  go_wp2_with fail
  refine (CS.len_any _ _ 1 1 0 _ w4 Hc4.out (by omega)).mono ?_
  rintro e w5 ⟨rfl, rfl⟩
  go_wp2
  go_ret
  exact ⟨rfl, Hb1.out.trans (Hf2.out.below.trans (Hf3.out.below.trans Hf4.out.below))⟩

/-- a slice of strings as the list of its elements -/
def StrL (w : World) (A : Option Addr) (l : List ByteArray) : Prop :=
  ∀ (i : Nat) (x : ByteArray), l[i]? = some x → ∃ b off, A = some ⟨b, off, none⟩ ∧ b < w.heap.size ∧ w.cell? ⟨b, off + i, none⟩ = some (.string x)
theorem StrL.below {w w' : World} {A : Option Addr} {l : List ByteArray} (h : StrL w A l) (hb : Below w.heap.size w w') : StrL w' A l := fun i x hx => by
  obtain ⟨b, off, h1, h2, h3⟩ := h i x hx
  exact ⟨b, off, h1, Nat.lt_of_lt_of_le h2 hb.size, (hb.cell (p := ⟨b, off + i, none⟩) h2).trans h3⟩
theorem StrL.of_own {w : World} {base : Nat} {e : TypeId} {A : Option Addr} {c q : Nat} {l : List ByteArray} (h : w.ownsRow base e 1 (.slice A q c) l.length (l.map fun x => Value.string x)) : StrL w A l := fun i x hx => by
  have hlt : i < l.length := by
    rcases Nat.lt_or_ge i l.length with h' | h'
    · exact h'
    · rw [List.getElem?_eq_none h'] at hx; cases hx
  rcases h.2 with ⟨_, h0⟩ | ⟨g, cap, cur, h1, _, hh, _⟩
  · omega
  · injection h1 with h1 h2 h3
    subst h1 h2 h3
    refine ⟨g, 0, rfl, (Array.getElem?_eq_some_iff.1 hh).1, ?_⟩
    rw [Nat.zero_add, World.ownsRow.cellAt h i (by omega), List.getElem?_map, hx]; rfl

def hasB (l : List ByteArray) (s : ByteArray) : Bool := l.any fun y => y.toList == s.toList

set_option maxHeartbeats 800000 in
theorem has_any (A : Option Addr) (c : Nat) (l : List ByteArray) (s : ByteArray) (w : World) (hl : StrL w A l) (hn : l.length ≤ 100000) :
    Calls Try.prog 11 #[.slice A l.length c, .string s] w fun e w' => e = .returned (.bool (hasB l s)) ∧ w = w' := by
  obtain ⟨n, hn'⟩ : ∃ n, n = l.length := ⟨_, rfl⟩
  rw [← hn'] at hn ⊢
  have Hn := Lib.hid hn'; clear hn'
  have Hl := Lib.hid hl; clear hl
  go_enter Try.func11, Try.ntmps11
  go_wp2
  go_loop [5] (fun i => ∃ k : Nat, k ≤ n ∧ i = .int .i64 k ∧ Hid (∀ (q : Nat) (y : ByteArray), q < k → l[q]? = some y → (y.toList == s.toList) = false)) (fun i => n - (intOf i).toNat)
  case atStart => exact ⟨0, Nat.zero_le _, rfl, fun q y hq => absurd hq (by omega)⟩
  case round =>
    obtain ⟨k, hkn, rfl, hq⟩ := hrel
    by_cases hlt : k < n
    · obtain ⟨x, hx⟩ : ∃ x, l[k]? = some x := ⟨_, List.getElem?_eq_getElem (by rw [← Hn.out]; exact hlt)⟩
      obtain ⟨b, off, rfl, hbw, hc⟩ := Hl.out k x hx
      have hk1 : (k : Int) < (n : Int) := by omega
      have Hx := Lib.hid hx; clear hx
      go_wp2
      · go_ret
        refine ⟨ret_bool ?_, rfl⟩
        symm
        unfold hasB
        rw [List.any_eq_true]
        exact ⟨x, List.mem_of_getElem? Hx.out, ‹_›⟩
      · go_round
        case rel =>
          refine ⟨k + 1, by omega, by go_num, fun q y hqk hy => ?_⟩
          by_cases h : q < k
          · exact hq.out q y h hy
          · obtain rfl : q = k := by omega
            rw [Hx.out] at hy
            cases hy
            assumption
        case measure => simp [intOf]; omega
    · obtain rfl : k = n := by omega
      go_wp2
      go_ret
      refine ⟨ret_bool ?_, rfl⟩
      symm
      unfold hasB
      rw [List.any_eq_false]
      intro y hy
      obtain ⟨q, hq', rfl⟩ := List.getElem_of_mem hy
      have := hq.out q _ (by rw [Hn.out]; exact hq') (List.getElem?_eq_getElem hq')
      simpa using this
end Go.Proofs.Ytniopdfcdmifiaa
