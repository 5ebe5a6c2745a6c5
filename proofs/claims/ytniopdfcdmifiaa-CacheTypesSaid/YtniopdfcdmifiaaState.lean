/-
  The statements' helpers Strings (at one list twice) and state (a cache and the reference that hold the same).
-/
import Derived.Test.YtniopdfcdmifiaaCI5
import Derived.Test.YtniopdfcdmifiaaAlive
import Derived.Test.YtniopdfcdmifiaaRef3
import Derived.Deep.RegionHeld3
namespace Go.Proofs.Ytniopdfcdmifiaa
open Go.RowKit

theorem StrL.drewN {w : World} {A : Option Addr} {l : List ByteArray} (h : StrL w A l) (n : Nat) : StrL (w.drewN n) A l := h

set_option maxHeartbeats 800000 in
theorem strings_same (A B : Option Addr) (c d : Nat) (l : List ByteArray) (w : World) (ha : StrL w A l) (hb : StrL w B l) (hl : l.length ≤ 100000) :
    Calls Try.prog 22 #[.slice A l.length c, .slice B l.length d] w fun e w' => e = .returned (.bool true) ∧ ∃ n, w' = w.drewN n := by
  obtain ⟨n, hn⟩ : ∃ n, n = l.length := ⟨_, rfl⟩
  have hlk : ∀ k, k < n → ∃ x, l[k]? = some x := fun k hk => ⟨_, List.getElem?_eq_getElem (by omega)⟩
  rw [← hn] at hl ⊢
  clear hn
  have Hlk := Lib.hid hlk; clear hlk
  have Ha := Lib.hid ha; clear ha
  have Hb := Lib.hid hb; clear hb
  have hnn : ((n : Int) != (n : Int)) = false := by simp
  go_enter Try.func22, Try.ntmps22
  go_wp2
  go_loopw [5] (fun i wr => ∃ k nq : Nat, k ≤ n ∧ i = .int .i64 k ∧ wr = w.drewN nq) (fun i _ => n - (intOf i).toNat)
  case atStart => exact ⟨0, 0, Nat.zero_le _, rfl, rfl⟩
  case round =>
    obtain ⟨k, nq, hkn, rfl, rfl⟩ := hrel
    by_cases hlt : k < n
    · obtain ⟨x, hx⟩ := Hlk.out k hlt
      obtain ⟨b1, o1, rfl, _, ca⟩ := Ha.out k x hx
      obtain ⟨b2, o2, rfl, _, cb⟩ := Hb.out k x hx
      clear hx
      have hk1 : (k : Int) < (n : Int) := by omega
      go_wp2
      go_quiet (fail)
      go_wp2
      go_roundw
      case rel => exact ⟨k + 1, _, by omega, by go_num, rfl⟩
      case measure => simp [intOf]; omega
    · obtain rfl : k = n := by omega
      go_wp2
      go_ret
      exact ⟨rfl, _, rfl⟩

set_option maxHeartbeats 1600000 in
theorem state_any (base base' g g' : Nat) (most h m : Nat) (l : List (ByteArray × Int)) (w : World) (hc : CI.IsC w base g most l h m) (hr : CR.IsC w base' g' most l h m) (hm0 : 0 < most) (hl : l.length ≤ 100000) :
    Calls Try.prog 30 #[.pointer (some ⟨g, 0, none⟩), .pointer (some ⟨g', 0, none⟩)] w fun e w' => e = .returned (.bool true) ∧ Below w.heap.size w w' := by
  have Hstats := Lib.hid (CI.stats_any base g most h m l w hc hm0)
  have hgl : g' < w.heap.size := by obtain ⟨A, c, h1⟩ := hr; exact h1.2.1.lt
  have hW : ∀ w1, Below w.heap.size w w1 → CI.IsC w1 base g most l h m ∧ CR.IsC w1 base' g' most l h m := fun w1 hb => ⟨hc.kept hb, hr.kept hb⟩
  have hlen : ∀ w1, Below w.heap.size w w1 → Calls Try.prog 27 #[.pointer (some ⟨g, 0, none⟩)] w1 fun e w' => e = .returned (.int .i64 l.length) ∧ w1 = w' := fun w1 hb => CI.len_any base g most h m l w1 (hc.kept hb) hm0
  have hk1 : ∀ w1, Below w.heap.size w w1 → Calls Try.prog 26 #[.pointer (some ⟨g, 0, none⟩)] w1 fun e w' => ∃ A c, e = .returned (.slice A l.length c) ∧ StrL w' A (l.map (·.1)) ∧ Below w1.heap.size w1 w' := fun w1 hb =>
    (CI.keys_any base g most h m l w1 (hc.kept hb) hm0 hl).mono fun e w' ⟨v, h1, h2, h3⟩ => by
      obtain ⟨A, q, c, rfl⟩ := own_slice h2
      obtain rfl := own_len h2
      refine ⟨A, c, h1, ?_, h3⟩
      have : (l.map fun x => Value.string x.1) = (l.map (·.1)).map fun x => Value.string x := by simp
      rw [this] at h2
      exact StrL.of_own (by rw [List.length_map]; exact h2)
  have hk2 : ∀ w1, Below w.heap.size w w1 → Calls Try.prog 24 #[.pointer (some ⟨g', 0, none⟩)] w1 fun e w' => ∃ A c, e = .returned (.slice A l.length c) ∧ StrL w' A (l.map (·.1)) ∧ Below w1.heap.size w1 w' := fun w1 hb =>
    (CR.keys_any base' g' most h m l w1 (hr.kept hb) hl).mono fun e w' ⟨v, h1, h2, h3⟩ => by
      obtain ⟨A, q, c, rfl⟩ := own_slice h2
      obtain rfl := own_len h2
      refine ⟨A, c, h1, ?_, h3⟩
      have : (l.map fun x => Value.string x.1) = (l.map (·.1)).map fun x => Value.string x := by simp
      rw [this] at h2
      exact StrL.of_own (by rw [List.length_map]; exact h2)
  have hst : ∀ w1 A B c d, StrL w1 A (l.map (·.1)) → StrL w1 B (l.map (·.1)) → Calls Try.prog 22 #[.slice A l.length c, .slice B l.length d] w1 fun e w' => e = .returned (.bool true) ∧ ∃ n, w' = w1.drewN n := fun w1 A B c d ha hb => by
    have := strings_same A B c d (l.map (·.1)) w1 ha hb (by simpa using hl)
    rw [List.length_map] at this
    exact this
  have hcells : ∀ w1, Below w.heap.size w w1 → ∃ A c, w1.cell? ⟨g', 3, none⟩ = some (.slice A l.length c) ∧ w1.cell? ⟨g', 1, none⟩ = some (.int .i64 h) ∧ w1.cell? ⟨g', 2, none⟩ = some (.int .i64 m) := fun w1 hb => by
    obtain ⟨A, c, h1⟩ := hr.kept hb
    exact ⟨A, c, h1.2.1.cell 3, h1.2.1.cell 1, h1.2.1.cell 2⟩
  obtain ⟨A, c, h1⟩ := hr
  have c3 : ∀ w1, Below w.heap.size w w1 → w1.cell? ⟨g', 3, none⟩ = some (.slice A l.length c) ∧ w1.cell? ⟨g', 1, none⟩ = some (.int .i64 h) ∧ w1.cell? ⟨g', 2, none⟩ = some (.int .i64 m) := fun w1 hb =>
    ⟨(h1.kept hb).2.1.cell 3, (h1.kept hb).2.1.cell 1, (h1.kept hb).2.1.cell 2⟩
  have C3 := Lib.hid c3; clear c3
  have H1 := Lib.hid h1; clear h1
  clear hcells hW hc
  obtain ⟨n, hn⟩ : ∃ n, n = l.length := ⟨_, rfl⟩
  rw [← hn] at hlen hk1 hk2 hst C3
  have Hlen := Lib.hid hlen; clear hlen
  have Hk1 := Lib.hid hk1; clear hk1
  have Hk2 := Lib.hid hk2; clear hk2
  have Hst := Lib.hid hst; clear hst
  clear hn
  have hee : ((n : Int) == (n : Int)) = true := by simp
  have hhh : ((h : Int) == (h : Int)) = true := by simp
  have hmm : ((m : Int) == (m : Int)) = true := by simp
  go_enter Try.func30, Try.ntmps30
  go_wp2_with (go_at_call 47; refine Hstats.out.mono ?_; rintro e w1 ⟨rfl, hb⟩; have Hb := Lib.hid hb; clear hb)
  have hbd : Below w.heap.size w w1.drew := Hb.out.drew
  obtain ⟨d3, d1, d2⟩ := C3.out _ hbd
  have Hbd := Lib.hid hbd; clear hbd
  go_region_held3 (fun w' => w'.cell? ⟨g', 3, none⟩ = some (.slice A n c) ∧ w'.cell? ⟨g', 1, none⟩ = some (.int .i64 h) ∧ w'.cell? ⟨g', 2, none⟩ = some (.int .i64 m)) (first | exact ⟨d3, d1, d2⟩ | exact ⟨k3, k1, k2⟩ | exact ⟨j3, j1, j2⟩) (first | (go_at_call 27; refine (Hlen.out _ Hbd.out).mono ?_; rintro e w2 ⟨rfl, rfl⟩) | (go_at_call 26; refine (Hk1.out _ Hbd.out).mono ?_; rintro e w3 ⟨A1, q1, rfl, hs1, hb3⟩; have Hb3 := Lib.hid (Hbd.out.trans (hb3.mono Hbd.out.size)); clear hb3; have Hs1 := Lib.hid hs1; clear hs1; obtain ⟨k3, k1, k2⟩ := C3.out _ Hb3.out) | (go_at_call 24; refine (Hk2.out _ Hb3.out).mono ?_; rintro e w4 ⟨A2, q2, rfl, hs2, hb4⟩; have Hs3 := Lib.hid (Hs1.out.below hb4); have Hb4 := Lib.hid (Hb3.out.trans (hb4.mono Hb3.out.size)); clear hb4; have Hs2 := Lib.hid hs2; clear hs2; obtain ⟨j3, j1, j2⟩ := C3.out _ Hb4.out) | (go_at_call 22; refine (Hst.out _ _ _ _ _ Hs3.out Hs2.out).mono ?_; rintro e w5 ⟨rfl, n5, rfl⟩))
  go_wp2
  go_ret
  exact ⟨rfl, Hb4.out.trans ⟨rfl, rfl, rfl, Nat.le_refl _, fun _ _ => rfl⟩⟩
end Go.Proofs.Ytniopdfcdmifiaa
