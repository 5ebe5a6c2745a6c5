/-
  The reference cache: Remove, Get, Put, Keys and New, one contract a function.
-/
import Derived.Test.YtniopdfcdmifiaaRef1
namespace Go.Proofs.Ytniopdfcdmifiaa
namespace CR
open Go.RowKit

theorem eraseIdx_step {α : Type} (l : List α) (i k : Nat) (x : α) (hx : l[k]? = some x) (hne : k ≠ i) : (l.take (k + 1)).eraseIdx i = (l.take k).eraseIdx i ++ [x] := by
  have hlt : k < l.length := by
    rcases Nat.lt_or_ge k l.length with h | h
    · exact h
    · rw [List.getElem?_eq_none h] at hx; cases hx
  rw [List.take_add_one, hx, Option.toList_some]
  by_cases h : i < (l.take k).length
  · rw [List.eraseIdx_append_of_lt_length h]
  · have h2 : (l.take k).length = k := by rw [List.length_take]; omega
    rw [List.eraseIdx_of_length_le (by rw [List.length_append, h2]; simp; omega), List.eraseIdx_of_length_le (by omega)]
theorem eraseIdx_skip {α : Type} (l : List α) (i : Nat) (hi : i < l.length) : (l.take (i + 1)).eraseIdx i = (l.take i).eraseIdx i := by
  rw [List.eraseIdx_of_length_le (k := i) (l := l.take i) (by rw [List.length_take]; omega), List.take_add_one, List.getElem?_eq_getElem hi, Option.toList_some, List.eraseIdx_append_of_length_le (by rw [List.length_take]; omega)]
  have : i - (l.take i).length = 0 := by rw [List.length_take]; omega
  rw [this]; simp

set_option maxHeartbeats 1600000 in
set_option maxRecDepth 100000 in
theorem remove_hit (base g : Nat) (most h m : Nat) (l : List (ByteArray × Int)) (key : ByteArray) (w : World) (hc : IsC w base g most l h m) (hl : l.length ≤ 100000) (i : Nat) (hi : i < l.length) (hf : fnd key l = (i : Int)) :
    Calls Try.prog 29 #[.pointer (some ⟨g, 0, none⟩), .string key] w fun e w' => e = .returned (.bool true) ∧ IsC w' base g most (rem key l) h m ∧ FrT 44 88 base w w' ∧ ∀ b, b < w.heap.size → b ≠ g → w'.heap[b]? = w.heap[b]? := by
  have Hfind := Lib.hid (find_any base g most h m l key w hc hl i hf)
  have hrem : rem key l = l.eraseIdx i := by rw [rem_hit hf, List.eraseIdx_eq_take_drop_succ]
  rw [hrem]
  clear hrem hf
  obtain ⟨A, c, hc⟩ := hc
  have hcs := fun (wr : World) k (hb : Below w.heap.size w wr) hk => (hc.kept hb).cells k hk
  have hc3 : ∀ wr, Below w.heap.size w wr → wr.cell? ⟨g, 3, none⟩ = some (.slice A l.length c) ∧ wr.frozen? ⟨g, 3, none⟩ = false := fun wr hb => ⟨(hc.kept hb).2.1.cell 3, (hc.kept hb).2.1.frozen 3⟩
  have hset : ∀ (w1 : World) A' q c' l', Below w.heap.size w w1 → w1.ownsRow w.heap.size 88 2 (.slice A' q c') l'.length (l'.flatMap ent) →
     IsC (w1.setCell ⟨g, 3, none⟩ (.slice A' q c')) base g most l' h m ∧ FrT 44 88 base w (w1.setCell ⟨g, 3, none⟩ (.slice A' q c')) ∧ ∀ b, b < w.heap.size → b ≠ g → (w1.setCell ⟨g, 3, none⟩ (.slice A' q c')).heap[b]? = w.heap[b]? := fun w1 A' q c' l' hb ho => by
    obtain ⟨z1, z2⟩ := hc.setNew hb ho
    exact ⟨⟨_, _, z1⟩, z2, fun b hb' hbg => by rw [Below.heap_setCell _ _ _ _ hbg]; exact hb.block b hb'⟩
  obtain ⟨n, hn⟩ : ∃ n, n = l.length := ⟨_, rfl⟩
  obtain ⟨i0, hi0, hz0, hz1, hz2⟩ := info_parts infoE'
  rw [← hn] at hl hi hcs hc3
  have Hcs := Lib.hid hcs; clear hcs
  have Hc3 := Lib.hid hc3; clear hc3
  have Hset := Lib.hid hset; clear hset
  have Hn := Lib.hid hn; clear hn
  have Hc := Lib.hid hc; clear hc
  have Hi := Lib.hid hi0; clear hi0
  have Hz0 := Lib.hid hz0; clear hz0
  have Hz1 := Lib.hid hz1; clear hz1
  have Hz2 := Lib.hid hz2; clear hz2
  go_enter Try.func29, Try.ntmps29
  go_wp2_with (go_at_call 45; refine Hfind.out.mono ?_; rintro e w1 ⟨rfl, rfl⟩)
  go_loopw [6, 7] (fun v j wr => ∃ (k : Nat) (q : Nat) (B : Option Addr) (d : Nat) (E : List (ByteArray × Int)), k ≤ n ∧ q ≤ k ∧ j = .int .i64 k ∧ v = .slice B q d ∧ Hid (E = (l.take k).eraseIdx i) ∧ Hid (q = E.length) ∧ Hid (wr.ownsRow w.heap.size 88 2 (.slice B q d) q (E.flatMap ent)) ∧ Hid (Below w.heap.size w wr)) (fun _ j _ => n - (intOf j).toNat)
  case atStart => exact ⟨0, 0, none, 0, [], by omega, by omega, rfl, rfl, by simp [Hid], rfl, World.ownsRow_nil _ _ _ _, Below.refl _ _⟩
  case round =>
    obtain ⟨k, q, B, d, E, hkn, hqk, rfl, rfl, HE, HQ, Hown, Hb⟩ := hrel
    obtain ⟨c3, f3⟩ := Hc3.out wr Hb.out
    by_cases hlt : k < n
    · obtain ⟨gb, x, rfl, hx, hgb, x0, x1⟩ := Hcs.out wr k Hb.out hlt
      have Hx := Lib.hid hx; clear hx
      have hk1 : (k : Int) < (n : Int) := by omega
      by_cases hki : k = i
      · subst hki
        have hbne : ((k : Int) != (k : Int)) = false := by simp
        go_wp2
        go_roundw
        case rel => exact ⟨k + 1, q, B, d, E, by omega, by omega, by go_num, rfl, HE.out.trans (eraseIdx_skip l k (by rw [← Hn.out]; exact hi)).symm, HQ, Hown, Hb⟩
        case measure => simp [intOf]; omega
      · have hbne : ((k : Int) != (i : Int)) = true := by rw [bne_iff_ne]; omega
        have hbw : w.heap.size ≤ wr.heap.size := Hb.out.size
        have hown0 := Hown.out.alloc (.cells #[.string x.1, .int .i64 x.2] 88)
        have Hown0 := Lib.hid hown0; clear hown0
        go_wp2_with (at_builtin; refine wpList_append_own _ rfl (.tmp 25) (.tmp 33) 42 rfl w.heap.size 88 i0 _ 2 24 Try.underlying42 Hi.out Hz0.out Hz1.out Hz2.out rfl (by decide) _ _ _ rfl Hown0.out ⟨wr.heap.size, 0, none⟩ 1 1 (ent x) rfl rfl ?c1 ?c2 ?c3 ?c4 ?c5 ?_)
        case c1 =>
          intro j u hj
          rw [Addr.add_lit, Nat.zero_add]
          exact ((Blk.new wr 88 (ent x)).cell j).trans hj
        case c2 => intro u hu; exact ent_one [x] u (by simpa using hu)
        case c3 => unfold maxLen; omega
        case c4 => omega
        case c5 => simp; omega
        intro v' w1 hown' hgr' _
        obtain ⟨B', q', d', hv'⟩ := own_slice hown'
        rw [hv'] at hown' ⊢
        obtain rfl := own_len hown'
        have hb1 : Below w.heap.size w w1 := (Hb.out.alloc hbw _).grown hgr' (by simp; omega) (fun z hz => (Hown0.out.lt z hz).1)
        have hE1 : E ++ [x] = (l.take (k + 1)).eraseIdx i := by rw [eraseIdx_step l i k x Hx.out hki, ← HE.out]
        have hown1 : w1.ownsRow w.heap.size 88 2 (.slice B' (q + 1) d') (q + 1) ((E ++ [x]).flatMap ent) := by
          rw [List.flatMap_append]; simpa using hown'
        have hq1 : q + 1 = (E ++ [x]).length := by simp [← HQ.out]
        have HE1 := Lib.hid hE1; clear hE1
        have HQ1 := Lib.hid hq1; clear hq1
        have Hb1 := Lib.hid hb1; clear hb1
        have Hown1 := Lib.hid hown1; clear hown1
        have Hown' := Lib.hid hown'; clear hown'
        have Hgr' := Lib.hid hgr'; clear hgr'
        have Hv' := Lib.hid hv'; clear hv'
        go_wp2
        go_roundw
        case rel => exact ⟨k + 1, q + 1, B', d', E ++ [x], by omega, by omega, by go_num, rfl, HE1, HQ1, Hown1, Hb1⟩
        case measure => simp [intOf]; omega
    · obtain rfl : k = n := by omega
      have hE2 : E = l.eraseIdx i := by rw [HE.out, List.take_of_length_le (by rw [← Hn.out]; omega)]
      obtain ⟨z1, z2, z3⟩ := Hset.out wr B q d E Hb.out (by rw [← HQ.out]; exact Hown.out)
      rw [hE2] at z1
      have Hz1' := Lib.hid z1; clear z1
      have Hz2' := Lib.hid z2; clear z2
      have Hz3' := Lib.hid z3; clear z3
      have HE2 := Lib.hid hE2; clear hE2
      go_wp2
      go_ret
      exact ⟨rfl, Hz1'.out, Hz2'.out, Hz3'.out⟩

set_option maxHeartbeats 400000 in
theorem remove_miss (base g : Nat) (most h m : Nat) (l : List (ByteArray × Int)) (key : ByteArray) (w : World) (hc : IsC w base g most l h m) (hl : l.length ≤ 100000) (hf : fnd key l = -1) :
    Calls Try.prog 29 #[.pointer (some ⟨g, 0, none⟩), .string key] w fun e w' => e = .returned (.bool false) ∧ w = w' := by
  have Hfind := Lib.hid (find_any base g most h m l key w hc hl (-1) hf)
  clear hc hf
  go_enter Try.func29, Try.ntmps29
  go_wp2_with (go_at_call 45; refine Hfind.out.mono ?_; rintro e w1 ⟨rfl, rfl⟩)
  go_ret
  exact ⟨rfl, rfl⟩

theorem remove_any (base g : Nat) (most h m : Nat) (l : List (ByteArray × Int)) (key : ByteArray) (w : World) (hc : IsC w base g most l h m) (hl : l.length ≤ 100000) :
    Calls Try.prog 29 #[.pointer (some ⟨g, 0, none⟩), .string key] w fun e w' => e = .returned (.bool (look key l).isSome) ∧ IsC w' base g most (rem key l) h m ∧ FrT 44 88 base w w' ∧ ∀ b, b < w.heap.size → b ≠ g → w'.heap[b]? = w.heap[b]? := by
  rcases fnd_cases key l with hf | ⟨i, y, hf, hi, hy, _⟩
  · refine (remove_miss base g most h m l key w hc hl hf).mono ?_
    rintro e w' ⟨h1, rfl⟩
    rw [look_miss hf, rem_miss hf]
    exact ⟨h1, hc, FrT.refl _ _ _ _, fun _ _ _ => rfl⟩
  · refine (remove_hit base g most h m l key w hc hl i hi hf).mono ?_
    rintro e w' ⟨h1, h2⟩
    rw [look_hit hf hy]
    exact ⟨h1, h2⟩
end CR
end Go.Proofs.Ytniopdfcdmifiaa
