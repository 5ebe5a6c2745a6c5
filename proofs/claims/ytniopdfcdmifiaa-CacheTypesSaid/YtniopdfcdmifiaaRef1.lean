/-
  The reference cache: find, first and Remove, one contract a function.
-/
import Derived.Test.YtniopdfcdmifiaaRows
import Derived.Test.YtniopdfcdmifiaaMem
import Derived.Test.YtniopdfcdmifiaaLru
import Derived.WalkKit
import Derived.WalkSpells
import Derived.WalkLawsBesides
import Derived.Deep.QuietTactic
import Derived.BigQuiet
namespace Go.Proofs.Ytniopdfcdmifiaa
namespace CR
open Go.RowKit

def ent (x : ByteArray × Int) : List Value := [.string x.1, .int .i64 x.2]
theorem ent_len (x : ByteArray × Int) : (ent x).length = 2 := rfl
theorem ent_one (l : List (ByteArray × Int)) : ∀ u ∈ l.flatMap ent, u.oneCell' = true := by
  intro u hu
  rw [List.mem_flatMap] at hu
  obtain ⟨x, _, hu⟩ := hu
  simp only [ent, List.mem_cons, List.not_mem_nil, or_false] at hu
  rcases hu with rfl | rfl <;> rfl
theorem infoE' : (Try.prog.info? 88).map (fun i => (i.zero, i.size, i.bytes)) = some (some (.agg #[.string ⟨#[]⟩, .int .i64 0]), 2, 24) := by kernel_rfl
/-- the reference cache at block g -/
def IsV (w : World) (base g most : Nat) (A : Option Addr) (c : Nat) (l : List (ByteArray × Int)) (h m : Nat) : Prop :=
  base ≤ g ∧ Blk w g 44 [.int .i64 most, .int .i64 h, .int .i64 m, .slice A l.length c] ∧ w.ownsRow base 88 2 (.slice A l.length c) l.length (l.flatMap ent)
def IsC (w : World) (base g most : Nat) (l : List (ByteArray × Int)) (h m : Nat) : Prop := ∃ A c, IsV w base g most A c l h m
section
variable {w w' : World} {base g most : Nat} {A : Option Addr} {c : Nat} {l : List (ByteArray × Int)} {h m : Nat}
theorem IsV.kept (hc : IsV w base g most A c l h m) (hb : Below w.heap.size w w') : IsV w' base g most A c l h m :=
  ⟨hc.1, hc.2.1.below hb hc.2.1.lt, own_below hc.2.2 hb⟩
theorem IsC.kept (hc : IsC w base g most l h m) (hb : Below w.heap.size w w') : IsC w' base g most l h m := by
  obtain ⟨A, c, hc⟩ := hc
  exact ⟨A, c, hc.kept hb⟩
theorem IsC.keptFr (hc : IsC w base g most l h m) {S E base' : Nat} (hb : FrT S E base' w w') (h1 : 44 ≠ S) (h2 : 44 ≠ E) (h3 : 88 ≠ S) (h4 : 88 ≠ E) : IsC w' base g most l h m := by
  obtain ⟨A, c, a1, a2, a3⟩ := hc
  refine ⟨A, c, a1, hb.blk a2 h1 h2, ?_⟩
  rcases a3 with ⟨b1, b2⟩
  refine ⟨b1, ?_⟩
  rcases b2 with b2 | ⟨g', cap, cur, c1, c2, c3, c4⟩
  · exact .inl b2
  · exact .inr ⟨g', cap, cur, c1, c2, hb.keep _ _ _ _ c3 h3 h4, c4⟩
theorem IsV.base_le (hc : IsV w base g most A c l h m) : base ≤ w.heap.size := Nat.le_of_lt (Nat.lt_of_le_of_lt hc.1 hc.2.1.lt)
theorem IsV.cells (hc : IsV w base g most A c l h m) (k : Nat) (hk : k < l.length) : ∃ gb x, A = some ⟨gb, 0, none⟩ ∧ l[k]? = some x ∧ gb < w.heap.size ∧ w.cell? ⟨gb, k * 2, none⟩ = some (.string x.1) ∧ w.cell? ⟨gb, k * 2 + 1, none⟩ = some (.int .i64 x.2) := by
  rcases hc.2.2.2 with ⟨_, h0⟩ | ⟨g', cap, cur, h1, _, hh, _⟩
  · omega
  · injection h1 with h1 _ _
    subst h1
    refine ⟨g', l[k], rfl, List.getElem?_eq_getElem hk, (Array.getElem?_eq_some_iff.1 hh).1, ?_, ?_⟩
    · rw [World.ownsRow.cellAt hc.2.2 (k * 2) (by omega)]
      exact flat_get ent_len l k 0 _ (List.getElem?_eq_getElem hk) (by omega)
    · rw [World.ownsRow.cellAt hc.2.2 (k * 2 + 1) (by omega)]
      exact flat_get ent_len l k 1 _ (List.getElem?_eq_getElem hk) (by omega)
/-- a new list, of a block of the call's own, behind the cache's pointer -/
theorem IsV.setNew (hc : IsV w base g most A c l h m) {w1 : World} {A' : Option Addr} {q c' : Nat} {l' : List (ByteArray × Int)} (hb : Below w.heap.size w w1)
    (ho : w1.ownsRow w.heap.size 88 2 (.slice A' q c') l'.length (l'.flatMap ent)) :
    IsV (w1.setCell ⟨g, 3, none⟩ (.slice A' q c')) base g most A' c' l' h m ∧ FrT 44 88 base w (w1.setCell ⟨g, 3, none⟩ (.slice A' q c')) := by
  have hq := own_len ho
  subst hq
  have h1 := hc.kept hb
  refine ⟨⟨hc.1, h1.2.1.set_ 3 _, ?_⟩, FrT.set_ (FrT.of_below hb hc.base_le) h1.2.1 (Or.inl rfl) hc.1 _⟩
  have h2 := own_set_blk ho h1.2.1 (by decide) 3 (.slice A' l'.length c')
  refine ⟨h2.1, ?_⟩
  rcases h2.2 with h3 | ⟨g', cap, cur, c1, c2, c3⟩
  · exact .inl h3
  · exact .inr ⟨g', cap, cur, c1, Nat.le_trans hc.base_le c2, c3⟩
end

set_option maxHeartbeats 800000 in
theorem find_any (base g : Nat) (most h m : Nat) (l : List (ByteArray × Int)) (key : ByteArray) (w : World) (hc : IsC w base g most l h m) (hl : l.length ≤ 100000) (r : Int) (hr : fnd key l = r) :
    Calls Try.prog 45 #[.pointer (some ⟨g, 0, none⟩), .string key] w fun e w' => e = .returned (.int .i64 r) ∧ w = w' := by
  obtain ⟨A, c, hc⟩ := hc
  subst hr
  have c3 : w.cell? ⟨g, 3, none⟩ = some (.slice A l.length c) := hc.2.1.cell 3
  obtain ⟨n, hn⟩ : ∃ n, n = l.length := ⟨_, rfl⟩
  have hcs := fun k hk => hc.cells k hk
  rw [← hn] at hl c3 hcs
  have Hcs := Lib.hid hcs; clear hcs
  have Hn := Lib.hid hn; clear hn
  have Hc := Lib.hid hc; clear hc
  go_enter Try.func45, Try.ntmps45
  go_wp2
  go_loop [5] (fun i => ∃ k : Nat, k ≤ n ∧ i = .int .i64 k ∧ Hid (∀ (q : Nat) (y : ByteArray × Int), q < k → l[q]? = some y → (y.1.toList == key.toList) = false)) (fun i => n - (intOf i).toNat)
  case atStart => exact ⟨0, Nat.zero_le _, rfl, fun q y hq => absurd hq (by omega)⟩
  case round =>
    obtain ⟨k, hkn, rfl, hq⟩ := hrel
    by_cases hlt : k < n
    · obtain ⟨gb, x, rfl, hx, hgb, x0, x1⟩ := Hcs.out k hlt
      have Hx := Lib.hid hx; clear hx
      have hk1 : (k : Int) < (n : Int) := by omega
      go_wp2
      · go_ret
        exact ⟨ret_int (fnd_some x Hx.out hq.out ‹_›).symm, rfl⟩
      · go_round
        case rel =>
          refine ⟨k + 1, by omega, by go_num, fun q y hqk hy => ?_⟩
          by_cases h : q < k
          · exact hq.out q y h hy
          · obtain rfl : q = k := by omega
            rw [Hx.out] at hy
            cases hy
            assumption
        case measure => simp [intOf]; omega
    · obtain rfl : k = n := by omega
      go_wp2
      go_ret
      exact ⟨ret_int (fnd_none (by rw [← Hn.out]; exact hq.out)).symm, rfl⟩

set_option maxHeartbeats 800000 in
theorem first_any (base g : Nat) (most h m : Nat) (l : List (ByteArray × Int)) (x : ByteArray × Int) (w : World) (hc : IsC w base g most l h m) (hl : l.length ≤ 100000) :
    Calls Try.prog 46 #[.pointer (some ⟨g, 0, none⟩), .agg #[.string x.1, .int .i64 x.2]] w fun e w' => e = .returned (.tuple #[]) ∧ IsC w' base g most (x :: l) h m ∧ FrT 44 88 base w w' ∧ ∀ b, b < w.heap.size → b ≠ g → w'.heap[b]? = w.heap[b]? := by
  obtain ⟨A, c, hc⟩ := hc
  have hgl := hc.2.1.lt
  have c3 : w.cell? ⟨g, 3, none⟩ = some (.slice A l.length c) := hc.2.1.cell 3
  obtain ⟨i0, hi, hz0, hz1, hz2⟩ := info_parts infoE'
  obtain ⟨W, hW⟩ : ∃ W, W = (w.alloc (.cells #[.string x.1, .int .i64 x.2] 88)).alloc (.cells #[.string x.1, .int .i64 x.2] 88) := ⟨_, rfl⟩
  have hbW : Below w.heap.size w W := by rw [hW]; exact ((Below.refl _ w).alloc (Nat.le_refl _) _).alloc (by simp) _
  have hsz : W.heap.size = w.heap.size + 2 := by rw [hW]; simp
  have hownW : W.ownsRow w.heap.size 88 2 (.slice (some ⟨w.heap.size + 1, 0, none⟩) 1 1) 1 (ent x) := by
    rw [hW]
    have := World.ownsRow_lit (base := w.heap.size) (e := 88) (size := 2) (w.alloc (.cells #[.string x.1, .int .i64 x.2] 88)) #[.string x.1, .int .i64 x.2] 1 (by simp) (by unfold maxLen; omega) rfl
    rw [World.size_alloc] at this
    exact this
  have hcW := hc.kept hbW
  have hap : ∃ A' q c' w1, ((Builtin.append_ #[42, 42] 42 #[.slice (some ⟨w.heap.size + 1, 0, none⟩) 1 1, .slice A l.length c]).run Try.prog W = .ok (.slice A' q c') w1) ∧ w1.ownsRow w.heap.size 88 2 (.slice A' q c') (x :: l).length ((x :: l).flatMap ent) ∧ Below w.heap.size w w1 := by
    rcases hc.2.2.2 with ⟨h1, h0⟩ | ⟨gb, cap, cur, h1, hbg, hh, hnc, hcm, hcs, htake⟩
    · injection h1 with a1 a2 a3
      subst a1 a3
      have hl0 : l = [] := List.eq_nil_of_length_eq_zero h0
      subst hl0
      refine ⟨_, _, _, W, run_append_owned_none (P := Try.prog) W w.heap.size 42 42 88 i0 2 Try.underlying42 hi _ 1 (ent x) hownW, by simpa using hownW, hbW⟩
    · injection h1 with a1 a2 a3
      subst a1 a3
      have hlt : gb < w.heap.size := (Array.getElem?_eq_some_iff.1 hh).1
      have hcell : ∀ j u, (l.flatMap ent)[j]? = some u → W.cell? ((⟨gb, 0, none⟩ : Addr).add j) = some u := fun j u hj => by
        rw [Addr.add_lit, Nat.zero_add, hbW.cell (p := ⟨gb, j, none⟩) hlt]
        have hjl : j < l.length * 2 := by
          rw [← flat_length ent_len]
          rcases Nat.lt_or_ge j (l.flatMap ent).length with h' | h'
          · exact h'
          · rw [List.getElem?_eq_none h'] at hj; cases hj
        rw [World.ownsRow.cellAt hc.2.2 j hjl]
        exact hj
      obtain ⟨v', w1, hr, h2, h3, _⟩ := run_append_own (P := Try.prog) W w.heap.size 42 42 88 i0 _ 2 24 Try.underlying42 hi hz0 hz1 hz2 rfl (by decide) _ 1 (ent x) hownW ⟨gb, 0, none⟩ l.length c (l.flatMap ent) (flat_length ent_len l) hcell (ent_one l) (by unfold maxLen; omega) (by omega) (by omega)
      obtain ⟨A', q, c', rfl⟩ := own_slice h2
      refine ⟨A', q, c', w1, hr, ?_, ?_⟩
      · rw [show (x :: l).length = 1 + l.length by simp; omega, List.flatMap_cons]; exact h2
      · exact hbW.grown h3 (by omega) (fun k hk => by simp [Value.ownBlock] at hk; omega)
  obtain ⟨A', q, c', w1, hap, ho1, hb1⟩ := hap
  obtain ⟨z1, z2⟩ := hc.setNew hb1 ho1
  have z3 : ∀ b, b < w.heap.size → b ≠ g → (w1.setCell ⟨g, 3, none⟩ (.slice A' q c')).heap[b]? = w.heap[b]? := fun b hb hbg => by
    rw [Below.heap_setCell _ _ _ _ hbg]; exact hb1.block b hb
  have d3 := (hc.kept hb1).2.1.cell 3
  have f3 := (hc.kept hb1).2.1.frozen 3
  simp only [List.getElem?_cons_succ, List.getElem?_cons_zero] at d3
  rw [hW] at hap
  have Hz1 := Lib.hid z1; clear z1
  have Hz2 := Lib.hid z2; clear z2
  have Hz3 := Lib.hid z3; clear z3
  have Hc := Lib.hid hc; clear hc
  have Hb1 := Lib.hid hb1; clear hb1
  have Ho1 := Lib.hid ho1; clear ho1
  have HW := Lib.hid hW; clear hW
  have HcW := Lib.hid hcW; clear hcW
  clear hownW hbW hsz hi hz0 hz1 hz2
  go_enter Try.func46, Try.ntmps46
  go_wp2_with (at_builtin; refine wpList_append_run' rfl (.tmp 7) (.tmp 11) 42 42 rfl _ _ rfl rfl hap ?_)
  go_end0
  exact ⟨rfl, ⟨_, _, Hz1.out⟩, Hz2.out, Hz3.out⟩
end CR
end Go.Proofs.Ytniopdfcdmifiaa
