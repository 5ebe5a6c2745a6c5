/-
  The methods of the cache (values: structs), continued: one contract a method.
-/
import Derived.Test.YtniopdfcdmifiaaCP2
import Derived.Deep.QuietTactic
import Derived.BigQuiet
import Derived.StillTailTactics
namespace Go.Proofs.Ytniopdfcdmifiaa
namespace CP
open Go.RowKit

set_option maxHeartbeats 400000 in
theorem new_ok (a : Nat) (w : World) (h : 1 ≤ a) (h2 : a ≤ 1024) :
    Calls Try.prog 14 #[.int .i64 a] w fun e w' => e = .returned (.tuple #[.pointer (some ⟨w.heap.size, 0, none⟩), .int .i64 0]) ∧ Below w.heap.size w w' ∧ IsC w' w.heap.size w.heap.size a ([] : List (ByteArray × (ByteArray × Int))) 0 0 := by
  have h1' : decide ((a : Int) < 1) = false := by simp; omega
  have h2' : decide (1024 < (a : Int)) = false := by simp; omega
  go_enter Try.func14, Try.ntmps14
  go_wp2
  go_ret2
  exact ⟨rfl, (Below.refl _ w).alloc (Nat.le_refl _) _, none, 0, Nat.le_refl _, Blk.new w 78 [.int .i64 a, .slice none 0 0, .int .i64 0, .int .i64 0], World.ownsRow_nil _ _ _ _⟩

set_option maxHeartbeats 400000 in
theorem new_bad (a : Int) (w : World) (h : a < 1 ∨ 1024 < a) :
    Calls Try.prog 14 #[.int .i64 a] w fun e w' => e = .returned (.tuple #[.pointer none, .int .i64 1]) ∧ w = w' := by
  by_cases h1 : a < 1
  · go_enter Try.func14, Try.ntmps14
    go_wp2
    go_ret2
    exact ⟨rfl, rfl⟩
  · have h2 : 1024 < a := by omega
    have h1' : decide (a < 1) = false := by simpa using h1
    go_enter Try.func14, Try.ntmps14
    go_wp2
    go_ret2
    exact ⟨rfl, rfl⟩

theorem one_new (w : World) (o : Obj) (u : Value) (j : Nat) (v : Value) (hj : [u][j]? = some v) : ((w.alloc o).alloc (.cells #[u] 9)).cell? ((⟨w.heap.size + 1, 0, none⟩ : Addr).add j) = some v := by
  have := (Blk.new (w.alloc o) 9 [u]).cell j
  rw [World.size_alloc] at this
  rw [Addr.add_lit, Nat.zero_add]
  exact this.trans hj
theorem info9 : (Try.prog.info? 9).map (fun i => (i.zero, i.size, i.bytes)) = some (some (.string ⟨#[]⟩), 1, 16) := by kernel_rfl
set_option maxHeartbeats 1600000 in
theorem keys_any (base g : Nat) (most h m : Nat) (l : List (ByteArray × (ByteArray × Int))) (w : World) (hc : IsC w base g most l h m) (hm0 : 0 < most) (hl : l.length ≤ 100000) :
    Calls Try.prog 25 #[.pointer (some ⟨g, 0, none⟩)] w fun e w' => ∃ v, e = .returned v ∧ w'.ownsRow w.heap.size 9 1 v l.length (l.map fun x => .string x.1) ∧ Below w.heap.size w w' := by
  obtain ⟨A, c, hc⟩ := hc
  have c0 : w.cell? ⟨g, 0, none⟩ = some (.int .i64 most) := hc.2.1.cell 0
  have c1 : w.cell? ⟨g, 1, none⟩ = some (.slice A l.length c) := hc.2.1.cell 1
  obtain ⟨i0, hi, hz0, hz1, hz2⟩ := info_parts info9
  have Hi := Lib.hid hi; clear hi
  have Hz0 := Lib.hid hz0; clear hz0
  have Hz1 := Lib.hid hz1; clear hz1
  have Hz2 := Lib.hid hz2; clear hz2
  have hcell : ∀ (wr : World) (k : Nat), Below w.heap.size w wr → k < l.length → ∃ gb x, A = some ⟨gb, 0, none⟩ ∧ l[k]? = some x ∧ gb < w.heap.size ∧ ∀ j, j < 3 → wr.cell? ⟨gb, k * 3 + j, none⟩ = (ent x)[j]? := fun wr k hb hk => by
    rcases hc.2.2.2 with ⟨_, h0⟩ | ⟨g', cap, cur, h1, _, hh, _⟩
    · omega
    · injection h1 with h1 _ _
      subst h1
      refine ⟨g', l[k], rfl, List.getElem?_eq_getElem hk, (Array.getElem?_eq_some_iff.1 hh).1, fun j hj => ?_⟩
      rw [hb.cell (p := ⟨g', k * 3 + j, none⟩) (Array.getElem?_eq_some_iff.1 hh).1, World.ownsRow.cellAt hc.2.2 (k * 3 + j) (by omega)]
      exact flat_get ent_len l k j _ (List.getElem?_eq_getElem hk) hj
  have Hcell := Lib.hid hcell; clear hcell
  have Hc := Lib.hid hc; clear hc
  obtain ⟨n, hn⟩ : ∃ n, n = l.length := ⟨_, rfl⟩
  rw [← hn] at hl c1 Hcell ⊢
  have Hn := Lib.hid hn; clear hn
  go_enter Try.func25, Try.ntmps25
  go_wp2_with (go_at_call 41; refine (valid_any g most _ c0 hm0).mono ?_; rintro e w1 ⟨rfl, rfl⟩)
  go_loopw [3, 14] (fun v i wr => ∃ k : Nat, k ≤ n ∧ i = .int .i64 k ∧ Below w.heap.size w wr ∧ wr.ownsRow w.heap.size 9 1 v k ((l.take k).map fun x => .string x.1)) (fun _ i _ => n - (intOf i).toNat)
  case atStart => exact ⟨0, Nat.zero_le _, rfl, Below.refl _ _, by simpa using World.ownsRow_nil w w.heap.size 9 1⟩
  case round =>
    obtain ⟨k, hkn, rfl, hb, hown⟩ := hrel
    by_cases hlt : k < n
    · obtain ⟨gb, x, rfl, hx, hgb, hcc⟩ := Hcell.out wr k hb hlt
      have cc0 := hcc 0 (by omega)
      simp only [ent, List.getElem?_cons_zero, Nat.add_zero] at cc0
      have cc1 := hcc 1 (by omega)
      simp only [ent, List.getElem?_cons_succ, List.getElem?_cons_zero] at cc1
      have cc2 := hcc 2 (by omega)
      simp only [ent, List.getElem?_cons_succ, List.getElem?_cons_zero] at cc2
      clear hcc
      have hgw : gb < wr.heap.size := Nat.lt_of_lt_of_le hgb hb.size
      have hk1 : (k : Int) < (n : Int) := by omega
      have Hx := Lib.hid hx; clear hx
      have Hb := Lib.hid hb; clear hb
      have Hown := Lib.hid hown; clear hown
      go_wp2_with (at_builtin; refine wpList_append_own _ rfl (.tmp 18) (.tmp 21) 22 rfl w.heap.size 9 i0 (.string ⟨#[]⟩) 1 16 Try.underlying22 Hi.out Hz0.out Hz1.out Hz2.out rfl (by decide) _ _ _ rfl ((Hown.out.alloc _).alloc _) ⟨wr.heap.size + 1, 0, none⟩ 1 1 [.string x.1] rfl rfl ?c1 ?c2 ?c3 ?c4 ?c5 ?_)
      case c1 => intro j u hj; exact one_new wr _ _ j u hj
      case c2 => intro u hu; simp only [List.mem_singleton] at hu; subst hu; rfl
      case c3 => unfold maxLen; omega
      case c4 => omega
      case c5 => have := Hb.out.size; simp; omega
      intro v' w1 hown' hgr' _
      have hs : w.heap.size ≤ wr.heap.size := Hb.out.size
      have hb2 : Below w.heap.size w w1 := ((Hb.out.alloc hs _).alloc (by simp; omega) _).grown hgr' (by simp; omega) (fun q hq => (Hown.out.lt q hq).1)
      have hown2 : w1.ownsRow w.heap.size 9 1 v' (k + 1) ((l.take (k + 1)).map fun x => .string x.1) := by
        have : (l.take (k + 1)).map (fun x => Value.string x.1) = (l.take k).map (fun x => Value.string x.1) ++ [.string x.1] := by
          rw [List.take_add_one, Hx.out]; simp
        rw [this, List.map_take]
        exact hown'
      have Hb2 := Lib.hid hb2; clear hb2
      have Hown2 := Lib.hid hown2; clear hown2
      have Hown' := Lib.hid hown'; clear hown'
      have Hgr' := Lib.hid hgr'; clear hgr'
      go_wp2
      go_roundw
      case rel => exact ⟨k + 1, by omega, by go_num, Hb2.out, Hown2.out⟩
      case measure => simp [intOf]; omega
    · obtain rfl : k = n := by omega
      go_wp2
      go_ret
      refine ⟨_, rfl, ?_, hb⟩
      rw [List.take_of_length_le (by rw [← Hn.out]; omega)] at hown
      exact hown
end CP
end Go.Proofs.Ytniopdfcdmifiaa
