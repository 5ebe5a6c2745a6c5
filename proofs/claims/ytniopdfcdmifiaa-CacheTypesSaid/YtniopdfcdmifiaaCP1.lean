/-
  slices.IndexFunc, slices.Delete and slices.Insert over rows of cache entries (values: structs), and the cache's methods find, valid and use: one contract a function.
-/
import Derived.Test.YtniopdfcdmifiaaRows
import Derived.Test.YtniopdfcdmifiaaMem
import Derived.Test.YtniopdfcdmifiaaPlain
import Derived.WalkKit
import Derived.WalkSpells
import Derived.WalkLawsBesides
import Derived.Deep.RegionHeld3
namespace Go.Proofs.Ytniopdfcdmifiaa
namespace CP
open Go.RowKit

def ent (x : ByteArray × (ByteArray × Int)) : List Value := [.string x.1, .string x.2.1, .int .i64 x.2.2]
theorem ent_len (x : ByteArray × (ByteArray × Int)) : (ent x).length = 3 := rfl
theorem ent_one (l : List (ByteArray × (ByteArray × Int))) : ∀ u ∈ l.flatMap ent, u.oneCell' = true := by
  intro u hu
  rw [List.mem_flatMap] at hu
  obtain ⟨x, _, hu⟩ := hu
  simp only [ent, List.mem_cons, List.not_mem_nil, or_false] at hu
  rcases hu with rfl | rfl | rfl <;> rfl
theorem infoE : (Try.prog.info? 84).map (·.size) = some 3 := by kernel_rfl
theorem infoE' : (Try.prog.info? 84).map (fun i => (i.zero, i.size, i.bytes)) = some (some (.agg #[.string ⟨#[]⟩, .string ⟨#[]⟩, .int .i64 0]), 3, 40) := by kernel_rfl
theorem zeroE : ∀ w, (zeroValue 84).run Try.prog w = .ok (.agg #[.string ⟨#[]⟩, .string ⟨#[]⟩, .int .i64 0]) w := fun _ => by kernel_rfl
theorem sizeE : ∀ w, (Go.sizeOf 84).run Try.prog w = .ok 3 w := fun _ => by kernel_rfl

set_option maxHeartbeats 400000 in
theorem clos_any (x : ByteArray × (ByteArray × Int)) (key : ByteArray) (kb : Nat) (w : World) (hk : w.cell? ⟨kb, 0, none⟩ = some (.string key)) (hlt : kb < w.heap.size) :
    Calls Try.prog 55 #[.agg #[.string x.1, .string x.2.1, .int .i64 x.2.2], .pointer (some ⟨kb, 0, none⟩)] w fun e w' => e = .returned (.bool (x.1.toList == key.toList)) ∧ w.alloc (.cells #[.string x.1, .string x.2.1, .int .i64 x.2.2] 84) = w' := by
  go_enter Try.func55, Try.ntmps55
  go_wp2
  go_ret
  exact ⟨rfl, rfl⟩

set_option maxHeartbeats 800000 in
theorem indexFunc_any (base : Nat) (v : Value) (l : List (ByteArray × (ByteArray × Int))) (key : ByteArray) (kb : Nat) (w : World) (hk : w.cell? ⟨kb, 0, none⟩ = some (.string key)) (hlt : kb < w.heap.size)
    (hown : w.ownsRow base 84 3 v l.length (l.flatMap ent)) (hl : l.length ≤ 100000) :
    Calls Try.prog 54 #[v, .func (.func 55) #[] #[.pointer (some ⟨kb, 0, none⟩)]] w fun e w' => e = .returned (.int .i64 (fnd key l)) ∧ Below w.heap.size w w' := by
  rcases hown.2 with ⟨rfl, h0⟩ | ⟨g, cap, cur, rfl, hbg, hg, hnc, hcm, hcs, htake⟩
  · have : l = [] := List.eq_nil_of_length_eq_zero h0
    subst this
    go_enter Try.func54, Try.ntmps54
    go_wp2
    go_loopw [8] (fun i wr => i = .int .i64 0 ∧ w = wr) (fun _ _ => 0)
    case atStart => exact ⟨rfl, rfl⟩
    case round =>
      obtain ⟨rfl, rfl⟩ := hrel
      go_wp2
      go_ret
      exact ⟨rfl, Below.refl _ _⟩
  · have hgl : g < w.heap.size := (Array.getElem?_eq_some_iff.1 hg).1
    have Hg := Lib.hid hg; clear hg
    have Ht := Lib.hid htake; clear htake
    have Hcs := Lib.hid hcs; clear hcs
    have Hown := Lib.hid hown; clear hown
    obtain ⟨n, hn⟩ : ∃ n, n = l.length := ⟨_, rfl⟩
    rw [← hn] at hl hnc Ht Hown ⊢
    have Hn := Lib.hid hn; clear hn
    go_enter Try.func54, Try.ntmps54
    go_wp2
    go_loopw [8] (fun i wr => ∃ k : Nat, k ≤ n ∧ i = .int .i64 k ∧ Below w.heap.size w wr ∧ Hid (∀ (q : Nat) (y : ByteArray × (ByteArray × Int)), q < k → l[q]? = some y → (y.1.toList == key.toList) = false)) (fun i _ => n - (intOf i).toNat)
    case atStart => exact ⟨0, Nat.zero_le _, rfl, Below.refl _ _, fun q y hq => absurd hq (by omega)⟩
    case round =>
      obtain ⟨k, hkn, rfl, hb, hq⟩ := hrel
      by_cases hlt' : k < n
      · obtain ⟨x, hx⟩ : ∃ x, l[k]? = some x := ⟨_, List.getElem?_eq_getElem (by rw [← Hn.out]; exact hlt')⟩
        have cc : ∀ j, j < 3 → wr.cell? ⟨g, k * 3 + j, none⟩ = (ent x)[j]? := fun j hj => by
          rw [hb.cell (p := ⟨g, k * 3 + j, none⟩) hgl, World.ownsRow.cellAt Hown.out (k * 3 + j) (by omega)]
          exact flat_get ent_len l k j x hx hj
        have c0 : wr.cell? ⟨g, k * 3, none⟩ = some (.string x.1) := cc 0 (by omega)
        have c1 : wr.cell? ⟨g, k * 3 + 1, none⟩ = some (.string x.2.1) := cc 1 (by omega)
        have c2 : wr.cell? ⟨g, k * 3 + 2, none⟩ = some (.int .i64 x.2.2) := cc 2 (by omega)
        clear cc
        have ck : wr.cell? ⟨kb, 0, none⟩ = some (.string key) := (hb.cell (p := ⟨kb, 0, none⟩) hlt).trans hk
        have hkw : kb < wr.heap.size := Nat.lt_of_lt_of_le hlt hb.size
        have Hx := Lib.hid hx; clear hx
        have hi1 : (k : Int) < (n : Int) := by omega
        go_wp2_with (go_at_call 55; refine (clos_any x key kb _ ck hkw).mono ?_; rintro e w1 ⟨rfl, rfl⟩)
        · go_ret
          refine ⟨ret_int (fnd_some x Hx.out hq.out ‹_›).symm, ?_⟩
          exact hb.alloc hb.size _
        · go_roundw
          case rel =>
            refine ⟨k + 1, by omega, by go_num, hb.alloc hb.size _, fun q y hqk hy => ?_⟩
            by_cases h : q < k
            · exact hq.out q y h hy
            · obtain rfl : q = k := by omega
              rw [Hx.out] at hy
              cases hy
              assumption
          case measure => simp [intOf]; omega
      · obtain rfl : k = n := by omega
        go_wp2
        go_ret
        exact ⟨ret_int (fnd_none (by rw [← Hn.out]; exact hq.out)).symm, hb⟩

set_option maxHeartbeats 1600000 in
theorem delete_walk (g n cap i j : Nat) (cur : List Value) (w : World) (hg : Blk w g 84 cur) (hc : cur.length = cap * 3) (hij : i < j) (hj : j ≤ n) (hn : n ≤ cap) (hcap : cap ≤ maxLen) (h1 : ∀ u ∈ cur.take (n * 3), u.oneCell' = true) :
    Calls Try.prog 43 #[.slice (some ⟨g, 0, none⟩) n cap, .int .i64 i, .int .i64 j] w fun e w' =>
      ∃ zs : List Value, zs.length = (j - i) * 3 ∧ e = .returned (.slice (some ⟨g, 0, none⟩) (n - (j - i)) cap) ∧ w' = w.drew.setRow g (splice (splice cur (i * 3) ((cur.take (n * 3)).drop (j * 3))) ((n - (j - i)) * 3) zs).toArray := by
  unfold maxLen at hcap
  have hb1 : (i : Int) ≤ (j : Int) := by omega
  have hb2 : (j : Int) ≤ (n : Int) := by omega
  have hb3 : ((i : Int) == (j : Int)) = false := by simp; omega
  obtain ⟨news, hnews⟩ : ∃ x, x = (cur.take (n * 3)).drop (j * 3) := ⟨_, rfl⟩
  have hnl : news.length = (n - j) * 3 := by rw [hnews, List.length_drop, List.length_take]; omega
  have hn1 : ∀ u ∈ news, u.oneCell' = true := fun u hu => h1 u (by rw [hnews] at hu; exact List.mem_of_mem_drop hu)
  have hng : ∀ q u, news[q]? = some u → w.drew.cell? ((⟨g, j * 3, none⟩ : Addr).add q) = some u := fun q u hq => by
    rw [Addr.add_lit]
    rw [hnews, List.getElem?_drop, List.getElem?_take] at hq
    split at hq
    · exact (hg.cell _).trans hq
    · cases hq
  have hrun : ∀ ad, (ad = ⟨g, j * 3, none⟩ ∨ n - j = 0) → ∀ ty c, (Builtin.append_ #[76, 76] ty #[.slice (some ⟨g, 0, none⟩) i cap, .slice (some ad) (n - j) c]).run Try.prog w.drew = .ok (.slice (some ⟨g, 0, none⟩) (i + (n - j)) cap) (w.drew.setRow g (splice cur (i * 3) news).toArray) := fun ad had ty c =>
    run_appendK w.drew 76 ty 84 3 Try.underlying76 infoE g i cap cur hg ad (n - j) c news hnl (by
      rcases had with rfl | h0
      · exact hng
      · intro q u hq; rw [List.eq_nil_of_length_eq_zero (l := news) (by omega)] at hq; simp at hq) hn1 (by omega) (by omega)
  obtain ⟨W1, hW1⟩ : ∃ W1, W1 = w.drew.setRow g (splice cur (i * 3) news).toArray := ⟨_, rfl⟩
  rw [← hW1] at hrun
  have hB1 : Blk W1 g 84 (splice cur (i * 3) news) := hW1 ▸ Blk.setRow hg.drew _
  have HW1 := Lib.hid hW1; clear hW1
  have hcl : ∃ zs : List Value, zs.length = (j - i) * 3 ∧ ∀ ty c, (Builtin.clear_ #[76] ty #[.slice (some ⟨g, (i + (n - j)) * 3, none⟩) (n - (i + (n - j))) c]).run Try.prog W1 = .ok (.tuple #[]) (W1.setRow g (splice (splice cur (i * 3) news) ((i + (n - j)) * 3) zs).toArray) := by
    obtain ⟨zs, hz, hr⟩ := run_clearK W1 76 84 3 _ Try.underlying76 zeroE rfl (by decide) g ((i + (n - j)) * 3) (n - (i + (n - j))) _ 84 hB1 (by omega) (by rw [length_splice _ _ _ (by omega)]; omega)
    exact ⟨zs, by rw [hz]; congr 1; omega, hr⟩
  obtain ⟨zs, hzs, hclr⟩ := hcl
  rw [← hnews]
  have hb4 : i ≤ cap := by omega
  have hb5 : i + (n - j) ≤ n := by omega
  have hA : ∃ A : Addr, (if cap = j then some (⟨g, 0, none⟩ : Addr) else some ⟨g, j * 3, none⟩) = some A ∧ (A = ⟨g, j * 3, none⟩ ∨ n - j = 0) := by
    by_cases h : cap = j
    · exact ⟨⟨g, 0, none⟩, by rw [if_pos h], Or.inr (by omega)⟩
    · exact ⟨⟨g, j * 3, none⟩, by rw [if_neg h], Or.inl rfl⟩
  obtain ⟨A, hA, hA'⟩ := hA
  have hrun' := hrun A hA'
  have HA' := Lib.hid hA'; clear hA'
  have Hnews := Lib.hid hnews; clear hnews
  clear hrun hng
  go_enter Try.func43, Try.ntmps43
  go_wp2
  go_region_law (refine step_append_run rfl (.tmp 22) (.tmp 25) 76 76 rfl _ _ (by rfl) (by rfl) (hrun' _ _) ?_)
  go_wp2_with (at_builtin; refine wpList_clear_run rfl (.tmp 31) 76 rfl _ rfl (hclr _ _) ?_)
  go_ret
  have hnn : i + (n - j) = n - (j - i) := by omega
  refine ⟨zs, hzs, by rw [hnn]; rfl, ?_⟩
  rw [HW1.out, setRow_setRow, hnn]

/-- slices.Delete(s, i, j) on a row of entries of the call's own -/
theorem delete_any (base n i j : Nat) (v : Value) (xs : List Value) (w : World) (hown : w.ownsRow base 84 3 v n xs) (h1 : ∀ u ∈ xs, u.oneCell' = true) (hij : i < j) (hj : j ≤ n) :
    Calls Try.prog 43 #[v, .int .i64 i, .int .i64 j] w fun e w' => ∃ A q c, e = .returned (.slice A q c) ∧ w'.ownsRow base 84 3 (.slice A q c) (n - (j - i)) (xs.take (i * 3) ++ xs.drop (j * 3)) ∧ w.grownBy w' v.ownBlock ∧ (Value.slice A q c).ownBlock = v.ownBlock := by
  rcases hown.2 with ⟨rfl, h0⟩ | ⟨g, cap, cur, rfl, hbg, hg, hnc, hcm, hcs, htake⟩
  · omega
  · refine (delete_walk g n cap i j cur.toList w (by unfold Blk; simpa using hg) (by simpa using hcs) hij hj hnc hcm (by rw [htake]; exact h1)).mono ?_
    rintro e w' ⟨zs, hz, rfl, rfl⟩
    have hcl : cur.toList.length = cap * 3 := by simpa using hcs
    have hl1 : (List.drop (j * 3) (List.take (n * 3) cur.toList)).length = (n - j) * 3 := by
      rw [List.length_drop, List.length_take]; omega
    have hl2 := length_splice cur.toList (i * 3) (List.drop (j * 3) (List.take (n * 3) cur.toList)) (by rw [hl1]; omega)
    refine ⟨_, _, _, rfl, ⟨?_, .inr ⟨g, cap, _, rfl, hbg, setRow_heap w.drew g cur _ 84 (0, 0) hg, by omega, hcm, ?_, ?_⟩⟩, ?_⟩
    · rw [List.length_append, List.length_take, List.length_drop, hown.1]; omega
    · rw [List.size_toArray, length_splice _ _ _ (by rw [hl2, hz]; omega), hl2, hcl]
    · rw [htake] at hl1 hl2 ⊢
      have e1 : (n - (j - i)) * 3 = i * 3 + (List.drop (j * 3) xs).length := by rw [hl1]; omega
      have e2 := take_splice cur.toList (List.drop (j * 3) xs) (i * 3) (by rw [hl1]; omega)
      rw [List.toList_toArray, e1, splice, List.take_append_of_le_length (by rw [List.length_take, hl2]; omega), List.take_of_length_le (by rw [List.length_take]; omega), e2]
      congr 1
      rw [← htake, List.take_take, Nat.min_eq_left (by omega)]
    · exact ⟨grownBy_trans (grownBy_drew (World.grownBy.refl w _)) (grownBy_setRow _ _ _), rfl⟩

theorem overlaps_any (w : World) (a b : Addr) (la ca lb cb : Nat) (hne : a.block ≠ b.block) (tA tB : TypeId) (kA kB : Nat)
    (hsa : w.shape? a.block = some (tA, kA)) (hsb : w.shape? b.block = some (tB, kB)) (hkB : kB ≠ 0)
    (hfa : w.frozen? a = false) (hfe : w.frozen? { block := a.block, off := kA } = false) :
    (callFunc 61 #[.slice (some a) la ca, .slice (some b) lb cb]).run Try.prog w = .ok (.value (.bool false)) w := by
  rw [run_callFunc_extern Try.func61 (by kernel_rfl) (by kernel_rfl) (by kernel_rfl) (e := Extern.SlicesOverlaps.overlaps #[76, 76] #[4]) (by kernel_rfl),
      Lib.run_overlaps_apart w 76 4 84 Try.underlying76 3 sizeE a b la ca lb cb hne tA tB kA kB hsa hsb hkB hfa hfe]
  rfl
set_option maxHeartbeats 1600000 in
theorem insert_C (base g n cap vb : Nat) (w : World) (hbg : base ≤ g) (h1 : 1 ≤ n) (hn : n + 1 ≤ cap) (hl : n ≤ 100000) (hcap : cap ≤ maxLen) (cur news xs : List Value) (hne : vb ≠ g)
    (hg : Blk w g 84 cur) (hv : Blk w vb 84 news) (hcl : cur.length = cap * 3) (hnl : news.length = 3) (hx : xs = cur.take (n * 3)) (hx1 : ∀ u ∈ xs, u.oneCell' = true) (hn1 : ∀ u ∈ news, u.oneCell' = true) :
    Calls Try.prog 56 #[.slice (some ⟨g, 0, none⟩) n cap, .int .i64 0, .slice (some ⟨vb, 0, none⟩) 1 1] w fun e w' => ∃ v', e = .returned v' ∧ w'.ownsRow base 84 3 v' (n + 1) (news ++ xs) ∧ w.grownBy w' (some g) := by
  have hcap' := hcap
  unfold maxLen at hcap
  have hxl : xs.length = n * 3 := by rw [hx, List.length_take]; omega
  have hov : ∀ lb cb, (callFunc 61 #[.slice (some ⟨vb, 0, none⟩) 1 1, .slice (some ⟨g, 3, none⟩) lb cb]).run Try.prog w = .ok (.value (.bool false)) w := fun lb cb =>
    overlaps_any w _ _ _ _ _ _ hne 84 84 news.length cur.length (by unfold Blk at hv; simp [World.shape?, hv]) (by unfold Blk at hg; simp [World.shape?, hg]) (by omega) (hv.frozen _) (hv.frozen _)
  have hb0 : ((0 : Int) == (n : Int)) = false := by simp; omega
  have hb1 : ¬ (cap = 1) := by omega
  have hb2 : (n : Int) + 1 ≤ (cap : Int) := by omega
  have hb3 : ((0 : Nat) : Int) < (n : Int) := by omega
  have hb4 : ¬ ((cap : Int) < (n : Int) + 1) := by omega
  have hb5 : ¬ (cap = 0) := by omega
  have hw1 : IntKind.i64.wrap (1 : Int) = 1 := by rw [IntKind.wrap_i64]; omega
  have hb6 : (1 : Int) ≤ (n : Int) + 1 := by omega
  have hb7 : (0 : Int) ≤ (n : Int) + 1 := by omega
  obtain ⟨W1, hW1⟩ : ∃ W1, W1 = w.drew.setRow g (splice cur 3 xs).toArray := ⟨_, rfl⟩
  have hB1 : Blk W1 g 84 (splice cur 3 xs) := hW1 ▸ Blk.setRow hg.drew _
  have hV1 : Blk W1 vb 84 news := by
    rw [hW1]
    exact (setRow_other w.drew g vb _ hne).trans hv
  obtain ⟨W2, hW2⟩ : ∃ W2, W2 = W1.setRow g (splice (splice cur 3 xs) 0 news).toArray := ⟨_, rfl⟩
  have hB2 : Blk W2 g 84 (splice (splice cur 3 xs) 0 news) := hW2 ▸ Blk.setRow hB1 _
  have hcp1 : ∀ ty dc sc, (Builtin.copy_ #[76, 76] ty #[.slice (some ⟨g, 3, none⟩) n dc, .slice (some ⟨g, 0, none⟩) (n + 1) sc]).run Try.prog w.drew = .ok (goInt n) W1 := fun ty dc sc => by
    have := run_copyK w.drew 76 76 ty 84 3 g 3 n dc ⟨g, 0, none⟩ (n + 1) sc cur 84 xs Try.underlying76 infoE hg (by rw [hxl]; congr 1; simp) (fun j v hj => by
      rw [Addr.add_lit, Nat.zero_add]
      refine (hg.cell j).trans ?_
      rw [hx, List.getElem?_take] at hj
      split at hj
      · exact hj
      · cases hj) (by omega) hx1
    rw [this, hW1, show Nat.min (n + 1) n = n by simp]
  have hcp2 : ∀ ty dc sc, (Builtin.copy_ #[76, 76] ty #[.slice (some ⟨g, 0, none⟩) (n + 1) dc, .slice (some ⟨vb, 0, none⟩) 1 sc]).run Try.prog W1 = .ok (goInt 1) W2 := fun ty dc sc => by
    have := run_copyK W1 76 76 ty 84 3 g 0 (n + 1) dc ⟨vb, 0, none⟩ 1 sc _ 84 news Try.underlying76 infoE hB1 (by rw [hnl]; rw [show Nat.min 1 (n + 1) = 1 by simp]) (fun j v hj => by
      rw [Addr.add_lit, Nat.zero_add]
      exact (hV1.cell j).trans hj) (by rw [length_splice _ _ _ (by omega)]; omega) hn1
    rw [this, hW2, show Nat.min 1 (n + 1) = 1 by simp]; rfl
  have HW1 := Lib.hid hW1; clear hW1
  have HW2 := Lib.hid hW2; clear hW2
  have Hx := Lib.hid hx; clear hx
  go_enter Try.func56, Try.ntmps56
  go_wp2_with (simp only [hov])
  go_region
  go_wp2_with (at_builtin; refine wpList_copy_run rfl (.tmp 80) (.tmp 81) 76 76 rfl _ _ rfl rfl (hcp2 _ _ _) ?_)
  go_ret
  refine ⟨_, rfl, ⟨by rw [List.length_append, hnl, hxl]; omega, .inr ⟨g, cap, _, rfl, hbg, hB2, hn, hcap', ?_, ?_⟩⟩, ?_⟩
  · simp only [List.size_toArray]
    rw [length_splice _ _ _ (by rw [length_splice _ _ _ (by omega)]; omega), length_splice _ _ _ (by omega), hcl]
  · have h2 := take_splice cur xs 3 (by omega)
    simp only [splice, List.take_zero, List.nil_append, Nat.zero_add, hnl]
    rw [List.take_append, hnl, List.take_of_length_le (by omega), show (n + 1) * 3 - 3 = n * 3 by omega, ← hxl]
    rw [List.drop_append, List.drop_of_length_le (by simp; omega)]
    simp
    rw [Nat.min_eq_left (by omega)]
    simp
  · rw [HW2.out, HW1.out]
    exact grownBy_trans (World.grownBy.refl w _ |> grownBy_drew) (grownBy_trans (grownBy_setRow _ _ _) (grownBy_setRow _ _ _))

set_option maxHeartbeats 800000 in
theorem insert_A (base cap vb : Nat) (v : Value) (w : World) (news : List Value) (hown : w.ownsRow base 84 3 v 0 []) (hv : Blk w vb 84 news) (hnl : news.length = 3) (hn1 : ∀ u ∈ news, u.oneCell' = true) (hbase : base ≤ w.heap.size) :
    Calls Try.prog 56 #[v, .int .i64 0, .slice (some ⟨vb, 0, none⟩) 1 cap] w fun e w' => ∃ v', e = .returned v' ∧ w'.ownsRow base 84 3 v' (0 + 1) ([] ++ news) ∧ w.grownBy w' v.ownBlock := by
  obtain ⟨i0, hi, hz0, hz1, hz2⟩ := info_parts infoE'
  obtain ⟨v', w', hr, h2, h3, h4⟩ := run_append_own (P := Try.prog) w base 76 76 84 i0 _ 3 40 Try.underlying76 hi hz0 hz1 hz2 rfl (by decide) v 0 [] hown ⟨vb, 0, none⟩ 1 cap news (by omega) (fun j u hj => by
    rw [Addr.add_lit, Nat.zero_add]; exact (hv.cell j).trans hj) hn1 (by unfold maxLen; omega) (by omega) hbase
  have H4 := Lib.hid h4; clear h4
  have H2 := Lib.hid h2; clear h2
  rcases hown.2 with ⟨rfl, _⟩ | ⟨g, c, cur, rfl, hbg, hg, hnc, hcm, hcs, htake⟩
  · go_enter Try.func56, Try.ntmps56
    go_wp2_with (at_builtin; refine wpList_append_run' rfl (.tmp 23) (.tmp 24) 76 76 rfl _ _ rfl rfl hr ?_)
    go_ret
    exact ⟨_, rfl, H2.out, h3⟩
  · have Hg := Lib.hid hg; clear hg
    have Ht := Lib.hid htake; clear htake
    have Hc := Lib.hid hcs; clear hcs
    unfold maxLen at hcm
    go_enter Try.func56, Try.ntmps56
    go_wp2_with (at_builtin; refine wpList_append_run' rfl (.tmp 23) (.tmp 24) 76 76 rfl _ _ rfl rfl hr ?_)
    go_ret
    exact ⟨_, rfl, H2.out, h3⟩
set_option maxHeartbeats 1600000 in
set_option maxRecDepth 100000 in
theorem insert_B (base g n cap vb : Nat) (w : World) (h1 : 1 ≤ n) (hnc : n ≤ cap) (hn : cap < n + 1) (hl : n ≤ 100000) (cur news xs : List Value)
    (hbase : base ≤ w.heap.size) (hg : Blk w g 84 cur) (hv : Blk w vb 84 news) (hcl : cur.length = cap * 3) (hnl : news.length = 3) (hx : xs = cur.take (n * 3)) (hx1 : ∀ u ∈ xs, u.oneCell' = true) (hn1 : ∀ u ∈ news, u.oneCell' = true) :
    Calls Try.prog 56 #[.slice (some ⟨g, 0, none⟩) n cap, .int .i64 0, .slice (some ⟨vb, 0, none⟩) 1 1] w fun e w' => ∃ v', e = .returned v' ∧ w'.ownsRow base 84 3 v' (n + 1) (news ++ xs) ∧ w.grownBy w' (some g) := by
  have hxl : xs.length = n * 3 := by rw [hx, List.length_take]; omega
  obtain ⟨i0, hi, hz0, hz1, hz2⟩ := info_parts infoE'
  obtain ⟨G, hG⟩ : ∃ G, G = grownCap w (0 + (n + 1)) cap 84 := ⟨_, rfl⟩
  have hG1 : n + 1 ≤ G := by rw [hG, Nat.zero_add]; exact grownCap_ge _ _ _ _
  have hG2 : G ≤ maxLen := by rw [hG]; exact grownCap_le_maxLen _ _ _ _ (by unfold maxLen; omega)
  have hold : (Builtin.firstCells i0.size 0 (.slice (some ⟨g, 0, none⟩) 0 cap)).run Try.prog w.drew = .ok ([] : List Value).toArray w.drew :=
    run_firstCells_some w.drew i0.size 0 ⟨g, 0, none⟩ 0 cap [] (by simp) (fun j v hj => by simp at hj)
  have hrz := Lib.run_append_grow_zeros w 76 3 76 84 i0 _ .i64 .i64 Try.underlying76 Try.underlying3 hi hz0 (some ⟨g, 0, none⟩) 0 cap [] hold (n + 1) (by omega) (by omega) (by omega) (by omega) (by rw [hz2]; omega) (by rw [hz2]; exact growslice_fits (by omega) (by omega))
  rw [← hG] at hrz
  obtain ⟨ROW, hROW⟩ : ∃ ROW : List Value, ROW.toArray = ([] : List Value).toArray ++ Builtin.zeroCells (Value.agg #[.string ⟨#[]⟩, .string ⟨#[]⟩, .int .i64 0]).cells (n + 1) ++ Builtin.zeroCells (Value.agg #[.string ⟨#[]⟩, .string ⟨#[]⟩, .int .i64 0]).cells (G - (0 + (n + 1))) := ⟨(([] : List Value).toArray ++ Builtin.zeroCells (Value.agg #[.string ⟨#[]⟩, .string ⟨#[]⟩, .int .i64 0]).cells (n + 1) ++ Builtin.zeroCells (Value.agg #[.string ⟨#[]⟩, .string ⟨#[]⟩, .int .i64 0]).cells (G - (0 + (n + 1)))).toList, by simp⟩
  rw [← hROW] at hrz
  have hRl : ROW.length = G * 3 := by
    have h := congrArg Array.size hROW
    simp only [Array.size_append, List.size_toArray, size_zeroCells, List.length_nil] at h
    rw [h, show (Value.agg #[.string ⟨#[]⟩, .string ⟨#[]⟩, .int .i64 0]).cells.size = 3 from rfl]; omega
  clear hROW
  obtain ⟨W0, hW0⟩ : ∃ W0, W0 = w.drew.alloc (.cells ROW.toArray 84) := ⟨_, rfl⟩
  rw [← hW0] at hrz
  have hsz : w.drew.heap.size = w.heap.size := rfl
  obtain ⟨N, hN⟩ : ∃ N, N = w.heap.size := ⟨_, rfl⟩
  rw [← hN] at hrz
  have hB0 : Blk W0 N 84 ROW := by rw [hW0, hN]; exact Blk.new w.drew 84 ROW
  have hV0 : Blk W0 vb 84 news := by rw [hW0]; exact Blk.alloc hv.drew _
  have hg0 : Blk W0 g 84 cur := by rw [hW0]; exact Blk.alloc hg.drew _
  have hvN : vb ≠ N := by have := hv.lt; omega
  have hgN : g ≠ N := by have := hg.lt; omega
  obtain ⟨W1, hW1⟩ : ∃ W1, W1 = W0.setRow N (splice ROW 0 news).toArray := ⟨_, rfl⟩
  have hB1 : Blk W1 N 84 (splice ROW 0 news) := hW1 ▸ Blk.setRow hB0 _
  have hg1 : Blk W1 g 84 cur := by rw [hW1]; exact (setRow_other W0 N g _ hgN).trans hg0
  obtain ⟨W2, hW2⟩ : ∃ W2, W2 = W1.drew.setRow N (splice (splice ROW 0 news) 3 xs).toArray := ⟨_, rfl⟩
  have hB2 : Blk W2 N 84 (splice (splice ROW 0 news) 3 xs) := hW2 ▸ Blk.setRow hB1.drew _
  have hcp1 : ∀ ty dc sc, (Builtin.copy_ #[76, 76] ty #[.slice (some ⟨N, 0, none⟩) (n + 1) dc, .slice (some ⟨vb, 0, none⟩) 1 sc]).run Try.prog W0 = .ok (goInt 1) W1 := fun ty dc sc => by
    have := run_copyK W0 76 76 ty 84 3 N 0 (n + 1) dc ⟨vb, 0, none⟩ 1 sc _ 84 news Try.underlying76 infoE hB0 (by rw [hnl]; rw [show Nat.min 1 (n + 1) = 1 by simp]) (fun j v hj => by
      rw [Addr.add_lit, Nat.zero_add]
      exact (hV0.cell j).trans hj) (by omega) hn1
    rw [this, hW1, show Nat.min 1 (n + 1) = 1 by simp]; rfl
  have hcp2 : ∀ ty dc sc, (Builtin.copy_ #[76, 76] ty #[.slice (some ⟨N, 3, none⟩) n dc, .slice (some ⟨g, 0, none⟩) n sc]).run Try.prog W1.drew = .ok (goInt n) W2 := fun ty dc sc => by
    have := run_copyK W1.drew 76 76 ty 84 3 N 3 n dc ⟨g, 0, none⟩ n sc _ 84 xs Try.underlying76 infoE hB1.drew (by rw [hxl, show Nat.min n n = n by simp]) (fun j v hj => by
      rw [Addr.add_lit, Nat.zero_add]
      refine (hg1.cell j).trans ?_
      rw [hx, List.getElem?_take] at hj
      split at hj
      · exact hj
      · cases hj) (by rw [length_splice _ _ _ (by omega)]; omega) hx1
    rw [this, hW2, show Nat.min n n = n by simp]
  have hG3 : w.grownBy W2 (some g) := by
    have a1 : w.grownBy W0 (some g) := by rw [hW0]; exact grownBy_trans (grownBy_drew (World.grownBy.refl w _)) (World.grownBy_alloc _ _ _)
    refine ⟨by rw [hW2, hW1]; exact a1.os, by rw [hW2, hW1]; exact a1.tape, by rw [hW2, hW1]; exact a1.output, by rw [hW2, hW1]; simpa using a1.size, fun k hk hr => ?_⟩
    rw [hW2, setRow_other _ _ _ _ (by omega)]
    show W1.heap[k]? = _
    rw [hW1, setRow_other _ _ _ _ (by omega)]
    exact a1.block k hk hr
  have HW0 := Lib.hid hW0; clear hW0
  have HW1 := Lib.hid hW1; clear hW1
  have HW2 := Lib.hid hW2; clear hW2
  have HN := Lib.hid hN; clear hN
  have HG := Lib.hid hG; clear hG
  have Hx := Lib.hid hx; clear hx
  clear hz0 hz1 hz2 hold hi hsz
  have hb0 : ((0 : Int) == (n : Int)) = false := by simp; omega
  have hb1 : (0 : Int) ≤ (n : Int) := by omega
  have hb2 : (cap : Int) < (n : Int) + 1 := by omega
  have hb5 : ¬ (cap = 0) := by omega
  have hb6 : (1 : Int) ≤ (n : Int) + 1 := by omega
  have hb7 : (0 : Int) ≤ (n : Int) + 1 := by omega
  have hb8 : ¬ (G = 1) := by omega
  have hb9 : ¬ (G = 0) := by omega
  have hw1 : IntKind.i64.wrap (1 : Int) = 1 := by rw [IntKind.wrap_i64]; omega
  have hec : (((n + 1 : Nat)) : Int) = (n : Int) + 1 := by omega
  rw [hec] at hrz
  simp only [Nat.zero_add] at hrz
  clear hec
  have hG2' := hG2
  unfold maxLen at hG2
  go_enter Try.func56, Try.ntmps56
  go_wp2_with (first | (at_builtin; refine wpList_append_run' rfl (.tmp 34) (.tmp 39) 76 3 rfl _ _ rfl rfl hrz ?_) | (refine wpList_copy_run rfl (.tmp 43) (.tmp 44) 76 76 rfl _ _ rfl rfl (hcp1 _ _ _) ?_))
  go_region
  go_wp2
  go_ret
  refine ⟨_, rfl, ⟨by rw [List.length_append, hnl, hxl]; omega, .inr ⟨N, G, _, rfl, by rw [HN.out]; exact hbase, hB2, hG1, hG2', ?_, ?_⟩⟩, hG3⟩
  · simp only [List.size_toArray]
    rw [length_splice _ _ _ (by rw [length_splice _ _ _ (by omega)]; omega), length_splice _ _ _ (by omega), hRl]
  · have h2 := take_splice (splice ROW 0 news) xs 3 (by rw [length_splice _ _ _ (by omega)]; omega)
    have h3 := take_splice ROW news 0 (by omega)
    rw [Nat.zero_add, hnl] at h3
    rw [show (n + 1) * 3 = 3 + xs.length by omega, List.toList_toArray, h2, h3]
    simp
/-- slices.Insert(s, 0, x) on a row of entries of the call's own -/
theorem insert_any (base n vb : Nat) (v : Value) (news xs : List Value) (w : World) (hl : n ≤ 100000) (hown : w.ownsRow base 84 3 v n xs) (hv : Blk w vb 84 news) (hne : v.ownBlock ≠ some vb) (hnl : news.length = 3)
    (hx1 : ∀ u ∈ xs, u.oneCell' = true) (hn1 : ∀ u ∈ news, u.oneCell' = true) (hbase : base ≤ w.heap.size) :
    Calls Try.prog 56 #[v, .int .i64 0, .slice (some ⟨vb, 0, none⟩) 1 1] w fun e w' => ∃ A q c, e = .returned (.slice A q c) ∧ w'.ownsRow base 84 3 (.slice A q c) (n + 1) (news ++ xs) ∧ w.grownBy w' v.ownBlock := by
  by_cases h0 : n = 0
  · subst h0
    have hx : xs = [] := List.eq_nil_of_length_eq_zero (by simpa using hown.1)
    subst hx
    refine (insert_A base 1 vb v w news hown hv hnl hn1 hbase).mono ?_
    rintro e w' ⟨v', he, ho, hg⟩
    obtain ⟨A, q, c, rfl⟩ := own_slice ho
    exact ⟨A, q, c, he, by simpa using ho, hg⟩
  · rcases hown.2 with ⟨rfl, h1⟩ | ⟨g, cap, cur, rfl, hbg, hg, hnc, hcm, hcs, htake⟩
    · exact absurd h1 h0
    · have hgb : Blk w g 84 cur.toList := by unfold Blk; simpa using hg
      by_cases hr : n + 1 ≤ cap
      · refine (insert_C base g n cap vb w hbg (by omega) hr hl hcm cur.toList news xs (fun e => hne (by simp [Value.ownBlock, e])) hgb hv (by simpa using hcs) hnl htake.symm hx1 hn1).mono ?_
        rintro e w' ⟨v', he, ho, hg⟩
        obtain ⟨A, q, c, rfl⟩ := own_slice ho
        exact ⟨A, q, c, he, ho, hg⟩
      · refine (insert_B base g n cap vb w (by omega) hnc (by omega) hl cur.toList news xs hbase hgb hv (by simpa using hcs) hnl htake.symm hx1 hn1).mono ?_
        rintro e w' ⟨v', he, ho, hg⟩
        obtain ⟨A, q, c, rfl⟩ := own_slice ho
        exact ⟨A, q, c, he, ho, hg⟩

set_option maxHeartbeats 400000 in
theorem valid_nil (w : World) : Calls Try.prog 41 #[.pointer none] w fun e w' => e = .returned (.bool false) ∧ w = w' := by
  go_enter Try.func41, Try.ntmps41
  go_wp2
  go_ret
  exact ⟨rfl, rfl⟩
set_option maxHeartbeats 400000 in
theorem valid_zero (g : Nat) (w : World) (hk : w.cell? ⟨g, 0, none⟩ = some (.int .i64 0)) : Calls Try.prog 41 #[.pointer (some ⟨g, 0, none⟩)] w fun e w' => e = .returned (.bool false) ∧ w = w' := by
  go_enter Try.func41, Try.ntmps41
  go_wp2
  go_ret
  exact ⟨rfl, rfl⟩
set_option maxHeartbeats 400000 in
theorem valid_any (g m : Nat) (w : World) (hk : w.cell? ⟨g, 0, none⟩ = some (.int .i64 m)) (hm : 0 < m) : Calls Try.prog 41 #[.pointer (some ⟨g, 0, none⟩)] w fun e w' => e = .returned (.bool true) ∧ w = w' := by
  have hm' : ((0 : Int) < (m : Int)) := by omega
  go_enter Try.func41, Try.ntmps41
  go_wp2
  go_ret
  exact ⟨rfl, rfl⟩

set_option maxHeartbeats 400000 in
theorem find_any (base g : Nat) (v : Value) (l : List (ByteArray × (ByteArray × Int))) (key : ByteArray) (w : World) (hgl : g < w.heap.size) (hc1 : w.cell? ⟨g, 1, none⟩ = some v)
    (hown : w.ownsRow base 84 3 v l.length (l.flatMap ent)) (hl : l.length ≤ 100000) (r : Int) (hr : fnd key l = r) :
    Calls Try.prog 42 #[.pointer (some ⟨g, 0, none⟩), .string key] w fun e w' => e = .returned (.int .i64 r) ∧ Below w.heap.size w w' := by
  have Hown := Lib.hid (hown.alloc (.cells #[.string key] 9)); clear hown
  subst hr
  go_enter Try.func42, Try.ntmps42
  go_wp2_with (go_at_call 54; refine (indexFunc_any base v l key w.heap.size _ (World.cell?_alloc_at _ _ _ _ rfl) (by simp) Hown.out hl).mono ?_; rintro e w1 ⟨rfl, hb⟩)
  go_ret
  exact ⟨rfl, ((Below.refl _ w).alloc (Nat.le_refl _) _).trans (hb.mono (by simp))⟩

/-- slices.Delete on a list of entries -/
theorem del_any (base i j : Nat) (jj : Int) (v : Value) (l : List (ByteArray × (ByteArray × Int))) (w : World) (hown : w.ownsRow base 84 3 v l.length (l.flatMap ent)) (hij : i < j) (hj : j ≤ l.length) (hjj : jj = (j : Int)) :
    Calls Try.prog 43 #[v, .int .i64 i, .int .i64 jj] w fun e w' => ∃ A c, e = .returned (.slice A (l.take i ++ l.drop j).length c) ∧ w'.ownsRow base 84 3 (.slice A (l.take i ++ l.drop j).length c) (l.take i ++ l.drop j).length ((l.take i ++ l.drop j).flatMap ent) ∧
      w.grownBy w' v.ownBlock ∧ (Value.slice A (l.take i ++ l.drop j).length c).ownBlock = v.ownBlock := by
  subst hjj
  refine (delete_any base l.length i j v _ w hown (ent_one l) hij hj).mono ?_
  rintro e w' ⟨A, q, c, rfl, ho, hg, hb⟩
  have hq := own_len ho
  have e1 : l.length - (j - i) = (l.take i ++ l.drop j).length := by
    rw [List.length_append, List.length_take, List.length_drop]; omega
  have e2 : (l.flatMap ent).take (i * 3) ++ (l.flatMap ent).drop (j * 3) = (l.take i ++ l.drop j).flatMap ent := by
    rw [flat_take ent_len, flat_drop ent_len, List.flatMap_append]
  rw [e2, e1] at ho
  rw [e1] at hq
  subst hq
  exact ⟨A, c, rfl, ho, hg, hb⟩

/-- the cache at block g: its capacity, the slice of its entries, hits and misses -/
def IsV (w : World) (base g most : Nat) (A : Option Addr) (c : Nat) (l : List (ByteArray × (ByteArray × Int))) (h m : Nat) : Prop :=
  base ≤ g ∧ Blk w g 78 [.int .i64 most, .slice A l.length c, .int .i64 h, .int .i64 m] ∧ w.ownsRow base 84 3 (.slice A l.length c) l.length (l.flatMap ent)
/-- the cache at block g -/
def IsC (w : World) (base g most : Nat) (l : List (ByteArray × (ByteArray × Int))) (h m : Nat) : Prop := ∃ A c, IsV w base g most A c l h m

section
variable {w w' : World} {base g most : Nat} {A : Option Addr} {c : Nat} {l : List (ByteArray × (ByteArray × Int))} {h m : Nat}
theorem IsV.kept (hc : IsV w base g most A c l h m) (hb : Below w.heap.size w w') : IsV w' base g most A c l h m :=
  ⟨hc.1, hc.2.1.below hb hc.2.1.lt, own_below hc.2.2 hb⟩
theorem IsC.kept (hc : IsC w base g most l h m) (hb : Below w.heap.size w w') : IsC w' base g most l h m := by
  obtain ⟨A, c, hc⟩ := hc
  exact ⟨A, c, hc.kept hb⟩
theorem IsC.keptFr (hc : IsC w base g most l h m) {S E base' : Nat} (hb : FrT S E base' w w') (h1 : 78 ≠ S) (h2 : 78 ≠ E) (h3 : 84 ≠ S) (h4 : 84 ≠ E) : IsC w' base g most l h m := by
  obtain ⟨A, c, a1, a2, a3⟩ := hc
  refine ⟨A, c, a1, hb.blk a2 h1 h2, ?_⟩
  rcases a3 with ⟨b1, b2⟩
  refine ⟨b1, ?_⟩
  rcases b2 with b2 | ⟨g', cap, cur, c1, c2, c3, c4⟩
  · exact .inl b2
  · exact .inr ⟨g', cap, cur, c1, c2, hb.keep _ _ _ _ c3 h3 h4, c4⟩
theorem IsV.base_le (hc : IsV w base g most A c l h m) : base ≤ w.heap.size := Nat.le_of_lt (Nat.lt_of_le_of_lt hc.1 hc.2.1.lt)
/-- a new list behind the cache's pointer: what a store into its field makes of it -/
theorem IsV.setList (hc : IsV w base g most A c l h m) {w1 : World} {A' : Option Addr} {q c' : Nat} {l' : List (ByteArray × (ByteArray × Int))} (hgr : w.grownBy w1 (Value.slice A l.length c).ownBlock)
    (ho : w1.ownsRow base 84 3 (.slice A' q c') l'.length (l'.flatMap ent)) :
    IsV (w1.setCell ⟨g, 1, none⟩ (.slice A' q c')) base g most A' c' l' h m ∧ FrT 78 84 base w (w1.setCell ⟨g, 1, none⟩ (.slice A' q c')) := by
  have hq := own_len ho
  subst hq
  obtain ⟨hbg, hg, hown⟩ := hc
  have hne := own_ne_blk hown hg (by decide)
  have hB := Blk.grown hg hgr (fun e => hne e.symm)
  refine ⟨⟨hbg, hB.set_ 1 _, own_set_blk ho hB (by decide) 1 _⟩, ?_⟩
  refine FrT.set_ ?_ hB (Or.inl rfl) hbg _
  refine (FrT.refl _ _ _ _).grown hgr (fun k hk => ?_) (Nat.le_of_lt (Nat.lt_of_le_of_lt hbg hg.lt))
  obtain ⟨a1, cs, fz, a2⟩ := own_blk hown k hk
  exact ⟨a1, cs, _, fz, a2, Or.inr rfl⟩
theorem IsV.cellList (hc : IsV w base g most A c l h m) {w1 : World} (hgr : w.grownBy w1 (Value.slice A l.length c).ownBlock) : w1.cell? ⟨g, 1, none⟩ = some (.slice A l.length c) ∧ w1.frozen? ⟨g, 1, none⟩ = false := by
  have hB := Blk.grown hc.2.1 hgr (fun e => own_ne_blk hc.2.2 hc.2.1 (by decide) e.symm)
  exact ⟨hB.cell 1, hB.frozen 1⟩
end
end CP
end Go.Proofs.Ytniopdfcdmifiaa
