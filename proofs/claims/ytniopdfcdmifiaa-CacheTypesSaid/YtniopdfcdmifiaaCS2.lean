/-
  The methods of the cache (values: strings): one contract a method.
-/
import Derived.Test.YtniopdfcdmifiaaCS1
import Derived.Deep.RegionHeld3
namespace Go.Proofs.Ytniopdfcdmifiaa
namespace CS
open Go.RowKit

set_option maxHeartbeats 1600000 in
theorem use_any (base g : Nat) (most h m : Nat) (A : Option Addr) (c : Nat) (l : List (ByteArray × ByteArray)) (x : ByteArray × ByteArray) (w : World) (hc : IsV w base g most A c l h m) (hl : l.length ≤ 100000) :
    Calls Try.prog 40 #[.pointer (some ⟨g, 0, none⟩), .agg #[.string x.1, .string x.2]] w fun e w' => e = .returned (.tuple #[]) ∧ IsC w' base g most (x :: l) h m ∧ FrT 75 80 base w w' ∧
      ∀ b, b < w.heap.size → b ≠ g → (Value.slice A l.length c).ownBlock ≠ some b → w'.heap[b]? = w.heap[b]? := by
  have hgl := hc.2.1.lt
  have hc1 : w.cell? ⟨g, 1, none⟩ = some (.slice A l.length c) := hc.2.1.cell 1
  obtain ⟨W, hW⟩ : ∃ W, W = ((w.alloc (.cells #[.string x.1, .string x.2] 80)).alloc (.cells #[.string x.1, .string x.2] 80)).drew := ⟨_, rfl⟩
  have hVb : Blk W (w.heap.size + 1) 80 (ent x) := by
    rw [hW]
    have := Blk.new (w.alloc (.cells #[.string x.1, .string x.2] 80)) 80 (ent x)
    rw [World.size_alloc] at this
    exact this
  have hbW : Below w.heap.size w W := by rw [hW]; exact (((Below.refl _ w).alloc (Nat.le_refl _) _).alloc (by simp) _).drew
  have hcW := hc.kept hbW
  have hins := insert_any base l.length (w.heap.size + 1) (.slice A l.length c) (ent x) (l.flatMap ent) W hl hcW.2.2 hVb (fun e => by have := (hc.2.2.lt _ e).2; omega) rfl (ent_one l) (by simpa using ent_one [x]) hcW.base_le
  have hfr : ∀ w1, W.grownBy w1 (Value.slice A l.length c).ownBlock → w1.cell? ⟨g, 1, none⟩ = some (.slice A l.length c) ∧ w1.frozen? ⟨g, 1, none⟩ = false := fun w1 hgr => hcW.cellList hgr
  have hclose : ∀ w1 A' q c', w1.ownsRow base 80 2 (.slice A' q c') (l.length + 1) (ent x ++ l.flatMap ent) → W.grownBy w1 (Value.slice A l.length c).ownBlock →
      IsC (w1.setCell ⟨g, 1, none⟩ (.slice A' q c')) base g most (x :: l) h m ∧ FrT 75 80 base w (w1.setCell ⟨g, 1, none⟩ (.slice A' q c')) ∧
      ∀ b, b < w.heap.size → b ≠ g → (Value.slice A l.length c).ownBlock ≠ some b → (w1.setCell ⟨g, 1, none⟩ (.slice A' q c')).heap[b]? = w.heap[b]? := fun w1 A' q c' ho hgr => by
    obtain ⟨z1, z2⟩ := hcW.setList (l' := x :: l) hgr ho
    refine ⟨⟨_, _, z1⟩, (FrT.of_below hbW hc.base_le).trans z2, fun b hb hbg hbo => ?_⟩
    rw [Below.heap_setCell _ _ _ _ hbg, hgr.block b (Nat.lt_of_lt_of_le hb hbW.size) (fun e => hbo e.symm)]
    exact hbW.block b hb
  rw [hW] at hins hfr
  have Hfr := Lib.hid hfr; clear hfr
  have Hclose := Lib.hid hclose; clear hclose
  have Hins := Lib.hid hins; clear hins
  have HW := Lib.hid hW; clear hW
  have Hc := Lib.hid hc; clear hc
  go_enter Try.func40, Try.ntmps40
  go_wp2
  go_region_with (go_at_call 53; refine Hins.out.mono ?_; rintro e w1 ⟨A', q, c', rfl, ho, hgr⟩; obtain ⟨c1, f1⟩ := Hfr.out w1 hgr; have Ho := Lib.hid ho; clear ho; have Hgr := Lib.hid hgr; clear hgr)
  all_goals
    go_wp2
    go_end0
    exact ⟨rfl, Hclose.out _ _ _ _ Ho.out (HW.out ▸ Hgr.out)⟩

set_option maxHeartbeats 400000 in
theorem get_miss (base g : Nat) (most h m : Nat) (l : List (ByteArray × ByteArray)) (key : ByteArray) (w : World) (hc : IsC w base g most l h m) (hm0 : 0 < most) (hl : l.length ≤ 100000) (hm : m ≤ 100000) (hf : fnd key l = -1) :
    Calls Try.prog 16 #[.pointer (some ⟨g, 0, none⟩), .string key] w fun e w' => e = .returned (.tuple #[.string ⟨#[]⟩, .bool false]) ∧ IsC w' base g most l h (m + 1) ∧ FrT 75 80 base w w' := by
  obtain ⟨A, c, hc⟩ := hc
  have c0 : w.cell? ⟨g, 0, none⟩ = some (.int .i64 most) := hc.2.1.cell 0
  have c1 : w.cell? ⟨g, 1, none⟩ = some (.slice A l.length c) := hc.2.1.cell 1
  have hgl := hc.2.1.lt
  have Hfind := Lib.hid (find_any base g (.slice A l.length c) l key w hgl c1 hc.2.2 hl (-1) hf); clear hf
  have hw : ∀ w1, Below w.heap.size w w1 → w1.cell? ⟨g, 3, none⟩ = some (.int .i64 m) ∧ w1.frozen? ⟨g, 3, none⟩ = false := fun w1 hb => ⟨(hc.kept hb).2.1.cell 3, (hc.kept hb).2.1.frozen 3⟩
  have hclose : ∀ w1, Below w.heap.size w w1 → IsC (w1.setCell ⟨g, 3, none⟩ (.int .i64 ((m : Int) + 1))) base g most l h (m + 1) ∧ FrT 75 80 base w (w1.setCell ⟨g, 3, none⟩ (.int .i64 ((m : Int) + 1))) := fun w1 hb => by
    have h1 := hc.kept hb
    exact ⟨⟨A, c, h1.1, h1.2.1.set_ 3 _, own_set_blk h1.2.2 h1.2.1 (by decide) 3 _⟩, FrT.set_ (FrT.of_below hb hc.base_le) h1.2.1 (Or.inl rfl) hc.1 _⟩
  have Hw := Lib.hid hw; clear hw
  have Hclose := Lib.hid hclose; clear hclose
  have Hc := Lib.hid hc; clear hc
  go_enter Try.func16, Try.ntmps16
  go_wp2_with (first | (go_at_call 37; refine (valid_any g most _ c0 hm0).mono ?_; rintro e w1 ⟨rfl, rfl⟩) | (go_at_call 38; refine Hfind.out.mono ?_; rintro e w1 ⟨rfl, hb⟩; obtain ⟨c3, f3⟩ := Hw.out w1 hb))
  go_ret2
  exact ⟨rfl, Hclose.out _ hb⟩

set_option maxHeartbeats 1600000 in
theorem get_hit (base g : Nat) (most h m : Nat) (l : List (ByteArray × ByteArray)) (key : ByteArray) (w : World) (hc : IsC w base g most l h m) (hm0 : 0 < most) (hl : l.length ≤ 100000) (hm : h ≤ 100000) (i : Nat) (x : ByteArray × ByteArray) (hf : fnd key l = (i : Int)) (hi : i < l.length) (hx : l[i]? = some x) :
    Calls Try.prog 16 #[.pointer (some ⟨g, 0, none⟩), .string key] w fun e w' => e = .returned (.tuple #[.string x.2, .bool true]) ∧ IsC w' base g most (x :: (l.take i ++ l.drop (i + 1))) (h + 1) m ∧ FrT 75 80 base w w' := by
  obtain ⟨A, c, hc⟩ := hc
  have c0 : w.cell? ⟨g, 0, none⟩ = some (.int .i64 most) := hc.2.1.cell 0
  have c1 : w.cell? ⟨g, 1, none⟩ = some (.slice A l.length c) := hc.2.1.cell 1
  have hgl := hc.2.1.lt
  have Hfind := Lib.hid (find_any base g (.slice A l.length c) l key w hgl c1 hc.2.2 hl i hf); clear hf
  obtain ⟨gb, hA⟩ : ∃ gb, A = some ⟨gb, 0, none⟩ := by
    rcases hc.2.2.2 with ⟨_, h0⟩ | ⟨g', cap, cur, h1, _⟩
    · omega
    · injection h1 with a _ _
      exact ⟨g', a⟩
  subst hA
  have hgb : gb < w.heap.size := (hc.2.2.lt gb rfl).2
  have hne : gb ≠ g := fun e => own_ne_blk hc.2.2 hc.2.1 (by decide) (by rw [e]; rfl)
  obtain ⟨W, hW⟩ : ∃ W : World → World, W = fun w1 => (w1.setCell ⟨g, 2, none⟩ (.int .i64 ((h : Int) + 1))) := ⟨_, rfl⟩
  have hw : ∀ w1, Below w.heap.size w w1 → w.heap.size ≤ w1.heap.size ∧ w1.cell? ⟨g, 2, none⟩ = some (.int .i64 h) ∧ w1.frozen? ⟨g, 2, none⟩ = false ∧ w1.cell? ⟨g, 1, none⟩ = some (.slice (some ⟨gb, 0, none⟩) l.length c) ∧
      (∀ j, j < 2 → w1.cell? ⟨gb, i * 2 + j, none⟩ = (ent x)[j]?) := fun w1 hb => by
    have h1 := hc.kept hb
    refine ⟨hb.size, h1.2.1.cell 2, h1.2.1.frozen 2, h1.2.1.cell 1, fun j hj => ?_⟩
    rw [World.ownsRow.cellAt h1.2.2 (i * 2 + j) (by omega)]
    exact flat_get ent_len l i j x hx hj
  have hdel : ∀ w1 wx, Below w.heap.size w w1 → wx = ((w1.setCell ⟨g, 2, none⟩ (.int .i64 ((h : Int) + 1))).alloc (.cells #[.string x.1, .string x.2] 80)) →
      IsV wx base g most (some ⟨gb, 0, none⟩) c l (h + 1) m ∧ FrT 75 80 base w wx := fun w1 wx hb e => by
    have h1 := hc.kept hb
    have h2 : IsV (w1.setCell ⟨g, 2, none⟩ (.int .i64 ((h : Int) + 1))) base g most (some ⟨gb, 0, none⟩) c l (h + 1) m := ⟨h1.1, h1.2.1.set_ 2 _, own_set_blk h1.2.2 h1.2.1 (by decide) 2 _⟩
    subst e
    refine ⟨h2.kept ((Below.refl _ _).alloc (Nat.le_refl _) _), FrT.alloc (FrT.set_ (FrT.of_below hb hc.base_le) h1.2.1 (Or.inl rfl) hc.1 _) h2.base_le _⟩
  have Hw := Lib.hid hw; clear hw
  have Hdel := Lib.hid hdel; clear hdel
  have Hc := Lib.hid hc; clear hc
  have Hx := Lib.hid hx; clear hx
  have hi1 : (i : Int) < (l.length : Int) := by omega
  go_enter Try.func16, Try.ntmps16
  go_wp2_with (first | (go_at_call 37; refine (valid_any g most _ c0 hm0).mono ?_; rintro e w1 ⟨rfl, rfl⟩) | (go_at_call 38; refine Hfind.out.mono ?_; rintro e w1 ⟨rfl, hb⟩; obtain ⟨hsz, c2, f2, c1', cx⟩ := Hw.out w1 hb; have hg1 : g < w1.heap.size := Nat.lt_of_lt_of_le hgl hsz; have cx0 := cx 0 (by omega); have cx1 := cx 1 (by omega); simp only [ent, List.getElem?_cons_zero, Nat.add_zero] at cx0; simp only [ent, List.getElem?_cons_succ, List.getElem?_cons_zero] at cx1; clear cx) | fail)
  obtain ⟨wx, hwx⟩ : ∃ wx, wx = ((w1.setCell ⟨g, 2, none⟩ (.int .i64 ((h : Int) + 1))).alloc (.cells #[.string x.1, .string x.2] 80)) := ⟨_, rfl⟩
  rw [← hwx]
  obtain ⟨hv, hfr⟩ := Hdel.out w1 wx hb hwx
  have hxb : Blk wx w1.heap.size 80 (ent x) := by
    rw [hwx]
    have := Blk.new (w1.setCell ⟨g, 2, none⟩ (.int .i64 ((h : Int) + 1))) 80 (ent x)
    rw [World.size_setCell] at this
    exact this
  have hxg : w1.heap.size ≠ g := by omega
  have hxo : (Value.slice (some ⟨gb, 0, none⟩) l.length c).ownBlock ≠ some w1.heap.size := by simp [Value.ownBlock]; omega
  clear hwx
  have Hfr := Lib.hid hfr; clear hfr
  refine (del_any base i (i + 1) _ _ l wx hv.2.2 (by omega) (by omega) (by omega)).mono ?_
  rintro e w2 ⟨A2, q2, rfl, ho, hgr, hbk⟩
  obtain ⟨hv2, hfr2⟩ := hv.setList hgr ho
  obtain ⟨d1, g1⟩ := hv.cellList hgr
  have hxb2 : Blk w2 w1.heap.size 80 (ent x) := Blk.grown hxb hgr (fun e => hxo e.symm)
  have hxb3 : Blk (w2.setCell ⟨g, 1, none⟩ (.slice A2 (l.take i ++ l.drop (i + 1)).length q2)) w1.heap.size 80 (ent x) := hxb2.far hxg _
  have k2 := fun j => hxb2.cell j
  have k3 := fun j => hxb3.cell j
  have hb2 : w1.heap.size < w2.heap.size := hxb2.lt
  have hlen : (l.take i ++ l.drop (i + 1)).length ≤ 100000 := by rw [List.length_append, List.length_take, List.length_drop]; omega
  obtain ⟨L, hL⟩ : ∃ L, L = l.take i ++ l.drop (i + 1) := ⟨_, rfl⟩
  rw [← hL] at hv2 hfr2 hlen k3 hxb3 hbk ho ⊢
  have HL := Lib.hid hL; clear hL
  obtain ⟨n2, hn2⟩ : ∃ n2, n2 = L.length := ⟨_, rfl⟩
  have huse := use_any base g most (h + 1) m A2 q2 L x _ hv2 hlen
  rw [← hn2] at huse hfr2 k3 hxb3 hbk ⊢
  have Huse := Lib.hid huse; clear huse
  have Hn2 := Lib.hid hn2; clear hn2
  have Hv2 := Lib.hid hv2; clear hv2
  have Hv := Lib.hid hv; clear hv
  have Hho := Lib.hid ho; clear ho
  have Hgr := Lib.hid hgr; clear hgr
  have Hfr2 := Lib.hid hfr2; clear hfr2
  have Hxb := Lib.hid hxb; clear hxb
  have Hxb2 := Lib.hid hxb2; clear hxb2
  have Hxb3 := Lib.hid hxb3; clear hxb3
  have Hbk := Lib.hid hbk; clear hbk
  have k20 := k2 0
  have k30 := k3 0
  simp only [ent, List.getElem?_cons_zero] at k20 k30
  have k21 := k2 1
  have k31 := k3 1
  simp only [ent, List.getElem?_cons_succ, List.getElem?_cons_zero] at k21 k31
  clear k2 k3 hxo
  go_wp2_with fail
  refine Huse.out.mono ?_
  rintro e w3 ⟨rfl, hc3, hf3, hk3⟩
  have hx3 : Blk w3 w1.heap.size 80 (ent x) := (hk3 _ (by rw [World.size_setCell]; exact hb2) hxg (by rw [Hbk.out]; simp [Value.ownBlock]; omega)).trans Hxb3.out
  have k4 := fun j => hx3.cell j
  have k40 := k4 0
  simp only [ent, List.getElem?_cons_zero] at k40
  have k41 := k4 1
  simp only [ent, List.getElem?_cons_succ, List.getElem?_cons_zero] at k41
  clear k4
  have Hk3 := Lib.hid hk3; clear hk3
  have Hx3 := Lib.hid hx3; clear hx3
  have Hf3 := Lib.hid hf3; clear hf3
  have Hc3 := Lib.hid hc3; clear hc3
  go_wp2
  go_ret2
  exact ⟨rfl, HL.out ▸ Hc3.out, Hfr.out.trans (Hfr2.out.trans Hf3.out)⟩

end CS
end Go.Proofs.Ytniopdfcdmifiaa
