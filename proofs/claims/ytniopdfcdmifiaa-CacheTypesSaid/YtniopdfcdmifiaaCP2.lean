/-
  The methods of the cache (values: structs): one contract a method.
-/
import Derived.Test.YtniopdfcdmifiaaCP1
import Derived.Deep.RegionHeld3
namespace Go.Proofs.Ytniopdfcdmifiaa
namespace CP
open Go.RowKit

set_option maxHeartbeats 1600000 in
theorem use_any (base g : Nat) (most h m : Nat) (A : Option Addr) (c : Nat) (l : List (ByteArray × (ByteArray × Int))) (x : ByteArray × (ByteArray × Int)) (w : World) (hc : IsV w base g most A c l h m) (hl : l.length ≤ 100000) :
    Calls Try.prog 44 #[.pointer (some ⟨g, 0, none⟩), .agg #[.string x.1, .string x.2.1, .int .i64 x.2.2]] w fun e w' => e = .returned (.tuple #[]) ∧ IsC w' base g most (x :: l) h m ∧ FrT 78 84 base w w' ∧
      ∀ b, b < w.heap.size → b ≠ g → (Value.slice A l.length c).ownBlock ≠ some b → w'.heap[b]? = w.heap[b]? := by
  have hgl := hc.2.1.lt
  have hc1 : w.cell? ⟨g, 1, none⟩ = some (.slice A l.length c) := hc.2.1.cell 1
  obtain ⟨W, hW⟩ : ∃ W, W = ((w.alloc (.cells #[.string x.1, .string x.2.1, .int .i64 x.2.2] 84)).alloc (.cells #[.string x.1, .string x.2.1, .int .i64 x.2.2] 84)).drew := ⟨_, rfl⟩
  have hVb : Blk W (w.heap.size + 1) 84 (ent x) := by
    rw [hW]
    have := Blk.new (w.alloc (.cells #[.string x.1, .string x.2.1, .int .i64 x.2.2] 84)) 84 (ent x)
    rw [World.size_alloc] at this
    exact this
  have hbW : Below w.heap.size w W := by rw [hW]; exact (((Below.refl _ w).alloc (Nat.le_refl _) _).alloc (by simp) _).drew
  have hcW := hc.kept hbW
  have hins := insert_any base l.length (w.heap.size + 1) (.slice A l.length c) (ent x) (l.flatMap ent) W hl hcW.2.2 hVb (fun e => by have := (hc.2.2.lt _ e).2; omega) rfl (ent_one l) (by simpa using ent_one [x]) hcW.base_le
  have hfr : ∀ w1, W.grownBy w1 (Value.slice A l.length c).ownBlock → w1.cell? ⟨g, 1, none⟩ = some (.slice A l.length c) ∧ w1.frozen? ⟨g, 1, none⟩ = false := fun w1 hgr => hcW.cellList hgr
  have hclose : ∀ w1 A' q c', w1.ownsRow base 84 3 (.slice A' q c') (l.length + 1) (ent x ++ l.flatMap ent) → W.grownBy w1 (Value.slice A l.length c).ownBlock →
      IsC (w1.setCell ⟨g, 1, none⟩ (.slice A' q c')) base g most (x :: l) h m ∧ FrT 78 84 base w (w1.setCell ⟨g, 1, none⟩ (.slice A' q c')) ∧
      ∀ b, b < w.heap.size → b ≠ g → (Value.slice A l.length c).ownBlock ≠ some b → (w1.setCell ⟨g, 1, none⟩ (.slice A' q c')).heap[b]? = w.heap[b]? := fun w1 A' q c' ho hgr => by
    obtain ⟨z1, z2⟩ := hcW.setList (l' := x :: l) hgr ho
    refine ⟨⟨_, _, z1⟩, (FrT.of_below hbW hc.base_le).trans z2, fun b hb hbg hbo => ?_⟩
    rw [Below.heap_setCell _ _ _ _ hbg, hgr.block b (Nat.lt_of_lt_of_le hb hbW.size) (fun e => hbo e.symm)]
    exact hbW.block b hb
  rw [hW] at hins hfr
  have Hfr := Lib.hid hfr; clear hfr
  have Hclose := Lib.hid hclose; clear hclose
  have Hins := Lib.hid hins; clear hins
  have HW := Lib.hid hW; clear hW
  have Hc := Lib.hid hc; clear hc
  go_enter Try.func44, Try.ntmps44
  go_wp2
  go_region_with (go_at_call 56; refine Hins.out.mono ?_; rintro e w1 ⟨A', q, c', rfl, ho, hgr⟩; obtain ⟨c1, f1⟩ := Hfr.out w1 hgr; have Ho := Lib.hid ho; clear ho; have Hgr := Lib.hid hgr; clear hgr)
  all_goals
    go_wp2
    go_end0
    exact ⟨rfl, Hclose.out _ _ _ _ Ho.out (HW.out ▸ Hgr.out)⟩

theorem _root_.Go.Proofs.Ytniopdfcdmifiaa.FrT.set_new {S E base : Nat} {w w' : World} (h : FrT S E base w w') (hb : base ≤ w.heap.size) {p : Addr} (hp : w.heap.size ≤ p.block) (u : Value) : FrT S E base w (w'.setCell p u) :=
  ⟨h.below.setCell (Nat.le_trans hb hp) u, fun b t cs fz hc h1 h2 => by
    have hlt : b < w.heap.size := (Array.getElem?_eq_some_iff.1 hc).1
    rw [Below.heap_setCell _ _ _ _ (by omega)]
    exact h.keep b t cs fz hc h1 h2⟩
theorem IsV.setOther {w : World} {base g most : Nat} {A : Option Addr} {c : Nat} {l : List (ByteArray × (ByteArray × Int))} {h m : Nat} (hc : IsV w base g most A c l h m) {b : Nat} {t : TypeId} {cs : List Value} (hb : Blk w b t cs) (h1 : t ≠ 78) (h2 : 84 ≠ t) (i : Nat) (u : Value) : IsV (w.setCell ⟨b, i, none⟩ u) base g most A c l h m :=
  ⟨hc.1, hc.2.1.far (p := ⟨b, i, none⟩) (hc.2.1.ne_ hb (fun e => h1 e.symm)) u, own_set_blk hc.2.2 hb h2 i u⟩
theorem IsC.setOther {w : World} {base g most : Nat} {l : List (ByteArray × (ByteArray × Int))} {h m : Nat} (hc : IsC w base g most l h m) {b : Nat} {t : TypeId} {cs : List Value} (hb : Blk w b t cs) (h1 : t ≠ 78) (h2 : 84 ≠ t) (i : Nat) (u : Value) : IsC (w.setCell ⟨b, i, none⟩ u) base g most l h m := by
  obtain ⟨A, c, hc⟩ := hc
  exact ⟨A, c, hc.setOther hb h1 h2 i u⟩
set_option maxHeartbeats 400000 in
theorem get_miss (base g : Nat) (most h m : Nat) (l : List (ByteArray × (ByteArray × Int))) (key : ByteArray) (w : World) (hc : IsC w base g most l h m) (hm0 : 0 < most) (hl : l.length ≤ 100000) (hm : m ≤ 100000) (hf : fnd key l = -1) :
    Calls Try.prog 17 #[.pointer (some ⟨g, 0, none⟩), .string key] w fun e w' => e = .returned (.tuple #[.agg #[.string ⟨#[]⟩, .int .i64 0], .bool false]) ∧ IsC w' base g most l h (m + 1) ∧ FrT 78 84 base w w' := by
  obtain ⟨A, c, hc⟩ := hc
  have c0 : w.cell? ⟨g, 0, none⟩ = some (.int .i64 most) := hc.2.1.cell 0
  have c1 : w.cell? ⟨g, 1, none⟩ = some (.slice A l.length c) := hc.2.1.cell 1
  have hgl := hc.2.1.lt
  obtain ⟨w0, hw0⟩ : ∃ w0, w0 = ((w.alloc (.cells #[.string ⟨#[]⟩, .int .i64 0] 41)).alloc (.cells #[.string ⟨#[]⟩, .int .i64 0] 41)) := ⟨_, rfl⟩
  have hb0 : Below w.heap.size w w0 := by rw [hw0]; exact ((Below.refl _ w).alloc (Nat.le_refl _) _).alloc (by simp) _
  have hv0 := hc.kept hb0
  have hs0 : w0.heap.size = w.heap.size + 2 := by rw [hw0]; simp
  have hr0 : Blk w0 w.heap.size 41 [.string ⟨#[]⟩, .int .i64 0] := by rw [hw0]; exact (Blk.new w 41 [.string ⟨#[]⟩, .int .i64 0]).alloc _
  have hz0 : Blk w0 (w.heap.size + 1) 41 [.string ⟨#[]⟩, .int .i64 0] := by
    rw [hw0]
    have := Blk.new (w.alloc (.cells #[.string ⟨#[]⟩, .int .i64 0] 41)) 41 [.string ⟨#[]⟩, .int .i64 0]
    rw [World.size_alloc] at this
    exact this
  have hval := valid_any g most w0 (hv0.2.1.cell 0) hm0
  have hfind := find_any base g (.slice A l.length c) l key w0 hv0.2.1.lt (hv0.2.1.cell 1) hv0.2.2 hl (-1) hf; clear hf
  have hbase := hc.base_le
  have hw : ∀ w1, Below w0.heap.size w0 w1 → w1.cell? ⟨g, 3, none⟩ = some (.int .i64 m) ∧ w1.frozen? ⟨g, 3, none⟩ = false ∧ w1.cell? ⟨w.heap.size, 0, none⟩ = some (.string ⟨#[]⟩) ∧ w1.cell? ⟨w.heap.size, 1, none⟩ = some (.int .i64 0) ∧ w1.frozen? ⟨w.heap.size, 0, none⟩ = false ∧ w1.frozen? ⟨w.heap.size, 1, none⟩ = false ∧
      w1.cell? ⟨w.heap.size + 1, 0, none⟩ = some (.string ⟨#[]⟩) ∧ w1.cell? ⟨w.heap.size + 1, 1, none⟩ = some (.int .i64 0) ∧ g ≠ w.heap.size ∧ g ≠ w.heap.size + 1 := fun w1 hb => by
    have h1 := hv0.kept hb
    have h2 := hr0.below hb hr0.lt
    have h3 := hz0.below hb hz0.lt
    exact ⟨h1.2.1.cell 3, h1.2.1.frozen 3, h2.cell 0, h2.cell 1, h2.frozen 0, h2.frozen 1, h3.cell 0, h3.cell 1, by omega, by omega⟩
  have hclose : ∀ w1, Below w0.heap.size w0 w1 → IsC (((w1.setCell ⟨g, 3, none⟩ (.int .i64 ((m : Int) + 1))).setCell ⟨w.heap.size, 0, none⟩ (.string ⟨#[]⟩)).setCell ⟨w.heap.size, 1, none⟩ (.int .i64 0)) base g most l h (m + 1) ∧
      FrT 78 84 base w (((w1.setCell ⟨g, 3, none⟩ (.int .i64 ((m : Int) + 1))).setCell ⟨w.heap.size, 0, none⟩ (.string ⟨#[]⟩)).setCell ⟨w.heap.size, 1, none⟩ (.int .i64 0)) ∧ (((w1.setCell ⟨g, 3, none⟩ (.int .i64 ((m : Int) + 1))).setCell ⟨w.heap.size, 0, none⟩ (.string ⟨#[]⟩)).setCell ⟨w.heap.size, 1, none⟩ (.int .i64 0)).cell? ⟨w.heap.size, 0, none⟩ = some (.string ⟨#[]⟩) ∧ (((w1.setCell ⟨g, 3, none⟩ (.int .i64 ((m : Int) + 1))).setCell ⟨w.heap.size, 0, none⟩ (.string ⟨#[]⟩)).setCell ⟨w.heap.size, 1, none⟩ (.int .i64 0)).cell? ⟨w.heap.size, 1, none⟩ = some (.int .i64 0) := fun w1 hb => by
    have h1 := hv0.kept hb
    have h2 := hr0.below hb hr0.lt
    have h3 : IsV (w1.setCell ⟨g, 3, none⟩ (.int .i64 ((m : Int) + 1))) base g most A c l h (m + 1) := ⟨h1.1, h1.2.1.set_ 3 _, own_set_blk h1.2.2 h1.2.1 (by decide) 3 _⟩
    have h4 := h2.far (p := ⟨g, 3, none⟩) (show w.heap.size ≠ g by omega) (.int .i64 ((m : Int) + 1))
    refine ⟨⟨A, c, (h3.setOther h4 (by decide) (by decide) 0 _).setOther (h4.set_ 0 _) (by decide) (by decide) 1 _⟩, ?_⟩
    have h5 := (h4.set_ 0 (.string ⟨#[]⟩)).set_ 1 (.int .i64 0)
    refine ⟨?_, h5.cell 0, h5.cell 1⟩
    exact ((FrT.set_ ((FrT.of_below hb0 hbase).trans (FrT.of_below hb hv0.base_le)) h1.2.1 (Or.inl rfl) hc.1 _).set_new hbase (Nat.le_refl _) _).set_new hbase (Nat.le_refl _) _
  rw [hw0] at hval
  rw [hw0] at hfind
  have Hval := Lib.hid hval; clear hval
  have Hfind := Lib.hid hfind; clear hfind
  have Hw0 := Lib.hid hw0; clear hw0
  have Hr0 := Lib.hid hr0; clear hr0
  have Hz0 := Lib.hid hz0; clear hz0
  have Hv0 := Lib.hid hv0; clear hv0
  have Hb0 := Lib.hid hb0; clear hb0
  have Hs0 := Lib.hid hs0; clear hs0
  have Hw := Lib.hid hw; clear hw
  have Hclose := Lib.hid hclose; clear hclose
  have Hc := Lib.hid hc; clear hc
  go_enter Try.func17, Try.ntmps17
  go_wp2_with (first | (go_at_call 41; refine Hval.out.mono ?_; rintro e w1 ⟨rfl, rfl⟩) | (go_at_call 42; refine Hfind.out.mono ?_; rintro e w1 ⟨rfl, hb⟩; rw [← Hw0.out] at hb; obtain ⟨c3, f3, r0, r1, q0, q1, z0, z1, n1, n2⟩ := Hw.out w1 hb; have Hb := Lib.hid hb; clear hb))
  obtain ⟨y1, y2, e0, e1⟩ := Hclose.out _ Hb.out
  exact bodyPost_ret (v := .tuple #[.agg #[.string ⟨#[]⟩, .int .i64 0], .bool false]) (by simp [results, Try.results17, go_sem, e0, e1]) rfl ⟨rfl, y1, y2⟩

set_option maxHeartbeats 1600000 in
theorem get_hit (base g : Nat) (most h m : Nat) (l : List (ByteArray × (ByteArray × Int))) (key : ByteArray) (w : World) (hc : IsC w base g most l h m) (hm0 : 0 < most) (hl : l.length ≤ 100000) (hm : h ≤ 100000) (i : Nat) (x : ByteArray × (ByteArray × Int)) (hf : fnd key l = (i : Int)) (hi : i < l.length) (hx : l[i]? = some x) :
    Calls Try.prog 17 #[.pointer (some ⟨g, 0, none⟩), .string key] w fun e w' => e = .returned (.tuple #[.agg #[.string x.2.1, .int .i64 x.2.2], .bool true]) ∧ IsC w' base g most (x :: (l.take i ++ l.drop (i + 1))) (h + 1) m ∧ FrT 78 84 base w w' := by
  obtain ⟨A, c, hc⟩ := hc
  have c0 : w.cell? ⟨g, 0, none⟩ = some (.int .i64 most) := hc.2.1.cell 0
  have c1 : w.cell? ⟨g, 1, none⟩ = some (.slice A l.length c) := hc.2.1.cell 1
  have hgl := hc.2.1.lt
  obtain ⟨w0, hw0⟩ : ∃ w0, w0 = ((w.alloc (.cells #[.string ⟨#[]⟩, .int .i64 0] 41)).alloc (.cells #[.string ⟨#[]⟩, .int .i64 0] 41)) := ⟨_, rfl⟩
  have hb0 : Below w.heap.size w w0 := by rw [hw0]; exact ((Below.refl _ w).alloc (Nat.le_refl _) _).alloc (by simp) _
  have hv0 := hc.kept hb0
  have hs0 : w.heap.size < w0.heap.size := by rw [hw0]; simp; omega
  have hr0 : Blk w0 w.heap.size 41 [.string ⟨#[]⟩, .int .i64 0] := by rw [hw0]; exact (Blk.new w 41 [.string ⟨#[]⟩, .int .i64 0]).alloc _
  have hval := valid_any g most w0 (hv0.2.1.cell 0) hm0
  have hfind := find_any base g (.slice A l.length c) l key w0 hv0.2.1.lt (hv0.2.1.cell 1) hv0.2.2 hl i hf; clear hf
  have hbase := hc.base_le
  obtain ⟨gb, hA⟩ : ∃ gb, A = some ⟨gb, 0, none⟩ := by
    rcases hc.2.2.2 with ⟨_, h0⟩ | ⟨g', cap, cur, h1, _⟩
    · omega
    · injection h1 with a _ _
      exact ⟨g', a⟩
  subst hA
  have hgb : gb < w.heap.size := (hc.2.2.lt gb rfl).2
  have hne : gb ≠ g := fun e => own_ne_blk hc.2.2 hc.2.1 (by decide) (by rw [e]; rfl)
  have hw : ∀ w1, Below w0.heap.size w0 w1 → w.heap.size ≤ w1.heap.size ∧ w1.cell? ⟨g, 2, none⟩ = some (.int .i64 h) ∧ w1.frozen? ⟨g, 2, none⟩ = false ∧ w1.cell? ⟨g, 1, none⟩ = some (.slice (some ⟨gb, 0, none⟩) l.length c) ∧
      (∀ j, j < 3 → w1.cell? ⟨gb, i * 3 + j, none⟩ = (ent x)[j]?) := fun w1 hb => by
    have h1 := hv0.kept hb
    refine ⟨Nat.le_trans hb0.size hb.size, h1.2.1.cell 2, h1.2.1.frozen 2, h1.2.1.cell 1, fun j hj => ?_⟩
    rw [World.ownsRow.cellAt h1.2.2 (i * 3 + j) (by omega)]
    exact flat_get ent_len l i j x hx hj
  have hdel : ∀ w1 wx, Below w0.heap.size w0 w1 → wx = ((w1.setCell ⟨g, 2, none⟩ (.int .i64 ((h : Int) + 1))).alloc (.cells #[.string x.1, .string x.2.1, .int .i64 x.2.2] 84)) →
      IsV wx base g most (some ⟨gb, 0, none⟩) c l (h + 1) m ∧ FrT 78 84 base w wx ∧ Blk wx w.heap.size 41 [.string ⟨#[]⟩, .int .i64 0] ∧ w.heap.size < w1.heap.size := fun w1 wx hb e => by
    have h1 := hv0.kept hb
    have h2 : IsV (w1.setCell ⟨g, 2, none⟩ (.int .i64 ((h : Int) + 1))) base g most (some ⟨gb, 0, none⟩) c l (h + 1) m := ⟨h1.1, h1.2.1.set_ 2 _, own_set_blk h1.2.2 h1.2.1 (by decide) 2 _⟩
    subst e
    refine ⟨h2.kept ((Below.refl _ _).alloc (Nat.le_refl _) _), FrT.alloc (FrT.set_ ((FrT.of_below hb0 hbase).trans (FrT.of_below hb hv0.base_le)) h1.2.1 (Or.inl rfl) hc.1 _) h2.base_le _, ?_, Nat.lt_of_lt_of_le hs0 hb.size⟩
    exact ((hr0.below hb hr0.lt).far (p := ⟨g, 2, none⟩) (show w.heap.size ≠ g by omega) _).alloc _
  rw [hw0] at hval
  rw [hw0] at hfind
  have Hval := Lib.hid hval; clear hval
  have Hfind := Lib.hid hfind; clear hfind
  have Hw0 := Lib.hid hw0; clear hw0
  have Hr0 := Lib.hid hr0; clear hr0
  have Hv0 := Lib.hid hv0; clear hv0
  have Hb0 := Lib.hid hb0; clear hb0
  clear hs0
  have Hw := Lib.hid hw; clear hw
  have Hdel := Lib.hid hdel; clear hdel
  have Hc := Lib.hid hc; clear hc
  have Hx := Lib.hid hx; clear hx
  have hi1 : (i : Int) < (l.length : Int) := by omega
  go_enter Try.func17, Try.ntmps17
  go_wp2_with (first | (go_at_call 41; refine Hval.out.mono ?_; rintro e w1 ⟨rfl, rfl⟩) | (go_at_call 42; refine Hfind.out.mono ?_; rintro e w1 ⟨rfl, hb⟩; rw [← Hw0.out] at hb; obtain ⟨hsz, c2, f2, c1', cx⟩ := Hw.out w1 hb; have hg1 : g < w1.heap.size := Nat.lt_of_lt_of_le hgl hsz; have cx0 := cx 0 (by omega); have cx1 := cx 1 (by omega); have cx2 := cx 2 (by omega); simp only [ent, List.getElem?_cons_zero, Nat.add_zero] at cx0; simp only [ent, List.getElem?_cons_succ, List.getElem?_cons_zero] at cx1; simp only [ent, List.getElem?_cons_succ, List.getElem?_cons_zero] at cx2; clear cx) | fail)
  obtain ⟨wx, hwx⟩ : ∃ wx, wx = ((w1.setCell ⟨g, 2, none⟩ (.int .i64 ((h : Int) + 1))).alloc (.cells #[.string x.1, .string x.2.1, .int .i64 x.2.2] 84)) := ⟨_, rfl⟩
  rw [← hwx]
  obtain ⟨hv, hfr, hRx, hR0⟩ := Hdel.out w1 wx hb hwx
  have hRg : w.heap.size ≠ g := by omega
  have hRo : (Value.slice (some ⟨gb, 0, none⟩) l.length c).ownBlock ≠ some w.heap.size := by simp [Value.ownBlock]; omega
  have hxb : Blk wx w1.heap.size 84 (ent x) := by
    rw [hwx]
    have := Blk.new (w1.setCell ⟨g, 2, none⟩ (.int .i64 ((h : Int) + 1))) 84 (ent x)
    rw [World.size_setCell] at this
    exact this
  have hxg : w1.heap.size ≠ g := by omega
  have hxo : (Value.slice (some ⟨gb, 0, none⟩) l.length c).ownBlock ≠ some w1.heap.size := by simp [Value.ownBlock]; omega
  clear hwx
  have Hfr := Lib.hid hfr; clear hfr
  refine (del_any base i (i + 1) _ _ l wx hv.2.2 (by omega) (by omega) (by omega)).mono ?_
  rintro e w2 ⟨A2, q2, rfl, ho, hgr, hbk⟩
  obtain ⟨hv2, hfr2⟩ := hv.setList hgr ho
  obtain ⟨d1, g1⟩ := hv.cellList hgr
  have hxb2 : Blk w2 w1.heap.size 84 (ent x) := Blk.grown hxb hgr (fun e => hxo e.symm)
  have hR2 : Blk w2 w.heap.size 41 [.string ⟨#[]⟩, .int .i64 0] := Blk.grown hRx hgr (fun e => hRo e.symm)
  have hR3 : Blk (w2.setCell ⟨g, 1, none⟩ (.slice A2 (l.take i ++ l.drop (i + 1)).length q2)) w.heap.size 41 [.string ⟨#[]⟩, .int .i64 0] := hR2.far hRg _
  have hxb3 : Blk (w2.setCell ⟨g, 1, none⟩ (.slice A2 (l.take i ++ l.drop (i + 1)).length q2)) w1.heap.size 84 (ent x) := hxb2.far hxg _
  have k2 := fun j => hxb2.cell j
  have k3 := fun j => hxb3.cell j
  have hb2 : w1.heap.size < w2.heap.size := hxb2.lt
  have hlen : (l.take i ++ l.drop (i + 1)).length ≤ 100000 := by rw [List.length_append, List.length_take, List.length_drop]; omega
  obtain ⟨L, hL⟩ : ∃ L, L = l.take i ++ l.drop (i + 1) := ⟨_, rfl⟩
  rw [← hL] at hv2 hfr2 hlen k3 hxb3 hbk ho hR3 ⊢
  have HL := Lib.hid hL; clear hL
  obtain ⟨n2, hn2⟩ : ∃ n2, n2 = L.length := ⟨_, rfl⟩
  have huse := use_any base g most (h + 1) m A2 q2 L x _ hv2 hlen
  rw [← hn2] at huse hfr2 k3 hxb3 hbk hR3 ⊢
  have Huse := Lib.hid huse; clear huse
  have Hn2 := Lib.hid hn2; clear hn2
  have Hv2 := Lib.hid hv2; clear hv2
  have Hv := Lib.hid hv; clear hv
  have Hho := Lib.hid ho; clear ho
  have Hgr := Lib.hid hgr; clear hgr
  have Hfr2 := Lib.hid hfr2; clear hfr2
  have HR2 := Lib.hid hR2; clear hR2
  have HR3 := Lib.hid hR3; clear hR3
  have HRx := Lib.hid hRx; clear hRx
  have Hxb := Lib.hid hxb; clear hxb
  have Hxb2 := Lib.hid hxb2; clear hxb2
  have Hxb3 := Lib.hid hxb3; clear hxb3
  have Hbk := Lib.hid hbk; clear hbk
  have k20 := k2 0
  have k30 := k3 0
  simp only [ent, List.getElem?_cons_zero] at k20 k30
  have k21 := k2 1
  have k31 := k3 1
  simp only [ent, List.getElem?_cons_succ, List.getElem?_cons_zero] at k21 k31
  have k22 := k2 2
  have k32 := k3 2
  simp only [ent, List.getElem?_cons_succ, List.getElem?_cons_zero] at k22 k32
  clear k2 k3 hxo
  have hR1 : w.heap.size < w2.heap.size := by omega
  go_wp2_with fail
  refine Huse.out.mono ?_
  rintro e w3 ⟨rfl, hc3, hf3, hk3⟩
  have hx3 : Blk w3 w1.heap.size 84 (ent x) := (hk3 _ (by rw [World.size_setCell]; exact hb2) hxg (by rw [Hbk.out]; simp [Value.ownBlock]; omega)).trans Hxb3.out
  have hR4 : Blk w3 w.heap.size 41 [.string ⟨#[]⟩, .int .i64 0] := (hk3 _ (by rw [World.size_setCell]; omega) hRg (by rw [Hbk.out]; exact hRo)).trans HR3.out
  have p0 := hR4.cell 0
  have p1 := hR4.cell 1
  have s0 := hR4.frozen 0
  have s1 := hR4.frozen 1
  simp only [List.getElem?_cons_zero, List.getElem?_cons_succ] at p0 p1
  have k4 := fun j => hx3.cell j
  have k40 := k4 0
  simp only [ent, List.getElem?_cons_zero] at k40
  have k41 := k4 1
  simp only [ent, List.getElem?_cons_succ, List.getElem?_cons_zero] at k41
  have k42 := k4 2
  simp only [ent, List.getElem?_cons_succ, List.getElem?_cons_zero] at k42
  clear k4
  have Hk3 := Lib.hid hk3; clear hk3
  have Hx3 := Lib.hid hx3; clear hx3
  have Hf3 := Lib.hid hf3; clear hf3
  have Hc3 := Lib.hid hc3; clear hc3
  have hfin : IsC ((w3.setCell ⟨w.heap.size, 0, none⟩ (.string x.2.1)).setCell ⟨w.heap.size, 1, none⟩ (.int .i64 x.2.2)) base g most (x :: L) (h + 1) m ∧ FrT 78 84 base w ((w3.setCell ⟨w.heap.size, 0, none⟩ (.string x.2.1)).setCell ⟨w.heap.size, 1, none⟩ (.int .i64 x.2.2)) ∧ ((w3.setCell ⟨w.heap.size, 0, none⟩ (.string x.2.1)).setCell ⟨w.heap.size, 1, none⟩ (.int .i64 x.2.2)).cell? ⟨w.heap.size, 0, none⟩ = some (.string x.2.1) ∧ ((w3.setCell ⟨w.heap.size, 0, none⟩ (.string x.2.1)).setCell ⟨w.heap.size, 1, none⟩ (.int .i64 x.2.2)).cell? ⟨w.heap.size, 1, none⟩ = some (.int .i64 x.2.2) := by
    have h5 := (hR4.set_ 0 (.string x.2.1)).set_ 1 (.int .i64 x.2.2)
    refine ⟨(Hc3.out.setOther hR4 (by decide) (by decide) 0 _).setOther (hR4.set_ 0 _) (by decide) (by decide) 1 _, ?_, h5.cell 0, h5.cell 1⟩
    exact ((Hfr.out.trans (Hfr2.out.trans Hf3.out)).set_new hbase (Nat.le_refl _) _).set_new hbase (Nat.le_refl _) _
  have Hfin := Lib.hid hfin; clear hfin
  have HR4 := Lib.hid hR4; clear hR4
  clear hRo
  go_wp2
  obtain ⟨y1, y2, e0, e1⟩ := Hfin.out
  exact bodyPost_ret (v := .tuple #[.agg #[.string x.2.1, .int .i64 x.2.2], .bool true]) (by simp [results, Try.results17, go_sem, e0, e1]) rfl ⟨rfl, HL.out ▸ y1, y2⟩

end CP
end Go.Proofs.Ytniopdfcdmifiaa
