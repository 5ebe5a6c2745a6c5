/-
  The methods of the cache (values: ints), continued: one contract a method.
-/
import Derived.Test.YtniopdfcdmifiaaCI2
import Derived.Deep.QuietTactic
import Derived.BigQuiet
import Derived.StillTailTactics
namespace Go.Proofs.Ytniopdfcdmifiaa
namespace CI
open Go.RowKit

/-- the end of Put: the list is cut where it is too long -/
theorem put_close (base g most h m : Nat) (l : List (ByteArray × Int)) (w1 : World) (hc : IsC w1 base g most l h m) (hml : l.length ≤ most) : IsC w1 base g most (l.take most) h m := by
  rw [List.take_of_length_le hml]; exact hc

set_option maxHeartbeats 3200000 in
set_option maxRecDepth 100000 in
theorem put_miss (base g : Nat) (most h m : Nat) (l : List (ByteArray × Int)) (x : ByteArray × Int) (w : World) (hc : IsC w base g most l h m) (hm0 : 0 < most) (hl : l.length ≤ 99999) (hf : fnd x.1 l = -1) :
    Calls Try.prog 10 #[.pointer (some ⟨g, 0, none⟩), .string x.1, .int .i64 x.2] w fun e w' => e = .returned (.bool (decide (most < l.length + 1))) ∧ IsC w' base g most ((x :: l).take most) h m ∧ FrT 66 71 base w w' := by
  obtain ⟨A, c, hc⟩ := hc
  have c0 : w.cell? ⟨g, 0, none⟩ = some (.int .i64 most) := hc.2.1.cell 0
  have c1 : w.cell? ⟨g, 1, none⟩ = some (.slice A l.length c) := hc.2.1.cell 1
  have hgl := hc.2.1.lt
  have Hfind := Lib.hid (find_any base g (.slice A l.length c) l x.1 w hgl c1 hc.2.2 (by omega) (-1) hf); clear hf
  have huse : ∀ w1, Below w.heap.size w w1 → Calls Try.prog 36 #[.pointer (some ⟨g, 0, none⟩), .agg #[.string x.1, .int .i64 x.2]] w1 fun e w' => e = .returned (.tuple #[]) ∧ IsC w' base g most (x :: l) h m ∧ FrT 66 71 base w1 w' ∧ True := fun w1 hb =>
    (use_any base g most h m A c l x w1 (hc.kept hb) (by omega)).mono fun _ _ ⟨h1, h2, h3, _⟩ => ⟨h1, h2, h3, trivial⟩
  have Huse := Lib.hid huse; clear huse
  have hbase := hc.base_le
  have Hc := Lib.hid hc; clear hc
  go_enter Try.func10, Try.ntmps10
  go_wp2_with (first | (go_at_call 33; refine (valid_any g most _ c0 hm0).mono ?_; rintro e w1 ⟨rfl, rfl⟩) | (go_at_call 34; refine Hfind.out.mono ?_; rintro e w1 ⟨rfl, hb⟩) | fail)
  refine (Huse.out _ hb).mono ?_
  rintro e w3 ⟨rfl, hc3, hf3, _⟩
  obtain ⟨A3, q3, hc3⟩ := hc3
  have d0 : w3.cell? ⟨g, 0, none⟩ = some (.int .i64 most) := hc3.2.1.cell 0
  have d1 : w3.cell? ⟨g, 1, none⟩ = some (.slice A3 (l.length + 1) q3) := hc3.2.1.cell 1
  have Hb := Lib.hid hb; clear hb
  have Hf3 := Lib.hid ((FrT.of_below Hb.out hbase).trans hf3); clear hf3
  by_cases hov : most < l.length + 1
  · have ht : ((l.length : Int) + 1 ≤ (most : Int)) ↔ False := by simp; omega
    have hb3 : ∀ nq, Below w3.heap.size w3 (w3.drewN nq) := fun nq => ⟨rfl, rfl, rfl, Nat.le_refl _, fun _ _ => rfl⟩
    have hdel := fun nq => del_any base most (l.length + 1) ((l.length : Int) + 1) _ (x :: l) (w3.drewN nq) (hc3.kept (hb3 nq)).2.2 (by omega) (by simp) (by omega)
    have hcl : ∀ nq w4, (w3.drewN nq).grownBy w4 (Value.slice A3 (x :: l).length q3).ownBlock → w4.cell? ⟨g, 1, none⟩ = some (.slice A3 (l.length + 1) q3) ∧ w4.frozen? ⟨g, 1, none⟩ = false ∧ w4.cell? ⟨g, 0, none⟩ = some (.int .i64 most) := fun nq w4 hgr => by
      have hv := hc3.kept (hb3 nq)
      have hB := Blk.grown hv.2.1 hgr (fun e => own_ne_blk hv.2.2 hv.2.1 (by decide) e.symm)
      exact ⟨hB.cell 1, hB.frozen 1, hB.cell 0⟩
    have hend : ∀ nq w4 A4 q4, w4.ownsRow base 71 2 (.slice A4 ((x :: l).take most ++ (x :: l).drop (l.length + 1)).length q4) ((x :: l).take most ++ (x :: l).drop (l.length + 1)).length (((x :: l).take most ++ (x :: l).drop (l.length + 1)).flatMap ent) → (w3.drewN nq).grownBy w4 (Value.slice A3 (x :: l).length q3).ownBlock →
        IsC (w4.setCell ⟨g, 1, none⟩ (.slice A4 ((x :: l).take most ++ (x :: l).drop (l.length + 1)).length q4)) base g most ((x :: l).take most) h m ∧ FrT 66 71 base w (w4.setCell ⟨g, 1, none⟩ (.slice A4 ((x :: l).take most ++ (x :: l).drop (l.length + 1)).length q4)) := fun nq w4 A4 q4 ho hgr => by
      obtain ⟨z1, z2⟩ := (hc3.kept (hb3 nq)).setList hgr ho
      refine ⟨⟨A4, q4, ?_⟩, Hf3.out.trans ((FrT.of_below (hb3 nq) hc3.base_le).trans z2)⟩
      have e1 : (x :: l).take most ++ (x :: l).drop (l.length + 1) = (x :: l).take most := by simp
      rw [e1] at z1 ⊢
      exact z1
    obtain ⟨L4, hL4⟩ : ∃ L4, L4 = (x :: l).take most ++ (x :: l).drop (l.length + 1) := ⟨_, rfl⟩
    rw [← hL4] at hdel hend
    obtain ⟨n4, hn4⟩ : ∃ n4, n4 = L4.length := ⟨_, rfl⟩
    rw [← hn4] at hdel hend
    have Hdel := Lib.hid hdel; clear hdel
    have Hcl := Lib.hid hcl; clear hcl
    have Hend := Lib.hid hend; clear hend
    have HL4 := Lib.hid hL4; clear hL4
    have Hn4 := Lib.hid hn4; clear hn4
    have Hc3 := Lib.hid hc3; clear hc3
    clear hb3
    go_wp2
    go_quiet (fail)
    go_wp2
    go_region_with (go_at_call 35; refine (Hdel.out _).mono ?_; rintro e w4 ⟨A4, q4, rfl, ho, hgr, _⟩; obtain ⟨e1, f1, e0⟩ := Hcl.out _ _ hgr; have Ho := Lib.hid ho; clear ho; have Hgr := Lib.hid hgr; clear hgr)
    all_goals
     go_wp2
     go_ret
     refine ⟨ret_bool (by simp; omega), Hend.out _ _ _ _ Ho.out Hgr.out⟩
  · have ht : ((l.length : Int) + 1 ≤ (most : Int)) ↔ True := by simp; omega
    have hend : ∀ nq, IsC (w3.drewN nq) base g most ((x :: l).take most) h m ∧ FrT 66 71 base w (w3.drewN nq) := fun nq => by
      have hb3 : Below w3.heap.size w3 (w3.drewN nq) := ⟨rfl, rfl, rfl, Nat.le_refl _, fun _ _ => rfl⟩
      rw [List.take_of_length_le (by simp; omega)]
      exact ⟨⟨_, _, hc3.kept hb3⟩, Hf3.out.trans (FrT.of_below hb3 hc3.base_le)⟩
    have Hend := Lib.hid hend; clear hend
    have Hc3 := Lib.hid hc3; clear hc3
    go_wp2
    go_quiet (fail)
    go_wp2
    go_ret
    exact ⟨ret_bool (by simp; omega), Hend.out _⟩
set_option maxHeartbeats 3200000 in
set_option maxRecDepth 100000 in
theorem put_hit (base g : Nat) (most h m : Nat) (l : List (ByteArray × Int)) (x : ByteArray × Int) (w : World) (hc : IsC w base g most l h m) (hm0 : 0 < most) (hl : l.length ≤ 99999) (i : Nat) (hi : i < l.length) (hf : fnd x.1 l = (i : Int)) (L : List (ByteArray × Int)) (hL : L = l.take i ++ l.drop (i + 1)) :
    Calls Try.prog 10 #[.pointer (some ⟨g, 0, none⟩), .string x.1, .int .i64 x.2] w fun e w' => e = .returned (.bool (decide (most < L.length + 1))) ∧ IsC w' base g most ((x :: L).take most) h m ∧ FrT 66 71 base w w' := by
  obtain ⟨A, c, hc⟩ := hc
  have c0 : w.cell? ⟨g, 0, none⟩ = some (.int .i64 most) := hc.2.1.cell 0
  have c1 : w.cell? ⟨g, 1, none⟩ = some (.slice A l.length c) := hc.2.1.cell 1
  have hgl := hc.2.1.lt
  have Hfind := Lib.hid (find_any base g (.slice A l.length c) l x.1 w hgl c1 hc.2.2 (by omega) (i : Int) hf); clear hf
  have hLl : L.length ≤ 99999 := by rw [hL, List.length_append, List.length_take, List.length_drop]; omega
  have hdel1 : ∀ w1, Below w.heap.size w w1 → w1.cell? ⟨g, 1, none⟩ = some (.slice A l.length c) ∧ Calls Try.prog 35 #[.slice A l.length c, .int .i64 i, .int .i64 ((i : Int) + 1)] w1 fun e w2 => ∃ A' c', e = .returned (.slice A' L.length c') ∧ w2.cell? ⟨g, 1, none⟩ = some (.slice A l.length c) ∧ w2.frozen? ⟨g, 1, none⟩ = false ∧
      IsV (w2.setCell ⟨g, 1, none⟩ (.slice A' L.length c')) base g most A' c' L h m ∧ FrT 66 71 base w1 (w2.setCell ⟨g, 1, none⟩ (.slice A' L.length c')) := fun w1 hb => by
    have h1 := hc.kept hb
    refine ⟨h1.2.1.cell 1, (del_any base i (i + 1) _ _ l w1 h1.2.2 (by omega) (by omega) (by omega)).mono ?_⟩
    rintro e w2 ⟨A2, q2, rfl, ho, hgr, _⟩
    obtain ⟨z1, z2⟩ := h1.setList hgr ho
    obtain ⟨d1, d2⟩ := h1.cellList hgr
    rw [← hL] at z1 z2 ⊢
    exact ⟨A2, q2, rfl, d1, d2, z1, z2⟩
  have Hdel1 := Lib.hid hdel1; clear hdel1
  obtain ⟨nL, hnL⟩ : ∃ nL, nL = L.length := ⟨_, rfl⟩
  rw [← hnL] at hLl Hdel1 ⊢
  have HL := Lib.hid hL; clear hL
  have HnL := Lib.hid hnL; clear hnL
  have hbase := hc.base_le
  have Hc := Lib.hid hc; clear hc
  go_enter Try.func10, Try.ntmps10
  go_wp2_with (first | (go_at_call 33; refine (valid_any g most _ c0 hm0).mono ?_; rintro e w1 ⟨rfl, rfl⟩) | (go_at_call 34; refine Hfind.out.mono ?_; rintro e w1 ⟨rfl, hb⟩; obtain ⟨k1, hd⟩ := Hdel1.out _ hb; have Hd := Lib.hid hd; clear hd; have Hb := Lib.hid hb; clear hb) | (go_at_call 35; refine Hd.out.mono ?_; rintro e w2 ⟨A2, q2, rfl, l1, l2, hv2, hf2⟩; have Hv2 := Lib.hid hv2; clear hv2; have Hf2 := Lib.hid hf2; clear hf2) | fail)
  refine (use_any base g most h m A2 q2 L x _ (by rw [← HnL.out] at *; exact Hv2.out) (by rw [← HnL.out]; omega)).mono ?_
  rintro e w3 ⟨rfl, hc3, hf3, _⟩
  obtain ⟨A3, q3, hc3⟩ := hc3
  have d0 : w3.cell? ⟨g, 0, none⟩ = some (.int .i64 most) := hc3.2.1.cell 0
  have d1 : w3.cell? ⟨g, 1, none⟩ = some (.slice A3 (nL + 1) q3) := by rw [HnL.out]; exact hc3.2.1.cell 1
  have Hf3 := Lib.hid ((FrT.of_below Hb.out hbase).trans (Hf2.out.trans hf3)); clear hf3
  by_cases hov : most < nL + 1
  · have ht : ((nL : Int) + 1 ≤ (most : Int)) ↔ False := by simp; omega
    have hb3 : ∀ nq, Below w3.heap.size w3 (w3.drewN nq) := fun nq => ⟨rfl, rfl, rfl, Nat.le_refl _, fun _ _ => rfl⟩
    have hdel := fun nq => del_any base most (nL + 1) ((nL : Int) + 1) _ (x :: L) (w3.drewN nq) (hc3.kept (hb3 nq)).2.2 (by omega) (by rw [HnL.out]; simp) (by omega)
    have hcl : ∀ nq w4, (w3.drewN nq).grownBy w4 (Value.slice A3 (x :: L).length q3).ownBlock → w4.cell? ⟨g, 1, none⟩ = some (.slice A3 (nL + 1) q3) ∧ w4.frozen? ⟨g, 1, none⟩ = false ∧ w4.cell? ⟨g, 0, none⟩ = some (.int .i64 most) := fun nq w4 hgr => by
      have hv := hc3.kept (hb3 nq)
      have hB := Blk.grown hv.2.1 hgr (fun e => own_ne_blk hv.2.2 hv.2.1 (by decide) e.symm)
      rw [HnL.out]; exact ⟨hB.cell 1, hB.frozen 1, hB.cell 0⟩
    have hend : ∀ nq w4 A4 q4, w4.ownsRow base 71 2 (.slice A4 ((x :: L).take most ++ (x :: L).drop (nL + 1)).length q4) ((x :: L).take most ++ (x :: L).drop (nL + 1)).length (((x :: L).take most ++ (x :: L).drop (nL + 1)).flatMap ent) → (w3.drewN nq).grownBy w4 (Value.slice A3 (x :: L).length q3).ownBlock →
        IsC (w4.setCell ⟨g, 1, none⟩ (.slice A4 ((x :: L).take most ++ (x :: L).drop (nL + 1)).length q4)) base g most ((x :: L).take most) h m ∧ FrT 66 71 base w (w4.setCell ⟨g, 1, none⟩ (.slice A4 ((x :: L).take most ++ (x :: L).drop (nL + 1)).length q4)) := fun nq w4 A4 q4 ho hgr => by
      obtain ⟨z1, z2⟩ := (hc3.kept (hb3 nq)).setList hgr ho
      refine ⟨⟨A4, q4, ?_⟩, Hf3.out.trans ((FrT.of_below (hb3 nq) hc3.base_le).trans z2)⟩
      have e1 : (x :: L).take most ++ (x :: L).drop (nL + 1) = (x :: L).take most := by rw [HnL.out]; simp
      rw [e1] at z1 ⊢
      exact z1
    obtain ⟨L4, hL4⟩ : ∃ L4, L4 = (x :: L).take most ++ (x :: L).drop (nL + 1) := ⟨_, rfl⟩
    rw [← hL4] at hdel hend
    obtain ⟨n4, hn4⟩ : ∃ n4, n4 = L4.length := ⟨_, rfl⟩
    rw [← hn4] at hdel hend
    have e4 : (x :: L).length = nL + 1 := by rw [HnL.out]; simp
    rw [e4] at hdel hcl hend
    have Hdel := Lib.hid hdel; clear hdel
    have Hcl := Lib.hid hcl; clear hcl
    clear e4
    have Hend := Lib.hid hend; clear hend
    have HL4 := Lib.hid hL4; clear hL4
    have Hn4 := Lib.hid hn4; clear hn4
    have Hc3 := Lib.hid hc3; clear hc3
    clear hb3
    go_wp2
    go_quiet (fail)
    go_wp2
    go_region_with (go_at_call 35; refine (Hdel.out _).mono ?_; rintro e w4 ⟨A4, q4, rfl, ho, hgr, _⟩; obtain ⟨e1, f1, e0⟩ := Hcl.out _ _ hgr; have Ho := Lib.hid ho; clear ho; have Hgr := Lib.hid hgr; clear hgr)
    all_goals
     go_wp2
     go_ret
     refine ⟨ret_bool (by simp; omega), Hend.out _ _ _ _ Ho.out Hgr.out⟩
  · have ht : ((nL : Int) + 1 ≤ (most : Int)) ↔ True := by simp; omega
    have hend : ∀ nq, IsC (w3.drewN nq) base g most ((x :: L).take most) h m ∧ FrT 66 71 base w (w3.drewN nq) := fun nq => by
      have hb3 : Below w3.heap.size w3 (w3.drewN nq) := ⟨rfl, rfl, rfl, Nat.le_refl _, fun _ _ => rfl⟩
      rw [List.take_of_length_le (by rw [List.length_cons, ← HnL.out]; omega)]
      exact ⟨⟨_, _, hc3.kept hb3⟩, Hf3.out.trans (FrT.of_below hb3 hc3.base_le)⟩
    have Hend := Lib.hid hend; clear hend
    have Hc3 := Lib.hid hc3; clear hc3
    go_wp2
    go_quiet (fail)
    go_wp2
    go_ret
    exact ⟨ret_bool (by simp; omega), Hend.out _⟩
end CI
end Go.Proofs.Ytniopdfcdmifiaa
