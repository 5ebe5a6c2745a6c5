/-
  The reference cache: New, Get, Put and Keys, one contract a function.
-/
import Derived.Test.YtniopdfcdmifiaaRef2
namespace Go.Proofs.Ytniopdfcdmifiaa
namespace CR
open Go.RowKit

set_option maxHeartbeats 400000 in
theorem new_ok (a : Nat) (w : World) (h : 1 ≤ a) (h2 : a ≤ 1024) :
    Calls Try.prog 15 #[.int .i64 a] w fun e w' => e = .returned (.tuple #[.agg #[.int .i64 a, .int .i64 0, .int .i64 0, .slice none 0 0], .int .i64 0]) ∧ Below w.heap.size w w' := by
  have h1' : decide ((a : Int) < 1) = false := by simp; omega
  have h2' : decide (1024 < (a : Int)) = false := by simp; omega
  go_enter Try.func15, Try.ntmps15
  go_wp2
  exact bodyPost_ret (v := .tuple #[.agg #[.int .i64 a, .int .i64 0, .int .i64 0, .slice none 0 0], .int .i64 0]) (by simp [results, Try.results15, go_sem]) rfl ⟨rfl, (Below.refl _ w).alloc (Nat.le_refl _) _⟩

set_option maxHeartbeats 400000 in
theorem new_bad (a : Int) (w : World) (h : a < 1 ∨ 1024 < a) :
    Calls Try.prog 15 #[.int .i64 a] w fun e w' => e = .returned (.tuple #[.agg #[.int .i64 0, .int .i64 0, .int .i64 0, .slice none 0 0], .int .i64 1]) ∧ Below w.heap.size w w' := by
  by_cases h1 : a < 1
  · go_enter Try.func15, Try.ntmps15
    go_wp2
    exact bodyPost_ret (v := .tuple #[.agg #[.int .i64 0, .int .i64 0, .int .i64 0, .slice none 0 0], .int .i64 1]) (by simp [results, Try.results15, go_sem]) rfl ⟨rfl, (Below.refl _ w).alloc (Nat.le_refl _) _⟩
  · have h2 : 1024 < a := by omega
    have h1' : decide (a < 1) = false := by simpa using h1
    go_enter Try.func15, Try.ntmps15
    go_wp2
    exact bodyPost_ret (v := .tuple #[.agg #[.int .i64 0, .int .i64 0, .int .i64 0, .slice none 0 0], .int .i64 1]) (by simp [results, Try.results15, go_sem]) rfl ⟨rfl, (Below.refl _ w).alloc (Nat.le_refl _) _⟩

set_option maxHeartbeats 800000 in
theorem keys_any (base g : Nat) (most h m : Nat) (l : List (ByteArray × Int)) (w : World) (hc : IsC w base g most l h m) (hl : l.length ≤ 100000) :
    Calls Try.prog 24 #[.pointer (some ⟨g, 0, none⟩)] w fun e w' => ∃ v, e = .returned v ∧ w'.ownsRow w.heap.size 9 1 v l.length (l.map fun x => .string x.1) ∧ Below w.heap.size w w' := by
  obtain ⟨A, c, hc⟩ := hc
  have hcs := fun (wr : World) k (hb : Below w.heap.size w wr) hk => (hc.kept hb).cells k hk
  have hc3 : ∀ wr, Below w.heap.size w wr → wr.cell? ⟨g, 3, none⟩ = some (.slice A l.length c) ∧ g < wr.heap.size := fun wr hb => ⟨(hc.kept hb).2.1.cell 3, (hc.kept hb).2.1.lt⟩
  obtain ⟨n, hn⟩ : ∃ n, n = l.length := ⟨_, rfl⟩
  have hinfo9 : (Try.prog.info? 9).map (fun i => (i.zero, i.size, i.bytes)) = some (some (.string ⟨#[]⟩), 1, 16) := by kernel_rfl
  obtain ⟨i0, hi0, hz0, hz1, hz2⟩ := info_parts hinfo9
  clear hinfo9
  rw [← hn] at hl hcs hc3 ⊢
  have Hcs := Lib.hid hcs; clear hcs
  have Hc3 := Lib.hid hc3; clear hc3
  have Hn := Lib.hid hn; clear hn
  have Hc := Lib.hid hc; clear hc
  have Hi := Lib.hid hi0; clear hi0
  have Hz0 := Lib.hid hz0; clear hz0
  have Hz1 := Lib.hid hz1; clear hz1
  have Hz2 := Lib.hid hz2; clear hz2
  go_enter Try.func24, Try.ntmps24
  go_wp2
  go_loopw [3, 4] (fun v i wr => ∃ k : Nat, k ≤ n ∧ i = .int .i64 k ∧ Hid (Below w.heap.size w wr) ∧ Hid (wr.ownsRow w.heap.size 9 1 v k ((l.take k).map fun x => .string x.1))) (fun _ i _ => n - (intOf i).toNat)
  case atStart => exact ⟨0, Nat.zero_le _, rfl, Below.refl _ _, by simpa [Hid] using World.ownsRow_nil w w.heap.size 9 1⟩
  case round =>
    obtain ⟨k, hkn, rfl, Hb, Hown⟩ := hrel
    obtain ⟨c3, hgw⟩ := Hc3.out wr Hb.out
    by_cases hlt : k < n
    · obtain ⟨gb, x, rfl, hx, hgb, x0, x1⟩ := Hcs.out wr k Hb.out hlt
      have Hx := Lib.hid hx; clear hx
      have hk1 : (k : Int) < (n : Int) := by omega
      have hbw : w.heap.size ≤ wr.heap.size := Hb.out.size
      have hown0 := Hown.out.alloc (.cells #[.string x.1] 9)
      have Hown0 := Lib.hid hown0; clear hown0
      go_wp2_with (at_builtin; refine wpList_append_own _ rfl (.tmp 14) (.tmp 23) 22 rfl w.heap.size 9 i0 (.string ⟨#[]⟩) 1 16 Try.underlying22 Hi.out Hz0.out Hz1.out Hz2.out rfl (by decide) _ _ _ rfl Hown0.out ⟨wr.heap.size, 0, none⟩ 1 1 [.string x.1] rfl rfl ?c1 ?c2 ?c3 ?c4 ?c5 ?_)
      case c1 => intro j u hj; exact cell_one_new _ _ _ j u hj
      case c2 => intro u hu; simp only [List.mem_singleton] at hu; subst hu; rfl
      case c3 => unfold maxLen; omega
      case c4 => omega
      case c5 => simp; omega
      intro v' w1 hown' hgr' _
      have hb2 : Below w.heap.size w w1 := (Hb.out.alloc hbw _).grown hgr' (by simp; omega) (fun q hq => (Hown0.out.lt q hq).1)
      have hown2 : w1.ownsRow w.heap.size 9 1 v' (k + 1) ((l.take (k + 1)).map fun x => .string x.1) := by
        have : (l.take (k + 1)).map (fun x => Value.string x.1) = (l.take k).map (fun x => Value.string x.1) ++ [.string x.1] := by
          rw [List.take_add_one, Hx.out]; simp
        rw [this, List.map_take]
        exact hown'
      have Hb2 := Lib.hid hb2; clear hb2
      have Hown2 := Lib.hid hown2; clear hown2
      have Hown' := Lib.hid hown'; clear hown'
      have Hgr' := Lib.hid hgr'; clear hgr'
      go_wp2
      go_roundw
      case rel => exact ⟨k + 1, by omega, by go_num, Hb2, Hown2⟩
      case measure => simp [intOf]; omega
    · obtain rfl : k = n := by omega
      have hfin := Hown.out
      rw [List.take_of_length_le (by rw [← Hn.out]; omega)] at hfin
      have Hfin := Lib.hid hfin; clear hfin
      go_wp2
      go_ret
      exact ⟨_, rfl, Hfin.out, Hb.out⟩

theorem own_cut {w : World} {base : Nat} {e : TypeId} {size : Nat} {A : Option Addr} {n c : Nat} {xs : List Value} (h : w.ownsRow base e size (.slice A n c) n xs) (m : Nat) (hm : m ≤ n) : w.ownsRow base e size (.slice A m c) m (xs.take (m * size)) := by
  have hms : m * size ≤ n * size := Nat.mul_le_mul_right _ hm
  refine ⟨by rw [List.length_take, h.1]; omega, ?_⟩
  rcases h.2 with ⟨h1, h2⟩ | ⟨g, cap, cur, h1, h2, h3, h4, h5, h6, h7⟩
  · injection h1 with a1 a2 a3
    exact .inl ⟨by rw [a1, a3, show m = 0 by omega], by omega⟩
  · injection h1 with a1 a2 a3
    refine .inr ⟨g, cap, cur, by rw [a1, a3], h2, h3, by omega, h5, h6, ?_⟩
    rw [← h7, List.take_take, Nat.min_eq_left hms]

set_option maxHeartbeats 1600000 in
theorem put_any (base g : Nat) (most h m : Nat) (l : List (ByteArray × Int)) (x : ByteArray × Int) (w : World) (hc : IsC w base g most l h m) (hl : l.length ≤ 99999) :
    Calls Try.prog 21 #[.pointer (some ⟨g, 0, none⟩), .string x.1, .int .i64 x.2] w fun e w' => e = .returned (.bool (putB most x l)) ∧ IsC w' base g most (putL most x l) h m ∧ FrT 44 88 base w w' := by
  have Hrem := Lib.hid (remove_any base g most h m l x.1 w hc (by omega))
  have hrl := rem_length_le x.1 l
  clear hc
  unfold putB putL
  go_enter Try.func21, Try.ntmps21
  go_wp2_with fail
  refine Hrem.out.mono ?_
  rintro e w1 ⟨rfl, hc1, hf1, _⟩
  have Hc1 := Lib.hid hc1; clear hc1
  have Hf1 := Lib.hid hf1; clear hf1
  obtain ⟨L, hL⟩ : ∃ L, L = rem x.1 l := ⟨_, rfl⟩
  rw [← hL] at Hc1 hrl
  have HL := Lib.hid hL; clear hL
  go_wp2_with fail
  refine (first_any base g most h m L x w1 Hc1.out (by omega)).mono ?_
  rintro e w2 ⟨rfl, hc2, hf2, _⟩
  have Hf2 := Lib.hid (Hf1.out.trans hf2); clear hf2
  obtain ⟨A, c, hc2⟩ := hc2
  have c3 : w2.cell? ⟨g, 3, none⟩ = some (.slice A (L.length + 1) c) := hc2.2.1.cell 3
  have c0 : w2.cell? ⟨g, 0, none⟩ = some (.int .i64 most) := hc2.2.1.cell 0
  have f3 : w2.frozen? ⟨g, 3, none⟩ = false := hc2.2.1.frozen 3
  have hkept := fun (nq : Nat) => hc2.kept (w' := w2.drewN nq) ⟨rfl, rfl, rfl, Nat.le_refl _, fun _ _ => rfl⟩
  by_cases hov : most < L.length + 1
  · have ht : ((most : Int) < (L.length : Int) + 1) ↔ True := by simp; omega
    have ht2 : (most : Int) ≤ (L.length : Int) + 1 := by omega
    have hcap : ∃ cap, c = cap ∧ L.length + 1 ≤ cap := by
      rcases hc2.2.2.2 with ⟨h1, h0⟩ | ⟨gb, cap, cur, h1, _, _, hnc, _⟩
      · simp at h0
      · injection h1 with _ _ a3
        exact ⟨c, rfl, by rw [a3]; simpa using hnc⟩
    obtain ⟨cap, rfl, hcap⟩ := hcap
    have ht3 : most ≤ c := by omega
    have hend : ∀ nq, IsC ((w2.drewN nq).setCell ⟨g, 3, none⟩ (.slice A most c)) base g most ((x :: L).take most) h m ∧ FrT 44 88 base w ((w2.drewN nq).setCell ⟨g, 3, none⟩ (.slice A most c)) := fun nq => by
      have hv := hkept nq
      have hlen : ((x :: L).take most).length = most := by rw [List.length_take]; simp; omega
      have ho := own_cut hv.2.2 most (by simp; omega)
      rw [flat_take ent_len] at ho
      refine ⟨⟨A, c, hv.1, ?_, ?_⟩, Hf2.out.trans (FrT.set_ (w := w2) (w' := w2.drewN nq) (FrT.of_below ⟨rfl, rfl, rfl, Nat.le_refl _, fun _ _ => rfl⟩ hc2.base_le) hv.2.1 (Or.inl rfl) hv.1 _)⟩
      · rw [hlen]; exact hv.2.1.set_ 3 _
      · rw [hlen]; exact own_set_blk ho hv.2.1 (by decide) 3 _
    have Hend := Lib.hid hend; clear hend
    have Hkept := Lib.hid hkept; clear hkept
    have Hc2 := Lib.hid hc2; clear hc2
    go_wp2
    go_quiet (fail)
    go_wp2
    go_region
    all_goals
      go_wp2
      go_ret
      exact ⟨ret_bool (by rw [← HL.out]; simp; omega), HL.out ▸ (Hend.out nq).1, (Hend.out nq).2.drew⟩
  · have ht : ((most : Int) < (L.length : Int) + 1) ↔ False := by simp; omega
    have hend : ∀ nq, IsC (w2.drewN nq) base g most ((x :: L).take most) h m ∧ FrT 44 88 base w (w2.drewN nq) := fun nq => by
      rw [List.take_of_length_le (by simp; omega)]
      exact ⟨⟨A, c, hkept nq⟩, Hf2.out.trans (FrT.of_below ⟨rfl, rfl, rfl, Nat.le_refl _, fun _ _ => rfl⟩ hc2.base_le)⟩
    have Hend := Lib.hid hend; clear hend
    have Hkept := Lib.hid hkept; clear hkept
    have Hc2 := Lib.hid hc2; clear hc2
    go_wp2
    go_quiet (fail)
    go_wp2
    go_ret
    exact ⟨ret_bool (by rw [← HL.out]; simp; omega), HL.out ▸ Hend.out _⟩

set_option maxHeartbeats 400000 in
theorem get_miss (base g : Nat) (most h m : Nat) (l : List (ByteArray × Int)) (key : ByteArray) (w : World) (hc : IsC w base g most l h m) (hl : l.length ≤ 100000) (hm : m ≤ 100000) (hf : fnd key l = -1) :
    Calls Try.prog 18 #[.pointer (some ⟨g, 0, none⟩), .string key] w fun e w' => e = .returned (.tuple #[.int .i64 0, .bool false]) ∧ IsC w' base g most l h (m + 1) ∧ FrT 44 88 base w w' := by
  have Hfind := Lib.hid (find_any base g most h m l key w hc hl (-1) hf); clear hf
  obtain ⟨A, c, hc⟩ := hc
  have c2 : w.cell? ⟨g, 2, none⟩ = some (.int .i64 m) := hc.2.1.cell 2
  have f2 : w.frozen? ⟨g, 2, none⟩ = false := hc.2.1.frozen 2
  have hend : IsC (w.setCell ⟨g, 2, none⟩ (.int .i64 ((m : Int) + 1))) base g most l h (m + 1) ∧ FrT 44 88 base w (w.setCell ⟨g, 2, none⟩ (.int .i64 ((m : Int) + 1))) :=
    ⟨⟨A, c, hc.1, hc.2.1.set_ 2 _, own_set_blk hc.2.2 hc.2.1 (by decide) 2 _⟩, FrT.set_ (FrT.refl _ _ _ _) hc.2.1 (Or.inl rfl) hc.1 _⟩
  have Hend := Lib.hid hend; clear hend
  have Hc := Lib.hid hc; clear hc
  go_enter Try.func18, Try.ntmps18
  go_wp2_with (go_at_call 45; refine Hfind.out.mono ?_; rintro e w1 ⟨rfl, rfl⟩)
  go_ret2
  exact ⟨rfl, Hend.out⟩

set_option maxHeartbeats 800000 in
theorem get_hit (base g : Nat) (most h m : Nat) (l : List (ByteArray × Int)) (key : ByteArray) (w : World) (hc : IsC w base g most l h m) (hl : l.length ≤ 100000) (hh : h ≤ 100000) (i : Nat) (x : ByteArray × Int) (hf : fnd key l = (i : Int)) (hi : i < l.length) (hx : l[i]? = some x) :
    Calls Try.prog 18 #[.pointer (some ⟨g, 0, none⟩), .string key] w fun e w' => e = .returned (.tuple #[.int .i64 x.2, .bool true]) ∧ IsC w' base g most (x :: rem key l) (h + 1) m ∧ FrT 44 88 base w w' := by
  have Hfind := Lib.hid (find_any base g most h m l key w hc hl i hf); clear hf
  obtain ⟨A, c, hc⟩ := hc
  have hgl := hc.2.1.lt
  have c1 : w.cell? ⟨g, 1, none⟩ = some (.int .i64 h) := hc.2.1.cell 1
  have f1 : w.frozen? ⟨g, 1, none⟩ = false := hc.2.1.frozen 1
  have c3 : w.cell? ⟨g, 3, none⟩ = some (.slice A l.length c) := hc.2.1.cell 3
  obtain ⟨gb, y, rfl, hy, hgb, x0, x1⟩ := hc.cells i hi
  have hxy : y = x := Option.some.inj (hy.symm.trans hx)
  rw [hxy] at x0 x1
  clear hxy hy
  have hgg : gb ≠ g := fun e => own_ne_blk hc.2.2 hc.2.1 (by decide) (by rw [e]; rfl)
  have hi1 : (i : Int) < (l.length : Int) := by omega
  obtain ⟨W, hW⟩ : ∃ W, W = (w.setCell ⟨g, 1, none⟩ (.int .i64 ((h : Int) + 1))).alloc (.cells #[.string x.1, .int .i64 x.2] 88) := ⟨_, rfl⟩
  have hv1 : IsV (w.setCell ⟨g, 1, none⟩ (.int .i64 ((h : Int) + 1))) base g most (some ⟨gb, 0, none⟩) c l (h + 1) m := ⟨hc.1, hc.2.1.set_ 1 _, own_set_blk hc.2.2 hc.2.1 (by decide) 1 _⟩
  have hvW : IsC W base g most l (h + 1) m := by rw [hW]; exact ⟨_, _, hv1.kept ((Below.refl _ _).alloc (Nat.le_refl _) _)⟩
  have hfW : FrT 44 88 base w W := by rw [hW]; exact FrT.alloc (FrT.set_ (FrT.refl _ _ _ _) hc.2.1 (Or.inl rfl) hc.1 _) hv1.base_le _
  have hxb : Blk W w.heap.size 88 (ent x) := by
    rw [hW]
    have := Blk.new (w.setCell ⟨g, 1, none⟩ (.int .i64 ((h : Int) + 1))) 88 (ent x)
    rw [World.size_setCell] at this
    exact this
  have hrem := remove_any base g most (h + 1) m l key W hvW hl
  rw [hW] at hrem
  have hlen := rem_length_le key l
  have Hrem := Lib.hid hrem; clear hrem
  have HvW := Lib.hid hvW; clear hvW
  have HfW := Lib.hid hfW; clear hfW
  have Hxb := Lib.hid hxb; clear hxb
  have HW := Lib.hid hW; clear hW
  have Hv1 := Lib.hid hv1; clear hv1
  have Hc := Lib.hid hc; clear hc
  have Hx := Lib.hid hx; clear hx
  go_enter Try.func18, Try.ntmps18
  go_wp2_with (first | (go_at_call 45; refine Hfind.out.mono ?_; rintro e w1 ⟨rfl, rfl⟩) | fail)
  refine Hrem.out.mono ?_
  rintro e w2 ⟨rfl, hc2, hf2, hk2⟩
  rw [← HW.out] at hf2 hk2
  have hxb2 : Blk w2 w.heap.size 88 (ent x) := (hk2 _ Hxb.out.lt (by omega)).trans Hxb.out
  have d0 := hxb2.cell 0
  have d1 := hxb2.cell 1
  simp only [ent, List.getElem?_cons_zero, List.getElem?_cons_succ] at d0 d1
  have Hf2 := Lib.hid (HfW.out.trans hf2); clear hf2
  have Hc2 := Lib.hid hc2; clear hc2
  have Hk2 := Lib.hid hk2; clear hk2
  have Hxb2 := Lib.hid hxb2; clear hxb2
  go_wp2_with fail
  refine (first_any base g most (h + 1) m _ x w2 Hc2.out (by omega)).mono ?_
  rintro e w3 ⟨rfl, hc3, hf3, hk3⟩
  have hxb3 : Blk w3 w.heap.size 88 (ent x) := (hk3 _ Hxb2.out.lt (by omega)).trans Hxb2.out
  have e1 := hxb3.cell 1
  simp only [ent, List.getElem?_cons_zero, List.getElem?_cons_succ] at e1
  have Hf3 := Lib.hid (Hf2.out.trans hf3); clear hf3
  have Hc3 := Lib.hid hc3; clear hc3
  have Hk3 := Lib.hid hk3; clear hk3
  have Hxb3 := Lib.hid hxb3; clear hxb3
  go_wp2
  go_ret2
  exact ⟨rfl, Hc3.out, Hf3.out⟩

theorem get_any (base g : Nat) (most h m : Nat) (l : List (ByteArray × Int)) (key : ByteArray) (w : World) (hc : IsC w base g most l h m) (hl : l.length ≤ 100000) (hh : h ≤ 100000) (hm : m ≤ 100000) :
    Calls Try.prog 18 #[.pointer (some ⟨g, 0, none⟩), .string key] w fun e w' => (∃ x, look key l = some x ∧ e = .returned (.tuple #[.int .i64 x.2, .bool true]) ∧ IsC w' base g most (getL key l) (h + 1) m ∨ look key l = none ∧ e = .returned (.tuple #[.int .i64 0, .bool false]) ∧ IsC w' base g most (getL key l) h (m + 1)) ∧ FrT 44 88 base w w' := by
  rcases fnd_cases key l with hf | ⟨i, y, hf, hi, hy, _⟩
  · refine (get_miss base g most h m l key w hc hl hm hf).mono ?_
    rintro e w' ⟨h1, h2, h3⟩
    have hk := look_miss hf
    refine ⟨⟨(default, default), .inr ⟨hk, h1, ?_⟩⟩, h3⟩
    unfold getL; rw [hk]; exact h2
  · refine (get_hit base g most h m l key w hc hl hh i y hf hi hy).mono ?_
    rintro e w' ⟨h1, h2, h3⟩
    have hk := look_hit hf hy
    refine ⟨⟨y, .inl ⟨hk, h1, ?_⟩⟩, h3⟩
    unfold getL; rw [hk]; exact h2
end CR
end Go.Proofs.Ytniopdfcdmifiaa
