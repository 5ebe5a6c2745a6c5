/-
  The statement CacheBounds, walked: it answers true.
-/
import Derived.Test.YtniopdfcdmifiaaPlaysWalk
namespace Go.Proofs.Ytniopdfcdmifiaa
open Go.RowKit

theorem own_cap {w : World} {base : Nat} {e : TypeId} {size : Nat} {A : Option Addr} {q c : Nat} {n : Nat} {xs : List Value} (h : w.ownsRow base e size (.slice A q c) n xs) : n ≤ c := by
  rcases h.2 with ⟨h1, h2⟩ | ⟨g, cap, cur, h1, _, _, h3, _⟩
  · omega
  · injection h1 with _ _ h4; omega
theorem StrL.take {w : World} {A : Option Addr} {l : List ByteArray} (h : StrL w A l) (k : Nat) : StrL w A (l.take k) := fun i x hx => by
  rw [List.getElem?_take] at hx
  split at hx
  · exact h i x hx
  · cases hx
/-- the keys are distinct -/
def NodupK (L : List (ByteArray × Int)) : Prop := (L.map fun x => x.1.toList).Nodup
theorem rem_sublist {V : Type} (key : ByteArray) (L : List (ByteArray × V)) : (rem key L).Sublist L := List.eraseP_sublist
theorem rem_no (key : ByteArray) : ∀ L : List (ByteArray × Int), NodupK L → ∀ y ∈ rem key L, y.1.toList ≠ key.toList
  | [], _, y, hy => by simp [rem] at hy
  | a :: L, hn, y, hy => by
    have hn' := List.nodup_cons.1 (show ((a :: L).map fun x => x.1.toList).Nodup from hn)
    unfold rem at hy
    by_cases ha : (a.1.toList == key.toList) = true
    · rw [List.eraseP_cons_of_pos (p := fun x : ByteArray × Int => x.1.toList == key.toList) ha] at hy
      intro he
      have hak : a.1.toList = key.toList := by simpa using ha
      exact hn'.1 (List.mem_map.2 ⟨y, hy, he.trans hak.symm⟩)
    · rw [List.eraseP_cons_of_neg (p := fun x : ByteArray × Int => x.1.toList == key.toList) ha] at hy
      rcases List.mem_cons.1 hy with rfl | hy
      · simpa using ha
      · exact rem_no key L hn'.2 y hy
theorem nodupK_put (n : Nat) (x : ByteArray × Int) (L : List (ByteArray × Int)) (h : NodupK L) : NodupK (putL n x L) := by
  unfold NodupK putL
  refine List.Nodup.sublist (List.Sublist.map _ (List.take_sublist _ _)) ?_
  rw [List.map_cons, List.nodup_cons]
  refine ⟨fun hc => ?_, List.Nodup.sublist (List.Sublist.map _ (rem_sublist _ _)) h⟩
  rw [List.mem_map] at hc
  obtain ⟨y, hy, he⟩ := hc
  exact rem_no x.1 L h y hy he
theorem putL_cons (n : Nat) (x : ByteArray × Int) (L : List (ByteArray × Int)) (h : 1 ≤ n) : putL n x L = x :: (rem x.1 L).take (n - 1) := by
  obtain ⟨q, rfl⟩ : ∃ q, n = q + 1 := ⟨n - 1, by omega⟩
  simp [putL]
theorem look_put (n : Nat) (x : ByteArray × Int) (L : List (ByteArray × Int)) (h : 1 ≤ n) : look x.1 (putL n x L) = some x := by
  rw [putL_cons n x L h]; simp [look]
theorem getL_put (n : Nat) (x : ByteArray × Int) (L : List (ByteArray × Int)) (h : 1 ≤ n) : getL x.1 (putL n x L) = putL n x L := by
  unfold getL
  rw [look_put n x L h, putL_cons n x L h]
  simp [rem]
theorem hasB_nodup (K : List (ByteArray × Int)) (hn : NodupK K) (k : Nat) (y : ByteArray) (hy : (K.map (·.1))[k]? = some y) : hasB ((K.map (·.1)).take k) y = false := by
  unfold hasB
  rw [List.any_eq_false]
  intro z hz hzy
  have hzy' : z.toList = y.toList := by simpa using hzy
  obtain ⟨q, hq, rfl⟩ := List.getElem_of_mem hz
  rw [List.length_take] at hq
  rw [List.getElem_take] at hzy'
  have hlt : k < (K.map (·.1)).length := by
    rcases Nat.lt_or_ge k (K.map (·.1)).length with h | h
    · exact h
    · rw [List.getElem?_eq_none h] at hy; cases hy
  rw [List.getElem?_eq_getElem hlt] at hy
  cases hy
  have h1 : q < (K.map fun x => x.1.toList).length := by simp at hlt ⊢; omega
  have h2 : k < (K.map fun x => x.1.toList).length := by simp at hlt ⊢; omega
  exact List.pairwise_iff_getElem.1 hn q k h1 h2 (by omega) (by simpa using hzy')

set_option maxHeartbeats 1600000 in
set_option maxRecDepth 100000 in
theorem bounds_long (m : Int) (A : Option Addr) (c : Nat) (l : List ActD) (w : World) (hm0 : 0 ≤ m) (hm1 : m ≤ 255) (hl : 60 < l.length) (hmx : l.length ≤ 9223372036854775807) :
    Calls Try.prog 5 #[.int .u8 m, .slice A l.length c] w fun e w' => e = .returned (.bool true) ∧ Below w.heap.size w w' := by
  obtain ⟨N, hN⟩ : ∃ N, N = l.length := ⟨_, rfl⟩
  rw [← hN] at hl hmx ⊢
  clear hN
  have hl' : (60 : Int) < (N : Int) := by omega
  have hb2 : m % 20 ≤ 19 := by omega
  have hb3 : 0 ≤ m % 20 := by omega
  obtain ⟨n, hn⟩ : ∃ n : Nat, (n : Int) = 1 + m % 20 := ⟨(1 + m % 20).toNat, by omega⟩
  have hnew := fun w => CI.new_ok n w (by omega) (by omega)
  rw [hn] at hnew
  have Hnew := Lib.hid hnew; clear hnew
  clear hn
  go_enter Try.func5, Try.ntmps5
  go_wp2_with fail
  refine (Hnew.out _).mono ?_
  rintro e w1 ⟨rfl, hb1, hc1⟩
  have Hb1 := Lib.hid hb1; clear hb1
  have Hc1 := Lib.hid hc1; clear hc1
  go_wp2_with (go_at_call 9; refine (alive_any _).mono ?_; rintro e w2 ⟨rfl, h2⟩; have H2 := Lib.hid h2; clear h2)
  go_ret
  exact ⟨rfl, Hb1.out.trans (H2.out.mono Hb1.out.size)⟩

set_option maxHeartbeats 6400000 in
set_option maxRecDepth 100000 in
theorem bounds_short (m : Int) (A : Option Addr) (c : Nat) (l : List ActD) (w : World) (hm0 : 0 ≤ m) (hm1 : m ≤ 255) (hl : l.length ≤ 60) (hact : ActL w A l) :
    Calls Try.prog 5 #[.int .u8 m, .slice A l.length c] w fun e w' => e = .returned (.bool true) ∧ Below w.heap.size w w' := by
  obtain ⟨N, hN⟩ : ∃ N, N = l.length := ⟨_, rfl⟩
  rw [← hN] at hl ⊢
  have HN := Lib.hid hN; clear hN
  have Hact := Lib.hid hact; clear hact
  have hl' : (N : Int) ≤ 60 := by omega
  have hb2 : m % 20 ≤ 19 := by omega
  have hb3 : 0 ≤ m % 20 := by omega
  obtain ⟨n, hn⟩ : ∃ n : Nat, 1 + m % 20 = (n : Int) := ⟨(1 + m % 20).toNat, by omega⟩
  have hn1 : 1 ≤ n := by omega
  have hn2 : n ≤ 20 := by omega
  have hnew := fun w => CI.new_ok n w (by omega) (by omega)
  rw [← hn] at hnew
  have Hnew := Lib.hid hnew; clear hnew
  have Hn := Lib.hid hn; clear hn
  go_enter Try.func5, Try.ntmps5
  go_wp2_with fail
  refine (Hnew.out _).mono ?_
  rintro e w1 ⟨rfl, hb1, hc1⟩
  rw [Hn.out]
  clear hb2 hb3
  have Hb1 := Lib.hid hb1; clear hb1
  have Hc1 := Lib.hid hc1; clear hc1
  go_wp2
  go_loopw [8] (fun i wr => ∃ (k : Nat) (L : List (ByteArray × Int)) (h : Nat), k ≤ N ∧ i = .int .i64 k ∧ h ≤ k ∧ L.length ≤ n ∧ Hid (NodupK L) ∧ Hid (CI.IsC wr w.heap.size w.heap.size n L h 0) ∧ Hid (Below w.heap.size w wr)) (fun i _ => N - (intOf i).toNat)
  case atStart => exact ⟨0, [], 0, by omega, rfl, by omega, by simp, List.nodup_nil, Hc1.out, Hb1.out⟩
  case round =>
    obtain ⟨k, L, h, hkN, rfl, hhk, hLn, Hnd, Hc, Hb⟩ := hrel
    by_cases hlt : k < N
    · obtain ⟨x, hx⟩ : ∃ x, l[k]? = some x := ⟨_, List.getElem?_eq_getElem (by rw [← HN.out]; exact hlt)⟩
      obtain ⟨ab, off, rfl, habw, x0, x1, x2⟩ := (Hact.out.below Hb.out) k x hx
      have hk1 : (k : Int) < (N : Int) := by omega
      have hk0 : (0 : Int) ≤ (k : Int) := by omega
      have hcellx : ∀ w', Below w.heap.size w w' → w'.cell? ⟨ab, off + k * 3 + 1, none⟩ = some (.string x.key) ∧ w'.cell? ⟨ab, off + k * 3 + 2, none⟩ = some (.int .i64 x.val) := fun w' hb' => by
        obtain ⟨b', o', he, _, _, z1, z2⟩ := (Hact.out.below hb') k x hx
        cases he
        exact ⟨z1, z2⟩
      have Hcx := Lib.hid hcellx; clear hcellx
      have Hx := Lib.hid hx; clear hx
      have hbd : Below w.heap.size w wr.drew := Hb.out.drew
      have hput := CI.put_any _ _ n h 0 L (x.key, x.val) wr.drew Hc.out (by omega) (by omega)
      have hlk := look_put n (x.key, x.val) L hn1
      have hgl := getL_put n (x.key, x.val) L hn1
      have hnd2 := nodupK_put n (x.key, x.val) L Hnd.out
      obtain ⟨L2, hL2⟩ : ∃ L2, L2 = putL n (x.key, x.val) L := ⟨_, rfl⟩
      have hln2 : L2.length ≤ n := by rw [hL2]; exact putL_length _ _ _
      have hhead : (L2.map (·.1))[0]? = some x.key := by rw [hL2, putL_cons n _ L hn1]; simp
      rw [← hL2] at hput hlk hgl hnd2
      have Hput := Lib.hid hput; clear hput
      have Hlk := Lib.hid hlk; clear hlk
      have Hgl := Lib.hid hgl; clear hgl
      have Hnd2 := Lib.hid hnd2; clear hnd2
      have Hbd := Lib.hid hbd; clear hbd
      have HL2 := Lib.hid hL2; clear hL2
      have Hhead := Lib.hid hhead; clear hhead
      go_wp2
      go_region_held3 (fun w' => w'.cell? ⟨ab, off + k * 3 + 1, none⟩ = some (.string x.key) ∧ w'.cell? ⟨ab, off + k * 3 + 2, none⟩ = some (.int .i64 x.val)) (first | exact ⟨x1, x2⟩ | exact Hcx.out _ Hb3.out) (first | (go_at_call 10; refine Hput.out.mono ?_; rintro e w3 ⟨rfl, hc3, hf3⟩; have Hb3 := Lib.hid (Hbd.out.trans hf3.below); clear hf3; have Hc3 := Lib.hid hc3; clear hc3))
      have hkeys : Calls Try.prog 26 #[.pointer (some ⟨w.heap.size, 0, none⟩)] w3 fun e w' => ∃ A c, e = .returned (.slice A L2.length c) ∧ StrL w' A (L2.map (·.1)) ∧ Below w3.heap.size w3 w' ∧ L2.length ≤ c :=
        (CI.keys_any _ _ n h 0 L2 w3 Hc3.out (by omega) (by omega)).mono fun e w' ⟨v, h1, h2, h3⟩ => by
          obtain ⟨A, q, c, rfl⟩ := own_slice h2
          obtain rfl := own_len h2
          refine ⟨A, c, h1, ?_, h3, own_cap h2⟩
          have : (L2.map fun x => Value.string x.1) = (L2.map (·.1)).map fun x => Value.string x := by simp
          rw [this] at h2
          exact StrL.of_own (by rw [List.length_map]; exact h2)
      have hlenp : 1 ≤ L2.length := by
        rw [HL2.out, putL_cons n _ L hn1]; simp
      obtain ⟨q2, hq2⟩ : ∃ q2, q2 = L2.length := ⟨_, rfl⟩
      rw [← hq2] at hkeys hln2 hlenp
      have Hkeys := Lib.hid hkeys; clear hkeys
      have Hq2 := Lib.hid hq2; clear hq2
      go_wp2_with fail
      refine Hkeys.out.mono ?_
      rintro e w4 ⟨A4, c4, rfl, hs4, hb4, hq4⟩
      have hb4' : Below w.heap.size w w4 := Hb3.out.trans (hb4.mono Hb3.out.size)
      have hc4 := Hc3.out.kept hb4
      obtain ⟨kb, ko, rfl, hkb, ck0⟩ := hs4 0 x.key Hhead.out
      obtain ⟨z1, z2⟩ := Hcx.out w4 hb4'
      have hlen4 := CI.len_any _ _ n h 0 L2 w4.drew hc4 (by omega)
      rw [← Hq2.out] at hlen4
      have Hlen4 := Lib.hid hlen4; clear hlen4
      rw [Nat.add_zero] at ck0
      have Hs4 := Lib.hid hs4; clear hs4
      have Hb4 := Lib.hid hb4'; clear hb4' hb4
      have Hc4 := Lib.hid hc4; clear hc4
      have t1 : decide ((n : Int) < (q2 : Int)) = false := by simp; omega
      have t1' : decide (n < q2) = false := by simp; omega
      have t2 : ((q2 : Int) != (q2 : Int)) = false := by simp
      have t3 : ((q2 : Int) == 0) = false := by simp; omega
      have t4 : (0 : Int) < (q2 : Int) := by omega
      have t4' : 0 < q2 := by omega
      have t6 : q2 ≤ c4 := hq4
      have t5 : (x.key.toList != x.key.toList) = false := by simp
      go_wp2
      go_region_held3 (fun w' => w'.cell? ⟨kb, ko, none⟩ = some (.string x.key) ∧ w'.cell? ⟨ab, off + k * 3 + 1, none⟩ = some (.string x.key)) (first | exact ⟨ck0, z1⟩) (first | (go_at_call 27; refine Hlen4.out.mono ?_; rintro e w5 ⟨rfl, rfl⟩))
      go_wp2
      obtain ⟨wo, rfl⟩ : ∃ wo : World, wo = wr := ⟨_, rfl⟩
      go_loopw [10] (fun i wr => ∃ j : Nat, j ≤ q2 ∧ i = .int .i64 j ∧ Hid (Below w4.heap.size w4 wr)) (fun i _ => q2 - (intOf i).toNat)
      case atStart => exact ⟨1, by omega, rfl, by simp only [Hid]; first | exact (Below.refl _ _).drew | exact Below.refl _ _⟩
      case round =>
        obtain ⟨j, hjq, rfl, Hbi⟩ := hrel
        by_cases hlj : j < q2
        · obtain ⟨y, hy⟩ : ∃ y, (L2.map (·.1))[j]? = some y := ⟨_, List.getElem?_eq_getElem (by rw [List.length_map, ← Hq2.out]; exact hlj)⟩
          have hsi := Hs4.out.below Hbi.out
          obtain ⟨kb', ko', he', hkb', cy⟩ := hsi j y hy
          cases he'
          have hlt : ((L2.map (·.1)).take j).length = j := by rw [List.length_take, List.length_map, ← Hq2.out]; omega
          have hhas := has_any (some ⟨kb, ko, none⟩) c4 ((L2.map (fun x : ByteArray × Int => x.1)).take j) y wr.drew (show StrL wr.drew _ _ from hsi.take j) (by rw [hlt]; omega)
          rw [hlt, hasB_nodup L2 Hnd2.out j y hy] at hhas
          have Hhas := Lib.hid hhas; clear hhas
          have Hsi := Lib.hid hsi; clear hsi
          clear hlt hy
          have hj1 : (j : Int) < (q2 : Int) := by omega
          have hj0 : (0 : Int) ≤ (j : Int) := by omega
          have hj2 : j ≤ c4 := by omega
          have hj3 : (j : Int) ≤ (c4 : Int) := by omega
          go_wp2
          go_region_held3 (fun w' => w'.cell? ⟨kb, ko + j, none⟩ = some (.string y)) (first | exact cy) (first | (go_at_call 11; refine Hhas.out.mono ?_; rintro e w6 ⟨rfl, rfl⟩))
          go_wp2
          go_roundw
          case rel => exact ⟨j + 1, by omega, by go_num, Hbi.out.drew⟩
          case measure => simp [intOf]; omega
        · obtain rfl : j = q2 := by omega
          have hb6 : Below w.heap.size w wr := Hb4.out.trans (Hbi.out.mono Hb4.out.size)
          obtain ⟨y1, y2⟩ := Hcx.out wr hb6
          have hget := CI.get_some _ _ n h 0 L2 x.key wr (Hc4.out.kept Hbi.out) (by omega) (by rw [← Hq2.out]; omega) (by omega) (by omega) (x.key, x.val) Hlk.out
          rw [Hgl.out] at hget
          have Hget := Lib.hid hget; clear hget
          have Hb6 := Lib.hid hb6; clear hb6
          have hvv : (x.val != x.val) = false := by simp
          go_wp2_with fail
          refine Hget.out.mono ?_
          rintro e w7 ⟨rfl, hc7, hf7⟩
          obtain ⟨y3, y4⟩ := Hcx.out w7 (Hb6.out.trans hf7.below)
          have Hb7 := Lib.hid (Hb6.out.trans hf7.below); clear hf7
          have Hc7 := Lib.hid hc7; clear hc7
          go_wp2
          go_roundw
          case rel => exact ⟨k + 1, L2, h + 1, by omega, by go_num, by omega, by rw [← Hq2.out]; exact hln2, Hnd2, Hc7, Hb7⟩
          case measure => simp [intOf]; omega
    · obtain rfl : k = N := by omega
      go_wp2_with (go_at_call 9; refine (alive_any _).mono ?_; rintro e w3 ⟨rfl, h2⟩; have H3 := Lib.hid h2; clear h2)
      go_ret
      exact ⟨rfl, Hb.out.trans (H3.out.mono Hb.out.size)⟩
end Go.Proofs.Ytniopdfcdmifiaa
