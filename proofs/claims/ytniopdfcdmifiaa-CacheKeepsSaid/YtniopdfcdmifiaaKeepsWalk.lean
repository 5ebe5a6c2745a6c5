/-
  The statement CacheKeeps, walked: it answers true.
-/
import Derived.Test.YtniopdfcdmifiaaCI5
import Derived.Test.YtniopdfcdmifiaaAlive
namespace Go.Proofs.Ytniopdfcdmifiaa
open Go.RowKit

theorem own_keptFr {w w' : World} {S E base' base : Nat} (hb : FrT S E base' w w') {e : TypeId} {size : Nat} {v : Value} {n : Nat} {xs : List Value} (h : w.ownsRow base e size v n xs) (h1 : e ≠ S) (h2 : e ≠ E) : w'.ownsRow base e size v n xs := by
  refine ⟨h.1, ?_⟩
  rcases h.2 with h3 | ⟨g', cap, cur, c1, c2, c3, c4⟩
  · exact .inl h3
  · exact .inr ⟨g', cap, cur, c1, c2, hb.keep _ _ _ _ c3 h1 h2, c4⟩

set_option maxHeartbeats 1600000 in
theorem keeps_long (m : Int) (key : ByteArray) (A : Option Addr) (c : Nat) (l : List ByteArray) (w : World) (hm0 : 0 ≤ m) (hm1 : m ≤ 255) (hl : 40 < l.length) (hmx : l.length ≤ 9223372036854775807) :
    Calls Try.prog 3 #[.int .u8 m, .string key, .slice A l.length c] w fun e w' => e = .returned (.bool true) ∧ Below w.heap.size w w' := by
  obtain ⟨N, hN⟩ : ∃ N, N = l.length := ⟨_, rfl⟩
  rw [← hN] at hl hmx ⊢
  clear hN
  have hl' : (40 : Int) < (N : Int) := by omega
  have hb2 : m % 20 ≤ 19 := by omega
  have hb3 : 0 ≤ m % 20 := by omega
  obtain ⟨n, hn⟩ : ∃ n : Nat, (n : Int) = 1 + m % 20 := ⟨(1 + m % 20).toNat, by omega⟩
  have hnew := fun w => CI.new_ok n w (by omega) (by omega)
  rw [hn] at hnew
  have Hnew := Lib.hid hnew; clear hnew
  clear hn
  go_enter Try.func3, Try.ntmps3
  go_wp2_with fail
  refine (Hnew.out _).mono ?_
  rintro e w1 ⟨rfl, hb1, hc1⟩
  have Hb1 := Lib.hid hb1; clear hb1
  have Hc1 := Lib.hid hc1; clear hc1
  go_wp2_with (go_at_call 9; refine (alive_any _).mono ?_; rintro e w2 ⟨rfl, h2⟩; have H2 := Lib.hid h2; clear h2)
  go_ret
  exact ⟨rfl, Hb1.out.trans (H2.out.mono Hb1.out.size)⟩

set_option maxHeartbeats 3200000 in
set_option maxRecDepth 100000 in
theorem keeps_short (m : Int) (key : ByteArray) (A : Option Addr) (c : Nat) (l : List ByteArray) (w : World) (hm0 : 0 ≤ m) (hm1 : m ≤ 255) (hl : l.length ≤ 40) (hstr : StrL w A l) :
    Calls Try.prog 3 #[.int .u8 m, .string key, .slice A l.length c] w fun e w' => e = .returned (.bool true) ∧ Below w.heap.size w w' := by
  obtain ⟨N, hN⟩ : ∃ N, N = l.length := ⟨_, rfl⟩
  rw [← hN] at hl ⊢
  have HN := Lib.hid hN; clear hN
  have Hstr := Lib.hid hstr; clear hstr
  have hl' : (N : Int) ≤ 40 := by omega
  have hb2 : m % 20 ≤ 19 := by omega
  have hb3 : 0 ≤ m % 20 := by omega
  obtain ⟨n, hn⟩ : ∃ n : Nat, 1 + m % 20 = (n : Int) := ⟨(1 + m % 20).toNat, by omega⟩
  have hn1 : 1 ≤ n := by omega
  have hn2 : n ≤ 20 := by omega
  have hnew := fun w => CI.new_ok n w (by omega) (by omega)
  rw [← hn] at hnew
  have Hnew := Lib.hid hnew; clear hnew
  have Hn := Lib.hid hn; clear hn
  obtain ⟨i0, hi, hz0, hz1, hz2⟩ := info_parts CI.info9
  have Hi := Lib.hid hi; clear hi
  have Hz0 := Lib.hid hz0; clear hz0
  have Hz1 := Lib.hid hz1; clear hz1
  have Hz2 := Lib.hid hz2; clear hz2
  have hput1 : ∀ w1, CI.IsC w1 w.heap.size w.heap.size n [] 0 0 → Calls Try.prog 10 #[.pointer (some ⟨w.heap.size, 0, none⟩), .string key, .int .i64 7] w1 fun e w' => e = .returned (.bool (putB n (key, (7 : Int)) [])) ∧ CI.IsC w' w.heap.size w.heap.size n [(key, 7)] 0 0 ∧ FrT 66 71 w.heap.size w1 w' := fun w1 hc =>
    (CI.put_any _ _ n 0 0 [] (key, 7) w1 hc (by omega) (by simp)).mono fun e w' ⟨h1, h2, h3⟩ => ⟨h1, by
      have : putL n (key, (7 : Int)) [] = [(key, 7)] := by
        obtain ⟨q, rfl⟩ : ∃ q, n = q + 1 := ⟨n - 1, by omega⟩
        simp [putL, rem]
      rw [this] at h2; exact h2, h3⟩
  have Hput1 := Lib.hid hput1; clear hput1
  go_enter Try.func3, Try.ntmps3
  go_wp2_with fail
  refine (Hnew.out _).mono ?_
  rintro e w1 ⟨rfl, hb1, hc1⟩
  rw [Hn.out]
  clear hb2 hb3
  have Hb1 := Lib.hid hb1; clear hb1
  have Hc1 := Lib.hid hc1; clear hc1
  go_wp2_with (go_at_call 10; refine (Hput1.out _ Hc1.out).mono ?_; rintro e w2 ⟨rfl, hc2, hf2⟩; have Hc2 := Lib.hid hc2; clear hc2; have Hf2 := Lib.hid hf2; clear hf2)
  have hkept0 : Kept key (key, (7 : Int)) [] [(key, (7 : Int))] := ⟨[], [], rfl, rfl, by simp, by simp, by simp⟩
  have Hk0 := Lib.hid hkept0; clear hkept0
  go_loopw [10, 11] (fun v i wr => ∃ (k : Nat) (q : Nat) (B : Option Addr) (d : Nat) (others : List ByteArray) (L : List (ByteArray × Int)), k ≤ N ∧ q ≤ k ∧ q < n ∧ i = .int .i64 k ∧ v = .slice B q d ∧ Hid (q = others.length) ∧ Hid (wr.ownsRow w.heap.size 9 1 (.slice B q d) q (others.map fun x => Value.string x)) ∧
      Hid (CI.IsC wr w.heap.size w.heap.size n L 0 0) ∧ Hid (Kept key (key, 7) others L) ∧ L.length ≤ n ∧ Hid (Below w.heap.size w wr)) (fun _ i _ => N - (intOf i).toNat)
  case atStart =>
    exact ⟨0, 0, none, 0, [], [(key, 7)], by omega, by omega, by omega, rfl, rfl, rfl, World.ownsRow_nil _ _ _ _, Hc2.out, Hk0.out, by simpa using hn1, Hb1.out.trans Hf2.out.below⟩
  case round =>
    obtain ⟨k, q, B, d, others, L, hkN, hqk, hqn, rfl, rfl, HQ, Hown, Hc, Hk, hLn, Hb⟩ := hrel
    by_cases hlt : k < N
    · obtain ⟨x, hx⟩ : ∃ x, l[k]? = some x := ⟨_, List.getElem?_eq_getElem (by rw [← HN.out]; exact hlt)⟩
      obtain ⟨ab, off, rfl, habw, hcx⟩ := (Hstr.out.below Hb.out) k x hx
      have hk1 : (k : Int) < (N : Int) := by omega
      have Hx := Lib.hid hx; clear hx
      by_cases hkey : (x.toList == key.toList) = true
      · go_wp2
        go_roundw
        case rel => exact ⟨k + 1, q, B, d, others, L, by omega, by omega, hqn, by go_num, rfl, HQ, Hown, Hc, Hk, hLn, Hb⟩
        case measure => simp [intOf]; omega
      · have hkey' : (x.toList == key.toList) = false := by simpa using hkey
        clear hkey
        have hne : x.toList ≠ key.toList := by simpa using hkey'
        have hhas := has_any B d others x wr (StrL.of_own (by rw [← HQ.out]; exact Hown.out)) (by rw [← HQ.out]; omega)
        rw [← HQ.out] at hhas
        have hnk : (q : Int) < (n : Int) := by omega
        by_cases hh : hasB others x = true
        · rw [hh] at hhas
          have hmem : x.toList ∈ others.map (·.toList) := by
            unfold hasB at hh
            rw [List.any_eq_true] at hh
            obtain ⟨y, hy, hyx⟩ := hh
            exact List.mem_map.2 ⟨y, hy, by simpa using hyx⟩
          clear hh
          have Hmem := Lib.hid hmem; clear hmem
          have Hne := Lib.hid hne; clear hne
          have Hhas := Lib.hid hhas; clear hhas
          have Hput := Lib.hid (CI.put_any _ _ n 0 0 L (x, (k : Int)) wr Hc.out (by omega) (by omega))
          go_wp2_with (first | (go_at_call 11; refine Hhas.out.mono ?_; rintro e w1 ⟨rfl, rfl⟩) | (go_at_call 10; refine Hput.out.mono ?_; rintro e w3 ⟨rfl, hc3, hf3⟩; have Hf3 := Lib.hid hf3; clear hf3; have Hc3 := Lib.hid hc3; clear hc3))
          go_roundw
          case rel => exact ⟨k + 1, q, B, d, others, _, by omega, by omega, hqn, by go_num, rfl, HQ, own_keptFr Hf3.out Hown.out (by decide) (by decide), Hc3.out, Hk.out.put n (x, (k : Int)) Hne.out Hmem.out (by rw [← HQ.out]; exact hqn), putL_length _ _ _, Hb.out.trans Hf3.out.below⟩
          case measure => simp [intOf]; omega
        · have hh' : hasB others x = false := by simpa using hh
          clear hh
          rw [hh'] at hhas
          clear hh'
          have Hne := Lib.hid hne; clear hne
          have Hhas := Lib.hid hhas; clear hhas
          have hbw : w.heap.size ≤ wr.heap.size := Hb.out.size
          have hown0 := Hown.out.alloc (.cells #[.string x] 9)
          have Hown0 := Lib.hid hown0; clear hown0
          go_wp2_with (first | (go_at_call 11; refine Hhas.out.mono ?_; rintro e w1 ⟨rfl, rfl⟩) | (at_builtin; refine wpList_append_own _ rfl (.tmp 62) (.tmp 67) 22 rfl w.heap.size 9 i0 (.string ⟨#[]⟩) 1 16 Try.underlying22 Hi.out Hz0.out Hz1.out Hz2.out rfl (by decide) _ _ _ rfl Hown0.out ⟨wr.heap.size, 0, none⟩ 1 1 [.string x] rfl rfl ?c1 ?c2 ?c3 ?c4 ?c5 ?_) | fail)
          case c1 => intro j u hj; exact cell_one_new _ _ _ j u hj
          case c2 => intro u hu; simp only [List.mem_singleton] at hu; subst hu; rfl
          case c3 => unfold maxLen; omega
          case c4 => omega
          case c5 => simp; omega
          intro v' w1 hown' hgr' _
          obtain ⟨B', q', d', hv'⟩ := own_slice hown'
          rw [hv'] at hown' ⊢
          obtain rfl := own_len hown'
          have hgrow : FrT 9 9 w.heap.size wr w1 :=
            ((FrT.refl 9 9 w.heap.size wr).alloc hbw _).grown hgr' (fun z hz => by
              obtain ⟨a1, cs, fz, a2⟩ := own_blk Hown0.out z hz
              exact ⟨a1, cs, _, fz, a2, Or.inl rfl⟩) (by simp; omega)
          have hc1 : CI.IsC w1 w.heap.size w.heap.size n L 0 0 := CI.IsC.keptFr Hc.out hgrow (by decide) (by decide) (by decide) (by decide)
          have hown1 : w1.ownsRow w.heap.size 9 1 (.slice B' (q + 1) d') (q + 1) ((others ++ [x]).map fun x => Value.string x) := by
            rw [List.map_append]; exact hown'
          have hmem : x.toList ∈ (others ++ [x]).map (·.toList) := by simp
          have hb1 : Below w.heap.size w w1 := Hb.out.trans hgrow.below
          have hs1 := (Hstr.out.below hb1) k x Hx.out
          obtain ⟨ab', off', he', habw', hcx'⟩ := hs1
          cases he'
          have Hkm := Lib.hid (Hk.out.more x)
          have hq1 : q + 1 = (others ++ [x]).length := by simp [← HQ.out]
          have HQ1 := Lib.hid hq1; clear hq1
          have Hmem := Lib.hid hmem; clear hmem
          have Hgrow := Lib.hid hgrow; clear hgrow
          have Hb1' := Lib.hid hb1; clear hb1
          have Hown1 := Lib.hid hown1; clear hown1
          have Hown' := Lib.hid hown'; clear hown'
          have Hgr' := Lib.hid hgr'; clear hgr'
          have Hv' := Lib.hid hv'; clear hv'
          have Hc1' := Lib.hid hc1; clear hc1
          by_cases hlast : q + 1 < n
          · have hlast' : (q : Int) + 1 < (n : Int) := by omega
            have Hput := Lib.hid (CI.put_any _ _ n 0 0 L (x, (k : Int)) w1 Hc1'.out (by omega) (by omega))
            go_wp2_with (go_at_call 10; refine Hput.out.mono ?_; rintro e w3 ⟨rfl, hc3, hf3⟩; have Hf3 := Lib.hid hf3; clear hf3; have Hc3 := Lib.hid hc3; clear hc3)
            go_roundw
            case rel => exact ⟨k + 1, q + 1, B', d', _, _, by omega, by omega, hlast, by go_num, rfl, HQ1, own_keptFr Hf3.out Hown1.out (by decide) (by decide), Hc3.out, Hkm.out.put n (x, (k : Int)) Hne.out Hmem.out (by rw [← HQ1.out]; exact hlast), putL_length _ _ _, Hb1'.out.trans Hf3.out.below⟩
            case measure => simp [intOf]; omega
          · have hlast' : (n : Int) ≤ (q : Int) + 1 := by omega
            obtain ⟨i, hf, hiL, hxL⟩ := Hk.out.get
            have Hget := Lib.hid (CI.get_hit _ _ n 0 0 L key w1 Hc1'.out (by omega) (by omega) (by omega) i _ hf hiL hxL); clear hf hiL hxL
            go_wp2_with (first | (go_at_call 12; refine Hget.out.mono ?_; rintro e w3 ⟨rfl, hc3, hf3⟩; have Hf3 := Lib.hid hf3; clear hf3; clear hc3) | (go_at_call 9; refine (alive_any _).mono ?_; rintro e w4 ⟨rfl, h4⟩; have H4 := Lib.hid h4; clear h4))
            go_ret
            exact ⟨rfl, Hb1'.out.trans (Hf3.out.below.trans (H4.out.mono (Nat.le_trans Hb1'.out.size Hf3.out.below.size)))⟩
    · obtain rfl : k = N := by omega
      obtain ⟨i, hf, hiL, hxL⟩ := Hk.out.get
      have Hget := Lib.hid (CI.get_hit _ _ n 0 0 L key wr Hc.out (by omega) (by omega) (by omega) i _ hf hiL hxL); clear hf hiL hxL
      go_wp2_with (first | (go_at_call 12; refine Hget.out.mono ?_; rintro e w3 ⟨rfl, hc3, hf3⟩; have Hf3 := Lib.hid hf3; clear hf3; clear hc3) | (go_at_call 9; refine (alive_any _).mono ?_; rintro e w4 ⟨rfl, h4⟩; have H4 := Lib.hid h4; clear h4))
      go_ret
      exact ⟨rfl, Hb.out.trans (Hf3.out.below.trans (H4.out.mono (Nat.le_trans Hb.out.size Hf3.out.below.size)))⟩
end Go.Proofs.Ytniopdfcdmifiaa
