/-
  The statement CachePlays, walked: it answers true.
-/
import Derived.Test.YtniopdfcdmifiaaState
namespace Go.Proofs.Ytniopdfcdmifiaa
open Go.RowKit

theorem CI.get_some (base g : Nat) (most h m : Nat) (l : List (ByteArray × Int)) (key : ByteArray) (w : World) (hc : CI.IsC w base g most l h m) (hm0 : 0 < most) (hl : l.length ≤ 100000) (hh : h ≤ 100000) (hm : m ≤ 100000) (x : ByteArray × Int) (hx : look key l = some x) :
    Calls Try.prog 12 #[.pointer (some ⟨g, 0, none⟩), .string key] w fun e w' => e = .returned (.tuple #[.int .i64 x.2, .bool true]) ∧ CI.IsC w' base g most (getL key l) (h + 1) m ∧ FrT 66 71 base w w' :=
  (CI.get_any base g most h m l key w hc hm0 hl hh hm).mono fun e w' ⟨⟨y, h1⟩, h2⟩ => by
    rcases h1 with ⟨a1, a2, a3⟩ | ⟨a1, _⟩
    · rw [hx] at a1; cases a1; exact ⟨a2, a3, h2⟩
    · rw [hx] at a1; cases a1
theorem CI.get_none (base g : Nat) (most h m : Nat) (l : List (ByteArray × Int)) (key : ByteArray) (w : World) (hc : CI.IsC w base g most l h m) (hm0 : 0 < most) (hl : l.length ≤ 100000) (hh : h ≤ 100000) (hm : m ≤ 100000) (hx : look key l = none) :
    Calls Try.prog 12 #[.pointer (some ⟨g, 0, none⟩), .string key] w fun e w' => e = .returned (.tuple #[.int .i64 0, .bool false]) ∧ CI.IsC w' base g most (getL key l) h (m + 1) ∧ FrT 66 71 base w w' :=
  (CI.get_any base g most h m l key w hc hm0 hl hh hm).mono fun e w' ⟨⟨y, h1⟩, h2⟩ => by
    rcases h1 with ⟨a1, a2, a3⟩ | ⟨a1, a2, a3⟩
    · rw [hx] at a1; cases a1
    · exact ⟨a2, a3, h2⟩
theorem CR.get_some (base g : Nat) (most h m : Nat) (l : List (ByteArray × Int)) (key : ByteArray) (w : World) (hc : CR.IsC w base g most l h m) (hl : l.length ≤ 100000) (hh : h ≤ 100000) (hm : m ≤ 100000) (x : ByteArray × Int) (hx : look key l = some x) :
    Calls Try.prog 18 #[.pointer (some ⟨g, 0, none⟩), .string key] w fun e w' => e = .returned (.tuple #[.int .i64 x.2, .bool true]) ∧ CR.IsC w' base g most (getL key l) (h + 1) m ∧ FrT 44 88 base w w' :=
  (CR.get_any base g most h m l key w hc hl hh hm).mono fun e w' ⟨⟨y, h1⟩, h2⟩ => by
    rcases h1 with ⟨a1, a2, a3⟩ | ⟨a1, _⟩
    · rw [hx] at a1; cases a1; exact ⟨a2, a3, h2⟩
    · rw [hx] at a1; cases a1
theorem CR.get_none (base g : Nat) (most h m : Nat) (l : List (ByteArray × Int)) (key : ByteArray) (w : World) (hc : CR.IsC w base g most l h m) (hl : l.length ≤ 100000) (hh : h ≤ 100000) (hm : m ≤ 100000) (hx : look key l = none) :
    Calls Try.prog 18 #[.pointer (some ⟨g, 0, none⟩), .string key] w fun e w' => e = .returned (.tuple #[.int .i64 0, .bool false]) ∧ CR.IsC w' base g most (getL key l) h (m + 1) ∧ FrT 44 88 base w w' :=
  (CR.get_any base g most h m l key w hc hl hh hm).mono fun e w' ⟨⟨y, h1⟩, h2⟩ => by
    rcases h1 with ⟨a1, a2, a3⟩ | ⟨a1, a2, a3⟩
    · rw [hx] at a1; cases a1
    · exact ⟨a2, a3, h2⟩
theorem CI.remove_any (base g : Nat) (most h m : Nat) (l : List (ByteArray × Int)) (key : ByteArray) (w : World) (hc : CI.IsC w base g most l h m) (hm0 : 0 < most) (hl : l.length ≤ 100000) :
    Calls Try.prog 28 #[.pointer (some ⟨g, 0, none⟩), .string key] w fun e w' => e = .returned (.bool (look key l).isSome) ∧ CI.IsC w' base g most (rem key l) h m ∧ FrT 66 71 base w w' := by
  rcases fnd_cases key l with hf | ⟨i, y, hf, hi, hy, _⟩
  · refine (CI.remove_miss base g most h m l key w hc hm0 hl hf).mono ?_
    rw [look_miss hf, rem_miss hf]
    exact fun _ _ h => h
  · refine (CI.remove_hit base g most h m l key w hc hm0 hl i hi hf _ rfl).mono ?_
    rw [look_hit hf hy, rem_hit hf]
    exact fun _ _ h => h

/-- an operation: what to do, a key, a value -/
structure ActD where
  op : Int
  key : ByteArray
  val : Int
/-- a slice of operations as the list of its elements -/
def ActL (w : World) (A : Option Addr) (l : List ActD) : Prop :=
  ∀ (i : Nat) (x : ActD), l[i]? = some x → ∃ b off, A = some ⟨b, off, none⟩ ∧ b < w.heap.size ∧ w.cell? ⟨b, off + i * 3, none⟩ = some (.int .i64 x.op) ∧ w.cell? ⟨b, off + i * 3 + 1, none⟩ = some (.string x.key) ∧ w.cell? ⟨b, off + i * 3 + 2, none⟩ = some (.int .i64 x.val)
theorem ActL.below {w w' : World} {A : Option Addr} {l : List ActD} (h : ActL w A l) (hb : Below w.heap.size w w') : ActL w' A l := fun i x hx => by
  obtain ⟨b, off, h1, h2, h3, h4, h5⟩ := h i x hx
  exact ⟨b, off, h1, Nat.lt_of_lt_of_le h2 hb.size, (hb.cell (p := ⟨b, _, none⟩) h2).trans h3, (hb.cell (p := ⟨b, _, none⟩) h2).trans h4, (hb.cell (p := ⟨b, _, none⟩) h2).trans h5⟩

set_option maxHeartbeats 800000 in
set_option maxRecDepth 100000 in
theorem plays_long (m : Int) (A : Option Addr) (c : Nat) (l : List ActD) (w : World) (hl : 80 < l.length) (hmx : l.length ≤ 9223372036854775807) :
    Calls Try.prog 6 #[.int .i64 m, .slice A l.length c] w fun e w' => e = .returned (.bool true) ∧ Below w.heap.size w w' := by
  obtain ⟨N, hN⟩ : ∃ N, N = l.length := ⟨_, rfl⟩
  rw [← hN] at hl hmx ⊢
  clear hN
  have hl' : (80 : Int) < (N : Int) := by omega
  go_enter Try.func6, Try.ntmps6
  go_wp2_with (go_at_call 9; refine (alive_any _).mono ?_; rintro e w2 ⟨rfl, h2⟩; have H2 := Lib.hid h2; clear h2)
  go_ret
  exact ⟨rfl, H2.out⟩

set_option maxHeartbeats 800000 in
set_option maxRecDepth 100000 in
theorem plays_bad (m : Int) (A : Option Addr) (c : Nat) (l : List ActD) (w : World) (hl : l.length ≤ 80) (hm : m < 1 ∨ 1024 < m) :
    Calls Try.prog 6 #[.int .i64 m, .slice A l.length c] w fun e w' => e = .returned (.bool true) ∧ Below w.heap.size w w' := by
  obtain ⟨N, hN⟩ : ∃ N, N = l.length := ⟨_, rfl⟩
  rw [← hN] at hl ⊢
  clear hN
  have hl' : (N : Int) ≤ 80 := by omega
  have H1 := Lib.hid (CI.new_bad m w hm)
  have H2 := Lib.hid (CR.new_bad m w hm)
  clear hm
  go_enter Try.func6, Try.ntmps6
  go_wp2_with fail
  refine H1.out.mono ?_
  rintro e w1 ⟨rfl, rfl⟩
  go_wp2_with fail
  refine H2.out.mono ?_
  rintro e w2 ⟨rfl, hb⟩
  have Hb := Lib.hid hb; clear hb
  go_wp2_with (go_at_call 9; refine (alive_any _).mono ?_; rintro e w3 ⟨rfl, h2⟩; have H3 := Lib.hid h2; clear h2)
  go_ret
  exact ⟨rfl, (Hb.out.alloc Hb.out.size _).trans (H3.out.mono (by have := Hb.out.size; simp; omega))⟩

/-- what a round has at its head: both caches hold the same -/
structure Both (B g g' n : Nat) (L : List (ByteArray × Int)) (h m : Nat) (w0 wr : World) : Prop where
  cache : CI.IsC wr B g n L h m
  ref : CR.IsC wr B g' n L h m
  below : Below B w0 wr
theorem Both.box {B g g' n : Nat} {L : List (ByteArray × Int)} {h m : Nat} {w0 wr : World} (hb : Both B g g' n L h m w0 wr) (hB : B ≤ wr.heap.size) (o : Obj) : Both B g g' n L h m w0 (wr.alloc o) :=
  ⟨hb.cache.kept ((Below.refl _ _).alloc (Nat.le_refl _) _), hb.ref.kept ((Below.refl _ _).alloc (Nat.le_refl _) _), hb.below.alloc hB _⟩

set_option maxHeartbeats 3200000 in
set_option maxRecDepth 100000 in
theorem plays_ok (n : Nat) (A : Option Addr) (c : Nat) (l : List ActD) (w : World) (hl : l.length ≤ 80) (hn1 : 1 ≤ n) (hn2 : n ≤ 1024) (hact : ActL w A l) :
    Calls Try.prog 6 #[.int .i64 n, .slice A l.length c] w fun e w' => e = .returned (.bool true) ∧ Below w.heap.size w w' := by
  obtain ⟨N, hN⟩ : ∃ N, N = l.length := ⟨_, rfl⟩
  rw [← hN] at hl ⊢
  have HN := Lib.hid hN; clear hN
  have Hact := Lib.hid hact; clear hact
  have hl' : (N : Int) ≤ 80 := by omega
  have H1 := Lib.hid (CI.new_ok n w hn1 hn2)
  have H2 := Lib.hid (fun w1 => CR.new_ok n w1 hn1 hn2)
  go_enter Try.func6, Try.ntmps6
  go_wp2_with fail
  refine H1.out.mono ?_
  rintro e w1 ⟨rfl, hb1, hc1⟩
  have Hb1 := Lib.hid hb1; clear hb1
  have Hc1 := Lib.hid hc1; clear hc1
  go_wp2_with fail
  refine (H2.out w1).mono ?_
  rintro e w2 ⟨rfl, hb2⟩
  have hbW : Below w.heap.size w w2 := Hb1.out.trans (hb2.mono Hb1.out.size)
  have hboth : Both w.heap.size w.heap.size w2.heap.size n [] 0 0 w (w2.alloc (.cells #[.int .i64 n, .int .i64 0, .int .i64 0, .slice none 0 0] 44)) :=
    ⟨(Hc1.out.kept hb2).kept ((Below.refl _ _).alloc (Nat.le_refl _) _), ⟨none, 0, hbW.size, Blk.new w2 44 [.int .i64 n, .int .i64 0, .int .i64 0, .slice none 0 0], World.ownsRow_nil _ _ _ _⟩, hbW.alloc hbW.size _⟩
  have Hboth := Lib.hid hboth; clear hboth
  have HbW := Lib.hid hbW; clear hbW
  have Hb2 := Lib.hid hb2; clear hb2
  go_wp2
  go_loopw [9] (fun i wr => ∃ (k : Nat) (L : List (ByteArray × Int)) (h m : Nat), k ≤ N ∧ i = .int .i64 k ∧ h ≤ k ∧ m ≤ k ∧ L.length ≤ n ∧ Hid (Both w.heap.size w.heap.size w2.heap.size n L h m w wr)) (fun i _ => N - (intOf i).toNat)
  case atStart => exact ⟨0, [], 0, 0, by omega, rfl, by omega, by omega, by simp, Hboth.out⟩
  case round =>
    obtain ⟨k, L, h, m, hkN, rfl, hhk, hmk, hLn, Hr⟩ := hrel
    by_cases hlt : k < N
    · obtain ⟨x, hx⟩ : ∃ x, l[k]? = some x := ⟨_, List.getElem?_eq_getElem (by rw [← HN.out]; exact hlt)⟩
      obtain ⟨ab, off, rfl, habw, x0, x1, x2⟩ := (Hact.out.below Hr.out.below) k x hx
      have hk1 : (k : Int) < (N : Int) := by omega
      have Hx := Lib.hid hx; clear hx
      have hBr : w.heap.size ≤ wr.heap.size := Hr.out.below.size
      obtain ⟨wa, hwa⟩ : ∃ wa, wa = wr.alloc (.cells #[.int .i64 x.op, .string x.key, .int .i64 x.val] 48) := ⟨_, rfl⟩
      have Ha := Lib.hid (show Both w.heap.size w.heap.size w2.heap.size n L h m w wa by rw [hwa]; exact Hr.out.box hBr _)
      have Hblk := Lib.hid (show Blk wa wr.heap.size 48 [.int .i64 x.op, .string x.key, .int .i64 x.val] by rw [hwa]; exact Blk.new wr 48 _)
      have Hwa := Lib.hid hwa; clear hwa
      have hst : ∀ (w1 : World) (L' : List (ByteArray × Int)) (h' m' : Nat), Both w.heap.size w.heap.size w2.heap.size n L' h' m' w w1 → L'.length ≤ n → Calls Try.prog 30 #[.pointer (some ⟨w.heap.size, 0, none⟩), .pointer (some ⟨w2.heap.size, 0, none⟩)] w1 fun e w' => e = .returned (.bool true) ∧ Both w.heap.size w.heap.size w2.heap.size n L' h' m' w w' := fun w1 L' h' m' hb hl' =>
        (state_any w.heap.size w.heap.size w.heap.size w2.heap.size n h' m' L' w1 hb.cache hb.ref (by omega) (by omega)).mono fun e w' ⟨z1, z2⟩ => ⟨z1, hb.cache.kept z2, hb.ref.kept z2, hb.below.trans (z2.mono hb.below.size)⟩
      have Hst := Lib.hid hst; clear hst
      by_cases h0 : x.op = 0
      · rw [h0] at x0 Hwa Hblk
        clear h0
        cases hlk : look x.key L with
        | some y =>
          have hci := CI.get_some _ _ n h m L x.key wa Ha.out.cache (by omega) (by omega) (by omega) (by omega) y hlk
          rw [Hwa.out] at hci
          have Hci := Lib.hid hci; clear hci
          have hyy : (y.2 != y.2) = false := by simp
          have Hlk := Lib.hid hlk
          go_wp2_with fail
          refine Hci.out.mono ?_
          rintro e w3 ⟨rfl, hc3, hf3⟩
          rw [← Hwa.out] at hf3
          have hr3 : CR.IsC w3 w.heap.size w2.heap.size n L h m := CR.IsC.keptFr Ha.out.ref hf3 (by decide) (by decide) (by decide) (by decide)
          have hb3 := hf3.blk Hblk.out (by decide) (by decide)
          have y0 := hb3.cell 0
          have y1 := hb3.cell 1
          have y2 := hb3.cell 2
          simp only [List.getElem?_cons_zero, List.getElem?_cons_succ] at y0 y1 y2
          have hcr := CR.get_some _ _ n h m L x.key w3 hr3 (by omega) (by omega) (by omega) y hlk
          have Hcr := Lib.hid hcr; clear hcr
          have Hlo := Lib.hid (Ha.out.below.trans hf3.below)
          clear hf3 hr3 hb3
          have Hc3 := Lib.hid hc3; clear hc3
          go_wp2_with fail
          refine Hcr.out.mono ?_
          rintro e w4 ⟨rfl, hr4, hf4⟩
          have hboth4 : Both w.heap.size w.heap.size w2.heap.size n (getL x.key L) (h + 1) m w w4 := ⟨CI.IsC.keptFr Hc3.out hf4 (by decide) (by decide) (by decide) (by decide), hr4, Hlo.out.trans hf4.below⟩
          have hst := Hst.out _ _ _ _ hboth4 (by rw [getL_length]; exact hLn)
          have Hst1 := Lib.hid hst; clear hst
          clear hboth4 hf4 hr4
          go_wp2_with (go_at_call 30; refine Hst1.out.mono ?_; rintro e w5 ⟨rfl, hb5⟩; have Hb5 := Lib.hid hb5; clear hb5)
          go_roundw
          case rel => exact ⟨k + 1, _, _, _, by omega, by go_num, by omega, by omega, (by rw [getL_length]; exact hLn), Hb5⟩
          case measure => simp [intOf]; omega
        | none =>
          have hci := CI.get_none _ _ n h m L x.key wa Ha.out.cache (by omega) (by omega) (by omega) (by omega) hlk
          rw [Hwa.out] at hci
          have Hci := Lib.hid hci; clear hci
          have Hlk := Lib.hid hlk
          go_wp2_with fail
          refine Hci.out.mono ?_
          rintro e w3 ⟨rfl, hc3, hf3⟩
          rw [← Hwa.out] at hf3
          have hr3 : CR.IsC w3 w.heap.size w2.heap.size n L h m := CR.IsC.keptFr Ha.out.ref hf3 (by decide) (by decide) (by decide) (by decide)
          have hb3 := hf3.blk Hblk.out (by decide) (by decide)
          have y0 := hb3.cell 0
          have y1 := hb3.cell 1
          have y2 := hb3.cell 2
          simp only [List.getElem?_cons_zero, List.getElem?_cons_succ] at y0 y1 y2
          have hcr := CR.get_none _ _ n h m L x.key w3 hr3 (by omega) (by omega) (by omega) hlk
          have Hcr := Lib.hid hcr; clear hcr
          have Hlo := Lib.hid (Ha.out.below.trans hf3.below)
          clear hf3 hr3 hb3
          have Hc3 := Lib.hid hc3; clear hc3
          go_wp2_with fail
          refine Hcr.out.mono ?_
          rintro e w4 ⟨rfl, hr4, hf4⟩
          have hboth4 : Both w.heap.size w.heap.size w2.heap.size n (getL x.key L) h (m + 1) w w4 := ⟨CI.IsC.keptFr Hc3.out hf4 (by decide) (by decide) (by decide) (by decide), hr4, Hlo.out.trans hf4.below⟩
          have hst := Hst.out _ _ _ _ hboth4 (by rw [getL_length]; exact hLn)
          have Hst1 := Lib.hid hst; clear hst
          clear hboth4 hf4 hr4
          go_wp2_with (go_at_call 30; refine Hst1.out.mono ?_; rintro e w5 ⟨rfl, hb5⟩; have Hb5 := Lib.hid hb5; clear hb5)
          go_roundw
          case rel => exact ⟨k + 1, _, _, _, by omega, by go_num, by omega, by omega, (by rw [getL_length]; exact hLn), Hb5⟩
          case measure => simp [intOf]; omega
      · have h0' : (x.op == 0) = false := by simpa using h0
        by_cases h1 : x.op = 1
        · clear h0' h0
          rw [h1] at x0 Hwa Hblk
          clear h1
          have hci := CI.put_any _ _ n h m L (x.key, x.val) wa Ha.out.cache (by omega) (by omega)
          rw [Hwa.out] at hci
          have Hci := Lib.hid hci; clear hci

          go_wp2_with fail
          refine Hci.out.mono ?_
          rintro e w3 ⟨rfl, hc3, hf3⟩
          rw [← Hwa.out] at hf3
          have hr3 : CR.IsC w3 w.heap.size w2.heap.size n L h m := CR.IsC.keptFr Ha.out.ref hf3 (by decide) (by decide) (by decide) (by decide)
          have hb3 := hf3.blk Hblk.out (by decide) (by decide)
          have y0 := hb3.cell 0
          have y1 := hb3.cell 1
          have y2 := hb3.cell 2
          simp only [List.getElem?_cons_zero, List.getElem?_cons_succ] at y0 y1 y2
          have hcr := CR.put_any _ _ n h m L (x.key, x.val) w3 hr3 (by omega)
          have Hcr := Lib.hid hcr; clear hcr
          have Hlo := Lib.hid (Ha.out.below.trans hf3.below)
          clear hf3 hr3 hb3
          have Hc3 := Lib.hid hc3; clear hc3
          go_wp2_with fail
          refine Hcr.out.mono ?_
          rintro e w4 ⟨rfl, hr4, hf4⟩
          have hboth4 : Both w.heap.size w.heap.size w2.heap.size n (putL n (x.key, x.val) L) h m w w4 := ⟨CI.IsC.keptFr Hc3.out hf4 (by decide) (by decide) (by decide) (by decide), hr4, Hlo.out.trans hf4.below⟩
          have hst := Hst.out _ _ _ _ hboth4 (putL_length _ _ _)
          have Hst1 := Lib.hid hst; clear hst
          clear hboth4 hf4 hr4
          go_wp2_with (go_at_call 30; refine Hst1.out.mono ?_; rintro e w5 ⟨rfl, hb5⟩; have Hb5 := Lib.hid hb5; clear hb5)
          go_roundw
          case rel => exact ⟨k + 1, _, _, _, by omega, by go_num, by omega, by omega, (putL_length _ _ _), Hb5⟩
          case measure => simp [intOf]; omega
        · have h1' : (x.op == 1) = false := by simpa using h1
          by_cases h2 : x.op = 2
          · clear h0' h0 h1' h1
            rw [h2] at x0 Hwa Hblk
            clear h2
            have hci := CI.remove_any _ _ n h m L x.key wa Ha.out.cache (by omega) (by omega)
            rw [Hwa.out] at hci
            have Hci := Lib.hid hci; clear hci

            go_wp2_with fail
            refine Hci.out.mono ?_
            rintro e w3 ⟨rfl, hc3, hf3⟩
            rw [← Hwa.out] at hf3
            have hr3 : CR.IsC w3 w.heap.size w2.heap.size n L h m := CR.IsC.keptFr Ha.out.ref hf3 (by decide) (by decide) (by decide) (by decide)
            have hb3 := hf3.blk Hblk.out (by decide) (by decide)
            have y0 := hb3.cell 0
            have y1 := hb3.cell 1
            have y2 := hb3.cell 2
            simp only [List.getElem?_cons_zero, List.getElem?_cons_succ] at y0 y1 y2
            have hcr := (CR.remove_any _ _ n h m L x.key w3 hr3 (by omega)).mono fun _ _ ⟨a1, a2, a3, _⟩ => (⟨a1, a2, a3⟩ : _ ∧ _ ∧ _)
            have Hcr := Lib.hid hcr; clear hcr
            have Hlo := Lib.hid (Ha.out.below.trans hf3.below)
            clear hf3 hr3 hb3
            have Hc3 := Lib.hid hc3; clear hc3
            go_wp2_with fail
            refine Hcr.out.mono ?_
            rintro e w4 ⟨rfl, hr4, hf4⟩
            have hboth4 : Both w.heap.size w.heap.size w2.heap.size n (rem x.key L) h m w w4 := ⟨CI.IsC.keptFr Hc3.out hf4 (by decide) (by decide) (by decide) (by decide), hr4, Hlo.out.trans hf4.below⟩
            have hst := Hst.out _ _ _ _ hboth4 (Nat.le_trans (rem_length_le _ _) hLn)
            have Hst1 := Lib.hid hst; clear hst
            clear hboth4 hf4 hr4
            go_wp2_with (go_at_call 30; refine Hst1.out.mono ?_; rintro e w5 ⟨rfl, hb5⟩; have Hb5 := Lib.hid hb5; clear hb5)
            go_roundw
            case rel => exact ⟨k + 1, _, _, _, by omega, by go_num, by omega, by omega, (Nat.le_trans (rem_length_le _ _) hLn), Hb5⟩
            case measure => simp [intOf]; omega
          · have h2' : (x.op == 2) = false := by simpa using h2
            clear h0 h1 h2
            have hst := Hst.out _ _ _ _ Ha.out hLn
            rw [Hwa.out] at hst
            have Hst1 := Lib.hid hst; clear hst
            go_wp2_with (go_at_call 30; refine Hst1.out.mono ?_; rintro e w5 ⟨rfl, hb5⟩; have Hb5 := Lib.hid hb5; clear hb5)
            go_roundw
            case rel => exact ⟨k + 1, L, h, m, by omega, by go_num, by omega, by omega, hLn, Hb5⟩
            case measure => simp [intOf]; omega
    · obtain rfl : k = N := by omega
      go_wp2_with (go_at_call 9; refine (alive_any _).mono ?_; rintro e w3 ⟨rfl, h2⟩; have H3 := Lib.hid h2; clear h2)
      go_ret
      exact ⟨rfl, Hr.out.below.trans (H3.out.mono Hr.out.below.size)⟩
end Go.Proofs.Ytniopdfcdmifiaa
