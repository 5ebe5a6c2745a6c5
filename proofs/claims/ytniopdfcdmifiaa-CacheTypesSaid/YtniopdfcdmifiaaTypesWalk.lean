/-
  The statement CacheTypes, walked: it answers true.
-/
import Derived.Test.YtniopdfcdmifiaaPlaysWalk
import Derived.Test.YtniopdfcdmifiaaCP5
namespace Go.Proofs.Ytniopdfcdmifiaa
open Go.RowKit

section
variable {V U : Type} (f : V → U)
def mapV (L : List (ByteArray × V)) : List (ByteArray × U) := L.map fun x => (x.1, f x.2)
theorem mapV_length (L : List (ByteArray × V)) : (mapV f L).length = L.length := by simp [mapV]
theorem mapV_keys (L : List (ByteArray × V)) : (mapV f L).map (·.1) = L.map (·.1) := by simp [mapV]
theorem mapV_rem (key : ByteArray) : ∀ L : List (ByteArray × V), rem key (mapV f L) = mapV f (rem key L)
  | [] => rfl
  | a :: L => by
    have ih := mapV_rem key L
    unfold rem mapV at ih ⊢
    by_cases ha : (a.1.toList == key.toList) = true
    · rw [List.map_cons, List.eraseP_cons_of_pos (p := fun x : ByteArray × U => x.1.toList == key.toList) ha, List.eraseP_cons_of_pos (p := fun x : ByteArray × V => x.1.toList == key.toList) ha]
    · rw [List.map_cons, List.eraseP_cons_of_neg (p := fun x : ByteArray × U => x.1.toList == key.toList) ha, List.eraseP_cons_of_neg (p := fun x : ByteArray × V => x.1.toList == key.toList) ha, List.map_cons, ih]
theorem mapV_look (key : ByteArray) (L : List (ByteArray × V)) : look key (mapV f L) = (look key L).map fun x => (x.1, f x.2) := by
  unfold look mapV
  rw [List.find?_map]
  rfl
theorem mapV_put (n : Nat) (x : ByteArray × V) (L : List (ByteArray × V)) : putL n (x.1, f x.2) (mapV f L) = mapV f (putL n x L) := by
  unfold putL
  rw [mapV_rem]
  unfold mapV
  rw [List.map_take, List.map_cons]
theorem mapV_putB (n : Nat) (x : ByteArray × V) (L : List (ByteArray × V)) : putB n (x.1, f x.2) (mapV f L) = putB n x L := by
  unfold putB
  rw [mapV_rem, mapV_length]
theorem mapV_get (key : ByteArray) (L : List (ByteArray × V)) : getL key (mapV f L) = mapV f (getL key L) := by
  unfold getL
  rw [mapV_look, mapV_rem]
  cases look key L <;> rfl
end

/-- the text of one byte that the statement makes of a number -/
def sv (v : Int) : ByteArray := strOfNums [v % 256]
def pv (v : Int) : ByteArray × Int := (sv v, v)
theorem conv_sv (v : Int) (W : World) (b : Nat) (h : W.cell? ⟨b, 0, none⟩ = some (.int .u8 (v % 256))) (c : Nat) : (convert 49 9 (.slice (some ⟨b, 0, none⟩) 1 c)).run Try.prog W = .ok (.string (sv v)) W :=
  run_convert_bytes_arg W 49 5 Try.underlying49 Try.underlying5 b 0 1 c [v % 256] rfl (fun i hi => by
    obtain rfl : i = 0 := by omega
    simpa using h) 9 Try.underlying9

theorem CS.get_some (base g : Nat) (most h m : Nat) (l : List (ByteArray × ByteArray)) (key : ByteArray) (w : World) (hc : CS.IsC w base g most l h m) (hm0 : 0 < most) (hl : l.length ≤ 100000) (hh : h ≤ 100000) (hm : m ≤ 100000) (x : ByteArray × ByteArray) (hx : look key l = some x) :
    Calls Try.prog 16 #[.pointer (some ⟨g, 0, none⟩), .string key] w fun e w' => e = .returned (.tuple #[.string x.2, .bool true]) ∧ CS.IsC w' base g most (getL key l) (h + 1) m ∧ FrT 75 80 base w w' :=
  (CS.get_any base g most h m l key w hc hm0 hl hh hm).mono fun e w' ⟨⟨y, h1⟩, h2⟩ => by
    rcases h1 with ⟨a1, a2, a3⟩ | ⟨a1, _⟩
    · rw [hx] at a1; cases a1; exact ⟨a2, a3, h2⟩
    · rw [hx] at a1; cases a1
theorem CS.get_none (base g : Nat) (most h m : Nat) (l : List (ByteArray × ByteArray)) (key : ByteArray) (w : World) (hc : CS.IsC w base g most l h m) (hm0 : 0 < most) (hl : l.length ≤ 100000) (hh : h ≤ 100000) (hm : m ≤ 100000) (hx : look key l = none) :
    Calls Try.prog 16 #[.pointer (some ⟨g, 0, none⟩), .string key] w fun e w' => e = .returned (.tuple #[.string ⟨#[]⟩, .bool false]) ∧ CS.IsC w' base g most (getL key l) h (m + 1) ∧ FrT 75 80 base w w' :=
  (CS.get_any base g most h m l key w hc hm0 hl hh hm).mono fun e w' ⟨⟨y, h1⟩, h2⟩ => by
    rcases h1 with ⟨a1, a2, a3⟩ | ⟨a1, a2, a3⟩
    · rw [hx] at a1; cases a1
    · exact ⟨a2, a3, h2⟩
theorem CP.get_some (base g : Nat) (most h m : Nat) (l : List (ByteArray × ByteArray × Int)) (key : ByteArray) (w : World) (hc : CP.IsC w base g most l h m) (hm0 : 0 < most) (hl : l.length ≤ 100000) (hh : h ≤ 100000) (hm : m ≤ 100000) (x : ByteArray × ByteArray × Int) (hx : look key l = some x) :
    Calls Try.prog 17 #[.pointer (some ⟨g, 0, none⟩), .string key] w fun e w' => e = .returned (.tuple #[.agg #[.string x.2.1, .int .i64 x.2.2], .bool true]) ∧ CP.IsC w' base g most (getL key l) (h + 1) m ∧ FrT 78 84 base w w' :=
  (CP.get_any base g most h m l key w hc hm0 hl hh hm).mono fun e w' ⟨⟨y, h1⟩, h2⟩ => by
    rcases h1 with ⟨a1, a2, a3⟩ | ⟨a1, _⟩
    · rw [hx] at a1; cases a1; exact ⟨a2, a3, h2⟩
    · rw [hx] at a1; cases a1
theorem CP.get_none (base g : Nat) (most h m : Nat) (l : List (ByteArray × ByteArray × Int)) (key : ByteArray) (w : World) (hc : CP.IsC w base g most l h m) (hm0 : 0 < most) (hl : l.length ≤ 100000) (hh : h ≤ 100000) (hm : m ≤ 100000) (hx : look key l = none) :
    Calls Try.prog 17 #[.pointer (some ⟨g, 0, none⟩), .string key] w fun e w' => e = .returned (.tuple #[.agg #[.string ⟨#[]⟩, .int .i64 0], .bool false]) ∧ CP.IsC w' base g most (getL key l) h (m + 1) ∧ FrT 78 84 base w w' :=
  (CP.get_any base g most h m l key w hc hm0 hl hh hm).mono fun e w' ⟨⟨y, h1⟩, h2⟩ => by
    rcases h1 with ⟨a1, a2, a3⟩ | ⟨a1, a2, a3⟩
    · rw [hx] at a1; cases a1
    · exact ⟨a2, a3, h2⟩

set_option maxHeartbeats 1600000 in
set_option maxRecDepth 100000 in
theorem types_long (m : Int) (A : Option Addr) (c : Nat) (l : List ActD) (w : World) (hm0 : 0 ≤ m) (hm1 : m ≤ 255) (hl : 60 < l.length) (hmx : l.length ≤ 9223372036854775807) :
    Calls Try.prog 4 #[.int .u8 m, .slice A l.length c] w fun e w' => e = .returned (.bool true) ∧ Below w.heap.size w w' := by
  obtain ⟨N, hN⟩ : ∃ N, N = l.length := ⟨_, rfl⟩
  rw [← hN] at hl hmx ⊢
  clear hN
  have hl' : (60 : Int) < (N : Int) := by omega
  have hb2 : m % 20 ≤ 19 := by omega
  have hb3 : 0 ≤ m % 20 := by omega
  obtain ⟨n, hn⟩ : ∃ n : Nat, (n : Int) = 1 + m % 20 := ⟨(1 + m % 20).toNat, by omega⟩
  have hnew := fun w => CS.new_ok n w (by omega) (by omega)
  have hnew2 := fun w => CP.new_ok n w (by omega) (by omega)
  rw [hn] at hnew hnew2
  have Hnew := Lib.hid hnew; clear hnew
  have Hnew2 := Lib.hid hnew2; clear hnew2
  clear hn
  go_enter Try.func4, Try.ntmps4
  go_wp2_with fail
  refine (Hnew.out _).mono ?_
  rintro e w1 ⟨rfl, hb1, hc1⟩
  have Hb1 := Lib.hid hb1; clear hb1
  have Hc1 := Lib.hid hc1; clear hc1
  go_wp2_with fail
  refine (Hnew2.out _).mono ?_
  rintro e w2 ⟨rfl, hb2', hc2⟩
  have Hb2 := Lib.hid (Hb1.out.trans (hb2'.mono Hb1.out.size)); clear hb2'
  have Hc2 := Lib.hid hc2; clear hc2
  go_wp2_with (go_at_call 9; refine (alive_any _).mono ?_; rintro e w3 ⟨rfl, h2⟩; have H2 := Lib.hid h2; clear h2)
  go_ret
  exact ⟨rfl, Hb2.out.trans (H2.out.mono Hb2.out.size)⟩

/-- what a round has at its head: the three caches hold the same -/
structure Trio (B gs gp gr n : Nat) (L : List (ByteArray × Int)) (h m : Nat) (w0 wr : World) : Prop where
  strs : CS.IsC wr B gs n (mapV sv L) h m
  pairs : CP.IsC wr B gp n (mapV pv L) h m
  ref : CR.IsC wr B gr n L h m
  below : Below B w0 wr
section
variable {B gs gp gr n : Nat} {L : List (ByteArray × Int)} {h m : Nat} {w0 wr w' : World}
theorem Trio.kept (hb : Trio B gs gp gr n L h m w0 wr) (hB : B ≤ wr.heap.size) (hk : Below wr.heap.size wr w') : Trio B gs gp gr n L h m w0 w' :=
  ⟨hb.strs.kept hk, hb.pairs.kept hk, hb.ref.kept hk, hb.below.trans (hk.mono hB)⟩
theorem Trio.le (hb : Trio B gs gp gr n L h m w0 wr) : B ≤ wr.heap.size := by
  obtain ⟨A, c, h1⟩ := hb.ref
  exact h1.base_le
end

theorem strs_of_own {w : World} {base : Nat} {V : Type} {L : List (ByteArray × V)} {v : Value} (h2 : w.ownsRow base 9 1 v L.length (L.map fun x => .string x.1)) : ∃ A c, v = .slice A L.length c ∧ StrL w A (L.map (·.1)) := by
  obtain ⟨A, q, c, rfl⟩ := own_slice h2
  obtain rfl := own_len h2
  have : (L.map fun x => Value.string x.1) = (L.map (·.1)).map fun x => Value.string x := by simp
  rw [this] at h2
  exact ⟨A, c, rfl, StrL.of_own (by rw [List.length_map]; exact h2)⟩
section
variable {B gs gp gr n : Nat} {L : List (ByteArray × Int)} {h m : Nat} {w0 wr : World}
theorem Trio.keysS (hb : Trio B gs gp gr n L h m w0 wr) (hn : 0 < n) (hl : L.length ≤ 100000) : Calls Try.prog 23 #[.pointer (some ⟨gs, 0, none⟩)] wr fun e w' => ∃ A c, e = .returned (.slice A L.length c) ∧ StrL w' A (L.map (·.1)) ∧ Below wr.heap.size wr w' :=
  (CS.keys_any _ _ n h m _ wr hb.strs hn (by rw [mapV_length]; exact hl)).mono fun e w' ⟨v, h1, h2, h3⟩ => by
    obtain ⟨A, c, rfl, hs⟩ := strs_of_own h2
    rw [mapV_length] at h1
    rw [mapV_keys] at hs
    exact ⟨A, c, h1, hs, h3⟩
theorem Trio.keysP (hb : Trio B gs gp gr n L h m w0 wr) (hn : 0 < n) (hl : L.length ≤ 100000) : Calls Try.prog 25 #[.pointer (some ⟨gp, 0, none⟩)] wr fun e w' => ∃ A c, e = .returned (.slice A L.length c) ∧ StrL w' A (L.map (·.1)) ∧ Below wr.heap.size wr w' :=
  (CP.keys_any _ _ n h m _ wr hb.pairs hn (by rw [mapV_length]; exact hl)).mono fun e w' ⟨v, h1, h2, h3⟩ => by
    obtain ⟨A, c, rfl, hs⟩ := strs_of_own h2
    rw [mapV_length] at h1
    rw [mapV_keys] at hs
    exact ⟨A, c, h1, hs, h3⟩
theorem Trio.keysR (hb : Trio B gs gp gr n L h m w0 wr) (hl : L.length ≤ 100000) : Calls Try.prog 24 #[.pointer (some ⟨gr, 0, none⟩)] wr fun e w' => ∃ A c, e = .returned (.slice A L.length c) ∧ StrL w' A (L.map (·.1)) ∧ Below wr.heap.size wr w' :=
  (CR.keys_any _ _ n h m _ wr hb.ref hl).mono fun e w' ⟨v, h1, h2, h3⟩ => by
    obtain ⟨A, c, rfl, hs⟩ := strs_of_own h2
    exact ⟨A, c, h1, hs, h3⟩
theorem strings_len {V : Type} (L : List (ByteArray × V)) (A B : Option Addr) (c d : Nat) (w : World) (ha : StrL w A (L.map (·.1))) (hb : StrL w B (L.map (·.1))) (hl : L.length ≤ 100000) :
    Calls Try.prog 22 #[.slice A L.length c, .slice B L.length d] w fun e w' => e = .returned (.bool true) ∧ Below w.heap.size w w' := by
  have := strings_same A B c d (L.map (·.1)) w ha hb (by simpa using hl)
  rw [List.length_map] at this
  exact this.mono fun e w' ⟨h1, n, h2⟩ => ⟨h1, by rw [h2]; exact ⟨rfl, rfl, rfl, Nat.le_refl _, fun _ _ => rfl⟩⟩
end

set_option maxHeartbeats 25600000 in
set_option maxRecDepth 100000 in
theorem types_short (m : Int) (A : Option Addr) (c : Nat) (l : List ActD) (w : World) (hm0 : 0 ≤ m) (hm1 : m ≤ 255) (hl : l.length ≤ 60) (hact : ActL w A l) :
    Calls Try.prog 4 #[.int .u8 m, .slice A l.length c] w fun e w' => e = .returned (.bool true) ∧ Below w.heap.size w w' := by
  obtain ⟨N, hN⟩ : ∃ N, N = l.length := ⟨_, rfl⟩
  rw [← hN] at hl ⊢
  have HN := Lib.hid hN; clear hN
  have Hact := Lib.hid hact; clear hact
  have hl' : (N : Int) ≤ 60 := by omega
  have hb2 : m % 20 ≤ 19 := by omega
  have hb3 : 0 ≤ m % 20 := by omega
  obtain ⟨n, hn⟩ : ∃ n : Nat, 1 + m % 20 = (n : Int) := ⟨(1 + m % 20).toNat, by omega⟩
  have hn1 : 1 ≤ n := by omega
  have hn2 : n ≤ 20 := by omega
  have hnew := fun w => CS.new_ok n w (by omega) (by omega)
  have hnew2 := fun w => CP.new_ok n w (by omega) (by omega)
  have hnew3 := fun w => CR.new_ok n w (by omega) (by omega)
  rw [← hn] at hnew
  have Hnew := Lib.hid hnew; clear hnew
  have Hnew2 := Lib.hid hnew2; clear hnew2
  have Hnew3 := Lib.hid hnew3; clear hnew3
  have Hn := Lib.hid hn; clear hn
  go_enter Try.func4, Try.ntmps4
  go_wp2_with fail
  refine (Hnew.out _).mono ?_
  rintro e w1 ⟨rfl, hb1, hc1⟩
  rw [Hn.out]
  clear hb2 hb3
  have Hb1 := Lib.hid hb1; clear hb1
  have Hc1 := Lib.hid hc1; clear hc1
  go_wp2_with fail
  refine (Hnew2.out _).mono ?_
  rintro e w2 ⟨rfl, hb2', hc2⟩
  have Hs2 := Lib.hid (Hc1.out.kept hb2')
  have hb12 := Hb1.out.trans (hb2'.mono Hb1.out.size)
  have Hle := Lib.hid (Nat.le_trans Hb1.out.size hb2'.size)
  have Hlt := Lib.hid (show w.heap.size ≤ w1.heap.size from Hb1.out.size)
  have Hc2 := Lib.hid hc2; clear hc2
  have Hb2 := Lib.hid hb12; clear hb12 hb2'
  go_wp2_with fail
  refine (Hnew3.out _).mono ?_
  rintro e w3 ⟨rfl, hb3'⟩
  have hbW : Below w.heap.size w w3 := Hb2.out.trans (hb3'.mono Hb2.out.size)
  have htrio : Trio w.heap.size w.heap.size w1.heap.size w3.heap.size n [] 0 0 w (w3.alloc (.cells #[.int .i64 n, .int .i64 0, .int .i64 0, .slice none 0 0] 44)) := by
    have hal : Below w3.heap.size w3 (w3.alloc (.cells #[.int .i64 n, .int .i64 0, .int .i64 0, .slice none 0 0] 44)) := (Below.refl _ _).alloc (Nat.le_refl _) _
    obtain ⟨A2, c2, y1, y2, y3⟩ := (Hc2.out.kept hb3').kept hal
    refine ⟨(Hs2.out.kept hb3').kept hal, ⟨A2, c2, Hlt.out, y2, ?_⟩, ⟨none, 0, hbW.size, Blk.new w3 44 [.int .i64 n, .int .i64 0, .int .i64 0, .slice none 0 0], World.ownsRow_nil _ _ _ _⟩, hbW.alloc hbW.size _⟩
    refine ⟨y3.1, ?_⟩
    rcases y3.2 with z | ⟨g', cap, cur, z1, z2, z3⟩
    · exact .inl z
    · exact .inr ⟨g', cap, cur, z1, Nat.le_trans Hlt.out z2, z3⟩
  have Htrio := Lib.hid htrio; clear htrio
  have HbW := Lib.hid hbW; clear hbW
  have Hb3 := Lib.hid hb3'; clear hb3'
  go_wp2
  go_loopw [12] (fun i wr => ∃ (k : Nat) (L : List (ByteArray × Int)) (h m : Nat), k ≤ N ∧ i = .int .i64 k ∧ h ≤ k ∧ m ≤ k ∧ L.length ≤ n ∧ Hid (Trio w.heap.size w.heap.size w1.heap.size w3.heap.size n L h m w wr)) (fun i _ => N - (intOf i).toNat)
  case atStart => exact ⟨0, [], 0, 0, by omega, rfl, by omega, by omega, by simp, Htrio.out⟩
  case round =>
    obtain ⟨k, L, h, m', hkN, rfl, hhk, hmk, hLn, Hr⟩ := hrel
    by_cases hlt : k < N
    · obtain ⟨x, hx⟩ : ∃ x, l[k]? = some x := ⟨_, List.getElem?_eq_getElem (by rw [← HN.out]; exact hlt)⟩
      obtain ⟨ab, off, rfl, habw, x0, x1, x2⟩ := (Hact.out.below Hr.out.below) k x hx
      have hk1 : (k : Int) < (N : Int) := by omega
      have hk0 : (0 : Int) ≤ (k : Int) := by omega
      have Hx := Lib.hid hx; clear hx
      obtain ⟨wa, hwa⟩ : ∃ wa, wa = wr.alloc (.cells #[.int .u8 (x.val % 256)] 5) := ⟨_, rfl⟩
      have hcv := conv_sv x.val wa wr.heap.size (by rw [hwa]; exact World.cell?_alloc_at _ _ _ _ rfl) 1
      have Ha := Lib.hid (Hr.out.kept Hr.out.le (w' := wa) (by rw [hwa]; exact (Below.refl _ _).alloc (Nat.le_refl _) _))
      rw [hwa] at hcv
      have Hwa := Lib.hid hwa; clear hwa
      by_cases h0 : x.op = 0
      · rw [h0] at x0
        clear h0
        cases hlk : look x.key L with
        | some y =>
          have hlS : look x.key (mapV sv L) = some (y.1, sv y.2) := by rw [mapV_look, hlk]; rfl
          have hlP : look x.key (mapV pv L) = some (y.1, sv y.2, y.2) := by rw [mapV_look, hlk]; rfl
          have hg1 := CS.get_some _ _ n h m' _ x.key wa Ha.out.strs (by omega) (by rw [mapV_length]; omega) (by omega) (by omega) (y.1, sv y.2) hlS
          rw [Hwa.out] at hg1
          have Hg1 := Lib.hid hg1; clear hg1
          have Hlk := Lib.hid hlk; clear hlk
          have HlS := Lib.hid hlS; clear hlS
          have HlP := Lib.hid hlP; clear hlP
          go_wp2_with fail
          refine Hg1.out.mono ?_
          rintro e w4 ⟨rfl, hc4, hf4⟩
          rw [← Hwa.out] at hf4
          rw [mapV_get] at hc4
          obtain ⟨ab4, off4, he4, _, y0, y1, y2⟩ := (Hact.out.below (Ha.out.below.trans hf4.below)) k x Hx.out
          cases he4
          have Hp4 := Lib.hid (CP.IsC.keptFr Ha.out.pairs hf4 (by decide) (by decide) (by decide) (by decide))
          have Hr4 := Lib.hid (CR.IsC.keptFr Ha.out.ref hf4 (by decide) (by decide) (by decide) (by decide))
          have Hb4 := Lib.hid (Ha.out.below.trans hf4.below)
          have Hc4 := Lib.hid hc4; clear hc4
          clear hf4
          go_wp2_with fail
          refine (CP.get_some _ _ n h m' _ x.key w4 Hp4.out (by omega) (by rw [mapV_length]; omega) (by omega) (by omega) (y.1, sv y.2, y.2) HlP.out).mono ?_
          rintro e w5 ⟨rfl, hc5, hf5⟩
          rw [mapV_get] at hc5
          obtain ⟨wp, hwp⟩ : ∃ wp, wp = w5.alloc (.cells #[.string (sv y.2), .int .i64 y.2] 41) := ⟨_, rfl⟩
          have hbp : Below w5.heap.size w5 wp := by rw [hwp]; exact (Below.refl _ _).alloc (Nat.le_refl _) _
          have hblk : Blk wp w5.heap.size 41 [.string (sv y.2), .int .i64 y.2] := by rw [hwp]; exact Blk.new w5 41 _
          have Hb5 := Lib.hid ((Hb4.out.trans hf5.below).trans (hbp.mono (Hb4.out.trans hf5.below).size))
          obtain ⟨ab5, off5, he5, _, v0, v1, v2⟩ := (Hact.out.below (Hb4.out.trans hf5.below)) k x Hx.out
          cases he5
          have Hs5 := Lib.hid ((CS.IsC.keptFr Hc4.out hf5 (by decide) (by decide) (by decide) (by decide)).kept hbp)
          have Hr5 := Lib.hid ((CR.IsC.keptFr Hr4.out hf5 (by decide) (by decide) (by decide) (by decide)).kept hbp)
          have Hp5 := Lib.hid (hc5.kept hbp)
          have hg3 := CR.get_some _ _ n h m' L x.key wp Hr5.out (by omega) (by omega) (by omega) y Hlk.out
          rw [hwp] at hg3
          have Hg3 := Lib.hid hg3; clear hg3
          have Hwp := Lib.hid hwp; clear hwp
          have Hblk := Lib.hid hblk; clear hblk
          clear hbp hf5 hc5
          go_wp2_with fail
          refine Hg3.out.mono ?_
          rintro e w6 ⟨rfl, hr6, hf6⟩
          rw [← Hwp.out] at hf6
          have hbk6 := hf6.blk Hblk.out (by decide) (by decide)
          have q0 := hbk6.cell 0
          have q1 := hbk6.cell 1
          simp only [List.getElem?_cons_zero, List.getElem?_cons_succ] at q0 q1
          have hpb : w5.heap.size < w6.heap.size := hbk6.lt
          have htr : Trio w.heap.size w.heap.size w1.heap.size w3.heap.size n (getL x.key L) (h + 1) m' w w6 := ⟨CS.IsC.keptFr Hs5.out hf6 (by decide) (by decide) (by decide) (by decide), CP.IsC.keptFr Hp5.out hf6 (by decide) (by decide) (by decide) (by decide), hr6, Hb5.out.trans hf6.below⟩
          clear hf6 hr6 hbk6
          obtain ⟨wt, hwt⟩ : ∃ wt, wt = w6.alloc (.cells #[.int .u8 (y.2 % 256)] 5) := ⟨_, rfl⟩
          have hcv6 := conv_sv y.2 wt w6.heap.size (by rw [hwt]; exact World.cell?_alloc_at _ _ _ _ rfl) 1
          have Ht := Lib.hid (htr.kept htr.le (w' := wt) (by rw [hwt]; exact (Below.refl _ _).alloc (Nat.le_refl _) _))
          rw [hwt] at hcv6
          have hss : ((sv y.2).toList != (sv y.2).toList) = false := by simp
          have hyy : (y.2 != y.2) = false := by simp
          clear htr
          rw [hwt] at Ht
          clear hwt
          have hlen1 : (getL x.key L).length ≤ n := (by rw [getL_length]; exact hLn)
          have Hlen1 := Lib.hid hlen1
          go_wp2_with fail
          refine (Ht.out.keysS (by omega) (by omega)).mono ?_
          rintro e a1 ⟨A1, c1, rfl, hs1, hb1⟩
          have Ht1 := Lib.hid (Ht.out.kept Ht.out.le hb1)
          have Hs1 := Lib.hid hs1; clear hs1
          clear hb1
          go_wp2_with fail
          refine (Ht1.out.keysR (by omega)).mono ?_
          rintro e a2 ⟨A2, c2, rfl, hs2, hb2⟩
          have Ht2 := Lib.hid (Ht1.out.kept Ht1.out.le hb2)
          have Hs1' := Lib.hid (Hs1.out.below hb2)
          have Hs2 := Lib.hid hs2; clear hs2
          clear hb2
          go_wp2_with fail
          refine (strings_len (getL x.key L) A1 A2 c1 c2 a2 Hs1'.out Hs2.out (by omega)).mono ?_
          rintro e a3 ⟨rfl, hb3⟩
          have Ht3 := Lib.hid (Ht2.out.kept Ht2.out.le hb3)
          clear hb3
          go_wp2_with fail
          refine (Ht3.out.keysP (by omega) (by omega)).mono ?_
          rintro e a4 ⟨A4, c4, rfl, hs4, hb4⟩
          have Ht4 := Lib.hid (Ht3.out.kept Ht3.out.le hb4)
          have Hs4 := Lib.hid hs4; clear hs4
          clear hb4
          go_wp2_with fail
          refine (Ht4.out.keysR (by omega)).mono ?_
          rintro e a5 ⟨A5, c5, rfl, hs5, hb5⟩
          have Ht5 := Lib.hid (Ht4.out.kept Ht4.out.le hb5)
          have Hs4' := Lib.hid (Hs4.out.below hb5)
          have Hs5 := Lib.hid hs5; clear hs5
          clear hb5
          go_wp2_with fail
          refine (strings_len (getL x.key L) A4 A5 c4 c5 a5 Hs4'.out Hs5.out (by omega)).mono ?_
          rintro e a6 ⟨rfl, hb6⟩
          have Ht6 := Lib.hid (Ht5.out.kept Ht5.out.le hb6)
          clear hb6
          go_wp2
          go_roundw
          case rel => exact ⟨k + 1, (getL x.key L), (h + 1), m', by omega, by go_num, by omega, by omega, Hlen1.out, Ht6⟩
          case measure => simp [intOf]; omega
        | none =>
          have hlS : look x.key (mapV sv L) = none := by rw [mapV_look, hlk]; rfl
          have hlP : look x.key (mapV pv L) = none := by rw [mapV_look, hlk]; rfl
          have hg1 := CS.get_none _ _ n h m' _ x.key wa Ha.out.strs (by omega) (by rw [mapV_length]; omega) (by omega) (by omega)  hlS
          rw [Hwa.out] at hg1
          have Hg1 := Lib.hid hg1; clear hg1
          have Hlk := Lib.hid hlk; clear hlk
          have HlS := Lib.hid hlS; clear hlS
          have HlP := Lib.hid hlP; clear hlP
          go_wp2_with fail
          refine Hg1.out.mono ?_
          rintro e w4 ⟨rfl, hc4, hf4⟩
          rw [← Hwa.out] at hf4
          rw [mapV_get] at hc4
          obtain ⟨ab4, off4, he4, _, y0, y1, y2⟩ := (Hact.out.below (Ha.out.below.trans hf4.below)) k x Hx.out
          cases he4
          have Hp4 := Lib.hid (CP.IsC.keptFr Ha.out.pairs hf4 (by decide) (by decide) (by decide) (by decide))
          have Hr4 := Lib.hid (CR.IsC.keptFr Ha.out.ref hf4 (by decide) (by decide) (by decide) (by decide))
          have Hb4 := Lib.hid (Ha.out.below.trans hf4.below)
          have Hc4 := Lib.hid hc4; clear hc4
          clear hf4
          go_wp2_with fail
          refine (CP.get_none _ _ n h m' _ x.key w4 Hp4.out (by omega) (by rw [mapV_length]; omega) (by omega) (by omega)  HlP.out).mono ?_
          rintro e w5 ⟨rfl, hc5, hf5⟩
          rw [mapV_get] at hc5
          obtain ⟨wp, hwp⟩ : ∃ wp, wp = w5.alloc (.cells #[.string ⟨#[]⟩, .int .i64 0] 41) := ⟨_, rfl⟩
          have hbp : Below w5.heap.size w5 wp := by rw [hwp]; exact (Below.refl _ _).alloc (Nat.le_refl _) _
          have hblk : Blk wp w5.heap.size 41 [.string ⟨#[]⟩, .int .i64 0] := by rw [hwp]; exact Blk.new w5 41 _
          have Hb5 := Lib.hid ((Hb4.out.trans hf5.below).trans (hbp.mono (Hb4.out.trans hf5.below).size))
          obtain ⟨ab5, off5, he5, _, v0, v1, v2⟩ := (Hact.out.below (Hb4.out.trans hf5.below)) k x Hx.out
          cases he5
          have Hs5 := Lib.hid ((CS.IsC.keptFr Hc4.out hf5 (by decide) (by decide) (by decide) (by decide)).kept hbp)
          have Hr5 := Lib.hid ((CR.IsC.keptFr Hr4.out hf5 (by decide) (by decide) (by decide) (by decide)).kept hbp)
          have Hp5 := Lib.hid (hc5.kept hbp)
          have hg3 := CR.get_none _ _ n h m' L x.key wp Hr5.out (by omega) (by omega) (by omega)  Hlk.out
          rw [hwp] at hg3
          have Hg3 := Lib.hid hg3; clear hg3
          have Hwp := Lib.hid hwp; clear hwp
          have Hblk := Lib.hid hblk; clear hblk
          clear hbp hf5 hc5
          go_wp2_with fail
          refine Hg3.out.mono ?_
          rintro e w6 ⟨rfl, hr6, hf6⟩
          rw [← Hwp.out] at hf6
          have hbk6 := hf6.blk Hblk.out (by decide) (by decide)
          have q0 := hbk6.cell 0
          have q1 := hbk6.cell 1
          simp only [List.getElem?_cons_zero, List.getElem?_cons_succ] at q0 q1
          have hpb : w5.heap.size < w6.heap.size := hbk6.lt
          have htr : Trio w.heap.size w.heap.size w1.heap.size w3.heap.size n (getL x.key L) h (m' + 1) w w6 := ⟨CS.IsC.keptFr Hs5.out hf6 (by decide) (by decide) (by decide) (by decide), CP.IsC.keptFr Hp5.out hf6 (by decide) (by decide) (by decide) (by decide), hr6, Hb5.out.trans hf6.below⟩
          clear hf6 hr6 hbk6
          have Ht := Lib.hid htr; clear htr
          have hlen1 : (getL x.key L).length ≤ n := (by rw [getL_length]; exact hLn)
          have Hlen1 := Lib.hid hlen1
          go_wp2_with fail
          refine (Ht.out.keysS (by omega) (by omega)).mono ?_
          rintro e a1 ⟨A1, c1, rfl, hs1, hb1⟩
          have Ht1 := Lib.hid (Ht.out.kept Ht.out.le hb1)
          have Hs1 := Lib.hid hs1; clear hs1
          clear hb1
          go_wp2_with fail
          refine (Ht1.out.keysR (by omega)).mono ?_
          rintro e a2 ⟨A2, c2, rfl, hs2, hb2⟩
          have Ht2 := Lib.hid (Ht1.out.kept Ht1.out.le hb2)
          have Hs1' := Lib.hid (Hs1.out.below hb2)
          have Hs2 := Lib.hid hs2; clear hs2
          clear hb2
          go_wp2_with fail
          refine (strings_len (getL x.key L) A1 A2 c1 c2 a2 Hs1'.out Hs2.out (by omega)).mono ?_
          rintro e a3 ⟨rfl, hb3⟩
          have Ht3 := Lib.hid (Ht2.out.kept Ht2.out.le hb3)
          clear hb3
          go_wp2_with fail
          refine (Ht3.out.keysP (by omega) (by omega)).mono ?_
          rintro e a4 ⟨A4, c4, rfl, hs4, hb4⟩
          have Ht4 := Lib.hid (Ht3.out.kept Ht3.out.le hb4)
          have Hs4 := Lib.hid hs4; clear hs4
          clear hb4
          go_wp2_with fail
          refine (Ht4.out.keysR (by omega)).mono ?_
          rintro e a5 ⟨A5, c5, rfl, hs5, hb5⟩
          have Ht5 := Lib.hid (Ht4.out.kept Ht4.out.le hb5)
          have Hs4' := Lib.hid (Hs4.out.below hb5)
          have Hs5 := Lib.hid hs5; clear hs5
          clear hb5
          go_wp2_with fail
          refine (strings_len (getL x.key L) A4 A5 c4 c5 a5 Hs4'.out Hs5.out (by omega)).mono ?_
          rintro e a6 ⟨rfl, hb6⟩
          have Ht6 := Lib.hid (Ht5.out.kept Ht5.out.le hb6)
          clear hb6
          go_wp2
          go_roundw
          case rel => exact ⟨k + 1, (getL x.key L), h, (m' + 1), by omega, by go_num, by omega, by omega, Hlen1.out, Ht6⟩
          case measure => simp [intOf]; omega
      · have h0' : (x.op == 0) = false := by simpa using h0
        by_cases h1 : x.op = 1
        · clear h0 h0'
          rw [h1] at x0
          clear h1
          have hp1 := CS.put_any _ _ n h m' (mapV sv L) (x.key, sv x.val) wa.drew Ha.out.strs (by omega) (by rw [mapV_length]; omega)
          have hx1 : wa.cell? ⟨ab, off + k * 3 + 1, none⟩ = some (.string x.key) ∧ wa.cell? ⟨ab, off + k * 3 + 2, none⟩ = some (.int .i64 x.val) := by
            obtain ⟨ab4, off4, he4, _, y0, y1, y2⟩ := (Hact.out.below Ha.out.below) k x Hx.out
            cases he4
            exact ⟨y1, y2⟩
          rw [Hwa.out] at hx1
          have Hx1 := Lib.hid hx1; clear hx1
          have hcx : ∀ w', Below w.heap.size w w' → w'.cell? ⟨ab, off + k * 3 + 1, none⟩ = some (.string x.key) ∧ w'.cell? ⟨ab, off + k * 3 + 2, none⟩ = some (.int .i64 x.val) := fun w' hb' => by
            obtain ⟨ab4, off4, he4, _, y0, y1, y2⟩ := (Hact.out.below hb') k x Hx.out
            cases he4
            exact ⟨y1, y2⟩
          have Hcx := Lib.hid hcx; clear hcx
          have e1 : putB n (x.key, sv x.val) (mapV sv L) = putB n (x.key, x.val) L := mapV_putB sv n (x.key, x.val) L
          have e2 : putB n (x.key, sv x.val, x.val) (mapV pv L) = putB n (x.key, x.val) L := mapV_putB pv n (x.key, x.val) L
          have e3 : putL n (x.key, sv x.val) (mapV sv L) = mapV sv (putL n (x.key, x.val) L) := mapV_put sv n (x.key, x.val) L
          have e4 : putL n (x.key, sv x.val, x.val) (mapV pv L) = mapV pv (putL n (x.key, x.val) L) := mapV_put pv n (x.key, x.val) L
          rw [e1, e3] at hp1
          rw [Hwa.out] at hp1
          have Hp1 := Lib.hid hp1; clear hp1
          have E2 := Lib.hid e2; clear e2
          have E4 := Lib.hid e4; clear e4
          clear e1 e3
          go_wp2
          go_region_held3 (fun w' => w'.cell? ⟨ab, off + k * 3 + 1, none⟩ = some (.string x.key) ∧ w'.cell? ⟨ab, off + k * 3 + 2, none⟩ = some (.int .i64 x.val)) (first | exact Hx1.out | exact Hcx.out _ Hb4.out | exact Hcx.out _ Hb5.out) (first | (go_at_call 19; refine Hp1.out.mono ?_; rintro e w4 ⟨rfl, hc4, hf4⟩; rw [← Hwa.out] at hf4; have Hb4 := Lib.hid (Ha.out.below.drew.trans hf4.below); have Hc4 := Lib.hid hc4; clear hc4; have Hf4 := Lib.hid hf4; clear hf4) | (go_at_call 20; refine (CP.put_any _ _ n h m' (mapV pv L) (x.key, sv x.val, x.val) w4 (CP.IsC.keptFr (w := wa.drew) Ha.out.pairs Hf4.out (by decide) (by decide) (by decide) (by decide)) (by omega) (by rw [mapV_length]; omega)).mono ?_; rw [E2.out, E4.out]; rintro e w5 ⟨rfl, hc5, hf5⟩; have Hb5 := Lib.hid (Hb4.out.trans hf5.below); have Hc5 := Lib.hid hc5; clear hc5; have Hf5 := Lib.hid hf5; clear hf5))
          obtain ⟨z1, z2⟩ := Hcx.out w5 Hb5.out
          have hs5 : CS.IsC w5 w.heap.size w.heap.size n (mapV sv (putL n (x.key, x.val) L)) h m' := CS.IsC.keptFr Hc4.out Hf5.out (by decide) (by decide) (by decide) (by decide)
          have hr4 : CR.IsC w4 w.heap.size w3.heap.size n L h m' := CR.IsC.keptFr (w := wa.drew) Ha.out.ref Hf4.out (by decide) (by decide) (by decide) (by decide)
          have hr5 : CR.IsC w5 w.heap.size w3.heap.size n L h m' := CR.IsC.keptFr hr4 Hf5.out (by decide) (by decide) (by decide) (by decide)
          have hp3 := CR.put_any _ _ n h m' L (x.key, x.val) w5.drew hr5 (by omega)
          have Hs5 := Lib.hid hs5; clear hs5
          have Hr5 := Lib.hid hr5; clear hr5 hr4
          have Hp3 := Lib.hid hp3; clear hp3
          have hbb : (putB n (x.key, x.val) L != putB n (x.key, x.val) L) = false := by simp
          go_wp2
          go_region_held3 (fun w' => w'.cell? ⟨ab, off + k * 3 + 1, none⟩ = some (.string x.key) ∧ w'.cell? ⟨ab, off + k * 3 + 2, none⟩ = some (.int .i64 x.val)) (first | exact ⟨z1, z2⟩ | exact Hcx.out _ Hb6.out) (first | (go_at_call 21; refine Hp3.out.mono ?_; rintro e w6 ⟨rfl, hr6, hf6⟩; have Hb6 := Lib.hid (Hb5.out.drew.trans hf6.below); have Hr6 := Lib.hid hr6; clear hr6; have Hf6 := Lib.hid hf6; clear hf6))
          have Ht := Lib.hid (show Trio w.heap.size w.heap.size w1.heap.size w3.heap.size n (putL n (x.key, x.val) L) h m' w w6 from ⟨CS.IsC.keptFr (w := w5.drew) Hs5.out Hf6.out (by decide) (by decide) (by decide) (by decide), CP.IsC.keptFr (w := w5.drew) Hc5.out Hf6.out (by decide) (by decide) (by decide) (by decide), Hr6.out, Hb6.out⟩)
          have hlen1 : (putL n (x.key, x.val) L).length ≤ n := putL_length _ _ _
          have Hlen1 := Lib.hid hlen1
          go_wp2_with fail
          refine (Ht.out.keysS (by omega) (by omega)).mono ?_
          rintro e a1 ⟨A1, c1, rfl, hs1, hb1⟩
          have Ht1 := Lib.hid (Ht.out.kept Ht.out.le hb1)
          have Hs1 := Lib.hid hs1; clear hs1
          clear hb1
          go_wp2_with fail
          refine (Ht1.out.keysR (by omega)).mono ?_
          rintro e a2 ⟨A2, c2, rfl, hs2, hb2⟩
          have Ht2 := Lib.hid (Ht1.out.kept Ht1.out.le hb2)
          have Hs1' := Lib.hid (Hs1.out.below hb2)
          have Hs2 := Lib.hid hs2; clear hs2
          clear hb2
          go_wp2_with fail
          refine (strings_len (putL n (x.key, x.val) L) A1 A2 c1 c2 a2 Hs1'.out Hs2.out (by omega)).mono ?_
          rintro e a3 ⟨rfl, hb3⟩
          have Ht3 := Lib.hid (Ht2.out.kept Ht2.out.le hb3)
          clear hb3
          go_wp2_with fail
          refine (Ht3.out.keysP (by omega) (by omega)).mono ?_
          rintro e a4 ⟨A4, c4, rfl, hs4, hb4⟩
          have Ht4 := Lib.hid (Ht3.out.kept Ht3.out.le hb4)
          have Hs4 := Lib.hid hs4; clear hs4
          clear hb4
          go_wp2_with fail
          refine (Ht4.out.keysR (by omega)).mono ?_
          rintro e a5 ⟨A5, c5, rfl, hs5, hb5⟩
          have Ht5 := Lib.hid (Ht4.out.kept Ht4.out.le hb5)
          have Hs4' := Lib.hid (Hs4.out.below hb5)
          have Hs5 := Lib.hid hs5; clear hs5
          clear hb5
          go_wp2_with fail
          refine (strings_len (putL n (x.key, x.val) L) A4 A5 c4 c5 a5 Hs4'.out Hs5.out (by omega)).mono ?_
          rintro e a6 ⟨rfl, hb6⟩
          have Ht6 := Lib.hid (Ht5.out.kept Ht5.out.le hb6)
          clear hb6
          go_wp2
          go_roundw
          case rel => exact ⟨k + 1, putL n (x.key, x.val) L, h, m', by omega, by go_num, by omega, by omega, Hlen1.out, Ht6⟩
          case measure => simp [intOf]; omega
        · have h1' : (x.op == 1) = false := by simpa using h1
          clear h0 h1
          have Ht := Lib.hid Ha.out
          rw [Hwa.out] at Ht
          have hlen1 : L.length ≤ n := hLn
          have Hlen1 := Lib.hid hlen1
          go_wp2_with fail
          refine (Ht.out.keysS (by omega) (by omega)).mono ?_
          rintro e a1 ⟨A1, c1, rfl, hs1, hb1⟩
          have Ht1 := Lib.hid (Ht.out.kept Ht.out.le hb1)
          have Hs1 := Lib.hid hs1; clear hs1
          clear hb1
          go_wp2_with fail
          refine (Ht1.out.keysR (by omega)).mono ?_
          rintro e a2 ⟨A2, c2, rfl, hs2, hb2⟩
          have Ht2 := Lib.hid (Ht1.out.kept Ht1.out.le hb2)
          have Hs1' := Lib.hid (Hs1.out.below hb2)
          have Hs2 := Lib.hid hs2; clear hs2
          clear hb2
          go_wp2_with fail
          refine (strings_len L A1 A2 c1 c2 a2 Hs1'.out Hs2.out (by omega)).mono ?_
          rintro e a3 ⟨rfl, hb3⟩
          have Ht3 := Lib.hid (Ht2.out.kept Ht2.out.le hb3)
          clear hb3
          go_wp2_with fail
          refine (Ht3.out.keysP (by omega) (by omega)).mono ?_
          rintro e a4 ⟨A4, c4, rfl, hs4, hb4⟩
          have Ht4 := Lib.hid (Ht3.out.kept Ht3.out.le hb4)
          have Hs4 := Lib.hid hs4; clear hs4
          clear hb4
          go_wp2_with fail
          refine (Ht4.out.keysR (by omega)).mono ?_
          rintro e a5 ⟨A5, c5, rfl, hs5, hb5⟩
          have Ht5 := Lib.hid (Ht4.out.kept Ht4.out.le hb5)
          have Hs4' := Lib.hid (Hs4.out.below hb5)
          have Hs5 := Lib.hid hs5; clear hs5
          clear hb5
          go_wp2_with fail
          refine (strings_len L A4 A5 c4 c5 a5 Hs4'.out Hs5.out (by omega)).mono ?_
          rintro e a6 ⟨rfl, hb6⟩
          have Ht6 := Lib.hid (Ht5.out.kept Ht5.out.le hb6)
          clear hb6
          go_wp2
          go_roundw
          case rel => exact ⟨k + 1, L, h, m', by omega, by go_num, by omega, by omega, Hlen1.out, Ht6⟩
          case measure => simp [intOf]; omega
    · obtain rfl : k = N := by omega
      go_wp2_with (go_at_call 9; refine (alive_any _).mono ?_; rintro e w4 ⟨rfl, h2⟩; have H3 := Lib.hid h2; clear h2)
      go_ret
      exact ⟨rfl, Hr.out.below.trans (H3.out.mono Hr.out.below.size)⟩
end Go.Proofs.Ytniopdfcdmifiaa
