/-
  The law of Hash in plain Lean: both hashes are one fold over the bytes; a byte more is a round more.
-/
import Derived.Test.YtaiihhogoogkmaaGreatDoorPHash
namespace Go.Proofs.YtaiihhogoogkmaaGreatDoor
open Go.RowKit
theorem ba_get (b : ByteArray) (i : Nat) : b[i]? = (bL b)[i]? := by
  unfold bL
  rw [Array.getElem?_toList]
  by_cases h : i < b.size
  · rw [getElem?_pos b i h, Array.getElem?_eq_getElem (xs := b.data) (by exact h)]; rfl
  · rw [getElem?_neg b i h, Array.getElem?_eq_none (xs := b.data) (by exact Nat.le_of_not_lt h)]
theorem ba_size (b : ByteArray) : b.size = (bL b).length := by unfold bL; rw [Array.length_toList]; rfl
def hround (h : Int) (c : UInt8) : Int := IntKind.u64.wrap ((IntKind.u64.wrap ((BitVec.ofInt (IntKind.bits .u64) h ^^^ BitVec.ofInt (IntKind.bits .u64) (IntKind.u64.wrap (c.toNat : Int))).toNat : Int)) * (1099511628211 : Int))
theorem w64_succ {i : Nat} (h : i < 9223372036854775807) : w64 ((i : Int) + 1) = ((i + 1 : Nat) : Int) := by
  unfold w64
  rw [IntKind.wrap_i64] <;> omega
theorem hash_L1 (N : Nat) (s : ByteArray) (hs : s.size < 9223372036854775807) : ∀ (k : Nat) (i : Nat) (h : Int), i ≤ s.size → s.size - i < k → g_canon_Hash_L1 N s k h (i : Int) = some (((bL s).drop i).foldl hround h)
  | 0, i, h, _, hk => absurd hk (Nat.not_lt_zero _)
  | k + 1, i, h, hi, hk => by
    rw [g_canon_Hash_L1]
    by_cases hlt : i < s.size
    · have h1 : decide ((i : Int) < (s.size : Int)) = true := decide_eq_true (by omega)
      have h2 : decide ((0 : Int) ≤ (i : Int)) = true := decide_eq_true (by omega)
      rw [h1, h2]
      simp only [cond_true, Int.toNat_natCast]
      have hl : i < (bL s).length := by rw [← ba_size]; exact hlt
      rw [ba_get, List.getElem?_eq_getElem hl, List.drop_eq_getElem_cons hl]
      simp only [Option.bind_some, List.foldl_cons]
      rw [w64_succ (Nat.lt_trans hlt hs)]
      exact hash_L1 N s hs k (i + 1) (hround h (bL s)[i]) hlt (by omega)
    · have h1 : decide ((i : Int) < (s.size : Int)) = false := decide_eq_false (by omega)
      rw [h1]
      simp only [cond_false]
      rw [List.drop_eq_nil_of_le (by rw [← ba_size]; omega)]
      rfl
theorem ref_L1 (N : Nat) (s : ByteArray) : ∀ (k : Nat) (h i : Int), g_brocaderef55_Hash_L1 N s k h i = g_canon_Hash_L1 N s k h i
  | 0, _, _ => rfl
  | k + 1, h, i => by
    rw [g_brocaderef55_Hash_L1, g_canon_Hash_L1]
    simp only [ref_L1 N s k]
def hashF (s : ByteArray) : Int := (bL s).foldl hround 14695981039346656037
theorem hash_eq (N : Nat) (s : ByteArray) (hs : s.size < 9223372036854775807) (hN : s.size < N) : g_canon_Hash N s = some (hashF s) := by
  unfold g_canon_Hash
  have := hash_L1 N s hs N 0 14695981039346656037 (Nat.zero_le _) (by omega)
  rw [List.drop_zero] at this
  exact this
theorem ref_eq (N : Nat) (s : ByteArray) (hs : s.size < 9223372036854775807) (hN : s.size < N) : g_brocaderef55_Hash N s = some (hashF s) := by
  unfold g_brocaderef55_Hash
  rw [ref_L1]
  exact hash_eq N s hs hN
theorem sbytes_one {s : ByteArray} (c : Int) (h0 : 0 ≤ c) (h1 : c < 256) : (sbytes [c]).size = 1 ∧ hashF (s ++ sbytes [c]) = IntKind.u64.wrap ((IntKind.u64.wrap ((BitVec.ofInt (IntKind.bits .u64) (hashF s) ^^^ BitVec.ofInt (IntKind.bits .u64) (IntKind.u64.wrap c)).toNat : Int)) * (1099511628211 : Int)) := by
  refine ⟨rfl, ?_⟩
  have e : bL (s ++ sbytes [c]) = bL s ++ [UInt8.ofNat c.toNat] := by
    unfold bL
    rw [ByteArray.data_append, Array.toList_append]
    rfl
  unfold hashF
  rw [e, List.foldl_append]
  simp only [List.foldl_cons, List.foldl_nil]
  have e2 : ((UInt8.ofNat c.toNat).toNat : Int) = c := by
    rw [UInt8.toNat_ofNat']
    have : c.toNat % 2 ^ 8 = c.toNat := Nat.mod_eq_of_lt (by omega)
    rw [this]; omega
  rw [hround, e2]
theorem canonHash_plain (N : Nat) (s : ByteArray) (c : Int) (h0 : 0 ≤ c) (h1 : c < 256) (hN : s.size + 1 < N) : g_brocadelaw55_CanonHash N s c = some true := by
  unfold g_brocadelaw55_CanonHash g_brocadelaw55_examples
  by_cases hl : s.size > 5000
  · have : decide ((s.size : Int) > (5000 : Int)) = true := decide_eq_true (by omega)
    rw [this]
    simp only [cond_true, Option.bind_some]
  · have : decide ((s.size : Int) > (5000 : Int)) = false := decide_eq_false (by omega)
    rw [this]
    obtain ⟨k1, k2⟩ := sbytes_one (s := s) c h0 h1
    have k3 : (s ++ sbytes [c]).size = s.size + 1 := by rw [ByteArray.size_append, k1]
    simp only [cond_false]
    rw [hash_eq N s (by omega) (by omega), ref_eq N s (by omega) (by omega)]
    simp only [Option.bind_some, beq_self_eq_true, cond_true]
    rw [hash_eq N _ (by omega) (by omega), k1, k2]
    generalize IntKind.u64.wrap ((IntKind.u64.wrap ((BitVec.ofInt (IntKind.bits .u64) (hashF s) ^^^ BitVec.ofInt (IntKind.bits .u64) (IntKind.u64.wrap c)).toNat : Int)) * (1099511628211 : Int)) = X
    have h9 : Nat.ble (s.size + 1) 9223372036854775807 = true := Nat.ble_eq_true_of_le (by omega)
    rw [h9, cond_true, Option.bind_some]
    have hX : (X == X) = true := beq_self_eq_true X
    rw [hX, cond_true, Option.bind_some]
theorem canonHash_abs (s : ByteArray) (c : Int) (h0 : 0 ≤ c) (h1 : c < 256) : AFn Tryz.prog 4 [(aStr s), (.d (.v (.int .u8 c)))] (· = (aBool true)) :=
  g_brocadelaw55_CanonHash_ok (s.size + 2) s c true (canonHash_plain _ s c h0 h1 (Nat.lt_succ_self _))
end Go.Proofs.YtaiihhogoogkmaaGreatDoor
