/-
  The package-level tables that the code reads, as the seat's row lists them.
-/
import Derived.WalkKit
import Derived.Laws.Strings
namespace Go.Proofs.YtaiihhogoogkmaaGreatDoor
open Go.RowKit

/-- a string's bytes -/
def bL (a : ByteArray) : List UInt8 := a.data.toList
theorem bL_eq (a : ByteArray) : a.toList = bL a := ByteArray.toList_eq a
theorem bL_inj {a b : ByteArray} (h : bL a = bL b) : a = b := by cases a; cases b; simp only [bL, Array.toList_inj] at h; rw [h]
def u8L (l : List Nat) : List Value := l.map fun n => Value.int .u8 (Int.ofNat n)
def u64L (l : List Nat) : List Value := l.map fun n => Value.int .u64 (Int.ofNat n)
def asciiSpaceL : List Nat := (List.range 256).map fun n => bif (Nat.ble 9 n && Nat.ble n 13) || n == 32 then 1 else 0
def pow10L : List Nat := (List.range 20).map fun n => 10 ^ n
def deBruijn32L : List Nat := [0, 1, 28, 2, 29, 14, 24, 3, 30, 22, 20, 15, 25, 17, 4, 8, 31, 27, 13, 23, 21, 19, 16, 7, 26, 12, 18, 6, 11, 5, 10, 9]
def deBruijn64L : List Nat := [0, 1, 56, 2, 57, 49, 28, 3, 61, 58, 42, 50, 38, 29, 17, 4, 62, 47, 59, 36, 45, 43, 51, 22, 53, 39, 33, 30, 24, 18, 12, 5, 63, 55, 48, 27, 60, 41, 37, 16, 46, 35, 44, 21, 52, 32, 23, 11, 54, 26, 40, 15, 34, 20, 31, 10, 25, 14, 19, 9, 13, 8, 7, 6]
def gtab : List (Nat × List Value) :=
 (1, u8L asciiSpaceL) ::
 (0, u64L pow10L) ::
 (2, u8L deBruijn32L) ::
 (3, u8L deBruijn64L) ::
  []
def glook : List (Nat × List Value) → Nat → Option (List Value)
  | [], _ => none
  | (k, l) :: r, g => bif k == g then some l else glook r g
theorem glook_mem : ∀ {t : List (Nat × List Value)} {g : Nat} {l : List Value}, glook t g = some l → (g, l) ∈ t
  | [], g, l, h => by cases h
  | (k, l') :: r, g, l, h => by
    unfold glook at h
    cases e : k == g with
    | true => rw [e] at h; cases h; rw [beq_iff_eq] at e; subst e; simp
    | false => rw [e] at h; exact List.mem_cons_of_mem _ (glook_mem h)
end Go.Proofs.YtaiihhogoogkmaaGreatDoor
