/-
  Put and Get of the cache (values: structs), in one contract each.
-/
import Derived.Test.YtniopdfcdmifiaaCP3
import Derived.Test.YtniopdfcdmifiaaCP4
import Derived.Test.YtniopdfcdmifiaaLru
namespace Go.Proofs.Ytniopdfcdmifiaa
namespace CP
open Go.RowKit
theorem put_any (base g : Nat) (most h m : Nat) (l : List (ByteArray × (ByteArray × Int))) (x : ByteArray × (ByteArray × Int)) (w : World) (hc : IsC w base g most l h m) (hm0 : 0 < most) (hl : l.length ≤ 99999) :
    Calls Try.prog 20 #[.pointer (some ⟨g, 0, none⟩), .string x.1, .agg #[.string x.2.1, .int .i64 x.2.2]] w fun e w' => e = .returned (.bool (putB most x l)) ∧ IsC w' base g most (putL most x l) h m ∧ FrT 78 84 base w w' := by
  rcases fnd_cases x.1 l with hf | ⟨i, y, hf, hi, hy, _⟩
  · have := put_miss base g most h m l x w hc hm0 hl hf
    unfold putB putL
    rw [rem_miss hf]
    exact this
  · have := put_hit base g most h m l x w hc hm0 hl i hi hf _ rfl
    unfold putB putL
    rw [rem_hit hf]
    exact this
theorem get_any (base g : Nat) (most h m : Nat) (l : List (ByteArray × (ByteArray × Int))) (key : ByteArray) (w : World) (hc : IsC w base g most l h m) (hm0 : 0 < most) (hl : l.length ≤ 100000) (hh : h ≤ 100000) (hm : m ≤ 100000) :
    Calls Try.prog 17 #[.pointer (some ⟨g, 0, none⟩), .string key] w fun e w' => (∃ x, look key l = some x ∧ e = .returned (.tuple #[.agg #[.string x.2.1, .int .i64 x.2.2], .bool true]) ∧ IsC w' base g most (getL key l) (h + 1) m ∨ look key l = none ∧ e = .returned (.tuple #[.agg #[.string ⟨#[]⟩, .int .i64 0], .bool false]) ∧ IsC w' base g most (getL key l) h (m + 1)) ∧ FrT 78 84 base w w' := by
  rcases fnd_cases key l with hf | ⟨i, y, hf, hi, hy, _⟩
  · refine (get_miss base g most h m l key w hc hm0 hl hm hf).mono ?_
    rintro e w' ⟨h1, h2, h3⟩
    have hk := look_miss hf
    refine ⟨⟨(default, default), .inr ⟨hk, h1, ?_⟩⟩, h3⟩
    unfold getL; rw [hk]; exact h2
  · refine (get_hit base g most h m l key w hc hm0 hl hh i y hf hi hy).mono ?_
    rintro e w' ⟨h1, h2, h3⟩
    have hk := look_hit hf hy
    refine ⟨⟨y, .inl ⟨hk, h1, ?_⟩⟩, h3⟩
    unfold getL; rw [hk, rem_hit hf]; exact h2
end CP
end Go.Proofs.Ytniopdfcdmifiaa
