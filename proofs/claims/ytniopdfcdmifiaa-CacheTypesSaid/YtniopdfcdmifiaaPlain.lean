/-
  Plain lists for the cache: rows of entries as cells, and what a cache of a given capacity does.
-/
namespace Go.Proofs.Ytniopdfcdmifiaa
section
variable {α β : Type}
theorem flat_length {f : α → List β} {k : Nat} (hf : ∀ x, (f x).length = k) : ∀ l : List α, (l.flatMap f).length = l.length * k
  | [] => by simp
  | x :: l => by simp only [List.flatMap_cons, List.length_append, List.length_cons, hf, flat_length hf l, Nat.add_mul]; omega
theorem flat_take {f : α → List β} {k : Nat} (hf : ∀ x, (f x).length = k) : ∀ (l : List α) (i : Nat), (l.flatMap f).take (i * k) = (l.take i).flatMap f
  | [], i => by simp
  | x :: l, 0 => by simp
  | x :: l, i + 1 => by
    simp only [List.flatMap_cons, List.take_succ_cons]
    rw [Nat.add_mul, Nat.one_mul, Nat.add_comm, List.take_append, hf]
    rw [List.take_of_length_le (by rw [hf]; omega), show k + i * k - k = i * k by omega, flat_take hf l i]
theorem flat_drop {f : α → List β} {k : Nat} (hf : ∀ x, (f x).length = k) : ∀ (l : List α) (i : Nat), (l.flatMap f).drop (i * k) = (l.drop i).flatMap f
  | [], i => by simp
  | x :: l, 0 => by simp
  | x :: l, i + 1 => by
    simp only [List.flatMap_cons, List.drop_succ_cons]
    rw [Nat.add_mul, Nat.one_mul, Nat.add_comm, List.drop_append, hf]
    rw [List.drop_of_length_le (by rw [hf]; omega), show k + i * k - k = i * k by omega, flat_drop hf l i, List.nil_append]
theorem flat_get {f : α → List β} {k : Nat} (hf : ∀ x, (f x).length = k) (l : List α) (i j : Nat) (x : α) (hi : l[i]? = some x) (hj : j < k) : (l.flatMap f)[i * k + j]? = (f x)[j]? := by
  have h := flat_drop hf l i
  rw [← List.getElem?_drop, h]
  have hlt : i < l.length := by
    rcases Nat.lt_or_ge i l.length with h' | h'
    · exact h'
    · rw [List.getElem?_eq_none h'] at hi; cases hi
  have : l[i] = x := by rw [List.getElem?_eq_getElem hlt] at hi; exact Option.some.inj hi
  rw [List.drop_eq_getElem_cons hlt, List.flatMap_cons, this, List.getElem?_append_left (by rw [hf]; exact hj)]
end
section
variable {V : Type}
/-- the place of a key, or -1 -/
def fnd (key : ByteArray) (l : List (ByteArray × V)) : Int :=
  match l.findIdx? (fun x => x.1.toList == key.toList) with
  | some i => (i : Int)
  | none => -1
end
theorem fnd_some {V : Type} {key : ByteArray} {l : List (ByteArray × V)} {k : Nat} (x : ByteArray × V) (hx : l[k]? = some x) (hb : ∀ (q : Nat) (y : ByteArray × V), q < k → l[q]? = some y → (y.1.toList == key.toList) = false) (hk : (x.1.toList == key.toList) = true) : fnd key l = (k : Int) := by
  have : l.findIdx? (fun x => x.1.toList == key.toList) = some k := by
    rw [List.findIdx?_eq_some_iff_getElem]
    have hlt : k < l.length := by
      rcases Nat.lt_or_ge k l.length with h | h
      · exact h
      · rw [List.getElem?_eq_none h] at hx; cases hx
    refine ⟨hlt, ?_, fun j hj => ?_⟩
    · rw [List.getElem?_eq_getElem hlt] at hx; rw [Option.some.inj hx]; exact hk
    · have := hb j _ hj (List.getElem?_eq_getElem (by omega))
      simpa using this
  unfold fnd; rw [this]
theorem fnd_none {V : Type} {key : ByteArray} {l : List (ByteArray × V)} (hb : ∀ (q : Nat) (y : ByteArray × V), q < l.length → l[q]? = some y → (y.1.toList == key.toList) = false) : fnd key l = -1 := by
  have : l.findIdx? (fun x => x.1.toList == key.toList) = none := by
    rw [List.findIdx?_eq_none_iff]
    intro x hx
    obtain ⟨i, hi, rfl⟩ := List.getElem_of_mem hx
    exact hb i _ hi (List.getElem?_eq_getElem hi)
  unfold fnd; rw [this]
theorem fnd_cases {V : Type} (key : ByteArray) (l : List (ByteArray × V)) : fnd key l = -1 ∨ ∃ (i : Nat) (x : ByteArray × V), fnd key l = (i : Int) ∧ i < l.length ∧ l[i]? = some x ∧ (x.1.toList == key.toList) = true := by
  unfold fnd
  cases h : l.findIdx? (fun x => x.1.toList == key.toList) with
  | none => exact .inl rfl
  | some i =>
    rw [List.findIdx?_eq_some_iff_getElem] at h
    obtain ⟨hi, hp, _⟩ := h
    exact .inr ⟨i, l[i], rfl, hi, List.getElem?_eq_getElem hi, hp⟩
end Go.Proofs.Ytniopdfcdmifiaa
