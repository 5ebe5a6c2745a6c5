/-
  Plain laws of a least-recently-used list: what Get, Put and Remove make of the list of entries.
-/
import Derived.Test.YtniopdfcdmifiaaPlain
namespace Go.Proofs.Ytniopdfcdmifiaa
variable {V : Type}
/-- the list without the first entry of a key -/
def rem (key : ByteArray) (l : List (ByteArray × V)) : List (ByteArray × V) := l.eraseP fun x => x.1.toList == key.toList

theorem fnd_findIdx {key : ByteArray} {l : List (ByteArray × V)} {i : Nat} (h : fnd key l = (i : Int)) : l.findIdx? (fun x => x.1.toList == key.toList) = some i := by
  unfold fnd at h
  cases hh : l.findIdx? (fun x => x.1.toList == key.toList) with
  | none => rw [hh] at h; simp at h
  | some j => rw [hh] at h; simp at h; exact congrArg some (by omega)
theorem fnd_findIdx_none {key : ByteArray} {l : List (ByteArray × V)} (h : fnd key l = -1) : l.findIdx? (fun x => x.1.toList == key.toList) = none := by
  unfold fnd at h
  cases hh : l.findIdx? (fun x => x.1.toList == key.toList) with
  | none => rfl
  | some j => rw [hh] at h; simp at h
theorem rem_hit {key : ByteArray} {l : List (ByteArray × V)} {i : Nat} (h : fnd key l = (i : Int)) : rem key l = l.take i ++ l.drop (i + 1) := by
  unfold rem
  rw [List.eraseP_eq_eraseIdx, fnd_findIdx h]
  exact List.eraseIdx_eq_take_drop_succ _ _
theorem rem_miss {key : ByteArray} {l : List (ByteArray × V)} (h : fnd key l = -1) : rem key l = l := by
  unfold rem
  rw [List.eraseP_eq_eraseIdx, fnd_findIdx_none h]
theorem rem_length_le (key : ByteArray) (l : List (ByteArray × V)) : (rem key l).length ≤ l.length := List.length_eraseP_le
/-- the value of a key -/
def look (key : ByteArray) (l : List (ByteArray × V)) : Option (ByteArray × V) := l.find? fun x => x.1.toList == key.toList
theorem look_hit {key : ByteArray} {l : List (ByteArray × V)} {i : Nat} {x : ByteArray × V} (h : fnd key l = (i : Int)) (hx : l[i]? = some x) : look key l = some x := by
  unfold look
  have h1 := fnd_findIdx h
  rw [List.findIdx?_eq_some_iff_getElem] at h1
  obtain ⟨hi, hp, hq⟩ := h1
  rw [List.getElem?_eq_getElem hi] at hx
  cases hx
  rw [List.find?_eq_some_iff_getElem]
  exact ⟨by simpa using hp, i, hi, rfl, fun j hj => by simpa using hq j hj⟩
theorem look_miss {key : ByteArray} {l : List (ByteArray × V)} (h : fnd key l = -1) : look key l = none := by
  unfold look
  have h1 := fnd_findIdx_none h
  rw [List.findIdx?_eq_none_iff] at h1
  rw [List.find?_eq_none]
  intro x hx
  simpa using h1 x hx
/-- Put -/
def putL (most : Nat) (x : ByteArray × V) (l : List (ByteArray × V)) : List (ByteArray × V) := (x :: rem x.1 l).take most
def putB (most : Nat) (x : ByteArray × V) (l : List (ByteArray × V)) : Bool := decide (most < (rem x.1 l).length + 1)
/-- Get: what becomes of the list -/
def getL (key : ByteArray) (l : List (ByteArray × V)) : List (ByteArray × V) :=
  match look key l with
  | some x => x :: rem key l
  | none => l
theorem putL_length (most : Nat) (x : ByteArray × V) (l : List (ByteArray × V)) : (putL most x l).length ≤ most := by unfold putL; simp; omega
theorem rem_length_hit {key : ByteArray} {l : List (ByteArray × V)} {i : Nat} (h : fnd key l = (i : Int)) : (rem key l).length + 1 = l.length := by
  rw [rem_hit h]
  have h1 := fnd_findIdx h
  rw [List.findIdx?_eq_some_iff_getElem] at h1
  obtain ⟨hi, _⟩ := h1
  rw [List.length_append, List.length_take, List.length_drop]; omega
theorem getL_length (key : ByteArray) (l : List (ByteArray × V)) : (getL key l).length = l.length := by
  rcases fnd_cases key l with h | ⟨i, x, h, _, hx, _⟩
  · unfold getL; rw [look_miss h]
  · unfold getL; rw [look_hit h hx]; simp [rem_length_hit h]

theorem nodup_le {α : Type} [BEq α] [LawfulBEq α] : ∀ (a b : List α), a.Nodup → (∀ x ∈ a, x ∈ b) → a.length ≤ b.length
  | [], _, _, _ => by simp
  | x :: a, b, hn, hs => by
    have hx : x ∈ b := hs x (by simp)
    have h1 := nodup_le a (b.erase x) (List.nodup_cons.1 hn).2 (fun y hy => by
      have hne : y ≠ x := fun e => (List.nodup_cons.1 hn).1 (e ▸ hy)
      exact (List.mem_erase_of_ne hne).2 (hs y (by simp [hy])))
    have h2 := List.length_erase_of_mem hx
    have h3 := List.length_pos_of_mem hx
    simp only [List.length_cons]; omega

/-- the entry of 'key' is still held, and what lies ahead of it are entries of the keys in 'others' -/
def Kept (key : ByteArray) (e : ByteArray × V) (others : List ByteArray) (l : List (ByteArray × V)) : Prop :=
  ∃ pre post, l = pre ++ e :: post ∧ e.1.toList = key.toList ∧ (∀ x ∈ pre, x.1.toList ≠ key.toList) ∧ (pre.map (fun x => x.1.toList)).Nodup ∧ ∀ x ∈ pre, x.1.toList ∈ others.map (·.toList)

theorem Kept.more {key : ByteArray} {e : ByteArray × V} {others : List ByteArray} {l : List (ByteArray × V)} (h : Kept key e others l) (y : ByteArray) : Kept key e (others ++ [y]) l := by
  obtain ⟨pre, post, h1, h2, h3, h4, h5⟩ := h
  exact ⟨pre, post, h1, h2, h3, h4, fun x hx => by rw [List.map_append]; exact List.mem_append_left _ (h5 x hx)⟩
theorem Kept.put {key : ByteArray} {e : ByteArray × V} {others : List ByteArray} {l : List (ByteArray × V)} (h : Kept key e others l) (n : Nat) (x : ByteArray × V) (hx : x.1.toList ≠ key.toList) (hm : x.1.toList ∈ others.map (·.toList)) (hn : others.length < n) :
    Kept key e others (putL n x l) := by
  obtain ⟨pre, post, rfl, h2, h3, h4, h5⟩ := h
  have key1 : ∀ pre' : List (ByteArray × V), (∀ y ∈ pre', y.1.toList ≠ key.toList) → (pre'.map (fun x => x.1.toList)).Nodup → (∀ y ∈ pre', y.1.toList ∈ others.map (·.toList)) → ∀ post', Kept key e others ((pre' ++ e :: post').take n) := fun pre' a1 a2 a3 post' => by
    have hlen : pre'.length ≤ others.length := by
      have := nodup_le (pre'.map (fun x => x.1.toList)) (others.map (·.toList)) a2 (fun y hy => by
        rw [List.mem_map] at hy
        obtain ⟨z, hz, rfl⟩ := hy
        exact a3 z hz)
      simpa using this
    obtain ⟨q, hq⟩ : ∃ q, n - pre'.length = q + 1 := ⟨n - pre'.length - 1, by omega⟩
    refine ⟨pre', post'.take q, ?_, h2, a1, a2, a3⟩
    rw [List.take_append, List.take_of_length_le (by omega), hq, List.take_succ_cons]
  unfold putL rem
  by_cases hp : ∃ y ∈ pre, (y.1.toList == x.1.toList) = true
  · obtain ⟨y, hy, hyx⟩ := hp
    rw [List.eraseP_append_left (p := fun z : ByteArray × V => z.1.toList == x.1.toList) hyx _ hy, ← List.cons_append]
    have hsub : ∀ z ∈ pre.eraseP (fun z => z.1.toList == x.1.toList), z ∈ pre := fun z hz => List.mem_of_mem_eraseP hz
    refine key1 _ ?_ ?_ ?_ _
    · intro z hz
      rcases List.mem_cons.1 hz with rfl | hz
      · exact hx
      · exact h3 z (hsub z hz)
    · rw [List.map_cons, List.nodup_cons]
      constructor
      · intro hc
        rw [List.mem_map] at hc
        obtain ⟨z, hz, hzx⟩ := hc
        -- two entries of one key in pre
        have hnd : ∀ (q : List (ByteArray × V)), (q.map (fun x => x.1.toList)).Nodup → ∀ z ∈ q.eraseP (fun z => z.1.toList == x.1.toList), z.1.toList ≠ x.1.toList := by
          intro q
          induction q with
          | nil => simp
          | cons a q ih =>
            intro hq z hz hzx
            rw [List.map_cons, List.nodup_cons] at hq
            by_cases ha : (a.1.toList == x.1.toList) = true
            · rw [List.eraseP_cons_of_pos (p := fun z : ByteArray × V => z.1.toList == x.1.toList) ha] at hz
              exact hq.1 (List.mem_map.2 ⟨z, hz, by rw [hzx]; exact (by simpa using ha : a.1.toList = x.1.toList).symm⟩)
            · rw [List.eraseP_cons_of_neg (p := fun z : ByteArray × V => z.1.toList == x.1.toList) ha] at hz
              rcases List.mem_cons.1 hz with rfl | hz
              · exact ha (by simpa using hzx)
              · exact ih hq.2 z hz hzx
        exact hnd pre h4 z hz hzx
      · exact List.Nodup.sublist (List.Sublist.map _ List.eraseP_sublist) h4
    · intro z hz
      rcases List.mem_cons.1 hz with rfl | hz
      · exact hm
      · exact h5 z (hsub z hz)
  · have hno : ∀ y ∈ pre, ¬ (y.1.toList == x.1.toList) = true := fun y hy hyx => hp ⟨y, hy, hyx⟩
    rw [List.eraseP_append_right (p := fun z : ByteArray × V => z.1.toList == x.1.toList) _ hno, List.eraseP_cons_of_neg (p := fun z : ByteArray × V => z.1.toList == x.1.toList) (by rw [h2]; simpa using fun e => hx e.symm), ← List.cons_append]
    refine key1 _ ?_ ?_ ?_ _
    · intro z hz
      rcases List.mem_cons.1 hz with rfl | hz
      · exact hx
      · exact h3 z hz
    · rw [List.map_cons, List.nodup_cons]
      refine ⟨fun hc => ?_, h4⟩
      rw [List.mem_map] at hc
      obtain ⟨z, hz, hzx⟩ := hc
      exact hno z hz (by simpa using hzx)
    · intro z hz
      rcases List.mem_cons.1 hz with rfl | hz
      · exact hm
      · exact h5 z hz
theorem Kept.get {key : ByteArray} {e : ByteArray × V} {others : List ByteArray} {l : List (ByteArray × V)} (h : Kept key e others l) : ∃ i : Nat, fnd key l = (i : Int) ∧ i < l.length ∧ l[i]? = some e := by
  obtain ⟨pre, post, rfl, h2, h3, _⟩ := h
  refine ⟨pre.length, fnd_some e (by simp) (fun q y hq hy => ?_) (by simpa using h2), by simp, by simp⟩
  rw [List.getElem?_append_left hq] at hy
  have := h3 y (List.mem_of_getElem? hy)
  simpa using this
end Go.Proofs.Ytniopdfcdmifiaa
