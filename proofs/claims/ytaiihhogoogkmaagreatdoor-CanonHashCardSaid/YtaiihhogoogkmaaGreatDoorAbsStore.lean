/-
  Why the small language's reading of memory is right, continued: a store into a numbered block, and an append.
-/
import Derived.Test.YtaiihhogoogkmaaGreatDoorAbsHeap
namespace Go.Proofs.YtaiihhogoogkmaaGreatDoor
open Go.RowKit

theorem setRow_size (w : World) (g : Nat) (cs : Array Value) : (w.setRow g cs).heap.size = w.heap.size := by simp [World.setRow]
theorem setRow_cell_other (w : World) (g : Nat) (cs : Array Value) (b o : Nat) (h : b ≠ g) : (w.setRow g cs).cell? ⟨b, o, none⟩ = w.cell? ⟨b, o, none⟩ := World.cell?_of_block (setRow_other w g b cs h)

theorem ext_setRow {G : Gh} {w : World} {g : Nat} (cs : Array Value) (hg : ¬ G.Z g) (hS : ∀ b o, G.S b o → (w.setRow g cs).cell? ⟨b, o, none⟩ = w.cell? ⟨b, o, none⟩) : Ext G.N G w G (w.setRow g cs) :=
  ⟨by rw [setRow_size]; exact Nat.le_refl _, fun _ _ h => h, hS, fun _ _ => rfl, fun _ _ => .inl ⟨rfl, rfl⟩, zsame rfl, fun b hb => setRow_other w g b cs (fun e => hg (e ▸ hb)), rfl, rfl, rfl, fun _ _ h => .inl h⟩

theorem splice_length (cs ys : List AV) (off : Nat) (h : off + ys.length ≤ cs.length) : (splice cs off ys).length = cs.length := by
  simp [splice]; omega
/-- cells of a row behind a store -/
theorem splice_rel {R : Value → AV → Prop} (vs us : Array Value) (cs ys : List AV) (off : Nat) (hl : vs.size = cs.length) (hu : us.size = ys.length) (hb : off + ys.length ≤ cs.length)
    (hr : ∀ (i : Nat) (u : Value) (c : AV), vs[i]? = some u → cs[i]? = some c → R u c) (hr' : ∀ (i : Nat) (u : Value) (c : AV), us[i]? = some u → ys[i]? = some c → R u c) :
    ∀ (i : Nat) (u : Value) (c : AV), (vs.toList.take off ++ us.toList ++ vs.toList.drop (off + us.toList.length)).toArray[i]? = some u → (splice cs off ys)[i]? = some c → R u c := by
  intro i u c h1 h2
  have hul : us.toList.length = ys.length := by rw [Array.length_toList, hu]
  rw [hul] at h1
  rw [List.getElem?_toArray] at h1
  unfold splice at h2
  simp only [List.append_assoc] at h1 h2
  have hvl : vs.toList.length = cs.length := by rw [Array.length_toList, hl]
  by_cases h : i < off
  · rw [List.getElem?_append_left (by simp; omega), List.getElem?_take_of_lt h] at h1
    rw [List.getElem?_append_left (by simp; omega), List.getElem?_take_of_lt h] at h2
    exact hr i u c (by rw [← Array.getElem?_toList]; exact h1) h2
  · rw [List.getElem?_append_right (by simp; omega)] at h1 h2
    simp only [List.length_take, hvl] at h1 h2
    rw [Nat.min_eq_left (by omega)] at h1 h2
    by_cases h' : i - off < ys.length
    · rw [List.getElem?_append_left (by rw [hul]; exact h')] at h1
      rw [List.getElem?_append_left h'] at h2
      exact hr' (i - off) u c (by rw [← Array.getElem?_toList]; exact h1) h2
    · rw [List.getElem?_append_right (by rw [hul]; omega), List.getElem?_drop] at h1
      rw [List.getElem?_append_right (by omega), List.getElem?_drop] at h2
      rw [hul] at h1
      rw [show off + ys.length + (i - off - ys.length) = i by omega] at h1 h2
      exact hr i u c (by rw [← Array.getElem?_toList]; exact h1) h2

/-- the store of a row's part -/
theorem run_store_blk {P : Program} {G : Gh} {w : World} {h : List Blk} (hi : Inv G w h) {n off : Nat} {cs : List AV} (hn : h[n]? = some (.cells cs)) {t : TypeId} {v : Value} {x : AV}
    (hv : VRel G w v x) (hb : x.boxB = true) (ht : szT P t = some x.cells.length) (ho : off + x.cells.length ≤ cs.length) :
    ∃ w', (storeVar t ⟨G.rho n, off, none⟩ v).run P w = .ok () w' ∧ Ext G.N G w G w' ∧ Inv G w' (h.set n (.cells (splice cs off x.cells))) := by
  obtain ⟨hz, hS, vs, T, hh, hl, hr⟩ := hi.blk n _ hn
  obtain ⟨hc1, hc2⟩ := hv.cells hb
  obtain ⟨i, hi1, hi2⟩ : ∃ i, P.info? t = some i ∧ i.size = x.cells.length := by
    unfold szT at ht
    cases hq : P.info? t with
    | none => rw [hq] at ht; cases ht
    | some i => rw [hq] at ht; exact ⟨i, rfl, by simpa using ht⟩
  have hst := run_storeCells_at P (G.rho n) off T v.cells.toList 0 vs w hh (by rw [Array.length_toList, hc1, hl]; simpa using ho) (fun u hu => by
    obtain ⟨j, hj⟩ := List.mem_iff_getElem?.1 hu
    have hj' : v.cells[j]? = some u := by rw [← Array.getElem?_toList]; exact hj
    have hjl : j < x.cells.length := by rw [← hc1]; exact (Array.getElem?_eq_some_iff.1 hj').1
    exact (hc2 j u _ hj' (List.getElem?_eq_getElem hjl)).2)
  simp only [Nat.add_zero] at hst
  obtain ⟨w', hw'⟩ : ∃ w', w' = w.setRow (G.rho n) (vs.toList.take off ++ v.cells.toList ++ vs.toList.drop (off + v.cells.toList.length)).toArray := ⟨_, rfl⟩
  rw [← hw'] at hst
  have hE : Ext G.N G w G w' := by
    rw [hw']
    exact ext_setRow _ hz fun b o hs => setRow_cell_other w _ _ b o (fun e => hS o (e ▸ hs))
  have hget : ∀ m, m ≠ n → (h.set n (.cells (splice cs off x.cells)))[m]? = h[m]? := fun m hm => by rw [List.getElem?_set_ne (Ne.symm hm)]
  have hgn : (h.set n (.cells (splice cs off x.cells)))[n]? = some (.cells (splice cs off x.cells)) := by
    rw [List.getElem?_set_self (List.getElem?_eq_some_iff.1 hn).1]
  have hown : ∀ m, ownB (h.set n (.cells (splice cs off x.cells))) G m = ownB h G m := fun m => by
    by_cases e : m = n
    · subst e; rw [ownB_of hgn, ownB_of hn]; rfl
    · unfold ownB; rw [hget m e]
  have hon : ownB h G n = some (G.rho n) := ownB_of hn
  refine ⟨w', ?_, hE, ⟨by rw [List.length_set]; exact hi.len, fun b hb => Nat.lt_of_lt_of_le (hi.z b hb) hE.size, fun b o hs => Nat.lt_of_lt_of_le (hi.S b o hs) hE.size, fun m B hB => ?_, fun m m' b h1 h2 => hi.inj m m' b (by rw [← hown]; exact h1) (by rw [← hown]; exact h2), hi.gl.keep hE⟩⟩
  · unfold storeVar
    simp only [sizeOf, typeInfo, Sem.run_bind, hc1]
    simp [hi1, hi2, hst]
  · by_cases e : m = n
    · subst e
      rw [hgn] at hB
      cases hB
      refine ⟨hz, hS, _, T, by rw [hw']; exact setRow_heap w _ vs _ T _ hh, ?_, fun i u c hu hc => ?_⟩
      · rw [splice_length _ _ _ ho]
        have : v.cells.toList.length = x.cells.length := by rw [Array.length_toList]; exact hc1
        simp only [List.size_toArray, List.length_append, List.length_take, List.length_drop, Array.length_toList, hl, hc1]
        omega
      · exact (splice_rel (R := VRel G w) vs v.cells cs x.cells off hl hc1 ho hr (fun i u c h1 h2 => (hc2 i u c h1 h2).1) i u c hu hc).keep hE (Nat.le_refl _)
    · rw [hget m e] at hB
      have hne : ∀ b, ownB h G m = some b → b ≠ G.rho n := fun b hb eb => e (hi.inj m n b hb (by rw [eb]; exact hon))
      refine BRel.keep (hi.lt hB) hE (Nat.le_refl _) ⟨rfl, rfl, rfl⟩ (fun b hb => ⟨?_, fun o h => h⟩) (hi.blk m B hB)
      rw [hw']
      exact setRow_other w _ _ _ (hne _ ((ownB_of hB).trans hb))

/-! ### an append -/
theorem PRel.sl_iff {S : Nat → Nat → Prop} {w : World} {v : Value} {xs : List (List D)} (h : PRel S w v (.sl xs)) :
    ∃ (A : Option Addr) (b o c k : Nat) (u : Nat → Nat → Value), v = .slice A xs.length c ∧ (xs ≠ [] → A = some ⟨b, o, none⟩) ∧ xs.length ≤ c ∧ c ≤ maxLen ∧ (∀ x ∈ xs, x.length = k) ∧
      (∀ i j, i < xs.length → j < k → S b (o + i * k + j) ∧ w.cell? ⟨b, o + i * k + j, none⟩ = some (u i j) ∧ (u i j).oneCell' = true) ∧
      (∀ (i j : Nat) (x : List D) (d : D), xs[i]? = some x → x[j]? = some d → PRel S w (u i j) d) := by
  cases h with
  | sl A b o c k xs u hA hc hm hk hS hu => exact ⟨A, b, o, c, k, u, rfl, hA, hc, hm, hk, hS, hu⟩
end Go.Proofs.YtaiihhogoogkmaaGreatDoor
