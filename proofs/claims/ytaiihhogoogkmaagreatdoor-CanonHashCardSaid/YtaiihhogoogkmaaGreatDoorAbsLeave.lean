/-
  A frame that leaves: the marks of its ranges over functions are taken down.
-/
import Derived.Test.YtaiihhogoogkmaaGreatDoorAbsOp4
namespace Go.Proofs.YtaiihhogoogkmaaGreatDoor
open Go.RowKit

theorem VRel.zm {G : Gh} {w : World} {u : Value} {x : AV} (Z : Nat → Prop) (M : Nat) (h : VRel G w u x) : VRel { G with Z := Z, M := M } w u x := by
  induction h with
  | agg vs cs hl _ ih => exact .agg vs cs hl ih
  | tup vs cs hl _ ih => exact .tup vs cs hl ih
  | fn f vs cs hl _ ih => exact .fn f vs cs hl ih
  | own n xs h hp hle hf => exact .own n xs h hp hle hf
  | ptr n off h => exact .ptr (G := { G with Z := Z, M := M }) n off h
  | row n off len cap k h hl hm => exact .row (G := { G with Z := Z, M := M }) n off len cap k h hl hm
  | mp n h => exact .mp (G := { G with Z := Z, M := M }) n h
  | yld n h => exact .yld (G := { G with Z := Z, M := M }) n h
  | vec n o len L k h hs hL hf => exact .vec (G := { G with Z := Z, M := M }) n o len L k h hs hL hf
  | vptr n i j L k h hs hL hf => exact .vptr (G := { G with Z := Z, M := M }) n i j L k h hs hL hf
  | hid h h1 => exact .hid h h1
  | d h => exact .d h
  | elt xs i off b o u x hx hS hu => exact .elt xs i off b o u x hx hS hu
  | full xs hp hf => exact .full xs hp hf
  | dead u => exact .dead u
theorem BRel.zm {G : Gh} {w : World} {n : Nat} {B : Blk} (Z : Nat → Prop) (M : Nat) (hz : ∀ b, Z b → G.Z b) (h : BRel G w n B) : BRel { G with Z := Z, M := M } w n B := by
  cases B with
  | gone => trivial
  | cells cs =>
    obtain ⟨h1, h2, vs, T, h3, h4, h5⟩ := h
    exact ⟨fun k => h1 (hz _ k), h2, vs, T, h3, h4, fun i u c hu hc => (h5 i u c hu hc).zm Z M⟩
  | lp ls p as bd cs =>
    obtain ⟨h1, h2, fn, vs, T, h3, h4, h5⟩ := h
    exact ⟨fun k => h1 (hz _ k), h2, fn, vs, T, h3, h4, fun i u c hu hc => (h5 i u c hu hc).zm Z M⟩
  | it sn cs =>
    obtain ⟨h1, h2, fn, vs, T, h3, h4, h5⟩ := h
    exact ⟨fun k => h1 (hz _ k), h2, fn, vs, T, h3, h4, fun i u c hu hc => (h5 i u c hu hc).zm Z M⟩
  | map kv =>
    obtain ⟨h1, h2, es, c, h3, h4⟩ := h
    exact ⟨fun k => h1 (hz _ k), h2, es, c, h3, h4⟩
  | front e k len =>
    obtain ⟨h1, hm, h2⟩ := h
    refine ⟨h1, hm, ?_⟩
    rcases h2 with h2 | ⟨g, cap, cur, h2, h3, h4, h5⟩
    · exact .inl h2
    · exact .inr ⟨g, cap, cur, h2, h3, fun k => h4 (hz _ k), h5⟩
  | vec e k cs =>
    obtain ⟨h1, hm, hk, h2⟩ := h
    refine ⟨h1, hm, hk, ?_⟩
    rcases h2 with h2 | ⟨g, cap, cur, h2, h3, h4, h5, h6, h7, h8, h9, h10⟩
    · exact .inl h2
    · exact .inr ⟨g, cap, cur, h2, h3, fun k => h4 (hz _ k), h5, h6, h7, h8, h9, fun i j c x u hc hx hu => (h10 i j c x u hc hx hu).zm Z M⟩
theorem ownB_zm {h : List Blk} {G : Gh} {n : Nat} (Z : Nat → Prop) (M : Nat) : ownB h { G with Z := Z, M := M } n = ownB h G n := by
  unfold ownB
  cases h[n]? with
  | none => rfl
  | some B => cases B <;> rfl
theorem Inv.zm {G : Gh} {w : World} {h : List Blk} (hi : Inv G w h) (Z : Nat → Prop) (M : Nat) (hz : ∀ b, Z b → G.Z b) (hM : M ≤ w.heap.size) : Inv { G with Z := Z, M := M } w h :=
  ⟨hi.len, fun b hb => hi.z b (hz b hb), hi.S, fun n B hB => (hi.blk n B hB).zm Z M hz, fun m n b h1 h2 => hi.inj m n b (by rw [← ownB_zm Z M]; exact h1) (by rw [← ownB_zm Z M]; exact h2), ⟨hi.gl.1, hM⟩⟩

def shutD (l : List Nat) (w : World) : World := l.foldl (fun w D => w.putObj D (.deferred none)) w
theorem shut_spec : ∀ (l : List Nat) (w : World), (∀ D ∈ l, w.heap[D]? = some (.deferred (some []))) → l.Nodup →
    (shutD l w).heap.size = w.heap.size ∧ (∀ b, b ∉ l → (shutD l w).heap[b]? = w.heap[b]?) ∧ (∀ b o, (shutD l w).cell? ⟨b, o, none⟩ = w.cell? ⟨b, o, none⟩) ∧ (shutD l w).os = w.os ∧ (shutD l w).tape = w.tape ∧ (shutD l w).output = w.output
  | [], w, _, _ => ⟨rfl, fun _ _ => rfl, fun _ _ => rfl, rfl, rfl, rfl⟩
  | D :: l, w, hd, hn => by
    rw [List.nodup_cons] at hn
    have hD := hd D List.mem_cons_self
    have hlt := (Array.getElem?_eq_some_iff.1 hD).1
    obtain ⟨h1, h2, h3, h4, h5, h6⟩ := shut_spec l (w.putObj D (.deferred none)) (fun E hE => by
      have hne : E ≠ D := fun e => hn.1 (e ▸ hE)
      rw [World.putObj_heap_other hne]; exact hd E (List.mem_cons_of_mem _ hE)) hn.2
    refine ⟨h1.trans (by simp), fun b hb => ?_, fun b o => ?_, h4, h5, h6⟩
    · exact (h2 b fun h => hb (List.mem_cons_of_mem _ h)).trans (World.putObj_heap_other fun e => hb (e ▸ List.mem_cons_self))
    · refine (h3 b o).trans ?_
      by_cases e : b = D
      · subst e
        unfold World.cell?
        simp only [World.putObj_heap_same hlt, hD]
      · exact World.cell?_of_block (World.putObj_heap_other e)
theorem leaves_marks {F : Fence} {n : Nat} {P : Program} {fn : Func} {tmps : Array Value} {R : Ending → World → Prop} : ∀ (l : List Nat) (w : World), (∀ D ∈ l, w.heap[D]? = some (.deferred (some []))) → l.Nodup →
    LeavesIn F n P fn tmps R [] .returning (shutD l w) → LeavesInM F n P fn tmps R (l.map fun D => { target := .collected D, args := #[] }) .returning w
  | [], w, _, _, h => h
  | D :: l, w, hd, hn, h => by
    rw [List.nodup_cons] at hn
    exact ⟨by simp, .inl ⟨D, _, rfl, run_takeDeferred (hd D List.mem_cons_self), leaves_marks l _ (fun E hE => by
      have hne : E ≠ D := fun e => hn.1 (e ▸ hE)
      rw [World.putObj_heap_other hne]; exact hd E (List.mem_cons_of_mem _ hE)) hn.2 h⟩⟩
/-- a frame leaves: what lay ahead of it lies as it lay, its marks are down -/
theorem leave_ok {N0 : Nat} {G G1 : Gh} {w w' : World} {a' : Act} {s1 : St} (hE : Ext N0 { G with M := w.heap.size } w G1 w') (hN : N0 ≤ G1.N) (hz : ∀ b, G.Z b → b < w.heap.size) (hMw : G.M ≤ w.heap.size) (hs : Sat G1 w' a' s1) :
    ∃ (w2 : World) (G2 : Gh), (∀ (F : Fence) (n : Nat) (P : Program) (fn : Func) (R : Ending → World → Prop), (∃ v, (results fn a'.tmps).run P w2 = .ok v w2 ∧ R (.returned v) w2) → LeavesInM F n P fn a'.tmps R a'.defers .returning w') ∧
      Ext N0 G w G2 w2 ∧ G2.N = G1.N ∧ Sat G2 w2 { a' with defers := [] } s1 := by
  obtain ⟨l, l1, l2, l3⟩ := hs.df
  have hd : ∀ D ∈ l, w'.heap[D]? = some (.deferred (some [])) := fun D hD => (l3 D hD).2.2
  obtain ⟨h1, h2, h3, h4, h5, h6⟩ := shut_spec l w' hd l1
  have hM : G1.M = w.heap.size := hE.Z.2
  have hzz : ∀ b, G.Z b → b ∉ l := fun b hb hl => by
    have := (l3 b hl).1
    have := hz b hb
    omega
  obtain ⟨G2, hG2⟩ : ∃ G2 : Gh, G2 = { G1 with Z := G.Z, M := G.M } := ⟨_, rfl⟩
  have hsub : ∀ b, G.Z b → G1.Z b := hE.Z.1.1
  have hi2 : Inv G2 w' s1.h := by rw [hG2]; exact hs.inv.zm _ _ hsub (Nat.le_trans hMw hE.size)
  have hE1 : Ext N0 G w G2 w' := by
    rw [hG2]
    exact ⟨hE.size, hE.S, hE.cell, hE.rho, hE.fr, zsame rfl, hE.old, hE.os, hE.tape, hE.output, hE.new⟩
  have hE2 : Ext G2.N G2 w' G2 (shutD l w') := ⟨by rw [h1]; exact Nat.le_refl _, fun _ _ h => h, fun b o _ => h3 b o, fun _ _ => rfl, fun _ _ => .inl ⟨rfl, rfl⟩, zsame rfl, fun b hb => h2 b (hzz b (by rw [hG2] at hb; exact hb)), h4, h5, h6, fun _ _ h => .inl h⟩
  have hi3 : Inv G2 (shutD l w') s1.h := ⟨hi2.len, fun b hb => by rw [h1]; exact hi2.z b hb, fun b o hb => by rw [h1]; exact hi2.S b o hb, fun n B hB => BRel.keep (hi2.lt hB) hE2 (Nat.le_refl _) ⟨rfl, rfl, rfl⟩ (fun b hb => ⟨h2 b fun hl => (hs.inv.blk n B hB).notZ (by rw [hG2] at hb; cases B <;> exact hb) (l3 b hl).2.1, fun _ h => h⟩) (hi2.blk n B hB), hi2.inj, hi2.gl.keep hE2⟩
  refine ⟨shutD l w', G2, fun F n P fn R h => ?_, hE1.trans (hE2.less (by rw [hG2]; exact hN)), by rw [hG2], ⟨hs.size, fun i => VRel.keep hE2 (Nat.le_refl _) (by rw [hG2]; exact (hs.tmp i).zm _ _), hi3, Marks.nil _ _⟩⟩
  rw [l2]
  exact leaves_marks l w' hd l1 h
end Go.Proofs.YtaiihhogoogkmaaGreatDoor
