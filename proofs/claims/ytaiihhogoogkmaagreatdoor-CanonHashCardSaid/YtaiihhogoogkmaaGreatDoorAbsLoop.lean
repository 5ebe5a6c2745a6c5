/-
  Suspended ranges over functions, as blocks.
-/
import Derived.Test.YtaiihhogoogkmaaGreatDoorAbsLeave
namespace Go.Proofs.YtaiihhogoogkmaaGreatDoor
open Go.RowKit
section
variable {G : Gh} {w : World} {h : List Blk}
theorem inv_lp_alloc (hi : Inv G w h) (fn : FuncId) (tm : Array Value) (D p : Nat) (as bd : Code) (cs : List AV) (hl : tm.size = cs.length) (hr : ∀ (i : Nat) (u : Value) (c : AV), tm[i]? = some u → cs[i]? = some c → VRel G w u c) : Ext G.N G w (G.addC w.heap.size) (w.alloc (.loop { state := .ready, pending := none, fn := fn, tmps := tm, params := #[p], assign := as, body := bd, defers := D })) ∧ Inv (G.addC w.heap.size) (w.alloc (.loop { state := .ready, pending := none, fn := fn, tmps := tm, params := #[p], assign := as, body := bd, defers := D })) (h ++ [.lp .ready p as bd cs]) ∧ VRel (G.addC w.heap.size) (w.alloc (.loop { state := .ready, pending := none, fn := fn, tmps := tm, params := #[p], assign := as, body := bd, defers := D })) (.func (.yield w.heap.size) #[] #[]) (.yld h.length) := by
  have hE := ext_alloc G w hi.z hi.S (.loop { state := .ready, pending := none, fn := fn, tmps := tm, params := #[p], assign := as, body := bd, defers := D })
  have hN : G.N ≤ (G.addC w.heap.size).N := Nat.le_succ _
  have hrho : (G.addC w.heap.size).rho h.length = w.heap.size := by simp [Gh.addC, hi.len]
  have hown1 : ∀ n (B : Blk), n < G.N → B.own1 (G.addC w.heap.size) n = B.own1 G n := fun n B hn => by
    cases B <;> simp [Blk.own1, Gh.addC, Nat.ne_of_lt hn]
  have hnew : ∀ n, n < G.N → ownB (h ++ [.lp .ready p as bd cs]) (G.addC w.heap.size) n = ownB h G n := fun n hn => by
    have hlt : n < h.length := by rw [hi.len]; exact hn
    unfold ownB
    rw [List.getElem?_append_left hlt, List.getElem?_eq_getElem hlt]
    exact hown1 n _ hn
  have hlast : ownB (h ++ [.lp .ready p as bd cs]) (G.addC w.heap.size) h.length = some w.heap.size := by
    rw [ownB_of (B := .lp .ready p as bd cs) (by simp)]; exact congrArg some hrho
  refine ⟨hE, ⟨by simp [Gh.addC, hi.len], fun b hb => Nat.lt_of_lt_of_le (hi.z b hb) hE.size, fun b o hs => Nat.lt_of_lt_of_le (hi.S b o hs) hE.size, fun n B hB => ?_, fun m n b hm hn => ?_, hi.gl.keep hE⟩, ?_⟩
  · by_cases hn : n < h.length
    · rw [List.getElem?_append_left hn] at hB
      have hn' : n < G.N := hi.len ▸ hn
      exact BRel.keep hn' hE hN ⟨rfl, rfl, rfl⟩ (fun b hb => ⟨Below.heap_alloc w _ _ (hi.ownlt (n := n) ((ownB_of hB).trans hb)), fun o h => h⟩) (hi.blk n B hB)
    · have hn2 : n = h.length := by
        have := (List.getElem?_eq_some_iff.1 hB).1
        simp at this; omega
      subst hn2
      simp at hB
      subst hB
      exact ⟨by rw [hrho]; exact fun hz => Nat.lt_irrefl _ (hi.z _ hz), fun o hs => by rw [hrho] at hs; exact Nat.lt_irrefl _ (hi.S _ _ hs), fn, tm, D, by rw [hrho]; exact World.alloc_heap_new w _, hl, fun i u c hu hc => (hr i u c hu hc).keep hE hN⟩
  · have key : ∀ n b, ownB (h ++ [.lp .ready p as bd cs]) (G.addC w.heap.size) n = some b → (n < G.N ∧ ownB h G n = some b) ∨ (n = h.length ∧ b = w.heap.size) := fun n b hn => by
      by_cases hlt : n < G.N
      · exact .inl ⟨hlt, by rw [← hnew n hlt]; exact hn⟩
      · by_cases e : n = h.length
        · subst e; rw [hlast] at hn; cases hn; exact .inr ⟨rfl, rfl⟩
        · rw [ownB_none (List.getElem?_eq_none (by simp; have := hi.len; omega))] at hn
          cases hn
    rcases key m b hm with ⟨_, hm'⟩ | ⟨rfl, rfl⟩ <;> rcases key n _ hn with ⟨_, hn'⟩ | ⟨rfl, hb⟩
    · exact hi.inj m n b hm' hn'
    · have := hi.ownlt hm'; omega
    · have := hi.ownlt hn'; omega
    · rfl
  · have := VRel.yld (G := G.addC w.heap.size) (w := w.alloc (.loop { state := .ready, pending := none, fn := fn, tmps := tm, params := #[p], assign := as, body := bd, defers := D })) h.length (by simp [Gh.addC, hi.len])
    rwa [hrho] at this

/-- a block that only its number names is turned -/
theorem inv_lp_chg {k : Nat} {B B' : Blk} {ob ob' : Obj} (hi : Inv G w h) (hk : h[k]? = some B) (hB1 : B.own1 G k = some (G.rho k)) (hS : ∀ o, ¬ G.S (G.rho k) o) (hob : w.heap[G.rho k]? = some ob) (hn : B' = .gone ∨ B'.own1 G k = some (G.rho k))
    (hB : ∀ w', (∀ b o, G.S b o → w'.cell? ⟨b, o, none⟩ = w.cell? ⟨b, o, none⟩) → w'.heap[G.rho k]? = some ob' → Ext G.N G w G w' → BRel G w' k B') : Ext G.N G w G (w.putObj (G.rho k) ob') ∧ Inv G (w.putObj (G.rho k) ob') (h.set k B') := by
  have hlt := (Array.getElem?_eq_some_iff.1 hob).1
  have hZ : ¬ G.Z (G.rho k) := (hi.blk k B hk).notZ hB1
  have hoth : ∀ b, b ≠ G.rho k → (w.putObj (G.rho k) ob').heap[b]? = w.heap[b]? := fun b hb => World.putObj_heap_other hb
  have hcell : ∀ b o, G.S b o → (w.putObj (G.rho k) ob').cell? ⟨b, o, none⟩ = w.cell? ⟨b, o, none⟩ := fun b o hs => World.cell?_of_block (hoth b (fun e => hS o (e ▸ hs)))
  have hE : Ext G.N G w G (w.putObj (G.rho k) ob') := ⟨by simp, fun _ _ h => h, hcell, fun _ _ => rfl, fun _ _ => .inl ⟨rfl, rfl⟩, zsame rfl, fun b hb => hoth b (fun e => hZ (e ▸ hb)), rfl, rfl, rfl, fun _ _ h => .inl h⟩
  refine ⟨hE, ?_⟩
  have hkl := (List.getElem?_eq_some_iff.1 hk).1
  have hgn : (h.set k B')[k]? = some B' := by rw [List.getElem?_set_self hkl]
  have hget : ∀ m, m ≠ k → (h.set k B')[m]? = h[m]? := fun m hm => by rw [List.getElem?_set_ne (Ne.symm hm)]
  have hon : ownB h G k = some (G.rho k) := (ownB_of hk).trans hB1
  have hown : ∀ m b, ownB (h.set k B') G m = some b → ownB h G m = some b := fun m b hb => by
    by_cases e : m = k
    · subst e
      rw [ownB_of hgn] at hb
      rcases hn with rfl | hn
      · cases hb
      · rw [hn] at hb; cases hb; exact hon
    · unfold ownB at hb ⊢; rw [hget m e] at hb; exact hb
  refine ⟨by rw [List.length_set]; exact hi.len, fun b hb => Nat.lt_of_lt_of_le (hi.z b hb) hE.size, fun b o hs => Nat.lt_of_lt_of_le (hi.S b o hs) hE.size, fun m C hC => ?_, fun m m' b h1 h2 => hi.inj m m' b (hown m b h1) (hown m' b h2), hi.gl.keep hE⟩
  by_cases e : m = k
  · subst e
    rw [hgn] at hC
    cases hC
    exact hB _ hcell (World.putObj_heap_same hlt) hE
  · rw [hget m e] at hC
    have hne : ∀ b, ownB h G m = some b → b ≠ G.rho k := fun b hb eb => e (hi.inj m k b hb (by rw [eb]; exact hon))
    exact BRel.keep (hi.lt hC) hE (Nat.le_refl _) ⟨rfl, rfl, rfl⟩ (fun b hb => ⟨hoth b (hne _ ((ownB_of hC).trans hb)), fun o h => h⟩) (hi.blk m C hC)
/-- the record of a range over a function -/
theorem lp_rec {k : Nat} {ls : LS} {p : Nat} {as bd : Code} {cs : List AV} (hi : Inv G w h) (hk : h[k]? = some (.lp ls p as bd cs)) :
    (∀ o, ¬ G.S (G.rho k) o) ∧ ∃ (fn : FuncId) (tm : Array Value) (D : Nat), w.heap[G.rho k]? = some (.loop { state := ls.st, pending := ls.pd, fn := fn, tmps := tm, params := #[p], assign := as, body := bd, defers := D }) ∧ tm.size = cs.length ∧ (∀ (i : Nat) (u : Value) (c : AV), tm[i]? = some u → cs[i]? = some c → VRel G w u c) ∧
      ∀ (ls' : LS), Ext G.N G w G (w.putObj (G.rho k) (.loop { state := ls'.st, pending := ls'.pd, fn := fn, tmps := tm, params := #[p], assign := as, body := bd, defers := D })) ∧ Inv G (w.putObj (G.rho k) (.loop { state := ls'.st, pending := ls'.pd, fn := fn, tmps := tm, params := #[p], assign := as, body := bd, defers := D })) (h.set k (.lp ls' p as bd cs)) := by
  obtain ⟨h1, h2, fn, tm, D, h3, h4, h5⟩ := hi.blk k _ hk
  refine ⟨h2, fn, tm, D, h3, h4, h5, fun ls' => inv_lp_chg hi hk rfl h2 h3 (.inr rfl) fun w' hc hw' hE => ⟨h1, h2, fn, tm, D, hw', h4, fun i u c hu hc' => (h5 i u c hu hc').keep hE (Nat.le_refl _)⟩⟩
/-- it is over -/
theorem lp_gone {k : Nat} {ls : LS} {p : Nat} {as bd : Code} {cs : List AV} (hi : Inv G w h) (hk : h[k]? = some (.lp ls p as bd cs)) (ob : Obj) : Ext G.N G w G (w.putObj (G.rho k) ob) ∧ Inv G (w.putObj (G.rho k) ob) (h.set k .gone) := by
  obtain ⟨h1, h2, fn, tm, D, h3, h4, h5⟩ := hi.blk k _ hk
  exact inv_lp_chg hi hk rfl h2 h3 (.inl rfl) fun _ _ _ _ => trivial
/-- the block for deferred calls -/
theorem inv_mark (hi : Inv G w h) : Ext G.N G w { G with Z := fun b => G.Z b ∨ b = w.heap.size } (w.alloc (.deferred (some []))) ∧ Inv { G with Z := fun b => G.Z b ∨ b = w.heap.size } (w.alloc (.deferred (some []))) h := by
  have hE : Ext G.N G w { G with Z := fun b => G.Z b ∨ b = w.heap.size } (w.alloc (.deferred (some []))) :=
    ⟨by simp, fun _ _ h => h, fun b _ h => World.cell?_alloc_lt _ _ _ (hi.S _ _ h), fun _ _ => rfl, fun _ _ => .inl ⟨rfl, rfl⟩, ⟨⟨fun _ h => .inl h, fun b h => h.imp id fun e => Nat.le_of_eq e.symm⟩, rfl⟩, fun b hb => Below.heap_alloc w _ b (hi.z b hb), rfl, rfl, rfl, fun _ _ h => .inl h⟩
  refine ⟨hE, hi.len, fun b hb => ?_, fun b o hs => Nat.lt_of_lt_of_le (hi.S b o hs) hE.size, fun n B hB => ?_, fun m n b h1 h2 => hi.inj m n b (by rw [← ownB_zm (fun b => G.Z b ∨ b = w.heap.size) G.M]; exact h1) (by rw [← ownB_zm (fun b => G.Z b ∨ b = w.heap.size) G.M]; exact h2), hi.gl.keep hE⟩
  · rcases hb with hb | rfl
    · exact Nat.lt_of_lt_of_le (hi.z b hb) hE.size
    · simp
  · exact BRel.keep (hi.lt hB) hE (Nat.le_refl _) ⟨rfl, rfl, rfl⟩ (fun b hb => ⟨Below.heap_alloc w _ _ (hi.ownlt (n := n) ((ownB_of hB).trans hb)), fun o h => h⟩) (hi.blk n B hB)
end
end Go.Proofs.YtaiihhogoogkmaaGreatDoor
