/-
  A range over a function, in the small language: the iterator is called, the frame lies as a block meanwhile.
-/
import Derived.Test.YtaiihhogoogkmaaGreatDoorAbsWalk
namespace Go.Proofs.YtaiihhogoogkmaaGreatDoor
open Go.RowKit

def denseT (n : Nat) (t : List (Nat × AV)) : List AV := (List.range n).map (tget t)
theorem denseT_get {n : Nat} {t : List (Nat × AV)} {i : Nat} {c : AV} (h : (denseT n t)[i]? = some c) : tget t i = c := by
  unfold denseT at h
  rw [List.getElem?_map] at h
  by_cases hi : i < n
  · rw [List.getElem?_range hi] at h; exact Option.some.inj h
  · rw [List.getElem?_eq_none (by simpa using hi)] at h; cases h
/-- what follows when the iterator has returned -/
def rngK (P : Program) (N0 : Nat) (Q : Exit → St → Prop) (s : St) : LS → Prop
  | .ready => Q .normal s
  | .done c => AWp P none N0 c Q s
  | .busy => False
theorem aw_rangeFunc {P : Program} {N0 : Nat} {s : St} {Q : Exit → St → Prop} {g : Operand} {p : Nat} {assign body : Code} {gf : FuncId} {caps : List AV} {h1 : List Blk} {ls : LS} {p1 : Nat} {as1 bd1 : Code} {cs1 : List AV} (hg : ev s g = .fn gf caps)
    (hc : ACalls P gf (.yld s.h.length :: caps) (s.h ++ [.lp .ready p assign body (denseT s.n s.t)]) fun _ h' => h' = h1)
    (hk : h1[s.h.length]? = some (.lp ls p1 as1 bd1 cs1)) (hls : rngK P N0 Q ⟨s.n, s.t, h1.set s.h.length .gone⟩ ls) : AWp P none N0 (.rangeFunc g #[p] assign body) Q s := by
  constructor
  intro G w a n hs hN
  have hv := hs.ev g
  rw [hg] at hv
  obtain ⟨lb, ea, hl, hr⟩ : ∃ lb : Array Value, a.eval g = .func (.func gf) #[] lb ∧ lb.size = caps.length ∧ ∀ (i : Nat) (u : Value) (c : AV), lb[i]? = some u → caps[i]? = some c → VRel G w u c := by
    generalize a.eval g = u at hv
    cases hv with | fn _ vs _ hl hr => exact ⟨vs, rfl, hl, hr⟩
  obtain ⟨hent, hcall⟩ := hc
  refine wpIn_rangeFunc (F := WF none) ?_
  intro fn _
  obtain ⟨hE0, hI0⟩ := inv_mark hs.inv
  obtain ⟨G0, hG0⟩ : ∃ G0 : Gh, G0 = { G with Z := fun b => G.Z b ∨ b = w.heap.size } := ⟨_, rfl⟩
  obtain ⟨w0, hw0⟩ : ∃ w0, w0 = w.alloc (.deferred (some [])) := ⟨_, rfl⟩
  rw [← hG0, ← hw0] at hE0 hI0
  have hN0 : G0.N = G.N := by rw [hG0]
  have hsz : w0.heap.size = w.heap.size + 1 := by rw [hw0]; simp
  obtain ⟨hE1, hI1, hV1⟩ := inv_lp_alloc hI0 fn a.tmps w.heap.size p assign body (denseT s.n s.t) (by simp [denseT, hs.size]) fun i u c hu hc => by
    have h9 := hs.tmp i
    rw [denseT_get hc] at h9
    have e : a.tmps.getD i undef = u := by
      have hlt := (Array.getElem?_eq_some_iff.1 hu).1
      rw [Array.getElem?_eq_getElem hlt] at hu
      simp [Array.getD, hlt]; exact Option.some.inj hu
    rw [e] at h9
    exact h9.keep hE0 (Nat.le_of_eq hN0.symm)
  obtain ⟨w1, hw1⟩ : ∃ w1, w1 = w0.alloc (.loop { state := .ready, pending := none, fn := fn, tmps := a.tmps, params := #[p], assign := assign, body := body, defers := w.heap.size }) := ⟨_, rfl⟩
  obtain ⟨G1, hG1⟩ : ∃ G1 : Gh, G1 = G0.addC w0.heap.size := ⟨_, rfl⟩
  rw [← hw1, ← hG1] at hE1 hI1 hV1
  have hN1 : G1.N = G.N + 1 := by rw [hG1, ← hN0]; rfl
  have hrho1 : G1.rho s.h.length = w.heap.size + 1 := by rw [hG1, hs.inv.len, ← hN0]; simp [Gh.addC, hsz]
  rw [hsz] at hV1
  have hE01 : Ext G.N G w G1 w1 := hE0.trans (hE1.less (Nat.le_of_eq hN0.symm))
  refine ⟨w.heap.size + 1, [{ target := .collected w.heap.size, args := #[] }], w1, { target := .fn (.func gf) lb, args := #[.func (.yield (w.heap.size + 1)) #[] #[]] }, w1, gf, #[.func (.yield (w.heap.size + 1)) #[] #[]] ++ lb, w1, ?_, ?_, fun _ _ => trivial, ?_, fun h => (by simp [WF, Fence.wide] at h), ?_⟩
  · rw [hw1, hw0]; exact run_enterLoop_outer _ _ _ _ _
  · simp only [resolve, ea]
    simp [Deferred.ofValue, go_sem]
  · simp [invoke, run_enter hent]
  have hK := hcall G1 w1 (#[.func (.yield (w.heap.size + 1)) #[] #[]] ++ lb) hI1 (by simp [hl]; omega) (fun i u c hu hc => by
    match i with
    | 0 =>
      rw [Array.getElem?_append_left (by simp)] at hu
      simp at hu hc
      subst hu; subst hc; exact hV1
    | i + 1 =>
      rw [Array.getElem?_append_right (by simp)] at hu
      simp at hu hc
      exact (hr i u c hu hc).keep hE01 (by rw [hN1]; exact Nat.le_succ _))
  refine CallsIn.mono (F := WF none) (callsIn_wide (n := n - 1).2 hK) ?_
  rintro e w2 ⟨v, G2, r, h', rfl, hE2, hN2, hI2, _, rfl⟩
  have hkN : s.h.length < G1.N := by rw [hs.inv.len, hN1]; exact Nat.lt_succ_self _
  have hr2 : G2.rho s.h.length = w.heap.size + 1 := (hE2.rho _ hkN).trans hrho1
  obtain ⟨_, fn2, tm2, D2, g3, g4, g5, grec⟩ := lp_rec hI2 hk
  rw [hr2] at g3
  have hEa : Ext G.N G w G2 w2 := hE01.trans (hE2.less (by rw [hN1]; exact Nat.le_succ _))
  have hNa : G.N ≤ G2.N := by rw [hN1] at hN2; omega
  obtain ⟨ob, hob⟩ : ∃ ob : Obj, ob = .loop { state := .exhausted, pending := ls.pd, fn := fn2, tmps := tm2, params := #[p1], assign := as1, body := bd1, defers := D2 } := ⟨_, rfl⟩
  obtain ⟨zE, zI⟩ := lp_gone hI2 hk ob
  rw [hr2] at zE zI
  have hEb : Ext G.N G w G2 (w2.putObj (w.heap.size + 1) ob) := hEa.trans (zE.less hNa)
  have hM := hs.inv.gl.2
  have hD1 : G0.Z w.heap.size := by rw [hG0]; exact .inr rfl
  have hDZ : G2.Z w.heap.size := hE2.Z.1.1 _ (hE1.Z.1.1 _ hD1)
  have hDh : (w2.putObj (w.heap.size + 1) ob).heap[w.heap.size]? = some (.deferred (some [])) := by
    rw [zE.old _ hDZ, hE2.old _ (hE1.Z.1.1 _ hD1), hE1.old _ hD1, hw0]
    exact World.alloc_heap_new w _
  have hs' : Sat G2 (w2.putObj (w.heap.size + 1) ob) { a with defers := [{ target := .collected w.heap.size, args := #[] }] ++ a.defers } ⟨s.n, s.t, h'.set s.h.length .gone⟩ := by
    refine ⟨hs.size, fun i => (hs.tmp i).keep hEb hNa, zI, ?_⟩
    obtain ⟨l, l1, l2, l3⟩ := hs.df.keep hEb
    obtain ⟨l', l1', l2', l3'⟩ := hs.df
    have hll : l = l' := by
      rw [l2] at l2'
      have hinj : ∀ (x y : List Nat), x.map (fun D => ({ target := .collected D, args := #[] } : Deferred)) = y.map (fun D => { target := .collected D, args := #[] }) → x = y := by
        intro x
        induction x with
        | nil => intro y h; cases y with
          | nil => rfl
          | cons b y => simp at h
        | cons a x ih => intro y h; cases y with
          | nil => simp at h
          | cons b y => simp at h; rw [h.1, ih y (by simpa using h.2)]
      exact hinj _ _ l2'
    refine ⟨w.heap.size :: l, ?_, by rw [List.map_cons, ← l2]; rfl, fun D hD => ?_⟩
    · rw [List.nodup_cons]
      exact ⟨fun h => Nat.lt_irrefl _ (hs.inv.z _ (l3' _ (hll ▸ h)).2.1), l1⟩
    · rcases List.mem_cons.1 hD with rfl | hD
      · exact ⟨by rw [hEb.Z.2]; exact hM, hDZ, hDh⟩
      · exact l3 D hD
  subst hob
  have hend := fun hb => run_endLoop (P := P) g3 hb
  cases ls with
  | busy => exact hls.elim
  | ready =>
    refine ⟨_, _, hend (by simp [LS.st]), ?_⟩
    exact ⟨G2, _, hEb.less hN, Nat.le_trans hN hNa, hs', hls⟩
  | done c =>
    refine ⟨_, _, hend (by simp [LS.st]), ?_⟩
    refine wpIn_mono (hls.run G2 _ _ n (hs') (Nat.le_trans hN hNa)) fun _ _ _ hn => ?_
    exact hn.trans (hEb.less hN)
end Go.Proofs.YtaiihhogoogkmaaGreatDoor
