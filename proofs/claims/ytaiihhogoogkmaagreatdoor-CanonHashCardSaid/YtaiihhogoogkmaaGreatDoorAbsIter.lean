/-
  A range over a map of one key.
-/
import Derived.Test.YtaiihhogoogkmaaGreatDoorAbsZero
import Derived.Maps.RangeRun
namespace Go.Proofs.YtaiihhogoogkmaaGreatDoor
open Go.RowKit
theorem bif_sm {α : Type} {c : Bool} {x y : α} (h : (bif c then some x else none) = some y) : c = true ∧ x = y := by cases c <;> cases h; exact ⟨rfl, rfl⟩
section
variable {G : Gh} {w : World} {h : List Blk}
theorem inv_it_alloc (hi : Inv G w h) {b mb : Nat} (hr : VRel G w (.map (some b)) (.mp mb)) : Ext G.N G w (G.addC w.heap.size) (w.alloc (.mapIter (some b) 1 #[] 1)) ∧ Inv (G.addC w.heap.size) (w.alloc (.mapIter (some b) 1 #[] 1)) (h ++ [.it false [.mp mb]]) ∧ VRel (G.addC w.heap.size) (w.alloc (.mapIter (some b) 1 #[] 1)) (.pointer (some ⟨w.heap.size, 0, none⟩)) (.ptr h.length 0) := by
  have hE := ext_alloc G w hi.z hi.S (.mapIter (some b) 1 #[] 1)
  have hN : G.N ≤ (G.addC w.heap.size).N := Nat.le_succ _
  have hrho : (G.addC w.heap.size).rho h.length = w.heap.size := by simp [Gh.addC, hi.len]
  have hown1 : ∀ n (B : Blk), n < G.N → B.own1 (G.addC w.heap.size) n = B.own1 G n := fun n B hn => by
    cases B <;> simp [Blk.own1, Gh.addC, Nat.ne_of_lt hn]
  have hnew : ∀ n, n < G.N → ownB (h ++ [.it false [.mp mb]]) (G.addC w.heap.size) n = ownB h G n := fun n hn => by
    have hlt : n < h.length := by rw [hi.len]; exact hn
    unfold ownB
    rw [List.getElem?_append_left hlt, List.getElem?_eq_getElem hlt]
    exact hown1 n _ hn
  have hlast : ownB (h ++ [.it false [.mp mb]]) (G.addC w.heap.size) h.length = some w.heap.size := by
    rw [ownB_of (B := .it false [.mp mb]) (by simp)]; exact congrArg some hrho
  refine ⟨hE, ⟨by simp [Gh.addC, hi.len], fun b hb => Nat.lt_of_lt_of_le (hi.z b hb) hE.size, fun b o hs => Nat.lt_of_lt_of_le (hi.S b o hs) hE.size, fun n B hB => ?_, fun m n b hm hn => ?_, hi.gl.keep hE⟩, ?_⟩
  · by_cases hn : n < h.length
    · rw [List.getElem?_append_left hn] at hB
      have hn' : n < G.N := hi.len ▸ hn
      exact BRel.keep hn' hE hN ⟨rfl, rfl, rfl⟩ (fun b hb => ⟨Below.heap_alloc w _ _ (hi.ownlt (n := n) ((ownB_of hB).trans hb)), fun o h => h⟩) (hi.blk n B hB)
    · have hn2 : n = h.length := by
        have := (List.getElem?_eq_some_iff.1 hB).1
        simp at this; omega
      subst hn2
      simp at hB
      subst hB
      exact ⟨by rw [hrho]; exact fun hz => Nat.lt_irrefl _ (hi.z _ hz), fun o hs => by rw [hrho] at hs; exact Nat.lt_irrefl _ (hi.S _ _ hs), b, #[.map (some b)], (), by rw [hrho]; exact World.alloc_heap_new w _, ⟨rfl, rfl⟩, fun i u c hu hc => by
        match i with
        | 0 => cases hu; cases hc; exact hr.keep hE hN
        | i + 1 => simp at hu⟩
  · have key : ∀ n b, ownB (h ++ [.it false [.mp mb]]) (G.addC w.heap.size) n = some b → (n < G.N ∧ ownB h G n = some b) ∨ (n = h.length ∧ b = w.heap.size) := fun n b hn => by
      by_cases hlt : n < G.N
      · exact .inl ⟨hlt, by rw [← hnew n hlt]; exact hn⟩
      · by_cases e : n = h.length
        · subst e; rw [hlast] at hn; cases hn; exact .inr ⟨rfl, rfl⟩
        · rw [ownB_none (List.getElem?_eq_none (by simp; have := hi.len; omega))] at hn
          cases hn
    rcases key m b hm with ⟨_, hm'⟩ | ⟨rfl, rfl⟩ <;> rcases key n _ hn with ⟨_, hn'⟩ | ⟨rfl, hb⟩
    · exact hi.inj m n b hm' hn'
    · have := hi.ownlt hm'; omega
    · have := hi.ownlt hn'; omega
    · rfl
  · have := VRel.ptr (G := G.addC w.heap.size) (w := w.alloc (.mapIter (some b) 1 #[] 1)) h.length 0 (by simp [Gh.addC, hi.len])
    rwa [hrho] at this

/-- a map of one key -/
theorem map_one {mb : Nat} {s : ByteArray} {d : D} (hi : Inv G w h) (hb : h[mb]? = some (.map [(s, d)])) : ∃ e : MapEntry, w.heap[G.rho mb]? = some (.map #[e] 1) ∧ e.key = .string s ∧ PRel G.S w e.val d ∧ e.born = 0 := by
  obtain ⟨_, _, es, clock, hh, hm⟩ := hi.blk mb _ hb
  have hg : mget [(s, d)] s = some d := by simp [mget]
  obtain ⟨e, he, hk⟩ := hm.all s d hg
  have hl : es.toList = [e] := by
    have h1 := hm.len
    cases hq : es.toList with
    | nil => rw [hq] at he; cases he
    | cons x l =>
      have h2 : es.size = (x :: l).length := by rw [← hq]; simp
      have h3 : l = [] := by
        apply List.eq_nil_of_length_eq_zero
        simp at h1 h2; omega
      subst h3
      rw [hq] at he
      rw [List.mem_singleton.1 he]
  have he2 : es = #[e] := by rw [← Array.toList_inj]; exact hl
  subst he2
  have hc := hm.clk
  simp at hc
  subst hc
  obtain ⟨s', d', k1, k2, k3⟩ := hm.ent e he
  have hs : s' = s := by rw [hk] at k1; injection k1 with k1; exact k1.symm
  subst hs
  rw [hg] at k2
  cases k2
  exact ⟨e, hh, hk, k3, hm.born 0 e rfl⟩
theorem it_spec {n mb : Nat} {sn : Bool} (hi : Inv G w h) (hb : h[n]? = some (.it sn [.mp mb])) : (∀ o, ¬ G.S (G.rho n) o) ∧ w.heap[G.rho n]? = some (.mapIter (some (G.rho mb)) 1 (if sn then #[0] else #[]) 1) ∧ VRel G w (.map (some (G.rho mb))) (.mp mb) := by
  obtain ⟨h1, h2, fn, vs, _, h3, ⟨_, h4⟩, h5⟩ := hi.blk n _ hb
  have := h5 0 (.map (some fn)) (.mp mb) (by rw [h4]; rfl) rfl
  cases this with
  | mp _ hlt => exact ⟨h2, h3, .mp mb hlt⟩
theorem inv_drew (hi : Inv G w h) : Ext G.N G w G w.drew ∧ Inv G w.drew h := by
  have hE : Ext G.N G w G w.drew := ⟨Nat.le_refl _, fun _ _ h => h, fun _ _ _ => rfl, fun _ _ => rfl, fun _ _ => .inl ⟨rfl, rfl⟩, zsame rfl, fun _ _ => rfl, rfl, rfl, rfl, fun _ _ h => .inl h⟩
  exact ⟨hE, hi.len, hi.z, hi.S, fun n B hB => BRel.keep (hi.lt hB) hE (Nat.le_refl _) ⟨rfl, rfl, rfl⟩ (fun _ _ => ⟨rfl, fun _ h => h⟩) (hi.blk n B hB), hi.inj, hi.gl.keep hE⟩
end
def opR (P : Program) (lo : Nat) (op : Op) (ρ : Operand → AV) (h : List Blk) : Option (AV × List Blk) :=
  match op with
  | .range T m => match mapT P T, ρ m with
    | some _, .mp mb => match h[mb]? with
      | some (.map [_]) => some (.ptr h.length 0, h ++ [.it false [.mp mb]])
      | _ => none
    | _, _ => none
  | .next it false => match ρ it with
    | .ptr n 0 => match h[n]? with
      | some (.it sn [.mp mb]) => match h[mb]? with
        | some (.map [(s, d)]) => match sn with
          | true => some (.tup [.d (.v (.bool false))], h)
          | false => bif leB lo n then some (.tup [.d (.v (.bool true)), .d (.v (.string s)), .d d], h.set n (.it true [.mp mb])) else none
        | _ => none
      | _ => none
    | _ => none
  | .entry it => match ρ it with
    | .ptr n 0 => match h[n]? with
      | some (.it true [.mp mb]) => match h[mb]? with
        | some (.map [(s, d)]) => some (.tup [.d (.v (.string s)), .d d], h)
        | _ => none
      | _ => none
    | _ => none
  | _ => none
section
variable {P : Program} {r : Option Nat} {n N0 : Nat} {G : Gh} {w : World} {a : Act} {s : St} {o : Oper} {K : St → Prop} {Q : Exit → Act → World → Prop}
theorem opR_sound {x : AV} {h' : List Blk} {lo : Nat} (hs : Sat G w a s) (hN0 : N0 ≤ G.N) (hx : opR P lo o.op (ev s) s.h = some (x, h')) (hK : K ((s.wh h').put o.dst x)) : o.wpIn (WF r) n P a w (NxT N0 G w K) Q := by
  have hev := hs.ev
  have ptr : ∀ {y : Operand} {n : Nat}, ev s y = .ptr n 0 → a.eval y = .pointer (some ⟨G.rho n, 0, none⟩) := fun {y n} h => by
    have := hev y
    rw [h] at this
    generalize a.eval y = u at this
    cases this; rfl
  unfold opR at hx
  split at hx
  next T m ho =>
    split at hx
    · next ke mb e1 e2 =>
      split at hx
      · next p hb =>
        cases hx
        obtain ⟨s0, d⟩ := p
        obtain ⟨e, h1, h2, h3, h4⟩ := map_one hs.inv hb
        have hv := hev m
        rw [e2] at hv
        have ea : a.eval m = .map (some (G.rho mb)) := by
          generalize a.eval m = u at hv
          cases hv; rfl
        rw [ea] at hv
        obtain ⟨i1, i2, i3⟩ := inv_it_alloc hs.inv hv
        obtain ⟨k0, el⟩ := ke
        refine fin_val (by rw [ho]; simp) hs hN0 (v := .pointer (some ⟨w.heap.size, 0, none⟩)) (w' := w.alloc (.mapIter (some (G.rho mb)) 1 #[] 1)) ?_ i1 (Nat.le_succ _) i2 i3 hK
        unfold execOp
        simp [ho, ea, Instr.range, run_underlying (mapT_spec e1), MapKept.run_getObj_map h1, Result.andThen]
      · cases hx
    · cases hx
  next it ho =>
    split at hx
    · next m e1 =>
      split at hx
      · next sn mb hn =>
        split at hx
        · next s0 d hb =>
          obtain ⟨e, h1, h2, h3, h4⟩ := map_one hs.inv hb
          obtain ⟨t1, t2, t3⟩ := it_spec hs.inv hn
          have hr := run_next_at (P := P) w o.type _ _ _ _ _ _ _ t2 h1 (fun x hx => by simp at hx; subst hx; rw [h4]; exact Nat.one_pos) (Nat.le_refl 1)
          split at hx
          · cases hx
            rcases hr with ⟨_, hr⟩ | ⟨e', he', _⟩
            · refine fin_same (by rw [ho]; simp) hs hN0 (v := .tuple #[.bool false]) ?_ (.tup _ _ rfl fun i u c hu hc => ?_) hK
              · unfold execOp
                simp [ho, ptr e1, hr]
              · match i with
                | 0 => cases hu; cases hc; exact .d (.v _)
                | i + 1 => simp at hu
            · exfalso
              simp [leftOf, h4] at he'
          · have hx := (congrArg some (bif_sm hx).2)
            cases hx
            rcases hr with ⟨h0, _⟩ | ⟨e', he', w1, hw1, hr⟩
            · exfalso
              simp [leftOf] at h0
            · have hee : e' = e := by simpa [leftOf] using he'
              subst hee
              obtain ⟨hE1, hI1⟩ : Ext G.N G w G w1 ∧ Inv G w1 s.h := by
                rcases hw1 with rfl | rfl
                · exact ⟨Ext.refl _ _ _, hs.inv⟩
                · exact inv_drew hs.inv
              obtain ⟨t1', t2', _⟩ := it_spec hI1 hn
              obtain ⟨z1, z2, z3, z4, z5, z6, z7⟩ := hI1.blk m _ hn
              obtain ⟨hE2, hI2⟩ := inv_lp_chg (B' := .it true [.mp mb]) (ob' := .mapIter (some (G.rho mb)) 1 #[0] 1) hI1 hn rfl t1' t2' (.inr rfl) fun w' hc hw' hE => by
                have hvv := (it_spec hI1 hn).2.2
                exact ⟨z1, z2, G.rho mb, #[.map (some (G.rho mb))], (), hw', ⟨rfl, rfl⟩, fun i u c hu hc => by
                  match i with
                  | 0 => cases hu; cases hc; exact hvv.keep hE (Nat.le_refl _)
                  | i + 1 => simp at hu⟩
              refine fin_val (by rw [ho]; simp) hs hN0 (v := .tuple #[.bool true, e'.key, e'.val]) ?_ (hE1.trans hE2) (Nat.le_refl _) hI2 (.tup _ _ rfl fun i u c hu hc => ?_) hK
              · unfold execOp
                simp only [ho, ptr e1]
                rw [h4] at hr
                simp [hr]
                rfl
              · match i with
                | 0 => cases hu; cases hc; exact .d (.v _)
                | 1 => cases hu; cases hc; rw [h2]; exact .d (.v _)
                | 2 => cases hu; cases hc; exact .d (h3.keep (hE1.trans hE2).S (hE1.trans hE2).cell)
                | i + 3 => simp at hu
        · cases hx
      · cases hx
    · cases hx
  next it ho =>
    split at hx
    · next m e1 =>
      split at hx
      · next mb hn =>
        split at hx
        · next s0 d hb =>
          cases hx
          obtain ⟨e, h1, h2, h3, h4⟩ := map_one hs.inv hb
          obtain ⟨t1, t2, t3⟩ := it_spec hs.inv hn
          have hr := run_entry_at (P := P) w _ _ _ #[] _ _ e (by rw [h4]; exact t2) h1 (by simp) (by simp)
          refine fin_same (by rw [ho]; simp) hs hN0 (v := .tuple #[e.key, e.val]) ?_ (.tup _ _ rfl fun i u c hu hc => ?_) hK
          · unfold execOp
            simp [ho, ptr e1, hr]
          · match i with
            | 0 => cases hu; cases hc; rw [h2]; exact .d (.v _)
            | 1 => cases hu; cases hc; exact .d h3
            | i + 2 => simp at hu
        · cases hx
      · cases hx
    · cases hx
  next => cases hx
end
end Go.Proofs.YtaiihhogoogkmaaGreatDoor
