/-
  A variable that is written no more: what lies in it becomes plain data, and whoever points to it points to plain data.
-/
import Derived.Test.YtaiihhogoogkmaaGreatDoorAbsRun
namespace Go.Proofs.YtaiihhogoogkmaaGreatDoor
open Go.RowKit
mutual
def AV.frz (b : Nat) (ds : List D) : AV → AV
  | .ptr n off => bif n == b then .elt [ds] 0 off else .ptr n off
  | .agg cs => .agg (AV.frzL b ds cs)
  | .tup cs => .tup (AV.frzL b ds cs)
  | .fn f cs => .fn f (AV.frzL b ds cs)
  | x => x
def AV.frzL (b : Nat) (ds : List D) : List AV → List AV
  | [] => []
  | x :: l => x.frz b ds :: AV.frzL b ds l
end
theorem frzL_eq (b : Nat) (ds : List D) : ∀ l, AV.frzL b ds l = l.map (AV.frz b ds)
  | [] => by simp [AV.frzL]
  | x :: l => by simp [AV.frzL, frzL_eq b ds l]
def Blk.frz (b : Nat) (ds : List D) : Blk → Blk
  | .cells cs => .cells (cs.map (AV.frz b ds))
  | .lp ls p as bd cs => .lp ls p as bd (cs.map (AV.frz b ds))
  | .it sn cs => .it sn (cs.map (AV.frz b ds))
  | .vec e k cs => .vec e k (cs.map (·.map (AV.frz b ds)))
  | B => B
def frzS (s : St) (b : Nat) : Option St :=
  match s.h[b]? with
  | some (.cells cs) => match allD cs with
    | some ds => some ⟨s.n, s.t.map fun p => (p.1, p.2.frz b ds), (s.h.map (Blk.frz b ds)).set b .gone⟩
    | none => none
  | _ => none
theorem tget_mapv (f : AV → AV) (hf : f .dead = .dead) : ∀ (t : List (Nat × AV)) (i : Nat), tget (t.map fun p => (p.1, f p.2)) i = f (tget t i)
  | [], i => by simp [tget, hf]
  | (k, x) :: l, i => by
    simp only [List.map_cons, tget_cons, tget_mapv f hf l i]
    split <;> rfl
theorem VRel.frz {G G' : Gh} {w : World} {b : Nat} {ds : List D} (hE : Ext G.N G w G' w) (hN : G'.N = G.N) (hp : ∀ off, VRel G' w (.pointer (some ⟨G.rho b, off, none⟩)) (.elt [ds] 0 off)) {u : Value} {x : AV} (h : VRel G w u x) : VRel G' w u (x.frz b ds) := by
  have keep : ∀ {u : Value} {x : AV}, VRel G w u x → VRel G' w u x := fun h => h.keep hE (Nat.le_of_eq hN.symm)
  have lst : ∀ (vs : Array Value) (cs : List AV), (∀ (i : Nat) (u : Value) (c : AV), vs[i]? = some u → cs[i]? = some c → VRel G' w u (c.frz b ds)) → ∀ (i : Nat) (u : Value) (c : AV), vs[i]? = some u → (AV.frzL b ds cs)[i]? = some c → VRel G' w u c := by
    intro vs cs ih i u c hu hc
    rw [frzL_eq, List.getElem?_map] at hc
    cases hx : cs[i]? with
    | none => rw [hx] at hc; cases hc
    | some x => rw [hx] at hc; cases hc; exact ih i u x hu hx
  induction h with
  | agg vs cs hl _ ih => rw [AV.frz]; exact .agg vs _ (by rw [frzL_eq, List.length_map]; exact hl) (lst vs cs ih)
  | tup vs cs hl _ ih => rw [AV.frz]; exact .tup vs _ (by rw [frzL_eq, List.length_map]; exact hl) (lst vs cs ih)
  | fn f vs cs hl _ ih => rw [AV.frz]; exact .fn f vs _ (by rw [frzL_eq, List.length_map]; exact hl) (lst vs cs ih)
  | ptr n off h =>
    rw [AV.frz, cond_eq_ite]
    split
    · next e => rw [beq_iff_eq] at e; subst e; exact hp off
    · exact keep (.ptr n off h)
  | own n xs h hp hle hf => simp only [AV.frz]; exact keep (.own n xs h hp hle hf)
  | d h => simp only [AV.frz]; exact keep (.d h)
  | elt xs i off b o u x hx hS hu => simp only [AV.frz]; exact keep (.elt xs i off b o u x hx hS hu)
  | full xs hp hf => simp only [AV.frz]; exact keep (.full xs hp hf)
  | row n off len cap k h hl hm => simp only [AV.frz]; exact keep (.row n off len cap k h hl hm)
  | mp n h => simp only [AV.frz]; exact keep (.mp n h)
  | yld n h => simp only [AV.frz]; exact keep (.yld n h)
  | vec n o len L k h hs hL hf => simp only [AV.frz]; exact keep (.vec n o len L k h hs hL hf)
  | vptr n i j L k h hs hL hf => simp only [AV.frz]; exact keep (.vptr n i j L k h hs hL hf)
  | hid h h1 => simp only [AV.frz]; exact keep (.hid h h1)
  | dead u => simp only [AV.frz]; exact .dead u
theorem allD_get : ∀ (cs : List AV) (ds : List D), allD cs = some ds → cs.length = ds.length ∧ ∀ (i : Nat) (c : AV) (d : D), cs[i]? = some c → ds[i]? = some d → c.toD? = some d
  | [], ds, h => by unfold allD at h; cases h; exact ⟨rfl, fun i c d hc => by simp at hc⟩
  | x :: cs, ds, h => by
    unfold allD at h
    split at h
    · next d l e1 e2 =>
      cases h
      obtain ⟨h1, h2⟩ := allD_get cs l e2
      refine ⟨by simp [h1], fun i c d' hc hd => ?_⟩
      match i with
      | 0 => simp only [List.getElem?_cons_zero, Option.some.injEq] at hc hd; subst hc; subst hd; exact e1
      | i + 1 => exact h2 i c d' (by simpa using hc) (by simpa using hd)
    · cases h
theorem VRel.toD2 {G : Gh} {w : World} {u : Value} {x : AV} {d : D} (h : VRel G w u x) (hd : x.toD? = some d) : PRel G.S w u d := by
  cases h with
  | d h => cases hd; exact h.nrm1
  | own n xs h hp => cases hd; exact hp
  | full xs hp => cases hd; exact hp
  | _ => cases hd
theorem Sat.frzS {G : Gh} {w : World} {a : Act} {s s' : St} {b : Nat} (hs : Sat G w a s) (h : frzS s b = some s') : ∃ G', Ext G.N G w G' w ∧ G'.N = G.N ∧ Sat G' w a s' := by
  unfold Go.Proofs.YtaiihhogoogkmaaGreatDoor.frzS at h
  split at h
  · next cs hb =>
    split at h
    · next ds hds =>
      cases h
      obtain ⟨z1, z2, vs, T, z3, z4, z5⟩ := hs.inv.blk b _ hb
      obtain ⟨d1, d2⟩ := allD_get cs ds hds
      have hob : ownB s.h G b = some (G.rho b) := ownB_of hb
      obtain ⟨S, hS⟩ : ∃ S : Nat → Nat → Prop, S = fun b' o => G.S b' o ∨ (b' = G.rho b ∧ o < ds.length) := ⟨_, rfl⟩
      have hE : Ext G.N G w { G with S := S } w := ⟨Nat.le_refl _, fun b o h => by show S b o; rw [hS]; exact .inl h, fun _ _ _ => rfl, fun _ _ => rfl, fun _ _ => .inl ⟨rfl, rfl⟩, zsame rfl, fun _ _ => rfl, rfl, rfl, rfl, fun b' o hs => by
        have hs' : S b' o := hs
        rw [hS] at hs'
        rcases hs' with h | ⟨rfl, _⟩
        · exact .inl h
        · exact .inr z1⟩
      have hp : ∀ off, VRel { G with S := S } w (.pointer (some ⟨G.rho b, off, none⟩)) (.elt [ds] 0 off) := fun off => by
        have := VRel.elt (G := { G with S := S }) (w := w) [ds] 0 off (G.rho b) 0 (fun j => vs.getD j undef) ds rfl (fun j hj => ?_) (fun j d hd => ?_)
        · rwa [Nat.zero_add] at this
        · have hj' : j < vs.size := by rw [z4, d1]; exact hj
          refine ⟨by show S _ _; rw [hS]; exact .inr ⟨rfl, by rw [Nat.zero_add]; exact hj⟩, ?_⟩
          rw [Nat.zero_add, cell_of_row w (G.rho b) j vs T (0, 0) z3]
          simp [Array.getD, hj']
        · have hj : j < ds.length := (List.getElem?_eq_some_iff.1 hd).1
          have hj' : j < vs.size := by rw [z4, d1]; exact hj
          have hc : cs[j]? = some cs[j] := List.getElem?_eq_getElem (by rw [d1]; exact hj)
          have hv := z5 j vs[j] _ (Array.getElem?_eq_getElem hj') hc
          have e : vs.getD j undef = vs[j] := by simp [Array.getD, hj']
          rw [e]
          exact (hv.toD2 (d2 j _ d hc hd)).keep hE.S hE.cell
      have hv : ∀ {u : Value} {x : AV}, VRel G w u x → VRel { G with S := S } w u (x.frz b ds) := fun h => h.frz hE rfl hp
      have hblen := (List.getElem?_eq_some_iff.1 hb).1
      have hget : ∀ (n : Nat) (B : Blk), ((s.h.map (Blk.frz b ds)).set b .gone)[n]? = some B → (n = b ∧ B = .gone) ∨ (n ≠ b ∧ ∃ B', s.h[n]? = some B' ∧ B = B'.frz b ds) := fun n B hB => by
        by_cases e : b = n
        · subst e
          rw [List.getElem?_set_self (by rw [List.length_map]; exact hblen)] at hB
          cases hB; exact .inl ⟨rfl, rfl⟩
        · rw [List.getElem?_set_ne e, List.getElem?_map] at hB
          cases hx : s.h[n]? with
          | none => rw [hx] at hB; cases hB
          | some B' => rw [hx] at hB; cases hB; exact .inr ⟨fun h => e h.symm, B', rfl, rfl⟩
      have hown : ∀ n x, ownB ((s.h.map (Blk.frz b ds)).set b .gone) { G with S := S } n = some x → n ≠ b ∧ ownB s.h G n = some x := fun n x hx => by
        obtain ⟨B, hn, hx⟩ := ownB_some hx
        rcases hget n _ hn with ⟨_, e⟩ | ⟨hne, B', h1, rfl⟩
        · subst e; cases hx
        · refine ⟨hne, ?_⟩
          rw [ownB_of h1, ← hx]
          cases B' <;> rfl
      refine ⟨{ G with S := S }, hE, rfl, hs.size, fun i => ?_, ⟨by rw [List.length_set, List.length_map]; exact hs.inv.len, hs.inv.z, fun b' o h => ?_, fun n B hB => ?_, fun m n x h1 h2 => hs.inv.inj m n x (hown m x h1).2 (hown n x h2).2, hs.inv.gl.keep hE⟩, hs.df⟩
      · show VRel _ _ _ (tget (s.t.map fun p => (p.1, p.2.frz b ds)) i)
        rw [tget_mapv (AV.frz b ds) (by simp [AV.frz])]
        exact hv (hs.tmp i)
      · have hs' : S b' o := h
        rw [hS] at hs'
        rcases hs' with h | ⟨rfl, _⟩
        · exact hs.inv.S b' o h
        · exact (Array.getElem?_eq_some_iff.1 z3).1
      · rcases hget n B hB with ⟨rfl, rfl⟩ | ⟨hne, B', h1, rfl⟩
        · trivial
        · have hB' := hs.inv.blk n B' h1
          cases B' with
          | gone => trivial
          | map kv => exact BRel.keep (G' := { G with S := S }) (hs.inv.lt h1) hE (Nat.le_refl _) ⟨rfl, rfl, rfl⟩ (fun c hc => ⟨rfl, fun o hns hq => by
              have hs' : S c o := hq
              rw [hS] at hs'
              rcases hs' with h | ⟨e, _⟩
              · exact hns h
              · exact hne (hs.inv.inj n b _ ((ownB_of h1).trans hc) (by rw [e]; exact hob))⟩) hB'
          | front e k len => exact BRel.keep (G' := { G with S := S }) (hs.inv.lt h1) hE (Nat.le_refl _) ⟨rfl, rfl, rfl⟩ (fun c hc => ⟨rfl, fun o hns hq => by
              have hs' : S c o := hq
              rw [hS] at hs'
              rcases hs' with h | ⟨e, _⟩
              · exact hns h
              · exact hne (hs.inv.inj n b _ ((ownB_of h1).trans hc) (by rw [e]; exact hob))⟩) hB'
          | cells cs' =>
            obtain ⟨c1, c2, vs', T', c3, c4, c5⟩ := hB'
            have hon : ownB s.h G n = some (G.rho n) := ownB_of h1
            refine ⟨c1, fun o hq => ?_, vs', T', c3, by rw [List.length_map]; exact c4, fun i u c hu hc => ?_⟩
            · have hs' : S (G.rho n) o := hq
              rw [hS] at hs'
              rcases hs' with h | ⟨e, _⟩
              · exact c2 o h
              · exact hne (hs.inv.inj n b _ hon (by rw [e]; exact hob))
            · rw [List.getElem?_map] at hc
              cases hx : cs'[i]? with
              | none => rw [hx] at hc; cases hc
              | some x => rw [hx] at hc; cases hc; exact hv (c5 i u x hu hx)
          | lp ls p as bd cs' =>
            obtain ⟨c1, c2, fn, vs', T', c3, c4, c5⟩ := hB'
            have hon : ownB s.h G n = some (G.rho n) := ownB_of h1
            refine ⟨c1, fun o hq => ?_, fn, vs', T', c3, by rw [List.length_map]; exact c4, fun i u c hu hc => ?_⟩
            · have hs' : S (G.rho n) o := hq
              rw [hS] at hs'
              rcases hs' with h | ⟨e, _⟩
              · exact c2 o h
              · exact hne (hs.inv.inj n b _ hon (by rw [e]; exact hob))
            · rw [List.getElem?_map] at hc
              cases hx : cs'[i]? with
              | none => rw [hx] at hc; cases hc
              | some x => rw [hx] at hc; cases hc; exact hv (c5 i u x hu hx)
          | it sn cs' =>
            obtain ⟨c1, c2, fn, vs', T', c3, c4, c5⟩ := hB'
            have hon : ownB s.h G n = some (G.rho n) := ownB_of h1
            refine ⟨c1, fun o hq => ?_, fn, vs', T', c3, by rw [List.length_map]; exact c4, fun i u c hu hc => ?_⟩
            · have hs' : S (G.rho n) o := hq
              rw [hS] at hs'
              rcases hs' with h | ⟨e, _⟩
              · exact c2 o h
              · exact hne (hs.inv.inj n b _ hon (by rw [e]; exact hob))
            · rw [List.getElem?_map] at hc
              cases hx : cs'[i]? with
              | none => rw [hx] at hc; cases hc
              | some x => rw [hx] at hc; cases hc; exact hv (c5 i u x hu hx)
          | vec e k cs' =>
            obtain ⟨c1, c2, c3, c4⟩ := hB'
            refine ⟨by rw [List.length_map]; exact c1, by rw [List.length_map]; exact c2, fun c hc => ?_, ?_⟩
            · obtain ⟨x, hx, rfl⟩ := List.mem_map.1 hc
              rw [List.length_map]; exact c3 x hx
            · rcases c4 with ⟨d1, d2, A, d3⟩ | ⟨g, cap, cur, d1, d2, d3, d4, d5, d6, d7, d8, d9⟩
              · exact .inl ⟨d1, by rw [d2]; rfl, A, d3⟩
              · have hon : ownB s.h G n = some g := (ownB_of h1).trans d1
                refine .inr ⟨g, cap, cur, d1, by rw [List.length_map]; exact d2, d3, d4, by rw [List.length_map]; exact d5, d6, d7, fun o hq => ?_, fun i j c x u hc hx hu => ?_⟩
                · have hs' : S g o := hq
                  rw [hS] at hs'
                  rcases hs' with h | ⟨e, _⟩
                  · exact d8 o h
                  · exact hne (hs.inv.inj n b _ hon (by rw [e]; exact hob))
                · rw [List.getElem?_map] at hc
                  cases hy : cs'[i]? with
                  | none => rw [hy] at hc; cases hc
                  | some y =>
                    rw [hy] at hc
                    cases hc
                    rw [List.getElem?_map] at hx
                    cases hw : y[j]? with
                    | none => rw [hw] at hx; cases hx
                    | some z => rw [hw] at hx; cases hx; exact hv (d9 i j y z u hy hw hu)
    · cases h
  · cases h
/-- THE RULE -/
theorem aw_frz {P : Program} {r : Option Nat} {N0 : Nat} {c : Code} {s s' : St} {Q : Exit → St → Prop} (b : Nat) (e : frzS s b = some s') (h : AWp P r N0 c Q s') : AWp P r N0 c Q s := by
  constructor
  intro G w a n hs hN
  obtain ⟨G', hE, hN', hs'⟩ := hs.frzS e
  exact wpIn_mono (h.run G' w a n hs' (by rw [hN']; exact hN)) fun _ _ _ hn => hn.trans (hE.less hN)
/-! ### a slice that is written no more -/
def D.oneB : D → Bool
  | .v u => u.oneCell'
  | .sl _ => true
mutual
def AV.kill (b : Nat) : AV → AV
  | .vec n o len L k => bif n == b then .dead else .vec n o len L k
  | .vptr n i j L k => bif n == b then .dead else .vptr n i j L k
  | .agg cs => .agg (AV.killL b cs)
  | .tup cs => .tup (AV.killL b cs)
  | .fn f cs => .fn f (AV.killL b cs)
  | x => x
def AV.killL (b : Nat) : List AV → List AV
  | [] => []
  | x :: l => x.kill b :: AV.killL b l
end
theorem killL_eq (b : Nat) : ∀ l, AV.killL b l = l.map (AV.kill b)
  | [] => by simp [AV.killL]
  | x :: l => by simp [AV.killL, killL_eq b l]
def Blk.mapV (f : AV → AV) : Blk → Blk
  | .cells cs => .cells (cs.map f)
  | .lp ls p as bd cs => .lp ls p as bd (cs.map f)
  | .it sn cs => .it sn (cs.map f)
  | .vec e k cs => .vec e k (cs.map (·.map f))
  | B => B
theorem VRel.kill {G G' : Gh} {w : World} {b : Nat} (hE : Ext G.N G w G' w) (hN : G'.N = G.N) {u : Value} {x : AV} (h : VRel G w u x) : VRel G' w u (x.kill b) := by
  have keep : ∀ {u : Value} {x : AV}, VRel G w u x → VRel G' w u x := fun h => h.keep hE (Nat.le_of_eq hN.symm)
  have lst : ∀ (vs : Array Value) (cs : List AV), (∀ (i : Nat) (u : Value) (c : AV), vs[i]? = some u → cs[i]? = some c → VRel G' w u (c.kill b)) → ∀ (i : Nat) (u : Value) (c : AV), vs[i]? = some u → (AV.killL b cs)[i]? = some c → VRel G' w u c := by
    intro vs cs ih i u c hu hc
    rw [killL_eq, List.getElem?_map] at hc
    cases hx : cs[i]? with
    | none => rw [hx] at hc; cases hc
    | some x => rw [hx] at hc; cases hc; exact ih i u x hu hx
  induction h with
  | agg vs cs hl _ ih => rw [AV.kill]; exact .agg vs _ (by rw [killL_eq, List.length_map]; exact hl) (lst vs cs ih)
  | tup vs cs hl _ ih => rw [AV.kill]; exact .tup vs _ (by rw [killL_eq, List.length_map]; exact hl) (lst vs cs ih)
  | fn f vs cs hl _ ih => rw [AV.kill]; exact .fn f vs _ (by rw [killL_eq, List.length_map]; exact hl) (lst vs cs ih)
  | vec n o len L k h hs hL hf =>
    rw [AV.kill, cond_eq_ite]
    split
    · exact .dead _
    · exact keep (.vec n o len L k h hs hL hf)
  | vptr n i j L k h hs hL hf =>
    rw [AV.kill, cond_eq_ite]
    split
    · exact .dead _
    · exact keep (.vptr n i j L k h hs hL hf)
  | ptr n off h => simp only [AV.kill]; exact keep (.ptr n off h)
  | own n xs h hp hle hf => simp only [AV.kill]; exact keep (.own n xs h hp hle hf)
  | d h => simp only [AV.kill]; exact keep (.d h)
  | elt xs i off b o u x hx hS hu => simp only [AV.kill]; exact keep (.elt xs i off b o u x hx hS hu)
  | full xs hp hf => simp only [AV.kill]; exact keep (.full xs hp hf)
  | row n off len cap k h hl hm => simp only [AV.kill]; exact keep (.row n off len cap k h hl hm)
  | mp n h => simp only [AV.kill]; exact keep (.mp n h)
  | yld n h => simp only [AV.kill]; exact keep (.yld n h)
  | hid h h1 => simp only [AV.kill]; exact keep (.hid h h1)
  | dead u => simp only [AV.kill]; exact .dead u
/-- a block becomes plain data -/
theorem inv_drop {G : Gh} {w : World} {h : List Blk} (hi : Inv G w h) {b : Nat} {S : Nat → Nat → Prop} {f : AV → AV} (hE : Ext G.N G w { G with S := S } w) (hS : ∀ c o, S c o → G.S c o ∨ ownB h G b = some c) (hv : ∀ {u : Value} {x : AV}, VRel G w u x → VRel { G with S := S } w u (f x)) :
    Inv { G with S := S } w ((h.map (Blk.mapV f)).set b .gone) := by
  have hget : ∀ (n : Nat) (B : Blk), ((h.map (Blk.mapV f)).set b .gone)[n]? = some B → (n = b ∧ B = .gone) ∨ (n ≠ b ∧ ∃ B', h[n]? = some B' ∧ B = B'.mapV f) := fun n B hB => by
    by_cases e : b = n
    · subst e
      have hlt := (List.getElem?_eq_some_iff.1 hB).1
      rw [List.length_set] at hlt
      rw [List.getElem?_set_self hlt] at hB
      cases hB; exact .inl ⟨rfl, rfl⟩
    · rw [List.getElem?_set_ne e, List.getElem?_map] at hB
      cases hx : h[n]? with
      | none => rw [hx] at hB; cases hB
      | some B' => rw [hx] at hB; cases hB; exact .inr ⟨fun h => e h.symm, B', rfl, rfl⟩
  have hown : ∀ n x, ownB ((h.map (Blk.mapV f)).set b .gone) { G with S := S } n = some x → n ≠ b ∧ ownB h G n = some x := fun n x hx => by
    obtain ⟨B, hn, hx⟩ := ownB_some hx
    rcases hget n _ hn with ⟨_, e⟩ | ⟨hne, B', h1, rfl⟩
    · subst e; cases hx
    · refine ⟨hne, ?_⟩
      rw [ownB_of h1, ← hx]
      cases B' <;> rfl
  refine ⟨by rw [List.length_set, List.length_map]; exact hi.len, hi.z, fun c o hs => ?_, fun n B hB => ?_, fun m n x h1 h2 => hi.inj m n x (hown m x h1).2 (hown n x h2).2, hi.gl.keep hE⟩
  · rcases hS c o hs with h1 | h1
    · exact hi.S c o h1
    · exact hi.ownlt h1
  · rcases hget n B hB with ⟨rfl, rfl⟩ | ⟨hne, B', h1, rfl⟩
    · trivial
    · have hB' := hi.blk n B' h1
      have hnew : ∀ c, B'.own1 G n = some c → ∀ o, ¬ G.S c o → ¬ S c o := fun c hc o hns hq => by
        rcases hS c o hq with h2 | h2
        · exact hns h2
        · exact hne (hi.inj n b c ((ownB_of h1).trans hc) h2)
      cases B' with
      | gone => trivial
      | map kv => exact BRel.keep (G' := { G with S := S }) (hi.lt h1) hE (Nat.le_refl _) ⟨rfl, rfl, rfl⟩ (fun c hc => ⟨rfl, hnew c hc⟩) hB'
      | front e k len => exact BRel.keep (G' := { G with S := S }) (hi.lt h1) hE (Nat.le_refl _) ⟨rfl, rfl, rfl⟩ (fun c hc => ⟨rfl, hnew c hc⟩) hB'
      | cells cs' =>
        obtain ⟨c1, c2, vs', T', c3, c4, c5⟩ := hB'
        refine ⟨c1, fun o => hnew _ rfl o (c2 o), vs', T', c3, by rw [List.length_map]; exact c4, fun i u c hu hc => ?_⟩
        rw [List.getElem?_map] at hc
        cases hx : cs'[i]? with
        | none => rw [hx] at hc; cases hc
        | some x => rw [hx] at hc; cases hc; exact hv (c5 i u x hu hx)
      | lp ls p as bd cs' =>
        obtain ⟨c1, c2, fn, vs', T', c3, c4, c5⟩ := hB'
        refine ⟨c1, fun o => hnew _ rfl o (c2 o), fn, vs', T', c3, by rw [List.length_map]; exact c4, fun i u c hu hc => ?_⟩
        rw [List.getElem?_map] at hc
        cases hx : cs'[i]? with
        | none => rw [hx] at hc; cases hc
        | some x => rw [hx] at hc; cases hc; exact hv (c5 i u x hu hx)
      | it sn cs' =>
        obtain ⟨c1, c2, fn, vs', T', c3, c4, c5⟩ := hB'
        refine ⟨c1, fun o => hnew _ rfl o (c2 o), fn, vs', T', c3, by rw [List.length_map]; exact c4, fun i u c hu hc => ?_⟩
        rw [List.getElem?_map] at hc
        cases hx : cs'[i]? with
        | none => rw [hx] at hc; cases hc
        | some x => rw [hx] at hc; cases hc; exact hv (c5 i u x hu hx)
      | vec e k cs' =>
        obtain ⟨c1, c2, c3, c4⟩ := hB'
        refine ⟨by rw [List.length_map]; exact c1, by rw [List.length_map]; exact c2, fun c hc => ?_, ?_⟩
        · obtain ⟨x, hx, rfl⟩ := List.mem_map.1 hc
          rw [List.length_map]; exact c3 x hx
        · rcases c4 with ⟨d1, d2, A, d3⟩ | ⟨g, cap, cur, d1, d2, d3, d4, d5, d6, d7, d8, d9⟩
          · exact .inl ⟨d1, by rw [d2]; rfl, A, d3⟩
          · refine .inr ⟨g, cap, cur, d1, by rw [List.length_map]; exact d2, d3, d4, by rw [List.length_map]; exact d5, d6, d7, fun o => hnew g d1 o (d8 o), fun i j c x u hc hx hu => ?_⟩
            rw [List.getElem?_map] at hc
            cases hy : cs'[i]? with
            | none => rw [hy] at hc; cases hc
            | some y =>
              rw [hy] at hc
              cases hc
              rw [List.getElem?_map] at hx
              cases hw : y[j]? with
              | none => rw [hw] at hx; cases hx
              | some z => rw [hw] at hx; cases hx; exact hv (d9 i j y z u hy hw hu)
theorem Sat.frzV {G : Gh} {w : World} {a : Act} {s : St} (hs : Sat G w a s) (t : Nat) (xs ys : List (List D)) {b o len L e k : Nat} (hb : s.h[b]? = some (.vec e k (liftD xs))) (ht : tget s.t t = .vec b o len L k) (hL : xs.length = L) (hone : ∀ c ∈ xs, c.all D.oneB = true) (hy : (xs.drop o).take len = ys)
    : ∃ G', Ext G.N G w G' w ∧ G'.N = G.N ∧ Sat G' w a ⟨s.n, (t, .d (.sl ys)) :: (s.t.map fun p => (p.1, p.2.kill b)), (s.h.map (Blk.mapV (AV.kill b))).set b .gone⟩ := by
  have hll : (liftD xs).length = L := by unfold liftD; rw [List.length_map]; exact hL
  have hv0 := hs.tmp t
  rw [ht] at hv0
  have hvo := hv0.vecOK hs.inv hb hll
  obtain ⟨hol, ⟨A, cc, q1, q2, q3, q4, q5⟩, _⟩ := hvo
  have hwid := vec_wid hs.inv hb
  have hxk : ∀ d ∈ xs, d.length = k := fun d hd => by
    have := hwid (d.map .d) (by unfold liftD; exact List.mem_map.2 ⟨d, hd, rfl⟩)
    rwa [List.length_map] at this
  obtain ⟨S, hS⟩ : ∃ S : Nat → Nat → Prop, S = fun c o => G.S c o ∨ (ownB s.h G b = some c ∧ o < L * k) := ⟨_, rfl⟩
  have hE : Ext G.N G w { G with S := S } w := ⟨Nat.le_refl _, fun b o h => by show S b o; rw [hS]; exact .inl h, fun _ _ _ => rfl, fun _ _ => rfl, fun _ _ => .inl ⟨rfl, rfl⟩, zsame rfl, fun _ _ => rfl, rfl, rfl, rfl, fun c o hq => by
    have hs' : S c o := hq
    rw [hS] at hs'
    rcases hs' with h | ⟨h, _⟩
    · exact .inl h
    · obtain ⟨B, hB, hb'⟩ := ownB_some h
      exact .inr ((hs.inv.blk b B hB).notZ hb')⟩
  have hinv := inv_drop (b := b) (f := AV.kill b) hs.inv hE (fun c o hq => by rw [hS] at hq; exact hq.imp id And.left) (fun hq => hq.kill hE rfl)
  have hyl : ys.length = len := by rw [← hy, List.length_take, List.length_drop]; omega
  have hp : PRel S w (a.tmps.getD t undef) (.sl ys) := by
    rw [q1, ← hyl]
    by_cases h0 : len = 0
    · have : ys = [] := List.eq_nil_of_length_eq_zero (by omega)
      subst this
      exact .sl A 0 0 cc 0 [] (fun _ _ => undef) (fun h => absurd rfl h) (Nat.zero_le _) q3 (fun _ h => nomatch h) (fun i j hi => absurd hi (Nat.not_lt_zero _)) (fun i j x d hx => by simp at hx)
    · obtain ⟨g, cap, s1, rfl, s3⟩ := q5 (by omega)
      obtain ⟨g', cap', cur, r1, r2, r3, r4, r5, r6, r7, r8, r9⟩ := vec_real hs.inv hb (fun e => by rw [e] at hll; simp at hll; omega)
      rw [r2] at s1
      cases s1
      have hob : ownB s.h G b = some g := (ownB_of hb).trans r1
      have hys : ∀ i, i < len → ys[i]? = xs[o + i]? := fun i hi' => by rw [← hy, List.getElem?_take_of_lt hi', List.getElem?_drop]
      have hcell : ∀ i j, i < len → j < k → o * k + i * k + j < cur.size := fun i j hi hj => by
        have := mul_lt_of (i := o + i) (k := k) (L := (liftD xs).length) (j := j) (by omega) hj
        rw [Nat.add_mul] at this
        have h2 : (liftD xs).length * k ≤ cap * k := Nat.mul_le_mul_right k (by omega)
        rw [r7]; omega
      have hval : ∀ (i j : Nat) (x : List D) (d : D), i < len → ys[i]? = some x → x[j]? = some d → VRel G w (cur.getD (o * k + i * k + j) undef) (.d d) := fun i j x d hi hx hd => by
        rw [hys i hi] at hx
        have hj : j < k := by rw [← hxk x (List.mem_of_getElem? hx)]; exact (List.getElem?_eq_some_iff.1 hd).1
        refine r9 (o + i) j (x.map .d) (.d d) _ (by unfold liftD; rw [List.getElem?_map, hx]; rfl) (by rw [List.getElem?_map, hd]; rfl) ?_
        have hc := hcell i j hi hj
        rw [show (o + i) * k + j = o * k + i * k + j by rw [Nat.add_mul]]
        simp [Array.getD, hc]
      refine .sl _ g (o * k) cc k ys (fun i j => cur.getD (o * k + i * k + j) undef) (fun _ => rfl) (by omega) q3 (fun x hx => ?_) (fun i j hi hj => ⟨?_, ?_, ?_⟩) (fun i j x d hx hd => ?_)
      · rw [← hy] at hx; exact hxk x (List.mem_of_mem_drop (List.mem_of_mem_take hx))
      · rw [hS]
        refine .inr ⟨hob, ?_⟩
        have := mul_lt_of (i := o + i) (k := k) (L := (liftD xs).length) (j := j) (by omega) hj
        rw [Nat.add_mul] at this; exact this
      · rw [cell_of_row w g _ cur e (0, 0) r4]
        have hc := hcell i j (by omega) hj
        simp [Array.getD, hc]
      · have hi' : i < len := by omega
        obtain ⟨x, hx⟩ : ∃ x, ys[i]? = some x := ⟨_, List.getElem?_eq_getElem hi⟩
        have hx2 := hx
        rw [hys i hi'] at hx2
        have hmem := List.mem_of_getElem? hx2
        obtain ⟨d, hd⟩ : ∃ d, x[j]? = some d := ⟨_, List.getElem?_eq_getElem (by rw [hxk x hmem]; exact hj)⟩
        refine (hval i j x d hi' hx hd).cellB ?_
        have h1 := hone x hmem
        rw [List.all_eq_true] at h1
        have h2 := h1 d (List.mem_of_getElem? hd)
        cases d with
        | v u => exact h2
        | sl l => rfl
      · have hi' : i < len := by rw [← hyl]; exact (List.getElem?_eq_some_iff.1 hx).1
        have := hval i j x d hi' hx hd
        generalize cur.getD (o * k + i * k + j) undef = q at this
        cases this with | d h => exact h.keep hE.S hE.cell
  have hs' : Sat { G with S := S } w a ⟨s.n, (t, .d (.sl ys)) :: (s.t.map fun p => (p.1, p.2.kill b)), (s.h.map (Blk.mapV (AV.kill b))).set b .gone⟩ := by
    refine ⟨hs.size, fun i => ?_, hinv, hs.df⟩
    show VRel _ _ _ (tget ((t, .d (.sl ys)) :: (s.t.map fun p => (p.1, p.2.kill b))) i)
    rw [tget_cons]
    split
    · next ei => subst ei; exact .d hp
    · rw [tget_mapv (AV.kill b) (by simp [AV.kill])]
      exact (hs.tmp i).kill hE rfl
  exact ⟨_, hE, rfl, hs'⟩
/-- THE RULE: the slice in a temporary -/
theorem aw_frzV {P : Program} {r : Option Nat} {N0 : Nat} {c : Code} {s : St} {Q : Exit → St → Prop} (t : Nat) (xs ys : List (List D)) {b o len L e k : Nat} (hb : s.h[b]? = some (.vec e k (liftD xs))) (ht : tget s.t t = .vec b o len L k) (hL : xs.length = L) (hone : ∀ c ∈ xs, c.all D.oneB = true) (hy : (xs.drop o).take len = ys)
    (h : AWp P r N0 c Q ⟨s.n, (t, .d (.sl ys)) :: (s.t.map fun p => (p.1, p.2.kill b)), (s.h.map (Blk.mapV (AV.kill b))).set b .gone⟩) : AWp P r N0 c Q s := by
  constructor
  intro G w a n hs hN
  obtain ⟨G', hE, e, hs'⟩ := hs.frzV t xs ys hb ht hL hone hy
  exact wpIn_mono (h.run G' w a n hs' (by rw [e]; exact hN)) fun _ _ _ hn => hn.trans (hE.less hN)
end Go.Proofs.YtaiihhogoogkmaaGreatDoor
