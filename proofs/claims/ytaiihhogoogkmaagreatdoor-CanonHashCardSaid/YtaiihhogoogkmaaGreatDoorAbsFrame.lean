/-
  A contract over few blocks serves wherever such blocks lie among others, under other numbers.
-/
import Derived.Test.YtaiihhogoogkmaaGreatDoorAbsWalk
namespace Go.Proofs.YtaiihhogoogkmaaGreatDoor
open Go.RowKit
set_option linter.unusedSimpArgs false
set_option linter.unusedVariables false

/-- the caller's numbers of the callee's blocks: those handed over, then the new ones -/
def rn : List Nat → Nat → Nat → Nat
  | [], base, i => base + i
  | j :: _, _, 0 => j
  | _ :: l, base, i + 1 => rn l base i
theorem rn_lt : ∀ (l : List Nat) (base i : Nat) (j : Nat), l[i]? = some j → rn l base i = j
  | [], _, i, j, h => by simp at h
  | a :: l, base, 0, j, h => by simpa [rn] using h
  | a :: l, base, i + 1, j, h => by rw [rn]; exact rn_lt l base i j (by simpa using h)
theorem rn_ge : ∀ (l : List Nat) (base i : Nat), l.length ≤ i → rn l base i = base + (i - l.length)
  | [], base, i, _ => by simp [rn]
  | a :: l, base, 0, h => by simp at h
  | a :: l, base, i + 1, h => by rw [rn, rn_ge l base i (by simpa using h)]; simp
mutual
def AV.ren (σ : Nat → Nat) : AV → AV
  | .ptr n off => .ptr (σ n) off
  | .own n xs => .own (σ n) xs
  | .row n off len cap k => .row (σ n) off len cap k
  | .mp n => .mp (σ n)
  | .yld n => .yld (σ n)
  | .vec n o len L k => .vec (σ n) o len L k
  | .vptr n i j L k => .vptr (σ n) i j L k
  | .agg cs => .agg (AV.renL σ cs)
  | .tup cs => .tup (AV.renL σ cs)
  | .fn f cs => .fn f (AV.renL σ cs)
  | .d x => .d x
  | .elt xs i off => .elt xs i off
  | .full xs => .full xs
  | .hid c => .hid c
  | .dead => .dead
def AV.renL (σ : Nat → Nat) : List AV → List AV
  | [] => []
  | x :: l => x.ren σ :: AV.renL σ l
end
theorem renL_eq (σ : Nat → Nat) : ∀ l, AV.renL σ l = l.map (AV.ren σ)
  | [] => by simp [AV.renL]
  | x :: l => by simp [AV.renL, renL_eq σ l]
def Blk.ren (σ : Nat → Nat) : Blk → Blk
  | .cells cs => .cells (AV.renL σ cs)
  | .lp ls p as bd cs => .lp ls p as bd (AV.renL σ cs)
  | .it sn cs => .it sn (AV.renL σ cs)
  | .vec e k cs => .vec e k (cs.map (AV.renL σ))
  | .front e k len => .front e k len
  | .map kv => .map kv
  | .gone => .gone
/-- the callee's blocks laid back -/
def putAll : List Nat → List Blk → List Blk → List Blk
  | [], Bs, h => h ++ Bs
  | _ :: _, [], h => h
  | i :: l, B :: Bs, h => putAll l Bs (h.set i B)

structure RenOK (σ : Nat → Nat) (G G2 : Gh) : Prop where
  lt : ∀ n, n < G.N → σ n < G2.N
  rho : ∀ n, n < G.N → G2.rho (σ n) = G.rho n
  sg : ∀ n, n < G.N → G2.sg (σ n) = G.sg n
  fl : ∀ n, n < G.N → G2.fl (σ n) = G.fl n
  ow : ∀ n, n < G.N → G2.ow (σ n) = G.ow n
  S : ∀ b o, G2.S b o ↔ G.S b o
theorem PRel.cong {S S' : Nat → Nat → Prop} {w : World} (hS : ∀ b o, S b o → S' b o) {u : Value} {x : D} (h : PRel S w u x) : PRel S' w u x := h.keep hS (fun _ _ _ => rfl)
theorem VRel.ren {σ : Nat → Nat} {G G2 : Gh} {w : World} (hR : RenOK σ G G2) {u : Value} {x : AV} (h : VRel G w u x) : VRel G2 w u (x.ren σ) := by
  have hS : ∀ b o, G.S b o → G2.S b o := fun b o h => (hR.S b o).2 h
  have lst : ∀ (vs : Array Value) (cs : List AV), (∀ (i : Nat) (u : Value) (c : AV), vs[i]? = some u → cs[i]? = some c → VRel G2 w u (c.ren σ)) → ∀ (i : Nat) (u : Value) (c : AV), vs[i]? = some u → (AV.renL σ cs)[i]? = some c → VRel G2 w u c := by
    intro vs cs ih i u c hu hc
    rw [renL_eq, List.getElem?_map] at hc
    cases hx : cs[i]? with
    | none => rw [hx] at hc; cases hc
    | some x => rw [hx] at hc; cases hc; exact ih i u x hu hx
  induction h with
  | agg vs cs hl _ ih => rw [AV.ren]; exact .agg vs _ (by rw [renL_eq, List.length_map]; exact hl) (lst vs cs ih)
  | tup vs cs hl _ ih => rw [AV.ren]; exact .tup vs _ (by rw [renL_eq, List.length_map]; exact hl) (lst vs cs ih)
  | fn f vs cs hl _ ih => rw [AV.ren]; exact .fn f vs _ (by rw [renL_eq, List.length_map]; exact hl) (lst vs cs ih)
  | d h => rw [AV.ren]; exact .d (h.cong hS)
  | full xs hp hf => rw [AV.ren]; exact .full xs (hp.cong hS) hf
  | ptr n off h => rw [AV.ren, ← hR.rho n h]; exact .ptr _ off (hR.lt n h)
  | row n off len cap k h hl hm => rw [AV.ren, ← hR.rho n h]; exact .row _ off len cap k (hR.lt n h) hl hm
  | mp n h => rw [AV.ren, ← hR.rho n h]; exact .mp _ (hR.lt n h)
  | yld n h => rw [AV.ren, ← hR.rho n h]; exact .yld _ (hR.lt n h)
  | own n xs h hp hle hf => rw [AV.ren]; exact .own _ xs (hR.lt n h) (hp.cong hS) (by rw [hR.fl n h]; exact hle) (by rw [hR.fl n h, hR.sg n h]; exact hf)
  | vec n o len L k h hs hL hf => rw [AV.ren]; exact .vec _ o len L k (hR.lt n h) hs (by rw [hR.fl n h]; exact hL) (by rw [hR.fl n h, hR.sg n h]; exact hf)
  | vptr n i j L k h hs hL hf => rw [AV.ren]; exact .vptr _ i j L k (hR.lt n h) hs (by rw [hR.fl n h]; exact hL) (by rw [hR.fl n h, hR.sg n h]; exact hf)
  | elt xs i off b o u x hx hS' hu => rw [AV.ren]; exact .elt xs i off b o u x hx (fun j hj => ⟨hS _ _ (hS' j hj).1, (hS' j hj).2⟩) (fun j d hd => (hu j d hd).cong hS)
  | hid h h1 => rw [AV.ren]; exact .hid (h.keep hS (fun _ _ _ => rfl)) h1
  | dead u => rw [AV.ren]; exact .dead u
theorem VRel.unren {σ : Nat → Nat} {G G2 : Gh} {w : World} (hR : RenOK σ G G2) {u : Value} {y : AV} (h : VRel G2 w u y) : ∀ x : AV, x.ren σ = y → x.lowB G.N = true → VRel G w u x := by
  have hS : ∀ b o, G2.S b o → G.S b o := fun b o h => (hR.S b o).1 h
  have lt : ∀ n, (!leB G.N n) = true → n < G.N := fun n h => by rw [Bool.not_eq_true', ← Bool.not_eq_true, leB_iff] at h; omega
  have lst : ∀ (vs : Array Value) (cs xs : List AV), (∀ (i : Nat) (u : Value) (c : AV), vs[i]? = some u → cs[i]? = some c → ∀ x : AV, x.ren σ = c → x.lowB G.N = true → VRel G w u x) → AV.renL σ xs = cs → AV.lowL G.N xs = true → ∀ (i : Nat) (u : Value) (c : AV), vs[i]? = some u → xs[i]? = some c → VRel G w u c := by
    intro vs cs xs ih e hb i u c hu hc
    subst e
    rw [lowL_eq, List.all_eq_true] at hb
    exact ih i u (c.ren σ) hu (by rw [renL_eq, List.getElem?_map, hc]; rfl) c rfl (hb c (List.mem_of_getElem? hc))
  induction h with
  | agg vs cs hl _ ih =>
    intro x e hb
    cases x <;> simp only [AV.ren, AV.agg.injEq, reduceCtorEq] at e
    next xs =>
      rw [AV.lowB] at hb
      exact .agg vs xs (by rw [hl, ← e, renL_eq, List.length_map]) (lst vs cs xs ih e hb)
  | tup vs cs hl _ ih =>
    intro x e hb
    cases x <;> simp only [AV.ren, AV.tup.injEq, reduceCtorEq] at e
    next xs =>
      rw [AV.lowB] at hb
      exact .tup vs xs (by rw [hl, ← e, renL_eq, List.length_map]) (lst vs cs xs ih e hb)
  | fn f vs cs hl _ ih =>
    intro x e hb
    cases x <;> simp only [AV.ren, AV.fn.injEq, reduceCtorEq] at e
    next g xs =>
      obtain ⟨rfl, e⟩ := e
      rw [AV.lowB] at hb
      exact .fn _ vs xs (by rw [hl, ← e, renL_eq, List.length_map]) (lst vs cs xs ih e hb)
  | d h =>
    intro x e hb
    cases x <;> simp only [AV.ren, AV.d.injEq, reduceCtorEq] at e
    next y => subst e; exact .d (h.cong hS)
  | full xs hp hf =>
    intro x e hb
    cases x <;> simp only [AV.ren, AV.full.injEq, reduceCtorEq] at e
    next y => subst e; exact .full y (hp.cong hS) hf
  | ptr n off h =>
    intro x e hb
    cases x <;> simp only [AV.ren, AV.ptr.injEq, reduceCtorEq] at e
    next m o =>
      obtain ⟨e1, rfl⟩ := e
      rw [AV.lowB] at hb
      have hm := lt _ hb
      rw [← e1, hR.rho _ hm]; exact .ptr _ _ hm
  | row n off len cap k h hl hm' =>
    intro x e hb
    cases x <;> simp only [AV.ren, AV.row.injEq, reduceCtorEq] at e
    next m o l c q =>
      obtain ⟨e1, rfl, rfl, rfl, rfl⟩ := e
      rw [AV.lowB] at hb
      have hm := lt _ hb
      rw [← e1, hR.rho _ hm]; exact .row _ _ _ _ _ hm hl hm'
  | mp n h =>
    intro x e hb
    cases x <;> simp only [AV.ren, AV.mp.injEq, reduceCtorEq] at e
    next m =>
      rw [AV.lowB] at hb
      have hm := lt _ hb
      rw [← e, hR.rho _ hm]; exact .mp _ hm
  | yld n h =>
    intro x e hb
    cases x <;> simp only [AV.ren, AV.yld.injEq, reduceCtorEq] at e
    next m =>
      rw [AV.lowB] at hb
      have hm := lt _ hb
      rw [← e, hR.rho _ hm]; exact .yld _ hm
  | own n xs h hp hle hf =>
    intro x e hb
    cases x <;> simp only [AV.ren, AV.own.injEq, reduceCtorEq] at e
    next m l =>
      obtain ⟨e1, rfl⟩ := e
      rw [AV.lowB] at hb
      have hm := lt _ hb
      rw [← e1] at hle hf
      exact .own _ _ hm (hp.cong hS) (by rw [← hR.fl _ hm]; exact hle) (by rw [← hR.fl _ hm, ← hR.sg _ hm]; exact hf)
  | vec n o len L k h hs hL hf =>
    intro x e hb
    cases x <;> simp only [AV.ren, AV.vec.injEq, reduceCtorEq] at e
    next m a1 a2 a3 a4 =>
      obtain ⟨e1, rfl, rfl, rfl, rfl⟩ := e
      rw [AV.lowB] at hb
      have hm := lt _ hb
      rw [← e1] at hL hf
      exact .vec _ _ _ _ _ hm hs (by rw [← hR.fl _ hm]; exact hL) (by rw [← hR.fl _ hm, ← hR.sg _ hm]; exact hf)
  | vptr n i j L k h hs hL hf =>
    intro x e hb
    cases x <;> simp only [AV.ren, AV.vptr.injEq, reduceCtorEq] at e
    next m a1 a2 a3 a4 =>
      obtain ⟨e1, rfl, rfl, rfl, rfl⟩ := e
      rw [AV.lowB] at hb
      have hm := lt _ hb
      rw [← e1] at hL hf
      exact .vptr _ _ _ _ _ hm hs (by rw [← hR.fl _ hm]; exact hL) (by rw [← hR.fl _ hm, ← hR.sg _ hm]; exact hf)
  | elt xs i off b o u y hx hS' hu =>
    intro x e hb
    cases x <;> simp only [AV.ren, AV.elt.injEq, reduceCtorEq] at e
    next a1 a2 a3 =>
      obtain ⟨rfl, rfl, rfl⟩ := e
      exact .elt _ _ _ b o u y hx (fun j hj => ⟨hS _ _ (hS' j hj).1, (hS' j hj).2⟩) (fun j d hd => (hu j d hd).cong hS)
  | hid h h1 =>
    intro x e hb
    cases x <;> simp only [AV.ren, AV.hid.injEq, reduceCtorEq] at e
    next c => subst e; exact .hid (h.keep hS (fun _ _ _ => rfl)) h1
  | dead u =>
    intro x e hb
    cases x <;> simp only [AV.ren, reduceCtorEq] at e
    exact .dead u
theorem own1_ren {σ : Nat → Nat} {G G2 : Gh} (hR : RenOK σ G G2) {n : Nat} (hn : n < G.N) (B : Blk) : (B.ren σ).own1 G2 (σ n) = B.own1 G n := by
  cases B <;> simp only [Blk.ren, Blk.own1, hR.rho n hn, hR.ow n hn]
theorem BRel.ren {σ : Nat → Nat} {G G2 : Gh} {w : World} (hR : RenOK σ G G2) {n : Nat} (hn : n < G.N) {B : Blk} (hz : ∀ b, B.own1 G n = some b → ¬ G2.Z b) (h : BRel G w n B) : BRel G2 w (σ n) (B.ren σ) := by
  have hS : ∀ b o, ¬ G.S b o → ¬ G2.S b o := fun b o h h2 => h ((hR.S b o).1 h2)
  cases B with
  | gone => trivial
  | cells cs =>
    obtain ⟨h1, h2, vs, T, h3, h4, h5⟩ := h
    rw [Blk.ren]
    refine ⟨by rw [hR.rho n hn]; exact hz _ rfl, by rw [hR.rho n hn]; exact fun o => hS _ _ (h2 o), vs, T, by rw [hR.rho n hn]; exact h3, by rw [renL_eq, List.length_map]; exact h4, fun i u c hu hc => ?_⟩
    rw [renL_eq, List.getElem?_map] at hc
    cases hx : cs[i]? with
    | none => rw [hx] at hc; cases hc
    | some x => rw [hx] at hc; cases hc; exact (h5 i u x hu hx).ren hR
  | lp ls p as bd cs =>
    obtain ⟨h1, h2, fn, vs, T, h3, h4, h5⟩ := h
    rw [Blk.ren]
    refine ⟨by rw [hR.rho n hn]; exact hz _ rfl, by rw [hR.rho n hn]; exact fun o => hS _ _ (h2 o), fn, vs, T, by rw [hR.rho n hn]; exact h3, by rw [renL_eq, List.length_map]; exact h4, fun i u c hu hc => ?_⟩
    rw [renL_eq, List.getElem?_map] at hc
    cases hx : cs[i]? with
    | none => rw [hx] at hc; cases hc
    | some x => rw [hx] at hc; cases hc; exact (h5 i u x hu hx).ren hR
  | it sn cs =>
    obtain ⟨h1, h2, fn, vs, T, h3, h4, h5⟩ := h
    rw [Blk.ren]
    refine ⟨by rw [hR.rho n hn]; exact hz _ rfl, by rw [hR.rho n hn]; exact fun o => hS _ _ (h2 o), fn, vs, T, by rw [hR.rho n hn]; exact h3, by rw [renL_eq, List.length_map]; exact h4, fun i u c hu hc => ?_⟩
    rw [renL_eq, List.getElem?_map] at hc
    cases hx : cs[i]? with
    | none => rw [hx] at hc; cases hc
    | some x => rw [hx] at hc; cases hc; exact (h5 i u x hu hx).ren hR
  | map kv =>
    obtain ⟨h1, h2, es, c, h3, h4⟩ := h
    exact ⟨by rw [hR.rho n hn]; exact hz _ rfl, by rw [hR.rho n hn]; exact fun o => hS _ _ (h2 o), es, c, by rw [hR.rho n hn]; exact h3, h4.keep (fun b o h => (hR.S b o).2 h) (fun _ _ _ => rfl)⟩
  | front e k len =>
    obtain ⟨h1, hm, h2⟩ := h
    refine ⟨(hR.fl n hn).trans h1, hm, ?_⟩
    rcases h2 with ⟨h2, A, h3⟩ | ⟨g, cap, cur, h2, h3, h4, h5, h6, h7, h8, h9⟩
    · exact .inl ⟨(hR.ow n hn).trans h2, A, (hR.sg n hn).trans h3⟩
    · exact .inr ⟨g, cap, cur, (hR.ow n hn).trans h2, (hR.sg n hn).trans h3, hz g h2, h5, h6, h7, h8, fun o ho => hS _ _ (h9 o ho)⟩
  | vec e k cs =>
    obtain ⟨h1, hm, hk, h2⟩ := h
    rw [Blk.ren]
    refine ⟨by rw [List.length_map]; exact (hR.fl n hn).trans h1, by rw [List.length_map]; exact hm, fun c hc => ?_, ?_⟩
    · obtain ⟨x, hx, rfl⟩ := List.mem_map.1 hc
      rw [renL_eq, List.length_map]; exact hk x hx
    · rcases h2 with ⟨h2, e2, A, h3⟩ | ⟨g, cap, cur, h2, h3, h4, h5, h6, h7, h8, h9, h10⟩
      · exact .inl ⟨(hR.ow n hn).trans h2, by rw [e2]; rfl, A, (hR.sg n hn).trans h3⟩
      · refine .inr ⟨g, cap, cur, (hR.ow n hn).trans h2, by rw [List.length_map]; exact (hR.sg n hn).trans h3, hz g h2, h5, by rw [List.length_map]; exact h6, h7, h8, fun o => hS _ _ (h9 o), fun i j c x u hc hx hu => ?_⟩
        rw [List.getElem?_map] at hc
        cases hy : cs[i]? with
        | none => rw [hy] at hc; cases hc
        | some y =>
          rw [hy] at hc
          cases hc
          rw [renL_eq, List.getElem?_map] at hx
          cases hw : y[j]? with
          | none => rw [hw] at hx; cases hx
          | some z => rw [hw] at hx; cases hx; exact (h10 i j y z u hy hw hu).ren hR
theorem BRel.unren {σ : Nat → Nat} {G G2 : Gh} {w : World} (hR : RenOK σ G G2) {n : Nat} (hn : n < G.N) {B : Blk} (hb : B.lowB G.N = true) (hz : ∀ b, B.own1 G n = some b → ¬ G.Z b) (h : BRel G2 w (σ n) (B.ren σ)) : BRel G w n B := by
  have hS : ∀ b o, ¬ G2.S b o → ¬ G.S b o := fun b o h h2 => h ((hR.S b o).2 h2)
  cases B with
  | gone => trivial
  | cells cs =>
    rw [Blk.ren] at h
    obtain ⟨h1, h2, vs, T, h3, h4, h5⟩ := h
    rw [hR.rho n hn] at h2 h3
    rw [renL_eq, List.length_map] at h4
    simp only [Blk.lowB, List.all_eq_true] at hb
    exact ⟨hz _ rfl, fun o => hS _ _ (h2 o), vs, T, h3, h4, fun i u c hu hc => VRel.unren hR (h5 i u (c.ren σ) hu (by rw [renL_eq, List.getElem?_map, hc]; rfl)) c rfl (hb c (List.mem_of_getElem? hc))⟩
  | lp ls p as bd cs =>
    rw [Blk.ren] at h
    obtain ⟨h1, h2, fn, vs, T, h3, h4, h5⟩ := h
    rw [hR.rho n hn] at h2 h3
    rw [renL_eq, List.length_map] at h4
    simp only [Blk.lowB, List.all_eq_true] at hb
    exact ⟨hz _ rfl, fun o => hS _ _ (h2 o), fn, vs, T, h3, h4, fun i u c hu hc => VRel.unren hR (h5 i u (c.ren σ) hu (by rw [renL_eq, List.getElem?_map, hc]; rfl)) c rfl (hb c (List.mem_of_getElem? hc))⟩
  | it sn cs =>
    rw [Blk.ren] at h
    obtain ⟨h1, h2, fn, vs, T, h3, h4, h5⟩ := h
    rw [hR.rho n hn] at h2 h3
    rw [renL_eq, List.length_map] at h4
    simp only [Blk.lowB, List.all_eq_true] at hb
    exact ⟨hz _ rfl, fun o => hS _ _ (h2 o), fn, vs, T, h3, h4, fun i u c hu hc => VRel.unren hR (h5 i u (c.ren σ) hu (by rw [renL_eq, List.getElem?_map, hc]; rfl)) c rfl (hb c (List.mem_of_getElem? hc))⟩
  | map kv =>
    obtain ⟨h1, h2, es, c, h3, h4⟩ := h
    rw [hR.rho n hn] at h2 h3
    exact ⟨hz _ rfl, fun o => hS _ _ (h2 o), es, c, h3, h4.keep (fun b o h => (hR.S b o).1 h) (fun _ _ _ => rfl)⟩
  | front e k len =>
    obtain ⟨h1, hm, h2⟩ := h
    rw [hR.fl n hn] at h1
    rw [hR.ow n hn, hR.sg n hn] at h2
    refine ⟨h1, hm, ?_⟩
    rcases h2 with ⟨h2, A, h3⟩ | ⟨g, cap, cur, h2, h3, h4, h5, h6, h7, h8, h9⟩
    · exact .inl ⟨h2, A, h3⟩
    · exact .inr ⟨g, cap, cur, h2, h3, hz g h2, h5, h6, h7, h8, fun o ho => hS _ _ (h9 o ho)⟩
  | vec e k cs =>
    rw [Blk.ren] at h
    obtain ⟨h1, hm, hk, h2⟩ := h
    rw [hR.fl n hn, List.length_map] at h1
    rw [List.length_map] at hm
    rw [hR.ow n hn, hR.sg n hn, List.length_map] at h2
    simp only [Blk.lowB, List.all_eq_true] at hb
    refine ⟨h1, hm, fun c hc => ?_, ?_⟩
    · have := hk _ (List.mem_map.2 ⟨c, hc, rfl⟩)
      rwa [renL_eq, List.length_map] at this
    · rcases h2 with ⟨h2, e2, A, h3⟩ | ⟨g, cap, cur, h2, h3, h4, h5, h6, h7, h8, h9, h10⟩
      · exact .inl ⟨h2, List.map_eq_nil_iff.1 e2, A, h3⟩
      · refine .inr ⟨g, cap, cur, h2, h3, hz g h2, h5, h6, h7, h8, fun o => hS _ _ (h9 o), fun i j c x u hc hx hu => ?_⟩
        exact VRel.unren hR (h10 i j (AV.renL σ c) (x.ren σ) u (by rw [List.getElem?_map, hc]; rfl) (by rw [renL_eq, List.getElem?_map, hx]; rfl) hu) x rfl (hb c (List.mem_of_getElem? hc) x (List.mem_of_getElem? hx))
theorem putAll_length : ∀ (l : List Nat) (Bs h : List Blk), l.length ≤ Bs.length → (putAll l Bs h).length = h.length + (Bs.length - l.length)
  | [], Bs, h, _ => by simp [putAll]
  | j :: l, [], h, hl => by simp at hl
  | j :: l, B :: Bs, h, hl => by rw [putAll, putAll_length l Bs _ (by simpa using hl), List.length_set]; simp
theorem putAll_old : ∀ (l : List Nat) (Bs h : List Blk) (n : Nat), l.length ≤ Bs.length → n < h.length → n ∉ l → (putAll l Bs h)[n]? = h[n]?
  | [], Bs, h, n, _, hn, _ => by rw [putAll, List.getElem?_append_left hn]
  | j :: l, [], h, n, hl, _, _ => by simp at hl
  | j :: l, B :: Bs, h, n, hl, hn, hm => by
    simp only [List.mem_cons, not_or] at hm
    rw [putAll, putAll_old l Bs _ n (by simpa using hl) (by rw [List.length_set]; exact hn) hm.2, List.getElem?_set_ne (Ne.symm hm.1)]
theorem putAll_new : ∀ (l : List Nat) (Bs h : List Blk) (i : Nat), l.length ≤ Bs.length → l.Nodup → (∀ j ∈ l, j < h.length) → i < Bs.length → (putAll l Bs h)[rn l h.length i]? = Bs[i]?
  | [], Bs, h, i, _, _, _, hi => by rw [putAll, rn, List.getElem?_append_right (Nat.le_add_right _ _), Nat.add_sub_cancel_left]
  | j :: l, [], h, i, hl, _, _, _ => by simp at hl
  | j :: l, B :: Bs, h, 0, hl, hd, hlt, _ => by
    rw [List.nodup_cons] at hd
    rw [putAll, rn, putAll_old l Bs _ j (by simpa using hl) (by rw [List.length_set]; exact hlt j (by simp)) hd.1, List.getElem?_set_self (hlt j (by simp))]; rfl
  | j :: l, B :: Bs, h, i + 1, hl, hd, hlt, hi => by
    rw [List.nodup_cons] at hd
    have := putAll_new l Bs (h.set j B) i (by simpa using hl) hd.2 (fun x hx => by rw [List.length_set]; exact hlt x (by simp [hx])) (by simpa using hi)
    rw [List.length_set] at this
    rw [putAll, rn, this]; simp
/-- the callee's number of a caller's block -/
def unrn (l : List Nat) (base n : Nat) : Option Nat := if n ∈ l then some (l.idxOf n) else if base ≤ n then some (l.length + (n - base)) else none
theorem unrn_rn {l : List Nat} {base : Nat} (hd : l.Nodup) (hlt : ∀ j ∈ l, j < base) (i : Nat) : unrn l base (rn l base i) = some i := by
  unfold unrn
  by_cases hi : i < l.length
  · have e : l[i]? = some l[i] := List.getElem?_eq_getElem hi
    rw [rn_lt l base i _ e, if_pos (List.getElem_mem _), List.Nodup.idxOf_getElem hd i hi]
  · rw [rn_ge l base i (by omega), if_neg (fun h => by have := hlt _ h; omega), if_pos (Nat.le_add_right _ _)]
    congr 1; omega
theorem unrn_some {l : List Nat} {base n i : Nat} (h : unrn l base n = some i) : rn l base i = n := by
  unfold unrn at h
  split at h
  · rename_i hm
    cases h
    have hlt := List.idxOf_lt_length_of_mem hm
    refine rn_lt l base _ n ?_
    rw [List.getElem?_eq_getElem hlt, List.getElem_idxOf]
  · split at h
    · cases h
      rw [rn_ge _ _ _ (by omega)]; omega
    · cases h
theorem unrn_none {l : List Nat} {base n : Nat} (h : unrn l base n = none) : n < base ∧ n ∉ l := by
  unfold unrn at h
  split at h
  · cases h
  · split at h
    · cases h
    · rename_i h1 h2; exact ⟨by omega, h1⟩
def pickN {α : Type} (o : Option Nat) (f : Nat → α) (d : α) : α := match o with | some i => f i | none => d
/-- A CONTRACT OVER FEW BLOCKS, USED AMONG MANY -/
theorem ACalls.among {P : Program} {f : FuncId} {args : List AV} {H : List Blk} {K : AV → List Blk → Prop} (hc : ACalls P f args H K) {l : List Nat} {h : List Blk}
    (hd : l.Nodup) (hlt : ∀ j ∈ l, j < h.length) (hH : ∀ (i j : Nat), l[i]? = some j → h[j]? = (H[i]?).map (Blk.ren (rn l h.length))) (hk : l.length = H.length)
    (ha : args.all (AV.lowB H.length) = true) (hb : H.all (Blk.lowB H.length) = true) :
    ACalls P f (args.map (AV.ren (rn l h.length))) h fun r' h' => ∃ r H', K r H' ∧ r' = r.ren (rn l h.length) ∧ h' = putAll l (H'.map (Blk.ren (rn l h.length))) h := by
  refine ⟨hc.1, fun G w vs hi hvl hvr => ?_⟩
  obtain ⟨σ, hσ⟩ : ∃ σ, σ = rn l h.length := ⟨_, rfl⟩
  rw [← hσ] at hH hvr ⊢
  have hbase : h.length = G.N := hi.len
  obtain ⟨own, hown⟩ : ∃ own : Nat → Prop, own = fun b => ∃ j ∈ l, ownB h G j = some b := ⟨_, rfl⟩
  obtain ⟨G0, hG0⟩ : ∃ G0 : Gh, G0 = { N := H.length, Z := fun b => b < w.heap.size ∧ ¬ own b, S := G.S, rho := fun i => G.rho (σ i), sg := fun i => G.sg (σ i), ow := fun i => G.ow (σ i), fl := fun i => G.fl (σ i), M := G.M } := ⟨_, rfl⟩
  have hσl : ∀ i, i < H.length → ∃ j, l[i]? = some j ∧ σ i = j ∧ j ∈ l := fun i hi' => by
    have hil : i < l.length := by rw [hk]; exact hi'
    exact ⟨l[i], List.getElem?_eq_getElem hil, by rw [hσ]; exact rn_lt l _ i _ (List.getElem?_eq_getElem hil), List.getElem_mem _⟩
  have hR0 : RenOK σ G0 G := by
    subst hG0
    refine ⟨fun n hn => ?_, fun _ _ => rfl, fun _ _ => rfl, fun _ _ => rfl, fun _ _ => rfl, fun _ _ => Iff.rfl⟩
    obtain ⟨j, _, e, hj⟩ := hσl n hn
    rw [e, ← hbase]; exact hlt j hj
  have hN0 : G0.N = H.length := by rw [hG0]
  have hσH : ∀ (i : Nat) (B : Blk), H[i]? = some B → h[σ i]? = some (B.ren σ) := fun i B hB => by
    obtain ⟨j, e1, e2, _⟩ := hσl i (List.getElem?_eq_some_iff.1 hB).1
    rw [e2, hH i j e1, hB]; rfl
  have hown0 : ∀ (i : Nat) (B : Blk) (b : Nat), H[i]? = some B → B.own1 G0 i = some b → ownB h G (σ i) = some b := fun i B b hB hb' => by
    rw [ownB_of (hσH i B hB), own1_ren hR0 (by rw [hN0]; exact (List.getElem?_eq_some_iff.1 hB).1) B]; exact hb'
  have hz0 : ∀ (i : Nat) (B : Blk) (b : Nat), H[i]? = some B → B.own1 G0 i = some b → ¬ G0.Z b := fun i B b hB hb' hz => by
    rw [hG0] at hz
    refine hz.2 ?_
    rw [hown]
    obtain ⟨j, _, e2, hj⟩ := hσl i (List.getElem?_eq_some_iff.1 hB).1
    exact ⟨j, hj, by rw [← e2]; exact hown0 i B b hB hb'⟩
  have hσinj : ∀ i i', σ i = σ i' → i = i' := fun i i' e => by
    have h1 := unrn_rn hd hlt i
    have h2 := unrn_rn hd hlt i'
    rw [hσ] at e
    rw [e, h2] at h1
    exact (Option.some.inj h1).symm
  have hi0 : Inv G0 w H := by
    refine ⟨hN0.symm, fun b hz => ?_, fun b o hs => ?_, fun i B hB => ?_, fun m n b h1 h2 => ?_, by rw [hG0]; exact hi.gl⟩
    · rw [hG0] at hz; exact hz.1
    · rw [hG0] at hs; exact hi.S b o hs
    · have hiN : i < G0.N := by rw [hN0]; exact (List.getElem?_eq_some_iff.1 hB).1
      rw [List.all_eq_true] at hb
      exact BRel.unren hR0 hiN (by rw [hN0]; exact hb B (List.mem_of_getElem? hB)) (fun b hb' => hz0 i B b hB hb') (hi.blk (σ i) _ (hσH i B hB))
    · obtain ⟨B1, hB1, hb1⟩ := ownB_some h1
      obtain ⟨B2, hB2, hb2⟩ := ownB_some h2
      exact hσinj m n (hi.inj _ _ b (hown0 m B1 b hB1 hb1) (hown0 n B2 b hB2 hb2))
  refine (hc.2 G0 w vs hi0 (by rw [hvl, List.length_map]) fun i u c hu hx => ?_).mono fun e w' hp => ?_
  · rw [List.all_eq_true] at ha
    exact VRel.unren hR0 (hvr i u (c.ren σ) hu (by rw [List.getElem?_map, hx]; rfl)) c rfl (by rw [hN0]; exact ha c (List.mem_of_getElem? hx))
  · obtain ⟨v, G1, r, H', rfl, hE, hN1, hi1, hv, hK⟩ := hp
    have hH' : H'.length = G1.N := hi1.len
    rw [hN0] at hN1 hE
    obtain ⟨ps, hps⟩ : ∃ ps, ps = unrn l h.length := ⟨_, rfl⟩
    obtain ⟨G2, hG2⟩ : ∃ G2 : Gh, G2 = { N := G.N + (G1.N - H.length), Z := G.Z, S := G1.S, rho := fun n => pickN (ps n) G1.rho (G.rho n), sg := fun n => pickN (ps n) G1.sg (G.sg n), ow := fun n => pickN (ps n) G1.ow (G.ow n), fl := fun n => pickN (ps n) G1.fl (G.fl n), M := G.M } := ⟨_, rfl⟩
    have hpσ : ∀ i, ps (σ i) = some i := fun i => by rw [hps, hσ]; exact unrn_rn hd hlt i
    have hσge : ∀ i, H.length ≤ i → σ i = G.N + (i - H.length) := fun i hge => by rw [hσ, rn_ge l _ i (by omega), hbase, hk]
    have hσlt : ∀ i, i < H.length → σ i < G.N := fun i hlt' => by
      obtain ⟨j, _, e, hj⟩ := hσl i hlt'
      rw [e, ← hbase]; exact hlt j hj
    have hR1 : RenOK σ G1 G2 := by
      subst hG2
      refine ⟨fun n hn => ?_, fun n _ => by simp only [hpσ]; rfl, fun n _ => by simp only [hpσ]; rfl, fun n _ => by simp only [hpσ]; rfl, fun n _ => by simp only [hpσ]; rfl, fun _ _ => Iff.rfl⟩
      show σ n < G.N + (G1.N - H.length)
      by_cases hn' : n < H.length
      · have := hσlt n hn'; omega
      · rw [hσge n (by omega)]; omega
    have hZ1 : ∀ b, G0.Z b → G1.Z b := hE.Z.1.1
    have hZ0 : ∀ b, G.Z b → G0.Z b := fun b hz => by
      rw [hG0]
      refine ⟨hi.z b hz, fun ho => ?_⟩
      rw [hown] at ho
      obtain ⟨j, _, ho⟩ := ho
      obtain ⟨B, hB, hb'⟩ := ownB_some ho
      exact (hi.blk j B hB).notZ hb' hz
    have hE2 : Ext G.N G w G2 w' := by
      refine ⟨hE.size, fun b o hs => ?_, fun b o hs => ?_, fun n hn => ?_, fun n hn => ?_, zsame (by rw [hG2]) (by rw [hG2]), fun b hz => hE.old b (hZ0 b hz), hE.os, hE.tape, hE.output, fun b o hs => ?_⟩
      · rw [hG2]; exact hE.S b o (by rw [hG0]; exact hs)
      · exact hE.cell b o (by rw [hG0]; exact hs)
      · rw [hG2]
        show pickN (ps n) G1.rho (G.rho n) = G.rho n
        cases hp : ps n with
        | none => rfl
        | some i =>
          have e : σ i = n := by rw [hσ]; rw [hps] at hp; exact unrn_some hp
          have hi' : i < H.length := Nat.lt_of_not_le fun hge => by rw [hσge i hge] at e; omega
          show G1.rho i = G.rho n
          rw [hE.rho i hi', hG0, ← e]
      · rw [hG2]
        show (pickN (ps n) G1.fl (G.fl n) = G.fl n ∧ pickN (ps n) G1.sg (G.sg n) = G.sg n) ∨ G.fl n < pickN (ps n) G1.fl (G.fl n)
        cases hp : ps n with
        | none => exact .inl ⟨rfl, rfl⟩
        | some i =>
          have e : σ i = n := by rw [hσ]; rw [hps] at hp; exact unrn_some hp
          have hi' : i < H.length := Nat.lt_of_not_le fun hge => by rw [hσge i hge] at e; omega
          have := hE.fr i hi'
          rw [hG0] at this
          simp only [e] at this
          exact this
      · rw [hG2] at hs
        rcases hE.new b o hs with h1 | h1
        · rw [hG0] at h1; exact .inl h1
        · exact .inr fun hz => h1 (hZ0 b hz)
    have hlen : (putAll l (H'.map (Blk.ren σ)) h).length = G2.N := by
      rw [putAll_length _ _ _ (by rw [List.length_map, hk, hH']; omega), List.length_map, hH', hk, hbase, hG2]
    have hgetN : ∀ i, i < G1.N → (putAll l (H'.map (Blk.ren σ)) h)[σ i]? = (H'[i]?).map (Blk.ren σ) := fun i hi' => by
      rw [← List.getElem?_map, hσ]
      exact putAll_new l _ h i (by rw [List.length_map, hk, hH']; omega) hd hlt (by rw [List.length_map, hH']; exact hi')
    have hcase : ∀ (n : Nat) (B : Blk), (putAll l (H'.map (Blk.ren σ)) h)[n]? = some B → (∃ i B', i < G1.N ∧ n = σ i ∧ H'[i]? = some B' ∧ B = B'.ren σ) ∨ (ps n = none ∧ n ∉ l ∧ h[n]? = some B) := fun n B hB => by
      have hnlt : n < G2.N := by rw [← hlen]; exact (List.getElem?_eq_some_iff.1 hB).1
      cases hp : ps n with
      | none =>
        rw [hps] at hp
        obtain ⟨h1, h2⟩ := unrn_none hp
        exact .inr ⟨rfl, h2, by rw [← putAll_old l (H'.map (Blk.ren σ)) h n (by rw [List.length_map, hk, hH']; omega) h1 h2]; exact hB⟩
      | some i =>
        have e : σ i = n := by rw [hσ]; rw [hps] at hp; exact unrn_some hp
        have hi' : i < G1.N := Nat.lt_of_not_le fun hge => by
          rw [hσge i (by omega)] at e
          rw [hG2] at hnlt
          have : n < G.N + (G1.N - H.length) := hnlt
          omega
        rw [← e, hgetN i hi'] at hB
        cases hx : H'[i]? with
        | none => rw [hx] at hB; cases hB
        | some B' => rw [hx] at hB; cases hB; exact .inl ⟨i, B', hi', e.symm, hx, rfl⟩
    have hold : ∀ (n b : Nat), n ∉ l → ownB h G n = some b → G0.Z b := fun n b hn hb' => by
      rw [hG0]
      refine ⟨hi.ownlt hb', fun ho => ?_⟩
      rw [hown] at ho
      obtain ⟨j, hj, ho⟩ := ho
      exact hn ((hi.inj n j b hb' ho) ▸ hj)
    have hown2 : ∀ (n b : Nat), ownB (putAll l (H'.map (Blk.ren σ)) h) G2 n = some b → (∃ i, n = σ i ∧ ownB H' G1 i = some b ∧ ¬ G0.Z b) ∨ (n ∉ l ∧ ownB h G n = some b ∧ G0.Z b) := fun n b hb' => by
      obtain ⟨B, hB, hb1⟩ := ownB_some hb'
      rcases hcase n B hB with ⟨i, B', hi', rfl, hB', rfl⟩ | ⟨hp, hn, hB'⟩
      · rw [own1_ren hR1 hi'] at hb1
        exact .inl ⟨i, rfl, (ownB_of hB').trans hb1, fun hz => (hi1.blk i B' hB').notZ hb1 (hZ1 _ hz)⟩
      · have e : B.own1 G2 n = B.own1 G n := by
          subst hG2
          cases B <;> simp only [Blk.own1, hp, pickN]
        have := (ownB_of hB').trans (e ▸ hb1)
        exact .inr ⟨hn, this, hold n b hn this⟩
    refine ⟨v, G2, r.ren σ, _, rfl, hE2, by rw [hG2]; exact Nat.le_add_right _ _, ⟨hlen, fun b hz => ?_, fun b o hs => ?_, fun n B hB => ?_, fun m n b h1 h2 => ?_, hi.gl.keep hE2⟩, hv.ren hR1, r, H', hK, rfl, rfl⟩
    · rw [hG2] at hz; exact Nat.lt_of_lt_of_le (hi.z b hz) hE.size
    · rw [hG2] at hs; exact hi1.S b o hs
    · rcases hcase n B hB with ⟨i, B', hi', rfl, hB', rfl⟩ | ⟨hp, hn, hB'⟩
      · refine BRel.ren hR1 hi' (fun b hb' hz => ?_) (hi1.blk i B' hB')
        have := (hi1.blk i B' hB').notZ hb'
        rw [hG2] at hz
        exact this (hZ1 b (hZ0 b hz))
      · have hnN : n < G.N := by rw [← hi.len]; exact (List.getElem?_eq_some_iff.1 hB').1
        refine BRel.keep hnN hE2 (by rw [hG2]; exact Nat.le_add_right _ _) (by rw [hG2]; simp only [hp]; exact ⟨rfl, rfl, rfl⟩) (fun b hb' => ?_) (hi.blk n B hB')
        have hz := hold n b hn ((ownB_of hB').trans hb')
        refine ⟨hE.old b hz, fun o hns hs => ?_⟩
        rw [hG2] at hs
        rcases hE.new b o hs with h1 | h1
        · rw [hG0] at h1; exact hns h1
        · exact h1 hz
    · rcases hown2 m b h1 with ⟨i, rfl, a1, a2⟩ | ⟨a0, a1, a2⟩ <;> rcases hown2 n b h2 with ⟨j, rfl, b1, b2⟩ | ⟨b0, b1, b2⟩
      · rw [hi1.inj i j b a1 b1]
      · exact absurd b2 a2
      · exact absurd a2 b2
      · exact hi.inj m n b a1 b1
mutual
theorem ren_cong {σ τ : Nat → Nat} {k : Nat} (h : ∀ i, i < k → σ i = τ i) : ∀ x : AV, x.lowB k = true → x.ren σ = x.ren τ
  | .ptr n off, hb => by rw [AV.lowB] at hb; rw [AV.ren, AV.ren, h n (by rw [Bool.not_eq_true', ← Bool.not_eq_true, leB_iff] at hb; omega)]
  | .own n xs, hb => by rw [AV.lowB] at hb; rw [AV.ren, AV.ren, h n (by rw [Bool.not_eq_true', ← Bool.not_eq_true, leB_iff] at hb; omega)]
  | .row n off len cap q, hb => by rw [AV.lowB] at hb; rw [AV.ren, AV.ren, h n (by rw [Bool.not_eq_true', ← Bool.not_eq_true, leB_iff] at hb; omega)]
  | .mp n, hb => by rw [AV.lowB] at hb; rw [AV.ren, AV.ren, h n (by rw [Bool.not_eq_true', ← Bool.not_eq_true, leB_iff] at hb; omega)]
  | .yld n, hb => by rw [AV.lowB] at hb; rw [AV.ren, AV.ren, h n (by rw [Bool.not_eq_true', ← Bool.not_eq_true, leB_iff] at hb; omega)]
  | .vec n o len L q, hb => by rw [AV.lowB] at hb; rw [AV.ren, AV.ren, h n (by rw [Bool.not_eq_true', ← Bool.not_eq_true, leB_iff] at hb; omega)]
  | .vptr n i j L q, hb => by rw [AV.lowB] at hb; rw [AV.ren, AV.ren, h n (by rw [Bool.not_eq_true', ← Bool.not_eq_true, leB_iff] at hb; omega)]
  | .agg cs, hb => by rw [AV.lowB] at hb; rw [AV.ren, AV.ren, renL_cong h cs hb]
  | .tup cs, hb => by rw [AV.lowB] at hb; rw [AV.ren, AV.ren, renL_cong h cs hb]
  | .fn f cs, hb => by rw [AV.lowB] at hb; rw [AV.ren, AV.ren, renL_cong h cs hb]
  | .d x, _ => by rw [AV.ren, AV.ren]
  | .elt xs i off, _ => by rw [AV.ren, AV.ren]
  | .full xs, _ => by rw [AV.ren, AV.ren]
  | .hid c, _ => by rw [AV.ren, AV.ren]
  | .dead, _ => by rw [AV.ren, AV.ren]
theorem renL_cong {σ τ : Nat → Nat} {k : Nat} (h : ∀ i, i < k → σ i = τ i) : ∀ l : List AV, AV.lowL k l = true → AV.renL σ l = AV.renL τ l
  | [], _ => by rw [AV.renL, AV.renL]
  | x :: l, hb => by
    rw [AV.lowL, Bool.and_eq_true] at hb
    rw [AV.renL, AV.renL, ren_cong h x hb.1, renL_cong h l hb.2]
end
theorem blk_ren_cong {σ τ : Nat → Nat} {k : Nat} (h : ∀ i, i < k → σ i = τ i) (B : Blk) (hb : B.lowB k = true) : B.ren σ = B.ren τ := by
  cases B with
  | cells cs => rw [Blk.ren, Blk.ren, renL_cong h cs (by rw [lowL_eq]; exact hb)]
  | lp ls p as bd cs => rw [Blk.ren, Blk.ren, renL_cong h cs (by rw [lowL_eq]; exact hb)]
  | it sn cs => rw [Blk.ren, Blk.ren, renL_cong h cs (by rw [lowL_eq]; exact hb)]
  | vec e q cs =>
    rw [Blk.ren, Blk.ren]
    congr 1
    refine List.map_congr_left fun c hc => renL_cong h c ?_
    simp only [Blk.lowB, List.all_eq_true] at hb
    rw [lowL_eq, List.all_eq_true]; exact hb c hc
  | _ => rfl
theorem rn_base : ∀ (l : List Nat) (b c i : Nat), i < l.length → rn l b i = rn l c i
  | [], b, c, i, h => by simp at h
  | a :: l, b, c, 0, _ => by rw [rn, rn]
  | a :: l, b, c, i + 1, h => by rw [rn, rn]; exact rn_base l b c i (by simpa using h)
def nodupB : List Nat → Bool
  | [] => true
  | a :: l => !l.any (· == a) && nodupB l
theorem nodupB_iff : ∀ {l : List Nat}, nodupB l = true → l.Nodup
  | [], _ => List.nodup_nil
  | a :: l, h => by
    rw [nodupB, Bool.and_eq_true, Bool.not_eq_true', ← Bool.not_eq_true] at h
    rw [List.nodup_cons]
    exact ⟨fun hm => h.1 (List.any_eq_true.2 ⟨a, hm, by simp⟩), nodupB_iff h.2⟩
theorem putAll_same : ∀ (l : List Nat) (h Bs : List Blk), l.map (fun j => h[j]?) = Bs.map some → putAll l Bs h = h
  | [], h, Bs, e => by
    cases Bs with
    | nil => rw [putAll, List.append_nil]
    | cons => simp at e
  | j :: l, h, Bs, e => by
    cases Bs with
    | nil => simp at e
    | cons B Bs =>
      rw [List.map_cons, List.map_cons] at e
      injection e with e1 e2
      have hs : h.set j B = h := by
        refine List.ext_getElem? fun m => ?_
        by_cases em : j = m
        · subst em; rw [List.getElem?_set_self (List.getElem?_eq_some_iff.1 e1).1, e1]
        · rw [List.getElem?_set_ne em]
      rw [putAll, hs]; exact putAll_same l h Bs e2
section
variable {P : Program} {f : FuncId} {argsC : List AV} {H : List Blk} {l : List Nat} {h : List Blk}
theorem lay_spec {l : List Nat} {h H : List Blk} {σ : Nat → Nat} (hb : l.map (fun j => h[j]?) = H.map fun B => some (B.ren σ)) : l.length = H.length ∧ (∀ j ∈ l, j < h.length) ∧ ∀ (i j : Nat), l[i]? = some j → h[j]? = (H[i]?).map (Blk.ren σ) := by
  have h1 : l.length = H.length := by simpa using congrArg List.length hb
  have key : ∀ (i j : Nat), l[i]? = some j → ∃ B, H[i]? = some B ∧ h[j]? = some (B.ren σ) := fun i j e => by
    have hlt : i < H.length := by rw [← h1]; exact (List.getElem?_eq_some_iff.1 e).1
    have := congrArg (·[i]?) hb
    simp only [List.getElem?_map, e, List.getElem?_eq_getElem hlt, Option.map_some, Option.some.injEq] at this
    exact ⟨_, List.getElem?_eq_getElem hlt, this⟩
  refine ⟨h1, fun j hj => ?_, fun i j e => ?_⟩
  · obtain ⟨i, hi⟩ := List.mem_iff_getElem?.1 hj
    obtain ⟨B, _, h2⟩ := key i j hi
    exact (List.getElem?_eq_some_iff.1 h2).1
  · obtain ⟨B, h2, h3⟩ := key i j e
    rw [h2, h3]; rfl
theorem ACalls.rcall {r : AV} {H' : List Blk} (hc : ACalls P f argsC H fun r1 h1 => r1 = r ∧ h1 = H') (hd : nodupB l = true) (hb : l.map (fun j => h[j]?) = H.map fun B => some (B.ren (rn l h.length))) (hl : (argsC.all (AV.lowB H.length) && H.all (Blk.lowB H.length)) = true) :
    ACalls P f (argsC.map (AV.ren (rn l h.length))) h fun r1 h1 => r1 = r.ren (rn l h.length) ∧ h1 = putAll l (H'.map (Blk.ren (rn l h.length))) h := by
  rw [Bool.and_eq_true] at hl
  obtain ⟨h1, h2, h3⟩ := lay_spec hb
  exact (hc.among (nodupB_iff hd) h2 h3 h1 hl.1 hl.2).mono fun r1 h1 ⟨r2, H2, ⟨e1, e2⟩, e3, e4⟩ => by subst e1; subst e2; exact ⟨e3, e4⟩
theorem ACalls.rq {r : AV} (hc : ACalls P f argsC H fun r1 h1 => r1 = r ∧ h1 = H) (hd : nodupB l = true) (hb : l.map (fun j => h[j]?) = H.map fun B => some (B.ren (rn l 0))) (hl : (argsC.all (AV.lowB H.length) && H.all (Blk.lowB H.length) && r.lowB H.length) = true) (e : List Blk) :
    ACalls P f (argsC.map (AV.ren (rn l 0))) (h ++ e) fun r1 h1 => r1 = r.ren (rn l 0) ∧ h1 = h ++ e := by
  rw [Bool.and_eq_true, Bool.and_eq_true] at hl
  obtain ⟨⟨l1, l2⟩, l3⟩ := hl
  obtain ⟨h1, h2, _⟩ := lay_spec hb
  have hcg : ∀ i, i < H.length → rn l (h ++ e).length i = rn l 0 i := fun i hi => rn_base l _ _ i (by rw [h1]; exact hi)
  have hb1 : H.map (fun B => some (B.ren (rn l (h ++ e).length))) = H.map fun B => some (B.ren (rn l 0)) := by
    refine List.map_congr_left fun B hB => ?_
    rw [List.all_eq_true] at l2
    rw [blk_ren_cong hcg B (l2 B hB)]
  have hb2 : l.map (fun j => (h ++ e)[j]?) = H.map fun B => some (B.ren (rn l (h ++ e).length)) := by
    rw [hb1, ← hb]
    refine List.map_congr_left fun j hj => ?_
    rw [List.getElem?_append_left (h2 j hj)]
  have := hc.rcall hd hb2 (by rw [l1, l2]; rfl)
  have ha : argsC.map (AV.ren (rn l (h ++ e).length)) = argsC.map (AV.ren (rn l 0)) := by
    refine List.map_congr_left fun x hx => ?_
    rw [List.all_eq_true] at l1
    exact ren_cong hcg x (l1 x hx)
  rw [ha, ren_cong hcg r l3] at this
  refine this.mono fun r1 h1 ⟨e1, e2⟩ => ⟨e1, ?_⟩
  rw [e2]
  refine putAll_same l _ _ ?_
  rw [hb2, List.map_map]; rfl
end
end Go.Proofs.YtaiihhogoogkmaaGreatDoor
