/-
  Why the small language's operations are right, continued: composite literals, arithmetic; and the theorem on one operation.
-/
import Derived.Test.YtaiihhogoogkmaaGreatDoorAbsOp
import Derived.Laws.BytesString
import Derived.Laws.StructEq
namespace Go.Proofs.YtaiihhogoogkmaaGreatDoor
open Go.RowKit

theorem foldl_put (off : Nat) : ∀ (l : List Value) (k : Nat) (cs : Array Value), ((l.zipIdx k).foldl (fun cs (p : Value × Nat) => cs.setIfInBounds (off + p.2) p.1) cs).size = cs.size ∧
    ∀ i, off + k + l.length ≤ cs.size → ((l.zipIdx k).foldl (fun cs (p : Value × Nat) => cs.setIfInBounds (off + p.2) p.1) cs)[i]? = if off + k ≤ i ∧ i < off + k + l.length then l[i - (off + k)]? else cs[i]?
  | [], k, cs => ⟨rfl, fun i _ => by
      have h : ¬ (off + k ≤ i ∧ i < off + k + ([] : List Value).length) := by simp
      rw [if_neg h]; rfl⟩
  | u :: l, k, cs => by
    obtain ⟨h1, h2⟩ := foldl_put off l (k + 1) (cs.setIfInBounds (off + k) u)
    simp only [List.zipIdx_cons, List.foldl_cons]
    refine ⟨by rw [h1]; simp, fun i hi => ?_⟩
    simp only [List.length_cons] at hi ⊢
    rw [h2 i (by simp; omega)]
    by_cases ha : off + (k + 1) ≤ i ∧ i < off + (k + 1) + l.length
    · rw [if_pos ha, if_pos ⟨by omega, by omega⟩]
      rw [show i - (off + k) = i - (off + (k + 1)) + 1 by omega, List.getElem?_cons_succ]
    · rw [if_neg ha]
      by_cases hb : i = off + k
      · subst hb
        rw [if_pos ⟨Nat.le_refl _, by omega⟩, Nat.sub_self, List.getElem?_cons_zero, Array.getElem?_setIfInBounds_self_of_lt (by omega)]
      · rw [if_neg (by omega), Array.getElem?_setIfInBounds_ne (Ne.symm hb)]

section
variable {P : Program} {G : Gh} {w : World}
/-- two rows of cells, one the reading of the other -/
structure Row (G : Gh) (w : World) (vs : Array Value) (cs : List AV) : Prop where
  len : vs.size = cs.length
  rel : ∀ (i : Nat) (u : Value) (c : AV), vs[i]? = some u → cs[i]? = some c → VRel G w u c
  one : ∀ (i : Nat) (u : Value), vs[i]? = some u → u.oneCell' = true
theorem row_put {vs us : Array Value} {cs ys : List AV} (h : Row G w vs cs) (h' : Row G w us ys) {off : Nat} (hb : off + ys.length ≤ cs.length) :
    Row G w (us.zipIdx.foldl (fun cs (p : Value × Nat) => cs.setIfInBounds (off + p.2) p.1) vs) (splice cs off ys) := by
  have e : us.zipIdx.foldl (fun cs (p : Value × Nat) => cs.setIfInBounds (off + p.2) p.1) vs = (us.toList.zipIdx 0).foldl (fun cs (p : Value × Nat) => cs.setIfInBounds (off + p.2) p.1) vs := by
    rw [← Array.foldl_toList, Array.toList_zipIdx]
  obtain ⟨h1, h2⟩ := foldl_put off us.toList 0 vs
  rw [← e] at h1 h2
  have hl : us.toList.length = ys.length := by rw [Array.length_toList, h'.len]
  have hle : off + 0 + us.toList.length ≤ vs.size := by rw [hl, h.len]; omega
  have hs : ∀ i, (splice cs off ys)[i]? = if off + 0 ≤ i ∧ i < off + 0 + us.toList.length then ys[i - off]? else cs[i]? := fun i => by
    unfold splice
    rw [List.append_assoc]
    by_cases ha : i < off
    · rw [List.getElem?_append_left (by simp; omega), List.getElem?_take_of_lt ha, if_neg (by omega)]
    · rw [List.getElem?_append_right (by simp; omega)]
      simp only [List.length_take]
      rw [Nat.min_eq_left (by omega)]
      by_cases hb : i - off < ys.length
      · rw [List.getElem?_append_left hb, if_pos (by omega)]
      · rw [List.getElem?_append_right (by omega), List.getElem?_drop, if_neg (by omega), show off + ys.length + (i - off - ys.length) = i by omega]
  refine ⟨by rw [h1, splice_length _ _ _ hb, h.len], fun i u c hu hc => ?_, fun i u hu => ?_⟩
  · rw [h2 i hle] at hu
    rw [hs] at hc
    split at hu
    · rename_i hp
      rw [if_pos hp] at hc
      exact h'.rel _ _ _ (by rw [← Array.getElem?_toList]; exact hu) hc
    · rename_i hp
      rw [if_neg hp] at hc
      exact h.rel _ _ _ hu hc
  · rw [h2 i hle] at hu
    split at hu
    · exact h'.one _ _ (by rw [← Array.getElem?_toList]; exact hu)
    · exact h.one _ _ hu
theorem VRel.toRow {u : Value} {x : AV} (h : VRel G w u x) (hb : x.boxB = true) : Row G w u.cells x.cells := by
  obtain ⟨h1, h2⟩ := h.cells hb
  refine ⟨h1, fun i v c hv hc => (h2 i v c hv hc).1, fun i v hv => ?_⟩
  have hlt : i < x.cells.length := by rw [← h1]; exact (Array.getElem?_eq_some_iff.1 hv).1
  exact (h2 i v _ hv (List.getElem?_eq_getElem hlt)).2
theorem fill_row (place : Nat → Option (Nat × Nat)) (places : List (Nat × Nat)) (hp : ∀ i pl, places[i]? = some pl → place i = some pl) : ∀ (ps : List (Nat × AV)) (qs : List (Nat × Value)) (cs cs' : List AV) (vs : Array Value), Row G w vs cs →
    qs.length = ps.length → (∀ (i : Nat) (p : Nat × AV) (q : Nat × Value), ps[i]? = some p → qs[i]? = some q → q.1 = p.1 ∧ VRel G w q.2 p.2) → (ps.all fun p => p.2.boxB) = true → fillA places cs ps = some cs' →
    ∃ vs', Instr.fill place vs qs = some vs' ∧ Row G w vs' cs'
  | [], [], cs, cs', vs, h, _, _, _, hf => by
    simp only [fillA, Option.some.injEq] at hf
    subst hf
    exact ⟨vs, rfl, h⟩
  | [], _ :: _, _, _, _, _, hl, _, _, _ => by simp at hl
  | _ :: _, [], _, _, _, _, hl, _, _, _ => by simp at hl
  | (j, x) :: ps, (j', u) :: qs, cs, cs', vs, h, hl, hr, hb, hf => by
    obtain ⟨e1, e2⟩ := hr 0 (j, x) (j', u) rfl rfl
    simp only at e1 e2
    subst e1
    simp only [List.all_cons, Bool.and_eq_true] at hb
    unfold fillA at hf
    split at hf
    · rename_i off k hpl
      rw [cond_eq_ite] at hf
      split at hf
      · rename_i hc
        simp only [Bool.and_eq_true, beq_iff_eq, leB_iff] at hc
        have hrow := e2.toRow hb.1
        obtain ⟨vs', h1, h2⟩ := fill_row place places hp ps qs _ cs' _ (row_put h hrow (by rw [hc.1]; exact hc.2)) (by simpa using hl) (fun i p q hp hq => hr (i + 1) p q (by simpa using hp) (by simpa using hq)) hb.2 hf
        refine ⟨vs', ?_, h2⟩
        unfold Instr.fill
        rw [hp _ _ hpl]
        have h3 : ¬ (u.cells.size ≠ k || decide (off + u.cells.size > vs.size)) = true := by
          rw [hrow.len, hc.1, h.len]
          simp
          exact hc.2
        simp only [h3]
        exact h1
      · cases hf
    · cases hf
theorem all_toList {z : Array Value} (h : z.toList.all Value.oneCell' = true) : z.all (·.oneCell') = true := by
  rw [List.all_eq_true] at h
  exact Array.all_eq_true_iff_forall_mem.2 fun u hu => h u (Array.mem_toList_iff.2 hu)
theorem zero_row (z : Value) (h : z.cells.all (·.oneCell') = true) : Row G w z.cells (z.cells.toList.map fun u => .d (.v u)) := by
  refine ⟨by simp, fun i u c hu hc => ?_, fun i u hu => Array.all_eq_true_iff_forall_mem.1 h u (Array.mem_of_getElem? hu)⟩
  rw [List.getElem?_map, Array.getElem?_toList, hu] at hc
  cases hc
  exact .d (.v u)

theorem run_flds : ∀ (fs : List Field) (ps : List (Nat × Nat)) (w : World), fldsT P fs = some ps → (fs.mapM (m := Sem) fun f => do pure (f.offset, ← sizeOf f.type)).run P w = .ok ps w
  | [], ps, w, h => by simp [fldsT] at h; subst h; simp
  | f :: fs, ps, w, h => by
    unfold fldsT at h
    simp only [List.mapM_cons, Option.bind_eq_bind, Option.bind_eq_some_iff, Option.map_eq_some_iff, Option.pure_def, Option.some.injEq] at h
    obtain ⟨p, ⟨k, hk, rfl⟩, qs, hq, rfl⟩ := h
    have ih := run_flds fs qs w hq
    simp only [List.mapM_cons, Sem.run_bind, run_szT hk, Sem.run_pure, Result.andThen_ok, ih]
theorem run_aBuild {T : Nat} {ps : List (Nat × AV)} {qs : Array (Nat × Value)} {C : AV → Prop} (hl : qs.toList.length = ps.length)
    (hr : ∀ (i : Nat) (p : Nat × AV) (q : Nat × Value), ps[i]? = some p → qs.toList[i]? = some q → q.1 = p.1 ∧ VRel G w q.2 p.2) (h : aBuild P T ps C) : ∃ u y, (Instr.build T qs).run P w = .ok u w ∧ VRel G w u y ∧ C y := by
  unfold aBuild at h
  split at h
  · rename_i places z hfp hz
    obtain ⟨fs, hT, hpl⟩ : ∃ fs, P.underlying T = some (.struct fs) ∧ fldsT P fs.toList = some places := by
      unfold fldsP at hfp
      split at hfp
      · exact ⟨_, by assumption, hfp⟩
      · cases hfp
    · split at h
      · rename_i cs hf
        obtain ⟨hall, hC⟩ := chk_iff.1 h
        simp only [Bool.and_eq_true] at hall
        obtain ⟨hb, hone⟩ := hall
        have hone := all_toList hone
        have hfl : (fs.mapM (m := Sem) fun f => do pure (f.offset, ← sizeOf f.type)).run P w = .ok places.toArray w := by
          rw [Array.mapM_eq_mapM_toList]
          have := run_flds fs.toList places w hpl
          have e : (List.toArray <$> (fs.toList.mapM (m := Sem) fun f => do pure (f.offset, ← sizeOf f.type)) : Sem _) = (fs.toList.mapM (m := Sem) fun f => do pure (f.offset, ← sizeOf f.type)) >>= fun l => pure l.toArray := rfl
          rw [e, Sem.run_bind, this]
          rfl
        obtain ⟨vs', h1, h2⟩ := fill_row (fun i => places.toArray[i]?) places (fun i pl h => by simpa using h) ps qs.toList _ cs z.cells (zero_row (G := G) (w := w) z hone) hl hr hb hf
        refine ⟨.agg vs', .agg cs, ?_, .agg vs' cs h2.len h2.rel, hC⟩
        unfold Instr.build
        simp only [Sem.run_bind, run_zeroT hz, Result.andThen_ok, run_underlying hT, hfl, h1, Sem.run_pure]
      · exact h.elim
  · exact h.elim
theorem boolT_spec {T : Nat} (h : boolT P T = true) : P.underlying T = some .bool := by
  unfold boolT at h
  split at h
  · assumption
  · cases h
theorem intT_spec {T : Nat} {k : IntKind} (h : intT P T = some k) : P.underlying T = some (.int k) := by
  unfold intT at h
  split at h
  · cases h; assumption
  · cases h
theorem run_part1 {t off : Nat} {vs : Array Value} {u : Value} (ha : aggT P t = some false) (hu : vs[off]? = some u) : (part t vs off).run P w = .ok u w := by
  unfold part
  rw [Sem.run_bind, run_aggT ha w]
  simp [hu]
theorem run_eq1 {t : Nat} {u v : Value} {x y : AV} {b : Bool} (d : Nat) (hu : VRel G w u x) (hv : VRel G w v y) (h : eq1 P t x y = some b) : (Op.equalIn (d + 1) t u v).run P w = .ok b w := by
  unfold eq1 at h
  split at h
  · have e1 := hu.val
    have e2 := hv.val
    subst e1; subst e2
    rename_i k a k' b'
    cases hc : kEq k k' && (intT P t).isSome with
    | false => rw [hc] at h; cases h
    | true =>
      rw [hc] at h; cases h
      rw [Bool.and_eq_true, kEq_iff] at hc
      obtain ⟨rfl, hc⟩ := hc
      obtain ⟨k2, hk⟩ := Option.isSome_iff_exists.1 hc
      exact run_equalIn_int w d t k k2 a b' (intT_spec hk)
  · have e1 := hu.val
    have e2 := hv.val
    subst e1; subst e2
    cases hc : strT P t with
    | false => rw [hc] at h; cases h
    | true => rw [hc] at h; cases h; rw [← bL_eq, ← bL_eq]; exact run_equalIn_string w d t _ _ (strT_spec hc)
  · have e1 := hu.val
    have e2 := hv.val
    subst e1; subst e2
    cases hc : boolT P t with
    | false => rw [hc] at h; cases h
    | true => rw [hc] at h; cases h; exact run_equalIn_bool w d t _ _ (boolT_spec hc)
  · cases h
theorem run_eqF {us vs : Array Value} {xs ys : List AV} (d : Nat) (hx : us.size = xs.length) (hy : vs.size = ys.length)
    (hu : ∀ (i : Nat) (u : Value) (c : AV), us[i]? = some u → xs[i]? = some c → VRel G w u c) (hv : ∀ (i : Nat) (u : Value) (c : AV), vs[i]? = some u → ys[i]? = some c → VRel G w u c) :
    ∀ (fs : List Field) (b : Bool), eqF P fs xs ys = some b → (Op.eqFields (d + 1) us vs fs).run P w = .ok b w
  | [], b, h => by cases h; simp [Op.eqFields]
  | f :: fs, b, h => by
    unfold eqF at h
    cases hn : f.name == "_" with
    | true => rw [hn] at h; cases h
    | false =>
      rw [hn] at h
      simp only [cond_false] at h
      have hne : f.name ≠ "_" := by simpa using hn
      split at h
      · next x y e1 e2 e3 =>
        split at h
        · next a c e4 e5 =>
          cases h
          have l1 : f.offset < us.size := by rw [hx]; exact (List.getElem?_eq_some_iff.1 e2).1
          have l2 : f.offset < vs.size := by rw [hy]; exact (List.getElem?_eq_some_iff.1 e3).1
          have g1 := Array.getElem?_eq_getElem l1
          have g2 := Array.getElem?_eq_getElem l2
          simp only [Op.eqFields, if_pos hne, Sem.run_bind, run_part1 (w := w) e1 g1, run_part1 (w := w) e1 g2, Result.andThen_ok, run_eq1 d (hu _ _ _ g1 e2) (hv _ _ _ g2 e3) e4]
          cases a with
          | true => simp only [Bool.not_true, Bool.false_eq_true, if_false, Bool.true_and]; exact run_eqF d hx hy hu hv fs c e5
          | false => simp
        · cases h
      · cases h
theorem run_eqS {T : Nat} {us vs : Array Value} {xs ys : List AV} {b : Bool} (hx : us.size = xs.length) (hy : vs.size = ys.length)
    (hu : ∀ (i : Nat) (u : Value) (c : AV), us[i]? = some u → xs[i]? = some c → VRel G w u c) (hv : ∀ (i : Nat) (u : Value) (c : AV), vs[i]? = some u → ys[i]? = some c → VRel G w u c) (h : eqS P T xs ys = some b) :
    P.eqGuardType P.depth T = false ∧ (Op.equalIn 10000 T (.agg us) (.agg vs)).run P w = .ok b w := by
  unfold eqS at h
  split at h
  · next fs hT =>
    cases hc : P.stoodInHeld T || P.eqGuardType P.depth T with
    | true => rw [hc] at h; cases h
    | false =>
      rw [hc] at h
      rw [Bool.or_eq_false_iff] at hc
      refine ⟨hc.2, ?_⟩
      have hf : P.fieldsOf T = fs := by unfold Program.fieldsOf; rw [hT]
      rw [run_equalIn_struct w 9999 T us vs (by rw [hf]; exact hT) hc.1, hf]
      exact run_eqF 9998 hx hy hu hv _ b h
  · cases h
theorem run_aBin {op : BinOp} {x y : AV} {u v : Value} {T : Nat} {X Y : Operand} {C : AV → Prop} (hu : VRel G w u x) (hv : VRel G w v y) (h : aBin P T op x y C) :
    ∃ r z, (do eqGuard op T X Y u v; binOp op T u v : Sem Value).run P w = .ok r w ∧ VRel G w r z ∧ C z := by
  unfold aBin at h
  split at h
  · rename_i k a k' b
    have e1 := hu.val
    have e2 := hv.val
    subst e1
    subst e2
    have hg : (eqGuard op T X Y (.int k a) (.int k' b)).run P w = .ok () w := by unfold eqGuard; cases op <;> simp
    rw [Sem.run_bind, hg]
    simp only [Result.andThen_ok]
    split at h
    · rename_i z hq
      obtain ⟨hkk, hp, hC⟩ := chk_iff.1 h
      rw [kEq_iff] at hkk
      subst hkk
      refine ⟨z, _, ?_, .d (.v z), hC⟩
      cases op <;> simp [binQ] at hq <;> subst hq <;> simp [binOp, Op.intDiv, hp]
    · split at h
      · rename_i z hq
        refine ⟨z, _, ?_, .d (.v z), h.2⟩
        have hb : ¬ b < 0 := by omega
        cases op <;> simp [shI] at hq <;> subst hq <;> simp [binOp, Op.shift, hb]
      · split at h
        · rename_i z hq
          obtain ⟨hkk, hC⟩ := chk_iff.1 h
          rw [kEq_iff] at hkk
          subst hkk
          refine ⟨z, _, ?_, .d (.v z), hC⟩
          cases op <;> simp [binI] at hq <;> subst hq <;> simp [binOp, Op.intArith, Op.intCmp, Op.intBits]
        · exact h.elim
  · rename_i a b
    have e1 := hu.val
    have e2 := hv.val
    subst e1
    subst e2
    have hg : (eqGuard op T X Y (.string a) (.string b)).run P w = .ok () w := by unfold eqGuard; cases op <;> simp
    rw [Sem.run_bind, hg]
    simp only [Result.andThen_ok]
    split at h
    · rename_i z hq
      refine ⟨z, _, ?_, .d (.v z), h⟩
      cases op <;> simp [binS] at hq <;> subst hq <;> simp [binOp, Op.stringOp, bL_eq]
    · split at h
      · refine ⟨_, _, ?_, .d (.v _), h.2⟩
        have hm : ¬ (((a.size + b.size : Nat) : Int) > IntKind.i64.max) := by
          have := h.1
          unfold maxLen at this
          have e : IntKind.i64.max = 9223372036854775807 := by decide
          rw [e]; omega
        simp only [binOp, Op.stringOp]
        rw [if_neg hm]; rfl
      · exact h.elim
  · rename_i a b
    have e1 := hu.val
    have e2 := hv.val
    subst e1
    subst e2
    have hg : (eqGuard op T X Y (.bool a) (.bool b)).run P w = .ok () w := by unfold eqGuard; cases op <;> simp
    rw [Sem.run_bind, hg]
    simp only [Result.andThen_ok]
    split at h
    · rename_i z hq
      obtain ⟨hT, hC⟩ := chk_iff.1 h
      have hT := boolT_spec hT
      refine ⟨z, _, ?_, .d (.v z), hC⟩
      have hb := run_equalIn_bool (P := P) w 9999 T a b hT
      cases op <;> simp [binB] at hq <;> subst hq <;> simp [binOp, Op.equal, Op.maxDepth, hb]
    · exact h.elim
  · rename_i xs ys
    cases hu with
    | agg us _ hl1 hr1 =>
      cases hv with
      | agg vs _ hl2 hr2 =>
        split at h
        · next b hb =>
          obtain ⟨hg, he⟩ := run_eqS hl1 hl2 hr1 hr2 hb
          rw [Sem.run_bind, run_eqGuard_agg w op T X Y us vs hg]
          simp only [Result.andThen_ok]
          split at h
          · next z hz =>
            refine ⟨z, _, ?_, .d (.v z), h⟩
            cases op <;> simp [eqV] at hz <;> subst hz
            · rw [run_eql_struct, he]; rfl
            · rw [run_neq_struct, he]; rfl
          · exact h.elim
        · exact h.elim
  · exact h.elim
theorem run_aUn {op : UnOp} {x : AV} {u : Value} {C : AV → Prop} (hu : VRel G w u x) (h : aUn op x C) : ∃ r z, (Op.unary op u).run P w = .ok r w ∧ VRel G w r z ∧ C z := by
  unfold aUn at h
  split at h
  · rename_i v
    have e := hu.val
    subst e
    split at h
    · rename_i z hq
      refine ⟨z, _, ?_, .d (.v z), h⟩
      unfold unV at hq
      split at hq
      · cases hq; simp [Op.unary]
      · cases hq; simp [Op.unary, Op.intArith]
      · cases hq; simp [Op.unary, Op.intBits]
      · cases hq
    · exact h.elim
  · exact h.elim
theorem u8T_spec {T : Nat} (h : u8T P T = true) : P.underlying T = some (.int .u8) := by
  unfold u8T at h
  split at h
  · assumption
  · cases h
theorem run_aConv {a b : Nat} {x : AV} {u : Value} {C : AV → Prop} (hu : VRel G w u x) (h : aConv P a b x C) : ∃ r z, (convert a b u).run P w = .ok r w ∧ VRel G w r z ∧ C z := by
  unfold aConv at h
  split at h
  · rename_i k2 m
    have e := hu.val
    subst e
    split at h
    · rename_i k1 k h1 h2
      refine ⟨_, _, ?_, .d (.v _), h⟩
      simp [convert, run_underlying (intT_spec h1), run_underlying (intT_spec h2), Conv.intToInt]
    · exact h.elim
  · rename_i s
    have e := hu.val
    subst e
    obtain ⟨hall, hC⟩ := chk_iff.1 h
    rw [Bool.and_eq_true] at hall
    refine ⟨_, _, ?_, .d (.v _), hC⟩
    simp [convert, run_underlying (strT_spec hall.1), run_underlying (strT_spec hall.2)]
  · split at h
    · rename_i xs e k hxs hT
      obtain ⟨hall, ns, rfl, hC⟩ := chk_iff.1 h
      rw [Bool.and_eq_true] at hall
      refine ⟨_, _, ?_, .d (.v _), hC⟩
      obtain ⟨A, bb, o, cc, k', us, rfl, hA, hlc, hcm, hk', hS, hus⟩ := (hu.list hxs).sl_iff
      rw [run_convert_bytes_string w a b e A _ cc (elmT_spec hT).1 (u8T_spec hall.1) (strT_spec hall.2)]
      simp only [List.length_map] at hA hlc hS ⊢
      cases ns with
      | nil =>
        cases A with
        | none => rfl
        | some ad =>
          have hl := run_loadCells_list (P := P) w ad (([] : List Int).map (Value.int .u8)) (fun j v hj => by simp at hj)
          simp only [List.map_nil, List.length_nil] at hl
          have := run_bytesToString (P := P) w ad 0 cc [] (by simpa using hl)
          exact this
      | cons n0 ns =>
        have hA' := hA (by simp)
        subst hA'
        have hk1 : k' = 1 := (hk' [.v (.int .u8 n0)] (by simp)).symm
        subst hk1
        have hl := run_loadCells_list (P := P) w ⟨bb, o, none⟩ ((n0 :: ns).map (Value.int .u8)) (fun j v hj => by
          have hlt := (List.getElem?_eq_some_iff.1 hj).1
          rw [List.length_map] at hlt
          have h1 := (hS j 0 hlt (by omega)).2.1
          rw [List.getElem?_map, List.getElem?_eq_getElem hlt] at hj
          cases hj
          have h2 := hus j 0 [.v (.int .u8 ((n0 :: ns)[j]))] (.v (.int .u8 ((n0 :: ns)[j]))) (by rw [List.getElem?_map, List.getElem?_eq_getElem hlt]; rfl) rfl
          have h3 : us j 0 = .int .u8 ((n0 :: ns)[j]) := by
            generalize us j 0 = q at h2
            cases h2; rfl
          rw [add_off]
          rw [h3] at h1
          simpa using h1)
        rw [List.length_map] at hl
        rw [run_bytesToString w _ _ cc _ hl]
        have key : ∀ (l : List Int) (r : ByteArray), l.foldl (fun r n => r.push (UInt8.ofNat n.toNat)) r = ⟨r.data ++ (l.map fun n => UInt8.ofNat n.toNat).toArray⟩ := by
          intro l
          induction l with
          | nil => intro r; simp
          | cons x l ih => intro r; rw [List.foldl_cons, ih]; simp [ByteArray.push]
        rw [key]
        have he0 : ByteArray.empty.data = #[] := rfl
        rw [he0]; simp
    · exact h.elim
theorem fldT_spec {T f off k : Nat} {g : Bool} (h : fldT P T f = some (off, k, g)) : ∃ fs fd, P.underlying T = some (.struct fs) ∧ fs[f]? = some fd ∧ szT P fd.type = some k ∧ 0 < k ∧ aggT P fd.type = some g ∧ fd.offset = off := by
  unfold fldT at h
  split at h
  · rename_i fs hT
    split at h
    · rename_i fd hf
      split at h
      · rename_i k' g' h1 h2
        cases h
        exact ⟨fs, fd, hT, hf, h1, Nat.succ_pos _, h2, rfl⟩
      · cases h
    · cases h
  · cases h
theorem run_fieldAddr {T f off k o b : Nat} {g : Bool} (h : fldT P T f = some (off, k, g)) : (Instr.fieldAt T (.pointer (some ⟨b, o, none⟩)) f).run P w = .ok (.pointer (some ⟨b, o + off, none⟩)) w := by
  obtain ⟨fs, fd, h1, h2, h3, h4, h5, rfl⟩ := fldT_spec h
  simp [Instr.fieldAt, run_underlying h1, h2, Instr.sureAddr, fieldPlace, run_szT h3, Nat.ne_of_gt h4, add_off]
theorem run_aField {T f : Nat} {x : AV} {u : Value} {C : AV → Prop} (hu : VRel G w u x) (h : aField P T x f C) : ∃ r z, (Instr.field T u f).run P w = .ok r w ∧ VRel G w r z ∧ C z := by
  unfold aField at h
  split at h
  · rename_i off k cs hT
    obtain ⟨hl, hC⟩ := chk_iff.1 h
    rw [leB_iff] at hl
    obtain ⟨fs, fd, h1, h2, h3, h4, h5, rfl⟩ := fldT_spec hT
    cases hu with
    | agg vs _ hlen hr =>
      refine ⟨.agg (vs.extract fd.offset (fd.offset + k)), _, ?_, .agg _ _ ?_ fun i u c hu hc => ?_, hC⟩
      · simp [Instr.field, run_underlying h1, h2, asAgg, part, run_aggT h5, run_szT h3]
      · simp; omega
      · rw [Array.getElem?_extract] at hu
        rw [List.getElem?_take] at hc
        split at hc
        · rw [List.getElem?_drop] at hc
          split at hu
          · exact hr _ u c hu hc
          · cases hu
        · cases hc
  · rename_i off k cs hT
    obtain ⟨fs, fd, h1, h2, h3, h4, h5, rfl⟩ := fldT_spec hT
    split at h
    · rename_i c hc
      cases hu with
      | agg vs _ hlen hr =>
        have hlt : fd.offset < vs.size := by rw [hlen]; exact (List.getElem?_eq_some_iff.1 hc).1
        refine ⟨vs[fd.offset], c, ?_, hr _ _ c (Array.getElem?_eq_getElem hlt) hc, h⟩
        simp [Instr.field, run_underlying h1, h2, asAgg, part, run_aggT h5, Array.getElem?_eq_getElem hlt]
    · exact h.elim
  · exact h.elim
end
end Go.Proofs.YtaiihhogoogkmaaGreatDoor
