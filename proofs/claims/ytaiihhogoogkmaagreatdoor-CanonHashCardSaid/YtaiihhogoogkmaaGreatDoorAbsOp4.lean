/-
  Why the small language's operations are right: the theorem on one operation.
-/
import Derived.Test.YtaiihhogoogkmaaGreatDoorAbsVec2
import Derived.Laws.Cover3
namespace Go.Proofs.YtaiihhogoogkmaaGreatDoor
open Go.RowKit

section
variable {P : Program} {r : Option Nat} {n N0 : Nat} {G : Gh} {w : World} {a : Act} {s : St} {o : Oper} {K : St → Prop} {Q : Exit → Act → World → Prop}
theorem sat_args (hs : Sat G w a s) (l : Array Operand) : (l.map a.eval).size = (l.toList.map (ev s)).length ∧ ∀ (i : Nat) (u : Value) (c : AV), (l.map a.eval)[i]? = some u → (l.toList.map (ev s))[i]? = some c → VRel G w u c := by
  refine ⟨by simp, fun i u c hu hc => ?_⟩
  rw [Array.getElem?_map] at hu
  rw [List.getElem?_map, Array.getElem?_toList] at hc
  cases hx : l[i]? with
  | none => rw [hx] at hu; cases hu
  | some x => rw [hx] at hu hc; cases hu; cases hc; exact hs.ev x
theorem sat_parts (hs : Sat G w a s) (l : Array (Nat × Operand)) : (l.map fun (i, x) => (i, a.eval x)).toList.length = (l.toList.map fun p => (p.1, ev s p.2)).length ∧
    ∀ (i : Nat) (p : Nat × AV) (q : Nat × Value), (l.toList.map fun p => (p.1, ev s p.2))[i]? = some p → (l.map fun (i, x) => (i, a.eval x)).toList[i]? = some q → q.1 = p.1 ∧ VRel G w q.2 p.2 := by
  refine ⟨by simp, fun i p q hp hq => ?_⟩
  rw [Array.getElem?_toList, Array.getElem?_map] at hq
  rw [List.getElem?_map, Array.getElem?_toList] at hp
  cases hx : l[i]? with
  | none => rw [hx] at hp; cases hp
  | some x => rw [hx] at hp hq; cases hp; cases hq; exact ⟨rfl, hs.ev x.2⟩
theorem run_append_op {x y : Operand} {T U : TypeId} (c : Call) (hc : c.callee = .builtin .append) (h1 : c.args.toList = [x, y]) (h2 : c.argTypes.toList = [T, U]) (ho : o.op = .call c) :
    (execOp a.eval o).run P w = ((Builtin.append_ #[T, U] o.type #[a.eval x, a.eval y]).run P w).andThen fun v w' => .ok (.value v) w' := by
  have e1 : c.args = #[x, y] := by rw [← Array.toList_inj]; exact h1
  have e2 : c.argTypes = #[T, U] := by rw [← Array.toList_inj]; exact h2
  unfold execOp
  simp only [ho, resolve, hc, e1, e2, invoke, builtin, Sem.run_bind, Sem.run_pure, Result.andThen_ok, List.map_toArray, List.map_cons, List.map_nil]
theorem run_len_op {x : Operand} {T : TypeId} (c : Call) (hc : c.callee = .builtin .len) (h1 : c.args.toList = [x]) (h2 : c.argTypes.toList = [T]) (ho : o.op = .call c) :
    (execOp a.eval o).run P w = ((Builtin.len_ #[T] o.type #[a.eval x]).run P w).andThen fun v w' => .ok (.value v) w' := by
  have e1 : c.args = #[x] := by rw [← Array.toList_inj]; exact h1
  have e2 : c.argTypes = #[T] := by rw [← Array.toList_inj]; exact h2
  unfold execOp
  simp only [ho, resolve, hc, e1, e2, invoke, builtin, Sem.run_bind, Sem.run_pure, Result.andThen_ok, List.map_toArray, List.map_cons, List.map_nil]
theorem run_max_op (c : Call) (hc : c.callee = .builtin .max) (ho : o.op = .call c) :
    (execOp a.eval o).run P w = ((Builtin.max_ c.argTypes o.type (c.args.map a.eval)).run P w).andThen fun v w' => .ok (.value v) w' := by
  unfold execOp
  simp only [ho, resolve, hc, invoke, builtin, Sem.run_bind, Sem.run_pure, Result.andThen_ok]
theorem run_min_op (c : Call) (hc : c.callee = .builtin .min) (ho : o.op = .call c) :
    (execOp a.eval o).run P w = ((Builtin.min_ c.argTypes o.type (c.args.map a.eval)).run P w).andThen fun v w' => .ok (.value v) w' := by
  unfold execOp
  simp only [ho, resolve, hc, invoke, builtin, Sem.run_bind, Sem.run_pure, Result.andThen_ok]
theorem run_foldI1 {mx : Bool} {k k' : IntKind} {z : Int} : ∀ (l : List AV) (vs : List Value) (x : Int), vs.length = l.length → (∀ (i : Nat) (u : Value) (c : AV), vs[i]? = some u → l[i]? = some c → VRel G w u c) → foldI1 mx k x l = some (k', z) →
    (vs.foldlM (if mx then Builtin.max2 else Builtin.min2) (.int k x)).run P w = .ok (.int k' z) w
  | [], [], x, _, _, h => by cases h; simp
  | [], _ :: _, _, hl, _, _ => by simp at hl
  | _ :: _, [], _, hl, _, _ => by simp at hl
  | y :: l, u :: vs, x, hl, hr, h => by
    unfold foldI1 at h
    split at h
    · next e => cases e
    · next k2 b l' e =>
      cases e
      have e1 := (hr 0 u _ rfl rfl).val
      subst e1
      have ih := run_foldI1 l vs _ (by simpa using hl) (fun i u c hu hc => hr (i + 1) u c (by simpa using hu) (by simpa using hc)) h
      rw [List.foldlM_cons, Sem.run_bind]
      cases mx with
      | true => simp only [if_true, cond_true] at ih ⊢; simp only [Builtin.max2, Sem.run_pure, Result.andThen_ok]; exact ih
      | false => simp only [Bool.false_eq_true, if_false, cond_false] at ih ⊢; simp only [Builtin.min2, Sem.run_pure, Result.andThen_ok]; exact ih
    · cases h
theorem run_foldI {mx : Bool} {k : IntKind} {z : Int} {l : List AV} {vs : Array Value} (hl : vs.size = l.length) (hr : ∀ (i : Nat) (u : Value) (c : AV), vs[i]? = some u → l[i]? = some c → VRel G w u c) (h : foldI mx l = some (k, z)) :
    ∃ u us, vs.toList = u :: us ∧ (us.foldlM (if mx then Builtin.max2 else Builtin.min2) u).run P w = .ok (.int k z) w := by
  unfold foldI at h
  split at h
  · next k2 x l' =>
    cases hv : vs.toList with
    | nil => rw [← Array.length_toList, hv] at hl; simp at hl
    | cons u us =>
      refine ⟨u, us, rfl, ?_⟩
      have hr' : ∀ (i : Nat) (v : Value) (c : AV), (u :: us)[i]? = some v → (AV.d (.v (.int k2 x)) :: l')[i]? = some c → VRel G w v c := fun i v c h1 h2 => hr i v c (by rw [← Array.getElem?_toList, hv]; exact h1) h2
      have e1 := (hr' 0 u _ rfl rfl).val
      subst e1
      refine run_foldI1 l' us x ?_ (fun i v c h1 h2 => hr' (i + 1) v c (by simpa using h1) (by simpa using h2)) h
      rw [← Array.length_toList, hv] at hl; simpa using hl
  · cases h
theorem run_enter {f : FuncId} (h : enterB P f = true) (args : Array Value) (w : World) : (callFunc f args).run P w = .ok (.enter f args) w := by
  unfold enterB at h
  cases hq : P.funcs[f]? with
  | none => rw [hq] at h; simp at h
  | some fn =>
    rw [hq] at h
    simp only [Bool.and_eq_true, Bool.not_eq_true'] at h
    obtain ⟨h1, h2⟩ := h
    have h3 : fn.body ≠ none := by intro e; rw [e] at h1; cases h1
    have h4 : fn.name ≠ "runtime.NumGoroutine" := by simpa using h2
    simp [callFunc, hq, h4, h3]

theorem opX_sound (hs : Sat G w a s) (hN0 : N0 ≤ G.N) {x : AV} {h' : List Blk} {p : Sd} (hx : opX P o.op (ev s) s.h = some (x, h', p)) (hp : p.ok) (hK : K ((s.wh h').put o.dst x)) : o.wpIn (WF r) n P a w (NxT N0 G w K) Q := by
  have hev := hs.ev
  unfold opX at hx
  split at hx
  next T ho =>
    split at hx
    · next q hT =>
      cases hx
      obtain ⟨i1, i2, i3⟩ := inv_map_alloc hs.inv
      exact fin_val (by rw [ho]; simp) hs hN0 (v := .map (some w.heap.size)) (by unfold execOp; simp [ho, run_makeMap, Result.andThen]) i1 (Nat.le_succ _) i2 i3 hK
    · cases hx
  next T m i ok ho =>
    split at hx
    · next k e hT =>
      split at hx
      · next z hz =>
        split at hx
        · next b s' hm hi =>
          split at hx
          · next kv hn =>
            cases hc : strT P k && z.oneCell' with
            | false => rw [hc] at hx; cases hx
            | true =>
              rw [hc] at hx
              cases hx
              rw [Bool.and_eq_true] at hc
              obtain ⟨v, r1, r2⟩ := run_lookup (ok := ok) (s := s') hs.inv hT hz hc.1 hn
              have e1 := hev m
              rw [hm] at e1
              have e2 := hev i
              rw [hi] at e2
              have e2 := e2.val
              have e1' : a.eval m = .map (some (G.rho b)) := by
                generalize a.eval m = u at e1
                cases e1 with | mp _ _ => rfl
              exact fin_same (by rw [ho]; simp) hs hN0 (by unfold execOp; simp [ho, e1', e2, r1, Result.andThen]) r2 hK
          · cases hx
        · cases hx
      · cases hx
    · cases hx
  next T m i y ho =>
    split at hx
    · next k e hT =>
      split at hx
      · next b s' d hm hi hd =>
        split at hx
        · next kv hn =>
          cases hc : strT P k with
          | false => rw [hc] at hx; cases hx
          | true =>
            rw [hc] at hx
            cases hx
            obtain ⟨w', r1, r2, r3⟩ := run_mapUpd (s := s') hs.inv hT hc hn ((hev y).toD hd) hp
            have e1 := hev m
            rw [hm] at e1
            have e2 := hev i
            rw [hi] at e2
            have e2 := e2.val
            have e1' : a.eval m = .map (some (G.rho b)) := by
              generalize a.eval m = u at e1
              cases e1 with | mp _ _ => rfl
            exact fin_skip (by rw [ho]; simp) hs hN0 (by unfold execOp; simp [ho, e1', e2, r1, Result.andThen]) r2 (Nat.le_refl _) r3 hK
        · cases hx
      · cases hx
    · cases hx
  next => cases hx
theorem aop_sound (hs : Sat G w a s) (hN0 : N0 ≤ G.N) (h : aop P o K s) : o.wpIn (WF r) n P a w (NxT N0 G w K) Q := by
  have hev := hs.ev
  unfold aop aopC at h
  split at h
  next x ho => exact fin_same (by rw [ho]; simp) hs hN0 (v := a.eval x) (by unfold execOp; rw [ho]; rfl) (hev x) h
  next x ho => exact fin_same (by rw [ho]; simp) hs hN0 (v := a.eval x) (by unfold execOp; rw [ho]; rfl) (hev x) h
  next c x y ho =>
    split at h
    next t hc =>
      have hb := hev c
      rw [hc] at hb
      have e := hb.bool
      cases t with
      | true => exact fin_same (by rw [ho]; simp) hs hN0 (v := a.eval x) (by unfold execOp; simp [ho, e, asBool]) (hev x) (h.1 rfl)
      | false => exact fin_same (by rw [ho]; simp) hs hN0 (v := a.eval y) (by unfold execOp; simp [ho, e, asBool]) (hev y) (h.2 rfl)
    next => exact h.elim
  next e ho =>
    split at h
    next z hz =>
      obtain ⟨i1, i2⟩ := inv_alloc hs.inv z.cells e (z.cells.toList.map fun u => .d (.v u)) (by simp) (fun i u c hu hc => by
        rw [List.getElem?_map, Array.getElem?_toList, hu] at hc
        cases hc; exact .d (.v u))
      exact fin_val (by rw [ho]; simp) hs hN0 (by unfold execOp; simp [ho, Instr.alloc, run_zeroT hz, newVar, newRow]) (ext_alloc G w hs.inv.z hs.inv.S _) (Nat.le_succ _) i1 i2 h
    next => exact h.elim
  next e x ho =>
    obtain ⟨hb, hK⟩ := chk_iff.1 h
    have hr := (hev x).toRow hb
    obtain ⟨i1, i2⟩ := inv_alloc hs.inv (a.eval x).cells e (ev s x).cells hr.len hr.rel
    exact fin_val (by rw [ho]; simp) hs hN0 (by unfold execOp; simp [ho, Instr.box, newVar, newRow]) (ext_alloc G w hs.inv.z hs.inv.S _) (Nat.le_succ _) i1 i2 hK
  next t x ho =>
    obtain ⟨u, y, h1, h2, h3⟩ := run_aLoad hs.inv (hev x) h
    exact fin_same (by rw [ho]; simp) hs hN0 (by unfold execOp; simp [ho, h1]) h2 h3
  next t x y ho =>
    unfold aStore at h
    split at h
    next m off hm =>
      split at h
      next cs hcs =>
        split at h
        case h_2 => exact h.elim
        rename_i k hk
        obtain ⟨hall, h4⟩ := chk_iff.1 h
        simp only [Bool.and_eq_true, beq_iff_eq, leB_iff] at hall
        obtain ⟨⟨rfl, h2⟩, h3⟩ := hall
        have h1 := hk
        have hx := hev x
        rw [hm] at hx
        obtain ⟨w', r1, r2, r3⟩ := run_store_blk (P := P) hs.inv hcs (hev y) h2 h1 h3
        have ex : a.eval x = .pointer (some ⟨G.rho m, off, none⟩) := by
          generalize a.eval x = u at hx
          cases hx with
          | ptr => rfl
        exact fin_skip (by rw [ho]; simp) hs hN0 (by unfold execOp; simp [ho, Instr.storeAt, Instr.sureAddr, ex, r1]) r2 (Nat.le_refl _) r3 h4
      next => exact h.elim
    next => exact h.elim
  next x ho =>
    have hx := hev x
    split at h
    next m off hm =>
      rw [hm] at hx
      generalize ea : a.eval x = u at hx
      cases hx with
      | ptr _ _ hmN => exact fin_same (by rw [ho]; simp) hs hN0 (by unfold execOp; simp [ho, ea]) (.ptr m off hmN) h
    next xs i off hm =>
      rw [hm] at hx
      generalize ea : a.eval x = u at hx
      have hx2 := hx
      cases hx with
      | elt => exact fin_same (by rw [ho]; simp) hs hN0 (by unfold execOp; simp [ho, ea]) hx2 h
    next f cs hm =>
      rw [hm] at hx
      generalize ea : a.eval x = u at hx
      have hx2 := hx
      cases hx with
      | fn => exact fin_same (by rw [ho]; simp) hs hN0 (by unfold execOp; simp [ho, ea]) hx2 h
    next => exact h.elim
  next T x f ho =>
    split at h
    next fo k g hT =>
      have hx := hev x
      split at h
      next m off hm =>
        rw [hm] at hx
        generalize ea : a.eval x = u at hx
        cases hx with
        | ptr _ _ hmN => exact fin_same (by rw [ho]; simp) hs hN0 (by unfold execOp; simp [ho, ea, run_fieldAddr hT]) (.ptr m (off + fo) hmN) h
      next xs i off hm =>
        rw [hm] at hx
        generalize ea : a.eval x = u at hx
        cases hx with
        | elt _ _ _ b oo us c hx hS hu => exact fin_same (by rw [ho]; simp) hs hN0 (by unfold execOp; simp [ho, ea, run_fieldAddr hT]; rfl) (by rw [Nat.add_assoc]; exact .elt xs i (off + fo) b oo us c hx hS hu) h
      next => exact h.elim
    next => exact h.elim
  next T x f ho =>
    obtain ⟨u, y, h1, h2, h3⟩ := run_aField (hev x) h
    exact fin_same (by rw [ho]; simp) hs hN0 (by unfold execOp; simp [ho, h1]) h2 h3
  next T x i ho =>
    obtain ⟨u, y, h1, h2, h3⟩ := run_aIndexAddr (hev x) (hev i) h
    exact fin_same (by rw [ho]; simp) hs hN0 (by unfold execOp; simp [ho, h1]) h2 h3
  next T x i ho =>
    split at h
    next b z hb hz =>
      obtain ⟨hT, h0, h⟩ := chk_iff.1 h
      have hT := strT_spec hT
      have hx := hev x
      rw [hb] at hx
      have ex := hx.val
      obtain ⟨k, ei⟩ := (hev i).int hz
      split at h
      next c hc =>
        refine fin_same (by rw [ho]; simp) hs hN0 (v := .int .u8 c.toNat) ?_ (.d (.v _)) h
        unfold execOp
        simp [ho, Instr.index, ex, ei, asIntOf, run_underlying hT, h0, hc]
      next => exact h.elim
    next => exact h.elim
  next T ps ho =>
    obtain ⟨p1, p2⟩ := sat_parts hs ps
    obtain ⟨u, y, h1, h2, h3⟩ := run_aBuild p1 p2 h
    exact fin_same (by rw [ho]; simp) hs hN0 (by unfold execOp; simp only [ho, Sem.run_bind, h1]; rfl) h2 h3
  next T len ps ho =>
    obtain ⟨p1, p2⟩ := sat_parts hs ps
    obtain ⟨u, w', G', y, h1, h2, h3, h4, h5, h6⟩ := run_aBuildSlice (T := T) hs.inv p1 p2 h
    exact fin_val (by rw [ho]; simp) hs hN0 (by unfold execOp; simp only [ho, Sem.run_bind, h1]; rfl) h2 h3 h4 h5 h6
  next T x lo hi mx ho =>
    obtain ⟨u, y, h1, h2, h3⟩ := run_aSlice hs (hev x) h
    exact fin_same (by rw [ho]; simp) hs hN0 (by unfold execOp; simp [ho, h1]) h2 h3
  next x i ho =>
    have hx := hev x
    split at h
    next cs hcs =>
      rw [hcs] at hx
      generalize ea : a.eval x = u at hx
      split at h
      next c hc =>
        cases hx with
        | tup vs _ hl hr =>
          have hlt : i < vs.size := by rw [hl]; exact (List.getElem?_eq_some_iff.1 hc).1
          exact fin_same (by rw [ho]; simp) hs hN0 (v := vs[i]) (by unfold execOp; simp [ho, ea, Instr.extract, hlt]) (hr i _ c (Array.getElem?_eq_getElem hlt) hc) h
      next => exact h.elim
    next => exact h.elim
  next f first caps ho =>
    split at h
    case h_2 => exact h.elim
    rename_i hfirst
    have hfirst : first = #[] := by rw [← Array.toList_inj]; exact hfirst
    subst hfirst
    obtain ⟨p1, p2⟩ := sat_args hs caps
    exact fin_same (by rw [ho]; simp) hs hN0 (v := .func (.func f) #[] (caps.map a.eval)) (by unfold execOp; simp [ho, Instr.makeFunc]) (.fn f _ _ p1 p2) h
  next op T x y U ho =>
    obtain ⟨u, z, h1, h2, h3⟩ := run_aBin (X := x) (Y := y) (hev x) (hev y) h
    refine fin_same (by rw [ho]; simp) hs hN0 ?_ h2 h3
    unfold execOp
    simp only [ho]
    rw [Sem.run_bind, h1]
    rfl
  next op T x ho =>
    obtain ⟨u, z, h1, h2, h3⟩ := run_aUn (P := P) (hev x) h
    exact fin_same (by rw [ho]; simp) hs hN0 (by unfold execOp; simp [ho, h1]) h2 h3
  next t u x ho =>
    obtain ⟨u, z, h1, h2, h3⟩ := run_aConv (hev x) h
    exact fin_same (by rw [ho]; simp) hs hN0 (by unfold execOp; simp [ho, h1]) h2 h3
  next c ho =>
    have hnd : ∀ c, o.op ≠ .defer c := by rw [ho]; simp
    split at h
    next hc =>
      split at h
      next x T h1 h2 =>
        obtain ⟨m, r1, r2⟩ := run_aLen (ty := o.type) (hev x) h
        exact fin_same hnd hs hN0 (by rw [run_len_op c hc h1 h2 ho, r1]; rfl) (.d (.v _)) r2
      next => exact h.elim
    next hc =>
      split at h
      next x y T U h1 h2 =>
        obtain ⟨hU, h⟩ := chk_iff.1 h
        obtain ⟨⟨e', k'⟩, hU⟩ := Option.isSome_iff_exists.1 hU
        obtain ⟨p, w', G', q, h', r1, r2, r3, r4, r5, r6⟩ := run_aAppend (ty := o.type) hs.inv (hev x) (hev y) (elmT_spec hU).1 h
        exact fin_val hnd hs hN0 (by rw [run_append_op c hc h1 h2 ho, r1]; rfl) r2 r3 r4 r5 r6
      next => exact h.elim
    next hc =>
      split at h
      next k z hf =>
        obtain ⟨p1, p2⟩ := sat_args hs c.args
        obtain ⟨u, us, e1, e2⟩ := run_foldI (P := P) p1 p2 hf
        refine fin_same hnd hs hN0 (v := .int k z) ?_ (.d (.v _)) h
        rw [run_max_op c hc ho]
        unfold Builtin.max_
        rw [e1]
        simp only [if_true] at e2
        rw [e2]; rfl
      next => exact h.elim
    next hc =>
      split at h
      next k z hf =>
        obtain ⟨p1, p2⟩ := sat_args hs c.args
        obtain ⟨u, us, e1, e2⟩ := run_foldI (P := P) p1 p2 hf
        refine fin_same hnd hs hN0 (v := .int k z) ?_ (.d (.v _)) h
        rw [run_min_op c hc ho]
        unfold Builtin.min_
        rw [e1]
        simp only [Bool.false_eq_true, if_false] at e2
        rw [e2]; rfl
      next => exact h.elim
    next f hc =>
      have call : ∀ (g : FuncId) (caps : List AV) (vs : Array Value), a.eval f = .func (.func g) #[] vs → vs.size = caps.length → (∀ (i : Nat) (u : Value) (c : AV), vs[i]? = some u → caps[i]? = some c → VRel G w u c) →
          ACalls P g (c.args.toList.map (ev s) ++ caps) s.h (fun r h' => K ((s.wh h').put o.dst r)) → o.wpIn (WF r) n P a w (NxT N0 G w K) Q := by
          intro g caps vs ea hl hr h
          obtain ⟨p1, p2⟩ := sat_args hs c.args
          obtain ⟨hent, hcall⟩ := h
          have hargs := hcall G w (c.args.map a.eval ++ vs) hs.inv (by rw [Array.size_append, List.length_append, p1, hl]) (fun i u x hu hx => by
            by_cases hi : i < (c.args.map a.eval).size
            · rw [Array.getElem?_append_left hi] at hu
              rw [List.getElem?_append_left (by rw [← p1]; exact hi)] at hx
              exact p2 i u x hu hx
            · rw [Array.getElem?_append_right (by omega)] at hu
              rw [List.getElem?_append_right (by rw [← p1]; omega)] at hx
              rw [p1] at hu
              exact hr _ u x hu hx)
          refine ⟨fun _ _ => trivial, ?_⟩
          have hrun : (o.semAt (WF r).round a.eval).run P w = .ok (.enter g (c.args.map a.eval ++ vs)) w := by
            rw [Oper.semAt_eq _ _ _ hnd]
            unfold execOp
            simp only [ho, resolve, hc, ea]
            simp [Deferred.ofValue, invoke, run_enter hent]
          rw [hrun]
          refine ⟨fun h => (by simp [WF, Fence.wide] at h), ?_⟩
          have h2 := callsIn_wide (n := n - 1).2 hargs
          refine CallsIn.mono (F := WF r) h2 ?_
          rintro e w' ⟨v, G', x, h', rfl, x1, x2, x3, x4, x5⟩
          exact ⟨G', _, x1.less hN0, Nat.le_trans hN0 x2, (hs.move x1 x2 x3).put x4 o.dst, x5⟩
      split at h
      next g caps hg =>
        have hf := hev f
        rw [hg] at hf
        generalize ea : a.eval f = u at hf
        cases hf with
        | fn _ vs _ hl hr => exact call g caps vs ea hl hr h
      next q hg =>
        obtain ⟨g, cs, rfl, h⟩ := h
        have hf := hev f
        rw [hg] at hf
        generalize ea : a.eval f = u at hf
        cases hf with
        | hid hq h1 =>
          cases hq with
          | fn _ vs _ hl hr => exact call g (cs.map Cap.av) vs ea (by rw [List.length_map]; exact hl) (fun i u c hu hc => by
              rw [List.getElem?_map] at hc
              cases hx : cs[i]? with
              | none => rw [hx] at hc; cases hc
              | some d => rw [hx] at hc; cases hc; exact (hr i u d hu hx).av) h
      next => exact h.elim
    next => exact h.elim
  next op _ =>
    split at h
    next x h' p hx => exact opX_sound hs hN0 hx h.1 h.2
    next => exact h.elim
theorem optI_isInt (hs : Sat G w a s) {x : Option Operand} {d : Nat} {z : Int} (h : optI (ev s) d x = some z) (h0 : 0 ≤ z) : isInt a x d z.toNat := by
  cases x with
  | none =>
    simp only [optI, Option.some.injEq] at h
    subst h
    show _ = d
    exact Int.toNat_natCast d
  | some y =>
    simp only [optI] at h
    obtain ⟨k, e⟩ := (hs.ev y).int h
    exact ⟨k, z, e, h0, rfl⟩
theorem bifS {α : Type} {b : Bool} {x y : α} (h : (bif b then some x else none) = some y) : b = true ∧ x = y := by
  cases b with
  | true => exact ⟨rfl, Option.some.inj h⟩
  | false => cases h
theorem bif_pos' {α : Type} {b : Bool} {x : Option α} {y : α} (h : (bif b then x else none) = some y) : b = true ∧ x = some y := by
  cases b with
  | true => exact ⟨rfl, h⟩
  | false => cases h
theorem aopV_sound (hs : Sat G w a s) (hN0 : N0 ≤ G.N) (h : aopV P o K s) : o.wpIn (WF r) n P a w (NxT N0 G w K) Q := by
  obtain ⟨va, x, h', p, hx, hp, hK⟩ := h
  have hev := hs.ev
  unfold opV at hx
  split at hx
  next T y i ho =>
    split at hx
    · next n' o' len L k z e k' i' e1 e2 e3 =>
      split at hx
      · next e4 k2 cs hn =>
        obtain ⟨hb, he⟩ := bifS hx
        cases he
        rw [Bool.and_eq_true, beq_iff_eq, beq_iff_eq] at hb
        obtain ⟨rfl, rfl⟩ := hb
        obtain ⟨hL, h0, hlt, rfl⟩ := hp
        obtain ⟨hT1, hT2⟩ := elmT_spec e3
        obtain ⟨kz, ez⟩ := (hev i).int e2
        have hv := hev y
        rw [e1] at hv
        have hvo := hv.vecOK hs.inv hn hL
        obtain ⟨hol, ⟨A, c, q1, q2, q3, q4, q5⟩, _⟩ := hvo
        obtain ⟨g, cap, s1, rfl, s3⟩ := q5 (by omega)
        have hz2 : z < (len : Int) := hlt
        refine fin_same (by rw [ho]; simp) hs hN0 (v := .pointer (some ⟨g, o' * k2 + z.toNat * k2, none⟩)) ?_ (.vptr n' (o' + z.toNat) 0 L k2 (hs.inv.lt hn) ⟨_, _, rfl⟩ (by rw [(hs.inv.blk n' _ hn).1, hL]; exact Nat.le_refl _) fun _ => ⟨by omega, g, cap, s1, ?_⟩) hK
        · unfold execOp
          simp [ho, q1, ez, Instr.indexAt, asIntOf, run_underlying hT1, h0, hz2, run_szT hT2, add_off]
        · rw [Nat.add_mul]; rfl
      · cases hx
    · cases hx
  next T y f ho =>
    split at hx
    · next n' i j L k fo q g e1 hT =>
      cases hx
      have hv := hev y
      rw [e1] at hv
      generalize ea : a.eval y = u at hv
      cases hv with
      | vptr _ _ _ _ _ hnN hpt hL hf =>
        obtain ⟨pb, pq, rfl⟩ := hpt
        refine fin_same (by rw [ho]; simp) hs hN0 (v := .pointer (some ⟨pb, pq + fo, none⟩)) (by unfold execOp; simp [ho, ea, run_fieldAddr hT]) (.vptr n' i (j + fo) L k hnN ⟨_, _, rfl⟩ hL fun e => ?_) hK
        obtain ⟨a1, g2, cap, a2, a3⟩ := hf e
        refine ⟨a1, g2, cap, a2, ?_⟩
        injection a3 with a3
        injection a3 with a3
        injection a3 with a4 a5
        subst a4
        subst a5
        rw [Nat.add_assoc]
    · cases hx
  next y ho =>
    split at hx
    · next n' i j L k e1 =>
      cases hx
      have hv := hev y
      rw [e1] at hv
      have hv2 := hv
      generalize ea : a.eval y = u at hv hv2
      cases hv with
      | vptr _ _ _ _ _ hnN hpt hL hf =>
        obtain ⟨pb, pq, rfl⟩ := hpt
        exact fin_same (by rw [ho]; simp) hs hN0 (by unfold execOp; simp [ho, ea]) hv2 hK
    · cases hx
  next t y ho =>
    split at hx
    · next n' i j L k c e1 =>
      split at hx
      · next e k' cs z hn hz =>
        obtain ⟨hb, he⟩ := bifS hx
        cases he
        rw [beq_iff_eq] at hb
        subst hb
        have hv := hev y
        rw [e1] at hv
        obtain ⟨u, r1, r2⟩ := run_vload hs.inv hn hp.1 hp.2 hz hv
        exact fin_same (by rw [ho]; simp) hs hN0 (by unfold execOp; simp [ho, r1]) r2 hK
      · cases hx
    · cases hx
  next t y z ho =>
    split at hx
    · next n' i j L k c cs' e1 =>
      split at hx
      · next e k' cs q hn hq =>
        obtain ⟨hb, he⟩ := bifS hx
        cases he
        simp only [Bool.and_eq_true, beq_iff_eq, leB_iff] at hb
        obtain ⟨⟨⟨⟨rfl, rfl⟩, hbox⟩, hj⟩, hk0⟩ := hb
        obtain ⟨hL, hc, rfl⟩ := hp
        have hv := hev y
        rw [e1] at hv
        obtain ⟨w', G', r1, r2, r3, r4⟩ := run_vstore hs.inv hn hL hc hv (hev z) hbox hq hj hk0
        exact fin_skip (by rw [ho]; simp) hs hN0 (by unfold execOp; simp [ho, r1]) r2 r3 r4 hK
      · cases hx
    · cases hx
  next T y lo hi ho =>
    split at hx
    · next n' o' len L k e k' oo ll e1 hT =>
      split at hx
      · next l u hl hu =>
        split at hx
        · next e4 k2 cs hn =>
          obtain ⟨hb, he⟩ := bifS hx
          cases he
          rw [Bool.and_eq_true, beq_iff_eq, beq_iff_eq] at hb
          obtain ⟨rfl, rfl⟩ := hb
          obtain ⟨hL, h0, hlu, huL, rfl, rfl⟩ := hp
          obtain ⟨hT1, hT2⟩ := elmT_spec hT
          have hv := hev y
          rw [e1] at hv
          have hvo := hv.vecOK hs.inv hn hL
          obtain ⟨hol, ⟨A, c, q1, q2, q3, q4, q5⟩, _⟩ := hvo
          have hb := run_bounds2 (P := P) (isS := true) (optI_isInt hs hl h0) (optI_isInt hs hu (by omega)) (by omega) (show u.toNat ≤ c by omega) w
          refine fin_same (by rw [ho]; simp) hs hN0 (v := .slice (if c = l.toNat then A else A.map (·.add (l.toNat * k2))) (u.toNat - l.toNat) (c - l.toNat)) ?_ (.vec n' (o' + l.toNat) (u.toNat - l.toNat) L k2 (hs.inv.lt hn) ⟨_, _, _, rfl⟩ (by rw [(hs.inv.blk n' _ hn).1, hL]; exact Nat.le_refl _) fun _ => ⟨by omega, ⟨_, _, rfl, by omega, by omega, by omega, fun ho2 => ?_⟩, fun h1 h2 => ?_⟩) hK
          · unfold execOp
            simp [ho, q1, Instr.sliceAt, Instr.slice, run_underlying hT1, hb, run_szT hT2]
          · obtain ⟨g, cap, s1, rfl, s3⟩ := q5 (by omega)
            refine ⟨g, cap, s1, ?_, by omega⟩
            rw [if_neg (by omega)]
            simp [add_off, Nat.add_mul]
          · have ho0 : o' = 0 := by omega
            have hl0 : l.toNat = 0 := by omega
            subst ho0
            rw [hl0]
            rw [hl0] at h2
            simp only [Nat.sub_zero] at h2 ⊢
            by_cases hL0 : L = 0
            · subst hL0
              have : len = 0 := by omega
              subst this
              rename_i hall
              rw [← hall rfl rfl, q1, h2]
              split
              · rfl
              · cases A <;> simp [Addr.add]
            · obtain ⟨g, cap, s1, rfl, s3⟩ := q5 (by omega)
              rw [s1, h2]
              have : c = cap := by omega
              subst this
              split <;> simp [add_off]
        · cases hx
      · cases hx
    · cases hx
  next T l c ho =>
    split at hx
    · next e k z1 z2 cs len m hT e1 e2 =>
      split at hx
      · next z by_ hz hby =>
        obtain ⟨hb, he⟩ := bifS hx
        cases he
        simp only [Bool.and_eq_true, beq_iff_eq, leB_iff] at hb
        obtain ⟨⟨hk0, hzs⟩, _⟩ := hb
        obtain ⟨h0, hlc, hl, hc, rfl, hm, hbb⟩ := hp
        obtain ⟨hT1, hT2⟩ := elmT_spec hT
        obtain ⟨inf, i1, i2, i3⟩ := byT_info hT2 hby
        have hzi : inf.zero = some z := by
          obtain ⟨i', j1, j2⟩ := zeroT_info hz
          rw [i1] at j1; cases j1; exact j2
        obtain ⟨k1, ez1⟩ := (hev l).int e1
        obtain ⟨k2, ez2⟩ := (hev c).int e2
        obtain ⟨u, w', G', r1, r2, r3, r4, r5⟩ := run_vmake (kl := k1) (kc := k2) hs.inv hT1 i1 hzi i2 i3 hzs hk0 h0 hlc hl hc hm hbb
        exact fin_val (by rw [ho]; simp) hs hN0 (by unfold execOp; simp [ho, ez1, ez2, r1]) r2 r3 r4 r5 hK
      · cases hx
    · cases hx
  next c ho =>
    have hnd : ∀ c, o.op ≠ .defer c := by rw [ho]; simp
    split at hx
    next hc =>
      split at hx
      · next y T h1 h2 =>
        split at hx
        · next n' oo len L k e1 =>
          split at hx
          · next e4 k2 cs hn =>
            obtain ⟨hb, he⟩ := bifS hx
            cases he
            rw [Bool.and_eq_true, beq_iff_eq] at hb
            obtain ⟨hT, rfl⟩ := hb
            obtain ⟨⟨e, q⟩, hT⟩ := Option.isSome_iff_exists.1 hT
            have hv := hev y
            rw [e1] at hv
            have hvo := hv.vecOK hs.inv hn hp
            obtain ⟨hol, ⟨A, cc, q1, q2, q3, q4, q5⟩, _⟩ := hvo
            exact fin_same hnd hs hN0 (v := .int .i64 len) (by rw [run_len_op c hc h1 h2 ho, q1]; simp [Builtin.len_, run_underlying (elmT_spec hT).1, goInt]) (.d (.v _)) hK
          · cases hx
        · cases hx
      · cases hx
    next hc =>
      split at hx
      · next y z T U h1 h2 =>
        split at hx
        · next e k pU cs' ys L' len' hT hU =>
          split at hx
          · next z0 by_ hz hby =>
            obtain ⟨hb, hx⟩ := bif_pos' hx
            rw [Bool.and_eq_true, beq_iff_eq, leB_iff] at hb
            obtain ⟨hk0, hzs⟩ := hb
            obtain ⟨hT1, hT2⟩ := elmT_spec hT
            obtain ⟨inf, i1, i2, i3⟩ := byT_info hT2 hby
            have hzi : inf.zero = some z0 := by
              obtain ⟨i', j1, j2⟩ := zeroT_info hz
              rw [i1] at j1; cases j1; exact j2
            have hzz : z0.cells.size = k := by rw [← Array.length_toList]; exact hzs
            obtain ⟨eU, kU⟩ := pU
            split at hx
            · next n' oo len L k1 e1 =>
              split at hx
              · next e4 k2 cs hn =>
                obtain ⟨hb, he⟩ := bifS hx
                cases he
                simp only [Bool.and_eq_true, beq_iff_eq] at hb
                obtain ⟨⟨rfl, rfl⟩, rfl⟩ := hb
                obtain ⟨hL, hsrc, rfl, hway⟩ := hp
                obtain ⟨us, hr, hss⟩ := srcV_sound (tx := U) hs.inv (hev z) hsrc hk0 (elmT_spec hU).1
                have hv := hev y
                rw [e1] at hv
                obtain ⟨u, w', G', r1, r2, r3, r4, r5⟩ := run_vapp (ty := o.type) hs.inv hT1 i1 hzi i2 i3 hzz hk0 hn hL hv hr hss hway
                exact fin_val hnd hs hN0 (by rw [run_append_op c hc h1 h2 ho, r1]; rfl) r2 r3 r4 r5 hK
              · cases hx
            · next e1 =>
              cases hx
              obtain ⟨hsrc, rfl, rfl, rfl, hm1, hm2⟩ := hp
              obtain ⟨us, hr, hss⟩ := srcV_sound (tx := U) hs.inv (hev z) hsrc hk0 (elmT_spec hU).1
              have hv := hev y
              rw [e1] at hv
              have ev := hv.val
              obtain ⟨u, w', G', r1, r2, r3, r4, r5⟩ := run_vnew (ty := o.type) (A := none) hs.inv hT1 i1 hzi i2 i3 hzz hk0 hr hss hm1 hm2
              exact fin_val hnd hs hN0 (by rw [run_append_op c hc h1 h2 ho, ev, r1]; rfl) r2 r3 r4 r5 hK
            · next xs e1 =>
              cases hx
              obtain ⟨rfl, hsrc, rfl, rfl, rfl, hm1, hm2⟩ := hp
              obtain ⟨us, hr, hss⟩ := srcV_sound (tx := U) hs.inv (hev z) hsrc hk0 (elmT_spec hU).1
              have hv := hev y
              rw [e1] at hv
              obtain ⟨A, eA⟩ : ∃ A, a.eval y = .slice A 0 0 := by
                generalize a.eval y = u at hv
                cases hv with | full _ _ hf => exact hf
              obtain ⟨u, w', G', r1, r2, r3, r4, r5⟩ := run_vnew (ty := o.type) (A := A) hs.inv hT1 i1 hzi i2 i3 hzz hk0 hr hss hm1 hm2
              exact fin_val hnd hs hN0 (by rw [run_append_op c hc h1 h2 ho, eA, r1]; rfl) r2 r3 r4 r5 hK
            · cases hx
          · cases hx
        · cases hx
      · cases hx
    next => cases hx
  next => cases hx
theorem aNil_sound (hs : Sat G w a s) (hN0 : N0 ≤ G.N) (h : aNil P o K s) : o.wpIn (WF r) n P a w (NxT N0 G w K) Q := by
  have hev := hs.ev
  unfold aNil at h
  split at h
  · next op T x y U ho =>
    split at h
    · next xs pT v1 v2 hx hy hT h1 h2 =>
      obtain ⟨e, k⟩ := pT
      have hT1 := (elmT_spec hT).1
      have hv := hev y
      rw [hy] at hv
      have ey := hv.val
      obtain ⟨A, b, oo, c, k', u, ex, hA, _, _, _, _, _⟩ := ((hev x).list hx).sl_iff
      have hg : (eqGuard op T x y (a.eval x) (a.eval y)).run P w = .ok () w := by rw [ex, ey]; unfold eqGuard; cases op <;> simp
      have hrun : (binOp op T (a.eval x) (a.eval y)).run P w = .ok (if A.isNone then v1 else v2) w := by
        rw [ex, ey]
        have hq := run_equal_slice_nil (P := P) (w := w) T e A xs.length c hT1
        cases op <;> simp [eqV] at h1 h2 <;> subst h1 <;> subst h2 <;> simp [binOp, hq] <;> cases A <;> rfl
      have hex : (execOp a.eval o).run P w = .ok (.value (if A.isNone then v1 else v2)) w := by
        unfold execOp
        simp only [ho]
        rw [Sem.run_bind, Sem.run_bind, hg]
        simp only [Result.andThen_ok]
        rw [hrun]; rfl
      cases A with
      | none =>
        have hxs : xs = [] := Classical.byContradiction fun hne => by have := hA hne; cases this
        exact fin_same (by rw [ho]; simp) hs hN0 hex (.d (.v _)) (h.1 hxs)
      | some ad => exact fin_same (by rw [ho]; simp) hs hN0 hex (.d (.v _)) h.2
    · exact h.elim
  · exact h.elim
theorem aopN0_sound (hs : Sat G w a s) (hN0 : N0 ≤ G.N) (h : aopN0 P o K s) : o.wpIn (WF r) n P a w (NxT N0 G w K) Q := by
  rcases h with h | h | h
  · exact aopV_sound hs hN0 h
  · exact aNil_sound hs hN0 h
  · exact aop_sound hs hN0 h
end
end Go.Proofs.YtaiihhogoogkmaaGreatDoor
