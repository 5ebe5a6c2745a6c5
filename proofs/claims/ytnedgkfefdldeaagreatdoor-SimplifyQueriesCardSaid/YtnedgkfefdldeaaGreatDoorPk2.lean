/-
  Part 2 of the proof: AbsZero, AbsIter, AbsCode, AbsWalk, GrowF, AbsDraw, AbsFrame, AbsRun, AbsFrz, AbsInst.
-/
import Derived.Test.YtnedgkfefdldeaaGreatDoorPk1
import Derived.Lib.AppendZeros
import Derived.Maps.RangeRun
/-! AbsZero: Operations on the nil slice: its capacity, a part of it, an append of new elements. -/
namespace Go.Proofs.YtnedgkfefdldeaaGreatDoor
open Go.RowKit Go.Lib
def AV.isNil : AV → Bool
  | .d (.v (.slice none 0 0)) => true
  | _ => false
theorem isNil_eq {x : AV} (h : x.isNil = true) : x = .d (.v (.slice none 0 0)) := by
  unfold AV.isNil at h
  split at h
  · rfl
  · cases h
def opZ (P : Program) (op : Op) (ρ : Operand → AV) (h : List Blk) : Option (AV × List Blk) :=
  match op with
  | .slice T x lo hi none => match elmT P T, optI ρ 0 lo, optI ρ 0 hi with
    | some _, some 0, some 0 => bif (ρ x).isNil then some (.d (.v (.slice none 0 0)), h) else none
    | _, _, _ => none
  | .call c => match c.callee with
    | .builtin .cap => match c.args.toList, c.argTypes.toList with
      | [x], [T] => bif (ρ x).isNil && (elmT P T).isSome then some (.d (.v (.int .i64 0)), h) else none
      | _, _ => none
    | .builtin .append => match c.args.toList, c.argTypes.toList with
      | [x, y], [T, U] => match elmT P T, intT P U, ρ y with
        | some (e, k), some _, .d (.v (.int _ (.ofNat m))) => match zeroT P e, byT P e with
          | some z, some by_ => bif (ρ x).isNil && leB 1 m && leB 1 k && z.cells.toList.length == k && leB m maxLen && leB (m * by_) 140737488355328 then some (.vec h.length 0 m m k, h ++ [.vec e k (List.replicate m (z.cells.toList.map fun u => .d (.v u)))]) else none
          | _, _ => none
        | _, _, _ => none
      | _, _ => none
    | _ => none
  | _ => none
section
variable {P : Program} {r : Option Nat} {n N0 : Nat} {G : Gh} {w : World} {a : Act} {s : St} {o : Oper} {K : St → Prop} {Q : Exit → Act → World → Prop}
theorem run_cap_op {x : Operand} {T : TypeId} (c : Call) (hc : c.callee = .builtin .cap) (h1 : c.args.toList = [x]) (h2 : c.argTypes.toList = [T]) (ho : o.op = .call c) :
    (execOp a.eval o).run P w = ((Builtin.cap_ #[T] o.type #[a.eval x]).run P w).andThen fun v w' => .ok (.value v) w' := by
  have e1 : c.args = #[x] := by rw [← Array.toList_inj]; exact h1
  have e2 : c.argTypes = #[T] := by rw [← Array.toList_inj]; exact h2
  unfold execOp
  simp only [ho, resolve, hc, e1, e2, invoke, builtin, Sem.run_bind, Sem.run_pure, Result.andThen_ok, List.map_toArray, List.map_cons, List.map_nil]
theorem zero_isInt (hs : Sat G w a s) {x : Option Operand} (h : optI (ev s) 0 x = some 0) : isInt a x 0 0 := by
  cases x with
  | none => rfl
  | some y => exact optI_isInt (d := 0) hs h (Int.le_refl _)
theorem opZ_sound {x : AV} {h' : List Blk} (hs : Sat G w a s) (hN0 : N0 ≤ G.N) (hx : opZ P o.op (ev s) s.h = some (x, h')) (hK : K ((s.wh h').put o.dst x)) : o.wpIn (WF r) n P a w (NxT N0 G w K) Q := by
  have hev := hs.ev
  have nil : ∀ {y : Operand}, (ev s y).isNil = true → a.eval y = .slice none 0 0 := fun {y} h => by
    have := hev y
    rw [isNil_eq h] at this
    exact this.val
  unfold opZ at hx
  split at hx
  next T y lo hi ho =>
    split at hx
    · next ek e1 e2 e3 =>
      obtain ⟨hb, he⟩ := bifS hx
      cases he
      obtain ⟨hT1, hT2⟩ := elmT_spec e1
      refine fin_same (by rw [ho]; simp) hs hN0 (v := .slice none 0 0) ?_ (.d (.v _)) hK
      have hb2 := run_bounds2 (P := P) (isS := true) (zero_isInt hs e2) (zero_isInt hs e3) (Nat.le_refl _) (Nat.le_refl 0) w
      unfold execOp
      simp [ho, nil hb, Instr.sliceAt, Instr.slice, run_underlying hT1, hb2, run_szT hT2]
    · cases hx
  next c ho =>
    split at hx
    · next hc =>
      split at hx
      · next y T e1 e2 =>
        obtain ⟨hb, he⟩ := bifS hx
        cases he
        rw [Bool.and_eq_true] at hb
        cases hT : elmT P T with
        | none => rw [hT] at hb; cases hb.2
        | some ek =>
          obtain ⟨hT1, hT2⟩ := elmT_spec hT
          refine fin_same (by rw [ho]; simp) hs hN0 (v := .int .i64 0) ?_ (.d (.v _)) hK
          rw [run_cap_op c hc e1 e2 ho, nil hb.1]
          simp [Builtin.cap_, run_underlying hT1, goInt]
      · cases hx
    · next hc =>
      split at hx
      · next y z T U e1 e2 =>
        split at hx
        · next e k kn kq m f1 f2 f3 =>
          split at hx
          · next zz by_ g1 g2 =>
            obtain ⟨hb, he⟩ := bifS hx
            cases he
            simp only [Bool.and_eq_true, leB_iff, beq_iff_eq] at hb
            obtain ⟨⟨⟨⟨⟨hb1, hb2⟩, hb3⟩, hb4⟩, hb5⟩, hb6⟩ := hb
            clear hx
            obtain ⟨hT1, hT2⟩ := elmT_spec f1
            obtain ⟨i, hinf, hi1⟩ : ∃ i, P.info? e = some i ∧ i.size = k := by
              unfold szT at hT2
              cases hq : P.info? e with
              | none => rw [hq] at hT2; cases hT2
              | some i => rw [hq] at hT2; exact ⟨i, rfl, Option.some.inj hT2⟩
            have hz : i.zero = some zz := by unfold zeroT at g1; rw [hinf] at g1; exact g1
            have hbt : i.bytes = by_ := by unfold byT at g2; rw [hinf] at g2; exact Option.some.inj g2
            subst hi1
            subst hbt
            have hy := hev z
            rw [f3] at hy
            have ey : a.eval z = .int kq (m : Nat) := hy.val
            have hrun := run_append_nil_zeros (P := P) w T U o.type e i zz kq kn hT1 (intT_spec f2) hinf hz m (by omega) (by omega) (by have := hb5; simp [maxLen] at this; omega) (by omega)
            have hzz : zz.cells.size = i.size := by rw [← Array.length_toList]; exact hb4
            have hcl : (List.replicate m (zz.cells.toList.map fun u => AV.d (.v u))).length = m := List.length_replicate
            obtain ⟨cap, hcap⟩ : ∃ cap, cap = grownCap w m 0 e := ⟨_, rfl⟩
            have hge : m ≤ cap := by rw [hcap]; exact grownCap_ge _ _ _ _
            have hle : cap ≤ maxLen := by rw [hcap]; exact grownCap_le_maxLen _ _ _ _ hb5
            rw [← hcap] at hrun
            obtain ⟨cur, hcur⟩ : ∃ cur, cur = Builtin.zeroCells zz.cells m ++ Builtin.zeroCells zz.cells (cap - m) := ⟨_, rfl⟩
            rw [← hcur] at hrun
            have hcs : cur.size = cap * i.size := by
              rw [hcur, Array.size_append, size_zeroCells, size_zeroCells, hzz, ← Nat.add_mul]
              congr 1
              omega
            obtain ⟨G', q1, q2, q3, q4⟩ := vec_fresh (e := e) (k := i.size) (cap := cap) (cs := List.replicate m (zz.cells.toList.map fun u => AV.d (.v u))) (cur := cur) hs.inv (by rw [hcl]; exact hge) hle hcs (fun c hc => by
              rw [List.eq_of_mem_replicate hc, List.length_map]; exact hb4) w.drew ⟨rfl, rfl, rfl, rfl⟩ (fun a' b c x u hc hx hu => by
              have := List.eq_of_mem_replicate (List.mem_of_getElem? hc)
              subst this
              rw [List.getElem?_map] at hx
              cases hq : zz.cells.toList[b]? with
              | none => rw [hq] at hx; cases hx
              | some y =>
                rw [hq] at hx
                cases hx
                have hbk : b < i.size := by rw [← hb4]; exact (List.getElem?_eq_some_iff.1 hq).1
                have ham : a' < m := by have := (List.getElem?_eq_some_iff.1 hc).1; rwa [hcl] at this
                have hlt : a' * i.size + b < m * i.size := mul_lt_of ham hbk
                rw [hcur, Array.getElem?_append_left (by rw [size_zeroCells, hzz]; exact hlt)] at hu
                unfold Builtin.zeroCells at hu
                rw [Array.getElem?_map, Array.getElem?_range, hzz, if_pos hlt] at hu
                simp only [Option.map_some, Option.some.injEq] at hu
                rw [(divmod_of (i := a') hbk).2] at hu
                have hq2 : zz.cells[b]? = some y := by rw [← Array.getElem?_toList]; exact hq
                rw [getElem!_pos zz.cells b (by rw [hzz]; exact hbk)] at hu
                rw [Array.getElem?_eq_getElem (by rw [hzz]; exact hbk)] at hq2
                cases hq2
                subst hu
                exact .d (.v _))
            rw [hcl] at q4
            refine fin_val (by rw [ho]; simp) hs hN0 (by rw [run_append_op c hc e1 e2 ho, nil hb1, ey, hrun]; rfl) q1 q2 q3 (q4 m (Nat.le_refl _)) hK
          · cases hx
        · cases hx
      · cases hx
    · cases hx
  next => cases hx
end
end Go.Proofs.YtnedgkfefdldeaaGreatDoor

/-! AbsIter: A range over a map of one key. -/
namespace Go.Proofs.YtnedgkfefdldeaaGreatDoor
open Go.RowKit
theorem bif_sm {α : Type} {c : Bool} {x y : α} (h : (bif c then some x else none) = some y) : c = true ∧ x = y := by cases c <;> cases h; exact ⟨rfl, rfl⟩
section
variable {G : Gh} {w : World} {h : List Blk}
theorem inv_it_alloc (hi : Inv G w h) {b mb : Nat} (hr : VRel G w (.map (some b)) (.mp mb)) : Ext G.N G w (G.addC w.heap.size) (w.alloc (.mapIter (some b) 1 #[] 1)) ∧ Inv (G.addC w.heap.size) (w.alloc (.mapIter (some b) 1 #[] 1)) (h ++ [.it false [.mp mb]]) ∧ VRel (G.addC w.heap.size) (w.alloc (.mapIter (some b) 1 #[] 1)) (.pointer (some ⟨w.heap.size, 0, none⟩)) (.ptr h.length 0) := by
  have hE := ext_alloc G w hi.z hi.S (.mapIter (some b) 1 #[] 1)
  have hN : G.N ≤ (G.addC w.heap.size).N := Nat.le_succ _
  have hrho : (G.addC w.heap.size).rho h.length = w.heap.size := by simp [Gh.addC, hi.len]
  have hown1 : ∀ n (B : Blk), n < G.N → B.own1 (G.addC w.heap.size) n = B.own1 G n := fun n B hn => by
    cases B <;> simp [Blk.own1, Gh.addC, Nat.ne_of_lt hn]
  have hnew : ∀ n, n < G.N → ownB (h ++ [.it false [.mp mb]]) (G.addC w.heap.size) n = ownB h G n := fun n hn => by
    have hlt : n < h.length := by rw [hi.len]; exact hn
    unfold ownB
    rw [List.getElem?_append_left hlt, List.getElem?_eq_getElem hlt]
    exact hown1 n _ hn
  have hlast : ownB (h ++ [.it false [.mp mb]]) (G.addC w.heap.size) h.length = some w.heap.size := by
    rw [ownB_of (B := .it false [.mp mb]) (by simp)]; exact congrArg some hrho
  refine ⟨hE, ⟨by simp [Gh.addC, hi.len], fun b hb => Nat.lt_of_lt_of_le (hi.z b hb) hE.size, fun b o hs => Nat.lt_of_lt_of_le (hi.S b o hs) hE.size, fun n B hB => ?_, fun m n b hm hn => ?_, hi.gl.keep hE⟩, ?_⟩
  · by_cases hn : n < h.length
    · rw [List.getElem?_append_left hn] at hB
      have hn' : n < G.N := hi.len ▸ hn
      exact BRel.keep hn' hE hN ⟨rfl, rfl, rfl⟩ (fun b hb => ⟨Below.heap_alloc w _ _ (hi.ownlt (n := n) ((ownB_of hB).trans hb)), fun o h => h⟩) (hi.blk n B hB)
    · have hn2 : n = h.length := by
        have := (List.getElem?_eq_some_iff.1 hB).1
        simp at this; omega
      subst hn2
      simp at hB
      subst hB
      exact ⟨by rw [hrho]; exact fun hz => Nat.lt_irrefl _ (hi.z _ hz), fun o hs => by rw [hrho] at hs; exact Nat.lt_irrefl _ (hi.S _ _ hs), b, #[.map (some b)], (), by rw [hrho]; exact World.alloc_heap_new w _, ⟨rfl, rfl⟩, fun i u c hu hc => by
        match i with
        | 0 => cases hu; cases hc; exact hr.keep hE hN
        | i + 1 => simp at hu⟩
  · have key : ∀ n b, ownB (h ++ [.it false [.mp mb]]) (G.addC w.heap.size) n = some b → (n < G.N ∧ ownB h G n = some b) ∨ (n = h.length ∧ b = w.heap.size) := fun n b hn => by
      by_cases hlt : n < G.N
      · exact .inl ⟨hlt, by rw [← hnew n hlt]; exact hn⟩
      · by_cases e : n = h.length
        · subst e; rw [hlast] at hn; cases hn; exact .inr ⟨rfl, rfl⟩
        · rw [ownB_none (List.getElem?_eq_none (by simp; have := hi.len; omega))] at hn
          cases hn
    rcases key m b hm with ⟨_, hm'⟩ | ⟨rfl, rfl⟩ <;> rcases key n _ hn with ⟨_, hn'⟩ | ⟨rfl, hb⟩
    · exact hi.inj m n b hm' hn'
    · have := hi.ownlt hm'; omega
    · have := hi.ownlt hn'; omega
    · rfl
  · have := VRel.ptr (G := G.addC w.heap.size) (w := w.alloc (.mapIter (some b) 1 #[] 1)) h.length 0 (by simp [Gh.addC, hi.len])
    rwa [hrho] at this
theorem map_one {mb : Nat} {s : ByteArray} {d : D} (hi : Inv G w h) (hb : h[mb]? = some (.map [(s, d)])) : ∃ e : MapEntry, w.heap[G.rho mb]? = some (.map #[e] 1) ∧ e.key = .string s ∧ PRel G.S w e.val d ∧ e.born = 0 := by
  obtain ⟨_, _, es, clock, hh, hm⟩ := hi.blk mb _ hb
  have hg : mget [(s, d)] s = some d := by simp [mget]
  obtain ⟨e, he, hk⟩ := hm.all s d hg
  have hl : es.toList = [e] := by
    have h1 := hm.len
    cases hq : es.toList with
    | nil => rw [hq] at he; cases he
    | cons x l =>
      have h2 : es.size = (x :: l).length := by rw [← hq]; simp
      have h3 : l = [] := by
        apply List.eq_nil_of_length_eq_zero
        simp at h1 h2; omega
      subst h3
      rw [hq] at he
      rw [List.mem_singleton.1 he]
  have he2 : es = #[e] := by rw [← Array.toList_inj]; exact hl
  subst he2
  have hc := hm.clk
  simp at hc
  subst hc
  obtain ⟨s', d', k1, k2, k3⟩ := hm.ent e he
  have hs : s' = s := by rw [hk] at k1; injection k1 with k1; exact k1.symm
  subst hs
  rw [hg] at k2
  cases k2
  exact ⟨e, hh, hk, k3, hm.born 0 e rfl⟩
theorem it_spec {n mb : Nat} {sn : Bool} (hi : Inv G w h) (hb : h[n]? = some (.it sn [.mp mb])) : (∀ o, ¬ G.S (G.rho n) o) ∧ w.heap[G.rho n]? = some (.mapIter (some (G.rho mb)) 1 (if sn then #[0] else #[]) 1) ∧ VRel G w (.map (some (G.rho mb))) (.mp mb) := by
  obtain ⟨h1, h2, fn, vs, _, h3, ⟨_, h4⟩, h5⟩ := hi.blk n _ hb
  have := h5 0 (.map (some fn)) (.mp mb) (by rw [h4]; rfl) rfl
  cases this with
  | mp _ hlt => exact ⟨h2, h3, .mp mb hlt⟩
theorem inv_drew (hi : Inv G w h) : Ext G.N G w G w.drew ∧ Inv G w.drew h := by
  have hE : Ext G.N G w G w.drew := ⟨Nat.le_refl _, fun _ _ h => h, fun _ _ _ => rfl, fun _ _ => rfl, fun _ _ => .inl ⟨rfl, rfl⟩, zsame rfl, fun _ _ => rfl, rfl, rfl, rfl, fun _ _ h => .inl h⟩
  exact ⟨hE, hi.len, hi.z, hi.S, fun n B hB => BRel.keep (hi.lt hB) hE (Nat.le_refl _) ⟨rfl, rfl, rfl⟩ (fun _ _ => ⟨rfl, fun _ h => h⟩) (hi.blk n B hB), hi.inj, hi.gl.keep hE⟩
end
def opR (P : Program) (lo : Nat) (op : Op) (ρ : Operand → AV) (h : List Blk) : Option (AV × List Blk) :=
  match op with
  | .range T m => match mapT P T, ρ m with
    | some _, .mp mb => match h[mb]? with
      | some (.map [_]) => some (.ptr h.length 0, h ++ [.it false [.mp mb]])
      | _ => none
    | _, _ => none
  | .next it false => match ρ it with
    | .ptr n 0 => match h[n]? with
      | some (.it sn [.mp mb]) => match h[mb]? with
        | some (.map [(s, d)]) => match sn with
          | true => some (.tup [.d (.v (.bool false))], h)
          | false => bif leB lo n then some (.tup [.d (.v (.bool true)), .d (.v (.string s)), .d d], h.set n (.it true [.mp mb])) else none
        | _ => none
      | _ => none
    | _ => none
  | .entry it => match ρ it with
    | .ptr n 0 => match h[n]? with
      | some (.it true [.mp mb]) => match h[mb]? with
        | some (.map [(s, d)]) => some (.tup [.d (.v (.string s)), .d d], h)
        | _ => none
      | _ => none
    | _ => none
  | _ => none
section
variable {P : Program} {r : Option Nat} {n N0 : Nat} {G : Gh} {w : World} {a : Act} {s : St} {o : Oper} {K : St → Prop} {Q : Exit → Act → World → Prop}
theorem opR_sound {x : AV} {h' : List Blk} {lo : Nat} (hs : Sat G w a s) (hN0 : N0 ≤ G.N) (hx : opR P lo o.op (ev s) s.h = some (x, h')) (hK : K ((s.wh h').put o.dst x)) : o.wpIn (WF r) n P a w (NxT N0 G w K) Q := by
  have hev := hs.ev
  have ptr : ∀ {y : Operand} {n : Nat}, ev s y = .ptr n 0 → a.eval y = .pointer (some ⟨G.rho n, 0, none⟩) := fun {y n} h => by
    have := hev y
    rw [h] at this
    generalize a.eval y = u at this
    cases this; rfl
  unfold opR at hx
  split at hx
  next T m ho =>
    split at hx
    · next ke mb e1 e2 =>
      split at hx
      · next p hb =>
        cases hx
        obtain ⟨s0, d⟩ := p
        obtain ⟨e, h1, h2, h3, h4⟩ := map_one hs.inv hb
        have hv := hev m
        rw [e2] at hv
        have ea : a.eval m = .map (some (G.rho mb)) := by
          generalize a.eval m = u at hv
          cases hv; rfl
        rw [ea] at hv
        obtain ⟨i1, i2, i3⟩ := inv_it_alloc hs.inv hv
        obtain ⟨k0, el⟩ := ke
        refine fin_val (by rw [ho]; simp) hs hN0 (v := .pointer (some ⟨w.heap.size, 0, none⟩)) (w' := w.alloc (.mapIter (some (G.rho mb)) 1 #[] 1)) ?_ i1 (Nat.le_succ _) i2 i3 hK
        unfold execOp
        simp [ho, ea, Instr.range, run_underlying (mapT_spec e1), MapKept.run_getObj_map h1, Result.andThen]
      · cases hx
    · cases hx
  next it ho =>
    split at hx
    · next m e1 =>
      split at hx
      · next sn mb hn =>
        split at hx
        · next s0 d hb =>
          obtain ⟨e, h1, h2, h3, h4⟩ := map_one hs.inv hb
          obtain ⟨t1, t2, t3⟩ := it_spec hs.inv hn
          have hr := run_next_at (P := P) w o.type _ _ _ _ _ _ _ t2 h1 (fun x hx => by simp at hx; subst hx; rw [h4]; exact Nat.one_pos) (Nat.le_refl 1)
          split at hx
          · cases hx
            rcases hr with ⟨_, hr⟩ | ⟨e', he', _⟩
            · refine fin_same (by rw [ho]; simp) hs hN0 (v := .tuple #[.bool false]) ?_ (.tup _ _ rfl fun i u c hu hc => ?_) hK
              · unfold execOp
                simp [ho, ptr e1, hr]
              · match i with
                | 0 => cases hu; cases hc; exact .d (.v _)
                | i + 1 => simp at hu
            · exfalso
              simp [leftOf, h4] at he'
          · have hx := (congrArg some (bif_sm hx).2)
            cases hx
            rcases hr with ⟨h0, _⟩ | ⟨e', he', w1, hw1, hr⟩
            · exfalso
              simp [leftOf] at h0
            · have hee : e' = e := by simpa [leftOf] using he'
              subst hee
              obtain ⟨hE1, hI1⟩ : Ext G.N G w G w1 ∧ Inv G w1 s.h := by
                rcases hw1 with rfl | rfl
                · exact ⟨Ext.refl _ _ _, hs.inv⟩
                · exact inv_drew hs.inv
              obtain ⟨t1', t2', _⟩ := it_spec hI1 hn
              obtain ⟨z1, z2, z3, z4, z5, z6, z7⟩ := hI1.blk m _ hn
              obtain ⟨hE2, hI2⟩ := inv_lp_chg (B' := .it true [.mp mb]) (ob' := .mapIter (some (G.rho mb)) 1 #[0] 1) hI1 hn rfl t1' t2' (.inr rfl) fun w' hc hw' hE => by
                have hvv := (it_spec hI1 hn).2.2
                exact ⟨z1, z2, G.rho mb, #[.map (some (G.rho mb))], (), hw', ⟨rfl, rfl⟩, fun i u c hu hc => by
                  match i with
                  | 0 => cases hu; cases hc; exact hvv.keep hE (Nat.le_refl _)
                  | i + 1 => simp at hu⟩
              refine fin_val (by rw [ho]; simp) hs hN0 (v := .tuple #[.bool true, e'.key, e'.val]) ?_ (hE1.trans hE2) (Nat.le_refl _) hI2 (.tup _ _ rfl fun i u c hu hc => ?_) hK
              · unfold execOp
                simp only [ho, ptr e1]
                rw [h4] at hr
                simp [hr]
                rfl
              · match i with
                | 0 => cases hu; cases hc; exact .d (.v _)
                | 1 => cases hu; cases hc; rw [h2]; exact .d (.v _)
                | 2 => cases hu; cases hc; exact .d (h3.keep (hE1.trans hE2).S (hE1.trans hE2).cell)
                | i + 3 => simp at hu
        · cases hx
      · cases hx
    · cases hx
  next it ho =>
    split at hx
    · next m e1 =>
      split at hx
      · next mb hn =>
        split at hx
        · next s0 d hb =>
          cases hx
          obtain ⟨e, h1, h2, h3, h4⟩ := map_one hs.inv hb
          obtain ⟨t1, t2, t3⟩ := it_spec hs.inv hn
          have hr := run_entry_at (P := P) w _ _ _ #[] _ _ e (by rw [h4]; exact t2) h1 (by simp) (by simp)
          refine fin_same (by rw [ho]; simp) hs hN0 (v := .tuple #[e.key, e.val]) ?_ (.tup _ _ rfl fun i u c hu hc => ?_) hK
          · unfold execOp
            simp [ho, ptr e1, hr]
          · match i with
            | 0 => cases hu; cases hc; rw [h2]; exact .d (.v _)
            | 1 => cases hu; cases hc; exact .d h3
            | i + 2 => simp at hu
        · cases hx
      · cases hx
    · cases hx
  next => cases hx
end
end Go.Proofs.YtnedgkfefdldeaaGreatDoor

/-! AbsCode: The small language's code: sequences, branches, blocks, loops, calls. -/
namespace Go.Proofs.YtnedgkfefdldeaaGreatDoor
open Go.RowKit
def aGuard (ops : Array Oper) (o : Oper) (s : St) (yes no : Prop) : Prop :=
  match o.guard with
  | none => yes
  | some (j, want) => match (ops[j]?).bind (·.dst) with
    | some d => match tget s.t d with
      | .d (.v (.bool b)) => (b = want → yes) ∧ (b = !want → no)
      | .d (.v (.tuple _)) => no
      | _ => False
    | none => False
structure AWp (P : Program) (r : Option Nat) (N0 : Nat) (c : Code) (Q : Exit → St → Prop) (s : St) : Prop where
  run : ∀ (G : Gh) (w : World) (a : Act) (n : Nat), Sat G w a s → N0 ≤ G.N → c.wpIn (WF r) n P (fun e a' w' => NxT N0 G w (Q e) a' w') a w
def AThen (K : St → Prop) (Q : Exit → St → Prop) : Exit → St → Prop
  | .normal, s => K s
  | e, s => Q e s
def enumT : Nat → List AV → List (Nat × AV)
  | _, [] => []
  | k, x :: l => (k, x) :: enumT (k + 1) l
theorem tget_enum : ∀ (l : List AV) (k i : Nat), tget (enumT k l) i = if k ≤ i then (l[i - k]?).getD .dead else .dead
  | [], k, i => by simp [enumT, tget]
  | x :: l, k, i => by
    rw [enumT, tget_cons, tget_enum l (k + 1) i]
    by_cases h : i = k
    · subst h; simp
    · rw [if_neg h]
      by_cases h2 : k ≤ i
      · rw [if_pos (by omega), if_pos h2, show i - k = i - (k + 1) + 1 by omega, List.getElem?_cons_succ]
      · rw [if_neg (by omega), if_neg h2]
def YS (P : Program) (k : Nat) (x : AV) (h : List Blk) (C : Bool → List Blk → Prop) : Prop :=
  ∀ (G : Gh) (w : World) (v : Value) (r : Option Nat) (n : Nat), Inv G w h → VRel G w v x → k < G.N ∧ ∃ (p : Nat) (as bd : Code) (fn : FuncId) (tm : Array Value) (D : Nat),
    w.heap[G.rho k]? = some (.loop { state := .ready, pending := none, fn := fn, tmps := tm, params := #[p], assign := as, body := bd, defers := D }) ∧
    RoundIn (WF r) n P (G.rho k) fn (tm.setIfInBounds p v) as bd w fun e w' => ∃ (b : Bool) (G' : Gh) (h' : List Blk), e = .returned (.bool b) ∧ Ext G.N G w G' w' ∧ G.N ≤ G'.N ∧ Inv G' w' h' ∧ C b h'
def roundC (C : Bool → List Blk → Prop) (k : Nat) : Exit → St → Prop
  | .normal, s2 => ∃ p as bd cs2, s2.h[k]? = some (.lp .busy p as bd cs2) ∧ C true (s2.h.set k (.lp .ready p as bd cs2))
  | .ret, s2 => ∃ p as bd cs2, s2.h[k]? = some (.lp .busy p as bd cs2) ∧ C false (s2.h.set k (.lp (.done .ret) p as bd cs2))
  | .exit i, s2 => ∃ p as bd cs2, s2.h[k]? = some (.lp .busy p as bd cs2) ∧ C false (s2.h.set k (.lp (.done (.exit i)) p as bd cs2))
  | _, _ => False
def aopY (P : Program) (o : Oper) (K : St → Prop) (s : St) : Prop :=
  match o.op with
  | .call c => match c.callee with
    | .value f => match ev s f, c.args.toList.map (ev s) with
      | .yld k, [x] => YS P k x s.h fun b h' => K ((s.wh h').put o.dst (.d (.v (.bool b))))
      | _, _ => False
    | _ => False
  | _ => False
def aopZ (P : Program) (o : Oper) (K : St → Prop) (s : St) : Prop := ∃ x h', (opZ P o.op (ev s) s.h = some (x, h') ∨ ∃ lo, opR P lo o.op (ev s) s.h = some (x, h')) ∧ K ((s.wh h').put o.dst x)
def aopN (P : Program) (o : Oper) (K : St → Prop) (s : St) : Prop := aopV P o K s ∨ aNil P o K s ∨ aop P o K s ∨ aopY P o K s ∨ aopZ P o K s
def aOps (P : Program) (ops : Array Oper) : List Oper → (St → Prop) → St → Prop
  | [], K, s => K s
  | o :: rest, K, s => aGuard ops o s (aopN P o (aOps P ops rest K) s) (aOps P ops rest K (s.put o.dst (.d (.v undef))))
def ABlock (id : Nat) (Q : Exit → St → Prop) : Exit → St → Prop
  | .exit id', s => bif id' == id then Q .normal s else Q (.exit id') s
  | e, s => Q e s
section
variable {P : Program} {r : Option Nat} {n N0 : Nat} {G : Gh} {w : World} {a : Act} {s : St} {o : Oper} {Q : Exit → St → Prop}
theorem NxT.mono {K K' : St → Prop} (h : ∀ s, K s → K' s) {a' : Act} {w' : World} (hn : NxT N0 G w K a' w') : NxT N0 G w K' a' w' :=
  let ⟨G', s', h1, h2, h3, h4⟩ := hn; ⟨G', s', h1, h2, h3, h _ h4⟩
theorem NxT.trans {K : St → Prop} {G1 : Gh} {w1 : World} (hE : Ext N0 G w G1 w1) {a' : Act} {w' : World} (hn : NxT N0 G1 w1 K a' w') : NxT N0 G w K a' w' :=
  let ⟨G', s', h1, h2, h3, h4⟩ := hn; ⟨G', s', hE.trans h1, h2, h3, h4⟩
theorem AWp.mono {c : Code} {Q' : Exit → St → Prop} (h : AWp P r N0 c Q s) (hq : ∀ e s, Q e s → Q' e s) : AWp P r N0 c Q' s :=
  ⟨fun G w a n hs hN => wpIn_mono (h.run G w a n hs hN) fun e _ _ hn => hn.mono (hq e)⟩
theorem guard_sound {ops : Array Oper} {yes no : Prop} (hs : Sat G w a s) (h : aGuard ops o s yes no) : if Region.wanted o (yielded ops a.tmps) then yes else no := by
  unfold aGuard at h
  split at h
  · rename_i hg
    rw [if_pos (by simp [Region.wanted, hg])]; exact h
  · rename_i j want hg
    split at h
    · rename_i d hd
      have hv := hs.tmp d
      split at h
      · rename_i b hb
        rw [hb] at hv
        have e := hv.bool
        have hy : yielded ops a.tmps j = some b := by
          unfold yielded
          rw [hd, Option.bind_some]
          by_cases hlt : d < a.tmps.size
          · rw [Array.getElem?_eq_getElem hlt]
            have : a.tmps.getD d undef = a.tmps[d] := by simp [Array.getD, hlt]
            rw [this] at e; rw [e]
          · have : a.tmps.getD d undef = undef := by simp [Array.getD, hlt]
            rw [this] at e; cases e
        by_cases hbw : b = want
        · rw [if_pos (by simp [Region.wanted, hg, hy, hbw])]; exact h.1 hbw
        · rw [if_neg (by simp [Region.wanted, hg, hy, hbw])]; exact h.2 (by cases b <;> cases want <;> simp_all)
      · rename_i vs hb
        rw [hb] at hv
        have e := hv.val
        have hy : yielded ops a.tmps j = none := by
          unfold yielded
          rw [hd, Option.bind_some]
          by_cases hlt : d < a.tmps.size
          · rw [Array.getElem?_eq_getElem hlt]
            have : a.tmps.getD d undef = a.tmps[d] := by simp [Array.getD, hlt]
            rw [this] at e; rw [e]
          · rw [Array.getElem?_eq_none (Nat.le_of_not_lt hlt)]
        rw [if_neg (by simp [Region.wanted, hg, hy])]; exact h
      · exact h.elim
    · exact h.elim
theorem YS.mono {k : Nat} {x : AV} {h : List Blk} {C C' : Bool → List Blk → Prop} (hy : YS P k x h C) (hc : ∀ b h', C b h' → C' b h') : YS P k x h C' := fun G w v r n hi hv =>
  let ⟨h0, p, as, bd, fn, tm, D, h1, h2⟩ := hy G w v r n hi hv
  ⟨h0, p, as, bd, fn, tm, D, h1, h2.mono fun _ _ ⟨b, G', h', a1, a2, a3, a4, a5⟩ => ⟨b, G', h', a1, a2, a3, a4, hc _ _ a5⟩⟩
theorem ys_of_awp {k : Nat} {x : AV} {h : List Blk} {C : Bool → List Blk → Prop}
    (hA : ∃ p as bd cs, h[k]? = some (.lp .ready p as bd cs) ∧ p < cs.length ∧ ∀ (l : Nat), AWp P (some l) h.length as (AThen (fun s1 => ∃ p1 as1 bd1 cs1, s1.h[k]? = some (.lp .ready p1 as1 bd1 cs1) ∧ AWp P (some l) h.length bd (roundC C k) ⟨s1.n, s1.t, s1.h.set k (.lp .busy p1 as1 bd1 cs1)⟩) (fun _ _ => False)) ⟨cs.length, (p, x) :: enumT 0 cs, h⟩) : YS P k x h C := by
  intro G w v r n hi hvx
  obtain ⟨p, as, bd, cs, hk, hp, hA⟩ := hA
  have hkN : k < G.N := hi.lt hk
  obtain ⟨hS, fn, tm, D, h3, h4, h5, hrec⟩ := lp_rec hi hk
  refine ⟨hkN, p, as, bd, fn, tm, D, h3, ?_⟩
  refine roundIn_of_wpIn (F := WF r) trivial ?_
  have hs0 : Sat G w { tmps := tm.setIfInBounds p v, defers := [] } ⟨cs.length, (p, x) :: enumT 0 cs, h⟩ := by
    refine ⟨by simp [h4], fun i => ?_, hi, Marks.nil _ _⟩
    show VRel _ _ _ (tget ((p, x) :: enumT 0 cs) i)
    rw [tget_cons]
    split
    · next e =>
      subst e
      have : (tm.setIfInBounds i v).getD i undef = v := by simp [Array.getD, h4, hp]
      rw [this]; exact hvx
    · next e =>
      rw [tget_enum]
      simp only [Nat.zero_le, if_true, Nat.sub_zero]
      cases hc' : cs[i]? with
      | none => exact .dead _
      | some y =>
        have hlt : i < tm.size := by rw [h4]; exact (List.getElem?_eq_some_iff.1 hc').1
        have : (tm.setIfInBounds p v).getD i undef = tm[i] := by
          simp [Array.getD, hlt, Ne.symm e]
        rw [this]
        exact h5 i _ y (Array.getElem?_eq_getElem hlt) hc'
  have hA' := hA (G.rho k)
  rw [hi.len] at hA'
  refine wpIn_mono (hA'.run G w _ n hs0 (Nat.le_refl _)) fun e1 a1 w1 hn1 => ?_
  obtain ⟨G1, s1, hE1, hN1, hs1, hq1⟩ := hn1
  cases e1 with
  | normal =>
    obtain ⟨p1, as1, bd1, cs1, hk1, hb1⟩ := hq1
    have hr1 : G1.rho k = G.rho k := hE1.rho k hkN
    obtain ⟨_, fn1, tm1, D1, g3, g4, g5, grec⟩ := lp_rec hs1.inv hk1
    obtain ⟨gE, gI⟩ := grec .busy
    rw [hr1] at g3 gE gI
    refine ⟨_, run_beginRound g3 rfl, ?_⟩
    have hs2 : Sat G1 (w1.putObj (G.rho k) (.loop { state := .busy, pending := none, fn := fn1, tmps := tm1, params := #[p1], assign := as1, body := bd1, defers := D1 })) a1 ⟨s1.n, s1.t, s1.h.set k (.lp .busy p1 as1 bd1 cs1)⟩ := hs1.move gE (Nat.le_refl _) gI
    refine wpIn_mono (hb1.run G1 _ a1 n hs2 hN1) fun e3 a3 w3 hn3 => ?_
    obtain ⟨G3, s3, hE3, hN3, hs3, hq3⟩ := hn3
    have fin : ∀ (jump : Option Code) (ls : LS) (b : Bool) (p : Nat) (as bd : Code) (cs2 : List AV), s3.h[k]? = some (.lp .busy p as bd cs2) → ls.pd = jump → ls.st = (if jump.isNone then .ready else .done) → jump.isNone = b → C b (s3.h.set k (.lp ls p as bd cs2)) →
        ∃ v w', (Instr.endRound (G.rho k) jump).run P w3 = .ok v w' ∧ ∃ (b : Bool) (G' : Gh) (h' : List Blk), (Ending.returned v : Ending) = .returned (.bool b) ∧ Ext G.N G w G' w' ∧ G.N ≤ G'.N ∧ Inv G' w' h' ∧ C b h' := fun jump ls b p as bd cs2 hk3 q1 q2 q3 hK => by
      have hr3 : G3.rho k = G.rho k := (hE3.rho k hkN).trans hr1
      obtain ⟨_, fn3, tm3, D3, z3, z4, z5, zrec⟩ := lp_rec hs3.inv hk3
      obtain ⟨zE, zI⟩ := zrec ls
      rw [hr3] at z3 zE zI
      subst q1
      have hend := run_endRound (P := P) ls.pd z3
      rw [← q2] at hend
      refine ⟨_, _, hend, b, G3, _, by rw [q3], ?_, hN3, zI, hK⟩
      exact (hE1.trans ((gE.less hN1).trans hE3)).trans (zE.less hN3)
    cases e3 with
    | normal => obtain ⟨p2, as2, bd2, cs2, y1, y2⟩ := hq3; exact fin none .ready true p2 as2 bd2 cs2 y1 rfl rfl rfl y2
    | ret => obtain ⟨p2, as2, bd2, cs2, y1, y2⟩ := hq3; exact fin (some .ret) (.done .ret) false p2 as2 bd2 cs2 y1 rfl rfl rfl y2
    | exit i => obtain ⟨p2, as2, bd2, cs2, y1, y2⟩ := hq3; exact fin (some (.exit i)) (.done (.exit i)) false p2 as2 bd2 cs2 y1 rfl rfl rfl y2
    | _ => exact hq3.elim
  | _ => exact hq1.elim
theorem aopY_sound {K : St → Prop} {Q : Exit → Act → World → Prop} (hs : Sat G w a s) (hN : N0 ≤ G.N) (h : aopY P o K s) : o.wpIn (WF r) n P a w (NxT N0 G w K) Q := by
  unfold aopY at h
  split at h
  · next c ho =>
    split at h
    · next f hc =>
      split at h
      · next k x hf hx =>
        have hv := hs.ev f
        rw [hf] at hv
        have ea : a.eval f = .func (.yield (G.rho k)) #[] #[] := by
          generalize a.eval f = u at hv
          cases hv; rfl
        obtain ⟨p1, p2⟩ := sat_args hs c.args
        obtain ⟨v, hargs⟩ : ∃ v, c.args.map a.eval = #[v] := by
          have : (c.args.map a.eval).size = 1 := by rw [p1, hx]; rfl
          exact ⟨(c.args.map a.eval)[0], Array.ext (by simp [this]) fun i h1 h2 => by
            have : i = 0 := by simp at h2; exact h2
            subst this; rfl⟩
        have hvx : VRel G w v x := p2 0 v x (by rw [hargs]; rfl) (by rw [hx]; rfl)
        obtain ⟨hkN, p, as, bd, fn, tm, D, h3, hA⟩ := h G w v r (n - 1) hs.inv hvx
        have hnd : ∀ c', o.op ≠ .defer c' := fun c' e => by rw [ho] at e; cases e
        have hy := run_yield (P := P) (args := #[v]) h3 rfl
        have hrun : (o.semAt (WF r).round a.eval).run P w = .ok (.round (G.rho k) fn (tm.setIfInBounds p v) as bd) w := by
          rw [Oper.semAt_eq _ _ _ hnd]
          unfold execOp
          simp only [ho, resolve, hc, ea]
          simp [Deferred.ofValue, invoke, hargs, hy]
        unfold Oper.wpIn
        refine ⟨fun g hg => trivial, ?_⟩
        rw [hrun, Oper.uponIn_round]
        refine ⟨fun h => (by simp [WF, Fence.wide] at h), hA.mono fun e w' hp => ?_⟩
        obtain ⟨b, G', h', rfl, hE, hN', hi', hK⟩ := hp
        exact ⟨G', _, hE.less hN, Nat.le_trans hN hN', (hs.move hE hN' hi').put (.d (.v _)) o.dst, hK⟩
      · exact h.elim
    · exact h.elim
  · exact h.elim
theorem aopN_sound {K : St → Prop} {Q : Exit → Act → World → Prop} (hs : Sat G w a s) (hN : N0 ≤ G.N) (h : aopN P o K s) : o.wpIn (WF r) n P a w (NxT N0 G w K) Q := by
  rcases h with h | h | h | h | ⟨x, h', h | ⟨lo, h⟩, hK⟩
  · exact aopN0_sound hs hN (.inl h)
  · exact aopN0_sound hs hN (.inr (.inl h))
  · exact aopN0_sound hs hN (.inr (.inr h))
  · exact aopY_sound hs hN h
  · exact opZ_sound hs hN h hK
  · exact opR_sound hs hN h hK
theorem aOps_sound {ops : Array Oper} {K : St → Prop} {Q' : Exit → Act → World → Prop} (hQ : ∀ a' w', NxT N0 G w K a' w' → Q' .normal a' w') : ∀ (l : List Oper) (k : Nat), (∀ j, l[j]? = ops[k + j]?) → ∀ (G1 : Gh) (w1 : World) (a : Act) (s : St),
    Ext N0 G w G1 w1 → N0 ≤ G1.N → Sat G1 w1 a s → aOps P ops l K s → wpOpsIn (WF r) n P ops Q' (List.range' k l.length) a w1
  | [], k, _, G1, w1, a, s, hE, hN, hs, h => hQ _ _ ⟨G1, s, hE, hN, hs, h⟩
  | o :: l, k, hl, G1, w1, a, s, hE, hN, hs, h => by
    have h0 : ops[k]? = some o := by simpa using (hl 0).symm
    have hl' : ∀ j, l[j]? = ops[k + 1 + j]? := fun j => by have := hl (j + 1); simpa [Nat.add_assoc, Nat.add_comm 1 j] using this
    have hg := guard_sound hs h
    simp only [List.length_cons, List.range'_succ, wpOpsIn, h0]
    split
    · rename_i hw
      rw [if_pos hw] at hg
      exact Oper.wpIn_mono (fun a' w' hn => by
        obtain ⟨G2, s2, e2, n2, s2', k2⟩ := hn
        exact aOps_sound hQ l (k + 1) hl' G2 w' a' s2 (hE.trans e2) n2 s2' k2) (aopN_sound hs hN hg)
    · rename_i hw
      rw [if_neg hw] at hg
      exact ⟨fun _ _ => trivial, aOps_sound hQ l (k + 1) hl' G1 w1 _ _ hE hN (hs.put (.d (.v undef)) o.dst) hg⟩
theorem aw_region {id : Nat} {ops : Array Oper} (h : aOps P ops ops.toList (Q .normal) s) : AWp P r N0 (.region id ops false) Q s := by
  constructor
  intro G w a n hs hN
  refine wpIn_region ?_
  rw [List.range_eq_range', ← Array.length_toList]
  exact aOps_sound (G := G) (w := w) (K := Q .normal) (fun _ _ h => h) ops.toList 0 (by simp) G w a s (Ext.refl _ _ _) hN hs h
theorem aw_skip (h : Q .normal s) : AWp P r N0 .skip Q s := ⟨fun G _ _ _ hs hN => wpIn_skip ⟨G, s, Ext.refl _ _ _, hN, hs, h⟩⟩
theorem aw_ret (h : Q .ret s) : AWp P r N0 .ret Q s := ⟨fun G _ _ _ hs hN => wpIn_ret ⟨G, s, Ext.refl _ _ _, hN, hs, h⟩⟩
theorem aw_exit {id : Nat} (h : Q (.exit id) s) : AWp P r N0 (.exit id) Q s := ⟨fun G _ _ _ hs hN => wpIn_exit ⟨G, s, Ext.refl _ _ _, hN, hs, h⟩⟩
theorem aw_seq {x y : Code} (h : AWp P r N0 x (AThen (fun s' => AWp P r N0 y Q s') Q) s) : AWp P r N0 (.seq x y) Q s := by
  constructor
  intro G w a n hs hN
  refine wpIn_seq (wpIn_mono (h.run G w a n hs hN) fun e a1 w1 hn => ?_)
  obtain ⟨G1, s1, hE, hN1, hs1, hq⟩ := hn
  cases e with
  | normal => exact wpIn_mono (hq.run G1 w1 a1 n hs1 hN1) fun _ _ _ hn => hn.trans hE
  | _ => exact ⟨G1, s1, hE, hN1, hs1, hq⟩
theorem aw_cond {c : Operand} {x y : Code} {t : Bool} (hc : ev s c = .d (.v (.bool t))) (h1 : t = true → AWp P r N0 x Q s) (h2 : t = false → AWp P r N0 y Q s) : AWp P r N0 (.cond c x y) Q s := by
  constructor
  intro G w a n hs hN
  have hb := hs.ev c
  rw [hc] at hb
  exact wpIn_cond_split hb.bool (fun e => (h1 e).run G w a n hs hN) (fun e => (h2 e).run G w a n hs hN)
theorem aw_block {id : Nat} {c : Code} (h : AWp P r N0 c (ABlock id Q) s) : AWp P r N0 (.block id c) Q s := by
  constructor
  intro G w a n hs hN
  refine wpIn_block (wpIn_mono (h.run G w a n hs hN) fun e a1 w1 hn => ?_)
  obtain ⟨G1, s1, hE, hN1, hs1, hq⟩ := hn
  cases e with
  | exit id' =>
    by_cases he : id' = id
    · simp only [ABlock, he, BEq.rfl, cond_true] at hq
      simp only [Exit.inBlock, if_pos he]
      exact ⟨G1, s1, hE, hN1, hs1, hq⟩
    · have hbe : (id' == id) = false := by simpa using he
      simp only [ABlock, hbe, cond_false] at hq
      simp only [Exit.inBlock, if_neg he]
      exact ⟨G1, s1, hE, hN1, hs1, hq⟩
  | _ => exact ⟨G1, s1, hE, hN1, hs1, hq⟩
theorem wpIn_loop_ghost {F : Fence} {c : Code} {Q : Exit → Act → World → Prop} {ι : Type} (I : ι → Act → World → Prop) (μ : ι → Nat) (i0 : ι) (h₀ : I i0 a w)
    (round : ∀ i a w, I i a w → c.wpIn F n P (Exit.then (fun a' w' => ∃ i', I i' a' w' ∧ μ i' < μ i) Q) a w) : (Code.loop c).wpIn F n P Q a w := by
  intro b k cs hro hb hr
  have key : ∀ j i a w, μ i = j → I i a w →
      ∃ e a' w', Q e a' w' ∧ ArrivesIn (Machine.fenced P F) P (lone (b.atR a (.code c :: .inLoop c :: k)) cs w) b k cs e a' w' := by
    intro j
    induction j using Nat.strongRecOn with
    | _ j ih =>
      intro i a w hn hI
      obtain ⟨e, a₁, w₁, hq, harr⟩ := round i a w hI b (.inLoop c :: k) cs hro hb hr
      cases e with
      | normal =>
        obtain ⟨i', hI₁, hlt⟩ := hq
        obtain ⟨e₂, a₂, w₂, hq₂, harr₂⟩ := ih (μ i') (hn ▸ hlt) i' a₁ w₁ rfl hI₁
        exact ⟨e₂, a₂, w₂, hq₂, .of_steps (StepsIn.trans harr (.one (fenced_calm hb hr rfl) stepR_inLoop)) harr₂⟩
      | exit id => exact ⟨_, a₁, w₁, hq, .pass (x := .inLoop c) rfl (fun _ _ => .inl (by simp)) harr⟩
      | goto l => exact ⟨_, a₁, w₁, hq, .pass (x := .inLoop c) rfl (fun _ _ => .inl (by simp)) harr⟩
      | ret => exact ⟨_, a₁, w₁, hq, .pass (x := .inLoop c) rfl (fun _ _ => .inl (by simp)) harr⟩
      | panic ch => exact ⟨_, a₁, w₁, hq, .pass (x := .inLoop c) rfl (fun _ _ => .inl (by simp)) harr⟩
      | outgrown => exact ⟨_, a₁, w₁, hq, .pass (x := .inLoop c) rfl (fun _ _ => .inl (by simp)) harr⟩
  obtain ⟨e, a', w', hq, harr⟩ := key _ i0 a w rfl h₀
  exact ⟨e, a', w', hq, .of_steps (.one (fenced_calm hb hr rfl) stepR_loop) harr⟩
end
mutual
def AV.pub (m : Nat) : AV → AV
  | .own n xs => bif leB m n then .d (.sl xs) else .own n xs
  | .agg cs => .agg (AV.pubL m cs)
  | .tup cs => .tup (AV.pubL m cs)
  | .fn f cs => .fn f (AV.pubL m cs)
  | x => x
def AV.pubL (m : Nat) : List AV → List AV
  | [] => []
  | x :: l => x.pub m :: AV.pubL m l
end
mutual
def AV.lowB (m : Nat) : AV → Bool
  | .own n _ | .ptr n _ | .row n _ _ _ _ | .mp n | .yld n | .vec n _ _ _ _ | .vptr n _ _ _ _ => !leB m n
  | .agg cs => AV.lowL m cs
  | .tup cs => AV.lowL m cs
  | .fn _ cs => AV.lowL m cs
  | _ => true
def AV.lowL (m : Nat) : List AV → Bool
  | [] => true
  | x :: l => x.lowB m && AV.lowL m l
end
theorem pubL_eq (m : Nat) : ∀ l, AV.pubL m l = l.map (AV.pub m)
  | [] => by simp [AV.pubL]
  | x :: l => by simp [AV.pubL, pubL_eq m l]
theorem lowL_eq (m : Nat) : ∀ l, AV.lowL m l = l.all (AV.lowB m)
  | [] => by simp [AV.lowL]
  | x :: l => by simp [AV.lowL, lowL_eq m l]
def Blk.pub (m : Nat) : Blk → Blk
  | .cells cs => .cells (cs.map (AV.pub m))
  | .lp ls p as bd cs => .lp ls p as bd (cs.map (AV.pub m))
  | .it sn cs => .it sn (cs.map (AV.pub m))
  | .vec e k cs => .vec e k (cs.map (·.map (AV.pub m)))
  | B => B
def Blk.lowB (m : Nat) : Blk → Bool
  | .cells cs => cs.all (AV.lowB m)
  | .lp _ _ _ _ cs => cs.all (AV.lowB m)
  | .it _ cs => cs.all (AV.lowB m)
  | .vec _ _ cs => cs.all (·.all (AV.lowB m))
  | _ => true
theorem VRel.pub {G : Gh} {w : World} (m : Nat) {u : Value} {x : AV} (h : VRel G w u x) : VRel G w u (x.pub m) := by
  have lst : ∀ (vs : Array Value) (cs : List AV), (∀ (i : Nat) (u : Value) (c : AV), vs[i]? = some u → cs[i]? = some c → VRel G w u (c.pub m)) → ∀ (i : Nat) (u : Value) (c : AV), vs[i]? = some u → (AV.pubL m cs)[i]? = some c → VRel G w u c := by
    intro vs cs ih i u c hu hc
    rw [pubL_eq, List.getElem?_map] at hc
    cases hx : cs[i]? with
    | none => rw [hx] at hc; cases hc
    | some x => rw [hx] at hc; cases hc; exact ih i u x hu hx
  induction h with
  | agg vs cs hl _ ih => rw [AV.pub]; exact .agg vs _ (by rw [pubL_eq, List.length_map]; exact hl) (lst vs cs ih)
  | tup vs cs hl _ ih => rw [AV.pub]; exact .tup vs _ (by rw [pubL_eq, List.length_map]; exact hl) (lst vs cs ih)
  | fn f vs cs hl _ ih => rw [AV.pub]; exact .fn f vs _ (by rw [pubL_eq, List.length_map]; exact hl) (lst vs cs ih)
  | own n xs h hp hle hf =>
    rw [AV.pub, cond_eq_ite]
    split
    · exact .d hp
    · exact .own n xs h hp hle hf
  | d h => simp only [AV.pub]; exact .d h
  | ptr n off h => simp only [AV.pub]; exact .ptr n off h
  | elt xs i off b o u x hx hS hu => simp only [AV.pub]; exact .elt xs i off b o u x hx hS hu
  | full xs hp hf => simp only [AV.pub]; exact .full xs hp hf
  | row n off len cap k h hl hm => simp only [AV.pub]; exact .row n off len cap k h hl hm
  | mp n h => simp only [AV.pub]; exact .mp n h
  | yld n h => simp only [AV.pub]; exact .yld n h
  | vec n o len L k h hs hL hf => simp only [AV.pub]; exact .vec n o len L k h hs hL hf
  | vptr n i j L k h hs hL hf => simp only [AV.pub]; exact .vptr n i j L k h hs hL hf
  | hid h h1 => simp only [AV.pub]; exact .hid h h1
  | dead u => simp only [AV.pub]; exact .dead u
def Gh.cut (G : Gh) (m : Nat) : Gh := { G with N := m }
theorem VRel.cut {G : Gh} {w : World} {m : Nat} {u : Value} {x : AV} (h : VRel G w u x) (hb : x.lowB m = true) : VRel (G.cut m) w u x := by
  induction h with
  | agg vs cs hl _ ih =>
    rw [AV.lowB, lowL_eq, List.all_eq_true] at hb
    exact .agg vs cs hl fun i u c hu hc => ih i u c hu hc (hb c (List.mem_of_getElem? hc))
  | tup vs cs hl _ ih =>
    rw [AV.lowB, lowL_eq, List.all_eq_true] at hb
    exact .tup vs cs hl fun i u c hu hc => ih i u c hu hc (hb c (List.mem_of_getElem? hc))
  | fn f vs cs hl _ ih =>
    rw [AV.lowB, lowL_eq, List.all_eq_true] at hb
    exact .fn f vs cs hl fun i u c hu hc => ih i u c hu hc (hb c (List.mem_of_getElem? hc))
  | own n xs h hp hle hf => rw [AV.lowB] at hb; exact .own n xs (show n < m by rw [Bool.not_eq_true', ← Bool.not_eq_true, leB_iff] at hb; omega) hp hle hf
  | ptr n off h => rw [AV.lowB] at hb; exact .ptr (G := G.cut m) n off (show n < m by rw [Bool.not_eq_true', ← Bool.not_eq_true, leB_iff] at hb; omega)
  | row n off len cap k h hl hm => rw [AV.lowB] at hb; exact .row (G := G.cut m) n off len cap k (show n < m by rw [Bool.not_eq_true', ← Bool.not_eq_true, leB_iff] at hb; omega) hl hm
  | mp n h => rw [AV.lowB] at hb; exact .mp (G := G.cut m) n (show n < m by rw [Bool.not_eq_true', ← Bool.not_eq_true, leB_iff] at hb; omega)
  | yld n h => rw [AV.lowB] at hb; exact .yld (G := G.cut m) n (show n < m by rw [Bool.not_eq_true', ← Bool.not_eq_true, leB_iff] at hb; omega)
  | vec n o len L k h hs hL hf => rw [AV.lowB] at hb; exact .vec (G := G.cut m) n o len L k (show n < m by rw [Bool.not_eq_true', ← Bool.not_eq_true, leB_iff] at hb; omega) hs hL hf
  | vptr n i j L k h hs hL hf => rw [AV.lowB] at hb; exact .vptr (G := G.cut m) n i j L k (show n < m by rw [Bool.not_eq_true', ← Bool.not_eq_true, leB_iff] at hb; omega) hs hL hf
  | hid h h1 => exact .hid (G := G.cut m) h h1
  | d h => exact .d h
  | elt xs i off b o u x hx hS hu => exact .elt xs i off b o u x hx hS hu
  | full xs hp hf => exact .full xs hp hf
  | dead u => exact .dead u
def St.mask (s : St) (live : List Nat) (m : Nat) : St := { s with t := live.map fun k => (k, (tget s.t k).pub m), h := (s.h.take m).map (Blk.pub m) }
def St.okMask (s : St) (live : List Nat) (m : Nat) : Prop := m ≤ s.h.length ∧ (live.all fun k => ((tget s.t k).pub m).lowB m) = true ∧ (((s.h.take m).map (Blk.pub m)).all (Blk.lowB m)) = true
theorem tget_map (f : Nat → AV) : ∀ (live : List Nat) (i : Nat), tget (live.map fun k => (k, f k)) i = if i ∈ live then f i else .dead
  | [], i => by simp [tget]
  | k :: l, i => by
    simp only [List.map_cons, tget_cons, tget_map f l i, List.mem_cons]
    by_cases h : i = k
    · subst h; simp
    · simp [h]
theorem inv_cut {G : Gh} {w : World} {h : List Blk} (hi : Inv G w h) {m : Nat} (hm : m ≤ h.length) (hb : (((h.take m).map (Blk.pub m)).all (Blk.lowB m)) = true) : Inv (G.cut m) w ((h.take m).map (Blk.pub m)) := by
  have hget : ∀ (n : Nat) (B : Blk), ((h.take m).map (Blk.pub m))[n]? = some B → n < m ∧ ∃ B', h[n]? = some B' ∧ B = B'.pub m ∧ (B'.pub m).lowB m = true := fun n B hB => by
    have hbel := List.all_eq_true.1 hb B (List.mem_of_getElem? hB)
    rw [List.getElem?_map, List.getElem?_take] at hB
    split at hB
    · rename_i hn
      cases hx : h[n]? with
      | none => rw [hx] at hB; cases hB
      | some B' => rw [hx] at hB; cases hB; exact ⟨hn, B', rfl, rfl, hbel⟩
    · cases hB
  have hown : ∀ n b, ownB ((h.take m).map (Blk.pub m)) (G.cut m) n = some b → ownB h G n = some b := fun n b hb => by
    obtain ⟨B, hB, hb⟩ := ownB_some hb
    obtain ⟨_, B', h1, rfl, _⟩ := hget n B hB
    rw [ownB_of h1, ← hb]
    cases B' <;> rfl
  refine ⟨by simp [Gh.cut]; omega, hi.z, hi.S, fun n B hB => ?_, fun i j b h1 h2 => hi.inj i j b (hown i b h1) (hown j b h2), hi.gl⟩
  obtain ⟨hn, B', h1, rfl, hbel⟩ := hget n B hB
  have hB' := hi.blk n B' h1
  cases B' with
  | gone => trivial
  | front e k len => exact hB'
  | map kv => exact hB'
  | vec e k cs =>
    obtain ⟨c1, c2, c3, c4⟩ := hB'
    refine ⟨by rw [List.length_map]; exact c1, by rw [List.length_map]; exact c2, fun c hc => ?_, ?_⟩
    · obtain ⟨x, hx, rfl⟩ := List.mem_map.1 hc
      rw [List.length_map]; exact c3 x hx
    · rcases c4 with ⟨d1, d2, A, d3⟩ | ⟨g, cap, cur, d1, d2, d3, d4, d5, d6, d7, d8, d9⟩
      · exact .inl ⟨d1, by rw [d2]; rfl, A, d3⟩
      · refine .inr ⟨g, cap, cur, d1, by rw [List.length_map]; exact d2, d3, d4, by rw [List.length_map]; exact d5, d6, d7, d8, fun i j c x u hc hx hu => ?_⟩
        simp only [Blk.pub, Blk.lowB, List.all_eq_true] at hbel
        rw [List.getElem?_map] at hc
        cases hy : cs[i]? with
        | none => rw [hy] at hc; cases hc
        | some y =>
          rw [hy] at hc
          cases hc
          have hz := hx
          rw [List.getElem?_map] at hx
          cases hw : y[j]? with
          | none => rw [hw] at hx; cases hx
          | some z =>
            rw [hw] at hx
            cases hx
            exact ((d9 i j y z u hy hw hu).pub m).cut (hbel _ (List.mem_map.2 ⟨y, List.mem_of_getElem? hy, rfl⟩) _ (List.mem_of_getElem? hz))
  | cells cs =>
    obtain ⟨c1, c2, vs, T, c3, c4, c5⟩ := hB'
    refine ⟨c1, c2, vs, T, c3, by rw [List.length_map]; exact c4, fun i u c hu hc => ?_⟩
    have hmem := List.mem_of_getElem? hc
    rw [List.getElem?_map] at hc
    cases hx : cs[i]? with
    | none => rw [hx] at hc; cases hc
    | some x =>
      rw [hx] at hc
      cases hc
      exact ((c5 i u x hu hx).pub m).cut (List.all_eq_true.1 hbel _ hmem)
  | lp ls p as bd cs =>
    obtain ⟨c1, c2, fn, vs, T, c3, c4, c5⟩ := hB'
    refine ⟨c1, c2, fn, vs, T, c3, by rw [List.length_map]; exact c4, fun i u c hu hc => ?_⟩
    have hmem := List.mem_of_getElem? hc
    rw [List.getElem?_map] at hc
    cases hx : cs[i]? with
    | none => rw [hx] at hc; cases hc
    | some x =>
      rw [hx] at hc
      cases hc
      exact ((c5 i u x hu hx).pub m).cut (List.all_eq_true.1 hbel _ hmem)
  | it sn cs =>
    obtain ⟨c1, c2, fn, vs, T, c3, c4, c5⟩ := hB'
    refine ⟨c1, c2, fn, vs, T, c3, by rw [List.length_map]; exact c4, fun i u c hu hc => ?_⟩
    have hmem := List.mem_of_getElem? hc
    rw [List.getElem?_map] at hc
    cases hx : cs[i]? with
    | none => rw [hx] at hc; cases hc
    | some x =>
      rw [hx] at hc
      cases hc
      exact ((c5 i u x hu hx).pub m).cut (List.all_eq_true.1 hbel _ hmem)
theorem ext_cut (N : Nat) (G : Gh) (w : World) (m : Nat) : Ext N G w (G.cut m) w :=
  ⟨Nat.le_refl _, fun _ _ h => h, fun _ _ _ => rfl, fun _ _ => rfl, fun _ _ => .inl ⟨rfl, rfl⟩, zsame rfl, fun _ _ => rfl, rfl, rfl, rfl, fun _ _ h => .inl h⟩
section
variable {P : Program} {r : Option Nat} {n N0 : Nat} {G : Gh} {w : World} {a : Act} {s : St} {o : Oper} {Q : Exit → St → Prop}
theorem Sat.mask (hs : Sat G w a s) {live : List Nat} {m : Nat} (h : s.okMask live m) : Sat (G.cut m) w a (s.mask live m) := by
  obtain ⟨h1, h2, h3⟩ := h
  refine ⟨hs.size, fun i => ?_, inv_cut hs.inv h1 h3, hs.df⟩
  show VRel _ _ _ (tget (live.map fun k => (k, (tget s.t k).pub m)) i)
  rw [tget_map (fun k => (tget s.t k).pub m)]
  split
  · rename_i hi
    exact ((hs.tmp i).pub m).cut (List.all_eq_true.1 h2 i hi)
  · exact .dead _
theorem aw_loop {c : Code} {ι : Type} (live : List Nat) (m : Nat) (st : ι → St) (I : ι → Prop) (μ : ι → Nat) (i0 : ι) (hm : N0 ≤ m) (hok : s.okMask live m) (h0 : s.mask live m = st i0) (hI : I i0)
    (round : ∀ i, I i → AWp P r N0 c (AThen (fun s' => s'.okMask live m ∧ ∃ i', s'.mask live m = st i' ∧ I i' ∧ μ i' < μ i) Q) (st i)) : AWp P r N0 (.loop c) Q s := by
  constructor
  intro G w a n hs _
  refine wpIn_loop_ghost (fun (i : ι) a' w' => ∃ G', I i ∧ Ext N0 G w G' w' ∧ N0 ≤ G'.N ∧ Sat G' w' a' (st i)) μ i0 ⟨G.cut m, hI, ext_cut _ _ _ _, hm, h0 ▸ hs.mask hok⟩ ?_
  rintro i a' w' ⟨G', hi, hE, hN, hs'⟩
  refine wpIn_mono ((round i hi).run G' w' a' n hs' hN) fun e a1 w1 hn => ?_
  obtain ⟨G1, s1, hE1, hN1, hs1, hq⟩ := hn
  cases e with
  | normal =>
    obtain ⟨hok', i', h1, h2, h3⟩ := hq
    exact ⟨i', ⟨G1.cut m, h2, (hE.trans hE1).trans (ext_cut _ _ _ _), hm, h1 ▸ hs1.mask hok'⟩, h3⟩
  | _ => exact ⟨G1, s1, hE.trans hE1, hN1, hs1, hq⟩
def aResults (P : Program) (s : St) : List ResultVar → (List AV → Prop) → Prop
  | [], C => C []
  | .tmp t :: l, C => aResults P s l fun xs => C (tget s.t t :: xs)
  | .cell p t :: l, C => aLoad P t s.h (tget s.t p) fun x => aResults P s l fun xs => C (x :: xs)
def tupOf : List AV → AV
  | [x] => x
  | l => .tup l
def aRet (P : Program) (fn : Func) (m : Nat) (K : AV → List Blk → Prop) (s : St) : Prop :=
  aResults P s fn.results.toList fun l => m ≤ s.h.length ∧ ((tupOf l).pub m).lowB m = true ∧ (((s.h.take m).map (Blk.pub m)).all (Blk.lowB m)) = true ∧ K ((tupOf l).pub m) ((s.h.take m).map (Blk.pub m))
def aPost (P : Program) (fn : Func) (m : Nat) (K : AV → List Blk → Prop) : Exit → St → Prop
  | .normal, s => aRet P fn m K s
  | .ret, s => aRet P fn m K s
  | _, _ => False
theorem run_aResults {C : List AV → Prop} (hs : Sat G w a s) (g : ResultVar → Sem Value) (hg1 : ∀ t, g (.tmp t) = pure (a.tmps.getD t undef)) (hg2 : ∀ p t, g (.cell p t) = (do loadVar t (← asAddr (a.tmps.getD p undef)))) :
    ∀ (l : List ResultVar), aResults P s l C → ∃ (vs : List Value) (xs : List AV), (l.mapM g).run P w = .ok vs w ∧ vs.length = xs.length ∧ (∀ (i : Nat) (u : Value) (c : AV), vs[i]? = some u → xs[i]? = some c → VRel G w u c) ∧ C xs := by
  intro l
  induction l generalizing C with
  | nil => exact fun h => ⟨[], [], by simp, rfl, fun i u c hu => by simp at hu, h⟩
  | cons x l ih =>
    intro h
    cases x with
    | tmp t =>
      obtain ⟨vs, xs, h1, h2, h3, h4⟩ := ih h
      refine ⟨a.tmps.getD t undef :: vs, tget s.t t :: xs, by simp only [List.mapM_cons, hg1, Sem.run_bind, Sem.run_pure, Result.andThen_ok, h1], by simp [h2], fun i u c hu hc => ?_, h4⟩
      match i with
      | 0 => simp only [List.getElem?_cons_zero, Option.some.injEq] at hu hc; subst hu; subst hc; exact hs.tmp t
      | i + 1 => exact h3 i u c (by simpa using hu) (by simpa using hc)
    | cell p t =>
      obtain ⟨u0, x0, r1, r2, r3⟩ := run_aLoad (P := P) hs.inv (hs.tmp p) h
      obtain ⟨vs, xs, h1, h2, h3, h4⟩ := ih r3
      have hv := hs.tmp p
      have e : ∃ ad, a.tmps.getD p undef = .pointer (some ad) := by
        have h' : aLoad P t s.h (tget s.t p) fun x => aResults P s l fun xs => C (x :: xs) := h
        generalize a.tmps.getD p undef = v at hv r1
        generalize tget s.t p = y at hv h'
        cases hv with
        | ptr => exact ⟨_, rfl⟩
        | elt => exact ⟨_, rfl⟩
        | _ => exact (show False from h').elim
      obtain ⟨ad, e⟩ := e
      rw [e] at r1
      have r1' : (loadVar t ad).run P w = .ok u0 w := by simpa [Instr.loadAt, Instr.sureAddr] using r1
      have ha : (asAddr (a.tmps.getD p undef)).run P w = .ok ad w := by rw [e]; rfl
      refine ⟨u0 :: vs, x0 :: xs, by simp only [List.mapM_cons, hg2, Sem.run_bind, Sem.run_pure, Result.andThen_ok, h1, ha, r1'], by simp [h2], fun i u c hu hc => ?_, h4⟩
      match i with
      | 0 => simp only [List.getElem?_cons_zero, Option.some.injEq] at hu hc; subst hu; subst hc; exact r2
      | i + 1 => exact h3 i u c (by simpa using hu) (by simpa using hc)
theorem tup_rel : ∀ (vs : List Value) (xs : List AV), vs.length = xs.length → (∀ (i : Nat) (u : Value) (c : AV), vs[i]? = some u → xs[i]? = some c → VRel G w u c) → VRel G w (if h : vs.toArray.size = 1 then vs.toArray[0] else .tuple vs.toArray) (tupOf xs)
  | [v], [x], _, h => h 0 v x rfl rfl
  | [], [], _, _ => .tup _ _ rfl fun i u c hu => by simp at hu
  | v :: u :: vs, x :: y :: xs, hl, h => by
    have : ¬ (v :: u :: vs).toArray.size = 1 := by simp
    rw [dif_neg this]
    exact .tup _ _ (by simpa using hl) fun i p q hp hq => h i p q (by simpa using hp) hq
  | [], _ :: _, hl, _ => by simp at hl
  | _ :: _, [], hl, _ => by simp at hl
  | [_], _ :: _ :: _, hl, _ => by simp at hl
  | _ :: _ :: _, [_], hl, _ => by simp at hl
theorem run_aRet {fn : Func} {m : Nat} {K : AV → List Blk → Prop} (hs : Sat G w a s) (h : aRet P fn m K s) : ∃ v G' r h', (results fn a.tmps).run P w = .ok v w ∧ Ext N0 G w G' w ∧ m ≤ G'.N ∧ Inv G' w h' ∧ VRel G' w v r ∧ K r h' := by
  obtain ⟨g, hg⟩ : ∃ g : ResultVar → Sem Value, results fn a.tmps = (do let vs ← fn.results.mapM g; pure (if h : vs.size = 1 then vs[0] else .tuple vs)) ∧ (∀ t, g (.tmp t) = pure (a.tmps.getD t undef)) ∧ (∀ p t, g (.cell p t) = (do loadVar t (← asAddr (a.tmps.getD p undef)))) :=
    ⟨_, rfl, fun _ => rfl, fun _ _ => rfl⟩
  obtain ⟨vs, xs, h1, h2, h3, h4, h5, h6, h7⟩ := run_aResults hs g hg.2.1 hg.2.2 fn.results.toList h
  have hr : (results fn a.tmps).run P w = .ok (if h : vs.toArray.size = 1 then vs.toArray[0] else .tuple vs.toArray) w := by
    rw [hg.1, Sem.run_bind, Array.mapM_eq_mapM_toList]
    have e : ∀ X : Sem (List Value), (Functor.map List.toArray X : Sem _) = X >>= fun l => pure l.toArray := fun _ => rfl
    rw [e, Sem.run_bind, h1]
    rfl
  have hv := tup_rel vs xs h2 h3
  exact ⟨_, G.cut m, _, _, hr, ext_cut _ _ _ _, Nat.le_refl _, inv_cut hs.inv h4 h6, (hv.pub m).cut h5, h7⟩
theorem acalls_of {f : FuncId} {fn : Func} {c : Code} {args : List AV} {h : List Blk} {K : AV → List Blk → Prop} (m : Nat) (hf : P.funcs[f]? = some fn) (hb : fn.body = some c) (hn : (fn.name == "runtime.NumGoroutine") = false) (hm : h.length ≤ m)
    (hw : AWp P none h.length c (aPost P fn m K) { n := args.length + (fn.ntmps - args.length), t := enumT 0 args, h := h }) : ACalls P f args h K := by
  refine ⟨by unfold enterB; rw [hf]; simp [hb]; simpa using hn, fun G w vs hi hl hr => ?_⟩
  refine callsIn_wide (n := 8).1 (callsIn_of_wp_marks (F := Fence.wide) hf hb trivial ?_)
  have hs : Sat { G with M := w.heap.size } w { tmps := vs ++ Array.replicate (fn.ntmps - vs.size) undef, defers := [] } { n := args.length + (fn.ntmps - args.length), t := enumT 0 args, h := h } := by
    refine ⟨by simp [hl], fun i => ?_, hi.zm G.Z _ (fun _ h => h) (Nat.le_refl _), Marks.nil _ _⟩
    show VRel _ _ _ (tget (enumT 0 args) i)
    rw [tget_enum]
    simp only [Nat.zero_le, if_true, Nat.sub_zero]
    cases hx : args[i]? with
    | none => exact .dead _
    | some x =>
      have hlt : i < vs.size := by rw [hl]; exact (List.getElem?_eq_some_iff.1 hx).1
      have : (vs ++ Array.replicate (fn.ntmps - vs.size) undef).getD i undef = vs[i] := by
        simp [Array.getElem?_append_left hlt, Array.getElem?_eq_getElem hlt]
      simp only [this, Option.getD_some]
      exact (hr i _ x (Array.getElem?_eq_getElem hlt) hx).zm G.Z _
  refine wpIn_mono (hw.run _ w _ 8 hs (by rw [hi.len]; exact Nat.le_refl _)) fun e a' w' hn => ?_
  obtain ⟨G1, s1, hE, hN1, hs1, hq⟩ := hn
  have key : aRet P fn m K s1 → LeavesInM Fence.wide 8 P fn a'.tmps (fun e w' => ∃ v G' r h', e = .returned v ∧ Ext G.N G w G' w' ∧ G.N ≤ G'.N ∧ Inv G' w' h' ∧ VRel G' w' v r ∧ K r h') a'.defers .returning w' := fun hq => by
    obtain ⟨w2, G2, k1, k2, k3, k4⟩ := leave_ok hE hN1 hi.z hi.gl.2 hs1
    obtain ⟨v, G', r, h', r1, r2, r3, r4, r5, r6⟩ := run_aRet (N0 := h.length) k4 hq
    exact k1 _ _ _ _ _ ⟨v, r1, v, G', r, h', rfl, by rw [← hi.len]; exact k2.trans r2, by rw [← hi.len]; exact Nat.le_trans hm r3, r4, r5, r6⟩
  cases e with
  | normal => exact key hq
  | ret => exact key hq
  | _ => exact hq.elim
end
end Go.Proofs.YtnedgkfefdldeaaGreatDoor

/-! AbsWalk: The small language's code as one proposition to be worked out. -/
namespace Go.Proofs.YtnedgkfefdldeaaGreatDoor
open Go.RowKit
section
variable {P : Program} {r : Option Nat} {N0 : Nat} {s : St} {Q : Exit → St → Prop}
end
theorem ACalls.frame {P : Program} {f : FuncId} {args : List AV} {K : AV → Prop} (hc : ACalls P f args [] fun r h => h = [] ∧ K r) (ha : args.all (AV.lowB 0) = true) (hK : ∀ r, K r → r.lowB 0 = true) (h : List Blk) :
    ACalls P f args h fun r h' => h' = h ∧ K r := by
  refine ⟨hc.1, fun G w vs hi hl hr => ?_⟩
  have hi0 : Inv { G with N := 0, Z := fun b => b < w.heap.size } w [] := ⟨rfl, fun b hb => hb, hi.S, fun n B hB => by simp at hB, fun m n b h1 => by simp [ownB] at h1, hi.gl⟩
  refine (hc.2 { G with N := 0, Z := fun b => b < w.heap.size } w vs hi0 hl fun i u c hu hx => ?_).mono fun e w' hp => ?_
  · have := (hr i u c hu hx).cut (List.all_eq_true.1 ha c (List.mem_of_getElem? hx))
    clear hc
    generalize hG : ({ G with N := 0, Z := fun b => b < w.heap.size } : Gh) = G0
    have e : ∀ {v y}, VRel (G.cut 0) w v y → VRel G0 w v y := by
      intro v y hv
      subst hG
      induction hv with
      | agg vs cs hl _ ih => exact .agg vs cs hl ih
      | tup vs cs hl _ ih => exact .tup vs cs hl ih
      | fn f vs cs hl _ ih => exact .fn f vs cs hl ih
      | own n xs h hp hle hf => exact absurd h (Nat.not_lt_zero _)
      | ptr n off h => exact absurd h (Nat.not_lt_zero _)
      | row n off len cap k h hl hm => exact absurd h (Nat.not_lt_zero _)
      | mp n h => exact absurd h (Nat.not_lt_zero _)
      | yld n h => exact absurd h (Nat.not_lt_zero _)
      | vec n o len L k h => exact absurd h (Nat.not_lt_zero _)
      | vptr n i j L k h => exact absurd h (Nat.not_lt_zero _)
      | hid h h1 => exact .hid h h1
      | d h => exact .d h
      | elt xs i off b o u x hx hS hu => exact .elt xs i off b o u x hx hS hu
      | full xs hp hf => exact .full xs hp hf
      | dead u => exact .dead u
    exact e this
  · obtain ⟨v, G', r, h', rfl, hE, hN, hi', hv, rfl, hk⟩ := hp
    have hG'N : G'.N = 0 := hi'.len.symm
    have hnew : ∀ b o, G'.S b o → G.S b o ∨ w.heap.size ≤ b := fun b o hs => (hE.new b o hs).imp id Nat.le_of_not_lt
    have hE2 : Ext G.N G w { G with S := G'.S } w' :=
      ⟨hE.size, hE.S, hE.cell, fun _ _ => rfl, fun _ _ => .inl ⟨rfl, rfl⟩, zsame rfl, fun b hb => hE.old b (hi.z b hb), hE.os, hE.tape, hE.output, fun b o hs => (hnew b o hs).imp id fun hge hz => by have := hi.z b hz; omega⟩
    refine ⟨v, { G with S := G'.S }, r, h, rfl, hE2, Nat.le_refl _, ⟨hi.len, fun b hb => Nat.lt_of_lt_of_le (hi.z b hb) hE.size, hi'.S, fun n B hB => ?_, fun m n b h1 h2 => hi.inj m n b h1 h2, hi.gl.keep hE2⟩, ?_, rfl, hk⟩
    · refine BRel.keep (hi.lt hB) hE2 (Nat.le_refl _) ⟨rfl, rfl, rfl⟩ (fun b hb => ?_) (hi.blk n B hB)
      have hlt := hi.ownlt (n := n) (b := b) ((ownB_of hB).trans hb)
      refine ⟨hE.old _ hlt, fun o hns hs => ?_⟩
      rcases hnew _ o hs with hs | hs
      · exact hns hs
      · omega
    · have hr := hK r hk
      clear hk hE2
      induction hv with
      | agg vs cs hl _ ih =>
        rw [AV.lowB, lowL_eq, List.all_eq_true] at hr
        exact .agg vs cs hl fun i u c hu hc => ih i u c hu hc (hr c (List.mem_of_getElem? hc))
      | tup vs cs hl _ ih =>
        rw [AV.lowB, lowL_eq, List.all_eq_true] at hr
        exact .tup vs cs hl fun i u c hu hc => ih i u c hu hc (hr c (List.mem_of_getElem? hc))
      | fn f vs cs hl _ ih =>
        rw [AV.lowB, lowL_eq, List.all_eq_true] at hr
        exact .fn f vs cs hl fun i u c hu hc => ih i u c hu hc (hr c (List.mem_of_getElem? hc))
      | own n xs h hp hle hf => simp [AV.lowB, leB] at hr
      | ptr n off h => simp [AV.lowB, leB] at hr
      | row n off len cap k h hl hm => simp [AV.lowB, leB] at hr
      | mp n h => simp [AV.lowB, leB] at hr
      | yld n h => simp [AV.lowB, leB] at hr
      | vec n o len L k h => simp [AV.lowB, leB] at hr
      | vptr n i j L k h => simp [AV.lowB, leB] at hr
      | hid h h1 => exact .hid h h1
      | d h => exact .d h
      | elt xs i off b o u x hx hS hu => exact .elt xs i off b o u x hx hS hu
      | full xs hp hf => exact .full xs hp hf
      | dead u => exact .dead u
def AFn (P : Program) (f : FuncId) (args : List AV) (K : AV → Prop) : Prop := ACalls P f args [] fun r h => h = [] ∧ K r
theorem AFn.use {P : Program} {f : FuncId} {args : List AV} {r : AV} {h : List Blk} {C : AV → List Blk → Prop} (hc : AFn P f args (· = r)) (ha : args.all (AV.lowB 0) = true) (hr : r.lowB 0 = true) (hC : C r h) : ACalls P f args h C :=
  (hc.frame ha (fun _ e => e ▸ hr) h).mono fun _ _ ⟨e1, e2⟩ => by subst e1; subst e2; exact hC
end Go.Proofs.YtnedgkfefdldeaaGreatDoor

/-! GrowF: The calls whose blocks are kept in a region that draws its order. Written by a program (mkclone.py). -/
namespace Go.Proofs.YtnedgkfefdldeaaGreatDoor
open Go.RowKit
def growIds : List FuncId := [57, 72, 98, 99, 100]
def growF : Operand → Bool
  | .func g => growIds.any (· == g)
  | _ => false
end Go.Proofs.YtnedgkfefdldeaaGreatDoor

/-! AbsDraw: A region that draws its order, in the small language: one walk in the order of the text serves every order. -/
namespace Go.Proofs.YtnedgkfefdldeaaGreatDoor
open Go.RowKit
def kindOf (o : Oper) : Nat :=
  match o.op with
  | .move _ | .assign _ | .pick .. | .nilCheck _ | .fieldAddr .. | .field .. | .indexAddr .. | .index .. | .build .. | .buildSlice .. | .slice .. | .extract .. | .makeFunc .. | .binOp .. | .unOp .. | .convert .. => 0
  | .load .. | .lookup .. => 1
  | .alloc _ | .box .. => 2
  | .store .. | .makeMap .. | .mapUpdate .. => 3
  | .call c => match c.callee with
    | .builtin .len | .builtin .max | .builtin .min => 0
    | .builtin .append => 5
    | .value f => bif growF f then 6 else 4
    | _ => 9
  | _ => 9
def QCall (P : Program) (g : FuncId) (args : List AV) (h : List Blk) (C : AV → Prop) : Prop := ∃ r, C r ∧ ∀ e, ACalls P g args (h ++ e) fun r' h' => r' = r ∧ h' = h ++ e
def aopD0 (P : Program) (o : Oper) (K : St → Prop) (s : St) : Prop :=
  match o.op with
  | .call c => match c.callee with
    | .value f => match ev s f with
      | .fn g caps => QCall P g (c.args.toList.map (ev s) ++ caps) s.h fun r => K (s.put o.dst r)
      | .hid q => ∃ g cs, q = .fn g cs ∧ QCall P g (c.args.toList.map (ev s) ++ cs.map Cap.av) s.h fun r => K (s.put o.dst r)
      | _ => False
    | _ => aop P o K s
  | _ => aop P o K s
def vOK (o : Oper) : Bool :=
  match o.op with
  | .indexAddr .. | .fieldAddr .. | .nilCheck .. | .load .. | .store .. => true
  | .call c => match c.callee with
    | .builtin .len => true
    | _ => false
  | _ => false
def loose (m : Bool) (o : Oper) : Bool := m && match o.op with
  | .call c => match c.callee with
    | .value (.tmp _) => true
    | _ => false
  | _ => false
def aopM (m : Bool) (P : Program) (o : Oper) (K : St → Prop) (s : St) : Prop :=
  aopD0 P o K s ∨ (loose m o = true ∧ ∃ x h1, K ((s.wh h1).put o.dst x) ∧ ∀ C : AV → List Blk → Prop, C x h1 → aopC P o (ev s) s.h C) ∨ (vOK o = true ∧ aopV P o K s) ∨ (kindOf o = 6 ∧ ∃ x e0, K ((s.wh (s.h ++ e0)).put o.dst x) ∧ ∀ C : AV → List Blk → Prop, C x (s.h ++ e0) → aopC P o (ev s) s.h C)
def aopE (P : Program) (o : Oper) (ρ : Operand → AV) (h : List Blk) (C : AV → List Blk → Prop) : Prop :=
  aopC P o ρ h C ∨ (vOK o = true ∧ ∃ a x h' p, opV P o.op ρ h a = some (x, h', p) ∧ p ∧ C x h')
def aDrawM (m : Bool) (P : Program) (ops : Array Oper) : List Oper → (St → Prop) → St → Prop
  | [], K, s => K s
  | o :: rest, K, s => aGuard ops o s (aopM m P o (aDrawM m P ops rest K) s) (aDrawM m P ops rest K (s.put o.dst (.d (.v undef))))
abbrev aopD (P : Program) (o : Oper) (K : St → Prop) (s : St) : Prop := aopM false P o K s
abbrev aDraw (P : Program) (ops : Array Oper) (l : List Oper) (K : St → Prop) (s : St) : Prop := aDrawM false P ops l K s
section
variable {P : Program} {o : Oper} {ρ ρ' : Operand → AV} {h : List Blk} {C : AV → List Blk → Prop}
theorem optInt_congr (x : Option Operand) (hx : ∀ y ∈ x.toArray, ρ y = ρ' y) (d : Nat) (F : Nat → Prop) : optInt ρ x d F = optInt ρ' x d F := by
  cases x with
  | none => rfl
  | some y => simp only [optInt, hx y (by simp)]
theorem aopC_congr (hρ : ∀ x ∈ o.op.operands, ρ x = ρ' x) : aopC P o ρ h C = aopC P o ρ' h C := by
  obtain ⟨dst, op, type, pos, after, guard⟩ := o
  have pairs : ∀ ps : Array (Nat × Operand), (∀ x ∈ ps.map (·.2), ρ x = ρ' x) → (ps.toList.map fun p => (p.1, ρ p.2)) = (ps.toList.map fun p => (p.1, ρ' p.2)) := fun ps hp =>
    List.map_congr_left fun p hm => by rw [hp p.2 (Array.mem_map.2 ⟨p, Array.mem_toList_iff.1 hm, rfl⟩)]
  have lst : ∀ l : Array Operand, (∀ x ∈ l, ρ x = ρ' x) → l.toList.map ρ = l.toList.map ρ' := fun l hl => List.map_congr_left fun x hm => hl x (Array.mem_toList_iff.1 hm)
  cases op with
  | build t ps => simp only [aopC, pairs ps fun x hx => hρ x (by simpa [Op.operands] using hx)]
  | buildSlice t n ps => simp only [aopC, pairs ps fun x hx => hρ x (by simpa [Op.operands] using hx)]
  | makeFunc fn first captured =>
    cases fn with
    | func f => simp only [aopC, lst captured fun x hx => hρ x (by simp [Op.operands, hx])]
    | _ => rfl
  | slice t x lo hi mx =>
    have e1 : ρ x = ρ' x := hρ x (by simp [Op.operands])
    have e2 := fun d F => optInt_congr (ρ := ρ) (ρ' := ρ') lo (fun y hy => hρ y (by simp at hy; simp [Op.operands, hy])) d F
    have e3 := fun d F => optInt_congr (ρ := ρ) (ρ' := ρ') hi (fun y hy => hρ y (by simp at hy; simp [Op.operands, hy])) d F
    have e4 := fun d F => optInt_congr (ρ := ρ) (ρ' := ρ') mx (fun y hy => hρ y (by simp at hy; simp [Op.operands, hy])) d F
    cases lo <;> cases hi <;> cases mx <;> simp only [aopC, aSlice, e1, e2, e3, e4]
  | call c =>
    have ha : c.args.toList.map ρ = c.args.toList.map ρ' := lst c.args fun x hx => hρ x (by simp [Op.operands, Call.operands, hx])
    have hm : ∀ x, x ∈ c.args.toList → ρ x = ρ' x := fun x hx => hρ x (by simp [Op.operands, Call.operands]; right; exact Array.mem_toList_iff.1 hx)
    cases hc : c.callee with
    | value f =>
      have hf : ρ f = ρ' f := hρ f (by simp [Op.operands, Call.operands, hc])
      simp only [aopC, hc, hf, ha]
    | invoke => simp only [aopC, hc]
    | builtin b =>
      cases b with
      | len =>
        simp only [aopC, hc]
        split
        · rename_i x _ heq _
          rw [hm x (by rw [heq]; simp)]
        · rfl
      | append =>
        simp only [aopC, hc]
        split
        · rename_i x y _ _ heq _
          rw [hm x (by rw [heq]; simp), hm y (by rw [heq]; simp)]
        · rfl
      | max => simp only [aopC, hc, ha]
      | min => simp only [aopC, hc, ha]
      | _ => simp only [aopC, hc]
  | makeMap t r => cases r <;> rfl
  | lookup t a b ok => simp only [aopC, opX, hρ a (by simp [Op.operands]), hρ b (by simp [Op.operands])]
  | mapUpdate t a b c => simp only [aopC, opX, hρ a (by simp [Op.operands]), hρ b (by simp [Op.operands]), hρ c (by simp [Op.operands])]
  | pick c a b => simp only [aopC, hρ c (by simp [Op.operands]), hρ a (by simp [Op.operands]), hρ b (by simp [Op.operands])]
  | store t a b => simp only [aopC, hρ a (by simp [Op.operands]), hρ b (by simp [Op.operands])]
  | binOp op t a b u => simp only [aopC, hρ a (by simp [Op.operands]), hρ b (by simp [Op.operands])]
  | indexAddr t a b => simp only [aopC, hρ a (by simp [Op.operands]), hρ b (by simp [Op.operands])]
  | index t a b => simp only [aopC, hρ a (by simp [Op.operands]), hρ b (by simp [Op.operands])]
  | move a | assign a | box t a | load t a | nilCheck a | fieldAddr t a f | field t a f | extract a i | unOp op t a | convert t u a => simp only [aopC, hρ a (by simp [Op.operands])]
  | _ => rfl
theorem opV_congr (hv : vOK o = true) (hρ : ∀ x ∈ o.op.operands, ρ x = ρ' x) (a : VA) : opV P o.op ρ h a = opV P o.op ρ' h a := by
  obtain ⟨dst, op, type, pos, after, guard⟩ := o
  cases op with
  | store t a b => simp only [opV, hρ a (by simp [Op.operands]), hρ b (by simp [Op.operands])]
  | indexAddr t a b => simp only [opV, hρ a (by simp [Op.operands]), hρ b (by simp [Op.operands])]
  | load t a | nilCheck a | fieldAddr t a f => simp only [opV, hρ a (by simp [Op.operands])]
  | call c =>
    have hm : ∀ x, x ∈ c.args.toList → ρ x = ρ' x := fun x hx => hρ x (by simp [Op.operands, Call.operands]; right; exact Array.mem_toList_iff.1 hx)
    cases hc : c.callee with
    | builtin b =>
      cases b with
      | len =>
        simp only [opV, hc]
        split
        · rename_i x _ heq _
          rw [hm x (by rw [heq]; simp)]
        · rfl
      | _ => simp [vOK, hc] at hv
    | _ => simp [vOK, hc] at hv
  | _ => simp [vOK] at hv
theorem aopE_congr (hρ : ∀ x ∈ o.op.operands, ρ x = ρ' x) : aopE P o ρ h C = aopE P o ρ' h C := by
  unfold aopE
  rw [aopC_congr hρ]
  by_cases hv : vOK o = true
  · simp only [opV_congr hv hρ]
  · simp only [hv, Bool.false_eq_true, false_and]
end
def isCM : Blk → Bool
  | .cells _ | .map _ | .vec .. => true
  | _ => false
def shp : Option Blk → Option (Nat × Nat)
  | some (.vec _ k cs) => some (k, cs.length)
  | _ => none
def VecIn (h h' : List Blk) : Prop := ∀ (m : Nat) (q : Nat × Nat), shp h[m]? = some q → shp h'[m]? = some q
def VecEq (h h' : List Blk) : Prop := ∀ m : Nat, shp h[m]? = shp h'[m]?
theorem VecEq.i {h h' : List Blk} (e : VecEq h h') : VecIn h h' := fun m q hq => by rw [← e m]; exact hq
theorem VecEq.j {h h' : List Blk} (e : VecEq h h') : VecIn h' h := fun m q hq => by rw [e m]; exact hq
theorem VecIn.refl (h : List Blk) : VecIn h h := fun _ _ e => e
theorem VecIn.trans {a b c : List Blk} (x : VecIn a b) (y : VecIn b c) : VecIn a c := fun m q e => y m q (x m q e)
theorem VecIn.app (h e : List Blk) : VecIn h (h ++ e) := fun m q hq => by
  by_cases hl : m < h.length
  · rw [List.getElem?_append_left hl]; exact hq
  · rw [List.getElem?_eq_none (by omega)] at hq; cases hq
theorem VecEq.app {h : List Blk} {B : Blk} (hB : shp (some B) = none) : VecEq h (h ++ [B]) := fun m => by
  by_cases hl : m < h.length
  · rw [List.getElem?_append_left hl]
  · rw [List.getElem?_append_right (by omega), List.getElem?_eq_none (by omega : h.length ≤ m)]
    by_cases h0 : m - h.length = 0
    · rw [h0]; exact hB.symm
    · rw [List.getElem?_eq_none (by simp; omega)]
theorem VecEq.set {h : List Blk} {n : Nat} {B B' : Blk} (hn : h[n]? = some B) (hB : shp (some B) = shp (some B')) : VecEq h (h.set n B') := fun m => by
  by_cases e : n = m
  · subst e
    rw [List.getElem?_set_self (List.getElem?_eq_some_iff.1 hn).1, hn]; exact hB
  · rw [List.getElem?_set_ne e]
def CellsIn (h h' : List Blk) : Prop := ∀ (n : Nat) (B : Blk), h[n]? = some B → isCM B = true → h'[n]? = some B
theorem CellsIn.app (h e : List Blk) : CellsIn h (h ++ e) := fun n cs hn _ => by
  rw [List.getElem?_append_left (List.getElem?_eq_some_iff.1 hn).1]; exact hn
theorem CellsIn.refl (h : List Blk) : CellsIn h h := fun _ _ hn _ => hn
theorem opX_lookup_ext {P : Program} {ρ : Operand → AV} {h h1 : List Blk} {T : TypeId} {m i : Operand} {ok : Bool} {x : AV} {p : Sd} (hx : opX P (.lookup T m i ok) ρ h = some (x, h1, p)) : h1 = h ∧ ∀ h', CellsIn h h' → opX P (.lookup T m i ok) ρ h' = some (x, h', p) := by
  simp only [opX] at hx ⊢
  split at hx
  · next k e hT =>
    split at hx
    · next z hz =>
      split at hx
      · next b s' hm hi =>
        split at hx
        · next kv hn =>
          cases hc : strT P k && z.oneCell' with
          | false => rw [hc] at hx; cases hx
          | true =>
            rw [hc] at hx
            cases hx
            refine ⟨rfl, fun h' hh => ?_⟩
            rw [hh b _ hn rfl]
            simp only [cond_true]
        · cases hx
      · cases hx
    · cases hx
  · cases hx
theorem shp_vec {h : List Blk} {n e k : Nat} {cs : List (List AV)} (hn : h[n]? = some (.vec e k cs)) : shp h[n]? = some (k, cs.length) := by rw [hn]; rfl
theorem vec_shp {h : List Blk} {n k l : Nat} (hq : shp h[n]? = some (k, l)) : ∃ e cs, h[n]? = some (.vec e k cs) ∧ cs.length = l := by
  unfold shp at hq
  split at hq
  · next e k' cs e1 => cases hq; exact ⟨e, cs, e1, rfl⟩
  · cases hq
theorem opV_pure {P : Program} {o : Oper} {ρ : Operand → AV} {h h1 : List Blk} {a : VA} {x : AV} {p : Prop} (hv : vOK o = true) (hk : kindOf o = 0) (hx : opV P o.op ρ h a = some (x, h1, p)) (hp : p) : h1 = h ∧ ∀ h', VecIn h h' → ∃ p', opV P o.op ρ h' a = some (x, h', p') ∧ p' := by
  obtain ⟨dst, op, type, pos, after, guard⟩ := o
  cases op with
  | indexAddr T y i =>
    simp only [opV] at hx ⊢
    split at hx
    · next n o len L k z e k' i' e1 e2 e3 =>
      split at hx
      · next e4 k2 cs hn =>
        obtain ⟨hb, he⟩ := bifS hx
        cases he
        rw [Bool.and_eq_true, beq_iff_eq, beq_iff_eq] at hb
        obtain ⟨rfl, rfl⟩ := hb
        refine ⟨rfl, fun h' hh => ?_⟩
        obtain ⟨e5, cs5, q1, q2⟩ := vec_shp (hh n _ (shp_vec hn))
        simp only [q1, beq_self_eq_true, Bool.and_self, cond_true]
        exact ⟨_, rfl, by rw [q2]; exact hp.1, hp.2⟩
      · cases hx
    · cases hx
  | fieldAddr T y f =>
    simp only [opV] at hx ⊢
    split at hx
    · next e1 e2 => cases hx; exact ⟨rfl, fun h' _ => ⟨_, rfl, trivial⟩⟩
    · cases hx
  | nilCheck y =>
    simp only [opV] at hx ⊢
    split at hx
    · next e1 => cases hx; exact ⟨rfl, fun h' _ => ⟨_, rfl, trivial⟩⟩
    · cases hx
  | call c =>
    cases hc : c.callee with
    | builtin b =>
      cases b with
      | len =>
        simp only [opV, hc] at hx ⊢
        split at hx
        · split at hx
          · next n o len L k e1 =>
            split at hx
            · next e2 k2 cs hn =>
              obtain ⟨hb, he⟩ := bifS hx
              cases he
              rw [Bool.and_eq_true, beq_iff_eq] at hb
              obtain ⟨hb1, rfl⟩ := hb
              refine ⟨rfl, fun h' hh => ?_⟩
              obtain ⟨e5, cs5, q1, q2⟩ := vec_shp (hh n _ (shp_vec hn))
              simp only [q1, hb1, beq_self_eq_true, Bool.and_self, cond_true]
              exact ⟨_, rfl, by rw [q2]; exact hp⟩
            · cases hx
          · cases hx
        · cases hx
      | _ => simp [vOK, hc] at hv
    | _ => simp [vOK, hc] at hv
  | load t y => simp [kindOf] at hk
  | store t y z => simp [kindOf] at hk
  | _ => simp [vOK] at hv
theorem opV_load {P : Program} {o : Oper} {ρ : Operand → AV} {h h1 : List Blk} {a : VA} {x : AV} {p : Prop} (hv : vOK o = true) (hk : kindOf o = 1) (hx : opV P o.op ρ h a = some (x, h1, p)) (hp : p) : h1 = h ∧ ∀ h', CellsIn h h' → ∃ p', opV P o.op ρ h' a = some (x, h', p') ∧ p' := by
  obtain ⟨dst, op, type, pos, after, guard⟩ := o
  cases op with
  | load t y =>
    simp only [opV] at hx ⊢
    split at hx
    · next n i j L k c e1 =>
      split at hx
      · next e2 k' cs z hn hz =>
        obtain ⟨hb, he⟩ := bifS hx
        cases he
        refine ⟨rfl, fun h' hh => ?_⟩
        simp only [hh n _ hn rfl, hz, hb, cond_true]
        exact ⟨_, rfl, hp⟩
      · cases hx
    · cases hx
  | indexAddr T y i => simp [kindOf] at hk
  | fieldAddr T y f => simp [kindOf] at hk
  | nilCheck y => simp [kindOf] at hk
  | call c =>
    cases hc : c.callee with
    | builtin b => cases b <;> simp [kindOf, hc] at hk
    | value f => cases hgr : growF f <;> simp [kindOf, hc, hgr] at hk
    | invoke => simp [kindOf, hc] at hk
  | store t y z => simp [kindOf] at hk
  | _ => simp [vOK] at hv
theorem opV_store {P : Program} {o : Oper} {ρ : Operand → AV} {h h1 : List Blk} {a : VA} {x : AV} {p : Prop} (hv : vOK o = true) (hk : kindOf o = 3) (hx : opV P o.op ρ h a = some (x, h1, p)) (hp : p) : VecEq h h1 := by
  obtain ⟨dst, op, type, pos, after, guard⟩ := o
  cases op with
  | store t y z =>
    simp only [opV] at hx
    split at hx
    · next n i j L k c cs' e1 =>
      split at hx
      · next e k' cs q hn hz =>
        obtain ⟨hb, he⟩ := bifS hx
        cases he
        simp only [Bool.and_eq_true, beq_iff_eq] at hb
        refine VecEq.set hn ?_
        simp only [shp, List.length_set, hp.2.2, hb.1.1.1.1]
      · cases hx
    · cases hx
  | load t y => simp [kindOf] at hk
  | indexAddr T y i => simp [kindOf] at hk
  | fieldAddr T y f => simp [kindOf] at hk
  | nilCheck y => simp [kindOf] at hk
  | call c =>
    cases hc : c.callee with
    | builtin b => cases b <;> simp [kindOf, hc] at hk
    | value f => cases hgr : growF f <;> simp [kindOf, hc, hgr] at hk
    | invoke => simp [kindOf, hc] at hk
  | _ => simp [vOK] at hv
def kindM (m : Bool) (o : Oper) : Nat := bif loose m o then 7 else kindOf o
def OutC (m : Bool) (P : Program) (o : Oper) (ρ : Operand → AV) (h : List Blk) (x : AV) (h1 : List Blk) : Prop :=
  match kindM m o with
  | 0 => h1 = h ∧ ∀ h', VecIn h h' → ∀ C : AV → List Blk → Prop, C x h' → aopE P o ρ h' C
  | 1 => h1 = h ∧ ∀ h', CellsIn h h' → ∀ C : AV → List Blk → Prop, C x h' → aopE P o ρ h' C
  | 2 => ∃ B, shp (some B) = none ∧ x = .ptr h.length 0 ∧ h1 = h ++ [B] ∧ ∀ h' (C : AV → List Blk → Prop), C (.ptr h'.length 0) (h' ++ [B]) → aopE P o ρ h' C
  | 3 => VecEq h h1 ∧ ∀ C : AV → List Blk → Prop, C x h1 → aopE P o ρ h C
  | 4 => h1 = h ∧ ∀ e (C : AV → List Blk → Prop), C x (h ++ e) → aopE P o ρ (h ++ e) C
  | 5 => (CellsIn h h1 ∧ CellsIn h1 h ∧ VecEq h h1) ∧ ∀ C : AV → List Blk → Prop, C x h1 → aopE P o ρ h C
  | 6 => ∃ e0, h1 = h ++ e0 ∧ ∀ C : AV → List Blk → Prop, C x h1 → aopE P o ρ h C
  | 7 => ∀ C : AV → List Blk → Prop, C x h1 → aopE P o ρ h C
  | _ => False
section
variable {P : Program} {o : Oper} {ρ ρ' : Operand → AV} {h : List Blk} {C : AV → List Blk → Prop}
theorem atPtr_ext {p : AV} {K : List AV → Nat → Prop} (hp : atPtr h p K) : ∃ cs off, K cs off ∧ ∀ h', CellsIn h h' → ∀ K' : List AV → Nat → Prop, K' cs off → atPtr h' p K' := by
  unfold atPtr at hp ⊢
  split at hp
  · rename_i n off
    split at hp
    · rename_i cs hcs
      refine ⟨cs, off, hp, fun h' hh K' hk => ?_⟩
      rw [hh n _ hcs rfl]; exact hk
    · exact hp.elim
  · rename_i xs i off
    split at hp
    · rename_i cs hcs
      refine ⟨_, off, hp, fun h' _ K' hk => ?_⟩
      exact hk
    · exact hp.elim
  · exact hp.elim
theorem aLoad_ext {t : Nat} {p : AV} {K : AV → Prop} (hp : aLoad P t h p K) : ∃ x, K x ∧ ∀ h', CellsIn h h' → ∀ K' : AV → Prop, K' x → aLoad P t h' p K' := by
  unfold aLoad at hp ⊢
  obtain ⟨cs, off, h1, h2⟩ := atPtr_ext hp
  split at h1
  · rw [chk_iff] at h1
    refine ⟨_, h1.2, fun h' hh K' hk' => h2 h' hh _ ?_⟩
    exact chk_iff.2 ⟨h1.1, hk'⟩
  · split at h1
    · rename_i c hc
      refine ⟨c, h1, fun h' hh K' hk' => h2 h' hh _ ?_⟩
      simp only [hc]
      exact hk'
    · exact h1.elim
  · exact h1.elim
theorem optInt_lin {x : Option Operand} {d : Nat} {F : Nat → Prop} (hx : optInt ρ x d F) : ∃ m, F m ∧ ∀ F' : Nat → Prop, F' m → optInt ρ x d F' := by
  cases x with
  | none => exact ⟨d, hx, fun _ h => h⟩
  | some y =>
    simp only [optInt] at hx
    split at hx
    · rename_i z hz
      exact ⟨_, hx.2, fun F' hF => by simp only [optInt, hz]; exact ⟨hx.1, hF⟩⟩
    · exact hx.elim
theorem out_pure (hk : kindOf o = 0) (hc : aopC P o ρ h C) : ∃ x, C x h ∧ ∀ h' (C' : AV → List Blk → Prop), C' x h' → aopC P o ρ h' C' := by
  have viaK : ∀ (F : (AV → Prop) → Prop), (∀ K, F K → ∃ x, K x ∧ ∀ K', K' x → F K') → F (fun x => C x h) → (∀ h' C', aopC P o ρ h' C' = F (fun x => C' x h')) → ∃ x, C x h ∧ ∀ h' (C' : AV → List Blk → Prop), C' x h' → aopC P o ρ h' C' := fun F hF h0 he => by
    obtain ⟨x, h1, h2⟩ := hF _ h0
    exact ⟨x, h1, fun h' C' hC' => by rw [he]; exact h2 _ hC'⟩
  obtain ⟨dst, op, type, pos, after, guard⟩ := o
  cases op with
  | move a => exact ⟨ρ a, hc, fun _ _ h => h⟩
  | assign a => exact ⟨ρ a, hc, fun _ _ h => h⟩
  | pick c a b =>
    simp only [aopC] at hc
    split at hc
    · rename_i t ht
      cases t with
      | true => exact ⟨ρ a, hc.1 rfl, fun h' C' hC' => by simp only [aopC, ht]; exact ⟨fun _ => hC', fun e => by cases e⟩⟩
      | false => exact ⟨ρ b, hc.2 rfl, fun h' C' hC' => by simp only [aopC, ht]; exact ⟨fun e => (by cases e), fun _ => hC'⟩⟩
    · exact hc.elim
  | nilCheck a =>
    simp only [aopC] at hc
    split at hc
    · rename_i m off e; exact ⟨_, hc, fun h' C' hC' => by simp only [aopC, e]; exact hC'⟩
    · rename_i xs i off e; exact ⟨_, hc, fun h' C' hC' => by simp only [aopC, e]; exact hC'⟩
    · rename_i f cs e; exact ⟨_, hc, fun h' C' hC' => by simp only [aopC, e]; exact hC'⟩
    · exact hc.elim
  | fieldAddr t a f =>
    simp only [aopC] at hc
    split at hc
    · rename_i fo k g hf
      split at hc
      · rename_i m off e; exact ⟨_, hc, fun h' C' hC' => by simp only [aopC, hf, e]; exact hC'⟩
      · rename_i xs i off e; exact ⟨_, hc, fun h' C' hC' => by simp only [aopC, hf, e]; exact hC'⟩
      · exact hc.elim
    · exact hc.elim
  | field t a f =>
    refine viaK (aField P t (ρ a) f) (fun K hK => ?_) hc (fun _ _ => rfl)
    unfold aField at hK ⊢
    split at hK
    · rw [chk_iff] at hK
      exact ⟨_, hK.2, fun K' hK' => chk_iff.2 ⟨hK.1, hK'⟩⟩
    · split at hK
      · rename_i c hc'; exact ⟨c, hK, fun K' hK' => hK'⟩
      · exact hK.elim
    · exact hK.elim
  | indexAddr t a b =>
    refine viaK (aIndexAddr P t (ρ a) (ρ b)) (fun K hK => ?_) hc (fun _ _ => rfl)
    unfold aIndexAddr at hK ⊢
    split at hK
    · rename_i e k hT
      split at hK
      · rename_i n off len cap k'
        split at hK
        · rename_i z hz
          rw [chk_iff] at hK
          obtain ⟨h1, h2, h3, h4⟩ := hK
          exact ⟨_, h4, fun K' hK' => chk_iff.2 ⟨h1, h2, h3, hK'⟩⟩
        · exact hK.elim
      · split at hK
        · rename_i xs z hxs hz
          obtain ⟨h0, hK⟩ := hK
          split at hK
          · rename_i c hc'
            exact ⟨_, hK.2, fun K' hK' => ⟨h0, hK.1, hK'⟩⟩
          · exact hK.elim
        · exact hK.elim
    · split at hK
      · rename_i n e k b' off z hT hz
        obtain ⟨h1, h2, h3⟩ := hK
        exact ⟨_, h3, fun K' hK' => ⟨h1, h2, hK'⟩⟩
      · rename_i n e k xs i' off z hT hz
        rw [chk_iff] at hK
        obtain ⟨h0, h1, h2, h3⟩ := hK
        split at h3
        · rename_i c hc'
          split at h3
          · rename_i d hd
            exact ⟨_, h3, fun K' hK' => chk_iff.2 ⟨h0, h1, h2, hK'⟩⟩
          · exact h3.elim
        · exact h3.elim
      · exact hK.elim
  | index t a b =>
    simp only [aopC] at hc
    split at hc
    · rename_i bb z e1 e2
      rw [chk_iff] at hc
      obtain ⟨h1, h2, h3⟩ := hc
      split at h3
      · rename_i c hc'
        exact ⟨_, h3, fun h' C' hC' => by simp only [aopC, e1, e2]; exact chk_iff.2 ⟨h1, h2, by simp only [hc']; exact hC'⟩⟩
      · exact h3.elim
    · exact hc.elim
  | build t ps =>
    refine viaK (aBuild P t (ps.toList.map fun p : Nat × Operand => (p.1, ρ p.2))) (fun K hK => ?_) hc (fun _ _ => rfl)
    unfold aBuild at hK ⊢
    split at hK
    · split at hK
      · rename_i cs hcs
        rw [chk_iff] at hK
        exact ⟨_, hK.2, fun K' hK' => chk_iff.2 ⟨hK.1, hK'⟩⟩
      · exact hK.elim
    · exact hK.elim
  | buildSlice t n ps =>
    refine viaK (aBuildSlice P t n (ps.toList.map fun p : Nat × Operand => (p.1, ρ p.2))) (fun K hK => ?_) hc (fun _ _ => rfl)
    unfold aBuildSlice at hK ⊢
    split at hK
    · split at hK
      · split at hK
        · rename_i cs hcs
          split at hK
          · rename_i ds hds
            rw [chk_iff] at hK
            exact ⟨_, hK.2, fun K' hK' => chk_iff.2 ⟨hK.1, hK'⟩⟩
          · exact hK.elim
        · exact hK.elim
      · exact hK.elim
    · exact hK.elim
  | slice t a lo hi mx =>
    refine viaK (aSlice P t ρ (ρ a) lo hi mx) (fun K hK => ?_) hc (fun _ _ => rfl)
    unfold aSlice at hK ⊢
    split at hK
    · split at hK
      · rw [chk_iff] at hK
        obtain ⟨h0, hK⟩ := hK
        obtain ⟨m1, hK, j1⟩ := optInt_lin hK
        obtain ⟨h1, hK⟩ := hK
        obtain ⟨m2, hK, j2⟩ := optInt_lin hK
        obtain ⟨h2, hK⟩ := hK
        exact ⟨_, hK, fun K' hK' => chk_iff.2 ⟨h0, j1 _ ⟨h1, j2 _ ⟨h2, hK'⟩⟩⟩⟩
      · split at hK
        · rw [chk_iff] at hK
          obtain ⟨h0, hK⟩ := hK
          obtain ⟨m1, hK, j1⟩ := optInt_lin hK
          rw [chk_iff] at hK
          obtain ⟨h1, hK⟩ := hK
          obtain ⟨m2, hK, j2⟩ := optInt_lin hK
          rw [chk_iff] at hK
          obtain ⟨h2, hK⟩ := hK
          exact ⟨_, hK, fun K' hK' => by rw [chk_iff]; exact ⟨h0, j1 _ (by rw [chk_iff]; exact ⟨h1, j2 _ (by rw [chk_iff]; exact ⟨h2, hK'⟩)⟩)⟩⟩
        · exact hK.elim
      · split at hK
        · obtain ⟨h0, hK⟩ := hK
          obtain ⟨m1, hK, j1⟩ := optInt_lin hK
          obtain ⟨h1, hK⟩ := hK
          obtain ⟨m2, hK, j2⟩ := optInt_lin hK
          obtain ⟨h2, hK⟩ := hK
          exact ⟨_, hK, fun K' hK' => ⟨h0, j1 _ ⟨h1, j2 _ ⟨h2, hK'⟩⟩⟩⟩
        · exact hK.elim
    · split at hK
      · split at hK
        · obtain ⟨h0, hK⟩ := hK
          obtain ⟨m1, hK, j1⟩ := optInt_lin hK
          obtain ⟨h1, hK⟩ := hK
          obtain ⟨m2, hK, j2⟩ := optInt_lin hK
          obtain ⟨h2, hK⟩ := hK
          exact ⟨_, hK, fun K' hK' => ⟨h0, j1 _ ⟨h1, j2 _ ⟨h2, hK'⟩⟩⟩⟩
        · exact hK.elim
      · exact hK.elim
  | extract a i =>
    simp only [aopC] at hc
    split at hc
    · rename_i cs e
      split at hc
      · rename_i c hc'; exact ⟨c, hc, fun h' C' hC' => by simp only [aopC, e, hc']; exact hC'⟩
      · exact hc.elim
    · exact hc.elim
  | makeFunc fn first caps =>
    cases fn with
    | func f =>
      simp only [aopC] at hc
      split at hc
      · rename_i e; exact ⟨_, hc, fun h' C' hC' => by simp only [aopC, e]; exact hC'⟩
      · exact hc.elim
    | _ => exact hc.elim
  | binOp op t a b u =>
    refine viaK (aBin P t op (ρ a) (ρ b)) (fun K hK => ?_) hc (fun _ _ => rfl)
    unfold aBin at hK ⊢
    split at hK
    · split at hK
      · rw [chk_iff] at hK; exact ⟨_, hK.2.2, fun K' hK' => chk_iff.2 ⟨hK.1, hK.2.1, hK'⟩⟩
      · split at hK
        · exact ⟨_, hK.2, fun K' hK' => ⟨hK.1, hK'⟩⟩
        · split at hK
          · rw [chk_iff] at hK; exact ⟨_, hK.2, fun K' hK' => chk_iff.2 ⟨hK.1, hK'⟩⟩
          · exact hK.elim
    · split at hK
      · exact ⟨_, hK, fun K' hK' => hK'⟩
      · split at hK
        · exact ⟨_, hK.2, fun K' hK' => ⟨hK.1, hK'⟩⟩
        · exact hK.elim
    · split at hK
      · rw [chk_iff] at hK; exact ⟨_, hK.2, fun K' hK' => chk_iff.2 ⟨hK.1, hK'⟩⟩
      · exact hK.elim
    · split at hK
      · split at hK
        · exact ⟨_, hK, fun K' hK' => hK'⟩
        · exact hK.elim
      · exact hK.elim
    · exact hK.elim
  | unOp op t a =>
    refine viaK (aUn op (ρ a)) (fun K hK => ?_) hc (fun _ _ => rfl)
    unfold aUn at hK ⊢
    split at hK
    · split at hK
      · exact ⟨_, hK, fun K' hK' => hK'⟩
      · exact hK.elim
    · exact hK.elim
  | convert t u a =>
    refine viaK (aConv P t u (ρ a)) (fun K hK => ?_) hc (fun _ _ => rfl)
    unfold aConv at hK ⊢
    split at hK
    · split at hK
      · exact ⟨_, hK, fun K' hK' => hK'⟩
      · exact hK.elim
    · rw [chk_iff] at hK; exact ⟨_, hK.2, fun K' hK' => chk_iff.2 ⟨hK.1, hK'⟩⟩
    · split at hK
      · rw [chk_iff] at hK
        obtain ⟨h1, ns, h2, h3⟩ := hK
        exact ⟨_, h3, fun K' hK' => chk_iff.2 ⟨h1, ns, h2, hK'⟩⟩
      · exact hK.elim
  | call c =>
    simp only [kindOf] at hk
    cases hcal : c.callee with
    | value f => cases hgr : growF f <;> simp [hcal, hgr] at hk
    | invoke => simp [hcal] at hk
    | builtin b =>
      cases b with
      | len =>
        simp only [aopC, hcal] at hc
        split at hc
        · rename_i x T e1 e2
          have key : ∀ F : Nat → Prop, aLen P T (ρ x) F → ∃ m, F m ∧ ∀ F' : Nat → Prop, F' m → aLen P T (ρ x) F' := fun F hF => by
            unfold aLen at hF ⊢
            split at hF
            · rw [chk_iff] at hF; exact ⟨_, hF.2, fun F' hF' => chk_iff.2 ⟨hF.1, hF'⟩⟩
            · rw [chk_iff] at hF; exact ⟨_, hF.2, fun F' hF' => chk_iff.2 ⟨hF.1, hF'⟩⟩
            · split at hF
              · rw [chk_iff] at hF; exact ⟨_, hF.2, fun F' hF' => chk_iff.2 ⟨hF.1, hF'⟩⟩
              · exact hF.elim
          obtain ⟨m, h1, h2⟩ := key _ hc
          exact ⟨_, h1, fun h' C' hC' => by simp only [aopC, hcal, e1, e2]; exact h2 _ hC'⟩
        · exact hc.elim
      | max =>
        simp only [aopC, hcal] at hc
        split at hc
        · rename_i e1
          exact ⟨_, hc, fun h' C' hC' => by simp only [aopC, hcal, e1]; exact hC'⟩
        · exact hc.elim
      | min =>
        simp only [aopC, hcal] at hc
        split at hc
        · rename_i e1
          exact ⟨_, hc, fun h' C' hC' => by simp only [aopC, hcal, e1]; exact hC'⟩
        · exact hc.elim
      | _ => simp [hcal] at hk
  | _ => simp [kindOf] at hk
theorem out_alloc (hk : kindOf o = 2) (hc : aopC P o ρ h C) : ∃ B, shp (some B) = none ∧ C (.ptr h.length 0) (h ++ [B]) ∧ ∀ h' (C' : AV → List Blk → Prop), C' (.ptr h'.length 0) (h' ++ [B]) → aopC P o ρ h' C' := by
  obtain ⟨dst, op, type, pos, after, guard⟩ := o
  cases op with
  | alloc e =>
    simp only [aopC] at hc
    split at hc
    · rename_i z hz; exact ⟨_, rfl, hc, fun h' C' hC' => by simp only [aopC, hz]; exact hC'⟩
    · exact hc.elim
  | box e x =>
    simp only [aopC] at hc
    rw [chk_iff] at hc
    exact ⟨_, rfl, hc.2, fun h' C' hC' => by simp only [aopC]; rw [chk_iff]; exact ⟨hc.1, hC'⟩⟩
  | call c =>
    simp only [kindOf] at hk
    cases hcal : c.callee with
    | value f => cases hgr : growF f <;> simp [hcal, hgr] at hk
    | invoke => simp [hcal] at hk
    | builtin b => cases b <;> simp [hcal] at hk
  | _ => simp [kindOf] at hk
theorem out_write (hk : kindOf o = 3) (hc : aopC P o ρ h C) : ∃ x h1, C x h1 ∧ VecEq h h1 ∧ ∀ C' : AV → List Blk → Prop, C' x h1 → aopC P o ρ h C' := by
  obtain ⟨dst, op, type, pos, after, guard⟩ := o
  cases op with
  | store t a b =>
    simp only [aopC] at hc
    have key : ∀ F : List Blk → Prop, aStore P t h (ρ a) (ρ b) F → ∃ h1, F h1 ∧ VecEq h h1 ∧ ∀ F' : List Blk → Prop, F' h1 → aStore P t h (ρ a) (ρ b) F' := fun F hF => by
      unfold aStore at hF ⊢
      split at hF
      · split at hF
        · next hn =>
          split at hF
          · rw [chk_iff] at hF; exact ⟨_, hF.2, VecEq.set hn rfl, fun F' hF' => chk_iff.2 ⟨hF.1, hF'⟩⟩
          · exact hF.elim
        · exact hF.elim
      · exact hF.elim
    obtain ⟨h1, k1, kv, k2⟩ := key _ hc
    exact ⟨_, h1, k1, kv, fun C' hC' => by simp only [aopC]; exact k2 _ hC'⟩
  | makeMap t r =>
    simp only [aopC] at hc
    split at hc
    · rename_i x h' p hx
      refine ⟨x, h', hc.2, ?_, fun C' hC' => by simp only [aopC, hx]; exact ⟨hc.1, hC'⟩⟩
      unfold opX at hx
      cases r with
      | none =>
        simp only at hx
        split at hx
        · cases hx; exact VecEq.app rfl
        · cases hx
      | some r => cases hx
    · exact hc.elim
  | mapUpdate t a b c =>
    simp only [aopC] at hc
    split at hc
    · rename_i x h' p hx
      refine ⟨x, h', hc.2, ?_, fun C' hC' => by simp only [aopC, hx]; exact ⟨hc.1, hC'⟩⟩
      unfold opX at hx
      simp only at hx
      split at hx
      · split at hx
        · split at hx
          · next hn =>
            obtain ⟨hb, he⟩ := bifS hx
            cases he
            exact VecEq.set hn rfl
          · cases hx
        · cases hx
      · cases hx
    · exact hc.elim
  | call c =>
    simp only [kindOf] at hk
    cases hcal : c.callee with
    | value f => cases hgr : growF f <;> simp [hcal, hgr] at hk
    | invoke => simp [hcal] at hk
    | builtin b => cases b <;> simp [hcal] at hk
  | _ => simp [kindOf] at hk
theorem cells_set {n : Nat} {e : TypeId} {k l e' k' l' : Nat} (hn : h[n]? = some (.front e' k' l')) : CellsIn h (h.set n (.front e k l)) ∧ CellsIn (h.set n (.front e k l)) h := by
  refine ⟨fun m cs hm hc => ?_, fun m cs hm hc => ?_⟩
  · have : n ≠ m := fun e => by subst e; rw [hn] at hm; cases hm; cases hc
    rw [List.getElem?_set_ne this]; exact hm
  · by_cases e : n = m
    · subst e
      rw [List.getElem?_set_self (List.getElem?_eq_some_iff.1 hn).1] at hm
      cases hm; cases hc
    · rw [List.getElem?_set_ne e] at hm; exact hm
theorem cells_app {e : TypeId} {k l : Nat} : CellsIn h (h ++ [.front e k l]) ∧ CellsIn (h ++ [.front e k l]) h := by
  refine ⟨CellsIn.app _ _, fun m cs hm hc => ?_⟩
  by_cases hl : m < h.length
  · rw [List.getElem?_append_left hl] at hm; exact hm
  · rw [List.getElem?_append_right (by omega)] at hm
    by_cases h0 : m - h.length = 0
    · rw [h0] at hm; cases hm; cases hc
    · rw [List.getElem?_eq_none (by simp; omega)] at hm; cases hm
theorem out_app (hk : kindOf o = 5) (hc : aopC P o ρ h C) : ∃ x h1, C x h1 ∧ (CellsIn h h1 ∧ CellsIn h1 h ∧ VecEq h h1) ∧ ∀ C' : AV → List Blk → Prop, C' x h1 → aopC P o ρ h C' := by
  obtain ⟨dst, op, type, pos, after, guard⟩ := o
  cases op with
  | call c =>
    simp only [kindOf] at hk
    cases hcal : c.callee with
    | value f => cases hgr : growF f <;> simp [hcal, hgr] at hk
    | invoke => simp [hcal] at hk
    | builtin b =>
      cases b with
      | append =>
        simp only [aopC, hcal] at hc
        split at hc
        · rename_i x y T U e1 e2
          rw [chk_iff] at hc
          have srcK : ∀ (k : Nat) (y : AV) (F : List (List D) → Prop), srcL h k y F → ∃ ys, F ys ∧ ∀ F' : List (List D) → Prop, F' ys → srcL h k y F' := fun k y F hF => by
            unfold srcL at hF ⊢
            split at hF
            · split at hF
              · split at hF
                · rw [chk_iff] at hF; exact ⟨_, hF.2, fun F' hF' => chk_iff.2 ⟨hF.1, hF'⟩⟩
                · exact hF.elim
              · exact hF.elim
            · split at hF
              · exact ⟨_, hF.2, fun F' hF' => ⟨hF.1, hF'⟩⟩
              · exact hF.elim
          have key : ∀ F : AV → List Blk → Prop, aAppend P T h (ρ x) (ρ y) F → ∃ v h1, F v h1 ∧ (CellsIn h h1 ∧ CellsIn h1 h ∧ VecEq h h1) ∧ ∀ F' : AV → List Blk → Prop, F' v h1 → aAppend P T h (ρ x) (ρ y) F' := fun F hF => by
            unfold aAppend at hF ⊢
            split at hF
            · split at hF
              · rw [chk_iff] at hF
                obtain ⟨h0, hF⟩ := hF
                obtain ⟨ys, hF, hs⟩ := srcK _ _ _ hF
                split at hF
                · split at hF
                  · rename_i hn
                    rw [chk_iff] at hF
                    obtain ⟨g1, g2, g3, g4, g5, g6⟩ := hF
                    exact ⟨_, _, g6, ⟨(cells_set hn).1, (cells_set hn).2, VecEq.set hn rfl⟩, fun F' hF' => chk_iff.2 ⟨h0, hs _ (chk_iff.2 ⟨g1, g2, g3, g4, g5, hF'⟩)⟩⟩
                  · exact hF.elim
                · obtain ⟨g4, g5, g6⟩ := hF
                  exact ⟨_, _, g6, ⟨cells_app.1, cells_app.2, VecEq.app rfl⟩, fun F' hF' => chk_iff.2 ⟨h0, hs _ ⟨g4, g5, hF'⟩⟩⟩
                · obtain ⟨g3, g4, g5, g6⟩ := hF
                  exact ⟨_, _, g6, ⟨cells_app.1, cells_app.2, VecEq.app rfl⟩, fun F' hF' => chk_iff.2 ⟨h0, hs _ ⟨g3, g4, g5, hF'⟩⟩⟩
                · exact hF.elim
              · exact hF.elim
            · exact hF.elim
          obtain ⟨v, h1, k1, c1, k2⟩ := key _ hc.2
          exact ⟨v, h1, k1, c1, fun C' hC' => by simp only [aopC, hcal, e1, e2]; rw [chk_iff]; exact ⟨hc.1, k2 _ hC'⟩⟩
        · exact hc.elim
      | _ => simp [hcal] at hk
  | _ => simp [kindOf] at hk
theorem out_of0 {m : Bool} (hlo : loose m o = false) {s : St} {K : St → Prop} (hd : aopD0 P o K s) : ∃ x h1, OutC m P o (ev s) s.h x h1 ∧ K ((s.wh h1).put o.dst x) := by
  have km : kindM m o = kindOf o := by unfold kindM; rw [hlo]; rfl
  have plain : aop P o K s → kindOf o ≠ 4 → kindOf o ≠ 6 → ∃ x h1, OutC m P o (ev s) s.h x h1 ∧ K ((s.wh h1).put o.dst x) := fun ha hk4 hk6 => by
    unfold aop at ha
    by_cases h0 : kindOf o = 0
    · obtain ⟨x, h1, h2⟩ := out_pure h0 ha
      exact ⟨x, s.h, by unfold OutC; rw [km, h0]; exact ⟨rfl, fun h' _ C' hC' => .inl (h2 h' C' hC')⟩, h1⟩
    · by_cases h1 : kindOf o = 1
      · obtain ⟨dst, op, type, pos, after, guard⟩ := o
        cases op with
        | load t a =>
          simp only [aopC] at ha
          obtain ⟨x, k1, k2⟩ := aLoad_ext ha
          exact ⟨x, s.h, by unfold OutC; rw [km, h1]; exact ⟨rfl, fun h' hh C' hC' => .inl (by simp only [aopC]; exact k2 h' hh _ hC')⟩, k1⟩
        | lookup t a b ok =>
          simp only [aopC] at ha
          split at ha
          · rename_i x h' p hx
            obtain ⟨rfl, k2⟩ := opX_lookup_ext hx
            exact ⟨x, s.h, by unfold OutC; rw [km, h1]; exact ⟨rfl, fun h' hh C' hC' => .inl (by simp only [aopC, k2 h' hh]; exact ⟨ha.1, hC'⟩)⟩, ha.2⟩
          · exact ha.elim
        | call c =>
          simp only [kindOf] at h1
          cases hcal : c.callee with
          | value f => cases hgr : growF f <;> simp [hcal, hgr] at h1
          | invoke => simp [hcal] at h1
          | builtin b => cases b <;> simp [hcal] at h1
        | _ => simp [kindOf] at h1
      · by_cases h2 : kindOf o = 2
        · obtain ⟨B, kB, k1, k2⟩ := out_alloc h2 ha
          exact ⟨_, _, by unfold OutC; rw [km, h2]; exact ⟨B, kB, rfl, rfl, fun h' C' hC' => .inl (k2 h' C' hC')⟩, k1⟩
        · by_cases h3 : kindOf o = 3
          · obtain ⟨x, h1', k1, kv, k2⟩ := out_write h3 ha
            exact ⟨x, h1', by unfold OutC; rw [km, h3]; exact ⟨kv, fun C' hC' => .inl (k2 C' hC')⟩, k1⟩
          · by_cases h5 : kindOf o = 5
            · obtain ⟨x, h1', k1, c1, k2⟩ := out_app h5 ha
              exact ⟨x, h1', by unfold OutC; rw [km, h5]; exact ⟨c1, fun C' hC' => .inl (k2 C' hC')⟩, k1⟩
            exfalso
            obtain ⟨dst, op, type, pos, after, guard⟩ := o
            cases op with
            | call c =>
              simp only [kindOf] at h0 h3 hk4 hk6 h5
              simp only [aopC] at ha
              cases hcal : c.callee with
              | value f => cases hgr : growF f <;> simp [hcal, hgr] at hk4 hk6
              | invoke => simp only [hcal] at ha
              | builtin b => cases b <;> simp only [hcal] at ha h0 h3 h5 <;> first | exact ha | exact absurd rfl h0 | exact absurd rfl h3 | exact absurd rfl h5 | exact h3 trivial | exact h0 trivial | exact h5 trivial
            | _ => first | exact absurd rfl h0 | exact absurd rfl h1 | exact absurd rfl h2 | exact absurd rfl h3 | exact ha
  unfold aopD0 at hd
  split at hd
  · rename_i c hop
    split at hd
    · rename_i f hcal
      have fin : ∀ x : AV, (∀ e, ∀ C' : AV → List Blk → Prop, C' x (s.h ++ e) → aopC P o (ev s) (s.h ++ e) C') → OutC m P o (ev s) s.h x s.h := fun x hx => by
        have hk : kindOf o = 4 ∨ kindOf o = 6 := by
          unfold kindOf; simp only [hop, hcal]
          cases growF f <;> simp
        unfold OutC
        rw [km]
        rcases hk with hk | hk
        · rw [hk]; exact ⟨rfl, fun e C' hC' => .inl (hx e C' hC')⟩
        · rw [hk]
          refine ⟨[], (List.append_nil _).symm, fun C' hC' => .inl ?_⟩
          have := hx [] C' (by rw [List.append_nil]; exact hC')
          rwa [List.append_nil] at this
      split at hd
      · rename_i g caps hg
        obtain ⟨x, hK, hcall⟩ := hd
        refine ⟨x, s.h, fin x fun e C' hC' => ?_, hK⟩
        unfold aopC
        simp only [hop, hcal, hg]
        exact (hcall e).mono fun r' h' ⟨e1, e2⟩ => by subst e1; subst e2; exact hC'
      · rename_i q hg
        obtain ⟨g, cs, rfl, x, hK, hcall⟩ := hd
        refine ⟨x, s.h, fin x fun e C' hC' => ?_, hK⟩
        unfold aopC
        simp only [hop, hcal, hg]
        exact ⟨g, cs, rfl, (hcall e).mono fun r' h' ⟨e1, e2⟩ => by subst e1; subst e2; exact hC'⟩
      · exact hd.elim
    · rename_i hcal
      exact plain hd (by
        unfold kindOf
        simp only [hop]
        cases hc : c.callee with
        | value f => exact absurd hc (hcal f)
        | invoke => simp
        | builtin b => cases b <;> simp) (by
        unfold kindOf
        simp only [hop]
        cases hc : c.callee with
        | value f => exact absurd hc (hcal f)
        | invoke => simp
        | builtin b => cases b <;> simp)
  · rename_i hop
    exact plain hd (by
      unfold kindOf
      split <;> first | (rename_i c hc; exact (hop c hc).elim) | simp) (by
      unfold kindOf
      split <;> first | (rename_i c hc; exact (hop c hc).elim) | simp)
theorem outC_any {m : Bool} {h1 : List Blk} {x : AV} (h0 : OutC m P o ρ h x h1) : ∀ C : AV → List Blk → Prop, C x h1 → aopE P o ρ h C := fun C hC => by
  unfold OutC at h0
  split at h0
  · obtain ⟨e, h0⟩ := h0
    subst e
    exact h0 _ (VecIn.refl _) _ hC
  · obtain ⟨e, h0⟩ := h0
    subst e
    exact h0 _ (CellsIn.refl _) _ hC
  · obtain ⟨B, _, rfl, rfl, h0⟩ := h0
    exact h0 _ _ hC
  · exact h0.2 _ hC
  · obtain ⟨e, h0⟩ := h0
    subst e
    have := h0 [] C (by rw [List.append_nil]; exact hC)
    rwa [List.append_nil] at this
  · exact h0.2 _ hC
  · obtain ⟨e0, _, h0⟩ := h0
    exact h0 _ hC
  · exact h0 _ hC
  · exact h0.elim
theorem out_of {m : Bool} {s : St} {K : St → Prop} (hd : aopM m P o K s) : ∃ x h1, OutC m P o (ev s) s.h x h1 ∧ K ((s.wh h1).put o.dst x) := by
  cases hlo : loose m o with
  | true =>
    have k7 : kindM m o = 7 := by unfold kindM; rw [hlo]; rfl
    rcases hd with hd | ⟨_, x, h1, hK, hc⟩ | ⟨hv, _⟩ | ⟨_, x, e0, hK, hc⟩
    · obtain ⟨x, h1, h2, hK⟩ := out_of0 (m := false) rfl hd
      refine ⟨x, h1, ?_, hK⟩
      have := outC_any h2
      unfold OutC
      rw [k7]
      exact this
    · exact ⟨x, h1, by unfold OutC; rw [k7]; exact fun C hC => .inl (hc C hC), hK⟩
    · exfalso
      unfold loose at hlo
      rw [Bool.and_eq_true] at hlo
      unfold vOK at hv
      have hlo := hlo.2
      split at hlo
      · next c e =>
        rw [e] at hv
        split at hlo
        · next f e2 => simp only [e2] at hv; cases hv
        · cases hlo
      · cases hlo
    · exact ⟨x, _, by unfold OutC; rw [k7]; exact fun C hC => .inl (hc C hC), hK⟩
  | false =>
  have km : kindM m o = kindOf o := by unfold kindM; rw [hlo]; rfl
  rcases hd with hd | ⟨hb, _⟩ | ⟨hv, a, x, h', p, hx, hp, hK⟩ | ⟨hk, x, e0, hK, hc⟩
  · exact out_of0 hlo hd
  · rw [hlo] at hb; cases hb
  · have hk : kindOf o = 0 ∨ kindOf o = 1 ∨ kindOf o = 3 := by
      unfold vOK at hv
      unfold kindOf
      split at hv
      all_goals first | (next e => simp only [e]; simp) | skip
      · next c e =>
        split at hv
        · next e2 => simp only [e, e2]; simp
        · cases hv
      · cases hv
    rcases hk with hk | hk | hk
    · obtain ⟨rfl, h2⟩ := opV_pure hv hk hx hp
      refine ⟨x, _, ?_, hK⟩
      unfold OutC
      rw [km, hk]
      exact ⟨rfl, fun h' hh C hC => .inr ⟨hv, a, x, h', by obtain ⟨p', q1, q2⟩ := h2 h' hh; exact ⟨p', q1, q2, hC⟩⟩⟩
    · obtain ⟨rfl, h2⟩ := opV_load hv hk hx hp
      refine ⟨x, _, ?_, hK⟩
      unfold OutC
      rw [km, hk]
      exact ⟨rfl, fun h' hh C hC => .inr ⟨hv, a, x, h', by obtain ⟨p', q1, q2⟩ := h2 h' hh; exact ⟨p', q1, q2, hC⟩⟩⟩
    · refine ⟨x, h', ?_, hK⟩
      unfold OutC
      rw [km, hk]
      exact ⟨opV_store hv hk hx hp, fun C hC => .inr ⟨hv, a, x, h', p, hx, hp, hC⟩⟩
  · refine ⟨x, _, ?_, hK⟩
    unfold OutC
    rw [km, hk]
    exact ⟨e0, rfl, fun C hC => .inl (hc C hC)⟩
end
structure SEq (s s' : St) : Prop where
  n : s.n = s'.n
  h : s.h = s'.h
  t : ∀ i, tget s.t i = tget s'.t i
theorem SEq.refl (s : St) : SEq s s := ⟨rfl, rfl, fun _ => rfl⟩
theorem SEq.symm {s s' : St} (h : SEq s s') : SEq s' s := ⟨h.n.symm, h.h.symm, fun i => (h.t i).symm⟩
theorem SEq.trans {a b c : St} (h : SEq a b) (k : SEq b c) : SEq a c := ⟨h.n.trans k.n, h.h.trans k.h, fun i => (h.t i).trans (k.t i)⟩
theorem tget_put (s : St) (d : Option Nat) (x : AV) (i : Nat) : tget (s.put d x).t i = if d = some i ∧ i < s.n then x else tget s.t i := by
  cases d with
  | none => simp [St.put]
  | some k =>
    by_cases hk : k < s.n
    · rw [put_lt hk, tget_cons]
      by_cases hi : i = k
      · subst hi; simp [hk]
      · rw [if_neg hi, if_neg (by simp; intro e; exact absurd e.symm hi)]
    · rw [put_ge hk]
      rw [if_neg (by rintro ⟨e, hlt⟩; cases e; exact hk hlt)]
theorem put_n (s : St) (d : Option Nat) (x : AV) : (s.put d x).n = s.n := by
  cases d with
  | none => rfl
  | some k =>
    by_cases hk : k < s.n
    · rw [put_lt hk]
    · rw [put_ge hk]
theorem put_h (s : St) (d : Option Nat) (x : AV) : (s.put d x).h = s.h := by
  cases d with
  | none => rfl
  | some k =>
    by_cases hk : k < s.n
    · rw [put_lt hk]
    · rw [put_ge hk]
theorem SEq.put {s s' : St} (h : SEq s s') (h1 : List Blk) (d : Option Nat) (x : AV) : SEq ((s.wh h1).put d x) ((s'.wh h1).put d x) :=
  ⟨by rw [put_n, put_n]; exact h.n, by rw [put_h, put_h]; rfl, fun i => by
    rw [tget_put, tget_put]
    show (if d = some i ∧ i < s.n then x else tget s.t i) = (if d = some i ∧ i < s'.n then x else tget s'.t i)
    rw [h.n, h.t]⟩
theorem put_swap (s : St) (h1 h1' h2 : List Blk) {d d' : Option Nat} (x x' : AV) (hne : ∀ k, d = some k → d' ≠ some k) : SEq ((((s.wh h1).put d x).wh h2).put d' x') ((((s.wh h1').put d' x').wh h2).put d x) := by
  refine ⟨by simp only [put_n]; show ((s.wh h1).put d x).n = ((s.wh h1').put d' x').n; simp only [put_n]; rfl, by simp only [put_h]; rfl, fun i => ?_⟩
  rw [tget_put, tget_put]
  show (if d' = some i ∧ i < ((s.wh h1).put d x).n then x' else tget ((s.wh h1).put d x).t i) = (if d = some i ∧ i < ((s.wh h1').put d' x').n then x else tget ((s.wh h1').put d' x').t i)
  rw [put_n, put_n, tget_put, tget_put]
  show (if d' = some i ∧ i < s.n then x' else (if d = some i ∧ i < s.n then x else tget s.t i)) = (if d = some i ∧ i < s.n then x else (if d' = some i ∧ i < s.n then x' else tget s.t i))
  by_cases a : d = some i
  · have := hne i a
    simp [a, this]
  · simp [a]
section
variable {P : Program} {ops : Array Oper}
def OutG (m : Bool) (P : Program) (ops : Array Oper) (o : Oper) (s : St) (x : AV) (h1 : List Blk) : Prop :=
  (aGuard ops o s True False ∧ OutC m P o (ev s) s.h x h1) ∨ (aGuard ops o s False True ∧ x = .d (.v undef) ∧ h1 = s.h)
theorem guard_split {o : Oper} {s : St} {yes no : Prop} (h : aGuard ops o s yes no) : (aGuard ops o s True False ∧ yes) ∨ (aGuard ops o s False True ∧ no) := by
  unfold aGuard at h ⊢
  split at h
  · exact .inl ⟨trivial, h⟩
  · rename_i j want hg
    split at h
    · rename_i d hd
      split at h
      · rename_i b hb
        by_cases hbw : b = want
        · exact .inl ⟨⟨fun _ => trivial, fun e => by subst hbw; cases b <;> cases e⟩, h.1 hbw⟩
        · have hbn : b = !want := by cases b <;> cases want <;> simp_all
          exact .inr ⟨⟨fun e => (hbw e).elim, fun _ => trivial⟩, h.2 hbn⟩
      · exact .inr ⟨trivial, h⟩
      · exact h.elim
    · exact h.elim
theorem guard_congr {o : Oper} {s s' : St} {yes no : Prop} (ht : ∀ d, d ∈ o.looksAt ops → tget s'.t d = tget s.t d) (h : aGuard ops o s yes no) : aGuard ops o s' yes no := by
  unfold aGuard at h ⊢
  split at h
  · exact h
  · rename_i j want hg
    split at h
    · rename_i d hd
      have : tget s'.t d = tget s.t d := ht d (by unfold Oper.looksAt; rw [hg]; simp [hd])
      rw [this]; exact h
    · exact h.elim
theorem outG_congr {m : Bool} {o : Oper} {s s' : St} {x : AV} {h1 : List Blk} (ht : ∀ d, d ∈ o.looksAt ops → tget s'.t d = tget s.t d) (hh : s'.h = s.h) (h : OutG m P ops o s x h1) : OutG m P ops o s' x h1 := by
  have hev : ∀ y ∈ o.op.operands, ev s y = ev s' y := fun y hy => by
    cases y with
    | tmp t => exact (ht t (by unfold Oper.looksAt; refine List.mem_append.2 (.inl (List.mem_filterMap.2 ⟨.tmp t, Array.mem_toList_iff.2 hy, rfl⟩)))).symm
    | _ => rfl
  rcases h with ⟨g, hc⟩ | ⟨g, e1, e2⟩
  · refine .inl ⟨guard_congr ht g, ?_⟩
    rw [hh]
    have hcong : ∀ h C, aopE P o (ev s) h C = aopE P o (ev s') h C := fun h C => aopE_congr hev
    unfold OutC at hc ⊢
    split at hc
    · exact ⟨hc.1, fun h' hh C hC => hcong h' C ▸ hc.2 h' hh C hC⟩
    · exact ⟨hc.1, fun h' hh C hC => hcong _ C ▸ hc.2 h' hh C hC⟩
    · obtain ⟨B, kB, a, b, c⟩ := hc; exact ⟨B, kB, a, b, fun h' C hC => hcong h' C ▸ c h' C hC⟩
    · exact ⟨hc.1, fun C hC => hcong _ C ▸ hc.2 C hC⟩
    · exact ⟨hc.1, fun e C hC => hcong _ C ▸ hc.2 e C hC⟩
    · exact ⟨hc.1, fun C hC => hcong _ C ▸ hc.2 C hC⟩
    · obtain ⟨e0, a, b⟩ := hc; exact ⟨e0, a, fun C hC => hcong _ C ▸ b C hC⟩
    · exact fun C hC => hcong _ C ▸ hc C hC
    · exact hc.elim
  · exact .inr ⟨guard_congr ht g, e1, e2.trans hh.symm⟩
theorem kind7 {o : Oper} (h : kindOf o = 7) : False := by
  unfold kindOf at h
  repeat' (first | (split at h) | cases h)
  all_goals (cases hg : growF _ <;> rw [hg] at h <;> cases h)
theorem outC_vec {m : Bool} {o : Oper} {ρ : Operand → AV} {h h1 : List Blk} {x : AV} (h7 : loose m o = false) (h0 : OutC m P o ρ h x h1) : VecIn h h1 := by
  unfold OutC at h0
  unfold kindM at h0
  rw [h7] at h0
  simp only [cond_false] at h0
  split at h0
  · rw [h0.1]; exact VecIn.refl _
  · rw [h0.1]; exact VecIn.refl _
  · obtain ⟨B, kB, _, e, _⟩ := h0; rw [e]; exact (VecEq.app kB).i
  · exact h0.1.i
  · rw [h0.1]; exact VecIn.refl _
  · exact h0.1.2.2.i
  · obtain ⟨e0, e, _⟩ := h0; rw [e]; exact VecIn.app _ _
  · next e => exact (kind7 e).elim
  · exact h0.elim
theorem outC_vecB {m : Bool} {o : Oper} {ρ : Operand → AV} {h h1 : List Blk} {x : AV} (h7 : loose m o = false) (hk : kindOf o ≠ 6) (h0 : OutC m P o ρ h x h1) : VecIn h1 h := by
  unfold OutC at h0
  unfold kindM at h0
  rw [h7] at h0
  simp only [cond_false] at h0
  split at h0
  · rw [h0.1]; exact VecIn.refl _
  · rw [h0.1]; exact VecIn.refl _
  · obtain ⟨B, kB, _, e, _⟩ := h0; rw [e]; exact (VecEq.app kB).j
  · exact h0.1.j
  · rw [h0.1]; exact VecIn.refl _
  · exact h0.1.2.2.j
  · next e => exact (hk e).elim
  · next e => exact (kind7 e).elim
  · exact h0.elim
def compat (m : Bool) (a b : Oper) : Bool := !loose m a && !loose m b && (kindOf a == 0 || (kindOf b == 0 && !(kindOf a == 6)) || ((kindOf a == 1 || kindOf a == 4) && (kindOf b == 1 || kindOf b == 4 || kindOf b == 2 || kindOf b == 6)) || (kindOf a == 1 && kindOf b == 5) || (kindOf a == 5 && kindOf b == 1))
theorem swap {m : Bool} {oi oj : Oper} {s : St} {xi xj : AV} {hi hj : List Blk} (hap : oi.apart ops oj = true) (hcp : compat m oi oj = true) (h1 : OutG m P ops oi s xi hi) (h2 : OutG m P ops oj ((s.wh hi).put oi.dst xi) xj hj) :
    ∃ hj', OutG m P ops oj s xj hj' ∧ OutG m P ops oi ((s.wh hj').put oj.dst xj) xi hj := by
  obtain ⟨a1, a2, a3⟩ := Oper.apart_spec hap
  unfold compat at hcp
  rw [Bool.and_eq_true, Bool.and_eq_true, Bool.not_eq_true', Bool.not_eq_true'] at hcp
  obtain ⟨⟨li, lj⟩, hcp⟩ := hcp
  have kmi : kindM m oi = kindOf oi := by unfold kindM; rw [li]; rfl
  have kmj : kindM m oj = kindOf oj := by unfold kindM; rw [lj]; rfl
  have tj : ∀ d, d ∈ oj.looksAt ops → tget s.t d = tget ((s.wh hi).put oi.dst xi).t d := fun d hd => by
    rw [tget_put, if_neg (fun e => a1 d e.1 hd)]; rfl
  have ti : ∀ (h' : List Blk) d, d ∈ oi.looksAt ops → tget ((s.wh h').put oj.dst xj).t d = tget s.t d := fun h' d hd => by
    rw [tget_put, if_neg (fun e => a3 d e.1 hd)]; rfl
  have hs1 : ((s.wh hi).put oi.dst xi).h = hi := by rw [put_h]; rfl
  have hsh : ∀ h', ((s.wh h').put oj.dst xj).h = h' := fun h' => by rw [put_h]; rfl
  -- oj at s, if oi has left the blocks alone
  have same : hi = s.h → OutG m P ops oj s xj hj := fun e => outG_congr tj (by rw [hs1, e]) h2
  have evi : ∀ h', ∀ y ∈ oi.op.operands, ev ((s.wh h').put oj.dst xj) y = ev s y := fun h' y hy => by
    cases y with
    | tmp t => exact ti h' t (by unfold Oper.looksAt; refine List.mem_append.2 (.inl (List.mem_filterMap.2 ⟨.tmp t, Array.mem_toList_iff.2 hy, rfl⟩)))
    | _ => rfl
  have evj : ∀ y ∈ oj.op.operands, ev ((s.wh hi).put oi.dst xi) y = ev s y := fun y hy => by
    cases y with
    | tmp t => exact (tj t (by unfold Oper.looksAt; refine List.mem_append.2 (.inl (List.mem_filterMap.2 ⟨.tmp t, Array.mem_toList_iff.2 hy, rfl⟩)))).symm
    | _ => rfl
  have ci : ∀ h' h C, aopE P oi (ev ((s.wh h').put oj.dst xj)) h C = aopE P oi (ev s) h C := fun h' h C => aopE_congr (evi h')
  have cj : ∀ h C, aopE P oj (ev ((s.wh hi).put oi.dst xi)) h C = aopE P oj (ev s) h C := fun h C => aopE_congr evj
  rcases h1 with ⟨g1, o1⟩ | ⟨g1, e1, e2⟩
  · rcases h2 with ⟨g2, o2⟩ | ⟨g2, f1, f2⟩
    · -- both are carried out
      have g1' : ∀ h', aGuard ops oi ((s.wh h').put oj.dst xj) True False := fun h' => guard_congr (ti h') g1
      have g2' : aGuard ops oj s True False := guard_congr tj g2
      by_cases k0 : kindOf oi = 0
      · unfold OutC at o1
        rw [kmi, k0] at o1
        simp only at o1
        obtain ⟨e, o1⟩ := o1
        refine ⟨hj, same e, .inl ⟨g1' hj, ?_⟩⟩
        unfold OutC
        rw [kmi, k0]
        have hv : VecIn s.h hj := by
          have := outC_vec lj o2
          rw [hs1, e] at this
          exact this
        exact ⟨(hsh hj).symm, fun h' hh C hC => by rw [hsh] at hh; rw [ci]; exact o1 h' (hv.trans hh) C hC⟩
      · by_cases k1 : kindOf oj = 0
        · unfold OutC at o2
          rw [kmj, k1] at o2
          simp only at o2
          obtain ⟨e, o2⟩ := o2
          rw [hs1] at e o2
          have k6 : kindOf oi ≠ 6 := fun k6 => by
            simp [k6, k1] at hcp
          have hv := outC_vecB li k6 o1
          refine ⟨s.h, .inl ⟨g2', ?_⟩, .inl ⟨g1' s.h, ?_⟩⟩
          · unfold OutC; rw [kmj, k1]; exact ⟨rfl, fun h' hh C hC => by rw [← cj]; exact o2 h' (hv.trans hh) C hC⟩
          · rw [e]
            unfold OutC at o1 ⊢
            rw [hsh]
            simp only [ci]
            exact o1
        · by_cases k15 : kindOf oi = 1 ∧ kindOf oj = 5
          · obtain ⟨ka, kb⟩ := k15
            unfold OutC at o1 o2
            rw [kmi, ka] at o1
            rw [kmj, kb] at o2
            simp only at o1 o2
            obtain ⟨e, o1⟩ := o1
            obtain ⟨⟨c1, c2, _⟩, o2⟩ := o2
            rw [hs1, e] at c1 c2
            refine ⟨hj, same e, .inl ⟨g1' hj, ?_⟩⟩
            unfold OutC
            rw [kmi, ka]
            simp only
            refine ⟨(hsh hj).symm, fun h' hh C hC => ?_⟩
            rw [hsh] at hh
            rw [ci]
            exact o1 h' (fun n cs hn hq => hh n cs (c1 n cs hn hq) hq) C hC
          by_cases k51 : kindOf oi = 5 ∧ kindOf oj = 1
          · obtain ⟨ka, kb⟩ := k51
            unfold OutC at o1 o2
            rw [kmi, ka] at o1
            rw [kmj, kb] at o2
            simp only at o1 o2
            obtain ⟨⟨c1, c2, c3⟩, o1⟩ := o1
            obtain ⟨e, o2⟩ := o2
            rw [hs1] at e o2
            refine ⟨s.h, .inl ⟨g2', ?_⟩, .inl ⟨g1' s.h, ?_⟩⟩
            · unfold OutC; rw [kmj, kb]; simp only
              exact ⟨trivial, fun h' hh C hC => by rw [← cj]; exact o2 h' (fun n cs hn hq => hh n cs (c2 n cs hn hq) hq) C hC⟩
            · rw [e]
              unfold OutC
              rw [kmi, ka]
              simp only
              rw [hsh]
              exact ⟨⟨c1, c2, c3⟩, fun C hC => by rw [ci]; exact o1 C hC⟩
          have hc : (kindOf oi = 1 ∨ kindOf oi = 4) ∧ (kindOf oj = 1 ∨ kindOf oj = 4 ∨ kindOf oj = 2 ∨ kindOf oj = 6) := by
            simp only [Bool.or_eq_true, Bool.and_eq_true, beq_iff_eq, k0, k1, false_or, false_and] at hcp
            rcases hcp with (hcp | hcp) | hcp
            · refine ⟨hcp.1, ?_⟩
              rcases hcp.2 with ((h | h) | h) | h
              · exact .inl h
              · exact .inr (.inl h)
              · exact .inr (.inr (.inl h))
              · exact .inr (.inr (.inr h))
            · exact absurd hcp k15
            · exact absurd hcp k51
          have q1 : hi = s.h ∧ ∀ e (C : AV → List Blk → Prop), C xi (s.h ++ e) → aopE P oi (ev s) (s.h ++ e) C := by
            unfold OutC at o1
            rcases hc.1 with k | k
            · rw [kmi, k] at o1; exact ⟨o1.1, fun e C hC => o1.2 _ (CellsIn.app _ _) C hC⟩
            · rw [kmi, k] at o1; exact o1
          have q2 : ∃ e0, hj = s.h ++ e0 := by
            have o2' := o2
            unfold OutC at o2'
            rcases hc.2 with k | k | k | k
            · rw [kmj, k] at o2'; exact ⟨[], by rw [o2'.1, hs1, q1.1, List.append_nil]⟩
            · rw [kmj, k] at o2'; exact ⟨[], by rw [o2'.1, hs1, q1.1, List.append_nil]⟩
            · rw [kmj, k] at o2'; obtain ⟨B, _, _, b, _⟩ := o2'; exact ⟨[B], by rw [b, hs1, q1.1]⟩
            · rw [kmj, k] at o2'; obtain ⟨e0, b, _⟩ := o2'; exact ⟨e0, by rw [b, hs1, q1.1]⟩
          obtain ⟨e0, he0⟩ := q2
          refine ⟨hj, same q1.1, .inl ⟨g1' hj, ?_⟩⟩
          have : ∀ e (C : AV → List Blk → Prop), C xi (hj ++ e) → aopE P oi (ev ((s.wh hj).put oj.dst xj)) (hj ++ e) C := fun e C hC => by
            rw [ci, he0, List.append_assoc]
            rw [he0, List.append_assoc] at hC
            exact q1.2 _ C hC
          unfold OutC
          rw [hsh]
          rcases hc.1 with k | k
          · rw [kmi, k]
            simp only
            refine ⟨trivial, fun h' hh C hC => ?_⟩
            rw [ci]
            unfold OutC at o1
            rw [kmi, k] at o1
            exact o1.2 h' (fun n cs hn hq => hh n cs (by rw [he0]; exact CellsIn.app _ _ n cs hn hq) hq) C hC
          · rw [kmi, k]; exact ⟨rfl, this⟩
    · -- oj is passed over
      subst f1
      rw [hs1] at f2
      refine ⟨s.h, .inr ⟨guard_congr tj g2, rfl, rfl⟩, ?_⟩
      rw [f2]
      exact outG_congr (ti s.h) (by rw [hsh]) (.inl ⟨g1, o1⟩)
  · -- oi is passed over
    subst e1
    refine ⟨hj, same e2, .inr ⟨guard_congr (ti hj) g1, rfl, (hsh hj).symm⟩⟩
def Closed (K : St → Prop) : Prop := ∀ s s', SEq s s' → K s → K s'
def aAny (m : Bool) (P : Program) (ops : Array Oper) (K : St → Prop) : Nat → Array Bool → St → Prop
  | 0, listed, s => Region.ready .any ops listed = [] ∧ K s
  | fuel + 1, listed, s =>
    (Region.ready .any ops listed = [] → K s) ∧
    ∀ i ∈ Region.ready .any ops listed, ∀ o, ops[i]? = some o → ∃ x h1, OutG m P ops o s x h1 ∧ aAny m P ops K fuel (listed.setIfInBounds i true) ((s.wh h1).put o.dst x)
theorem aAny_congr {m : Bool} {K : St → Prop} (hK : Closed K) : ∀ (fuel : Nat) (listed : Array Bool) (s s' : St), SEq s s' → aAny m P ops K fuel listed s → aAny m P ops K fuel listed s'
  | 0, _, s, s', hs, h => ⟨h.1, hK s s' hs h.2⟩
  | fuel + 1, _, s, s', hs, h => ⟨fun h0 => hK s s' hs (h.1 h0), fun i hi o ho => by
      obtain ⟨x, h1, h2, h3⟩ := h.2 i hi o ho
      exact ⟨x, h1, outG_congr (fun d _ => (hs.t d).symm) hs.h.symm h2, aAny_congr hK fuel _ _ _ (hs.put h1 o.dst x) h3⟩⟩
def certOK (M : Array Nat) (ops : Array Oper) : Bool :=
  (List.range ops.size).all fun j => (List.range ops.size).all fun i => !(M.getD j 0).testBit i || match ops[j]? with
    | some o => o.after.any fun e => Region.binds .any e && decide (e.on < j) && (e.on == i || (M.getD e.on 0).testBit i)
    | none => false
def Dn (ops : Array Oper) (listed : Array Bool) : Prop := ∀ (j : Nat) (o : Oper), ops[j]? = some o → listed.getD j false = true → ∀ e ∈ o.after, Region.binds .any e = true → listed.getD e.on false = true
theorem cert_spec {M : Array Nat} (hM : certOK M ops = true) {listed : Array Bool} (hD : Dn ops listed) : ∀ (j i : Nat) (o : Oper), i < ops.size → ops[j]? = some o → (∀ e ∈ o.after, Region.binds .any e = true → listed.getD e.on false = true) → (M.getD j 0).testBit i = true → listed.getD i false = true := by
  intro j
  induction j using Nat.strongRecOn with
  | _ j ih =>
    intro i o hi ho hp hb
    unfold certOK at hM
    simp only [List.all_eq_true, List.mem_range] at hM
    have h1 := hM j (Array.getElem?_eq_some_iff.1 ho).1 i hi
    rw [hb, ho] at h1
    simp only [Bool.not_true, Bool.false_or] at h1
    rw [Array.any_eq_true'] at h1
    obtain ⟨e, he, h2⟩ := h1
    simp only [Bool.and_eq_true, decide_eq_true_eq, Bool.or_eq_true, beq_iff_eq] at h2
    obtain ⟨⟨hbd, hlt⟩, h3⟩ := h2
    have hl := hp e he hbd
    rcases h3 with h3 | h3
    · rw [← h3]; exact hl
    · have hlt' : e.on < ops.size := Nat.lt_trans hlt (Array.getElem?_eq_some_iff.1 ho).1
      exact ih e.on hlt i ops[e.on] hi (Array.getElem?_eq_getElem hlt') (hD e.on _ (Array.getElem?_eq_getElem hlt') hl) h3
theorem Dn.set {listed : Array Bool} (hD : Dn ops listed) {i : Nat} (hr : i ∈ Region.ready .any ops listed) : Dn ops (listed.setIfInBounds i true) := by
  intro j o ho hj e he hb
  refine getD_set_true ?_
  by_cases hij : i = j
  · subst hij
    obtain ⟨_, o', ho', hall⟩ := mem_ready.1 hr
    rw [ho] at ho'; cases ho'
    exact hall e he hb
  · rw [getD_set_ne false hij] at hj
    exact hD j o ho hj e he hb
theorem aAny_first {m : Bool} {K : St → Prop} (hK : Closed K) {M : Array Nat} (hM : certOK M ops = true) {i : Nat} {oi : Oper} {x : AV} {h1 : List Blk} (hi : ops[i]? = some oi) :
    ∀ (fuel : Nat) (listed : Array Bool) (s : St), Dn ops listed →
      (∀ j oj, ops[j]? = some oj → j ≠ i → listed.getD j true = false → (M.getD j 0).testBit i = false → oi.apart ops oj = true ∧ compat m oi oj = true) →
      i ∈ Region.ready .any ops listed → OutG m P ops oi s x h1 → aAny m P ops K fuel (listed.setIfInBounds i true) ((s.wh h1).put oi.dst x) → aAny m P ops K (fuel + 1) listed s := by
  intro fuel
  induction fuel generalizing x h1 with
  | zero =>
    intro listed s _ _ hr hy H
    refine ⟨fun h => (by rw [h] at hr; cases hr), fun j hj o ho => ?_⟩
    by_cases hji : j = i
    · subst hji
      rw [hi] at ho; cases ho
      exact ⟨x, h1, hy, H⟩
    · have := ready_mono hj hji
      rw [H.1] at this
      cases this
  | succ fuel ih =>
    intro listed s hD hfree hr hy H
    refine ⟨fun h => (by rw [h] at hr; cases hr), fun j hj oj hoj => ?_⟩
    by_cases hji : j = i
    · subst hji
      rw [hi] at hoj; cases hoj
      exact ⟨x, h1, hy, H⟩
    · obtain ⟨xj, hj1, hy2, H2⟩ := H.2 j (ready_mono hj hji) oj hoj
      obtain ⟨hjun, oj', hoj', hall⟩ := mem_ready.1 hj
      rw [hoj] at hoj'; cases hoj'
      have hidx := (Array.getElem?_eq_some_iff.1 hi).1
      have hun : listed.getD i false = false := by
        have h0 := (mem_ready.1 hr).1
        rcases Nat.lt_or_ge i listed.size with h' | h'
        · simpa [h'] using h0
        · simp [Array.getElem?_eq_none h'] at h0
      have hnd : (M.getD j 0).testBit i = false := by
        cases hb : (M.getD j 0).testBit i with
        | false => rfl
        | true => rw [cert_spec hM hD j i oj hidx hoj hall hb] at hun; cases hun
      obtain ⟨hap, hcp⟩ := hfree j oj hoj hji hjun hnd
      obtain ⟨hj', s1, s2⟩ := swap hap hcp hy hy2
      obtain ⟨_, a2, _⟩ := Oper.apart_spec hap
      refine ⟨xj, hj', s1, ih (listed.setIfInBounds j true) _ (hD.set hj) (fun k ok hk hki hun' hno => ?_) (ready_mono hr (Ne.symm hji)) s2 ?_⟩
      · refine hfree k ok hk hki ?_ hno
        by_cases hjk : j = k
        · subst hjk; exact hjun
        · rw [getD_set_ne true hjk] at hun'; exact hun'
      · rw [Array.setIfInBounds_comm _ _ hji]
        exact aAny_congr hK _ _ _ _ (put_swap s h1 hj' hj1 x xj (fun k hk => a2 k hk)) H2
def freeD (M : Array Nat) (ops : Array Oper) (k : Nat) : Bool :=
  match ops[k]? with
  | none => false
  | some oi => (List.range ops.size).all fun j => decide (j ≤ k) || (M.getD j 0).testBit k || match ops[j]? with
      | some oj => oi.apart ops oj && compat false oi oj
      | none => true
def lexFromD (M : Array Nat) (ops : Array Oper) : Nat → Nat → Array Bool → Bool
  | 0, _, listed => (Region.ready .any ops listed).isEmpty
  | fuel + 1, k, listed => (Region.ready .any ops listed).contains k && freeD M ops k && lexFromD M ops fuel (k + 1) (listed.setIfInBounds k true)
def lexD (ops : Array Oper) : Bool := certOK (Region.before ops) ops && lexFromD (Region.before ops) ops ops.size 0 (Array.replicate ops.size false)
theorem aAny_lex {K K' : St → Prop} (hK : Closed K') (hKK : ∀ s, K s → K' s) {M : Array Nat} (hM : certOK M ops = true) : ∀ (l : List Oper) (k : Nat) (listed : Array Bool) (s : St), (∀ j, l[j]? = ops[k + j]?) → (∀ j, j < k → listed.getD j true = true) → Dn ops listed →
    lexFromD M ops l.length k listed = true → aDraw P ops l K s → aAny false P ops K' l.length listed s
  | [], _, _, _, _, _, _, hB, h => ⟨by simpa [lexFromD] using hB, hKK _ h⟩
  | o :: l, k, listed, s, hl, hlow, hD, hB, h => by
    have h0 : ops[k]? = some o := by simpa using (hl 0).symm
    simp only [List.length_cons, lexFromD, Bool.and_eq_true] at hB
    obtain ⟨⟨hr, hf⟩, hB'⟩ := hB
    have hr' : k ∈ Region.ready .any ops listed := by simpa using hr
    have hl' : ∀ j, l[j]? = ops[k + 1 + j]? := fun j => by have := hl (j + 1); simpa [Nat.add_assoc, Nat.add_comm 1 j] using this
    have hlow' : ∀ j, j < k + 1 → (listed.setIfInBounds k true).getD j true = true := fun j hj => by
      by_cases e : k = j
      · subst e
        rcases Nat.lt_or_ge k listed.size with h' | h'
        · simp [h']
        · have : (listed.setIfInBounds k true)[k]? = none := Array.getElem?_eq_none (by simpa using h')
          rw [Array.getD_eq_getD_getElem?, this]; rfl
      · rw [getD_set_ne true e]; exact hlow j (by omega)
    obtain ⟨x, h1, hy, hrest⟩ : ∃ x h1, OutG false P ops o s x h1 ∧ aDraw P ops l K ((s.wh h1).put o.dst x) := by
      rcases guard_split h with ⟨g, hd⟩ | ⟨g, hd⟩
      · obtain ⟨x, h1, h2, h3⟩ := out_of hd
        exact ⟨x, h1, .inl ⟨g, h2⟩, h3⟩
      · exact ⟨_, s.h, .inr ⟨g, rfl, rfl⟩, hd⟩
    refine aAny_first hK hM h0 l.length listed s hD (fun j oj hj hne hun hno => ?_) hr' hy (aAny_lex hK hKK hM l (k + 1) _ _ hl' hlow' (hD.set hr') hB' hrest)
    unfold freeD at hf
    rw [h0] at hf
    simp only [List.all_eq_true, List.mem_range] at hf
    have := hf j (Array.getElem?_eq_some_iff.1 hj).1
    rw [hno, hj] at this
    simp only [Bool.or_false, Bool.or_eq_true, Bool.and_eq_true, decide_eq_true_eq] at this
    rcases this with this | this
    · exfalso
      have := hlow j (by omega)
      rw [this] at hun; cases hun
    · exact this
def permD (ops : Array Oper) : Nat → Array Bool → List Nat
  | 0, _ => []
  | f + 1, listed => match (Region.ready .any ops listed).find? (fun k => match ops[k]? with | some o => !(kindOf o == 6) && !loose true o | none => false) with
    | some k => k :: permD ops f (listed.setIfInBounds k true)
    | none => match Region.ready .any ops listed with
      | k :: _ => k :: permD ops f (listed.setIfInBounds k true)
      | [] => []
def lexFromP (m : Bool) (M : Array Nat) (ops : Array Oper) : List Nat → Array Bool → Bool
  | [], listed => (Region.ready .any ops listed).isEmpty
  | k :: l, listed => (Region.ready .any ops listed).contains k && (match ops[k]? with
    | none => false
    | some oi => (List.range ops.size).all fun j => j == k || listed.getD j true || (M.getD j 0).testBit k || match ops[j]? with
      | some oj => oi.apart ops oj && compat m oi oj
      | none => true) && lexFromP m M ops l (listed.setIfInBounds k true)
def lexP (m : Bool) (ops : Array Oper) (p : List Nat) : Bool := certOK (Region.before ops) ops && lexFromP m (Region.before ops) ops p (Array.replicate ops.size false)
def permL (ops : Array Oper) : List Nat → List Oper
  | [] => []
  | k :: l => match ops[k]? with
    | some o => o :: permL ops l
    | none => permL ops l
theorem aAny_lexP {m : Bool} {K K' : St → Prop} (hK : Closed K') (hKK : ∀ s, K s → K' s) {M : Array Nat} (hM : certOK M ops = true) : ∀ (l : List Nat) (listed : Array Bool) (s : St), Dn ops listed →
    lexFromP m M ops l listed = true → aDrawM m P ops (permL ops l) K s → aAny m P ops K' l.length listed s
  | [], _, _, _, hB, h => ⟨by simpa [lexFromP] using hB, hKK _ h⟩
  | k :: l, listed, s, hD, hB, h => by
    simp only [lexFromP, Bool.and_eq_true] at hB
    obtain ⟨⟨hr, hf⟩, hB'⟩ := hB
    have hr' : k ∈ Region.ready .any ops listed := by simpa using hr
    obtain ⟨_, o, h0, _⟩ := mem_ready.1 hr'
    rw [h0] at hf
    simp only [List.all_eq_true, List.mem_range] at hf
    simp only [permL, h0] at h
    obtain ⟨x, h1, hy, hrest⟩ : ∃ x h1, OutG m P ops o s x h1 ∧ aDrawM m P ops (permL ops l) K ((s.wh h1).put o.dst x) := by
      rcases guard_split h with ⟨g, hd⟩ | ⟨g, hd⟩
      · obtain ⟨x, h1, h2, h3⟩ := out_of hd
        exact ⟨x, h1, .inl ⟨g, h2⟩, h3⟩
      · exact ⟨_, s.h, .inr ⟨g, rfl, rfl⟩, hd⟩
    refine aAny_first hK hM h0 l.length listed s hD (fun j oj hj hne hun hno => ?_) hr' hy (aAny_lexP hK hKK hM l _ _ (hD.set hr') hB' hrest)
    have := hf j (Array.getElem?_eq_some_iff.1 hj).1
    rw [hno, hun, hj] at this
    simp only [Bool.or_false, Bool.or_eq_true, Bool.and_eq_true, beq_iff_eq] at this
    rcases this with this | this
    · exact absurd this hne
    · exact this
end
section
variable {P : Program} {r : Option Nat} {n N0 : Nat} {G : Gh} {w : World} {a : Act} {s : St} {o : Oper} {Q : Exit → St → Prop}
theorem Sat.drew (hs : Sat G w a s) : Ext G.N G w G { w with drawn := w.drawn + 1 } ∧ Sat G { w with drawn := w.drawn + 1 } a s := by
  have hE : Ext G.N G w G { w with drawn := w.drawn + 1 } := ⟨Nat.le_refl _, fun _ _ h => h, fun _ _ _ => rfl, fun _ _ => rfl, fun _ _ => .inl ⟨rfl, rfl⟩, zsame rfl, fun _ _ => rfl, rfl, rfl, rfl, fun _ _ h => .inl h⟩
  have hi : Inv G { w with drawn := w.drawn + 1 } s.h := ⟨hs.inv.len, hs.inv.z, hs.inv.S, fun n B hB => BRel.keep (hs.inv.lt hB) hE (Nat.le_refl _) ⟨rfl, rfl, rfl⟩ (fun _ _ => ⟨rfl, fun _ h => h⟩) (hs.inv.blk n B hB), hs.inv.inj, hs.inv.gl.keep hE⟩
  exact ⟨hE, hs.move hE (Nat.le_refl _) hi⟩
theorem aopE_of_out {m : Bool} {x : AV} {h1 : List Blk} (h : OutC m P o (ev s) s.h x h1) : aopE P o (ev s) s.h (fun x' h' => (s.wh h').put o.dst x' = (s.wh h1).put o.dst x) := outC_any h _ rfl
theorem any_sound {m : Bool} {ops : Array Oper} {K : St → Prop} {Q' : Exit → Act → World → Prop} (hQ : ∀ a' w', NxT N0 G w K a' w' → Q' .normal a' w') : ∀ (fuel : Nat) (listed : Array Bool) (G1 : Gh) (w1 : World) (a : Act) (s : St),
    Ext N0 G w G1 w1 → N0 ≤ G1.N → Sat G1 w1 a s → aAny m P ops K fuel listed s → wpAnyIn (WF r) n P .any ops Q' fuel listed a w1
  | 0, _, G1, w1, a, s, hE, hN, hs, h => ⟨h.1, hQ _ _ ⟨G1, s, hE, hN, hs, h.2⟩⟩
  | fuel + 1, listed, G1, w1, a, s, hE, hN, hs, h => by
    refine ⟨fun h0 => hQ _ _ ⟨G1, s, hE, hN, hs, h.1 h0⟩, fun i hi => ?_⟩
    obtain ⟨_, o, ho, _⟩ := mem_ready.1 hi
    obtain ⟨x, h1, hy, hrest⟩ := h.2 i hi o ho
    unfold wpOpIn
    rw [ho]
    simp only
    rcases hy with ⟨g, hc⟩ | ⟨g, rfl, rfl⟩
    · have hg := guard_sound hs g
      split at hg
      · rename_i hw
        rw [if_pos hw]
        refine Oper.wpIn_mono (fun a' w' hn => ?_) ((aopE_of_out hc).elim (fun k => aop_sound (K := fun s' => s' = (s.wh h1).put o.dst x) (r := r) (n := n) (N0 := N0) (Q := Q') hs hN k) fun ⟨_, va, x', h', p, k1, k2, k3⟩ => aopV_sound (K := fun s' => s' = (s.wh h1).put o.dst x) (r := r) (n := n) (N0 := N0) (Q := Q') hs hN ⟨va, x', h', p, k1, k2, k3⟩)
        obtain ⟨G2, s2, e2, n2, s2', rfl⟩ := hn
        exact any_sound hQ fuel _ G2 w' a' _ (hE.trans e2) n2 s2' hrest
      · exact hg.elim
    · have hg := guard_sound hs g
      split at hg
      · exact hg.elim
      · rename_i hw
        rw [if_neg hw]
        exact ⟨fun _ _ => trivial, any_sound hQ fuel _ G1 w1 _ _ hE hN (hs.put (.d (.v undef)) o.dst) hrest⟩
theorem aw_draw {id : Nat} {l : List Oper} (hm : P.follows .mixedOrders = true) (hl : lexD l.toArray = true) (h : aDraw P l.toArray l (Q .normal) s) : AWp P r N0 (.region id l.toArray true) Q s := by
  constructor
  intro G w a n hs hN
  unfold lexD at hl
  rw [Bool.and_eq_true] at hl
  obtain ⟨d1, d2⟩ := hs.drew
  refine wpIn_region_any hm ?_
  have hC : Closed (fun s => ∃ s', SEq s' s ∧ Q .normal s') := fun s s' e ⟨s0, e0, h0⟩ => ⟨s0, e0.trans e, h0⟩
  have := aAny_lex (K := Q .normal) hC (fun s h => ⟨s, SEq.refl s, h⟩) hl.1 l 0 (Array.replicate l.toArray.size false) s (by simp) (fun j hj => absurd hj (Nat.not_lt_zero _)) (fun j o ho hj => by
    exfalso
    rw [Array.getD_eq_getD_getElem?] at hj
    rw [Array.getElem?_replicate] at hj
    split at hj <;> simp at hj) (by simpa using hl.2) h
  refine any_sound (G := G) (w := w) (N0 := N0) (K := fun s => ∃ s', SEq s' s ∧ Q .normal s') (fun a' w' hn => ?_) l.toArray.size _ G _ a s (d1.less hN) hN d2 (by simpa using this)
  obtain ⟨G', s', x1, x2, x3, s0, e0, x4⟩ := hn
  refine ⟨G', s0, x1, x2, ⟨x3.size.trans e0.n.symm, fun i => by rw [e0.t i]; exact x3.tmp i, by rw [e0.h]; exact x3.inv, x3.df⟩, x4⟩
theorem aw_drawP {m : Bool} {id : Nat} {ops : Array Oper} (p : List Nat) (hm : P.follows .mixedOrders = true) (hz : p.length = ops.size) (hl : lexP m ops p = true) (h : aDrawM m P ops (permL ops p) (Q .normal) s) : AWp P r N0 (.region id ops true) Q s := by
  constructor
  intro G w a n hs hN
  unfold lexP at hl
  rw [Bool.and_eq_true] at hl
  obtain ⟨d1, d2⟩ := hs.drew
  refine wpIn_region_any hm ?_
  have hC : Closed (fun s => ∃ s', SEq s' s ∧ Q .normal s') := fun s s' e ⟨s0, e0, h0⟩ => ⟨s0, e0.trans e, h0⟩
  have := aAny_lexP (K := Q .normal) hC (fun s h => ⟨s, SEq.refl s, h⟩) hl.1 p (Array.replicate ops.size false) s (fun j o ho hj => by
    exfalso
    rw [Array.getD_eq_getD_getElem?] at hj
    rw [Array.getElem?_replicate] at hj
    split at hj <;> simp at hj) hl.2 h
  rw [hz] at this
  refine any_sound (G := G) (w := w) (N0 := N0) (K := fun s => ∃ s', SEq s' s ∧ Q .normal s') (fun a' w' hn => ?_) ops.size _ G _ a s (d1.less hN) hN d2 this
  obtain ⟨G', s', x1, x2, x3, s0, e0, x4⟩ := hn
  refine ⟨G', s0, x1, x2, ⟨x3.size.trans e0.n.symm, fun i => by rw [e0.t i]; exact x3.tmp i, by rw [e0.h]; exact x3.inv, x3.df⟩, x4⟩
end
def gYes (want : Bool) : AV → Bool
  | .d (.v (.bool b)) => b == want
  | _ => false
def gNo (want : Bool) : AV → Bool
  | .d (.v (.bool b)) => b == !want
  | .d (.v (.tuple _)) => true
  | _ => false
def oget (t : List (Nat × AV)) : Option Nat → AV
  | some d => tget t d
  | none => .dead
def gSlot (ops : Array Oper) (j : Nat) (t : List (Nat × AV)) : AV := oget t ((ops[j]?).bind (·.dst))
section
variable {P : Program} {ops : Array Oper} {dst : Option Nat} {op : Op} {ty : TypeId} {pos : String} {after : Array Edge} {j : Nat} {w : Bool} {s : St} {rest : List Oper} {K : St → Prop} {y n : Prop}
theorem aGuard_some : aGuard ops ⟨dst, op, ty, pos, after, some (j, w)⟩ s y n = (match gSlot ops j s.t with
    | .d (.v (.bool b)) => (b = w → y) ∧ (b = !w → n)
    | .d (.v (.tuple _)) => n
    | _ => False) := by
  show (match (ops[j]?).bind (·.dst) with
    | some d => match tget s.t d with
      | .d (.v (.bool b)) => (b = w → y) ∧ (b = !w → n)
      | .d (.v (.tuple _)) => n
      | _ => False
    | none => False) = _
  unfold gSlot
  cases (ops[j]?).bind (·.dst) <;> rfl
end
section
variable {P : Program} {r : Option Nat} {n N0 : Nat} {G : Gh} {w : World} {a : Act} {s : St} {o : Oper} {Q : Exit → St → Prop}
theorem at_n {K : St → Prop} (h : K s) : AThen K Q .normal s := h
theorem at_e {K : St → Prop} {i : Nat} (h : Q (.exit i) s) : AThen K Q (.exit i) s := h
theorem at_r {K : St → Prop} (h : Q .ret s) : AThen K Q .ret s := h
theorem ab_n {id : Nat} (h : Q .normal s) : ABlock id Q .normal s := h
theorem ab_r {id : Nat} (h : Q .ret s) : ABlock id Q .ret s := h
theorem ab_y {id i : Nat} (e : (i == id) = true) (h : Q .normal s) : ABlock id Q (.exit i) s := by simpa only [ABlock, e, cond_true] using h
theorem ab_x {id i : Nat} (e : (i == id) = false) (h : Q (.exit i) s) : ABlock id Q (.exit i) s := by simpa only [ABlock, e, cond_false] using h
theorem aw_cond_t {c : Operand} {x y : Code} (hc : ev s c = .d (.v (.bool true))) (h : AWp P r N0 x Q s) : AWp P r N0 (.cond c x y) Q s := aw_cond hc (fun _ => h) fun h => Bool.noConfusion h
theorem aw_cond_f {c : Operand} {x y : Code} (hc : ev s c = .d (.v (.bool false))) (h : AWp P r N0 y Q s) : AWp P r N0 (.cond c x y) Q s := aw_cond hc (fun h => Bool.noConfusion h) fun _ => h
theorem aw_cond_h {c : Operand} {x y : Code} {t : Bool} (hc : ev s c = .d (.v (.bool t))) (e : t = true) (h : AWp P r N0 x Q s) : AWp P r N0 (.cond c x y) Q s := aw_cond_t (by rw [hc, e]) h
theorem aw_cond_g {c : Operand} {x y : Code} {t : Bool} (hc : ev s c = .d (.v (.bool t))) (e : t = false) (h : AWp P r N0 y Q s) : AWp P r N0 (.cond c x y) Q s := aw_cond_f (by rw [hc, e]) h
end
def AV.Le (x y : AV) : Prop := ∀ (G : Gh) (w : World) (u : Value), VRel G w u x → VRel G w u y
theorem AV.Le.refl (x : AV) : AV.Le x x := fun _ _ _ h => h
theorem AV.Le.full (xs : List (List D)) : AV.Le (.full xs) (.d (.sl xs)) := fun _ _ _ h => by
  cases h with | full _ hp _ => exact .d hp
theorem AV.Le.nil : AV.Le (.d (.v (.slice none 0 0))) (.d (.sl [])) := fun _ _ _ h => by
  rw [h.val]; exact .d nil_full
theorem AV.Le.agg {cs ds : List AV} (hl : cs.length = ds.length) (h : ∀ (i : Nat) (c d : AV), cs[i]? = some c → ds[i]? = some d → AV.Le c d) : AV.Le (.agg cs) (.agg ds) := fun G w u hu => by
  cases hu with
  | agg vs _ hl' hv =>
    refine .agg vs ds (hl'.trans hl) fun i u d hui hd => ?_
    have hlt : i < cs.length := by rw [hl]; exact (List.getElem?_eq_some_iff.1 hd).1
    exact h i _ d (List.getElem?_eq_getElem hlt) hd G w u (hv i u _ hui (List.getElem?_eq_getElem hlt))
end Go.Proofs.YtnedgkfefdldeaaGreatDoor

/-! AbsFrame: A contract over few blocks serves wherever such blocks lie among others, under other numbers. -/
namespace Go.Proofs.YtnedgkfefdldeaaGreatDoor
open Go.RowKit
set_option linter.unusedSimpArgs false
set_option linter.unusedVariables false
def rn : List Nat → Nat → Nat → Nat
  | [], base, i => base + i
  | j :: _, _, 0 => j
  | _ :: l, base, i + 1 => rn l base i
theorem rn_lt : ∀ (l : List Nat) (base i : Nat) (j : Nat), l[i]? = some j → rn l base i = j
  | [], _, i, j, h => by simp at h
  | a :: l, base, 0, j, h => by simpa [rn] using h
  | a :: l, base, i + 1, j, h => by rw [rn]; exact rn_lt l base i j (by simpa using h)
theorem rn_ge : ∀ (l : List Nat) (base i : Nat), l.length ≤ i → rn l base i = base + (i - l.length)
  | [], base, i, _ => by simp [rn]
  | a :: l, base, 0, h => by simp at h
  | a :: l, base, i + 1, h => by rw [rn, rn_ge l base i (by simpa using h)]; simp
mutual
def AV.ren (σ : Nat → Nat) : AV → AV
  | .ptr n off => .ptr (σ n) off
  | .own n xs => .own (σ n) xs
  | .row n off len cap k => .row (σ n) off len cap k
  | .mp n => .mp (σ n)
  | .yld n => .yld (σ n)
  | .vec n o len L k => .vec (σ n) o len L k
  | .vptr n i j L k => .vptr (σ n) i j L k
  | .agg cs => .agg (AV.renL σ cs)
  | .tup cs => .tup (AV.renL σ cs)
  | .fn f cs => .fn f (AV.renL σ cs)
  | .d x => .d x
  | .elt xs i off => .elt xs i off
  | .full xs => .full xs
  | .hid c => .hid c
  | .dead => .dead
def AV.renL (σ : Nat → Nat) : List AV → List AV
  | [] => []
  | x :: l => x.ren σ :: AV.renL σ l
end
theorem renL_eq (σ : Nat → Nat) : ∀ l, AV.renL σ l = l.map (AV.ren σ)
  | [] => by simp [AV.renL]
  | x :: l => by simp [AV.renL, renL_eq σ l]
def Blk.ren (σ : Nat → Nat) : Blk → Blk
  | .cells cs => .cells (AV.renL σ cs)
  | .lp ls p as bd cs => .lp ls p as bd (AV.renL σ cs)
  | .it sn cs => .it sn (AV.renL σ cs)
  | .vec e k cs => .vec e k (cs.map (AV.renL σ))
  | .front e k len => .front e k len
  | .map kv => .map kv
  | .gone => .gone
def putAll : List Nat → List Blk → List Blk → List Blk
  | [], Bs, h => h ++ Bs
  | _ :: _, [], h => h
  | i :: l, B :: Bs, h => putAll l Bs (h.set i B)
structure RenOK (σ : Nat → Nat) (G G2 : Gh) : Prop where
  lt : ∀ n, n < G.N → σ n < G2.N
  rho : ∀ n, n < G.N → G2.rho (σ n) = G.rho n
  sg : ∀ n, n < G.N → G2.sg (σ n) = G.sg n
  fl : ∀ n, n < G.N → G2.fl (σ n) = G.fl n
  ow : ∀ n, n < G.N → G2.ow (σ n) = G.ow n
  S : ∀ b o, G2.S b o ↔ G.S b o
theorem PRel.cong {S S' : Nat → Nat → Prop} {w : World} (hS : ∀ b o, S b o → S' b o) {u : Value} {x : D} (h : PRel S w u x) : PRel S' w u x := h.keep hS (fun _ _ _ => rfl)
theorem VRel.ren {σ : Nat → Nat} {G G2 : Gh} {w : World} (hR : RenOK σ G G2) {u : Value} {x : AV} (h : VRel G w u x) : VRel G2 w u (x.ren σ) := by
  have hS : ∀ b o, G.S b o → G2.S b o := fun b o h => (hR.S b o).2 h
  have lst : ∀ (vs : Array Value) (cs : List AV), (∀ (i : Nat) (u : Value) (c : AV), vs[i]? = some u → cs[i]? = some c → VRel G2 w u (c.ren σ)) → ∀ (i : Nat) (u : Value) (c : AV), vs[i]? = some u → (AV.renL σ cs)[i]? = some c → VRel G2 w u c := by
    intro vs cs ih i u c hu hc
    rw [renL_eq, List.getElem?_map] at hc
    cases hx : cs[i]? with
    | none => rw [hx] at hc; cases hc
    | some x => rw [hx] at hc; cases hc; exact ih i u x hu hx
  induction h with
  | agg vs cs hl _ ih => rw [AV.ren]; exact .agg vs _ (by rw [renL_eq, List.length_map]; exact hl) (lst vs cs ih)
  | tup vs cs hl _ ih => rw [AV.ren]; exact .tup vs _ (by rw [renL_eq, List.length_map]; exact hl) (lst vs cs ih)
  | fn f vs cs hl _ ih => rw [AV.ren]; exact .fn f vs _ (by rw [renL_eq, List.length_map]; exact hl) (lst vs cs ih)
  | d h => rw [AV.ren]; exact .d (h.cong hS)
  | full xs hp hf => rw [AV.ren]; exact .full xs (hp.cong hS) hf
  | ptr n off h => rw [AV.ren, ← hR.rho n h]; exact .ptr _ off (hR.lt n h)
  | row n off len cap k h hl hm => rw [AV.ren, ← hR.rho n h]; exact .row _ off len cap k (hR.lt n h) hl hm
  | mp n h => rw [AV.ren, ← hR.rho n h]; exact .mp _ (hR.lt n h)
  | yld n h => rw [AV.ren, ← hR.rho n h]; exact .yld _ (hR.lt n h)
  | own n xs h hp hle hf => rw [AV.ren]; exact .own _ xs (hR.lt n h) (hp.cong hS) (by rw [hR.fl n h]; exact hle) (by rw [hR.fl n h, hR.sg n h]; exact hf)
  | vec n o len L k h hs hL hf => rw [AV.ren]; exact .vec _ o len L k (hR.lt n h) hs (by rw [hR.fl n h]; exact hL) (by rw [hR.fl n h, hR.sg n h]; exact hf)
  | vptr n i j L k h hs hL hf => rw [AV.ren]; exact .vptr _ i j L k (hR.lt n h) hs (by rw [hR.fl n h]; exact hL) (by rw [hR.fl n h, hR.sg n h]; exact hf)
  | elt xs i off b o u x hx hS' hu => rw [AV.ren]; exact .elt xs i off b o u x hx (fun j hj => ⟨hS _ _ (hS' j hj).1, (hS' j hj).2⟩) (fun j d hd => (hu j d hd).cong hS)
  | hid h h1 => rw [AV.ren]; exact .hid (h.keep hS (fun _ _ _ => rfl)) h1
  | dead u => rw [AV.ren]; exact .dead u
theorem VRel.unren {σ : Nat → Nat} {G G2 : Gh} {w : World} (hR : RenOK σ G G2) {u : Value} {y : AV} (h : VRel G2 w u y) : ∀ x : AV, x.ren σ = y → x.lowB G.N = true → VRel G w u x := by
  have hS : ∀ b o, G2.S b o → G.S b o := fun b o h => (hR.S b o).1 h
  have lt : ∀ n, (!leB G.N n) = true → n < G.N := fun n h => by rw [Bool.not_eq_true', ← Bool.not_eq_true, leB_iff] at h; omega
  have lst : ∀ (vs : Array Value) (cs xs : List AV), (∀ (i : Nat) (u : Value) (c : AV), vs[i]? = some u → cs[i]? = some c → ∀ x : AV, x.ren σ = c → x.lowB G.N = true → VRel G w u x) → AV.renL σ xs = cs → AV.lowL G.N xs = true → ∀ (i : Nat) (u : Value) (c : AV), vs[i]? = some u → xs[i]? = some c → VRel G w u c := by
    intro vs cs xs ih e hb i u c hu hc
    subst e
    rw [lowL_eq, List.all_eq_true] at hb
    exact ih i u (c.ren σ) hu (by rw [renL_eq, List.getElem?_map, hc]; rfl) c rfl (hb c (List.mem_of_getElem? hc))
  induction h with
  | agg vs cs hl _ ih =>
    intro x e hb
    cases x <;> simp only [AV.ren, AV.agg.injEq, reduceCtorEq] at e
    next xs =>
      rw [AV.lowB] at hb
      exact .agg vs xs (by rw [hl, ← e, renL_eq, List.length_map]) (lst vs cs xs ih e hb)
  | tup vs cs hl _ ih =>
    intro x e hb
    cases x <;> simp only [AV.ren, AV.tup.injEq, reduceCtorEq] at e
    next xs =>
      rw [AV.lowB] at hb
      exact .tup vs xs (by rw [hl, ← e, renL_eq, List.length_map]) (lst vs cs xs ih e hb)
  | fn f vs cs hl _ ih =>
    intro x e hb
    cases x <;> simp only [AV.ren, AV.fn.injEq, reduceCtorEq] at e
    next g xs =>
      obtain ⟨rfl, e⟩ := e
      rw [AV.lowB] at hb
      exact .fn _ vs xs (by rw [hl, ← e, renL_eq, List.length_map]) (lst vs cs xs ih e hb)
  | d h =>
    intro x e hb
    cases x <;> simp only [AV.ren, AV.d.injEq, reduceCtorEq] at e
    next y => subst e; exact .d (h.cong hS)
  | full xs hp hf =>
    intro x e hb
    cases x <;> simp only [AV.ren, AV.full.injEq, reduceCtorEq] at e
    next y => subst e; exact .full y (hp.cong hS) hf
  | ptr n off h =>
    intro x e hb
    cases x <;> simp only [AV.ren, AV.ptr.injEq, reduceCtorEq] at e
    next m o =>
      obtain ⟨e1, rfl⟩ := e
      rw [AV.lowB] at hb
      have hm := lt _ hb
      rw [← e1, hR.rho _ hm]; exact .ptr _ _ hm
  | row n off len cap k h hl hm' =>
    intro x e hb
    cases x <;> simp only [AV.ren, AV.row.injEq, reduceCtorEq] at e
    next m o l c q =>
      obtain ⟨e1, rfl, rfl, rfl, rfl⟩ := e
      rw [AV.lowB] at hb
      have hm := lt _ hb
      rw [← e1, hR.rho _ hm]; exact .row _ _ _ _ _ hm hl hm'
  | mp n h =>
    intro x e hb
    cases x <;> simp only [AV.ren, AV.mp.injEq, reduceCtorEq] at e
    next m =>
      rw [AV.lowB] at hb
      have hm := lt _ hb
      rw [← e, hR.rho _ hm]; exact .mp _ hm
  | yld n h =>
    intro x e hb
    cases x <;> simp only [AV.ren, AV.yld.injEq, reduceCtorEq] at e
    next m =>
      rw [AV.lowB] at hb
      have hm := lt _ hb
      rw [← e, hR.rho _ hm]; exact .yld _ hm
  | own n xs h hp hle hf =>
    intro x e hb
    cases x <;> simp only [AV.ren, AV.own.injEq, reduceCtorEq] at e
    next m l =>
      obtain ⟨e1, rfl⟩ := e
      rw [AV.lowB] at hb
      have hm := lt _ hb
      rw [← e1] at hle hf
      exact .own _ _ hm (hp.cong hS) (by rw [← hR.fl _ hm]; exact hle) (by rw [← hR.fl _ hm, ← hR.sg _ hm]; exact hf)
  | vec n o len L k h hs hL hf =>
    intro x e hb
    cases x <;> simp only [AV.ren, AV.vec.injEq, reduceCtorEq] at e
    next m a1 a2 a3 a4 =>
      obtain ⟨e1, rfl, rfl, rfl, rfl⟩ := e
      rw [AV.lowB] at hb
      have hm := lt _ hb
      rw [← e1] at hL hf
      exact .vec _ _ _ _ _ hm hs (by rw [← hR.fl _ hm]; exact hL) (by rw [← hR.fl _ hm, ← hR.sg _ hm]; exact hf)
  | vptr n i j L k h hs hL hf =>
    intro x e hb
    cases x <;> simp only [AV.ren, AV.vptr.injEq, reduceCtorEq] at e
    next m a1 a2 a3 a4 =>
      obtain ⟨e1, rfl, rfl, rfl, rfl⟩ := e
      rw [AV.lowB] at hb
      have hm := lt _ hb
      rw [← e1] at hL hf
      exact .vptr _ _ _ _ _ hm hs (by rw [← hR.fl _ hm]; exact hL) (by rw [← hR.fl _ hm, ← hR.sg _ hm]; exact hf)
  | elt xs i off b o u y hx hS' hu =>
    intro x e hb
    cases x <;> simp only [AV.ren, AV.elt.injEq, reduceCtorEq] at e
    next a1 a2 a3 =>
      obtain ⟨rfl, rfl, rfl⟩ := e
      exact .elt _ _ _ b o u y hx (fun j hj => ⟨hS _ _ (hS' j hj).1, (hS' j hj).2⟩) (fun j d hd => (hu j d hd).cong hS)
  | hid h h1 =>
    intro x e hb
    cases x <;> simp only [AV.ren, AV.hid.injEq, reduceCtorEq] at e
    next c => subst e; exact .hid (h.keep hS (fun _ _ _ => rfl)) h1
  | dead u =>
    intro x e hb
    cases x <;> simp only [AV.ren, reduceCtorEq] at e
    exact .dead u
theorem own1_ren {σ : Nat → Nat} {G G2 : Gh} (hR : RenOK σ G G2) {n : Nat} (hn : n < G.N) (B : Blk) : (B.ren σ).own1 G2 (σ n) = B.own1 G n := by
  cases B <;> simp only [Blk.ren, Blk.own1, hR.rho n hn, hR.ow n hn]
theorem BRel.ren {σ : Nat → Nat} {G G2 : Gh} {w : World} (hR : RenOK σ G G2) {n : Nat} (hn : n < G.N) {B : Blk} (hz : ∀ b, B.own1 G n = some b → ¬ G2.Z b) (h : BRel G w n B) : BRel G2 w (σ n) (B.ren σ) := by
  have hS : ∀ b o, ¬ G.S b o → ¬ G2.S b o := fun b o h h2 => h ((hR.S b o).1 h2)
  cases B with
  | gone => trivial
  | cells cs =>
    obtain ⟨h1, h2, vs, T, h3, h4, h5⟩ := h
    rw [Blk.ren]
    refine ⟨by rw [hR.rho n hn]; exact hz _ rfl, by rw [hR.rho n hn]; exact fun o => hS _ _ (h2 o), vs, T, by rw [hR.rho n hn]; exact h3, by rw [renL_eq, List.length_map]; exact h4, fun i u c hu hc => ?_⟩
    rw [renL_eq, List.getElem?_map] at hc
    cases hx : cs[i]? with
    | none => rw [hx] at hc; cases hc
    | some x => rw [hx] at hc; cases hc; exact (h5 i u x hu hx).ren hR
  | lp ls p as bd cs =>
    obtain ⟨h1, h2, fn, vs, T, h3, h4, h5⟩ := h
    rw [Blk.ren]
    refine ⟨by rw [hR.rho n hn]; exact hz _ rfl, by rw [hR.rho n hn]; exact fun o => hS _ _ (h2 o), fn, vs, T, by rw [hR.rho n hn]; exact h3, by rw [renL_eq, List.length_map]; exact h4, fun i u c hu hc => ?_⟩
    rw [renL_eq, List.getElem?_map] at hc
    cases hx : cs[i]? with
    | none => rw [hx] at hc; cases hc
    | some x => rw [hx] at hc; cases hc; exact (h5 i u x hu hx).ren hR
  | it sn cs =>
    obtain ⟨h1, h2, fn, vs, T, h3, h4, h5⟩ := h
    rw [Blk.ren]
    refine ⟨by rw [hR.rho n hn]; exact hz _ rfl, by rw [hR.rho n hn]; exact fun o => hS _ _ (h2 o), fn, vs, T, by rw [hR.rho n hn]; exact h3, by rw [renL_eq, List.length_map]; exact h4, fun i u c hu hc => ?_⟩
    rw [renL_eq, List.getElem?_map] at hc
    cases hx : cs[i]? with
    | none => rw [hx] at hc; cases hc
    | some x => rw [hx] at hc; cases hc; exact (h5 i u x hu hx).ren hR
  | map kv =>
    obtain ⟨h1, h2, es, c, h3, h4⟩ := h
    exact ⟨by rw [hR.rho n hn]; exact hz _ rfl, by rw [hR.rho n hn]; exact fun o => hS _ _ (h2 o), es, c, by rw [hR.rho n hn]; exact h3, h4.keep (fun b o h => (hR.S b o).2 h) (fun _ _ _ => rfl)⟩
  | front e k len =>
    obtain ⟨h1, hm, h2⟩ := h
    refine ⟨(hR.fl n hn).trans h1, hm, ?_⟩
    rcases h2 with ⟨h2, A, h3⟩ | ⟨g, cap, cur, h2, h3, h4, h5, h6, h7, h8, h9⟩
    · exact .inl ⟨(hR.ow n hn).trans h2, A, (hR.sg n hn).trans h3⟩
    · exact .inr ⟨g, cap, cur, (hR.ow n hn).trans h2, (hR.sg n hn).trans h3, hz g h2, h5, h6, h7, h8, fun o ho => hS _ _ (h9 o ho)⟩
  | vec e k cs =>
    obtain ⟨h1, hm, hk, h2⟩ := h
    rw [Blk.ren]
    refine ⟨by rw [List.length_map]; exact (hR.fl n hn).trans h1, by rw [List.length_map]; exact hm, fun c hc => ?_, ?_⟩
    · obtain ⟨x, hx, rfl⟩ := List.mem_map.1 hc
      rw [renL_eq, List.length_map]; exact hk x hx
    · rcases h2 with ⟨h2, e2, A, h3⟩ | ⟨g, cap, cur, h2, h3, h4, h5, h6, h7, h8, h9, h10⟩
      · exact .inl ⟨(hR.ow n hn).trans h2, by rw [e2]; rfl, A, (hR.sg n hn).trans h3⟩
      · refine .inr ⟨g, cap, cur, (hR.ow n hn).trans h2, by rw [List.length_map]; exact (hR.sg n hn).trans h3, hz g h2, h5, by rw [List.length_map]; exact h6, h7, h8, fun o => hS _ _ (h9 o), fun i j c x u hc hx hu => ?_⟩
        rw [List.getElem?_map] at hc
        cases hy : cs[i]? with
        | none => rw [hy] at hc; cases hc
        | some y =>
          rw [hy] at hc
          cases hc
          rw [renL_eq, List.getElem?_map] at hx
          cases hw : y[j]? with
          | none => rw [hw] at hx; cases hx
          | some z => rw [hw] at hx; cases hx; exact (h10 i j y z u hy hw hu).ren hR
theorem BRel.unren {σ : Nat → Nat} {G G2 : Gh} {w : World} (hR : RenOK σ G G2) {n : Nat} (hn : n < G.N) {B : Blk} (hb : B.lowB G.N = true) (hz : ∀ b, B.own1 G n = some b → ¬ G.Z b) (h : BRel G2 w (σ n) (B.ren σ)) : BRel G w n B := by
  have hS : ∀ b o, ¬ G2.S b o → ¬ G.S b o := fun b o h h2 => h ((hR.S b o).2 h2)
  cases B with
  | gone => trivial
  | cells cs =>
    rw [Blk.ren] at h
    obtain ⟨h1, h2, vs, T, h3, h4, h5⟩ := h
    rw [hR.rho n hn] at h2 h3
    rw [renL_eq, List.length_map] at h4
    simp only [Blk.lowB, List.all_eq_true] at hb
    exact ⟨hz _ rfl, fun o => hS _ _ (h2 o), vs, T, h3, h4, fun i u c hu hc => VRel.unren hR (h5 i u (c.ren σ) hu (by rw [renL_eq, List.getElem?_map, hc]; rfl)) c rfl (hb c (List.mem_of_getElem? hc))⟩
  | lp ls p as bd cs =>
    rw [Blk.ren] at h
    obtain ⟨h1, h2, fn, vs, T, h3, h4, h5⟩ := h
    rw [hR.rho n hn] at h2 h3
    rw [renL_eq, List.length_map] at h4
    simp only [Blk.lowB, List.all_eq_true] at hb
    exact ⟨hz _ rfl, fun o => hS _ _ (h2 o), fn, vs, T, h3, h4, fun i u c hu hc => VRel.unren hR (h5 i u (c.ren σ) hu (by rw [renL_eq, List.getElem?_map, hc]; rfl)) c rfl (hb c (List.mem_of_getElem? hc))⟩
  | it sn cs =>
    rw [Blk.ren] at h
    obtain ⟨h1, h2, fn, vs, T, h3, h4, h5⟩ := h
    rw [hR.rho n hn] at h2 h3
    rw [renL_eq, List.length_map] at h4
    simp only [Blk.lowB, List.all_eq_true] at hb
    exact ⟨hz _ rfl, fun o => hS _ _ (h2 o), fn, vs, T, h3, h4, fun i u c hu hc => VRel.unren hR (h5 i u (c.ren σ) hu (by rw [renL_eq, List.getElem?_map, hc]; rfl)) c rfl (hb c (List.mem_of_getElem? hc))⟩
  | map kv =>
    obtain ⟨h1, h2, es, c, h3, h4⟩ := h
    rw [hR.rho n hn] at h2 h3
    exact ⟨hz _ rfl, fun o => hS _ _ (h2 o), es, c, h3, h4.keep (fun b o h => (hR.S b o).1 h) (fun _ _ _ => rfl)⟩
  | front e k len =>
    obtain ⟨h1, hm, h2⟩ := h
    rw [hR.fl n hn] at h1
    rw [hR.ow n hn, hR.sg n hn] at h2
    refine ⟨h1, hm, ?_⟩
    rcases h2 with ⟨h2, A, h3⟩ | ⟨g, cap, cur, h2, h3, h4, h5, h6, h7, h8, h9⟩
    · exact .inl ⟨h2, A, h3⟩
    · exact .inr ⟨g, cap, cur, h2, h3, hz g h2, h5, h6, h7, h8, fun o ho => hS _ _ (h9 o ho)⟩
  | vec e k cs =>
    rw [Blk.ren] at h
    obtain ⟨h1, hm, hk, h2⟩ := h
    rw [hR.fl n hn, List.length_map] at h1
    rw [List.length_map] at hm
    rw [hR.ow n hn, hR.sg n hn, List.length_map] at h2
    simp only [Blk.lowB, List.all_eq_true] at hb
    refine ⟨h1, hm, fun c hc => ?_, ?_⟩
    · have := hk _ (List.mem_map.2 ⟨c, hc, rfl⟩)
      rwa [renL_eq, List.length_map] at this
    · rcases h2 with ⟨h2, e2, A, h3⟩ | ⟨g, cap, cur, h2, h3, h4, h5, h6, h7, h8, h9, h10⟩
      · exact .inl ⟨h2, List.map_eq_nil_iff.1 e2, A, h3⟩
      · refine .inr ⟨g, cap, cur, h2, h3, hz g h2, h5, h6, h7, h8, fun o => hS _ _ (h9 o), fun i j c x u hc hx hu => ?_⟩
        exact VRel.unren hR (h10 i j (AV.renL σ c) (x.ren σ) u (by rw [List.getElem?_map, hc]; rfl) (by rw [renL_eq, List.getElem?_map, hx]; rfl) hu) x rfl (hb c (List.mem_of_getElem? hc) x (List.mem_of_getElem? hx))
theorem putAll_length : ∀ (l : List Nat) (Bs h : List Blk), l.length ≤ Bs.length → (putAll l Bs h).length = h.length + (Bs.length - l.length)
  | [], Bs, h, _ => by simp [putAll]
  | j :: l, [], h, hl => by simp at hl
  | j :: l, B :: Bs, h, hl => by rw [putAll, putAll_length l Bs _ (by simpa using hl), List.length_set]; simp
theorem putAll_old : ∀ (l : List Nat) (Bs h : List Blk) (n : Nat), l.length ≤ Bs.length → n < h.length → n ∉ l → (putAll l Bs h)[n]? = h[n]?
  | [], Bs, h, n, _, hn, _ => by rw [putAll, List.getElem?_append_left hn]
  | j :: l, [], h, n, hl, _, _ => by simp at hl
  | j :: l, B :: Bs, h, n, hl, hn, hm => by
    simp only [List.mem_cons, not_or] at hm
    rw [putAll, putAll_old l Bs _ n (by simpa using hl) (by rw [List.length_set]; exact hn) hm.2, List.getElem?_set_ne (Ne.symm hm.1)]
theorem putAll_new : ∀ (l : List Nat) (Bs h : List Blk) (i : Nat), l.length ≤ Bs.length → l.Nodup → (∀ j ∈ l, j < h.length) → i < Bs.length → (putAll l Bs h)[rn l h.length i]? = Bs[i]?
  | [], Bs, h, i, _, _, _, hi => by rw [putAll, rn, List.getElem?_append_right (Nat.le_add_right _ _), Nat.add_sub_cancel_left]
  | j :: l, [], h, i, hl, _, _, _ => by simp at hl
  | j :: l, B :: Bs, h, 0, hl, hd, hlt, _ => by
    rw [List.nodup_cons] at hd
    rw [putAll, rn, putAll_old l Bs _ j (by simpa using hl) (by rw [List.length_set]; exact hlt j (by simp)) hd.1, List.getElem?_set_self (hlt j (by simp))]; rfl
  | j :: l, B :: Bs, h, i + 1, hl, hd, hlt, hi => by
    rw [List.nodup_cons] at hd
    have := putAll_new l Bs (h.set j B) i (by simpa using hl) hd.2 (fun x hx => by rw [List.length_set]; exact hlt x (by simp [hx])) (by simpa using hi)
    rw [List.length_set] at this
    rw [putAll, rn, this]; simp
def unrn (l : List Nat) (base n : Nat) : Option Nat := if n ∈ l then some (l.idxOf n) else if base ≤ n then some (l.length + (n - base)) else none
theorem unrn_rn {l : List Nat} {base : Nat} (hd : l.Nodup) (hlt : ∀ j ∈ l, j < base) (i : Nat) : unrn l base (rn l base i) = some i := by
  unfold unrn
  by_cases hi : i < l.length
  · have e : l[i]? = some l[i] := List.getElem?_eq_getElem hi
    rw [rn_lt l base i _ e, if_pos (List.getElem_mem _), List.Nodup.idxOf_getElem hd i hi]
  · rw [rn_ge l base i (by omega), if_neg (fun h => by have := hlt _ h; omega), if_pos (Nat.le_add_right _ _)]
    congr 1; omega
theorem unrn_some {l : List Nat} {base n i : Nat} (h : unrn l base n = some i) : rn l base i = n := by
  unfold unrn at h
  split at h
  · rename_i hm
    cases h
    have hlt := List.idxOf_lt_length_of_mem hm
    refine rn_lt l base _ n ?_
    rw [List.getElem?_eq_getElem hlt, List.getElem_idxOf]
  · split at h
    · cases h
      rw [rn_ge _ _ _ (by omega)]; omega
    · cases h
theorem unrn_none {l : List Nat} {base n : Nat} (h : unrn l base n = none) : n < base ∧ n ∉ l := by
  unfold unrn at h
  split at h
  · cases h
  · split at h
    · cases h
    · rename_i h1 h2; exact ⟨by omega, h1⟩
def pickN {α : Type} (o : Option Nat) (f : Nat → α) (d : α) : α := match o with | some i => f i | none => d
theorem among_core {H : List Blk} {l : List Nat} {h : List Blk}
    (hd : l.Nodup) (hlt : ∀ j ∈ l, j < h.length) (hH : ∀ (i j : Nat), l[i]? = some j → h[j]? = (H[i]?).map (Blk.ren (rn l h.length))) (hk : l.length = H.length)
    (hb : H.all (Blk.lowB H.length) = true) {G : Gh} {w : World} (hi : Inv G w h) :
    ∃ G0 : Gh, G0.N = H.length ∧ Inv G0 w H ∧ RenOK (rn l h.length) G0 G ∧ ∀ (G1 : Gh) (w' : World) (H' : List Blk), Ext H.length G0 w G1 w' → H.length ≤ G1.N → Inv G1 w' H' →
      ∃ G2 : Gh, Ext G.N G w G2 w' ∧ G.N ≤ G2.N ∧ Inv G2 w' (putAll l (H'.map (Blk.ren (rn l h.length))) h) ∧ RenOK (rn l h.length) G1 G2 := by
  obtain ⟨σ, hσ⟩ : ∃ σ, σ = rn l h.length := ⟨_, rfl⟩
  rw [← hσ] at hH ⊢
  have hbase : h.length = G.N := hi.len
  obtain ⟨own, hown⟩ : ∃ own : Nat → Prop, own = fun b => ∃ j ∈ l, ownB h G j = some b := ⟨_, rfl⟩
  obtain ⟨G0, hG0⟩ : ∃ G0 : Gh, G0 = { N := H.length, Z := fun b => b < w.heap.size ∧ ¬ own b, S := G.S, rho := fun i => G.rho (σ i), sg := fun i => G.sg (σ i), ow := fun i => G.ow (σ i), fl := fun i => G.fl (σ i), M := G.M } := ⟨_, rfl⟩
  have hσl : ∀ i, i < H.length → ∃ j, l[i]? = some j ∧ σ i = j ∧ j ∈ l := fun i hi' => by
    have hil : i < l.length := by rw [hk]; exact hi'
    exact ⟨l[i], List.getElem?_eq_getElem hil, by rw [hσ]; exact rn_lt l _ i _ (List.getElem?_eq_getElem hil), List.getElem_mem _⟩
  have hR0 : RenOK σ G0 G := by
    subst hG0
    refine ⟨fun n hn => ?_, fun _ _ => rfl, fun _ _ => rfl, fun _ _ => rfl, fun _ _ => rfl, fun _ _ => Iff.rfl⟩
    obtain ⟨j, _, e, hj⟩ := hσl n hn
    rw [e, ← hbase]; exact hlt j hj
  have hN0 : G0.N = H.length := by rw [hG0]
  have hσH : ∀ (i : Nat) (B : Blk), H[i]? = some B → h[σ i]? = some (B.ren σ) := fun i B hB => by
    obtain ⟨j, e1, e2, _⟩ := hσl i (List.getElem?_eq_some_iff.1 hB).1
    rw [e2, hH i j e1, hB]; rfl
  have hown0 : ∀ (i : Nat) (B : Blk) (b : Nat), H[i]? = some B → B.own1 G0 i = some b → ownB h G (σ i) = some b := fun i B b hB hb' => by
    rw [ownB_of (hσH i B hB), own1_ren hR0 (by rw [hN0]; exact (List.getElem?_eq_some_iff.1 hB).1) B]; exact hb'
  have hz0 : ∀ (i : Nat) (B : Blk) (b : Nat), H[i]? = some B → B.own1 G0 i = some b → ¬ G0.Z b := fun i B b hB hb' hz => by
    rw [hG0] at hz
    refine hz.2 ?_
    rw [hown]
    obtain ⟨j, _, e2, hj⟩ := hσl i (List.getElem?_eq_some_iff.1 hB).1
    exact ⟨j, hj, by rw [← e2]; exact hown0 i B b hB hb'⟩
  have hσinj : ∀ i i', σ i = σ i' → i = i' := fun i i' e => by
    have h1 := unrn_rn hd hlt i
    have h2 := unrn_rn hd hlt i'
    rw [hσ] at e
    rw [e, h2] at h1
    exact (Option.some.inj h1).symm
  have hi0 : Inv G0 w H := by
    refine ⟨hN0.symm, fun b hz => ?_, fun b o hs => ?_, fun i B hB => ?_, fun m n b h1 h2 => ?_, by rw [hG0]; exact hi.gl⟩
    · rw [hG0] at hz; exact hz.1
    · rw [hG0] at hs; exact hi.S b o hs
    · have hiN : i < G0.N := by rw [hN0]; exact (List.getElem?_eq_some_iff.1 hB).1
      rw [List.all_eq_true] at hb
      exact BRel.unren hR0 hiN (by rw [hN0]; exact hb B (List.mem_of_getElem? hB)) (fun b hb' => hz0 i B b hB hb') (hi.blk (σ i) _ (hσH i B hB))
    · obtain ⟨B1, hB1, hb1⟩ := ownB_some h1
      obtain ⟨B2, hB2, hb2⟩ := ownB_some h2
      exact hσinj m n (hi.inj _ _ b (hown0 m B1 b hB1 hb1) (hown0 n B2 b hB2 hb2))
  refine ⟨G0, hN0, hi0, hR0, fun G1 w' H' hE hN1 hi1 => ?_⟩
  have hH' : H'.length = G1.N := hi1.len
  obtain ⟨ps, hps⟩ : ∃ ps, ps = unrn l h.length := ⟨_, rfl⟩
  obtain ⟨G2, hG2⟩ : ∃ G2 : Gh, G2 = { N := G.N + (G1.N - H.length), Z := G.Z, S := G1.S, rho := fun n => pickN (ps n) G1.rho (G.rho n), sg := fun n => pickN (ps n) G1.sg (G.sg n), ow := fun n => pickN (ps n) G1.ow (G.ow n), fl := fun n => pickN (ps n) G1.fl (G.fl n), M := G.M } := ⟨_, rfl⟩
  have hpσ : ∀ i, ps (σ i) = some i := fun i => by rw [hps, hσ]; exact unrn_rn hd hlt i
  have hσge : ∀ i, H.length ≤ i → σ i = G.N + (i - H.length) := fun i hge => by rw [hσ, rn_ge l _ i (by omega), hbase, hk]
  have hσlt : ∀ i, i < H.length → σ i < G.N := fun i hlt' => by
    obtain ⟨j, _, e, hj⟩ := hσl i hlt'
    rw [e, ← hbase]; exact hlt j hj
  have hR1 : RenOK σ G1 G2 := by
    subst hG2
    refine ⟨fun n hn => ?_, fun n _ => by simp only [hpσ]; rfl, fun n _ => by simp only [hpσ]; rfl, fun n _ => by simp only [hpσ]; rfl, fun n _ => by simp only [hpσ]; rfl, fun _ _ => Iff.rfl⟩
    show σ n < G.N + (G1.N - H.length)
    by_cases hn' : n < H.length
    · have := hσlt n hn'; omega
    · rw [hσge n (by omega)]; omega
  have hZ1 : ∀ b, G0.Z b → G1.Z b := hE.Z.1.1
  have hZ0 : ∀ b, G.Z b → G0.Z b := fun b hz => by
    rw [hG0]
    refine ⟨hi.z b hz, fun ho => ?_⟩
    rw [hown] at ho
    obtain ⟨j, _, ho⟩ := ho
    obtain ⟨B, hB, hb'⟩ := ownB_some ho
    exact (hi.blk j B hB).notZ hb' hz
  have hE2 : Ext G.N G w G2 w' := by
    refine ⟨hE.size, fun b o hs => ?_, fun b o hs => ?_, fun n hn => ?_, fun n hn => ?_, zsame (by rw [hG2]) (by rw [hG2]), fun b hz => hE.old b (hZ0 b hz), hE.os, hE.tape, hE.output, fun b o hs => ?_⟩
    · rw [hG2]; exact hE.S b o (by rw [hG0]; exact hs)
    · exact hE.cell b o (by rw [hG0]; exact hs)
    · rw [hG2]
      show pickN (ps n) G1.rho (G.rho n) = G.rho n
      cases hp : ps n with
      | none => rfl
      | some i =>
        have e : σ i = n := by rw [hσ]; rw [hps] at hp; exact unrn_some hp
        have hi' : i < H.length := Nat.lt_of_not_le fun hge => by rw [hσge i hge] at e; omega
        show G1.rho i = G.rho n
        rw [hE.rho i hi', hG0, ← e]
    · rw [hG2]
      show (pickN (ps n) G1.fl (G.fl n) = G.fl n ∧ pickN (ps n) G1.sg (G.sg n) = G.sg n) ∨ G.fl n < pickN (ps n) G1.fl (G.fl n)
      cases hp : ps n with
      | none => exact .inl ⟨rfl, rfl⟩
      | some i =>
        have e : σ i = n := by rw [hσ]; rw [hps] at hp; exact unrn_some hp
        have hi' : i < H.length := Nat.lt_of_not_le fun hge => by rw [hσge i hge] at e; omega
        have := hE.fr i hi'
        rw [hG0] at this
        simp only [e] at this
        exact this
    · rw [hG2] at hs
      rcases hE.new b o hs with h1 | h1
      · rw [hG0] at h1; exact .inl h1
      · exact .inr fun hz => h1 (hZ0 b hz)
  have hlen : (putAll l (H'.map (Blk.ren σ)) h).length = G2.N := by
    rw [putAll_length _ _ _ (by rw [List.length_map, hk, hH']; omega), List.length_map, hH', hk, hbase, hG2]
  have hgetN : ∀ i, i < G1.N → (putAll l (H'.map (Blk.ren σ)) h)[σ i]? = (H'[i]?).map (Blk.ren σ) := fun i hi' => by
    rw [← List.getElem?_map, hσ]
    exact putAll_new l _ h i (by rw [List.length_map, hk, hH']; omega) hd hlt (by rw [List.length_map, hH']; exact hi')
  have hcase : ∀ (n : Nat) (B : Blk), (putAll l (H'.map (Blk.ren σ)) h)[n]? = some B → (∃ i B', i < G1.N ∧ n = σ i ∧ H'[i]? = some B' ∧ B = B'.ren σ) ∨ (ps n = none ∧ n ∉ l ∧ h[n]? = some B) := fun n B hB => by
    have hnlt : n < G2.N := by rw [← hlen]; exact (List.getElem?_eq_some_iff.1 hB).1
    cases hp : ps n with
    | none =>
      rw [hps] at hp
      obtain ⟨h1, h2⟩ := unrn_none hp
      exact .inr ⟨rfl, h2, by rw [← putAll_old l (H'.map (Blk.ren σ)) h n (by rw [List.length_map, hk, hH']; omega) h1 h2]; exact hB⟩
    | some i =>
      have e : σ i = n := by rw [hσ]; rw [hps] at hp; exact unrn_some hp
      have hi' : i < G1.N := Nat.lt_of_not_le fun hge => by
        rw [hσge i (by omega)] at e
        rw [hG2] at hnlt
        have : n < G.N + (G1.N - H.length) := hnlt
        omega
      rw [← e, hgetN i hi'] at hB
      cases hx : H'[i]? with
      | none => rw [hx] at hB; cases hB
      | some B' => rw [hx] at hB; cases hB; exact .inl ⟨i, B', hi', e.symm, hx, rfl⟩
  have hold : ∀ (n b : Nat), n ∉ l → ownB h G n = some b → G0.Z b := fun n b hn hb' => by
    rw [hG0]
    refine ⟨hi.ownlt hb', fun ho => ?_⟩
    rw [hown] at ho
    obtain ⟨j, hj, ho⟩ := ho
    exact hn ((hi.inj n j b hb' ho) ▸ hj)
  have hown2 : ∀ (n b : Nat), ownB (putAll l (H'.map (Blk.ren σ)) h) G2 n = some b → (∃ i, n = σ i ∧ ownB H' G1 i = some b ∧ ¬ G0.Z b) ∨ (n ∉ l ∧ ownB h G n = some b ∧ G0.Z b) := fun n b hb' => by
    obtain ⟨B, hB, hb1⟩ := ownB_some hb'
    rcases hcase n B hB with ⟨i, B', hi', rfl, hB', rfl⟩ | ⟨hp, hn, hB'⟩
    · rw [own1_ren hR1 hi'] at hb1
      exact .inl ⟨i, rfl, (ownB_of hB').trans hb1, fun hz => (hi1.blk i B' hB').notZ hb1 (hZ1 _ hz)⟩
    · have e : B.own1 G2 n = B.own1 G n := by
        subst hG2
        cases B <;> simp only [Blk.own1, hp, pickN]
      have := (ownB_of hB').trans (e ▸ hb1)
      exact .inr ⟨hn, this, hold n b hn this⟩
  refine ⟨G2, hE2, by rw [hG2]; exact Nat.le_add_right _ _, ⟨hlen, fun b hz => ?_, fun b o hs => ?_, fun n B hB => ?_, fun m n b h1 h2 => ?_, hi.gl.keep hE2⟩, hR1⟩
  · rw [hG2] at hz; exact Nat.lt_of_lt_of_le (hi.z b hz) hE.size
  · rw [hG2] at hs; exact hi1.S b o hs
  · rcases hcase n B hB with ⟨i, B', hi', rfl, hB', rfl⟩ | ⟨hp, hn, hB'⟩
    · refine BRel.ren hR1 hi' (fun b hb' hz => ?_) (hi1.blk i B' hB')
      have := (hi1.blk i B' hB').notZ hb'
      rw [hG2] at hz
      exact this (hZ1 b (hZ0 b hz))
    · have hnN : n < G.N := by rw [← hi.len]; exact (List.getElem?_eq_some_iff.1 hB').1
      refine BRel.keep hnN hE2 (by rw [hG2]; exact Nat.le_add_right _ _) (by rw [hG2]; simp only [hp]; exact ⟨rfl, rfl, rfl⟩) (fun b hb' => ?_) (hi.blk n B hB')
      have hz := hold n b hn ((ownB_of hB').trans hb')
      refine ⟨hE.old b hz, fun o hns hs => ?_⟩
      rw [hG2] at hs
      rcases hE.new b o hs with h1 | h1
      · rw [hG0] at h1; exact hns h1
      · exact h1 hz
  · rcases hown2 m b h1 with ⟨i, rfl, a1, a2⟩ | ⟨a0, a1, a2⟩ <;> rcases hown2 n b h2 with ⟨j, rfl, b1, b2⟩ | ⟨b0, b1, b2⟩
    · rw [hi1.inj i j b a1 b1]
    · exact absurd b2 a2
    · exact absurd a2 b2
    · exact hi.inj m n b a1 b1
theorem ACalls.among {P : Program} {f : FuncId} {args : List AV} {H : List Blk} {K : AV → List Blk → Prop} (hc : ACalls P f args H K) {l : List Nat} {h : List Blk}
    (hd : l.Nodup) (hlt : ∀ j ∈ l, j < h.length) (hH : ∀ (i j : Nat), l[i]? = some j → h[j]? = (H[i]?).map (Blk.ren (rn l h.length))) (hk : l.length = H.length)
    (ha : args.all (AV.lowB H.length) = true) (hb : H.all (Blk.lowB H.length) = true) :
    ACalls P f (args.map (AV.ren (rn l h.length))) h fun r' h' => ∃ r H', K r H' ∧ r' = r.ren (rn l h.length) ∧ h' = putAll l (H'.map (Blk.ren (rn l h.length))) h := by
  refine ⟨hc.1, fun G w vs hi hvl hvr => ?_⟩
  obtain ⟨G0, hN0, hi0, hR0, hback⟩ := among_core hd hlt hH hk hb hi
  refine (hc.2 G0 w vs hi0 (by rw [hvl, List.length_map]) fun i u c hu hx => ?_).mono fun e w' hp => ?_
  · rw [List.all_eq_true] at ha
    exact VRel.unren hR0 (hvr i u (c.ren (rn l h.length)) hu (by rw [List.getElem?_map, hx]; rfl)) c rfl (by rw [hN0]; exact ha c (List.mem_of_getElem? hx))
  · obtain ⟨v, G1, r, H', rfl, hE, hN1, hi1, hv, hK⟩ := hp
    rw [hN0] at hN1 hE
    obtain ⟨G2, e1, e2, e3, e4⟩ := hback G1 w' H' hE hN1 hi1
    exact ⟨v, G2, r.ren _, _, rfl, e1, e2, e3, hv.ren e4, r, H', hK, rfl, rfl⟩
mutual
theorem ren_cong {σ τ : Nat → Nat} {k : Nat} (h : ∀ i, i < k → σ i = τ i) : ∀ x : AV, x.lowB k = true → x.ren σ = x.ren τ
  | .ptr n off, hb => by rw [AV.lowB] at hb; rw [AV.ren, AV.ren, h n (by rw [Bool.not_eq_true', ← Bool.not_eq_true, leB_iff] at hb; omega)]
  | .own n xs, hb => by rw [AV.lowB] at hb; rw [AV.ren, AV.ren, h n (by rw [Bool.not_eq_true', ← Bool.not_eq_true, leB_iff] at hb; omega)]
  | .row n off len cap q, hb => by rw [AV.lowB] at hb; rw [AV.ren, AV.ren, h n (by rw [Bool.not_eq_true', ← Bool.not_eq_true, leB_iff] at hb; omega)]
  | .mp n, hb => by rw [AV.lowB] at hb; rw [AV.ren, AV.ren, h n (by rw [Bool.not_eq_true', ← Bool.not_eq_true, leB_iff] at hb; omega)]
  | .yld n, hb => by rw [AV.lowB] at hb; rw [AV.ren, AV.ren, h n (by rw [Bool.not_eq_true', ← Bool.not_eq_true, leB_iff] at hb; omega)]
  | .vec n o len L q, hb => by rw [AV.lowB] at hb; rw [AV.ren, AV.ren, h n (by rw [Bool.not_eq_true', ← Bool.not_eq_true, leB_iff] at hb; omega)]
  | .vptr n i j L q, hb => by rw [AV.lowB] at hb; rw [AV.ren, AV.ren, h n (by rw [Bool.not_eq_true', ← Bool.not_eq_true, leB_iff] at hb; omega)]
  | .agg cs, hb => by rw [AV.lowB] at hb; rw [AV.ren, AV.ren, renL_cong h cs hb]
  | .tup cs, hb => by rw [AV.lowB] at hb; rw [AV.ren, AV.ren, renL_cong h cs hb]
  | .fn f cs, hb => by rw [AV.lowB] at hb; rw [AV.ren, AV.ren, renL_cong h cs hb]
  | .d x, _ => by rw [AV.ren, AV.ren]
  | .elt xs i off, _ => by rw [AV.ren, AV.ren]
  | .full xs, _ => by rw [AV.ren, AV.ren]
  | .hid c, _ => by rw [AV.ren, AV.ren]
  | .dead, _ => by rw [AV.ren, AV.ren]
theorem renL_cong {σ τ : Nat → Nat} {k : Nat} (h : ∀ i, i < k → σ i = τ i) : ∀ l : List AV, AV.lowL k l = true → AV.renL σ l = AV.renL τ l
  | [], _ => by rw [AV.renL, AV.renL]
  | x :: l, hb => by
    rw [AV.lowL, Bool.and_eq_true] at hb
    rw [AV.renL, AV.renL, ren_cong h x hb.1, renL_cong h l hb.2]
end
theorem blk_ren_cong {σ τ : Nat → Nat} {k : Nat} (h : ∀ i, i < k → σ i = τ i) (B : Blk) (hb : B.lowB k = true) : B.ren σ = B.ren τ := by
  cases B with
  | cells cs => rw [Blk.ren, Blk.ren, renL_cong h cs (by rw [lowL_eq]; exact hb)]
  | lp ls p as bd cs => rw [Blk.ren, Blk.ren, renL_cong h cs (by rw [lowL_eq]; exact hb)]
  | it sn cs => rw [Blk.ren, Blk.ren, renL_cong h cs (by rw [lowL_eq]; exact hb)]
  | vec e q cs =>
    rw [Blk.ren, Blk.ren]
    congr 1
    refine List.map_congr_left fun c hc => renL_cong h c ?_
    simp only [Blk.lowB, List.all_eq_true] at hb
    rw [lowL_eq, List.all_eq_true]; exact hb c hc
  | _ => rfl
theorem rn_base : ∀ (l : List Nat) (b c i : Nat), i < l.length → rn l b i = rn l c i
  | [], b, c, i, h => by simp at h
  | a :: l, b, c, 0, _ => by rw [rn, rn]
  | a :: l, b, c, i + 1, h => by rw [rn, rn]; exact rn_base l b c i (by simpa using h)
def nodupB : List Nat → Bool
  | [] => true
  | a :: l => !l.any (· == a) && nodupB l
theorem nodupB_iff : ∀ {l : List Nat}, nodupB l = true → l.Nodup
  | [], _ => List.nodup_nil
  | a :: l, h => by
    rw [nodupB, Bool.and_eq_true, Bool.not_eq_true', ← Bool.not_eq_true] at h
    rw [List.nodup_cons]
    exact ⟨fun hm => h.1 (List.any_eq_true.2 ⟨a, hm, by simp⟩), nodupB_iff h.2⟩
theorem putAll_same : ∀ (l : List Nat) (h Bs : List Blk), l.map (fun j => h[j]?) = Bs.map some → putAll l Bs h = h
  | [], h, Bs, e => by
    cases Bs with
    | nil => rw [putAll, List.append_nil]
    | cons => simp at e
  | j :: l, h, Bs, e => by
    cases Bs with
    | nil => simp at e
    | cons B Bs =>
      rw [List.map_cons, List.map_cons] at e
      injection e with e1 e2
      have hs : h.set j B = h := by
        refine List.ext_getElem? fun m => ?_
        by_cases em : j = m
        · subst em; rw [List.getElem?_set_self (List.getElem?_eq_some_iff.1 e1).1, e1]
        · rw [List.getElem?_set_ne em]
      rw [putAll, hs]; exact putAll_same l h Bs e2
section
variable {P : Program} {f : FuncId} {argsC : List AV} {H : List Blk} {l : List Nat} {h : List Blk}
theorem lay_spec {l : List Nat} {h H : List Blk} {σ : Nat → Nat} (hb : l.map (fun j => h[j]?) = H.map fun B => some (B.ren σ)) : l.length = H.length ∧ (∀ j ∈ l, j < h.length) ∧ ∀ (i j : Nat), l[i]? = some j → h[j]? = (H[i]?).map (Blk.ren σ) := by
  have h1 : l.length = H.length := by simpa using congrArg List.length hb
  have key : ∀ (i j : Nat), l[i]? = some j → ∃ B, H[i]? = some B ∧ h[j]? = some (B.ren σ) := fun i j e => by
    have hlt : i < H.length := by rw [← h1]; exact (List.getElem?_eq_some_iff.1 e).1
    have := congrArg (·[i]?) hb
    simp only [List.getElem?_map, e, List.getElem?_eq_getElem hlt, Option.map_some, Option.some.injEq] at this
    exact ⟨_, List.getElem?_eq_getElem hlt, this⟩
  refine ⟨h1, fun j hj => ?_, fun i j e => ?_⟩
  · obtain ⟨i, hi⟩ := List.mem_iff_getElem?.1 hj
    obtain ⟨B, _, h2⟩ := key i j hi
    exact (List.getElem?_eq_some_iff.1 h2).1
  · obtain ⟨B, h2, h3⟩ := key i j e
    rw [h2, h3]; rfl
theorem ACalls.rcall {r : AV} {H' : List Blk} (hc : ACalls P f argsC H fun r1 h1 => r1 = r ∧ h1 = H') (hd : nodupB l = true) (hb : l.map (fun j => h[j]?) = H.map fun B => some (B.ren (rn l h.length))) (hl : (argsC.all (AV.lowB H.length) && H.all (Blk.lowB H.length)) = true) :
    ACalls P f (argsC.map (AV.ren (rn l h.length))) h fun r1 h1 => r1 = r.ren (rn l h.length) ∧ h1 = putAll l (H'.map (Blk.ren (rn l h.length))) h := by
  rw [Bool.and_eq_true] at hl
  obtain ⟨h1, h2, h3⟩ := lay_spec hb
  exact (hc.among (nodupB_iff hd) h2 h3 h1 hl.1 hl.2).mono fun r1 h1 ⟨r2, H2, ⟨e1, e2⟩, e3, e4⟩ => by subst e1; subst e2; exact ⟨e3, e4⟩
theorem ACalls.rq {r : AV} (hc : ACalls P f argsC H fun r1 h1 => r1 = r ∧ h1 = H) (hd : nodupB l = true) (hb : l.map (fun j => h[j]?) = H.map fun B => some (B.ren (rn l 0))) (hl : (argsC.all (AV.lowB H.length) && H.all (Blk.lowB H.length) && r.lowB H.length) = true) (e : List Blk) :
    ACalls P f (argsC.map (AV.ren (rn l 0))) (h ++ e) fun r1 h1 => r1 = r.ren (rn l 0) ∧ h1 = h ++ e := by
  rw [Bool.and_eq_true, Bool.and_eq_true] at hl
  obtain ⟨⟨l1, l2⟩, l3⟩ := hl
  obtain ⟨h1, h2, _⟩ := lay_spec hb
  have hcg : ∀ i, i < H.length → rn l (h ++ e).length i = rn l 0 i := fun i hi => rn_base l _ _ i (by rw [h1]; exact hi)
  have hb1 : H.map (fun B => some (B.ren (rn l (h ++ e).length))) = H.map fun B => some (B.ren (rn l 0)) := by
    refine List.map_congr_left fun B hB => ?_
    rw [List.all_eq_true] at l2
    rw [blk_ren_cong hcg B (l2 B hB)]
  have hb2 : l.map (fun j => (h ++ e)[j]?) = H.map fun B => some (B.ren (rn l (h ++ e).length)) := by
    rw [hb1, ← hb]
    refine List.map_congr_left fun j hj => ?_
    rw [List.getElem?_append_left (h2 j hj)]
  have := hc.rcall hd hb2 (by rw [l1, l2]; rfl)
  have ha : argsC.map (AV.ren (rn l (h ++ e).length)) = argsC.map (AV.ren (rn l 0)) := by
    refine List.map_congr_left fun x hx => ?_
    rw [List.all_eq_true] at l1
    exact ren_cong hcg x (l1 x hx)
  rw [ha, ren_cong hcg r l3] at this
  refine this.mono fun r1 h1 ⟨e1, e2⟩ => ⟨e1, ?_⟩
  rw [e2]
  refine putAll_same l _ _ ?_
  rw [hb2, List.map_map]; rfl
end
end Go.Proofs.YtnedgkfefdldeaaGreatDoor

/-! AbsRun: A region of code worked out by computation: a function that runs the operations of a region over the small language's values, and why it may be believed. -/
namespace Go.Proofs.YtnedgkfefdldeaaGreatDoor
open Go.RowKit
inductive In
  | none
  | bit (x : AV)
  | eq (x : AV)
  | el (xs : List (List D)) (i : Int)
  | lt (z : Int) (n : Nat)
  | len (xs : List (List D))
  | sub (xs : List (List D)) (lo : Int) (hi : Option Int) (k : Nat)
  | app (xs ys : List (List D)) (len k by_ : Nat)
  | nz (b : Int)
  | nn (b : Int)
  | str (b : ByteArray) (lo hi : Int)
  | cat (n : Nat)
  | pr (p : Prop)
  | sd (p : Sd)
  | byt (xs : List (List D))
  | tel (c : List D) (z : Int) (n : Nat)
  | ch (b : ByteArray) (i : Int)
  | call (f : FuncId) (args : List AV)
  | hcall (f : FuncId) (args : List AV) (h : List Blk)
  | ccall (c : Cap) (args : List AV)
  | rcall (f : FuncId) (args : List AV) (h : List Blk)
def CCalls (P : Program) (c : Cap) (args : List AV) (r : AV) : Prop := ∃ g cs, c = .fn g cs ∧ AFn P g (args ++ cs.map Cap.av) (· = r)
inductive Out
  | none
  | bit (b : Bool)
  | und
  | eq (y : AV)
  | el (c : List D)
  | ok
  | nat (n : Nat)
  | list (ys : List (List D))
  | listn (ys : List (List D)) (n : Nat)
  | byte (c : UInt8)
  | bytes (s : ByteArray)
  | one (d : D)
  | va (a : VA)
  | ret (r : AV)
  | hret (r : AV) (h : List Blk)
  | rret (l : List Nat) (argsC : List AV) (H : List Blk) (r : AV) (H' : List Blk)
  | rq (l : List Nat) (argsC : List AV) (H : List Blk) (r : AV)
inductive OK (P : Program) : In → Out → Prop
  | none {o : Out} : OK P .none o
  | bit {e b : Bool} (h : e = b) : OK P (.bit (.d (.v (.bool e)))) (.bit b)
  | und : OK P (.bit (.d (.v undef))) .und
  | eq {x y : AV} (h : x = y) : OK P (.eq x) (.eq y)
  | el {xs : List (List D)} {i : Int} {c : List D} (h0 : 0 ≤ i) (h : xs[i.toNat]? = some c) : OK P (.el xs i) (.el c)
  | lt {z : Int} {n : Nat} (h0 : 0 ≤ z) (h : z < n) : OK P (.lt z n) .ok
  | len {xs : List (List D)} {n : Nat} (h : xs.length = n) : OK P (.len xs) (.nat n)
  | sub {xs ys : List (List D)} {lo hi : Int} {k : Nat} (h0 : 0 ≤ lo) (h1 : lo.toNat ≤ hi.toNat) (h2 : 0 ≤ hi) (h3 : hi.toNat ≤ xs.length) (hk : ∀ c ∈ xs, c.length = k) (h : (xs.take hi.toNat).drop lo.toNat = ys) : OK P (.sub xs lo (some hi) k) (.list ys)
  | subn {xs ys : List (List D)} {lo : Int} {k : Nat} (h0 : 0 ≤ lo) (h1 : lo.toNat ≤ xs.length) (hk : ∀ c ∈ xs, c.length = k) (h : xs.drop lo.toNat = ys) : OK P (.sub xs lo .none k) (.list ys)
  | app {xs ys zs : List (List D)} {len k by_ n : Nat} (hl : len = xs.length) (hx : ∀ c ∈ xs, c.length = k) (hy : ∀ c ∈ ys, c.length = k) (hm : xs.length + ys.length ≤ maxLen) (hb : (xs.length + ys.length) * by_ ≤ 140737488355328) (hz : xs ++ ys = zs) (hn : xs.length + ys.length = n) : OK P (.app xs ys len k by_) (.listn zs n)
  | nz {b : Int} (h : b ≠ 0) : OK P (.nz b) .ok
  | nn {b : Int} (h : 0 ≤ b) : OK P (.nn b) .ok
  | str {b : ByteArray} {lo hi : Int} (h0 : 0 ≤ lo) (h1 : lo.toNat ≤ hi.toNat) (h2 : 0 ≤ hi) (h3 : hi.toNat ≤ b.size) : OK P (.str b lo hi) .ok
  | ch {b : ByteArray} {i : Int} {c : UInt8} (h0 : 0 ≤ i) (h : b[i.toNat]? = some c) : OK P (.ch b i) (.byte c)
  | cat {n : Nat} (h : n ≤ maxLen) : OK P (.cat n) .ok
  | pr {p : Prop} (a : VA) (h : p) : OK P (.pr p) (.va a)
  | sd {p : Sd} {o : Out} (h : p.ok) : OK P (.sd p) o
  | byt {xs : List (List D)} {s : ByteArray} (h : ∃ ns : List Int, xs = ns.map (fun n => [.v (.int .u8 n)]) ∧ s = ⟨(ns.map fun n => UInt8.ofNat n.toNat).toArray⟩) : OK P (.byt xs) (.bytes s)
  | tel {c : List D} {z : Int} {n : Nat} {d : D} (h0 : 0 ≤ z) (h1 : z < n) (h : c[z.toNat]? = some d) : OK P (.tel c z n) (.one d)
  | call {f : FuncId} {args : List AV} {r : AV} (h : AFn P f args (· = r)) : OK P (.call f args) (.ret r)
  | ccall {c : Cap} {args : List AV} {r : AV} (h : CCalls P c args r) : OK P (.ccall c args) (.ret r)
  | rcall {f : FuncId} {asA argsC : List AV} {h H H' : List Blk} {l : List Nat} {r : AV} (ha : asA = argsC.map (AV.ren (rn l h.length))) (hd : nodupB l = true) (hb : l.map (fun j => h[j]?) = H.map fun B => some (B.ren (rn l h.length))) (hl : (argsC.all (AV.lowB H.length) && H.all (Blk.lowB H.length)) = true)
      (hc : ACalls P f argsC H fun r1 h1 => r1 = r ∧ h1 = H') : OK P (.rcall f asA h) (.rret l argsC H r H')
  | rq {f : FuncId} {asA argsC : List AV} {h H : List Blk} {l : List Nat} {r : AV} (ha : asA = argsC.map (AV.ren (rn l 0))) (hd : nodupB l = true) (hb : l.map (fun j => h[j]?) = H.map fun B => some (B.ren (rn l 0))) (hl : (argsC.all (AV.lowB H.length) && H.all (Blk.lowB H.length) && r.lowB H.length) = true)
      (hc : ACalls P f argsC H fun r1 h1 => r1 = r ∧ h1 = H) : OK P (.rcall f asA h) (.rq l argsC H r)
  | hcall {f : FuncId} {args : List AV} {h h' : List Blk} {r : AV} (hc : ACalls P f args h fun r1 h1 => r1 = r ∧ h1 = h') : OK P (.hcall f args h) (.hret r h')
def rLoad (P : Program) (t : TypeId) (cs : List AV) (off : Nat) : Option AV :=
  match aggT P t, szT P t with
  | some true, some k => bif leB (off + k) cs.length then some (.agg ((cs.drop off).take k)) else none
  | some false, some _ => cs[off]?
  | _, _ => none
def rAt (h : List Blk) (p : AV) : Option (List AV × Nat) :=
  match p with
  | .ptr n off => match h[n]? with
    | some (.cells cs) => some (cs, off)
    | _ => none
  | .elt xs i off => match xs[i]? with
    | some c => some (c.map .d, off)
    | none => none
  | _ => none
def rEl (x : AV) (i : Option Int) (k : Nat) (a : Out) : Option (AV × In) :=
  match x.list?, i, a with
  | some xs, some z, .el c => bif c.length == k then some (.elt [c] 0 0, .el xs z) else none
  | _, _, _ => none
def rIndexAddr (P : Program) (T : TypeId) (x i : AV) (a : Out) : Option (AV × In) :=
  match elmT P T with
  | some (_, k) =>
    match x with
    | .row n off len _ k' => match i.int? with
      | some z => bif k' == k then some (.ptr n (off + z.toNat * k), .lt z len) else none
      | none => none
    | x => rEl x i.int? k a
  | none => match arrT P T, x, i.int? with
    | some (n, _, k), .ptr b off, some z => some (.ptr b (off + z.toNat * k), .lt z n)
    | some (n, _, k), .elt [c] 0 0, some z => match a with
      | .one d => bif k == 1 then some (.elt [[d]] 0 0, .tel c z n) else none
      | _ => none
    | _, _, _ => none
def rLen (P : Program) (T : TypeId) (x : AV) (a : Out) : Option (AV × In) :=
  match x with
  | .d (.v (.string s)) => bif strT P T then some (.d (.v (.int .i64 s.size)), .none) else none
  | .row _ _ len _ _ => bif (elmT P T).isSome then some (.d (.v (.int .i64 len)), .none) else none
  | x => match x.list?, a with
    | some xs, .nat n => bif (elmT P T).isSome then some (.d (.v (.int .i64 n)), .len xs) else none
    | _, _ => none
def oN (l : Option Int) (d : Nat) : Nat := match l with | some z => z.toNat | none => d
def rInt (ρ : Operand → AV) : Option Operand → Option (Option Int)
  | none => some none
  | some y => match (ρ y).int? with
    | some z => some (some z)
    | none => none
def rSlice (P : Program) (T : TypeId) (ρ : Operand → AV) (x : AV) (lo hi mx : Option Operand) (a : Out) : Option (AV × In) :=
  match mx with
  | none => match rInt ρ lo, rInt ρ hi with
    | some l, some h => match x with
      | .d (.v (.string b)) => bif strT P T then some (.d (.v (.string (b.extract (oN l 0) (oN h b.size)))), .str b (l.getD 0) (h.getD b.size)) else none
      | .ptr n off => match arrT P T, l, h with
        | some (m, _, k), none, none => bif leB m 4096 && !leB m 0 then some (.row n off m m k, .none) else none
        | _, _, _ => none
      | x => match x.list?, elmT P T, a with
        | some xs, some (_, k), .list ys => some (.d (.sl ys), .sub xs (l.getD 0) h k)
        | _, _, _ => none
    | _, _ => none
  | some m => match lo, hi, ρ m with
    | none, some y, .d (.v (.int _ 0)) => match x.list?, elmT P T, ρ y, a with
      | some xs, some (_, k), .d (.v (.int _ 0)), .list _ => some (.full [], .sub xs 0 (some 0) k)
      | _, _, _, _ => none
    | _, _, _ => none
def rSrc (h : List Blk) (k : Nat) (x : AV) : Option (List (List D)) :=
  match x with
  | .row n off len _ k' => match h[n]? with
    | some (.cells cs) => match allD ((cs.drop off).take (len * k)) with
      | some ds => bif k' == k && leB (off + len * k) cs.length && ((cs.drop off).take (len * k)).all AV.cellB then some (chunks k len ds) else none
      | none => none
    | _ => none
  | x => x.list?
def rAppend (P : Program) (T : TypeId) (h : List Blk) (x y : AV) (a : Out) : Option (AV × List Blk × In) :=
  match elmT P T, a with
  | some (e, k), .listn zs n' => match zeroT P e, byT P e with
    | some z, some by_ => bif leB 1 k && z.cells.toList.length == k then
        match rSrc h k y with
        | some ys => match x with
          | .own n xs => match h[n]? with
            | some (.front e' k' len) => bif e' == e && k' == k then some (.own n zs, h.set n (.front e k n'), .app xs ys len k by_) else none
            | _ => none
          | .d (.v (.slice none 0 0)) => some (.own h.length zs, h ++ [.front e k n'], .app [] ys 0 k by_)
          | .full xs => some (.own h.length zs, h ++ [.front e k n'], .app xs ys xs.length k by_)
          | _ => none
        | none => none
      else none
    | _, _ => none
  | _, _ => none
def rBuild (P : Program) (T : TypeId) (ps : List (Nat × AV)) : Option AV :=
  match fldsP P T, zeroT P T with
  | some places, some z => match fillA places (z.cells.toList.map fun u => .d (.v u)) ps with
    | some cs => bif (ps.all fun p => p.2.boxB) && z.cells.toList.all Value.oneCell' then some (.agg cs) else none
    | none => none
  | _, _ => none
def rBuildSlice (P : Program) (T : TypeId) (len : Nat) (ps : List (Nat × AV)) : Option AV :=
  match elmT P T with
  | some (e, k) => match zeroT P e with
    | some z => match fillA (placesN k 0 len) (repN len (z.cells.toList.map fun u => .d (.v u))) ps with
      | some cs => match allD cs with
        | some ds => bif leB 1 k && leB (len * k) 16777216 && z.cells.toList.length == k && z.cells.toList.all Value.oneCell' && (ps.all fun p => p.2.boxB) then some (.full (chunks k len ds)) else none
        | none => none
      | none => none
    | none => none
  | none => none
def rBin (P : Program) (T : TypeId) (op : BinOp) (x y : AV) : Option (AV × In) :=
  match x, y with
  | .d (.v (.int k a)), .d (.v (.int k' b)) =>
    match binQ op k a b with
    | some v => bif kEq k k' then some (.d (.v v), .nz b) else none
    | none => match shI op k a b with
      | some v => some (.d (.v v), .nn b)
      | none => match binI op k a b with
        | some v => bif kEq k k' then some (.d (.v v), .none) else none
        | none => none
  | .d (.v (.string a)), .d (.v (.string b)) => match binS op a b with
    | some v => some (.d (.v v), .none)
    | none => match op with
      | .add => some (.d (.v (.string (a ++ b))), .cat (a.size + b.size))
      | _ => none
  | .d (.v (.bool a)), .d (.v (.bool b)) => match binB op a b with
    | some v => bif boolT P T then some (.d (.v v), .none) else none
    | none => none
  | .agg xs, .agg ys => match eqS P T xs ys with
    | some b => match eqV op b with
      | some v => some (.d (.v v), .none)
      | none => none
    | none => none
  | _, _ => none
def rConv (P : Program) (src dst : TypeId) (x : AV) (a : Out) : Option (AV × In) :=
  match x with
  | .d (.v (.int _ n)) => match intT P src, intT P dst with
    | some _, some k => some (.d (.v (.int k (k.wrap n))), .none)
    | _, _ => none
  | .d (.v (.string b)) => bif strT P src && strT P dst then some (.d (.v (.string b)), .none) else none
  | x => match x.list?, elmT P src, a with
    | some xs, some (e, _), .bytes s => bif u8T P e && strT P dst then some (.d (.v (.string s)), .byt xs) else none
    | _, _, _ => none
def rField (P : Program) (T : TypeId) (x : AV) (f : Nat) : Option AV :=
  match fldT P T f, x with
  | some (off, k, true), .agg cs => bif leB (off + k) cs.length then some (.agg ((cs.drop off).take k)) else none
  | some (off, _, false), .agg cs => cs[off]?
  | _, _ => none
def pureR (h : List Blk) : Option AV → Option (AV × List Blk × In)
  | some x => some (x, h, .none)
  | none => none
def inR (h : List Blk) : Option (AV × In) → Option (AV × List Blk × In)
  | some (x, i) => some (x, h, i)
  | none => none
mutual
/-- known less exactly: a slice as its list alone -/
def AV.nrm : AV → AV
  | .full xs => .d (.sl xs)
  | .d (.v (.slice none 0 0)) => .d (.sl [])
  | .agg cs => .agg (AV.nrmL cs)
  | .tup cs => .tup (AV.nrmL cs)
  | x => x
def AV.nrmL : List AV → List AV
  | [] => []
  | x :: l => x.nrm :: AV.nrmL l
end
mutual
/-- what a closure that reads alone takes along -/
def AV.cap : AV → Option Cap
  | .d x => some (.d x)
  | .own _ xs => some (.d (.sl xs))
  | .full xs => some (.d (.sl xs))
  | .elt xs i off => match xs[i]? with
    | some c => some (.elt c off)
    | none => none
  | .fn f cs => match AV.capL cs with
    | some l => some (.fn f l)
    | none => none
  | .hid c => some c
  | _ => none
def AV.capL : List AV → Option (List Cap)
  | [] => some []
  | x :: l => match x.cap, AV.capL l with
    | some c, some l => some (c :: l)
    | _, _ => none
end
def AV.clo : AV → AV
  | .fn f cs => match AV.capL cs with
    | some l => .hid (.fn f l)
    | none => .fn f cs
  | x => x
def AV.arg (x : AV) : AV := ((x.pub 0).nrm).clo
def AV.arg2 (x : AV) : AV := (x.pub 0).nrm
def sdI : Sd → In
  | .no => .none
  | p => .sd p
def xR : Option (AV × List Blk × Sd) → Option (AV × List Blk × In)
  | some (x, h, p) => some (x, h, sdI p)
  | none => none
def runOp (P : Program) (op : Op) (ρ : Operand → AV) (h : List Blk) (a : Out) : Option (AV × List Blk × In) :=
  match op with
  | .move x | .assign x => some (ρ x, h, .none)
  | .pick c x y => match a with
    | .bit b => some (bif b then ρ x else ρ y, h, .bit (ρ c))
    | _ => none
  | .alloc e => match zeroT P e with
    | some z => some (.ptr h.length 0, h ++ [Blk.cells (z.cells.toList.map fun u => .d (.v u))], .none)
    | none => none
  | .box _ x => bif (ρ x).boxB then some (.ptr h.length 0, h ++ [Blk.cells (ρ x).cells], .none) else none
  | .load t p => match rAt h (ρ p) with
    | some (cs, off) => match rLoad P t cs off with
      | some x => some (x, h, .none)
      | none => none
    | none => none
  | .store t p x => match ρ p with
    | .ptr n off => match h[n]? with
      | some (.cells cs) => match szT P t with
        | some k => bif k == (ρ x).cells.length && (ρ x).boxB && leB (off + (ρ x).cells.length) cs.length then some (.d (.v undef), h.set n (.cells (splice cs off (ρ x).cells)), .none) else none
        | none => none
      | _ => none
    | _ => none
  | .nilCheck x => match ρ x with
    | .ptr n off => some (.ptr n off, h, .none)
    | .elt xs i off => some (.elt xs i off, h, .none)
    | .fn f cs => some (.fn f cs, h, .none)
    | _ => none
  | .fieldAddr S x f => match fldT P S f with
    | some (fo, _, _) => match ρ x with
      | .ptr n off => some (.ptr n (off + fo), h, .none)
      | .elt xs i off => some (.elt xs i (off + fo), h, .none)
      | _ => none
    | none => none
  | .field T x f => pureR h (rField P T (ρ x) f)
  | .indexAddr T x i => inR h (rIndexAddr P T (ρ x) (ρ i) a)
  | .index T x i => match ρ x, (ρ i).int?, a with
    | .d (.v (.string b)), some z, .byte c => bif strT P T then some (.d (.v (.int .u8 c.toNat)), h, .ch b z) else none
    | _, _, _ => none
  | .build T ps => pureR h (rBuild P T (ps.toList.map fun p => (p.1, ρ p.2)))
  | .buildSlice T len ps => pureR h (rBuildSlice P T len (ps.toList.map fun p => (p.1, ρ p.2)))
  | .slice T x lo hi mx => inR h (rSlice P T ρ (ρ x) lo hi mx a)
  | .extract x i => match ρ x with
    | .tup cs => match cs[i]? with
      | some c => some (c, h, .none)
      | none => none
    | _ => none
  | .makeFunc (.func f) first caps => match first.toList with
    | [] => some (.fn f (caps.toList.map ρ), h, .none)
    | _ => none
  | .binOp op T x y _ => inR h (rBin P T op (ρ x) (ρ y))
  | .unOp op _ x => match ρ x with
    | .d (.v u) => match unV op u with
      | some v => some (.d (.v v), h, .none)
      | none => none
    | _ => none
  | .convert s t x => inR h (rConv P s t (ρ x) a)
  | .call c => match c.callee with
    | .builtin .len => match c.args.toList, c.argTypes.toList with
      | [x], [T] => inR h (rLen P T (ρ x) a)
      | _, _ => none
    | .builtin .append => match c.args.toList, c.argTypes.toList with
      | [x, y], [T, U] => bif (elmT P U).isSome then rAppend P T h (ρ x) (ρ y) a else none
      | _, _ => none
    | .builtin .max => match foldI true (c.args.toList.map ρ) with
      | some (k, a) => some (.d (.v (.int k a)), h, .none)
      | none => none
    | .builtin .min => match foldI false (c.args.toList.map ρ) with
      | some (k, a) => some (.d (.v (.int k a)), h, .none)
      | none => none
    | .value f => match ρ f, a with
      | .fn g caps, .ret r => bif ((c.args.toList.map ρ ++ caps).map AV.arg).all (AV.lowB 0) && r.lowB 0 then some (r, h, .call g ((c.args.toList.map ρ ++ caps).map AV.arg)) else none
      | .fn g caps, .hret r h' => some (r, h', .hcall g (c.args.toList.map ρ ++ caps) h)
      | .fn g caps, .rret l _ _ r H' => some (r.ren (rn l h.length), putAll l (H'.map (Blk.ren (rn l h.length))) h, .rcall g ((c.args.toList.map ρ ++ caps).map AV.arg2) h)
      | .fn g caps, .rq l _ _ r => some (r.ren (rn l 0), h, .rcall g ((c.args.toList.map ρ ++ caps).map AV.arg2) h)
      | .hid q, .ret r => bif ((c.args.toList.map ρ).map AV.arg).all (AV.lowB 0) && r.lowB 0 then some (r, h, .ccall q ((c.args.toList.map ρ).map AV.arg)) else none
      | _, _ => none
    | _ => none
  | op => xR (opX P op ρ h)
theorem nrmL_eq : ∀ l, AV.nrmL l = l.map AV.nrm
  | [] => by simp [AV.nrmL]
  | x :: l => by simp [AV.nrmL, nrmL_eq l]
theorem VRel.nrm {G : Gh} {w : World} {u : Value} {x : AV} (h : VRel G w u x) : VRel G w u x.nrm := by
  have lst : ∀ (vs : Array Value) (cs : List AV), (∀ (i : Nat) (u : Value) (c : AV), vs[i]? = some u → cs[i]? = some c → VRel G w u c.nrm) → ∀ (i : Nat) (u : Value) (c : AV), vs[i]? = some u → (AV.nrmL cs)[i]? = some c → VRel G w u c := by
    intro vs cs ih i u c hu hc
    rw [nrmL_eq, List.getElem?_map] at hc
    cases hx : cs[i]? with
    | none => rw [hx] at hc; cases hc
    | some x => rw [hx] at hc; cases hc; exact ih i u x hu hx
  induction h with
  | agg vs cs hl _ ih => rw [AV.nrm]; exact .agg vs _ (by rw [nrmL_eq, List.length_map]; exact hl) (lst vs cs ih)
  | tup vs cs hl _ ih => rw [AV.nrm]; exact .tup vs _ (by rw [nrmL_eq, List.length_map]; exact hl) (lst vs cs ih)
  | full xs hp hf => rw [AV.nrm]; exact .d hp
  | @d u x h =>
    by_cases hx : x = .v (.slice none 0 0)
    · subst hx
      cases h with | v => simp only [AV.nrm]; exact .d nil_full
    · have : (AV.d x).nrm = .d x := by
        unfold AV.nrm
        split <;> simp_all
      rw [this]; exact .d h
  | own n xs h hp hle hf => simp only [AV.nrm]; exact .own n xs h hp hle hf
  | ptr n off h => simp only [AV.nrm]; exact .ptr n off h
  | elt xs i off b o u x hx hS hu => simp only [AV.nrm]; exact .elt xs i off b o u x hx hS hu
  | row n off len cap k h hl hm => simp only [AV.nrm]; exact .row n off len cap k h hl hm
  | fn f vs cs hl h => simp only [AV.nrm]; exact .fn f vs cs hl h
  | mp n h => simp only [AV.nrm]; exact .mp n h
  | yld n h => simp only [AV.nrm]; exact .yld n h
  | vec n o len L k h hs hL hf => simp only [AV.nrm]; exact .vec n o len L k h hs hL hf
  | vptr n i j L k h hs hL hf => simp only [AV.nrm]; exact .vptr n i j L k h hs hL hf
  | hid h h1 => simp only [AV.nrm]; exact .hid h h1
  | dead u => simp only [AV.nrm]; exact .dead u
theorem capL_get : ∀ (cs : List AV) (l : List Cap), AV.capL cs = some l → cs.length = l.length ∧ ∀ (i : Nat) (x : AV) (c : Cap), cs[i]? = some x → l[i]? = some c → x.cap = some c
  | [], l, h => by
    unfold AV.capL at h; cases h
    exact ⟨rfl, fun i x c hx => by simp at hx⟩
  | x :: cs, l, h => by
    unfold AV.capL at h
    split at h
    · next c l' e1 e2 =>
      cases h
      obtain ⟨h1, h2⟩ := capL_get cs l' e2
      refine ⟨by simp [h1], fun i y d hy hd => ?_⟩
      match i with
      | 0 => simp only [List.getElem?_cons_zero, Option.some.injEq] at hy hd; subst hy; subst hd; exact e1
      | i + 1 => exact h2 i y d (by simpa using hy) (by simpa using hd)
    · cases h
theorem VRel.cap {G : Gh} {w : World} {u : Value} {x : AV} (h : VRel G w u x) : ∀ c, x.cap = some c → CapRel G.S w u c := by
  induction h with
  | d h => intro c hc; simp only [AV.cap] at hc; cases hc; exact .d h
  | own n xs h hp hle hf => intro c hc; simp only [AV.cap] at hc; cases hc; exact .d hp
  | full xs hp hf => intro c hc; simp only [AV.cap] at hc; cases hc; exact .d hp
  | elt xs i off b o u x hx hS hu =>
    intro c hc
    simp only [AV.cap, hx] at hc
    cases hc
    exact .elt x off b o u hS hu
  | fn f vs cs hl h ih =>
    intro c hc
    simp only [AV.cap] at hc
    split at hc
    · next l e =>
      cases hc
      obtain ⟨h1, h2⟩ := capL_get cs l e
      refine .fn f vs l (hl.trans h1) fun i v d hv hd => ?_
      have hlt : i < cs.length := by rw [h1]; exact (List.getElem?_eq_some_iff.1 hd).1
      exact ih i v _ hv (List.getElem?_eq_getElem hlt) d (h2 i _ d (List.getElem?_eq_getElem hlt) hd)
    · cases hc
  | hid h h1 => intro c hc; simp only [AV.cap] at hc; cases hc; exact h
  | agg => intro c hc; simp [AV.cap] at hc
  | tup => intro c hc; simp [AV.cap] at hc
  | ptr => intro c hc; simp [AV.cap] at hc
  | row => intro c hc; simp [AV.cap] at hc
  | mp => intro c hc; simp [AV.cap] at hc
  | yld => intro c hc; simp [AV.cap] at hc
  | vec => intro c hc; simp [AV.cap] at hc
  | vptr => intro c hc; simp [AV.cap] at hc
  | dead => intro c hc; simp [AV.cap] at hc
theorem AV.Le.clo (x : AV) : AV.Le x x.clo := fun G w u h => by
  unfold AV.clo
  split
  · next f cs =>
    split
    · next l e =>
      have := h.cap (.fn f l) (by simp only [AV.cap, e])
      cases h with | fn => exact .hid this rfl
    · exact h
  · exact h
theorem AV.Le.arg (x : AV) : AV.Le x x.arg := fun _ _ _ h => AV.Le.clo _ _ _ _ (h.pub 0).nrm
theorem ACalls.args {P : Program} {f : FuncId} {as : List AV} {h : List Blk} {K : AV → List Blk → Prop} (hc : ACalls P f as h K) (bs : List AV) (hl : as.length = bs.length) (hle : ∀ (i : Nat) (c d : AV), bs[i]? = some c → as[i]? = some d → AV.Le c d) : ACalls P f bs h K :=
  ⟨hc.1, fun G w vs hi hs hr => hc.2 G w vs hi (hs.trans hl.symm) fun i u d hu hd => by
    have hlt : i < bs.length := by rw [← hl]; exact (List.getElem?_eq_some_iff.1 hd).1
    exact hle i _ d (List.getElem?_eq_getElem hlt) hd G w u (hr i u _ hu (List.getElem?_eq_getElem hlt))⟩
theorem ACalls.ofArg {P : Program} {f : FuncId} {as : List AV} {h : List Blk} {K : AV → List Blk → Prop} (hc : ACalls P f (as.map AV.arg) h K) : ACalls P f as h K :=
  hc.args as (by rw [List.length_map]) fun i c d hc hd => by
    rw [List.getElem?_map, hc] at hd; cases hd; exact AV.Le.arg c
theorem AV.Le.arg2 (x : AV) : AV.Le x x.arg2 := fun _ _ _ h => (h.pub 0).nrm
theorem ACalls.ofArg2 {P : Program} {f : FuncId} {as : List AV} {h : List Blk} {K : AV → List Blk → Prop} (hc : ACalls P f (as.map AV.arg2) h K) : ACalls P f as h K :=
  hc.args as (by rw [List.length_map]) fun i c d hc hd => by
    rw [List.getElem?_map, hc] at hd; cases hd; exact AV.Le.arg2 c
theorem cap_low (l : List Cap) : (l.map Cap.av).all (AV.lowB 0) = true := by
  rw [List.all_eq_true]
  intro x hx
  obtain ⟨c, _, rfl⟩ := List.mem_map.1 hx
  cases c <;> rfl
theorem CCalls.use {P : Program} {q : Cap} {args : List AV} {r : AV} {h : List Blk} {C : AV → List Blk → Prop} (hc : CCalls P q (args.map AV.arg) r) (ha : (args.map AV.arg).all (AV.lowB 0) = true) (hr : r.lowB 0 = true) (hC : C r h) : ∃ g cs, q = .fn g cs ∧ ACalls P g (args ++ cs.map Cap.av) h C := by
  obtain ⟨g, cs, rfl, hc⟩ := hc
  refine ⟨g, cs, rfl, ACalls.args (hc.use (h := h) (C := C) (by rw [List.all_append, ha, cap_low]; rfl) hr hC) _ (by simp) fun i c d h1 h2 => ?_⟩
  by_cases hi : i < args.length
  · rw [List.getElem?_append_left hi] at h1
    rw [List.getElem?_append_left (by simpa using hi), List.getElem?_map, h1] at h2
    cases h2; exact AV.Le.arg c
  · rw [List.getElem?_append_right (by omega)] at h1
    rw [List.getElem?_append_right (by simpa using hi), List.length_map, h1] at h2
    cases h2; exact AV.Le.refl c
theorem bif_some {α : Type} {b : Bool} {x y : α} (h : (bif b then some x else none) = some y) : b = true ∧ x = y := by
  cases b with
  | true => exact ⟨rfl, Option.some.inj h⟩
  | false => cases h
theorem bif_pos {α : Type} {b : Bool} {x : Option α} {y : α} (h : (bif b then x else none) = some y) : b = true ∧ x = some y := by
  cases b with
  | true => exact ⟨rfl, h⟩
  | false => cases h
section
variable {P : Program} {ρ : Operand → AV} {h h' : List Blk} {a : Out} {i : In} {x : AV} {C : AV → List Blk → Prop}
theorem OK.bit_inv {x : AV} {b : Bool} (h : OK P (.bit x) (.bit b)) : x = .d (.v (.bool b)) := by
  cases h with | bit h => subst h; rfl
theorem rLoad_sound {t : TypeId} {p : AV} {cs : List AV} {off : Nat} {K : AV → Prop} (h1 : rAt h p = some (cs, off)) (h2 : rLoad P t cs off = some x) (hK : K x) : aLoad P t h p K := by
  have key : (match aggT P t, szT P t with
      | some true, some k => chk (leB (off + k) cs.length) (K (.agg ((cs.drop off).take k)))
      | some false, some _ => match cs[off]? with
        | some c => K c
        | none => False
      | _, _ => False) := by
    unfold rLoad at h2
    split at h2
    · next k e1 e2 =>
      obtain ⟨h3, rfl⟩ := bif_some h2
      exact chk_iff.2 ⟨h3, hK⟩
    · next k e1 e2 => rw [h2]; exact hK
    · cases h2
  unfold aLoad atPtr
  unfold rAt at h1
  split at h1
  · split at h1
    · next cs' e => cases h1; simp only [e]; exact key
    · cases h1
  · split at h1
    · next c e => cases h1; simp only [e]; exact key
    · cases h1
  · cases h1
theorem rEl_spec {y : AV} {z : Option Int} {k : Nat} (h1 : rEl y z k a = some (x, i)) (hok : OK P i a) : ∃ xs w c, y.list? = some xs ∧ z = some w ∧ 0 ≤ w ∧ xs[w.toNat]? = some c ∧ c.length = k ∧ x = .elt [c] 0 0 := by
  unfold rEl at h1
  split at h1
  · next xs w c hx =>
    obtain ⟨hk, he⟩ := bif_some h1
    cases he
    cases hok with
    | el h0 hc => exact ⟨_, _, _, hx, rfl, h0, hc, by simpa using hk, rfl⟩
  · cases h1
theorem rIndexAddr_sound {T : TypeId} {y z : AV} {K : AV → Prop} (h1 : rIndexAddr P T y z a = some (x, i)) (hok : OK P i a) (hK : K x) : aIndexAddr P T y z K := by
  unfold rIndexAddr at h1
  unfold aIndexAddr
  cases hT : elmT P T with
  | some p =>
    obtain ⟨e, k⟩ := p
    simp only [hT] at h1 ⊢
    cases y with
    | row n off len cap k' =>
      simp only at h1 ⊢
      split at h1
      · next w hw =>
        obtain ⟨hk, he⟩ := bif_some h1
        cases he
        cases hok with | lt h0 hl => simp only [hw]; exact chk_iff.2 ⟨hk, h0, hl, hK⟩
      · cases h1
    | _ =>
      obtain ⟨xs, w, c, e1, e2, e3, e4, e5, rfl⟩ := rEl_spec h1 hok
      simp only [e1, e2, e4, e5]
      exact ⟨e3, trivial, hK⟩
  | none =>
    simp only [hT] at h1 ⊢
    split at h1
    · next n e k b off w hA hw =>
      cases h1
      simp only [hA, hw]
      cases hok with | lt h0 hl => exact ⟨h0, hl, hK⟩
    · next n e k c w hA hw =>
      split at h1
      · next d =>
        obtain ⟨hb, he⟩ := bif_some h1; cases he
        simp only [hA, hw]
        cases hok with | tel h0 hl h => exact chk_iff.2 ⟨hb, h0, hl, by simp only [List.getElem?_cons_zero, Nat.zero_add, h]; exact hK⟩
      · cases h1
    · cases h1
theorem rLen_sound {T : TypeId} {y : AV} {K : Nat → Prop} {C : AV → Prop} (h1 : rLen P T y a = some (x, i)) (hok : OK P i a) (hK : C x) (hc : ∀ n : Nat, C (.d (.v (.int .i64 n))) → K n) : aLen P T y K := by
  unfold rLen at h1
  unfold aLen
  split at h1
  · obtain ⟨hb, he⟩ := bif_some h1; cases he; exact chk_iff.2 ⟨hb, hc _ hK⟩
  · obtain ⟨hb, he⟩ := bif_some h1; cases he; exact chk_iff.2 ⟨hb, hc _ hK⟩
  · next n1 n2 =>
    split at h1
    · next xs n hx =>
      obtain ⟨hb, he⟩ := bif_some h1; cases he
      cases hok with
      | len hl =>
        subst hl
        split
        · next s => exact absurd rfl (n1 s)
        · next a b c d e => exact absurd rfl (n2 a b c d e)
        · simp only [hx]; exact chk_iff.2 ⟨hb, hc _ hK⟩
    · cases h1
theorem rInt_spec {y : Option Operand} {l : Option Int} (h1 : rInt ρ y = some l) : (y = none ∧ l = none) ∨ ∃ o z, y = some o ∧ l = some z ∧ (ρ o).int? = some z := by
  unfold rInt at h1
  cases y with
  | none => cases h1; exact .inl ⟨rfl, rfl⟩
  | some o =>
    simp only at h1
    split at h1
    · next z hz => cases h1; exact .inr ⟨o, z, rfl, rfl, hz⟩
    · cases h1
theorem optInt_of {y : Option Operand} {l : Option Int} {d : Nat} {K : Nat → Prop} (h1 : rInt ρ y = some l) (h0 : ∀ z, l = some z → 0 ≤ z) (hK : K (oN l d)) : optInt ρ y d K := by
  rcases rInt_spec h1 with ⟨rfl, rfl⟩ | ⟨o, z, rfl, rfl, hz⟩
  · exact hK
  · simp only [optInt, hz]; exact ⟨h0 z rfl, hK⟩
theorem rSlice_sound {T : TypeId} {y : AV} {lo hi mx : Option Operand} {K : AV → Prop} (h1 : rSlice P T ρ y lo hi mx a = some (x, i)) (hok : OK P i a) (hK : K x) : aSlice P T ρ y lo hi mx K := by
  unfold rSlice at h1
  unfold aSlice
  split at h1
  · split at h1
    · next l hh hl hhi =>
      split at h1
      · next b =>
        obtain ⟨hb, he⟩ := bif_some h1; cases he
        cases hok with
        | str h0 h2 h3 h4 =>
          refine chk_iff.2 ⟨hb, optInt_of hhi (fun z e => by subst e; exact h3) ?_⟩
          have e1 : oN hh b.size = (hh.getD b.size).toNat := by cases hh <;> simp [oN]
          have e2 : oN l 0 = (l.getD 0).toNat := by cases l <;> simp [oN]
          rw [e1]
          refine ⟨h4, optInt_of hl (fun z e => by subst e; exact h0) ?_⟩
          rw [e2]
          rw [e1, e2] at hK
          exact ⟨h2, hK⟩
      · next n off =>
        split at h1
        · next m e k hT =>
          obtain ⟨hb, he⟩ := bif_some h1; cases he
          simp only [hT]
          generalize leB m 4096 = q at hb ⊢
          rw [Bool.and_eq_true] at hb
          refine chk_iff.2 ⟨hb.1, optInt_of hhi (fun z e => by cases e) (chk_iff.2 ⟨leB_iff.2 (Nat.le_refl _), optInt_of hl (fun z e => by cases e) (chk_iff.2 ⟨?_, ?_⟩)⟩)⟩
          · rw [Bool.and_eq_true]; exact ⟨leB_iff.2 (Nat.zero_le _), hb.2⟩
          · show K (.row n (off + 0 * k) (m - 0) (m - 0) k)
            rw [Nat.zero_mul, Nat.add_zero, Nat.sub_zero]; exact hK
        · cases h1
      · next hn1 hn2 =>
        split at h1
        · next xs e k ys hx hT =>
          cases h1
          dsimp only
          split
          · next b => exact absurd rfl (hn1 b)
          · next n off => exact absurd rfl (hn2 n off)
          · simp only [hx, hT]
            cases hh with
            | none =>
              cases hok with
              | subn h0 h2 hk he =>
                refine ⟨hk, optInt_of hhi (fun z e => by cases e) ⟨Nat.le_refl _, optInt_of hl (fun z e => by subst e; exact h0) ?_⟩⟩
                have e2 : oN l 0 = (l.getD 0).toNat := by cases l <;> simp [oN]
                rw [e2]
                refine ⟨h2, ?_⟩
                rw [show oN none xs.length = xs.length from rfl, List.take_length, he]; exact hK
            | some z =>
              cases hok with
              | sub h0 h2 h3 h4 hk he =>
                refine ⟨hk, optInt_of hhi (fun z e => by cases e; exact h3) ⟨h4, optInt_of hl (fun z e => by subst e; exact h0) ?_⟩⟩
                have e2 : oN l 0 = (l.getD 0).toNat := by cases l <;> simp [oN]
                rw [e2]
                refine ⟨h2, ?_⟩
                rw [show oN (some z) xs.length = z.toNat from rfl, he]; exact hK
        · cases h1
    · cases h1
  · split at h1
    · next m _ _ y' _ hm =>
      split at h1
      · next xs e k _ _ ys hx hT hy =>
        cases h1
        cases hok with
        | sub h0 h2 h3 h4 hk he =>
          simp only [hx, hT]
          refine ⟨hk, ?_⟩
          simp only [optInt, hm, hy, AV.int?]
          refine ⟨Int.le_refl _, Nat.zero_le _, Int.le_refl _, ?_, by simpa using hK⟩
          first | rfl | trivial
      · cases h1
    · cases h1
theorem rSrc_sound {k : Nat} {y : AV} {ys : List (List D)} {K : List (List D) → Prop} (h1 : rSrc h k y = some ys) (hy : ∀ c ∈ ys, c.length = k) (hK : K ys) : srcL h k y K := by
  unfold rSrc at h1
  unfold srcL
  split at h1
  · split at h1
    · next cs e =>
      split at h1
      · next ds e2 =>
        obtain ⟨hb, rfl⟩ := bif_some h1
        simp only [e, e2]
        exact chk_iff.2 ⟨hb, hK⟩
      · cases h1
    · cases h1
  · next hn =>
    split
    · next n off len cap k' => exact absurd rfl (hn n off len cap k')
    · simp only [h1]; exact ⟨hy, hK⟩
theorem rAppend_sound {T : TypeId} {y z : AV} (h1 : rAppend P T h y z a = some (x, h', i)) (hok : OK P i a) (hC : C x h') : aAppend P T h y z C := by
  unfold rAppend at h1
  unfold aAppend
  split at h1
  · next e k zs n' hT =>
    simp only [hT]
    split at h1
    · next zv by_ hz hby =>
      simp only [hz, hby]
      obtain ⟨hb, h1⟩ := bif_pos h1
      refine chk_iff.2 ⟨hb, ?_⟩
      split at h1
      · next ys hys =>
        split at h1
        · next n xs =>
          split at h1
          · next e' k' len hn =>
            obtain ⟨hc, he⟩ := bif_some h1; cases he
            cases hok with
            | app hl hx hy hm hbb hzz hnn =>
              subst hzz; subst hnn
              refine rSrc_sound hys hy ?_
              simp only [hn]
              exact chk_iff.2 ⟨hc, hl, hx, hm, hbb, hC⟩
          · cases h1
        · cases h1
          cases hok with
          | app hl hx hy hm hbb hzz hnn =>
            subst hzz; subst hnn
            refine rSrc_sound hys hy ?_
            simp only [List.nil_append, List.length_nil, Nat.zero_add] at hC hm hbb ⊢
            exact ⟨hm, hbb, hC⟩
        · cases h1
          cases hok with
          | app hl hx hy hm hbb hzz hnn =>
            subst hzz; subst hnn
            exact rSrc_sound hys hy ⟨hx, hm, hbb, hC⟩
        · cases h1
      · cases h1
    · cases h1
  · cases h1
theorem rBuild_sound {T : TypeId} {ps : List (Nat × AV)} {K : AV → Prop} (h1 : rBuild P T ps = some x) (hK : K x) : aBuild P T ps K := by
  unfold rBuild at h1
  unfold aBuild
  split at h1
  · next pl z e1 e2 =>
    simp only [e1, e2]
    split at h1
    · next cs e3 => obtain ⟨hb, rfl⟩ := bif_some h1; simp only [e3]; exact chk_iff.2 ⟨hb, hK⟩
    · cases h1
  · cases h1
theorem rBuildSlice_sound {T : TypeId} {len : Nat} {ps : List (Nat × AV)} {K : AV → Prop} (h1 : rBuildSlice P T len ps = some x) (hK : K x) : aBuildSlice P T len ps K := by
  unfold rBuildSlice at h1
  unfold aBuildSlice
  split at h1
  · next e k hT =>
    simp only [hT]
    split at h1
    · next z hz =>
      simp only [hz]
      split at h1
      · next cs hcs =>
        simp only [hcs]
        split at h1
        · next ds hds => obtain ⟨hb, rfl⟩ := bif_some h1; simp only [hds]; exact chk_iff.2 ⟨hb, hK⟩
        · cases h1
      · cases h1
    · cases h1
  · cases h1
theorem rBin_sound {T : TypeId} {op : BinOp} {y z : AV} {K : AV → Prop} (h1 : rBin P T op y z = some (x, i)) (hok : OK P i a) (hK : K x) : aBin P T op y z K := by
  unfold rBin at h1
  unfold aBin
  split at h1
  · split at h1
    · next v e =>
      obtain ⟨hb, he⟩ := bif_some h1; cases he
      cases hok with | nz h0 => simp only [e]; exact chk_iff.2 ⟨hb, h0, hK⟩
    · next e =>
      simp only [e]
      split at h1
      · next v e2 =>
        cases h1
        cases hok with | nn h0 => simp only [e2]; exact ⟨h0, hK⟩
      · next e2 =>
        simp only [e2]
        split at h1
        · next v e3 => obtain ⟨hb, he⟩ := bif_some h1; cases he; simp only [e3]; exact chk_iff.2 ⟨hb, hK⟩
        · cases h1
  · split at h1
    · next v e => cases h1; simp only [e]; exact hK
    · next e =>
      simp only [e]
      split at h1
      · cases h1; cases hok with | cat h => exact ⟨h, hK⟩
      · cases h1
  · split at h1
    · next v e => obtain ⟨hb, he⟩ := bif_some h1; cases he; simp only [e]; exact chk_iff.2 ⟨hb, hK⟩
    · cases h1
  · split at h1
    · next b e =>
      simp only [e]
      split at h1
      · next v e2 => cases h1; simp only [e2]; exact hK
      · cases h1
    · cases h1
  · cases h1
theorem rConv_sound {s t : TypeId} {y : AV} {K : AV → Prop} (h1 : rConv P s t y a = some (x, i)) (hok : OK P i a) (hK : K x) : aConv P s t y K := by
  unfold rConv at h1
  unfold aConv
  split at h1
  · split at h1
    · next e1 e2 => cases h1; simp only [e1, e2]; exact hK
    · cases h1
  · obtain ⟨hb, he⟩ := bif_some h1; cases he; exact chk_iff.2 ⟨hb, hK⟩
  · next h8 h9 =>
    split at h1
    · next xs e k s' e1 e2 =>
      obtain ⟨hb, he⟩ := bif_some h1; cases he
      cases hok with
      | byt h =>
        obtain ⟨ns, k1, k2⟩ := h
        subst k2
        split
        · next k' n => exact absurd rfl (h8 k' n)
        · next b' => exact absurd rfl (h9 b')
        · simp only [e1, e2]; exact chk_iff.2 ⟨hb, ns, k1, hK⟩
    · cases h1
theorem rField_sound {T : TypeId} {y : AV} {f : Nat} {K : AV → Prop} (h1 : rField P T y f = some x) (hK : K x) : aField P T y f K := by
  unfold rField at h1
  unfold aField
  split at h1
  · next e => obtain ⟨hb, rfl⟩ := bif_some h1; simp only [e]; exact chk_iff.2 ⟨hb, hK⟩
  · next e => simp only [e, h1]; exact hK
  · cases h1
theorem pureR_some {y : Option AV} (h1 : pureR h y = some (x, h', i)) : y = some x ∧ h' = h := by
  cases y with
  | none => cases h1
  | some y => cases h1; exact ⟨rfl, rfl⟩
theorem inR_some {y : Option (AV × In)} (h1 : inR h y = some (x, h', i)) : y = some (x, i) ∧ h' = h := by
  cases y with
  | none => cases h1
  | some y => cases h1; exact ⟨rfl, rfl⟩
theorem runOp_sound {o : Oper} (h1 : runOp P o.op ρ h a = some (x, h', i)) (hok : OK P i a) (hC : C x h') : aopC P o ρ h C := by
  obtain ⟨dst, op, type, pos, after, guard⟩ := o
  simp only at h1
  unfold runOp at h1
  unfold aopC
  split at h1
  · cases h1; exact hC
  · cases h1; exact hC
  · next c y z =>
    split at h1
    · next b =>
      cases h1
      simp only [OK.bit_inv hok]
      cases b <;> simp_all
    · cases h1
  · split at h1
    · next z e => cases h1; simp only [e]; exact hC
    · cases h1
  · obtain ⟨hb, he⟩ := bif_some h1; cases he; exact chk_iff.2 ⟨hb, hC⟩
  · split at h1
    · next cs off e =>
      split at h1
      · next y e2 => cases h1; exact rLoad_sound e e2 hC
      · cases h1
    · cases h1
  · split at h1
    · next n off e =>
      split at h1
      · next cs e2 =>
        split at h1
        · next k e3 => obtain ⟨hb, he⟩ := bif_some h1; cases he; simp only [e, aStore, e2, e3]; exact chk_iff.2 ⟨hb, hC⟩
        · cases h1
      · cases h1
    · cases h1
  · split at h1
    · next e => cases h1; simp only [e]; exact hC
    · next e => cases h1; simp only [e]; exact hC
    · next e => cases h1; simp only [e]; exact hC
    · cases h1
  · split at h1
    · next e =>
      simp only [e]
      split at h1
      · next e2 => cases h1; simp only [e2]; exact hC
      · next e2 => cases h1; simp only [e2]; exact hC
      · cases h1
    · cases h1
  · obtain ⟨e, rfl⟩ := pureR_some h1; exact rField_sound e hC
  · obtain ⟨e, rfl⟩ := inR_some h1; exact rIndexAddr_sound e hok hC
  · split at h1
    · next b z c e1 e2 =>
      obtain ⟨hb, he⟩ := bif_some h1; cases he
      cases hok with
      | ch h0 hc => simp only [e1, e2]; refine chk_iff.2 ⟨hb, h0, ?_⟩; simp only [hc]; exact hC
    · cases h1
  · obtain ⟨e, rfl⟩ := pureR_some h1; exact rBuild_sound e hC
  · obtain ⟨e, rfl⟩ := pureR_some h1; exact rBuildSlice_sound e hC
  · obtain ⟨e, rfl⟩ := inR_some h1; exact rSlice_sound e hok hC
  · split at h1
    · next e =>
      split at h1
      · next e2 => cases h1; simp only [e, e2]; exact hC
      · cases h1
    · cases h1
  · split at h1
    · next e => cases h1; simp only [e]; exact hC
    · cases h1
  · obtain ⟨e, rfl⟩ := inR_some h1; exact rBin_sound e hok hC
  · unfold aUn
    split at h1
    · next e =>
      split at h1
      · next e2 => cases h1; simp only [e, e2]; exact hC
      · cases h1
    · cases h1
  · obtain ⟨e, rfl⟩ := inR_some h1; exact rConv_sound e hok hC
  · next c =>
    split at h1
    · next hc =>
      simp only [hc]
      split at h1
      · next e1 e2 => obtain ⟨e, rfl⟩ := inR_some h1; simp only [e1, e2]; exact rLen_sound (C := fun x => C x _) e hok hC (fun n hn => hn)
      · cases h1
    · next hc =>
      simp only [hc]
      split at h1
      · next e1 e2 => obtain ⟨hb, h1⟩ := bif_pos h1; simp only [e1, e2]; exact chk_iff.2 ⟨hb, rAppend_sound h1 hok hC⟩
      · cases h1
    · next hc =>
      simp only [hc]
      split at h1
      · next e1 => cases h1; simp only [e1]; exact hC
      · cases h1
    · next hc =>
      simp only [hc]
      split at h1
      · next e1 => cases h1; simp only [e1]; exact hC
      · cases h1
    · next f hc =>
      simp only [hc]
      split at h1
      · next g caps r e =>
        obtain ⟨hb, he⟩ := bif_some h1; cases he
        simp only [Bool.and_eq_true] at hb
        simp only [e]
        cases hok with | call hcall => exact (hcall.use hb.1 hb.2 hC).ofArg
      · next g caps r h2 e =>
        cases h1
        simp only [e]
        cases hok with | hcall hcall => exact hcall.mono fun r1 h1 ⟨e1, e2⟩ => by subst e1; subst e2; exact hC
      · next g caps l argsC H r H' e =>
        cases h1
        simp only [e]
        cases hok with | rcall ha hd hb hl hc => exact (ha ▸ (hc.rcall hd hb hl).mono fun r1 h1 ⟨e1, e2⟩ => by subst e1; subst e2; exact hC : ACalls P g _ _ _).ofArg2
      · next g caps l argsC H r e =>
        cases h1
        simp only [e]
        cases hok with | rq ha hd hb hl hc => exact (ha ▸ (by have := hc.rq hd hb hl []; rw [List.append_nil] at this; exact this.mono fun r1 h1 ⟨e1, e2⟩ => by subst e1; subst e2; exact hC) : ACalls P g _ _ _).ofArg2
      · next q r e =>
        obtain ⟨hb, he⟩ := bif_some h1; cases he
        simp only [Bool.and_eq_true] at hb
        simp only [e]
        cases hok with | ccall hq => exact hq.use hb.1 hb.2 hC
      · cases h1
    · cases h1
  · next op _ =>
    unfold xR at h1
    split at h1
    · next y h2 p e =>
      cases h1
      simp only [e]
      refine ⟨?_, hC⟩
      cases p with
      | no => trivial
      | lt n => cases hok with | sd h => exact h
    · cases h1
end
def look : List (Nat × Out) → Nat → Out
  | [], _ => .none
  | (k, x) :: l, i => bif k == i then x else look l i
def consI (i : In) (a : Out) (r : Option (St × List (In × Out))) : Option (St × List (In × Out)) :=
  match i with
  | .none => r
  | i => match r with
    | some (s, l) => some (s, (i, a) :: l)
    | none => none
def isH : Out → Bool
  | .hret .. | .rret .. => true
  | _ => false
def runOpN (P : Program) (dr : Bool) (op : Op) (ρ : Operand → AV) (h : List Blk) (a : Out) : Option (AV × List Blk × In) :=
  match a with
  | .va va => bif dr then none else match opV P op ρ h va with
    | some (x, h', p) => some (x, h', .pr p)
    | none => none
  | a => runOp P op ρ h a
def runStep (P : Program) (dr : Bool) (o : Oper) (j : Nat) (as : List (Nat × Out)) (s : St) : Option (St × List (In × Out)) :=
  bif dr && isH (look as (3 * j + 1)) then none else
  match runOpN P dr o.op (ev s) s.h (look as (3 * j + 1)) with
  | some (x, h', i) => match look as (3 * j + 2) with
    | .eq y => consI i (look as (3 * j + 1)) (some ((s.wh h').put o.dst y, [(.eq x, .eq y)]))
    | _ => consI i (look as (3 * j + 1)) (some ((s.wh h').put o.dst x, []))
  | none => none
def skipS (o : Oper) (s : St) : St := s.put o.dst (.d (.v undef))
def catR (l : List (In × Out)) : Option (St × List (In × Out)) → Option (St × List (In × Out))
  | some (s, m) => some (s, l ++ m)
  | none => none
def runG (P : Program) (ops : Array Oper) (dr : Bool) (o : Oper) (j : Nat) (as : List (Nat × Out)) (s : St) : Option (St × List (In × Out)) :=
  match o.guard with
  | none => runStep P dr o j as s
  | some (g, want) => match look as (3 * j) with
    | .bit b => catR [(.bit (gSlot ops g s.t), .bit b)] (bif b == want then runStep P dr o j as s else some (skipS o s, []))
    | .und => catR [(.bit (gSlot ops g s.t), .und)] (some (skipS o s, []))
    | _ => none
def runOps (P : Program) (ops : Array Oper) (dr : Bool) : List Oper → Nat → List (Nat × Out) → St → Option (St × List (In × Out))
  | [], _, _, s => some (s, [])
  | o :: rest, j, as, s => match runG P ops dr o j as s with
    | some (s1, l) => catR l (runOps P ops dr rest (j + 1) as s1)
    | none => none
def AllOK (P : Program) (l : List (In × Out)) : Prop := ∀ p ∈ l, OK P p.1 p.2
section
variable {P : Program} {ops : Array Oper} {dr : Bool} {o : Oper} {j : Nat} {as : List (Nat × Out)} {s s1 : St} {l : List (In × Out)} {K : St → Prop}
theorem consI_some {i : In} {a : Out} {r : Option (St × List (In × Out))} (h : consI i a r = some (s1, l)) (hok : AllOK P l) : ∃ m, r = some (s1, m) ∧ AllOK P m ∧ OK P i a := by
  unfold consI at h
  split at h
  · exact ⟨l, h, hok, .none⟩
  · split at h
    · next s2 m =>
      cases h
      exact ⟨m, rfl, fun p hp => hok p (List.mem_cons_of_mem _ hp), hok (i, a) List.mem_cons_self⟩
    · cases h
theorem catR_some {r : Option (St × List (In × Out))} {m : List (In × Out)} (h : catR m r = some (s1, l)) (hok : AllOK P l) : ∃ n, r = some (s1, n) ∧ AllOK P n ∧ AllOK P m := by
  unfold catR at h
  split at h
  · next s2 n =>
    cases h
    exact ⟨n, rfl, fun p hp => hok p (List.mem_append_right _ hp), fun p hp => hok p (List.mem_append_left _ hp)⟩
  · cases h
def aopB (P : Program) (dr : Bool) (o : Oper) (K : St → Prop) (s : St) : Prop := bif dr then aopD P o K s else aopN P o K s
theorem aopD_of {x : AV} {h' : List Blk} {i : In} {a : Out} (h1 : runOp P o.op (ev s) s.h a = some (x, h', i)) (hok : OK P i a) (hh : isH a = false) (hK : K ((s.wh h').put o.dst x)) : aopD P o K s := by
  refine .inl ?_
  unfold aopD0
  split
  · next c hop =>
    split
    · next f hc =>
      rw [hop] at h1
      unfold runOp at h1
      simp only [hc] at h1
      split at h1
      · next g caps r e =>
        obtain ⟨hb, he⟩ := bif_some h1; cases he
        simp only [Bool.and_eq_true] at hb
        simp only [e]
        cases hok with
        | call hcall => exact ⟨_, hK, fun e => (hcall.use hb.1 hb.2 ⟨rfl, rfl⟩).ofArg⟩
      · cases hh
      · cases hh
      · next g caps l argsC H r e =>
        cases h1
        simp only [e]
        cases hok with | rq ha hd hb hl hc => exact ⟨_, hK, fun e => (ha ▸ hc.rq hd hb hl e : ACalls P g _ _ _).ofArg2⟩
      · next q r e =>
        obtain ⟨hb, he⟩ := bif_some h1; cases he
        simp only [Bool.and_eq_true] at hb
        simp only [e]
        cases hok with
        | ccall hq =>
          have := fun h => hq.use (h := h) (C := fun r' h' => r' = x ∧ h' = h) hb.1 hb.2 ⟨rfl, rfl⟩
          obtain ⟨g, cs, e1, _⟩ := this []
          refine ⟨g, cs, e1, x, hK, fun e => ?_⟩
          obtain ⟨g', cs', e2, h9⟩ := this (s.h ++ e)
          rw [e1] at e2
          cases e2
          exact h9
      · cases h1
    · exact runOp_sound (C := fun x h' => K ((s.wh h').put o.dst x)) h1 hok hK
  · exact runOp_sound (C := fun x h' => K ((s.wh h').put o.dst x)) h1 hok hK
theorem runStep_sound (h : runStep P dr o j as s = some (s1, l)) (hok : AllOK P l) (hK : K s1) : aopB P dr o K s := by
  unfold runStep at h
  cases hd : dr && isH (look as (3 * j + 1)) with
  | true => rw [hd] at h; cases h
  | false =>
    rw [hd] at h
    simp only [cond_false] at h
    split at h
    · next x h' i hr =>
      have fin : OK P i (look as (3 * j + 1)) → K ((s.wh h').put o.dst x) → aopB P dr o K s := fun h1 h2 => by
        unfold aopB
        cases dr with
        | true =>
          unfold runOpN at hr
          split at hr
          · cases hr
          · exact aopD_of hr h1 (by simpa using hd) h2
        | false =>
          unfold runOpN at hr
          split at hr
          · next va e =>
            simp only [cond_false] at hr
            split at hr
            · next x2 h2' p e2 =>
              cases hr
              rw [e] at h1
              cases h1 with | pr _ hp => exact .inl ⟨va, x, h', p, e2, hp, h2⟩
            · cases hr
          · exact .inr (.inr (.inl (runOp_sound (C := fun x h' => K ((s.wh h').put o.dst x)) hr h1 h2)))
      split at h
      · next y hy =>
        obtain ⟨m, e, h2, h3⟩ := consI_some h hok
        cases e
        have := h2 (.eq x, .eq y) List.mem_cons_self
        cases this with | eq e => subst e; exact fin h3 hK
      · obtain ⟨m, e, h2, h3⟩ := consI_some h hok
        cases e
        exact fin h3 hK
    · cases h
theorem runG_sound (h : runG P ops dr o j as s = some (s1, l)) (hok : AllOK P l) (hK : K s1) : aGuard ops o s (aopB P dr o K s) (K (s.put o.dst (.d (.v undef)))) := by
  unfold runG at h
  split at h
  · next hg => unfold aGuard; rw [hg]; exact runStep_sound h hok hK
  · next g want hg =>
    obtain ⟨dst, op, ty, pos, after, guard⟩ := o
    simp only at hg
    subst hg
    split at h
    · next b hb =>
      obtain ⟨n, e, h2, h3⟩ := catR_some h hok
      have h4 := OK.bit_inv (h3 (_, _) List.mem_cons_self)
      rw [aGuard_some, h4]
      refine ⟨fun e2 => ?_, fun e2 => ?_⟩
      · subst e2
        simp only [BEq.rfl, cond_true] at e
        exact runStep_sound e h2 hK
      · subst e2
        have : ((!want) == want) = false := by cases want <;> rfl
        rw [this] at e
        simp only [cond_false] at e
        cases e
        exact hK
    · next hb =>
      obtain ⟨n, e, h2, h3⟩ := catR_some h hok
      cases e
      have h4 := h3 (_, _) List.mem_cons_self
      have h5 : gSlot ops g s.t = .d (.v undef) := by
        generalize gSlot ops g s.t = z at h4
        cases h4; rfl
      rw [aGuard_some, h5]
      exact hK
    · cases h
theorem runOps_sound : ∀ (ol : List Oper) (j : Nat) (s : St) (l : List (In × Out)), runOps P ops dr ol j as s = some (s1, l) → AllOK P l → K s1 → (bif dr then aDraw P ops ol K s else aOps P ops ol K s)
  | [], _, s, l, h, _, hK => by cases h; cases dr <;> exact hK
  | o :: rest, j, s, l, h, hok, hK => by
    unfold runOps at h
    split at h
    · next s2 m hg =>
      obtain ⟨n, e, h2, h3⟩ := catR_some h hok
      have ih := runOps_sound rest (j + 1) s2 n e h2 hK
      cases dr with
      | true => exact runG_sound (K := aDraw P ops rest K) hg h3 ih
      | false => exact runG_sound (K := aOps P ops rest K) hg h3 ih
    · cases h
theorem put_pre (s : St) (d : Option Nat) (x : AV) : ∃ pre, (s.put d x).t = pre ++ s.t := by
  cases d with
  | none => exact ⟨[], rfl⟩
  | some k =>
    by_cases hk : k < s.n
    · exact ⟨[(k, x)], by rw [put_lt hk]; rfl⟩
    · exact ⟨[], by rw [put_ge hk]; rfl⟩
theorem runG_pre (h : runG P ops dr o j as s = some (s1, l)) : (∃ pre, s1.t = pre ++ s.t) ∧ s1.n = s.n := by
  have cI : ∀ {i a r l}, consI i a r = some (s1, l) → ∃ m, r = some (s1, m) := fun {i a r l} h => by
    unfold consI at h
    split at h
    · exact ⟨_, h⟩
    · split at h
      · cases h; exact ⟨_, rfl⟩
      · cases h
  have cR : ∀ {m r l}, catR m r = some (s1, l) → ∃ m, r = some (s1, m) := fun {m r l} h => by
    unfold catR at h
    split at h
    · cases h; exact ⟨_, rfl⟩
    · cases h
  have st : ∀ l, runStep P dr o j as s = some (s1, l) → (∃ pre, s1.t = pre ++ s.t) ∧ s1.n = s.n := fun l h => by
    unfold runStep at h
    cases hd : dr && isH (look as (3 * j + 1)) with
    | true => rw [hd] at h; cases h
    | false =>
      rw [hd] at h
      simp only [cond_false] at h
      split at h
      · split at h <;> (obtain ⟨m, e⟩ := cI h; cases e; exact ⟨put_pre _ _ _, by rw [put_n]; rfl⟩)
      · cases h
  unfold runG at h
  split at h
  · exact st _ h
  · split at h
    · obtain ⟨m, e⟩ := cR h
      revert e
      generalize ((_ : Bool) == _) = q
      intro e
      cases q with
      | true => exact st _ e
      | false => cases e; exact ⟨put_pre _ _ _, by unfold skipS; rw [put_n]⟩
    · obtain ⟨m, e⟩ := cR h
      cases e; exact ⟨put_pre _ _ _, by unfold skipS; rw [put_n]⟩
    · cases h
theorem runOps_pre : ∀ (ol : List Oper) (j : Nat) (s : St) (l : List (In × Out)), runOps P ops dr ol j as s = some (s1, l) → (∃ pre, s1.t = pre ++ s.t) ∧ s1.n = s.n
  | [], _, s, l, h => by cases h; exact ⟨⟨[], rfl⟩, rfl⟩
  | o :: rest, j, s, l, h => by
    unfold runOps at h
    split at h
    · next s2 m hg =>
      unfold catR at h
      split at h
      · next s3 n e =>
        cases h
        obtain ⟨⟨p1, e1⟩, n1⟩ := runG_pre hg
        obtain ⟨⟨p2, e2⟩, n2⟩ := runOps_pre rest (j + 1) s2 n e
        exact ⟨⟨p2 ++ p1, by rw [e2, e1, List.append_assoc]⟩, n2.trans n1⟩
      · cases h
    · cases h
end
def isDead : AV → Bool
  | .dead => true
  | _ => false
def runFin (P : Program) (dr : Bool) (l : List Oper) (as : List (Nat × Out)) (keep : List Nat) (s : St) : Option (List (Nat × AV) × List Blk × List (In × Out)) :=
  match runOps P l.toArray dr l 0 as s with
  | some (s1, ps) => bif (s1.t.take (s1.t.length - s.t.length)).all (fun p => keep.any (· == p.1) || isDead (tget s.t p.1)) then some (keep.map fun k => (k, tget s1.t k), s1.h, ps) else none
  | none => none
theorem tget_append : ∀ (a b : List (Nat × AV)) (i : Nat), (i ∈ a.map (·.1) ∧ tget (a ++ b) i = tget a i) ∨ (i ∉ a.map (·.1) ∧ tget (a ++ b) i = tget b i)
  | [], b, i => .inr ⟨by simp, rfl⟩
  | (k, x) :: a, b, i => by
    by_cases e : i = k
    · subst e; exact .inl ⟨by simp, by simp [tget_cons]⟩
    · rcases tget_append a b i with ⟨h1, h2⟩ | ⟨h1, h2⟩
      · exact .inl ⟨by simp at h1 ⊢; exact .inr h1, by rw [List.cons_append, tget_cons, if_neg e, h2, tget_cons, if_neg e]⟩
      · exact .inr ⟨by simp at h1 ⊢; exact ⟨e, h1⟩, by rw [List.cons_append, tget_cons, if_neg e, h2]⟩
section
variable {P : Program} {dr : Bool} {as : List (Nat × Out)} {s s1 s' : St} {ps : List (In × Out)} {keep : List Nat} {ol : List Oper} {Δ : List (Nat × AV)} {h' : List Blk}
theorem runFin_spec (h : runFin P dr ol as keep s = some (Δ, h', ps)) : ∃ s1, runOps P ol.toArray dr ol 0 as s = some (s1, ps) ∧ s1.n = s.n ∧ s1.h = h' ∧ ∀ i, tget (Δ ++ s.t) i = tget s1.t i ∨ tget (Δ ++ s.t) i = .dead := by
  unfold runFin at h
  split at h
  · next s1 ps' hr =>
    obtain ⟨hb, he⟩ := bif_some h
    cases he
    obtain ⟨⟨pre, e1⟩, n1⟩ := runOps_pre _ _ _ _ hr
    refine ⟨s1, hr, n1, rfl, fun i => ?_⟩
    have hkeys : ∀ (f : Nat → AV), (keep.map fun k => (k, f k)).map (·.1) = keep := fun f => by rw [List.map_map]; exact List.map_id _
    rcases tget_append (keep.map fun k => (k, tget s1.t k)) s.t i with ⟨h1, h2⟩ | ⟨h1, h2⟩
    · rw [hkeys] at h1
      rw [h2, tget_map (fun k => tget s1.t k), if_pos h1]; exact .inl rfl
    · rw [hkeys] at h1
      rw [h2]
      rw [e1, List.length_append, Nat.add_sub_cancel, List.take_left'] at hb
      · rw [e1]
        rcases tget_append pre s.t i with ⟨h3, h4⟩ | ⟨h3, h4⟩
        · right
          obtain ⟨p, hp, rfl⟩ := List.mem_map.1 h3
          have := List.all_eq_true.1 hb p hp
          rw [Bool.or_eq_true] at this
          rcases this with this | this
          · exfalso
            obtain ⟨k, hk, e⟩ := List.any_eq_true.1 this
            rw [beq_iff_eq] at e
            exact h1 (e ▸ hk)
          · generalize tget s.t p.1 = z at this
            cases z <;> first | rfl | cases this
        · exact .inl h4.symm
      · rfl
  · cases h
theorem Sat.less {G : Gh} {w : World} {a : Act} (hs : Sat G w a s1) (hn : s'.n = s1.n) (hh : s'.h = s1.h) (ht : ∀ i, tget s'.t i = tget s1.t i ∨ tget s'.t i = .dead) : Sat G w a s' :=
  ⟨hs.size.trans hn.symm, fun i => by
    rcases ht i with e | e
    · rw [e]; exact hs.tmp i
    · rw [e]; exact .dead _, by rw [hh]; exact hs.inv, hs.df⟩
end
structure Ob (P : Program) where
  i : In
  o : Out
  ok : OK P i o
def bT {P : Program} {e : Bool} (h : e = true) : Ob P := ⟨_, _, .bit (b := true) h⟩
def bF {P : Program} {e : Bool} (h : e = false) : Ob P := ⟨_, _, .bit (b := false) h⟩
def uN {P : Program} : Ob P := ⟨_, _, .und⟩
def cL {P : Program} {f : FuncId} {args : List AV} {r : AV} (h : AFn P f args (· = r)) : Ob P := ⟨_, _, .call h⟩
def obO {P : Program} (l : List (Nat × Ob P)) : List (Nat × Out) := l.map fun b => (b.1, b.2.o)
def obP {P : Program} (l : List (Nat × Ob P)) : List (In × Out) := l.map fun b => (b.2.i, b.2.o)
theorem obP_ok {P : Program} (l : List (Nat × Ob P)) : AllOK P (obP l) := fun p hp => by
  obtain ⟨b, _, rfl⟩ := List.mem_map.1 hp
  exact b.2.ok
section
variable {P : Program} {r : Option Nat} {N0 id : Nat} {ol : List Oper} {y : Code} {s : St} {Q Q' : Exit → St → Prop} {obs : List (Nat × Ob P)} {Δ : List (Nat × AV)} {h' : List Blk}
theorem aw_less {c : Code} {s' : St} (hn : s'.n = s.n) (hh : s'.h = s.h) (ht : ∀ i, tget s'.t i = tget s.t i ∨ tget s'.t i = .dead) (h : AWp P r N0 c Q s') : AWp P r N0 c Q s :=
  ⟨fun G w a n hs hN => h.run G w a n (hs.less hn hh ht) hN⟩
theorem run_reg (obs : List (Nat × Ob P)) (Δ : List (Nat × AV)) (h' : List Blk) (h : runFin P false ol (obO obs) (Δ.map (·.1)) s = some (Δ, h', obP obs)) (k : AWp P r N0 y Q' ⟨s.n, Δ ++ s.t, h'⟩) : AWp P r N0 (.region id ol.toArray false) (AThen (fun s => AWp P r N0 y Q' s) Q) s := by
  obtain ⟨s1, h1, h2, h3, h4⟩ := runFin_spec h
  refine aw_region ?_
  exact runOps_sound (dr := false) ol 0 s _ h1 (obP_ok obs) (aw_less (s := s1) (s' := ⟨s.n, Δ ++ s.t, h'⟩) h2.symm h3.symm h4 k)
theorem run_drw (hm : P.follows .mixedOrders = true) (hl : lexD ol.toArray = true) (obs : List (Nat × Ob P)) (Δ : List (Nat × AV)) (h' : List Blk) (h : runFin P true ol (obO obs) (Δ.map (·.1)) s = some (Δ, h', obP obs)) (k : AWp P r N0 y Q' ⟨s.n, Δ ++ s.t, h'⟩) : AWp P r N0 (.region id ol.toArray true) (AThen (fun s => AWp P r N0 y Q' s) Q) s := by
  obtain ⟨s1, h1, h2, h3, h4⟩ := runFin_spec h
  refine aw_draw hm hl ?_
  exact runOps_sound (dr := true) ol 0 s _ h1 (obP_ok obs) (aw_less (s := s1) (s' := ⟨s.n, Δ ++ s.t, h'⟩) h2.symm h3.symm h4 k)
def runAll (P : Program) (dr : Bool) (l : List Oper) (as : List (Nat × Out)) (s : St) : Option (List (Nat × AV) × List Blk × List (In × Out)) :=
  match runOps P l.toArray dr l 0 as s with
  | some (s1, ps) => some (s1.t, s1.h, ps)
  | none => none
theorem runAll_spec {dr : Bool} {as : List (Nat × Out)} {t : List (Nat × AV)} {ps : List (In × Out)} (h : runAll P dr ol as s = some (t, h', ps)) : runOps P ol.toArray dr ol 0 as s = some (⟨s.n, t, h'⟩, ps) := by
  unfold runAll at h
  split at h
  · next s1 ps' hr =>
    cases h
    obtain ⟨_, n1⟩ := runOps_pre _ _ _ _ hr
    rw [hr, ← n1]
  · cases h
theorem run_end (obs : List (Nat × Ob P)) (Δ : List (Nat × AV)) (h' : List Blk) (h : runAll P false ol (obO obs) s = some (Δ ++ s.t, h', obP obs)) (k : Q .normal ⟨s.n, Δ ++ s.t, h'⟩) : AWp P r N0 (.region id ol.toArray false) Q s :=
  aw_region (runOps_sound (dr := false) ol 0 s _ (runAll_spec h) (obP_ok obs) k)
theorem run_dend (hm : P.follows .mixedOrders = true) (hl : lexD ol.toArray = true) (obs : List (Nat × Ob P)) (Δ : List (Nat × AV)) (h' : List Blk) (h : runAll P true ol (obO obs) s = some (Δ ++ s.t, h', obP obs)) (k : Q .normal ⟨s.n, Δ ++ s.t, h'⟩) : AWp P r N0 (.region id ol.toArray true) Q s :=
  aw_draw hm hl (runOps_sound (dr := true) ol 0 s _ (runAll_spec h) (obP_ok obs) k)
end
def AV.fin (m : Nat) (x : AV) : AV := (x.pub m).nrm
def Blk.nrmB : Blk → Blk
  | .cells cs => .cells (cs.map AV.nrm)
  | .lp ls p as bd cs => .lp ls p as bd (cs.map AV.nrm)
  | .it sn cs => .it sn (cs.map AV.nrm)
  | .vec e k cs => .vec e k (cs.map (·.map AV.nrm))
  | B => B
def cutS (s : St) (live : List Nat) (m : Nat) : Option St :=
  bif leB m s.h.length && (live.all fun k => ((tget s.t k).pub m).lowB m) && (((s.h.take m).map (Blk.pub m)).all (Blk.lowB m)) then some ⟨s.n, live.map fun k => (k, (tget s.t k).fin m), ((s.h.take m).map (Blk.pub m)).map Blk.nrmB⟩ else none
theorem inv_nrm {G : Gh} {w : World} {h : List Blk} (hi : Inv G w h) : Inv G w (h.map Blk.nrmB) := by
  have hget : ∀ (n : Nat) (B : Blk), (h.map Blk.nrmB)[n]? = some B → ∃ B', h[n]? = some B' ∧ B = B'.nrmB := fun n B hB => by
    rw [List.getElem?_map] at hB
    cases hx : h[n]? with
    | none => rw [hx] at hB; cases hB
    | some B' => rw [hx] at hB; cases hB; exact ⟨B', rfl, rfl⟩
  have hown : ∀ n b, ownB (h.map Blk.nrmB) G n = some b → ownB h G n = some b := fun n b hb => by
    obtain ⟨B, hB, hb⟩ := ownB_some hb
    obtain ⟨B', h1, rfl⟩ := hget n B hB
    rw [ownB_of h1, ← hb]
    cases B' <;> rfl
  refine ⟨by rw [List.length_map]; exact hi.len, hi.z, hi.S, fun n B hB => ?_, fun i j b h1 h2 => hi.inj i j b (hown i b h1) (hown j b h2), hi.gl⟩
  obtain ⟨B', h1, rfl⟩ := hget n B hB
  have hB' := hi.blk n B' h1
  cases B' with
  | gone => trivial
  | front e k len => exact hB'
  | map kv => exact hB'
  | vec e k cs =>
    obtain ⟨c1, c2, c3, c4⟩ := hB'
    refine ⟨by rw [List.length_map]; exact c1, by rw [List.length_map]; exact c2, fun c hc => ?_, ?_⟩
    · obtain ⟨x, hx, rfl⟩ := List.mem_map.1 hc
      rw [List.length_map]; exact c3 x hx
    · rcases c4 with ⟨d1, d2, A, d3⟩ | ⟨g, cap, cur, d1, d2, d3, d4, d5, d6, d7, d8, d9⟩
      · exact .inl ⟨d1, by rw [d2]; rfl, A, d3⟩
      · refine .inr ⟨g, cap, cur, d1, by rw [List.length_map]; exact d2, d3, d4, by rw [List.length_map]; exact d5, d6, d7, d8, fun i j c x u hc hx hu => ?_⟩
        rw [List.getElem?_map] at hc
        cases hy : cs[i]? with
        | none => rw [hy] at hc; cases hc
        | some y =>
          rw [hy] at hc
          cases hc
          rw [List.getElem?_map] at hx
          cases hw : y[j]? with
          | none => rw [hw] at hx; cases hx
          | some z => rw [hw] at hx; cases hx; exact (d9 i j y z u hy hw hu).nrm
  | cells cs =>
    obtain ⟨c1, c2, vs, T, c3, c4, c5⟩ := hB'
    refine ⟨c1, c2, vs, T, c3, by rw [List.length_map]; exact c4, fun i u c hu hc => ?_⟩
    rw [List.getElem?_map] at hc
    cases hx : cs[i]? with
    | none => rw [hx] at hc; cases hc
    | some x => rw [hx] at hc; cases hc; exact (c5 i u x hu hx).nrm
  | lp ls p as bd cs =>
    obtain ⟨c1, c2, fn, vs, T, c3, c4, c5⟩ := hB'
    refine ⟨c1, c2, fn, vs, T, c3, by rw [List.length_map]; exact c4, fun i u c hu hc => ?_⟩
    rw [List.getElem?_map] at hc
    cases hx : cs[i]? with
    | none => rw [hx] at hc; cases hc
    | some x => rw [hx] at hc; cases hc; exact (c5 i u x hu hx).nrm
  | it sn cs =>
    obtain ⟨c1, c2, fn, vs, T, c3, c4, c5⟩ := hB'
    refine ⟨c1, c2, fn, vs, T, c3, by rw [List.length_map]; exact c4, fun i u c hu hc => ?_⟩
    rw [List.getElem?_map] at hc
    cases hx : cs[i]? with
    | none => rw [hx] at hc; cases hc
    | some x => rw [hx] at hc; cases hc; exact (c5 i u x hu hx).nrm
section
variable {P : Program} {r : Option Nat} {n N0 : Nat} {G : Gh} {w : World} {a : Act} {s s' : St} {Q Q' : Exit → St → Prop} {live : List Nat} {m : Nat}
theorem cutS_spec (h : cutS s live m = some s') : s.okMask live m ∧ s'.n = s.n ∧ s'.t = (live.map fun k => (k, (tget s.t k).fin m)) ∧ s'.h = ((s.h.take m).map (Blk.pub m)).map Blk.nrmB := by
  unfold cutS at h
  obtain ⟨hb, rfl⟩ := bif_some h
  rw [Bool.and_eq_true, Bool.and_eq_true] at hb
  exact ⟨⟨leB_iff.1 hb.1.1, hb.1.2, hb.2⟩, rfl, rfl, rfl⟩
theorem Sat.cutS (hs : Sat G w a s) (h : cutS s live m = some s') : Sat (G.cut m) w a s' := by
  obtain ⟨h1, h2, h3, h4⟩ := cutS_spec h
  have hm := hs.mask h1
  refine ⟨hs.size.trans h2.symm, fun i => ?_, by rw [h4]; exact inv_nrm hm.inv, hs.df⟩
  have := hm.tmp i
  change VRel _ _ _ (tget (live.map fun k => (k, (tget s.t k).pub m)) i) at this
  rw [tget_map (fun k => (tget s.t k).pub m)] at this
  rw [h3, tget_map (fun k => (tget s.t k).fin m)]
  split at this
  · rename_i hi; rw [if_pos hi]; exact this.nrm
  · rename_i hi; rw [if_neg hi]; exact .dead _
theorem aw_loopC {c : Code} {ι : Type} (live : List Nat) (m : Nat) (st : ι → St) (I : ι → Prop) (μ : ι → Nat) (i0 : ι) (hm : N0 ≤ m) (h0 : Go.Proofs.YtnedgkfefdldeaaGreatDoor.cutS s live m = some (st i0)) (hI : I i0)
    (round : ∀ i, I i → AWp P r N0 c (AThen (fun s' => ∃ i', Go.Proofs.YtnedgkfefdldeaaGreatDoor.cutS s' live m = some (st i') ∧ I i' ∧ μ i' < μ i) Q) (st i)) : AWp P r N0 (.loop c) Q s := by
  constructor
  intro G w a n hs _
  refine wpIn_loop_ghost (fun (i : ι) a' w' => ∃ G', I i ∧ Ext N0 G w G' w' ∧ N0 ≤ G'.N ∧ Sat G' w' a' (st i)) μ i0 ⟨G.cut m, hI, ext_cut _ _ _ _, hm, hs.cutS h0⟩ ?_
  rintro i a' w' ⟨G', hi, hE, hN, hs'⟩
  refine wpIn_mono ((round i hi).run G' w' a' n hs' hN) fun e a1 w1 hn => ?_
  obtain ⟨G1, s1, hE1, hN1, hs1, hq⟩ := hn
  cases e with
  | normal =>
    obtain ⟨i', h1, h2, h3⟩ := hq
    exact ⟨i', ⟨G1.cut m, h2, (hE.trans hE1).trans (ext_cut _ _ _ _), hm, hs1.cutS h1⟩, h3⟩
  | _ => exact ⟨G1, s1, hE.trans hE1, hN1, hs1, hq⟩
theorem aw_cut {c : Code} (live : List Nat) (m : Nat) (hm : N0 ≤ m) (h0 : Go.Proofs.YtnedgkfefdldeaaGreatDoor.cutS s live m = some s') (h : AWp P r N0 c Q s') : AWp P r N0 c Q s := by
  constructor
  intro G w a n hs _
  exact wpIn_mono (h.run (G.cut m) w a n (hs.cutS h0) hm) fun _ _ _ hn => hn.trans (ext_cut N0 G w m)
theorem aw_joinC {c y : Code} {ι : Type} (live : List Nat) (m : Nat) (st : ι → St) (I : ι → Prop) (hm : N0 ≤ m) (hc : AWp P r N0 c (AThen (fun s' => ∃ i, Go.Proofs.YtnedgkfefdldeaaGreatDoor.cutS s' live m = some (st i) ∧ I i) Q) s) (hy : ∀ i, I i → AWp P r N0 y Q' (st i)) : AWp P r N0 c (AThen (fun s => AWp P r N0 y Q' s) Q) s := by
  refine hc.mono fun e s' h => ?_
  cases e with
  | normal => obtain ⟨i, h1, h2⟩ := h; exact aw_cut live m hm h1 (hy i h2)
  | _ => exact h
def runRes (P : Program) (s : St) : List ResultVar → Option (List AV)
  | [] => some []
  | .tmp t :: l => match runRes P s l with
    | some xs => some (tget s.t t :: xs)
    | none => none
  | .cell p t :: l => match rAt s.h (tget s.t p) with
    | some (cs, off) => match rLoad P t cs off, runRes P s l with
      | some x, some xs => some (x :: xs)
      | _, _ => none
    | none => none
def runRet (P : Program) (rs : List ResultVar) (s : St) : Option AV :=
  match runRes P s rs with
  | some l => bif ((tupOf l).pub 0).lowB 0 then some ((tupOf l).fin 0) else none
  | none => none
def aPostR (P : Program) (fn : Func) (R : AV) : Exit → St → Prop
  | .normal, s => runRet P fn.results.toList s = some R
  | .ret, s => runRet P fn.results.toList s = some R
  | _, _ => False
theorem runRes_sound : ∀ (l : List ResultVar) (xs : List AV) (C : List AV → Prop), runRes P s l = some xs → C xs → aResults P s l C
  | [], xs, C, h, hC => by cases h; exact hC
  | .tmp t :: l, xs, C, h, hC => by
    unfold runRes at h
    split at h
    · next ys e => cases h; exact runRes_sound l ys _ e hC
    · cases h
  | .cell p t :: l, xs, C, h, hC => by
    unfold runRes at h
    split at h
    · next cs off e =>
      split at h
      · next x ys e1 e2 => cases h; exact rLoad_sound e e1 (runRes_sound l ys _ e2 hC)
      · cases h
    · cases h
theorem runRet_sound {fn : Func} {R : AV} (h : runRet P fn.results.toList s = some R) : aRet P fn 0 (fun r h' => h' = [] ∧ r.nrm = R) s := by
  unfold runRet at h
  split at h
  · next l e =>
    obtain ⟨hb, rfl⟩ := bif_some h
    exact runRes_sound _ l _ e ⟨Nat.zero_le _, hb, by simp, by simp, rfl⟩
  · cases h
theorem ret_ok {fn : Func} {R : AV} (h : runRet P fn.results.toList s = some R) : aPostR P fn R .ret s := h
theorem afn_of {f : FuncId} {fn : Func} {c : Code} {args : List AV} {R : AV} (hf : P.funcs[f]? = some fn) (hb : fn.body = some c) (hn : (fn.name == "runtime.NumGoroutine") = false)
    (hw : AWp P none 0 c (aPostR P fn R) { n := args.length + (fn.ntmps - args.length), t := enumT 0 args, h := [] }) : AFn P f args (· = R) := by
  have h := acalls_of (P := P) (f := f) (args := args) (h := []) (K := fun r h' => h' = [] ∧ r.nrm = R) 0 hf hb hn (Nat.le_refl _) (hw.mono fun e s hq => by
    cases e with
    | normal => exact runRet_sound hq
    | ret => exact runRet_sound hq
    | _ => exact hq.elim)
  refine ⟨h.1, fun G w vs hi hl hr => (h.2 G w vs hi hl hr).mono fun e w' hp => ?_⟩
  obtain ⟨v, G', x, h', rfl, hE, hN, hi', hv, rfl, rfl⟩ := hp
  exact ⟨v, G', x.nrm, [], rfl, hE, hN, hi', hv.nrm, rfl, rfl⟩
theorem aw_lenB {c : Code} (b i : Nat) (xs : List (List D)) (hx : ((s.h[b]?).bind fun B => match B with | .cells cs => (cs[i]?).bind AV.list? | _ => none) = some xs) (h : xs.length ≤ maxLen → AWp P r N0 c Q s) : AWp P r N0 c Q s := by
  constructor
  intro G w a n hs hN
  cases hb : s.h[b]? with
  | none => rw [hb] at hx; cases hx
  | some B =>
    rw [hb] at hx
    cases B with
    | cells cs =>
      simp only [Option.bind_some] at hx
      obtain ⟨_, _, vs, T, _, hl, hr⟩ := hs.inv.blk b _ hb
      cases hc : cs[i]? with
      | none => rw [hc] at hx; cases hx
      | some x =>
        rw [hc] at hx
        have hlt : i < vs.size := by rw [hl]; exact (List.getElem?_eq_some_iff.1 hc).1
        obtain ⟨A, b', o, c', k', us, _, _, h1, h2, _⟩ := ((hr i _ x (Array.getElem?_eq_getElem hlt) hc).list hx).sl_iff
        exact (h (Nat.le_trans h1 h2)).run G w a n hs hN
    | _ => cases hx
end
theorem run_regE {P : Program} {r : Option Nat} {N0 id : Nat} {ol : List Oper} {y : Code} {s : St} {Q Q' : Exit → St → Prop} (Δ : List (Nat × AV)) (h' : List Blk) (h : ∃ obs : List (Nat × Ob P), runFin P false ol (obO obs) (Δ.map (·.1)) s = some (Δ, h', obP obs)) (k : AWp P r N0 y Q' ⟨s.n, Δ ++ s.t, h'⟩) : AWp P r N0 (.region id ol.toArray false) (AThen (fun s => AWp P r N0 y Q' s) Q) s :=
  let ⟨obs, h⟩ := h; run_reg obs Δ h' h k
theorem run_drwE {P : Program} {r : Option Nat} {N0 id : Nat} {ol : List Oper} {y : Code} {s : St} {Q Q' : Exit → St → Prop} (hm : P.follows .mixedOrders = true) (hl : lexD ol.toArray = true) (Δ : List (Nat × AV)) (h' : List Blk) (h : ∃ obs : List (Nat × Ob P), runFin P true ol (obO obs) (Δ.map (·.1)) s = some (Δ, h', obP obs)) (k : AWp P r N0 y Q' ⟨s.n, Δ ++ s.t, h'⟩) : AWp P r N0 (.region id ol.toArray true) (AThen (fun s => AWp P r N0 y Q' s) Q) s :=
  let ⟨obs, h⟩ := h; run_drw hm hl obs Δ h' h k
theorem cond_t {α : Type} {c : Bool} {a b : α} (h : c = true) : cond c a b = a := by rw [h]; rfl
theorem cond_f {α : Type} {c : Bool} {a b : α} (h : c = false) : cond c a b = b := by rw [h]; rfl
theorem bind_some {α β : Type} {x : Option α} {f : α → Option β} {b : β} (h : Option.bind x f = some b) : ∃ a, x = some a ∧ f a = some b := by
  cases x with
  | none => cases h
  | some a => exact ⟨a, rfl, h⟩
theorem bool_cases (b : Bool) : b = true ∨ b = false := by cases b <;> simp
theorem not_t {b : Bool} (h : b = true) : (!b) = false := by rw [h]; rfl
theorem not_f {b : Bool} (h : b = false) : (!b) = true := by rw [h]; rfl
theorem chk_t {α : Type} {c : Bool} {x : Option α} {r : α} (h : (bif c then x else none) = some r) : c = true := by
  cases c with
  | true => rfl
  | false => cases h
section
variable {P : Program} {r : Option Nat} {N0 id n : Nat} {ol : List Oper} {y : Code} {t : List (Nat × AV)} {h : List Blk} {Q Q' : Exit → St → Prop}
theorem rg (obs : List (Nat × Ob P)) (Δ : List (Nat × AV)) (h' : List Blk) (e : runFin P false ol (obO obs) (Δ.map (·.1)) ⟨n, t, h⟩ = some (Δ, h', obP obs)) (k : AWp P r N0 y Q' ⟨n, Δ ++ t, h'⟩) : AWp P r N0 (.region id ol.toArray false) (AThen (fun s => AWp P r N0 y Q' s) Q) ⟨n, t, h⟩ := run_reg obs Δ h' e k
theorem rd (hm : P.follows .mixedOrders = true) (hl : lexD ol.toArray = true) (obs : List (Nat × Ob P)) (Δ : List (Nat × AV)) (h' : List Blk) (e : runFin P true ol (obO obs) (Δ.map (·.1)) ⟨n, t, h⟩ = some (Δ, h', obP obs)) (k : AWp P r N0 y Q' ⟨n, Δ ++ t, h'⟩) : AWp P r N0 (.region id ol.toArray true) (AThen (fun s => AWp P r N0 y Q' s) Q) ⟨n, t, h⟩ := run_drw hm hl obs Δ h' e k
theorem re (obs : List (Nat × Ob P)) (Δ : List (Nat × AV)) (h' : List Blk) (e : runAll P false ol (obO obs) ⟨n, t, h⟩ = some (Δ ++ t, h', obP obs)) (k : Q .normal ⟨n, Δ ++ t, h'⟩) : AWp P r N0 (.region id ol.toArray false) Q ⟨n, t, h⟩ := run_end obs Δ h' e k
theorem rde (hm : P.follows .mixedOrders = true) (hl : lexD ol.toArray = true) (obs : List (Nat × Ob P)) (Δ : List (Nat × AV)) (h' : List Blk) (e : runAll P true ol (obO obs) ⟨n, t, h⟩ = some (Δ ++ t, h', obP obs)) (k : Q .normal ⟨n, Δ ++ t, h'⟩) : AWp P r N0 (.region id ol.toArray true) Q ⟨n, t, h⟩ := run_dend hm hl obs Δ h' e k
theorem rgE (Δ : List (Nat × AV)) (h' : List Blk) (e : ∃ obs : List (Nat × Ob P), runFin P false ol (obO obs) (Δ.map (·.1)) ⟨n, t, h⟩ = some (Δ, h', obP obs)) (k : AWp P r N0 y Q' ⟨n, Δ ++ t, h'⟩) : AWp P r N0 (.region id ol.toArray false) (AThen (fun s => AWp P r N0 y Q' s) Q) ⟨n, t, h⟩ := run_regE Δ h' e k
theorem rdE (hm : P.follows .mixedOrders = true) (hl : lexD ol.toArray = true) (Δ : List (Nat × AV)) (h' : List Blk) (e : ∃ obs : List (Nat × Ob P), runFin P true ol (obO obs) (Δ.map (·.1)) ⟨n, t, h⟩ = some (Δ, h', obP obs)) (k : AWp P r N0 y Q' ⟨n, Δ ++ t, h'⟩) : AWp P r N0 (.region id ol.toArray true) (AThen (fun s => AWp P r N0 y Q' s) Q) ⟨n, t, h⟩ := run_drwE hm hl Δ h' e k
end
def bs (l : List UInt8) : ByteArray := ⟨l.toArray⟩
def LOk (x : D) : Prop := ∃ (S : Nat → Nat → Prop) (w : World) (u : Value), PRel S w u x
theorem ok_len {xs : List (List D)} (h : LOk (.sl xs)) : xs.length ≤ maxLen := by
  obtain ⟨S, w, u, h⟩ := h
  obtain ⟨A, b', o, c', k', us, _, _, h1, h2, _⟩ := h.sl_iff
  exact Nat.le_trans h1 h2
theorem ok_el {xs : List (List D)} {i j : Nat} {c : List D} {d : D} (h : LOk (.sl xs)) (hc : xs[i]? = some c) (hd : c[j]? = some d) : LOk d := by
  obtain ⟨S, w, u, h⟩ := h
  obtain ⟨A, b', o, c', k', us, _, _, h1, h2, h3, h4, h5⟩ := h.sl_iff
  exact ⟨S, w, _, h5 i j c d hc hd⟩
section
variable {P : Program} {r : Option Nat} {n N0 : Nat} {s : St} {Q : Exit → St → Prop}
theorem aw_okT {c : Code} (k : Nat) (xs : List (List D)) (hx : (tget s.t k).list? = some xs) (h : LOk (.sl xs) → AWp P r N0 c Q s) : AWp P r N0 c Q s := by
  constructor
  intro G w a n hs hN
  exact (h ⟨_, _, _, (hs.tmp k).list hx⟩).run G w a n hs hN
theorem aw_okB {c : Code} (b i : Nat) (xs : List (List D)) (hx : ((s.h[b]?).bind fun B => match B with | .cells cs => (cs[i]?).bind AV.list? | _ => none) = some xs) (h : LOk (.sl xs) → AWp P r N0 c Q s) : AWp P r N0 c Q s := by
  constructor
  intro G w a n hs hN
  cases hb : s.h[b]? with
  | none => rw [hb] at hx; cases hx
  | some B =>
    rw [hb] at hx
    cases B with
    | cells cs =>
      simp only [Option.bind_some] at hx
      obtain ⟨_, _, vs, T, _, hl, hr⟩ := hs.inv.blk b _ hb
      cases hc : cs[i]? with
      | none => rw [hc] at hx; cases hx
      | some x =>
        rw [hc] at hx
        have hlt : i < vs.size := by rw [hl]; exact (List.getElem?_eq_some_iff.1 hc).1
        exact (h ⟨_, _, _, (hr i _ x (Array.getElem?_eq_getElem hlt) hc).list hx⟩).run G w a n hs hN
    | _ => cases hx
end
end Go.Proofs.YtnedgkfefdldeaaGreatDoor

/-! AbsFrz: A variable that is written no more: what lies in it becomes plain data, and whoever points to it points to plain data. -/
namespace Go.Proofs.YtnedgkfefdldeaaGreatDoor
open Go.RowKit
mutual
def AV.frz (b : Nat) (ds : List D) : AV → AV
  | .ptr n off => bif n == b then .elt [ds] 0 off else .ptr n off
  | .agg cs => .agg (AV.frzL b ds cs)
  | .tup cs => .tup (AV.frzL b ds cs)
  | .fn f cs => .fn f (AV.frzL b ds cs)
  | x => x
def AV.frzL (b : Nat) (ds : List D) : List AV → List AV
  | [] => []
  | x :: l => x.frz b ds :: AV.frzL b ds l
end
theorem frzL_eq (b : Nat) (ds : List D) : ∀ l, AV.frzL b ds l = l.map (AV.frz b ds)
  | [] => by simp [AV.frzL]
  | x :: l => by simp [AV.frzL, frzL_eq b ds l]
def Blk.frz (b : Nat) (ds : List D) : Blk → Blk
  | .cells cs => .cells (cs.map (AV.frz b ds))
  | .lp ls p as bd cs => .lp ls p as bd (cs.map (AV.frz b ds))
  | .it sn cs => .it sn (cs.map (AV.frz b ds))
  | .vec e k cs => .vec e k (cs.map (·.map (AV.frz b ds)))
  | B => B
def frzS (s : St) (b : Nat) : Option St :=
  match s.h[b]? with
  | some (.cells cs) => match allD cs with
    | some ds => some ⟨s.n, s.t.map fun p => (p.1, p.2.frz b ds), (s.h.map (Blk.frz b ds)).set b .gone⟩
    | none => none
  | _ => none
theorem tget_mapv (f : AV → AV) (hf : f .dead = .dead) : ∀ (t : List (Nat × AV)) (i : Nat), tget (t.map fun p => (p.1, f p.2)) i = f (tget t i)
  | [], i => by simp [tget, hf]
  | (k, x) :: l, i => by
    simp only [List.map_cons, tget_cons, tget_mapv f hf l i]
    split <;> rfl
theorem VRel.frz {G G' : Gh} {w : World} {b : Nat} {ds : List D} (hE : Ext G.N G w G' w) (hN : G'.N = G.N) (hp : ∀ off, VRel G' w (.pointer (some ⟨G.rho b, off, none⟩)) (.elt [ds] 0 off)) {u : Value} {x : AV} (h : VRel G w u x) : VRel G' w u (x.frz b ds) := by
  have keep : ∀ {u : Value} {x : AV}, VRel G w u x → VRel G' w u x := fun h => h.keep hE (Nat.le_of_eq hN.symm)
  have lst : ∀ (vs : Array Value) (cs : List AV), (∀ (i : Nat) (u : Value) (c : AV), vs[i]? = some u → cs[i]? = some c → VRel G' w u (c.frz b ds)) → ∀ (i : Nat) (u : Value) (c : AV), vs[i]? = some u → (AV.frzL b ds cs)[i]? = some c → VRel G' w u c := by
    intro vs cs ih i u c hu hc
    rw [frzL_eq, List.getElem?_map] at hc
    cases hx : cs[i]? with
    | none => rw [hx] at hc; cases hc
    | some x => rw [hx] at hc; cases hc; exact ih i u x hu hx
  induction h with
  | agg vs cs hl _ ih => rw [AV.frz]; exact .agg vs _ (by rw [frzL_eq, List.length_map]; exact hl) (lst vs cs ih)
  | tup vs cs hl _ ih => rw [AV.frz]; exact .tup vs _ (by rw [frzL_eq, List.length_map]; exact hl) (lst vs cs ih)
  | fn f vs cs hl _ ih => rw [AV.frz]; exact .fn f vs _ (by rw [frzL_eq, List.length_map]; exact hl) (lst vs cs ih)
  | ptr n off h =>
    rw [AV.frz, cond_eq_ite]
    split
    · next e => rw [beq_iff_eq] at e; subst e; exact hp off
    · exact keep (.ptr n off h)
  | own n xs h hp hle hf => simp only [AV.frz]; exact keep (.own n xs h hp hle hf)
  | d h => simp only [AV.frz]; exact keep (.d h)
  | elt xs i off b o u x hx hS hu => simp only [AV.frz]; exact keep (.elt xs i off b o u x hx hS hu)
  | full xs hp hf => simp only [AV.frz]; exact keep (.full xs hp hf)
  | row n off len cap k h hl hm => simp only [AV.frz]; exact keep (.row n off len cap k h hl hm)
  | mp n h => simp only [AV.frz]; exact keep (.mp n h)
  | yld n h => simp only [AV.frz]; exact keep (.yld n h)
  | vec n o len L k h hs hL hf => simp only [AV.frz]; exact keep (.vec n o len L k h hs hL hf)
  | vptr n i j L k h hs hL hf => simp only [AV.frz]; exact keep (.vptr n i j L k h hs hL hf)
  | hid h h1 => simp only [AV.frz]; exact keep (.hid h h1)
  | dead u => simp only [AV.frz]; exact .dead u
theorem allD_get : ∀ (cs : List AV) (ds : List D), allD cs = some ds → cs.length = ds.length ∧ ∀ (i : Nat) (c : AV) (d : D), cs[i]? = some c → ds[i]? = some d → c.toD? = some d
  | [], ds, h => by unfold allD at h; cases h; exact ⟨rfl, fun i c d hc => by simp at hc⟩
  | x :: cs, ds, h => by
    unfold allD at h
    split at h
    · next d l e1 e2 =>
      cases h
      obtain ⟨h1, h2⟩ := allD_get cs l e2
      refine ⟨by simp [h1], fun i c d' hc hd => ?_⟩
      match i with
      | 0 => simp only [List.getElem?_cons_zero, Option.some.injEq] at hc hd; subst hc; subst hd; exact e1
      | i + 1 => exact h2 i c d' (by simpa using hc) (by simpa using hd)
    · cases h
theorem VRel.toD2 {G : Gh} {w : World} {u : Value} {x : AV} {d : D} (h : VRel G w u x) (hd : x.toD? = some d) : PRel G.S w u d := by
  cases h with
  | d h => cases hd; exact h.nrm1
  | own n xs h hp => cases hd; exact hp
  | full xs hp => cases hd; exact hp
  | _ => cases hd
theorem Sat.frzS {G : Gh} {w : World} {a : Act} {s s' : St} {b : Nat} (hs : Sat G w a s) (h : frzS s b = some s') : ∃ G', Ext G.N G w G' w ∧ G'.N = G.N ∧ Sat G' w a s' := by
  unfold Go.Proofs.YtnedgkfefdldeaaGreatDoor.frzS at h
  split at h
  · next cs hb =>
    split at h
    · next ds hds =>
      cases h
      obtain ⟨z1, z2, vs, T, z3, z4, z5⟩ := hs.inv.blk b _ hb
      obtain ⟨d1, d2⟩ := allD_get cs ds hds
      have hob : ownB s.h G b = some (G.rho b) := ownB_of hb
      obtain ⟨S, hS⟩ : ∃ S : Nat → Nat → Prop, S = fun b' o => G.S b' o ∨ (b' = G.rho b ∧ o < ds.length) := ⟨_, rfl⟩
      have hE : Ext G.N G w { G with S := S } w := ⟨Nat.le_refl _, fun b o h => by show S b o; rw [hS]; exact .inl h, fun _ _ _ => rfl, fun _ _ => rfl, fun _ _ => .inl ⟨rfl, rfl⟩, zsame rfl, fun _ _ => rfl, rfl, rfl, rfl, fun b' o hs => by
        have hs' : S b' o := hs
        rw [hS] at hs'
        rcases hs' with h | ⟨rfl, _⟩
        · exact .inl h
        · exact .inr z1⟩
      have hp : ∀ off, VRel { G with S := S } w (.pointer (some ⟨G.rho b, off, none⟩)) (.elt [ds] 0 off) := fun off => by
        have := VRel.elt (G := { G with S := S }) (w := w) [ds] 0 off (G.rho b) 0 (fun j => vs.getD j undef) ds rfl (fun j hj => ?_) (fun j d hd => ?_)
        · rwa [Nat.zero_add] at this
        · have hj' : j < vs.size := by rw [z4, d1]; exact hj
          refine ⟨by show S _ _; rw [hS]; exact .inr ⟨rfl, by rw [Nat.zero_add]; exact hj⟩, ?_⟩
          rw [Nat.zero_add, cell_of_row w (G.rho b) j vs T (0, 0) z3]
          simp [Array.getD, hj']
        · have hj : j < ds.length := (List.getElem?_eq_some_iff.1 hd).1
          have hj' : j < vs.size := by rw [z4, d1]; exact hj
          have hc : cs[j]? = some cs[j] := List.getElem?_eq_getElem (by rw [d1]; exact hj)
          have hv := z5 j vs[j] _ (Array.getElem?_eq_getElem hj') hc
          have e : vs.getD j undef = vs[j] := by simp [Array.getD, hj']
          rw [e]
          exact (hv.toD2 (d2 j _ d hc hd)).keep hE.S hE.cell
      have hv : ∀ {u : Value} {x : AV}, VRel G w u x → VRel { G with S := S } w u (x.frz b ds) := fun h => h.frz hE rfl hp
      have hblen := (List.getElem?_eq_some_iff.1 hb).1
      have hget : ∀ (n : Nat) (B : Blk), ((s.h.map (Blk.frz b ds)).set b .gone)[n]? = some B → (n = b ∧ B = .gone) ∨ (n ≠ b ∧ ∃ B', s.h[n]? = some B' ∧ B = B'.frz b ds) := fun n B hB => by
        by_cases e : b = n
        · subst e
          rw [List.getElem?_set_self (by rw [List.length_map]; exact hblen)] at hB
          cases hB; exact .inl ⟨rfl, rfl⟩
        · rw [List.getElem?_set_ne e, List.getElem?_map] at hB
          cases hx : s.h[n]? with
          | none => rw [hx] at hB; cases hB
          | some B' => rw [hx] at hB; cases hB; exact .inr ⟨fun h => e h.symm, B', rfl, rfl⟩
      have hown : ∀ n x, ownB ((s.h.map (Blk.frz b ds)).set b .gone) { G with S := S } n = some x → n ≠ b ∧ ownB s.h G n = some x := fun n x hx => by
        obtain ⟨B, hn, hx⟩ := ownB_some hx
        rcases hget n _ hn with ⟨_, e⟩ | ⟨hne, B', h1, rfl⟩
        · subst e; cases hx
        · refine ⟨hne, ?_⟩
          rw [ownB_of h1, ← hx]
          cases B' <;> rfl
      refine ⟨{ G with S := S }, hE, rfl, hs.size, fun i => ?_, ⟨by rw [List.length_set, List.length_map]; exact hs.inv.len, hs.inv.z, fun b' o h => ?_, fun n B hB => ?_, fun m n x h1 h2 => hs.inv.inj m n x (hown m x h1).2 (hown n x h2).2, hs.inv.gl.keep hE⟩, hs.df⟩
      · show VRel _ _ _ (tget (s.t.map fun p => (p.1, p.2.frz b ds)) i)
        rw [tget_mapv (AV.frz b ds) (by simp [AV.frz])]
        exact hv (hs.tmp i)
      · have hs' : S b' o := h
        rw [hS] at hs'
        rcases hs' with h | ⟨rfl, _⟩
        · exact hs.inv.S b' o h
        · exact (Array.getElem?_eq_some_iff.1 z3).1
      · rcases hget n B hB with ⟨rfl, rfl⟩ | ⟨hne, B', h1, rfl⟩
        · trivial
        · have hB' := hs.inv.blk n B' h1
          cases B' with
          | gone => trivial
          | map kv => exact BRel.keep (G' := { G with S := S }) (hs.inv.lt h1) hE (Nat.le_refl _) ⟨rfl, rfl, rfl⟩ (fun c hc => ⟨rfl, fun o hns hq => by
              have hs' : S c o := hq
              rw [hS] at hs'
              rcases hs' with h | ⟨e, _⟩
              · exact hns h
              · exact hne (hs.inv.inj n b _ ((ownB_of h1).trans hc) (by rw [e]; exact hob))⟩) hB'
          | front e k len => exact BRel.keep (G' := { G with S := S }) (hs.inv.lt h1) hE (Nat.le_refl _) ⟨rfl, rfl, rfl⟩ (fun c hc => ⟨rfl, fun o hns hq => by
              have hs' : S c o := hq
              rw [hS] at hs'
              rcases hs' with h | ⟨e, _⟩
              · exact hns h
              · exact hne (hs.inv.inj n b _ ((ownB_of h1).trans hc) (by rw [e]; exact hob))⟩) hB'
          | cells cs' =>
            obtain ⟨c1, c2, vs', T', c3, c4, c5⟩ := hB'
            have hon : ownB s.h G n = some (G.rho n) := ownB_of h1
            refine ⟨c1, fun o hq => ?_, vs', T', c3, by rw [List.length_map]; exact c4, fun i u c hu hc => ?_⟩
            · have hs' : S (G.rho n) o := hq
              rw [hS] at hs'
              rcases hs' with h | ⟨e, _⟩
              · exact c2 o h
              · exact hne (hs.inv.inj n b _ hon (by rw [e]; exact hob))
            · rw [List.getElem?_map] at hc
              cases hx : cs'[i]? with
              | none => rw [hx] at hc; cases hc
              | some x => rw [hx] at hc; cases hc; exact hv (c5 i u x hu hx)
          | lp ls p as bd cs' =>
            obtain ⟨c1, c2, fn, vs', T', c3, c4, c5⟩ := hB'
            have hon : ownB s.h G n = some (G.rho n) := ownB_of h1
            refine ⟨c1, fun o hq => ?_, fn, vs', T', c3, by rw [List.length_map]; exact c4, fun i u c hu hc => ?_⟩
            · have hs' : S (G.rho n) o := hq
              rw [hS] at hs'
              rcases hs' with h | ⟨e, _⟩
              · exact c2 o h
              · exact hne (hs.inv.inj n b _ hon (by rw [e]; exact hob))
            · rw [List.getElem?_map] at hc
              cases hx : cs'[i]? with
              | none => rw [hx] at hc; cases hc
              | some x => rw [hx] at hc; cases hc; exact hv (c5 i u x hu hx)
          | it sn cs' =>
            obtain ⟨c1, c2, fn, vs', T', c3, c4, c5⟩ := hB'
            have hon : ownB s.h G n = some (G.rho n) := ownB_of h1
            refine ⟨c1, fun o hq => ?_, fn, vs', T', c3, by rw [List.length_map]; exact c4, fun i u c hu hc => ?_⟩
            · have hs' : S (G.rho n) o := hq
              rw [hS] at hs'
              rcases hs' with h | ⟨e, _⟩
              · exact c2 o h
              · exact hne (hs.inv.inj n b _ hon (by rw [e]; exact hob))
            · rw [List.getElem?_map] at hc
              cases hx : cs'[i]? with
              | none => rw [hx] at hc; cases hc
              | some x => rw [hx] at hc; cases hc; exact hv (c5 i u x hu hx)
          | vec e k cs' =>
            obtain ⟨c1, c2, c3, c4⟩ := hB'
            refine ⟨by rw [List.length_map]; exact c1, by rw [List.length_map]; exact c2, fun c hc => ?_, ?_⟩
            · obtain ⟨x, hx, rfl⟩ := List.mem_map.1 hc
              rw [List.length_map]; exact c3 x hx
            · rcases c4 with ⟨d1, d2, A, d3⟩ | ⟨g, cap, cur, d1, d2, d3, d4, d5, d6, d7, d8, d9⟩
              · exact .inl ⟨d1, by rw [d2]; rfl, A, d3⟩
              · have hon : ownB s.h G n = some g := (ownB_of h1).trans d1
                refine .inr ⟨g, cap, cur, d1, by rw [List.length_map]; exact d2, d3, d4, by rw [List.length_map]; exact d5, d6, d7, fun o hq => ?_, fun i j c x u hc hx hu => ?_⟩
                · have hs' : S g o := hq
                  rw [hS] at hs'
                  rcases hs' with h | ⟨e, _⟩
                  · exact d8 o h
                  · exact hne (hs.inv.inj n b _ hon (by rw [e]; exact hob))
                · rw [List.getElem?_map] at hc
                  cases hy : cs'[i]? with
                  | none => rw [hy] at hc; cases hc
                  | some y =>
                    rw [hy] at hc
                    cases hc
                    rw [List.getElem?_map] at hx
                    cases hw : y[j]? with
                    | none => rw [hw] at hx; cases hx
                    | some z => rw [hw] at hx; cases hx; exact hv (d9 i j y z u hy hw hu)
    · cases h
  · cases h
def D.oneB : D → Bool
  | .v u => u.oneCell'
  | .sl _ => true
mutual
def AV.kill (b : Nat) : AV → AV
  | .vec n o len L k => bif n == b then .dead else .vec n o len L k
  | .vptr n i j L k => bif n == b then .dead else .vptr n i j L k
  | .agg cs => .agg (AV.killL b cs)
  | .tup cs => .tup (AV.killL b cs)
  | .fn f cs => .fn f (AV.killL b cs)
  | x => x
def AV.killL (b : Nat) : List AV → List AV
  | [] => []
  | x :: l => x.kill b :: AV.killL b l
end
def Blk.mapV (f : AV → AV) : Blk → Blk
  | .cells cs => .cells (cs.map f)
  | .lp ls p as bd cs => .lp ls p as bd (cs.map f)
  | .it sn cs => .it sn (cs.map f)
  | .vec e k cs => .vec e k (cs.map (·.map f))
  | B => B
theorem inv_drop {G : Gh} {w : World} {h : List Blk} (hi : Inv G w h) {b : Nat} {S : Nat → Nat → Prop} {f : AV → AV} (hE : Ext G.N G w { G with S := S } w) (hS : ∀ c o, S c o → G.S c o ∨ ownB h G b = some c) (hv : ∀ {u : Value} {x : AV}, VRel G w u x → VRel { G with S := S } w u (f x)) :
    Inv { G with S := S } w ((h.map (Blk.mapV f)).set b .gone) := by
  have hget : ∀ (n : Nat) (B : Blk), ((h.map (Blk.mapV f)).set b .gone)[n]? = some B → (n = b ∧ B = .gone) ∨ (n ≠ b ∧ ∃ B', h[n]? = some B' ∧ B = B'.mapV f) := fun n B hB => by
    by_cases e : b = n
    · subst e
      have hlt := (List.getElem?_eq_some_iff.1 hB).1
      rw [List.length_set] at hlt
      rw [List.getElem?_set_self hlt] at hB
      cases hB; exact .inl ⟨rfl, rfl⟩
    · rw [List.getElem?_set_ne e, List.getElem?_map] at hB
      cases hx : h[n]? with
      | none => rw [hx] at hB; cases hB
      | some B' => rw [hx] at hB; cases hB; exact .inr ⟨fun h => e h.symm, B', rfl, rfl⟩
  have hown : ∀ n x, ownB ((h.map (Blk.mapV f)).set b .gone) { G with S := S } n = some x → n ≠ b ∧ ownB h G n = some x := fun n x hx => by
    obtain ⟨B, hn, hx⟩ := ownB_some hx
    rcases hget n _ hn with ⟨_, e⟩ | ⟨hne, B', h1, rfl⟩
    · subst e; cases hx
    · refine ⟨hne, ?_⟩
      rw [ownB_of h1, ← hx]
      cases B' <;> rfl
  refine ⟨by rw [List.length_set, List.length_map]; exact hi.len, hi.z, fun c o hs => ?_, fun n B hB => ?_, fun m n x h1 h2 => hi.inj m n x (hown m x h1).2 (hown n x h2).2, hi.gl.keep hE⟩
  · rcases hS c o hs with h1 | h1
    · exact hi.S c o h1
    · exact hi.ownlt h1
  · rcases hget n B hB with ⟨rfl, rfl⟩ | ⟨hne, B', h1, rfl⟩
    · trivial
    · have hB' := hi.blk n B' h1
      have hnew : ∀ c, B'.own1 G n = some c → ∀ o, ¬ G.S c o → ¬ S c o := fun c hc o hns hq => by
        rcases hS c o hq with h2 | h2
        · exact hns h2
        · exact hne (hi.inj n b c ((ownB_of h1).trans hc) h2)
      cases B' with
      | gone => trivial
      | map kv => exact BRel.keep (G' := { G with S := S }) (hi.lt h1) hE (Nat.le_refl _) ⟨rfl, rfl, rfl⟩ (fun c hc => ⟨rfl, hnew c hc⟩) hB'
      | front e k len => exact BRel.keep (G' := { G with S := S }) (hi.lt h1) hE (Nat.le_refl _) ⟨rfl, rfl, rfl⟩ (fun c hc => ⟨rfl, hnew c hc⟩) hB'
      | cells cs' =>
        obtain ⟨c1, c2, vs', T', c3, c4, c5⟩ := hB'
        refine ⟨c1, fun o => hnew _ rfl o (c2 o), vs', T', c3, by rw [List.length_map]; exact c4, fun i u c hu hc => ?_⟩
        rw [List.getElem?_map] at hc
        cases hx : cs'[i]? with
        | none => rw [hx] at hc; cases hc
        | some x => rw [hx] at hc; cases hc; exact hv (c5 i u x hu hx)
      | lp ls p as bd cs' =>
        obtain ⟨c1, c2, fn, vs', T', c3, c4, c5⟩ := hB'
        refine ⟨c1, fun o => hnew _ rfl o (c2 o), fn, vs', T', c3, by rw [List.length_map]; exact c4, fun i u c hu hc => ?_⟩
        rw [List.getElem?_map] at hc
        cases hx : cs'[i]? with
        | none => rw [hx] at hc; cases hc
        | some x => rw [hx] at hc; cases hc; exact hv (c5 i u x hu hx)
      | it sn cs' =>
        obtain ⟨c1, c2, fn, vs', T', c3, c4, c5⟩ := hB'
        refine ⟨c1, fun o => hnew _ rfl o (c2 o), fn, vs', T', c3, by rw [List.length_map]; exact c4, fun i u c hu hc => ?_⟩
        rw [List.getElem?_map] at hc
        cases hx : cs'[i]? with
        | none => rw [hx] at hc; cases hc
        | some x => rw [hx] at hc; cases hc; exact hv (c5 i u x hu hx)
      | vec e k cs' =>
        obtain ⟨c1, c2, c3, c4⟩ := hB'
        refine ⟨by rw [List.length_map]; exact c1, by rw [List.length_map]; exact c2, fun c hc => ?_, ?_⟩
        · obtain ⟨x, hx, rfl⟩ := List.mem_map.1 hc
          rw [List.length_map]; exact c3 x hx
        · rcases c4 with ⟨d1, d2, A, d3⟩ | ⟨g, cap, cur, d1, d2, d3, d4, d5, d6, d7, d8, d9⟩
          · exact .inl ⟨d1, by rw [d2]; rfl, A, d3⟩
          · refine .inr ⟨g, cap, cur, d1, by rw [List.length_map]; exact d2, d3, d4, by rw [List.length_map]; exact d5, d6, d7, fun o => hnew g d1 o (d8 o), fun i j c x u hc hx hu => ?_⟩
            rw [List.getElem?_map] at hc
            cases hy : cs'[i]? with
            | none => rw [hy] at hc; cases hc
            | some y =>
              rw [hy] at hc
              cases hc
              rw [List.getElem?_map] at hx
              cases hw : y[j]? with
              | none => rw [hw] at hx; cases hx
              | some z => rw [hw] at hx; cases hx; exact hv (d9 i j y z u hy hw hu)
mutual
/-- a block's slices become data, wherever they lie -/
def AV.thw (b kk : Nat) (xs : List (List D)) : AV → AV
  | .vec n o len L k => bif n == b then (bif L == xs.length && k == kk then .d (.sl ((xs.drop o).take len)) else .dead) else .vec n o len L k
  | .vptr n i j L k => bif n == b then .dead else .vptr n i j L k
  | .agg cs => .agg (AV.thwL b kk xs cs)
  | .tup cs => .tup (AV.thwL b kk xs cs)
  | .fn f cs => .fn f (AV.thwL b kk xs cs)
  | x => x
def AV.thwL (b kk : Nat) (xs : List (List D)) : List AV → List AV
  | [] => []
  | x :: l => x.thw b kk xs :: AV.thwL b kk xs l
end
theorem thwL_eq (b kk : Nat) (xs : List (List D)) : ∀ l, AV.thwL b kk xs l = l.map (AV.thw b kk xs)
  | [] => by simp [AV.thwL]
  | x :: l => by simp [AV.thwL, thwL_eq b kk xs l]
theorem VRel.thw {G G' : Gh} {w : World} {b kk : Nat} {xs : List (List D)} (hE : Ext G.N G w G' w) (hN : G'.N = G.N) (hp : ∀ (u : Value) (o len : Nat), VRel G w u (.vec b o len xs.length kk) → PRel G'.S w u (.sl ((xs.drop o).take len))) {u : Value} {x : AV} (h : VRel G w u x) : VRel G' w u (x.thw b kk xs) := by
  have keep : ∀ {u : Value} {x : AV}, VRel G w u x → VRel G' w u x := fun h => h.keep hE (Nat.le_of_eq hN.symm)
  have lst : ∀ (vs : Array Value) (cs : List AV), (∀ (i : Nat) (u : Value) (c : AV), vs[i]? = some u → cs[i]? = some c → VRel G' w u (c.thw b kk xs)) → ∀ (i : Nat) (u : Value) (c : AV), vs[i]? = some u → (AV.thwL b kk xs cs)[i]? = some c → VRel G' w u c := by
    intro vs cs ih i u c hu hc
    rw [thwL_eq, List.getElem?_map] at hc
    cases hx : cs[i]? with
    | none => rw [hx] at hc; cases hc
    | some x => rw [hx] at hc; cases hc; exact ih i u x hu hx
  induction h with
  | agg vs cs hl _ ih => rw [AV.thw]; exact .agg vs _ (by rw [thwL_eq, List.length_map]; exact hl) (lst vs cs ih)
  | tup vs cs hl _ ih => rw [AV.thw]; exact .tup vs _ (by rw [thwL_eq, List.length_map]; exact hl) (lst vs cs ih)
  | fn f vs cs hl _ ih => rw [AV.thw]; exact .fn f vs _ (by rw [thwL_eq, List.length_map]; exact hl) (lst vs cs ih)
  | vec n o len L k h hs hL hf =>
    rw [AV.thw, cond_eq_ite]
    split
    · next e =>
      have e : n = b := by simpa using e
      subst e
      rw [cond_eq_ite]
      split
      · next e2 =>
        rw [Bool.and_eq_true, beq_iff_eq, beq_iff_eq] at e2
        obtain ⟨rfl, rfl⟩ := e2
        exact .d (hp _ o len (.vec n o len _ _ h hs hL hf))
      · exact .dead _
    · exact keep (.vec n o len L k h hs hL hf)
  | vptr n i j L k h hs hL hf =>
    rw [AV.thw, cond_eq_ite]
    split
    · exact .dead _
    · exact keep (.vptr n i j L k h hs hL hf)
  | ptr n off h => simp only [AV.thw]; exact keep (.ptr n off h)
  | own n xs h hp hle hf => simp only [AV.thw]; exact keep (.own n xs h hp hle hf)
  | d h => simp only [AV.thw]; exact keep (.d h)
  | elt xs i off b o u x hx hS hu => simp only [AV.thw]; exact keep (.elt xs i off b o u x hx hS hu)
  | full xs hp hf => simp only [AV.thw]; exact keep (.full xs hp hf)
  | row n off len cap k h hl hm => simp only [AV.thw]; exact keep (.row n off len cap k h hl hm)
  | mp n h => simp only [AV.thw]; exact keep (.mp n h)
  | yld n h => simp only [AV.thw]; exact keep (.yld n h)
  | hid h h1 => simp only [AV.thw]; exact keep (.hid h h1)
  | dead u => simp only [AV.thw]; exact .dead u
theorem Sat.frzVA {G : Gh} {w : World} {a : Act} {s : St} (hs : Sat G w a s) (xs : List (List D)) {b e k : Nat} (hb : s.h[b]? = some (.vec e k (liftD xs))) (hone : ∀ c ∈ xs, c.all D.oneB = true)
    : ∃ G', Ext G.N G w G' w ∧ G'.N = G.N ∧ Sat G' w a ⟨s.n, s.t.map fun p => (p.1, p.2.thw b k xs), (s.h.map (Blk.mapV (AV.thw b k xs))).set b .gone⟩ := by
  obtain ⟨L, hL⟩ : ∃ L, xs.length = L := ⟨_, rfl⟩
  have hll : (liftD xs).length = L := by unfold liftD; rw [List.length_map]; exact hL
  have hwid := vec_wid hs.inv hb
  have hxk : ∀ d ∈ xs, d.length = k := fun d hd => by
    have := hwid (d.map .d) (by unfold liftD; exact List.mem_map.2 ⟨d, hd, rfl⟩)
    rwa [List.length_map] at this
  obtain ⟨S, hS⟩ : ∃ S : Nat → Nat → Prop, S = fun c o => G.S c o ∨ (ownB s.h G b = some c ∧ o < L * k) := ⟨_, rfl⟩
  have hE : Ext G.N G w { G with S := S } w := ⟨Nat.le_refl _, fun b o h => by show S b o; rw [hS]; exact .inl h, fun _ _ _ => rfl, fun _ _ => rfl, fun _ _ => .inl ⟨rfl, rfl⟩, zsame rfl, fun _ _ => rfl, rfl, rfl, rfl, fun c o hq => by
    have hs' : S c o := hq
    rw [hS] at hs'
    rcases hs' with h | ⟨h, _⟩
    · exact .inl h
    · obtain ⟨B, hB, hb'⟩ := ownB_some h
      exact .inr ((hs.inv.blk b B hB).notZ hb')⟩
  have hpd : ∀ (u : Value) (o len : Nat), VRel G w u (.vec b o len xs.length k) → PRel S w u (.sl ((xs.drop o).take len)) := fun u o len hv0 => by
    rw [hL] at hv0
    have hvo := hv0.vecOK hs.inv hb hll
    obtain ⟨hol, ⟨A, cc, q1, q2, q3, q4, q5⟩, _⟩ := hvo
    generalize hy : (xs.drop o).take len = ys
    have hyl : ys.length = len := by rw [← hy, List.length_take, List.length_drop]; omega
    rw [q1, ← hyl]
    show PRel S w _ _
    by_cases hh0 : True
    · skip
      by_cases h0 : len = 0
      · have : ys = [] := List.eq_nil_of_length_eq_zero (by omega)
        subst this
        exact .sl A 0 0 cc 0 [] (fun _ _ => undef) (fun h => absurd rfl h) (Nat.zero_le _) q3 (fun _ h => absurd h List.not_mem_nil) (fun i j hi => absurd hi (Nat.not_lt_zero _)) (fun i j x d hx => by simp at hx)
      · obtain ⟨g, cap, s1, rfl, s3⟩ := q5 (by omega)
        obtain ⟨g', cap', cur, r1, r2, r3, r4, r5, r6, r7, r8, r9⟩ := vec_real hs.inv hb (fun e => by rw [e] at hll; simp at hll; omega)
        rw [r2] at s1
        cases s1
        have hob : ownB s.h G b = some g := (ownB_of hb).trans r1
        have hys : ∀ i, i < len → ys[i]? = xs[o + i]? := fun i hi' => by rw [← hy, List.getElem?_take_of_lt hi', List.getElem?_drop]
        have hcell : ∀ i j, i < len → j < k → o * k + i * k + j < cur.size := fun i j hi hj => by
          have := mul_lt_of (i := o + i) (k := k) (L := (liftD xs).length) (j := j) (by omega) hj
          rw [Nat.add_mul] at this
          have h2 : (liftD xs).length * k ≤ cap * k := Nat.mul_le_mul_right k (by omega)
          rw [r7]; omega
        have hval : ∀ (i j : Nat) (x : List D) (d : D), i < len → ys[i]? = some x → x[j]? = some d → VRel G w (cur.getD (o * k + i * k + j) undef) (.d d) := fun i j x d hi hx hd => by
          rw [hys i hi] at hx
          have hj : j < k := by rw [← hxk x (List.mem_of_getElem? hx)]; exact (List.getElem?_eq_some_iff.1 hd).1
          refine r9 (o + i) j (x.map .d) (.d d) _ (by unfold liftD; rw [List.getElem?_map, hx]; rfl) (by rw [List.getElem?_map, hd]; rfl) ?_
          have hc := hcell i j hi hj
          rw [show (o + i) * k + j = o * k + i * k + j by rw [Nat.add_mul]]
          simp [Array.getD, hc]
        refine .sl _ g (o * k) cc k ys (fun i j => cur.getD (o * k + i * k + j) undef) (fun _ => rfl) (by omega) q3 (fun x hx => ?_) (fun i j hi hj => ⟨?_, ?_, ?_⟩) (fun i j x d hx hd => ?_)
        · rw [← hy] at hx; exact hxk x (List.mem_of_mem_drop (List.mem_of_mem_take hx))
        · rw [hS]
          refine .inr ⟨hob, ?_⟩
          have := mul_lt_of (i := o + i) (k := k) (L := (liftD xs).length) (j := j) (by omega) hj
          rw [Nat.add_mul] at this; exact this
        · rw [cell_of_row w g _ cur e (0, 0) r4]
          have hc := hcell i j (by omega) hj
          simp [Array.getD, hc]
        · have hi' : i < len := by omega
          obtain ⟨x, hx⟩ : ∃ x, ys[i]? = some x := ⟨_, List.getElem?_eq_getElem hi⟩
          have hx2 := hx
          rw [hys i hi'] at hx2
          have hmem := List.mem_of_getElem? hx2
          obtain ⟨d, hd⟩ : ∃ d, x[j]? = some d := ⟨_, List.getElem?_eq_getElem (by rw [hxk x hmem]; exact hj)⟩
          refine (hval i j x d hi' hx hd).cellB ?_
          have h1 := hone x hmem
          rw [List.all_eq_true] at h1
          have h2 := h1 d (List.mem_of_getElem? hd)
          cases d with
          | v u => exact h2
          | sl l => rfl
        · have hi' : i < len := by rw [← hyl]; exact (List.getElem?_eq_some_iff.1 hx).1
          have := hval i j x d hi' hx hd
          generalize cur.getD (o * k + i * k + j) undef = q at this
          cases this with | d h => exact h.keep hE.S hE.cell
    · exact (hh0 trivial).elim
  have hinv := inv_drop (b := b) (f := AV.thw b k xs) hs.inv hE (fun c o hq => by rw [hS] at hq; exact hq.imp id And.left) (fun hq => hq.thw hE rfl hpd)
  have hs' : Sat { G with S := S } w a ⟨s.n, s.t.map fun p => (p.1, p.2.thw b k xs), (s.h.map (Blk.mapV (AV.thw b k xs))).set b .gone⟩ := by
    refine ⟨hs.size, fun i => ?_, hinv, hs.df⟩
    show VRel _ _ _ (tget (s.t.map fun p => (p.1, p.2.thw b k xs)) i)
    rw [tget_mapv (AV.thw b k xs) (by simp [AV.thw])]
    exact (hs.tmp i).thw hE rfl hpd
  exact ⟨_, hE, rfl, hs'⟩
end Go.Proofs.YtnedgkfefdldeaaGreatDoor

/-! AbsInst: Contracts over blocks, for functions that take pointers, maps or function values; and the words that the decompiled functions use. -/
namespace Go.Proofs.YtnedgkfefdldeaaGreatDoor
open Go.RowKit
def runRetH (P : Program) (rs : List ResultVar) (m : Nat) (s : St) : Option (AV × List Blk) :=
  match runRes P s rs with
  | some l => bif leB m s.h.length && ((tupOf l).pub m).lowB m && (((s.h.take m).map (Blk.pub m)).all (Blk.lowB m)) then some (((tupOf l).pub m).nrm, ((s.h.take m).map (Blk.pub m)).map Blk.nrmB) else none
  | none => none
def aPostH (P : Program) (fn : Func) (m : Nat) (R : AV) (H : List Blk) : Exit → St → Prop
  | .normal, s => runRetH P fn.results.toList m s = some (R, H)
  | .ret, s => runRetH P fn.results.toList m s = some (R, H)
  | _, _ => False
theorem runRetH_sound {P : Program} {s : St} {fn : Func} {m : Nat} {R : AV} {H : List Blk} (h : runRetH P fn.results.toList m s = some (R, H)) : aRet P fn m (fun r h' => r.nrm = R ∧ h'.map Blk.nrmB = H) s := by
  unfold runRetH at h
  split at h
  · next l e =>
    obtain ⟨hb, he⟩ := bif_some h
    cases he
    simp only [Bool.and_eq_true, leB_iff] at hb
    exact runRes_sound _ _ _ e ⟨hb.1.1, hb.1.2, hb.2, rfl, rfl⟩
  · cases h
theorem reth_ok {P : Program} {s : St} {fn : Func} {m : Nat} {R : AV} {H : List Blk} (h : runRetH P fn.results.toList m s = some (R, H)) : aPostH P fn m R H .ret s := h
theorem acn_of {P : Program} {f : FuncId} {fn : Func} {c : Code} {args : List AV} {h H : List Blk} {R : AV} (m : Nat) (hf : P.funcs[f]? = some fn) (hb : fn.body = some c) (hn : (fn.name == "runtime.NumGoroutine") = false) (hm : h.length ≤ m)
    (hw : AWp P none h.length c (aPostH P fn m R H) { n := args.length + (fn.ntmps - args.length), t := enumT 0 args, h := h }) : ACalls P f args h fun r1 h1 => r1 = R ∧ h1 = H := by
  have h0 := acalls_of (P := P) (f := f) (args := args) (h := h) (K := fun r h' => r.nrm = R ∧ h'.map Blk.nrmB = H) m hf hb hn hm (hw.mono fun e s hq => by
    cases e with
    | normal => exact runRetH_sound hq
    | ret => exact runRetH_sound hq
    | _ => exact hq.elim)
  refine ⟨h0.1, fun G w vs hi hl hr => (h0.2 G w vs hi hl hr).mono fun e w' hp => ?_⟩
  obtain ⟨v, G', x, h', rfl, hE, hN, hi', hv, rfl, rfl⟩ := hp
  exact ⟨v, G', x.nrm, _, rfl, hE, hN, inv_nrm hi', hv.nrm, rfl, rfl⟩
theorem aw_chg {P : Program} {r : Option Nat} {N0 : Nat} {c : Code} {s s' : St} {Q : Exit → St → Prop} (e : s = s') (h : AWp P r N0 c Q s') : AWp P r N0 c Q s := e ▸ h
def gI (g : Nat) : List Int := ((glook gtab g).getD []).map fun v => match v with | .int _ n => n | _ => 0
def sbytes (l : List Int) : ByteArray := ⟨(l.map fun n => UInt8.ofNat n.toNat).toArray⟩
end Go.Proofs.YtnedgkfefdldeaaGreatDoor
