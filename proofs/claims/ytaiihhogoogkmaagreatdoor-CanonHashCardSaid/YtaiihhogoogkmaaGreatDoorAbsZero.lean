/-
  Operations on the nil slice: its capacity, a part of it, an append of new elements.
-/
import Derived.Test.YtaiihhogoogkmaaGreatDoorAbsLoop
import Derived.Lib.AppendZeros
namespace Go.Proofs.YtaiihhogoogkmaaGreatDoor
open Go.RowKit Go.Lib

def AV.isNil : AV → Bool
  | .d (.v (.slice none 0 0)) => true
  | _ => false
theorem isNil_eq {x : AV} (h : x.isNil = true) : x = .d (.v (.slice none 0 0)) := by
  unfold AV.isNil at h
  split at h
  · rfl
  · cases h
def opZ (P : Program) (op : Op) (ρ : Operand → AV) (h : List Blk) : Option (AV × List Blk) :=
  match op with
  | .slice T x lo hi none => match elmT P T, optI ρ 0 lo, optI ρ 0 hi with
    | some _, some 0, some 0 => bif (ρ x).isNil then some (.d (.v (.slice none 0 0)), h) else none
    | _, _, _ => none
  | .call c => match c.callee with
    | .builtin .cap => match c.args.toList, c.argTypes.toList with
      | [x], [T] => bif (ρ x).isNil && (elmT P T).isSome then some (.d (.v (.int .i64 0)), h) else none
      | _, _ => none
    | .builtin .append => match c.args.toList, c.argTypes.toList with
      | [x, y], [T, U] => match elmT P T, intT P U, ρ y with
        | some (e, k), some _, .d (.v (.int _ (.ofNat m))) => match zeroT P e, byT P e with
          | some z, some by_ => bif (ρ x).isNil && leB 1 m && leB 1 k && z.cells.toList.length == k && leB m maxLen && leB (m * by_) 140737488355328 then some (.vec h.length 0 m m k, h ++ [.vec e k (List.replicate m (z.cells.toList.map fun u => .d (.v u)))]) else none
          | _, _ => none
        | _, _, _ => none
      | _, _ => none
    | _ => none
  | _ => none
section
variable {P : Program} {r : Option Nat} {n N0 : Nat} {G : Gh} {w : World} {a : Act} {s : St} {o : Oper} {K : St → Prop} {Q : Exit → Act → World → Prop}
theorem run_cap_op {x : Operand} {T : TypeId} (c : Call) (hc : c.callee = .builtin .cap) (h1 : c.args.toList = [x]) (h2 : c.argTypes.toList = [T]) (ho : o.op = .call c) :
    (execOp a.eval o).run P w = ((Builtin.cap_ #[T] o.type #[a.eval x]).run P w).andThen fun v w' => .ok (.value v) w' := by
  have e1 : c.args = #[x] := by rw [← Array.toList_inj]; exact h1
  have e2 : c.argTypes = #[T] := by rw [← Array.toList_inj]; exact h2
  unfold execOp
  simp only [ho, resolve, hc, e1, e2, invoke, builtin, Sem.run_bind, Sem.run_pure, Result.andThen_ok, List.map_toArray, List.map_cons, List.map_nil]
theorem zero_isInt (hs : Sat G w a s) {x : Option Operand} (h : optI (ev s) 0 x = some 0) : isInt a x 0 0 := by
  cases x with
  | none => rfl
  | some y => exact optI_isInt (d := 0) hs h (Int.le_refl _)
theorem opZ_sound {x : AV} {h' : List Blk} (hs : Sat G w a s) (hN0 : N0 ≤ G.N) (hx : opZ P o.op (ev s) s.h = some (x, h')) (hK : K ((s.wh h').put o.dst x)) : o.wpIn (WF r) n P a w (NxT N0 G w K) Q := by
  have hev := hs.ev
  have nil : ∀ {y : Operand}, (ev s y).isNil = true → a.eval y = .slice none 0 0 := fun {y} h => by
    have := hev y
    rw [isNil_eq h] at this
    exact this.val
  unfold opZ at hx
  split at hx
  next T y lo hi ho =>
    split at hx
    · next ek e1 e2 e3 =>
      obtain ⟨hb, he⟩ := bifS hx
      cases he
      obtain ⟨hT1, hT2⟩ := elmT_spec e1
      refine fin_same (by rw [ho]; simp) hs hN0 (v := .slice none 0 0) ?_ (.d (.v _)) hK
      have hb2 := run_bounds2 (P := P) (isS := true) (zero_isInt hs e2) (zero_isInt hs e3) (Nat.le_refl _) (Nat.le_refl 0) w
      unfold execOp
      simp [ho, nil hb, Instr.sliceAt, Instr.slice, run_underlying hT1, hb2, run_szT hT2]
    · cases hx
  next c ho =>
    split at hx
    · next hc =>
      split at hx
      · next y T e1 e2 =>
        obtain ⟨hb, he⟩ := bifS hx
        cases he
        rw [Bool.and_eq_true] at hb
        cases hT : elmT P T with
        | none => rw [hT] at hb; cases hb.2
        | some ek =>
          obtain ⟨hT1, hT2⟩ := elmT_spec hT
          refine fin_same (by rw [ho]; simp) hs hN0 (v := .int .i64 0) ?_ (.d (.v _)) hK
          rw [run_cap_op c hc e1 e2 ho, nil hb.1]
          simp [Builtin.cap_, run_underlying hT1, goInt]
      · cases hx
    · next hc =>
      split at hx
      · next y z T U e1 e2 =>
        split at hx
        · next e k kn kq m f1 f2 f3 =>
          split at hx
          · next zz by_ g1 g2 =>
            obtain ⟨hb, he⟩ := bifS hx
            cases he
            simp only [Bool.and_eq_true, leB_iff, beq_iff_eq] at hb
            obtain ⟨⟨⟨⟨⟨hb1, hb2⟩, hb3⟩, hb4⟩, hb5⟩, hb6⟩ := hb
            clear hx
            obtain ⟨hT1, hT2⟩ := elmT_spec f1
            obtain ⟨i, hinf, hi1⟩ : ∃ i, P.info? e = some i ∧ i.size = k := by
              unfold szT at hT2
              cases hq : P.info? e with
              | none => rw [hq] at hT2; cases hT2
              | some i => rw [hq] at hT2; exact ⟨i, rfl, Option.some.inj hT2⟩
            have hz : i.zero = some zz := by unfold zeroT at g1; rw [hinf] at g1; exact g1
            have hbt : i.bytes = by_ := by unfold byT at g2; rw [hinf] at g2; exact Option.some.inj g2
            subst hi1
            subst hbt
            have hy := hev z
            rw [f3] at hy
            have ey : a.eval z = .int kq (m : Nat) := hy.val
            have hrun := run_append_nil_zeros (P := P) w T U o.type e i zz kq kn hT1 (intT_spec f2) hinf hz m (by omega) (by omega) (by have := hb5; simp [maxLen] at this; omega) (by omega)
            have hzz : zz.cells.size = i.size := by rw [← Array.length_toList]; exact hb4
            have hcl : (List.replicate m (zz.cells.toList.map fun u => AV.d (.v u))).length = m := List.length_replicate
            obtain ⟨cap, hcap⟩ : ∃ cap, cap = grownCap w m 0 e := ⟨_, rfl⟩
            have hge : m ≤ cap := by rw [hcap]; exact grownCap_ge _ _ _ _
            have hle : cap ≤ maxLen := by rw [hcap]; exact grownCap_le_maxLen _ _ _ _ hb5
            rw [← hcap] at hrun
            obtain ⟨cur, hcur⟩ : ∃ cur, cur = Builtin.zeroCells zz.cells m ++ Builtin.zeroCells zz.cells (cap - m) := ⟨_, rfl⟩
            rw [← hcur] at hrun
            have hcs : cur.size = cap * i.size := by
              rw [hcur, Array.size_append, size_zeroCells, size_zeroCells, hzz, ← Nat.add_mul]
              congr 1
              omega
            obtain ⟨G', q1, q2, q3, q4⟩ := vec_fresh (e := e) (k := i.size) (cap := cap) (cs := List.replicate m (zz.cells.toList.map fun u => AV.d (.v u))) (cur := cur) hs.inv (by rw [hcl]; exact hge) hle hcs (fun c hc => by
              rw [List.eq_of_mem_replicate hc, List.length_map]; exact hb4) w.drew ⟨rfl, rfl, rfl, rfl⟩ (fun a' b c x u hc hx hu => by
              have := List.eq_of_mem_replicate (List.mem_of_getElem? hc)
              subst this
              rw [List.getElem?_map] at hx
              cases hq : zz.cells.toList[b]? with
              | none => rw [hq] at hx; cases hx
              | some y =>
                rw [hq] at hx
                cases hx
                have hbk : b < i.size := by rw [← hb4]; exact (List.getElem?_eq_some_iff.1 hq).1
                have ham : a' < m := by have := (List.getElem?_eq_some_iff.1 hc).1; rwa [hcl] at this
                have hlt : a' * i.size + b < m * i.size := mul_lt_of ham hbk
                rw [hcur, Array.getElem?_append_left (by rw [size_zeroCells, hzz]; exact hlt)] at hu
                unfold Builtin.zeroCells at hu
                rw [Array.getElem?_map, Array.getElem?_range, hzz, if_pos hlt] at hu
                simp only [Option.map_some, Option.some.injEq] at hu
                rw [(divmod_of (i := a') hbk).2] at hu
                have hq2 : zz.cells[b]? = some y := by rw [← Array.getElem?_toList]; exact hq
                rw [getElem!_pos zz.cells b (by rw [hzz]; exact hbk)] at hu
                rw [Array.getElem?_eq_getElem (by rw [hzz]; exact hbk)] at hq2
                cases hq2
                subst hu
                exact .d (.v _))
            rw [hcl] at q4
            refine fin_val (by rw [ho]; simp) hs hN0 (by rw [run_append_op c hc e1 e2 ho, nil hb1, ey, hrun]; rfl) q1 q2 q3 (q4 m (Nat.le_refl _)) hK
          · cases hx
        · cases hx
      · cases hx
    · cases hx
  next => cases hx
end
end Go.Proofs.YtaiihhogoogkmaaGreatDoor
