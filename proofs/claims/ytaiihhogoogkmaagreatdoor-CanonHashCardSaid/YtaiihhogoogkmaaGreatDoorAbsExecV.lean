/-
  Closed runs: operations on slices that may be written.
-/
import Derived.Test.YtaiihhogoogkmaaGreatDoorAbsExec
namespace Go.Proofs.YtaiihhogoogkmaaGreatDoor
open Go.RowKit

/-- the block of a slice that may be written -/
def vBlk (h : List Blk) (n L k : Nat) : Option (TypeId × List (List AV)) :=
  match h[n]? with
  | some (.vec e k' cs) => bif k' == k && cs.length == L then some (e, cs) else none
  | _ => none
theorem vBlk_some {h : List Blk} {n L k : Nat} {e : TypeId} {cs : List (List AV)} (hb : vBlk h n L k = some (e, cs)) : h[n]? = some (.vec e k cs) ∧ cs.length = L := by
  unfold vBlk at hb
  split at hb
  · next e' k' cs' e1 =>
    obtain ⟨h1, h2⟩ := bif_some hb
    cases h2
    rw [Bool.and_eq_true, beq_iff_eq, beq_iff_eq] at h1
    exact ⟨by rw [e1, h1.1], h1.2⟩
  · cases hb
def xSrcV (h : List Blk) (k : Nat) (y : AV) : Option (List (List AV)) :=
  match y with
  | .vec n o len L k' => match vBlk h n L k' with
    | some (_, cs) => bif k' == k && ((cs.drop o).take len).all (fun c => c.all AV.cellB) then some ((cs.drop o).take len) else none
    | none => none
  | y => match y.list? with
    | some xs => bif allW k xs then some (liftD xs) else none
    | none => none
theorem xSrcV_sound {h : List Blk} {k : Nat} {y : AV} {ys : List (List AV)} (hx : xSrcV h k y = some ys) : srcV h k y ys := by
  unfold xSrcV at hx
  split at hx
  · next n o len L k' =>
    split at hx
    · next e cs e1 =>
      obtain ⟨h1, h2⟩ := bif_some hx
      rw [Bool.and_eq_true, beq_iff_eq] at h1
      obtain ⟨b1, b2⟩ := vBlk_some e1
      obtain ⟨rfl, h3⟩ := h1
      subst h2
      exact .inr ⟨n, o, len, L, e, cs, rfl, b1, b2, rfl, fun c hc => List.all_eq_true.1 h3 c hc⟩
    · cases hx
  · split at hx
    · next xs e =>
      obtain ⟨h1, h2⟩ := bif_some hx
      exact .inl ⟨xs, e, allW_iff h1, h2.symm⟩
    · cases hx
def xopV (P : Program) (op : Op) (ρ : Operand → AV) (h : List Blk) : Option (AV × HD) :=
  match op with
  | .indexAddr T x i => match ρ x, (ρ i).int?, elmT P T with
    | .vec n o len L k, some z, some (_, k') => match zN z, vBlk h n L k with
      | some q, some _ => bif k' == k && leB (q + 1) len then some (.vptr n (o + q) 0 L k, .same) else none
      | _, _ => none
    | _, _, _ => none
  | .fieldAddr S x f => match ρ x, fldT P S f with
    | .vptr n i j L k, some (fo, _, _) => some (.vptr n i (j + fo) L k, .same)
    | _, _ => none
  | .nilCheck x => match ρ x with
    | .vptr n i j L k => some (.vptr n i j L k, .same)
    | _ => none
  | .load t p => match ρ p with
    | .vptr n i j L k => match vBlk h n L k with
      | some (_, cs) => match cs[i]? with
        | some c => match ldC P t c j with
          | some x => some (x, .same)
          | none => none
        | none => none
      | none => none
    | _ => none
  | .store t p x => match ρ p with
    | .vptr n i j L k => match vBlk h n L k, szT P t with
      | some (e, cs), some q => match cs[i]? with
        | some c => bif q == (ρ x).cells.length && (ρ x).boxB && leB (j + (ρ x).cells.length) k && leB 1 k then some (.d (.v undef), .set n (.vec e k (cs.set i (splice c j (ρ x).cells)))) else none
        | none => none
      | _, _ => none
    | _ => none
  | .slice T x lo hi none => match ρ x, elmT P T with
    | .vec n o len L k, some (_, k') => match xInt ρ len hi, xInt ρ 0 lo, vBlk h n L k with
      | some u, some l, some _ => bif k' == k && leB l u && leB (o + u) L then some (.vec n (o + l) (u - l) L k, .same) else none
      | _, _, _ => none
    | _, _ => none
  | .makeSlice T l c => match elmT P T, (ρ l).int?, (ρ c).int? with
    | some (e, k), some l, some c => match zeroT P e, byT P e with
      | some z, some by_ => match zN l, zN c with
        | some len, some m => bif leB 1 k && z.cells.toList.length == k && z.cells.toList.all Value.oneCell' && leB len m && leB m maxLen && leB (by_ * m) 281474976710656 then some (.vec h.length 0 len m k, .push (.vec e k (List.replicate m (z.cells.toList.map fun u => .d (.v u))))) else none
        | _, _ => none
      | _, _ => none
    | _, _, _ => none
  | .call c => match c.callee with
    | .builtin .len => match c.args.toList, c.argTypes.toList with
      | [x], [T] => match ρ x with
        | .vec n _ len L k => match vBlk h n L k with
          | some _ => bif (elmT P T).isSome then some (.d (.v (.int .i64 len)), .same) else none
          | none => none
        | _ => none
      | _, _ => none
    | .builtin .append => match c.args.toList, c.argTypes.toList with
      | [x, y], [T, U] => match elmT P T, elmT P U, ρ x with
        | some (e, k), some _, .vec n o len L k1 => match zeroT P e, byT P e with
          | some z, some by_ => match vBlk h n L k1, xSrcV h k (ρ y) with
            | some (e1, cs), some ys => bif leB 1 k && z.cells.toList.length == k && k1 == k && e1 == e then
                bif leB (o + len + ys.length) L then some (.vec n o (len + ys.length) L k, .set n (.vec e k (cs.take (o + len) ++ ys ++ cs.drop (o + len + ys.length))))
                else bif o == 0 && len == L && leB (L + ys.length) maxLen && leB ((L + ys.length) * by_) 140737488355328 then some (.vec n o (len + ys.length) (L + ys.length) k, .set n (.vec e k (cs ++ ys))) else none
              else none
            | _, _ => none
          | _, _ => none
        | _, _, _ => none
      | _, _ => none
    | _ => none
  | _ => none
theorem optI_x {ρ : Operand → AV} {d n : Nat} {x : Option Operand} (h : xInt ρ d x = some n) : ∃ z, optI ρ d x = some z ∧ 0 ≤ z ∧ z.toNat = n := by
  cases x with
  | none => cases h; exact ⟨d, rfl, Int.natCast_nonneg _, rfl⟩
  | some y =>
    unfold xInt at h
    simp only at h
    split at h
    · next z e => exact ⟨z, e, zN_some h⟩
    · cases h
theorem xopV_sound {P : Program} {op : Op} {ρ : Operand → AV} {h : List Blk} {x : AV} {d : HD} (h1 : xopV P op ρ h = some (x, d)) : ∃ a p, opV P op ρ h a = some (x, d.app h, p) ∧ p := by
  unfold xopV at h1
  split at h1
  · next T y i =>
    split at h1
    · next n o len L k z e k' e1 e2 e3 =>
      split at h1
      · next q b f1 f2 =>
        obtain ⟨hb, he⟩ := bif_some h1
        cases he
        rw [Bool.and_eq_true, leB_iff] at hb
        obtain ⟨e5, cs⟩ := b
        obtain ⟨b1, b2⟩ := vBlk_some f2
        obtain ⟨z0, z1⟩ := zN_some f1
        refine ⟨.ix (o + q), _, by simp only [opV, e1, e2, e3, b1, hb.1, beq_self_eq_true, Bool.and_self, cond_true]; rfl, ?_⟩
        exact ⟨b2, z0, by omega, by rw [z1]⟩
      · cases h1
    · cases h1
  · next S y f =>
    split at h1
    · next e1 e2 => cases h1; exact ⟨.no, _, by simp only [opV, e1, e2]; rfl, trivial⟩
    · cases h1
  · next y =>
    split at h1
    · next e1 => cases h1; exact ⟨.no, _, by simp only [opV, e1]; rfl, trivial⟩
    · cases h1
  · next t p =>
    split at h1
    · next n i j L k e1 =>
      split at h1
      · next e cs f1 =>
        obtain ⟨b1, b2⟩ := vBlk_some f1
        split at h1
        · next c f2 =>
          split at h1
          · next y f3 => cases h1; refine ⟨.el c, _, by simp only [opV, e1, b1, f3, beq_self_eq_true, cond_true]; rfl, ?_⟩; exact ⟨b2, f2⟩
          · cases h1
        · cases h1
      · cases h1
    · cases h1
  · next t p y =>
    split at h1
    · next n i j L k e1 =>
      split at h1
      · next e cs q f1 f2 =>
        obtain ⟨b1, b2⟩ := vBlk_some f1
        split at h1
        · next c f3 =>
          obtain ⟨hb, he⟩ := bif_some h1
          cases he
          simp only [Bool.and_eq_true] at hb
          refine ⟨.st c (cs.set i (splice c j (ρ y).cells)), _, by simp only [opV, e1, b1, f2, beq_self_eq_true, hb.1.1.1, hb.1.1.2, hb.1.2, hb.2, Bool.and_self, cond_true]; rfl, ?_⟩
          exact ⟨b2, f3, (by first | rfl | trivial)⟩
        · cases h1
      · cases h1
    · cases h1
  · next T y lo hi =>
    split at h1
    · next n o len L k e k' e1 e2 =>
      split at h1
      · next u l b f1 f2 f3 =>
        obtain ⟨hb, he⟩ := bif_some h1
        cases he
        simp only [Bool.and_eq_true, leB_iff] at hb
        obtain ⟨e5, cs⟩ := b
        obtain ⟨b1, b2⟩ := vBlk_some f3
        obtain ⟨zu, u1, u2, u3⟩ := optI_x f1
        obtain ⟨zl, l1, l2, l3⟩ := optI_x f2
        have l1' : optI ρ 0 lo = some zl := l1
        refine ⟨.ol (o + l) (u - l), _, by simp only [opV, e1, e2, l1', u1, b1, hb.1.1, beq_self_eq_true, Bool.and_self, cond_true]; rfl, ?_⟩
        exact ⟨b2, l2, by omega, by omega, by rw [l3], by rw [l3, u3]⟩
      · cases h1
    · cases h1
  · next T l c =>
    split at h1
    · next e k zl zc e1 e2 e3 =>
      split at h1
      · next z by_ f1 f2 =>
        split at h1
        · next len m g1 g2 =>
          obtain ⟨hb, he⟩ := bif_some h1
          cases he
          simp only [Bool.and_eq_true, leB_iff] at hb
          obtain ⟨l1, l2⟩ := zN_some g1
          obtain ⟨c1, c2⟩ := zN_some g2
          refine ⟨.mk (List.replicate m (z.cells.toList.map fun u => .d (.v u))) len m, _, by simp only [opV, e1, e2, e3, f1, f2, leB_iff.2 hb.1.1.1.1.1, hb.1.1.1.1.2, hb.1.1.1.2, Bool.and_self, cond_true]; rfl, ?_⟩
          exact ⟨l1, by omega, l2, c2, (by first | rfl | trivial), hb.1.2, hb.2⟩
        · cases h1
      · cases h1
    · cases h1
  · next c =>
    split at h1
    · next hc =>
      split at h1
      · next y T e1 e2 =>
        split at h1
        · next n o len L k f1 =>
          split at h1
          · next b f2 =>
            obtain ⟨e5, cs⟩ := b
            obtain ⟨b1, b2⟩ := vBlk_some f2
            obtain ⟨hb, he⟩ := bif_some h1
            cases he
            refine ⟨.no, _, by simp only [opV, hc, e1, e2, f1, b1, hb, beq_self_eq_true, Bool.and_self, cond_true]; rfl, ?_⟩
            exact b2
          · cases h1
        · cases h1
      · cases h1
    · next hc =>
      split at h1
      · next y z T U e1 e2 =>
        split at h1
        · next e k eU n o len L k1 f1 f2 f3 =>
          split at h1
          · next zz by_ g1 g2 =>
            split at h1
            · next e5 cs ys i1 i2 =>
              obtain ⟨b1, b2⟩ := vBlk_some i1
              obtain ⟨hb, h1⟩ := bif_pos h1
              simp only [Bool.and_eq_true, leB_iff, beq_iff_eq] at hb
              obtain ⟨⟨⟨hb1, hb2⟩, rfl⟩, rfl⟩ := hb
              have hs := xSrcV_sound i2
              rcases bif_or h1 with ⟨hl, h1⟩ | ⟨hl, h1⟩
              · cases h1
                rw [leB_iff] at hl
                refine ⟨.ap (cs.take (o + len) ++ ys ++ cs.drop (o + len + ys.length)) ys L (len + ys.length), _, by simp only [opV, hc, e1, e2, f1, f2, f3, g1, g2, b1, leB_iff.2 hb1, hb2, beq_self_eq_true, Bool.and_self, cond_true]; rfl, ?_⟩
                exact ⟨b2, hs, (by first | rfl | trivial), .inl ⟨hl, (by first | rfl | trivial), (by first | rfl | trivial)⟩⟩
              · obtain ⟨hb, he⟩ := bif_some h1
                cases he
                simp only [Bool.and_eq_true, leB_iff, beq_iff_eq] at hb
                obtain ⟨⟨⟨rfl, rfl⟩, hb5⟩, hb6⟩ := hb
                refine ⟨.ap (cs ++ ys) ys (len + ys.length) (len + ys.length), _, by simp only [opV, hc, e1, e2, f1, f2, f3, g1, g2, b1, leB_iff.2 hb1, hb2, beq_self_eq_true, Bool.and_self, cond_true]; rfl, ?_⟩
                exact ⟨b2, hs, (by first | rfl | trivial), .inr ⟨(by first | rfl | trivial), (by first | rfl | trivial), (by first | rfl | trivial), (by first | rfl | trivial), hb5, hb6⟩⟩
            · cases h1
          · cases h1
        · cases h1
      · cases h1
    · cases h1
  · cases h1
end Go.Proofs.YtaiihhogoogkmaaGreatDoor
