/-
  Closed runs of the small language: an interpreter that the kernel works out, and why it may be believed.
-/
import Derived.Test.YtaiihhogoogkmaaGreatDoorAbsInst
namespace Go.Proofs.YtaiihhogoogkmaaGreatDoor
open Go.RowKit

theorem bif_or {α : Type} {c : Bool} {x y z : α} (h : (bif c then x else y) = z) : (c = true ∧ x = z) ∨ (c = false ∧ y = z) := by
  cases c with
  | true => exact .inl ⟨rfl, h⟩
  | false => exact .inr ⟨rfl, h⟩
/-- what an operation does to the blocks -/
inductive HD
  | same
  | push (B : Blk)
  | set (n : Nat) (B : Blk)
def HD.app : HD → List Blk → List Blk
  | .same, h => h
  | .push B, h => h ++ [B]
  | .set n B, h => h.set n B
def HD.okB (lo : Nat) : HD → Bool
  | .set n _ => leB lo n
  | _ => true
def zN : Int → Option Nat
  | .ofNat n => some n
  | .negSucc _ => none
theorem zN_some {z : Int} {n : Nat} (h : zN z = some n) : 0 ≤ z ∧ z.toNat = n := by
  cases z with
  | ofNat m => cases h; exact ⟨Int.natCast_nonneg _, rfl⟩
  | negSucc m => cases h
def xInt (ρ : Operand → AV) (d : Nat) : Option Operand → Option Nat
  | none => some d
  | some y => match (ρ y).int? with
    | some z => zN z
    | none => none
theorem xInt_sound {ρ : Operand → AV} {d n : Nat} {x : Option Operand} {K : Nat → Prop} (h : xInt ρ d x = some n) (hK : K n) : optInt ρ x d K := by
  cases x with
  | none => cases h; exact hK
  | some y =>
    unfold xInt at h
    unfold optInt
    simp only at h ⊢
    split at h
    · next z e =>
      obtain ⟨h0, h1⟩ := zN_some h
      simp only [e]
      exact ⟨h0, by rw [h1]; exact hK⟩
    · cases h
def allW (k : Nat) (xs : List (List D)) : Bool := xs.all fun c => c.length == k
theorem allW_iff {k : Nat} {xs : List (List D)} (h : allW k xs = true) : ∀ c ∈ xs, c.length = k := fun c hc => by
  have := List.all_eq_true.1 h c hc
  simpa using this
def xIndexAddr (P : Program) (T : TypeId) (x i : AV) : Option AV :=
  match elmT P T with
  | some (_, k) => match x with
    | .row n off len _ k' => match i.int? with
      | some z => match zN z with
        | some q => bif k' == k && leB (q + 1) len then some (.ptr n (off + q * k)) else none
        | none => none
      | none => none
    | x => match x.list?, i.int? with
      | some xs, some z => match zN z with
        | some q => match xs[q]? with
          | some c => bif c.length == k then some (.elt [c] 0 0) else none
          | none => none
        | none => none
      | _, _ => none
  | none => match arrT P T, x, i.int? with
    | some (n, _, k), .ptr b off, some z => match zN z with
      | some q => bif leB (q + 1) n then some (.ptr b (off + q * k)) else none
      | none => none
    | some (n, _, k), .elt xs e off, some z => match zN z with
      | some q => bif k == 1 && leB (q + 1) n then match xs[e]? with
        | some c => match c[off + q]? with
          | some d => some (.elt [[d]] 0 0)
          | none => none
        | none => none
        else none
      | none => none
    | _, _, _ => none
theorem xIndexAddr_sound {P : Program} {T : TypeId} {x i y : AV} {K : AV → Prop} (h : xIndexAddr P T x i = some y) (hK : K y) : aIndexAddr P T x i K := by
  unfold xIndexAddr at h
  unfold aIndexAddr
  split at h
  · next e k eT =>
    simp only [eT]
    split at h
    · next n off len cap k' =>
      simp only
      split at h
      · next z ez =>
        simp only [ez]
        split at h
        · next q eq =>
          obtain ⟨h0, h1⟩ := zN_some eq
          obtain ⟨hb, he⟩ := bif_some h
          rw [Bool.and_eq_true, leB_iff] at hb
          refine chk_iff.2 ⟨hb.1, h0, by omega, ?_⟩
          rw [h1, he]; exact hK
        · cases h
      · cases h
    · next x' hx' =>
      split at h
      · next xs z e1 e2 =>
        split at h
        · next q eq =>
          obtain ⟨h0, h1⟩ := zN_some eq
          split at h
          · next c ec =>
            obtain ⟨hb, he⟩ := bif_some h
            simp only [e1, e2]
            refine ⟨h0, ?_⟩
            rw [h1, ec]
            exact ⟨by simpa using hb, by rw [he]; exact hK⟩
          · cases h
        · cases h
      · cases h
  · next eT =>
    simp only [eT]
    split at h
    · next n e k b off z e1 e2 =>
      simp only [e1, e2]
      split at h
      · next q eq =>
        obtain ⟨h0, h1⟩ := zN_some eq
        obtain ⟨hb, he⟩ := bif_some h
        rw [leB_iff] at hb
        exact ⟨h0, by omega, by rw [h1, he]; exact hK⟩
      · cases h
    · next n e0 k xs e off z e1 e2 =>
      simp only [e1, e2]
      split at h
      · next q eq =>
        obtain ⟨h0, h1⟩ := zN_some eq
        obtain ⟨hb, h⟩ := bif_pos h
        rw [Bool.and_eq_true, leB_iff] at hb
        split at h
        · next c ec =>
          split at h
          · next d ed =>
            cases h
            refine chk_iff.2 ⟨hb.1, h0, by omega, ?_⟩
            rw [ec]
            simp only
            rw [h1, ed]
            exact hK
          · cases h
        · cases h
      · cases h
    · cases h
def xSlice (P : Program) (T : TypeId) (ρ : Operand → AV) (x : AV) (lo hi mx : Option Operand) : Option AV :=
  match mx with
  | none =>
    match x with
    | .d (.v (.string b)) => match xInt ρ b.size hi, xInt ρ 0 lo with
      | some h, some l => bif strT P T && leB h b.size && leB l h then some (.d (.v (.string (b.extract l h)))) else none
      | _, _ => none
    | .ptr n off => match arrT P T with
      | some (m, _, k) => match xInt ρ m hi, xInt ρ 0 lo with
        | some h, some l => bif leB m 4096 && leB h m && (leB l h && !leB m l) then some (.row n (off + l * k) (h - l) (m - l) k) else none
        | _, _ => none
      | none => none
    | x => match x.list?, elmT P T with
      | some xs, some (_, k) => match xInt ρ xs.length hi, xInt ρ 0 lo with
        | some h, some l => bif allW k xs && leB h xs.length && leB l h then some (.d (.sl ((xs.take h).drop l))) else none
        | _, _ => none
      | _, _ => none
  | some m => match lo, hi with
    | none, some y => match x.list?, elmT P T with
      | some xs, some (_, k) => match xInt ρ 0 (some m), xInt ρ 0 (some y) with
        | some c, some h => bif allW k xs && leB c xs.length && h == c then some (.full (xs.take h)) else none
        | _, _ => none
      | _, _ => none
    | _, _ => none
theorem xSlice_sound {P : Program} {T : TypeId} {ρ : Operand → AV} {x y : AV} {lo hi mx : Option Operand} {K : AV → Prop} (h : xSlice P T ρ x lo hi mx = some y) (hK : K y) : aSlice P T ρ x lo hi mx K := by
  unfold xSlice at h
  unfold aSlice
  split at h
  · simp only
    split at h
    · next b =>
      simp only
      split at h
      · next u l e1 e2 =>
        obtain ⟨hb, he⟩ := bif_some h
        rw [Bool.and_eq_true, Bool.and_eq_true, leB_iff, leB_iff] at hb
        exact chk_iff.2 ⟨hb.1.1, xInt_sound e1 ⟨hb.1.2, xInt_sound e2 ⟨hb.2, by rw [he]; exact hK⟩⟩⟩
      · cases h
    · next n off =>
      simp only
      split at h
      · next m e k eT =>
        simp only [eT]
        split at h
        · next u l e1 e2 =>
          generalize leB m 4096 = q4 at h ⊢
          obtain ⟨hb, he⟩ := bif_some h
          rw [Bool.and_eq_true, Bool.and_eq_true] at hb
          exact chk_iff.2 ⟨hb.1.1, xInt_sound e1 (chk_iff.2 ⟨hb.1.2, xInt_sound e2 (chk_iff.2 ⟨hb.2, by rw [he]; exact hK⟩)⟩)⟩
        · cases h
      · cases h
    · next x' _ _ =>
      split at h
      · next xs e k eL eT =>
        simp only [eL, eT]
        split at h
        · next u l e1 e2 =>
          obtain ⟨hb, he⟩ := bif_some h
          rw [Bool.and_eq_true, Bool.and_eq_true, leB_iff, leB_iff] at hb
          exact ⟨allW_iff hb.1.1, xInt_sound e1 ⟨hb.1.2, xInt_sound e2 ⟨hb.2, by rw [he]; exact hK⟩⟩⟩
        · cases h
      · cases h
  · next m =>
    simp only
    split at h
    · next y' =>
      simp only
      split at h
      · next xs e k eL eT =>
        simp only [eL, eT]
        split at h
        · next c u e1 e2 =>
          obtain ⟨hb, he⟩ := bif_some h
          rw [Bool.and_eq_true, Bool.and_eq_true, leB_iff, beq_iff_eq] at hb
          exact ⟨allW_iff hb.1.1, xInt_sound e1 ⟨hb.1.2, xInt_sound e2 ⟨hb.2, by rw [he]; exact hK⟩⟩⟩
        · cases h
      · cases h
    · cases h
def xAppend (P : Program) (T : TypeId) (h : List Blk) (x y : AV) : Option (AV × HD) :=
  match elmT P T with
  | some (e, k) => match zeroT P e, byT P e with
    | some z, some by_ => match rSrc h k y with
      | some ys => bif leB 1 k && z.cells.toList.length == k && allW k ys then
        match x with
        | .own n xs => match h[n]? with
          | some (.front e' k' len) => bif e' == e && k' == k && len == xs.length && allW k xs && leB (xs.length + ys.length) maxLen && leB ((xs.length + ys.length) * by_) 140737488355328 then some (.own n (xs ++ ys), .set n (.front e k (xs.length + ys.length))) else none
          | _ => none
        | .d (.v (.slice none 0 0)) => bif leB ys.length maxLen && leB (ys.length * by_) 140737488355328 then some (.own h.length ys, .push (.front e k ys.length)) else none
        | .full xs => bif allW k xs && leB (xs.length + ys.length) maxLen && leB ((xs.length + ys.length) * by_) 140737488355328 then some (.own h.length (xs ++ ys), .push (.front e k (xs.length + ys.length))) else none
        | _ => none
        else none
      | none => none
    | _, _ => none
  | none => none
theorem xAppend_sound {P : Program} {T : TypeId} {h : List Blk} {x y r : AV} {d : HD} {K : AV → List Blk → Prop} (h1 : xAppend P T h x y = some (r, d)) (hK : K r (d.app h)) : aAppend P T h x y K := by
  unfold xAppend at h1
  unfold aAppend
  split at h1
  · next e k eT =>
    simp only [eT]
    split at h1
    · next z by_ e1 e2 =>
      simp only [e1, e2]
      split at h1
      · next ys e3 =>
        obtain ⟨hb, h1⟩ := bif_pos h1
        rw [Bool.and_eq_true] at hb
        refine chk_iff.2 ⟨hb.1, rSrc_sound e3 (allW_iff hb.2) ?_⟩
        split at h1
        · next n xs =>
          simp only
          split at h1
          · next e' k' len e4 =>
            obtain ⟨hc, he⟩ := bif_some h1
            cases he
            simp only [Bool.and_eq_true, leB_iff, beq_iff_eq] at hc
            simp only [e4]
            obtain ⟨⟨⟨⟨⟨c1, c2⟩, c3⟩, c4⟩, c5⟩, c6⟩ := hc
            exact chk_iff.2 ⟨by rw [c1, c2]; simp, c3, allW_iff c4, c5, c6, hK⟩
          · cases h1
        · obtain ⟨hc, he⟩ := bif_some h1
          cases he
          simp only [Bool.and_eq_true, leB_iff] at hc
          exact ⟨hc.1, hc.2, hK⟩
        · obtain ⟨hc, he⟩ := bif_some h1
          cases he
          simp only [Bool.and_eq_true, leB_iff] at hc
          exact ⟨allW_iff hc.1.1, hc.1.2, hc.2, hK⟩
        · cases h1
      · cases h1
    · cases h1
  · cases h1
def decB : List (List D) → Option (List Int)
  | [] => some []
  | [.v (.int .u8 n)] :: l => match decB l with
    | some ns => some (n :: ns)
    | none => none
  | _ => none
theorem decB_some : ∀ (xs : List (List D)) (ns : List Int), decB xs = some ns → xs = ns.map fun n => [.v (.int .u8 n)]
  | [], ns, h => by unfold decB at h; cases h; rfl
  | x :: l, ns, h => by
    unfold decB at h
    split at h
    · next e => cases e
    · next n l' e =>
      cases e
      split at h
      · next ms em => cases h; rw [decB_some _ ms em]; rfl
      · cases h
    · cases h
def inX : Option (AV × In) → Option AV
  | some (x, .none) => some x
  | some (x, .nz b) => bif b == 0 then none else some x
  | some (x, .nn b) => match zN b with
    | some _ => some x
    | none => none
  | some (x, .cat n) => bif leB n maxLen then some x else none
  | _ => none
theorem inX_some {r : Option (AV × In)} {x : AV} (P : Program) (h : inX r = some x) : ∃ i, r = some (x, i) ∧ OK P i .ok := by
  unfold inX at h
  split at h
  · cases h; exact ⟨_, rfl, .none⟩
  · next b =>
    cases hb : b == 0 with
    | true => rw [hb] at h; cases h
    | false => rw [hb] at h; cases h; exact ⟨_, rfl, .nz (by simpa using hb)⟩
  · next b =>
    split at h
    · next e => cases h; exact ⟨_, rfl, .nn (zN_some e).1⟩
    · cases h
  · obtain ⟨hb, he⟩ := bif_some h
    cases he
    exact ⟨_, rfl, .cat (leB_iff.1 hb)⟩
  · cases h
def pX (r : Option AV) : Option (AV × HD) :=
  match r with
  | some x => some (x, .same)
  | none => none
def xConv (P : Program) (src dst : TypeId) (x : AV) : Option AV :=
  match rConv P src dst x .none with
  | some (y, .none) => some y
  | _ => match x.list?, elmT P src with
    | some xs, some (e, _) => match decB xs with
      | some ns => match x with
        | .d (.v _) => none
        | _ => bif u8T P e && strT P dst then some (.d (.v (.string (sbytes ns)))) else none
      | none => none
    | _, _ => none
theorem xConv_sound {P : Program} {src dst : TypeId} {x y : AV} {K : AV → Prop} (h : xConv P src dst x = some y) (hK : K y) : aConv P src dst x K := by
  unfold xConv at h
  split at h
  · next e => cases h; exact rConv_sound (a := .none) e .none hK
  · split at h
    · next xs e k e1 e2 =>
      split at h
      · next ns e3 =>
        split at h
        · cases h
        · next hx =>
          obtain ⟨hb, he⟩ := bif_some h
          unfold aConv
          split
          · next n => exact absurd rfl (hx _)
          · next b => exact absurd rfl (hx _)
          · simp only [e1, e2]
            exact chk_iff.2 ⟨hb, ns, decB_some _ _ e3, by subst he; exact hK⟩
      · cases h
    · cases h
def xop (P : Program) (op : Op) (ρ : Operand → AV) (h : List Blk) : Option (AV × HD) :=
  match op with
  | .move x | .assign x => some (ρ x, .same)
  | .pick c x y => match ρ c with
    | .d (.v (.bool b)) => some (bif b then ρ x else ρ y, .same)
    | _ => none
  | .alloc e => match zeroT P e with
    | some z => some (.ptr h.length 0, .push (.cells (z.cells.toList.map fun u => .d (.v u))))
    | none => none
  | .box _ x => bif (ρ x).boxB then some (.ptr h.length 0, .push (.cells (ρ x).cells)) else none
  | .load t p => match rAt h (ρ p) with
    | some (cs, off) => pX (rLoad P t cs off)
    | none => none
  | .store t p x => match ρ p with
    | .ptr n off => match h[n]? with
      | some (.cells cs) => match szT P t with
        | some k => bif k == (ρ x).cells.length && (ρ x).boxB && leB (off + (ρ x).cells.length) cs.length then some (.d (.v undef), .set n (.cells (splice cs off (ρ x).cells))) else none
        | none => none
      | _ => none
    | _ => none
  | .nilCheck x => match ρ x with
    | .ptr n off => some (.ptr n off, .same)
    | .elt xs i off => some (.elt xs i off, .same)
    | .fn f cs => some (.fn f cs, .same)
    | _ => none
  | .fieldAddr S x f => match fldT P S f with
    | some (fo, _, _) => match ρ x with
      | .ptr n off => some (.ptr n (off + fo), .same)
      | .elt xs i off => some (.elt xs i (off + fo), .same)
      | _ => none
    | none => none
  | .field T x f => pX (rField P T (ρ x) f)
  | .indexAddr T x i => pX (xIndexAddr P T (ρ x) (ρ i))
  | .index T x i => match ρ x, (ρ i).int? with
    | .d (.v (.string b)), some z => match zN z with
      | some q => match b[q]? with
        | some c => bif strT P T then some (.d (.v (.int .u8 c.toNat)), .same) else none
        | none => none
      | none => none
    | _, _ => none
  | .build T ps => pX (rBuild P T (ps.toList.map fun p => (p.1, ρ p.2)))
  | .buildSlice T len ps => pX (rBuildSlice P T len (ps.toList.map fun p => (p.1, ρ p.2)))
  | .slice T x lo hi mx => bif (ρ x).isNil && mx.isNone then none else pX (xSlice P T ρ (ρ x) lo hi mx)
  | .extract x i => match ρ x with
    | .tup cs => match cs[i]? with
      | some c => some (c, .same)
      | none => none
    | _ => none
  | .makeFunc (.func f) first caps => match first.toList with
    | [] => some (.fn f (caps.toList.map ρ), .same)
    | _ => none
  | .binOp op T x y _ => pX (inX (rBin P T op (ρ x) (ρ y)))
  | .unOp op _ x => match ρ x with
    | .d (.v u) => match unV op u with
      | some v => some (.d (.v v), .same)
      | none => none
    | _ => none
  | .convert s t x => pX (xConv P s t (ρ x))
  | .call c => match c.callee with
    | .builtin .len => match c.args.toList, c.argTypes.toList with
      | [x], [T] => match ρ x with
        | .d (.v (.string s)) => bif strT P T then some (.d (.v (.int .i64 s.size)), .same) else none
        | .row _ _ len _ _ => bif (elmT P T).isSome then some (.d (.v (.int .i64 len)), .same) else none
        | x => match x.list? with
          | some xs => bif (elmT P T).isSome then some (.d (.v (.int .i64 xs.length)), .same) else none
          | none => none
      | _, _ => none
    | .builtin .append => match c.args.toList, c.argTypes.toList with
      | [x, y], [T, U] => bif (elmT P U).isSome then xAppend P T h (ρ x) (ρ y) else none
      | _, _ => none
    | .builtin .max => match foldI true (c.args.toList.map ρ) with
      | some (k, a) => some (.d (.v (.int k a)), .same)
      | none => none
    | .builtin .min => match foldI false (c.args.toList.map ρ) with
      | some (k, a) => some (.d (.v (.int k a)), .same)
      | none => none
    | _ => none
  | .makeMap T none => match mapT P T with
    | some _ => some (.mp h.length, .push (.map []))
    | none => none
  | .lookup T m i ok => match opX P (.lookup T m i ok) ρ h with
    | some (x, _, .no) => some (x, .same)
    | _ => none
  | .mapUpdate T m i x => match mapT P T with
    | some (k, _) => match ρ m, ρ i, (ρ x).toD? with
      | .mp n, .d (.v (.string s)), some d => match h[n]? with
        | some (.map kv) => bif strT P k && leB (kv.length + 1) maxLen then some (.d (.v undef), .set n (.map ((s, d) :: kv))) else none
        | _ => none
      | _, _, _ => none
    | none => none
  | _ => none
theorem pX_some {r : Option AV} {x : AV} {d : HD} (h : pX r = some (x, d)) : r = some x ∧ d = .same := by
  unfold pX at h
  split at h
  · cases h; exact ⟨rfl, rfl⟩
  · cases h
theorem xop_sound {P : Program} {o : Oper} {ρ : Operand → AV} {h : List Blk} {x : AV} {d : HD} {C : AV → List Blk → Prop} (h1 : xop P o.op ρ h = some (x, d)) (hC : C x (d.app h)) : aopC P o ρ h C := by
  obtain ⟨dst, op, type, pos, after, guard⟩ := o
  simp only at h1
  unfold xop at h1
  unfold aopC
  split at h1
  · cases h1; exact hC
  · cases h1; exact hC
  · next c y z =>
    split at h1
    · next b e =>
      cases h1
      simp only [e]
      cases b with
      | true => exact ⟨fun _ => hC, fun h => Bool.noConfusion h⟩
      | false => exact ⟨fun h => Bool.noConfusion h, fun _ => hC⟩
    · cases h1
  · split at h1
    · next z e => cases h1; simp only [e]; exact hC
    · cases h1
  · obtain ⟨hb, he⟩ := bif_some h1; cases he; exact chk_iff.2 ⟨hb, hC⟩
  · split at h1
    · next cs off e =>
      obtain ⟨e2, rfl⟩ := pX_some h1
      exact rLoad_sound e e2 hC
    · cases h1
  · split at h1
    · next n off e =>
      split at h1
      · next cs e2 =>
        split at h1
        · next k e3 => obtain ⟨hb, he⟩ := bif_some h1; cases he; simp only [e, aStore, e2, e3]; exact chk_iff.2 ⟨hb, hC⟩
        · cases h1
      · cases h1
    · cases h1
  · split at h1
    · next e => cases h1; simp only [e]; exact hC
    · next e => cases h1; simp only [e]; exact hC
    · next e => cases h1; simp only [e]; exact hC
    · cases h1
  · split at h1
    · next e =>
      simp only [e]
      split at h1
      · next e2 => cases h1; simp only [e2]; exact hC
      · next e2 => cases h1; simp only [e2]; exact hC
      · cases h1
    · cases h1
  · obtain ⟨e, rfl⟩ := pX_some h1; exact rField_sound e hC
  · obtain ⟨e, rfl⟩ := pX_some h1; exact xIndexAddr_sound e hC
  · split at h1
    · next b z e1 e2 =>
      split at h1
      · next q eq =>
        obtain ⟨h0, hq⟩ := zN_some eq
        split at h1
        · next c ec =>
          obtain ⟨hb, he⟩ := bif_some h1; cases he
          simp only [e1, e2]
          refine chk_iff.2 ⟨hb, h0, ?_⟩
          rw [hq, ec]
          exact hC
        · cases h1
      · cases h1
    · cases h1
  · obtain ⟨e, rfl⟩ := pX_some h1; exact rBuild_sound e hC
  · obtain ⟨e, rfl⟩ := pX_some h1; exact rBuildSlice_sound e hC
  · rcases bif_or h1 with ⟨_, h1⟩ | ⟨_, h1⟩
    · cases h1
    · obtain ⟨e, rfl⟩ := pX_some h1; exact xSlice_sound e hC
  · split at h1
    · next e =>
      split at h1
      · next e2 => cases h1; simp only [e, e2]; exact hC
      · cases h1
    · cases h1
  · split at h1
    · next e => cases h1; simp only [e]; exact hC
    · cases h1
  · obtain ⟨e, rfl⟩ := pX_some h1
    obtain ⟨i, e2, hok⟩ := inX_some P e
    exact rBin_sound e2 hok hC
  · unfold aUn
    split at h1
    · next e =>
      split at h1
      · next e2 => cases h1; simp only [e, e2]; exact hC
      · cases h1
    · cases h1
  · obtain ⟨e, rfl⟩ := pX_some h1; exact xConv_sound e hC
  · next c =>
    split at h1
    · next hc =>
      simp only [hc]
      split at h1
      · next y T e1 e2 =>
        simp only [e1, e2]
        unfold aLen
        split at h1
        · next s e => obtain ⟨hb, he⟩ := bif_some h1; cases he; simp only [e]; exact chk_iff.2 ⟨hb, hC⟩
        · next e => obtain ⟨hb, he⟩ := bif_some h1; cases he; simp only [e]; exact chk_iff.2 ⟨hb, hC⟩
        · next n1 n2 =>
          split at h1
          · next xs e =>
            obtain ⟨hb, he⟩ := bif_some h1; cases he
            split
            · next s e' => exact absurd e' (n1 s)
            · next e' => exact absurd e' (n2 _ _ _ _ _)
            · simp only [e]; exact chk_iff.2 ⟨hb, hC⟩
          · cases h1
      · cases h1
    · next hc =>
      simp only [hc]
      split at h1
      · next e1 e2 => obtain ⟨hb, h1⟩ := bif_pos h1; simp only [e1, e2]; exact chk_iff.2 ⟨hb, xAppend_sound h1 hC⟩
      · cases h1
    · next hc =>
      simp only [hc]
      split at h1
      · next e1 => cases h1; simp only [e1]; exact hC
      · cases h1
    · next hc =>
      simp only [hc]
      split at h1
      · next e1 => cases h1; simp only [e1]; exact hC
      · cases h1
    · cases h1
  · split at h1
    · next e => cases h1; simp only [opX, e]; exact ⟨trivial, hC⟩
    · cases h1
  · split at h1
    · next y h' e =>
      cases h1
      have hh : h' = h := by
        unfold opX at e
        simp only at e
        repeat' split at e
        all_goals first | cases e | (obtain ⟨_, e'⟩ := bif_some e; cases e'; rfl)
      subst hh
      simp only [e]
      exact ⟨trivial, hC⟩
    · cases h1
  · split at h1
    · next k e0 e =>
      split at h1
      · next n s dd e1 e2 e3 =>
        split at h1
        · next kv e4 =>
          obtain ⟨hb, he⟩ := bif_some h1
          cases he
          rw [Bool.and_eq_true, leB_iff] at hb
          simp only [opX, e, e1, e2, e3, e4, hb.1, cond_true]
          exact ⟨hb.2, hC⟩
        · cases h1
      · cases h1
    · cases h1
  · cases h1
end Go.Proofs.YtaiihhogoogkmaaGreatDoor
