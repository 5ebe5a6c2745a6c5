/-
  Part 3 of the proof: AbsExec, AbsExecV, AbsRange, AbsAny, AbsExec2, AbsExec3, AbsYield, AbsTree, OpenD.
-/
import Derived.Test.YtnedgkfefdldeaaGreatDoorPk2
import Derived.ProofKit
import Derived.DataOpen
/-! AbsExec: Closed runs of the small language: an interpreter that the kernel works out, and why it may be believed. -/
namespace Go.Proofs.YtnedgkfefdldeaaGreatDoor
open Go.RowKit
theorem bif_or {α : Type} {c : Bool} {x y z : α} (h : (bif c then x else y) = z) : (c = true ∧ x = z) ∨ (c = false ∧ y = z) := by
  cases c with
  | true => exact .inl ⟨rfl, h⟩
  | false => exact .inr ⟨rfl, h⟩
inductive HD
  | same
  | push (B : Blk)
  | set (n : Nat) (B : Blk)
def HD.app : HD → List Blk → List Blk
  | .same, h => h
  | .push B, h => h ++ [B]
  | .set n B, h => h.set n B
def HD.okB (lo : Nat) : HD → Bool
  | .set n _ => leB lo n
  | _ => true
def zN : Int → Option Nat
  | .ofNat n => some n
  | .negSucc _ => none
theorem zN_some {z : Int} {n : Nat} (h : zN z = some n) : 0 ≤ z ∧ z.toNat = n := by
  cases z with
  | ofNat m => cases h; exact ⟨Int.natCast_nonneg _, rfl⟩
  | negSucc m => cases h
def xInt (ρ : Operand → AV) (d : Nat) : Option Operand → Option Nat
  | none => some d
  | some y => match (ρ y).int? with
    | some z => zN z
    | none => none
theorem xInt_sound {ρ : Operand → AV} {d n : Nat} {x : Option Operand} {K : Nat → Prop} (h : xInt ρ d x = some n) (hK : K n) : optInt ρ x d K := by
  cases x with
  | none => cases h; exact hK
  | some y =>
    unfold xInt at h
    unfold optInt
    simp only at h ⊢
    split at h
    · next z e =>
      obtain ⟨h0, h1⟩ := zN_some h
      simp only [e]
      exact ⟨h0, by rw [h1]; exact hK⟩
    · cases h
def allW (k : Nat) (xs : List (List D)) : Bool := xs.all fun c => c.length == k
theorem allW_iff {k : Nat} {xs : List (List D)} (h : allW k xs = true) : ∀ c ∈ xs, c.length = k := fun c hc => by
  have := List.all_eq_true.1 h c hc
  simpa using this
def xIndexAddr (P : Program) (T : TypeId) (x i : AV) : Option AV :=
  match elmT P T with
  | some (_, k) => match x with
    | .row n off len _ k' => match i.int? with
      | some z => match zN z with
        | some q => bif k' == k && leB (q + 1) len then some (.ptr n (off + q * k)) else none
        | none => none
      | none => none
    | x => match x.list?, i.int? with
      | some xs, some z => match zN z with
        | some q => match xs[q]? with
          | some c => bif c.length == k then some (.elt [c] 0 0) else none
          | none => none
        | none => none
      | _, _ => none
  | none => match arrT P T, x, i.int? with
    | some (n, _, k), .ptr b off, some z => match zN z with
      | some q => bif leB (q + 1) n then some (.ptr b (off + q * k)) else none
      | none => none
    | some (n, _, k), .elt xs e off, some z => match zN z with
      | some q => bif k == 1 && leB (q + 1) n then match xs[e]? with
        | some c => match c[off + q]? with
          | some d => some (.elt [[d]] 0 0)
          | none => none
        | none => none
        else none
      | none => none
    | _, _, _ => none
theorem xIndexAddr_sound {P : Program} {T : TypeId} {x i y : AV} {K : AV → Prop} (h : xIndexAddr P T x i = some y) (hK : K y) : aIndexAddr P T x i K := by
  unfold xIndexAddr at h
  unfold aIndexAddr
  split at h
  · next e k eT =>
    simp only [eT]
    split at h
    · next n off len cap k' =>
      simp only
      split at h
      · next z ez =>
        simp only [ez]
        split at h
        · next q eq =>
          obtain ⟨h0, h1⟩ := zN_some eq
          obtain ⟨hb, he⟩ := bif_some h
          rw [Bool.and_eq_true, leB_iff] at hb
          refine chk_iff.2 ⟨hb.1, h0, by omega, ?_⟩
          rw [h1, he]; exact hK
        · cases h
      · cases h
    · next x' hx' =>
      split at h
      · next xs z e1 e2 =>
        split at h
        · next q eq =>
          obtain ⟨h0, h1⟩ := zN_some eq
          split at h
          · next c ec =>
            obtain ⟨hb, he⟩ := bif_some h
            simp only [e1, e2]
            refine ⟨h0, ?_⟩
            rw [h1, ec]
            exact ⟨by simpa using hb, by rw [he]; exact hK⟩
          · cases h
        · cases h
      · cases h
  · next eT =>
    simp only [eT]
    split at h
    · next n e k b off z e1 e2 =>
      simp only [e1, e2]
      split at h
      · next q eq =>
        obtain ⟨h0, h1⟩ := zN_some eq
        obtain ⟨hb, he⟩ := bif_some h
        rw [leB_iff] at hb
        exact ⟨h0, by omega, by rw [h1, he]; exact hK⟩
      · cases h
    · next n e0 k xs e off z e1 e2 =>
      simp only [e1, e2]
      split at h
      · next q eq =>
        obtain ⟨h0, h1⟩ := zN_some eq
        obtain ⟨hb, h⟩ := bif_pos h
        rw [Bool.and_eq_true, leB_iff] at hb
        split at h
        · next c ec =>
          split at h
          · next d ed =>
            cases h
            refine chk_iff.2 ⟨hb.1, h0, by omega, ?_⟩
            rw [ec]
            simp only
            rw [h1, ed]
            exact hK
          · cases h
        · cases h
      · cases h
    · cases h
def xSlice (P : Program) (T : TypeId) (ρ : Operand → AV) (x : AV) (lo hi mx : Option Operand) : Option AV :=
  match mx with
  | none =>
    match x with
    | .d (.v (.string b)) => match xInt ρ b.size hi, xInt ρ 0 lo with
      | some h, some l => bif strT P T && leB h b.size && leB l h then some (.d (.v (.string (b.extract l h)))) else none
      | _, _ => none
    | .ptr n off => match arrT P T with
      | some (m, _, k) => match xInt ρ m hi, xInt ρ 0 lo with
        | some h, some l => bif leB m 4096 && leB h m && (leB l h && !leB m l) then some (.row n (off + l * k) (h - l) (m - l) k) else none
        | _, _ => none
      | none => none
    | x => match x.list?, elmT P T with
      | some xs, some (_, k) => match xInt ρ xs.length hi, xInt ρ 0 lo with
        | some h, some l => bif allW k xs && leB h xs.length && leB l h then some (.d (.sl ((xs.take h).drop l))) else none
        | _, _ => none
      | _, _ => none
  | some m => match lo, hi with
    | none, some y => match x.list?, elmT P T with
      | some xs, some (_, k) => match xInt ρ 0 (some m), xInt ρ 0 (some y) with
        | some c, some h => bif allW k xs && leB c xs.length && h == c then some (.full (xs.take h)) else none
        | _, _ => none
      | _, _ => none
    | _, _ => none
theorem xSlice_sound {P : Program} {T : TypeId} {ρ : Operand → AV} {x y : AV} {lo hi mx : Option Operand} {K : AV → Prop} (h : xSlice P T ρ x lo hi mx = some y) (hK : K y) : aSlice P T ρ x lo hi mx K := by
  unfold xSlice at h
  unfold aSlice
  split at h
  · simp only
    split at h
    · next b =>
      simp only
      split at h
      · next u l e1 e2 =>
        obtain ⟨hb, he⟩ := bif_some h
        rw [Bool.and_eq_true, Bool.and_eq_true, leB_iff, leB_iff] at hb
        exact chk_iff.2 ⟨hb.1.1, xInt_sound e1 ⟨hb.1.2, xInt_sound e2 ⟨hb.2, by rw [he]; exact hK⟩⟩⟩
      · cases h
    · next n off =>
      simp only
      split at h
      · next m e k eT =>
        simp only [eT]
        split at h
        · next u l e1 e2 =>
          generalize leB m 4096 = q4 at h ⊢
          obtain ⟨hb, he⟩ := bif_some h
          rw [Bool.and_eq_true, Bool.and_eq_true] at hb
          exact chk_iff.2 ⟨hb.1.1, xInt_sound e1 (chk_iff.2 ⟨hb.1.2, xInt_sound e2 (chk_iff.2 ⟨hb.2, by rw [he]; exact hK⟩)⟩)⟩
        · cases h
      · cases h
    · next x' _ _ =>
      split at h
      · next xs e k eL eT =>
        simp only [eL, eT]
        split at h
        · next u l e1 e2 =>
          obtain ⟨hb, he⟩ := bif_some h
          rw [Bool.and_eq_true, Bool.and_eq_true, leB_iff, leB_iff] at hb
          exact ⟨allW_iff hb.1.1, xInt_sound e1 ⟨hb.1.2, xInt_sound e2 ⟨hb.2, by rw [he]; exact hK⟩⟩⟩
        · cases h
      · cases h
  · next m =>
    simp only
    split at h
    · next y' =>
      simp only
      split at h
      · next xs e k eL eT =>
        simp only [eL, eT]
        split at h
        · next c u e1 e2 =>
          obtain ⟨hb, he⟩ := bif_some h
          rw [Bool.and_eq_true, Bool.and_eq_true, leB_iff, beq_iff_eq] at hb
          exact ⟨allW_iff hb.1.1, xInt_sound e1 ⟨hb.1.2, xInt_sound e2 ⟨hb.2, by rw [he]; exact hK⟩⟩⟩
        · cases h
      · cases h
    · cases h
def xAppend (P : Program) (T : TypeId) (h : List Blk) (x y : AV) : Option (AV × HD) :=
  match elmT P T with
  | some (e, k) => match zeroT P e, byT P e with
    | some z, some by_ => match rSrc h k y with
      | some ys => bif leB 1 k && z.cells.toList.length == k && allW k ys then
        match x with
        | .own n xs => match h[n]? with
          | some (.front e' k' len) => bif e' == e && k' == k && len == xs.length && allW k xs && leB (xs.length + ys.length) maxLen && leB ((xs.length + ys.length) * by_) 140737488355328 then some (.own n (xs ++ ys), .set n (.front e k (xs.length + ys.length))) else none
          | _ => none
        | .d (.v (.slice none 0 0)) => bif leB ys.length maxLen && leB (ys.length * by_) 140737488355328 then some (.own h.length ys, .push (.front e k ys.length)) else none
        | .full xs => bif allW k xs && leB (xs.length + ys.length) maxLen && leB ((xs.length + ys.length) * by_) 140737488355328 then some (.own h.length (xs ++ ys), .push (.front e k (xs.length + ys.length))) else none
        | _ => none
        else none
      | none => none
    | _, _ => none
  | none => none
theorem xAppend_sound {P : Program} {T : TypeId} {h : List Blk} {x y r : AV} {d : HD} {K : AV → List Blk → Prop} (h1 : xAppend P T h x y = some (r, d)) (hK : K r (d.app h)) : aAppend P T h x y K := by
  unfold xAppend at h1
  unfold aAppend
  split at h1
  · next e k eT =>
    simp only [eT]
    split at h1
    · next z by_ e1 e2 =>
      simp only [e1, e2]
      split at h1
      · next ys e3 =>
        obtain ⟨hb, h1⟩ := bif_pos h1
        rw [Bool.and_eq_true] at hb
        refine chk_iff.2 ⟨hb.1, rSrc_sound e3 (allW_iff hb.2) ?_⟩
        split at h1
        · next n xs =>
          simp only
          split at h1
          · next e' k' len e4 =>
            obtain ⟨hc, he⟩ := bif_some h1
            cases he
            simp only [Bool.and_eq_true, leB_iff, beq_iff_eq] at hc
            simp only [e4]
            obtain ⟨⟨⟨⟨⟨c1, c2⟩, c3⟩, c4⟩, c5⟩, c6⟩ := hc
            exact chk_iff.2 ⟨by rw [c1, c2]; simp, c3, allW_iff c4, c5, c6, hK⟩
          · cases h1
        · obtain ⟨hc, he⟩ := bif_some h1
          cases he
          simp only [Bool.and_eq_true, leB_iff] at hc
          exact ⟨hc.1, hc.2, hK⟩
        · obtain ⟨hc, he⟩ := bif_some h1
          cases he
          simp only [Bool.and_eq_true, leB_iff] at hc
          exact ⟨allW_iff hc.1.1, hc.1.2, hc.2, hK⟩
        · cases h1
      · cases h1
    · cases h1
  · cases h1
def decB : List (List D) → Option (List Int)
  | [] => some []
  | [.v (.int .u8 n)] :: l => match decB l with
    | some ns => some (n :: ns)
    | none => none
  | _ => none
theorem decB_some : ∀ (xs : List (List D)) (ns : List Int), decB xs = some ns → xs = ns.map fun n => [.v (.int .u8 n)]
  | [], ns, h => by unfold decB at h; cases h; rfl
  | x :: l, ns, h => by
    unfold decB at h
    split at h
    · next e => cases e
    · next n l' e =>
      cases e
      split at h
      · next ms em => cases h; rw [decB_some _ ms em]; rfl
      · cases h
    · cases h
def inX : Option (AV × In) → Option AV
  | some (x, .none) => some x
  | some (x, .nz b) => bif b == 0 then none else some x
  | some (x, .nn b) => match zN b with
    | some _ => some x
    | none => none
  | some (x, .cat n) => bif leB n maxLen then some x else none
  | _ => none
theorem inX_some {r : Option (AV × In)} {x : AV} (P : Program) (h : inX r = some x) : ∃ i, r = some (x, i) ∧ OK P i .ok := by
  unfold inX at h
  split at h
  · cases h; exact ⟨_, rfl, .none⟩
  · next b =>
    cases hb : b == 0 with
    | true => rw [hb] at h; cases h
    | false => rw [hb] at h; cases h; exact ⟨_, rfl, .nz (by simpa using hb)⟩
  · next b =>
    split at h
    · next e => cases h; exact ⟨_, rfl, .nn (zN_some e).1⟩
    · cases h
  · obtain ⟨hb, he⟩ := bif_some h
    cases he
    exact ⟨_, rfl, .cat (leB_iff.1 hb)⟩
  · cases h
def pX (r : Option AV) : Option (AV × HD) :=
  match r with
  | some x => some (x, .same)
  | none => none
def xConv (P : Program) (src dst : TypeId) (x : AV) : Option AV :=
  match rConv P src dst x .none with
  | some (y, .none) => some y
  | _ => match x.list?, elmT P src with
    | some xs, some (e, _) => match decB xs with
      | some ns => match x with
        | .d (.v _) => none
        | _ => bif u8T P e && strT P dst then some (.d (.v (.string (sbytes ns)))) else none
      | none => none
    | _, _ => none
theorem xConv_sound {P : Program} {src dst : TypeId} {x y : AV} {K : AV → Prop} (h : xConv P src dst x = some y) (hK : K y) : aConv P src dst x K := by
  unfold xConv at h
  split at h
  · next e => cases h; exact rConv_sound (a := .none) e .none hK
  · split at h
    · next xs e k e1 e2 =>
      split at h
      · next ns e3 =>
        split at h
        · cases h
        · next hx =>
          obtain ⟨hb, he⟩ := bif_some h
          unfold aConv
          split
          · next n => exact absurd rfl (hx _)
          · next b => exact absurd rfl (hx _)
          · simp only [e1, e2]
            exact chk_iff.2 ⟨hb, ns, decB_some _ _ e3, by subst he; exact hK⟩
      · cases h
    · cases h
def xop (P : Program) (op : Op) (ρ : Operand → AV) (h : List Blk) : Option (AV × HD) :=
  match op with
  | .move x | .assign x => some (ρ x, .same)
  | .pick c x y => match ρ c with
    | .d (.v (.bool b)) => some (bif b then ρ x else ρ y, .same)
    | _ => none
  | .alloc e => match zeroT P e with
    | some z => some (.ptr h.length 0, .push (.cells (z.cells.toList.map fun u => .d (.v u))))
    | none => none
  | .box _ x => bif (ρ x).boxB then some (.ptr h.length 0, .push (.cells (ρ x).cells)) else none
  | .load t p => match rAt h (ρ p) with
    | some (cs, off) => pX (rLoad P t cs off)
    | none => none
  | .store t p x => match ρ p with
    | .ptr n off => match h[n]? with
      | some (.cells cs) => match szT P t with
        | some k => bif k == (ρ x).cells.length && (ρ x).boxB && leB (off + (ρ x).cells.length) cs.length then some (.d (.v undef), .set n (.cells (splice cs off (ρ x).cells))) else none
        | none => none
      | _ => none
    | _ => none
  | .nilCheck x => match ρ x with
    | .ptr n off => some (.ptr n off, .same)
    | .elt xs i off => some (.elt xs i off, .same)
    | .fn f cs => some (.fn f cs, .same)
    | _ => none
  | .fieldAddr S x f => match fldT P S f with
    | some (fo, _, _) => match ρ x with
      | .ptr n off => some (.ptr n (off + fo), .same)
      | .elt xs i off => some (.elt xs i (off + fo), .same)
      | _ => none
    | none => none
  | .field T x f => pX (rField P T (ρ x) f)
  | .indexAddr T x i => pX (xIndexAddr P T (ρ x) (ρ i))
  | .index T x i => match ρ x, (ρ i).int? with
    | .d (.v (.string b)), some z => match zN z with
      | some q => match b[q]? with
        | some c => bif strT P T then some (.d (.v (.int .u8 c.toNat)), .same) else none
        | none => none
      | none => none
    | _, _ => none
  | .build T ps => pX (rBuild P T (ps.toList.map fun p => (p.1, ρ p.2)))
  | .buildSlice T len ps => pX (rBuildSlice P T len (ps.toList.map fun p => (p.1, ρ p.2)))
  | .slice T x lo hi mx => bif (ρ x).isNil && mx.isNone then none else pX (xSlice P T ρ (ρ x) lo hi mx)
  | .extract x i => match ρ x with
    | .tup cs => match cs[i]? with
      | some c => some (c, .same)
      | none => none
    | _ => none
  | .makeFunc (.func f) first caps => match first.toList with
    | [] => some (.fn f (caps.toList.map ρ), .same)
    | _ => none
  | .binOp op T x y _ => pX (inX (rBin P T op (ρ x) (ρ y)))
  | .unOp op _ x => match ρ x with
    | .d (.v u) => match unV op u with
      | some v => some (.d (.v v), .same)
      | none => none
    | _ => none
  | .convert s t x => pX (xConv P s t (ρ x))
  | .call c => match c.callee with
    | .builtin .len => match c.args.toList, c.argTypes.toList with
      | [x], [T] => match ρ x with
        | .d (.v (.string s)) => bif strT P T then some (.d (.v (.int .i64 s.size)), .same) else none
        | .row _ _ len _ _ => bif (elmT P T).isSome then some (.d (.v (.int .i64 len)), .same) else none
        | x => match x.list? with
          | some xs => bif (elmT P T).isSome then some (.d (.v (.int .i64 xs.length)), .same) else none
          | none => none
      | _, _ => none
    | .builtin .append => match c.args.toList, c.argTypes.toList with
      | [x, y], [T, U] => bif (elmT P U).isSome then xAppend P T h (ρ x) (ρ y) else none
      | _, _ => none
    | .builtin .max => match foldI true (c.args.toList.map ρ) with
      | some (k, a) => some (.d (.v (.int k a)), .same)
      | none => none
    | .builtin .min => match foldI false (c.args.toList.map ρ) with
      | some (k, a) => some (.d (.v (.int k a)), .same)
      | none => none
    | _ => none
  | .makeMap T none => match mapT P T with
    | some _ => some (.mp h.length, .push (.map []))
    | none => none
  | .lookup T m i ok => match opX P (.lookup T m i ok) ρ h with
    | some (x, _, .no) => some (x, .same)
    | _ => none
  | .mapUpdate T m i x => match mapT P T with
    | some (k, _) => match ρ m, ρ i, (ρ x).toD? with
      | .mp n, .d (.v (.string s)), some d => match h[n]? with
        | some (.map kv) => bif strT P k && leB (kv.length + 1) maxLen then some (.d (.v undef), .set n (.map ((s, d) :: kv))) else none
        | _ => none
      | _, _, _ => none
    | none => none
  | _ => none
theorem pX_some {r : Option AV} {x : AV} {d : HD} (h : pX r = some (x, d)) : r = some x ∧ d = .same := by
  unfold pX at h
  split at h
  · cases h; exact ⟨rfl, rfl⟩
  · cases h
theorem xop_sound {P : Program} {o : Oper} {ρ : Operand → AV} {h : List Blk} {x : AV} {d : HD} {C : AV → List Blk → Prop} (h1 : xop P o.op ρ h = some (x, d)) (hC : C x (d.app h)) : aopC P o ρ h C := by
  obtain ⟨dst, op, type, pos, after, guard⟩ := o
  simp only at h1
  unfold xop at h1
  unfold aopC
  split at h1
  · cases h1; exact hC
  · cases h1; exact hC
  · next c y z =>
    split at h1
    · next b e =>
      cases h1
      simp only [e]
      cases b with
      | true => exact ⟨fun _ => hC, fun h => Bool.noConfusion h⟩
      | false => exact ⟨fun h => Bool.noConfusion h, fun _ => hC⟩
    · cases h1
  · split at h1
    · next z e => cases h1; simp only [e]; exact hC
    · cases h1
  · obtain ⟨hb, he⟩ := bif_some h1; cases he; exact chk_iff.2 ⟨hb, hC⟩
  · split at h1
    · next cs off e =>
      obtain ⟨e2, rfl⟩ := pX_some h1
      exact rLoad_sound e e2 hC
    · cases h1
  · split at h1
    · next n off e =>
      split at h1
      · next cs e2 =>
        split at h1
        · next k e3 => obtain ⟨hb, he⟩ := bif_some h1; cases he; simp only [e, aStore, e2, e3]; exact chk_iff.2 ⟨hb, hC⟩
        · cases h1
      · cases h1
    · cases h1
  · split at h1
    · next e => cases h1; simp only [e]; exact hC
    · next e => cases h1; simp only [e]; exact hC
    · next e => cases h1; simp only [e]; exact hC
    · cases h1
  · split at h1
    · next e =>
      simp only [e]
      split at h1
      · next e2 => cases h1; simp only [e2]; exact hC
      · next e2 => cases h1; simp only [e2]; exact hC
      · cases h1
    · cases h1
  · obtain ⟨e, rfl⟩ := pX_some h1; exact rField_sound e hC
  · obtain ⟨e, rfl⟩ := pX_some h1; exact xIndexAddr_sound e hC
  · split at h1
    · next b z e1 e2 =>
      split at h1
      · next q eq =>
        obtain ⟨h0, hq⟩ := zN_some eq
        split at h1
        · next c ec =>
          obtain ⟨hb, he⟩ := bif_some h1; cases he
          simp only [e1, e2]
          refine chk_iff.2 ⟨hb, h0, ?_⟩
          rw [hq, ec]
          exact hC
        · cases h1
      · cases h1
    · cases h1
  · obtain ⟨e, rfl⟩ := pX_some h1; exact rBuild_sound e hC
  · obtain ⟨e, rfl⟩ := pX_some h1; exact rBuildSlice_sound e hC
  · rcases bif_or h1 with ⟨_, h1⟩ | ⟨_, h1⟩
    · cases h1
    · obtain ⟨e, rfl⟩ := pX_some h1; exact xSlice_sound e hC
  · split at h1
    · next e =>
      split at h1
      · next e2 => cases h1; simp only [e, e2]; exact hC
      · cases h1
    · cases h1
  · split at h1
    · next e => cases h1; simp only [e]; exact hC
    · cases h1
  · obtain ⟨e, rfl⟩ := pX_some h1
    obtain ⟨i, e2, hok⟩ := inX_some P e
    exact rBin_sound e2 hok hC
  · unfold aUn
    split at h1
    · next e =>
      split at h1
      · next e2 => cases h1; simp only [e, e2]; exact hC
      · cases h1
    · cases h1
  · obtain ⟨e, rfl⟩ := pX_some h1; exact xConv_sound e hC
  · next c =>
    split at h1
    · next hc =>
      simp only [hc]
      split at h1
      · next y T e1 e2 =>
        simp only [e1, e2]
        unfold aLen
        split at h1
        · next s e => obtain ⟨hb, he⟩ := bif_some h1; cases he; simp only [e]; exact chk_iff.2 ⟨hb, hC⟩
        · next e => obtain ⟨hb, he⟩ := bif_some h1; cases he; simp only [e]; exact chk_iff.2 ⟨hb, hC⟩
        · next n1 n2 =>
          split at h1
          · next xs e =>
            obtain ⟨hb, he⟩ := bif_some h1; cases he
            split
            · next s e' => exact absurd e' (n1 s)
            · next e' => exact absurd e' (n2 _ _ _ _ _)
            · simp only [e]; exact chk_iff.2 ⟨hb, hC⟩
          · cases h1
      · cases h1
    · next hc =>
      simp only [hc]
      split at h1
      · next e1 e2 => obtain ⟨hb, h1⟩ := bif_pos h1; simp only [e1, e2]; exact chk_iff.2 ⟨hb, xAppend_sound h1 hC⟩
      · cases h1
    · next hc =>
      simp only [hc]
      split at h1
      · next e1 => cases h1; simp only [e1]; exact hC
      · cases h1
    · next hc =>
      simp only [hc]
      split at h1
      · next e1 => cases h1; simp only [e1]; exact hC
      · cases h1
    · cases h1
  · split at h1
    · next e => cases h1; simp only [opX, e]; exact ⟨trivial, hC⟩
    · cases h1
  · split at h1
    · next y h' e =>
      cases h1
      have hh : h' = h := by
        unfold opX at e
        simp only at e
        repeat' split at e
        all_goals first | cases e | (obtain ⟨_, e'⟩ := bif_some e; cases e'; rfl)
      subst hh
      simp only [e]
      exact ⟨trivial, hC⟩
    · cases h1
  · split at h1
    · next k e0 e =>
      split at h1
      · next n s dd e1 e2 e3 =>
        split at h1
        · next kv e4 =>
          obtain ⟨hb, he⟩ := bif_some h1
          cases he
          rw [Bool.and_eq_true, leB_iff] at hb
          simp only [opX, e, e1, e2, e3, e4, hb.1, cond_true]
          exact ⟨hb.2, hC⟩
        · cases h1
      · cases h1
    · cases h1
  · cases h1
end Go.Proofs.YtnedgkfefdldeaaGreatDoor

/-! AbsExecV: Closed runs: operations on slices that may be written. -/
namespace Go.Proofs.YtnedgkfefdldeaaGreatDoor
open Go.RowKit
def vBlk (h : List Blk) (n L k : Nat) : Option (TypeId × List (List AV)) :=
  match h[n]? with
  | some (.vec e k' cs) => bif k' == k && cs.length == L then some (e, cs) else none
  | _ => none
theorem vBlk_some {h : List Blk} {n L k : Nat} {e : TypeId} {cs : List (List AV)} (hb : vBlk h n L k = some (e, cs)) : h[n]? = some (.vec e k cs) ∧ cs.length = L := by
  unfold vBlk at hb
  split at hb
  · next e' k' cs' e1 =>
    obtain ⟨h1, h2⟩ := bif_some hb
    cases h2
    rw [Bool.and_eq_true, beq_iff_eq, beq_iff_eq] at h1
    exact ⟨by rw [e1, h1.1], h1.2⟩
  · cases hb
def xSrcV (h : List Blk) (k : Nat) (y : AV) : Option (List (List AV)) :=
  match y with
  | .vec n o len L k' => match vBlk h n L k' with
    | some (_, cs) => bif k' == k && ((cs.drop o).take len).all (fun c => c.all AV.cellB) then some ((cs.drop o).take len) else none
    | none => none
  | y => match y.list? with
    | some xs => bif allW k xs then some (liftD xs) else none
    | none => none
theorem xSrcV_sound {h : List Blk} {k : Nat} {y : AV} {ys : List (List AV)} (hx : xSrcV h k y = some ys) : srcV h k y ys := by
  unfold xSrcV at hx
  split at hx
  · next n o len L k' =>
    split at hx
    · next e cs e1 =>
      obtain ⟨h1, h2⟩ := bif_some hx
      rw [Bool.and_eq_true, beq_iff_eq] at h1
      obtain ⟨b1, b2⟩ := vBlk_some e1
      obtain ⟨rfl, h3⟩ := h1
      subst h2
      exact .inr ⟨n, o, len, L, e, cs, rfl, b1, b2, rfl, fun c hc => List.all_eq_true.1 h3 c hc⟩
    · cases hx
  · split at hx
    · next xs e =>
      obtain ⟨h1, h2⟩ := bif_some hx
      exact .inl ⟨xs, e, allW_iff h1, h2.symm⟩
    · cases hx
def xopV (P : Program) (op : Op) (ρ : Operand → AV) (h : List Blk) : Option (AV × HD) :=
  match op with
  | .indexAddr T x i => match ρ x, (ρ i).int?, elmT P T with
    | .vec n o len L k, some z, some (_, k') => match zN z, vBlk h n L k with
      | some q, some _ => bif k' == k && leB (q + 1) len then some (.vptr n (o + q) 0 L k, .same) else none
      | _, _ => none
    | _, _, _ => none
  | .fieldAddr S x f => match ρ x, fldT P S f with
    | .vptr n i j L k, some (fo, _, _) => some (.vptr n i (j + fo) L k, .same)
    | _, _ => none
  | .nilCheck x => match ρ x with
    | .vptr n i j L k => some (.vptr n i j L k, .same)
    | _ => none
  | .load t p => match ρ p with
    | .vptr n i j L k => match vBlk h n L k with
      | some (_, cs) => match cs[i]? with
        | some c => match ldC P t c j with
          | some x => some (x, .same)
          | none => none
        | none => none
      | none => none
    | _ => none
  | .store t p x => match ρ p with
    | .vptr n i j L k => match vBlk h n L k, szT P t with
      | some (e, cs), some q => match cs[i]? with
        | some c => bif q == (ρ x).cells.length && (ρ x).boxB && leB (j + (ρ x).cells.length) k && leB 1 k then some (.d (.v undef), .set n (.vec e k (cs.set i (splice c j (ρ x).cells)))) else none
        | none => none
      | _, _ => none
    | _ => none
  | .slice T x lo hi none => match ρ x, elmT P T with
    | .vec n o len L k, some (_, k') => match xInt ρ len hi, xInt ρ 0 lo, vBlk h n L k with
      | some u, some l, some _ => bif k' == k && leB l u && leB (o + u) L then some (.vec n (o + l) (u - l) L k, .same) else none
      | _, _, _ => none
    | _, _ => none
  | .makeSlice T l c => match elmT P T, (ρ l).int?, (ρ c).int? with
    | some (e, k), some l, some c => match zeroT P e, byT P e with
      | some z, some by_ => match zN l, zN c with
        | some len, some m => bif leB 1 k && z.cells.toList.length == k && z.cells.toList.all Value.oneCell' && leB len m && leB m maxLen && leB (by_ * m) 281474976710656 then some (.vec h.length 0 len m k, .push (.vec e k (List.replicate m (z.cells.toList.map fun u => .d (.v u))))) else none
        | _, _ => none
      | _, _ => none
    | _, _, _ => none
  | .call c => match c.callee with
    | .builtin .len => match c.args.toList, c.argTypes.toList with
      | [x], [T] => match ρ x with
        | .vec n _ len L k => match vBlk h n L k with
          | some _ => bif (elmT P T).isSome then some (.d (.v (.int .i64 len)), .same) else none
          | none => none
        | _ => none
      | _, _ => none
    | .builtin .append => match c.args.toList, c.argTypes.toList with
      | [x, y], [T, U] => match elmT P T, elmT P U, ρ x with
        | some (e, k), some _, .full [] => match zeroT P e, byT P e with
          | some z, some by_ => match xSrcV h k (ρ y) with
            | some ys => bif leB 1 k && z.cells.toList.length == k && leB ys.length maxLen && leB (ys.length * by_) 140737488355328 then some (.vec h.length 0 ys.length ys.length k, .push (.vec e k ys)) else none
            | none => none
          | _, _ => none
        | some (e, k), some _, .vec n o len L k1 => match zeroT P e, byT P e with
          | some z, some by_ => match vBlk h n L k1, xSrcV h k (ρ y) with
            | some (e1, cs), some ys => bif leB 1 k && z.cells.toList.length == k && k1 == k && e1 == e then
                bif leB (o + len + ys.length) L then some (.vec n o (len + ys.length) L k, .set n (.vec e k (cs.take (o + len) ++ ys ++ cs.drop (o + len + ys.length))))
                else bif o == 0 && len == L && leB (L + ys.length) maxLen && leB ((L + ys.length) * by_) 140737488355328 then some (.vec n o (len + ys.length) (L + ys.length) k, .set n (.vec e k (cs ++ ys))) else none
              else none
            | _, _ => none
          | _, _ => none
        | _, _, _ => none
      | _, _ => none
    | _ => none
  | _ => none
theorem optI_x {ρ : Operand → AV} {d n : Nat} {x : Option Operand} (h : xInt ρ d x = some n) : ∃ z, optI ρ d x = some z ∧ 0 ≤ z ∧ z.toNat = n := by
  cases x with
  | none => cases h; exact ⟨d, rfl, Int.natCast_nonneg _, rfl⟩
  | some y =>
    unfold xInt at h
    simp only at h
    split at h
    · next z e => exact ⟨z, e, zN_some h⟩
    · cases h
theorem xopV_sound {P : Program} {op : Op} {ρ : Operand → AV} {h : List Blk} {x : AV} {d : HD} (h1 : xopV P op ρ h = some (x, d)) : ∃ a p, opV P op ρ h a = some (x, d.app h, p) ∧ p := by
  unfold xopV at h1
  split at h1
  · next T y i =>
    split at h1
    · next n o len L k z e k' e1 e2 e3 =>
      split at h1
      · next q b f1 f2 =>
        obtain ⟨hb, he⟩ := bif_some h1
        cases he
        rw [Bool.and_eq_true, leB_iff] at hb
        obtain ⟨e5, cs⟩ := b
        obtain ⟨b1, b2⟩ := vBlk_some f2
        obtain ⟨z0, z1⟩ := zN_some f1
        refine ⟨.ix (o + q), _, by simp only [opV, e1, e2, e3, b1, hb.1, beq_self_eq_true, Bool.and_self, cond_true]; rfl, ?_⟩
        exact ⟨b2, z0, by omega, by rw [z1]⟩
      · cases h1
    · cases h1
  · next S y f =>
    split at h1
    · next e1 e2 => cases h1; exact ⟨.no, _, by simp only [opV, e1, e2]; rfl, trivial⟩
    · cases h1
  · next y =>
    split at h1
    · next e1 => cases h1; exact ⟨.no, _, by simp only [opV, e1]; rfl, trivial⟩
    · cases h1
  · next t p =>
    split at h1
    · next n i j L k e1 =>
      split at h1
      · next e cs f1 =>
        obtain ⟨b1, b2⟩ := vBlk_some f1
        split at h1
        · next c f2 =>
          split at h1
          · next y f3 => cases h1; refine ⟨.el c, _, by simp only [opV, e1, b1, f3, beq_self_eq_true, cond_true]; rfl, ?_⟩; exact ⟨b2, f2⟩
          · cases h1
        · cases h1
      · cases h1
    · cases h1
  · next t p y =>
    split at h1
    · next n i j L k e1 =>
      split at h1
      · next e cs q f1 f2 =>
        obtain ⟨b1, b2⟩ := vBlk_some f1
        split at h1
        · next c f3 =>
          obtain ⟨hb, he⟩ := bif_some h1
          cases he
          simp only [Bool.and_eq_true] at hb
          refine ⟨.st c (cs.set i (splice c j (ρ y).cells)), _, by simp only [opV, e1, b1, f2, beq_self_eq_true, hb.1.1.1, hb.1.1.2, hb.1.2, hb.2, Bool.and_self, cond_true]; rfl, ?_⟩
          exact ⟨b2, f3, (by first | rfl | trivial)⟩
        · cases h1
      · cases h1
    · cases h1
  · next T y lo hi =>
    split at h1
    · next n o len L k e k' e1 e2 =>
      split at h1
      · next u l b f1 f2 f3 =>
        obtain ⟨hb, he⟩ := bif_some h1
        cases he
        simp only [Bool.and_eq_true, leB_iff] at hb
        obtain ⟨e5, cs⟩ := b
        obtain ⟨b1, b2⟩ := vBlk_some f3
        obtain ⟨zu, u1, u2, u3⟩ := optI_x f1
        obtain ⟨zl, l1, l2, l3⟩ := optI_x f2
        have l1' : optI ρ 0 lo = some zl := l1
        refine ⟨.ol (o + l) (u - l), _, by simp only [opV, e1, e2, l1', u1, b1, hb.1.1, beq_self_eq_true, Bool.and_self, cond_true]; rfl, ?_⟩
        exact ⟨b2, l2, by omega, by omega, by rw [l3], by rw [l3, u3]⟩
      · cases h1
    · cases h1
  · next T l c =>
    split at h1
    · next e k zl zc e1 e2 e3 =>
      split at h1
      · next z by_ f1 f2 =>
        split at h1
        · next len m g1 g2 =>
          obtain ⟨hb, he⟩ := bif_some h1
          cases he
          simp only [Bool.and_eq_true, leB_iff] at hb
          obtain ⟨l1, l2⟩ := zN_some g1
          obtain ⟨c1, c2⟩ := zN_some g2
          refine ⟨.mk (List.replicate m (z.cells.toList.map fun u => .d (.v u))) len m, _, by simp only [opV, e1, e2, e3, f1, f2, leB_iff.2 hb.1.1.1.1.1, hb.1.1.1.1.2, hb.1.1.1.2, Bool.and_self, cond_true]; rfl, ?_⟩
          exact ⟨l1, by omega, l2, c2, (by first | rfl | trivial), hb.1.2, hb.2⟩
        · cases h1
      · cases h1
    · cases h1
  · next c =>
    split at h1
    · next hc =>
      split at h1
      · next y T e1 e2 =>
        split at h1
        · next n o len L k f1 =>
          split at h1
          · next b f2 =>
            obtain ⟨e5, cs⟩ := b
            obtain ⟨b1, b2⟩ := vBlk_some f2
            obtain ⟨hb, he⟩ := bif_some h1
            cases he
            refine ⟨.no, _, by simp only [opV, hc, e1, e2, f1, b1, hb, beq_self_eq_true, Bool.and_self, cond_true]; rfl, ?_⟩
            exact b2
          · cases h1
        · cases h1
      · cases h1
    · next hc =>
      split at h1
      · next y z T U e1 e2 =>
        split at h1
        · next e k eU f1 f2 f3 =>
          split at h1
          · next zz by_ g1 g2 =>
            split at h1
            · next ys i2 =>
              obtain ⟨hb, he⟩ := bif_some h1
              cases he
              simp only [Bool.and_eq_true, leB_iff, beq_iff_eq] at hb
              have hs := xSrcV_sound i2
              refine ⟨.ap ys ys ys.length ys.length, _, by simp only [opV, hc, e1, e2, f1, f2, f3, g1, g2, leB_iff.2 hb.1.1.1, hb.1.1.2, beq_self_eq_true, Bool.and_self, cond_true]; rfl, ?_⟩
              refine ⟨?_, hs, ?_, ?_, ?_, hb.1.2, hb.2⟩ <;> first | rfl | trivial
            · cases h1
          · cases h1
        · next e k eU n o len L k1 f1 f2 f3 =>
          split at h1
          · next zz by_ g1 g2 =>
            split at h1
            · next e5 cs ys i1 i2 =>
              obtain ⟨b1, b2⟩ := vBlk_some i1
              obtain ⟨hb, h1⟩ := bif_pos h1
              simp only [Bool.and_eq_true, leB_iff, beq_iff_eq] at hb
              obtain ⟨⟨⟨hb1, hb2⟩, rfl⟩, rfl⟩ := hb
              have hs := xSrcV_sound i2
              rcases bif_or h1 with ⟨hl, h1⟩ | ⟨hl, h1⟩
              · cases h1
                rw [leB_iff] at hl
                refine ⟨.ap (cs.take (o + len) ++ ys ++ cs.drop (o + len + ys.length)) ys L (len + ys.length), _, by simp only [opV, hc, e1, e2, f1, f2, f3, g1, g2, b1, leB_iff.2 hb1, hb2, beq_self_eq_true, Bool.and_self, cond_true]; rfl, ?_⟩
                exact ⟨b2, hs, (by first | rfl | trivial), .inl ⟨hl, (by first | rfl | trivial), (by first | rfl | trivial)⟩⟩
              · obtain ⟨hb, he⟩ := bif_some h1
                cases he
                simp only [Bool.and_eq_true, leB_iff, beq_iff_eq] at hb
                obtain ⟨⟨⟨rfl, rfl⟩, hb5⟩, hb6⟩ := hb
                refine ⟨.ap (cs ++ ys) ys (len + ys.length) (len + ys.length), _, by simp only [opV, hc, e1, e2, f1, f2, f3, g1, g2, b1, leB_iff.2 hb1, hb2, beq_self_eq_true, Bool.and_self, cond_true]; rfl, ?_⟩
                exact ⟨b2, hs, (by first | rfl | trivial), .inr ⟨(by first | rfl | trivial), (by first | rfl | trivial), (by first | rfl | trivial), (by first | rfl | trivial), hb5, hb6⟩⟩
            · cases h1
          · cases h1
        · cases h1
      · cases h1
    · cases h1
  · cases h1
end Go.Proofs.YtnedgkfefdldeaaGreatDoor

/-! AbsRange: A range over a function, in the small language: the iterator is called, the frame lies as a block meanwhile. -/
namespace Go.Proofs.YtnedgkfefdldeaaGreatDoor
open Go.RowKit
def denseT (n : Nat) (t : List (Nat × AV)) : List AV := (List.range n).map (tget t)
theorem denseT_get {n : Nat} {t : List (Nat × AV)} {i : Nat} {c : AV} (h : (denseT n t)[i]? = some c) : tget t i = c := by
  unfold denseT at h
  rw [List.getElem?_map] at h
  by_cases hi : i < n
  · rw [List.getElem?_range hi] at h; exact Option.some.inj h
  · rw [List.getElem?_eq_none (by simpa using hi)] at h; cases h
def rngK (P : Program) (N0 : Nat) (Q : Exit → St → Prop) (s : St) : LS → Prop
  | .ready => Q .normal s
  | .done c => AWp P none N0 c Q s
  | .busy => False
theorem aw_rangeK {P : Program} {N0 : Nat} {s : St} {Q : Exit → St → Prop} {g : Operand} {p : Nat} {assign body : Code} {gf : FuncId} {caps : List AV} (hg : ev s g = .fn gf caps)
    (hc : ACalls P gf (.yld s.h.length :: caps) (s.h ++ [.lp .ready p assign body (denseT s.n s.t)]) fun _ h' => ∃ (ls : LS) (p1 : Nat) (as1 bd1 : Code) (cs1 : List AV), h'[s.h.length]? = some (.lp ls p1 as1 bd1 cs1) ∧ rngK P N0 Q ⟨s.n, s.t, h'.set s.h.length .gone⟩ ls) :
    AWp P none N0 (.rangeFunc g #[p] assign body) Q s := by
  constructor
  intro G w a n hs hN
  have hv := hs.ev g
  rw [hg] at hv
  obtain ⟨lb, ea, hl, hr⟩ : ∃ lb : Array Value, a.eval g = .func (.func gf) #[] lb ∧ lb.size = caps.length ∧ ∀ (i : Nat) (u : Value) (c : AV), lb[i]? = some u → caps[i]? = some c → VRel G w u c := by
    generalize a.eval g = u at hv
    cases hv with | fn _ vs _ hl hr => exact ⟨vs, rfl, hl, hr⟩
  obtain ⟨hent, hcall⟩ := hc
  refine wpIn_rangeFunc (F := WF none) ?_
  intro fn _
  obtain ⟨hE0, hI0⟩ := inv_mark hs.inv
  obtain ⟨G0, hG0⟩ : ∃ G0 : Gh, G0 = { G with Z := fun b => G.Z b ∨ b = w.heap.size } := ⟨_, rfl⟩
  obtain ⟨w0, hw0⟩ : ∃ w0, w0 = w.alloc (.deferred (some [])) := ⟨_, rfl⟩
  rw [← hG0, ← hw0] at hE0 hI0
  have hN0 : G0.N = G.N := by rw [hG0]
  have hsz : w0.heap.size = w.heap.size + 1 := by rw [hw0]; simp
  obtain ⟨hE1, hI1, hV1⟩ := inv_lp_alloc hI0 fn a.tmps w.heap.size p assign body (denseT s.n s.t) (by simp [denseT, hs.size]) fun i u c hu hc => by
    have h9 := hs.tmp i
    rw [denseT_get hc] at h9
    have e : a.tmps.getD i undef = u := by
      have hlt := (Array.getElem?_eq_some_iff.1 hu).1
      rw [Array.getElem?_eq_getElem hlt] at hu
      simp [Array.getD, hlt]; exact Option.some.inj hu
    rw [e] at h9
    exact h9.keep hE0 (Nat.le_of_eq hN0.symm)
  obtain ⟨w1, hw1⟩ : ∃ w1, w1 = w0.alloc (.loop { state := .ready, pending := none, fn := fn, tmps := a.tmps, params := #[p], assign := assign, body := body, defers := w.heap.size }) := ⟨_, rfl⟩
  obtain ⟨G1, hG1⟩ : ∃ G1 : Gh, G1 = G0.addC w0.heap.size := ⟨_, rfl⟩
  rw [← hw1, ← hG1] at hE1 hI1 hV1
  have hN1 : G1.N = G.N + 1 := by rw [hG1, ← hN0]; rfl
  have hrho1 : G1.rho s.h.length = w.heap.size + 1 := by rw [hG1, hs.inv.len, ← hN0]; simp [Gh.addC, hsz]
  rw [hsz] at hV1
  have hE01 : Ext G.N G w G1 w1 := hE0.trans (hE1.less (Nat.le_of_eq hN0.symm))
  refine ⟨w.heap.size + 1, [{ target := .collected w.heap.size, args := #[] }], w1, { target := .fn (.func gf) lb, args := #[.func (.yield (w.heap.size + 1)) #[] #[]] }, w1, gf, #[.func (.yield (w.heap.size + 1)) #[] #[]] ++ lb, w1, ?_, ?_, fun _ _ => trivial, ?_, fun h => (by simp [WF, Fence.wide] at h), ?_⟩
  · rw [hw1, hw0]; exact run_enterLoop_outer _ _ _ _ _
  · simp only [resolve, ea]
    simp [Deferred.ofValue, go_sem]
  · simp [invoke, run_enter hent]
  have hK := hcall G1 w1 (#[.func (.yield (w.heap.size + 1)) #[] #[]] ++ lb) hI1 (by simp [hl]; omega) (fun i u c hu hc => by
    match i with
    | 0 =>
      rw [Array.getElem?_append_left (by simp)] at hu
      simp at hu hc
      subst hu; subst hc; exact hV1
    | i + 1 =>
      rw [Array.getElem?_append_right (by simp)] at hu
      simp at hu hc
      exact (hr i u c hu hc).keep hE01 (by rw [hN1]; exact Nat.le_succ _))
  refine CallsIn.mono (F := WF none) (callsIn_wide (n := n - 1).2 hK) ?_
  rintro e w2 ⟨v, G2, r, h', rfl, hE2, hN2, hI2, _, ls, p1, as1, bd1, cs1, hk, hls⟩
  have hkN : s.h.length < G1.N := by rw [hs.inv.len, hN1]; exact Nat.lt_succ_self _
  have hr2 : G2.rho s.h.length = w.heap.size + 1 := (hE2.rho _ hkN).trans hrho1
  obtain ⟨_, fn2, tm2, D2, g3, g4, g5, grec⟩ := lp_rec hI2 hk
  rw [hr2] at g3
  have hEa : Ext G.N G w G2 w2 := hE01.trans (hE2.less (by rw [hN1]; exact Nat.le_succ _))
  have hNa : G.N ≤ G2.N := by rw [hN1] at hN2; omega
  obtain ⟨ob, hob⟩ : ∃ ob : Obj, ob = .loop { state := .exhausted, pending := ls.pd, fn := fn2, tmps := tm2, params := #[p1], assign := as1, body := bd1, defers := D2 } := ⟨_, rfl⟩
  obtain ⟨zE, zI⟩ := lp_gone hI2 hk ob
  rw [hr2] at zE zI
  have hEb : Ext G.N G w G2 (w2.putObj (w.heap.size + 1) ob) := hEa.trans (zE.less hNa)
  have hM := hs.inv.gl.2
  have hD1 : G0.Z w.heap.size := by rw [hG0]; exact .inr rfl
  have hDZ : G2.Z w.heap.size := hE2.Z.1.1 _ (hE1.Z.1.1 _ hD1)
  have hDh : (w2.putObj (w.heap.size + 1) ob).heap[w.heap.size]? = some (.deferred (some [])) := by
    rw [zE.old _ hDZ, hE2.old _ (hE1.Z.1.1 _ hD1), hE1.old _ hD1, hw0]
    exact World.alloc_heap_new w _
  have hs' : Sat G2 (w2.putObj (w.heap.size + 1) ob) { a with defers := [{ target := .collected w.heap.size, args := #[] }] ++ a.defers } ⟨s.n, s.t, h'.set s.h.length .gone⟩ := by
    refine ⟨hs.size, fun i => (hs.tmp i).keep hEb hNa, zI, ?_⟩
    obtain ⟨l, l1, l2, l3⟩ := hs.df.keep hEb
    obtain ⟨l', l1', l2', l3'⟩ := hs.df
    have hll : l = l' := by
      rw [l2] at l2'
      have hinj : ∀ (x y : List Nat), x.map (fun D => ({ target := .collected D, args := #[] } : Deferred)) = y.map (fun D => { target := .collected D, args := #[] }) → x = y := by
        intro x
        induction x with
        | nil => intro y h; cases y with
          | nil => rfl
          | cons b y => simp at h
        | cons a x ih => intro y h; cases y with
          | nil => simp at h
          | cons b y => simp at h; rw [h.1, ih y (by simpa using h.2)]
      exact hinj _ _ l2'
    refine ⟨w.heap.size :: l, ?_, by rw [List.map_cons, ← l2]; rfl, fun D hD => ?_⟩
    · rw [List.nodup_cons]
      exact ⟨fun h => Nat.lt_irrefl _ (hs.inv.z _ (l3' _ (hll ▸ h)).2.1), l1⟩
    · rcases List.mem_cons.1 hD with rfl | hD
      · exact ⟨by rw [hEb.Z.2]; exact hM, hDZ, hDh⟩
      · exact l3 D hD
  subst hob
  have hend := fun hb => run_endLoop (P := P) g3 hb
  cases ls with
  | busy => exact hls.elim
  | ready =>
    refine ⟨_, _, hend (by simp [LS.st]), ?_⟩
    exact ⟨G2, _, hEb.less hN, Nat.le_trans hN hNa, hs', hls⟩
  | done c =>
    refine ⟨_, _, hend (by simp [LS.st]), ?_⟩
    refine wpIn_mono (hls.run G2 _ _ n (hs') (Nat.le_trans hN hNa)) fun _ _ _ hn => ?_
    exact hn.trans (hEb.less hN)
theorem aw_rangeFunc {P : Program} {N0 : Nat} {s : St} {Q : Exit → St → Prop} {g : Operand} {p : Nat} {assign body : Code} {gf : FuncId} {caps : List AV} {h1 : List Blk} {ls : LS} {p1 : Nat} {as1 bd1 : Code} {cs1 : List AV} (hg : ev s g = .fn gf caps)
    (hc : ACalls P gf (.yld s.h.length :: caps) (s.h ++ [.lp .ready p assign body (denseT s.n s.t)]) fun _ h' => h' = h1)
    (hk : h1[s.h.length]? = some (.lp ls p1 as1 bd1 cs1)) (hls : rngK P N0 Q ⟨s.n, s.t, h1.set s.h.length .gone⟩ ls) : AWp P none N0 (.rangeFunc g #[p] assign body) Q s :=
  aw_rangeK hg (hc.mono fun _ h' e => by subst e; exact ⟨ls, p1, as1, bd1, cs1, hk, hls⟩)
end Go.Proofs.YtnedgkfefdldeaaGreatDoor

/-! AbsAny: Regions that draw their order and whose operations do not change places: every order is run, and all ends are one, up to the numbers of new blocks. -/
namespace Go.Proofs.YtnedgkfefdldeaaGreatDoor
open Go.RowKit
set_option linter.unusedSimpArgs false
set_option linter.unusedVariables false
mutual
theorem ren_id : ∀ x : AV, x.ren id = x
  | .agg cs => by rw [AV.ren, renL_id cs]
  | .tup cs => by rw [AV.ren, renL_id cs]
  | .fn f cs => by rw [AV.ren, renL_id cs]
  | .own .. => by simp [AV.ren]
  | .d _ => by simp [AV.ren]
  | .ptr .. => by simp [AV.ren]
  | .elt .. => by simp [AV.ren]
  | .full _ => by simp [AV.ren]
  | .row .. => by simp [AV.ren]
  | .mp _ => by simp [AV.ren]
  | .yld _ => by simp [AV.ren]
  | .vec .. => by simp [AV.ren]
  | .vptr .. => by simp [AV.ren]
  | .hid _ => by simp [AV.ren]
  | .dead => by simp [AV.ren]
theorem renL_id : ∀ l : List AV, AV.renL id l = l
  | [] => by simp [AV.renL]
  | x :: l => by rw [AV.renL, ren_id x, renL_id l]
end
theorem blk_ren_id (B : Blk) : B.ren id = B := by
  cases B with
  | cells cs => simp only [Blk.ren, renL_id]
  | lp ls p as bd cs => simp only [Blk.ren, renL_id]
  | it sn cs => simp only [Blk.ren, renL_id]
  | vec e k cs => simp only [Blk.ren]; congr 1; exact (List.map_congr_left fun x _ => renL_id x).trans (List.map_id _)
  | _ => rfl
theorem VRel.low {G : Gh} {w : World} {u : Value} {x : AV} (h : VRel G w u x) : x.lowB G.N = true := by
  have lt : ∀ {n : Nat}, n < G.N → (!leB G.N n) = true := fun {n} hn => by
    rw [Bool.not_eq_true', ← Bool.not_eq_true, leB_iff]; omega
  have lst : ∀ (vs : Array Value) (cs : List AV), vs.size = cs.length → (∀ (i : Nat) (u : Value) (c : AV), vs[i]? = some u → cs[i]? = some c → c.lowB G.N = true) → AV.lowL G.N cs = true := fun vs cs hl h => by
    rw [lowL_eq, List.all_eq_true]
    intro c hc
    obtain ⟨i, hi, rfl⟩ := List.mem_iff_getElem.1 hc
    exact h i vs[i] _ (Array.getElem?_eq_getElem (by omega)) (List.getElem?_eq_getElem hi)
  induction h with
  | agg vs cs hl _ ih => rw [AV.lowB]; exact lst vs cs hl ih
  | tup vs cs hl _ ih => rw [AV.lowB]; exact lst vs cs hl ih
  | fn f vs cs hl _ ih => rw [AV.lowB]; exact lst vs cs hl ih
  | ptr n off h => rw [AV.lowB]; exact lt h
  | own n xs h => rw [AV.lowB]; exact lt h
  | row n off len cap k h => rw [AV.lowB]; exact lt h
  | mp n h => rw [AV.lowB]; exact lt h
  | yld n h => rw [AV.lowB]; exact lt h
  | vec n o len L k h => rw [AV.lowB]; exact lt h
  | vptr n i j L k h => rw [AV.lowB]; exact lt h
  | _ => simp [AV.lowB]
def SLe (N0 : Nat) (s s' : St) : Prop := ∀ (G : Gh) (w : World) (a : Act), N0 ≤ G.N → Sat G w a s → ∃ G', Ext N0 G w G' w ∧ N0 ≤ G'.N ∧ Sat G' w a s'
theorem SLe.refl (N0 : Nat) (s : St) : SLe N0 s s := fun G _ _ hN hs => ⟨G, Ext.refl _ _ _, hN, hs⟩
theorem SLe.trans {N0 : Nat} {s1 s2 s3 : St} (h : SLe N0 s1 s2) (k : SLe N0 s2 s3) : SLe N0 s1 s3 := fun G w a hN hs => by
  obtain ⟨G1, e1, n1, h1⟩ := h G w a hN hs
  obtain ⟨G2, e2, n2, h2⟩ := k G1 w a n1 h1
  exact ⟨G2, e1.trans e2, n2, h2⟩
theorem SLe.of_eq {N0 : Nat} {s s' : St} (h : SEq s s') : SLe N0 s s' := fun G _ _ hN hs =>
  ⟨G, Ext.refl _ _ _, hN, hs.size.trans h.n, fun i => by rw [← h.t i]; exact hs.tmp i, by rw [← h.h]; exact hs.inv, hs.df⟩
theorem SLe.ren {N0 : Nat} {s s' : St} (σ τ : Nat → Nat) (hn : s.n = s'.n) (hlen : s'.h.length = s.h.length) (hlt : ∀ i, i < s.h.length → σ i < s.h.length) (hτ : ∀ i, i < s.h.length → τ i < s.h.length)
    (hts : ∀ i, i < s.h.length → τ (σ i) = i) (hst : ∀ i, i < s.h.length → σ (τ i) = i) (hfix : ∀ i, i < N0 → σ i = i)
    (ht : ∀ i, (tget s.t i).lowB s.h.length = true → tget s'.t i = (tget s.t i).ren σ ∨ tget s'.t i = .dead) (hh : ∀ i, i < s.h.length → s'.h[σ i]? = (s.h[i]?).map (Blk.ren σ)) : SLe N0 s s' := fun G w a hN hs => by
  have hl : s.h.length = G.N := hs.inv.len
  rw [hl] at hlt hτ hts hst hh hlen ht
  have hfixτ : ∀ i, i < N0 → τ i = i := fun i hi => by
    have h1 := hts i (by omega)
    rw [hfix i hi] at h1; exact h1
  let G' : Gh := { G with rho := fun n => G.rho (τ n), sg := fun n => G.sg (τ n), ow := fun n => G.ow (τ n), fl := fun n => G.fl (τ n) }
  have hR : RenOK σ G G' := ⟨hlt, fun n h => by show G.rho (τ (σ n)) = _; rw [hts n h], fun n h => by show G.sg (τ (σ n)) = _; rw [hts n h], fun n h => by show G.fl (τ (σ n)) = _; rw [hts n h], fun n h => by show G.ow (τ (σ n)) = _; rw [hts n h], fun _ _ => Iff.rfl⟩
  have hE : Ext N0 G w G' w := ⟨Nat.le_refl _, fun _ _ h => h, fun _ _ _ => rfl, fun n h => by show G.rho (τ n) = _; rw [hfixτ n h], fun n h => .inl ⟨by show G.fl (τ n) = _; rw [hfixτ n h], by show G.sg (τ n) = _; rw [hfixτ n h]⟩, zsame rfl, fun _ _ => rfl, rfl, rfl, rfl, fun _ _ h => .inl h⟩
  have hget : ∀ (n : Nat) (B : Blk), s'.h[n]? = some B → ∃ m B0, m < G.N ∧ σ m = n ∧ s.h[m]? = some B0 ∧ B = B0.ren σ := fun n B hB => by
    have hn' : n < G.N := by have := (List.getElem?_eq_some_iff.1 hB).1; omega
    have h1 := hh (τ n) (hτ n hn')
    rw [hst n hn', hB] at h1
    cases h2 : s.h[τ n]? with
    | none => rw [h2] at h1; cases h1
    | some B0 => rw [h2] at h1; cases h1; exact ⟨τ n, B0, hτ n hn', hst n hn', h2, rfl⟩
  have hown : ∀ (n b : Nat), ownB s'.h G' n = some b → ∃ m, m < G.N ∧ σ m = n ∧ ownB s.h G m = some b := fun n b hb => by
    obtain ⟨B, hB, hb⟩ := ownB_some hb
    obtain ⟨m, B0, k1, k2, k3, rfl⟩ := hget n B hB
    subst k2
    rw [own1_ren hR k1] at hb
    exact ⟨m, k1, rfl, by rw [ownB_of k3]; exact hb⟩
  refine ⟨G', hE, hN, hs.size.trans hn, fun i => ?_, ⟨hlen, hs.inv.z, hs.inv.S, fun n B hB => ?_, fun m n b hm hn' => ?_, hs.inv.gl.keep hE⟩, hs.df.keep hE⟩
  · have hv := hs.tmp i
    rcases ht i hv.low with e | e
    · rw [e]; exact hv.ren hR
    · rw [e]; exact .dead _
  · obtain ⟨m, B0, k1, k2, k3, rfl⟩ := hget n B hB
    subst k2
    have hb := hs.inv.blk m B0 k3
    exact BRel.ren hR k1 (fun b h1 => hb.notZ h1) hb
  · obtain ⟨m', k1, k2, k3⟩ := hown m b hm
    obtain ⟨n', j1, j2, j3⟩ := hown n b hn'
    have := hs.inv.inj m' n' b k3 j3
    rw [← k2, ← j2, this]
def valEq : Value → Value → Bool
  | .bool a, .bool b => a == b
  | .int k a, .int l b => decide (k = l) && decide (a = b)
  | .string a, .string b => bL a == bL b
  | .pointer none, .pointer none => true
  | .slice none a b, .slice none c d => a == c && b == d
  | .map none, .map none => true
  | .nilFunc, .nilFunc => true
  | .nilIface, .nilIface => true
  | .tuple a, .tuple b => a.size == 0 && b.size == 0
  | _, _ => false
theorem valEq_eq {u v : Value} (h : valEq u v = true) : u = v := by
  unfold valEq at h
  split at h
  · rw [beq_iff_eq] at h; subst h; rfl
  · rw [Bool.and_eq_true, decide_eq_true_eq, decide_eq_true_eq] at h; obtain ⟨h1, h2⟩ := h; subst h1; subst h2; rfl
  · rw [beq_iff_eq] at h; rw [bL_inj h]
  · rfl
  · rw [Bool.and_eq_true, beq_iff_eq, beq_iff_eq] at h; obtain ⟨h1, h2⟩ := h; subst h1; subst h2; rfl
  · rfl
  · rfl
  · rfl
  · rw [Bool.and_eq_true, beq_iff_eq, beq_iff_eq] at h; rw [Array.eq_empty_of_size_eq_zero h.1, Array.eq_empty_of_size_eq_zero h.2]
  · cases h
mutual
def D.eqB : D → D → Bool
  | .v a, .v b => valEq a b
  | .sl xs, .sl ys => D.eqLL xs ys
  | _, _ => false
def D.eqLL : List (List D) → List (List D) → Bool
  | [], [] => true
  | x :: xs, y :: ys => D.eqL x y && D.eqLL xs ys
  | _, _ => false
def D.eqL : List D → List D → Bool
  | [], [] => true
  | x :: xs, y :: ys => D.eqB x y && D.eqL xs ys
  | _, _ => false
end
mutual
theorem D.eqB_eq : ∀ x y : D, D.eqB x y = true → x = y
  | .v a, .v b, h => by rw [D.eqB] at h; rw [valEq_eq h]
  | .sl xs, .sl ys, h => by rw [D.eqB] at h; rw [D.eqLL_eq xs ys h]
  | .v _, .sl _, h => by simp [D.eqB] at h
  | .sl _, .v _, h => by simp [D.eqB] at h
theorem D.eqLL_eq : ∀ x y : List (List D), D.eqLL x y = true → x = y
  | [], [], _ => rfl
  | x :: xs, y :: ys, h => by rw [D.eqLL, Bool.and_eq_true] at h; rw [D.eqL_eq x y h.1, D.eqLL_eq xs ys h.2]
  | [], _ :: _, h => by simp [D.eqLL] at h
  | _ :: _, [], h => by simp [D.eqLL] at h
theorem D.eqL_eq : ∀ x y : List D, D.eqL x y = true → x = y
  | [], [], _ => rfl
  | x :: xs, y :: ys, h => by rw [D.eqL, Bool.and_eq_true] at h; rw [D.eqB_eq x y h.1, D.eqL_eq xs ys h.2]
  | [], _ :: _, h => by simp [D.eqL] at h
  | _ :: _, [], h => by simp [D.eqL] at h
end
mutual
def AV.eqR (σ : Nat → Nat) : AV → AV → Bool
  | .d x, y => (match y with | .d y => D.eqB x y | _ => false)
  | .agg a, y => (match y with | .agg b => AV.eqRL σ a b | _ => false)
  | .tup a, y => (match y with | .tup b => AV.eqRL σ a b | _ => false)
  | .fn f a, y => (match y with | .fn g b => f == g && AV.eqRL σ a b | _ => false)
  | .ptr n o, y => (match y with | .ptr m p => σ n == m && o == p | _ => false)
  | .elt xs i o, y => (match y with | .elt ys j p => D.eqLL xs ys && (i == j && o == p) | _ => false)
  | .own n xs, y => (match y with | .own m ys => σ n == m && D.eqLL xs ys | _ => false)
  | .full xs, y => (match y with | .full ys => D.eqLL xs ys | _ => false)
  | .row n i1 i2 i3 i4, y => (match y with | .row m j1 j2 j3 j4 => σ n == m && (i1 == j1 && (i2 == j2 && (i3 == j3 && i4 == j4))) | _ => false)
  | .mp n, y => (match y with | .mp m => σ n == m | _ => false)
  | .yld n, y => (match y with | .yld m => σ n == m | _ => false)
  | .vec n i1 i2 i3 i4, y => (match y with | .vec m j1 j2 j3 j4 => σ n == m && (i1 == j1 && (i2 == j2 && (i3 == j3 && i4 == j4))) | _ => false)
  | .vptr n i1 i2 i3 i4, y => (match y with | .vptr m j1 j2 j3 j4 => σ n == m && (i1 == j1 && (i2 == j2 && (i3 == j3 && i4 == j4))) | _ => false)
  | .dead, y => (match y with | .dead => true | _ => false)
  | .hid _, _ => false
def AV.eqRL (σ : Nat → Nat) : List AV → List AV → Bool
  | [], y => (match y with | [] => true | _ => false)
  | x :: xs, l => (match l with | y :: ys => AV.eqR σ x y && AV.eqRL σ xs ys | _ => false)
end
mutual
theorem AV.eqR_eq (σ : Nat → Nat) : ∀ x y : AV, AV.eqR σ x y = true → y = x.ren σ
  | .d x, y, h => by
    cases y with
    | d y => simp only [AV.eqR, Bool.and_eq_true, beq_iff_eq] at h; rw [AV.ren, D.eqB_eq _ _ h]
    | _ => simp [AV.eqR] at h
  | .agg a, y, h => by
    cases y with
    | agg b => simp only [AV.eqR, Bool.and_eq_true, beq_iff_eq] at h; rw [AV.ren, AV.eqRL_eq σ _ _ h]
    | _ => simp [AV.eqR] at h
  | .tup a, y, h => by
    cases y with
    | tup b => simp only [AV.eqR, Bool.and_eq_true, beq_iff_eq] at h; rw [AV.ren, AV.eqRL_eq σ _ _ h]
    | _ => simp [AV.eqR] at h
  | .fn f a, y, h => by
    cases y with
    | fn g b => simp only [AV.eqR, Bool.and_eq_true, beq_iff_eq] at h; rw [AV.ren, AV.eqRL_eq σ _ _ h.2, h.1]
    | _ => simp [AV.eqR] at h
  | .ptr n o, y, h => by
    cases y with
    | ptr m p => simp only [AV.eqR, Bool.and_eq_true, beq_iff_eq] at h; rw [AV.ren, h.1, h.2]
    | _ => simp [AV.eqR] at h
  | .elt xs i o, y, h => by
    cases y with
    | elt ys j p => simp only [AV.eqR, Bool.and_eq_true, beq_iff_eq] at h; rw [AV.ren, D.eqLL_eq _ _ h.1, h.2.1, h.2.2]
    | _ => simp [AV.eqR] at h
  | .own n xs, y, h => by
    cases y with
    | own m ys => simp only [AV.eqR, Bool.and_eq_true, beq_iff_eq] at h; rw [AV.ren, D.eqLL_eq _ _ h.2, h.1]
    | _ => simp [AV.eqR] at h
  | .full xs, y, h => by
    cases y with
    | full ys => simp only [AV.eqR, Bool.and_eq_true, beq_iff_eq] at h; rw [AV.ren, D.eqLL_eq _ _ h]
    | _ => simp [AV.eqR] at h
  | .row n i1 i2 i3 i4, y, h => by
    cases y with
    | row m j1 j2 j3 j4 => simp only [AV.eqR, Bool.and_eq_true, beq_iff_eq] at h; rw [AV.ren, h.1, h.2.1, h.2.2.1, h.2.2.2.1, h.2.2.2.2]
    | _ => simp [AV.eqR] at h
  | .vec n i1 i2 i3 i4, y, h => by
    cases y with
    | vec m j1 j2 j3 j4 => simp only [AV.eqR, Bool.and_eq_true, beq_iff_eq] at h; rw [AV.ren, h.1, h.2.1, h.2.2.1, h.2.2.2.1, h.2.2.2.2]
    | _ => simp [AV.eqR] at h
  | .vptr n i1 i2 i3 i4, y, h => by
    cases y with
    | vptr m j1 j2 j3 j4 => simp only [AV.eqR, Bool.and_eq_true, beq_iff_eq] at h; rw [AV.ren, h.1, h.2.1, h.2.2.1, h.2.2.2.1, h.2.2.2.2]
    | _ => simp [AV.eqR] at h
  | .mp n, y, h => by
    cases y with
    | mp m => simp only [AV.eqR, Bool.and_eq_true, beq_iff_eq] at h; rw [AV.ren, h]
    | _ => simp [AV.eqR] at h
  | .yld n, y, h => by
    cases y with
    | yld m => simp only [AV.eqR, Bool.and_eq_true, beq_iff_eq] at h; rw [AV.ren, h]
    | _ => simp [AV.eqR] at h
  | .dead, y, h => by
    cases y with
    | dead => rw [AV.ren]
    | _ => simp [AV.eqR] at h
  | .hid _, y, h => by simp [AV.eqR] at h
theorem AV.eqRL_eq (σ : Nat → Nat) : ∀ x y : List AV, AV.eqRL σ x y = true → y = AV.renL σ x
  | [], y, h => by
    cases y with
    | nil => rw [AV.renL]
    | cons => simp [AV.eqRL] at h
  | x :: xs, l, h => by
    cases l with
    | nil => simp [AV.eqRL] at h
    | cons y ys => simp only [AV.eqRL, Bool.and_eq_true] at h; rw [AV.renL, AV.eqR_eq σ _ _ h.1, AV.eqRL_eq σ _ _ h.2]
end
def eqKV : List (ByteArray × D) → List (ByteArray × D) → Bool
  | [], [] => true
  | (k, d) :: l, (k', d') :: l' => bL k == bL k' && D.eqB d d' && eqKV l l'
  | _, _ => false
theorem eqKV_eq : ∀ x y, eqKV x y = true → x = y
  | [], [], _ => rfl
  | (k, d) :: l, (k', d') :: l', h => by
    rw [eqKV, Bool.and_eq_true, Bool.and_eq_true] at h
    rw [bL_inj (beq_iff_eq.1 h.1.1), D.eqB_eq _ _ h.1.2, eqKV_eq l l' h.2]
  | [], _ :: _, h => by simp [eqKV] at h
  | _ :: _, [], h => by simp [eqKV] at h
def eqRows (σ : Nat → Nat) : List (List AV) → List (List AV) → Bool
  | [], [] => true
  | x :: xs, y :: ys => AV.eqRL σ x y && eqRows σ xs ys
  | _, _ => false
theorem eqRows_eq (σ : Nat → Nat) : ∀ x y, eqRows σ x y = true → y = x.map (AV.renL σ)
  | [], [], _ => rfl
  | x :: xs, y :: ys, h => by
    rw [eqRows, Bool.and_eq_true] at h
    rw [List.map_cons, AV.eqRL_eq σ x y h.1, eqRows_eq σ xs ys h.2]
  | [], _ :: _, h => by simp [eqRows] at h
  | _ :: _, [], h => by simp [eqRows] at h
def Blk.eqR (σ : Nat → Nat) : Blk → Blk → Bool
  | .cells a, y => (match y with | .cells b => AV.eqRL σ a b | _ => false)
  | .front e k l, y => (match y with | .front e' k' l' => e == e' && (k == k' && l == l') | _ => false)
  | .vec e k cs, y => (match y with | .vec e' k' ds => e == e' && (k == k' && eqRows σ cs ds) | _ => false)
  | .map kv, y => (match y with | .map kv' => eqKV kv kv' | _ => false)
  | .it sn cs, y => (match y with | .it sn' ds => sn == sn' && AV.eqRL σ cs ds | _ => false)
  | .gone, y => (match y with | .gone => true | _ => false)
  | .lp .., _ => false
theorem Blk.eqR_eq (σ : Nat → Nat) (x y : Blk) (h : Blk.eqR σ x y = true) : y = x.ren σ := by
  cases x <;> cases y <;> simp only [Blk.eqR, Bool.and_eq_true, beq_iff_eq, Bool.false_eq_true] at h
  · rw [Blk.ren, AV.eqRL_eq σ _ _ h]
  · rw [Blk.ren, h.1, h.2.1, h.2.2]
  · rw [Blk.ren, h.1, h.2.1, eqRows_eq σ _ _ h.2.2]
  · rw [Blk.ren, eqKV_eq _ _ h]
  · rw [Blk.ren, h.1, AV.eqRL_eq σ _ _ h.2]
  · rfl
def sgP (h0 : Nat) (p : List Nat) (i : Nat) : Nat := bif leB h0 i then p.getD (i - h0) i else i
def findP (ts ts' : List (Nat × AV)) (ks : List Nat) (i : Nat) : Nat :=
  match ks with
  | [] => i
  | d :: ks => match tget ts d, tget ts' d with
    | .ptr n _, .ptr m _ => bif n == i then m else findP ts ts' ks i
    | .own n _, .own m _ => bif n == i then m else findP ts ts' ks i
    | .vec n _ _ _ _, .vec m _ _ _ _ => bif n == i then m else findP ts ts' ks i
    | .mp n, .mp m => bif n == i then m else findP ts ts' ks i
    | _, _ => findP ts ts' ks i
def mkP (s s' : St) (ks : List Nat) (h0 : Nat) : Nat → List Nat
  | 0 => []
  | k + 1 => findP s.t s'.t ks h0 :: mkP s s' ks (h0 + 1) k
def samP (h0 : Nat) (ks : List Nat) (s s' : St) (p q : List Nat) : Bool :=
  (s'.h.length == s.h.length) && (((List.range s.h.length).all fun i => leB (sgP h0 p i + 1) s.h.length && leB (sgP h0 q i + 1) s.h.length && sgP h0 q (sgP h0 p i) == i && sgP h0 p (sgP h0 q i) == i) && (ks.all (fun d => AV.eqR (sgP h0 p) (tget s.t d) (tget s'.t d)) &&
    ((List.range s.h.length).all fun i => match s.h[i]?, s'.h[sgP h0 p i]? with
      | some B, some B' => Blk.eqR (sgP h0 p) B B'
      | _, _ => false)))
def samB (h0 : Nat) (ks : List Nat) (s s' : St) : Bool := samP h0 ks s s' (mkP s s' ks h0 (s.h.length - h0)) (mkP s' s ks h0 (s.h.length - h0))
structure Bas (ks : List Nat) (s0 s : St) : Prop where
  n : s.n = s0.n
  t : ∀ d, d ∉ ks → tget s.t d = tget s0.t d
theorem Bas.refl (ks : List Nat) (s : St) : Bas ks s s := ⟨rfl, fun _ _ => rfl⟩
theorem Bas.put {ks : List Nat} {s0 s : St} (h : Bas ks s0 s) (h1 : List Blk) {d : Option Nat} (x : AV) (hd : ∀ k, d = some k → k ∈ ks) : Bas ks s0 ((s.wh h1).put d x) :=
  ⟨by rw [put_n]; exact h.n, fun i hi => by
    rw [tget_put, if_neg]
    · exact h.t i hi
    · rintro ⟨e, _⟩; exact hi (hd i e)⟩
theorem samB_sle {N0 h0 : Nat} {ks : List Nat} {s0 s s' : St} (hN : N0 ≤ h0) (h0s : ∀ i, (tget s0.t i).lowB h0 = true) (hb : Bas ks s0 s) (hb' : Bas ks s0 s') (h : samB h0 ks s s' = true) : SLe N0 s s' := by
  unfold samB at h
  generalize mkP s s' ks h0 (s.h.length - h0) = p at h
  generalize mkP s' s ks h0 (s.h.length - h0) = q at h
  unfold samP at h
  simp only [Bool.and_eq_true, beq_iff_eq, List.all_eq_true, List.mem_range, leB_iff] at h
  obtain ⟨h1, h2, h3, h4⟩ := h
  have hfix : ∀ i, i < h0 → sgP h0 p i = i := fun i hi => by
    unfold sgP
    have : leB h0 i = false := by rw [← Bool.not_eq_true, leB_iff]; omega
    rw [this]; rfl
  refine SLe.ren (sgP h0 p) (sgP h0 q) (hb.n.trans hb'.n.symm) h1 (fun i hi => (h2 i hi).1.1.1) (fun i hi => (h2 i hi).1.1.2) (fun i hi => (h2 i hi).1.2) (fun i hi => (h2 i hi).2) (fun i hi => hfix i (by omega)) (fun i _ => ?_) fun i hi => ?_
  · left
    by_cases hk : i ∈ ks
    · exact AV.eqR_eq _ _ _ (h3 i hk)
    · rw [hb.t i hk, hb'.t i hk, ren_cong (τ := id) hfix _ (h0s i), ren_id]
  · have h5 := h4 i hi
    split at h5
    · next B B' e1 e2 => rw [e1, e2, Blk.eqR_eq _ _ _ h5]; rfl
    · cases h5
def ClosedL (N0 : Nat) (K : St → Prop) : Prop := ∀ s s', SLe N0 s s' → K s' → K s
theorem ClosedL.c {N0 : Nat} {K : St → Prop} (h : ClosedL N0 K) : Closed K := fun s s' e hk => h s' s (SLe.of_eq e.symm) hk
theorem aw_any {P : Program} {r : Option Nat} {N0 : Nat} {s : St} {Q : Exit → St → Prop} {m : Bool} {id : Nat} {ops : Array Oper} (hm : P.follows .mixedOrders = true)
    (h : N0 ≤ s.h.length → (∀ i, (tget s.t i).lowB s.h.length = true) → aAny m P ops (fun s1 => ∃ s2, SLe N0 s1 s2 ∧ Q .normal s2) ops.size (Array.replicate ops.size false) s) : AWp P r N0 (.region id ops true) Q s := by
  constructor
  intro G w a n hs hN
  obtain ⟨d1, d2⟩ := hs.drew
  refine wpIn_region_any hm ?_
  have hl := hs.inv.len
  refine any_sound (G := G) (w := w) (N0 := N0) (K := fun s1 => ∃ s2, SLe N0 s1 s2 ∧ Q .normal s2) (fun a' w' hn => ?_) ops.size _ G _ a s (d1.less hN) hN d2 (h (by omega) fun i => by rw [hl]; exact (hs.tmp i).low)
  obtain ⟨G', s', x1, x2, x3, s2, e0, x4⟩ := hn
  obtain ⟨G2, y1, y2, y3⟩ := e0 G' w' a' x2 x3
  exact ⟨G2, s2, x1.trans y1, y2, y3, x4⟩
theorem closedL_ex {N0 : Nat} (Q : St → Prop) : ClosedL N0 (fun s1 => ∃ s2, SLe N0 s1 s2 ∧ Q s2) := fun _ _ h ⟨s2, h1, h2⟩ => ⟨s2, h.trans h1, h2⟩
def bits (f : Nat → Bool) : Nat → Nat
  | 0 => 0
  | n + 1 => bif f n then bits f n ||| (1 <<< n) else bits f n
theorem bits_spec (f : Nat → Bool) : ∀ (n j : Nat), Nat.testBit (bits f n) j = (decide (j < n) && f j)
  | 0, j => by simp [bits]
  | n + 1, j => by
    unfold bits
    have ih := bits_spec f n j
    cases hf : f n with
    | true =>
      simp only [cond_true, Nat.testBit_or, ih, Nat.one_shiftLeft, Nat.testBit_two_pow]
      by_cases e : n = j
      · subst e; simp [hf]
      · have : decide (j < n + 1) = decide (j < n) := by simp; omega
        rw [this]; simp [e]
    | false =>
      simp only [cond_false, ih]
      by_cases e : n = j
      · subst e; simp [hf]
      · have : decide (j < n + 1) = decide (j < n) := by simp; omega
        rw [this]
def fN {α : Type} (n : Nat) (f : Nat → α) : α := Nat.casesOn (Nat.succ n) (f 0) f
theorem fN_eq {α : Type} (n : Nat) (f : Nat → α) : fN n f = f n := rfl
def fL {α : Type} : List Nat → (List Nat → α) → α
  | [], f => f []
  | n :: l, f => fN n fun n => fL l fun l => f (n :: l)
theorem fL_eq {α : Type} : ∀ (l : List Nat) (f : List Nat → α), fL l f = f l
  | [], _ => rfl
  | n :: l, f => by rw [fL, fN_eq, fL_eq l]
section
variable (ops : Array Oper)
def afB (o : Oper) (n j : Nat) : Bool := o.after.any fun e => Region.binds .any e && (e.on == j || (j == n && leB n e.on))
def afM (k : Nat) : Nat := match ops[k]? with
  | some o => bits (afB o ops.size) (ops.size + 1)
  | none => 1 <<< ops.size
def cfB (m : Bool) (M : Array Nat) (k j : Nat) : Bool := !(j == k) && (!((M.getD j 0).testBit k) && match ops[k]?, ops[j]? with
  | some oi, some oj => !(oi.apart ops oj && compat m oi oj)
  | _, _ => true)
def cfM (m : Bool) (M : Array Nat) (k : Nat) : Nat := bits (cfB ops m M k) ops.size
def afL : Nat → Nat → List Nat
  | _, 0 => []
  | k, n + 1 => afM ops k :: afL (k + 1) n
def cfL (m : Bool) (M : Array Nat) : Nat → Nat → List Nat
  | _, 0 => []
  | k, n + 1 => cfM ops m M k :: cfL m M (k + 1) n
end
def rdyL : List Nat → Nat → Nat → List Nat
  | [], _, _ => []
  | a :: A, L, k => bif !(Nat.testBit L k) && (L &&& a == a) then k :: rdyL A L (k + 1) else rdyL A L (k + 1)
def freeK (C : List Nat) (L : Nat) : List Nat → Option Nat
  | [] => none
  | k :: r => bif (C.getD k 0) ||| L == L then some k else freeK C L r
section
variable (ops : Array Oper) (st : Oper → St → Option St) (h0 : Nat) (ks A C : List Nat)
def xTree : Nat → Nat → St → Option St
  | 0, L, s => match rdyL A L 0 with
    | [] => some s
    | _ => none
  | f + 1, L, s => match rdyL A L 0 with
    | [] => some s
    | k0 :: r => match freeK C L (k0 :: r) with
      | some k => match ops[k]? with
        | some o => match st o s with
          | some s1 => fN (L ||| (1 <<< k)) fun L => xTree f L s1
          | none => none
        | none => none
      | none => match ops[k0]? with
        | some o => match st o s with
          | some s1 => match (fN (L ||| (1 <<< k0)) fun L => xTree f L s1) with
            | some s2 => bif r.all (fun k => match ops[k]? with
                | some o => match st o s with
                  | some s1 => match (fN (L ||| (1 <<< k)) fun L => xTree f L s1) with
                    | some s3 => samB h0 ks s3 s2
                    | none => false
                  | none => false
                | none => false) then some s2 else none
            | none => none
          | none => none
        | none => none
def dsts : List Oper → List Nat
  | [] => []
  | o :: l => match o.dst with
    | some d => d :: dsts l
    | none => dsts l
end
def xAll (ops : Array Oper) (st : Oper → St → Option St) (s : St) : Option St :=
  bif certOK (Region.before ops) ops then fL (afL ops 0 ops.size) fun A => fL (cfL ops true (Region.before ops) 0 ops.size) fun C => fN s.h.length fun h0 => xTree ops st h0 (dsts ops.toList) A C ops.size 0 s else none
theorem dsts_mem : ∀ {l : List Oper} {o : Oper}, o ∈ l → ∀ d, o.dst = some d → d ∈ dsts l
  | [], _, h, _, _ => by cases h
  | a :: l, o, h, d, hd => by
    unfold dsts
    rcases List.mem_cons.1 h with rfl | h
    · rw [hd]; simp
    · split
      · exact List.mem_cons_of_mem _ (dsts_mem h d hd)
      · exact dsts_mem h d hd
theorem afL_get (ops : Array Oper) : ∀ (n k i : Nat), (afL ops k n)[i]? = if i < n then some (afM ops (k + i)) else none
  | 0, k, i => by simp [afL]
  | n + 1, k, 0 => by simp [afL]
  | n + 1, k, i + 1 => by rw [afL, List.getElem?_cons_succ, afL_get ops n (k + 1) i]; simp only [Nat.add_lt_add_iff_right]; rw [show k + 1 + i = k + (i + 1) by omega]
theorem cfL_get (ops : Array Oper) (m : Bool) (M : Array Nat) : ∀ (n k i : Nat), (cfL ops m M k n)[i]? = if i < n then some (cfM ops m M (k + i)) else none
  | 0, k, i => by simp [cfL]
  | n + 1, k, 0 => by simp [cfL]
  | n + 1, k, i + 1 => by rw [cfL, List.getElem?_cons_succ, cfL_get ops m M n (k + 1) i]; simp only [Nat.add_lt_add_iff_right]; rw [show k + 1 + i = k + (i + 1) by omega]
theorem mem_rdyL {L : Nat} : ∀ (A : List Nat) (k i : Nat), i ∈ rdyL A L k ↔ k ≤ i ∧ Nat.testBit L i = false ∧ ∃ a, A[i - k]? = some a ∧ L &&& a = a
  | [], k, i => by simp [rdyL]
  | a :: A, k, i => by
    have ih := mem_rdyL (L := L) A (k + 1) i
    unfold rdyL
    have key : i ∈ rdyL A L (k + 1) ↔ k < i ∧ Nat.testBit L i = false ∧ ∃ b, (a :: A)[i - k]? = some b ∧ L &&& b = b := by
      rw [ih]
      constructor
      · rintro ⟨h1, h2, b, h3, h4⟩
        refine ⟨h1, h2, b, ?_, h4⟩
        rw [show i - k = (i - (k + 1)) + 1 by omega, List.getElem?_cons_succ]; exact h3
      · rintro ⟨h1, h2, b, h3, h4⟩
        refine ⟨h1, h2, b, ?_, h4⟩
        rw [show i - k = (i - (k + 1)) + 1 by omega, List.getElem?_cons_succ] at h3; exact h3
    cases hb : (!(Nat.testBit L k) && (L &&& a == a)) with
    | true =>
      simp only [cond_true, List.mem_cons, key]
      simp only [Bool.and_eq_true, Bool.not_eq_true', beq_iff_eq] at hb
      constructor
      · rintro (rfl | ⟨h1, h2⟩)
        · exact ⟨Nat.le_refl _, hb.1, a, by simp, hb.2⟩
        · exact ⟨by omega, h2⟩
      · rintro ⟨h1, h2⟩
        rcases Nat.lt_or_eq_of_le h1 with h | h
        · exact .inr ⟨h, h2⟩
        · exact .inl h.symm
    | false =>
      simp only [cond_false, key]
      constructor
      · rintro ⟨h1, h2⟩; exact ⟨by omega, h2⟩
      · rintro ⟨h1, h2, b, h3, h4⟩
        rcases Nat.lt_or_eq_of_le h1 with h | h
        · exact ⟨h, h2, b, h3, h4⟩
        · subst h
          simp at h3
          subst h3
          rw [h2] at hb
          simp at hb
          exact absurd h4 hb
theorem freeK_some {C : List Nat} {L : Nat} : ∀ {r : List Nat} {k : Nat}, freeK C L r = some k → k ∈ r ∧ (C.getD k 0) ||| L = L
  | [], k, h => by cases h
  | a :: r, k, h => by
    unfold freeK at h
    cases hb : ((C.getD a 0) ||| L == L) with
    | true => rw [hb] at h; cases h; exact ⟨by simp, by simpa using hb⟩
    | false => rw [hb] at h; have := freeK_some h; exact ⟨List.mem_cons_of_mem _ this.1, this.2⟩
structure LM (ops : Array Oper) (L : Nat) (listed : Array Bool) : Prop where
  sz : listed.size = ops.size
  b : ∀ i, Nat.testBit L i = listed.getD i false
theorem LM.set {ops : Array Oper} {L : Nat} {listed : Array Bool} (h : LM ops L listed) {k : Nat} (hk : k < ops.size) : LM ops (L ||| (1 <<< k)) (listed.setIfInBounds k true) := by
  refine ⟨by simp [h.sz], fun i => ?_⟩
  rw [Nat.testBit_or, Nat.one_shiftLeft, Nat.testBit_two_pow, h.b i]
  by_cases e : k = i
  · subst e
    have : k < listed.size := by rw [h.sz]; exact hk
    simp [this]
  · rw [getD_set_ne false e]; simp [e]
theorem LM.ready {ops : Array Oper} {L : Nat} {listed : Array Bool} (h : LM ops L listed) (i : Nat) : i ∈ Region.ready .any ops listed ↔ i ∈ rdyL (afL ops 0 ops.size) L 0 := by
  rw [mem_ready, mem_rdyL]
  simp only [Nat.zero_le, true_and, Nat.sub_zero, afL_get, Nat.zero_add]
  have hout : ∀ j, ops.size ≤ j → Nat.testBit L j = false := fun j hj => by
    rw [h.b, Array.getD_eq_getD_getElem?, Array.getElem?_eq_none (by rw [h.sz]; exact hj)]; rfl
  constructor
  · rintro ⟨h1, o, ho, h2⟩
    have hi := (Array.getElem?_eq_some_iff.1 ho).1
    have hgd : listed.getD i false = false := by
      have hi' : i < listed.size := by rw [h.sz]; exact hi
      simpa [hi'] using h1
    refine ⟨by rw [h.b]; exact hgd, _, by rw [if_pos hi], ?_⟩
    apply Nat.eq_of_testBit_eq
    intro j
    rw [Nat.testBit_and]
    unfold afM
    rw [ho]
    simp only [bits_spec]
    cases hb : (decide (j < ops.size + 1) && afB o ops.size j) with
    | false => simp
    | true =>
      simp only [Bool.and_true]
      rw [Bool.and_eq_true] at hb
      have hb := hb.2
      unfold afB at hb
      rw [Array.any_eq_true'] at hb
      obtain ⟨e, he, hb⟩ := hb
      simp only [Bool.and_eq_true, Bool.or_eq_true, beq_iff_eq, leB_iff] at hb
      have h3 := h2 e he hb.1
      have : e.on < ops.size := by
        rcases Nat.lt_or_ge e.on ops.size with hl | hl
        · exact hl
        · have := hout e.on hl
          rw [h.b] at this; rw [this] at h3; cases h3
      rcases hb.2 with hj | ⟨_, hj⟩
      · rw [← hj, h.b]; exact h3
      · omega
  · rintro ⟨h1, a, ha, h2⟩
    split at ha
    · next hi =>
      cases ha
      have ho : ops[i]? = some ops[i] := Array.getElem?_eq_getElem hi
      refine ⟨?_, ops[i], ho, fun e he hbd => ?_⟩
      · rw [h.b] at h1
        have hi' : i < listed.size := by rw [h.sz]; exact hi
        simpa [hi'] using h1
      · have hb2 : ∀ j, j < ops.size + 1 → afB ops[i] ops.size j = true → Nat.testBit L j = true := fun j hj hf => by
          have := congrArg (fun n => Nat.testBit n j) h2
          simp only [Nat.testBit_and] at this
          unfold afM at this
          rw [ho] at this
          simp only [bits_spec] at this
          rw [hf] at this
          simpa [hj] using this
        have haf : ∀ j, (e.on == j || (j == ops.size && leB ops.size e.on)) = true → afB ops[i] ops.size j = true := fun j hj => by
          unfold afB
          rw [Array.any_eq_true']
          exact ⟨e, he, by rw [hbd, hj]; rfl⟩
        rcases Nat.lt_or_ge e.on ops.size with hl | hl
        · rw [← h.b]
          exact hb2 e.on (by omega) (haf _ (by simp))
        · have := hb2 ops.size (by omega) (haf _ (by simp [leB_iff.2 hl]))
          rw [hout _ (Nat.le_refl _)] at this
          cases this
    · cases ha
section
variable {P : Program} {ops : Array Oper} {st : Oper → St → Option St} {h0 : Nat} {m : Bool} {N0 : Nat} {K : St → Prop} {s0 : St}
theorem out_one (hst : ∀ o, o ∈ ops.toList → ∀ s s1, st o s = some s1 → ∀ K1 : St → Prop, K1 s1 → aGuard ops o s (aopM m P o K1 s) (K1 (s.put o.dst (.d (.v undef))))) {o : Oper} {s s1 : St} (ho : o ∈ ops.toList) (e : st o s = some s1) : ∃ x h1, OutG m P ops o s x h1 ∧ (s.wh h1).put o.dst x = s1 := by
  rcases guard_split (hst o ho s s1 e (· = s1) rfl) with ⟨g, hd⟩ | ⟨g, hd⟩
  · obtain ⟨x, h1, h2, h3⟩ := out_of hd
    exact ⟨x, h1, .inl ⟨g, h2⟩, h3⟩
  · exact ⟨_, s.h, .inr ⟨g, rfl, rfl⟩, hd⟩
theorem xTree_ok (hK : ClosedL N0 K) (hN : N0 ≤ h0) (h0s : ∀ i, (tget s0.t i).lowB h0 = true)
    (hst : ∀ o, o ∈ ops.toList → ∀ s s1, st o s = some s1 → ∀ K1 : St → Prop, K1 s1 → aGuard ops o s (aopM m P o K1 s) (K1 (s.put o.dst (.d (.v undef))))) (hM : certOK (Region.before ops) ops = true) :
    ∀ (fuel L : Nat) (listed : Array Bool) (s s' : St), LM ops L listed → Dn ops listed → Bas (dsts ops.toList) s0 s → xTree ops st h0 (dsts ops.toList) (afL ops 0 ops.size) (cfL ops m (Region.before ops) 0 ops.size) fuel L s = some s' → Bas (dsts ops.toList) s0 s' ∧ (K s' → aAny m P ops K fuel listed s)
  | 0, L, listed, s, s', hL, hD, hB, h => by
    unfold xTree at h
    split at h
    · next hr =>
      cases h
      refine ⟨hB, fun hk => ⟨?_, hk⟩⟩
      rw [List.eq_nil_iff_forall_not_mem]
      intro i hi
      have := (hL.ready i).1 hi
      rw [hr] at this; cases this
    · cases h
  | fuel + 1, L, listed, s, s', hL, hD, hB, h => by
    have mem : ∀ {k : Nat} {o : Oper}, ops[k]? = some o → o ∈ ops.toList := fun ho => Array.mem_toList_iff.2 (Array.mem_of_getElem? ho)
    have one : ∀ {k : Nat} {o : Oper} {s1 s2 : St}, k ∈ Region.ready .any ops listed → ops[k]? = some o → st o s = some s1 → (fN (L ||| (1 <<< k)) fun L => xTree ops st h0 (dsts ops.toList) (afL ops 0 ops.size) (cfL ops m (Region.before ops) 0 ops.size) fuel L s1) = some s2 →
        Bas (dsts ops.toList) s0 s2 ∧ ∃ x h1, OutG m P ops o s x h1 ∧ (K s2 → aAny m P ops K fuel (listed.setIfInBounds k true) ((s.wh h1).put o.dst x)) := fun {k o s1 s2} hr ho e1 e2 => by
      obtain ⟨x, h1, h2, rfl⟩ := out_one hst (mem ho) e1
      rw [fN_eq] at e2
      have := xTree_ok hK hN h0s hst hM fuel _ _ _ s2 (hL.set (Array.getElem?_eq_some_iff.1 ho).1) (hD.set hr) (hB.put h1 x (dsts_mem (mem ho))) e2
      exact ⟨this.1, x, h1, h2, this.2⟩
    unfold xTree at h
    split at h
    · next hr =>
      cases h
      have hr' : Region.ready .any ops listed = [] := by
        rw [List.eq_nil_iff_forall_not_mem]
        intro i hi
        have := (hL.ready i).1 hi
        rw [hr] at this; cases this
      exact ⟨hB, fun hk => ⟨fun _ => hk, fun i hi => by rw [hr'] at hi; cases hi⟩⟩
    · next k0 r hr =>
      split at h
      · next k hf =>
        obtain ⟨hk1, hk2⟩ := freeK_some hf
        have hrk : k ∈ Region.ready .any ops listed := (hL.ready k).2 (by rw [hr]; exact hk1)
        split at h
        · next o ho =>
          split at h
          · next s1 e1 =>
            obtain ⟨hb, x, h1, h2, h3⟩ := one hrk ho e1 h
            refine ⟨hb, fun hk => aAny_first hK.c hM ho fuel listed s hD (fun j oj hj hne hun hno => ?_) hrk h2 (h3 hk)⟩
            have hjs := (Array.getElem?_eq_some_iff.1 hj).1
            have hks := (Array.getElem?_eq_some_iff.1 ho).1
            have hbit : Nat.testBit L j = false := by
              rw [hL.b]
              have hj' : j < listed.size := by rw [hL.sz]; exact hjs
              simpa [hj'] using hun
            have hcf : Nat.testBit (cfM ops m (Region.before ops) k) j = false := by
              rw [← Bool.not_eq_true]
              intro hc
              have h5 : (cfL ops m (Region.before ops) 0 ops.size).getD k 0 = cfM ops m (Region.before ops) k := by
                rw [List.getD_eq_getElem?_getD, cfL_get, if_pos hks, Nat.zero_add]; rfl
              rw [h5] at hk2
              have := congrArg (fun n => Nat.testBit n j) hk2
              simp only [Nat.testBit_or, hc, hbit] at this
              cases this
            unfold cfM at hcf
            rw [bits_spec] at hcf
            unfold cfB at hcf
            rw [hno, ho, hj] at hcf
            simp [hjs, hne] at hcf
            exact hcf
          · cases h
        · cases h
      · split at h
        · next o ho =>
          split at h
          · next s1 e1 =>
            split at h
            · next s2 e2 =>
              obtain ⟨hall, he⟩ := bif_some h
              cases he
              have hr0 : k0 ∈ Region.ready .any ops listed := (hL.ready k0).2 (by rw [hr]; simp)
              obtain ⟨hb, x, h1, h2, h3⟩ := one hr0 ho e1 e2
              refine ⟨hb, fun hk => ⟨fun e => (by rw [e] at hr0; cases hr0), fun i hi oi hoi => ?_⟩⟩
              have hi' : i ∈ k0 :: r := by rw [← hr]; exact (hL.ready i).1 hi
              rcases List.mem_cons.1 hi' with rfl | hir
              · rw [ho] at hoi; cases hoi
                exact ⟨x, h1, h2, h3 hk⟩
              · have h4 := List.all_eq_true.1 hall i hir
                rw [hoi] at h4
                simp only at h4
                split at h4
                · next s3 e3 =>
                  split at h4
                  · next s4 e4 =>
                    obtain ⟨hb', x', h1', h2', h3'⟩ := one hi hoi e3 e4
                    exact ⟨x', h1', h2', h3' (hK _ _ (samB_sle hN h0s hb' hb h4) hk)⟩
                  · cases h4
                · cases h4
            · cases h
          · cases h
        · cases h
theorem xAll_ok {s s' : St} (hK : ClosedL N0 K) (hN : N0 ≤ s.h.length) (h0s : ∀ i, (tget s.t i).lowB s.h.length = true)
    (hst : ∀ o, o ∈ ops.toList → ∀ s s1, st o s = some s1 → ∀ K1 : St → Prop, K1 s1 → aGuard ops o s (aopM true P o K1 s) (K1 (s.put o.dst (.d (.v undef))))) (h : xAll ops st s = some s') (hk : K s') : aAny true P ops K ops.size (Array.replicate ops.size false) s := by
  unfold xAll at h
  obtain ⟨hM, h⟩ := bif_pos h
  rw [fL_eq, fL_eq, fN_eq] at h
  refine (xTree_ok hK hN h0s hst hM ops.size 0 _ s s' ⟨by simp, fun i => ?_⟩ (fun j o ho hj => ?_) (Bas.refl _ _) h).2 hk
  · rw [Nat.zero_testBit, Array.getD_eq_getD_getElem?, Array.getElem?_replicate]
    split <;> rfl
  · exfalso
    rw [Array.getD_eq_getD_getElem?] at hj
    rw [Array.getElem?_replicate] at hj
    split at hj <;> simp at hj
theorem xTree_ind {R : St → Prop} (hst : ∀ o s s1, st o s = some s1 → R s → R s1) {ks A C : List Nat} : ∀ (fuel L : Nat) (s s' : St), xTree ops st h0 ks A C fuel L s = some s' → R s → R s'
  | 0, L, s, s', h, hR => by
    unfold xTree at h
    split at h
    · cases h; exact hR
    · cases h
  | fuel + 1, L, s, s', h, hR => by
    unfold xTree at h
    split at h
    · cases h; exact hR
    · split at h
      · split at h
        · split at h
          · next s1 e1 => rw [fN_eq] at h; exact xTree_ind hst fuel _ _ _ h (hst _ _ _ e1 hR)
          · cases h
        · cases h
      · split at h
        · split at h
          · next s1 e1 =>
            split at h
            · next s2 e2 =>
              obtain ⟨_, he⟩ := bif_some h
              cases he
              rw [fN_eq] at e2; exact xTree_ind hst fuel _ _ _ e2 (hst _ _ _ e1 hR)
            · cases h
          · cases h
        · cases h
theorem xAll_ind {R : St → Prop} (hst : ∀ o s s1, st o s = some s1 → R s → R s1) {s s' : St} (h : xAll ops st s = some s') (hR : R s) : R s' := by
  unfold xAll at h
  obtain ⟨_, h⟩ := bif_pos h
  rw [fL_eq, fL_eq, fN_eq] at h
  exact xTree_ind hst _ _ _ _ h hR
end
end Go.Proofs.YtnedgkfefdldeaaGreatDoor

/-! AbsExec2: Closed runs: code, calls, regions that draw. -/
namespace Go.Proofs.YtnedgkfefdldeaaGreatDoor
open Go.RowKit
inductive Ex
  | n
  | r
  | x (id : Nat)
def Ex.exit : Ex → Exit
  | .n => .normal
  | .r => .ret
  | .x i => .exit i
def fNat {α : Type} (n : Nat) (f : Nat → α) : α := Nat.casesOn (Nat.succ n) (f 0) f
theorem fNat_eq {α : Type} (n : Nat) (f : Nat → α) : fNat n f = f n := rfl
def AV.force {α : Type} (x : AV) (f : AV → α) : α :=
  match x with
  | .d (.v (.int k (.ofNat n))) => fNat n fun n => f (.d (.v (.int k (.ofNat n))))
  | .d (.v (.bool b)) => bif b then f (.d (.v (.bool true))) else f (.d (.v (.bool false)))
  | x => f x
theorem AV.force_eq {α : Type} (x : AV) (f : AV → α) : x.force f = f x := by
  unfold AV.force
  split
  · rw [fNat_eq]
  · next b => cases b <;> rfl
  · rfl
def hSpine {α : Type} : List Blk → (List Blk → α) → α
  | [], f => f []
  | b :: l, f => hSpine l fun r => f (b :: r)
theorem hSpine_eq {α : Type} : ∀ (l : List Blk) (f : List Blk → α), hSpine l f = f l
  | [], _ => rfl
  | b :: l, f => by rw [hSpine, hSpine_eq l]
def ddupK {α : Type} : List (Nat × AV) → Nat → (List (Nat × AV) → α) → α
  | [], _, f => f []
  | (k, x) :: l, m, f => bif Nat.testBit m k then ddupK l m f else fNat (m ||| (1 <<< k)) fun m => ddupK l m fun r => f ((k, x) :: r)
theorem ddupK_spec {α : Type} : ∀ (l : List (Nat × AV)) (m : Nat) (f : List (Nat × AV) → α), ∃ l', ddupK l m f = f l' ∧ ∀ i, tget l' i = bif Nat.testBit m i then .dead else tget l i
  | [], m, f => ⟨[], rfl, fun i => by cases Nat.testBit m i <;> rfl⟩
  | (k, x) :: l, m, f => by
    unfold ddupK
    cases hk : Nat.testBit m k with
    | true =>
      obtain ⟨l', h1, h2⟩ := ddupK_spec l m f
      refine ⟨l', h1, fun i => ?_⟩
      rw [h2, tget_cons]
      by_cases e : i = k
      · subst e; rw [hk]; rfl
      · rw [if_neg e]
    | false =>
      simp only [cond_false, fNat_eq]
      obtain ⟨l', h1, h2⟩ := ddupK_spec l (m ||| (1 <<< k)) (fun r => f ((k, x) :: r))
      refine ⟨(k, x) :: l', h1, fun i => ?_⟩
      rw [tget_cons, tget_cons, h2]
      by_cases e : i = k
      · subst e; rw [hk]; simp
      · rw [if_neg e, if_neg e]
        have : Nat.testBit (m ||| (1 <<< k)) i = Nat.testBit m i := by
          rw [Nat.testBit_or, Nat.one_shiftLeft, Nat.testBit_two_pow]
          simp [Ne.symm e]
        rw [this]
abbrev Run := Bool → Nat → Code → St → Option (Ex × St)
abbrev Memo := FuncId → List AV → Option (Option AV)
def fullB : Option (Option AV) → Bool
  | some none => true
  | _ => false
mutual
/-- the variables that function values have taken along -/
def AV.capPtrs : AV → List Nat
  | .fn _ cs => AV.ptrsL cs
  | _ => []
def AV.ptrsL : List AV → List Nat
  | [] => []
  | .ptr n _ :: l => n :: AV.ptrsL l
  | x :: l => x.capPtrs ++ AV.ptrsL l
end
def xFrz : List Nat → AV → List Blk → Option (AV × List Blk)
  | [], r, h => some (r, h)
  | b :: l, r, h => match h[b]? with
    | some (.cells cs) => match allD cs with
      | some ds => xFrz l (r.frz b ds) ((h.map (Blk.frz b ds)).set b .gone)
      | none => none
    | _ => none
def unD : AV → Option D
  | .d x => some x
  | _ => none
def unL : List AV → Option (List D)
  | [] => some []
  | x :: l => match unD x, unL l with
    | some d, some r => some (d :: r)
    | _, _ => none
def unR : List (List AV) → Option (List (List D))
  | [] => some []
  | x :: l => match unL x, unR l with
    | some d, some r => some (d :: r)
    | _, _ => none
mutual
def AV.hasVec : AV → Bool
  | .vec .. => true
  | .agg cs => AV.hasVecL cs
  | .tup cs => AV.hasVecL cs
  | .fn _ cs => AV.hasVecL cs
  | _ => false
def AV.hasVecL : List AV → Bool
  | [] => false
  | x :: l => x.hasVec || AV.hasVecL l
end
def xThw : List Nat → AV → List Blk → AV × List Blk
  | [], r, h => (r, h)
  | b :: l, r, h => match h[b]? with
    | some (.vec _ k cs) => match unR cs with
      | some xs => bif xs.all (fun c => c.all D.oneB) then (r.thw b k xs).force fun r => hSpine ((h.map (Blk.mapV (AV.thw b k xs))).set b .gone) fun h => xThw l r h else xThw l r h
      | none => xThw l r h
    | _ => xThw l r h
def thwOrd (h : List Blk) : List Nat := (List.range h.length).reverse ++ (List.range h.length).reverse
def xRetG (r : AV) (h : List Blk) : Option AV :=
  match xFrz r.capPtrs r h with
  | some (r, _) => some (r.pub 0)
  | none => none
def xRet (r : AV) (h : List Blk) : Option AV :=
  bif r.hasVec then (match xThw (thwOrd h) r h with | (r, h) => xRetG r h) else xRetG r h
def xYield (run : Run) (lo k : Nat) (x : AV) (h : List Blk) : Option (Bool × List Blk) :=
  bif leB lo k then match h[k]? with
  | some (.lp .ready p as bd cs) => bif leB (p + 1) cs.length then match run false lo as ⟨cs.length, (p, x) :: enumT 0 cs, h⟩ with
    | some (.n, s1) => match s1.h[k]? with
      | some (.lp .ready p1 as1 bd1 cs1) => match run false lo bd ⟨s1.n, s1.t, s1.h.set k (.lp .busy p1 as1 bd1 cs1)⟩ with
        | some (e, s2) => match s2.h[k]? with
          | some (.lp .busy p2 as2 bd2 cs2) => match e with
            | .n => some (true, s2.h.set k (.lp .ready p2 as2 bd2 cs2))
            | .r => some (false, s2.h.set k (.lp (.done .ret) p2 as2 bd2 cs2))
            | .x i => some (false, s2.h.set k (.lp (.done (.exit i)) p2 as2 bd2 cs2))
          | _ => none
        | none => none
      | _ => none
    | _ => none
    else none
  | _ => none
  else none
def xPut (o : Oper) (s : St) : Option (AV × List Blk) → Option St
  | some (x, h) => x.force fun x => match s, o.dst with
    | ⟨n, t, _⟩, some d => fNat n fun n => fNat d fun d => bif n - d == 0 then some ⟨n, t, h⟩ else some ⟨n, (d, x) :: t, h⟩
    | ⟨n, t, _⟩, none => some ⟨n, t, h⟩
  | none => none
def xHD (lo : Nat) (h : List Blk) : Option (AV × HD) → Option (AV × List Blk)
  | some (x, .same) => some (x, h)
  | some (x, d) => bif d.okB lo then hSpine (d.app h) fun h => some (x, h) else none
  | none => none
def xNil (P : Program) (op : Op) (ρ : Operand → AV) : Option AV :=
  match op with
  | .binOp op T x y _ => match (ρ x).list?, ρ y, elmT P T, eqV op true, eqV op false with
    | some (_ :: _), .d (.v (.slice none 0 0)), some _, some _, some v => some (.d (.v v))
    | _, _, _, _, _ => none
  | _ => none
def isNew (op : Op) (ρ : Operand → AV) : Bool :=
  match op with
  | .call c => match c.callee with
    | .builtin .append => match c.args.toList with
      | x :: _ => match ρ x with
        | .full [] => true
        | _ => false
      | _ => false
    | _ => false
  | _ => false
def xPlain (P : Program) (lo : Nat) (dr : Bool) (o : Oper) (s : St) : Option St :=
  match (bif !dr && isNew o.op (ev s) then xopV P o.op (ev s) s.h else none) with
  | some r => xPut o s (xHD lo s.h (some r))
  | none => match xop P o.op (ev s) s.h with
  | some r => xPut o s (xHD lo s.h (some r))
  | none => bif dr then (bif vOK o then (match xopV P o.op (ev s) s.h with
    | some r => xPut o s (xHD lo s.h (some r))
    | none => none) else none) else match xopV P o.op (ev s) s.h with
    | some r => xPut o s (xHD lo s.h (some r))
    | none => match opZ P o.op (ev s) s.h with
      | some (x, h) => hSpine h fun h => xPut o s (some (x, h))
      | none => match xNil P o.op (ev s) with
        | some x => xPut o s (some (x, s.h))
        | none => match opR P lo o.op (ev s) s.h with
          | some (x, h) => hSpine h fun h => xPut o s (some (x, h))
          | none => none
section
variable (run : Run) (P : Program) (memo : Memo)
def xBody (lo : Nat) (f : FuncId) (args : List AV) (h : List Blk) : Option (AV × List Blk) :=
  match P.funcs[f]? with
  | some fn => match fn.body with
    | some c => fNat (args.length + (fn.ntmps - args.length)) fun n => match run true lo c ⟨n, enumT 0 args, h⟩ with
      | some (.x _, _) => none
      | some (_, s) => match runRes P s fn.results.toList with
        | some l => some (tupOf l, s.h)
        | none => none
      | none => none
    | none => none
  | none => none
def xPure (g : FuncId) (args : List AV) : Option AV :=
  match memo g args with
  | some (some r) => some r
  | _ => match xBody run P 0 g args [] with
    | some (r, h) => match xRet r h with
      | some r => bif r.lowB 0 then some r else none
      | none => none
    | none => none
def xCall (lo : Nat) (dr : Bool) (g : FuncId) (args : List AV) (h : List Blk) : Option (AV × List Blk) :=
  bif args.all (AV.lowB 0) && !fullB (memo g args) then match xPure run P memo g args with
    | some r => bif r.lowB 0 then some (r, h) else none
    | none => none
  else bif dr then
    bif args.all (AV.lowB h.length) && h.all (Blk.lowB h.length) then match xBody run P h.length g args h with
      | some (r, _) => bif (r.pub h.length).lowB h.length then some (r.pub h.length, h) else none
      | none => none
    else none
  else xBody run P lo g args h
def xStep (lo : Nat) (dr ls : Bool) (o : Oper) (s : St) : Option St :=
  match o.op with
  | .call c => match c.callee with
    | .value f => match ev s f with
      | .fn g caps => bif dr && (kindOf o == 6 && fullB (memo g (c.args.toList.map (ev s) ++ caps))) then xPut o s (xBody run P s.h.length g (c.args.toList.map (ev s) ++ caps) s.h) else bif ls && loose true o then xPut o s (xCall run P memo lo false g (c.args.toList.map (ev s) ++ caps) s.h) else xPut o s (xCall run P memo lo dr g (c.args.toList.map (ev s) ++ caps) s.h)
      | .hid (.fn g cs) => xPut o s (xCall run P memo lo dr g (c.args.toList.map (ev s) ++ cs.map Cap.av) s.h)
      | .yld k => bif dr then none else match c.args.toList.map (ev s) with
        | [x] => match xYield run lo k x s.h with
          | some (b, h) => hSpine h fun h => xPut o s (some (.d (.v (.bool b)), h))
          | none => none
        | _ => none
      | _ => none
    | _ => xPlain P lo dr o s
  | _ => xPlain P lo dr o s
def xG (lo : Nat) (dr ls : Bool) (ops : Array Oper) (o : Oper) (s : St) : Option St :=
  match o.guard with
  | none => xStep run P memo lo dr ls o s
  | some (j, want) => match (ops[j]?).bind (·.dst) with
    | some d => match tget s.t d with
      | .d (.v (.bool b)) => bif b == want then xStep run P memo lo dr ls o s else some (s.put o.dst (.d (.v undef)))
      | .d (.v (.tuple _)) => some (s.put o.dst (.d (.v undef)))
      | _ => none
    | none => none
def xOps (lo : Nat) (dr ls : Bool) (ops : Array Oper) : List Oper → St → Option St
  | [], s => some s
  | o :: l, s => match xG run P memo lo dr ls ops o s with
    | some s => xOps lo dr ls ops l s
    | none => none
def exN : Option St → Option (Ex × St)
  | some s => some (.n, s)
  | none => none
def xCode (fl : Bool) (lo : Nat) (c : Code) (s : St) : Option (Ex × St) :=
  match c with
  | .skip => some (.n, s)
  | .region _ ops draw => bif draw then (bif ops.any (fun o => kindOf o == 6 || loose true o) && ((permD ops ops.size (Array.replicate ops.size false)).length == ops.size && lexP true ops (permD ops ops.size (Array.replicate ops.size false))) then exN (xOps run P memo lo true true ops (permL ops (permD ops ops.size (Array.replicate ops.size false))) s) else (bif lexD ops then exN (xOps run P memo lo true false ops ops.toList s) else exN (xAll ops (xG run P memo lo true true ops) s))) else exN (xOps run P memo lo false false ops ops.toList s)
  | .seq a b => match run fl lo a s with
    | some (.n, s1) => run fl lo b s1
    | some (.r, s1) => some (.r, s1)
    | some (.x i, s1) => some (.x i, s1)
    | none => none
  | .cond c x y => match ev s c with
    | .d (.v (.bool b)) => bif b then run fl lo x s else run fl lo y s
    | _ => none
  | .block id b => match run fl lo b s with
    | some (.x i, s1) => bif i == id then some (.n, s1) else some (.x i, s1)
    | some (.n, s1) => some (.n, s1)
    | some (.r, s1) => some (.r, s1)
    | none => none
  | .exit id => some (.x id, s)
  | .ret => some (.r, s)
  | .loop b => match run fl lo b s with
    | some (.n, s1) => fNat s1.n fun n => ddupK s1.t 0 fun t => run fl lo (.loop b) ⟨n, t, s1.h⟩
    | some (.r, s1) => some (.r, s1)
    | some (.x i, s1) => some (.x i, s1)
    | none => none
  | .rangeFunc g ps assign body => bif fl then match ps.toList, ev s g with
    | [p], .fn gf caps => match xBody run P lo gf (.yld s.h.length :: caps) (s.h ++ [.lp .ready p assign body (denseT s.n s.t)]) with
      | some (_, h) => match h[s.h.length]? with
        | some (.lp ls _ _ _ _) => match ls with
          | .ready => hSpine (h.set s.h.length .gone) fun h => some (.n, ⟨s.n, s.t, h⟩)
          | .done .ret => hSpine (h.set s.h.length .gone) fun h => some (.r, ⟨s.n, s.t, h⟩)
          | .done (.exit i) => hSpine (h.set s.h.length .gone) fun h => some (.x i, ⟨s.n, s.t, h⟩)
          | _ => none
        | _ => none
      | none => none
    | _, _ => none
    else none
  | _ => none
end
def exec (P : Program) (memo : Memo) (n : Nat) : Run := Nat.rec (fun _ _ _ _ => none) (fun _ ih => xCode ih P memo) n
theorem exec_succ {P : Program} {memo : Memo} {fl : Bool} {n lo : Nat} {c : Code} {s : St} : exec P memo (n + 1) fl lo c s = xCode (exec P memo n) P memo fl lo c s := rfl
def Frm (lo : Nat) (h h' : List Blk) : Prop := h'.take lo = h.take lo ∧ h.length ≤ h'.length
theorem Frm.refl (lo : Nat) (h : List Blk) : Frm lo h h := ⟨rfl, Nat.le_refl _⟩
theorem Frm.mono {lo m : Nat} {a b : List Blk} (h : Frm m a b) (hl : lo ≤ m) : Frm lo a b := ⟨by have := congrArg (List.take lo) h.1; rwa [List.take_take, List.take_take, Nat.min_eq_left hl] at this, h.2⟩
theorem Frm.trans {lo : Nat} {a b c : List Blk} (h : Frm lo a b) (k : Frm lo b c) : Frm lo a c := ⟨k.1.trans h.1, Nat.le_trans h.2 k.2⟩
def FrmR (run : Run) : Prop := ∀ fl lo c s e s', run fl lo c s = some (e, s') → lo ≤ s.h.length → Frm lo s.h s'.h
section
variable {run : Run} {P : Program} {memo : Memo} {lo : Nat} {s s' : St}
theorem xBody_frm (hr : FrmR run) {f : FuncId} {args : List AV} {h h' : List Blk} {r : AV} (e : xBody run P lo f args h = some (r, h')) (hl : lo ≤ h.length) : Frm lo h h' := by
  unfold xBody at e
  split at e
  · split at e
    · rw [fNat_eq] at e
      split at e
      · cases e
      · next x s1 _ e1 =>
        split at e
        · cases e; exact hr _ _ _ _ _ _ e1 hl
        · cases e
      · cases e
    · cases e
  · cases e
theorem xCall_frm (hr : FrmR run) {dr : Bool} {f : FuncId} {args : List AV} {h h' : List Blk} {r : AV} (e : xCall run P memo lo dr f args h = some (r, h')) (hl : lo ≤ h.length) : Frm lo h h' := by
  unfold xCall at e
  rcases bif_or e with ⟨_, e⟩ | ⟨_, e⟩
  · split at e
    · obtain ⟨_, he⟩ := bif_some e; cases he; exact .refl _ _
    · cases e
  · rcases bif_or e with ⟨_, e⟩ | ⟨_, e⟩
    · obtain ⟨_, e⟩ := bif_pos e
      split at e
      · obtain ⟨_, he⟩ := bif_some e; cases he; exact .refl _ _
      · cases e
    · exact xBody_frm hr e hl
theorem xPut_some {o : Oper} {r : Option (AV × List Blk)} (e : xPut o s r = some s') : ∃ x h, r = some (x, h) ∧ s' = (s.wh h).put o.dst x := by
  unfold xPut at e
  split at e
  · next x h =>
    rw [AV.force_eq] at e
    refine ⟨x, h, rfl, ?_⟩
    split at e
    · next n t h0 d hd =>
      simp only [fNat_eq] at e
      simp only [hd, St.put, St.wh]
      cases hb : (n - d == 0) with
      | true => rw [hb] at e; cases e; rfl
      | false => rw [hb] at e; cases e; rfl
    · next n t h0 hd => cases e; simp only [hd, St.put, St.wh]
  · cases e
theorem xHD_some {h h' : List Blk} {x : AV} {r : Option (AV × HD)} (e : xHD lo h r = some (x, h')) : ∃ d, r = some (x, d) ∧ d.okB lo = true ∧ h' = d.app h := by
  unfold xHD at e
  split at e
  · cases e; exact ⟨.same, rfl, rfl, rfl⟩
  · rw [hSpine_eq] at e
    obtain ⟨hb, he⟩ := bif_some e
    cases he
    exact ⟨_, rfl, hb, rfl⟩
  · cases e
theorem HD.frm {d : HD} (h : List Blk) (hd : d.okB lo = true) (hl : lo ≤ h.length) : Frm lo h (d.app h) := by
  cases d with
  | same => exact .refl _ _
  | push B => exact ⟨List.take_append_of_le_length hl, by simp [HD.app]⟩
  | set n B =>
    have hn : lo ≤ n := leB_iff.1 hd
    refine ⟨?_, by simp [HD.app]⟩
    simp only [HD.app]
    rw [List.take_set_of_le hn]
theorem set_frm {h : List Blk} {k : Nat} (B : Blk) (hk : lo ≤ k) : Frm lo h (h.set k B) := ⟨by rw [List.take_set_of_le hk], by simp⟩
theorem xYield_frm (hr : FrmR run) {k : Nat} {x : AV} {h h' : List Blk} {b : Bool} (e : xYield run lo k x h = some (b, h')) (hl : lo ≤ h.length) : Frm lo h h' := by
  unfold xYield at e
  obtain ⟨hk, e⟩ := bif_pos e
  rw [leB_iff] at hk
  split at e
  · obtain ⟨_, e⟩ := bif_pos e
    split at e
    · next s1 e1 =>
      have f1 := hr _ _ _ _ _ _ e1 hl
      split at e
      · split at e
        · next ee s2 e2 =>
          have f2 := hr _ _ _ _ _ _ e2 (by simp; exact Nat.le_trans hl f1.2)
          have f3 : Frm lo h s2.h := (f1.trans (set_frm _ hk)).trans f2
          split at e
          · split at e
            · cases e; exact f3.trans (set_frm _ hk)
            · cases e; exact f3.trans (set_frm _ hk)
            · cases e; exact f3.trans (set_frm _ hk)
          · cases e
        · cases e
      · cases e
    · cases e
  · cases e
theorem opZ_frm {op : Op} {ρ : Operand → AV} {h h' : List Blk} {x : AV} (e : opZ P op ρ h = some (x, h')) (hl : lo ≤ h.length) : Frm lo h h' := by
  have app : ∀ B, Frm lo h (h ++ [B]) := fun B => ⟨List.take_append_of_le_length hl, by simp⟩
  unfold opZ at e
  split at e
  · split at e
    · obtain ⟨_, he⟩ := bif_some e; cases he; exact .refl _ _
    · cases e
  · split at e
    · split at e
      · obtain ⟨_, he⟩ := bif_some e; cases he; exact .refl _ _
      · cases e
    · split at e
      · split at e
        · split at e
          · obtain ⟨_, he⟩ := bif_some e; cases he; exact app _
          · cases e
        · cases e
      · cases e
    · cases e
  · cases e
theorem opR_frm {op : Op} {ρ : Operand → AV} {h h' : List Blk} {x : AV} (e : opR P lo op ρ h = some (x, h')) (hl : lo ≤ h.length) : Frm lo h h' := by
  have app : ∀ B, Frm lo h (h ++ [B]) := fun B => ⟨List.take_append_of_le_length hl, by simp⟩
  unfold opR at e
  split at e
  · split at e
    · split at e
      · cases e; exact app _
      · cases e
    · cases e
  · split at e
    · split at e
      · split at e
        · split at e
          · cases e; exact .refl _ _
          · obtain ⟨hb, he⟩ := bif_some e
            cases he
            rw [leB_iff] at hb
            exact ⟨by rw [List.take_set_of_le hb], by simp⟩
        · cases e
      · cases e
    · cases e
  · split at e
    · split at e
      · split at e
        · cases e; exact .refl _ _
        · cases e
      · cases e
    · cases e
  · cases e
theorem xStep_frm (hr : FrmR run) {dr ls : Bool} {o : Oper} (e : xStep run P memo lo dr ls o s = some s') (hl : lo ≤ s.h.length) : Frm lo s.h s'.h := by
  have key0 : ∀ {r} (e' : xPut o s (xHD lo s.h r) = some s'), Frm lo s.h s'.h := fun e' => by
    obtain ⟨x, h, e1, rfl⟩ := xPut_some e'
    obtain ⟨d, _, hd, rfl⟩ := xHD_some e1
    rw [put_h]; exact d.frm _ hd hl
  have key : ∀ e' : xPlain P lo dr o s = some s', Frm lo s.h s'.h := fun e' => by
    unfold xPlain at e'
    split at e'
    · exact key0 e'
    split at e'
    · exact key0 e'
    · rcases bif_or e' with ⟨_, e'⟩ | ⟨_, e'⟩
      · obtain ⟨_, e'⟩ := bif_pos e'
        split at e'
        · exact key0 e'
        · cases e'
      · split at e'
        · exact key0 e'
        · split at e'
          · next e0 =>
            rw [hSpine_eq] at e'
            obtain ⟨x, h, e1, rfl⟩ := xPut_some e'
            cases e1
            rw [put_h]; exact opZ_frm e0 hl
          · split at e'
            · obtain ⟨x, h, e1, rfl⟩ := xPut_some e'
              cases e1
              rw [put_h]; exact .refl _ _
            · split at e'
              · next e0 =>
                rw [hSpine_eq] at e'
                obtain ⟨x, h, e1, rfl⟩ := xPut_some e'
                cases e1
                rw [put_h]; exact opR_frm e0 hl
              · cases e'
  unfold xStep at e
  split at e
  · split at e
    · split at e
      · rcases bif_or e with ⟨_, e⟩ | ⟨_, e⟩
        · obtain ⟨x, h, e1, rfl⟩ := xPut_some e
          rw [put_h]; exact (xBody_frm hr e1 (Nat.le_refl _)).mono hl
        · rcases bif_or e with ⟨_, e⟩ | ⟨_, e⟩
          · obtain ⟨x, h, e1, rfl⟩ := xPut_some e
            rw [put_h]; exact xCall_frm hr e1 hl
          · obtain ⟨x, h, e1, rfl⟩ := xPut_some e
            rw [put_h]; exact xCall_frm hr e1 hl
      · obtain ⟨x, h, e1, rfl⟩ := xPut_some e
        rw [put_h]; exact xCall_frm hr e1 hl
      · rcases bif_or e with ⟨_, e⟩ | ⟨_, e⟩
        · cases e
        · split at e
          · split at e
            · next e0 =>
              rw [hSpine_eq] at e
              obtain ⟨x, h, e1, rfl⟩ := xPut_some e
              cases e1
              rw [put_h]; exact xYield_frm hr e0 hl
            · cases e
          · cases e
      · cases e
    · next hop _ => exact key e
  · exact key e
theorem xG_frm (hr : FrmR run) {dr ls : Bool} {ops : Array Oper} {o : Oper} (e : xG run P memo lo dr ls ops o s = some s') (hl : lo ≤ s.h.length) : Frm lo s.h s'.h := by
  unfold xG at e
  split at e
  · exact xStep_frm hr e hl
  · split at e
    · split at e
      · rcases bif_or e with ⟨_, e⟩ | ⟨_, e⟩
        · exact xStep_frm hr e hl
        · cases e; rw [put_h]; exact .refl _ _
      · cases e; rw [put_h]; exact .refl _ _
      · cases e
    · cases e
theorem xOps_frm (hr : FrmR run) {dr ls : Bool} {ops : Array Oper} : ∀ (l : List Oper) (s s' : St), xOps run P memo lo dr ls ops l s = some s' → lo ≤ s.h.length → Frm lo s.h s'.h
  | [], s, s', e, _ => by cases e; exact .refl _ _
  | o :: l, s, s', e, hl => by
    unfold xOps at e
    split at e
    · next s1 e1 =>
      have h1 := xG_frm hr e1 hl
      exact h1.trans (xOps_frm hr l s1 s' e (Nat.le_trans hl h1.2))
    · cases e
theorem exN_some {r : Option St} {e : Ex} (h : exN r = some (e, s')) : r = some s' ∧ e = .n := by
  unfold exN at h
  split at h
  · cases h; exact ⟨rfl, rfl⟩
  · cases h
end
mutual
theorem pub_low (m : Nat) : ∀ x : AV, x.lowB m = true → x.pub m = x
  | .own n xs, h => by
    rw [AV.lowB] at h
    rw [AV.pub]
    cases e : leB m n with
    | true => rw [e] at h; cases h
    | false => rfl
  | .agg cs, h => by rw [AV.lowB] at h; rw [AV.pub, pubL_low m cs h]
  | .tup cs, h => by rw [AV.lowB] at h; rw [AV.pub, pubL_low m cs h]
  | .fn f cs, h => by rw [AV.lowB] at h; rw [AV.pub, pubL_low m cs h]
  | .d _, _ => by simp only [AV.pub]
  | .ptr .., _ => by simp only [AV.pub]
  | .elt .., _ => by simp only [AV.pub]
  | .full _, _ => by simp only [AV.pub]
  | .row .., _ => by simp only [AV.pub]
  | .mp _, _ => by simp only [AV.pub]
  | .yld _, _ => by simp only [AV.pub]
  | .vec .., _ => by simp only [AV.pub]
  | .vptr .., _ => by simp only [AV.pub]
  | .hid _, _ => by simp only [AV.pub]
  | .dead, _ => by simp only [AV.pub]
theorem pubL_low (m : Nat) : ∀ l : List AV, AV.lowL m l = true → AV.pubL m l = l
  | [], _ => by simp [AV.pubL]
  | x :: l, h => by
    rw [AV.lowL, Bool.and_eq_true] at h
    rw [AV.pubL, pub_low m x h.1, pubL_low m l h.2]
end
theorem blk_pub_low {m : Nat} {B : Blk} (h : B.lowB m = true) : B.pub m = B := by
  cases B with
  | cells cs =>
    simp only [Blk.lowB, List.all_eq_true] at h
    simp only [Blk.pub]
    congr 1
    exact (List.map_congr_left fun x hx => pub_low m x (h x hx)).trans (List.map_id _)
  | lp ls p as bd cs =>
    simp only [Blk.lowB, List.all_eq_true] at h
    simp only [Blk.pub]
    congr 1
    exact (List.map_congr_left fun x hx => pub_low m x (h x hx)).trans (List.map_id _)
  | it sn cs =>
    simp only [Blk.lowB, List.all_eq_true] at h
    simp only [Blk.pub]
    congr 1
    exact (List.map_congr_left fun x hx => pub_low m x (h x hx)).trans (List.map_id _)
  | vec e k cs =>
    simp only [Blk.lowB, List.all_eq_true] at h
    simp only [Blk.pub]
    congr 1
    exact (List.map_congr_left fun x hx => (List.map_congr_left fun y hy => pub_low m y (h x hx y hy)).trans (List.map_id _)).trans (List.map_id _)
  | front e k len => rfl
  | map kv => rfl
  | gone => rfl
theorem blks_pub_low {m : Nat} {h : List Blk} (e : h.all (Blk.lowB m) = true) : h.map (Blk.pub m) = h :=
  (List.map_congr_left fun B hB => blk_pub_low (List.all_eq_true.1 e B hB)).trans (List.map_id _)
theorem exec_frm {P : Program} {memo : Memo} : ∀ n, FrmR (exec P memo n)
  | 0 => fun fl lo c s e s' h => by cases h
  | n + 1 => by
    have ih := exec_frm (P := P) (memo := memo) n
    intro fl lo c s e s' h hl
    rw [exec_succ] at h
    unfold xCode at h
    split at h
    · cases h; exact .refl _ _
    · next ops draw =>
      cases draw with
      | true =>
        simp only [cond_true] at h
        rcases bif_or h with ⟨_, h⟩ | ⟨_, h⟩
        · exact xOps_frm ih _ _ _ (exN_some h).1 hl
        · rcases bif_or h with ⟨_, h⟩ | ⟨_, h⟩
          · exact xOps_frm ih _ _ _ (exN_some h).1 hl
          · refine xAll_ind (R := fun s1 => Frm lo s.h s1.h) (fun o s0 s1 e1 hR => hR.trans (xG_frm ih e1 (Nat.le_trans hl hR.2))) (exN_some h).1 (.refl _ _)
      | false => exact xOps_frm ih _ _ _ (exN_some h).1 hl
    · split at h
      · next s1 e1 =>
        have h1 := ih _ _ _ _ _ _ e1 hl
        exact h1.trans (ih _ _ _ _ _ _ h (Nat.le_trans hl h1.2))
      · next s1 e1 => cases h; exact ih _ _ _ _ _ _ e1 hl
      · next s1 e1 => cases h; exact ih _ _ _ _ _ _ e1 hl
      · cases h
    · split at h
      · next b _ =>
        cases b with
        | true => exact ih _ _ _ _ _ _ h hl
        | false => exact ih _ _ _ _ _ _ h hl
      · cases h
    · split at h
      · next e1 => rcases bif_or h with ⟨_, h⟩ | ⟨_, h⟩ <;> (cases h; exact ih _ _ _ _ _ _ e1 hl)
      · next s1 e1 => cases h; exact ih _ _ _ _ _ _ e1 hl
      · next s1 e1 => cases h; exact ih _ _ _ _ _ _ e1 hl
      · cases h
    · cases h; exact .refl _ _
    · cases h; exact .refl _ _
    · split at h
      · next s1 e1 =>
        have h1 := ih _ _ _ _ _ _ e1 hl
        obtain ⟨l', h2, _⟩ := ddupK_spec s1.t 0 fun t => exec P memo n fl lo (.loop _) ⟨s1.n, t, s1.h⟩
        rw [fNat_eq, h2] at h
        have h3 := ih _ _ _ _ _ _ h (show lo ≤ s1.h.length from Nat.le_trans hl h1.2)
        exact h1.trans h3
      · next s1 e1 => cases h; exact ih _ _ _ _ _ _ e1 hl
      · next s1 e1 => cases h; exact ih _ _ _ _ _ _ e1 hl
      · cases h
    · obtain ⟨_, h⟩ := bif_pos h
      split at h
      · split at h
        · next e1 =>
          have f1 := xBody_frm ih e1 (by simp; omega)
          have f2 : ∀ B, Frm lo s.h (s.h ++ [B]) := fun B => ⟨List.take_append_of_le_length hl, by simp⟩
          have f3 := ((f2 _).trans f1).trans (set_frm (k := s.h.length) .gone hl)
          split at h
          · split at h
            · rw [hSpine_eq] at h; cases h; exact f3
            · rw [hSpine_eq] at h; cases h; exact f3
            · rw [hSpine_eq] at h; cases h; exact f3
            · cases h
          · cases h
        · cases h
      · cases h
    · cases h
end Go.Proofs.YtnedgkfefdldeaaGreatDoor

/-! AbsExec3: Closed runs may be believed. -/
namespace Go.Proofs.YtnedgkfefdldeaaGreatDoor
open Go.RowKit
section
variable {P : Program} {r : Option Nat} {n N0 : Nat} {G : Gh} {w : World} {a : Act} {s : St} {o : Oper} {Q : Exit → St → Prop}
theorem run_aRetN {fn : Func} {K : AV → List Blk → Prop} (hs : Sat G w a s) (h : aResults P s fn.results.toList fun l => K (tupOf l) s.h) : ∃ v r, (results fn a.tmps).run P w = .ok v w ∧ VRel G w v r ∧ K r s.h := by
  obtain ⟨g, hg⟩ : ∃ g : ResultVar → Sem Value, results fn a.tmps = (do let vs ← fn.results.mapM g; pure (if h : vs.size = 1 then vs[0] else .tuple vs)) ∧ (∀ t, g (.tmp t) = pure (a.tmps.getD t undef)) ∧ (∀ p t, g (.cell p t) = (do loadVar t (← asAddr (a.tmps.getD p undef)))) :=
    ⟨_, rfl, fun _ => rfl, fun _ _ => rfl⟩
  obtain ⟨vs, xs, h1, h2, h3, h4⟩ := run_aResults hs g hg.2.1 hg.2.2 fn.results.toList h
  have hr : (results fn a.tmps).run P w = .ok (if h : vs.toArray.size = 1 then vs.toArray[0] else .tuple vs.toArray) w := by
    rw [hg.1, Sem.run_bind, Array.mapM_eq_mapM_toList]
    have e : ∀ X : Sem (List Value), (Functor.map List.toArray X : Sem _) = X >>= fun l => pure l.toArray := fun _ => rfl
    rw [e, Sem.run_bind, h1]
    rfl
  exact ⟨_, _, hr, tup_rel vs xs h2 h3, h4⟩
def aPostN (P : Program) (fn : Func) (K : AV → List Blk → Prop) : Exit → St → Prop
  | .normal, s => aResults P s fn.results.toList fun l => K (tupOf l) s.h
  | .ret, s => aResults P s fn.results.toList fun l => K (tupOf l) s.h
  | _, _ => False
theorem acalls_ofN {f : FuncId} {fn : Func} {c : Code} {args : List AV} {h : List Blk} {K : AV → List Blk → Prop} (hf : P.funcs[f]? = some fn) (hb : fn.body = some c) (hn : (fn.name == "runtime.NumGoroutine") = false)
    (hw : AWp P none h.length c (aPostN P fn K) { n := args.length + (fn.ntmps - args.length), t := enumT 0 args, h := h }) : ACalls P f args h K := by
  refine ⟨by unfold enterB; rw [hf]; simp [hb]; simpa using hn, fun G w vs hi hl hr => ?_⟩
  refine callsIn_wide (n := 8).1 (callsIn_of_wp_marks (F := Fence.wide) hf hb trivial ?_)
  have hs : Sat { G with M := w.heap.size } w { tmps := vs ++ Array.replicate (fn.ntmps - vs.size) undef, defers := [] } { n := args.length + (fn.ntmps - args.length), t := enumT 0 args, h := h } := by
    refine ⟨by simp [hl], fun i => ?_, hi.zm G.Z _ (fun _ h => h) (Nat.le_refl _), Marks.nil _ _⟩
    show VRel _ _ _ (tget (enumT 0 args) i)
    rw [tget_enum]
    simp only [Nat.zero_le, if_true, Nat.sub_zero]
    cases hx : args[i]? with
    | none => exact .dead _
    | some x =>
      have hlt : i < vs.size := by rw [hl]; exact (List.getElem?_eq_some_iff.1 hx).1
      have : (vs ++ Array.replicate (fn.ntmps - vs.size) undef).getD i undef = vs[i] := by
        simp [Array.getElem?_append_left hlt, Array.getElem?_eq_getElem hlt]
      simp only [this, Option.getD_some]
      exact (hr i _ x (Array.getElem?_eq_getElem hlt) hx).zm G.Z _
  refine wpIn_mono (hw.run _ w _ 8 hs (by rw [hi.len]; exact Nat.le_refl _)) fun e a' w' hn => ?_
  obtain ⟨G1, s1, hE, hN1, hs1, hq⟩ := hn
  have key : (aResults P s1 fn.results.toList fun l => K (tupOf l) s1.h) → LeavesInM Fence.wide 8 P fn a'.tmps (fun e w' => ∃ v G' r h', e = .returned v ∧ Ext G.N G w G' w' ∧ G.N ≤ G'.N ∧ Inv G' w' h' ∧ VRel G' w' v r ∧ K r h') a'.defers .returning w' := fun hq => by
    obtain ⟨w2, G2, k1, k2, k3, k4⟩ := leave_ok hE hN1 hi.z hi.gl.2 hs1
    obtain ⟨v, r, r1, r5, r6⟩ := run_aRetN k4 hq
    exact k1 _ _ _ _ _ ⟨v, r1, v, G2, r, s1.h, rfl, by rw [← hi.len]; exact k2, by rw [← hi.len, k3]; exact hN1, k4.inv, r5, r6⟩
  cases e with
  | normal => exact key hq
  | ret => exact key hq
  | _ => exact hq.elim
end
theorem ACalls.cut {P : Program} {f : FuncId} {args : List AV} {h h' : List Blk} {r : AV} (m : Nat) (hc : ACalls P f args h fun r1 h1 => r1 = r ∧ h1 = h') (h1 : h.length ≤ m) (h2 : m ≤ h'.length) (hb : (((h'.take m).map (Blk.pub m)).all (Blk.lowB m)) = true) (hr : (r.pub m).lowB m = true) :
    ACalls P f args h fun r1 h1 => r1 = r.pub m ∧ h1 = (h'.take m).map (Blk.pub m) := by
  refine ⟨hc.1, fun G w vs hi hl hv => (hc.2 G w vs hi hl hv).mono fun e w' hp => ?_⟩
  obtain ⟨v, G', _, _, rfl, hE, hN, hi', hv', rfl, rfl⟩ := hp
  exact ⟨v, G'.cut m, _, _, rfl, hE.trans (ext_cut _ _ _ _), by rw [← hi.len]; exact h1, inv_cut hi' h2 hb, (hv'.pub m).cut hr, rfl, rfl⟩
theorem rn_range (n i : Nat) (h : i < n) : rn (List.range n) 0 i = i := rn_lt (List.range n) 0 i i (by rw [List.getElem?_range h])
theorem ren_range {n : Nat} {x : AV} (h : x.lowB n = true) : x.ren (rn (List.range n) 0) = x := (ren_cong (τ := id) (rn_range n) x h).trans (ren_id x)
theorem blk_ren_range {n : Nat} {B : Blk} (h : B.lowB n = true) : B.ren (rn (List.range n) 0) = B := (blk_ren_cong (τ := id) (rn_range n) B h).trans (blk_ren_id B)
theorem nodupB_of : ∀ {l : List Nat}, l.Nodup → nodupB l = true
  | [], _ => rfl
  | a :: l, h => by
    rw [List.nodup_cons] at h
    rw [nodupB, Bool.and_eq_true, Bool.not_eq_true', ← Bool.not_eq_true]
    refine ⟨fun hm => ?_, nodupB_of h.2⟩
    obtain ⟨b, hb, e⟩ := List.any_eq_true.1 hm
    rw [beq_iff_eq] at e
    exact h.1 (e ▸ hb)
theorem nodupB_range (n : Nat) : nodupB (List.range n) = true := nodupB_of List.nodup_range
def MemoOK (P : Program) (memo : Memo) : Prop := ∀ g args r, memo g args = some (some r) → AFn P g args (· = r)
def NoGor (P : Program) : Prop := ∀ (f : FuncId) (fn : Func), P.funcs[f]? = some fn → (fn.name == "runtime.NumGoroutine") = false
def RunOK (P : Program) (run : Run) : Prop := ∀ fl lo c s e s', run fl lo c s = some (e, s') → ∀ (r : Option Nat) (N0 : Nat) (Q : Exit → St → Prop), (fl = true → r = none) → Q e.exit s' → AWp P r N0 c Q s
section
variable {run : Run} {P : Program} {memo : Memo} {lo : Nat} {s s' : St}
theorem xBody_ok (hP : NoGor P) (hr : RunOK P run) {f : FuncId} {args : List AV} {h h' : List Blk} {r : AV} (e : xBody run P lo f args h = some (r, h')) : ACalls P f args h fun r1 h1 => r1 = r ∧ h1 = h' := by
  unfold xBody at e
  split at e
  · next fn hf =>
    split at e
    · next c hc =>
      rw [fNat_eq] at e
      split at e
      · cases e
      · next x s1 hx e1 =>
        split at e
        · next l e2 =>
          cases e
          refine acalls_ofN hf hc (hP _ _ hf) (hr _ _ _ _ _ _ e1 _ _ _ (fun _ => rfl) ?_)
          have k := runRes_sound (P := P) (s := s1) fn.results.toList l (fun l' => tupOf l' = tupOf l ∧ s1.h = s1.h) e2 ⟨rfl, rfl⟩
          cases x with
          | n => exact k
          | r => exact k
          | x i => exact (hx i rfl).elim
        · cases e
      · cases e
    · cases e
  · cases e
theorem ACalls.chg {f : FuncId} {args : List AV} {h0 h h2 : List Blk} {r r2 : AV} {tl : List (Nat × AV)} (hc : ACalls P f args h0 fun r1 h1 => r1 = r ∧ h1 = h)
    (hT : ∀ (G : Gh) (w : World) (a : Act), Sat G w a ⟨1, [(0, r)], h⟩ → ∃ G', Ext G.N G w G' w ∧ G'.N = G.N ∧ Sat G' w a ⟨1, (0, r2) :: tl, h2⟩) : ACalls P f args h0 fun r1 h1 => r1 = r2 ∧ h1 = h2 := by
  refine ⟨hc.1, fun G w vs hi hl hv => (hc.2 G w vs hi hl hv).mono fun e w' hp => ?_⟩
  obtain ⟨v, G', _, _, rfl, hE, hN, hi', hv', rfl, rfl⟩ := hp
  obtain ⟨G2, e1, e2, e3⟩ := hT G' w' { tmps := #[v], defers := [] } ⟨rfl, fun i => by
    show VRel G' w' _ (tget [(0, _)] i)
    rw [tget_cons]
    split
    · next ei => subst ei; exact hv'
    · exact .dead _, hi', Marks.nil _ _⟩
  exact ⟨v, G2, r2, h2, rfl, hE.trans (e1.less hN), by rw [e2]; exact hN, e3.inv, e3.tmp 0, rfl, rfl⟩
theorem xFrz_ok {f : FuncId} {args : List AV} {h0 : List Blk} : ∀ (l : List Nat) {h h2 : List Blk} {r r2 : AV}, (ACalls P f args h0 fun r1 h1 => r1 = r ∧ h1 = h) → xFrz l r h = some (r2, h2) → ACalls P f args h0 fun r1 h1 => r1 = r2 ∧ h1 = h2
  | [], h, h2, r, r2, hc, e => by cases e; exact hc
  | b :: l, h, h2, r, r2, hc, e => by
    unfold xFrz at e
    split at e
    · next cs e1 =>
      split at e
      · next ds e2 =>
        refine xFrz_ok l (ACalls.chg (tl := []) hc fun G w a hs => ?_) e
        refine hs.frzS (b := b) ?_
        simp only [Go.Proofs.YtnedgkfefdldeaaGreatDoor.frzS, e1, e2]
        rfl
      · cases e
    · cases e
theorem unL_some : ∀ {l : List AV} {ds : List D}, unL l = some ds → l = ds.map AV.d
  | [], ds, h => by cases h; rfl
  | x :: l, ds, h => by
    unfold unL at h
    split at h
    · next d r e1 e2 =>
      cases h
      rw [unL_some e2]
      cases x <;> simp [unD] at e1
      subst e1; rfl
    · cases h
theorem unR_some : ∀ {l : List (List AV)} {xs : List (List D)}, unR l = some xs → l = liftD xs
  | [], xs, h => by cases h; rfl
  | x :: l, xs, h => by
    unfold unR at h
    split at h
    · next d r e1 e2 => cases h; rw [unR_some e2, unL_some e1]; rfl
    · cases h
theorem xThw_ok {f : FuncId} {args : List AV} {h0 : List Blk} : ∀ (l : List Nat) {h : List Blk} {r : AV}, (ACalls P f args h0 fun r1 h1 => r1 = r ∧ h1 = h) → ACalls P f args h0 fun r1 h1 => r1 = (xThw l r h).1 ∧ h1 = (xThw l r h).2
  | [], h, r, hc => hc
  | b :: l, h, r, hc => by
    unfold xThw
    split
    · next e k cs e1 =>
      split
      · next xs e2 =>
        rw [AV.force_eq, hSpine_eq, cond_eq_ite]
        split
        · next h1 =>
          refine xThw_ok l (ACalls.chg (tl := []) hc fun G w a hs => ?_)
          have e3 := unR_some e2
          exact hs.frzVA xs (by show h[b]? = _; rw [e1, e3]) (fun c hc => List.all_eq_true.1 h1 c hc)
        · exact xThw_ok l hc
      · exact xThw_ok l hc
    · exact xThw_ok l hc
theorem xRet_ok {f : FuncId} {args : List AV} {h : List Blk} {r r2 : AV} (hc : ACalls P f args [] fun r1 h1 => r1 = r ∧ h1 = h) (e : xRet r h = some r2) (hb : r2.lowB 0 = true) : AFn P f args (· = r2) := by
  have fin : ∀ {r : AV} {h : List Blk}, (ACalls P f args [] fun r1 h1 => r1 = r ∧ h1 = h) → (r.pub 0).lowB 0 = true → AFn P f args (· = r.pub 0) := fun hc hb =>
    (hc.cut 0 (Nat.le_refl _) (Nat.zero_le _) (by simp) hb).mono fun r1 h1 ⟨k1, k2⟩ => ⟨by simpa using k2, k1⟩
  have gen : ∀ {r : AV} {h : List Blk}, (ACalls P f args [] fun r1 h1 => r1 = r ∧ h1 = h) → xRetG r h = some r2 → AFn P f args (· = r2) := fun hc e => by
    unfold xRetG at e
    split at e
    · next r3 h3 e1 =>
      cases e
      exact fin (xFrz_ok _ hc e1) hb
    · cases e
  unfold xRet at e
  rcases bif_or e with ⟨_, e⟩ | ⟨_, e⟩
  · exact gen (xThw_ok _ hc) e
  · exact gen hc e
theorem xPure_ok (hP : NoGor P) (hm : MemoOK P memo) (hr : RunOK P run) {g : FuncId} {args : List AV} {r : AV} (e : xPure run P memo g args = some r) : AFn P g args (· = r) := by
  unfold xPure at e
  split at e
  · next e1 => cases e; exact hm _ _ _ e1
  · split at e
    · next r0 h0 e1 =>
      split at e
      · next r1 e2 =>
        obtain ⟨hb, he⟩ := bif_some e
        cases he
        exact xRet_ok (xBody_ok hP hr e1) e2 hb
      · cases e
    · cases e
theorem quiet_ok {g : FuncId} {args : List AV} {h h' : List Blk} {r : AV} (hc : ACalls P g args h fun r1 h1 => r1 = r ∧ h1 = h') (hf : Frm h.length h h') (ha : args.all (AV.lowB h.length) = true) (hh : h.all (Blk.lowB h.length) = true) (hr : (r.pub h.length).lowB h.length = true) (e : List Blk) :
    ACalls P g args (h ++ e) fun r1 h1 => r1 = r.pub h.length ∧ h1 = h ++ e := by
  have ht : h'.take h.length = h := hf.1.trans (by rw [List.take_length])
  have hp : (h'.take h.length).map (Blk.pub h.length) = h := by rw [ht]; exact blks_pub_low hh
  have h1 := hc.cut h.length (Nat.le_refl _) hf.2 (by rw [hp]; exact hh) hr
  rw [hp] at h1
  have h2 := h1.rq (h := h) (l := List.range h.length) (nodupB_range h.length) (by
    apply List.ext_getElem?
    intro i
    rw [List.getElem?_map, List.getElem?_map]
    by_cases hi : i < h.length
    · rw [List.getElem?_range hi, List.getElem?_eq_getElem hi]
      simp only [Option.map_some]
      rw [List.getElem?_eq_getElem hi, blk_ren_range (List.all_eq_true.1 hh _ (List.getElem_mem hi))]
    · rw [List.getElem?_eq_none (by simpa using hi), List.getElem?_eq_none (by omega)]; rfl) (by rw [ha, hh, hr]; rfl) e
  rw [ren_range hr] at h2
  have ea : args.map (AV.ren (rn (List.range h.length) 0)) = args := (List.map_congr_left fun x hx => ren_range (List.all_eq_true.1 ha x hx)).trans (List.map_id _)
  rw [ea] at h2
  exact h2
theorem xCall_ok (hP : NoGor P) (hm : MemoOK P memo) (hr : RunOK P run) (hF : FrmR run) {dr : Bool} {g : FuncId} {args : List AV} {h h' : List Blk} {r : AV} (e : xCall run P memo lo dr g args h = some (r, h')) :
    ACalls P g args h (fun r1 h1 => r1 = r ∧ h1 = h') ∧ (dr = true → h' = h ∧ ∀ e, ACalls P g args (h ++ e) fun r1 h1 => r1 = r ∧ h1 = h ++ e) := by
  unfold xCall at e
  rcases bif_or e with ⟨hp, e⟩ | ⟨_, e⟩
  · split at e
    · next r0 e1 =>
      obtain ⟨hb, he⟩ := bif_some e
      cases he
      have h0 := xPure_ok hP hm hr e1
      rw [Bool.and_eq_true] at hp
      exact ⟨h0.use hp.1 hb ⟨rfl, rfl⟩, fun _ => ⟨rfl, fun e => h0.use hp.1 hb ⟨rfl, rfl⟩⟩⟩
    · cases e
  · rcases bif_or e with ⟨hd, e⟩ | ⟨hd, e⟩
    · obtain ⟨hb, e⟩ := bif_pos e
      rw [Bool.and_eq_true] at hb
      split at e
      · next r0 h0 e1 =>
        obtain ⟨hl, he⟩ := bif_some e
        cases he
        have k := quiet_ok (xBody_ok hP hr e1) (xBody_frm hF e1 (Nat.le_refl _)) hb.1 hb.2 hl
        refine ⟨?_, fun _ => ⟨rfl, k⟩⟩
        have := k []
        rw [List.append_nil] at this
        exact this
      · cases e
    · exact ⟨xBody_ok hP hr e, fun h => by rw [hd] at h; cases h⟩
theorem xYield_ok (hr : RunOK P run) {o : Oper} {K : St → Prop} {k : Nat} {x : AV} {b : Bool} {h' : List Blk} (e : xYield run lo k x s.h = some (b, h')) (hK : K ((s.wh h').put o.dst (.d (.v (.bool b))))) :
    ∃ p as bd cs, s.h[k]? = some (.lp .ready p as bd cs) ∧ p < cs.length ∧ ∀ (l N0 : Nat), AWp P (some l) N0 as (AThen (fun s1 => ∃ p1 as1 bd1 cs1, s1.h[k]? = some (.lp .ready p1 as1 bd1 cs1) ∧ AWp P (some l) N0 bd (roundC (fun b h' => K ((s.wh h').put o.dst (.d (.v (.bool b))))) k) ⟨s1.n, s1.t, s1.h.set k (.lp .busy p1 as1 bd1 cs1)⟩) (fun _ _ => False)) ⟨cs.length, (p, x) :: enumT 0 cs, s.h⟩ := by
  unfold xYield at e
  obtain ⟨_, e⟩ := bif_pos e
  split at e
  · next p as bd cs hk =>
    obtain ⟨hp, e⟩ := bif_pos e
    rw [leB_iff] at hp
    refine ⟨p, as, bd, cs, hk, hp, fun l N0 => ?_⟩
    split at e
    · next s1 e1 =>
      refine hr _ _ _ _ _ _ e1 _ _ _ (fun h => Bool.noConfusion h) ?_
      split at e
      · next p1 as1 bd1 cs1 hk1 =>
        split at e
        · next ee s2 e2 =>
          refine ⟨p1, as1, bd1, cs1, hk1, hr _ _ _ _ _ _ e2 _ _ _ (fun h => Bool.noConfusion h) ?_⟩
          split at e
          · next p2 as2 bd2 cs2 hk2 =>
            split at e
            · cases e; exact ⟨p2, as2, bd2, cs2, hk2, hK⟩
            · cases e; exact ⟨p2, as2, bd2, cs2, hk2, hK⟩
            · cases e; exact ⟨p2, as2, bd2, cs2, hk2, hK⟩
          · cases e
        · cases e
      · cases e
    · cases e
  · cases e
def aopBM (P : Program) (dr ls : Bool) (o : Oper) (K : St → Prop) (s : St) : Prop := bif dr then aopM ls P o K s else aopN P o K s
theorem xStep_ok (hP : NoGor P) (hm : MemoOK P memo) (hr : RunOK P run) (hF : FrmR run) {dr ls : Bool} {o : Oper} {K : St → Prop} (e : xStep run P memo lo dr ls o s = some s') (hK : K s') : aopBM P dr ls o K s := by
  have plain : xPlain P lo dr o s = some s' → aop P o K s ∨ (dr = true ∧ vOK o = true ∧ aopV P o K s) ∨ (dr = false ∧ (aopV P o K s ∨ aopZ P o K s ∨ aNil P o K s)) := fun e' => by
    unfold xPlain at e'
    split at e'
    · next r e0 =>
      obtain ⟨hb, e0⟩ := bif_pos e0
      rw [Bool.and_eq_true] at hb
      have hd0 : dr = false := by simpa using hb.1
      obtain ⟨x, h, e1, rfl⟩ := xPut_some e'
      obtain ⟨d, e2, hd, rfl⟩ := xHD_some e1
      cases e2
      obtain ⟨a, p, k1, k2⟩ := xopV_sound e0
      exact .inr (.inr ⟨hd0, .inl ⟨a, x, _, p, k1, k2, hK⟩⟩)
    split at e'
    · next r e0 =>
      obtain ⟨x, h, e1, rfl⟩ := xPut_some e'
      obtain ⟨d, e2, hd, rfl⟩ := xHD_some e1
      cases e2
      exact .inl (xop_sound e0 hK)
    · rcases bif_or e' with ⟨hd1, e'⟩ | ⟨hd0, e'⟩
      · obtain ⟨hv, e'⟩ := bif_pos e'
        split at e'
        · next r e0 =>
          obtain ⟨x, h, e1, rfl⟩ := xPut_some e'
          obtain ⟨d, e2, hd, rfl⟩ := xHD_some e1
          cases e2
          obtain ⟨a, p, k1, k2⟩ := xopV_sound e0
          exact .inr (.inl ⟨hd1, hv, a, x, _, p, k1, k2, hK⟩)
        · cases e'
      · split at e'
        · next r e0 =>
          obtain ⟨x, h, e1, rfl⟩ := xPut_some e'
          obtain ⟨d, e2, hd, rfl⟩ := xHD_some e1
          cases e2
          obtain ⟨a, p, k1, k2⟩ := xopV_sound e0
          exact .inr (.inr ⟨hd0, .inl ⟨a, x, _, p, k1, k2, hK⟩⟩)
        · split at e'
          · next e0 =>
            rw [hSpine_eq] at e'
            obtain ⟨x, h, e1, rfl⟩ := xPut_some e'
            cases e1
            exact .inr (.inr ⟨hd0, .inr (.inl ⟨_, _, .inl e0, hK⟩)⟩)
          · split at e'
            · next e0 =>
              obtain ⟨x, h, e1, rfl⟩ := xPut_some e'
              cases e1
              refine .inr (.inr ⟨hd0, .inr (.inr ?_)⟩)
              unfold xNil at e0
              unfold aNil
              split at e0
              · next ho =>
                split at e0
                · next a1 a2 a3 a4 a5 =>
                  cases e0
                  simp only [ho, a1, a2, a3, a4, a5]
                  exact ⟨(by intro h; cases h), hK⟩
                · cases e0
              · cases e0
            · split at e'
              · next e0 =>
                rw [hSpine_eq] at e'
                obtain ⟨x, h, e1, rfl⟩ := xPut_some e'
                cases e1
                exact .inr (.inr ⟨hd0, .inr (.inl ⟨_, _, .inr ⟨_, e0⟩, hK⟩)⟩)
              · cases e'
  have plainD : dr = true → xPlain P lo dr o s = some s' → aop P o K s ∨ (vOK o = true ∧ aopV P o K s) := fun h e' => (plain e').elim .inl fun k => k.elim (fun k => .inr k.2) fun k => by rw [h] at k; cases k.1
  have plainN : dr = false → xPlain P lo dr o s = some s' → aopN P o K s := fun h e' => (plain e').elim (fun k => .inr (.inr (.inl k))) fun k => k.elim (fun k => by rw [h] at k; cases k.1) fun k => k.2.elim .inl fun k => k.elim (fun k => .inr (.inr (.inr (.inr k)))) fun k => .inr (.inl k)
  unfold xStep at e
  split at e
  · next c hop =>
    split at e
    · next f hc =>
      split at e
      · next g caps hf =>
        rcases bif_or e with ⟨hb, e⟩ | ⟨_, e⟩
        · obtain ⟨x, h, e1, rfl⟩ := xPut_some e
          simp only [Bool.and_eq_true, beq_iff_eq] at hb
          obtain ⟨rfl, hk6, _⟩ := hb
          have fr := xBody_frm hF e1 (Nat.le_refl _)
          have hh : h = s.h ++ h.drop s.h.length := by
            conv => lhs; rw [← List.take_append_drop s.h.length h]
            rw [fr.1, List.take_length]
          refine .inr (.inr (.inr ⟨hk6, x, h.drop s.h.length, by rw [← hh]; exact hK, fun C hC => ?_⟩))
          rw [← hh] at hC
          unfold aopC
          simp only [hop, hc, hf]
          exact (xBody_ok hP hr e1).mono fun r1 h1 ⟨a1, a2⟩ => by subst a1; subst a2; exact hC
        rcases bif_or e with ⟨hb, e⟩ | ⟨_, e⟩
        · obtain ⟨x, h, e1, rfl⟩ := xPut_some e
          rw [Bool.and_eq_true] at hb
          obtain ⟨rfl, hl⟩ := hb
          obtain ⟨k1, _⟩ := xCall_ok hP hm hr hF e1
          cases dr with
          | true =>
            refine .inr (.inl ⟨hl, x, h, hK, fun C hC => ?_⟩)
            unfold aopC
            simp only [hop, hc, hf]
            exact k1.mono fun r1 h1 ⟨a1, a2⟩ => by subst a1; subst a2; exact hC
          | false =>
            refine .inr (.inr (.inl ?_))
            unfold aop aopC
            simp only [hop, hc, hf]
            exact k1.mono fun r1 h1 ⟨a1, a2⟩ => by subst a1; subst a2; exact hK
        obtain ⟨x, h, e1, rfl⟩ := xPut_some e
        obtain ⟨k1, k2⟩ := xCall_ok hP hm hr hF e1
        cases dr with
        | true =>
          obtain ⟨rfl, k⟩ := k2 rfl
          refine .inl ?_
          unfold aopD0
          simp only [hop, hc, hf]
          exact ⟨x, hK, k⟩
        | false =>
          refine .inr (.inr (.inl ?_))
          unfold aop aopC
          simp only [hop, hc, hf]
          exact k1.mono fun r1 h1 ⟨a1, a2⟩ => by subst a1; subst a2; exact hK
      · next g cs hf =>
        obtain ⟨x, h, e1, rfl⟩ := xPut_some e
        obtain ⟨k1, k2⟩ := xCall_ok hP hm hr hF e1
        cases dr with
        | true =>
          obtain ⟨rfl, k⟩ := k2 rfl
          refine .inl ?_
          unfold aopD0
          simp only [hop, hc, hf]
          exact ⟨g, cs, rfl, x, hK, k⟩
        | false =>
          refine .inr (.inr (.inl ?_))
          unfold aop aopC
          simp only [hop, hc, hf]
          exact ⟨g, cs, rfl, k1.mono fun r1 h1 ⟨a1, a2⟩ => by subst a1; subst a2; exact hK⟩
      · next k hf =>
        rcases bif_or e with ⟨_, e⟩ | ⟨hd, e⟩
        · cases e
        · split at e
          · next x hx =>
            split at e
            · next b h0 e0 =>
              rw [hSpine_eq] at e
              obtain ⟨x', h', e1, rfl⟩ := xPut_some e
              cases e1
              subst hd
              refine .inr (.inr (.inr (.inl ?_)))
              unfold aopY
              simp only [hop, hc, hf, hx]
              obtain ⟨p, as, bd, cs, q1, q2, q3⟩ := xYield_ok hr e0 hK
              exact ys_of_awp ⟨p, as, bd, cs, q1, q2, fun l => q3 l _⟩
            · cases e
          · cases e
      · cases e
    · next hnc =>
      cases dr with
      | true =>
        rcases plainD rfl e with k | k
        · refine .inl ?_
          unfold aopD0
          simp only [hop]
          exact k
        · exact .inr (.inr (.inl k))
      | false => exact plainN rfl e
  · next hop =>
    cases dr with
    | true =>
      rcases plainD rfl e with k | k
      · refine .inl ?_
        unfold aopD0
        split
        · next c hc => exact (hop c hc).elim
        · exact k
      · exact .inr (.inr (.inl k))
    | false => exact plainN rfl e
theorem xG_ok (hP : NoGor P) (hm : MemoOK P memo) (hr : RunOK P run) (hF : FrmR run) {dr ls : Bool} {ops : Array Oper} {o : Oper} {K : St → Prop} (e : xG run P memo lo dr ls ops o s = some s') (hK : K s') : aGuard ops o s (aopBM P dr ls o K s) (K (s.put o.dst (.d (.v undef)))) := by
  unfold xG at e
  unfold aGuard
  split at e
  · next hg => simp only [hg]; exact xStep_ok hP hm hr hF e hK
  · next j want hg =>
    simp only [hg]
    split at e
    · next d hd =>
      simp only [hd]
      split at e
      · next b hb =>
        simp only [hb]
        rcases bif_or e with ⟨h1, e⟩ | ⟨h1, e⟩
        · have hbw : b = want := by simpa using h1
          exact ⟨fun _ => xStep_ok hP hm hr hF e hK, fun h2 => by subst hbw; cases b <;> cases h2⟩
        · have hbw : b ≠ want := by simpa using h1
          cases e
          exact ⟨fun h2 => (hbw h2).elim, fun _ => hK⟩
      · next hb => simp only [hb]; cases e; exact hK
      · cases e
    · cases e
theorem xOps_ok (hP : NoGor P) (hm : MemoOK P memo) (hr : RunOK P run) (hF : FrmR run) {dr ls : Bool} {ops : Array Oper} {K : St → Prop} : ∀ (l : List Oper) (s s' : St), xOps run P memo lo dr ls ops l s = some s' → K s' → (bif dr then aDrawM ls P ops l K s else aOps P ops l K s)
  | [], s, s', e, hK => by cases e; cases dr <;> exact hK
  | o :: l, s, s', e, hK => by
    unfold xOps at e
    split at e
    · next s1 e1 =>
      have h2 := xOps_ok hP hm hr hF (dr := dr) (ops := ops) l s1 s' e hK
      cases dr with
      | true => exact xG_ok (K := aDrawM ls P ops l K) hP hm hr hF e1 h2
      | false => exact xG_ok (K := aOps P ops l K) hP hm hr hF e1 h2
    · cases e
end
theorem exec_ok {P : Program} {memo : Memo} (hx : P.follows .mixedOrders = true) (hP : NoGor P) (hm : MemoOK P memo) : ∀ n, RunOK P (exec P memo n) := by
  intro n
  induction n using Nat.strongRecOn with
  | _ n IH =>
  cases n with
  | zero => intro fl lo c s e s' h; cases h
  | succ n =>
    have ih := IH n (Nat.lt_succ_self n)
    intro fl lo c s e s' h r N0 Q hfl hQ
    have h0 := h
    rw [exec_succ] at h
    unfold xCode at h
    split at h
    · cases h; exact aw_skip hQ
    · next id ops draw =>
      rcases bif_or h with ⟨hd, h⟩ | ⟨hd, h⟩
      · rcases bif_or h with ⟨hl, h⟩ | ⟨_, h⟩
        · obtain ⟨h1, rfl⟩ := exN_some h
          subst hd
          rw [Bool.and_eq_true, Bool.and_eq_true, beq_iff_eq] at hl
          exact aw_drawP (m := true) _ hx hl.2.1 hl.2.2 (xOps_ok hP hm ih (exec_frm n) (dr := true) (ls := true) (ops := ops) (K := Q .normal) _ _ _ h1 hQ)
        rcases bif_or h with ⟨_, h⟩ | ⟨_, h⟩
        rotate_left
        · obtain ⟨h1, rfl⟩ := exN_some h
          subst hd
          exact aw_any (m := true) hx fun hN h0s => xAll_ok (closedL_ex _) hN h0s (fun o _ s s1 e K1 hK1 => xG_ok (K := K1) (dr := true) (ls := true) hP hm ih (exec_frm n) e hK1) h1 ⟨_, SLe.refl _ _, hQ⟩
        rename_i hl
        obtain ⟨h1, rfl⟩ := exN_some h
        subst hd
        have := aw_draw (P := P) (r := r) (N0 := N0) (Q := Q) (s := s) (id := id) (l := ops.toList) hx (by simpa using hl) (by
          have := xOps_ok hP hm ih (exec_frm n) (dr := true) (ops := ops) (K := Q .normal) _ _ _ h1 hQ
          simpa using this)
        simpa using this
      · obtain ⟨h1, rfl⟩ := exN_some h
        subst hd
        exact aw_region (xOps_ok hP hm ih (exec_frm n) (dr := false) (ops := ops) (K := Q .normal) _ _ _ h1 hQ)
    · refine aw_seq ?_
      split at h
      · next s1 e1 => exact ih _ _ _ _ _ _ e1 _ _ _ hfl (show AWp P r N0 _ Q s1 from ih _ _ _ _ _ _ h _ _ _ hfl hQ)
      · next s1 e1 => cases h; exact ih _ _ _ _ _ _ e1 _ _ _ hfl hQ
      · next s1 e1 => cases h; exact ih _ _ _ _ _ _ e1 _ _ _ hfl hQ
      · cases h
    · split at h
      · next b hb =>
        rcases bif_or h with ⟨ht, h⟩ | ⟨ht, h⟩
        · subst ht; exact aw_cond_t hb (ih _ _ _ _ _ _ h _ _ _ hfl hQ)
        · subst ht; exact aw_cond_f hb (ih _ _ _ _ _ _ h _ _ _ hfl hQ)
      · cases h
    · refine aw_block ?_
      split at h
      · next i s1 e1 =>
        rcases bif_or h with ⟨ht, h⟩ | ⟨ht, h⟩
        · cases h; exact ih _ _ _ _ _ _ e1 _ _ _ hfl (ab_y ht hQ)
        · cases h; exact ih _ _ _ _ _ _ e1 _ _ _ hfl (ab_x ht hQ)
      · next s1 e1 => cases h; exact ih _ _ _ _ _ _ e1 _ _ _ hfl hQ
      · next s1 e1 => cases h; exact ih _ _ _ _ _ _ e1 _ _ _ hfl hQ
      · cases h
    · cases h; exact aw_exit hQ
    · cases h; exact aw_ret hQ
    · next b =>
      clear h ih
      constructor
      intro G w a m hs hN
      refine wpIn_loop_ghost (fun (i : Nat) a' w' => ∃ G' s1, i < n + 1 ∧ exec P memo (i + 1) fl lo (.loop b) s1 = some (e, s') ∧ Ext N0 G w G' w' ∧ N0 ≤ G'.N ∧ Sat G' w' a' s1) id n ⟨G, s, Nat.lt_succ_self n, h0, Ext.refl _ _ _, hN, hs⟩ ?_
      rintro i a' w' ⟨G', s1, hi, h1, hE, hN', hs'⟩
      rw [exec_succ] at h1
      unfold xCode at h1
      have ihi := IH i hi
      refine wpIn_mono ((AWp.run (Q := fun e1 s2 => (e1 = .normal ∧ ∃ i' s3, i' < i ∧ exec P memo (i' + 1) fl lo (.loop b) s3 = some (e, s') ∧ s3.n = s2.n ∧ s3.h = s2.h ∧ ∀ j, tget s3.t j = tget s2.t j ∨ tget s3.t j = .dead) ∨ (e1 ≠ .normal ∧ Q e1 s2)) ?_) G' w' a' m hs' hN') fun e1 a2 w2 hn => ?_
      · simp only at h1
        split at h1
        · next s2 e2 =>
          refine ihi _ _ _ _ _ _ e2 _ _ _ hfl (.inl ⟨rfl, ?_⟩)
          obtain ⟨l', h2, h3⟩ := ddupK_spec s2.t 0 fun t => exec P memo i fl lo (.loop b) ⟨s2.n, t, s2.h⟩
          rw [fNat_eq, h2] at h1
          cases i with
          | zero => cases h1
          | succ i' => exact ⟨i', _, Nat.lt_succ_self _, h1, rfl, rfl, fun j => .inl (by show tget l' j = _; rw [h3]; simp)⟩
        · next s2 e2 => cases h1; exact ihi _ _ _ _ _ _ e2 _ _ _ hfl (.inr ⟨(by intro h; cases h), hQ⟩)
        · next s2 e2 => cases h1; exact ihi _ _ _ _ _ _ e2 _ _ _ hfl (.inr ⟨(by intro h; cases h), hQ⟩)
        · cases h1
      · obtain ⟨G2, s2, hE2, hN2, hs2, hq⟩ := hn
        rcases hq with ⟨rfl, i', s3, hlt, h3, e1, e2, e3⟩ | ⟨hne, hq⟩
        · exact ⟨i', ⟨G2, s3, Nat.lt_trans hlt hi, h3, hE.trans hE2, hN2, hs2.less e1 e2 e3⟩, hlt⟩
        · cases e1 with
          | normal => exact (hne rfl).elim
          | _ => exact ⟨G2, s2, hE.trans hE2, hN2, hs2, hq⟩
    · next g ps assign body =>
      obtain ⟨hf, h5⟩ := bif_pos h
      clear h0 h
      revert h5
      intro h
      have hr0 := hfl hf
      subst hr0
      split at h
      · next p gf caps hps hg =>
        have hps2 : ps = #[p] := by
          have := congrArg List.toArray hps
          simpa using this
        subst hps2
        split at h
        · next r1 h1 e1 =>
          have hc := (xBody_ok hP ih e1).mono fun _ _ hk => hk.2
          split at h
          · next ls p1 as1 bd1 cs1 hk =>
            refine aw_rangeFunc hg hc hk ?_
            split at h
            · rw [hSpine_eq] at h; cases h; exact hQ
            · rw [hSpine_eq] at h; cases h; exact aw_ret hQ
            · rw [hSpine_eq] at h; cases h; exact aw_exit hQ
            · cases h
          · cases h
        · cases h
      · cases h
    · cases h
theorem afn_run {P : Program} {memo : Memo} (hx : P.follows .mixedOrders = true) (hP : NoGor P) (hm : MemoOK P memo) (n : Nat) {g : FuncId} {args : List AV} {r : AV} (e : xPure (exec P memo n) P memo g args = some r) : AFn P g args (· = r) :=
  xPure_ok hP hm (exec_ok hx hP hm n) e
def memo0 : Memo := fun _ _ => none
theorem memo0_ok (P : Program) : MemoOK P memo0 := fun _ _ _ h => by cases h
def tabLook : List (FuncId × List AV × AV) → FuncId → List AV → Option AV
  | [], _, _ => none
  | (f, a, r) :: l, g, args => bif f == g then (bif AV.eqRL id a args then some r else tabLook l g args) else tabLook l g args
def memoT (base : Memo) (l : List (FuncId × List AV × AV)) : Memo := fun g args => match tabLook l g args with
  | some r => some (some r)
  | none => base g args
theorem tabLook_some : ∀ {l : List (FuncId × List AV × AV)} {g : FuncId} {args : List AV} {r : AV}, tabLook l g args = some r → (g, args, r) ∈ l
  | [], _, _, _, h => by cases h
  | (f, a, r0) :: l, g, args, r, h => by
    unfold tabLook at h
    rcases bif_or h with ⟨h1, h⟩ | ⟨_, h⟩
    · rcases bif_or h with ⟨h2, h⟩ | ⟨_, h⟩
      · cases h
        have e := AV.eqRL_eq id a args h2
        rw [renL_id] at e
        rw [beq_iff_eq] at h1
        subst h1; subst e
        exact List.mem_cons_self
      · exact List.mem_cons_of_mem _ (tabLook_some h)
    · exact List.mem_cons_of_mem _ (tabLook_some h)
theorem memoT_ok {P : Program} {base : Memo} {l : List (FuncId × List AV × AV)} (hb : MemoOK P base) (hl : ∀ e ∈ l, AFn P e.1 e.2.1 (· = e.2.2)) : MemoOK P (memoT base l) := fun g args r h => by
  unfold memoT at h
  split at h
  · next r0 e0 => cases h; exact hl _ (tabLook_some e0)
  · exact hb g args r h
end Go.Proofs.YtnedgkfefdldeaaGreatDoor

/-! AbsYield: Iterators that hand out a list, and ranges over them, in whatever company of blocks. -/
namespace Go.Proofs.YtnedgkfefdldeaaGreatDoor
open Go.RowKit
theorem putAll_range : ∀ (H' H e : List Blk), H'.length = H.length → putAll (List.range H.length) H' (H ++ e) = H' ++ e := by
  intro H' H e hl
  have gen : ∀ (n : Nat) (a b B r : List Blk), b.length = n → B.length = n → putAll ((List.range n).map (a.length + ·)) B (a ++ (b ++ r)) = a ++ (B ++ r) := by
    intro n
    induction n with
    | zero => intro a b B r hb hB; rw [List.length_eq_zero_iff.1 hb, List.length_eq_zero_iff.1 hB]; simp [putAll]
    | succ n ih =>
      intro a b B r hb hB
      cases b with
      | nil => simp at hb
      | cons b0 b =>
        cases B with
        | nil => simp at hB
        | cons B0 B =>
          rw [List.range_succ_eq_map, List.map_cons, List.map_map, putAll]
          have e1 : (a ++ (b0 :: b ++ r)).set (a.length + 0) B0 = (a ++ [B0]) ++ (b ++ r) := by
            rw [Nat.add_zero, List.set_append_right _ _ (Nat.le_refl _), Nat.sub_self]
            simp
          have e2 : (fun x => a.length + x) ∘ Nat.succ = fun x => (a ++ [B0]).length + x := by
            funext x
            simp only [Function.comp_apply, List.length_append, List.length_cons, List.length_nil]
            omega
          rw [e1, e2, ih (a ++ [B0]) b B r (by simpa using hb) (by simpa using hB)]
          simp
  have := gen H.length [] H H' e rfl hl
  simpa using this
theorem ys_suffix {P : Program} {k : Nat} {x : AV} {H : List Blk} {C : Bool → List Blk → Prop} (hy : YS P k x H C) (e : List Blk) (hb : H.all (Blk.lowB H.length) = true) (hx : x.lowB H.length = true)
    (hC : ∀ b h', C b h' → h'.length = H.length ∧ h'.all (Blk.lowB H.length) = true) : YS P k x (H ++ e) fun b h' => ∃ H', C b H' ∧ h' = H' ++ e := by
  intro G w v r n hi hv
  have hrb : ∀ i, i < H.length → rn (List.range H.length) (H ++ e).length i = i := fun i h => rn_lt (List.range H.length) _ i i (by rw [List.getElem?_range h])
  have hrx : ∀ y : AV, y.lowB H.length = true → y.ren (rn (List.range H.length) (H ++ e).length) = y := fun y hy => (ren_cong (τ := id) hrb y hy).trans (ren_id y)
  have hrB : ∀ B : Blk, B.lowB H.length = true → B.ren (rn (List.range H.length) (H ++ e).length) = B := fun B hB => (blk_ren_cong (τ := id) hrb B hB).trans (blk_ren_id B)
  obtain ⟨G0, hN0, hi0, hR0, hback⟩ := among_core (H := H) (l := List.range H.length) (h := H ++ e) List.nodup_range (fun j hj => by have := List.mem_range.1 hj; simp; omega) (fun i j hij => by
    obtain ⟨hlt, rfl⟩ : i < H.length ∧ j = i := by
      have h1 := (List.getElem?_eq_some_iff.1 hij).1
      rw [List.length_range] at h1
      rw [List.getElem?_range h1] at hij
      exact ⟨h1, (Option.some.inj hij).symm⟩
    rw [List.getElem?_append_left hlt, List.getElem?_eq_getElem hlt, Option.map_some, hrB _ (List.all_eq_true.1 hb _ (List.getElem_mem hlt))]) (by simp) hb hi
  obtain ⟨hk, p, as, bd, fn, tm, D, h1, h2⟩ := hy G0 w v r n hi0 (VRel.unren hR0 (by rw [hrx x hx]; exact hv) x rfl (by rw [hN0]; exact hx))
  have hk' : k < H.length := hN0 ▸ hk
  have hrho : G.rho k = G0.rho k := by
    have := hR0.rho k hk
    rwa [hrb k hk'] at this
  refine ⟨by have := hR0.lt k hk; rwa [hrb k hk'] at this, p, as, bd, fn, tm, D, by rw [hrho]; exact h1, ?_⟩
  rw [hrho]
  refine h2.mono fun e1 w' hp => ?_
  obtain ⟨b, G1, H', rfl, hE, hN1, hi1, hc⟩ := hp
  rw [hN0] at hE hN1
  obtain ⟨G2, a1, a2, a3, _⟩ := hback G1 w' H' hE hN1 hi1
  obtain ⟨c1, c2⟩ := hC b H' hc
  refine ⟨b, G2, H' ++ e, rfl, a1, a2, ?_, H', hc, rfl⟩
  have hm : H'.map (Blk.ren (rn (List.range H.length) (H ++ e).length)) = H' := (List.map_congr_left fun B hB => hrB B (List.all_eq_true.1 c2 B hB)).trans (List.map_id _)
  rw [hm, putAll_range H' H e c1] at a3
  exact a3
def seqY (P : Program) (k : Nat) : List AV → (Bool → List Blk → Prop) → List Blk → Prop
  | [], C, h => C true h
  | x :: l, C, h => YS P k x h fun b h1 => (h1.length = h.length ∧ h1.all (Blk.lowB h.length) = true) ∧ bif b then seqY P k l C h1 else C false h1
theorem seqY_mono {P : Program} {k : Nat} : ∀ (l : List AV) {C C' : Bool → List Blk → Prop} {h : List Blk}, (∀ b h1, C b h1 → C' b h1) → seqY P k l C h → seqY P k l C' h
  | [], _, _, _, hc, hs => hc _ _ hs
  | x :: l, C, C', h, hc, hs => YS.mono hs fun b h1 ⟨h2, h3⟩ => ⟨h2, by
    cases b with
    | true => exact seqY_mono l hc h3
    | false => exact hc _ _ h3⟩
theorem seqY_append {P : Program} {k : Nat} : ∀ (l l' : List AV) {C : Bool → List Blk → Prop} {h : List Blk}, seqY P k (l ++ l') C h → seqY P k l (fun b h1 => bif b then seqY P k l' C h1 else C false h1) h
  | [], _, _, _, hs => hs
  | x :: l, l', C, h, hs => YS.mono hs fun b h1 ⟨h2, h3⟩ => ⟨h2, by
    cases b with
    | true => exact seqY_append l l' h3
    | false => exact h3⟩
def KeepL (h h1 : List Blk) : Prop := h1.length = h.length ∧ h1.all (Blk.lowB h.length) = true
def IterOK (P : Program) (gf : FuncId) (caps : List AV) (xs : List AV) : Prop :=
  ∀ (k : Nat) (h : List Blk) (C : Bool → List Blk → Prop), h.all (Blk.lowB h.length) = true → k < h.length → seqY P k xs C h → ACalls P gf (.yld k :: caps) h fun _ h1 => ∃ b, C b h1
def zCells (P : Program) (T : TypeId) : List AV := match zeroT P T with | some z => z.cells.toList.map fun u => .d (.v u) | none => []
section
variable {P : Program} {r : Option Nat} {N0 : Nat} {Q : Exit → St → Prop} {ops : Array Oper} {o o1 o2 o3 o4 o5 : Oper} {s : St} {K : St → Prop} {id : Nat}
theorem ao_cons {rest : List Oper} (hg : o.guard = none) (h : aopN P o (aOps P ops rest K) s) : aOps P ops (o :: rest) K s := by
  unfold aOps aGuard; rw [hg]; exact h
theorem op_x {n d : Nat} {t : List (Nat × AV)} {h h' : List Blk} {x : AV} {hd : HD} (hx : xop P o.op (ev ⟨n, t, h⟩) h = some (x, hd)) (hd' : o.dst = some d) (hn : Nat.ble n d = false) (he : hd.app h = h') (hK : K ⟨n, (d, x) :: t, h'⟩) : aopN P o K ⟨n, t, h⟩ := by
  refine .inr (.inr (.inl (xop_sound hx ?_)))
  show K ((St.wh ⟨n, t, h⟩ (hd.app h)).put o.dst x)
  rw [hd', he]
  have hlt : d < n := Nat.lt_of_not_le fun hle => by rw [Nat.ble_eq_true_of_le hle] at hn; cases hn
  rw [put_lt (s := St.wh ⟨n, t, h⟩ h') hlt]
  exact hK
theorem op_s {n d : Nat} {t : List (Nat × AV)} {h : List Blk} {x : AV} (hx : xop P o.op (ev ⟨n, t, h⟩) h = some (x, .same)) (hd' : o.dst = some d) (hn : Nat.ble n d = false) (hK : K ⟨n, (d, x) :: t, h⟩) : aopN P o K ⟨n, t, h⟩ := op_x hx hd' hn rfl hK
theorem op_x0 {n : Nat} {t : List (Nat × AV)} {h h' : List Blk} {x : AV} {hd : HD} (hx : xop P o.op (ev ⟨n, t, h⟩) h = some (x, hd)) (hd' : o.dst = none) (he : hd.app h = h') (hK : K ⟨n, t, h'⟩) : aopN P o K ⟨n, t, h⟩ := by
  refine .inr (.inr (.inl (xop_sound hx ?_)))
  show K ((St.wh ⟨n, t, h⟩ (hd.app h)).put o.dst x)
  rw [hd', he]
  exact hK
theorem cx_at {h l : List Blk} {i off : Nat} {cs : List AV} (hi : l[i]? = some (.cells cs)) : rAt (h ++ l) (.ptr (h.length + i) off) = some (cs, off) := by
  unfold rAt
  simp only
  rw [List.getElem?_append_right (Nat.le_add_right _ _), Nat.add_sub_cancel_left, hi]
theorem cx_load {ρ : Operand → AV} {h l : List Blk} {T : TypeId} {p : Operand} {i off : Nat} {cs : List AV} {x : AV} (hp : ρ p = .ptr (h.length + i) off) (hi : l[i]? = some (.cells cs)) (hl : rLoad P T cs off = some x) : xop P (.load T p) ρ (h ++ l) = some (x, .same) := by
  unfold xop
  simp only [hp, cx_at hi, hl, pX]
theorem cx_box {ρ : Operand → AV} {h l : List Blk} {T : TypeId} {y : Operand} {v : AV} (hv : ρ y = v) (hb : v.boxB = true) : xop P (.box T y) ρ (h ++ l) = some (.ptr (h.length + l.length) 0, .push (.cells v.cells)) := by
  subst hv
  unfold xop
  simp only [hb, cond_true, List.length_append]
theorem cx_alloc {ρ : Operand → AV} {h l : List Blk} {T : TypeId} (hz : (zeroT P T).isSome = true) : xop P (.alloc T) ρ (h ++ l) = some (.ptr (h.length + l.length) 0, .push (.cells (zCells P T))) := by
  unfold xop zCells
  cases e : zeroT P T with
  | none => rw [e] at hz; cases hz
  | some z => simp only [e, List.length_append]
theorem cx_push {h l : List Blk} {B : Blk} : (HD.push B).app (h ++ l) = h ++ (l ++ [B]) := by simp [HD.app]
theorem cx_store {ρ : Operand → AV} {h l : List Blk} {T : TypeId} {p y : Operand} {i off k : Nat} {cs : List AV} {v : AV} (hp : ρ p = .ptr (h.length + i) off) (hi : l[i]? = some (.cells cs)) (hk : szT P T = some k) (hv : ρ y = v) (hb : (k == v.cells.length && v.boxB && leB (off + v.cells.length) cs.length) = true) {cs' : List AV} (hcs : splice cs off v.cells = cs') :
    xop P (.store T p y) ρ (h ++ l) = some (.d (.v undef), .set (h.length + i) (.cells cs')) := by
  subst hv hcs
  unfold xop
  simp only [hp, hk]
  rw [List.getElem?_append_right (Nat.le_add_right _ _), Nat.add_sub_cancel_left, hi]
  simp only [hb, cond_true]
theorem cx_index {ρ : Operand → AV} {h : List Blk} {T : TypeId} {a i : Operand} {xs : List (List D)} {q e k : Nat} {c : List D} (hx : ρ a = .d (.sl xs)) (hi : ρ i = .d (.v (.int .i64 (Int.ofNat q)))) (hT : elmT P T = some (e, k)) (hc : xs[q]? = some c) (hk : (c.length == k) = true) : xop P (.indexAddr T a i) ρ h = some (.elt [c] 0 0, .same) := by
  unfold xop
  simp only [hx, hi]
  unfold xIndexAddr
  simp only [hT, AV.list?, AV.int?, zN, hc, hk, cond_true, pX]
theorem cx_set {h l : List Blk} {B : Blk} {i : Nat} : (HD.set (h.length + i) B).app (h ++ l) = h ++ l.set i B := by
  simp only [HD.app]
  rw [List.set_append_right _ _ (Nat.le_add_right _ _), Nat.add_sub_cancel_left]
theorem op_nil {n d : Nat} {t : List (Nat × AV)} {h : List Blk} {T : TypeId} {x y : Operand} {p : TypeId} {xs : List (List D)} {q : TypeId × Nat} (ho : o.op = .binOp .eql T x y p) (hx : (ev ⟨n, t, h⟩ x).list? = some xs) (hy : ev ⟨n, t, h⟩ y = .d (.v (.slice none 0 0))) (hT : elmT P T = some q) (hd' : o.dst = some d) (hn : Nat.ble n d = false)
    (h1 : xs = [] → K ⟨n, (d, .d (.v (.bool true))) :: t, h⟩) (h2 : K ⟨n, (d, .d (.v (.bool false))) :: t, h⟩) : aopN P o K ⟨n, t, h⟩ := by
  refine .inr (.inl ?_)
  have hlt : d < n := Nat.lt_of_not_le fun hle => by rw [Nat.ble_eq_true_of_le hle] at hn; cases hn
  unfold aNil
  simp only [ho, hx, hy, hT, eqV, hd', put_lt (s := ⟨n, t, h⟩) hlt]
  exact ⟨h1, h2⟩
theorem op_yield {n d k : Nat} {t : List (Nat × AV)} {h : List Blk} {c : Call} {f : Operand} {x : AV} (ho : o.op = .call c) (hc : c.callee = .value f) (hf : ev ⟨n, t, h⟩ f = .yld k) (hx : c.args.toList.map (ev ⟨n, t, h⟩) = [x]) (hd' : o.dst = some d) (hn : Nat.ble n d = false)
    (hy : YS P k x h fun b h' => K ⟨n, (d, .d (.v (.bool b))) :: t, h'⟩) : aopN P o K ⟨n, t, h⟩ := by
  refine .inr (.inr (.inr (.inl ?_)))
  unfold aopY
  simp only [ho, hc, hf, hx]
  refine hy.mono fun b h' hK => ?_
  have hlt : d < n := Nat.lt_of_not_le fun hle => by rw [Nat.ble_eq_true_of_le hle] at hn; cases hn
  rw [hd', put_lt (s := St.wh ⟨n, t, h⟩ h') hlt]
  exact hK
theorem op_call {n : Nat} {t : List (Nat × AV)} {h : List Blk} {c : Call} {f : Operand} {g : FuncId} {caps : List AV} (ho : o.op = .call c) (hc : c.callee = .value f) (hf : ev ⟨n, t, h⟩ f = .fn g caps)
    (hA : ACalls P g (c.args.toList.map (ev ⟨n, t, h⟩) ++ caps) h fun x h' => K ((St.wh ⟨n, t, h⟩ h').put o.dst x)) : aopN P o K ⟨n, t, h⟩ := by
  refine .inr (.inr (.inl ?_))
  unfold aop aopC
  simp only [ho, hc, hf]
  exact hA
end
theorem acalls_suffix {P : Program} {f : FuncId} {args : List AV} {H : List Blk} {K : AV → List Blk → Prop} (hc : ACalls P f args H K) (e : List Blk) (hb : H.all (Blk.lowB H.length) = true) (ha : args.all (AV.lowB H.length) = true)
    (hK : ∀ r h', K r h' → h'.length = H.length ∧ h'.all (Blk.lowB H.length) = true ∧ r.lowB H.length = true) : ACalls P f args (H ++ e) fun r h' => ∃ H', K r H' ∧ h' = H' ++ e := by
  have hrb : ∀ i, i < H.length → rn (List.range H.length) (H ++ e).length i = i := fun i h => rn_lt (List.range H.length) _ i i (by rw [List.getElem?_range h])
  have hrx : ∀ y : AV, y.lowB H.length = true → y.ren (rn (List.range H.length) (H ++ e).length) = y := fun y hy => (ren_cong (τ := id) hrb y hy).trans (ren_id y)
  have hrB : ∀ B : Blk, B.lowB H.length = true → B.ren (rn (List.range H.length) (H ++ e).length) = B := fun B hB => (blk_ren_cong (τ := id) hrb B hB).trans (blk_ren_id B)
  have := hc.among (l := List.range H.length) (h := H ++ e) List.nodup_range (fun j hj => by have := List.mem_range.1 hj; simp; omega) (fun i j hij => by
    obtain ⟨hlt, rfl⟩ : i < H.length ∧ j = i := by
      have h1 := (List.getElem?_eq_some_iff.1 hij).1
      rw [List.length_range] at h1
      rw [List.getElem?_range h1] at hij
      exact ⟨h1, (Option.some.inj hij).symm⟩
    rw [List.getElem?_append_left hlt, List.getElem?_eq_getElem hlt, Option.map_some, hrB _ (List.all_eq_true.1 hb _ (List.getElem_mem hlt))]) (by simp) ha hb
  have ea : args.map (AV.ren (rn (List.range H.length) (H ++ e).length)) = args := (List.map_congr_left fun x hx => hrx x (List.all_eq_true.1 ha x hx)).trans (List.map_id _)
  rw [ea] at this
  refine this.mono fun r' h' ⟨r, H', k1, k2, k3⟩ => ?_
  obtain ⟨c1, c2, c3⟩ := hK r H' k1
  have hm : H'.map (Blk.ren (rn (List.range H.length) (H ++ e).length)) = H' := (List.map_congr_left fun B hB => hrB B (List.all_eq_true.1 c2 B hB)).trans (List.map_id _)
  rw [hm, putAll_range H' H e c1] at k3
  rw [hrx r c3] at k2
  exact ⟨H', by rw [k2]; exact k1, k3⟩
theorem atPtr_mono {h : List Blk} {p : AV} {K K' : List AV → Nat → Prop} (hk : ∀ cs off, K cs off → K' cs off) (hp : atPtr h p K) : atPtr h p K' := by
  unfold atPtr at hp ⊢
  split at hp
  · next n off =>
    split at hp
    · next cs e => (try simp only [e]); exact hk _ _ hp
    · exact hp.elim
  · next xs i off =>
    split at hp
    · next cs e => (try simp only [e]); exact hk _ _ hp
    · exact hp.elim
  · exact hp.elim
theorem aLoad_mono {P : Program} {T : TypeId} {h : List Blk} {p : AV} {K K' : AV → Prop} (hk : ∀ x, K x → K' x) (hp : aLoad P T h p K) : aLoad P T h p K' :=
  atPtr_mono (fun cs off hc => by
    split at hc
    · next k e1 e2 =>
      try simp only [e1, e2]
      exact chk_iff.2 ⟨(chk_iff.1 hc).1, hk _ (chk_iff.1 hc).2⟩
    · next k e1 e2 =>
      try simp only [e1, e2]
      split at hc
      · next c e3 => (try simp only [e3]); exact hk _ hc
      · exact hc.elim
    · exact hc.elim) hp
theorem ret_suffix {P : Program} {fn : Func} {n : Nat} {t : List (Nat × AV)} {H l : List Blk} {K : AV → List Blk → Prop} (hb : H.all (Blk.lowB H.length) = true) (hr : aResults P ⟨n, t, H ++ l⟩ fn.results.toList fun rs => ((tupOf rs).pub H.length).lowB H.length = true ∧ K ((tupOf rs).pub H.length) H) : aRet P fn H.length K ⟨n, t, H ++ l⟩ := by
  have ht : (((H ++ l).take H.length).map (Blk.pub H.length)) = H := by rw [List.take_left]; exact blks_pub_low hb
  unfold aRet
  show aResults P ⟨n, t, H ++ l⟩ fn.results.toList fun rs => H.length ≤ (H ++ l).length ∧ _
  simp only [ht]
  have gen : ∀ (rv : List ResultVar) {C C' : List AV → Prop}, (∀ x, C x → C' x) → aResults P ⟨n, t, H ++ l⟩ rv C → aResults P ⟨n, t, H ++ l⟩ rv C' := by
    intro rv
    induction rv with
    | nil => intro C C' hc h; exact hc _ h
    | cons x rv ih =>
      intro C C' hc h
      cases x with
      | tmp t => exact ih (fun y hy => hc _ hy) h
      | cell p t => exact aLoad_mono (fun x h => ih (fun y hy => hc _ hy) h) h
  exact gen _ (fun rs ⟨h1, h2⟩ => ⟨by simp, h1, hb, h2⟩) hr
theorem mask_suffix {n : Nat} {t : List (Nat × AV)} {H l : List Blk} (live : List Nat) (hb : H.all (Blk.lowB H.length) = true) : (⟨n, t, H ++ l⟩ : St).mask live H.length = ⟨n, live.map fun k => (k, (tget t k).pub H.length), H⟩ := by
  unfold St.mask
  rw [show ((H ++ l).take H.length).map (Blk.pub H.length) = H by rw [List.take_left]; exact blks_pub_low hb]
theorem okMask_suffix {n : Nat} {t : List (Nat × AV)} {H l : List Blk} (live : List Nat) (hb : H.all (Blk.lowB H.length) = true) (hl : (live.all fun k => ((tget t k).pub H.length).lowB H.length) = true) : (⟨n, t, H ++ l⟩ : St).okMask live H.length :=
  ⟨by simp, hl, by rw [show ((H ++ l).take H.length).map (Blk.pub H.length) = H by rw [List.take_left]; exact blks_pub_low hb]; exact hb⟩
theorem mask_same {n : Nat} {t : List (Nat × AV)} {H : List Blk} (live : List Nat) (hb : H.all (Blk.lowB H.length) = true) : (⟨n, t, H⟩ : St).mask live H.length = ⟨n, live.map fun k => (k, (tget t k).pub H.length), H⟩ := by
  have := mask_suffix (n := n) (t := t) (l := []) live hb
  rwa [List.append_nil] at this
theorem okMask_same {n : Nat} {t : List (Nat × AV)} {H : List Blk} (live : List Nat) (hb : H.all (Blk.lowB H.length) = true) (hl : (live.all fun k => ((tget t k).pub H.length).lowB H.length) = true) : (⟨n, t, H⟩ : St).okMask live H.length := by
  have := okMask_suffix (n := n) (t := t) (l := []) live hb hl
  rwa [List.append_nil] at this
theorem yld_low {k m : Nat} (h : k < m) : ((AV.yld k).pub m).lowB m = true := by simp [AV.pub, AV.lowB, leB]; omega
theorem awp_post {P : Program} {r : Option Nat} {N0 m : Nat} {c : Code} {s : St} {R R' : Exit → St → Prop} {live : List Nat} (hm : N0 ≤ m) (h : AWp P r N0 c R s) (hR : ∀ e s2, R e s2 → ∃ s', cutS s2 live m = some s' ∧ R' e s') : AWp P r N0 c R' s := by
  constructor
  intro G w a n hs hN
  refine wpIn_mono (h.run G w a n hs hN) fun e a1 w1 hn => ?_
  obtain ⟨G1, s1, hE, _, hs1, hq⟩ := hn
  obtain ⟨s', k1, k2⟩ := hR e s1 hq
  exact ⟨G1.cut m, s', hE.trans (ext_cut _ _ _ _), hm, hs1.cutS k1, k2⟩
def roundL (m : Nat) (n : Nat) (T : List (Nat × AV)) (LP : Blk) (next : List Blk → Prop) (Q : Exit → St → Prop) (e : Exit) (s : St) : Prop :=
  ∃ hs, hs.length = m ∧ hs.all (Blk.lowB (m + 1)) = true ∧ cutS s [] (m + 1) = some ⟨s.n, [], hs ++ [LP]⟩ ∧ match e with
    | .normal => next hs
    | .ret => Q .ret ⟨n, T, hs ++ [.gone]⟩
    | .exit i => Q (.exit i) ⟨n, T, hs ++ [.gone]⟩
    | _ => False
theorem aw_rangeL {P : Program} {N0 n m : Nat} {T : List (Nat × AV)} {H : List Blk} {Q : Exit → St → Prop} {g : Operand} {p : Nat} {as bd : Code} {gf : FuncId} {caps : List AV} (hg : ev ⟨n, T, H⟩ g = .fn gf caps) {α : Type} {enc : α → AV} {xs : List α} (hI : IterOK P gf caps (xs.map enc))
    {ι : Type} (Hs : ι → List Blk) (I : ι → List α → Prop) (i0 : ι) (h0 : H = Hs i0) (hi0 : I i0 xs) (hl : ∀ i, (Hs i).length = m) (hlow : ∀ i, (Hs i).all (Blk.lowB (m + 1)) = true) (hT : (denseT n T).all (AV.lowB (m + 1)) = true) (hp : Nat.ble n p = false)
    (round : ∀ i x l, I i (x :: l) → ∀ (rr : Nat) (a b : Code), AWp P (some rr) (m + 1) as (AThen (fun s1 => ∃ hs e, hs.length = m ∧ s1.h = hs ++ .lp .ready p a b (denseT n T) :: e ∧
      AWp P (some rr) (m + 1) bd (roundL m n T (.lp .busy p a b (denseT n T)) (fun hs' => ∃ i', hs' = Hs i' ∧ I i' l) Q) ⟨s1.n, s1.t, hs ++ .lp .busy p a b (denseT n T) :: e⟩) (fun _ _ => False)) ⟨n, (p, enc x) :: enumT 0 (denseT n T), Hs i ++ [.lp .ready p a b (denseT n T)]⟩)
    (done : ∀ i, I i [] → Q .normal ⟨n, T, Hs i ++ [.gone]⟩) : AWp P none N0 (.rangeFunc g #[p] as bd) Q ⟨n, T, H⟩ := by
  subst h0
  have hm : (Hs i0).length = m := hl i0
  have hnl : (denseT n T).length = n := by simp [denseT]
  have hlp : ∀ ls, (Blk.lp ls p as bd (denseT n T)).lowB (m + 1) = true := fun ls => hT
  refine aw_rangeK hg ?_
  show ACalls P gf (.yld (Hs i0).length :: caps) (Hs i0 ++ [.lp .ready p as bd (denseT n T)]) _
  have hset : ∀ (hs : List Blk) (B B' : Blk), hs.length = m → (hs ++ [B]).set m B' = hs ++ [B'] := fun hs B B' h => by
    rw [List.set_append_right _ _ (Nat.le_of_eq h), h, Nat.sub_self]; rfl
  have hget : ∀ (hs : List Blk) (B : Blk) (e : List Blk), hs.length = m → (hs ++ B :: e)[m]? = some B := fun hs B e h => by
    rw [List.getElem?_append_right (Nat.le_of_eq h), h, Nat.sub_self]; rfl
  have seq : ∀ (l : List α) (i : ι), I i l → seqY P m (l.map enc) (fun b h1 => ∃ (hs : List Blk) (ls : LS), hs.length = m ∧ h1 = hs ++ [.lp ls p as bd (denseT n T)] ∧ rngK P N0 Q ⟨n, T, hs ++ [.gone]⟩ ls) (Hs i ++ [.lp .ready p as bd (denseT n T)]) := by
    intro l
    induction l with
    | nil => intro i hi; exact ⟨Hs i, .ready, hl i, rfl, done i hi⟩
    | cons x l ih =>
      intro i hi
      have hlen : (Hs i ++ [Blk.lp .ready p as bd (denseT n T)]).length = m + 1 := by simp [hl i]
      refine ys_of_awp ⟨p, as, bd, denseT n T, hget _ _ [] (hl i), ?_, fun rr => ?_⟩
      · rw [hnl]; exact Nat.lt_of_not_le fun hle => by rw [Nat.ble_eq_true_of_le hle] at hp; cases hp
      · rw [hlen, hnl]
        refine (round i x l hi rr as bd).mono fun e s1 hs1 => ?_
        cases e with
        | normal =>
          obtain ⟨hs, e', k1, k2, k3⟩ := hs1
          refine ⟨p, as, bd, denseT n T, by rw [k2]; exact hget _ _ _ k1, ?_⟩
          have hse : s1.h.set m (.lp .busy p as bd (denseT n T)) = hs ++ .lp .busy p as bd (denseT n T) :: e' := by
            rw [k2, List.set_append_right _ _ (Nat.le_of_eq k1), k1, Nat.sub_self]; rfl
          rw [hse]
          refine awp_post (live := []) (Nat.le_refl _) k3 fun e2 s2 hr => ?_
          obtain ⟨hs2, c2, c5, c3, c4⟩ := hr
          refine ⟨_, c3, ?_⟩
          have hall : ∀ B, B.lowB (m + 1) = true → (hs2 ++ [B]).all (Blk.lowB (m + 1)) = true := fun B hB => by
            rw [List.all_append, c5]
            simp [hB]
          have hg2 : (hs2 ++ [Blk.lp .busy p as bd (denseT n T)])[m]? = some (.lp .busy p as bd (denseT n T)) := hget _ _ [] c2
          cases e2 with
          | normal =>
            obtain ⟨i', rfl, hi'⟩ := c4
            refine ⟨p, as, bd, denseT n T, hg2, ?_⟩
            simp only [hset _ _ _ c2]
            exact ⟨⟨by simp [hl], hall _ (hlp _)⟩, ih i' hi'⟩
          | ret =>
            refine ⟨p, as, bd, denseT n T, hg2, ?_⟩
            simp only [hset _ _ _ c2]
            exact ⟨⟨by simp [c2], hall _ (hlp _)⟩, hs2, .done .ret, c2, rfl, aw_ret c4⟩
          | exit j =>
            refine ⟨p, as, bd, denseT n T, hg2, ?_⟩
            simp only [hset _ _ _ c2]
            exact ⟨⟨by simp [c2], hall _ (hlp _)⟩, hs2, .done (.exit j), c2, rfl, aw_exit c4⟩
          | _ => exact c4.elim
        | _ => exact hs1.elim
  have hlen0 : (Hs i0 ++ [Blk.lp .ready p as bd (denseT n T)]).length = m + 1 := by simp [hm]
  refine (hI (Hs i0).length _ _ (by rw [hlen0, List.all_append, hlow i0]; simp [hlp]) (by rw [hlen0, hm]; exact Nat.lt_succ_self m) (by rw [hm]; exact seq xs i0 hi0)).mono fun _ h1 hb => ?_
  obtain ⟨b, hs, ls, k1, rfl, k2⟩ := hb
  refine ⟨ls, p, as, bd, denseT n T, ?_, ?_⟩
  · show (hs ++ [Blk.lp ls p as bd (denseT n T)])[(Hs i0).length]? = _
    rw [hm]; exact hget _ _ [] k1
  · show rngK P N0 Q ⟨n, T, (hs ++ [Blk.lp ls p as bd (denseT n T)]).set (Hs i0).length .gone⟩ ls
    rw [hm, hset _ _ _ k1]
    exact k2
section
variable {m n : Nat} {T : List (Nat × AV)} {LP : Blk} {next : List Blk → Prop} {Q : Exit → St → Prop} {s : St}
theorem rl_n (hs : List Blk) (hl : hs.length = m) (hb : hs.all (Blk.lowB (m + 1)) = true) (hc : cutS s [] (m + 1) = some ⟨s.n, [], hs ++ [LP]⟩) (hn : next hs) : roundL m n T LP next Q .normal s := ⟨hs, hl, hb, hc, hn⟩
theorem rl_r (hs : List Blk) (hl : hs.length = m) (hb : hs.all (Blk.lowB (m + 1)) = true) (hc : cutS s [] (m + 1) = some ⟨s.n, [], hs ++ [LP]⟩) (hq : Q .ret ⟨n, T, hs ++ [.gone]⟩) : roundL m n T LP next Q .ret s := ⟨hs, hl, hb, hc, hq⟩
theorem rl_x {i : Nat} (hs : List Blk) (hl : hs.length = m) (hb : hs.all (Blk.lowB (m + 1)) = true) (hc : cutS s [] (m + 1) = some ⟨s.n, [], hs ++ [LP]⟩) (hq : Q (.exit i) ⟨n, T, hs ++ [.gone]⟩) : roundL m n T LP next Q (.exit i) s := ⟨hs, hl, hb, hc, hq⟩
end
end Go.Proofs.YtnedgkfefdldeaaGreatDoor

/-! AbsTree: Regions that draw their order, worked out by computation in every order that matters: all ends are one, up to the numbers of new blocks. -/
namespace Go.Proofs.YtnedgkfefdldeaaGreatDoor
open Go.RowKit
set_option linter.unusedSimpArgs false
set_option linter.unusedVariables false
abbrev Lf := St × List Nat × List (Nat × List (In × Out))
def catT (go : Nat → Option (List Lf)) : List Nat → Option (List Lf)
  | [] => some []
  | k :: r => match go k with
    | some a => match catT go r with
      | some b => some (a ++ b)
      | none => none
    | none => none
def rTree (P : Program) (ops : Array Oper) (A C : List Nat) (as : List (Nat × Out)) : Nat → Nat → List Nat → List (Nat × List (In × Out)) → St → Option (List Lf)
  | 0, L, al, acc, s => match rdyL A L 0 with
    | [] => some [(s, al, acc)]
    | _ => none
  | f + 1, L, al, acc, s => match rdyL A L 0 with
    | [] => some [(s, al, acc)]
    | k0 :: r => catT (fun k => match ops[k]? with
        | some o => match runG P ops true o k as s with
          | some (s1, l) => fN (L ||| (1 <<< k)) fun L => rTree P ops A C as f L (al ++ List.replicate (s1.h.length - s.h.length) k) ((k, l) :: acc) s1
          | none => none
        | none => none) (match freeK C L (k0 :: r) with
          | some k => [k]
          | none => k0 :: r)
theorem catT_mem {go : Nat → Option (List Lf)} : ∀ {l : List Nat} {ls : List Lf}, catT go l = some ls → ∀ k ∈ l, ∃ a, go k = some a ∧ ∀ x ∈ a, x ∈ ls
  | [], _, _, k, hk => by cases hk
  | j :: r, ls, h, k, hk => by
    unfold catT at h
    split at h
    · next a e1 =>
      split at h
      · next b e2 =>
        cases h
        rcases List.mem_cons.1 hk with rfl | hk
        · exact ⟨a, e1, fun x hx => List.mem_append_left _ hx⟩
        · obtain ⟨a', e3, h3⟩ := catT_mem e2 k hk
          exact ⟨a', e3, fun x hx => List.mem_append_right _ (h3 x hx)⟩
      · cases h
    · cases h
section
variable {P : Program} {ops : Array Oper} {as : List (Nat × Out)} {K : St → Prop} {s0 : St}
theorem runG_bas {o : Oper} {j : Nat} {dr : Bool} {s s1 : St} {l : List (In × Out)} (h : runG P ops dr o j as s = some (s1, l)) (ho : o ∈ ops.toList) (hB : Bas (dsts ops.toList) s0 s) : Bas (dsts ops.toList) s0 s1 := by
  have cI : ∀ {i a r l}, consI i a r = some (s1, l) → ∃ m, r = some (s1, m) := fun {i a r l} h => by
    unfold consI at h
    split at h
    · exact ⟨_, h⟩
    · split at h
      · cases h; exact ⟨_, rfl⟩
      · cases h
  have cR : ∀ {m r l}, catR m r = some (s1, l) → ∃ m, r = some (s1, m) := fun {m r l} h => by
    unfold catR at h
    split at h
    · cases h; exact ⟨_, rfl⟩
    · cases h
  have hsk : Bas (dsts ops.toList) s0 (skipS o s) := hB.put s.h (.d (.v undef)) (dsts_mem ho)
  have st : ∀ l, runStep P dr o j as s = some (s1, l) → Bas (dsts ops.toList) s0 s1 := fun l h => by
    unfold runStep at h
    cases hd : dr && isH (look as (3 * j + 1)) with
    | true => rw [hd] at h; cases h
    | false =>
      rw [hd] at h
      simp only [cond_false] at h
      split at h
      · split at h <;> (obtain ⟨m, e⟩ := cI h; cases e; exact hB.put _ _ (dsts_mem ho))
      · cases h
  unfold runG at h
  split at h
  · exact st _ h
  · split at h
    · obtain ⟨m, e⟩ := cR h
      revert e
      generalize ((_ : Bool) == _) = q
      intro e
      cases q with
      | true => exact st _ e
      | false => cases e; exact hsk
    · obtain ⟨m, e⟩ := cR h
      cases e; exact hsk
    · cases h
theorem rTree_ok (hK : Closed K) (hM : certOK (Region.before ops) ops = true) (t0 : List (Nat × AV)) :
    ∀ (fuel L : Nat) (listed : Array Bool) (al : List Nat) (acc : List (Nat × List (In × Out))) (s : St) (ls : List Lf), LM ops L listed → Dn ops listed → rTree P ops (afL ops 0 ops.size) (cfL ops false (Region.before ops) 0 ops.size) as fuel L al acc s = some ls →
      (∃ x, x ∈ ls) ∧ (∀ x ∈ ls, (∀ p ∈ acc, p ∈ x.2.2) ∧ ((∃ pre, s.t = pre ++ t0) → ∃ pre, x.1.t = pre ++ t0) ∧ (Bas (dsts ops.toList) s0 s → Bas (dsts ops.toList) s0 x.1)) ∧ ((∀ x ∈ ls, (∀ p ∈ x.2.2, AllOK P p.2) ∧ K x.1) → aAny false P ops K fuel listed s)
  | 0, L, listed, al, acc, s, ls, hL, hD, h => by
    unfold rTree at h
    split at h
    · next hr =>
      cases h
      refine ⟨⟨_, List.mem_cons_self⟩, fun x hx => ?_, fun hk => ⟨?_, (hk _ List.mem_cons_self).2⟩⟩
      · rw [List.mem_singleton] at hx; subst hx; exact ⟨fun _ h => h, fun h => h, fun h => h⟩
      · rw [List.eq_nil_iff_forall_not_mem]
        intro i hi
        have := (hL.ready i).1 hi
        rw [hr] at this; cases this
    · cases h
  | fuel + 1, L, listed, al, acc, s, ls, hL, hD, h => by
    have mem : ∀ {k : Nat} {o : Oper}, ops[k]? = some o → o ∈ ops.toList := fun ho => Array.mem_toList_iff.2 (Array.mem_of_getElem? ho)
    unfold rTree at h
    split at h
    · next hr =>
      cases h
      refine ⟨⟨_, List.mem_cons_self⟩, fun x hx => ?_, fun hk => ⟨fun _ => (hk _ List.mem_cons_self).2, fun i hi => ?_⟩⟩
      · rw [List.mem_singleton] at hx; subst hx; exact ⟨fun _ h => h, fun h => h, fun h => h⟩
      · have := (hL.ready i).1 hi
        rw [hr] at this; cases this
    · next k0 r hr =>
      generalize hgo : (fun k : Nat => (match ops[k]? with
        | some o => match runG P ops true o k as s with
          | some (s1, l) => fN (L ||| (1 <<< k)) fun L => rTree P ops (afL ops 0 ops.size) (cfL ops false (Region.before ops) 0 ops.size) as fuel L (al ++ List.replicate (s1.h.length - s.h.length) k) ((k, l) :: acc) s1
          | none => none
        | none => none : Option (List Lf))) = go at h
      have one : ∀ k a, k ∈ Region.ready .any ops listed → go k = some a → ∃ o s1 l, ops[k]? = some o ∧ runG P ops true o k as s = some (s1, l) ∧ (∃ x, x ∈ a) ∧ (∀ x ∈ a, (∀ p ∈ (k, l) :: acc, p ∈ x.2.2) ∧ ((∃ pre, s.t = pre ++ t0) → ∃ pre, x.1.t = pre ++ t0) ∧ (Bas (dsts ops.toList) s0 s → Bas (dsts ops.toList) s0 x.1)) ∧
          ((∀ x ∈ a, (∀ p ∈ x.2.2, AllOK P p.2) ∧ K x.1) → ∃ y h1, OutG false P ops o s y h1 ∧ aAny false P ops K fuel (listed.setIfInBounds k true) ((s.wh h1).put o.dst y)) := fun k a hrk hga => by
        rw [← hgo] at hga
        simp only at hga
        split at hga
        · next o ho =>
          split at hga
          · next s1 l hg =>
            rw [fN_eq] at hga
            obtain ⟨h1, h2, h3⟩ := rTree_ok hK hM t0 fuel _ _ _ _ s1 a (hL.set (Array.getElem?_eq_some_iff.1 ho).1) (hD.set hrk) hga
            refine ⟨o, s1, l, ho, hg, h1, fun x hx => ⟨(h2 x hx).1, fun ⟨pre, hp⟩ => ?_, fun hB => (h2 x hx).2.2 (runG_bas hg (mem ho) hB)⟩, fun hk => ?_⟩
            · obtain ⟨⟨p1, e1⟩, _⟩ := runG_pre hg
              exact (h2 x hx).2.1 ⟨p1 ++ pre, by rw [e1, hp, List.append_assoc]⟩
            · obtain ⟨x, hx⟩ := h1
              have hl : AllOK P l := (hk x hx).1 (k, l) ((h2 x hx).1 _ List.mem_cons_self)
              have h4 := runG_sound (K := (· = s1)) hg hl rfl
              have h5 := h3 hk
              have : ∃ y h1, OutG false P ops o s y h1 ∧ (s.wh h1).put o.dst y = s1 := by
                rcases guard_split h4 with ⟨g, hd⟩ | ⟨g, hd⟩
                · obtain ⟨y, h1, h2, h3⟩ := out_of hd
                  exact ⟨y, h1, .inl ⟨g, h2⟩, h3⟩
                · exact ⟨_, s.h, .inr ⟨g, rfl, rfl⟩, hd⟩
              obtain ⟨y, hh, q1, rfl⟩ := this
              exact ⟨y, hh, q1, h5⟩
          · cases hga
        · cases hga
      cases hf : freeK (cfL ops false (Region.before ops) 0 ops.size) L (k0 :: r) with
      | some k =>
        rw [hf] at h
        obtain ⟨hk1, hk2⟩ := freeK_some hf
        have hrk : k ∈ Region.ready .any ops listed := (hL.ready k).2 (by rw [hr]; exact hk1)
        unfold catT at h
        split at h
        · next a e1 =>
          unfold catT at h
          simp only [List.append_nil] at h
          cases h
          obtain ⟨o, s1, l, ho, hg, h1, h2, h3⟩ := one k _ hrk e1
          refine ⟨h1, fun x hx => ⟨fun p hp => (h2 x hx).1 p (List.mem_cons_of_mem _ hp), (h2 x hx).2⟩, fun hk => ?_⟩
          obtain ⟨y, hh, q1, q2⟩ := h3 hk
          refine aAny_first hK hM ho fuel listed s hD (fun j oj hj hne hun hno => ?_) hrk q1 q2
          have hjs := (Array.getElem?_eq_some_iff.1 hj).1
          have hks := (Array.getElem?_eq_some_iff.1 ho).1
          have hbit : Nat.testBit L j = false := by
            rw [hL.b]
            have hj' : j < listed.size := by rw [hL.sz]; exact hjs
            simpa [hj'] using hun
          have hcf : Nat.testBit (cfM ops false (Region.before ops) k) j = false := by
            rw [← Bool.not_eq_true]
            intro hc
            have h5 : (cfL ops false (Region.before ops) 0 ops.size).getD k 0 = cfM ops false (Region.before ops) k := by
              rw [List.getD_eq_getElem?_getD, cfL_get, if_pos hks, Nat.zero_add]; rfl
            rw [h5] at hk2
            have := congrArg (fun n => Nat.testBit n j) hk2
            simp only [Nat.testBit_or, hc, hbit] at this
            cases this
          unfold cfM at hcf
          rw [bits_spec] at hcf
          unfold cfB at hcf
          rw [hno, ho, hj] at hcf
          simp [hjs, hne] at hcf
          exact hcf
        · cases h
      | none =>
        rw [hf] at h
        have hcat := catT_mem h
        have hr0 : k0 ∈ Region.ready .any ops listed := (hL.ready k0).2 (by rw [hr]; simp)
        -- every leaf is a leaf of one of the ways
        have back : ∀ (l : List Nat) (ls : List Lf), catT go l = some ls → ∀ x ∈ ls, ∃ k ∈ l, ∃ a, go k = some a ∧ x ∈ a := by
          intro l
          induction l with
          | nil => intro ls h x hx; cases h; cases hx
          | cons j r ih =>
            intro ls h x hx
            unfold catT at h
            split at h
            · next a e1 =>
              split at h
              · next b e2 =>
                cases h
                rcases List.mem_append.1 hx with hx | hx
                · exact ⟨j, List.mem_cons_self, a, e1, hx⟩
                · obtain ⟨k, hk, a', h1, h2⟩ := ih b e2 x hx
                  exact ⟨k, List.mem_cons_of_mem _ hk, a', h1, h2⟩
              · cases h
            · cases h
        refine ⟨?_, fun x hx => ?_, fun hk => ⟨fun e => (by rw [e] at hr0; cases hr0), fun i hi oi hoi => ?_⟩⟩
        · obtain ⟨a, e1, h1⟩ := hcat k0 List.mem_cons_self
          obtain ⟨o, s1, l, ho, hg, ⟨x, hx⟩, _⟩ := one k0 a hr0 e1
          exact ⟨x, h1 x hx⟩
        · obtain ⟨k, hk, a, e1, hxa⟩ := back _ _ h x hx
          obtain ⟨o, s1, l, ho, hg, h1, h2, h3⟩ := one k a ((hL.ready k).2 (by rw [hr]; exact hk)) e1
          exact ⟨fun p hp => (h2 x hxa).1 p (List.mem_cons_of_mem _ hp), (h2 x hxa).2⟩
        · have hi' : i ∈ k0 :: r := by rw [← hr]; exact (hL.ready i).1 hi
          obtain ⟨a, e1, h1⟩ := hcat i hi'
          obtain ⟨o, s1, l, ho, hg, _, _, h3⟩ := one i a hi e1
          rw [ho] at hoi; cases hoi
          exact h3 fun x hx => hk x (h1 x hx)
end
def cntL (k : Nat) : List Nat → Nat
  | [] => 0
  | j :: l => bif leB (j + 1) k then cntL k l + 1 else cntL k l
def cntE (k : Nat) : List Nat → Nat
  | [] => 0
  | j :: l => bif j == k then cntE k l + 1 else cntE k l
def rankP (h0 : Nat) (all : List Nat) : List Nat → List Nat → List Nat
  | _, [] => []
  | pre, k :: l => fN (h0 + cntL k all + cntE k pre) fun q => q :: rankP h0 all (k :: pre) l
def idxP (q : Nat) : List Nat → Nat → Nat
  | [], i => i
  | x :: l, i => bif x == q then i else idxP q l (i + 1)
def invP (h0 : Nat) (p : List Nat) : Nat → Nat → List Nat
  | 0, _ => []
  | n + 1, q => fN (idxP q p h0) fun i => i :: invP h0 p n (q + 1)
def insO (a : Nat × List (In × Out)) : List (Nat × List (In × Out)) → List (Nat × List (In × Out))
  | [] => [a]
  | b :: l => bif leB a.1 b.1 then a :: b :: l else b :: insO a l
def sortO : List (Nat × List (In × Out)) → List (Nat × List (In × Out))
  | [] => []
  | a :: l => insO a (sortO l)
def flatO : List (Nat × List (In × Out)) → List (In × Out)
  | [] => []
  | a :: l => a.2 ++ flatO l
def permH (p q : List Nat) (h0 : Nat) (h : List Blk) : Nat → Nat → List Blk
  | 0, _ => []
  | n + 1, i => (match h[sgP h0 q i]? with | some B => B.ren (sgP h0 p) | none => .gone) :: permH p q h0 h n (i + 1)
def leafG (keep : List Nat) (s : St) (x : Lf) (p q : List Nat) : Option (List (Nat × AV) × List Blk × List (In × Out)) :=
  bif (x.1.t.take (x.1.t.length - s.t.length)).all (fun p => keep.any (· == p.1) || isDead (tget s.t p.1)) && (List.range x.1.h.length).all (fun i => leB (sgP s.h.length p i + 1) x.1.h.length && leB (sgP s.h.length q i + 1) x.1.h.length && sgP s.h.length q (sgP s.h.length p i) == i && sgP s.h.length p (sgP s.h.length q i) == i)
  then some (keep.map fun k => (k, (tget x.1.t k).ren (sgP s.h.length p)), permH p q s.h.length x.1.h x.1.h.length 0, flatO (sortO x.2.2)) else none
def leafF (keep : List Nat) (s : St) (x : Lf) : Option (List (Nat × AV) × List Blk × List (In × Out)) :=
  fL (rankP s.h.length x.2.1 [] x.2.1) fun p => fL (invP s.h.length p p.length s.h.length) fun q => leafG keep s x p q
def leaves (keep : List Nat) (s : St) : List Lf → Option (List (List (Nat × AV) × List Blk × List (In × Out)))
  | [] => some []
  | x :: l => match leafF keep s x with
    | some a => match leaves keep s l with
      | some b => some (a :: b)
      | none => none
    | none => none
def rTreeF (P : Program) (ol : List Oper) (as : List (Nat × Out)) (keep : List Nat) (s : St) : Option (List (List (Nat × AV) × List Blk × List (In × Out))) :=
  bif certOK (Region.before ol.toArray) ol.toArray then fL (afL ol.toArray 0 ol.toArray.size) fun A => fL (cfL ol.toArray false (Region.before ol.toArray) 0 ol.toArray.size) fun C =>
    match rTree P ol.toArray A C as ol.toArray.size 0 [] [] s with
    | some ls => leaves keep s ls
    | none => none
  else none
theorem leaves_mem {keep : List Nat} {s : St} : ∀ {ls : List Lf} {r}, leaves keep s ls = some r → ∀ x ∈ ls, ∃ a ∈ r, leafF keep s x = some a
  | [], _, _, x, hx => by cases hx
  | y :: l, r, h, x, hx => by
    unfold leaves at h
    split at h
    · next a e1 =>
      split at h
      · next b e2 =>
        cases h
        rcases List.mem_cons.1 hx with rfl | hx
        · exact ⟨a, List.mem_cons_self, e1⟩
        · obtain ⟨a', h1, h2⟩ := leaves_mem e2 x hx
          exact ⟨a', List.mem_cons_of_mem _ h1, h2⟩
      · cases h
    · cases h
theorem mem_insO {a x : Nat × List (In × Out)} : ∀ {l : List (Nat × List (In × Out))}, x ∈ insO a l ↔ x = a ∨ x ∈ l
  | [] => by simp [insO]
  | b :: l => by
    unfold insO
    cases leB a.1 b.1 with
    | true => simp
    | false =>
      simp only [cond_false, List.mem_cons, mem_insO (l := l)]
      constructor
      · rintro (h | h | h)
        · exact .inr (.inl h)
        · exact .inl h
        · exact .inr (.inr h)
      · rintro (h | h | h)
        · exact .inr (.inl h)
        · exact .inl h
        · exact .inr (.inr h)
theorem mem_sortO {x : Nat × List (In × Out)} : ∀ {l : List (Nat × List (In × Out))}, x ∈ sortO l ↔ x ∈ l
  | [] => by simp [sortO]
  | a :: l => by rw [sortO, mem_insO, mem_sortO (l := l), List.mem_cons]
theorem flatO_ok {P : Program} : ∀ {l : List (Nat × List (In × Out))}, AllOK P (flatO l) → ∀ p ∈ l, AllOK P p.2
  | [], _, p, hp => by cases hp
  | a :: l, h, p, hp => by
    unfold flatO at h
    rcases List.mem_cons.1 hp with rfl | hp
    · exact fun q hq => h q (List.mem_append_left _ hq)
    · exact flatO_ok (fun q hq => h q (List.mem_append_right _ hq)) p hp
theorem permH_get {p q : List Nat} {h0 : Nat} {h : List Blk} : ∀ (n i j : Nat), (permH p q h0 h n i)[j]? = if j < n then some (match h[sgP h0 q (i + j)]? with | some B => B.ren (sgP h0 p) | none => .gone) else none
  | 0, i, j => by simp [permH]
  | n + 1, i, 0 => by simp [permH]
  | n + 1, i, j + 1 => by
    rw [permH, List.getElem?_cons_succ, permH_get n (i + 1) j]
    simp only [Nat.add_lt_add_iff_right]
    rw [show i + 1 + j = i + (j + 1) by omega]
theorem permH_len {p q : List Nat} {h0 : Nat} {h : List Blk} : ∀ (n i : Nat), (permH p q h0 h n i).length = n
  | 0, _ => rfl
  | n + 1, i => by rw [permH, List.length_cons, permH_len n]
theorem leafF_spec {P : Program} {ops : Array Oper} {N0 : Nat} {keep : List Nat} {s : St} {x : Lf} {Δ : List (Nat × AV)} {h' : List Blk} {ps : List (In × Out)} (h : leafF keep s x = some (Δ, h', ps)) (hN : N0 ≤ s.h.length) (h0s : ∀ i, (tget s.t i).lowB s.h.length = true)
    (hn : x.1.n = s.n) (hp : ∃ pre, x.1.t = pre ++ s.t) (hok : AllOK P ps) : SLe N0 x.1 ⟨s.n, Δ ++ s.t, h'⟩ ∧ ∀ p ∈ x.2.2, AllOK P p.2 := by
  unfold leafF at h
  rw [fL_eq, fL_eq] at h
  generalize rankP s.h.length x.2.1 [] x.2.1 = p at h
  generalize invP s.h.length p p.length s.h.length = q at h
  unfold leafG at h
  obtain ⟨hb, he⟩ := bif_some h
  cases he
  rw [Bool.and_eq_true] at hb
  obtain ⟨hb, hc⟩ := hb
  simp only [List.all_eq_true, List.mem_range, Bool.and_eq_true, beq_iff_eq, leB_iff] at hc
  have hfix : ∀ i, i < s.h.length → sgP s.h.length p i = i := fun i hi => by
    unfold sgP
    have : leB s.h.length i = false := by rw [← Bool.not_eq_true, leB_iff]; omega
    rw [this]; rfl
  refine ⟨?_, fun y hy => flatO_ok hok y (mem_sortO.2 hy)⟩
  refine SLe.ren (sgP s.h.length p) (sgP s.h.length q) hn (permH_len _ _) (fun i hi => (hc i hi).1.1.1) (fun i hi => (hc i hi).1.1.2) (fun i hi => (hc i hi).1.2) (fun i hi => (hc i hi).2) (fun i hi => hfix i (by omega)) (fun i _ => ?_) fun i hi => ?_
  · obtain ⟨pre, e1⟩ := hp
    have hkeys : ∀ (f : Nat → AV), (keep.map fun k => (k, f k)).map (·.1) = keep := fun f => by rw [List.map_map]; exact List.map_id _
    show tget ((keep.map fun k => (k, (tget x.1.t k).ren (sgP s.h.length p))) ++ s.t) i = _ ∨ _
    rcases tget_append (keep.map fun k => (k, (tget x.1.t k).ren (sgP s.h.length p))) s.t i with ⟨h1, h2⟩ | ⟨h1, h2⟩
    · rw [hkeys] at h1
      rw [h2, tget_map (fun k => (tget x.1.t k).ren (sgP s.h.length p)), if_pos h1]; exact .inl rfl
    · rw [hkeys] at h1
      show _ ∨ tget ((keep.map fun k => (k, (tget x.1.t k).ren (sgP s.h.length p))) ++ s.t) i = _
      rw [h2]
      rw [e1, List.length_append, Nat.add_sub_cancel, List.take_left'] at hb
      · rw [e1]
        rcases tget_append pre s.t i with ⟨h3, h4⟩ | ⟨h3, h4⟩
        · right
          obtain ⟨y, hy, rfl⟩ := List.mem_map.1 h3
          have := List.all_eq_true.1 hb y hy
          rw [Bool.or_eq_true] at this
          rcases this with this | this
          · exfalso
            obtain ⟨k, hk, e⟩ := List.any_eq_true.1 this
            rw [beq_iff_eq] at e
            exact h1 (e ▸ hk)
          · generalize tget s.t y.1 = z at this
            cases z <;> first | rfl | cases this
        · left
          rw [h4, ren_cong (τ := id) hfix _ (h0s i), ren_id]
      · rfl
  · show (permH p q s.h.length x.1.h x.1.h.length 0)[sgP s.h.length p i]? = _
    rw [permH_get, if_pos (Nat.lt_of_succ_le (hc i hi).1.1.1), Nat.zero_add, (hc i hi).1.2, List.getElem?_eq_getElem hi]
    rfl
theorem rTreeF_ok {P : Program} {ol : List Oper} {as : List (Nat × Out)} {keep : List Nat} {s : St} {Δ : List (Nat × AV)} {h' : List Blk} {ps : List (In × Out)} {m N0 : Nat} {K : St → Prop} (h : rTreeF P ol as keep s = some (List.replicate m (Δ, h', ps))) (hok : AllOK P ps) (hN : N0 ≤ s.h.length) (h0s : ∀ i, (tget s.t i).lowB s.h.length = true) (hK : ClosedL N0 K) (hk : K ⟨s.n, Δ ++ s.t, h'⟩) :
    aAny false P ol.toArray K ol.toArray.size (Array.replicate ol.toArray.size false) s := by
  unfold rTreeF at h
  obtain ⟨hM, h⟩ := bif_pos h
  rw [fL_eq, fL_eq] at h
  split at h
  · next ls e1 =>
    obtain ⟨_, h2, h3⟩ := rTree_ok (s0 := s) hK.c hM s.t _ 0 (Array.replicate ol.toArray.size false) _ _ s ls ⟨by simp, fun i => by
      rw [Nat.zero_testBit, Array.getD_eq_getD_getElem?, Array.getElem?_replicate]
      split <;> rfl⟩ (fun j o ho hj => by
      exfalso
      rw [Array.getD_eq_getD_getElem?] at hj
      rw [Array.getElem?_replicate] at hj
      split at hj <;> simp at hj) e1
    refine h3 fun x hx => ?_
    obtain ⟨a, ha, e2⟩ := leaves_mem h x hx
    rw [List.mem_replicate] at ha
    obtain ⟨_, rfl⟩ := ha
    obtain ⟨k1, k2⟩ := leafF_spec (P := P) (ops := ol.toArray) e2 hN h0s ((h2 x hx).2.2 (Bas.refl _ _)).n ((h2 x hx).2.1 ⟨[], rfl⟩) hok
    exact ⟨k2, hK _ _ k1 hk⟩
  · cases h
section
variable {P : Program} {r : Option Nat} {N0 id n : Nat} {ol : List Oper} {y : Code} {t : List (Nat × AV)} {h : List Blk} {Q Q' : Exit → St → Prop}
theorem rtE (m : Nat) (hm : P.follows .mixedOrders = true) (Δ : List (Nat × AV)) (h' : List Blk) (e : ∃ obs : List (Nat × Ob P), rTreeF P ol (obO obs) (Δ.map (·.1)) ⟨n, t, h⟩ = some (List.replicate m (Δ, h', obP obs))) (k : AWp P r N0 y Q' ⟨n, Δ ++ t, h'⟩) : AWp P r N0 (.region id ol.toArray true) (AThen (fun s => AWp P r N0 y Q' s) Q) ⟨n, t, h⟩ :=
  let ⟨obs, e⟩ := e
  aw_any hm fun hN h0s => rTreeF_ok e (obP_ok obs) hN h0s (closedL_ex _) ⟨_, SLe.refl _ _, k⟩
theorem rt (m : Nat) (hm : P.follows .mixedOrders = true) (obs : List (Nat × Ob P)) (Δ : List (Nat × AV)) (h' : List Blk) (e : rTreeF P ol (obO obs) (Δ.map (·.1)) ⟨n, t, h⟩ = some (List.replicate m (Δ, h', obP obs))) (k : AWp P r N0 y Q' ⟨n, Δ ++ t, h'⟩) : AWp P r N0 (.region id ol.toArray true) (AThen (fun s => AWp P r N0 y Q' s) Q) ⟨n, t, h⟩ := rtE m hm Δ h' ⟨obs, e⟩ k
end
end Go.Proofs.YtnedgkfefdldeaaGreatDoor

/-! OpenD: What the row's form reads out of memory, as the small language's data: ints, strings, bools, slices and structs of them. -/
namespace Go.Proofs.YtnedgkfefdldeaaGreatDoor
open Go.RowKit
set_option linter.unusedVariables false
set_option linter.unusedSimpArgs false
inductive Shp (P : Program) : TypeId → List D → Prop
  | bool {t : TypeId} (b : Bool) (h : P.underlying t = some .bool) : Shp P t [.v (.bool b)]
  | int {t : TypeId} {k : IntKind} (n : Int) (h : P.underlying t = some (.int k)) (w : (Lit.int k n).wf = true) : Shp P t [.v (.int k n)]
  | str {t : TypeId} (s : ByteArray) (h : P.underlying t = some .string) (w : s.size ≤ maxLen) : Shp P t [.v (.string s)]
  | sl {t e : TypeId} (xs : List (List D)) (h : P.underlying t = some (.slice e)) (w : xs.length ≤ maxLen) (hx : ∀ x ∈ xs, Shp P e x) : Shp P t [.sl xs]
  | struct {t : TypeId} {fs : Array Field} (parts : List (List D)) (h : P.underlying t = some (.struct fs)) (hl : parts.length = fs.size) (hx : ∀ (i : Nat) (f : Field) (x : List D), fs[i]? = some f → parts[i]? = some x → Shp P f.type x) : Shp P t parts.flatten
section
variable {P : Program} {t : TypeId} {xs : List D}
theorem Shp.int_inv {k : IntKind} (h : Shp P t xs) (ht : P.underlying t = some (.int k)) : ∃ n, xs = [.v (.int k n)] ∧ k.min ≤ n ∧ n ≤ k.max := by
  cases h with
  | bool b h => rw [ht] at h; cases h
  | int n h w =>
    rw [ht] at h; cases h
    unfold Lit.wf at w
    simp only [Bool.and_eq_true, decide_eq_true_eq] at w
    exact ⟨n, rfl, w⟩
  | str s h => rw [ht] at h; cases h
  | sl l h => rw [ht] at h; cases h
  | struct p h => rw [ht] at h; cases h
theorem Shp.str_inv (h : Shp P t xs) (ht : P.underlying t = some .string) : ∃ s, xs = [.v (.string s)] ∧ s.size ≤ maxLen := by
  cases h with
  | bool b h => rw [ht] at h; cases h
  | int n h => rw [ht] at h; cases h
  | str s h w => exact ⟨s, rfl, w⟩
  | sl l h => rw [ht] at h; cases h
  | struct p h => rw [ht] at h; cases h
theorem Shp.sl_inv {e : TypeId} (h : Shp P t xs) (ht : P.underlying t = some (.slice e)) : ∃ l, xs = [.sl l] ∧ l.length ≤ maxLen ∧ ∀ x ∈ l, Shp P e x := by
  cases h with
  | bool b h => rw [ht] at h; cases h
  | int n h => rw [ht] at h; cases h
  | str s h => rw [ht] at h; cases h
  | sl l h w hx => rw [ht] at h; cases h; exact ⟨l, rfl, w, hx⟩
  | struct p h => rw [ht] at h; cases h
theorem Shp.struct_inv {fs : Array Field} (h : Shp P t xs) (ht : P.underlying t = some (.struct fs)) : ∃ parts : List (List D), xs = parts.flatten ∧ parts.length = fs.size ∧ ∀ (i : Nat) (f : Field) (x : List D), fs[i]? = some f → parts[i]? = some x → Shp P f.type x := by
  cases h with
  | bool b h => rw [ht] at h; cases h
  | int n h => rw [ht] at h; cases h
  | str s h => rw [ht] at h; cases h
  | sl l h => rw [ht] at h; cases h
  | struct p h hl hx => rw [ht] at h; cases h; exact ⟨p, rfl, hl, hx⟩
theorem list_inv {α : Type} {f : α → List D} {Q : α → Prop} : ∀ l : List (List D), (∀ x ∈ l, ∃ a, x = f a ∧ Q a) → ∃ r : List α, l = r.map f ∧ ∀ a ∈ r, Q a
  | [], _ => ⟨[], rfl, fun _ h => by cases h⟩
  | x :: l, h => by
    obtain ⟨a, rfl, ha⟩ := h x List.mem_cons_self
    obtain ⟨r, rfl, hr⟩ := list_inv l fun y hy => h y (List.mem_cons_of_mem _ hy)
    refine ⟨a :: r, rfl, fun b hb => ?_⟩
    rcases List.mem_cons.1 hb with rfl | hb
    · exact ha
    · exact hr b hb
end
def okTs (P : Program) (S : List TypeId) : Bool := S.all fun t => match P.underlying t with
  | some .bool | some (.int _) | some .string => true
  | some (.slice e) => S.contains e && decide (0 < P.cellsOf e)
  | some (.struct fs) => P.consecB fs.toList 0 (P.cellsOf t) && fs.toList.all fun f => S.contains f.type
  | _ => false
def PRs (S : Nat → Nat → Prop) (w : World) (cs : List Value) (xs : List D) : Prop := xs.length = cs.length ∧ ∀ (i : Nat) (u : Value) (x : D), cs[i]? = some u → xs[i]? = some x → PRel S w u x ∧ u.oneCell' = true
theorem PRs.nil {S : Nat → Nat → Prop} {w : World} : PRs S w [] [] := ⟨rfl, fun i u x h => by simp at h⟩
theorem PRs.one {S : Nat → Nat → Prop} {w : World} {u : Value} {x : D} (h : PRel S w u x) (h1 : u.oneCell' = true) : PRs S w [u] [x] := ⟨rfl, fun i v y hv hy => by
  cases i with
  | zero => cases hv; cases hy; exact ⟨h, h1⟩
  | succ i => simp at hv⟩
theorem PRs.app {S : Nat → Nat → Prop} {w : World} {a b : List Value} {x y : List D} (h : PRs S w a x) (k : PRs S w b y) : PRs S w (a ++ b) (x ++ y) := by
  refine ⟨by simp [h.1, k.1], fun i u z hu hz => ?_⟩
  by_cases hi : i < a.length
  · rw [List.getElem?_append_left hi] at hu
    rw [List.getElem?_append_left (by rw [h.1]; exact hi)] at hz
    exact h.2 i u z hu hz
  · rw [List.getElem?_append_right (by omega)] at hu
    rw [List.getElem?_append_right (by rw [h.1]; omega), h.1] at hz
    exact k.2 _ u z hu hz
theorem pick_list {α : Type} {Q : Nat → α → Prop} : ∀ n : Nat, (∀ i, i < n → ∃ x, Q i x) → ∃ l : List α, l.length = n ∧ ∀ i x, l[i]? = some x → Q i x
  | 0, _ => ⟨[], rfl, fun i x h => by simp at h⟩
  | n + 1, h => by
    obtain ⟨l, h1, h2⟩ := pick_list n fun i hi => h i (by omega)
    obtain ⟨x, hx⟩ := h n (by omega)
    refine ⟨l ++ [x], by simp [h1], fun i y hy => ?_⟩
    by_cases hi : i < l.length
    · rw [List.getElem?_append_left hi] at hy; exact h2 i y hy
    · rw [List.getElem?_append_right (by omega)] at hy
      have : i - l.length = 0 := by
        by_cases e : i - l.length = 0
        · exact e
        · rw [List.getElem?_eq_none (by simp; omega)] at hy; cases hy
      rw [this] at hy; cases hy
      have : i = n := by omega
      rw [this]; exact hx
theorem add_plain {a : Addr} (h : a.spot = none) (n : Nat) : a.add n = ⟨a.block, a.off + n, none⟩ := by
  unfold Addr.add
  split
  · next e => subst e; cases a; simp only at h; subst h; rfl
  · rfl
section
variable {H : Type} {enc : TypeId × Value → H} {P : Program} {W : World} {Ts : List TypeId}
abbrev oldS (W : World) : Nat → Nat → Prop := fun b _ => b < W.heap.size
theorem nil_old {S : Nat → Nat → Prop} {w : World} : PRel S w (.slice none 0 0) (.sl []) :=
  .sl none 0 0 0 0 [] (fun _ _ => undef) (fun h => absurd rfl h) (Nat.le_refl _) (by simp) (fun _ h => by cases h) (fun i j hi => by simp at hi) (fun i j x d hx => by simp at hx)
theorem fields_shp {fuel : Nat} (IH : ∀ (t : TypeId) (cs : List Value) (d : DataW H) (ps : List MemPlace), t ∈ Ts → DataW.trod enc P W 0 (fun _ => true) true fuel t cs = some (d, ps) → ∃ xs, Shp P t xs ∧ PRs (oldS W) W cs xs) (cs : List Value) :
    ∀ (fs : List Field) (off : Nat) (ys : List (DataW H × List MemPlace)), P.consecB fs off cs.length = true → (∀ f ∈ fs, f.type ∈ Ts) →
      fs.mapM (fun f => DataW.trod enc P W 0 (fun _ => true) true fuel f.type ((cs.drop f.offset).take (P.cellsOf f.type))) = some ys →
      ∃ parts : List (List D), parts.length = fs.length ∧ (∀ (i : Nat) (f : Field) (x : List D), fs[i]? = some f → parts[i]? = some x → Shp P f.type x) ∧ PRs (oldS W) W (cs.drop off) parts.flatten
  | [], off, ys, hc, _, _ => by
    simp only [Program.consecB, beq_iff_eq] at hc
    refine ⟨[], rfl, fun i f x h => by simp at h, ?_⟩
    rw [List.drop_eq_nil_iff.2 (by omega)]
    exact PRs.nil
  | f :: fs, off, ys, hc, hS, hm => by
    simp only [Program.consecB, Bool.and_eq_true, beq_iff_eq] at hc
    obtain ⟨hoff, hc⟩ := hc
    rw [List.mapM_cons] at hm
    cases hx : DataW.trod enc P W 0 (fun _ => true) true fuel f.type ((cs.drop f.offset).take (P.cellsOf f.type)) with
    | none => simp [hx] at hm
    | some p =>
      cases hxs : fs.mapM (fun f => DataW.trod enc P W 0 (fun _ => true) true fuel f.type ((cs.drop f.offset).take (P.cellsOf f.type))) with
      | none => simp [hx, hxs] at hm
      | some ps =>
        obtain ⟨d, q⟩ := p
        obtain ⟨x, h1, h2⟩ := IH f.type _ d q (hS f List.mem_cons_self) hx
        obtain ⟨parts, k1, k2, k3⟩ := fields_shp IH cs fs (off + P.cellsOf f.type) ps hc (fun g hg => hS g (List.mem_cons_of_mem _ hg)) hxs
        refine ⟨x :: parts, by simp [k1], fun i g y hg hy => ?_, ?_⟩
        · cases i with
          | zero => cases hg; cases hy; exact h1
          | succ i => exact k2 i g y (by simpa using hg) (by simpa using hy)
        · rw [List.flatten_cons]
          rw [hoff] at h2
          have := h2.app k3
          rwa [take_drop_step] at this
theorem trod_shp (hT : okTs P Ts = true) : ∀ (fuel : Nat) (t : TypeId) (cs : List Value) (d : DataW H) (ps : List MemPlace), t ∈ Ts → DataW.trod enc P W 0 (fun _ => true) true fuel t cs = some (d, ps) → ∃ xs, Shp P t xs ∧ PRs (oldS W) W cs xs
  | 0, t, cs, d, ps, _, h => by simp [DataW.trod] at h
  | fuel + 1, t, cs, d, ps, ht, h => by
    have IH := trod_shp hT fuel
    have hTt := List.all_eq_true.1 hT t ht
    unfold DataW.trod at h
    split at h
    · next b e => exact ⟨_, .bool b e, PRs.one (.v _) rfl⟩
    · next k k' n e =>
      split at h
      · next hk => obtain ⟨rfl, hw⟩ := hk; exact ⟨_, .int n e hw, PRs.one (.v _) rfl⟩
      · cases h
    · next e => rw [e] at hTt; cases hTt
    · next s e =>
      split at h
      · next hw => exact ⟨_, .str s e hw, PRs.one (.v _) rfl⟩
      · cases h
    · next e => rw [e] at hTt; cases hTt
    · next e => rw [e] at hTt; cases hTt
    · next e e1 => exact ⟨_, .sl [] e1 (Nat.zero_le _) (fun x hx => absurd hx List.not_mem_nil), PRs.one nil_old rfl⟩
    · next e a len cap e1 =>
      rw [e1] at hTt
      simp only [Bool.and_eq_true, List.contains_iff_mem, decide_eq_true_eq] at hTt
      obtain ⟨hme, hpos⟩ := hTt
      simp only at h
      split at h
      · next hb =>
        obtain ⟨_, hlc, hcm⟩ := hb
        rw [Option.bind_eq_some_iff] at h
        obtain ⟨elems, hel, _⟩ := h
        have hlen : elems.length = len := by simpa using mapM_some_length hel
        have hQ : ∀ i, i < len → ∃ x : List D, Shp P e x ∧ ∃ cs', W.cells? 0 (a.add (i * P.cellsOf e)) (P.cellsOf e) = some cs' ∧ PRs (oldS W) W cs' x := fun i hi => by
          have h1 := mapM_some_get hel i i (by simp [hi])
          rw [List.getElem?_eq_getElem (by omega)] at h1
          rw [Option.bind_eq_some_iff] at h1
          obtain ⟨cs', h2, h3⟩ := h1
          obtain ⟨x, h4, h5⟩ := IH e cs' _ _ hme h3
          exact ⟨x, h4, cs', h2, h5⟩
        obtain ⟨xs, hxl, hxq⟩ := pick_list len hQ
        have hsp : xs ≠ [] → a.spot = none := fun hne => by
          have h0 : 0 < len := by cases xs with | nil => exact (hne rfl).elim | cons x l => simp at hxl; omega
          obtain ⟨x, _, cs', h2, _⟩ := hQ 0 h0
          obtain ⟨_, h3, h4⟩ := World.cells?_some h2
          have h5 := h4 0 hpos
          rw [Nat.zero_mul] at h5
          have e0 : (a.add 0).add 0 = a := by simp [Addr.add]
          rw [e0, List.getElem?_eq_getElem (by omega)] at h5
          unfold World.cell? at h5
          split at h5
          · split at h5
            · cases h5
            · next hn => simpa using hn
          · cases h5
        have hcell : ∀ i x, xs[i]? = some x → x.length = P.cellsOf e ∧ ∀ j, j < P.cellsOf e → ∃ u, W.cell? ⟨a.block, a.off + i * P.cellsOf e + j, none⟩ = some u ∧ u.oneCell' = true ∧ ∀ d, x[j]? = some d → PRel (oldS W) W u d := fun i x hx => by
          obtain ⟨_, cs', h2, h3⟩ := hxq i x hx
          obtain ⟨_, h4, h5⟩ := World.cells?_some h2
          have hs := hsp (fun e => by rw [e] at hx; simp at hx)
          refine ⟨h3.1.trans h4, fun j hj => ?_⟩
          have h6 := h5 j hj
          rw [add_plain hs, add_plain rfl, List.getElem?_eq_getElem (by omega)] at h6
          have hjx : j < x.length := by rw [h3.1, h4]; exact hj
          have hd : x[j]? = some x[j] := List.getElem?_eq_getElem hjx
          have h7 := h3.2 j _ _ (List.getElem?_eq_getElem (by omega)) hd
          exact ⟨_, h6, h7.2, fun d hd' => by rw [hd] at hd'; cases hd'; exact h7.1⟩
        refine ⟨[.sl xs], .sl xs e1 (by omega) (fun x hx => ?_), PRs.one ?_ rfl⟩
        · obtain ⟨i, hi, rfl⟩ := List.mem_iff_getElem.1 hx
          exact (hxq i _ (List.getElem?_eq_getElem hi)).1
        · rw [← hxl]
          refine .sl (some a) a.block a.off cap (P.cellsOf e) xs (fun i j => (W.cell? ⟨a.block, a.off + i * P.cellsOf e + j, none⟩).getD undef) (fun hne => ?_) (by omega) hcm (fun x hx => ?_) (fun i j hi hj => ?_) fun i j x d hx hd => ?_
          · have := hsp hne
            cases a; simp only at this; subst this; rfl
          · obtain ⟨i, hi, rfl⟩ := List.mem_iff_getElem.1 hx
            exact (hcell i _ (List.getElem?_eq_getElem hi)).1
          · obtain ⟨u, h1, h2, _⟩ := (hcell i _ (List.getElem?_eq_getElem hi)).2 j hj
            refine ⟨World.block_lt_of_cell? W ⟨a.block, a.off + i * P.cellsOf e + j, none⟩ h1, ?_, ?_⟩
            · rw [h1]; rfl
            · rw [h1]; exact h2
          · obtain ⟨hl, hc⟩ := hcell i x hx
            obtain ⟨u, h1, _, h3⟩ := hc j (by rw [← hl]; exact (List.getElem?_eq_some_iff.1 hd).1)
            simp only [h1, Option.getD_some]
            exact h3 d hd
      · cases h
    · next cs' fs e1 =>
      rw [e1] at hTt
      simp only [Bool.and_eq_true, List.all_eq_true, List.contains_iff_mem] at hTt
      split at h
      · next hl =>
        rw [Option.map_eq_some_iff] at h
        obtain ⟨ys, hm, _⟩ := h
        obtain ⟨parts, k1, k2, k3⟩ := fields_shp IH _ fs.toList 0 ys (by rw [hl]; exact hTt.1) hTt.2 hm
        exact ⟨_, .struct parts e1 (by simpa using k1) (fun i f x hf => k2 i f x (by simpa using hf)), by simpa using k3⟩
      · cases h
    all_goals first | (cases h; done) | (exfalso; revert hTt; (next e => rw [e]; intro h0; cases h0))
theorem open_arg {t : TypeId} {v : Value} {d : DataW H} {ps : List MemPlace} (hT : okTs P Ts = true) (hm : t ∈ Ts) (h : DataW.Trod enc P W 0 (fun _ => true) true t v d ps) : ∃ xs, Shp P t xs ∧ PRs (oldS W) W v.cells.toList xs :=
  let ⟨fuel, h⟩ := h
  trod_shp hT fuel t _ d ps hm h
theorem okWide_struct {t : TypeId} {fs : Array Field} {v : Value} {r : Reach} {base : Nat} (ht : P.underlying t = some (.struct fs)) (h : Value.okWide P W r base t v) : ∃ cs, v = .agg cs := by
  unfold Value.okWide at h
  rw [ht] at h
  obtain ⟨cs, rfl, _⟩ := h
  exact ⟨cs, rfl⟩
theorem rel_agg {G : Gh} (hS : G.S = oldS W) {cs : Array Value} {xs : List D} (h : PRs (oldS W) W cs.toList xs) : VRel G W (.agg cs) (.agg (xs.map .d)) := by
  refine .agg cs _ (by rw [List.length_map, h.1, Array.length_toList]) fun i u c hu hc => ?_
  rw [List.getElem?_map] at hc
  cases hx : xs[i]? with
  | none => rw [hx] at hc; cases hc
  | some x =>
    rw [hx] at hc
    cases hc
    exact .d (hS ▸ (h.2 i u x (by rw [Array.getElem?_toList]; exact hu) hx).1)
end
end Go.Proofs.YtnedgkfefdldeaaGreatDoor
