/-
  Part 4 of the proof: AbsDat, IterE, AbsKern, AbsKw, KwS.
-/
import Derived.Test.YtnedgkfefdldeaaGreatDoorPk3
import Derived.Test.YtnedgkfefdldeaaGreatDoorProg
import Derived.KernelRfl
/-! AbsDat: The data of programs as Lean types, and as the small language's data. Written by a program (wip/abs/dct.py). -/
namespace Go.Proofs.YtnedgkfefdldeaaGreatDoor
open Go.RowKit
set_option linter.unusedVariables false
def dStr (x : ByteArray) : List D := [.v (.string x)]
def dStrs (l : List ByteArray) : List (List D) := l.map dStr
theorem dStrs_eq (l : List ByteArray) : dStrs l = l.map dStr := rfl
theorem dStrs_len {l : List ByteArray} : (dStrs l).length = l.length := by rw [dStrs_eq, List.length_map]
theorem dStrs_get {l : List ByteArray} {k : Nat} {x : ByteArray} (h : l[k]? = some x) : (dStrs l)[k]? = some (dStr x) := by rw [dStrs_eq, List.getElem?_map, h]; rfl
structure TypeD where
  xKind : Int
  xBits : Int
  xFrac : Int
  xRound : Int
  xOver : Int
def dType (x : TypeD) : List D := [.v (.int .i64 x.xKind), .v (.int .i64 x.xBits), .v (.int .i64 x.xFrac), .v (.int .i64 x.xRound), .v (.int .i64 x.xOver)]
def aType (x : TypeD) : AV := .agg [.d (.v (.int .i64 x.xKind)), .d (.v (.int .i64 x.xBits)), .d (.v (.int .i64 x.xFrac)), .d (.v (.int .i64 x.xRound)), .d (.v (.int .i64 x.xOver))]
structure ValD where
  xN : Int64
  xD : Int64
def dVal (x : ValD) : List D := [.v (.int .i64 x.xN.toInt), .v (.int .i64 x.xD.toInt)]
def aVal (x : ValD) : AV := .agg [.d (.v (.int .i64 x.xN.toInt)), .d (.v (.int .i64 x.xD.toInt))]
structure MonoD where
  xName : ByteArray
  xBy : Int64
def dMono (x : MonoD) : List D := [.v (.string x.xName), .v (.int .i64 x.xBy.toInt)]
def aMono (x : MonoD) : AV := .agg [.d (.v (.string x.xName)), .d (.v (.int .i64 x.xBy.toInt))]
structure simplify_typD where
  yT : TypeD
  yOk : Bool
def asimplify_typ (x : simplify_typD) : AV := .agg [.d (.v (.int .i64 x.yT.xKind)), .d (.v (.int .i64 x.yT.xBits)), .d (.v (.int .i64 x.yT.xFrac)), .d (.v (.int .i64 x.yT.xRound)), .d (.v (.int .i64 x.yT.xOver)), .d (.v (.bool x.yOk))]
structure brocaderef21_KnownD where
  xT : TypeD
  xIs : Bool
def abrocaderef21_Known (x : brocaderef21_KnownD) : AV := .agg [.d (.v (.int .i64 x.xT.xKind)), .d (.v (.int .i64 x.xT.xBits)), .d (.v (.int .i64 x.xT.xFrac)), .d (.v (.int .i64 x.xT.xRound)), .d (.v (.int .i64 x.xT.xOver)), .d (.v (.bool x.xIs))]
def dMonos (l : List MonoD) : List (List D) := l.map dMono
theorem dMonos_eq (l : List MonoD) : dMonos l = l.map dMono := rfl
theorem dMonos_len {l : List MonoD} : (dMonos l).length = l.length := by rw [dMonos_eq, List.length_map]
theorem dMonos_get {l : List MonoD} {k : Nat} {x : MonoD} (h : l[k]? = some x) : (dMonos l)[k]? = some (dMono x) := by rw [dMonos_eq, List.getElem?_map, h]; rfl
structure LinD where
  xK : Int64
  xL : List MonoD
def dLin (x : LinD) : List D := [.v (.int .i64 x.xK.toInt), .sl (dMonos x.xL)]
def aLin (x : LinD) : AV := .agg [.d (.v (.int .i64 x.xK.toInt)), .d (.sl (dMonos x.xL))]
def dLins (l : List LinD) : List (List D) := l.map dLin
theorem dLins_eq (l : List LinD) : dLins l = l.map dLin := rfl
theorem dLins_len {l : List LinD} : (dLins l).length = l.length := by rw [dLins_eq, List.length_map]
theorem dLins_get {l : List LinD} {k : Nat} {x : LinD} (h : l[k]? = some x) : (dLins l)[k]? = some (dLin x) := by rw [dLins_eq, List.getElem?_map, h]; rfl
structure IndexD where
  xLin : LinD
  xFrom : ByteArray
  xAt : List LinD
def dIndex (x : IndexD) : List D := [.v (.int .i64 x.xLin.xK.toInt), .sl (dMonos x.xLin.xL), .v (.string x.xFrom), .sl (dLins x.xAt)]
def aIndex (x : IndexD) : AV := .agg [.d (.v (.int .i64 x.xLin.xK.toInt)), .d (.sl (dMonos x.xLin.xL)), .d (.v (.string x.xFrom)), .d (.sl (dLins x.xAt))]
def dIndexs (l : List IndexD) : List (List D) := l.map dIndex
theorem dIndexs_eq (l : List IndexD) : dIndexs l = l.map dIndex := rfl
theorem dIndexs_len {l : List IndexD} : (dIndexs l).length = l.length := by rw [dIndexs_eq, List.length_map]
theorem dIndexs_get {l : List IndexD} {k : Nat} {x : IndexD} (h : l[k]? = some x) : (dIndexs l)[k]? = some (dIndex x) := by rw [dIndexs_eq, List.getElem?_map, h]; rfl
structure ExprD where
  xOp : Int
  xName : ByteArray
  xVal : ValD
  xType : TypeD
  xLin : LinD
  xIdx : List IndexD
  xArgs : List ExprD
mutual
def dExprR : ExprD → List D
  | ⟨xOp, xName, xVal, xType, xLin, xIdx, xArgs⟩ => [.v (.int .i64 xOp), .v (.string xName), .v (.int .i64 xVal.xN.toInt), .v (.int .i64 xVal.xD.toInt), .v (.int .i64 xType.xKind), .v (.int .i64 xType.xBits), .v (.int .i64 xType.xFrac), .v (.int .i64 xType.xRound), .v (.int .i64 xType.xOver), .v (.int .i64 xLin.xK.toInt), .sl (dMonos xLin.xL), .sl (dIndexs xIdx), .sl (dExprs xArgs)]
def dExprs : List ExprD → List (List D)
  | [] => []
  | x :: l => dExprR x :: dExprs l
end
def dExpr (x : ExprD) : List D := [.v (.int .i64 x.xOp), .v (.string x.xName), .v (.int .i64 x.xVal.xN.toInt), .v (.int .i64 x.xVal.xD.toInt), .v (.int .i64 x.xType.xKind), .v (.int .i64 x.xType.xBits), .v (.int .i64 x.xType.xFrac), .v (.int .i64 x.xType.xRound), .v (.int .i64 x.xType.xOver), .v (.int .i64 x.xLin.xK.toInt), .sl (dMonos x.xLin.xL), .sl (dIndexs x.xIdx), .sl (dExprs x.xArgs)]
theorem dExprR_eq (x : ExprD) : dExprR x = dExpr x := by cases x; simp only [dExprR]; rfl
theorem dExprs_eq : ∀ l : List ExprD, dExprs l = l.map dExpr
  | [] => by simp [dExprs]
  | x :: l => by simp [dExprs, dExprR_eq, dExprs_eq l]
theorem dExprs_len {l : List ExprD} : (dExprs l).length = l.length := by rw [dExprs_eq, List.length_map]
theorem dExprs_get {l : List ExprD} {k : Nat} {x : ExprD} (h : l[k]? = some x) : (dExprs l)[k]? = some (dExpr x) := by rw [dExprs_eq, List.getElem?_map, h]; rfl
def aExpr (x : ExprD) : AV := .agg [.d (.v (.int .i64 x.xOp)), .d (.v (.string x.xName)), .d (.v (.int .i64 x.xVal.xN.toInt)), .d (.v (.int .i64 x.xVal.xD.toInt)), .d (.v (.int .i64 x.xType.xKind)), .d (.v (.int .i64 x.xType.xBits)), .d (.v (.int .i64 x.xType.xFrac)), .d (.v (.int .i64 x.xType.xRound)), .d (.v (.int .i64 x.xType.xOver)), .d (.v (.int .i64 x.xLin.xK.toInt)), .d (.sl (dMonos x.xLin.xL)), .d (.sl (dIndexs x.xIdx)), .d (.sl (dExprs x.xArgs))]
def aStr (s : ByteArray) : AV := .d (.v (.string s))
def aInt (n : Int) : AV := .d (.v (.int .i64 n))
def aI64 (n : Int64) : AV := .d (.v (.int .i64 n.toInt))
def aBool (b : Bool) : AV := .d (.v (.bool b))
abbrev w64 (n : Int) : Int := IntKind.i64.wrap n
theorem w64_eq (a : Int) : IntKind.i64.wrap a = a.bmod (2 ^ 64) := by
  rw [IntKind.wrap_i64, Int.bmod_def]; omega
theorem i64_of (a : Int) : aInt (w64 a) = aI64 (Int64.ofInt a) := by
  unfold aInt aI64 w64; rw [w64_eq, Int64.toInt_ofInt]
theorem i64_add (a b : Int64) : aInt (w64 (a.toInt + b.toInt)) = aI64 (a + b) := by
  unfold aInt aI64 w64; rw [w64_eq, Int64.toInt_add]
theorem i64_sub (a b : Int64) : aInt (w64 (a.toInt - b.toInt)) = aI64 (a - b) := by
  unfold aInt aI64 w64; rw [w64_eq, Int64.toInt_sub]
theorem i64_mul (a b : Int64) : aInt (w64 (a.toInt * b.toInt)) = aI64 (a * b) := by
  unfold aInt aI64 w64; rw [w64_eq, Int64.toInt_mul]
theorem i64_neg (a : Int64) : aInt (w64 (0 - a.toInt)) = aI64 (-a) := by
  unfold aInt aI64 w64; rw [w64_eq, Int64.toInt_neg, Int.zero_sub]
theorem i64_fit {a : Int} (h : w64 a = a) : aInt a = aI64 (Int64.ofInt a) := by
  rw [← i64_of, h]
theorem i64_rem (a : Int64) (b : Int) : aInt (a.toInt.tmod b) = aI64 (Int64.ofInt (a.toInt.tmod b)) := by
  refine i64_fit ?_
  unfold w64; rw [IntKind.wrap_i64]
  have h1 := a.le_toInt
  have h2 := a.toInt_lt
  have h3 := Int.natAbs_tmod a.toInt b
  have h4 : (a.toInt.tmod b).natAbs ≤ a.toInt.natAbs := by rw [h3]; exact Nat.mod_le _ _
  have h7 : -9223372036854775808 ≤ a.toInt ∧ a.toInt ≤ 9223372036854775807 := by omega
  clear h1 h2 h3
  by_cases h5 : 0 ≤ a.toInt
  · have := Int.tmod_nonneg b h5
    generalize a.toInt.tmod b = x at *
    omega
  · have h6 := Int.tmod_nonneg b (show 0 ≤ -a.toInt by omega)
    rw [Int.neg_tmod] at h6
    generalize a.toInt.tmod b = x at *
    omega
theorem wrap_nx {α : Type} {l : List α} {k : Nat} {x : α} {xs : List α} {n : Nat} (hd : l.drop k = x :: xs) (hn : l.length = n) (hl : n ≤ maxLen) : aInt (w64 ((k : Int) + 1)) = aInt ((k + 1 : Nat) : Int) := by
  have : (l.drop k).length = (x :: xs).length := by rw [hd]
  rw [List.length_drop, List.length_cons] at this
  have h1 : k < maxLen := by omega
  unfold maxLen at h1
  have e : IntKind.i64.wrap ((k : Int) + 1) = ((k + 1 : Nat) : Int) := by rw [IntKind.wrap_i64]; omega
  unfold aInt w64; rw [e]
theorem drop_get {α : Type} {l : List α} {k : Nat} {x : α} {xs : List α} (hd : l.drop k = x :: xs) : l[k]? = some x := by
  have : (l.drop k)[0]? = some x := by rw [hd]; rfl
  rwa [List.getElem?_drop] at this
theorem drop_nx {α : Type} {l : List α} {k : Nat} {x : α} {xs : List α} (hd : l.drop k = x :: xs) : l.drop (k + 1) = xs := by
  rw [← List.drop_drop, hd]; rfl
theorem lt_t {α : Type} {l : List α} {k : Nat} {x : α} {xs : List α} (hd : l.drop k = x :: xs) : decide ((k : Int) < (l.length : Int)) = true := by
  have : (l.drop k).length = (x :: xs).length := by rw [hd]
  rw [List.length_drop, List.length_cons] at this
  exact decide_eq_true (by omega)
theorem lt_f {α : Type} {l : List α} {k : Nat} (hd : l.drop k = []) : decide ((k : Int) < (l.length : Int)) = false := by
  have := List.drop_eq_nil_iff.1 hd
  exact decide_eq_false (by omega)
theorem mixed : Tryz.prog.follows .mixedOrders = true := by kernel_rfl
end Go.Proofs.YtnedgkfefdldeaaGreatDoor

/-! IterE: The iterators over expressions: walk hands out the nodes in preorder, forms the linear forms of a node. -/
namespace Go.Proofs.YtnedgkfefdldeaaGreatDoor
open Go.RowKit
set_option maxRecDepth 100000
set_option maxHeartbeats 0
def max64 (a b : Int64) : Int64 := if b.toInt > a.toInt then b else a
theorem max64_int (a b : Int64) : (if b.toInt > a.toInt then b.toInt else a.toInt) = (max64 a b).toInt := by unfold max64; split <;> rfl
theorem max64_eq (a b : Int64) : AV.d (.v (.int .i64 (if b.toInt > a.toInt then b.toInt else a.toInt))) = aI64 (max64 a b) := by rw [max64_int]; rfl
mutual
/-- the nodes in preorder -/
def nodesR : ExprD → List ExprD
  | ⟨o, n, v, t, l, i, xs⟩ => ⟨o, n, v, t, l, i, xs⟩ :: nodesL xs
def nodesL : List ExprD → List ExprD
  | [] => []
  | x :: l => nodesR x ++ nodesL l
end
def nodes (e : ExprD) : List ExprD := e :: nodesL e.xArgs
theorem nodesR_eq (e : ExprD) : nodesR e = nodes e := by cases e; simp only [nodesR]; rfl
theorem nodesL_cons (x : ExprD) (l : List ExprD) : nodesL (x :: l) = nodes x ++ nodesL l := by rw [nodesL, nodesR_eq]
theorem seqY_keep {P : Program} {k : Nat} : ∀ (l : List AV) {C : Bool → List Blk → Prop} {h : List Blk}, h.all (Blk.lowB h.length) = true → seqY P k l C h → seqY P k l (fun b h1 => C b h1 ∧ KeepL h h1) h
  | [], _, _, hl, hs => ⟨hs, rfl, hl⟩
  | x :: l, C, h, hl, hs => YS.mono hs fun b h1 ⟨h2, h3⟩ => ⟨h2, by
    cases b with
    | true => exact seqY_mono l (fun b h4 ⟨h5, h6, h7⟩ => ⟨h5, by rw [h6, h2.1], by rw [h2.1] at h7; exact h7⟩) (seqY_keep l (by rw [h2.1]; exact h2.2) h3)
    | false => exact ⟨h3, h2⟩⟩
def WalkOK (e : ExprD) : Prop := ∀ (k : Nat) (h : List Blk) (C : Bool → List Blk → Prop), h.all (Blk.lowB h.length) = true → k < h.length → seqY Tryz.prog k ((nodes e).map aExpr) C h → ACalls Tryz.prog 68 [aExpr e, .yld k] h fun r h1 => ∃ b, r = .d (.v (.bool b)) ∧ C b h1 ∧ KeepL h h1
theorem ret_keep' {P : Program} {fn : Func} {n : Nat} {t : List (Nat × AV)} {H h1 l : List Blk} {K : AV → List Blk → Prop} (k1 : h1.length = H.length) (k2 : h1.all (Blk.lowB H.length) = true) (hr : aResults P ⟨n, t, h1 ++ l⟩ fn.results.toList fun rs => ((tupOf rs).pub h1.length).lowB h1.length = true ∧ K ((tupOf rs).pub h1.length) h1) : aRet P fn H.length K ⟨n, t, h1 ++ l⟩ := by
  rw [← k1] at k2 ⊢
  exact ret_suffix k2 hr
theorem ret_keep {P : Program} {fn : Func} {n : Nat} {t : List (Nat × AV)} {H h1 l : List Blk} {K : AV → List Blk → Prop} (k1 : h1.length = H.length) (k2 : h1.all (Blk.lowB H.length) = true) (hr : aResults P ⟨n, t, h1 ++ l⟩ fn.results.toList fun rs => ((tupOf rs).pub h1.length).lowB h1.length = true ∧ K ((tupOf rs).pub h1.length) h1) : aPost P fn H.length K .ret ⟨n, t, h1 ++ l⟩ := ret_keep' k1 k2 hr
theorem walk_body (e : ExprD) (hargs : ∀ x ∈ e.xArgs, WalkOK x) : WalkOK e := by
  intro k h C hlow hk hs
  refine acalls_of h.length Tryz.func68 rfl (by kernel_rfl) (Nat.le_refl _) ?_
  suffices hA : AWp Tryz.prog none h.length _ _ ⟨23, [(0, aExpr e), (1, .yld k)], h ++ []⟩ by rw [List.append_nil] at hA; exact hA
  repeat refine aw_seq ?_
  refine aw_region ?_
  refine ao_cons rfl ?_
  refine op_x (cx_box (l := []) (v := aExpr e) rfl (by kernel_rfl)) rfl rfl cx_push ?_
  refine ao_cons rfl ?_
  refine op_s (x := .d (.v (.bool false))) (by kernel_rfl) rfl rfl ?_
  refine at_n ?_
  repeat refine aw_seq ?_
  refine aw_region ?_
  refine ao_cons rfl ?_
  refine op_s (x := .yld k) (by kernel_rfl) rfl rfl ?_
  refine ao_cons rfl ?_
  refine op_s (cx_load (i := 0) (off := 0) (l := [] ++ [.cells (aExpr e).cells]) (x := aExpr e) (by kernel_rfl) rfl (by kernel_rfl)) rfl rfl ?_
  refine ao_cons rfl ?_
  rw [nodes, List.map_cons] at hs
  have hy := ys_suffix (seqY_keep (aExpr e :: _) hlow hs) [.cells (aExpr e).cells] hlow (by kernel_rfl) (fun b h' hh => hh.1)
  refine op_yield (k := k) (x := aExpr e) rfl rfl (by kernel_rfl) (by kernel_rfl) rfl rfl ?_
  refine hy.mono fun b h' hh => ?_
  obtain ⟨h1, ⟨⟨k1, k2⟩, k3⟩, rfl⟩ := hh
  refine ao_cons rfl ?_
  refine op_s (x := .d (.v (.bool (!b)))) (by kernel_rfl) rfl rfl ?_
  refine at_n ?_
  cases b with
  | false =>
    refine aw_cond_t (by kernel_rfl) ?_
    repeat refine aw_seq ?_
    refine aw_region ?_
    refine ao_cons rfl ?_
    refine op_s (x := .d (.v (.bool false))) (by kernel_rfl) rfl rfl ?_
    refine at_n ?_
    refine aw_ret (at_r ?_)
    refine ret_keep k1 k2 ?_
    exact ⟨rfl, false, rfl, k3⟩
  | true =>
    refine aw_cond_f (by kernel_rfl) ?_
    refine aw_skip ?_
    refine at_n ?_
    simp only [cond_true] at k3
    repeat refine aw_seq ?_
    refine aw_region ?_
    refine ao_cons rfl ?_
    refine op_s (x := .ptr (h.length + 0) 12) (by kernel_rfl) rfl rfl ?_
    refine ao_cons rfl ?_
    refine op_s (cx_load (h := h1) (i := 0) (off := 12) (l := [.cells (aExpr e).cells]) (x := .d (.sl (dExprs e.xArgs))) (by rw [k1]; rfl) rfl (by kernel_rfl)) rfl rfl ?_
    refine ao_cons rfl ?_
    refine op_s (x := .d (.v (.int .i64 (dExprs e.xArgs).length))) (by kernel_rfl) rfl rfl ?_
    refine ao_cons rfl ?_
    refine op_s (x := .d (.v (.int .i64 0))) (by kernel_rfl) rfl rfl ?_
    refine at_n ?_
    refine aw_okT 12 (dExprs e.xArgs) (by kernel_rfl) fun hok => ?_
    have hmx : e.xArgs.length ≤ maxLen := by rw [← dExprs_len]; exact ok_len hok
    rw [dExprs_len]
    repeat refine aw_seq ?_
    refine aw_block ?_
    refine aw_loop (ι := Nat × List ExprD × List Blk) [1, 12, 13, 14] h.length (fun i => ⟨23, [(1, .yld k), (12, .d (.sl (dExprs e.xArgs))), (13, .d (.v (.int .i64 e.xArgs.length))), (14, .d (.v (.int .i64 i.1)))], i.2.2⟩)
      (fun i => e.xArgs.drop i.1 = i.2.1 ∧ KeepL h i.2.2 ∧ seqY Tryz.prog k ((nodesL i.2.1).map aExpr) (fun b h2 => C b h2 ∧ KeepL h h2) i.2.2) (fun i => i.2.1.length) (0, e.xArgs, h1) (Nat.le_refl _) ?_ ?_ ⟨rfl, ⟨k1, k2⟩, k3⟩ ?_
    · rw [← k1]; exact okMask_suffix _ (by rw [k1]; exact k2) (by
        show (((AV.yld k).pub h1.length).lowB h1.length && (true && (true && (true && true)))) = true
        rw [k1]; simp [AV.pub, AV.lowB, leB]; omega)
    · rw [← k1]; exact mask_suffix _ (by rw [k1]; exact k2)
    rintro ⟨i, rest, hc⟩ ⟨hd, ⟨c1, c2⟩, hsq⟩
    simp only at hd c1 c2 hsq ⊢
    repeat refine aw_seq ?_
    refine aw_region ?_
    refine ao_cons rfl ?_
    refine op_s (x := .d (.v (.bool (decide ((i : Int) < (e.xArgs.length : Int)))))) (by kernel_rfl) rfl rfl ?_
    refine at_n ?_
    refine aw_seq ?_
    cases rest with
    | nil =>
      rw [lt_f hd]
      refine aw_cond_f (by kernel_rfl) ?_
      refine aw_exit (at_e (at_e (ab_y rfl ?_)))
      refine at_n ?_
      repeat refine aw_seq ?_
      refine aw_region ?_
      refine ao_cons rfl ?_
      rw [← List.append_nil hc]
      refine op_s (x := .d (.v (.bool true))) (by kernel_rfl) rfl rfl ?_
      refine at_n ?_
      refine aw_ret ?_
      refine ret_keep c1 c2 ?_
      rw [nodesL, List.map_nil] at hsq
      exact ⟨rfl, true, rfl, hsq⟩
    | cons x rest =>
      rw [lt_t hd]
      refine aw_cond_t (by kernel_rfl) ?_
      refine aw_skip ?_
      refine at_n ?_
      repeat refine aw_seq ?_
      refine aw_block ?_
      repeat refine aw_seq ?_
      refine aw_region ?_
      refine ao_cons rfl ?_
      rw [← List.append_nil hc]
      refine op_s (cx_index (q := i) (e := 32) (k := 13) rfl rfl (by kernel_rfl) (dExprs_get (drop_get hd)) rfl) rfl rfl ?_
      refine ao_cons rfl ?_
      refine op_s (x := aExpr x) (by kernel_rfl) rfl rfl ?_
      refine ao_cons rfl ?_
      refine op_x (cx_alloc (l := []) (by kernel_rfl)) rfl rfl cx_push ?_
      refine ao_cons rfl ?_
      refine op_x0 (cx_store (i := 0) (off := 0) (k := 13) (l := [_]) (v := aExpr x) (cs' := (aExpr x).cells) (by kernel_rfl) rfl (by kernel_rfl) rfl (by kernel_rfl) (by kernel_rfl)) rfl cx_set ?_
      refine at_n ?_
      repeat refine aw_seq ?_
      refine aw_region ?_
      refine ao_cons rfl ?_
      refine op_s (cx_load (i := 0) (off := 0) (l := [.cells (aExpr x).cells]) (x := aExpr x) (by kernel_rfl) rfl (by kernel_rfl)) rfl rfl ?_
      refine ao_cons rfl ?_
      refine op_s (x := .yld k) (by kernel_rfl) rfl rfl ?_
      refine ao_cons rfl ?_
      rw [nodesL_cons, List.map_append] at hsq
      have hsq2 := seqY_append _ _ hsq
      have hw := hargs x (List.mem_of_getElem? (drop_get hd)) k hc _ (by rw [c1]; exact c2) (by rw [c1]; exact hk) hsq2
      have hw2 := acalls_suffix hw [.cells (aExpr x).cells] (by rw [c1]; exact c2) (by
        rw [c1]
        show ((aExpr x).lowB h.length && ((AV.yld k).lowB h.length && true)) = true
        rw [show (aExpr x).lowB h.length = true by kernel_rfl]; simp [AV.lowB, leB]; omega) (fun r h' hh => by
        obtain ⟨b, rfl, _, q1, q2⟩ := hh
        exact ⟨q1, q2, rfl⟩)
      refine op_call (g := 68) (caps := []) rfl rfl rfl ?_
      refine hw2.mono fun r h' hh => ?_
      obtain ⟨h2, ⟨b, rfl, q0, q1, q2⟩, rfl⟩ := hh
      refine ao_cons rfl ?_
      refine op_s (x := .d (.v (.bool (!b)))) (by kernel_rfl) rfl rfl ?_
      refine at_n ?_
      cases b with
      | false =>
        refine aw_cond_t (by kernel_rfl) ?_
        repeat refine aw_seq ?_
        refine aw_region ?_
        refine ao_cons rfl ?_
        refine op_s (x := .d (.v (.bool false))) (by kernel_rfl) rfl rfl ?_
        refine at_n ?_
        refine aw_ret (ab_r (at_r (at_r (ab_r (at_r ?_)))))
        refine ret_keep (h1 := h2) (by rw [q1, c1]) (by rw [c1] at q2; exact q2) ?_
        exact ⟨rfl, false, rfl, q0⟩
      | true =>
        refine aw_cond_f (by kernel_rfl) ?_
        refine aw_skip ?_
        refine ab_n ?_
        refine at_n ?_
        simp only [cond_true] at q0
        refine aw_region ?_
        refine ao_cons rfl ?_
        refine op_s (x := .d (.v (.int .i64 ((i + 1 : Nat) : Int)))) (by
          show some ((.d (.v (.int .i64 (w64 ((i : Int) + 1)))) : AV), HD.same) = _
          have := wrap_nx hd rfl hmx
          unfold aInt at this
          rw [this]) rfl rfl ?_
        refine ao_cons rfl ?_
        refine op_s (x := .d (.v (.int .i64 ((i + 1 : Nat) : Int)))) (by kernel_rfl) rfl rfl ?_
        refine at_n ?_
        have e1 : h2.length = h.length := by rw [q1, c1]
        have e2 : h2.all (Blk.lowB h2.length) = true := by rw [q1]; exact q2
        refine ⟨?_, (i + 1, rest, h2), ?_, ⟨drop_nx hd, ⟨e1, by rw [← e1]; exact e2⟩, q0⟩, Nat.lt_succ_self _⟩
        · rw [← e1]; exact okMask_suffix _ e2 (by
            show (((AV.yld k).pub h2.length).lowB h2.length && (true && (true && (true && true)))) = true
            rw [e1]; simp [AV.pub, AV.lowB, leB]; omega)
        · rw [← e1]; exact mask_suffix _ e2
mutual
theorem walk_ok : (e : ExprD) → WalkOK e
  | ⟨_, _, _, _, _, _, xs⟩ => walk_body _ (walkL_ok xs)
theorem walkL_ok : (l : List ExprD) → ∀ x ∈ l, WalkOK x
  | [], _, h => absurd h List.not_mem_nil
  | x :: l, y, h => (List.mem_cons.1 h).elim (fun e => e ▸ walk_ok x) (walkL_ok l y)
end
theorem end_keep {P : Program} {fn : Func} {n : Nat} {t : List (Nat × AV)} {H h1 : List Blk} {K : AV → List Blk → Prop} (k1 : h1.length = H.length) (k2 : h1.all (Blk.lowB H.length) = true) (hr : aResults P ⟨n, t, h1⟩ fn.results.toList fun rs => ((tupOf rs).pub h1.length).lowB h1.length = true ∧ K ((tupOf rs).pub h1.length) h1) : aPost P fn H.length K .normal ⟨n, t, h1⟩ := by
  have := ret_keep' (P := P) (fn := fn) (n := n) (t := t) (l := []) (K := K) k1 k2
  rw [List.append_nil] at this
  exact this hr
theorem end_keepR {P : Program} {fn : Func} {n : Nat} {t : List (Nat × AV)} {H h1 : List Blk} {K : AV → List Blk → Prop} (k1 : h1.length = H.length) (k2 : h1.all (Blk.lowB H.length) = true) (hr : aResults P ⟨n, t, h1⟩ fn.results.toList fun rs => ((tupOf rs).pub h1.length).lowB h1.length = true ∧ K ((tupOf rs).pub h1.length) h1) : aPost P fn H.length K .ret ⟨n, t, h1⟩ := end_keep k1 k2 hr
theorem iterWalk (e : ExprD) : IterOK Tryz.prog 67 [.elt [dExpr e] 0 0] ((nodes e).map aExpr) := by
  intro k h C hlow hk hs
  refine acalls_of h.length Tryz.func67 rfl (by kernel_rfl) (Nat.le_refl _) ?_
  show AWp Tryz.prog none h.length _ _ ⟨6, [(0, .yld k), (1, .elt [dExpr e] 0 0)], h⟩
  refine aw_region ?_
  refine ao_cons rfl ?_
  refine op_s (x := aExpr e) (by kernel_rfl) rfl rfl ?_
  refine ao_cons rfl ?_
  refine op_s (x := .yld k) (by kernel_rfl) rfl rfl ?_
  refine ao_cons rfl ?_
  refine op_call (g := 68) (caps := []) rfl rfl rfl ?_
  refine (walk_ok e k h C hlow hk hs).mono fun r h' hh => ?_
  obtain ⟨b, rfl, q0, q1, q2⟩ := hh
  refine end_keep (n := 6) (t := [(5, .d (.v (.bool b))), (4, .yld k), (3, aExpr e), (0, .yld k), (1, .elt [dExpr e] 0 0)]) q1 q2 ?_
  exact ⟨rfl, b, q0⟩
def formsX (x : IndexD) : List LinD := x.xLin :: x.xAt
def formsL (e : ExprD) : List LinD := e.xLin :: e.xIdx.flatMap formsX
theorem iterForms (e : ExprD) : IterOK Tryz.prog 164 [.elt [dExpr e] 0 0] ((formsL e).map aLin) := by
  intro k h C hlow hk hs0
  have hs := seqY_keep _ hlow hs0
  refine acalls_of h.length Tryz.func164 rfl (by kernel_rfl) (Nat.le_refl _) ?_
  show AWp Tryz.prog none h.length _ _ ⟨37, [(0, .yld k), (1, .elt [dExpr e] 0 0)], h⟩
  repeat refine aw_seq ?_
  refine aw_region ?_
  refine ao_cons rfl ?_
  refine op_s (x := .yld k) (by kernel_rfl) rfl rfl ?_
  refine ao_cons rfl ?_
  refine op_s (x := .elt [dExpr e] 0 9) (by kernel_rfl) rfl rfl ?_
  refine ao_cons rfl ?_
  refine op_s (x := aLin e.xLin) (by kernel_rfl) rfl rfl ?_
  refine ao_cons rfl ?_
  rw [formsL, List.map_cons] at hs
  refine op_yield (k := k) (x := aLin e.xLin) rfl rfl (by kernel_rfl) (by kernel_rfl) rfl rfl ?_
  refine YS.mono hs fun b h1 hh => ?_
  obtain ⟨⟨k1, k2⟩, k3⟩ := hh
  refine ao_cons rfl ?_
  refine op_s (x := .d (.v (.bool (!b)))) (by kernel_rfl) rfl rfl ?_
  refine at_n ?_
  cases b with
  | false =>
    refine aw_cond_t (by kernel_rfl) ?_
    refine aw_ret (at_r ?_)
    exact end_keepR k1 k2 ⟨rfl, false, k3.1⟩
  | true =>
    refine aw_cond_f (by kernel_rfl) ?_
    refine aw_skip ?_
    refine at_n ?_
    simp only [cond_true] at k3
    repeat refine aw_seq ?_
    refine aw_region ?_
    refine ao_cons rfl ?_
    refine op_s (x := .elt [dExpr e] 0 11) (by kernel_rfl) rfl rfl ?_
    refine ao_cons rfl ?_
    refine op_s (x := .d (.sl (dIndexs e.xIdx))) (by kernel_rfl) rfl rfl ?_
    refine ao_cons rfl ?_
    refine op_s (x := .d (.v (.int .i64 (dIndexs e.xIdx).length))) (by kernel_rfl) rfl rfl ?_
    refine ao_cons rfl ?_
    refine op_s (x := .d (.v (.int .i64 0))) (by kernel_rfl) rfl rfl ?_
    refine at_n ?_
    refine aw_okT 13 (dIndexs e.xIdx) (by kernel_rfl) fun hok => ?_
    have hmx : e.xIdx.length ≤ maxLen := by rw [← dIndexs_len]; exact ok_len hok
    rw [dIndexs_len]
    refine aw_block ?_
    refine aw_loop (ι := Nat × List IndexD × List Blk) [0, 13, 14, 15] h.length (fun i => ⟨37, [(0, .yld k), (13, .d (.sl (dIndexs e.xIdx))), (14, .d (.v (.int .i64 e.xIdx.length))), (15, .d (.v (.int .i64 i.1)))], i.2.2⟩)
      (fun i => e.xIdx.drop i.1 = i.2.1 ∧ KeepL h i.2.2 ∧ seqY Tryz.prog k ((i.2.1.flatMap formsX).map aLin) (fun b h2 => C b h2 ∧ KeepL h h2) i.2.2) (fun i => i.2.1.length) (0, e.xIdx, h1) (Nat.le_refl _) ?_ ?_ ⟨rfl, ⟨k1, k2⟩, k3⟩ ?_
    · rw [← k1]; exact okMask_same _ (by rw [k1]; exact k2) (by
        show (((AV.yld k).pub h1.length).lowB h1.length && (true && (true && (true && true)))) = true
        rw [k1, yld_low hk]; rfl)
    · rw [← k1]; exact mask_same _ (by rw [k1]; exact k2)
    rintro ⟨i, rest, hc⟩ ⟨hd, ⟨c1, c2⟩, hsq⟩
    simp only at hd c1 c2 hsq ⊢
    repeat refine aw_seq ?_
    refine aw_region ?_
    refine ao_cons rfl ?_
    refine op_s (x := .d (.v (.bool (decide ((i : Int) < (e.xIdx.length : Int)))))) (by kernel_rfl) rfl rfl ?_
    refine at_n ?_
    repeat refine aw_seq ?_
    cases rest with
    | nil =>
      rw [lt_f hd]
      refine aw_cond_f (by kernel_rfl) ?_
      refine aw_exit (at_e (at_e (ab_y rfl ?_)))
      rw [List.flatMap_nil, List.map_nil] at hsq
      exact end_keep c1 c2 ⟨rfl, true, hsq.1⟩
    | cons x rest =>
      rw [lt_t hd]
      refine aw_cond_t (by kernel_rfl) ?_
      refine aw_skip ?_
      refine at_n ?_
      repeat refine aw_seq ?_
      refine aw_block ?_
      repeat refine aw_seq ?_
      refine aw_region ?_
      refine ao_cons rfl ?_
      rw [← List.append_nil hc]
      refine op_s (cx_index (q := i) (e := 54) (k := 4) rfl rfl (by kernel_rfl) (dIndexs_get (drop_get hd)) rfl) rfl rfl ?_
      refine ao_cons rfl ?_
      refine op_s (x := aIndex x) (by kernel_rfl) rfl rfl ?_
      refine ao_cons rfl ?_
      refine op_x (cx_alloc (l := []) (by kernel_rfl)) rfl rfl cx_push ?_
      refine ao_cons rfl ?_
      refine op_x0 (cx_store (i := 0) (off := 0) (k := 4) (l := [_]) (v := aIndex x) (cs' := (aIndex x).cells) (by kernel_rfl) rfl (by kernel_rfl) rfl (by kernel_rfl) (by kernel_rfl)) rfl cx_set ?_
      refine at_n ?_
      repeat refine aw_seq ?_
      refine aw_region ?_
      refine ao_cons rfl ?_
      refine op_s (x := .yld k) (by kernel_rfl) rfl rfl ?_
      refine ao_cons rfl ?_
      refine op_s (x := .ptr (hc.length + 0) 0) (by kernel_rfl) rfl rfl ?_
      refine ao_cons rfl ?_
      refine op_s (cx_load (i := 0) (off := 0) (l := [.cells (aIndex x).cells]) (x := aLin x.xLin) (by kernel_rfl) rfl (by kernel_rfl)) rfl rfl ?_
      refine ao_cons rfl ?_
      rw [List.flatMap_cons, formsX, List.cons_append, List.map_cons] at hsq
      have hy := ys_suffix hsq [.cells (aIndex x).cells] (by rw [c1]; exact c2) (by kernel_rfl) (fun b h' hh => hh.1)
      refine op_yield (k := k) (x := aLin x.xLin) rfl rfl (by kernel_rfl) (by kernel_rfl) rfl rfl ?_
      refine hy.mono fun b h' hh => ?_
      obtain ⟨h2, ⟨⟨p1, p2⟩, p3⟩, rfl⟩ := hh
      refine ao_cons rfl ?_
      refine op_s (x := .d (.v (.bool (!b)))) (by kernel_rfl) rfl rfl ?_
      refine at_n ?_
      have q1 : h2.length = h.length := by rw [p1, c1]
      have q2 : h2.all (Blk.lowB h.length) = true := by rw [c1] at p2; exact p2
      cases b with
      | false =>
        refine aw_cond_t (by kernel_rfl) ?_
        refine aw_ret ?_
        repeat (first | (with_reducible refine at_r ?_) | (with_reducible refine ab_r ?_))
        exact ret_keep q1 q2 ⟨rfl, false, p3.1⟩
      | true =>
        refine aw_cond_f (by kernel_rfl) ?_
        refine aw_skip ?_
        refine at_n ?_
        simp only [cond_true] at p3
        repeat refine aw_seq ?_
        refine aw_region ?_
        refine ao_cons rfl ?_
        refine op_s (x := .ptr (hc.length + 0) 3) (by kernel_rfl) rfl rfl ?_
        refine ao_cons rfl ?_
        refine op_s (cx_load (h := h2) (i := 0) (off := 3) (l := [.cells (aIndex x).cells]) (x := .d (.sl (dLins x.xAt))) (by rw [p1]; rfl) rfl (by kernel_rfl)) rfl rfl ?_
        refine ao_cons rfl ?_
        refine op_s (x := .d (.v (.int .i64 (dLins x.xAt).length))) (by kernel_rfl) rfl rfl ?_
        refine ao_cons rfl ?_
        refine op_s (x := .d (.v (.int .i64 0))) (by kernel_rfl) rfl rfl ?_
        refine at_n ?_
        refine aw_okT 25 (dLins x.xAt) (by kernel_rfl) fun hok2 => ?_
        have hmx2 : x.xAt.length ≤ maxLen := by rw [← dLins_len]; exact ok_len hok2
        rw [dLins_len]
        refine aw_block ?_
        refine aw_loop (ι := Nat × List LinD × List Blk) [0, 13, 14, 15, 25, 26, 27] h.length (fun j => ⟨37, [(0, .yld k), (13, .d (.sl (dIndexs e.xIdx))), (14, .d (.v (.int .i64 e.xIdx.length))), (15, .d (.v (.int .i64 i))), (25, .d (.sl (dLins x.xAt))), (26, .d (.v (.int .i64 x.xAt.length))), (27, .d (.v (.int .i64 j.1)))], j.2.2⟩)
          (fun j => x.xAt.drop j.1 = j.2.1 ∧ KeepL h j.2.2 ∧ seqY Tryz.prog k ((j.2.1 ++ rest.flatMap formsX).map aLin) (fun b h2 => C b h2 ∧ KeepL h h2) j.2.2) (fun j => j.2.1.length) (0, x.xAt, h2) (Nat.le_refl _) ?_ ?_ ⟨rfl, ⟨q1, q2⟩, p3⟩ ?_
        · rw [← q1]; exact okMask_suffix _ (by rw [q1]; exact q2) (by
            show (((AV.yld k).pub h2.length).lowB h2.length && (true && (true && (true && (true && (true && (true && true))))))) = true
            rw [q1, yld_low hk]; rfl)
        · rw [← q1]; exact mask_suffix _ (by rw [q1]; exact q2)
        rintro ⟨j, r2, hb⟩ ⟨hd2, ⟨b1, b2⟩, hsq2⟩
        simp only at hd2 b1 b2 hsq2 ⊢
        repeat refine aw_seq ?_
        refine aw_region ?_
        refine ao_cons rfl ?_
        refine op_s (x := .d (.v (.bool (decide ((j : Int) < (x.xAt.length : Int)))))) (by kernel_rfl) rfl rfl ?_
        refine at_n ?_
        repeat refine aw_seq ?_
        cases r2 with
        | nil =>
          rw [lt_f hd2]
          refine aw_cond_f (by kernel_rfl) ?_
          refine aw_exit (at_e (at_e (ab_y rfl ?_)))
          refine ab_n ?_
          refine at_n ?_
          rw [List.nil_append] at hsq2
          refine aw_region ?_
          refine ao_cons rfl ?_
          refine op_s (x := .d (.v (.int .i64 ((i + 1 : Nat) : Int)))) (by
            show some ((.d (.v (.int .i64 (w64 ((i : Int) + 1)))) : AV), HD.same) = _
            have := wrap_nx hd rfl hmx
            unfold aInt at this
            rw [this]) rfl rfl ?_
          refine ao_cons rfl ?_
          refine op_s (x := .d (.v (.int .i64 ((i + 1 : Nat) : Int)))) (by kernel_rfl) rfl rfl ?_
          refine at_n ?_
          refine ⟨?_, (i + 1, rest, hb), ?_, ⟨drop_nx hd, ⟨b1, b2⟩, hsq2⟩, Nat.lt_succ_self _⟩
          · rw [← b1]; exact okMask_same _ (by rw [b1]; exact b2) (by
              show (((AV.yld k).pub hb.length).lowB hb.length && (true && (true && (true && true)))) = true
              rw [b1, yld_low hk]; rfl)
          · rw [← b1]; exact mask_same _ (by rw [b1]; exact b2)
        | cons y r2 =>
          rw [lt_t hd2]
          refine aw_cond_t (by kernel_rfl) ?_
          refine aw_skip ?_
          refine at_n ?_
          repeat refine aw_seq ?_
          refine aw_block ?_
          repeat refine aw_seq ?_
          refine aw_region ?_
          refine ao_cons rfl ?_
          rw [← List.append_nil hb]
          refine op_s (cx_index (q := j) (e := 28) (k := 2) rfl rfl (by kernel_rfl) (dLins_get (drop_get hd2)) rfl) rfl rfl ?_
          refine ao_cons rfl ?_
          refine op_s (x := aLin y) (by kernel_rfl) rfl rfl ?_
          refine ao_cons rfl ?_
          refine op_x (cx_alloc (l := []) (by kernel_rfl)) rfl rfl cx_push ?_
          refine ao_cons rfl ?_
          refine op_x0 (cx_store (i := 0) (off := 0) (k := 2) (l := [_]) (v := aLin y) (cs' := (aLin y).cells) (by kernel_rfl) rfl (by kernel_rfl) rfl (by kernel_rfl) (by kernel_rfl)) rfl cx_set ?_
          refine at_n ?_
          repeat refine aw_seq ?_
          refine aw_region ?_
          refine ao_cons rfl ?_
          refine op_s (x := .yld k) (by kernel_rfl) rfl rfl ?_
          refine ao_cons rfl ?_
          refine op_s (cx_load (i := 0) (off := 0) (l := [.cells (aLin y).cells]) (x := aLin y) (by kernel_rfl) rfl (by kernel_rfl)) rfl rfl ?_
          refine ao_cons rfl ?_
          rw [List.cons_append, List.map_cons] at hsq2
          have hy2 := ys_suffix hsq2 [.cells (aLin y).cells] (by rw [b1]; exact b2) (by kernel_rfl) (fun b h' hh => hh.1)
          refine op_yield (k := k) (x := aLin y) rfl rfl (by kernel_rfl) (by kernel_rfl) rfl rfl ?_
          refine hy2.mono fun b h' hh => ?_
          obtain ⟨h3, ⟨⟨r1, r3⟩, r4⟩, rfl⟩ := hh
          refine ao_cons rfl ?_
          refine op_s (x := .d (.v (.bool (!b)))) (by kernel_rfl) rfl rfl ?_
          refine at_n ?_
          have u1 : h3.length = h.length := by rw [r1, b1]
          have u2 : h3.all (Blk.lowB h.length) = true := by rw [b1] at r3; exact r3
          cases b with
          | false =>
            refine aw_cond_t (by kernel_rfl) ?_
            refine aw_ret ?_
            repeat (first | (with_reducible refine at_r ?_) | (with_reducible refine ab_r ?_))
            exact ret_keep u1 u2 ⟨rfl, false, r4.1⟩
          | true =>
            refine aw_cond_f (by kernel_rfl) ?_
            refine aw_skip ?_
            refine ab_n ?_
            refine at_n ?_
            simp only [cond_true] at r4
            refine aw_region ?_
            refine ao_cons rfl ?_
            refine op_s (x := .d (.v (.int .i64 ((j + 1 : Nat) : Int)))) (by
              show some ((.d (.v (.int .i64 (w64 ((j : Int) + 1)))) : AV), HD.same) = _
              have := wrap_nx hd2 rfl hmx2
              unfold aInt at this
              rw [this]) rfl rfl ?_
            refine ao_cons rfl ?_
            refine op_s (x := .d (.v (.int .i64 ((j + 1 : Nat) : Int)))) (by kernel_rfl) rfl rfl ?_
            refine at_n ?_
            refine ⟨?_, (j + 1, r2, h3), ?_, ⟨drop_nx hd2, ⟨u1, u2⟩, r4⟩, Nat.lt_succ_self _⟩
            · rw [← u1]; exact okMask_suffix _ (by rw [u1]; exact u2) (by
                show (((AV.yld k).pub h3.length).lowB h3.length && (true && (true && (true && (true && (true && (true && true))))))) = true
                rw [u1, yld_low hk]; rfl)
            · rw [← u1]; exact mask_suffix _ (by rw [u1]; exact u2)
theorem walkIt_abs (v1 : ExprD) : AFn Tryz.prog 40 [(aExpr v1)] (· = .fn 67 [.elt [dExpr v1] 0 0]) := by
  refine xRet_ok (r := .fn 67 [(.ptr 0 0)]) (h := [.cells (aExpr v1).cells]) ?_ (by kernel_rfl) rfl
  refine acn_of 1 Tryz.func40 rfl (by kernel_rfl) (Nat.le_of_ble_eq_true rfl) ?_
  refine aw_chg (s' := ⟨4, [(0, (aExpr v1))], []⟩) (by kernel_rfl) ?_
  refine aw_seq ?_
  refine rg [] [(1, (.ptr 0 0))] [.cells (aExpr v1).cells] (by kernel_rfl) ?_
  refine aw_seq ?_
  refine rg [] [(2, (.fn 67 [(.ptr 0 0)]))] [.cells (aExpr v1).cells] (by kernel_rfl) ?_
  refine aw_ret ?_
  exact reth_ok (by kernel_rfl)
theorem formsIt_abs (v1 : ExprD) : AFn Tryz.prog 96 [(aExpr v1)] (· = .fn 164 [.elt [dExpr v1] 0 0]) := by
  refine xRet_ok (r := .fn 164 [(.ptr 0 0)]) (h := [.cells (aExpr v1).cells]) ?_ (by kernel_rfl) rfl
  refine acn_of 1 Tryz.func96 rfl (by kernel_rfl) (Nat.le_of_ble_eq_true rfl) ?_
  refine aw_chg (s' := ⟨4, [(0, (aExpr v1))], []⟩) (by kernel_rfl) ?_
  refine aw_seq ?_
  refine rg [] [(1, (.ptr 0 0))] [.cells (aExpr v1).cells] (by kernel_rfl) ?_
  refine aw_seq ?_
  refine rg [] [(2, (.fn 164 [(.ptr 0 0)]))] [.cells (aExpr v1).cells] (by kernel_rfl) ?_
  refine aw_ret ?_
  exact reth_ok (by kernel_rfl)
end Go.Proofs.YtnedgkfefdldeaaGreatDoor

/-! AbsKern: Closed runs over this program: what they ask of it. -/
namespace Go.Proofs.YtnedgkfefdldeaaGreatDoor
open Go.RowKit
set_option maxRecDepth 1000000
def noGorB : List Func → Bool
  | [] => true
  | f :: l => bif f.name == "runtime.NumGoroutine" then false else noGorB l
theorem noGorB_get : ∀ {l : List Func}, noGorB l = true → ∀ (i : Nat) (f : Func), l[i]? = some f → (f.name == "runtime.NumGoroutine") = false
  | [], _, i, f, h => by simp at h
  | g :: l, hb, i, f, h => by
    unfold noGorB at hb
    cases hg : g.name == "runtime.NumGoroutine" with
    | true => rw [hg] at hb; cases hb
    | false =>
      rw [hg] at hb
      cases i with
      | zero => simp at h; subst h; exact hg
      | succ i => exact noGorB_get hb i f (by simpa using h)
theorem prog_noGorB : noGorB Tryz.prog.funcs.toList = true := by kernel_rfl
theorem prog_noGor : NoGor Tryz.prog := fun f fn h => noGorB_get prog_noGorB f fn (by simpa using h)
theorem prog_mixed : Tryz.prog.follows .mixedOrders = true := by kernel_rfl
end Go.Proofs.YtnedgkfefdldeaaGreatDoor

/-! AbsKw: The keywords, worked out; calls whose blocks are kept. Written by a program (mkmemo.py). -/
namespace Go.Proofs.YtnedgkfefdldeaaGreatDoor
open Go.RowKit
set_option maxRecDepth 1000000
set_option maxHeartbeats 0
def memoG : Memo := fun g _ => bif g == 251 then some none else none
theorem memoG_ok : MemoOK Tryz.prog memoG := fun g args r h => by
  unfold memoG at h
  rcases bif_or h with ⟨_, h⟩ | ⟨_, h⟩
  · cases h
  cases h
def kwD : List (List D) := [[.v (.string (bs [115,105,122,101]))], [.v (.string (bs [119,104,101,114,101]))], [.v (.string (bs [105,110]))], [.v (.string (bs [100,101,102]))], [.v (.string (bs [111,117,116]))], [.v (.string (bs [115,117,109]))], [.v (.string (bs [112,114,111,100]))], [.v (.string (bs [109,105,110]))], [.v (.string (bs [109,97,120]))], [.v (.string (bs [115,99,97,110]))], [.v (.string (bs [111,118,101,114]))], [.v (.string (bs [105,102]))], [.v (.string (bs [99,97,115,116]))], [.v (.string (bs [102,114,97,99]))], [.v (.string (bs [105,110,116]))], [.v (.string (bs [102,105,120]))], [.v (.string (bs [99,101,105,108]))], [.v (.string (bs [102,108,111,111,114]))], [.v (.string (bs [122,101,114,111]))], [.v (.string (bs [101,118,101,110]))], [.v (.string (bs [115,97,116]))], [.v (.string (bs [119,114,97,112]))]]
theorem keywords_run : xPure (exec Tryz.prog memo0 400) Tryz.prog memo0 250 [] = some (.d (.sl kwD)) := by kernel_rfl
theorem keywords_abs : AFn Tryz.prog 250 [] (· = .d (.sl kwD)) := afn_run prog_mixed prog_noGor (memo0_ok _) 400 keywords_run
def memoK : Memo := fun g args => bif g == 250 then (match args with | [] => some (some (.d (.sl kwD))) | _ => none) else memoG g args
theorem memoK_ok : MemoOK Tryz.prog memoK := fun g args r h => by
  unfold memoK at h
  rcases bif_or h with ⟨hg, h⟩ | ⟨_, h⟩
  · have e : g = 250 := by simpa using hg
    subst e
    split at h
    · cases h; exact keywords_abs
    · cases h
  · exact memoG_ok g args r h
end Go.Proofs.YtnedgkfefdldeaaGreatDoor

/-! KwS: The keywords as strings. -/
namespace Go.Proofs.YtnedgkfefdldeaaGreatDoor
open Go.RowKit
def kwL : List ByteArray := [bs [115,105,122,101], bs [119,104,101,114,101], bs [105,110], bs [100,101,102], bs [111,117,116], bs [115,117,109], bs [112,114,111,100], bs [109,105,110], bs [109,97,120], bs [115,99,97,110], bs [111,118,101,114], bs [105,102], bs [99,97,115,116], bs [102,114,97,99], bs [105,110,116], bs [102,105,120], bs [99,101,105,108], bs [102,108,111,111,114], bs [122,101,114,111], bs [101,118,101,110], bs [115,97,116], bs [119,114,97,112]]
theorem keywords_hand : AFn Tryz.prog 250 [] (· = .d (.sl (dStrs kwL))) := keywords_abs
end Go.Proofs.YtnedgkfefdldeaaGreatDoor
