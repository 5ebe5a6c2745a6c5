/-
  Part 8 of the proof: Top.
-/
import Derived.Test.YtnedgkfefdldeaaGreatDoorPk7
import Derived.Test.YtnedgkfefdldeaaGreatDoorRows
import Derived.ProofKit
import Derived.OpenShut
import Derived.ShutString
import Derived.ChangeOld
import Derived.Lib.LaidTab
import Derived.LaidHandle
import Derived.JoinedOf
import Derived.ChangeVars
/-! Top: From contracts in the small language to contracts of the model, and the listed variables: what a row's condition gives, and a world that meets it. -/
namespace Go.Proofs.YtnedgkfefdldeaaGreatDoor
open Go.RowKit
set_option maxRecDepth 100000
theorem tabIs_of_mem {P : Program} {W : World} {name : String} {k : IntKind} {zs : List Int} {l : List (String × DataW Unit)} {g : Nat} {t e : TypeId} {n : Nat}
    (hg : P.globalNamed name = some g) (hty : (P.globals[g]?).map (·.type) = some t) (ht : P.underlying t = some (.array n e)) (he : P.underlying e = some (.int k)) (hce : P.cellsOf e = 1) (hct : P.cellsOf t = n)
    (h : laidMet P l W) (hm : (name, Lib.tabData k zs) ∈ l) : Lib.TabIs P W name k zs := by
  obtain ⟨ps, hl, hx⟩ := h
  clear hx
  induction l generalizing ps with
  | nil => cases hm
  | cons x r ih =>
    obtain ⟨x1, x2⟩ := x
    obtain ⟨g', t', cs, fuel, p, q, hg', ht', hvar, hd, hr, _⟩ := hl
    rcases List.mem_cons.1 hm with hm | hm
    · cases hm
      obtain rfl := Option.some.inj (hg.symm.trans hg')
      obtain rfl := Option.some.inj (hty.symm.trans ht')
      unfold Lib.TabIs
      rw [hvar, ← Lib.cells_of_tab ht he hce hct hd]
    · exact ih hm q hr
def TabsOK (W : World) : Prop := ∀ (g : Nat) (l : List Value), (g, l) ∈ gtab → ∀ (j : Nat) (v : Value), l[j]? = some v → W.cell? ⟨g, j, none⟩ = some v
def topG (W : World) : Gh := { N := 0, Z := fun b => b < W.heap.size, S := fun b _ => b < W.heap.size, rho := fun _ => 0, sg := fun _ => undef, ow := fun _ => none, fl := fun _ => 0, M := 0 }
theorem top_inv {W : World} (h : TabsOK W) : Inv (topG W) W [] := by
  refine ⟨rfl, fun b hb => hb, fun b _ hb => hb, fun n B hB => by simp at hB, fun m n b hm => ?_, fun g l hm j v hv => ⟨World.block_lt_of_cell? W _ (h g l hm j v hv), h g l hm j v hv⟩, Nat.zero_le _⟩
  rw [ownB_none (by simp)] at hm
  cases hm
theorem top_calls {P : Program} {f : FuncId} {args : List AV} {r : AV} (h : AFn P f args (· = r)) {W : World} (hT : TabsOK W) (vs : Array Value) (hl : vs.size = args.length)
    (hv : ∀ (i : Nat) (u : Value) (c : AV), vs[i]? = some u → args[i]? = some c → VRel (topG W) W u c) :
    Calls P f vs W fun e W' => ∃ v G', e = .returned v ∧ VRel G' W' v r ∧ Below W.heap.size W W' := by
  refine (h.2 (topG W) W vs (top_inv hT) hl hv).mono fun e W' hp => ?_
  obtain ⟨v, G', r', h', rfl, hE, _, _, hr, _, rfl⟩ := hp
  exact ⟨v, G', rfl, hr, hE.os, hE.tape, hE.output, hE.size, fun k hk => hE.old k hk⟩
theorem top_true {P : Program} {f : FuncId} {args : List AV} (h : AFn P f args (· = .d (.v (.bool true)))) {W : World} (hT : TabsOK W) (vs : Array Value) (hl : vs.size = args.length)
    (hv : ∀ (i : Nat) (u : Value) (c : AV), vs[i]? = some u → args[i]? = some c → VRel (topG W) W u c) :
    Calls P f vs W fun e W' => e = .returned (.bool true) ∧ Below W.heap.size W W' :=
  (top_calls h hT vs hl hv).mono fun e W' hp => by
    obtain ⟨v, G', rfl, hr, hb⟩ := hp
    cases hr with
    | d h => cases h; exact ⟨rfl, hb⟩
theorem u8L_eq (l : List Nat) : u8L l = (l.map Int.ofNat).map (fun z => Value.int .u8 z) := by simp [u8L, List.map_map, Function.comp_def]
theorem tab_cell {P : Program} {W : World} {name : String} {k : IntKind} {zs : List Int} {g : Nat} (h : Lib.TabIs P W name k zs) (hg : P.globalNamed name = some g) (j : Nat) (v : Value) (hj : (zs.map fun z => Value.int k z)[j]? = some v) : W.cell? ⟨g, j, none⟩ = some v := by
  rw [List.getElem?_map] at hj
  cases hz : zs[j]? with
  | none => rw [hz] at hj; cases hj
  | some z =>
    rw [hz] at hj
    cases hj
    have hlt : j < zs.length := (List.getElem?_eq_some_iff.1 hz).1
    have := h.cell hg j hlt
    rw [List.getD_eq_getElem?_getD, hz] at this
    exact this
def laidAll : List (String × DataW Unit) := Rows.simplifyQueriesRow.laid
theorem laid_plain : (laidAll.filter fun x => x.2.handleName?.isSome) = [] := by kernel_rfl
theorem laidMet_of_H {W : World} (h : laidMetH Tryz.prog laidAll W) : laidMet Tryz.prog laidAll W := by
  unfold laidMetH at h
  rw [laid_plain] at h
  exact h
theorem tabs_of_laid {W : World} (h : laidMetH Tryz.prog laidAll W) : TabsOK W := by
  have hL := laidMet_of_H h
  intro g l hm j v hv
  unfold gtab at hm
  simp only [List.mem_cons, Prod.mk.injEq, List.not_mem_nil, or_false] at hm
  rcases hm with ⟨rfl, rfl⟩
  · rw [u8L_eq] at hv
    exact tab_cell (tabIs_of_mem (by kernel_rfl) (t := 261) (by kernel_rfl) Tryz.underlying261 Tryz.underlying5 (by kernel_rfl) (by kernel_rfl) hL (name := "strings.asciiSpace") (g := 0) (List.mem_of_getElem? (i := 1) (by kernel_rfl))) (by kernel_rfl) j v hv
theorem own_knob : ownKnob Tryz.prog.godebug = none := by kernel_rfl
def setG (h : Array Obj) (g : Nat) (l : List Value) : Array Obj := h.modify g fun
  | .cells _ t frozen => .cells l.toArray t frozen
  | o => o
def r16 (a b c : Nat) : List Value := [.int .u16 (Int.ofNat a), .int .u16 (Int.ofNat b), .int .u16 (Int.ofNat c)]
def wsCells : List Value := r16 9 13 1 ++ (r16 32 133 101 ++ (r16 160 5760 5600 ++ (r16 8192 8202 1 ++ (r16 8232 8233 1 ++ (r16 8239 8287 48 ++ r16 12288 12288 1)))))
noncomputable def laidWorld (os : Os) : World :=
  let w0 := World.holding Tryz.prog os ⟨#[], #[], []⟩
  { w0 with heap := ((setG (setG w0.heap 0 (u8L asciiSpaceL)) 2 [.pointer (some ⟨w0.heap.size, 0, none⟩)]).push
      (.cells #[.slice (some ⟨w0.heap.size + 1, 0, none⟩) 7 7, .slice none 0 0, .int .i64 2] 278)).push (.cells wsCells.toArray 281) }
theorem laid_met (os : Os) (args : Array Value) : laidMetH Tryz.prog laidAll ((laidWorld os).forCall (fun _ _ => 0) ⟨#[], args, []⟩).memory :=
  laidMetH_of_parts (laidMet_of_run' 8 (by kernel_rfl) (by kernel_rfl)) (by kernel_rfl)
def cellOkB (P : Program) (w : World) (t : TypeId) (v : Value) : Bool :=
  match P.underlying t, v with
  | some (.pointer e), .pointer (some a) => a.spot.isNone && (match w.shape? a.block with
    | some (row, cells) => liesAt P P.depth row (cells / P.cellsOf row) a.off e 1
    | none => false)
  | _, v => Cell.okB P t v
theorem cellOk_of {P : Program} {w : World} {t : TypeId} {v : Value} (h : cellOkB P w t v = true) : Cell.ok P w .any 0 t v := by
  unfold cellOkB at h
  split at h
  · next e a ht =>
    rw [Bool.and_eq_true] at h
    unfold Cell.ok
    simp only [ht]
    obtain ⟨h1, h2⟩ := h
    split at h2
    · next row cells hs => exact ⟨trivial, by simpa using h1, row, cells, hs, h2⟩
    · cases h2
  · exact Cell.ok_of_okB h
def rowOkB (P : Program) (w : World) (t : TypeId) (cs : Array Value) : Bool :=
  match P.cellTypes P.depth t with
  | some ts => cs.size % ts.length == 0 && (List.range cs.size).all fun i =>
      match cs[i]?, ts[i % ts.length]? with
      | some v, some u => cellOkB P w u v
      | _, _ => false
  | none => false
theorem rowOk_of {P : Program} {w : World} {t : TypeId} {cs : Array Value} (h : rowOkB P w t cs = true) : Row.ok P w .any 0 t cs := by
  unfold rowOkB at h
  split at h
  · rename_i ts hts
    simp only [Bool.and_eq_true, beq_iff_eq, List.all_eq_true, List.mem_range] at h
    refine ⟨ts, hts, ⟨cs.size / ts.length, (Nat.div_mul_cancel (Nat.dvd_of_mod_eq_zero h.1)).symm⟩, fun i v hv => ?_⟩
    have hi : i < cs.size := (Array.getElem?_eq_some_iff.1 hv).1
    have := h.2 i hi
    rw [hv] at this
    cases hu : ts[i % ts.length]? with
    | none => simp [hu] at this
    | some u => simp only [hu] at this; exact ⟨u, rfl, cellOk_of this⟩
  · cases h
def variablesOkB (P : Program) (w : World) : Bool :=
  let w₀ := (begin P (fun _ _ => 0) default).world
  (List.range P.globals.size).all fun g =>
    match (w₀.heap[g]?).bind Obj.row? with
    | none => true
    | some (zero, t) =>
      match w.heap[g]? with
      | some (.cells cs t' frozen) => decide (t' = t) && decide (frozen = (0, 0)) && cs.size == zero.size && (!P.buildable t || rowOkB P w t cs)
      | _ => false
theorem shaped_of {P : Program} {w : World} (hv : variablesOkB P w = true)
    (hr : (w.heap.toList.drop P.globals.size).take ((begin P (fun _ _ => 0) default).world.heap.size - P.globals.size) =
      (begin P (fun _ _ => 0) default).world.heap.toList.drop P.globals.size) : w.Shaped P := by
  refine ⟨fun g zero t hg hz => ?_, fun k h1 h2 => ?_⟩
  case refine_2 =>
    have := congrArg (·[k - P.globals.size]?) hr
    simp only [List.getElem?_take, List.getElem?_drop, Array.getElem?_toList] at this
    rw [if_pos (by omega), Nat.add_sub_cancel' h1] at this
    exact this
  unfold variablesOkB at hv
  simp only [List.all_eq_true, List.mem_range] at hv
  have := hv g hg
  rw [hz] at this
  simp only at this
  split at this
  · rename_i cs t' fr hw
    simp only [Bool.and_eq_true, decide_eq_true_eq, beq_iff_eq, Bool.or_eq_true, Bool.not_eq_true'] at this
    obtain ⟨⟨⟨rfl, rfl⟩, hs⟩, hb⟩ := this
    refine ⟨cs, hw, hs, fun hbuild => ?_⟩
    rcases hb with hb | hb
    · rw [hbuild] at hb; cases hb
    · exact rowOk_of hb
  · cases this
theorem world_shaped (os : Os) (args : Array Value) : ((laidWorld os).forCall (fun _ _ => 0) ⟨#[], args, []⟩).Shaped Tryz.prog := shaped_of (by kernel_rfl) (by kernel_rfl)
theorem top_witness {H : Type} {enc : TypeId × Value → H} {os : Os} {f : FuncId} {fn : Func} {s : ChangeSpec} {apart : Bool} (modest : Bool) (args : Array Value) (fuel : Nat)
    (hok : Input.okWideB Tryz.prog ((laidWorld os).forCall (fun _ _ => 0) ⟨#[], args, []⟩) f ⟨#[], args, []⟩ = true)
    (hpre : s.preB enc Tryz.prog fn [] apart ((laidWorld os).forCall (fun _ _ => 0) ⟨#[], args, []⟩).memory args fuel = true)
    (hsz : s.sizedB enc Tryz.prog fn apart ((laidWorld os).forCall (fun _ _ => 0) ⟨#[], args, []⟩).memory args fuel = true) :
    ∃ (w : World) (tape : Tape) (i : Input), w.os = os ∧ (w.forCall tape i).Shaped Tryz.checked.prog ∧ i.vars = [] ∧ Input.okWide Tryz.checked.prog (w.forCall tape i) .any w.heap.size f i ∧
      ((s.pre enc Tryz.checked.prog fn [] apart (w.forCall tape i).memory i.args ∧ laidMetH Tryz.prog laidAll (w.forCall tape i).memory) ∧ sizedMet enc Tryz.checked.prog fn (OpenSpec.ofChange s) apart (w.forCall tape i).memory i.args) ∧ ({ modest := modest } : Assume).holds Tryz.checked.prog (lone (Frame.enter Tryz.checked.prog f i.args .normal) [] (w.forCall tape i)) :=
  ⟨laidWorld os, fun _ _ => 0, ⟨#[], args, []⟩, rfl, world_shaped os args, (Input.okWide_of_okWideB (base := 0) hok).1, (Input.okWide_of_okWideB hok).2, ⟨⟨ChangeSpec.pre_of_preB hpre, laid_met os args⟩, sizedMet_of_sizedB hsz⟩, by
    simp only [Assume.holds]
    exact ⟨by simp, by simp, fun _ => Modest.zero, by simp, by simp⟩⟩
end Go.Proofs.YtnedgkfefdldeaaGreatDoor
