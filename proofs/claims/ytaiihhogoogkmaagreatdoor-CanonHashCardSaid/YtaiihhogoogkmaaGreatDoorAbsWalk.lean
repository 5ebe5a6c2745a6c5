/-
  The small language's code as one proposition to be worked out.
-/
import Derived.Test.YtaiihhogoogkmaaGreatDoorAbsCode
namespace Go.Proofs.YtaiihhogoogkmaaGreatDoor
open Go.RowKit

def aCond (c : AV) (x y : Prop) : Prop :=
  match c with
  | .d (.v (.bool t)) => (t = true → x) ∧ (t = false → y)
  | _ => False
def aCode (P : Program) (r : Option Nat) (N0 : Nat) : Code → (Exit → St → Prop) → St → Prop
  | .skip, Q, s => Q .normal s
  | .region _ ops false, Q, s => aOps P ops ops.toList (Q .normal) s
  | .seq a b, Q, s => aCode P r N0 a (AThen (aCode P r N0 b Q) Q) s
  | .cond c x y, Q, s => aCond (ev s c) (aCode P r N0 x Q s) (aCode P r N0 y Q s)
  | .block id b, Q, s => aCode P r N0 b (ABlock id Q) s
  | .exit id, Q, s => Q (.exit id) s
  | .ret, Q, s => Q .ret s
  | c, Q, s => AWp P r N0 c Q s
theorem acode_sound {P : Program} {r : Option Nat} {N0 : Nat} : ∀ (c : Code) (Q : Exit → St → Prop) (s : St), aCode P r N0 c Q s → AWp P r N0 c Q s := by
  intro c
  induction c with
  | skip => exact fun Q s h => aw_skip h
  | region id ops draw =>
    intro Q s h
    cases draw with
    | false => exact aw_region h
    | true => exact h
  | seq a b iha ihb =>
    intro Q s h
    refine aw_seq ((iha _ _ h).mono fun e s' h' => ?_)
    cases e with
    | normal => exact ihb _ _ h'
    | _ => exact h'
  | cond c x y ihx ihy =>
    intro Q s h
    simp only [aCode] at h
    unfold aCond at h
    split at h
    · rename_i t hc
      exact aw_cond hc (fun e => ihx _ _ (h.1 e)) (fun e => ihy _ _ (h.2 e))
    · exact h.elim
  | block id b ih => exact fun Q s h => aw_block (ih _ _ h)
  | exit id => exact fun Q s h => aw_exit h
  | ret => exact fun Q s h => aw_ret h
  | _ => exact fun Q s h => h
section
variable {P : Program} {r : Option Nat} {N0 : Nat} {s : St} {Q : Exit → St → Prop}
theorem aw_seq_k {x y : Code} (h : ∀ K : St → Prop, (∀ s, AWp P r N0 y Q s → K s) → AWp P r N0 x (AThen K Q) s) : AWp P r N0 (.seq x y) Q s := aw_seq (h _ fun _ h => h)
theorem aw_region_k {id : Nat} {l : List Oper} (h : ∀ K : St → Prop, (∀ s, Q .normal s → K s) → aOps P l.toArray l K s) : AWp P r N0 (.region id l.toArray false) Q s := aw_region (by simpa using h _ fun _ h => h)
theorem aw_ret' (h : Q .ret s) : AWp P r N0 .ret Q s := aw_ret h
end
theorem put_none {s : St} {x : AV} : St.put s none x = s := rfl
theorem wh_mk {n : Nat} {t : List (Nat × AV)} {h h' : List Blk} : St.wh ⟨n, t, h⟩ h' = ⟨n, t, h'⟩ := rfl

theorem below_ext {N : Nat} {G G' : Gh} {w w' : World} (hE : Ext N G w G' w') (hz : ∀ b, b < w.heap.size → G.Z b) : Below w.heap.size w w' :=
  ⟨hE.os, hE.tape, hE.output, hE.size, fun b hb => hE.old b (hz b hb)⟩
/-- A CONTRACT OVER NO BLOCKS SERVES OVER ANY: nothing of the caller's is touched -/
theorem ACalls.frame {P : Program} {f : FuncId} {args : List AV} {K : AV → Prop} (hc : ACalls P f args [] fun r h => h = [] ∧ K r) (ha : args.all (AV.lowB 0) = true) (hK : ∀ r, K r → r.lowB 0 = true) (h : List Blk) :
    ACalls P f args h fun r h' => h' = h ∧ K r := by
  refine ⟨hc.1, fun G w vs hi hl hr => ?_⟩
  have hi0 : Inv { G with N := 0, Z := fun b => b < w.heap.size } w [] := ⟨rfl, fun b hb => hb, hi.S, fun n B hB => by simp at hB, fun m n b h1 => by simp [ownB] at h1, hi.gl⟩
  refine (hc.2 { G with N := 0, Z := fun b => b < w.heap.size } w vs hi0 hl fun i u c hu hx => ?_).mono fun e w' hp => ?_
  · have := (hr i u c hu hx).cut (List.all_eq_true.1 ha c (List.mem_of_getElem? hx))
    clear hc
    generalize hG : ({ G with N := 0, Z := fun b => b < w.heap.size } : Gh) = G0
    have e : ∀ {v y}, VRel (G.cut 0) w v y → VRel G0 w v y := by
      intro v y hv
      subst hG
      induction hv with
      | agg vs cs hl _ ih => exact .agg vs cs hl ih
      | tup vs cs hl _ ih => exact .tup vs cs hl ih
      | fn f vs cs hl _ ih => exact .fn f vs cs hl ih
      | own n xs h hp hle hf => exact absurd h (Nat.not_lt_zero _)
      | ptr n off h => exact absurd h (Nat.not_lt_zero _)
      | row n off len cap k h hl hm => exact absurd h (Nat.not_lt_zero _)
      | mp n h => exact absurd h (Nat.not_lt_zero _)
      | yld n h => exact absurd h (Nat.not_lt_zero _)
      | vec n o len L k h => exact absurd h (Nat.not_lt_zero _)
      | vptr n i j L k h => exact absurd h (Nat.not_lt_zero _)
      | hid h h1 => exact .hid h h1
      | d h => exact .d h
      | elt xs i off b o u x hx hS hu => exact .elt xs i off b o u x hx hS hu
      | full xs hp hf => exact .full xs hp hf
      | dead u => exact .dead u
    exact e this
  · obtain ⟨v, G', r, h', rfl, hE, hN, hi', hv, rfl, hk⟩ := hp
    have hG'N : G'.N = 0 := hi'.len.symm
    have hnew : ∀ b o, G'.S b o → G.S b o ∨ w.heap.size ≤ b := fun b o hs => (hE.new b o hs).imp id Nat.le_of_not_lt
    have hE2 : Ext G.N G w { G with S := G'.S } w' :=
      ⟨hE.size, hE.S, hE.cell, fun _ _ => rfl, fun _ _ => .inl ⟨rfl, rfl⟩, zsame rfl, fun b hb => hE.old b (hi.z b hb), hE.os, hE.tape, hE.output, fun b o hs => (hnew b o hs).imp id fun hge hz => by have := hi.z b hz; omega⟩
    refine ⟨v, { G with S := G'.S }, r, h, rfl, hE2, Nat.le_refl _, ⟨hi.len, fun b hb => Nat.lt_of_lt_of_le (hi.z b hb) hE.size, hi'.S, fun n B hB => ?_, fun m n b h1 h2 => hi.inj m n b h1 h2, hi.gl.keep hE2⟩, ?_, rfl, hk⟩
    · refine BRel.keep (hi.lt hB) hE2 (Nat.le_refl _) ⟨rfl, rfl, rfl⟩ (fun b hb => ?_) (hi.blk n B hB)
      have hlt := hi.ownlt (n := n) (b := b) ((ownB_of hB).trans hb)
      refine ⟨hE.old _ hlt, fun o hns hs => ?_⟩
      rcases hnew _ o hs with hs | hs
      · exact hns hs
      · omega
    · have hr := hK r hk
      clear hk hE2
      induction hv with
      | agg vs cs hl _ ih =>
        rw [AV.lowB, lowL_eq, List.all_eq_true] at hr
        exact .agg vs cs hl fun i u c hu hc => ih i u c hu hc (hr c (List.mem_of_getElem? hc))
      | tup vs cs hl _ ih =>
        rw [AV.lowB, lowL_eq, List.all_eq_true] at hr
        exact .tup vs cs hl fun i u c hu hc => ih i u c hu hc (hr c (List.mem_of_getElem? hc))
      | fn f vs cs hl _ ih =>
        rw [AV.lowB, lowL_eq, List.all_eq_true] at hr
        exact .fn f vs cs hl fun i u c hu hc => ih i u c hu hc (hr c (List.mem_of_getElem? hc))
      | own n xs h hp hle hf => simp [AV.lowB, leB] at hr
      | ptr n off h => simp [AV.lowB, leB] at hr
      | row n off len cap k h hl hm => simp [AV.lowB, leB] at hr
      | mp n h => simp [AV.lowB, leB] at hr
      | yld n h => simp [AV.lowB, leB] at hr
      | vec n o len L k h => simp [AV.lowB, leB] at hr
      | vptr n i j L k h => simp [AV.lowB, leB] at hr
      | hid h h1 => exact .hid h h1
      | d h => exact .d h
      | elt xs i off b o u x hx hS hu => exact .elt xs i off b o u x hx hS hu
      | full xs hp hf => exact .full xs hp hf
      | dead u => exact .dead u
/-- a function that computes: over no blocks -/
def AFn (P : Program) (f : FuncId) (args : List AV) (K : AV → Prop) : Prop := ACalls P f args [] fun r h => h = [] ∧ K r
theorem AFn.use {P : Program} {f : FuncId} {args : List AV} {r : AV} {h : List Blk} {C : AV → List Blk → Prop} (hc : AFn P f args (· = r)) (ha : args.all (AV.lowB 0) = true) (hr : r.lowB 0 = true) (hC : C r h) : ACalls P f args h C :=
  (hc.frame ha (fun _ e => e ▸ hr) h).mono fun _ _ ⟨e1, e2⟩ => by subst e1; subst e2; exact hC
end Go.Proofs.YtaiihhogoogkmaaGreatDoor
