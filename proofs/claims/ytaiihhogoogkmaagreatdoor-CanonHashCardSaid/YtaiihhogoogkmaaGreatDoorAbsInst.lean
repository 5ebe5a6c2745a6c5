/-
  Contracts over blocks, for functions that take pointers, maps or function values; and the words that the decompiled functions use.
-/
import Derived.Test.YtaiihhogoogkmaaGreatDoorAbsFrz
namespace Go.Proofs.YtaiihhogoogkmaaGreatDoor
open Go.RowKit

def runRetH (P : Program) (rs : List ResultVar) (m : Nat) (s : St) : Option (AV × List Blk) :=
  match runRes P s rs with
  | some l => bif leB m s.h.length && ((tupOf l).pub m).lowB m && (((s.h.take m).map (Blk.pub m)).all (Blk.lowB m)) then some (((tupOf l).pub m).nrm, ((s.h.take m).map (Blk.pub m)).map Blk.nrmB) else none
  | none => none
def aPostH (P : Program) (fn : Func) (m : Nat) (R : AV) (H : List Blk) : Exit → St → Prop
  | .normal, s => runRetH P fn.results.toList m s = some (R, H)
  | .ret, s => runRetH P fn.results.toList m s = some (R, H)
  | _, _ => False
theorem runRetH_sound {P : Program} {s : St} {fn : Func} {m : Nat} {R : AV} {H : List Blk} (h : runRetH P fn.results.toList m s = some (R, H)) : aRet P fn m (fun r h' => r.nrm = R ∧ h'.map Blk.nrmB = H) s := by
  unfold runRetH at h
  split at h
  · next l e =>
    obtain ⟨hb, he⟩ := bif_some h
    cases he
    simp only [Bool.and_eq_true, leB_iff] at hb
    exact runRes_sound _ _ _ e ⟨hb.1.1, hb.1.2, hb.2, rfl, rfl⟩
  · cases h
theorem reth_ok {P : Program} {s : St} {fn : Func} {m : Nat} {R : AV} {H : List Blk} (h : runRetH P fn.results.toList m s = some (R, H)) : aPostH P fn m R H .ret s := h
theorem nrmh_ok {P : Program} {s : St} {fn : Func} {m : Nat} {R : AV} {H : List Blk} (h : runRetH P fn.results.toList m s = some (R, H)) : aPostH P fn m R H .normal s := h
/-- THE CONTRACT OVER BLOCKS OUT OF THE BODY -/
theorem acn_of {P : Program} {f : FuncId} {fn : Func} {c : Code} {args : List AV} {h H : List Blk} {R : AV} (m : Nat) (hf : P.funcs[f]? = some fn) (hb : fn.body = some c) (hn : (fn.name == "runtime.NumGoroutine") = false) (hm : h.length ≤ m)
    (hw : AWp P none h.length c (aPostH P fn m R H) { n := args.length + (fn.ntmps - args.length), t := enumT 0 args, h := h }) : ACalls P f args h fun r1 h1 => r1 = R ∧ h1 = H := by
  have h0 := acalls_of (P := P) (f := f) (args := args) (h := h) (K := fun r h' => r.nrm = R ∧ h'.map Blk.nrmB = H) m hf hb hn hm (hw.mono fun e s hq => by
    cases e with
    | normal => exact runRetH_sound hq
    | ret => exact runRetH_sound hq
    | _ => exact hq.elim)
  refine ⟨h0.1, fun G w vs hi hl hr => (h0.2 G w vs hi hl hr).mono fun e w' hp => ?_⟩
  obtain ⟨v, G', x, h', rfl, hE, hN, hi', hv, rfl, rfl⟩ := hp
  exact ⟨v, G', x.nrm, _, rfl, hE, hN, inv_nrm hi', hv.nrm, rfl, rfl⟩
theorem aw_chg {P : Program} {r : Option Nat} {N0 : Nat} {c : Code} {s s' : St} {Q : Exit → St → Prop} (e : s = s') (h : AWp P r N0 c Q s') : AWp P r N0 c Q s := e ▸ h

/-! ### maps as lists -/
def mlk {V : Type} : List (ByteArray × V) → ByteArray → V → V
  | [], _, d => d
  | (k, v) :: l, s, d => bif bL k == bL s then v else mlk l s d
def mhas {V : Type} : List (ByteArray × V) → ByteArray → Bool
  | [], _ => false
  | (k, _) :: l, s => bif bL k == bL s then true else mhas l s
def mpI (l : List (ByteArray × Int)) : List (ByteArray × D) := l.map fun p => (p.1, .v (.int .i64 p.2))
def mpB (l : List (ByteArray × Bool)) : List (ByteArray × D) := l.map fun p => (p.1, .v (.bool p.2))
def mpS (l : List (ByteArray × ByteArray)) : List (ByteArray × D) := l.map fun p => (p.1, .v (.string p.2))
theorem mget_map {V : Type} (f : V → D) : ∀ (l : List (ByteArray × V)) (s : ByteArray) (d : V), mget (l.map fun p => (p.1, f p.2)) s = bif mhas l s then some (f (mlk l s d)) else none
  | [], s, d => rfl
  | (k, v) :: l, s, d => by
    simp only [List.map_cons, mget, mhas, mlk]
    cases bL k == bL s with
    | true => rfl
    | false => simp only [cond_false]; exact mget_map f l s d
theorem mlk_not {V : Type} : ∀ (l : List (ByteArray × V)) (s : ByteArray) (d : V), mhas l s = false → mlk l s d = d
  | [], s, d, _ => rfl
  | (k, v) :: l, s, d, h => by
    unfold mhas at h
    unfold mlk
    cases e : bL k == bL s with
    | true => rw [e] at h; cases h
    | false => rw [e] at h; simp only [cond_false]; exact mlk_not l s d h
theorem look_gen {V : Type} (f : V → D) (z : Value) (d0 : V) (hz : f d0 = .v z) (ok : Bool) (l : List (ByteArray × V)) (s : ByteArray) :
    lookR ok z (mget (l.map fun p => (p.1, f p.2)) s) = bif ok then .tup [.d (f (mlk l s d0)), .d (.v (.bool (mhas l s)))] else .d (f (mlk l s d0)) := by
  rw [mget_map f l s d0]
  cases e : mhas l s with
  | true => cases ok <;> rfl
  | false => rw [mlk_not l s d0 e, hz]; cases ok <;> rfl
theorem mpI_look (ok : Bool) (l : List (ByteArray × Int)) (s : ByteArray) : lookR ok (.int .i64 0) (mget (mpI l) s) = bif ok then .tup [.d (.v (.int .i64 (mlk l s 0))), .d (.v (.bool (mhas l s)))] else .d (.v (.int .i64 (mlk l s 0))) :=
  look_gen (fun n => .v (.int .i64 n)) _ 0 rfl ok l s
theorem mpB_look (ok : Bool) (l : List (ByteArray × Bool)) (s : ByteArray) : lookR ok (.bool false) (mget (mpB l) s) = bif ok then .tup [.d (.v (.bool (mlk l s false))), .d (.v (.bool (mhas l s)))] else .d (.v (.bool (mlk l s false))) :=
  look_gen (fun n => .v (.bool n)) _ false rfl ok l s
theorem mpS_look (ok : Bool) (l : List (ByteArray × ByteArray)) (s : ByteArray) : lookR ok (.string (bs [])) (mget (mpS l) s) = bif ok then .tup [.d (.v (.string (mlk l s (bs [])))), .d (.v (.bool (mhas l s)))] else .d (.v (.string (mlk l s (bs [])))) :=
  look_gen (fun n => .v (.string n)) _ (bs []) rfl ok l s
theorem mpI_room {l : List (ByteArray × Int)} (h : Nat.blt l.length 9223372036854775807 = true) : (Sd.lt (mpI l).length).ok := by
  unfold mpI; rw [List.length_map]; exact Nat.le_of_ble_eq_true h
theorem mpB_room {l : List (ByteArray × Bool)} (h : Nat.blt l.length 9223372036854775807 = true) : (Sd.lt (mpB l).length).ok := by
  unfold mpB; rw [List.length_map]; exact Nat.le_of_ble_eq_true h
theorem mpS_room {l : List (ByteArray × ByteArray)} (h : Nat.blt l.length 9223372036854775807 = true) : (Sd.lt (mpS l).length).ok := by
  unfold mpS; rw [List.length_map]; exact Nat.le_of_ble_eq_true h
theorem cat_ok {n : Nat} (h : Nat.ble n 9223372036854775807 = true) : n ≤ maxLen := Nat.le_of_ble_eq_true h
/-! ### tables -/
def gv (g : Nat) : List D := ((glook gtab g).getD []).map .v
def gI (g : Nat) : List Int := ((glook gtab g).getD []).map fun v => match v with | .int _ n => n | _ => 0
theorem gv_get (g : Nat) (K : IntKind) (h : gv g = (gI g).map fun n => .v (.int K n)) {k : Nat} {n : Int} (hn : (gI g)[k]? = some n) : (gv g)[k]? = some (.v (.int K n)) := by
  rw [h, List.getElem?_map, hn]; rfl
/-! ### bytes -/
def sbytes (l : List Int) : ByteArray := ⟨(l.map fun n => UInt8.ofNat n.toNat).toArray⟩
end Go.Proofs.YtaiihhogoogkmaaGreatDoor
