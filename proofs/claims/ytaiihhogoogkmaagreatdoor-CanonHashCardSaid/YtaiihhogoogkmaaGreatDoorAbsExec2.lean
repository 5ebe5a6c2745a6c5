/-
  Closed runs: code, calls, regions that draw.
-/
import Derived.Test.YtaiihhogoogkmaaGreatDoorAbsExecV
import Derived.Test.YtaiihhogoogkmaaGreatDoorAbsRange
namespace Go.Proofs.YtaiihhogoogkmaaGreatDoor
open Go.RowKit

/-- how a run ends -/
inductive Ex
  | n
  | r
  | x (id : Nat)
def Ex.exit : Ex → Exit
  | .n => .normal
  | .r => .ret
  | .x i => .exit i
/-! ### values worked out at once -/
def fNat {α : Type} (n : Nat) (f : Nat → α) : α := Nat.casesOn (Nat.succ n) (f 0) f
theorem fNat_eq {α : Type} (n : Nat) (f : Nat → α) : fNat n f = f n := rfl
def AV.force {α : Type} (x : AV) (f : AV → α) : α :=
  match x with
  | .d (.v (.int k (.ofNat n))) => fNat n fun n => f (.d (.v (.int k (.ofNat n))))
  | .d (.v (.bool b)) => bif b then f (.d (.v (.bool true))) else f (.d (.v (.bool false)))
  | x => f x
theorem AV.force_eq {α : Type} (x : AV) (f : AV → α) : x.force f = f x := by
  unfold AV.force
  split
  · rw [fNat_eq]
  · next b => cases b <;> rfl
  · rfl
def hSpine {α : Type} : List Blk → (List Blk → α) → α
  | [], f => f []
  | b :: l, f => hSpine l fun r => f (b :: r)
theorem hSpine_eq {α : Type} : ∀ (l : List Blk) (f : List Blk → α), hSpine l f = f l
  | [], _ => rfl
  | b :: l, f => by rw [hSpine, hSpine_eq l]
def memN (k : Nat) : List Nat → Bool
  | [] => false
  | i :: l => bif i == k then true else memN k l
def ddupK {α : Type} : List (Nat × AV) → Nat → (List (Nat × AV) → α) → α
  | [], _, f => f []
  | (k, x) :: l, m, f => bif Nat.testBit m k then ddupK l m f else fNat (m ||| (1 <<< k)) fun m => ddupK l m fun r => f ((k, x) :: r)
theorem ddupK_spec {α : Type} : ∀ (l : List (Nat × AV)) (m : Nat) (f : List (Nat × AV) → α), ∃ l', ddupK l m f = f l' ∧ ∀ i, tget l' i = bif Nat.testBit m i then .dead else tget l i
  | [], m, f => ⟨[], rfl, fun i => by cases Nat.testBit m i <;> rfl⟩
  | (k, x) :: l, m, f => by
    unfold ddupK
    cases hk : Nat.testBit m k with
    | true =>
      obtain ⟨l', h1, h2⟩ := ddupK_spec l m f
      refine ⟨l', h1, fun i => ?_⟩
      rw [h2, tget_cons]
      by_cases e : i = k
      · subst e; rw [hk]; rfl
      · rw [if_neg e]
    | false =>
      simp only [cond_false, fNat_eq]
      obtain ⟨l', h1, h2⟩ := ddupK_spec l (m ||| (1 <<< k)) (fun r => f ((k, x) :: r))
      refine ⟨(k, x) :: l', h1, fun i => ?_⟩
      rw [tget_cons, tget_cons, h2]
      by_cases e : i = k
      · subst e; rw [hk]; simp
      · rw [if_neg e, if_neg e]
        have : Nat.testBit (m ||| (1 <<< k)) i = Nat.testBit m i := by
          rw [Nat.testBit_or, Nat.one_shiftLeft, Nat.testBit_two_pow]
          simp [Ne.symm e]
        rw [this]

abbrev Run := Bool → Nat → Code → St → Option (Ex × St)
/-- what is known of calls: a result; or that the callee's blocks are to be kept -/
abbrev Memo := FuncId → List AV → Option (Option AV)
def fullB : Option (Option AV) → Bool
  | some none => true
  | _ => false
mutual
/-- the variables that function values have taken along -/
def AV.capPtrs : AV → List Nat
  | .fn _ cs => AV.ptrsL cs
  | _ => []
def AV.ptrsL : List AV → List Nat
  | [] => []
  | .ptr n _ :: l => n :: AV.ptrsL l
  | x :: l => x.capPtrs ++ AV.ptrsL l
end
/-- variables that are written no more become data -/
def xFrz : List Nat → AV → List Blk → Option (AV × List Blk)
  | [], r, h => some (r, h)
  | b :: l, r, h => match h[b]? with
    | some (.cells cs) => match allD cs with
      | some ds => xFrz l (r.frz b ds) ((h.map (Blk.frz b ds)).set b .gone)
      | none => none
    | _ => none
def unD : AV → Option D
  | .d x => some x
  | _ => none
def unL : List AV → Option (List D)
  | [] => some []
  | x :: l => match unD x, unL l with
    | some d, some r => some (d :: r)
    | _, _ => none
def unR : List (List AV) → Option (List (List D))
  | [] => some []
  | x :: l => match unL x, unR l with
    | some d, some r => some (d :: r)
    | _, _ => none
/-- a result on its own -/
def xRet (r : AV) (h : List Blk) : Option AV :=
  match r with
  | .vec b o len L k => match vBlk h b L k with
    | some (_, cs) => match unR cs with
      | some xs => bif xs.all (fun c => c.all D.oneB) then some (.d (.sl ((xs.drop o).take len))) else none
      | none => none
    | none => none
  | r => match xFrz r.capPtrs r h with
    | some (r, _) => some (r.pub 0)
    | none => none
/-- a round of a suspended range over a function -/
def xYield (run : Run) (lo k : Nat) (x : AV) (h : List Blk) : Option (Bool × List Blk) :=
  bif leB lo k then match h[k]? with
  | some (.lp .ready p as bd cs) => bif leB (p + 1) cs.length then match run false lo as ⟨cs.length, (p, x) :: enumT 0 cs, h⟩ with
    | some (.n, s1) => match s1.h[k]? with
      | some (.lp .ready p1 as1 bd1 cs1) => match run false lo bd ⟨s1.n, s1.t, s1.h.set k (.lp .busy p1 as1 bd1 cs1)⟩ with
        | some (e, s2) => match s2.h[k]? with
          | some (.lp .busy p2 as2 bd2 cs2) => match e with
            | .n => some (true, s2.h.set k (.lp .ready p2 as2 bd2 cs2))
            | .r => some (false, s2.h.set k (.lp (.done .ret) p2 as2 bd2 cs2))
            | .x i => some (false, s2.h.set k (.lp (.done (.exit i)) p2 as2 bd2 cs2))
          | _ => none
        | none => none
      | _ => none
    | _ => none
    else none
  | _ => none
  else none
def xPut (o : Oper) (s : St) : Option (AV × List Blk) → Option St
  | some (x, h) => x.force fun x => match s, o.dst with
    | ⟨n, t, _⟩, some d => fNat n fun n => fNat d fun d => bif n - d == 0 then some ⟨n, t, h⟩ else some ⟨n, (d, x) :: t, h⟩
    | ⟨n, t, _⟩, none => some ⟨n, t, h⟩
  | none => none
def xHD (lo : Nat) (h : List Blk) : Option (AV × HD) → Option (AV × List Blk)
  | some (x, .same) => some (x, h)
  | some (x, d) => bif d.okB lo then hSpine (d.app h) fun h => some (x, h) else none
  | none => none
/-- a slice that has elements, held against nil -/
def xNil (P : Program) (op : Op) (ρ : Operand → AV) : Option AV :=
  match op with
  | .binOp op T x y _ => match (ρ x).list?, ρ y, elmT P T, eqV op true, eqV op false with
    | some (_ :: _), .d (.v (.slice none 0 0)), some _, some _, some v => some (.d (.v v))
    | _, _, _, _, _ => none
  | _ => none
/-- an operation that is no call -/
def xPlain (P : Program) (lo : Nat) (dr : Bool) (o : Oper) (s : St) : Option St :=
  match xop P o.op (ev s) s.h with
  | some r => xPut o s (xHD lo s.h (some r))
  | none => bif dr then none else match xopV P o.op (ev s) s.h with
    | some r => xPut o s (xHD lo s.h (some r))
    | none => match opZ P o.op (ev s) s.h with
      | some (x, h) => hSpine h fun h => xPut o s (some (x, h))
      | none => match xNil P o.op (ev s) with
        | some x => xPut o s (some (x, s.h))
        | none => match opR P lo o.op (ev s) s.h with
          | some (x, h) => hSpine h fun h => xPut o s (some (x, h))
          | none => none
section
variable (run : Run) (P : Program) (memo : Memo)
/-- a function's body, run -/
def xBody (lo : Nat) (f : FuncId) (args : List AV) (h : List Blk) : Option (AV × List Blk) :=
  match P.funcs[f]? with
  | some fn => match fn.body with
    | some c => fNat (args.length + (fn.ntmps - args.length)) fun n => match run true lo c ⟨n, enumT 0 args, h⟩ with
      | some (.x _, _) => none
      | some (_, s) => match runRes P s fn.results.toList with
        | some l => some (tupOf l, s.h)
        | none => none
      | none => none
    | none => none
  | none => none
def xPure (g : FuncId) (args : List AV) : Option AV :=
  match memo g args with
  | some (some r) => some r
  | _ => match xBody run P 0 g args [] with
    | some (r, h) => match xRet r h with
      | some r => bif r.lowB 0 then some r else none
      | none => none
    | none => none
def xCall (lo : Nat) (dr : Bool) (g : FuncId) (args : List AV) (h : List Blk) : Option (AV × List Blk) :=
  bif args.all (AV.lowB 0) && !fullB (memo g args) then match xPure run P memo g args with
    | some r => bif r.lowB 0 then some (r, h) else none
    | none => none
  else bif dr then
    bif args.all (AV.lowB h.length) && h.all (Blk.lowB h.length) then match xBody run P h.length g args h with
      | some (r, _) => bif (r.pub h.length).lowB h.length then some (r.pub h.length, h) else none
      | none => none
    else none
  else xBody run P lo g args h
def xStep (lo : Nat) (dr : Bool) (o : Oper) (s : St) : Option St :=
  match o.op with
  | .call c => match c.callee with
    | .value f => match ev s f with
      | .fn g caps => xPut o s (xCall run P memo lo dr g (c.args.toList.map (ev s) ++ caps) s.h)
      | .hid (.fn g cs) => xPut o s (xCall run P memo lo dr g (c.args.toList.map (ev s) ++ cs.map Cap.av) s.h)
      | .yld k => bif dr then none else match c.args.toList.map (ev s) with
        | [x] => match xYield run lo k x s.h with
          | some (b, h) => hSpine h fun h => xPut o s (some (.d (.v (.bool b)), h))
          | none => none
        | _ => none
      | _ => none
    | _ => xPlain P lo dr o s
  | _ => xPlain P lo dr o s
def xG (lo : Nat) (dr : Bool) (ops : Array Oper) (o : Oper) (s : St) : Option St :=
  match o.guard with
  | none => xStep run P memo lo dr o s
  | some (j, want) => match (ops[j]?).bind (·.dst) with
    | some d => match tget s.t d with
      | .d (.v (.bool b)) => bif b == want then xStep run P memo lo dr o s else some (s.put o.dst (.d (.v undef)))
      | .d (.v (.tuple _)) => some (s.put o.dst (.d (.v undef)))
      | _ => none
    | none => none
def xOps (lo : Nat) (dr : Bool) (ops : Array Oper) : List Oper → St → Option St
  | [], s => some s
  | o :: l, s => match xG run P memo lo dr ops o s with
    | some s => xOps lo dr ops l s
    | none => none
def exN : Option St → Option (Ex × St)
  | some s => some (.n, s)
  | none => none
def xCode (fl : Bool) (lo : Nat) (c : Code) (s : St) : Option (Ex × St) :=
  match c with
  | .skip => some (.n, s)
  | .region _ ops draw => bif draw then (bif lexD ops then exN (xOps run P memo lo true ops ops.toList s) else none) else exN (xOps run P memo lo false ops ops.toList s)
  | .seq a b => match run fl lo a s with
    | some (.n, s1) => run fl lo b s1
    | some (.r, s1) => some (.r, s1)
    | some (.x i, s1) => some (.x i, s1)
    | none => none
  | .cond c x y => match ev s c with
    | .d (.v (.bool b)) => bif b then run fl lo x s else run fl lo y s
    | _ => none
  | .block id b => match run fl lo b s with
    | some (.x i, s1) => bif i == id then some (.n, s1) else some (.x i, s1)
    | some (.n, s1) => some (.n, s1)
    | some (.r, s1) => some (.r, s1)
    | none => none
  | .exit id => some (.x id, s)
  | .ret => some (.r, s)
  | .loop b => match run fl lo b s with
    | some (.n, s1) => fNat s1.n fun n => ddupK s1.t 0 fun t => run fl lo (.loop b) ⟨n, t, s1.h⟩
    | some (.r, s1) => some (.r, s1)
    | some (.x i, s1) => some (.x i, s1)
    | none => none
  | .rangeFunc g ps assign body => bif fl then match ps.toList, ev s g with
    | [p], .fn gf caps => match xBody run P lo gf (.yld s.h.length :: caps) (s.h ++ [.lp .ready p assign body (denseT s.n s.t)]) with
      | some (_, h) => match h[s.h.length]? with
        | some (.lp ls _ _ _ _) => match ls with
          | .ready => hSpine (h.set s.h.length .gone) fun h => some (.n, ⟨s.n, s.t, h⟩)
          | .done .ret => hSpine (h.set s.h.length .gone) fun h => some (.r, ⟨s.n, s.t, h⟩)
          | .done (.exit i) => hSpine (h.set s.h.length .gone) fun h => some (.x i, ⟨s.n, s.t, h⟩)
          | _ => none
        | _ => none
      | none => none
    | _, _ => none
    else none
  | _ => none
end
/-- THE INTERPRETER -/
def exec (P : Program) (memo : Memo) (n : Nat) : Run := Nat.rec (fun _ _ _ _ => none) (fun _ ih => xCode ih P memo) n
theorem exec_zero {P : Program} {memo : Memo} {fl : Bool} {lo : Nat} {c : Code} {s : St} : exec P memo 0 fl lo c s = none := rfl
theorem exec_succ {P : Program} {memo : Memo} {fl : Bool} {n lo : Nat} {c : Code} {s : St} : exec P memo (n + 1) fl lo c s = xCode (exec P memo n) P memo fl lo c s := rfl

/-! ### what lies below is left alone -/
def Frm (lo : Nat) (h h' : List Blk) : Prop := h'.take lo = h.take lo ∧ h.length ≤ h'.length
theorem Frm.refl (lo : Nat) (h : List Blk) : Frm lo h h := ⟨rfl, Nat.le_refl _⟩
theorem Frm.trans {lo : Nat} {a b c : List Blk} (h : Frm lo a b) (k : Frm lo b c) : Frm lo a c := ⟨k.1.trans h.1, Nat.le_trans h.2 k.2⟩
def FrmR (run : Run) : Prop := ∀ fl lo c s e s', run fl lo c s = some (e, s') → lo ≤ s.h.length → Frm lo s.h s'.h
section
variable {run : Run} {P : Program} {memo : Memo} {lo : Nat} {s s' : St}
theorem xBody_frm (hr : FrmR run) {f : FuncId} {args : List AV} {h h' : List Blk} {r : AV} (e : xBody run P lo f args h = some (r, h')) (hl : lo ≤ h.length) : Frm lo h h' := by
  unfold xBody at e
  split at e
  · split at e
    · rw [fNat_eq] at e
      split at e
      · cases e
      · next x s1 _ e1 =>
        split at e
        · cases e; exact hr _ _ _ _ _ _ e1 hl
        · cases e
      · cases e
    · cases e
  · cases e
theorem xCall_frm (hr : FrmR run) {dr : Bool} {f : FuncId} {args : List AV} {h h' : List Blk} {r : AV} (e : xCall run P memo lo dr f args h = some (r, h')) (hl : lo ≤ h.length) : Frm lo h h' := by
  unfold xCall at e
  rcases bif_or e with ⟨_, e⟩ | ⟨_, e⟩
  · split at e
    · obtain ⟨_, he⟩ := bif_some e; cases he; exact .refl _ _
    · cases e
  · rcases bif_or e with ⟨_, e⟩ | ⟨_, e⟩
    · obtain ⟨_, e⟩ := bif_pos e
      split at e
      · obtain ⟨_, he⟩ := bif_some e; cases he; exact .refl _ _
      · cases e
    · exact xBody_frm hr e hl
theorem xPut_some {o : Oper} {r : Option (AV × List Blk)} (e : xPut o s r = some s') : ∃ x h, r = some (x, h) ∧ s' = (s.wh h).put o.dst x := by
  unfold xPut at e
  split at e
  · next x h =>
    rw [AV.force_eq] at e
    refine ⟨x, h, rfl, ?_⟩
    split at e
    · next n t h0 d hd =>
      simp only [fNat_eq] at e
      simp only [hd, St.put, St.wh]
      cases hb : (n - d == 0) with
      | true => rw [hb] at e; cases e; rfl
      | false => rw [hb] at e; cases e; rfl
    · next n t h0 hd => cases e; simp only [hd, St.put, St.wh]
  · cases e
theorem xHD_some {h h' : List Blk} {x : AV} {r : Option (AV × HD)} (e : xHD lo h r = some (x, h')) : ∃ d, r = some (x, d) ∧ d.okB lo = true ∧ h' = d.app h := by
  unfold xHD at e
  split at e
  · cases e; exact ⟨.same, rfl, rfl, rfl⟩
  · rw [hSpine_eq] at e
    obtain ⟨hb, he⟩ := bif_some e
    cases he
    exact ⟨_, rfl, hb, rfl⟩
  · cases e
theorem HD.frm {d : HD} (h : List Blk) (hd : d.okB lo = true) (hl : lo ≤ h.length) : Frm lo h (d.app h) := by
  cases d with
  | same => exact .refl _ _
  | push B => exact ⟨List.take_append_of_le_length hl, by simp [HD.app]⟩
  | set n B =>
    have hn : lo ≤ n := leB_iff.1 hd
    refine ⟨?_, by simp [HD.app]⟩
    simp only [HD.app]
    rw [List.take_set_of_le hn]
theorem set_frm {h : List Blk} {k : Nat} (B : Blk) (hk : lo ≤ k) : Frm lo h (h.set k B) := ⟨by rw [List.take_set_of_le hk], by simp⟩
theorem xYield_frm (hr : FrmR run) {k : Nat} {x : AV} {h h' : List Blk} {b : Bool} (e : xYield run lo k x h = some (b, h')) (hl : lo ≤ h.length) : Frm lo h h' := by
  unfold xYield at e
  obtain ⟨hk, e⟩ := bif_pos e
  rw [leB_iff] at hk
  split at e
  · obtain ⟨_, e⟩ := bif_pos e
    split at e
    · next s1 e1 =>
      have f1 := hr _ _ _ _ _ _ e1 hl
      split at e
      · split at e
        · next ee s2 e2 =>
          have f2 := hr _ _ _ _ _ _ e2 (by simp; exact Nat.le_trans hl f1.2)
          have f3 : Frm lo h s2.h := (f1.trans (set_frm _ hk)).trans f2
          split at e
          · split at e
            · cases e; exact f3.trans (set_frm _ hk)
            · cases e; exact f3.trans (set_frm _ hk)
            · cases e; exact f3.trans (set_frm _ hk)
          · cases e
        · cases e
      · cases e
    · cases e
  · cases e
theorem opZ_frm {op : Op} {ρ : Operand → AV} {h h' : List Blk} {x : AV} (e : opZ P op ρ h = some (x, h')) (hl : lo ≤ h.length) : Frm lo h h' := by
  have app : ∀ B, Frm lo h (h ++ [B]) := fun B => ⟨List.take_append_of_le_length hl, by simp⟩
  unfold opZ at e
  split at e
  · split at e
    · obtain ⟨_, he⟩ := bif_some e; cases he; exact .refl _ _
    · cases e
  · split at e
    · split at e
      · obtain ⟨_, he⟩ := bif_some e; cases he; exact .refl _ _
      · cases e
    · split at e
      · split at e
        · split at e
          · obtain ⟨_, he⟩ := bif_some e; cases he; exact app _
          · cases e
        · cases e
      · cases e
    · cases e
  · cases e
theorem opR_frm {op : Op} {ρ : Operand → AV} {h h' : List Blk} {x : AV} (e : opR P lo op ρ h = some (x, h')) (hl : lo ≤ h.length) : Frm lo h h' := by
  have app : ∀ B, Frm lo h (h ++ [B]) := fun B => ⟨List.take_append_of_le_length hl, by simp⟩
  unfold opR at e
  split at e
  · split at e
    · split at e
      · cases e; exact app _
      · cases e
    · cases e
  · split at e
    · split at e
      · split at e
        · split at e
          · cases e; exact .refl _ _
          · obtain ⟨hb, he⟩ := bif_some e
            cases he
            rw [leB_iff] at hb
            exact ⟨by rw [List.take_set_of_le hb], by simp⟩
        · cases e
      · cases e
    · cases e
  · split at e
    · split at e
      · split at e
        · cases e; exact .refl _ _
        · cases e
      · cases e
    · cases e
  · cases e
theorem xStep_frm (hr : FrmR run) {dr : Bool} {o : Oper} (e : xStep run P memo lo dr o s = some s') (hl : lo ≤ s.h.length) : Frm lo s.h s'.h := by
  have key0 : ∀ {r} (e' : xPut o s (xHD lo s.h r) = some s'), Frm lo s.h s'.h := fun e' => by
    obtain ⟨x, h, e1, rfl⟩ := xPut_some e'
    obtain ⟨d, _, hd, rfl⟩ := xHD_some e1
    rw [put_h]; exact d.frm _ hd hl
  have key : ∀ e' : xPlain P lo dr o s = some s', Frm lo s.h s'.h := fun e' => by
    unfold xPlain at e'
    split at e'
    · exact key0 e'
    · rcases bif_or e' with ⟨_, e'⟩ | ⟨_, e'⟩
      · cases e'
      · split at e'
        · exact key0 e'
        · split at e'
          · next e0 =>
            rw [hSpine_eq] at e'
            obtain ⟨x, h, e1, rfl⟩ := xPut_some e'
            cases e1
            rw [put_h]; exact opZ_frm e0 hl
          · split at e'
            · obtain ⟨x, h, e1, rfl⟩ := xPut_some e'
              cases e1
              rw [put_h]; exact .refl _ _
            · split at e'
              · next e0 =>
                rw [hSpine_eq] at e'
                obtain ⟨x, h, e1, rfl⟩ := xPut_some e'
                cases e1
                rw [put_h]; exact opR_frm e0 hl
              · cases e'
  unfold xStep at e
  split at e
  · split at e
    · split at e
      · obtain ⟨x, h, e1, rfl⟩ := xPut_some e
        rw [put_h]; exact xCall_frm hr e1 hl
      · obtain ⟨x, h, e1, rfl⟩ := xPut_some e
        rw [put_h]; exact xCall_frm hr e1 hl
      · rcases bif_or e with ⟨_, e⟩ | ⟨_, e⟩
        · cases e
        · split at e
          · split at e
            · next e0 =>
              rw [hSpine_eq] at e
              obtain ⟨x, h, e1, rfl⟩ := xPut_some e
              cases e1
              rw [put_h]; exact xYield_frm hr e0 hl
            · cases e
          · cases e
      · cases e
    · next hop _ => exact key e
  · exact key e
theorem xG_frm (hr : FrmR run) {dr : Bool} {ops : Array Oper} {o : Oper} (e : xG run P memo lo dr ops o s = some s') (hl : lo ≤ s.h.length) : Frm lo s.h s'.h := by
  unfold xG at e
  split at e
  · exact xStep_frm hr e hl
  · split at e
    · split at e
      · rcases bif_or e with ⟨_, e⟩ | ⟨_, e⟩
        · exact xStep_frm hr e hl
        · cases e; rw [put_h]; exact .refl _ _
      · cases e; rw [put_h]; exact .refl _ _
      · cases e
    · cases e
theorem xOps_frm (hr : FrmR run) {dr : Bool} {ops : Array Oper} : ∀ (l : List Oper) (s s' : St), xOps run P memo lo dr ops l s = some s' → lo ≤ s.h.length → Frm lo s.h s'.h
  | [], s, s', e, _ => by cases e; exact .refl _ _
  | o :: l, s, s', e, hl => by
    unfold xOps at e
    split at e
    · next s1 e1 =>
      have h1 := xG_frm hr e1 hl
      exact h1.trans (xOps_frm hr l s1 s' e (Nat.le_trans hl h1.2))
    · cases e
theorem exN_some {r : Option St} {e : Ex} (h : exN r = some (e, s')) : r = some s' ∧ e = .n := by
  unfold exN at h
  split at h
  · cases h; exact ⟨rfl, rfl⟩
  · cases h
end
mutual
theorem pub_low (m : Nat) : ∀ x : AV, x.lowB m = true → x.pub m = x
  | .own n xs, h => by
    rw [AV.lowB] at h
    rw [AV.pub]
    cases e : leB m n with
    | true => rw [e] at h; cases h
    | false => rfl
  | .agg cs, h => by rw [AV.lowB] at h; rw [AV.pub, pubL_low m cs h]
  | .tup cs, h => by rw [AV.lowB] at h; rw [AV.pub, pubL_low m cs h]
  | .fn f cs, h => by rw [AV.lowB] at h; rw [AV.pub, pubL_low m cs h]
  | .d _, _ => by simp only [AV.pub]
  | .ptr .., _ => by simp only [AV.pub]
  | .elt .., _ => by simp only [AV.pub]
  | .full _, _ => by simp only [AV.pub]
  | .row .., _ => by simp only [AV.pub]
  | .mp _, _ => by simp only [AV.pub]
  | .yld _, _ => by simp only [AV.pub]
  | .vec .., _ => by simp only [AV.pub]
  | .vptr .., _ => by simp only [AV.pub]
  | .hid _, _ => by simp only [AV.pub]
  | .dead, _ => by simp only [AV.pub]
theorem pubL_low (m : Nat) : ∀ l : List AV, AV.lowL m l = true → AV.pubL m l = l
  | [], _ => by simp [AV.pubL]
  | x :: l, h => by
    rw [AV.lowL, Bool.and_eq_true] at h
    rw [AV.pubL, pub_low m x h.1, pubL_low m l h.2]
end
theorem blk_pub_low {m : Nat} {B : Blk} (h : B.lowB m = true) : B.pub m = B := by
  cases B with
  | cells cs =>
    simp only [Blk.lowB, List.all_eq_true] at h
    simp only [Blk.pub]
    congr 1
    exact (List.map_congr_left fun x hx => pub_low m x (h x hx)).trans (List.map_id _)
  | lp ls p as bd cs =>
    simp only [Blk.lowB, List.all_eq_true] at h
    simp only [Blk.pub]
    congr 1
    exact (List.map_congr_left fun x hx => pub_low m x (h x hx)).trans (List.map_id _)
  | it sn cs =>
    simp only [Blk.lowB, List.all_eq_true] at h
    simp only [Blk.pub]
    congr 1
    exact (List.map_congr_left fun x hx => pub_low m x (h x hx)).trans (List.map_id _)
  | vec e k cs =>
    simp only [Blk.lowB, List.all_eq_true] at h
    simp only [Blk.pub]
    congr 1
    exact (List.map_congr_left fun x hx => (List.map_congr_left fun y hy => pub_low m y (h x hx y hy)).trans (List.map_id _)).trans (List.map_id _)
  | front e k len => rfl
  | map kv => rfl
  | gone => rfl
theorem blks_pub_low {m : Nat} {h : List Blk} (e : h.all (Blk.lowB m) = true) : h.map (Blk.pub m) = h :=
  (List.map_congr_left fun B hB => blk_pub_low (List.all_eq_true.1 e B hB)).trans (List.map_id _)
theorem exec_frm {P : Program} {memo : Memo} : ∀ n, FrmR (exec P memo n)
  | 0 => fun fl lo c s e s' h => by cases h
  | n + 1 => by
    have ih := exec_frm (P := P) (memo := memo) n
    intro fl lo c s e s' h hl
    rw [exec_succ] at h
    unfold xCode at h
    split at h
    · cases h; exact .refl _ _
    · next ops draw =>
      cases draw with
      | true =>
        simp only [cond_true] at h
        obtain ⟨_, h⟩ := bif_pos h
        exact xOps_frm ih _ _ _ (exN_some h).1 hl
      | false => exact xOps_frm ih _ _ _ (exN_some h).1 hl
    · split at h
      · next s1 e1 =>
        have h1 := ih _ _ _ _ _ _ e1 hl
        exact h1.trans (ih _ _ _ _ _ _ h (Nat.le_trans hl h1.2))
      · next s1 e1 => cases h; exact ih _ _ _ _ _ _ e1 hl
      · next s1 e1 => cases h; exact ih _ _ _ _ _ _ e1 hl
      · cases h
    · split at h
      · next b _ =>
        cases b with
        | true => exact ih _ _ _ _ _ _ h hl
        | false => exact ih _ _ _ _ _ _ h hl
      · cases h
    · split at h
      · next e1 => rcases bif_or h with ⟨_, h⟩ | ⟨_, h⟩ <;> (cases h; exact ih _ _ _ _ _ _ e1 hl)
      · next s1 e1 => cases h; exact ih _ _ _ _ _ _ e1 hl
      · next s1 e1 => cases h; exact ih _ _ _ _ _ _ e1 hl
      · cases h
    · cases h; exact .refl _ _
    · cases h; exact .refl _ _
    · split at h
      · next s1 e1 =>
        have h1 := ih _ _ _ _ _ _ e1 hl
        obtain ⟨l', h2, _⟩ := ddupK_spec s1.t 0 fun t => exec P memo n fl lo (.loop _) ⟨s1.n, t, s1.h⟩
        rw [fNat_eq, h2] at h
        have h3 := ih _ _ _ _ _ _ h (show lo ≤ s1.h.length from Nat.le_trans hl h1.2)
        exact h1.trans h3
      · next s1 e1 => cases h; exact ih _ _ _ _ _ _ e1 hl
      · next s1 e1 => cases h; exact ih _ _ _ _ _ _ e1 hl
      · cases h
    · obtain ⟨_, h⟩ := bif_pos h
      split at h
      · split at h
        · next e1 =>
          have f1 := xBody_frm ih e1 (by simp; omega)
          have f2 : ∀ B, Frm lo s.h (s.h ++ [B]) := fun B => ⟨List.take_append_of_le_length hl, by simp⟩
          have f3 := ((f2 _).trans f1).trans (set_frm (k := s.h.length) .gone hl)
          split at h
          · split at h
            · rw [hSpine_eq] at h; cases h; exact f3
            · rw [hSpine_eq] at h; cases h; exact f3
            · rw [hSpine_eq] at h; cases h; exact f3
            · cases h
          · cases h
        · cases h
      · cases h
    · cases h
end Go.Proofs.YtaiihhogoogkmaaGreatDoor
