/-
  The small language's code: sequences, branches, blocks, loops, calls.
-/
import Derived.Test.YtaiihhogoogkmaaGreatDoorAbsIter
namespace Go.Proofs.YtaiihhogoogkmaaGreatDoor
open Go.RowKit

/-- is the operation wanted? -/
def aGuard (ops : Array Oper) (o : Oper) (s : St) (yes no : Prop) : Prop :=
  match o.guard with
  | none => yes
  | some (j, want) => match (ops[j]?).bind (·.dst) with
    | some d => match tget s.t d with
      | .d (.v (.bool b)) => (b = want → yes) ∧ (b = !want → no)
      | .d (.v (.tuple _)) => no
      | _ => False
    | none => False
structure AWp (P : Program) (r : Option Nat) (N0 : Nat) (c : Code) (Q : Exit → St → Prop) (s : St) : Prop where
  run : ∀ (G : Gh) (w : World) (a : Act) (n : Nat), Sat G w a s → N0 ≤ G.N → c.wpIn (WF r) n P (fun e a' w' => NxT N0 G w (Q e) a' w') a w
def AThen (K : St → Prop) (Q : Exit → St → Prop) : Exit → St → Prop
  | .normal, s => K s
  | e, s => Q e s
def enumT : Nat → List AV → List (Nat × AV)
  | _, [] => []
  | k, x :: l => (k, x) :: enumT (k + 1) l
theorem tget_enum : ∀ (l : List AV) (k i : Nat), tget (enumT k l) i = if k ≤ i then (l[i - k]?).getD .dead else .dead
  | [], k, i => by simp [enumT, tget]
  | x :: l, k, i => by
    rw [enumT, tget_cons, tget_enum l (k + 1) i]
    by_cases h : i = k
    · subst h; simp
    · rw [if_neg h]
      by_cases h2 : k ≤ i
      · rw [if_pos (by omega), if_pos h2, show i - k = i - (k + 1) + 1 by omega, List.getElem?_cons_succ]
      · rw [if_neg (by omega), if_neg h2]
/-- how a round ends, told to the iterator -/
def roundQ (o : Oper) (K : St → Prop) (s : St) (k : Nat) : Exit → St → Prop
  | .normal, s2 => ∃ p as bd cs2, s2.h[k]? = some (.lp .busy p as bd cs2) ∧ K ((s.wh (s2.h.set k (.lp .ready p as bd cs2))).put o.dst (.d (.v (.bool true))))
  | .ret, s2 => ∃ p as bd cs2, s2.h[k]? = some (.lp .busy p as bd cs2) ∧ K ((s.wh (s2.h.set k (.lp (.done .ret) p as bd cs2))).put o.dst (.d (.v (.bool false))))
  | .exit i, s2 => ∃ p as bd cs2, s2.h[k]? = some (.lp .busy p as bd cs2) ∧ K ((s.wh (s2.h.set k (.lp (.done (.exit i)) p as bd cs2))).put o.dst (.d (.v (.bool false))))
  | _, _ => False
/-- a call of yield: a round of the suspended range -/
def aopY (P : Program) (o : Oper) (K : St → Prop) (s : St) : Prop :=
  match o.op with
  | .call c => match c.callee with
    | .value f => match ev s f, c.args.toList.map (ev s) with
      | .yld k, [x] => ∃ p as bd cs, s.h[k]? = some (.lp .ready p as bd cs) ∧ p < cs.length ∧ ∀ (l N0 : Nat), AWp P (some l) N0 as (AThen (fun s1 => ∃ p1 as1 bd1 cs1, s1.h[k]? = some (.lp .ready p1 as1 bd1 cs1) ∧ AWp P (some l) N0 bd (roundQ o K s k) ⟨s1.n, s1.t, s1.h.set k (.lp .busy p1 as1 bd1 cs1)⟩) (fun _ _ => False)) ⟨cs.length, (p, x) :: enumT 0 cs, s.h⟩
      | _, _ => False
    | _ => False
  | _ => False
/-- an operation on the nil slice -/
def aopZ (P : Program) (o : Oper) (K : St → Prop) (s : St) : Prop := ∃ x h', (opZ P o.op (ev s) s.h = some (x, h') ∨ ∃ lo, opR P lo o.op (ev s) s.h = some (x, h')) ∧ K ((s.wh h').put o.dst x)
def aopN (P : Program) (o : Oper) (K : St → Prop) (s : St) : Prop := aopV P o K s ∨ aNil P o K s ∨ aop P o K s ∨ aopY P o K s ∨ aopZ P o K s
def aOps (P : Program) (ops : Array Oper) : List Oper → (St → Prop) → St → Prop
  | [], K, s => K s
  | o :: rest, K, s => aGuard ops o s (aopN P o (aOps P ops rest K) s) (aOps P ops rest K (s.put o.dst (.d (.v undef))))

def ABlock (id : Nat) (Q : Exit → St → Prop) : Exit → St → Prop
  | .exit id', s => bif id' == id then Q .normal s else Q (.exit id') s
  | e, s => Q e s

section
variable {P : Program} {r : Option Nat} {n N0 : Nat} {G : Gh} {w : World} {a : Act} {s : St} {o : Oper} {Q : Exit → St → Prop}
theorem NxT.mono {K K' : St → Prop} (h : ∀ s, K s → K' s) {a' : Act} {w' : World} (hn : NxT N0 G w K a' w') : NxT N0 G w K' a' w' :=
  let ⟨G', s', h1, h2, h3, h4⟩ := hn; ⟨G', s', h1, h2, h3, h _ h4⟩
theorem NxT.trans {K : St → Prop} {G1 : Gh} {w1 : World} (hE : Ext N0 G w G1 w1) {a' : Act} {w' : World} (hn : NxT N0 G1 w1 K a' w') : NxT N0 G w K a' w' :=
  let ⟨G', s', h1, h2, h3, h4⟩ := hn; ⟨G', s', hE.trans h1, h2, h3, h4⟩
theorem AWp.mono {c : Code} {Q' : Exit → St → Prop} (h : AWp P r N0 c Q s) (hq : ∀ e s, Q e s → Q' e s) : AWp P r N0 c Q' s :=
  ⟨fun G w a n hs hN => wpIn_mono (h.run G w a n hs hN) fun e _ _ hn => hn.mono (hq e)⟩

theorem guard_sound {ops : Array Oper} {yes no : Prop} (hs : Sat G w a s) (h : aGuard ops o s yes no) : if Region.wanted o (yielded ops a.tmps) then yes else no := by
  unfold aGuard at h
  split at h
  · rename_i hg
    rw [if_pos (by simp [Region.wanted, hg])]; exact h
  · rename_i j want hg
    split at h
    · rename_i d hd
      have hv := hs.tmp d
      split at h
      · rename_i b hb
        rw [hb] at hv
        have e := hv.bool
        have hy : yielded ops a.tmps j = some b := by
          unfold yielded
          rw [hd, Option.bind_some]
          by_cases hlt : d < a.tmps.size
          · rw [Array.getElem?_eq_getElem hlt]
            have : a.tmps.getD d undef = a.tmps[d] := by simp [Array.getD, hlt]
            rw [this] at e; rw [e]
          · have : a.tmps.getD d undef = undef := by simp [Array.getD, hlt]
            rw [this] at e; cases e
        by_cases hbw : b = want
        · rw [if_pos (by simp [Region.wanted, hg, hy, hbw])]; exact h.1 hbw
        · rw [if_neg (by simp [Region.wanted, hg, hy, hbw])]; exact h.2 (by cases b <;> cases want <;> simp_all)
      · rename_i vs hb
        rw [hb] at hv
        have e := hv.val
        have hy : yielded ops a.tmps j = none := by
          unfold yielded
          rw [hd, Option.bind_some]
          by_cases hlt : d < a.tmps.size
          · rw [Array.getElem?_eq_getElem hlt]
            have : a.tmps.getD d undef = a.tmps[d] := by simp [Array.getD, hlt]
            rw [this] at e; rw [e]
          · rw [Array.getElem?_eq_none (Nat.le_of_not_lt hlt)]
        rw [if_neg (by simp [Region.wanted, hg, hy])]; exact h
      · exact h.elim
    · exact h.elim

theorem aopY_sound {K : St → Prop} {Q : Exit → Act → World → Prop} (hs : Sat G w a s) (hN : N0 ≤ G.N) (h : aopY P o K s) : o.wpIn (WF r) n P a w (NxT N0 G w K) Q := by
  unfold aopY at h
  split at h
  · next c ho =>
    split at h
    · next f hc =>
      split at h
      · next k x hf hx =>
        obtain ⟨p, as, bd, cs, hk, hp, hA⟩ := h
        have hkN : k < G.N := hs.inv.lt hk
        have hv := hs.ev f
        rw [hf] at hv
        have ea : a.eval f = .func (.yield (G.rho k)) #[] #[] := by
          generalize a.eval f = u at hv
          cases hv; rfl
        obtain ⟨hS, fn, tm, D, h3, h4, h5, hrec⟩ := lp_rec hs.inv hk
        obtain ⟨p1, p2⟩ := sat_args hs c.args
        obtain ⟨v, hargs⟩ : ∃ v, c.args.map a.eval = #[v] := by
          have : (c.args.map a.eval).size = 1 := by rw [p1, hx]; rfl
          exact ⟨(c.args.map a.eval)[0], Array.ext (by simp [this]) fun i h1 h2 => by
            have : i = 0 := by simp at h2; exact h2
            subst this; rfl⟩
        have hvx : VRel G w v x := p2 0 v x (by rw [hargs]; rfl) (by rw [hx]; rfl)
        have hnd : ∀ c', o.op ≠ .defer c' := fun c' e => by rw [ho] at e; cases e
        have hy := run_yield (P := P) (args := #[v]) h3 rfl
        have hrun : (o.semAt (WF r).round a.eval).run P w = .ok (.round (G.rho k) fn (tm.setIfInBounds p v) as bd) w := by
          rw [Oper.semAt_eq _ _ _ hnd]
          unfold execOp
          simp only [ho, resolve, hc, ea]
          simp [Deferred.ofValue, invoke, hargs, hy]
        unfold Oper.wpIn
        refine ⟨fun g hg => trivial, ?_⟩
        rw [hrun, Oper.uponIn_round]
        refine ⟨fun h => (by simp [WF, Fence.wide] at h), ?_⟩
        refine roundIn_of_wpIn (F := WF r) trivial ?_
        have hs0 : Sat G w { tmps := tm.setIfInBounds p v, defers := [] } ⟨cs.length, (p, x) :: enumT 0 cs, s.h⟩ := by
          refine ⟨by simp [h4], fun i => ?_, hs.inv, Marks.nil _ _⟩
          show VRel _ _ _ (tget ((p, x) :: enumT 0 cs) i)
          rw [tget_cons]
          split
          · next e =>
            subst e
            have : (tm.setIfInBounds i v).getD i undef = v := by simp [Array.getD, h4, hp]
            rw [this]; exact hvx
          · next e =>
            rw [tget_enum]
            simp only [Nat.zero_le, if_true, Nat.sub_zero]
            cases hc' : cs[i]? with
            | none => exact .dead _
            | some y =>
              have hlt : i < tm.size := by rw [h4]; exact (List.getElem?_eq_some_iff.1 hc').1
              have : (tm.setIfInBounds p v).getD i undef = tm[i] := by
                simp [Array.getD, hlt, Ne.symm e]
              rw [this]
              exact h5 i _ y (Array.getElem?_eq_getElem hlt) hc'
        refine wpIn_mono ((hA (G.rho k) G.N).run G w _ (n - 1) hs0 (Nat.le_refl _)) fun e1 a1 w1 hn1 => ?_
        obtain ⟨G1, s1, hE1, hN1, hs1, hq1⟩ := hn1
        cases e1 with
        | normal =>
          obtain ⟨p1, as1, bd1, cs1, hk1, hb1⟩ := hq1
          have hr1 : G1.rho k = G.rho k := hE1.rho k hkN
          obtain ⟨_, fn1, tm1, D1, g3, g4, g5, grec⟩ := lp_rec hs1.inv hk1
          obtain ⟨gE, gI⟩ := grec .busy
          rw [hr1] at g3 gE gI
          refine ⟨_, run_beginRound g3 rfl, ?_⟩
          have hs2 : Sat G1 (w1.putObj (G.rho k) (.loop { state := .busy, pending := none, fn := fn1, tmps := tm1, params := #[p1], assign := as1, body := bd1, defers := D1 })) a1 ⟨s1.n, s1.t, s1.h.set k (.lp .busy p1 as1 bd1 cs1)⟩ := hs1.move gE (Nat.le_refl _) gI
          refine wpIn_mono (hb1.run G1 _ a1 (n - 1) hs2 hN1) fun e3 a3 w3 hn3 => ?_
          obtain ⟨G3, s3, hE3, hN3, hs3, hq3⟩ := hn3
          have fin : ∀ (jump : Option Code) (ls : LS) (b : Bool) (p : Nat) (as bd : Code) (cs2 : List AV), s3.h[k]? = some (.lp .busy p as bd cs2) → ls.pd = jump → ls.st = (if jump.isNone then .ready else .done) → jump.isNone = b → K ((s.wh (s3.h.set k (.lp ls p as bd cs2))).put o.dst (.d (.v (.bool b)))) →
              ∃ v w', (Instr.endRound (G.rho k) jump).run P w3 = .ok v w' ∧ NxT N0 G w K (a.put o.dst v) w' := fun jump ls b p as bd cs2 hk3 q1 q2 q3 hK => by
            have hr3 : G3.rho k = G.rho k := (hE3.rho k hkN).trans hr1
            obtain ⟨_, fn3, tm3, D3, z3, z4, z5, zrec⟩ := lp_rec hs3.inv hk3
            obtain ⟨zE, zI⟩ := zrec ls
            rw [hr3] at z3 zE zI
            subst q1
            have hend := run_endRound (P := P) ls.pd z3
            rw [← q2] at hend
            refine ⟨_, _, hend, ?_⟩
            have hEE : Ext G.N G w G3 _ := (hE1.trans ((gE.less hN1).trans hE3)).trans (zE.less hN3)
            have hv' : VRel G3 (w3.putObj (G.rho k) (.loop { state := ls.st, pending := ls.pd, fn := fn3, tmps := tm3, params := #[p], assign := as, body := bd, defers := D3 })) (.bool ls.pd.isNone) (.d (.v (.bool b))) := by rw [q3]; exact .d (.v _)
            exact ⟨G3, _, hEE.less hN, Nat.le_trans hN hN3, (hs.move hEE hN3 zI).put hv' o.dst, hK⟩
          cases e3 with
          | normal => obtain ⟨p2, as2, bd2, cs2, y1, y2⟩ := hq3; exact fin none .ready true p2 as2 bd2 cs2 y1 rfl rfl rfl y2
          | ret => obtain ⟨p2, as2, bd2, cs2, y1, y2⟩ := hq3; exact fin (some .ret) (.done .ret) false p2 as2 bd2 cs2 y1 rfl rfl rfl y2
          | exit i => obtain ⟨p2, as2, bd2, cs2, y1, y2⟩ := hq3; exact fin (some (.exit i)) (.done (.exit i)) false p2 as2 bd2 cs2 y1 rfl rfl rfl y2
          | _ => exact hq3.elim
        | _ => exact hq1.elim
      · exact h.elim
    · exact h.elim
  · exact h.elim
theorem aopN_sound {K : St → Prop} {Q : Exit → Act → World → Prop} (hs : Sat G w a s) (hN : N0 ≤ G.N) (h : aopN P o K s) : o.wpIn (WF r) n P a w (NxT N0 G w K) Q := by
  rcases h with h | h | h | h | ⟨x, h', h | ⟨lo, h⟩, hK⟩
  · exact aopN0_sound hs hN (.inl h)
  · exact aopN0_sound hs hN (.inr (.inl h))
  · exact aopN0_sound hs hN (.inr (.inr h))
  · exact aopY_sound hs hN h
  · exact opZ_sound hs hN h hK
  · exact opR_sound hs hN h hK
theorem aOps_sound {ops : Array Oper} {K : St → Prop} {Q' : Exit → Act → World → Prop} (hQ : ∀ a' w', NxT N0 G w K a' w' → Q' .normal a' w') : ∀ (l : List Oper) (k : Nat), (∀ j, l[j]? = ops[k + j]?) → ∀ (G1 : Gh) (w1 : World) (a : Act) (s : St),
    Ext N0 G w G1 w1 → N0 ≤ G1.N → Sat G1 w1 a s → aOps P ops l K s → wpOpsIn (WF r) n P ops Q' (List.range' k l.length) a w1
  | [], k, _, G1, w1, a, s, hE, hN, hs, h => hQ _ _ ⟨G1, s, hE, hN, hs, h⟩
  | o :: l, k, hl, G1, w1, a, s, hE, hN, hs, h => by
    have h0 : ops[k]? = some o := by simpa using (hl 0).symm
    have hl' : ∀ j, l[j]? = ops[k + 1 + j]? := fun j => by have := hl (j + 1); simpa [Nat.add_assoc, Nat.add_comm 1 j] using this
    have hg := guard_sound hs h
    simp only [List.length_cons, List.range'_succ, wpOpsIn, h0]
    split
    · rename_i hw
      rw [if_pos hw] at hg
      exact Oper.wpIn_mono (fun a' w' hn => by
        obtain ⟨G2, s2, e2, n2, s2', k2⟩ := hn
        exact aOps_sound hQ l (k + 1) hl' G2 w' a' s2 (hE.trans e2) n2 s2' k2) (aopN_sound hs hN hg)
    · rename_i hw
      rw [if_neg hw] at hg
      exact ⟨fun _ _ => trivial, aOps_sound hQ l (k + 1) hl' G1 w1 _ _ hE hN (hs.put (.d (.v undef)) o.dst) hg⟩

theorem aw_region {id : Nat} {ops : Array Oper} (h : aOps P ops ops.toList (Q .normal) s) : AWp P r N0 (.region id ops false) Q s := by
  constructor
  intro G w a n hs hN
  refine wpIn_region ?_
  rw [List.range_eq_range', ← Array.length_toList]
  exact aOps_sound (G := G) (w := w) (K := Q .normal) (fun _ _ h => h) ops.toList 0 (by simp) G w a s (Ext.refl _ _ _) hN hs h
theorem aw_skip (h : Q .normal s) : AWp P r N0 .skip Q s := ⟨fun G _ _ _ hs hN => wpIn_skip ⟨G, s, Ext.refl _ _ _, hN, hs, h⟩⟩
theorem aw_ret (h : Q .ret s) : AWp P r N0 .ret Q s := ⟨fun G _ _ _ hs hN => wpIn_ret ⟨G, s, Ext.refl _ _ _, hN, hs, h⟩⟩
theorem aw_exit {id : Nat} (h : Q (.exit id) s) : AWp P r N0 (.exit id) Q s := ⟨fun G _ _ _ hs hN => wpIn_exit ⟨G, s, Ext.refl _ _ _, hN, hs, h⟩⟩
theorem aw_seq {x y : Code} (h : AWp P r N0 x (AThen (fun s' => AWp P r N0 y Q s') Q) s) : AWp P r N0 (.seq x y) Q s := by
  constructor
  intro G w a n hs hN
  refine wpIn_seq (wpIn_mono (h.run G w a n hs hN) fun e a1 w1 hn => ?_)
  obtain ⟨G1, s1, hE, hN1, hs1, hq⟩ := hn
  cases e with
  | normal => exact wpIn_mono (hq.run G1 w1 a1 n hs1 hN1) fun _ _ _ hn => hn.trans hE
  | _ => exact ⟨G1, s1, hE, hN1, hs1, hq⟩
theorem aw_cond {c : Operand} {x y : Code} {t : Bool} (hc : ev s c = .d (.v (.bool t))) (h1 : t = true → AWp P r N0 x Q s) (h2 : t = false → AWp P r N0 y Q s) : AWp P r N0 (.cond c x y) Q s := by
  constructor
  intro G w a n hs hN
  have hb := hs.ev c
  rw [hc] at hb
  exact wpIn_cond_split hb.bool (fun e => (h1 e).run G w a n hs hN) (fun e => (h2 e).run G w a n hs hN)
theorem aw_block {id : Nat} {c : Code} (h : AWp P r N0 c (ABlock id Q) s) : AWp P r N0 (.block id c) Q s := by
  constructor
  intro G w a n hs hN
  refine wpIn_block (wpIn_mono (h.run G w a n hs hN) fun e a1 w1 hn => ?_)
  obtain ⟨G1, s1, hE, hN1, hs1, hq⟩ := hn
  cases e with
  | exit id' =>
    by_cases he : id' = id
    · simp only [ABlock, he, BEq.rfl, cond_true] at hq
      simp only [Exit.inBlock, if_pos he]
      exact ⟨G1, s1, hE, hN1, hs1, hq⟩
    · have hbe : (id' == id) = false := by simpa using he
      simp only [ABlock, hbe, cond_false] at hq
      simp only [Exit.inBlock, if_neg he]
      exact ⟨G1, s1, hE, hN1, hs1, hq⟩
  | _ => exact ⟨G1, s1, hE, hN1, hs1, hq⟩

/-- a loop whose round's number is known to the proof alone -/
theorem wpIn_loop_ghost {F : Fence} {c : Code} {Q : Exit → Act → World → Prop} {ι : Type} (I : ι → Act → World → Prop) (μ : ι → Nat) (i0 : ι) (h₀ : I i0 a w)
    (round : ∀ i a w, I i a w → c.wpIn F n P (Exit.then (fun a' w' => ∃ i', I i' a' w' ∧ μ i' < μ i) Q) a w) : (Code.loop c).wpIn F n P Q a w := by
  intro b k cs hro hb hr
  have key : ∀ j i a w, μ i = j → I i a w →
      ∃ e a' w', Q e a' w' ∧ ArrivesIn (Machine.fenced P F) P (lone (b.atR a (.code c :: .inLoop c :: k)) cs w) b k cs e a' w' := by
    intro j
    induction j using Nat.strongRecOn with
    | _ j ih =>
      intro i a w hn hI
      obtain ⟨e, a₁, w₁, hq, harr⟩ := round i a w hI b (.inLoop c :: k) cs hro hb hr
      cases e with
      | normal =>
        obtain ⟨i', hI₁, hlt⟩ := hq
        obtain ⟨e₂, a₂, w₂, hq₂, harr₂⟩ := ih (μ i') (hn ▸ hlt) i' a₁ w₁ rfl hI₁
        exact ⟨e₂, a₂, w₂, hq₂, .of_steps (StepsIn.trans harr (.one (fenced_calm hb hr rfl) stepR_inLoop)) harr₂⟩
      | exit id => exact ⟨_, a₁, w₁, hq, .pass (x := .inLoop c) rfl (fun _ _ => .inl (by simp)) harr⟩
      | goto l => exact ⟨_, a₁, w₁, hq, .pass (x := .inLoop c) rfl (fun _ _ => .inl (by simp)) harr⟩
      | ret => exact ⟨_, a₁, w₁, hq, .pass (x := .inLoop c) rfl (fun _ _ => .inl (by simp)) harr⟩
      | panic ch => exact ⟨_, a₁, w₁, hq, .pass (x := .inLoop c) rfl (fun _ _ => .inl (by simp)) harr⟩
      | outgrown => exact ⟨_, a₁, w₁, hq, .pass (x := .inLoop c) rfl (fun _ _ => .inl (by simp)) harr⟩
  obtain ⟨e, a', w', hq, harr⟩ := key _ i0 a w rfl h₀
  exact ⟨e, a', w', hq, .of_steps (.one (fenced_calm hb hr rfl) stepR_loop) harr⟩
end

/-! ### what is forgotten -/
mutual
def AV.pub (m : Nat) : AV → AV
  | .own n xs => bif leB m n then .d (.sl xs) else .own n xs
  | .agg cs => .agg (AV.pubL m cs)
  | .tup cs => .tup (AV.pubL m cs)
  | .fn f cs => .fn f (AV.pubL m cs)
  | x => x
def AV.pubL (m : Nat) : List AV → List AV
  | [] => []
  | x :: l => x.pub m :: AV.pubL m l
end
mutual
def AV.lowB (m : Nat) : AV → Bool
  | .own n _ | .ptr n _ | .row n _ _ _ _ | .mp n | .yld n | .vec n _ _ _ _ | .vptr n _ _ _ _ => !leB m n
  | .agg cs => AV.lowL m cs
  | .tup cs => AV.lowL m cs
  | .fn _ cs => AV.lowL m cs
  | _ => true
def AV.lowL (m : Nat) : List AV → Bool
  | [] => true
  | x :: l => x.lowB m && AV.lowL m l
end
theorem pubL_eq (m : Nat) : ∀ l, AV.pubL m l = l.map (AV.pub m)
  | [] => by simp [AV.pubL]
  | x :: l => by simp [AV.pubL, pubL_eq m l]
theorem lowL_eq (m : Nat) : ∀ l, AV.lowL m l = l.all (AV.lowB m)
  | [] => by simp [AV.lowL]
  | x :: l => by simp [AV.lowL, lowL_eq m l]
def Blk.pub (m : Nat) : Blk → Blk
  | .cells cs => .cells (cs.map (AV.pub m))
  | .lp ls p as bd cs => .lp ls p as bd (cs.map (AV.pub m))
  | .it sn cs => .it sn (cs.map (AV.pub m))
  | .vec e k cs => .vec e k (cs.map (·.map (AV.pub m)))
  | B => B
def Blk.lowB (m : Nat) : Blk → Bool
  | .cells cs => cs.all (AV.lowB m)
  | .lp _ _ _ _ cs => cs.all (AV.lowB m)
  | .it _ cs => cs.all (AV.lowB m)
  | .vec _ _ cs => cs.all (·.all (AV.lowB m))
  | _ => true
theorem VRel.pub {G : Gh} {w : World} (m : Nat) {u : Value} {x : AV} (h : VRel G w u x) : VRel G w u (x.pub m) := by
  have lst : ∀ (vs : Array Value) (cs : List AV), (∀ (i : Nat) (u : Value) (c : AV), vs[i]? = some u → cs[i]? = some c → VRel G w u (c.pub m)) → ∀ (i : Nat) (u : Value) (c : AV), vs[i]? = some u → (AV.pubL m cs)[i]? = some c → VRel G w u c := by
    intro vs cs ih i u c hu hc
    rw [pubL_eq, List.getElem?_map] at hc
    cases hx : cs[i]? with
    | none => rw [hx] at hc; cases hc
    | some x => rw [hx] at hc; cases hc; exact ih i u x hu hx
  induction h with
  | agg vs cs hl _ ih => rw [AV.pub]; exact .agg vs _ (by rw [pubL_eq, List.length_map]; exact hl) (lst vs cs ih)
  | tup vs cs hl _ ih => rw [AV.pub]; exact .tup vs _ (by rw [pubL_eq, List.length_map]; exact hl) (lst vs cs ih)
  | fn f vs cs hl _ ih => rw [AV.pub]; exact .fn f vs _ (by rw [pubL_eq, List.length_map]; exact hl) (lst vs cs ih)
  | own n xs h hp hle hf =>
    rw [AV.pub, cond_eq_ite]
    split
    · exact .d hp
    · exact .own n xs h hp hle hf
  | d h => simp only [AV.pub]; exact .d h
  | ptr n off h => simp only [AV.pub]; exact .ptr n off h
  | elt xs i off b o u x hx hS hu => simp only [AV.pub]; exact .elt xs i off b o u x hx hS hu
  | full xs hp hf => simp only [AV.pub]; exact .full xs hp hf
  | row n off len cap k h hl hm => simp only [AV.pub]; exact .row n off len cap k h hl hm
  | mp n h => simp only [AV.pub]; exact .mp n h
  | yld n h => simp only [AV.pub]; exact .yld n h
  | vec n o len L k h hs hL hf => simp only [AV.pub]; exact .vec n o len L k h hs hL hf
  | vptr n i j L k h hs hL hf => simp only [AV.pub]; exact .vptr n i j L k h hs hL hf
  | hid h h1 => simp only [AV.pub]; exact .hid h h1
  | dead u => simp only [AV.pub]; exact .dead u
def Gh.cut (G : Gh) (m : Nat) : Gh := { G with N := m }
theorem VRel.cut {G : Gh} {w : World} {m : Nat} {u : Value} {x : AV} (h : VRel G w u x) (hb : x.lowB m = true) : VRel (G.cut m) w u x := by
  induction h with
  | agg vs cs hl _ ih =>
    rw [AV.lowB, lowL_eq, List.all_eq_true] at hb
    exact .agg vs cs hl fun i u c hu hc => ih i u c hu hc (hb c (List.mem_of_getElem? hc))
  | tup vs cs hl _ ih =>
    rw [AV.lowB, lowL_eq, List.all_eq_true] at hb
    exact .tup vs cs hl fun i u c hu hc => ih i u c hu hc (hb c (List.mem_of_getElem? hc))
  | fn f vs cs hl _ ih =>
    rw [AV.lowB, lowL_eq, List.all_eq_true] at hb
    exact .fn f vs cs hl fun i u c hu hc => ih i u c hu hc (hb c (List.mem_of_getElem? hc))
  | own n xs h hp hle hf => rw [AV.lowB] at hb; exact .own n xs (show n < m by rw [Bool.not_eq_true', ← Bool.not_eq_true, leB_iff] at hb; omega) hp hle hf
  | ptr n off h => rw [AV.lowB] at hb; exact .ptr (G := G.cut m) n off (show n < m by rw [Bool.not_eq_true', ← Bool.not_eq_true, leB_iff] at hb; omega)
  | row n off len cap k h hl hm => rw [AV.lowB] at hb; exact .row (G := G.cut m) n off len cap k (show n < m by rw [Bool.not_eq_true', ← Bool.not_eq_true, leB_iff] at hb; omega) hl hm
  | mp n h => rw [AV.lowB] at hb; exact .mp (G := G.cut m) n (show n < m by rw [Bool.not_eq_true', ← Bool.not_eq_true, leB_iff] at hb; omega)
  | yld n h => rw [AV.lowB] at hb; exact .yld (G := G.cut m) n (show n < m by rw [Bool.not_eq_true', ← Bool.not_eq_true, leB_iff] at hb; omega)
  | vec n o len L k h hs hL hf => rw [AV.lowB] at hb; exact .vec (G := G.cut m) n o len L k (show n < m by rw [Bool.not_eq_true', ← Bool.not_eq_true, leB_iff] at hb; omega) hs hL hf
  | vptr n i j L k h hs hL hf => rw [AV.lowB] at hb; exact .vptr (G := G.cut m) n i j L k (show n < m by rw [Bool.not_eq_true', ← Bool.not_eq_true, leB_iff] at hb; omega) hs hL hf
  | hid h h1 => exact .hid (G := G.cut m) h h1
  | d h => exact .d h
  | elt xs i off b o u x hx hS hu => exact .elt xs i off b o u x hx hS hu
  | full xs hp hf => exact .full xs hp hf
  | dead u => exact .dead u
/-- the state with some temporaries and the first m blocks alone -/
def St.mask (s : St) (live : List Nat) (m : Nat) : St := { s with t := live.map fun k => (k, (tget s.t k).pub m), h := (s.h.take m).map (Blk.pub m) }
def St.okMask (s : St) (live : List Nat) (m : Nat) : Prop := m ≤ s.h.length ∧ (live.all fun k => ((tget s.t k).pub m).lowB m) = true ∧ (((s.h.take m).map (Blk.pub m)).all (Blk.lowB m)) = true
theorem tget_map (f : Nat → AV) : ∀ (live : List Nat) (i : Nat), tget (live.map fun k => (k, f k)) i = if i ∈ live then f i else .dead
  | [], i => by simp [tget]
  | k :: l, i => by
    simp only [List.map_cons, tget_cons, tget_map f l i, List.mem_cons]
    by_cases h : i = k
    · subst h; simp
    · simp [h]
theorem inv_cut {G : Gh} {w : World} {h : List Blk} (hi : Inv G w h) {m : Nat} (hm : m ≤ h.length) (hb : (((h.take m).map (Blk.pub m)).all (Blk.lowB m)) = true) : Inv (G.cut m) w ((h.take m).map (Blk.pub m)) := by
  have hget : ∀ (n : Nat) (B : Blk), ((h.take m).map (Blk.pub m))[n]? = some B → n < m ∧ ∃ B', h[n]? = some B' ∧ B = B'.pub m ∧ (B'.pub m).lowB m = true := fun n B hB => by
    have hbel := List.all_eq_true.1 hb B (List.mem_of_getElem? hB)
    rw [List.getElem?_map, List.getElem?_take] at hB
    split at hB
    · rename_i hn
      cases hx : h[n]? with
      | none => rw [hx] at hB; cases hB
      | some B' => rw [hx] at hB; cases hB; exact ⟨hn, B', rfl, rfl, hbel⟩
    · cases hB
  have hown : ∀ n b, ownB ((h.take m).map (Blk.pub m)) (G.cut m) n = some b → ownB h G n = some b := fun n b hb => by
    obtain ⟨B, hB, hb⟩ := ownB_some hb
    obtain ⟨_, B', h1, rfl, _⟩ := hget n B hB
    rw [ownB_of h1, ← hb]
    cases B' <;> rfl
  refine ⟨by simp [Gh.cut]; omega, hi.z, hi.S, fun n B hB => ?_, fun i j b h1 h2 => hi.inj i j b (hown i b h1) (hown j b h2), hi.gl⟩
  obtain ⟨hn, B', h1, rfl, hbel⟩ := hget n B hB
  have hB' := hi.blk n B' h1
  cases B' with
  | gone => trivial
  | front e k len => exact hB'
  | map kv => exact hB'
  | vec e k cs =>
    obtain ⟨c1, c2, c3, c4⟩ := hB'
    refine ⟨by rw [List.length_map]; exact c1, by rw [List.length_map]; exact c2, fun c hc => ?_, ?_⟩
    · obtain ⟨x, hx, rfl⟩ := List.mem_map.1 hc
      rw [List.length_map]; exact c3 x hx
    · rcases c4 with ⟨d1, d2, A, d3⟩ | ⟨g, cap, cur, d1, d2, d3, d4, d5, d6, d7, d8, d9⟩
      · exact .inl ⟨d1, by rw [d2]; rfl, A, d3⟩
      · refine .inr ⟨g, cap, cur, d1, by rw [List.length_map]; exact d2, d3, d4, by rw [List.length_map]; exact d5, d6, d7, d8, fun i j c x u hc hx hu => ?_⟩
        simp only [Blk.pub, Blk.lowB, List.all_eq_true] at hbel
        rw [List.getElem?_map] at hc
        cases hy : cs[i]? with
        | none => rw [hy] at hc; cases hc
        | some y =>
          rw [hy] at hc
          cases hc
          have hz := hx
          rw [List.getElem?_map] at hx
          cases hw : y[j]? with
          | none => rw [hw] at hx; cases hx
          | some z =>
            rw [hw] at hx
            cases hx
            exact ((d9 i j y z u hy hw hu).pub m).cut (hbel _ (List.mem_map.2 ⟨y, List.mem_of_getElem? hy, rfl⟩) _ (List.mem_of_getElem? hz))
  | cells cs =>
    obtain ⟨c1, c2, vs, T, c3, c4, c5⟩ := hB'
    refine ⟨c1, c2, vs, T, c3, by rw [List.length_map]; exact c4, fun i u c hu hc => ?_⟩
    have hmem := List.mem_of_getElem? hc
    rw [List.getElem?_map] at hc
    cases hx : cs[i]? with
    | none => rw [hx] at hc; cases hc
    | some x =>
      rw [hx] at hc
      cases hc
      exact ((c5 i u x hu hx).pub m).cut (List.all_eq_true.1 hbel _ hmem)
  | lp ls p as bd cs =>
    obtain ⟨c1, c2, fn, vs, T, c3, c4, c5⟩ := hB'
    refine ⟨c1, c2, fn, vs, T, c3, by rw [List.length_map]; exact c4, fun i u c hu hc => ?_⟩
    have hmem := List.mem_of_getElem? hc
    rw [List.getElem?_map] at hc
    cases hx : cs[i]? with
    | none => rw [hx] at hc; cases hc
    | some x =>
      rw [hx] at hc
      cases hc
      exact ((c5 i u x hu hx).pub m).cut (List.all_eq_true.1 hbel _ hmem)
  | it sn cs =>
    obtain ⟨c1, c2, fn, vs, T, c3, c4, c5⟩ := hB'
    refine ⟨c1, c2, fn, vs, T, c3, by rw [List.length_map]; exact c4, fun i u c hu hc => ?_⟩
    have hmem := List.mem_of_getElem? hc
    rw [List.getElem?_map] at hc
    cases hx : cs[i]? with
    | none => rw [hx] at hc; cases hc
    | some x =>
      rw [hx] at hc
      cases hc
      exact ((c5 i u x hu hx).pub m).cut (List.all_eq_true.1 hbel _ hmem)
theorem ext_cut (N : Nat) (G : Gh) (w : World) (m : Nat) : Ext N G w (G.cut m) w :=
  ⟨Nat.le_refl _, fun _ _ h => h, fun _ _ _ => rfl, fun _ _ => rfl, fun _ _ => .inl ⟨rfl, rfl⟩, zsame rfl, fun _ _ => rfl, rfl, rfl, rfl, fun _ _ h => .inl h⟩
section
variable {P : Program} {r : Option Nat} {n N0 : Nat} {G : Gh} {w : World} {a : Act} {s : St} {o : Oper} {Q : Exit → St → Prop}
theorem Sat.mask (hs : Sat G w a s) {live : List Nat} {m : Nat} (h : s.okMask live m) : Sat (G.cut m) w a (s.mask live m) := by
  obtain ⟨h1, h2, h3⟩ := h
  refine ⟨hs.size, fun i => ?_, inv_cut hs.inv h1 h3, hs.df⟩
  show VRel _ _ _ (tget (live.map fun k => (k, (tget s.t k).pub m)) i)
  rw [tget_map (fun k => (tget s.t k).pub m)]
  split
  · rename_i hi
    exact ((hs.tmp i).pub m).cut (List.all_eq_true.1 h2 i hi)
  · exact .dead _
theorem aw_mask {c : Code} (live : List Nat) (m : Nat) (hm : N0 ≤ m) (hok : s.okMask live m) (h : AWp P r N0 c Q (s.mask live m)) : AWp P r N0 c Q s := by
  constructor
  intro G w a n hs _
  exact wpIn_mono (h.run (G.cut m) w a n (hs.mask hok) hm) fun _ _ _ hn => hn.trans (ext_cut N0 G w m)
/-- THE LOOP: between two rounds the state is 'st i', some temporaries and the first m blocks -/
theorem aw_loop {c : Code} {ι : Type} (live : List Nat) (m : Nat) (st : ι → St) (I : ι → Prop) (μ : ι → Nat) (i0 : ι) (hm : N0 ≤ m) (hok : s.okMask live m) (h0 : s.mask live m = st i0) (hI : I i0)
    (round : ∀ i, I i → AWp P r N0 c (AThen (fun s' => s'.okMask live m ∧ ∃ i', s'.mask live m = st i' ∧ I i' ∧ μ i' < μ i) Q) (st i)) : AWp P r N0 (.loop c) Q s := by
  constructor
  intro G w a n hs _
  refine wpIn_loop_ghost (fun (i : ι) a' w' => ∃ G', I i ∧ Ext N0 G w G' w' ∧ N0 ≤ G'.N ∧ Sat G' w' a' (st i)) μ i0 ⟨G.cut m, hI, ext_cut _ _ _ _, hm, h0 ▸ hs.mask hok⟩ ?_
  rintro i a' w' ⟨G', hi, hE, hN, hs'⟩
  refine wpIn_mono ((round i hi).run G' w' a' n hs' hN) fun e a1 w1 hn => ?_
  obtain ⟨G1, s1, hE1, hN1, hs1, hq⟩ := hn
  cases e with
  | normal =>
    obtain ⟨hok', i', h1, h2, h3⟩ := hq
    exact ⟨i', ⟨G1.cut m, h2, (hE.trans hE1).trans (ext_cut _ _ _ _), hm, h1 ▸ hs1.mask hok'⟩, h3⟩
  | _ => exact ⟨G1, s1, hE.trans hE1, hN1, hs1, hq⟩

/-! ### a function's results, and its contract -/
def aResults (P : Program) (s : St) : List ResultVar → (List AV → Prop) → Prop
  | [], C => C []
  | .tmp t :: l, C => aResults P s l fun xs => C (tget s.t t :: xs)
  | .cell p t :: l, C => aLoad P t s.h (tget s.t p) fun x => aResults P s l fun xs => C (x :: xs)
def tupOf : List AV → AV
  | [x] => x
  | l => .tup l
def aRet (P : Program) (fn : Func) (m : Nat) (K : AV → List Blk → Prop) (s : St) : Prop :=
  aResults P s fn.results.toList fun l => m ≤ s.h.length ∧ ((tupOf l).pub m).lowB m = true ∧ (((s.h.take m).map (Blk.pub m)).all (Blk.lowB m)) = true ∧ K ((tupOf l).pub m) ((s.h.take m).map (Blk.pub m))
def aPost (P : Program) (fn : Func) (m : Nat) (K : AV → List Blk → Prop) : Exit → St → Prop
  | .normal, s => aRet P fn m K s
  | .ret, s => aRet P fn m K s
  | _, _ => False
theorem run_aResults {C : List AV → Prop} (hs : Sat G w a s) (g : ResultVar → Sem Value) (hg1 : ∀ t, g (.tmp t) = pure (a.tmps.getD t undef)) (hg2 : ∀ p t, g (.cell p t) = (do loadVar t (← asAddr (a.tmps.getD p undef)))) :
    ∀ (l : List ResultVar), aResults P s l C → ∃ (vs : List Value) (xs : List AV), (l.mapM g).run P w = .ok vs w ∧ vs.length = xs.length ∧ (∀ (i : Nat) (u : Value) (c : AV), vs[i]? = some u → xs[i]? = some c → VRel G w u c) ∧ C xs := by
  intro l
  induction l generalizing C with
  | nil => exact fun h => ⟨[], [], by simp, rfl, fun i u c hu => by simp at hu, h⟩
  | cons x l ih =>
    intro h
    cases x with
    | tmp t =>
      obtain ⟨vs, xs, h1, h2, h3, h4⟩ := ih h
      refine ⟨a.tmps.getD t undef :: vs, tget s.t t :: xs, by simp only [List.mapM_cons, hg1, Sem.run_bind, Sem.run_pure, Result.andThen_ok, h1], by simp [h2], fun i u c hu hc => ?_, h4⟩
      match i with
      | 0 => simp only [List.getElem?_cons_zero, Option.some.injEq] at hu hc; subst hu; subst hc; exact hs.tmp t
      | i + 1 => exact h3 i u c (by simpa using hu) (by simpa using hc)
    | cell p t =>
      obtain ⟨u0, x0, r1, r2, r3⟩ := run_aLoad (P := P) hs.inv (hs.tmp p) h
      obtain ⟨vs, xs, h1, h2, h3, h4⟩ := ih r3
      have hv := hs.tmp p
      have e : ∃ ad, a.tmps.getD p undef = .pointer (some ad) := by
        have h' : aLoad P t s.h (tget s.t p) fun x => aResults P s l fun xs => C (x :: xs) := h
        generalize a.tmps.getD p undef = v at hv r1
        generalize tget s.t p = y at hv h'
        cases hv with
        | ptr => exact ⟨_, rfl⟩
        | elt => exact ⟨_, rfl⟩
        | _ => exact (show False from h').elim
      obtain ⟨ad, e⟩ := e
      rw [e] at r1
      have r1' : (loadVar t ad).run P w = .ok u0 w := by simpa [Instr.loadAt, Instr.sureAddr] using r1
      have ha : (asAddr (a.tmps.getD p undef)).run P w = .ok ad w := by rw [e]; rfl
      refine ⟨u0 :: vs, x0 :: xs, by simp only [List.mapM_cons, hg2, Sem.run_bind, Sem.run_pure, Result.andThen_ok, h1, ha, r1'], by simp [h2], fun i u c hu hc => ?_, h4⟩
      match i with
      | 0 => simp only [List.getElem?_cons_zero, Option.some.injEq] at hu hc; subst hu; subst hc; exact r2
      | i + 1 => exact h3 i u c (by simpa using hu) (by simpa using hc)
theorem tup_rel : ∀ (vs : List Value) (xs : List AV), vs.length = xs.length → (∀ (i : Nat) (u : Value) (c : AV), vs[i]? = some u → xs[i]? = some c → VRel G w u c) → VRel G w (if h : vs.toArray.size = 1 then vs.toArray[0] else .tuple vs.toArray) (tupOf xs)
  | [v], [x], _, h => h 0 v x rfl rfl
  | [], [], _, _ => .tup _ _ rfl fun i u c hu => by simp at hu
  | v :: u :: vs, x :: y :: xs, hl, h => by
    have : ¬ (v :: u :: vs).toArray.size = 1 := by simp
    rw [dif_neg this]
    exact .tup _ _ (by simpa using hl) fun i p q hp hq => h i p q (by simpa using hp) hq
  | [], _ :: _, hl, _ => by simp at hl
  | _ :: _, [], hl, _ => by simp at hl
  | [_], _ :: _ :: _, hl, _ => by simp at hl
  | _ :: _ :: _, [_], hl, _ => by simp at hl
theorem run_aRet {fn : Func} {m : Nat} {K : AV → List Blk → Prop} (hs : Sat G w a s) (h : aRet P fn m K s) : ∃ v G' r h', (results fn a.tmps).run P w = .ok v w ∧ Ext N0 G w G' w ∧ m ≤ G'.N ∧ Inv G' w h' ∧ VRel G' w v r ∧ K r h' := by
  obtain ⟨g, hg⟩ : ∃ g : ResultVar → Sem Value, results fn a.tmps = (do let vs ← fn.results.mapM g; pure (if h : vs.size = 1 then vs[0] else .tuple vs)) ∧ (∀ t, g (.tmp t) = pure (a.tmps.getD t undef)) ∧ (∀ p t, g (.cell p t) = (do loadVar t (← asAddr (a.tmps.getD p undef)))) :=
    ⟨_, rfl, fun _ => rfl, fun _ _ => rfl⟩
  obtain ⟨vs, xs, h1, h2, h3, h4, h5, h6, h7⟩ := run_aResults hs g hg.2.1 hg.2.2 fn.results.toList h
  have hr : (results fn a.tmps).run P w = .ok (if h : vs.toArray.size = 1 then vs.toArray[0] else .tuple vs.toArray) w := by
    rw [hg.1, Sem.run_bind, Array.mapM_eq_mapM_toList]
    have e : ∀ X : Sem (List Value), (List.toArray <$> X : Sem _) = X >>= fun l => pure l.toArray := fun _ => rfl
    rw [e, Sem.run_bind, h1]
    rfl
  have hv := tup_rel vs xs h2 h3
  exact ⟨_, G.cut m, _, _, hr, ext_cut _ _ _ _, Nat.le_refl _, inv_cut hs.inv h4 h6, (hv.pub m).cut h5, h7⟩
/-- THE CONTRACT OUT OF THE BODY -/
theorem acalls_of {f : FuncId} {fn : Func} {c : Code} {args : List AV} {h : List Blk} {K : AV → List Blk → Prop} (m : Nat) (hf : P.funcs[f]? = some fn) (hb : fn.body = some c) (hn : (fn.name == "runtime.NumGoroutine") = false) (hm : h.length ≤ m)
    (hw : AWp P none h.length c (aPost P fn m K) { n := args.length + (fn.ntmps - args.length), t := enumT 0 args, h := h }) : ACalls P f args h K := by
  refine ⟨by unfold enterB; rw [hf]; simp [hb]; simpa using hn, fun G w vs hi hl hr => ?_⟩
  refine callsIn_wide (n := 8).1 (callsIn_of_wp_marks (F := Fence.wide) hf hb trivial ?_)
  have hs : Sat { G with M := w.heap.size } w { tmps := vs ++ Array.replicate (fn.ntmps - vs.size) undef, defers := [] } { n := args.length + (fn.ntmps - args.length), t := enumT 0 args, h := h } := by
    refine ⟨by simp [hl], fun i => ?_, hi.zm G.Z _ (fun _ h => h) (Nat.le_refl _), Marks.nil _ _⟩
    show VRel _ _ _ (tget (enumT 0 args) i)
    rw [tget_enum]
    simp only [Nat.zero_le, if_true, Nat.sub_zero]
    cases hx : args[i]? with
    | none => exact .dead _
    | some x =>
      have hlt : i < vs.size := by rw [hl]; exact (List.getElem?_eq_some_iff.1 hx).1
      have : (vs ++ Array.replicate (fn.ntmps - vs.size) undef).getD i undef = vs[i] := by
        simp [Array.getElem?_append_left hlt, Array.getElem?_eq_getElem hlt]
      simp only [this, Option.getD_some]
      exact (hr i _ x (Array.getElem?_eq_getElem hlt) hx).zm G.Z _
  refine wpIn_mono (hw.run _ w _ 8 hs (by rw [hi.len]; exact Nat.le_refl _)) fun e a' w' hn => ?_
  obtain ⟨G1, s1, hE, hN1, hs1, hq⟩ := hn
  have key : aRet P fn m K s1 → LeavesInM Fence.wide 8 P fn a'.tmps (fun e w' => ∃ v G' r h', e = .returned v ∧ Ext G.N G w G' w' ∧ G.N ≤ G'.N ∧ Inv G' w' h' ∧ VRel G' w' v r ∧ K r h') a'.defers .returning w' := fun hq => by
    obtain ⟨w2, G2, k1, k2, k3, k4⟩ := leave_ok hE hN1 hi.z hi.gl.2 hs1
    obtain ⟨v, G', r, h', r1, r2, r3, r4, r5, r6⟩ := run_aRet (N0 := h.length) k4 hq
    exact k1 _ _ _ _ _ ⟨v, r1, v, G', r, h', rfl, by rw [← hi.len]; exact k2.trans r2, by rw [← hi.len]; exact Nat.le_trans hm r3, r4, r5, r6⟩
  cases e with
  | normal => exact key hq
  | ret => exact key hq
  | _ => exact hq.elim
end
end Go.Proofs.YtaiihhogoogkmaaGreatDoor
