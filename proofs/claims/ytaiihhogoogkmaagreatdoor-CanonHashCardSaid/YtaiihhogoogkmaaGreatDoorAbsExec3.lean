/-
  Closed runs may be believed.
-/
import Derived.Test.YtaiihhogoogkmaaGreatDoorAbsExec2
namespace Go.Proofs.YtaiihhogoogkmaaGreatDoor
open Go.RowKit

section
variable {P : Program} {r : Option Nat} {n N0 : Nat} {G : Gh} {w : World} {a : Act} {s : St} {o : Oper} {Q : Exit → St → Prop}
theorem run_aRetN {fn : Func} {K : AV → List Blk → Prop} (hs : Sat G w a s) (h : aResults P s fn.results.toList fun l => K (tupOf l) s.h) : ∃ v r, (results fn a.tmps).run P w = .ok v w ∧ VRel G w v r ∧ K r s.h := by
  obtain ⟨g, hg⟩ : ∃ g : ResultVar → Sem Value, results fn a.tmps = (do let vs ← fn.results.mapM g; pure (if h : vs.size = 1 then vs[0] else .tuple vs)) ∧ (∀ t, g (.tmp t) = pure (a.tmps.getD t undef)) ∧ (∀ p t, g (.cell p t) = (do loadVar t (← asAddr (a.tmps.getD p undef)))) :=
    ⟨_, rfl, fun _ => rfl, fun _ _ => rfl⟩
  obtain ⟨vs, xs, h1, h2, h3, h4⟩ := run_aResults hs g hg.2.1 hg.2.2 fn.results.toList h
  have hr : (results fn a.tmps).run P w = .ok (if h : vs.toArray.size = 1 then vs.toArray[0] else .tuple vs.toArray) w := by
    rw [hg.1, Sem.run_bind, Array.mapM_eq_mapM_toList]
    have e : ∀ X : Sem (List Value), (List.toArray <$> X : Sem _) = X >>= fun l => pure l.toArray := fun _ => rfl
    rw [e, Sem.run_bind, h1]
    rfl
  exact ⟨_, _, hr, tup_rel vs xs h2 h3, h4⟩
def aPostN (P : Program) (fn : Func) (K : AV → List Blk → Prop) : Exit → St → Prop
  | .normal, s => aResults P s fn.results.toList fun l => K (tupOf l) s.h
  | .ret, s => aResults P s fn.results.toList fun l => K (tupOf l) s.h
  | _, _ => False
/-- the contract out of the body, nothing forgotten -/
theorem acalls_ofN {f : FuncId} {fn : Func} {c : Code} {args : List AV} {h : List Blk} {K : AV → List Blk → Prop} (hf : P.funcs[f]? = some fn) (hb : fn.body = some c) (hn : (fn.name == "runtime.NumGoroutine") = false)
    (hw : AWp P none h.length c (aPostN P fn K) { n := args.length + (fn.ntmps - args.length), t := enumT 0 args, h := h }) : ACalls P f args h K := by
  refine ⟨by unfold enterB; rw [hf]; simp [hb]; simpa using hn, fun G w vs hi hl hr => ?_⟩
  refine callsIn_wide (n := 8).1 (callsIn_of_wp_marks (F := Fence.wide) hf hb trivial ?_)
  have hs : Sat { G with M := w.heap.size } w { tmps := vs ++ Array.replicate (fn.ntmps - vs.size) undef, defers := [] } { n := args.length + (fn.ntmps - args.length), t := enumT 0 args, h := h } := by
    refine ⟨by simp [hl], fun i => ?_, hi.zm G.Z _ (fun _ h => h) (Nat.le_refl _), Marks.nil _ _⟩
    show VRel _ _ _ (tget (enumT 0 args) i)
    rw [tget_enum]
    simp only [Nat.zero_le, if_true, Nat.sub_zero]
    cases hx : args[i]? with
    | none => exact .dead _
    | some x =>
      have hlt : i < vs.size := by rw [hl]; exact (List.getElem?_eq_some_iff.1 hx).1
      have : (vs ++ Array.replicate (fn.ntmps - vs.size) undef).getD i undef = vs[i] := by
        simp [Array.getElem?_append_left hlt, Array.getElem?_eq_getElem hlt]
      simp only [this, Option.getD_some]
      exact (hr i _ x (Array.getElem?_eq_getElem hlt) hx).zm G.Z _
  refine wpIn_mono (hw.run _ w _ 8 hs (by rw [hi.len]; exact Nat.le_refl _)) fun e a' w' hn => ?_
  obtain ⟨G1, s1, hE, hN1, hs1, hq⟩ := hn
  have key : (aResults P s1 fn.results.toList fun l => K (tupOf l) s1.h) → LeavesInM Fence.wide 8 P fn a'.tmps (fun e w' => ∃ v G' r h', e = .returned v ∧ Ext G.N G w G' w' ∧ G.N ≤ G'.N ∧ Inv G' w' h' ∧ VRel G' w' v r ∧ K r h') a'.defers .returning w' := fun hq => by
    obtain ⟨w2, G2, k1, k2, k3, k4⟩ := leave_ok hE hN1 hi.z hi.gl.2 hs1
    obtain ⟨v, r, r1, r5, r6⟩ := run_aRetN k4 hq
    exact k1 _ _ _ _ _ ⟨v, r1, v, G2, r, s1.h, rfl, by rw [← hi.len]; exact k2, by rw [← hi.len, k3]; exact hN1, k4.inv, r5, r6⟩
  cases e with
  | normal => exact key hq
  | ret => exact key hq
  | _ => exact hq.elim
end
/-- a contract may forget what lies behind -/
theorem ACalls.cut {P : Program} {f : FuncId} {args : List AV} {h h' : List Blk} {r : AV} (m : Nat) (hc : ACalls P f args h fun r1 h1 => r1 = r ∧ h1 = h') (h1 : h.length ≤ m) (h2 : m ≤ h'.length) (hb : (((h'.take m).map (Blk.pub m)).all (Blk.lowB m)) = true) (hr : (r.pub m).lowB m = true) :
    ACalls P f args h fun r1 h1 => r1 = r.pub m ∧ h1 = (h'.take m).map (Blk.pub m) := by
  refine ⟨hc.1, fun G w vs hi hl hv => (hc.2 G w vs hi hl hv).mono fun e w' hp => ?_⟩
  obtain ⟨v, G', _, _, rfl, hE, hN, hi', hv', rfl, rfl⟩ := hp
  exact ⟨v, G'.cut m, _, _, rfl, hE.trans (ext_cut _ _ _ _), by rw [← hi.len]; exact h1, inv_cut hi' h2 hb, (hv'.pub m).cut hr, rfl, rfl⟩
mutual
theorem ren_id : ∀ x : AV, x.ren id = x
  | .agg cs => by rw [AV.ren, renL_id cs]
  | .tup cs => by rw [AV.ren, renL_id cs]
  | .fn f cs => by rw [AV.ren, renL_id cs]
  | .own .. => by simp [AV.ren]
  | .d _ => by simp [AV.ren]
  | .ptr .. => by simp [AV.ren]
  | .elt .. => by simp [AV.ren]
  | .full _ => by simp [AV.ren]
  | .row .. => by simp [AV.ren]
  | .mp _ => by simp [AV.ren]
  | .yld _ => by simp [AV.ren]
  | .vec .. => by simp [AV.ren]
  | .vptr .. => by simp [AV.ren]
  | .hid _ => by simp [AV.ren]
  | .dead => by simp [AV.ren]
theorem renL_id : ∀ l : List AV, AV.renL id l = l
  | [] => by simp [AV.renL]
  | x :: l => by rw [AV.renL, ren_id x, renL_id l]
end
theorem blk_ren_id (B : Blk) : B.ren id = B := by
  cases B with
  | cells cs => simp only [Blk.ren, renL_id]
  | lp ls p as bd cs => simp only [Blk.ren, renL_id]
  | it sn cs => simp only [Blk.ren, renL_id]
  | vec e k cs => simp only [Blk.ren]; congr 1; exact (List.map_congr_left fun x _ => renL_id x).trans (List.map_id _)
  | _ => rfl
theorem rn_range (n i : Nat) (h : i < n) : rn (List.range n) 0 i = i := rn_lt (List.range n) 0 i i (by rw [List.getElem?_range h])
theorem ren_range {n : Nat} {x : AV} (h : x.lowB n = true) : x.ren (rn (List.range n) 0) = x := (ren_cong (τ := id) (rn_range n) x h).trans (ren_id x)
theorem blk_ren_range {n : Nat} {B : Blk} (h : B.lowB n = true) : B.ren (rn (List.range n) 0) = B := (blk_ren_cong (τ := id) (rn_range n) B h).trans (blk_ren_id B)

theorem nodupB_of : ∀ {l : List Nat}, l.Nodup → nodupB l = true
  | [], _ => rfl
  | a :: l, h => by
    rw [List.nodup_cons] at h
    rw [nodupB, Bool.and_eq_true, Bool.not_eq_true', ← Bool.not_eq_true]
    refine ⟨fun hm => ?_, nodupB_of h.2⟩
    obtain ⟨b, hb, e⟩ := List.any_eq_true.1 hm
    rw [beq_iff_eq] at e
    exact h.1 (e ▸ hb)
theorem nodupB_range (n : Nat) : nodupB (List.range n) = true := nodupB_of List.nodup_range
def MemoOK (P : Program) (memo : Memo) : Prop := ∀ g args r, memo g args = some (some r) → AFn P g args (· = r)
def NoGor (P : Program) : Prop := ∀ (f : FuncId) (fn : Func), P.funcs[f]? = some fn → (fn.name == "runtime.NumGoroutine") = false
def RunOK (P : Program) (run : Run) : Prop := ∀ fl lo c s e s', run fl lo c s = some (e, s') → ∀ (r : Option Nat) (N0 : Nat) (Q : Exit → St → Prop), (fl = true → r = none) → Q e.exit s' → AWp P r N0 c Q s
section
variable {run : Run} {P : Program} {memo : Memo} {lo : Nat} {s s' : St}
theorem xBody_ok (hP : NoGor P) (hr : RunOK P run) {f : FuncId} {args : List AV} {h h' : List Blk} {r : AV} (e : xBody run P lo f args h = some (r, h')) : ACalls P f args h fun r1 h1 => r1 = r ∧ h1 = h' := by
  unfold xBody at e
  split at e
  · next fn hf =>
    split at e
    · next c hc =>
      rw [fNat_eq] at e
      split at e
      · cases e
      · next x s1 hx e1 =>
        split at e
        · next l e2 =>
          cases e
          refine acalls_ofN hf hc (hP _ _ hf) (hr _ _ _ _ _ _ e1 _ _ _ (fun _ => rfl) ?_)
          have k := runRes_sound (P := P) (s := s1) fn.results.toList l (fun l' => tupOf l' = tupOf l ∧ s1.h = s1.h) e2 ⟨rfl, rfl⟩
          cases x with
          | n => exact k
          | r => exact k
          | x i => exact (hx i rfl).elim
        · cases e
      · cases e
    · cases e
  · cases e
/-- a contract's result, known otherwise -/
theorem ACalls.chg {f : FuncId} {args : List AV} {h0 h h2 : List Blk} {r r2 : AV} {tl : List (Nat × AV)} (hc : ACalls P f args h0 fun r1 h1 => r1 = r ∧ h1 = h)
    (hT : ∀ (G : Gh) (w : World) (a : Act), Sat G w a ⟨1, [(0, r)], h⟩ → ∃ G', Ext G.N G w G' w ∧ G'.N = G.N ∧ Sat G' w a ⟨1, (0, r2) :: tl, h2⟩) : ACalls P f args h0 fun r1 h1 => r1 = r2 ∧ h1 = h2 := by
  refine ⟨hc.1, fun G w vs hi hl hv => (hc.2 G w vs hi hl hv).mono fun e w' hp => ?_⟩
  obtain ⟨v, G', _, _, rfl, hE, hN, hi', hv', rfl, rfl⟩ := hp
  obtain ⟨G2, e1, e2, e3⟩ := hT G' w' { tmps := #[v], defers := [] } ⟨rfl, fun i => by
    show VRel G' w' _ (tget [(0, _)] i)
    rw [tget_cons]
    split
    · next ei => subst ei; exact hv'
    · exact .dead _, hi', Marks.nil _ _⟩
  exact ⟨v, G2, r2, h2, rfl, hE.trans (e1.less hN), by rw [e2]; exact hN, e3.inv, e3.tmp 0, rfl, rfl⟩
theorem xFrz_ok {f : FuncId} {args : List AV} {h0 : List Blk} : ∀ (l : List Nat) {h h2 : List Blk} {r r2 : AV}, (ACalls P f args h0 fun r1 h1 => r1 = r ∧ h1 = h) → xFrz l r h = some (r2, h2) → ACalls P f args h0 fun r1 h1 => r1 = r2 ∧ h1 = h2
  | [], h, h2, r, r2, hc, e => by cases e; exact hc
  | b :: l, h, h2, r, r2, hc, e => by
    unfold xFrz at e
    split at e
    · next cs e1 =>
      split at e
      · next ds e2 =>
        refine xFrz_ok l (ACalls.chg (tl := []) hc fun G w a hs => ?_) e
        refine hs.frzS (b := b) ?_
        simp only [Go.Proofs.YtaiihhogoogkmaaGreatDoor.frzS, e1, e2]
        rfl
      · cases e
    · cases e
theorem unL_some : ∀ {l : List AV} {ds : List D}, unL l = some ds → l = ds.map AV.d
  | [], ds, h => by cases h; rfl
  | x :: l, ds, h => by
    unfold unL at h
    split at h
    · next d r e1 e2 =>
      cases h
      rw [unL_some e2]
      cases x <;> simp [unD] at e1
      subst e1; rfl
    · cases h
theorem unR_some : ∀ {l : List (List AV)} {xs : List (List D)}, unR l = some xs → l = liftD xs
  | [], xs, h => by cases h; rfl
  | x :: l, xs, h => by
    unfold unR at h
    split at h
    · next d r e1 e2 => cases h; rw [unR_some e2, unL_some e1]; rfl
    · cases h
theorem xRet_ok {f : FuncId} {args : List AV} {h : List Blk} {r r2 : AV} (hc : ACalls P f args [] fun r1 h1 => r1 = r ∧ h1 = h) (e : xRet r h = some r2) (hb : r2.lowB 0 = true) : AFn P f args (· = r2) := by
  have fin : ∀ {r : AV} {h : List Blk}, (ACalls P f args [] fun r1 h1 => r1 = r ∧ h1 = h) → (r.pub 0).lowB 0 = true → AFn P f args (· = r.pub 0) := fun hc hb =>
    (hc.cut 0 (Nat.le_refl _) (Nat.zero_le _) (by simp) hb).mono fun r1 h1 ⟨k1, k2⟩ => ⟨by simpa using k2, k1⟩
  unfold xRet at e
  split at e
  · next b o len L k =>
    split at e
    · next e0 cs e1 =>
      obtain ⟨b1, b2⟩ := vBlk_some e1
      split at e
      · next xs e2 =>
        obtain ⟨h1, he⟩ := bif_some e
        subst he
        have e3 := unR_some e2
        have := ACalls.chg (r2 := .d (.sl ((xs.drop o).take len))) hc fun G w a hs => hs.frzV 0 xs _ (by show h[b]? = _; rw [b1, e3]) rfl (by rw [← b2, e3]; simp [liftD]) (fun c hc => List.all_eq_true.1 h1 c hc) rfl
        exact fin this rfl
      · cases e
    · cases e
  · split at e
    · next r3 h3 e1 =>
      cases e
      exact fin (xFrz_ok _ hc e1) hb
    · cases e
theorem xPure_ok (hP : NoGor P) (hm : MemoOK P memo) (hr : RunOK P run) {g : FuncId} {args : List AV} {r : AV} (e : xPure run P memo g args = some r) : AFn P g args (· = r) := by
  unfold xPure at e
  split at e
  · next e1 => cases e; exact hm _ _ _ e1
  · split at e
    · next r0 h0 e1 =>
      split at e
      · next r1 e2 =>
        obtain ⟨hb, he⟩ := bif_some e
        cases he
        exact xRet_ok (xBody_ok hP hr e1) e2 hb
      · cases e
    · cases e
/-- a call that writes nothing of the caller's -/
theorem quiet_ok {g : FuncId} {args : List AV} {h h' : List Blk} {r : AV} (hc : ACalls P g args h fun r1 h1 => r1 = r ∧ h1 = h') (hf : Frm h.length h h') (ha : args.all (AV.lowB h.length) = true) (hh : h.all (Blk.lowB h.length) = true) (hr : (r.pub h.length).lowB h.length = true) (e : List Blk) :
    ACalls P g args (h ++ e) fun r1 h1 => r1 = r.pub h.length ∧ h1 = h ++ e := by
  have ht : h'.take h.length = h := hf.1.trans (by rw [List.take_length])
  have hp : (h'.take h.length).map (Blk.pub h.length) = h := by rw [ht]; exact blks_pub_low hh
  have h1 := hc.cut h.length (Nat.le_refl _) hf.2 (by rw [hp]; exact hh) hr
  rw [hp] at h1
  have h2 := h1.rq (h := h) (l := List.range h.length) (nodupB_range h.length) (by
    apply List.ext_getElem?
    intro i
    rw [List.getElem?_map, List.getElem?_map]
    by_cases hi : i < h.length
    · rw [List.getElem?_range hi, List.getElem?_eq_getElem hi]
      simp only [Option.map_some]
      rw [List.getElem?_eq_getElem hi, blk_ren_range (List.all_eq_true.1 hh _ (List.getElem_mem hi))]
    · rw [List.getElem?_eq_none (by simpa using hi), List.getElem?_eq_none (by omega)]; rfl) (by rw [ha, hh, hr]; rfl) e
  rw [ren_range hr] at h2
  have ea : args.map (AV.ren (rn (List.range h.length) 0)) = args := (List.map_congr_left fun x hx => ren_range (List.all_eq_true.1 ha x hx)).trans (List.map_id _)
  rw [ea] at h2
  exact h2
theorem xCall_ok (hP : NoGor P) (hm : MemoOK P memo) (hr : RunOK P run) (hF : FrmR run) {dr : Bool} {g : FuncId} {args : List AV} {h h' : List Blk} {r : AV} (e : xCall run P memo lo dr g args h = some (r, h')) :
    ACalls P g args h (fun r1 h1 => r1 = r ∧ h1 = h') ∧ (dr = true → h' = h ∧ ∀ e, ACalls P g args (h ++ e) fun r1 h1 => r1 = r ∧ h1 = h ++ e) := by
  unfold xCall at e
  rcases bif_or e with ⟨hp, e⟩ | ⟨_, e⟩
  · split at e
    · next r0 e1 =>
      obtain ⟨hb, he⟩ := bif_some e
      cases he
      have h0 := xPure_ok hP hm hr e1
      rw [Bool.and_eq_true] at hp
      exact ⟨h0.use hp.1 hb ⟨rfl, rfl⟩, fun _ => ⟨rfl, fun e => h0.use hp.1 hb ⟨rfl, rfl⟩⟩⟩
    · cases e
  · rcases bif_or e with ⟨hd, e⟩ | ⟨hd, e⟩
    · obtain ⟨hb, e⟩ := bif_pos e
      rw [Bool.and_eq_true] at hb
      split at e
      · next r0 h0 e1 =>
        obtain ⟨hl, he⟩ := bif_some e
        cases he
        have k := quiet_ok (xBody_ok hP hr e1) (xBody_frm hF e1 (Nat.le_refl _)) hb.1 hb.2 hl
        refine ⟨?_, fun _ => ⟨rfl, k⟩⟩
        have := k []
        rw [List.append_nil] at this
        exact this
      · cases e
    · exact ⟨xBody_ok hP hr e, fun h => by rw [hd] at h; cases h⟩
theorem xYield_ok (hr : RunOK P run) {o : Oper} {K : St → Prop} {k : Nat} {x : AV} {b : Bool} {h' : List Blk} (e : xYield run lo k x s.h = some (b, h')) (hK : K ((s.wh h').put o.dst (.d (.v (.bool b))))) :
    ∃ p as bd cs, s.h[k]? = some (.lp .ready p as bd cs) ∧ p < cs.length ∧ ∀ (l N0 : Nat), AWp P (some l) N0 as (AThen (fun s1 => ∃ p1 as1 bd1 cs1, s1.h[k]? = some (.lp .ready p1 as1 bd1 cs1) ∧ AWp P (some l) N0 bd (roundQ o K s k) ⟨s1.n, s1.t, s1.h.set k (.lp .busy p1 as1 bd1 cs1)⟩) (fun _ _ => False)) ⟨cs.length, (p, x) :: enumT 0 cs, s.h⟩ := by
  unfold xYield at e
  obtain ⟨_, e⟩ := bif_pos e
  split at e
  · next p as bd cs hk =>
    obtain ⟨hp, e⟩ := bif_pos e
    rw [leB_iff] at hp
    refine ⟨p, as, bd, cs, hk, hp, fun l N0 => ?_⟩
    split at e
    · next s1 e1 =>
      refine hr _ _ _ _ _ _ e1 _ _ _ (fun h => Bool.noConfusion h) ?_
      split at e
      · next p1 as1 bd1 cs1 hk1 =>
        split at e
        · next ee s2 e2 =>
          refine ⟨p1, as1, bd1, cs1, hk1, hr _ _ _ _ _ _ e2 _ _ _ (fun h => Bool.noConfusion h) ?_⟩
          split at e
          · next p2 as2 bd2 cs2 hk2 =>
            split at e
            · cases e; exact ⟨p2, as2, bd2, cs2, hk2, hK⟩
            · cases e; exact ⟨p2, as2, bd2, cs2, hk2, hK⟩
            · cases e; exact ⟨p2, as2, bd2, cs2, hk2, hK⟩
          · cases e
        · cases e
      · cases e
    · cases e
  · cases e
theorem xStep_ok (hP : NoGor P) (hm : MemoOK P memo) (hr : RunOK P run) (hF : FrmR run) {dr : Bool} {o : Oper} {K : St → Prop} (e : xStep run P memo lo dr o s = some s') (hK : K s') : aopB P dr o K s := by
  have plain : xPlain P lo dr o s = some s' → aop P o K s ∨ (dr = false ∧ (aopV P o K s ∨ aopZ P o K s ∨ aNil P o K s)) := fun e' => by
    unfold xPlain at e'
    split at e'
    · next r e0 =>
      obtain ⟨x, h, e1, rfl⟩ := xPut_some e'
      obtain ⟨d, e2, hd, rfl⟩ := xHD_some e1
      cases e2
      exact .inl (xop_sound e0 hK)
    · rcases bif_or e' with ⟨_, e'⟩ | ⟨hd0, e'⟩
      · cases e'
      · split at e'
        · next r e0 =>
          obtain ⟨x, h, e1, rfl⟩ := xPut_some e'
          obtain ⟨d, e2, hd, rfl⟩ := xHD_some e1
          cases e2
          obtain ⟨a, p, k1, k2⟩ := xopV_sound e0
          exact .inr ⟨hd0, .inl ⟨a, x, _, p, k1, k2, hK⟩⟩
        · split at e'
          · next e0 =>
            rw [hSpine_eq] at e'
            obtain ⟨x, h, e1, rfl⟩ := xPut_some e'
            cases e1
            exact .inr ⟨hd0, .inr (.inl ⟨_, _, .inl e0, hK⟩)⟩
          · split at e'
            · next e0 =>
              obtain ⟨x, h, e1, rfl⟩ := xPut_some e'
              cases e1
              refine .inr ⟨hd0, .inr (.inr ?_)⟩
              unfold xNil at e0
              unfold aNil
              split at e0
              · next ho =>
                split at e0
                · next a1 a2 a3 a4 a5 =>
                  cases e0
                  simp only [ho, a1, a2, a3, a4, a5]
                  exact ⟨(fun h => nomatch h), hK⟩
                · cases e0
              · cases e0
            · split at e'
              · next e0 =>
                rw [hSpine_eq] at e'
                obtain ⟨x, h, e1, rfl⟩ := xPut_some e'
                cases e1
                exact .inr ⟨hd0, .inr (.inl ⟨_, _, .inr ⟨_, e0⟩, hK⟩)⟩
              · cases e'
  have plainD : dr = true → xPlain P lo dr o s = some s' → aop P o K s := fun h e' => (plain e').elim id fun k => by rw [h] at k; cases k.1
  have plainN : xPlain P lo dr o s = some s' → aopN P o K s := fun e' => (plain e').elim (fun k => .inr (.inr (.inl k))) fun k => k.2.elim .inl fun k => k.elim (fun k => .inr (.inr (.inr (.inr k)))) fun k => .inr (.inl k)
  unfold xStep at e
  split at e
  · next c hop =>
    split at e
    · next f hc =>
      split at e
      · next g caps hf =>
        obtain ⟨x, h, e1, rfl⟩ := xPut_some e
        obtain ⟨k1, k2⟩ := xCall_ok hP hm hr hF e1
        cases dr with
        | true =>
          obtain ⟨rfl, k⟩ := k2 rfl
          show aopD P o K s
          unfold aopD
          simp only [hop, hc, hf]
          exact ⟨x, hK, k⟩
        | false =>
          refine .inr (.inr (.inl ?_))
          unfold aop aopC
          simp only [hop, hc, hf]
          exact k1.mono fun r1 h1 ⟨a1, a2⟩ => by subst a1; subst a2; exact hK
      · next g cs hf =>
        obtain ⟨x, h, e1, rfl⟩ := xPut_some e
        obtain ⟨k1, k2⟩ := xCall_ok hP hm hr hF e1
        cases dr with
        | true =>
          obtain ⟨rfl, k⟩ := k2 rfl
          show aopD P o K s
          unfold aopD
          simp only [hop, hc, hf]
          exact ⟨g, cs, rfl, x, hK, k⟩
        | false =>
          refine .inr (.inr (.inl ?_))
          unfold aop aopC
          simp only [hop, hc, hf]
          exact ⟨g, cs, rfl, k1.mono fun r1 h1 ⟨a1, a2⟩ => by subst a1; subst a2; exact hK⟩
      · next k hf =>
        rcases bif_or e with ⟨_, e⟩ | ⟨hd, e⟩
        · cases e
        · split at e
          · next x hx =>
            split at e
            · next b h0 e0 =>
              rw [hSpine_eq] at e
              obtain ⟨x', h', e1, rfl⟩ := xPut_some e
              cases e1
              subst hd
              refine .inr (.inr (.inr (.inl ?_)))
              unfold aopY
              simp only [hop, hc, hf, hx]
              exact xYield_ok hr e0 hK
            · cases e
          · cases e
      · cases e
    · next hnc =>
      cases dr with
      | true =>
        show aopD P o K s
        unfold aopD
        simp only [hop]
        exact plainD rfl e
      | false => exact plainN e
  · next hop =>
    cases dr with
    | true =>
      show aopD P o K s
      unfold aopD
      split
      · next c hc => exact (hop c hc).elim
      · exact plainD rfl e
    | false => exact plainN e
theorem xG_ok (hP : NoGor P) (hm : MemoOK P memo) (hr : RunOK P run) (hF : FrmR run) {dr : Bool} {ops : Array Oper} {o : Oper} {K : St → Prop} (e : xG run P memo lo dr ops o s = some s') (hK : K s') : aGuard ops o s (aopB P dr o K s) (K (s.put o.dst (.d (.v undef)))) := by
  unfold xG at e
  unfold aGuard
  split at e
  · next hg => simp only [hg]; exact xStep_ok hP hm hr hF e hK
  · next j want hg =>
    simp only [hg]
    split at e
    · next d hd =>
      simp only [hd]
      split at e
      · next b hb =>
        simp only [hb]
        rcases bif_or e with ⟨h1, e⟩ | ⟨h1, e⟩
        · have hbw : b = want := by simpa using h1
          exact ⟨fun _ => xStep_ok hP hm hr hF e hK, fun h2 => by subst hbw; cases b <;> cases h2⟩
        · have hbw : b ≠ want := by simpa using h1
          cases e
          exact ⟨fun h2 => (hbw h2).elim, fun _ => hK⟩
      · next hb => simp only [hb]; cases e; exact hK
      · cases e
    · cases e
theorem xOps_ok (hP : NoGor P) (hm : MemoOK P memo) (hr : RunOK P run) (hF : FrmR run) {dr : Bool} {ops : Array Oper} {K : St → Prop} : ∀ (l : List Oper) (s s' : St), xOps run P memo lo dr ops l s = some s' → K s' → (bif dr then aDraw P ops l K s else aOps P ops l K s)
  | [], s, s', e, hK => by cases e; cases dr <;> exact hK
  | o :: l, s, s', e, hK => by
    unfold xOps at e
    split at e
    · next s1 e1 =>
      have h2 := xOps_ok hP hm hr hF (dr := dr) (ops := ops) l s1 s' e hK
      cases dr with
      | true => exact xG_ok (K := aDraw P ops l K) hP hm hr hF e1 h2
      | false => exact xG_ok (K := aOps P ops l K) hP hm hr hF e1 h2
    · cases e
end
theorem exec_ok {P : Program} {memo : Memo} (hx : P.follows .mixedOrders = true) (hP : NoGor P) (hm : MemoOK P memo) : ∀ n, RunOK P (exec P memo n) := by
  intro n
  induction n using Nat.strongRecOn with
  | _ n IH =>
  cases n with
  | zero => intro fl lo c s e s' h; cases h
  | succ n =>
    have ih := IH n (Nat.lt_succ_self n)
    intro fl lo c s e s' h r N0 Q hfl hQ
    have h0 := h
    rw [exec_succ] at h
    unfold xCode at h
    split at h
    · cases h; exact aw_skip hQ
    · next id ops draw =>
      rcases bif_or h with ⟨hd, h⟩ | ⟨hd, h⟩
      · obtain ⟨hl, h⟩ := bif_pos h
        obtain ⟨h1, rfl⟩ := exN_some h
        subst hd
        have := aw_draw (P := P) (r := r) (N0 := N0) (Q := Q) (s := s) (id := id) (l := ops.toList) hx (by simpa using hl) (by
          have := xOps_ok hP hm ih (exec_frm n) (dr := true) (ops := ops) (K := Q .normal) _ _ _ h1 hQ
          simpa using this)
        simpa using this
      · obtain ⟨h1, rfl⟩ := exN_some h
        subst hd
        exact aw_region (xOps_ok hP hm ih (exec_frm n) (dr := false) (ops := ops) (K := Q .normal) _ _ _ h1 hQ)
    · refine aw_seq ?_
      split at h
      · next s1 e1 => exact ih _ _ _ _ _ _ e1 _ _ _ hfl (show AWp P r N0 _ Q s1 from ih _ _ _ _ _ _ h _ _ _ hfl hQ)
      · next s1 e1 => cases h; exact ih _ _ _ _ _ _ e1 _ _ _ hfl hQ
      · next s1 e1 => cases h; exact ih _ _ _ _ _ _ e1 _ _ _ hfl hQ
      · cases h
    · split at h
      · next b hb =>
        rcases bif_or h with ⟨ht, h⟩ | ⟨ht, h⟩
        · subst ht; exact aw_cond_t hb (ih _ _ _ _ _ _ h _ _ _ hfl hQ)
        · subst ht; exact aw_cond_f hb (ih _ _ _ _ _ _ h _ _ _ hfl hQ)
      · cases h
    · refine aw_block ?_
      split at h
      · next i s1 e1 =>
        rcases bif_or h with ⟨ht, h⟩ | ⟨ht, h⟩
        · cases h; exact ih _ _ _ _ _ _ e1 _ _ _ hfl (ab_y ht hQ)
        · cases h; exact ih _ _ _ _ _ _ e1 _ _ _ hfl (ab_x ht hQ)
      · next s1 e1 => cases h; exact ih _ _ _ _ _ _ e1 _ _ _ hfl hQ
      · next s1 e1 => cases h; exact ih _ _ _ _ _ _ e1 _ _ _ hfl hQ
      · cases h
    · cases h; exact aw_exit hQ
    · cases h; exact aw_ret hQ
    · next b =>
      clear h ih
      constructor
      intro G w a m hs hN
      refine wpIn_loop_ghost (fun (i : Nat) a' w' => ∃ G' s1, i < n + 1 ∧ exec P memo (i + 1) fl lo (.loop b) s1 = some (e, s') ∧ Ext N0 G w G' w' ∧ N0 ≤ G'.N ∧ Sat G' w' a' s1) id n ⟨G, s, Nat.lt_succ_self n, h0, Ext.refl _ _ _, hN, hs⟩ ?_
      rintro i a' w' ⟨G', s1, hi, h1, hE, hN', hs'⟩
      rw [exec_succ] at h1
      unfold xCode at h1
      have ihi := IH i hi
      refine wpIn_mono ((AWp.run (Q := fun e1 s2 => (e1 = .normal ∧ ∃ i' s3, i' < i ∧ exec P memo (i' + 1) fl lo (.loop b) s3 = some (e, s') ∧ s3.n = s2.n ∧ s3.h = s2.h ∧ ∀ j, tget s3.t j = tget s2.t j ∨ tget s3.t j = .dead) ∨ (e1 ≠ .normal ∧ Q e1 s2)) ?_) G' w' a' m hs' hN') fun e1 a2 w2 hn => ?_
      · simp only at h1
        split at h1
        · next s2 e2 =>
          refine ihi _ _ _ _ _ _ e2 _ _ _ hfl (.inl ⟨rfl, ?_⟩)
          obtain ⟨l', h2, h3⟩ := ddupK_spec s2.t 0 fun t => exec P memo i fl lo (.loop b) ⟨s2.n, t, s2.h⟩
          rw [fNat_eq, h2] at h1
          cases i with
          | zero => cases h1
          | succ i' => exact ⟨i', _, Nat.lt_succ_self _, h1, rfl, rfl, fun j => .inl (by show tget l' j = _; rw [h3]; simp)⟩
        · next s2 e2 => cases h1; exact ihi _ _ _ _ _ _ e2 _ _ _ hfl (.inr ⟨(by intro h; cases h), hQ⟩)
        · next s2 e2 => cases h1; exact ihi _ _ _ _ _ _ e2 _ _ _ hfl (.inr ⟨(by intro h; cases h), hQ⟩)
        · cases h1
      · obtain ⟨G2, s2, hE2, hN2, hs2, hq⟩ := hn
        rcases hq with ⟨rfl, i', s3, hlt, h3, e1, e2, e3⟩ | ⟨hne, hq⟩
        · exact ⟨i', ⟨G2, s3, Nat.lt_trans hlt hi, h3, hE.trans hE2, hN2, hs2.less e1 e2 e3⟩, hlt⟩
        · cases e1 with
          | normal => exact (hne rfl).elim
          | _ => exact ⟨G2, s2, hE.trans hE2, hN2, hs2, hq⟩
    · next g ps assign body =>
      obtain ⟨hf, h5⟩ := bif_pos h
      clear h0 h
      revert h5
      intro h
      have hr0 := hfl hf
      subst hr0

      split at h
      · next p gf caps hps hg =>
        have hps2 : ps = #[p] := by
          have := congrArg List.toArray hps
          simpa using this
        subst hps2
        split at h
        · next r1 h1 e1 =>
          have hc := (xBody_ok hP ih e1).mono fun _ _ hk => hk.2
          split at h
          · next ls p1 as1 bd1 cs1 hk =>
            refine aw_rangeFunc hg hc hk ?_
            split at h
            · rw [hSpine_eq] at h; cases h; exact hQ
            · rw [hSpine_eq] at h; cases h; exact aw_ret hQ
            · rw [hSpine_eq] at h; cases h; exact aw_exit hQ
            · cases h
          · cases h
        · cases h
      · cases h
    · cases h
/-- A CLOSED CALL, WORKED OUT -/
theorem afn_run {P : Program} {memo : Memo} (hx : P.follows .mixedOrders = true) (hP : NoGor P) (hm : MemoOK P memo) (n : Nat) {g : FuncId} {args : List AV} {r : AV} (e : xPure (exec P memo n) P memo g args = some r) : AFn P g args (· = r) :=
  xPure_ok hP hm (exec_ok hx hP hm n) e
def memo0 : Memo := fun _ _ => none
theorem memo0_ok (P : Program) : MemoOK P memo0 := fun _ _ _ h => by cases h
end Go.Proofs.YtaiihhogoogkmaaGreatDoor
