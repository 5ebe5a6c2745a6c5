/-
  A region that draws its order, in the small language: one walk in the order of the text serves every order.
-/
import Derived.Test.YtaiihhogoogkmaaGreatDoorAbsWalk
namespace Go.Proofs.YtaiihhogoogkmaaGreatDoor
open Go.RowKit

def kindOf (o : Oper) : Nat :=
  match o.op with
  | .move _ | .assign _ | .pick .. | .nilCheck _ | .fieldAddr .. | .field .. | .indexAddr .. | .index .. | .build .. | .buildSlice .. | .slice .. | .extract .. | .makeFunc .. | .binOp .. | .unOp .. | .convert .. => 0
  | .load .. | .lookup .. => 1
  | .alloc _ | .box .. => 2
  | .store .. | .makeMap .. | .mapUpdate .. => 3
  | .call c => match c.callee with
    | .builtin .len | .builtin .max | .builtin .min => 0
    | .builtin .append => 5
    | .value _ => 4
    | _ => 9
  | _ => 9
/-- a call that computes -/
def QCall (P : Program) (g : FuncId) (args : List AV) (h : List Blk) (C : AV → Prop) : Prop := ∃ r, C r ∧ ∀ e, ACalls P g args (h ++ e) fun r' h' => r' = r ∧ h' = h ++ e
def aopD (P : Program) (o : Oper) (K : St → Prop) (s : St) : Prop :=
  match o.op with
  | .call c => match c.callee with
    | .value f => match ev s f with
      | .fn g caps => QCall P g (c.args.toList.map (ev s) ++ caps) s.h fun r => K (s.put o.dst r)
      | .hid q => ∃ g cs, q = .fn g cs ∧ QCall P g (c.args.toList.map (ev s) ++ cs.map Cap.av) s.h fun r => K (s.put o.dst r)
      | _ => False
    | _ => aop P o K s
  | _ => aop P o K s
def aDraw (P : Program) (ops : Array Oper) : List Oper → (St → Prop) → St → Prop
  | [], K, s => K s
  | o :: rest, K, s => aGuard ops o s (aopD P o (aDraw P ops rest K) s) (aDraw P ops rest K (s.put o.dst (.d (.v undef))))

section
variable {P : Program} {o : Oper} {ρ ρ' : Operand → AV} {h : List Blk} {C : AV → List Blk → Prop}

theorem optInt_congr (x : Option Operand) (hx : ∀ y ∈ x.toArray, ρ y = ρ' y) (d : Nat) (F : Nat → Prop) : optInt ρ x d F = optInt ρ' x d F := by
  cases x with
  | none => rfl
  | some y => simp only [optInt, hx y (by simp)]
theorem aopC_congr (hρ : ∀ x ∈ o.op.operands, ρ x = ρ' x) : aopC P o ρ h C = aopC P o ρ' h C := by
  obtain ⟨dst, op, type, pos, after, guard⟩ := o
  have pairs : ∀ ps : Array (Nat × Operand), (∀ x ∈ ps.map (·.2), ρ x = ρ' x) → (ps.toList.map fun p => (p.1, ρ p.2)) = (ps.toList.map fun p => (p.1, ρ' p.2)) := fun ps hp =>
    List.map_congr_left fun p hm => by rw [hp p.2 (Array.mem_map.2 ⟨p, Array.mem_toList_iff.1 hm, rfl⟩)]
  have lst : ∀ l : Array Operand, (∀ x ∈ l, ρ x = ρ' x) → l.toList.map ρ = l.toList.map ρ' := fun l hl => List.map_congr_left fun x hm => hl x (Array.mem_toList_iff.1 hm)
  cases op with
  | build t ps => simp only [aopC, pairs ps fun x hx => hρ x (by simpa [Op.operands] using hx)]
  | buildSlice t n ps => simp only [aopC, pairs ps fun x hx => hρ x (by simpa [Op.operands] using hx)]
  | makeFunc fn first captured =>
    cases fn with
    | func f => simp only [aopC, lst captured fun x hx => hρ x (by simp [Op.operands, hx])]
    | _ => rfl
  | slice t x lo hi mx =>
    have e1 : ρ x = ρ' x := hρ x (by simp [Op.operands])
    have e2 := fun d F => optInt_congr (ρ := ρ) (ρ' := ρ') lo (fun y hy => hρ y (by simp at hy; simp [Op.operands, hy])) d F
    have e3 := fun d F => optInt_congr (ρ := ρ) (ρ' := ρ') hi (fun y hy => hρ y (by simp at hy; simp [Op.operands, hy])) d F
    have e4 := fun d F => optInt_congr (ρ := ρ) (ρ' := ρ') mx (fun y hy => hρ y (by simp at hy; simp [Op.operands, hy])) d F
    cases lo <;> cases hi <;> cases mx <;> simp only [aopC, aSlice, e1, e2, e3, e4]
  | call c =>
    have ha : c.args.toList.map ρ = c.args.toList.map ρ' := lst c.args fun x hx => hρ x (by simp [Op.operands, Call.operands, hx])
    have hm : ∀ x, x ∈ c.args.toList → ρ x = ρ' x := fun x hx => hρ x (by simp [Op.operands, Call.operands]; right; exact Array.mem_toList_iff.1 hx)
    cases hc : c.callee with
    | value f =>
      have hf : ρ f = ρ' f := hρ f (by simp [Op.operands, Call.operands, hc])
      simp only [aopC, hc, hf, ha]
    | invoke => simp only [aopC, hc]
    | builtin b =>
      cases b with
      | len =>
        simp only [aopC, hc]
        split
        · rename_i x _ heq _
          rw [hm x (by rw [heq]; simp)]
        · rfl
      | append =>
        simp only [aopC, hc]
        split
        · rename_i x y _ _ heq _
          rw [hm x (by rw [heq]; simp), hm y (by rw [heq]; simp)]
        · rfl
      | max => simp only [aopC, hc, ha]
      | min => simp only [aopC, hc, ha]
      | _ => simp only [aopC, hc]
  | makeMap t r => cases r <;> rfl
  | lookup t a b ok => simp only [aopC, opX, hρ a (by simp [Op.operands]), hρ b (by simp [Op.operands])]
  | mapUpdate t a b c => simp only [aopC, opX, hρ a (by simp [Op.operands]), hρ b (by simp [Op.operands]), hρ c (by simp [Op.operands])]
  | pick c a b => simp only [aopC, hρ c (by simp [Op.operands]), hρ a (by simp [Op.operands]), hρ b (by simp [Op.operands])]
  | store t a b => simp only [aopC, hρ a (by simp [Op.operands]), hρ b (by simp [Op.operands])]
  | binOp op t a b u => simp only [aopC, hρ a (by simp [Op.operands]), hρ b (by simp [Op.operands])]
  | indexAddr t a b => simp only [aopC, hρ a (by simp [Op.operands]), hρ b (by simp [Op.operands])]
  | index t a b => simp only [aopC, hρ a (by simp [Op.operands]), hρ b (by simp [Op.operands])]
  | move a | assign a | box t a | load t a | nilCheck a | fieldAddr t a f | field t a f | extract a i | unOp op t a | convert t u a => simp only [aopC, hρ a (by simp [Op.operands])]
  | _ => rfl
end

/-- the blocks of cells lie there too -/
def isCM : Blk → Bool
  | .cells _ | .map _ => true
  | _ => false
def CellsIn (h h' : List Blk) : Prop := ∀ (n : Nat) (B : Blk), h[n]? = some B → isCM B = true → h'[n]? = some B
theorem CellsIn.app (h e : List Blk) : CellsIn h (h ++ e) := fun n cs hn _ => by
  rw [List.getElem?_append_left (List.getElem?_eq_some_iff.1 hn).1]; exact hn
theorem CellsIn.refl (h : List Blk) : CellsIn h h := fun _ _ hn _ => hn
theorem opX_lookup_ext {P : Program} {ρ : Operand → AV} {h h1 : List Blk} {T : TypeId} {m i : Operand} {ok : Bool} {x : AV} {p : Sd} (hx : opX P (.lookup T m i ok) ρ h = some (x, h1, p)) : h1 = h ∧ ∀ h', CellsIn h h' → opX P (.lookup T m i ok) ρ h' = some (x, h', p) := by
  simp only [opX] at hx ⊢
  split at hx
  · next k e hT =>
    split at hx
    · next z hz =>
      split at hx
      · next b s' hm hi =>
        split at hx
        · next kv hn =>
          cases hc : strT P k && z.oneCell' with
          | false => rw [hc] at hx; cases hx
          | true =>
            rw [hc] at hx
            cases hx
            refine ⟨rfl, fun h' hh => ?_⟩
            rw [hh b _ hn rfl]
            simp only [cond_true]
        · cases hx
      · cases hx
    · cases hx
  · cases hx
/-! ### what an operation yields, by its kind -/
def OutC (P : Program) (o : Oper) (ρ : Operand → AV) (h : List Blk) (x : AV) (h1 : List Blk) : Prop :=
  match kindOf o with
  | 0 => h1 = h ∧ ∀ h' (C : AV → List Blk → Prop), C x h' → aopC P o ρ h' C
  | 1 => h1 = h ∧ ∀ h', CellsIn h h' → ∀ C : AV → List Blk → Prop, C x h' → aopC P o ρ h' C
  | 2 => ∃ B, x = .ptr h.length 0 ∧ h1 = h ++ [B] ∧ ∀ h' (C : AV → List Blk → Prop), C (.ptr h'.length 0) (h' ++ [B]) → aopC P o ρ h' C
  | 3 => ∀ C : AV → List Blk → Prop, C x h1 → aopC P o ρ h C
  | 4 => h1 = h ∧ ∀ e (C : AV → List Blk → Prop), C x (h ++ e) → aopC P o ρ (h ++ e) C
  | 5 => CellsIn h h1 ∧ CellsIn h1 h ∧ ∀ C : AV → List Blk → Prop, C x h1 → aopC P o ρ h C
  | _ => False
section
variable {P : Program} {o : Oper} {ρ ρ' : Operand → AV} {h : List Blk} {C : AV → List Blk → Prop}
theorem chk_of {b : Bool} {p q : Prop} (h : chk b p) (hpq : p → q) : chk b q := by
  rw [chk_iff] at h ⊢; exact ⟨h.1, hpq h.2⟩
theorem atPtr_ext {p : AV} {K : List AV → Nat → Prop} (hp : atPtr h p K) : ∃ cs off, K cs off ∧ ∀ h', CellsIn h h' → ∀ K' : List AV → Nat → Prop, K' cs off → atPtr h' p K' := by
  unfold atPtr at hp ⊢
  split at hp
  · rename_i n off
    split at hp
    · rename_i cs hcs
      refine ⟨cs, off, hp, fun h' hh K' hk => ?_⟩
      rw [hh n _ hcs rfl]; exact hk
    · exact hp.elim
  · rename_i xs i off
    split at hp
    · rename_i cs hcs
      refine ⟨_, off, hp, fun h' _ K' hk => ?_⟩
      exact hk
    · exact hp.elim
  · exact hp.elim
theorem aLoad_ext {t : Nat} {p : AV} {K : AV → Prop} (hp : aLoad P t h p K) : ∃ x, K x ∧ ∀ h', CellsIn h h' → ∀ K' : AV → Prop, K' x → aLoad P t h' p K' := by
  unfold aLoad at hp ⊢
  obtain ⟨cs, off, h1, h2⟩ := atPtr_ext hp
  split at h1
  · rw [chk_iff] at h1
    refine ⟨_, h1.2, fun h' hh K' hk' => h2 h' hh _ ?_⟩
    exact chk_iff.2 ⟨h1.1, hk'⟩
  · split at h1
    · rename_i c hc
      refine ⟨c, h1, fun h' hh K' hk' => h2 h' hh _ ?_⟩
      simp only [hc]
      exact hk'
    · exact h1.elim
  · exact h1.elim
theorem optInt_lin {x : Option Operand} {d : Nat} {F : Nat → Prop} (hx : optInt ρ x d F) : ∃ m, F m ∧ ∀ F' : Nat → Prop, F' m → optInt ρ x d F' := by
  cases x with
  | none => exact ⟨d, hx, fun _ h => h⟩
  | some y =>
    simp only [optInt] at hx
    split at hx
    · rename_i z hz
      exact ⟨_, hx.2, fun F' hF => by simp only [optInt, hz]; exact ⟨hx.1, hF⟩⟩
    · exact hx.elim
/-- values and tests alone: whatever the blocks -/
theorem out_pure (hk : kindOf o = 0) (hc : aopC P o ρ h C) : ∃ x, C x h ∧ ∀ h' (C' : AV → List Blk → Prop), C' x h' → aopC P o ρ h' C' := by
  have viaK : ∀ (F : (AV → Prop) → Prop), (∀ K, F K → ∃ x, K x ∧ ∀ K', K' x → F K') → F (fun x => C x h) → (∀ h' C', aopC P o ρ h' C' = F (fun x => C' x h')) → ∃ x, C x h ∧ ∀ h' (C' : AV → List Blk → Prop), C' x h' → aopC P o ρ h' C' := fun F hF h0 he => by
    obtain ⟨x, h1, h2⟩ := hF _ h0
    exact ⟨x, h1, fun h' C' hC' => by rw [he]; exact h2 _ hC'⟩
  obtain ⟨dst, op, type, pos, after, guard⟩ := o
  cases op with
  | move a => exact ⟨ρ a, hc, fun _ _ h => h⟩
  | assign a => exact ⟨ρ a, hc, fun _ _ h => h⟩
  | pick c a b =>
    simp only [aopC] at hc
    split at hc
    · rename_i t ht
      cases t with
      | true => exact ⟨ρ a, hc.1 rfl, fun h' C' hC' => by simp only [aopC, ht]; exact ⟨fun _ => hC', fun e => by cases e⟩⟩
      | false => exact ⟨ρ b, hc.2 rfl, fun h' C' hC' => by simp only [aopC, ht]; exact ⟨fun e => (by cases e), fun _ => hC'⟩⟩
    · exact hc.elim
  | nilCheck a =>
    simp only [aopC] at hc
    split at hc
    · rename_i m off e; exact ⟨_, hc, fun h' C' hC' => by simp only [aopC, e]; exact hC'⟩
    · rename_i xs i off e; exact ⟨_, hc, fun h' C' hC' => by simp only [aopC, e]; exact hC'⟩
    · rename_i f cs e; exact ⟨_, hc, fun h' C' hC' => by simp only [aopC, e]; exact hC'⟩
    · exact hc.elim
  | fieldAddr t a f =>
    simp only [aopC] at hc
    split at hc
    · rename_i fo k g hf
      split at hc
      · rename_i m off e; exact ⟨_, hc, fun h' C' hC' => by simp only [aopC, hf, e]; exact hC'⟩
      · rename_i xs i off e; exact ⟨_, hc, fun h' C' hC' => by simp only [aopC, hf, e]; exact hC'⟩
      · exact hc.elim
    · exact hc.elim
  | field t a f =>
    refine viaK (aField P t (ρ a) f) (fun K hK => ?_) hc (fun _ _ => rfl)
    unfold aField at hK ⊢
    split at hK
    · rw [chk_iff] at hK
      exact ⟨_, hK.2, fun K' hK' => chk_iff.2 ⟨hK.1, hK'⟩⟩
    · split at hK
      · rename_i c hc'; exact ⟨c, hK, fun K' hK' => hK'⟩
      · exact hK.elim
    · exact hK.elim
  | indexAddr t a b =>
    refine viaK (aIndexAddr P t (ρ a) (ρ b)) (fun K hK => ?_) hc (fun _ _ => rfl)
    unfold aIndexAddr at hK ⊢
    split at hK
    · rename_i e k hT
      split at hK
      · rename_i n off len cap k'
        split at hK
        · rename_i z hz
          rw [chk_iff] at hK
          obtain ⟨h1, h2, h3, h4⟩ := hK
          exact ⟨_, h4, fun K' hK' => chk_iff.2 ⟨h1, h2, h3, hK'⟩⟩
        · exact hK.elim
      · split at hK
        · rename_i xs z hxs hz
          obtain ⟨h0, hK⟩ := hK
          split at hK
          · rename_i c hc'
            exact ⟨_, hK.2, fun K' hK' => ⟨h0, hK.1, hK'⟩⟩
          · exact hK.elim
        · exact hK.elim
    · split at hK
      · rename_i n e k b' off z hT hz
        obtain ⟨h1, h2, h3⟩ := hK
        exact ⟨_, h3, fun K' hK' => ⟨h1, h2, hK'⟩⟩
      · rename_i n e k xs i' off z hT hz
        rw [chk_iff] at hK
        obtain ⟨h0, h1, h2, h3⟩ := hK
        split at h3
        · rename_i c hc'
          split at h3
          · rename_i d hd
            exact ⟨_, h3, fun K' hK' => chk_iff.2 ⟨h0, h1, h2, hK'⟩⟩
          · exact h3.elim
        · exact h3.elim
      · exact hK.elim
  | index t a b =>
    simp only [aopC] at hc
    split at hc
    · rename_i bb z e1 e2
      rw [chk_iff] at hc
      obtain ⟨h1, h2, h3⟩ := hc
      split at h3
      · rename_i c hc'
        exact ⟨_, h3, fun h' C' hC' => by simp only [aopC, e1, e2]; exact chk_iff.2 ⟨h1, h2, by simp only [hc']; exact hC'⟩⟩
      · exact h3.elim
    · exact hc.elim
  | build t ps =>
    refine viaK (aBuild P t (ps.toList.map fun p : Nat × Operand => (p.1, ρ p.2))) (fun K hK => ?_) hc (fun _ _ => rfl)
    unfold aBuild at hK ⊢
    split at hK
    · split at hK
      · rename_i cs hcs
        rw [chk_iff] at hK
        exact ⟨_, hK.2, fun K' hK' => chk_iff.2 ⟨hK.1, hK'⟩⟩
      · exact hK.elim
    · exact hK.elim
  | buildSlice t n ps =>
    refine viaK (aBuildSlice P t n (ps.toList.map fun p : Nat × Operand => (p.1, ρ p.2))) (fun K hK => ?_) hc (fun _ _ => rfl)
    unfold aBuildSlice at hK ⊢
    split at hK
    · split at hK
      · split at hK
        · rename_i cs hcs
          split at hK
          · rename_i ds hds
            rw [chk_iff] at hK
            exact ⟨_, hK.2, fun K' hK' => chk_iff.2 ⟨hK.1, hK'⟩⟩
          · exact hK.elim
        · exact hK.elim
      · exact hK.elim
    · exact hK.elim
  | slice t a lo hi mx =>
    refine viaK (aSlice P t ρ (ρ a) lo hi mx) (fun K hK => ?_) hc (fun _ _ => rfl)
    unfold aSlice at hK ⊢
    split at hK
    · split at hK
      · rw [chk_iff] at hK
        obtain ⟨h0, hK⟩ := hK
        obtain ⟨m1, hK, j1⟩ := optInt_lin hK
        obtain ⟨h1, hK⟩ := hK
        obtain ⟨m2, hK, j2⟩ := optInt_lin hK
        obtain ⟨h2, hK⟩ := hK
        exact ⟨_, hK, fun K' hK' => chk_iff.2 ⟨h0, j1 _ ⟨h1, j2 _ ⟨h2, hK'⟩⟩⟩⟩
      · split at hK
        · rw [chk_iff] at hK
          obtain ⟨h0, hK⟩ := hK
          obtain ⟨m1, hK, j1⟩ := optInt_lin hK
          rw [chk_iff] at hK
          obtain ⟨h1, hK⟩ := hK
          obtain ⟨m2, hK, j2⟩ := optInt_lin hK
          rw [chk_iff] at hK
          obtain ⟨h2, hK⟩ := hK
          exact ⟨_, hK, fun K' hK' => by rw [chk_iff]; exact ⟨h0, j1 _ (by rw [chk_iff]; exact ⟨h1, j2 _ (by rw [chk_iff]; exact ⟨h2, hK'⟩)⟩)⟩⟩
        · exact hK.elim
      · split at hK
        · obtain ⟨h0, hK⟩ := hK
          obtain ⟨m1, hK, j1⟩ := optInt_lin hK
          obtain ⟨h1, hK⟩ := hK
          obtain ⟨m2, hK, j2⟩ := optInt_lin hK
          obtain ⟨h2, hK⟩ := hK
          exact ⟨_, hK, fun K' hK' => ⟨h0, j1 _ ⟨h1, j2 _ ⟨h2, hK'⟩⟩⟩⟩
        · exact hK.elim
    · split at hK
      · split at hK
        · obtain ⟨h0, hK⟩ := hK
          obtain ⟨m1, hK, j1⟩ := optInt_lin hK
          obtain ⟨h1, hK⟩ := hK
          obtain ⟨m2, hK, j2⟩ := optInt_lin hK
          obtain ⟨h2, hK⟩ := hK
          exact ⟨_, hK, fun K' hK' => ⟨h0, j1 _ ⟨h1, j2 _ ⟨h2, hK'⟩⟩⟩⟩
        · exact hK.elim
      · exact hK.elim
  | extract a i =>
    simp only [aopC] at hc
    split at hc
    · rename_i cs e
      split at hc
      · rename_i c hc'; exact ⟨c, hc, fun h' C' hC' => by simp only [aopC, e, hc']; exact hC'⟩
      · exact hc.elim
    · exact hc.elim
  | makeFunc fn first caps =>
    cases fn with
    | func f =>
      simp only [aopC] at hc
      split at hc
      · rename_i e; exact ⟨_, hc, fun h' C' hC' => by simp only [aopC, e]; exact hC'⟩
      · exact hc.elim
    | _ => exact hc.elim
  | binOp op t a b u =>
    refine viaK (aBin P t op (ρ a) (ρ b)) (fun K hK => ?_) hc (fun _ _ => rfl)
    unfold aBin at hK ⊢
    split at hK
    · split at hK
      · rw [chk_iff] at hK; exact ⟨_, hK.2.2, fun K' hK' => chk_iff.2 ⟨hK.1, hK.2.1, hK'⟩⟩
      · split at hK
        · exact ⟨_, hK.2, fun K' hK' => ⟨hK.1, hK'⟩⟩
        · split at hK
          · rw [chk_iff] at hK; exact ⟨_, hK.2, fun K' hK' => chk_iff.2 ⟨hK.1, hK'⟩⟩
          · exact hK.elim
    · split at hK
      · exact ⟨_, hK, fun K' hK' => hK'⟩
      · split at hK
        · exact ⟨_, hK.2, fun K' hK' => ⟨hK.1, hK'⟩⟩
        · exact hK.elim
    · split at hK
      · rw [chk_iff] at hK; exact ⟨_, hK.2, fun K' hK' => chk_iff.2 ⟨hK.1, hK'⟩⟩
      · exact hK.elim
    · split at hK
      · split at hK
        · exact ⟨_, hK, fun K' hK' => hK'⟩
        · exact hK.elim
      · exact hK.elim
    · exact hK.elim
  | unOp op t a =>
    refine viaK (aUn op (ρ a)) (fun K hK => ?_) hc (fun _ _ => rfl)
    unfold aUn at hK ⊢
    split at hK
    · split at hK
      · exact ⟨_, hK, fun K' hK' => hK'⟩
      · exact hK.elim
    · exact hK.elim
  | convert t u a =>
    refine viaK (aConv P t u (ρ a)) (fun K hK => ?_) hc (fun _ _ => rfl)
    unfold aConv at hK ⊢
    split at hK
    · split at hK
      · exact ⟨_, hK, fun K' hK' => hK'⟩
      · exact hK.elim
    · rw [chk_iff] at hK; exact ⟨_, hK.2, fun K' hK' => chk_iff.2 ⟨hK.1, hK'⟩⟩
    · split at hK
      · rw [chk_iff] at hK
        obtain ⟨h1, ns, h2, h3⟩ := hK
        exact ⟨_, h3, fun K' hK' => chk_iff.2 ⟨h1, ns, h2, hK'⟩⟩
      · exact hK.elim
  | call c =>
    simp only [kindOf] at hk
    cases hcal : c.callee with
    | value f => simp [hcal] at hk
    | invoke => simp [hcal] at hk
    | builtin b =>
      cases b with
      | len =>
        simp only [aopC, hcal] at hc
        split at hc
        · rename_i x T e1 e2
          have key : ∀ F : Nat → Prop, aLen P T (ρ x) F → ∃ m, F m ∧ ∀ F' : Nat → Prop, F' m → aLen P T (ρ x) F' := fun F hF => by
            unfold aLen at hF ⊢
            split at hF
            · rw [chk_iff] at hF; exact ⟨_, hF.2, fun F' hF' => chk_iff.2 ⟨hF.1, hF'⟩⟩
            · rw [chk_iff] at hF; exact ⟨_, hF.2, fun F' hF' => chk_iff.2 ⟨hF.1, hF'⟩⟩
            · split at hF
              · rw [chk_iff] at hF; exact ⟨_, hF.2, fun F' hF' => chk_iff.2 ⟨hF.1, hF'⟩⟩
              · exact hF.elim
          obtain ⟨m, h1, h2⟩ := key _ hc
          exact ⟨_, h1, fun h' C' hC' => by simp only [aopC, hcal, e1, e2]; exact h2 _ hC'⟩
        · exact hc.elim
      | max =>
        simp only [aopC, hcal] at hc
        split at hc
        · rename_i e1
          exact ⟨_, hc, fun h' C' hC' => by simp only [aopC, hcal, e1]; exact hC'⟩
        · exact hc.elim
      | min =>
        simp only [aopC, hcal] at hc
        split at hc
        · rename_i e1
          exact ⟨_, hc, fun h' C' hC' => by simp only [aopC, hcal, e1]; exact hC'⟩
        · exact hc.elim
      | _ => simp [hcal] at hk
  | _ => simp [kindOf] at hk

theorem out_alloc (hk : kindOf o = 2) (hc : aopC P o ρ h C) : ∃ B, C (.ptr h.length 0) (h ++ [B]) ∧ ∀ h' (C' : AV → List Blk → Prop), C' (.ptr h'.length 0) (h' ++ [B]) → aopC P o ρ h' C' := by
  obtain ⟨dst, op, type, pos, after, guard⟩ := o
  cases op with
  | alloc e =>
    simp only [aopC] at hc
    split at hc
    · rename_i z hz; exact ⟨_, hc, fun h' C' hC' => by simp only [aopC, hz]; exact hC'⟩
    · exact hc.elim
  | box e x =>
    simp only [aopC] at hc
    rw [chk_iff] at hc
    exact ⟨_, hc.2, fun h' C' hC' => by simp only [aopC]; rw [chk_iff]; exact ⟨hc.1, hC'⟩⟩
  | call c =>
    simp only [kindOf] at hk
    cases hcal : c.callee with
    | value f => simp [hcal] at hk
    | invoke => simp [hcal] at hk
    | builtin b => cases b <;> simp [hcal] at hk
  | _ => simp [kindOf] at hk
theorem out_write (hk : kindOf o = 3) (hc : aopC P o ρ h C) : ∃ x h1, C x h1 ∧ ∀ C' : AV → List Blk → Prop, C' x h1 → aopC P o ρ h C' := by
  obtain ⟨dst, op, type, pos, after, guard⟩ := o
  cases op with
  | store t a b =>
    simp only [aopC] at hc
    have key : ∀ F : List Blk → Prop, aStore P t h (ρ a) (ρ b) F → ∃ h1, F h1 ∧ ∀ F' : List Blk → Prop, F' h1 → aStore P t h (ρ a) (ρ b) F' := fun F hF => by
      unfold aStore at hF ⊢
      split at hF
      · split at hF
        · split at hF
          · rw [chk_iff] at hF; exact ⟨_, hF.2, fun F' hF' => chk_iff.2 ⟨hF.1, hF'⟩⟩
          · exact hF.elim
        · exact hF.elim
      · exact hF.elim
    obtain ⟨h1, k1, k2⟩ := key _ hc
    exact ⟨_, h1, k1, fun C' hC' => by simp only [aopC]; exact k2 _ hC'⟩
  | makeMap t r =>
    simp only [aopC] at hc
    split at hc
    · rename_i x h' p hx; exact ⟨x, h', hc.2, fun C' hC' => by simp only [aopC, hx]; exact ⟨hc.1, hC'⟩⟩
    · exact hc.elim
  | mapUpdate t a b c =>
    simp only [aopC] at hc
    split at hc
    · rename_i x h' p hx; exact ⟨x, h', hc.2, fun C' hC' => by simp only [aopC, hx]; exact ⟨hc.1, hC'⟩⟩
    · exact hc.elim
  | call c =>
    simp only [kindOf] at hk
    cases hcal : c.callee with
    | value f => simp [hcal] at hk
    | invoke => simp [hcal] at hk
    | builtin b => cases b <;> simp [hcal] at hk
  | _ => simp [kindOf] at hk
theorem cells_set {n : Nat} {e : TypeId} {k l e' k' l' : Nat} (hn : h[n]? = some (.front e' k' l')) : CellsIn h (h.set n (.front e k l)) ∧ CellsIn (h.set n (.front e k l)) h := by
  refine ⟨fun m cs hm hc => ?_, fun m cs hm hc => ?_⟩
  · have : n ≠ m := fun e => by subst e; rw [hn] at hm; cases hm; cases hc
    rw [List.getElem?_set_ne this]; exact hm
  · by_cases e : n = m
    · subst e
      rw [List.getElem?_set_self (List.getElem?_eq_some_iff.1 hn).1] at hm
      cases hm; cases hc
    · rw [List.getElem?_set_ne e] at hm; exact hm
theorem cells_app {e : TypeId} {k l : Nat} : CellsIn h (h ++ [.front e k l]) ∧ CellsIn (h ++ [.front e k l]) h := by
  refine ⟨CellsIn.app _ _, fun m cs hm hc => ?_⟩
  by_cases hl : m < h.length
  · rw [List.getElem?_append_left hl] at hm; exact hm
  · rw [List.getElem?_append_right (by omega)] at hm
    by_cases h0 : m - h.length = 0
    · rw [h0] at hm; cases hm; cases hc
    · rw [List.getElem?_eq_none (by simp; omega)] at hm; cases hm
theorem out_app (hk : kindOf o = 5) (hc : aopC P o ρ h C) : ∃ x h1, C x h1 ∧ CellsIn h h1 ∧ CellsIn h1 h ∧ ∀ C' : AV → List Blk → Prop, C' x h1 → aopC P o ρ h C' := by
  obtain ⟨dst, op, type, pos, after, guard⟩ := o
  cases op with
  | call c =>
    simp only [kindOf] at hk
    cases hcal : c.callee with
    | value f => simp [hcal] at hk
    | invoke => simp [hcal] at hk
    | builtin b =>
      cases b with
      | append =>
        simp only [aopC, hcal] at hc
        split at hc
        · rename_i x y T U e1 e2
          rw [chk_iff] at hc
          have srcK : ∀ (k : Nat) (y : AV) (F : List (List D) → Prop), srcL h k y F → ∃ ys, F ys ∧ ∀ F' : List (List D) → Prop, F' ys → srcL h k y F' := fun k y F hF => by
            unfold srcL at hF ⊢
            split at hF
            · split at hF
              · split at hF
                · rw [chk_iff] at hF; exact ⟨_, hF.2, fun F' hF' => chk_iff.2 ⟨hF.1, hF'⟩⟩
                · exact hF.elim
              · exact hF.elim
            · split at hF
              · exact ⟨_, hF.2, fun F' hF' => ⟨hF.1, hF'⟩⟩
              · exact hF.elim
          have key : ∀ F : AV → List Blk → Prop, aAppend P T h (ρ x) (ρ y) F → ∃ v h1, F v h1 ∧ CellsIn h h1 ∧ CellsIn h1 h ∧ ∀ F' : AV → List Blk → Prop, F' v h1 → aAppend P T h (ρ x) (ρ y) F' := fun F hF => by
            unfold aAppend at hF ⊢
            split at hF
            · split at hF
              · rw [chk_iff] at hF
                obtain ⟨h0, hF⟩ := hF
                obtain ⟨ys, hF, hs⟩ := srcK _ _ _ hF
                split at hF
                · split at hF
                  · rename_i hn
                    rw [chk_iff] at hF
                    obtain ⟨g1, g2, g3, g4, g5, g6⟩ := hF
                    exact ⟨_, _, g6, (cells_set hn).1, (cells_set hn).2, fun F' hF' => chk_iff.2 ⟨h0, hs _ (chk_iff.2 ⟨g1, g2, g3, g4, g5, hF'⟩)⟩⟩
                  · exact hF.elim
                · obtain ⟨g4, g5, g6⟩ := hF
                  exact ⟨_, _, g6, cells_app.1, cells_app.2, fun F' hF' => chk_iff.2 ⟨h0, hs _ ⟨g4, g5, hF'⟩⟩⟩
                · obtain ⟨g3, g4, g5, g6⟩ := hF
                  exact ⟨_, _, g6, cells_app.1, cells_app.2, fun F' hF' => chk_iff.2 ⟨h0, hs _ ⟨g3, g4, g5, hF'⟩⟩⟩
                · exact hF.elim
              · exact hF.elim
            · exact hF.elim
          obtain ⟨v, h1, k1, c1, c2, k2⟩ := key _ hc.2
          exact ⟨v, h1, k1, c1, c2, fun C' hC' => by simp only [aopC, hcal, e1, e2]; rw [chk_iff]; exact ⟨hc.1, k2 _ hC'⟩⟩
        · exact hc.elim
      | _ => simp [hcal] at hk
  | _ => simp [kindOf] at hk

theorem out_of {s : St} {K : St → Prop} (hd : aopD P o K s) : ∃ x h1, OutC P o (ev s) s.h x h1 ∧ K ((s.wh h1).put o.dst x) := by
  have plain : aop P o K s → kindOf o ≠ 4 → ∃ x h1, OutC P o (ev s) s.h x h1 ∧ K ((s.wh h1).put o.dst x) := fun ha hk4 => by
    unfold aop at ha
    by_cases h0 : kindOf o = 0
    · obtain ⟨x, h1, h2⟩ := out_pure h0 ha
      exact ⟨x, s.h, by unfold OutC; rw [h0]; exact ⟨rfl, h2⟩, h1⟩
    · by_cases h1 : kindOf o = 1
      · obtain ⟨dst, op, type, pos, after, guard⟩ := o
        cases op with
        | load t a =>
          simp only [aopC] at ha
          obtain ⟨x, k1, k2⟩ := aLoad_ext ha
          exact ⟨x, s.h, by unfold OutC; rw [h1]; exact ⟨rfl, fun h' hh C' hC' => by simp only [aopC]; exact k2 h' hh _ hC'⟩, k1⟩
        | lookup t a b ok =>
          simp only [aopC] at ha
          split at ha
          · rename_i x h' p hx
            obtain ⟨rfl, k2⟩ := opX_lookup_ext hx
            exact ⟨x, s.h, by unfold OutC; rw [h1]; exact ⟨rfl, fun h' hh C' hC' => by simp only [aopC, k2 h' hh]; exact ⟨ha.1, hC'⟩⟩, ha.2⟩
          · exact ha.elim
        | call c =>
          simp only [kindOf] at h1
          cases hcal : c.callee with
          | value f => simp [hcal] at h1
          | invoke => simp [hcal] at h1
          | builtin b => cases b <;> simp [hcal] at h1
        | _ => simp [kindOf] at h1
      · by_cases h2 : kindOf o = 2
        · obtain ⟨B, k1, k2⟩ := out_alloc h2 ha
          exact ⟨_, _, by unfold OutC; rw [h2]; exact ⟨B, rfl, rfl, k2⟩, k1⟩
        · by_cases h3 : kindOf o = 3
          · obtain ⟨x, h1', k1, k2⟩ := out_write h3 ha
            exact ⟨x, h1', by unfold OutC; rw [h3]; exact k2, k1⟩
          · by_cases h5 : kindOf o = 5
            · obtain ⟨x, h1', k1, c1, c2, k2⟩ := out_app h5 ha
              exact ⟨x, h1', by unfold OutC; rw [h5]; exact ⟨c1, c2, k2⟩, k1⟩
            exfalso
            obtain ⟨dst, op, type, pos, after, guard⟩ := o
            cases op with
            | call c =>
              simp only [kindOf] at h0 h3 hk4 h5
              simp only [aopC] at ha
              cases hcal : c.callee with
              | value f => simp [hcal] at hk4
              | invoke => simp only [hcal] at ha
              | builtin b => cases b <;> simp only [hcal] at ha h0 h3 h5 <;> first | exact ha | exact absurd rfl h0 | exact absurd rfl h3 | exact absurd rfl h5 | exact h3 trivial | exact h0 trivial | exact h5 trivial
            | _ => first | exact absurd rfl h0 | exact absurd rfl h1 | exact absurd rfl h2 | exact absurd rfl h3 | exact ha
  unfold aopD at hd
  split at hd
  · rename_i c hop
    split at hd
    · rename_i f hcal
      have hk : kindOf o = 4 := by unfold kindOf; simp only [hop, hcal]
      split at hd
      · rename_i g caps hg
        obtain ⟨x, hK, hcall⟩ := hd
        refine ⟨x, s.h, ?_, hK⟩
        unfold OutC
        rw [hk]
        refine ⟨rfl, fun e C' hC' => ?_⟩
        unfold aopC
        simp only [hop, hcal, hg]
        exact (hcall e).mono fun r' h' ⟨e1, e2⟩ => by subst e1; subst e2; exact hC'
      · rename_i q hg
        obtain ⟨g, cs, rfl, x, hK, hcall⟩ := hd
        refine ⟨x, s.h, ?_, hK⟩
        unfold OutC
        rw [hk]
        refine ⟨rfl, fun e C' hC' => ?_⟩
        unfold aopC
        simp only [hop, hcal, hg]
        exact ⟨g, cs, rfl, (hcall e).mono fun r' h' ⟨e1, e2⟩ => by subst e1; subst e2; exact hC'⟩
      · exact hd.elim
    · rename_i hcal
      exact plain hd (by
        unfold kindOf
        simp only [hop]
        cases hc : c.callee with
        | value f => exact absurd hc (hcal f)
        | invoke => simp
        | builtin b => cases b <;> simp)
  · rename_i hop
    exact plain hd (by
      unfold kindOf
      split <;> first | (rename_i c hc; exact (hop c hc).elim) | simp)
end

/-! ### any order -/
structure SEq (s s' : St) : Prop where
  n : s.n = s'.n
  h : s.h = s'.h
  t : ∀ i, tget s.t i = tget s'.t i
theorem SEq.refl (s : St) : SEq s s := ⟨rfl, rfl, fun _ => rfl⟩
theorem SEq.symm {s s' : St} (h : SEq s s') : SEq s' s := ⟨h.n.symm, h.h.symm, fun i => (h.t i).symm⟩
theorem SEq.trans {a b c : St} (h : SEq a b) (k : SEq b c) : SEq a c := ⟨h.n.trans k.n, h.h.trans k.h, fun i => (h.t i).trans (k.t i)⟩
theorem SEq.ev {s s' : St} (h : SEq s s') : ev s = ev s' := by
  funext x
  cases x with
  | tmp t => exact h.t t
  | _ => rfl
theorem tget_put (s : St) (d : Option Nat) (x : AV) (i : Nat) : tget (s.put d x).t i = if d = some i ∧ i < s.n then x else tget s.t i := by
  cases d with
  | none => simp [St.put]
  | some k =>
    by_cases hk : k < s.n
    · rw [put_lt hk, tget_cons]
      by_cases hi : i = k
      · subst hi; simp [hk]
      · rw [if_neg hi, if_neg (by simp; intro e; exact absurd e.symm hi)]
    · rw [put_ge hk]
      rw [if_neg (by rintro ⟨e, hlt⟩; cases e; exact hk hlt)]
theorem put_n (s : St) (d : Option Nat) (x : AV) : (s.put d x).n = s.n := by
  cases d with
  | none => rfl
  | some k =>
    by_cases hk : k < s.n
    · rw [put_lt hk]
    · rw [put_ge hk]
theorem put_h (s : St) (d : Option Nat) (x : AV) : (s.put d x).h = s.h := by
  cases d with
  | none => rfl
  | some k =>
    by_cases hk : k < s.n
    · rw [put_lt hk]
    · rw [put_ge hk]
theorem SEq.put {s s' : St} (h : SEq s s') (h1 : List Blk) (d : Option Nat) (x : AV) : SEq ((s.wh h1).put d x) ((s'.wh h1).put d x) :=
  ⟨by rw [put_n, put_n]; exact h.n, by rw [put_h, put_h]; rfl, fun i => by
    rw [tget_put, tget_put]
    show (if d = some i ∧ i < s.n then x else tget s.t i) = (if d = some i ∧ i < s'.n then x else tget s'.t i)
    rw [h.n, h.t]⟩
theorem put_swap (s : St) (h1 h1' h2 : List Blk) {d d' : Option Nat} (x x' : AV) (hne : ∀ k, d = some k → d' ≠ some k) : SEq ((((s.wh h1).put d x).wh h2).put d' x') ((((s.wh h1').put d' x').wh h2).put d x) := by
  refine ⟨by simp only [put_n]; show ((s.wh h1).put d x).n = ((s.wh h1').put d' x').n; simp only [put_n]; rfl, by simp only [put_h]; rfl, fun i => ?_⟩
  rw [tget_put, tget_put]
  show (if d' = some i ∧ i < ((s.wh h1).put d x).n then x' else tget ((s.wh h1).put d x).t i) = (if d = some i ∧ i < ((s.wh h1').put d' x').n then x else tget ((s.wh h1').put d' x').t i)
  rw [put_n, put_n, tget_put, tget_put]
  show (if d' = some i ∧ i < s.n then x' else (if d = some i ∧ i < s.n then x else tget s.t i)) = (if d = some i ∧ i < s.n then x else (if d' = some i ∧ i < s.n then x' else tget s.t i))
  by_cases a : d = some i
  · have := hne i a
    simp [a, this]
  · simp [a]

section
variable {P : Program} {ops : Array Oper}
/-- what operation o yields in state s, wanted or not -/
def OutG (P : Program) (ops : Array Oper) (o : Oper) (s : St) (x : AV) (h1 : List Blk) : Prop :=
  (aGuard ops o s True False ∧ OutC P o (ev s) s.h x h1) ∨ (aGuard ops o s False True ∧ x = .d (.v undef) ∧ h1 = s.h)
theorem guard_split {o : Oper} {s : St} {yes no : Prop} (h : aGuard ops o s yes no) : (aGuard ops o s True False ∧ yes) ∨ (aGuard ops o s False True ∧ no) := by
  unfold aGuard at h ⊢
  split at h
  · exact .inl ⟨trivial, h⟩
  · rename_i j want hg
    split at h
    · rename_i d hd
      split at h
      · rename_i b hb
        by_cases hbw : b = want
        · exact .inl ⟨⟨fun _ => trivial, fun e => by subst hbw; cases b <;> cases e⟩, h.1 hbw⟩
        · have hbn : b = !want := by cases b <;> cases want <;> simp_all
          exact .inr ⟨⟨fun e => (hbw e).elim, fun _ => trivial⟩, h.2 hbn⟩
      · exact .inr ⟨trivial, h⟩
      · exact h.elim
    · exact h.elim
theorem guard_congr {o : Oper} {s s' : St} {yes no : Prop} (ht : ∀ d, d ∈ o.looksAt ops → tget s'.t d = tget s.t d) (h : aGuard ops o s yes no) : aGuard ops o s' yes no := by
  unfold aGuard at h ⊢
  split at h
  · exact h
  · rename_i j want hg
    split at h
    · rename_i d hd
      have : tget s'.t d = tget s.t d := ht d (by unfold Oper.looksAt; rw [hg]; simp [hd])
      rw [this]; exact h
    · exact h.elim
theorem outG_congr {o : Oper} {s s' : St} {x : AV} {h1 : List Blk} (ht : ∀ d, d ∈ o.looksAt ops → tget s'.t d = tget s.t d) (hh : s'.h = s.h) (h : OutG P ops o s x h1) : OutG P ops o s' x h1 := by
  have hev : ∀ y ∈ o.op.operands, ev s y = ev s' y := fun y hy => by
    cases y with
    | tmp t => exact (ht t (by unfold Oper.looksAt; refine List.mem_append.2 (.inl (List.mem_filterMap.2 ⟨.tmp t, Array.mem_toList_iff.2 hy, rfl⟩)))).symm
    | _ => rfl
  rcases h with ⟨g, hc⟩ | ⟨g, e1, e2⟩
  · refine .inl ⟨guard_congr ht g, ?_⟩
    rw [hh]
    have hcong : ∀ h C, aopC P o (ev s) h C = aopC P o (ev s') h C := fun h C => aopC_congr hev
    unfold OutC at hc ⊢
    split at hc
    · exact ⟨hc.1, fun h' C hC => hcong h' C ▸ hc.2 h' C hC⟩
    · exact ⟨hc.1, fun h' hh C hC => hcong _ C ▸ hc.2 h' hh C hC⟩
    · obtain ⟨B, a, b, c⟩ := hc; exact ⟨B, a, b, fun h' C hC => hcong h' C ▸ c h' C hC⟩
    · exact fun C hC => hcong _ C ▸ hc C hC
    · exact ⟨hc.1, fun e C hC => hcong _ C ▸ hc.2 e C hC⟩
    · exact ⟨hc.1, hc.2.1, fun C hC => hcong _ C ▸ hc.2.2 C hC⟩
    · exact hc.elim
  · exact .inr ⟨guard_congr ht g, e1, e2.trans hh.symm⟩
/-- may two operations change places? -/
def compat (a b : Oper) : Bool := kindOf a == 0 || kindOf b == 0 || ((kindOf a == 1 || kindOf a == 4) && (kindOf b == 1 || kindOf b == 4 || kindOf b == 2)) || (kindOf a == 1 && kindOf b == 5) || (kindOf a == 5 && kindOf b == 1)
theorem swap {oi oj : Oper} {s : St} {xi xj : AV} {hi hj : List Blk} (hap : oi.apart ops oj = true) (hcp : compat oi oj = true) (h1 : OutG P ops oi s xi hi) (h2 : OutG P ops oj ((s.wh hi).put oi.dst xi) xj hj) :
    ∃ hj', OutG P ops oj s xj hj' ∧ OutG P ops oi ((s.wh hj').put oj.dst xj) xi hj := by
  obtain ⟨a1, a2, a3⟩ := Oper.apart_spec hap
  have tj : ∀ d, d ∈ oj.looksAt ops → tget s.t d = tget ((s.wh hi).put oi.dst xi).t d := fun d hd => by
    rw [tget_put, if_neg (fun e => a1 d e.1 hd)]; rfl
  have ti : ∀ (h' : List Blk) d, d ∈ oi.looksAt ops → tget ((s.wh h').put oj.dst xj).t d = tget s.t d := fun h' d hd => by
    rw [tget_put, if_neg (fun e => a3 d e.1 hd)]; rfl
  have hs1 : ((s.wh hi).put oi.dst xi).h = hi := by rw [put_h]; rfl
  have hsh : ∀ h', ((s.wh h').put oj.dst xj).h = h' := fun h' => by rw [put_h]; rfl
  -- oj at s, if oi has left the blocks alone
  have same : hi = s.h → OutG P ops oj s xj hj := fun e => outG_congr tj (by rw [hs1, e]) h2
  have evi : ∀ h', ∀ y ∈ oi.op.operands, ev ((s.wh h').put oj.dst xj) y = ev s y := fun h' y hy => by
    cases y with
    | tmp t => exact ti h' t (by unfold Oper.looksAt; refine List.mem_append.2 (.inl (List.mem_filterMap.2 ⟨.tmp t, Array.mem_toList_iff.2 hy, rfl⟩)))
    | _ => rfl
  have evj : ∀ y ∈ oj.op.operands, ev ((s.wh hi).put oi.dst xi) y = ev s y := fun y hy => by
    cases y with
    | tmp t => exact (tj t (by unfold Oper.looksAt; refine List.mem_append.2 (.inl (List.mem_filterMap.2 ⟨.tmp t, Array.mem_toList_iff.2 hy, rfl⟩)))).symm
    | _ => rfl
  have ci : ∀ h' h C, aopC P oi (ev ((s.wh h').put oj.dst xj)) h C = aopC P oi (ev s) h C := fun h' h C => aopC_congr (evi h')
  have cj : ∀ h C, aopC P oj (ev ((s.wh hi).put oi.dst xi)) h C = aopC P oj (ev s) h C := fun h C => aopC_congr evj
  rcases h1 with ⟨g1, o1⟩ | ⟨g1, e1, e2⟩
  · rcases h2 with ⟨g2, o2⟩ | ⟨g2, f1, f2⟩
    · -- both are carried out
      have g1' : ∀ h', aGuard ops oi ((s.wh h').put oj.dst xj) True False := fun h' => guard_congr (ti h') g1
      have g2' : aGuard ops oj s True False := guard_congr tj g2
      by_cases k0 : kindOf oi = 0
      · unfold OutC at o1
        rw [k0] at o1
        simp only at o1
        obtain ⟨e, o1⟩ := o1
        refine ⟨hj, same e, .inl ⟨g1' hj, ?_⟩⟩
        unfold OutC
        rw [k0]
        exact ⟨(hsh hj).symm, fun h' C hC => by rw [ci]; exact o1 h' C hC⟩
      · by_cases k1 : kindOf oj = 0
        · unfold OutC at o2
          rw [k1] at o2
          simp only at o2
          obtain ⟨e, o2⟩ := o2
          rw [hs1] at e
          refine ⟨s.h, .inl ⟨g2', ?_⟩, .inl ⟨g1' s.h, ?_⟩⟩
          · unfold OutC; rw [k1]; exact ⟨rfl, fun h' C hC => by rw [← cj]; exact o2 h' C hC⟩
          · rw [e]
            unfold OutC at o1 ⊢
            rw [hsh]
            simp only [ci]
            exact o1
        · by_cases k15 : kindOf oi = 1 ∧ kindOf oj = 5
          · obtain ⟨ka, kb⟩ := k15
            unfold OutC at o1 o2
            rw [ka] at o1
            rw [kb] at o2
            simp only at o1 o2
            obtain ⟨e, o1⟩ := o1
            obtain ⟨c1, c2, o2⟩ := o2
            rw [hs1, e] at c1 c2
            refine ⟨hj, same e, .inl ⟨g1' hj, ?_⟩⟩
            unfold OutC
            rw [ka]
            simp only
            refine ⟨(hsh hj).symm, fun h' hh C hC => ?_⟩
            rw [hsh] at hh
            rw [ci]
            exact o1 h' (fun n cs hn hq => hh n cs (c1 n cs hn hq) hq) C hC
          by_cases k51 : kindOf oi = 5 ∧ kindOf oj = 1
          · obtain ⟨ka, kb⟩ := k51
            unfold OutC at o1 o2
            rw [ka] at o1
            rw [kb] at o2
            simp only at o1 o2
            obtain ⟨c1, c2, o1⟩ := o1
            obtain ⟨e, o2⟩ := o2
            rw [hs1] at e o2
            refine ⟨s.h, .inl ⟨g2', ?_⟩, .inl ⟨g1' s.h, ?_⟩⟩
            · unfold OutC; rw [kb]; simp only
              exact ⟨trivial, fun h' hh C hC => by rw [← cj]; exact o2 h' (fun n cs hn hq => hh n cs (c2 n cs hn hq) hq) C hC⟩
            · rw [e]
              unfold OutC
              rw [ka]
              simp only
              rw [hsh]
              exact ⟨c1, c2, fun C hC => by rw [ci]; exact o1 C hC⟩
          have hc : (kindOf oi = 1 ∨ kindOf oi = 4) ∧ (kindOf oj = 1 ∨ kindOf oj = 4 ∨ kindOf oj = 2) := by
            unfold compat at hcp
            simp only [Bool.or_eq_true, Bool.and_eq_true, beq_iff_eq, k0, k1, false_or] at hcp
            rcases hcp with (hcp | hcp) | hcp
            · refine ⟨hcp.1, ?_⟩
              rcases hcp.2 with (h | h) | h
              · exact .inl h
              · exact .inr (.inl h)
              · exact .inr (.inr h)
            · exact absurd hcp k15
            · exact absurd hcp k51
          have q1 : hi = s.h ∧ ∀ e (C : AV → List Blk → Prop), C xi (s.h ++ e) → aopC P oi (ev s) (s.h ++ e) C := by
            unfold OutC at o1
            rcases hc.1 with k | k
            · rw [k] at o1; exact ⟨o1.1, fun e C hC => o1.2 _ (CellsIn.app _ _) C hC⟩
            · rw [k] at o1; exact o1
          have q2 : ∃ e0, hj = s.h ++ e0 := by
            have o2' := o2
            unfold OutC at o2'
            rcases hc.2 with k | k | k
            · rw [k] at o2'; exact ⟨[], by rw [o2'.1, hs1, q1.1, List.append_nil]⟩
            · rw [k] at o2'; exact ⟨[], by rw [o2'.1, hs1, q1.1, List.append_nil]⟩
            · rw [k] at o2'; obtain ⟨B, _, b, _⟩ := o2'; exact ⟨[B], by rw [b, hs1, q1.1]⟩
          obtain ⟨e0, he0⟩ := q2
          refine ⟨hj, same q1.1, .inl ⟨g1' hj, ?_⟩⟩
          have : ∀ e (C : AV → List Blk → Prop), C xi (hj ++ e) → aopC P oi (ev ((s.wh hj).put oj.dst xj)) (hj ++ e) C := fun e C hC => by
            rw [ci, he0, List.append_assoc]
            rw [he0, List.append_assoc] at hC
            exact q1.2 _ C hC
          unfold OutC
          rw [hsh]
          rcases hc.1 with k | k
          · rw [k]
            simp only
            refine ⟨trivial, fun h' hh C hC => ?_⟩
            rw [ci]
            unfold OutC at o1
            rw [k] at o1
            exact o1.2 h' (fun n cs hn hq => hh n cs (by rw [he0]; exact CellsIn.app _ _ n cs hn hq) hq) C hC
          · rw [k]; exact ⟨rfl, this⟩
    · -- oj is passed over
      subst f1
      rw [hs1] at f2
      refine ⟨s.h, .inr ⟨guard_congr tj g2, rfl, rfl⟩, ?_⟩
      rw [f2]
      exact outG_congr (ti s.h) (by rw [hsh]) (.inl ⟨g1, o1⟩)
  · -- oi is passed over
    subst e1
    refine ⟨hj, same e2, .inr ⟨guard_congr (ti hj) g1, rfl, (hsh hj).symm⟩⟩

def Closed (K : St → Prop) : Prop := ∀ s s', SEq s s' → K s → K s'
def aAny (P : Program) (ops : Array Oper) (K : St → Prop) : Nat → Array Bool → St → Prop
  | 0, listed, s => Region.ready .any ops listed = [] ∧ K s
  | fuel + 1, listed, s =>
    (Region.ready .any ops listed = [] → K s) ∧
    ∀ i ∈ Region.ready .any ops listed, ∀ o, ops[i]? = some o → ∃ x h1, OutG P ops o s x h1 ∧ aAny P ops K fuel (listed.setIfInBounds i true) ((s.wh h1).put o.dst x)
theorem aAny_congr {K : St → Prop} (hK : Closed K) : ∀ (fuel : Nat) (listed : Array Bool) (s s' : St), SEq s s' → aAny P ops K fuel listed s → aAny P ops K fuel listed s'
  | 0, _, s, s', hs, h => ⟨h.1, hK s s' hs h.2⟩
  | fuel + 1, _, s, s', hs, h => ⟨fun h0 => hK s s' hs (h.1 h0), fun i hi o ho => by
      obtain ⟨x, h1, h2, h3⟩ := h.2 i hi o ho
      exact ⟨x, h1, outG_congr (fun d _ => (hs.t d).symm) hs.h.symm h2, aAny_congr hK fuel _ _ _ (hs.put h1 o.dst x) h3⟩⟩

/-- whatever comes before an operation, through others too -/
def certOK (M : Array Nat) (ops : Array Oper) : Bool :=
  (List.range ops.size).all fun j => (List.range ops.size).all fun i => !(M.getD j 0).testBit i || match ops[j]? with
    | some o => o.after.any fun e => Region.binds .any e && decide (e.on < j) && (e.on == i || (M.getD e.on 0).testBit i)
    | none => false
def Dn (ops : Array Oper) (listed : Array Bool) : Prop := ∀ (j : Nat) (o : Oper), ops[j]? = some o → listed.getD j false = true → ∀ e ∈ o.after, Region.binds .any e = true → listed.getD e.on false = true
theorem cert_spec {M : Array Nat} (hM : certOK M ops = true) {listed : Array Bool} (hD : Dn ops listed) : ∀ (j i : Nat) (o : Oper), i < ops.size → ops[j]? = some o → (∀ e ∈ o.after, Region.binds .any e = true → listed.getD e.on false = true) → (M.getD j 0).testBit i = true → listed.getD i false = true := by
  intro j
  induction j using Nat.strongRecOn with
  | _ j ih =>
    intro i o hi ho hp hb
    unfold certOK at hM
    simp only [List.all_eq_true, List.mem_range] at hM
    have h1 := hM j (Array.getElem?_eq_some_iff.1 ho).1 i hi
    rw [hb, ho] at h1
    simp only [Bool.not_true, Bool.false_or] at h1
    rw [Array.any_eq_true'] at h1
    obtain ⟨e, he, h2⟩ := h1
    simp only [Bool.and_eq_true, decide_eq_true_eq, Bool.or_eq_true, beq_iff_eq] at h2
    obtain ⟨⟨hbd, hlt⟩, h3⟩ := h2
    have hl := hp e he hbd
    rcases h3 with h3 | h3
    · rw [← h3]; exact hl
    · have hlt' : e.on < ops.size := Nat.lt_trans hlt (Array.getElem?_eq_some_iff.1 ho).1
      exact ih e.on hlt i ops[e.on] hi (Array.getElem?_eq_getElem hlt') (hD e.on _ (Array.getElem?_eq_getElem hlt') hl) h3
theorem Dn.set {listed : Array Bool} (hD : Dn ops listed) {i : Nat} (hr : i ∈ Region.ready .any ops listed) : Dn ops (listed.setIfInBounds i true) := by
  intro j o ho hj e he hb
  refine getD_set_true ?_
  by_cases hij : i = j
  · subst hij
    obtain ⟨_, o', ho', hall⟩ := mem_ready.1 hr
    rw [ho] at ho'; cases ho'
    exact hall e he hb
  · rw [getD_set_ne false hij] at hj
    exact hD j o ho hj e he hb

theorem aAny_first {K : St → Prop} (hK : Closed K) {M : Array Nat} (hM : certOK M ops = true) {i : Nat} {oi : Oper} {x : AV} {h1 : List Blk} (hi : ops[i]? = some oi) :
    ∀ (fuel : Nat) (listed : Array Bool) (s : St), Dn ops listed →
      (∀ j oj, ops[j]? = some oj → j ≠ i → listed.getD j true = false → (M.getD j 0).testBit i = false → oi.apart ops oj = true ∧ compat oi oj = true) →
      i ∈ Region.ready .any ops listed → OutG P ops oi s x h1 → aAny P ops K fuel (listed.setIfInBounds i true) ((s.wh h1).put oi.dst x) → aAny P ops K (fuel + 1) listed s := by
  intro fuel
  induction fuel generalizing x h1 with
  | zero =>
    intro listed s _ _ hr hy H
    refine ⟨fun h => (by rw [h] at hr; cases hr), fun j hj o ho => ?_⟩
    by_cases hji : j = i
    · subst hji
      rw [hi] at ho; cases ho
      exact ⟨x, h1, hy, H⟩
    · have := ready_mono hj hji
      rw [H.1] at this
      cases this
  | succ fuel ih =>
    intro listed s hD hfree hr hy H
    refine ⟨fun h => (by rw [h] at hr; cases hr), fun j hj oj hoj => ?_⟩
    by_cases hji : j = i
    · subst hji
      rw [hi] at hoj; cases hoj
      exact ⟨x, h1, hy, H⟩
    · obtain ⟨xj, hj1, hy2, H2⟩ := H.2 j (ready_mono hj hji) oj hoj
      obtain ⟨hjun, oj', hoj', hall⟩ := mem_ready.1 hj
      rw [hoj] at hoj'; cases hoj'
      have hidx := (Array.getElem?_eq_some_iff.1 hi).1
      have hun : listed.getD i false = false := by
        have h0 := (mem_ready.1 hr).1
        rcases Nat.lt_or_ge i listed.size with h' | h'
        · simpa [h'] using h0
        · simp [Array.getElem?_eq_none h'] at h0
      have hnd : (M.getD j 0).testBit i = false := by
        cases hb : (M.getD j 0).testBit i with
        | false => rfl
        | true => rw [cert_spec hM hD j i oj hidx hoj hall hb] at hun; cases hun
      obtain ⟨hap, hcp⟩ := hfree j oj hoj hji hjun hnd
      obtain ⟨hj', s1, s2⟩ := swap hap hcp hy hy2
      obtain ⟨_, a2, _⟩ := Oper.apart_spec hap
      refine ⟨xj, hj', s1, ih (listed.setIfInBounds j true) _ (hD.set hj) (fun k ok hk hki hun' hno => ?_) (ready_mono hr (Ne.symm hji)) s2 ?_⟩
      · refine hfree k ok hk hki ?_ hno
        by_cases hjk : j = k
        · subst hjk; exact hjun
        · rw [getD_set_ne true hjk] at hun'; exact hun'
      · rw [Array.setIfInBounds_comm _ _ hji]
        exact aAny_congr hK _ _ _ _ (put_swap s h1 hj' hj1 x xj (fun k hk => a2 k hk)) H2

def freeD (M : Array Nat) (ops : Array Oper) (k : Nat) : Bool :=
  match ops[k]? with
  | none => false
  | some oi => (List.range ops.size).all fun j => decide (j ≤ k) || (M.getD j 0).testBit k || match ops[j]? with
      | some oj => oi.apart ops oj && compat oi oj
      | none => true
def lexFromD (M : Array Nat) (ops : Array Oper) : Nat → Nat → Array Bool → Bool
  | 0, _, listed => (Region.ready .any ops listed).isEmpty
  | fuel + 1, k, listed => (Region.ready .any ops listed).contains k && freeD M ops k && lexFromD M ops fuel (k + 1) (listed.setIfInBounds k true)
/-- the order of the text may be taken: a Bool to be worked out over a region -/
def lexD (ops : Array Oper) : Bool := certOK (Region.before ops) ops && lexFromD (Region.before ops) ops ops.size 0 (Array.replicate ops.size false)

theorem aAny_lex {K K' : St → Prop} (hK : Closed K') (hKK : ∀ s, K s → K' s) {M : Array Nat} (hM : certOK M ops = true) : ∀ (l : List Oper) (k : Nat) (listed : Array Bool) (s : St), (∀ j, l[j]? = ops[k + j]?) → (∀ j, j < k → listed.getD j true = true) → Dn ops listed →
    lexFromD M ops l.length k listed = true → aDraw P ops l K s → aAny P ops K' l.length listed s
  | [], _, _, _, _, _, _, hB, h => ⟨by simpa [lexFromD] using hB, hKK _ h⟩
  | o :: l, k, listed, s, hl, hlow, hD, hB, h => by
    have h0 : ops[k]? = some o := by simpa using (hl 0).symm
    simp only [List.length_cons, lexFromD, Bool.and_eq_true] at hB
    obtain ⟨⟨hr, hf⟩, hB'⟩ := hB
    have hr' : k ∈ Region.ready .any ops listed := by simpa using hr
    have hl' : ∀ j, l[j]? = ops[k + 1 + j]? := fun j => by have := hl (j + 1); simpa [Nat.add_assoc, Nat.add_comm 1 j] using this
    have hlow' : ∀ j, j < k + 1 → (listed.setIfInBounds k true).getD j true = true := fun j hj => by
      by_cases e : k = j
      · subst e
        rcases Nat.lt_or_ge k listed.size with h' | h'
        · simp [h']
        · have : (listed.setIfInBounds k true)[k]? = none := Array.getElem?_eq_none (by simpa using h')
          rw [Array.getD_eq_getD_getElem?, this]; rfl
      · rw [getD_set_ne true e]; exact hlow j (by omega)
    obtain ⟨x, h1, hy, hrest⟩ : ∃ x h1, OutG P ops o s x h1 ∧ aDraw P ops l K ((s.wh h1).put o.dst x) := by
      rcases guard_split h with ⟨g, hd⟩ | ⟨g, hd⟩
      · obtain ⟨x, h1, h2, h3⟩ := out_of hd
        exact ⟨x, h1, .inl ⟨g, h2⟩, h3⟩
      · exact ⟨_, s.h, .inr ⟨g, rfl, rfl⟩, hd⟩
    refine aAny_first hK hM h0 l.length listed s hD (fun j oj hj hne hun hno => ?_) hr' hy (aAny_lex hK hKK hM l (k + 1) _ _ hl' hlow' (hD.set hr') hB' hrest)
    unfold freeD at hf
    rw [h0] at hf
    simp only [List.all_eq_true, List.mem_range] at hf
    have := hf j (Array.getElem?_eq_some_iff.1 hj).1
    rw [hno, hj] at this
    simp only [Bool.or_false, Bool.or_eq_true, Bool.and_eq_true, decide_eq_true_eq] at this
    rcases this with this | this
    · exfalso
      have := hlow j (by omega)
      rw [this] at hun; cases hun
    · exact this
end
section
variable {P : Program} {r : Option Nat} {n N0 : Nat} {G : Gh} {w : World} {a : Act} {s : St} {o : Oper} {Q : Exit → St → Prop}
theorem Sat.drew (hs : Sat G w a s) : Ext G.N G w G { w with drawn := w.drawn + 1 } ∧ Sat G { w with drawn := w.drawn + 1 } a s := by
  have hE : Ext G.N G w G { w with drawn := w.drawn + 1 } := ⟨Nat.le_refl _, fun _ _ h => h, fun _ _ _ => rfl, fun _ _ => rfl, fun _ _ => .inl ⟨rfl, rfl⟩, zsame rfl, fun _ _ => rfl, rfl, rfl, rfl, fun _ _ h => .inl h⟩
  have hi : Inv G { w with drawn := w.drawn + 1 } s.h := ⟨hs.inv.len, hs.inv.z, hs.inv.S, fun n B hB => BRel.keep (hs.inv.lt hB) hE (Nat.le_refl _) ⟨rfl, rfl, rfl⟩ (fun _ _ => ⟨rfl, fun _ h => h⟩) (hs.inv.blk n B hB), hs.inv.inj, hs.inv.gl.keep hE⟩
  exact ⟨hE, hs.move hE (Nat.le_refl _) hi⟩
theorem aop_of_out {x : AV} {h1 : List Blk} (h : OutC P o (ev s) s.h x h1) : aop P o (fun s' => s' = (s.wh h1).put o.dst x) s := by
  unfold aop
  unfold OutC at h
  split at h
  · obtain ⟨e, h⟩ := h
    subst e
    exact h s.h _ rfl
  · obtain ⟨e, h⟩ := h
    subst e
    exact h _ (CellsIn.refl _) _ rfl
  · obtain ⟨B, rfl, rfl, h⟩ := h
    exact h s.h _ rfl
  · exact h _ rfl
  · obtain ⟨e, h⟩ := h
    subst e
    have := h [] (fun x' h' => (s.wh h').put o.dst x' = (s.wh s.h).put o.dst x) (by rw [List.append_nil])
    rwa [List.append_nil] at this
  · exact h.2.2 _ rfl
  · exact h.elim
theorem any_sound {ops : Array Oper} {K : St → Prop} {Q' : Exit → Act → World → Prop} (hQ : ∀ a' w', NxT N0 G w K a' w' → Q' .normal a' w') : ∀ (fuel : Nat) (listed : Array Bool) (G1 : Gh) (w1 : World) (a : Act) (s : St),
    Ext N0 G w G1 w1 → N0 ≤ G1.N → Sat G1 w1 a s → aAny P ops K fuel listed s → wpAnyIn (WF r) n P .any ops Q' fuel listed a w1
  | 0, _, G1, w1, a, s, hE, hN, hs, h => ⟨h.1, hQ _ _ ⟨G1, s, hE, hN, hs, h.2⟩⟩
  | fuel + 1, listed, G1, w1, a, s, hE, hN, hs, h => by
    refine ⟨fun h0 => hQ _ _ ⟨G1, s, hE, hN, hs, h.1 h0⟩, fun i hi => ?_⟩
    obtain ⟨_, o, ho, _⟩ := mem_ready.1 hi
    obtain ⟨x, h1, hy, hrest⟩ := h.2 i hi o ho
    unfold wpOpIn
    rw [ho]
    simp only
    rcases hy with ⟨g, hc⟩ | ⟨g, rfl, rfl⟩
    · have hg := guard_sound hs g
      split at hg
      · rename_i hw
        rw [if_pos hw]
        refine Oper.wpIn_mono (fun a' w' hn => ?_) (aop_sound (r := r) (n := n) (N0 := N0) (Q := Q') hs hN (aop_of_out hc))
        obtain ⟨G2, s2, e2, n2, s2', rfl⟩ := hn
        exact any_sound hQ fuel _ G2 w' a' _ (hE.trans e2) n2 s2' hrest
      · exact hg.elim
    · have hg := guard_sound hs g
      split at hg
      · exact hg.elim
      · rename_i hw
        rw [if_neg hw]
        exact ⟨fun _ _ => trivial, any_sound hQ fuel _ G1 w1 _ _ hE hN (hs.put (.d (.v undef)) o.dst) hrest⟩
/-- A REGION THAT DRAWS: one walk in the order of the text -/
theorem aw_draw {id : Nat} {l : List Oper} (hm : P.follows .mixedOrders = true) (hl : lexD l.toArray = true) (h : aDraw P l.toArray l (Q .normal) s) : AWp P r N0 (.region id l.toArray true) Q s := by
  constructor
  intro G w a n hs hN
  unfold lexD at hl
  rw [Bool.and_eq_true] at hl
  obtain ⟨d1, d2⟩ := hs.drew
  refine wpIn_region_any hm ?_
  have hC : Closed (fun s => ∃ s', SEq s' s ∧ Q .normal s') := fun s s' e ⟨s0, e0, h0⟩ => ⟨s0, e0.trans e, h0⟩
  have := aAny_lex (K := Q .normal) hC (fun s h => ⟨s, SEq.refl s, h⟩) hl.1 l 0 (Array.replicate l.toArray.size false) s (by simp) (fun j hj => absurd hj (Nat.not_lt_zero _)) (fun j o ho hj => by
    exfalso
    rw [Array.getD_eq_getD_getElem?] at hj
    rw [Array.getElem?_replicate] at hj
    split at hj <;> simp at hj) (by simpa using hl.2) h
  refine any_sound (G := G) (w := w) (N0 := N0) (K := fun s => ∃ s', SEq s' s ∧ Q .normal s') (fun a' w' hn => ?_) l.toArray.size _ G _ a s (d1.less hN) hN d2 (by simpa using this)
  obtain ⟨G', s', x1, x2, x3, s0, e0, x4⟩ := hn
  refine ⟨G', s0, x1, x2, ⟨x3.size.trans e0.n.symm, fun i => by rw [e0.t i]; exact x3.tmp i, by rw [e0.h]; exact x3.inv, x3.df⟩, x4⟩
end

/-! ### words for the walk -/
/-- a guard's answer -/
def gYes (want : Bool) : AV → Bool
  | .d (.v (.bool b)) => b == want
  | _ => false
def gNo (want : Bool) : AV → Bool
  | .d (.v (.bool b)) => b == !want
  | .d (.v (.tuple _)) => true
  | _ => false
theorem gYes_b {w b : Bool} : gYes w (.d (.v (.bool b))) = (b == w) := rfl
theorem gNo_b {w b : Bool} : gNo w (.d (.v (.bool b))) = (b == !w) := rfl
theorem gNo_undef {w : Bool} : gNo w (.d (.v undef)) = true := rfl
theorem gYes_undef {w : Bool} : gYes w (.d (.v undef)) = false := rfl
def dstAt : List Oper → Nat → Option Nat
  | [], _ => none
  | o :: _, 0 => o.dst
  | _ :: l, j + 1 => dstAt l j
theorem dstAt_eq : ∀ (l : List Oper) (j : Nat), dstAt l j = (l[j]?).bind (·.dst)
  | [], j => by simp [dstAt]
  | o :: l, 0 => by simp [dstAt]
  | o :: l, j + 1 => by simp [dstAt, dstAt_eq l j]
def oget (t : List (Nat × AV)) : Option Nat → AV
  | some d => tget t d
  | none => .dead
def gSlot (ops : Array Oper) (j : Nat) (t : List (Nat × AV)) : AV := oget t ((ops[j]?).bind (·.dst))
theorem gSlot_eq {l : List Oper} {j : Nat} {t : List (Nat × AV)} : gSlot l.toArray j t = oget t (dstAt l j) := by unfold gSlot; rw [dstAt_eq, List.getElem?_toArray]
section
variable {P : Program} {ops : Array Oper} {dst : Option Nat} {op : Op} {ty : TypeId} {pos : String} {after : Array Edge} {j : Nat} {w : Bool} {s : St} {rest : List Oper} {K : St → Prop} {y n : Prop}
theorem aGuard_some : aGuard ops ⟨dst, op, ty, pos, after, some (j, w)⟩ s y n = (match gSlot ops j s.t with
    | .d (.v (.bool b)) => (b = w → y) ∧ (b = !w → n)
    | .d (.v (.tuple _)) => n
    | _ => False) := by
  show (match (ops[j]?).bind (·.dst) with
    | some d => match tget s.t d with
      | .d (.v (.bool b)) => (b = w → y) ∧ (b = !w → n)
      | .d (.v (.tuple _)) => n
      | _ => False
    | none => False) = _
  unfold gSlot
  cases (ops[j]?).bind (·.dst) <;> rfl
theorem aGuard_yes (h : gYes w (gSlot ops j s.t) = true) : aGuard ops ⟨dst, op, ty, pos, after, some (j, w)⟩ s y n = y := by
  rw [aGuard_some]
  unfold gYes at h
  split at h
  · next e => rw [e]; simp only [beq_iff_eq] at h; subst h; simp
  · simp at h
theorem aGuard_no (h : gNo w (gSlot ops j s.t) = true) : aGuard ops ⟨dst, op, ty, pos, after, some (j, w)⟩ s y n = n := by
  rw [aGuard_some]
  unfold gNo at h
  split at h
  · simp only [beq_iff_eq] at h; subst h; simp
  · rfl
  · simp at h
theorem aGuard_split {b : Bool} (hx : gSlot ops j s.t = .d (.v (.bool b))) (h1 : b = w → y) (h2 : b = !w → n) : aGuard ops ⟨dst, op, ty, pos, after, some (j, w)⟩ s y n := by
  rw [aGuard_some, hx]; exact ⟨h1, h2⟩
def isT : AV → Bool
  | .d (.v (.bool b)) => b
  | _ => false
def isF : AV → Bool
  | .d (.v (.bool b)) => !b
  | _ => false
theorem isT_b {b : Bool} : isT (.d (.v (.bool b))) = b := rfl
theorem isF_b {b : Bool} : isF (.d (.v (.bool b))) = !b := rfl
theorem isT_eq {x : AV} (h : isT x = true) : x = .d (.v (.bool true)) := by
  unfold isT at h; split at h
  · subst h; rfl
  · simp at h
theorem isF_eq {x : AV} (h : isF x = true) : x = .d (.v (.bool false)) := by
  unfold isF at h; split at h
  · simp at h; subst h; rfl
  · simp at h
end
def setT : List (Nat × AV) → List (Nat × AV) → List (Nat × AV)
  | [], _ => []
  | (k, x) :: l, ch => (k, bif (ch.any fun p => p.1 == k) then tget ch k else x) :: setT l ch
section
variable {P : Program} {r : Option Nat} {n N0 : Nat} {G : Gh} {w : World} {a : Act} {s : St} {o : Oper} {Q : Exit → St → Prop}
/-- a slice is not longer than a slice can be -/
theorem aw_len {c : Code} (k : Nat) {xs : List (List D)} (hx : (tget s.t k).list? = some xs) (h : xs.length ≤ maxLen → AWp P r N0 c Q s) : AWp P r N0 c Q s := by
  constructor
  intro G w a n hs hN
  obtain ⟨A, b, o, c', k', us, _, _, h1, h2, _⟩ := ((hs.tmp k).list hx).sl_iff
  exact (h (Nat.le_trans h1 h2)).run G w a n hs hN
theorem at_n {K : St → Prop} (h : K s) : AThen K Q .normal s := h
theorem at_e {K : St → Prop} {i : Nat} (h : Q (.exit i) s) : AThen K Q (.exit i) s := h
theorem at_r {K : St → Prop} (h : Q .ret s) : AThen K Q .ret s := h
theorem ab_n {id : Nat} (h : Q .normal s) : ABlock id Q .normal s := h
theorem ab_r {id : Nat} (h : Q .ret s) : ABlock id Q .ret s := h
theorem ab_y {id i : Nat} (e : (i == id) = true) (h : Q .normal s) : ABlock id Q (.exit i) s := by simpa only [ABlock, e, cond_true] using h
theorem ab_x {id i : Nat} (e : (i == id) = false) (h : Q (.exit i) s) : ABlock id Q (.exit i) s := by simpa only [ABlock, e, cond_false] using h
theorem aw_cond_t {c : Operand} {x y : Code} (hc : ev s c = .d (.v (.bool true))) (h : AWp P r N0 x Q s) : AWp P r N0 (.cond c x y) Q s := aw_cond hc (fun _ => h) fun h => Bool.noConfusion h
theorem aw_cond_f {c : Operand} {x y : Code} (hc : ev s c = .d (.v (.bool false))) (h : AWp P r N0 y Q s) : AWp P r N0 (.cond c x y) Q s := aw_cond hc (fun h => Bool.noConfusion h) fun _ => h
theorem aw_cond_h {c : Operand} {x y : Code} {t : Bool} (hc : ev s c = .d (.v (.bool t))) (e : t = true) (h : AWp P r N0 x Q s) : AWp P r N0 (.cond c x y) Q s := aw_cond_t (by rw [hc, e]) h
theorem aw_cond_g {c : Operand} {x y : Code} {t : Bool} (hc : ev s c = .d (.v (.bool t))) (e : t = false) (h : AWp P r N0 y Q s) : AWp P r N0 (.cond c x y) Q s := aw_cond_f (by rw [hc, e]) h
/-- THE LOOP, the temporaries that change given alone -/
theorem aw_loop_t {c : Code} {ι : Type} (live : List Nat) (m : Nat) (ch : ι → List (Nat × AV)) (I : ι → Prop) (μ : ι → Nat) (i0 : ι) (hm : N0 ≤ m) (hok : s.okMask live m) (h0 : (s.mask live m).t = setT (s.mask live m).t (ch i0)) (hI : I i0)
    (round : ∀ i, I i → AWp P r N0 c (AThen (fun s' => s'.okMask live m ∧ ∃ i', s'.mask live m = ⟨s.n, setT (s.mask live m).t (ch i'), (s.mask live m).h⟩ ∧ I i' ∧ μ i' < μ i) Q) ⟨s.n, setT (s.mask live m).t (ch i), (s.mask live m).h⟩) : AWp P r N0 (.loop c) Q s :=
  aw_loop live m (fun i => ⟨s.n, setT (s.mask live m).t (ch i), (s.mask live m).h⟩) I μ i0 hm hok (by rw [← h0]; rfl) hI round
/-- THE LOOP, with blocks that change -/
theorem aw_loop_h {c : Code} {ι : Type} (live : List Nat) (m : Nat) (ch : ι → List (Nat × AV)) (hp : ι → List Blk) (I : ι → Prop) (μ : ι → Nat) (i0 : ι) (hm : N0 ≤ m) (hok : s.okMask live m) (h0 : (s.mask live m).t = setT (s.mask live m).t (ch i0)) (h0' : (s.mask live m).h = hp i0) (hI : I i0)
    (round : ∀ i, I i → AWp P r N0 c (AThen (fun s' => s'.okMask live m ∧ ∃ i', s'.mask live m = ⟨s.n, setT (s.mask live m).t (ch i'), hp i'⟩ ∧ I i' ∧ μ i' < μ i) Q) ⟨s.n, setT (s.mask live m).t (ch i), hp i⟩) : AWp P r N0 (.loop c) Q s :=
  aw_loop live m (fun i => ⟨s.n, setT (s.mask live m).t (ch i), hp i⟩) I μ i0 hm hok (by rw [← h0, ← h0']; rfl) hI round
/-- a nil slice, or one that is full, as a slice of one's own -/
theorem aw_adopt {c : Code} (k : Nat) (e : TypeId) (sz : Nat) (xs : List (List D)) (hx : tget s.t k = .full xs ∨ (tget s.t k = .d (.v (.slice none 0 0)) ∧ xs = []))
    (h : AWp P r N0 c Q ⟨s.n, (k, .own s.h.length xs) :: s.t, s.h ++ [.front e sz xs.length]⟩) : AWp P r N0 c Q s := by
  constructor
  intro G w a n hs hN
  have hp : PRel G.S w (a.tmps.getD k undef) (.sl xs) ∧ ∃ A, a.tmps.getD k undef = .slice A xs.length xs.length := by
    have hv := hs.tmp k
    revert hv
    generalize a.tmps.getD k undef = u
    intro hv
    rcases hx with hx | ⟨hx, rfl⟩
    · rw [hx] at hv
      cases hv with | full _ hp hf => exact ⟨hp, hf⟩
    · rw [hx] at hv
      rw [hv.val]; exact ⟨nil_full, none, rfl⟩
  obtain ⟨a1, a2, a3, a4⟩ := adopt hs.inv hp.1 hp.2 e sz
  have hs' : Sat (G.addF (a.tmps.getD k undef) xs.length) w a ⟨s.n, (k, .own s.h.length xs) :: s.t, s.h ++ [.front e sz xs.length]⟩ := by
    refine ⟨hs.size, fun i => ?_, a3, hs.df.keep a1⟩
    show VRel _ _ _ (tget ((k, .own s.h.length xs) :: s.t) i)
    rw [tget_cons]
    split
    · next e => exact e ▸ a4
    · exact (hs.tmp i).keep a1 a2
  exact wpIn_mono (h.run _ w a n hs' (Nat.le_trans hN a2)) fun _ _ _ hn => hn.trans (a1.less hN)
end
theorem inv_recell {G : Gh} {w : World} {h : List Blk} {b : Nat} {cs cs' : List AV} (hi : Inv G w h) (hb : h[b]? = some (.cells cs)) (hl : cs'.length = cs.length)
    (hc : ∀ (vs : Array Value) (T : TypeId), w.heap[G.rho b]? = some (.cells vs T (0, 0)) → ∀ (i : Nat) (u : Value) (c : AV), vs[i]? = some u → cs'[i]? = some c → VRel G w u c) : Inv G w (h.set b (Blk.cells cs')) := by
  have ho : ∀ n, ownB (h.set b (Blk.cells cs')) G n = ownB h G n := fun n => by
    have hlt := (List.getElem?_eq_some_iff.1 hb).1
    unfold ownB
    by_cases e : b = n
    · subst e
      rw [List.getElem?_set_self hlt, hb]; rfl
    · rw [List.getElem?_set_ne e]
  refine ⟨by rw [List.length_set]; exact hi.len, hi.z, hi.S, fun n B hB => ?_, fun m n x hm hn => hi.inj m n x (by rw [← ho]; exact hm) (by rw [← ho]; exact hn), hi.gl⟩
  have hlt := (List.getElem?_eq_some_iff.1 hb).1
  by_cases e : b = n
  · subst e
    rw [List.getElem?_set_self hlt] at hB
    cases hB
    obtain ⟨h1, h2, vs, T, h3, h4, _⟩ := hi.blk _ _ hb
    exact ⟨h1, h2, vs, T, h3, h4.trans hl.symm, hc vs T h3⟩
  · rw [List.getElem?_set_ne e] at hB
    exact hi.blk n B hB
/-- the same for a slice that lies in a cell of an own block -/
theorem aw_adopt_c {P : Program} {r : Option Nat} {N0 : Nat} {s : St} {Q : Exit → St → Prop} {c : Code} (b i : Nat) (e : TypeId) (sz : Nat) (xs : List (List D)) {cs : List AV} (hb : s.h[b]? = some (.cells cs)) (hx : cs[i]? = some (.full xs) ∨ (cs[i]? = some (.d (.v (.slice none 0 0))) ∧ xs = []))
    (h : AWp P r N0 c Q ⟨s.n, s.t, (s.h ++ [Blk.front e sz xs.length]).set b (Blk.cells (cs.set i (AV.own s.h.length xs)))⟩) : AWp P r N0 c Q s := by
  constructor
  intro G w a n hs hN
  obtain ⟨h1, h2, vs, T, h3, h4, h5⟩ := hs.inv.blk _ _ hb
  have hi : i < cs.length := by rcases hx with hx | ⟨hx, _⟩ <;> exact (List.getElem?_eq_some_iff.1 hx).1
  have hv : vs[i]? = some vs[i] := Array.getElem?_eq_getElem (by omega)
  have hp : PRel G.S w vs[i] (.sl xs) ∧ ∃ A, vs[i] = .slice A xs.length xs.length := by
    rcases hx with hx | ⟨hx, rfl⟩
    · have := h5 i _ _ hv hx
      generalize vs[i] = u at this
      cases this with | full _ hp hf => exact ⟨hp, hf⟩
    · have := h5 i _ _ hv hx
      rw [this.val]; exact ⟨nil_full, none, rfl⟩
  obtain ⟨a1, a2, a3, a4⟩ := adopt hs.inv hp.1 hp.2 e sz
  have hlt := (List.getElem?_eq_some_iff.1 hb).1
  have hs' : Sat (G.addF vs[i] xs.length) w a ⟨s.n, s.t, (s.h ++ [Blk.front e sz xs.length]).set b (Blk.cells (cs.set i (AV.own s.h.length xs)))⟩ := by
    refine ⟨hs.size, fun j => (hs.tmp j).keep a1 a2, inv_recell a3 (by rw [List.getElem?_append_left hlt]; exact hb) (by rw [List.length_set]) fun vs' T' h3' j u c hu hc => ?_, hs.df.keep a1⟩
    have e1 : (G.addF vs[i] xs.length).rho b = G.rho b := by
      have : b ≠ G.N := by have := hs.inv.len; omega
      simp [Gh.addF]
    rw [e1, h3] at h3'
    cases h3'
    by_cases e2 : i = j
    · subst e2
      rw [List.getElem?_set_self hi] at hc
      cases hc
      rw [hv] at hu
      cases hu
      exact a4
    · rw [List.getElem?_set_ne e2] at hc
      exact (h5 j u c hu hc).keep a1 a2
  exact wpIn_mono (h.run _ w a n hs' (Nat.le_trans hN a2)) fun _ _ _ hn => hn.trans (a1.less hN)
theorem AFn.q {P : Program} {f : FuncId} {args : List AV} {r : AV} {h : List Blk} {C : AV → Prop} (hc : AFn P f args (· = r)) (ha : args.all (AV.lowB 0) = true) (hr : r.lowB 0 = true) (hC : C r) : QCall P f args h C :=
  ⟨r, hC, fun _ => hc.use ha hr ⟨rfl, rfl⟩⟩
/-! ### a value may be known less exactly -/
def AV.Le (x y : AV) : Prop := ∀ (G : Gh) (w : World) (u : Value), VRel G w u x → VRel G w u y
theorem AV.Le.refl (x : AV) : AV.Le x x := fun _ _ _ h => h
theorem AV.Le.full (xs : List (List D)) : AV.Le (.full xs) (.d (.sl xs)) := fun _ _ _ h => by
  cases h with | full _ hp _ => exact .d hp
theorem AV.Le.nil : AV.Le (.d (.v (.slice none 0 0))) (.d (.sl [])) := fun _ _ _ h => by
  rw [h.val]; exact .d nil_full
theorem AV.Le.agg {cs ds : List AV} (hl : cs.length = ds.length) (h : ∀ (i : Nat) (c d : AV), cs[i]? = some c → ds[i]? = some d → AV.Le c d) : AV.Le (.agg cs) (.agg ds) := fun G w u hu => by
  cases hu with
  | agg vs _ hl' hv =>
    refine .agg vs ds (hl'.trans hl) fun i u d hui hd => ?_
    have hlt : i < cs.length := by rw [hl]; exact (List.getElem?_eq_some_iff.1 hd).1
    exact h i _ d (List.getElem?_eq_getElem hlt) hd G w u (hv i u _ hui (List.getElem?_eq_getElem hlt))
theorem AV.Le.agg2 {a b c d : AV} (h1 : AV.Le a c) (h2 : AV.Le b d) : AV.Le (.agg [a, b]) (.agg [c, d]) := AV.Le.agg rfl fun i x y hx hy => by
  match i with
  | 0 => cases hx; cases hy; exact h1
  | 1 => cases hx; cases hy; exact h2
  | i + 2 => simp at hx
theorem AFn.weak {P : Program} {f : FuncId} {args : List AV} {r r' : AV} (hc : AFn P f args (· = r)) (h : AV.Le r r') : AFn P f args (· = r') := by
  refine ⟨hc.1, fun G w vs hi hl hr => (hc.2 G w vs hi hl hr).mono fun e w' hp => ?_⟩
  obtain ⟨v, G', _, h', rfl, hE, hN, hi', hv, rfl, rfl⟩ := hp
  exact ⟨v, G', r', [], rfl, hE, hN, hi', h _ _ _ hv, rfl, rfl⟩
theorem afn_intro {P : Program} {f : FuncId} {args : List AV} {K : AV → Prop} (h : ACalls P f args [] fun r h' => h' = [] ∧ K r) : AFn P f args K := h
end Go.Proofs.YtaiihhogoogkmaaGreatDoor
