/-
  Why the small language's operations on slices that may be written are right.
-/
import Derived.Test.YtaiihhogoogkmaaGreatDoorAbsMap
namespace Go.Proofs.YtaiihhogoogkmaaGreatDoor
open Go.RowKit
set_option linter.unusedVariables false
set_option linter.unusedSimpArgs false

section
variable {P : Program} {G : Gh} {w : World} {h : List Blk}
/-- a block's slice and list, one step on -/
theorem inv_upd {w' : World} (hi : Inv G w h) {n : Nat} {B B' : Blk} (hn : h[n]? = some B) (hB1 : ∀ G' : Gh, B.own1 G' n = G'.ow n) (hB2 : ∀ G' : Gh, B'.own1 G' n = G'.ow n) (S : Nat → Nat → Prop) (v : Value) (len : Nat) (ow : Option Nat)
    (hE : Ext G.N G w (G.grow n S v len ow) w') (hg : ∀ g, ow = some g → (g = w.heap.size ∨ G.ow n = some g) ∧ g < w'.heap.size)
    (hS : ∀ b o, S b o → G.S b o ∨ ow = some b) (hoth : ∀ b, b < w.heap.size → ow ≠ some b → w'.heap[b]? = w.heap[b]?)
    (hB : BRel (G.grow n S v len ow) w' n B') : Inv (G.grow n S v len ow) w' (h.set n B') := by
  have hget : ∀ m, m ≠ n → (h.set n B')[m]? = h[m]? := fun m hm => by rw [List.getElem?_set_ne (Ne.symm hm)]
  have hgn : (h.set n B')[n]? = some B' := by rw [List.getElem?_set_self (List.getElem?_eq_some_iff.1 hn).1]
  have hown1 : ∀ m (C : Blk), m ≠ n → C.own1 (G.grow n S v len ow) m = C.own1 G m := fun m C hm => by
    cases C <;> simp [Blk.own1, Gh.grow, hm]
  have hown : ∀ m, m ≠ n → ownB (h.set n B') (G.grow n S v len ow) m = ownB h G m := fun m hm => by
    unfold ownB; rw [hget m hm]
    cases h[m]? with
    | none => rfl
    | some C => exact hown1 m C hm
  have hown2 : ownB (h.set n B') (G.grow n S v len ow) n = ow := by rw [ownB_of hgn, hB2]; simp [Gh.grow]
  have hng : ∀ m b, m ≠ n → ow = some b → ownB h G m ≠ some b := fun m b hm ho hb => by
    rcases (hg b ho).1 with hg | hg
    · have := hi.ownlt hb; omega
    · exact hm (hi.inj m n b hb ((ownB_of hn).trans ((hB1 G).trans hg)))
  refine ⟨by rw [List.length_set]; exact hi.len, fun b hb => Nat.lt_of_lt_of_le (hi.z b hb) hE.size, fun b o hs => ?_, fun m C hm => ?_, fun m m' b h1 h2 => ?_, hi.gl.keep hE⟩
  · rcases hS b o hs with hs | hs
    · exact Nat.lt_of_lt_of_le (hi.S b o hs) hE.size
    · exact (hg b hs).2
  · by_cases em : m = n
    · subst em; rw [hgn] at hm; cases hm; exact hB
    · rw [hget m em] at hm
      refine BRel.keep (hi.lt hm) hE (Nat.le_refl _) ⟨by simp [Gh.grow, em], by simp [Gh.grow, em], by simp [Gh.grow, em]⟩ (fun b hb => ?_) (hi.blk m C hm)
      have hr : ownB h G m = some b := (ownB_of hm).trans hb
      have hne : ow ≠ some b := fun e' => hng m b em e' hr
      refine ⟨hoth _ (hi.ownlt hr) hne, fun o hns hs => ?_⟩
      rcases hS _ o hs with hs | hs
      · exact hns hs
      · exact hne hs
  · by_cases e1 : m = n <;> by_cases e2 : m' = n
    · rw [e1, e2]
    · subst e1
      rw [hown m' e2] at h2
      rw [hown2] at h1
      exact absurd h2 (hng m' b e2 h1)
    · subst e2
      rw [hown m e1] at h1
      rw [hown2] at h2
      exact absurd h1 (hng m b e1 h2)
    · rw [hown m e1] at h1; rw [hown m' e2] at h2; exact hi.inj m m' b h1 h2
/-- a new block with a slice of its own -/
def Gh.addV (G : Gh) (v : Value) (len : Nat) (ow : Option Nat) : Gh :=
  { G with N := G.N + 1, sg := fun n => if n = G.N then v else G.sg n, fl := fun n => if n = G.N then len else G.fl n, ow := fun n => if n = G.N then ow else G.ow n }
theorem inv_new {w' : World} (hi : Inv G w h) (B : Blk) (hB1 : ∀ (G' : Gh) n, B.own1 G' n = G'.ow n) (v : Value) (len : Nat) (ow : Option Nat) (hw : (∀ b, b < w.heap.size → w'.heap[b]? = w.heap[b]?) ∧ w.heap.size ≤ w'.heap.size ∧ w'.os = w.os ∧ w'.tape = w.tape ∧ w'.output = w.output)
    (how : ∀ g, ow = some g → w.heap.size ≤ g)
    (hB : BRel (G.addV v len ow) w' G.N B) : Ext G.N G w (G.addV v len ow) w' ∧ Inv (G.addV v len ow) w' (h ++ [B]) := by
  have hne : ∀ n, n < G.N → n ≠ G.N := fun n hn => Nat.ne_of_lt hn
  have hE : Ext G.N G w (G.addV v len ow) w' := ⟨hw.2.1, fun _ _ h => h, fun b o hs => World.cell?_of_block (hw.1 b (hi.S b o hs)), fun _ _ => rfl, fun n hn => .inl ⟨by simp [Gh.addV, hne n hn], by simp [Gh.addV, hne n hn]⟩, zsame rfl, fun b hb => hw.1 b (hi.z b hb), hw.2.2.1, hw.2.2.2.1, hw.2.2.2.2, fun _ _ h => .inl h⟩
  have hN : G.N ≤ (G.addV v len ow).N := Nat.le_succ _
  have hown1 : ∀ n (C : Blk), n < G.N → C.own1 (G.addV v len ow) n = C.own1 G n := fun n C hn => by
    cases C <;> simp [Blk.own1, Gh.addV, Nat.ne_of_lt hn]
  have key : ∀ n b, ownB (h ++ [B]) (G.addV v len ow) n = some b → (n < G.N ∧ ownB h G n = some b) ∨ (n = G.N ∧ ow = some b) := fun n b hb => by
    by_cases hn : n < h.length
    · unfold ownB at hb
      rw [List.getElem?_append_left hn, List.getElem?_eq_getElem hn] at hb
      exact .inl ⟨hi.len ▸ hn, by unfold ownB; rw [List.getElem?_eq_getElem hn, ← hb]; exact (hown1 n _ (hi.len ▸ hn)).symm⟩
    · by_cases en : n = h.length
      · subst en
        rw [ownB_of (B := B) (by simp), hB1] at hb
        exact .inr ⟨hi.len, by simpa [Gh.addV, hi.len] using hb⟩
      · rw [ownB_none (List.getElem?_eq_none (by simp; omega))] at hb
        cases hb
  refine ⟨hE, by simp [Gh.addV, hi.len], fun b hb => Nat.lt_of_lt_of_le (hi.z b hb) hw.2.1, fun b o hs => Nat.lt_of_lt_of_le (hi.S b o hs) hw.2.1, fun n C hC => ?_, fun m n b h1 h2 => ?_, hi.gl.keep hE⟩
  · by_cases hn : n < h.length
    · rw [List.getElem?_append_left hn] at hC
      have hn' : n < G.N := hi.len ▸ hn
      exact BRel.keep hn' hE hN ⟨by simp [Gh.addV, hne n hn'], by simp [Gh.addV, hne n hn'], by simp [Gh.addV, hne n hn']⟩ (fun b hb => ⟨hw.1 b (hi.ownlt ((ownB_of hC).trans hb)), fun o h => h⟩) (hi.blk n C hC)
    · have hn2 : n = h.length := by
        have := (List.getElem?_eq_some_iff.1 hC).1
        simp at this; omega
      subst hn2
      simp at hC
      subst hC
      rw [hi.len]; exact hB
  · rcases key m b h1 with ⟨_, a1⟩ | ⟨rfl, a1⟩ <;> rcases key n b h2 with ⟨_, b1⟩ | ⟨rfl, b1⟩
    · exact hi.inj m n b a1 b1
    · have := hi.ownlt a1; have := how b b1; omega
    · have := hi.ownlt b1; have := how b a1; omega
    · rfl
/-- what a written slice's value is -/
theorem VRel.vecOK {n o len L k : Nat} {e : TypeId} {cs : List (List AV)} {u : Value} (hi : Inv G w h) (hn : h[n]? = some (.vec e k cs)) (hL : cs.length = L) (hv : VRel G w u (.vec n o len L k)) : VecOK (G.sg n) u o len L k := by
  have hb := (hi.blk n _ hn).1
  cases hv with | vec _ _ _ _ _ h1 h2 h3 h4 => exact h4 (by rw [← hL, hb])
theorem VRel.vptrOK {n i j L k : Nat} {e : TypeId} {k' : Nat} {cs : List (List AV)} {u : Value} (hi : Inv G w h) (hn : h[n]? = some (.vec e k' cs)) (hL : cs.length = L) (hv : VRel G w u (.vptr n i j L k)) : VptrOK (G.sg n) u i j L k := by
  have hb := (hi.blk n _ hn).1
  cases hv with | vptr _ _ _ _ _ h1 h2 h3 h4 => exact h4 (by rw [← hL, hb])
/-- the concrete block of a list that is not empty -/
theorem vec_real {n : Nat} {e k : Nat} {cs : List (List AV)} (hi : Inv G w h) (hn : h[n]? = some (.vec e k cs)) (hne : cs ≠ []) : ∃ (g cap : Nat) (cur : Array Value), G.ow n = some g ∧ G.sg n = .slice (some ⟨g, 0, none⟩) cs.length cap ∧ ¬ G.Z g ∧ w.heap[g]? = some (.cells cur e (0, 0)) ∧ cs.length ≤ cap ∧ cap ≤ maxLen ∧ cur.size = cap * k ∧ (∀ o, ¬ G.S g o) ∧
        ∀ (i j : Nat) (c : List AV) (x : AV) (u : Value), cs[i]? = some c → c[j]? = some x → cur[i * k + j]? = some u → VRel G w u x := by
  obtain ⟨_, _, _, h4 | h4⟩ := hi.blk n _ hn
  · exact absurd h4.2.1 hne
  · exact h4
theorem vec_wid {n : Nat} {e k : Nat} {cs : List (List AV)} (hi : Inv G w h) (hn : h[n]? = some (.vec e k cs)) : ∀ c ∈ cs, c.length = k := (hi.blk n _ hn).2.2.1
theorem mul_lt_of {i k L j : Nat} (hi : i < L) (hj : j < k) : i * k + j < L * k := by
  have : (i + 1) * k ≤ L * k := Nat.mul_le_mul_right k hi
  rw [Nat.add_mul] at this; omega
theorem divmod_of {i k j : Nat} (hj : j < k) : (i * k + j) / k = i ∧ (i * k + j) % k = j := by
  have hk : 0 < k := by omega
  exact ⟨by rw [Nat.add_comm, Nat.add_mul_div_right _ _ hk, Nat.div_eq_of_lt hj, Nat.zero_add], by rw [Nat.add_comm, Nat.add_mul_mod_self_right, Nat.mod_eq_of_lt hj]⟩
theorem ij_inj {i i' j j' k : Nat} (hj : j < k) (hj' : j' < k) (e : i * k + j = i' * k + j') : i = i' ∧ j = j' := by
  have h1 := divmod_of (i := i) hj
  have h2 := divmod_of (i := i') hj'
  exact ⟨by rw [← h1.1, ← h2.1, e], by rw [← h1.2, ← h2.2, e]⟩
theorem run_vload {t n i j L k : Nat} {e : TypeId} {cs : List (List AV)} {c : List AV} {x : AV} {v : Value} (hi : Inv G w h) (hn : h[n]? = some (.vec e k cs)) (hL : cs.length = L) (hc : cs[i]? = some c) (hx : ldC P t c j = some x) (hv : VRel G w v (.vptr n i j L k)) :
    ∃ u, (Instr.loadAt t v).run P w = .ok u w ∧ VRel G w u x := by
  have hil : i < cs.length := (List.getElem?_eq_some_iff.1 hc).1
  have hck : c.length = k := vec_wid hi hn c (List.mem_of_getElem? hc)
  obtain ⟨g, cap, cur, r1, r2, r3, r4, r5, r6, r7, r8, r9⟩ := vec_real hi hn (fun e => by subst e; simp at hil)
  obtain ⟨_, g', cap', p1, p2⟩ := hv.vptrOK hi hn hL
  rw [r2] at p1
  cases p1
  have h1 : ∀ q, q < c.length → w.cell? ⟨g, i * k + q, none⟩ = some (cur.getD (i * k + q) undef) := fun q hq => by
    rw [cell_of_row w g _ cur e (0, 0) r4]
    have : i * k + q < cur.size := by
      rw [r7]; exact Nat.lt_of_lt_of_le (mul_lt_of hil (by omega)) (Nat.mul_le_mul_right k r5)
    simp [Array.getD, this]
  have h2 : ∀ (q : Nat) (y : AV), c[q]? = some y → VRel G w (cur.getD (i * k + q) undef) y := fun q y hq => by
    have hq' := (List.getElem?_eq_some_iff.1 hq).1
    have hlt : i * k + q < cur.size := by
      rw [r7]; exact Nat.lt_of_lt_of_le (mul_lt_of hil (by omega)) (Nat.mul_le_mul_right k r5)
    have e1 : cur[i * k + q]? = some (cur.getD (i * k + q) undef) := by simp [Array.getD, hlt]
    exact r9 i q c y _ hc hq e1
  have key := load_key (P := P) (G := G) (w := w) (t := t) (C := (· = x)) g (i * k) c j (fun q => cur.getD (i * k + q) undef) h1 h2 (by
    unfold ldC at hx
    revert hx
    cases aggT P t with
    | none => intro hx; cases hx
    | some ag =>
      cases szT P t with
      | none => cases ag <;> (intro hx; cases hx)
      | some kk =>
        cases ag with
        | true =>
          simp only
          intro hx
          cases hb : leB (j + kk) c.length with
          | false => rw [hb] at hx; cases hx
          | true => rw [hb] at hx; cases hx; exact rfl
        | false =>
          simp only
          intro hx
          rw [hx])
  obtain ⟨u, y, k1, k2, rfl⟩ := key
  refine ⟨u, ?_, k2⟩
  rw [p2]
  simp [Instr.loadAt, Instr.sureAddr, k1]
theorem run_storeVar_at {t b off k : Nat} {T : TypeId} {v : Value} {vs : Array Value} (hh : w.heap[b]? = some (.cells vs T (0, 0))) (ht : szT P t = some k) (hk : v.cells.size = k) (hone : ∀ u ∈ v.cells.toList, u.oneCell' = true) (hb : off + k ≤ vs.size) :
    (storeVar t ⟨b, off, none⟩ v).run P w = .ok () (w.setRow b (vs.toList.take off ++ v.cells.toList ++ vs.toList.drop (off + v.cells.toList.length)).toArray) := by
  obtain ⟨i, hi1, hi2⟩ := szT_info ht
  have hst := run_storeCells_at P b off T v.cells.toList 0 vs w hh (by rw [Array.length_toList, hk]; simpa using hb) hone
  simp only [Nat.add_zero] at hst
  unfold storeVar
  simp only [sizeOf, typeInfo, Sem.run_bind, hk]
  simp [hi1, hi2, hst]
theorem row_get (vs : Array Value) (us : List Value) (off q : Nat) (hb : off + us.length ≤ vs.size) : (vs.toList.take off ++ us ++ vs.toList.drop (off + us.length)).toArray[q]? = if off ≤ q ∧ q < off + us.length then us[q - off]? else vs[q]? := by
  rw [List.getElem?_toArray, List.append_assoc]
  have hvl : vs.toList.length = vs.size := Array.length_toList
  by_cases h1 : q < off
  · rw [List.getElem?_append_left (by simp; omega), List.getElem?_take_of_lt h1, if_neg (by omega), Array.getElem?_toList]
  · rw [List.getElem?_append_right (by simp; omega)]
    simp only [List.length_take, hvl]
    rw [Nat.min_eq_left (by omega)]
    by_cases h2 : q < off + us.length
    · rw [List.getElem?_append_left (by omega), if_pos (by omega)]
    · rw [List.getElem?_append_right (by omega), List.getElem?_drop, if_neg (by omega), show off + us.length + (q - off - us.length) = q by omega, Array.getElem?_toList]
theorem row_size (vs : Array Value) (us : List Value) (off : Nat) (hb : off + us.length ≤ vs.size) : (vs.toList.take off ++ us ++ vs.toList.drop (off + us.length)).toArray.size = vs.size := by
  simp only [List.size_toArray, List.length_append, List.length_take, List.length_drop, Array.length_toList]
  omega
theorem splice_get (cs ys : List AV) (off q : Nat) (hb : off + ys.length ≤ cs.length) : (splice cs off ys)[q]? = if off ≤ q ∧ q < off + ys.length then ys[q - off]? else cs[q]? := by
  unfold splice
  rw [List.append_assoc]
  by_cases h1 : q < off
  · rw [List.getElem?_append_left (by simp; omega), List.getElem?_take_of_lt h1, if_neg (by omega)]
  · rw [List.getElem?_append_right (by simp; omega)]
    simp only [List.length_take]
    rw [Nat.min_eq_left (by omega)]
    by_cases h2 : q < off + ys.length
    · rw [List.getElem?_append_left (by omega), if_pos (by omega)]
    · rw [List.getElem?_append_right (by omega), List.getElem?_drop, if_neg (by omega), show off + ys.length + (q - off - ys.length) = q by omega]
/-- the cells of a written slice change in place -/
theorem vec_write {n e k g cap : Nat} {cs cs' : List (List AV)} {cur : Array Value} {us : List Value} {off : Nat} (hi : Inv G w h) (hn : h[n]? = some (.vec e k cs)) (hk0 : 0 < k) (r1 : G.ow n = some g) (r2 : G.sg n = .slice (some ⟨g, 0, none⟩) cs.length cap) (r3 : ¬ G.Z g) (r4 : w.heap[g]? = some (.cells cur e (0, 0))) (r5 : cs.length ≤ cap) (r6 : cap ≤ maxLen) (r7 : cur.size = cap * k) (r8 : ∀ o, ¬ G.S g o)
    (hb : off + us.length ≤ cur.size) (hl : cs'.length = cs.length) (hwid : ∀ c ∈ cs', c.length = k)
    (hrel : ∀ (i j : Nat) (c : List AV) (x : AV) (u : Value), cs'[i]? = some c → c[j]? = some x → (if off ≤ i * k + j ∧ i * k + j < off + us.length then us[i * k + j - off]? else cur[i * k + j]?) = some u → VRel G w u x) :
    ∃ G', Ext G.N G w G' (w.setRow g (cur.toList.take off ++ us ++ cur.toList.drop (off + us.length)).toArray) ∧ G'.N = G.N ∧ Inv G' (w.setRow g (cur.toList.take off ++ us ++ cur.toList.drop (off + us.length)).toArray) (h.set n (.vec e k cs')) ∧ (∀ m, G'.sg m = G.sg m) ∧ (∀ m, G'.fl m = G.fl m) := by
  obtain ⟨w', hw'⟩ : ∃ w', w' = w.setRow g (cur.toList.take off ++ us ++ cur.toList.drop (off + us.length)).toArray := ⟨_, rfl⟩
  rw [← hw']
  have hoth : ∀ b, b ≠ g → w'.heap[b]? = w.heap[b]? := fun b hb => by rw [hw']; exact setRow_other w g b _ hb
  have hrow : w'.heap[g]? = some (.cells (cur.toList.take off ++ us ++ cur.toList.drop (off + us.length)).toArray e (0, 0)) := by rw [hw']; exact setRow_heap w g cur _ e _ r4
  have hsz : w'.heap.size = w.heap.size := by rw [hw']; exact setRow_size w g _
  obtain ⟨G', hG'⟩ : ∃ G', G' = G.grow n G.S (G.sg n) (G.fl n) (some g) := ⟨_, rfl⟩
  have hsg : ∀ m, G'.sg m = G.sg m := fun m => by rw [hG']; simp only [Gh.grow]; split <;> simp_all
  have hfl : ∀ m, G'.fl m = G.fl m := fun m => by rw [hG']; simp only [Gh.grow]; split <;> simp_all
  have hE : Ext G.N G w G' w' := ⟨by rw [hsz]; exact Nat.le_refl _, fun b o h => by rw [hG']; exact h, fun b o hs => World.cell?_of_block (hoth b (fun e => r8 o (e ▸ hs))), fun _ _ => by rw [hG']; rfl, fun m _ => .inl ⟨hfl m, hsg m⟩, zsame (by rw [hG']; rfl) (by rw [hG']; rfl), fun b hb => hoth b (fun e => r3 (e ▸ hb)), by rw [hw']; rfl, by rw [hw']; rfl, by rw [hw']; rfl, fun b o hs => .inl (by rw [hG'] at hs; exact hs)⟩
  have hb0 := hi.blk n _ hn
  refine ⟨G', hE, by rw [hG']; rfl, ?_, hsg, hfl⟩
  subst hG'
  refine inv_upd hi hn (fun _ => rfl) (fun _ => rfl) _ _ _ _ hE (fun g' hg' => ?_) (fun b o hs => .inl hs) (fun b _ hb' => hoth b (fun e => hb' (by rw [e]))) ?_
  · cases hg'; exact ⟨.inr r1, by rw [hsz]; exact (Array.getElem?_eq_some_iff.1 r4).1⟩
  · refine ⟨by rw [hfl, hl]; exact hb0.1, by rw [hl]; exact hb0.2.1, hwid, .inr ⟨g, cap, _, by simp [Gh.grow], by rw [hsg, hl]; exact r2, r3, hrow, by rw [hl]; exact r5, r6, by rw [row_size _ _ _ hb]; exact r7, r8, fun i j c x u hc hx hu => ?_⟩⟩
    rw [row_get _ _ _ _ hb] at hu
    exact (hrel i j c x u hc hx hu).keep hE (Nat.le_refl _)
theorem run_vstore {t n i j L k : Nat} {e : TypeId} {cs : List (List AV)} {c : List AV} {x : AV} {v u : Value} (hi : Inv G w h) (hn : h[n]? = some (.vec e k cs)) (hL : cs.length = L) (hc : cs[i]? = some c) (hv : VRel G w v (.vptr n i j L k)) (hx : VRel G w u x) (hbox : x.boxB = true) (ht : szT P t = some x.cells.length) (hj : j + x.cells.length ≤ k) (hk0 : 0 < k) :
    ∃ w' G', (Instr.storeAt t v u).run P w = .ok () w' ∧ Ext G.N G w G' w' ∧ G.N ≤ G'.N ∧ Inv G' w' (h.set n (.vec e k (cs.set i (splice c j x.cells)))) := by
  have hil : i < cs.length := (List.getElem?_eq_some_iff.1 hc).1
  have hwid := vec_wid hi hn
  have hck : c.length = k := hwid c (List.mem_of_getElem? hc)
  obtain ⟨g, cap, cur, r1, r2, r3, r4, r5, r6, r7, r8, r9⟩ := vec_real hi hn (fun e => by subst e; simp at hil)
  obtain ⟨_, g', cap', p1, p2⟩ := hv.vptrOK hi hn hL
  rw [r2] at p1
  cases p1
  obtain ⟨c1, c2⟩ := hx.cells hbox
  have hul : u.cells.toList.length = x.cells.length := by rw [Array.length_toList, c1]
  have hone : ∀ y ∈ u.cells.toList, y.oneCell' = true := fun y hy => by
    obtain ⟨q, hq⟩ := List.mem_iff_getElem?.1 hy
    have hq' : u.cells[q]? = some y := by rw [← Array.getElem?_toList]; exact hq
    have hql : q < x.cells.length := by rw [← c1]; exact (Array.getElem?_eq_some_iff.1 hq').1
    exact (c2 q y _ hq' (List.getElem?_eq_getElem hql)).2
  have hfit : i * k + j + x.cells.length ≤ cur.size := by
    have h1 : (i + 1) * k ≤ cap * k := Nat.mul_le_mul_right k (Nat.lt_of_lt_of_le hil r5)
    rw [Nat.add_mul] at h1
    rw [r7]; omega
  have hrun := run_storeVar_at (P := P) (off := i * k + j) r4 ht c1 hone hfit
  obtain ⟨G', e1, e2, e3, _⟩ := vec_write (us := u.cells.toList) (off := i * k + j) (cs' := cs.set i (splice c j x.cells)) hi hn hk0 r1 r2 r3 r4 r5 r6 r7 r8 (by rw [hul]; exact hfit) (by rw [List.length_set]) (fun d hd => by
      obtain ⟨q, hq⟩ := List.mem_iff_getElem?.1 hd
      by_cases e : i = q
      · subst e
        rw [List.getElem?_set_self hil] at hq
        cases hq
        rw [splice_length _ _ _ (by omega)]; exact hck
      · rw [List.getElem?_set_ne e] at hq
        exact hwid d (List.mem_of_getElem? hq)) (fun a b d y z hd hy hz => by
      have hbk : b < k := by
        by_cases e : i = a
        · subst e
          rw [List.getElem?_set_self hil] at hd
          cases hd
          have := (List.getElem?_eq_some_iff.1 hy).1
          rw [splice_length _ _ _ (by omega)] at this; omega
        · rw [List.getElem?_set_ne e] at hd
          rw [← hwid d (List.mem_of_getElem? hd)]; exact (List.getElem?_eq_some_iff.1 hy).1
      rw [hul] at hz
      by_cases e : i = a
      · subst e
        rw [List.getElem?_set_self hil] at hd
        cases hd
        rw [splice_get _ _ _ _ (by omega)] at hy
        by_cases hb : j ≤ b ∧ b < j + x.cells.length
        · rw [if_pos hb] at hy
          rw [if_pos (by omega), show i * k + b - (i * k + j) = b - j by omega, Array.getElem?_toList] at hz
          exact (c2 _ _ _ hz hy).1
        · rw [if_neg hb] at hy
          rw [if_neg (by omega)] at hz
          exact r9 i b c y z hc hy hz
      · rw [List.getElem?_set_ne e] at hd
        rw [if_neg ?_] at hz
        · exact r9 a b d y z hd hy hz
        · intro hh
          have : a * k + b = i * k + (a * k + b - i * k) := by omega
          exact e ((ij_inj (i := a) (i' := i) (j := b) (j' := a * k + b - i * k) hbk (by omega) this).1.symm))
  refine ⟨_, G', ?_, e1, by rw [e2]; exact Nat.le_refl _, e3⟩
  rw [p2]
  simp [Instr.storeAt, Instr.sureAddr, hrun]
end
end Go.Proofs.YtaiihhogoogkmaaGreatDoor
