/-
  Why the small language's reading of memory is right, continued: an append.
-/
import Derived.Test.YtaiihhogoogkmaaGreatDoorAbsStore
import Derived.Deep.AppendSrc
import Derived.Deep.Upon
namespace Go.Proofs.YtaiihhogoogkmaaGreatDoor
open Go.RowKit

/-- the cells of a list of data, in order -/
structure Rd (S : Nat → Nat → Prop) (w : World) (k : Nat) (xs : List (List D)) (us : List Value) : Prop where
  len : us.length = xs.length * k
  wid : ∀ x ∈ xs, x.length = k
  one : ∀ u ∈ us, u.oneCell' = true
  rel : ∀ (i j : Nat) (x : List D) (d : D), xs[i]? = some x → x[j]? = some d → ∃ u, us[i * k + j]? = some u ∧ PRel S w u d
theorem Rd.keep {S S' : Nat → Nat → Prop} {w w' : World} {k : Nat} {xs : List (List D)} {us : List Value} (h : Rd S w k xs us) (hS : ∀ b o, S b o → S' b o) (hc : ∀ b o, S b o → w'.cell? ⟨b, o, none⟩ = w.cell? ⟨b, o, none⟩) : Rd S' w' k xs us :=
  ⟨h.len, h.wid, h.one, fun i j x d hx hd => let ⟨u, h1, h2⟩ := h.rel i j x d hx hd; ⟨u, h1, h2.keep hS hc⟩⟩
theorem Rd.append {S : Nat → Nat → Prop} {w : World} {k : Nat} {xs ys : List (List D)} {us vs : List Value} (h : Rd S w k xs us) (h' : Rd S w k ys vs) : Rd S w k (xs ++ ys) (us ++ vs) := by
  refine ⟨by rw [List.length_append, List.length_append, h.len, h'.len, Nat.add_mul], fun x hx => ?_, fun u hu => ?_, fun i j x d hx hd => ?_⟩
  · rcases List.mem_append.1 hx with hx | hx
    · exact h.wid x hx
    · exact h'.wid x hx
  · rcases List.mem_append.1 hu with hu | hu
    · exact h.one u hu
    · exact h'.one u hu
  · by_cases hi : i < xs.length
    · rw [List.getElem?_append_left hi] at hx
      obtain ⟨u, h1, h2⟩ := h.rel i j x d hx hd
      exact ⟨u, by rw [List.getElem?_append_left (List.getElem?_eq_some_iff.1 h1).1]; exact h1, h2⟩
    · rw [List.getElem?_append_right (by omega)] at hx
      obtain ⟨u, h1, h2⟩ := h'.rel (i - xs.length) j x d hx hd
      refine ⟨u, ?_, h2⟩
      have e : i * k + j = xs.length * k + ((i - xs.length) * k + j) := by rw [Nat.sub_mul]; have := Nat.mul_le_mul_right k (Nat.le_of_not_lt hi); omega
      rw [e, List.getElem?_append_right (by rw [h.len]; omega), h.len, Nat.add_sub_cancel_left]; exact h1
/-- a row of cells in memory, all of S, reads as the list -/
theorem Rd.prel {S : Nat → Nat → Prop} {w : World} {k : Nat} {xs : List (List D)} {us : List Value} (h : Rd S w k xs us) (b c : Nat) (hc : xs.length ≤ c) (hm : c ≤ maxLen)
    (hS : ∀ o, o < xs.length * k → S b o) (hcell : ∀ (o : Nat) (u : Value), us[o]? = some u → w.cell? ⟨b, o, none⟩ = some u) : PRel S w (.slice (some ⟨b, 0, none⟩) xs.length c) (.sl xs) := by
  refine .sl _ b 0 c k xs (fun i j => us.getD (i * k + j) undef) (fun _ => rfl) hc hm h.wid (fun i j hi hj => ?_) (fun i j x d hx hd => ?_)
  · have hlt : i * k + j < xs.length * k := by
      have : (i + 1) * k ≤ xs.length * k := Nat.mul_le_mul_right k hi
      rw [Nat.add_mul] at this; omega
    have hg : us[i * k + j]? = some (us[i * k + j]'(by rw [h.len]; exact hlt)) := List.getElem?_eq_getElem (by rw [h.len]; exact hlt)
    rw [Nat.zero_add]
    refine ⟨hS _ hlt, ?_, ?_⟩
    · rw [hcell _ _ hg]; simp [hg]
    · simp only [List.getD_eq_getElem?_getD, hg, Option.getD_some]; exact h.one _ (List.getElem_mem _)
  · obtain ⟨u, h1, h2⟩ := h.rel i j x d hx hd
    simp only [List.getD_eq_getElem?_getD, h1, Option.getD_some]; exact h2
/-- a slice that reads as a list yields its cells -/
theorem PRel.rd {S : Nat → Nat → Prop} {w : World} {v : Value} {xs : List (List D)} {k : Nat} (h : PRel S w v (.sl xs)) (hk0 : 0 < k) (hk : ∀ x ∈ xs, x.length = k) :
    ∃ us, Rd S w k xs us ∧ ∃ A c, v = .slice A xs.length c ∧ xs.length ≤ c ∧ c ≤ maxLen ∧ (xs ≠ [] → ∃ b o, A = some ⟨b, o, none⟩ ∧ ∀ (j : Nat) (u : Value), us[j]? = some u → S b (o + j) ∧ w.cell? ⟨b, o + j, none⟩ = some u) := by
  obtain ⟨A, b, o, c, k', u, rfl, hA, hc, hm, hk', hS, hu⟩ := h.sl_iff
  by_cases hx : xs = []
  · subst hx
    exact ⟨[], ⟨by simp, (fun _ h => by cases h), (fun _ h => by cases h), fun i j x d hx => by simp at hx⟩, A, c, rfl, hc, hm, fun h => absurd rfl h⟩
  · have ek : k' = k := by
      obtain ⟨x, hx'⟩ := List.exists_mem_of_ne_nil xs hx
      rw [← hk' x hx', hk x hx']
    subst ek
    refine ⟨(List.range (xs.length * k')).map fun t => u (t / k') (t % k'), ⟨by simp, hk, fun v hv => ?_, fun i j x d hx hd => ?_⟩, A, c, rfl, hc, hm, fun hne => ⟨b, o, hA hne, fun j v hv => ?_⟩⟩
    · obtain ⟨t, ht, rfl⟩ := List.mem_map.1 hv
      have ht' := List.mem_range.1 ht
      exact (hS (t / k') (t % k') (Nat.div_lt_of_lt_mul (by rw [Nat.mul_comm]; exact ht')) (Nat.mod_lt _ hk0)).2.2
    · have hj : j < k' := by rw [← hk x (List.mem_of_getElem? hx)]; exact (List.getElem?_eq_some_iff.1 hd).1
      have hi : i < xs.length := (List.getElem?_eq_some_iff.1 hx).1
      refine ⟨u i j, ?_, hu i j x d hx hd⟩
      have hlt : i * k' + j < xs.length * k' := by
        have : (i + 1) * k' ≤ xs.length * k' := Nat.mul_le_mul_right k' hi
        rw [Nat.add_mul] at this; omega
      rw [List.getElem?_map, List.getElem?_range hlt]
      simp only [Option.map_some, Option.some.injEq]
      rw [show (i * k' + j) / k' = i by rw [Nat.add_comm, Nat.add_mul_div_right _ _ hk0, Nat.div_eq_of_lt hj, Nat.zero_add], show (i * k' + j) % k' = j by rw [Nat.add_comm, Nat.add_mul_mod_self_right, Nat.mod_eq_of_lt hj]]
    · rw [List.getElem?_map] at hv
      by_cases hj : j < xs.length * k'
      · rw [List.getElem?_range hj] at hv
        simp only [Option.map_some, Option.some.injEq] at hv
        subst hv
        have := hS (j / k') (j % k') (Nat.div_lt_of_lt_mul (by rw [Nat.mul_comm]; exact hj)) (Nat.mod_lt _ hk0)
        have e : o + j / k' * k' + j % k' = o + j := by have := Nat.div_add_mod j k'; rw [Nat.mul_comm] at this; omega
        rw [e] at this
        exact ⟨this.1, this.2.1⟩
      · rw [List.getElem?_eq_none (by simp; omega)] at hv; cases hv
theorem PRel.src {P : Program} {S : Nat → Nat → Prop} {w : World} {v : Value} {xs : List (List D)} {k : Nat} (h : PRel S w v (.sl xs)) (hk0 : 0 < k) (hk : ∀ x ∈ xs, x.length = k) {tx e' : TypeId} (ht : P.underlying tx = some (.slice e')) :
    ∃ us, Rd S w k xs us ∧ Src P k tx v xs.length us w := by
  obtain ⟨us, hr, A, c, rfl, _, _, hA⟩ := h.rd hk0 hk
  refine ⟨us, hr, ?_⟩
  by_cases hx : xs = []
  · subst hx
    have hus : us = [] := List.eq_nil_of_length_eq_zero (by rw [hr.len]; simp)
    subst hus
    cases A with
    | none => exact Src.ofNil w ht c
    | some a => exact Src.ofSlice w ht a 0 c [] (by simp) (fun j u hu => by simp at hu) (fun u hu => by cases hu)
  · obtain ⟨b, o, rfl, hc⟩ := hA hx
    exact Src.ofSlice w ht _ _ c us hr.len (fun j u hu => by rw [add_off]; exact (hc j u hu).2) hr.one

/-- the ghost of a slice whose capacity is its length -/
def Gh.addF (G : Gh) (v : Value) (len : Nat) : Gh :=
  { G with N := G.N + 1, sg := fun n => if n = G.N then v else G.sg n, fl := fun n => if n = G.N then len else G.fl n, ow := fun n => if n = G.N then none else G.ow n }
theorem adopt {G : Gh} {w : World} {h : List Blk} (hi : Inv G w h) {v : Value} {xs : List (List D)} (hv : PRel G.S w v (.sl xs)) (hf : ∃ A, v = .slice A xs.length xs.length) (e : TypeId) (k : Nat) :
    Ext G.N G w (G.addF v xs.length) w ∧ G.N ≤ (G.addF v xs.length).N ∧ Inv (G.addF v xs.length) w (h ++ [.front e k xs.length]) ∧ VRel (G.addF v xs.length) w v (.own h.length xs) := by
  have hne : ∀ n, n < G.N → n ≠ G.N := fun n hn => Nat.ne_of_lt hn
  have hE : Ext G.N G w (G.addF v xs.length) w := ⟨Nat.le_refl _, fun _ _ h => h, fun _ _ _ => rfl, fun _ _ => rfl, fun n hn => .inl ⟨by simp [Gh.addF, hne n hn], by simp [Gh.addF, hne n hn]⟩, zsame rfl, fun _ _ => rfl, rfl, rfl, rfl, fun _ _ h => .inl h⟩
  have hN : G.N ≤ (G.addF v xs.length).N := Nat.le_succ _
  have hml : xs.length ≤ maxLen := by
    obtain ⟨A, b, o, c, k', u, _, _, h1, h2, _⟩ := hv.sl_iff
    exact Nat.le_trans h1 h2
  have hown1 : ∀ n (B : Blk), n < G.N → B.own1 (G.addF v xs.length) n = B.own1 G n := fun n B hn => by
    cases B <;> simp [Blk.own1, Gh.addF, Nat.ne_of_lt hn]
  have hold : ∀ n b, ownB (h ++ [.front e k xs.length]) (G.addF v xs.length) n = some b → ownB h G n = some b := fun n b hb => by
    by_cases hn : n < h.length
    · unfold ownB at hb ⊢
      rw [List.getElem?_append_left hn, List.getElem?_eq_getElem hn] at hb
      rw [List.getElem?_eq_getElem hn]
      rw [← hb]; exact (hown1 n _ (hi.len ▸ hn)).symm
    · by_cases en : n = h.length
      · subst en
        rw [ownB_of (B := .front e k xs.length) (by simp)] at hb
        simp [Blk.own1, Gh.addF, hi.len] at hb
      · rw [ownB_none (List.getElem?_eq_none (by simp; omega))] at hb
        cases hb
  refine ⟨hE, hN, ⟨by simp [Gh.addF, hi.len], hi.z, hi.S, fun n B hB => ?_, fun m n b hm hn => hi.inj m n b (hold m b hm) (hold n b hn), hi.gl.keep hE⟩, ?_⟩
  · by_cases hn : n < h.length
    · rw [List.getElem?_append_left hn] at hB
      have hn' : n < G.N := hi.len ▸ hn
      exact BRel.keep hn' hE hN ⟨by simp [Gh.addF, hne n hn'], by simp [Gh.addF, hne n hn'], by simp [Gh.addF, hne n hn']⟩ (fun b hb => ⟨rfl, fun o h => h⟩) (hi.blk n B hB)
    · have hn2 : n = h.length := by
        have := (List.getElem?_eq_some_iff.1 hB).1
        simp at this; omega
      subst hn2
      simp at hB
      subst hB
      obtain ⟨A, hA⟩ := hf
      exact ⟨by simp [Gh.addF, hi.len], hml, .inl ⟨by simp [Gh.addF, hi.len], A, by simp [Gh.addF, hi.len, hA]⟩⟩
  · exact .own h.length xs (by simp [Gh.addF, hi.len]) hv (by simp [Gh.addF, hi.len]) (fun _ => by simp [Gh.addF, hi.len])

theorem byT_info {P : Program} {e k b : Nat} (hk : szT P e = some k) (hb : byT P e = some b) : ∃ i, P.info? e = some i ∧ i.size = k ∧ i.bytes = b := by
  unfold szT at hk
  unfold byT at hb
  cases hq : P.info? e with
  | none => rw [hq] at hk; cases hk
  | some i => rw [hq] at hk hb; exact ⟨i, rfl, by simpa using hk, by simpa using hb⟩

/-- the front's slice and its list, one step on -/
def Gh.grow (G : Gh) (n : Nat) (S : Nat → Nat → Prop) (v : Value) (len : Nat) (ow : Option Nat) : Gh :=
  { G with S := S, sg := fun m => if m = n then v else G.sg m, fl := fun m => if m = n then len else G.fl m, ow := fun m => if m = n then ow else G.ow m }
theorem inv_grow {G : Gh} {w w' : World} {h : List Blk} (hi : Inv G w h) {n e k len len' : Nat} (hn : h[n]? = some (.front e k len)) (S : Nat → Nat → Prop) (v : Value) (g : Nat)
    (hE : Ext G.N G w (G.grow n S v len' (some g)) w') (hg : g = w.heap.size ∨ G.ow n = some g) (hgw : g < w'.heap.size)
    (hS : ∀ b o, S b o → G.S b o ∨ b = g) (hoth : ∀ b, b < w.heap.size → b ≠ g → w'.heap[b]? = w.heap[b]?)
    (hB : BRel (G.grow n S v len' (some g)) w' n (.front e k len')) : Inv (G.grow n S v len' (some g)) w' (h.set n (.front e k len')) := by
  have hget : ∀ m, m ≠ n → (h.set n (.front e k len'))[m]? = h[m]? := fun m hm => by rw [List.getElem?_set_ne (Ne.symm hm)]
  have hgn : (h.set n (.front e k len'))[n]? = some (.front e k len') := by rw [List.getElem?_set_self (List.getElem?_eq_some_iff.1 hn).1]
  have hown1 : ∀ m (B : Blk), m ≠ n → B.own1 (G.grow n S v len' (some g)) m = B.own1 G m := fun m B hm => by
    cases B <;> simp [Blk.own1, Gh.grow, hm]
  have hown : ∀ m, m ≠ n → ownB (h.set n (.front e k len')) (G.grow n S v len' (some g)) m = ownB h G m := fun m hm => by
    unfold ownB; rw [hget m hm]
    cases h[m]? with
    | none => rfl
    | some B => exact hown1 m B hm
  have hng : ∀ m, m ≠ n → ownB h G m ≠ some g := fun m hm hb => by
    rcases hg with hg | hg
    · have := hi.ownlt hb; omega
    · exact hm (hi.inj m n g hb ((ownB_of hn).trans hg))
  refine ⟨by rw [List.length_set]; exact hi.len, fun b hb => Nat.lt_of_lt_of_le (hi.z b hb) hE.size, fun b o hs => ?_, fun m B hm => ?_, fun m m' b h1 h2 => ?_, hi.gl.keep hE⟩
  · rcases hS b o hs with hs | hs
    · exact Nat.lt_of_lt_of_le (hi.S b o hs) hE.size
    · rw [hs]; exact hgw
  · by_cases em : m = n
    · subst em; rw [hgn] at hm; cases hm; exact hB
    · rw [hget m em] at hm
      refine BRel.keep (hi.lt hm) hE (Nat.le_refl _) ⟨by simp [Gh.grow, em], by simp [Gh.grow, em], by simp [Gh.grow, em]⟩ (fun b hb => ?_) (hi.blk m B hm)
      have hr : ownB h G m = some b := (ownB_of hm).trans hb
      have hne : b ≠ g := fun e' => hng m em (by rw [hr, e'])
      refine ⟨hoth _ (hi.ownlt hr) hne, fun o hns hs => ?_⟩
      rcases hS _ o hs with hs | hs
      · exact hns hs
      · exact hne hs
  · by_cases e1 : m = n <;> by_cases e2 : m' = n
    · rw [e1, e2]
    · subst e1
      rw [hown m' e2] at h2
      have : ownB (h.set m (.front e k len')) (G.grow m S v len' (some g)) m = some g := by rw [ownB_of hgn]; simp [Blk.own1, Gh.grow]
      rw [this] at h1; cases h1
      exact absurd h2 (hng m' e2)
    · subst e2
      rw [hown m e1] at h1
      have : ownB (h.set m' (.front e k len')) (G.grow m' S v len' (some g)) m' = some g := by rw [ownB_of hgn]; simp [Blk.own1, Gh.grow]
      rw [this] at h2; cases h2
      exact absurd h1 (hng m e1)
    · rw [hown m e1] at h1; rw [hown m' e2] at h2; exact hi.inj m m' b h1 h2

set_option maxHeartbeats 1000000 in
theorem run_app {P : Program} {G : Gh} {w : World} {h : List Blk} (hi : Inv G w h) {T tx ty e k by_ : Nat} {i : TypeInfo} {z : Value} (hT : P.underlying T = some (.slice e)) (hinf : P.info? e = some i) (hz : i.zero = some z) (hik : i.size = k) (hib : i.bytes = by_) (hzs : z.cells.size = k)
    (hk0 : 0 < k) {n : Nat} {xs ys : List (List D)} (hn : h[n]? = some (.front e k xs.length)) {u v : Value} (hu : VRel G w u (.own n xs)) (hxk : ∀ x ∈ xs, x.length = k)
    {us : List Value} (hr : Rd G.S w k ys us) (hs : Src P k tx v ys.length us w) (hmax : xs.length + ys.length ≤ maxLen) (hby : (xs.length + ys.length) * by_ ≤ 140737488355328) :
    ∃ r w' G', (Builtin.append_ #[T, tx] ty #[u, v]).run P w = .ok r w' ∧ Ext G.N G w G' w' ∧ G.N ≤ G'.N ∧ Inv G' w' (h.set n (.front e k (xs.length + ys.length))) ∧ VRel G' w' r (.own n (xs ++ ys)) := by
  subst hik
  subst hib
  have hnN := hi.lt hn
  obtain ⟨hfl, hml, hbr⟩ := hi.blk n _ hn
  obtain ⟨hp, huf⟩ : PRel G.S w u (.sl xs) ∧ u = G.sg n := by
    cases hu with
    | own _ _ _ hp hle hf => exact ⟨hp, hf hfl.symm⟩
  obtain ⟨olds, hro, A, c, hue, hlc, hcm, hA⟩ := hp.rd hk0 hxk
  have hsame : h.set n (.front e i.size (xs.length + 0)) = h := by
    rw [Nat.add_zero]
    refine List.ext_getElem? fun m => ?_
    by_cases em : m = n
    · subst em; rw [List.getElem?_set_self (List.getElem?_eq_some_iff.1 hn).1, hn]
    · rw [List.getElem?_set_ne (Ne.symm em)]
  by_cases hy : ys.length = 0
  · have hys : ys = [] := List.eq_nil_of_length_eq_zero hy
    subst hys
    have hus : us = [] := List.eq_nil_of_length_eq_zero (by rw [hr.len]; simp)
    subst hus
    have := run_append_nothing (P := P) w T tx ty e i hT hinf A xs.length c hlc v hs
    refine ⟨u, w, G, by rw [hue]; exact this, Ext.refl _ _ _, Nat.le_refl _, ?_, by rw [List.append_nil]; exact hu⟩
    simp only [List.length_nil]
    rw [hsame]; exact hi
  · have hy0 : 0 < ys.length := Nat.pos_of_ne_zero hy
    have hsmall : xs.length + ys.length ≤ 9223372036854775807 := by simp only [maxLen] at hmax; omega
    have hrr : Rd G.S w i.size (xs ++ ys) (olds ++ us) := hro.append hr
    -- a new row
    have grow : c < xs.length + ys.length → ∃ r w' G', (Builtin.append_ #[T, tx] ty #[u, v]).run P w = .ok r w' ∧ Ext G.N G w G' w' ∧ G.N ≤ G'.N ∧ Inv G' w' (h.set n (.front e i.size (xs.length + ys.length))) ∧ VRel G' w' r (.own n (xs ++ ys)) := by
      intro hg
      have hold : (Builtin.firstCells i.size xs.length (.slice A xs.length c)).run P w.drew = .ok olds.toArray w.drew := by
        by_cases hx : xs = []
        · subst hx
          have : olds = [] := List.eq_nil_of_length_eq_zero (by rw [hro.len]; simp)
          subst this
          cases A with
          | none => exact run_firstCells_none _ _ _ _ _
          | some a => exact run_firstCells_some _ _ _ _ _ _ [] (by simp) (fun j u hu => by simp at hu)
        · obtain ⟨b, o, rfl, hc⟩ := hA hx
          exact run_firstCells_some _ _ _ _ _ _ olds hro.len (fun j u hu => by rw [add_off]; exact (hc j u hu).2)
      have hrun := run_append_grow_src (P := P) w T tx ty e i z hT hinf hz A xs.length c olds hold v ys.length us hs hg (by omega) (growslice_fits hg hby)
      obtain ⟨cap, hcap⟩ : ∃ cap, cap = grownCap w (xs.length + ys.length) c e := ⟨_, rfl⟩
      have hge : xs.length + ys.length ≤ cap := by rw [hcap]; exact grownCap_ge _ _ _ _
      have hle : cap ≤ maxLen := by rw [hcap]; exact grownCap_le_maxLen _ _ _ _ hmax
      rw [← hcap] at hrun
      obtain ⟨cur, hcur⟩ : ∃ cur, cur = (olds ++ us).toArray ++ Builtin.zeroCells z.cells (cap - (xs.length + ys.length)) := ⟨_, rfl⟩
      rw [← hcur] at hrun
      obtain ⟨w', hw'⟩ : ∃ w', w' = w.drew.alloc (.cells cur e) := ⟨_, rfl⟩
      rw [← hw'] at hrun
      have hcs : cur.size = cap * i.size := by
        have := size_zeroCells z.cells (cap - (xs.length + ys.length))
        rw [hcur, Array.size_append, this, List.size_toArray, hrr.len, hzs, List.length_append, ← Nat.add_mul]
        congr 1
        omega
      have hnew : w'.heap[w.heap.size]? = some (.cells cur e (0, 0)) := by rw [hw']; exact World.alloc_heap_new w.drew _
      have holdb : ∀ b, b < w.heap.size → w'.heap[b]? = w.heap[b]? := fun b hb => by rw [hw']; exact Below.heap_alloc w.drew _ b hb
      have hsz : w'.heap.size = w.heap.size + 1 := by rw [hw']; simp
      obtain ⟨S, hS⟩ : ∃ S : Nat → Nat → Prop, S = fun b o => G.S b o ∨ (b = w.heap.size ∧ o < (xs.length + ys.length) * i.size) := ⟨_, rfl⟩
      have hcell : ∀ b o, G.S b o → w'.cell? ⟨b, o, none⟩ = w.cell? ⟨b, o, none⟩ := fun b o hs => World.cell?_of_block (holdb b (hi.S b o hs))
      have hE : Ext G.N G w (G.grow n S (.slice (some ⟨w.heap.size, 0, none⟩) (xs.length + ys.length) cap) (xs.length + ys.length) (some w.heap.size)) w' :=
        ⟨by rw [hsz]; exact Nat.le_succ _, fun b o h => by show S b o; rw [hS]; exact .inl h, hcell, fun _ _ => rfl,
         fun m _ => by
          by_cases em : m = n
          · right; subst em; simp only [Gh.grow, if_true, hfl]; omega
          · left; exact ⟨by simp [Gh.grow, em], by simp [Gh.grow, em]⟩,
         zsame rfl, fun b hb => holdb b (hi.z b hb), by rw [hw']; rfl, by rw [hw']; rfl, by rw [hw']; rfl, fun b o hs => by
          have hs' : S b o := hs
          rw [hS] at hs'
          rcases hs' with h | ⟨rfl, _⟩
          · exact .inl h
          · exact .inr fun hz => Nat.lt_irrefl _ (hi.z _ hz)⟩
      have hP : PRel S w' (.slice (some ⟨w.heap.size, 0, none⟩) (xs ++ ys).length cap) (.sl (xs ++ ys)) := by
        refine (hrr.keep (S' := S) (w' := w') (fun b o h => by rw [hS]; exact .inl h) hcell).prel w.heap.size cap (by rw [List.length_append]; exact hge) hle (fun o ho => by rw [hS]; exact .inr ⟨rfl, by rw [List.length_append] at ho; exact ho⟩) (fun o x ho => ?_)
        rw [cell_of_row w' w.heap.size o cur e (0, 0) hnew, hcur, Array.getElem?_append_left (by simp only [List.size_toArray]; exact (List.getElem?_eq_some_iff.1 ho).1), List.getElem?_toArray]
        exact ho
      rw [List.length_append] at hP
      refine ⟨_, w', _, by rw [hue]; exact hrun, hE, Nat.le_refl _, inv_grow hi hn S _ w.heap.size hE (.inl rfl) (by rw [hsz]; exact Nat.lt_succ_self _) (fun b o hs => ?_) (fun b hb _ => holdb b hb) ?_, ?_⟩
      · rw [hS] at hs; exact hs.imp id And.left
      · refine ⟨by simp [Gh.grow], hmax, .inr ⟨w.heap.size, cap, cur, by simp [Gh.grow], by simp [Gh.grow], fun hz => Nat.lt_irrefl _ (hi.z _ hz), hnew, hge, hle, hcs, fun o ho hs => ?_⟩⟩
        have hs' : S w.heap.size o := hs
        rw [hS] at hs'
        rcases hs' with hs' | ⟨_, hs'⟩
        · have := hi.S _ _ hs'; omega
        · omega
      · exact .own n (xs ++ ys) hnN hP (by simp [Gh.grow]) (fun _ => by simp [Gh.grow])
    rcases hbr with ⟨hb1, A', hb2⟩ | ⟨g, cap, cur, hb1, hb2, hb3, hb4, hb5, hb6, hb7, hb8⟩
    · refine grow ?_
      rw [huf, hb2] at hue
      cases hue
      omega
    · have hue' := hue
      rw [huf, hb2] at hue'
      injection hue' with eA0 _ e1
      have e2 := e1.symm
      subst e2
      subst eA0
      by_cases hroom : xs.length + ys.length ≤ c
      · -- there is room
        have hfit : xs.length * i.size + us.length ≤ cur.size := by rw [hr.len, hb7, ← Nat.add_mul]; exact Nat.mul_le_mul_right _ hroom
        have hcw : ∀ o, w.cell? ⟨g, o, none⟩ = cur[o]? := fun o => cell_of_row w g o cur e (0, 0) hb4
        have hsome : ∀ j, j < us.length → (w.cell? ⟨g, 0 + xs.length * i.size + j, none⟩).isSome = true := fun j hj => by
          rw [hcw, Nat.zero_add, Array.getElem?_eq_getElem (by omega)]; rfl
        have hrun := run_append_room_src (P := P) w T tx ty e i hT hinf g 0 xs.length c v ys.length us hs hroom hsome
          (fun j hj => by unfold World.frozen?; rw [hb4]; simp)
        rw [Nat.zero_add] at hrun hsome
        obtain ⟨w', hw'⟩ : ∃ w', w' = w.setCells g (xs.length * i.size) us := ⟨_, rfl⟩
        rw [← hw'] at hrun
        have hglt : g < w.heap.size := (Array.getElem?_eq_some_iff.1 hb4).1
        have hst := run_storeCells_at P g (xs.length * i.size) e us 0 cur w hb4 (by simpa using hfit) hs.one
        have hst2 := run_storeCells_cells (P := P) g (xs.length * i.size) us 0 w (by simpa using hsome) (fun j hj => by unfold World.frozen?; rw [hb4]; simp) hs.one
        simp only [Nat.add_zero] at hst hst2
        rw [hst] at hst2
        have hww : w' = w.setRow g (cur.toList.take (xs.length * i.size) ++ us ++ cur.toList.drop (xs.length * i.size + us.length)).toArray := by
          rw [hw']
          injection hst2 with _ e2
          exact e2.symm
        obtain ⟨cur', hcur'⟩ : ∃ cur' : Array Value, cur' = (cur.toList.take (xs.length * i.size) ++ us ++ cur.toList.drop (xs.length * i.size + us.length)).toArray := ⟨_, rfl⟩
        rw [← hcur'] at hww
        have hrow : w'.heap[g]? = some (.cells cur' e (0, 0)) := by rw [hww]; exact setRow_heap w g cur cur' e _ hb4
        have hoth : ∀ b, b ≠ g → w'.heap[b]? = w.heap[b]? := fun b hb => by rw [hww]; exact setRow_other w g b cur' hb
        have hsz : w'.heap.size = w.heap.size := by rw [hww]; exact setRow_size w g cur'
        have hc' : ∀ o, cur'[o]? = if o < xs.length * i.size then cur[o]? else if o < xs.length * i.size + us.length then us[o - xs.length * i.size]? else cur[o]? := fun o => by
          rw [hcur', List.getElem?_toArray, List.append_assoc]
          have hl : cur.toList.length = cur.size := Array.length_toList
          by_cases h1 : o < xs.length * i.size
          · rw [if_pos h1, List.getElem?_append_left (by simp; omega), List.getElem?_take_of_lt h1, Array.getElem?_toList]
          · rw [if_neg h1, List.getElem?_append_right (by simp; omega)]
            simp only [List.length_take, hl]
            rw [Nat.min_eq_left (by omega)]
            by_cases h2 : o < xs.length * i.size + us.length
            · rw [if_pos h2, List.getElem?_append_left (by omega)]
            · rw [if_neg h2, List.getElem?_append_right (by omega), List.getElem?_drop, show xs.length * i.size + us.length + (o - xs.length * i.size - us.length) = o by omega, Array.getElem?_toList]
        have hcs' : cur'.size = cur.size := by
          rw [hcur']
          simp only [List.size_toArray, List.length_append, List.length_take, List.length_drop, Array.length_toList]
          omega
        have hcell : ∀ b o, G.S b o → w'.cell? ⟨b, o, none⟩ = w.cell? ⟨b, o, none⟩ := fun b o hs => by
          by_cases eb : b = g
          · subst eb
            have ho : o < xs.length * i.size := Nat.lt_of_not_le fun hle => hb8 o hle hs
            rw [hcw, cell_of_row w' b o cur' e (0, 0) hrow, hc', if_pos ho]
          · exact World.cell?_of_block (hoth b eb)
        obtain ⟨S, hS⟩ : ∃ S : Nat → Nat → Prop, S = fun b o => G.S b o ∨ (b = g ∧ o < (xs.length + ys.length) * i.size) := ⟨_, rfl⟩
        have hE : Ext G.N G w (G.grow n S (.slice (some ⟨g, 0, none⟩) (xs.length + ys.length) c) (xs.length + ys.length) (some g)) w' :=
          ⟨by rw [hsz]; exact Nat.le_refl _, fun b o h => by show S b o; rw [hS]; exact .inl h, hcell, fun _ _ => rfl,
           fun m _ => by
            by_cases em : m = n
            · right; subst em; simp only [Gh.grow, if_true, hfl]; omega
            · left; exact ⟨by simp [Gh.grow, em], by simp [Gh.grow, em]⟩,
           zsame rfl, fun b hb => hoth b (fun e => hb3 (e ▸ hb)), by rw [hww]; rfl, by rw [hww]; rfl, by rw [hww]; rfl, fun b o hs => by
            have hs' : S b o := hs
            rw [hS] at hs'
            rcases hs' with h | ⟨rfl, _⟩
            · exact .inl h
            · exact .inr hb3⟩
        have hP : PRel S w' (.slice (some ⟨g, 0, none⟩) (xs ++ ys).length c) (.sl (xs ++ ys)) := by
          refine (hrr.keep (S' := S) (w' := w') (fun b o h => by rw [hS]; exact .inl h) hcell).prel g c (by rw [List.length_append]; exact hroom) hb6 (fun o ho => by rw [hS]; exact .inr ⟨rfl, by rw [List.length_append] at ho; exact ho⟩) (fun o x ho => ?_)
          rw [cell_of_row w' g o cur' e (0, 0) hrow, hc']
          have hlo : olds.length = xs.length * i.size := hro.len
          by_cases h1 : o < xs.length * i.size
          · rw [if_pos h1]
            rw [List.getElem?_append_left (by omega)] at ho
            have hx : xs ≠ [] := fun e => by subst e; simp at h1
            obtain ⟨b, o', eA, hc⟩ := hA hx
            cases eA
            have := (hc o x ho).2
            rw [Nat.zero_add, hcw] at this
            exact this
          · rw [if_neg h1]
            rw [List.getElem?_append_right (by omega), hlo] at ho
            have := (List.getElem?_eq_some_iff.1 ho).1
            rw [if_pos (by omega)]; exact ho
        rw [List.length_append] at hP
        refine ⟨_, w', _, by rw [hue]; exact hrun, hE, Nat.le_refl _, inv_grow hi hn S _ g hE (.inr hb1) (by rw [hsz]; exact hglt) (fun b o hs => ?_) (fun b _ hb => hoth b hb) ?_, ?_⟩
        · rw [hS] at hs; exact hs.imp id And.left
        · refine ⟨by simp [Gh.grow], hmax, .inr ⟨g, c, cur', by simp [Gh.grow], by simp [Gh.grow], hb3, hrow, hroom, hb6, by rw [hcs', hb7], fun o ho hs => ?_⟩⟩
          have hs' : S g o := hs
          rw [hS] at hs'
          rcases hs' with hs' | ⟨_, hs'⟩
          · exact hb8 o (Nat.le_trans (Nat.mul_le_mul_right _ (Nat.le_add_right _ _)) ho) hs'
          · omega
        · exact .own n (xs ++ ys) hnN hP (by simp [Gh.grow]) (fun _ => by simp [Gh.grow])
      · exact grow (by omega)
end Go.Proofs.YtaiihhogoogkmaaGreatDoor
