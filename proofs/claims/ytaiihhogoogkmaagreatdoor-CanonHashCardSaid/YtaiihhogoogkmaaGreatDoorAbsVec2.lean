/-
  Why the small language's operations on slices that may be written are right, continued: appends and 'make'.
-/
import Derived.Test.YtaiihhogoogkmaaGreatDoorAbsVec
import Derived.Laws.MakeOwn
namespace Go.Proofs.YtaiihhogoogkmaaGreatDoor
open Go.RowKit
set_option linter.unusedVariables false
set_option linter.unusedSimpArgs false

section
variable {P : Program} {G : Gh} {w : World} {h : List Blk}
structure RdV (G : Gh) (w : World) (k : Nat) (ys : List (List AV)) (us : List Value) : Prop where
  len : us.length = ys.length * k
  wid : ∀ c ∈ ys, c.length = k
  one : ∀ u ∈ us, u.oneCell' = true
  rel : ∀ (i j : Nat) (c : List AV) (x : AV) (u : Value), ys[i]? = some c → c[j]? = some x → us[i * k + j]? = some u → VRel G w u x
theorem srcV_sound {k tx e' : Nat} {y : AV} {v : Value} {ys : List (List AV)} (hi : Inv G w h) (hv : VRel G w v y) (hs : srcV h k y ys) (hk0 : 0 < k) (hT : P.underlying tx = some (.slice e')) :
    ∃ us, RdV G w k ys us ∧ Src P k tx v ys.length us w := by
  rcases hs with ⟨xs, h1, h2, rfl⟩ | ⟨n, o, len, L, e, cs, rfl, h2, h3, h4, h5⟩
  · obtain ⟨us, hr, hsrc⟩ := (hv.list h1).src hk0 h2 hT
    have hl : (liftD xs).length = xs.length := by unfold liftD; rw [List.length_map]
    refine ⟨us, ⟨by rw [hl]; exact hr.len, fun c hc => ?_, hr.one, fun i j c x u hc hx hu => ?_⟩, by rw [hl]; exact hsrc⟩
    · unfold liftD at hc
      obtain ⟨d, hd, rfl⟩ := List.mem_map.1 hc
      rw [List.length_map]; exact h2 d hd
    · unfold liftD at hc
      rw [List.getElem?_map] at hc
      cases hx' : xs[i]? with
      | none => rw [hx'] at hc; cases hc
      | some d =>
        rw [hx'] at hc
        cases hc
        rw [List.getElem?_map] at hx
        cases hy : d[j]? with
        | none => rw [hy] at hx; cases hx
        | some z =>
          rw [hy] at hx
          cases hx
          obtain ⟨u', a1, a2⟩ := hr.rel i j d z hx' hy
          rw [a1] at hu
          cases hu
          exact .d a2
  · have hvo := hv.vecOK hi h2 h3
    obtain ⟨A, c, rfl, c1, c2, c3, c4⟩ := hvo.sl
    have hyl : ys.length = len := by rw [h4, List.length_take, List.length_drop, h3]; have := hvo.ol; omega
    by_cases h0 : len = 0
    · subst h0
      have : ys = [] := List.eq_nil_of_length_eq_zero hyl
      subst this
      refine ⟨[], ⟨by simp, (fun _ h => by cases h), (fun _ h => by cases h), fun i j c x u hc => by simp at hc⟩, ?_⟩
      cases A with
      | none => exact Src.ofNil w hT c
      | some a => exact Src.ofSlice w hT a 0 c [] (by simp) (fun j u hu => by simp at hu) (fun u hu => by cases hu)
    · have ho : o < L := by have := hvo.ol; omega
      obtain ⟨g, cap, p1, rfl, p3⟩ := c4 ho
      have hne : cs ≠ [] := fun e => by subst e; simp at h3; omega
      obtain ⟨g', cap', cur, r1, r2, r3, r4, r5, r6, r7, r8, r9⟩ := vec_real hi h2 hne
      rw [r2] at p1
      cases p1
      have hwid := vec_wid hi h2
      have hcell : ∀ q, q < len * k → o * k + q < cur.size := fun q hq => by
        have h1 : (o + len) * k ≤ cap * k := Nat.mul_le_mul_right k (by have := hvo.ol; omega)
        rw [Nat.add_mul] at h1
        rw [r7]; omega
      have hys : ∀ i, i < len → ys[i]? = cs[o + i]? := fun i hi' => by rw [h4, List.getElem?_take_of_lt hi', List.getElem?_drop]
      have hone : ∀ q, q < len * k → (cur.getD (o * k + q) undef).oneCell' = true := fun q hq => by
        have hki : q / k < len := Nat.div_lt_of_lt_mul (by rw [Nat.mul_comm]; exact hq)
        have hkj : q % k < k := Nat.mod_lt _ hk0
        obtain ⟨d, hcs⟩ : ∃ d, cs[o + q / k]? = some d := ⟨_, List.getElem?_eq_getElem (by have := hvo.ol; omega)⟩
        have hcw := hwid _ (List.mem_of_getElem? hcs)
        obtain ⟨x, hx⟩ : ∃ x, d[q % k]? = some x := ⟨_, List.getElem?_eq_getElem (by rw [hcw]; exact hkj)⟩
        have e1 : (o + q / k) * k + q % k = o * k + q := by
          rw [Nat.add_mul]
          have := Nat.div_add_mod q k
          rw [Nat.mul_comm] at this
          omega
        have hu' : cur[(o + q / k) * k + q % k]? = some (cur.getD (o * k + q) undef) := by
          rw [e1]; simp [Array.getD, hcell q hq]
        refine (r9 _ _ _ _ _ hcs hx hu').cellB ?_
        have hmem : d ∈ ys := List.mem_of_getElem? ((hys _ hki).trans hcs)
        have := h5 _ hmem
        rw [List.all_eq_true] at this
        exact this _ (List.mem_of_getElem? hx)
      refine ⟨(List.range (len * k)).map fun q => cur.getD (o * k + q) undef, ⟨by rw [hyl]; simp, fun c hc => hwid c ?_, fun u hu => ?_, fun i j c x u hc hx hu => ?_⟩, ?_⟩
      · rw [h4] at hc; exact List.mem_of_mem_drop (List.mem_of_mem_take hc)
      · obtain ⟨q, hq, rfl⟩ := List.mem_map.1 hu
        exact hone q (List.mem_range.1 hq)
      · have hil : i < len := by rw [← hyl]; exact (List.getElem?_eq_some_iff.1 hc).1
        rw [hys i hil] at hc
        have hjk : j < k := by rw [← hwid c (List.mem_of_getElem? hc)]; exact (List.getElem?_eq_some_iff.1 hx).1
        have hlt : i * k + j < len * k := mul_lt_of hil hjk
        rw [List.getElem?_map, List.getElem?_range hlt] at hu
        simp only [Option.map_some, Option.some.injEq] at hu
        refine r9 (o + i) j c x u hc hx ?_
        rw [← hu, show (o + i) * k + j = o * k + (i * k + j) by rw [Nat.add_mul]; omega]
        simp [Array.getD, hcell _ hlt]
      · rw [hyl]
        refine Src.ofSlice w hT _ len c _ (by simp) (fun j u hu => ?_) (fun u hu => ?_)
        · rw [add_off, cell_of_row w g _ cur e (0, 0) r4]
          rw [List.getElem?_map] at hu
          by_cases hj : j < len * k
          · rw [List.getElem?_range hj] at hu
            simp only [Option.map_some, Option.some.injEq] at hu
            rw [← hu]; simp [Array.getD, hcell _ hj]
          · rw [List.getElem?_eq_none (by simp; omega)] at hu; cases hu
        · obtain ⟨q, hq, rfl⟩ := List.mem_map.1 hu
          exact hone q (List.mem_range.1 hq)
theorem RdV.keep {G' : Gh} {w' : World} {k : Nat} {ys : List (List AV)} {us : List Value} (h : RdV G w k ys us) (hE : Ext G.N G w G' w') (hN : G.N ≤ G'.N) : RdV G' w' k ys us :=
  ⟨h.len, h.wid, h.one, fun i j c x u h1 h2 h3 => (h.rel i j c x u h1 h2 h3).keep hE hN⟩
theorem getElem_app_cells {α : Type} {k : Nat} (l : List α) (us : List α) (m i j : Nat) (hl : l.length = m * k) (hj : j < k) : (l ++ us)[i * k + j]? = if i < m then l[i * k + j]? else us[(i - m) * k + j]? := by
  by_cases h : i < m
  · rw [if_pos h, List.getElem?_append_left (by rw [hl]; exact mul_lt_of h hj)]
  · have h1 : m * k ≤ i * k := Nat.mul_le_mul_right k (by omega)
    rw [if_neg h, List.getElem?_append_right (by rw [hl]; omega), hl, Nat.sub_mul, show i * k + j - m * k = i * k - m * k + j by omega]
/-- a slice of one's own out of a new row -/
theorem vec_fresh {e k cap : Nat} {cs : List (List AV)} {cur : Array Value} (hi : Inv G w h) (h1 : cs.length ≤ cap) (h2 : cap ≤ maxLen) (h3 : cur.size = cap * k) (hwid : ∀ c ∈ cs, c.length = k) (w0 : World) (hw0 : w0.heap = w.heap ∧ w0.os = w.os ∧ w0.tape = w.tape ∧ w0.output = w.output)
    (hrel : ∀ (i j : Nat) (c : List AV) (x : AV) (u : Value), cs[i]? = some c → c[j]? = some x → cur[i * k + j]? = some u → VRel G w u x) :
    ∃ G', Ext G.N G w G' (w0.alloc (.cells cur e)) ∧ G.N ≤ G'.N ∧ Inv G' (w0.alloc (.cells cur e)) (h ++ [.vec e k cs]) ∧ ∀ len, len ≤ cs.length → VRel G' (w0.alloc (.cells cur e)) (.slice (some ⟨w.heap.size, 0, none⟩) len cap) (.vec h.length 0 len cs.length k) := by
  have hsz : w0.heap.size = w.heap.size := by rw [hw0.1]
  have hnew : (w0.alloc (.cells cur e)).heap[w.heap.size]? = some (.cells cur e (0, 0)) := by rw [← hsz]; exact World.alloc_heap_new w0 _
  have hold : ∀ b, b < w.heap.size → (w0.alloc (.cells cur e)).heap[b]? = w.heap[b]? := fun b hb => by rw [Below.heap_alloc w0 _ b (by rw [hsz]; exact hb), hw0.1]
  have hw : (∀ b, b < w.heap.size → (w0.alloc (.cells cur e)).heap[b]? = w.heap[b]?) ∧ w.heap.size ≤ (w0.alloc (.cells cur e)).heap.size ∧ (w0.alloc (.cells cur e)).os = w.os ∧ (w0.alloc (.cells cur e)).tape = w.tape ∧ (w0.alloc (.cells cur e)).output = w.output :=
    ⟨hold, by simp [hsz], hw0.2.1, hw0.2.2.1, hw0.2.2.2⟩
  obtain ⟨sv, hsv⟩ : ∃ sv, sv = Value.slice (some ⟨w.heap.size, 0, none⟩) cs.length cap := ⟨_, rfl⟩
  obtain ⟨hE0, _⟩ : Ext G.N G w (G.addV sv cs.length (some w.heap.size)) (w0.alloc (.cells cur e)) ∧ True := by
    refine ⟨⟨hw.2.1, fun _ _ h => h, fun b o hs => World.cell?_of_block (hw.1 b (hi.S b o hs)), fun _ _ => rfl, fun n hn => .inl ⟨by simp [Gh.addV, Nat.ne_of_lt hn], by simp [Gh.addV, Nat.ne_of_lt hn]⟩, zsame rfl, fun b hb => hw.1 b (hi.z b hb), hw.2.2.1, hw.2.2.2.1, hw.2.2.2.2, fun _ _ h => .inl h⟩, trivial⟩
  obtain ⟨hE, hI⟩ := inv_new (w' := w0.alloc (.cells cur e)) hi (.vec e k cs) (fun _ _ => rfl) sv cs.length (some w.heap.size) hw (fun g hg => by cases hg; exact Nat.le_refl _) (by
    refine ⟨by simp [Gh.addV], Nat.le_trans h1 h2, hwid, .inr ⟨w.heap.size, cap, cur, by simp [Gh.addV], by simp [Gh.addV, hsv], fun hz => Nat.lt_irrefl _ (hi.z _ hz), hnew, h1, h2, h3, fun o hs => Nat.lt_irrefl _ (hi.S _ _ hs), fun i j c x u hc hx hu => (hrel i j c x u hc hx hu).keep hE0 (Nat.le_succ _)⟩⟩)
  refine ⟨_, hE, Nat.le_succ _, hI, fun len hlen => ?_⟩
  rw [hi.len]
  refine .vec G.N 0 len cs.length k (by simp [Gh.addV]) ⟨_, _, _, rfl⟩ (by simp [Gh.addV]) fun _ => ⟨by omega, ⟨_, _, rfl, Nat.le_trans hlen h1, h2, h1, fun _ => ⟨w.heap.size, cap, by simp [Gh.addV, hsv], by simp, by simp⟩⟩, fun _ e => by subst e; simp [Gh.addV, hsv]⟩
theorem run_vmake {T e k len m by_ : Nat} {i : TypeInfo} {z : Value} {kl kc : IntKind} {l c : Int} (hi : Inv G w h) (hT : P.underlying T = some (.slice e)) (hinf : P.info? e = some i) (hz : i.zero = some z) (hik : i.size = k) (hib : i.bytes = by_) (hzs : z.cells.toList.length = k) (hk0 : 0 < k)
    (h0 : 0 ≤ l) (hlc : l ≤ c) (hl : l.toNat = len) (hc : c.toNat = m) (hm : m ≤ maxLen) (hb : by_ * m ≤ 281474976710656) :
    ∃ u w' G', (Instr.makeSlice T (.int kl l) (.int kc c)).run P w = .ok u w' ∧ Ext G.N G w G' w' ∧ G.N ≤ G'.N ∧ Inv G' w' (h ++ [.vec e k (List.replicate m (z.cells.toList.map fun u => .d (.v u)))]) ∧ VRel G' w' u (.vec h.length 0 len m k) := by
  subst hik
  subst hib
  have hb' : (i.bytes : Int) * c ≤ 281474976710656 := by
    have : ((i.bytes * m : Nat) : Int) ≤ 281474976710656 := by omega
    rw [Int.natCast_mul, ← hc, Int.toNat_of_nonneg (by omega)] at this
    exact this
  have h63 : c ≤ 9223372036854775807 := by have h := hm; simp [maxLen] at h; omega
  have hrun := run_make (P := P) w T e i z hT hinf hz kl kc l c h0 hlc hb' h63
  rw [hl, hc] at hrun
  have hcl : (List.replicate m (z.cells.toList.map fun u => AV.d (.v u))).length = m := List.length_replicate
  obtain ⟨G', g1, g2, g3, g4⟩ := vec_fresh (e := e) (k := i.size) (cap := m) (cs := List.replicate m (z.cells.toList.map fun u => AV.d (.v u))) (cur := madeCells z.cells (m * i.size)) hi (by rw [hcl]; exact Nat.le_refl _) hm (size_madeCells _ _) (fun c hc => by
    rw [List.eq_of_mem_replicate hc, List.length_map]; exact hzs) w ⟨rfl, rfl, rfl, rfl⟩ (fun a b c x u hc hx hu => by
    have := List.eq_of_mem_replicate (List.mem_of_getElem? hc)
    subst this
    rw [List.getElem?_map] at hx
    cases hq : z.cells.toList[b]? with
    | none => rw [hq] at hx; cases hx
    | some y =>
      rw [hq] at hx
      cases hx
      have hbk : b < i.size := by rw [← hzs]; exact (List.getElem?_eq_some_iff.1 hq).1
      have ham : a < m := by have := (List.getElem?_eq_some_iff.1 hc).1; rwa [hcl] at this
      unfold madeCells at hu
      have hlt : a * i.size + b < m * i.size := mul_lt_of ham hbk
      rw [Array.getElem?_map, Array.getElem?_range, if_pos hlt] at hu
      simp only [Option.map_some, Option.some.injEq] at hu
      have hzz : z.cells.size = i.size := by rw [← Array.length_toList]; exact hzs
      rw [hzz, (divmod_of (i := a) hbk).2] at hu
      have hq2 : z.cells[b]? = some y := by rw [← Array.getElem?_toList]; exact hq
      rw [getElem!_pos z.cells b (by rw [hzz]; exact hbk)] at hu
      rw [Array.getElem?_eq_getElem (by rw [hzz]; exact hbk)] at hq2
      cases hq2
      subst hu
      exact .d (.v _))
  rw [hcl] at g4
  refine ⟨_, _, G', hrun, g1, g2, g3, g4 len ?_⟩
  rw [← hl, ← hc]; omega
/-- an append to a slice that may be written -/
theorem run_vapp {T tx ty e k by_ n o len L : Nat} {i : TypeInfo} {z : Value} {u v : Value} {cs ys : List (List AV)} {us : List Value} (hi : Inv G w h) (hT : P.underlying T = some (.slice e)) (hinf : P.info? e = some i) (hz : i.zero = some z) (hik : i.size = k) (hib : i.bytes = by_) (hzs : z.cells.size = k) (hk0 : 0 < k)
    (hn : h[n]? = some (.vec e k cs)) (hL : cs.length = L) (hu : VRel G w u (.vec n o len L k)) (hr : RdV G w k ys us) (hs : Src P k tx v ys.length us w)
    {L' : Nat} {cs' : List (List AV)} (hway : (o + len + ys.length ≤ L ∧ L' = L ∧ cs' = cs.take (o + len) ++ ys ++ cs.drop (o + len + ys.length)) ∨ (o = 0 ∧ len = L ∧ L' = L + ys.length ∧ cs' = cs ++ ys ∧ L' ≤ maxLen ∧ L' * by_ ≤ 140737488355328)) :
    ∃ r w' G', (Builtin.append_ #[T, tx] ty #[u, v]).run P w = .ok r w' ∧ Ext G.N G w G' w' ∧ G.N ≤ G'.N ∧ Inv G' w' (h.set n (.vec e k cs')) ∧ VRel G' w' r (.vec n o (len + ys.length) L' k) := by
  subst hik
  subst hib
  have hnN := hi.lt hn
  have hwid := vec_wid hi hn
  have hvo := hu.vecOK hi hn hL
  have hb0 := hi.blk n _ hn
  have hvo' := hvo
  obtain ⟨hol, ⟨A, c, rfl, c1, c2, c3, c4⟩, call⟩ := hvo
  by_cases hy : ys.length = 0
  · have hys : ys = [] := List.eq_nil_of_length_eq_zero hy
    subst hys
    have hus : us = [] := List.eq_nil_of_length_eq_zero (by rw [hr.len]; simp)
    subst hus
    have hrun := run_append_nothing (P := P) w T tx ty e i hT hinf A len c c1 v hs
    have e1 : cs' = cs := by
      rcases hway with ⟨_, _, e⟩ | ⟨_, _, _, e, _⟩
      · rw [e]; simp
      · rw [e]; simp
    have e2 : L' = L := by
      rcases hway with ⟨_, e, _⟩ | ⟨_, _, e, _⟩
      · exact e
      · rw [e]; simp
    subst e1
    subst e2
    refine ⟨_, w, G, hrun, Ext.refl _ _ _, Nat.le_refl _, ?_, by simpa using hu⟩
    have : h.set n (.vec e i.size cs') = h := by
      refine List.ext_getElem? fun m => ?_
      by_cases em : m = n
      · subst em; rw [List.getElem?_set_self (List.getElem?_eq_some_iff.1 hn).1, hn]
      · rw [List.getElem?_set_ne (Ne.symm em)]
    rw [this]; exact hi
  · have hy0 : 0 < ys.length := Nat.pos_of_ne_zero hy
    -- there is room
    have room : len + ys.length ≤ c → ∀ g cap cur, G.ow n = some g → G.sg n = .slice (some ⟨g, 0, none⟩) cs.length cap → ¬ G.Z g → w.heap[g]? = some (.cells cur e (0, 0)) → cs.length ≤ cap → cap ≤ maxLen → cur.size = cap * i.size → (∀ o, ¬ G.S g o) →
        (∀ (a b : Nat) (d : List AV) (x : AV) (q : Value), cs[a]? = some d → d[b]? = some x → cur[a * i.size + b]? = some q → VRel G w q x) → A = some ⟨g, o * i.size, none⟩ → o + c = cap →
        ∃ r w' G', (Builtin.append_ #[T, tx] ty #[.slice A len c, v]).run P w = .ok r w' ∧ Ext G.N G w G' w' ∧ G.N ≤ G'.N ∧ Inv G' w' (h.set n (.vec e i.size cs')) ∧ VRel G' w' r (.vec n o (len + ys.length) L' i.size) := by
      intro hroom g cap cur r1 r2 r3 r4 r5 r6 r7 r8 r9 rA rc
      have hfit : (o + len) * i.size + us.length ≤ cur.size := by
        rw [hr.len, r7, ← Nat.add_mul]; exact Nat.mul_le_mul_right _ (by omega)
      have hsome : ∀ j, j < us.length → (w.cell? ⟨g, o * i.size + len * i.size + j, none⟩).isSome = true := fun j hj => by
        rw [cell_of_row w g _ cur e (0, 0) r4, Array.getElem?_eq_getElem (by rw [Nat.add_mul] at hfit; omega)]; rfl
      have hrun := run_append_room_src (P := P) w T tx ty e i hT hinf g (o * i.size) len c v ys.length us hs hroom hsome (fun j hj => by unfold World.frozen?; rw [r4]; simp)
      have hst := run_storeCells_at P g (o * i.size + len * i.size) e us 0 cur w r4 (by rw [Nat.add_mul] at hfit; simpa using hfit) hr.one
      have hst2 := run_storeCells_cells (P := P) g (o * i.size + len * i.size) us 0 w (by simpa using hsome) (fun j hj => by unfold World.frozen?; rw [r4]; simp) hr.one
      simp only [Nat.add_zero] at hst hst2
      rw [hst] at hst2
      injection hst2 with _ e2
      rw [← e2, ← Nat.add_mul] at hrun
      rw [rA]
      -- the new cells
      have hnew : ∀ (a b : Nat) (d : List AV) (x : AV) (q : Value), cs'[a]? = some d → d[b]? = some x → (if (o + len) * i.size ≤ a * i.size + b ∧ a * i.size + b < (o + len) * i.size + us.length then us[a * i.size + b - (o + len) * i.size]? else cur[a * i.size + b]?) = some q → VRel G w q x := by
        intro a b d x q hd hx hq
        have hdk : d.length = i.size := by
          have hm := List.mem_of_getElem? hd
          rcases hway with ⟨_, _, e⟩ | ⟨_, _, _, e, _⟩
          · rw [e] at hm
            rcases List.mem_append.1 hm with hm | hm
            · rcases List.mem_append.1 hm with hm | hm
              · exact hwid d (List.mem_of_mem_take hm)
              · exact hr.wid d hm
            · exact hwid d (List.mem_of_mem_drop hm)
          · rw [e] at hm
            rcases List.mem_append.1 hm with hm | hm
            · exact hwid d hm
            · exact hr.wid d hm
        have hbk : b < i.size := by rw [← hdk]; exact (List.getElem?_eq_some_iff.1 hx).1
        -- which element
        have hcase : (a < o + len ∧ cs[a]? = some d) ∨ (o + len ≤ a ∧ a < o + len + ys.length ∧ ys[a - (o + len)]? = some d) ∨ (o + len + ys.length ≤ a ∧ cs[a]? = some d) := by
          rcases hway with ⟨hf, _, e⟩ | ⟨e0, e1, _, e, _⟩
          · rw [e] at hd
            have htl : (cs.take (o + len)).length = o + len := by rw [List.length_take]; omega
            by_cases h1 : a < o + len
            · rw [List.append_assoc, List.getElem?_append_left (by rw [htl]; exact h1), List.getElem?_take_of_lt h1] at hd
              exact .inl ⟨h1, hd⟩
            · rw [List.append_assoc, List.getElem?_append_right (by rw [htl]; omega), htl] at hd
              by_cases h2 : a - (o + len) < ys.length
              · rw [List.getElem?_append_left h2] at hd
                exact .inr (.inl ⟨by omega, by omega, hd⟩)
              · rw [List.getElem?_append_right (by omega), List.getElem?_drop, show o + len + ys.length + (a - (o + len) - ys.length) = a by omega] at hd
                exact .inr (.inr ⟨by omega, hd⟩)
          · rw [e] at hd
            by_cases h1 : a < cs.length
            · rw [List.getElem?_append_left h1] at hd
              exact .inl ⟨by omega, hd⟩
            · rw [List.getElem?_append_right (by omega)] at hd
              have := (List.getElem?_eq_some_iff.1 hd).1
              exact .inr (.inl ⟨by omega, by omega, by rw [show a - (o + len) = a - cs.length by omega]; exact hd⟩)
        rcases hcase with ⟨h1, h2⟩ | ⟨h1, h2, h3⟩ | ⟨h1, h2⟩
        · rw [if_neg (by have := mul_lt_of h1 hbk; omega)] at hq
          exact r9 a b d x q h2 hx hq
        · have hle : (o + len) * i.size ≤ a * i.size := Nat.mul_le_mul_right _ h1
          have hlt : a * i.size + b < (o + len + ys.length) * i.size := mul_lt_of h2 hbk
          rw [Nat.add_mul (o + len)] at hlt
          rw [if_pos ⟨by omega, by rw [hr.len]; exact hlt⟩] at hq
          refine hr.rel (a - (o + len)) b d x q h3 hx ?_
          rw [Nat.sub_mul, show a * i.size - (o + len) * i.size + b = a * i.size + b - (o + len) * i.size by omega]
          exact hq
        · have hle : (o + len + ys.length) * i.size ≤ a * i.size := Nat.mul_le_mul_right _ h1
          rw [Nat.add_mul (o + len)] at hle
          rw [if_neg (by rw [hr.len]; omega)] at hq
          exact r9 a b d x q h2 hx hq
      have hwid' : ∀ d ∈ cs', d.length = i.size := fun d hm => by
        rcases hway with ⟨_, _, e⟩ | ⟨_, _, _, e, _⟩
        · rw [e] at hm
          rcases List.mem_append.1 hm with hm | hm
          · rcases List.mem_append.1 hm with hm | hm
            · exact hwid d (List.mem_of_mem_take hm)
            · exact hr.wid d hm
          · exact hwid d (List.mem_of_mem_drop hm)
        · rw [e] at hm
          rcases List.mem_append.1 hm with hm | hm
          · exact hwid d hm
          · exact hr.wid d hm
      rcases hway with ⟨hf, eL, ec⟩ | ⟨e0, e1, eL, ec, hm1, hm2⟩
      · have hcl : cs'.length = cs.length := by rw [ec]; simp; omega
        obtain ⟨G', k1, k2, k3, k4, k5⟩ := vec_write (us := us) (off := (o + len) * i.size) (cs' := cs') hi hn hk0 r1 r2 r3 r4 r5 r6 r7 r8 hfit hcl hwid' hnew
        refine ⟨_, _, G', hrun, k1, by rw [k2]; exact Nat.le_refl _, k3, ?_⟩
        refine .vec n o (len + ys.length) L' i.size (by rw [k2]; exact hnN) ⟨_, _, _, rfl⟩ (by rw [k5, eL, hb0.1, hL]; exact Nat.le_refl _) fun _ => ?_
        rw [k4]
        refine ⟨by omega, ⟨_, _, rfl, hroom, c2, by omega, fun ho => ?_⟩, fun ho hl => ?_⟩
        · rw [eL] at ho ⊢
          obtain ⟨g2, cap2, q1, q2, q3⟩ := c4 ho
          exact ⟨g2, cap2, q1, by rw [← q2, rA], q3⟩
        · subst ho
          rw [r2, hL, ← eL, ← hl]
          simp at rc
          subst rc
          simp
      · subst e0
        subst e1
        simp only [Nat.zero_add, Nat.zero_mul] at *
        subst rc
        obtain ⟨w', hw'⟩ : ∃ w', w' = w.setRow g (cur.toList.take (len * i.size) ++ us ++ cur.toList.drop (len * i.size + us.length)).toArray := ⟨_, rfl⟩
        rw [← hw'] at hrun
        have hoth : ∀ b, b ≠ g → w'.heap[b]? = w.heap[b]? := fun b hb => by rw [hw']; exact setRow_other w g b _ hb
        have hrow : w'.heap[g]? = some (.cells (cur.toList.take (len * i.size) ++ us ++ cur.toList.drop (len * i.size + us.length)).toArray e (0, 0)) := by rw [hw']; exact setRow_heap w g cur _ e _ r4
        have hsz : w'.heap.size = w.heap.size := by rw [hw']; exact setRow_size w g _
        obtain ⟨sv, hsv⟩ : ∃ sv, sv = Value.slice (some ⟨g, 0, none⟩) L' c := ⟨_, rfl⟩
        have hcl : cs'.length = L' := by rw [ec, List.length_append, hL, eL]
        have hfl : G.fl n = len := by rw [hb0.1, hL]
        have hE : Ext G.N G w (G.grow n G.S sv L' (some g)) w' := ⟨by rw [hsz]; exact Nat.le_refl _, fun _ _ h => h, fun b q hs => World.cell?_of_block (hoth b (fun e => r8 q (e ▸ hs))), fun _ _ => rfl, fun m _ => by
            by_cases em : m = n
            · right; subst em; simp only [Gh.grow, if_true, hfl]; omega
            · left; exact ⟨by simp [Gh.grow, em], by simp [Gh.grow, em]⟩, zsame rfl, fun b hb => hoth b (fun e => r3 (e ▸ hb)), by rw [hw']; rfl, by rw [hw']; rfl, by rw [hw']; rfl, fun b q hs => .inl hs⟩
        refine ⟨_, w', _, hrun, hE, Nat.le_refl _, inv_upd hi hn (fun _ => rfl) (fun _ => rfl) _ _ _ _ hE (fun g' hg' => by cases hg'; exact ⟨.inr r1, by rw [hsz]; exact (Array.getElem?_eq_some_iff.1 r4).1⟩) (fun b q hs => .inl hs) (fun b _ hb' => hoth b (fun e => hb' (by rw [e]))) ?_, ?_⟩
        · refine ⟨by simp [Gh.grow, hcl], by rw [hcl]; exact hm1, hwid', .inr ⟨g, c, _, by simp [Gh.grow], by simp [Gh.grow, hsv, hcl], r3, hrow, by rw [hcl]; omega, r6, by rw [row_size _ _ _ hfit]; exact r7, r8, fun a b d x q hd hx hq => ?_⟩⟩
          rw [row_get _ _ _ _ hfit] at hq
          exact (hnew a b d x q hd hx hq).keep hE (Nat.le_refl _)
        · refine .vec n 0 (len + ys.length) L' i.size hnN ⟨_, _, _, rfl⟩ (by simp [Gh.grow]) fun _ => ⟨by omega, ⟨_, _, rfl, hroom, c2, by omega, fun _ => ⟨g, c, by simp [Gh.grow, hsv], by simp, by simp⟩⟩, fun _ e => ?_⟩
          simp [Gh.grow, hsv, eL]
    rcases hb0.2.2.2 with ⟨b1, b2, A', b3⟩ | ⟨g, cap, cur, r1, r2, r3, r4, r5, r6, r7, r8, r9⟩
    · -- nothing yet: a new row
      subst b2
      simp at hL
      subst hL
      have ho : o = 0 := by omega
      have hl0 : len = 0 := by omega
      subst ho
      subst hl0
      have := call rfl rfl
      rw [b3] at this
      injection this with q1 _ q2
      subst q2
      rcases hway with ⟨hf, _, _⟩ | ⟨_, _, eL, ec, hm1, hm2⟩
      · omega
      · simp only [Nat.zero_add, List.nil_append] at eL ec
        subst ec
        rw [eL] at hm1 hm2
        have hsmall : cs'.length ≤ 9223372036854775807 := by simp only [maxLen] at hm1; omega
        have hold : (Builtin.firstCells i.size 0 (.slice A 0 0)).run P w.drew = .ok ([] : List Value).toArray w.drew := by
          cases A with
          | none => exact run_firstCells_none _ _ _ _ _
          | some a => exact run_firstCells_some _ _ _ _ _ _ [] (by simp) (fun j u hu => by simp at hu)
        have hrun := run_append_grow_src (P := P) w T tx ty e i z hT hinf hz A 0 0 [] hold v cs'.length us hs (by omega) (by omega) (growslice_fits (by omega) (by simpa using hm2))
        simp only [Nat.zero_add, List.nil_append] at hrun
        obtain ⟨cap, hcap⟩ : ∃ cap, cap = grownCap w cs'.length 0 e := ⟨_, rfl⟩
        have hge : cs'.length ≤ cap := by rw [hcap]; exact grownCap_ge _ _ _ _
        have hle : cap ≤ maxLen := by rw [hcap]; exact grownCap_le_maxLen _ _ _ _ hm1
        rw [← hcap] at hrun
        obtain ⟨cur, hcur⟩ : ∃ cur, cur = us.toArray ++ Builtin.zeroCells z.cells (cap - cs'.length) := ⟨_, rfl⟩
        rw [← hcur] at hrun
        have hcs : cur.size = cap * i.size := by
          have := size_zeroCells z.cells (cap - cs'.length)
          rw [hcur, Array.size_append, this, List.size_toArray, hr.len, hzs, ← Nat.add_mul]
          congr 1
          omega
        have hnew : (w.drew.alloc (.cells cur e)).heap[w.heap.size]? = some (.cells cur e (0, 0)) := World.alloc_heap_new w.drew _
        have hold2 : ∀ b, b < w.heap.size → (w.drew.alloc (.cells cur e)).heap[b]? = w.heap[b]? := fun b hb => Below.heap_alloc w.drew _ b hb
        obtain ⟨sv, hsv⟩ : ∃ sv, sv = Value.slice (some ⟨w.heap.size, 0, none⟩) L' cap := ⟨_, rfl⟩
        have hfl : G.fl n = 0 := by rw [hb0.1]; rfl
        have hE : Ext G.N G w (G.grow n G.S sv L' (some w.heap.size)) (w.drew.alloc (.cells cur e)) := ⟨by simp, fun _ _ h => h, fun b q hs => World.cell?_of_block (hold2 b (hi.S b q hs)), fun _ _ => rfl, fun m _ => by
            by_cases em : m = n
            · right; subst em; simp only [Gh.grow, if_true, hfl]; omega
            · left; exact ⟨by simp [Gh.grow, em], by simp [Gh.grow, em]⟩, zsame rfl, fun b hb => hold2 b (hi.z b hb), rfl, rfl, rfl, fun b q hs => .inl hs⟩
        refine ⟨_, _, _, hrun, hE, Nat.le_refl _, inv_upd hi hn (fun _ => rfl) (fun _ => rfl) _ _ _ _ hE (fun g' hg' => by cases hg'; exact ⟨.inl rfl, by simp⟩) (fun b q hs => .inl hs) (fun b hb _ => hold2 b hb) ?_, ?_⟩
        · refine ⟨by simp [Gh.grow, eL], hm1, hr.wid, .inr ⟨w.heap.size, cap, cur, by simp [Gh.grow], by simp [Gh.grow, hsv, eL], fun hz => Nat.lt_irrefl _ (hi.z _ hz), hnew, hge, hle, hcs, fun q hs => Nat.lt_irrefl _ (hi.S _ _ hs), fun a b d x q hd hx hq => ?_⟩⟩
          have hbk : b < i.size := by rw [← hr.wid d (List.mem_of_getElem? hd)]; exact (List.getElem?_eq_some_iff.1 hx).1
          have hlt : a * i.size + b < us.length := by rw [hr.len]; exact mul_lt_of (List.getElem?_eq_some_iff.1 hd).1 hbk
          rw [hcur, Array.getElem?_append_left (by simpa using hlt), List.getElem?_toArray] at hq
          exact (hr.rel a b d x q hd hx hq).keep hE (Nat.le_refl _)
        · rw [Nat.zero_add]
          refine .vec n 0 cs'.length L' i.size hnN ⟨_, _, _, rfl⟩ (by simp [Gh.grow]) fun _ => ⟨by omega, ⟨_, _, rfl, hge, hle, by omega, fun _ => ⟨w.heap.size, cap, by simp [Gh.grow, hsv], by simp, by simp⟩⟩, fun _ e => ?_⟩
          simp [Gh.grow, hsv, eL]
    · -- a row
      rcases hway with ⟨hf, eL, ec⟩ | ⟨e0, e1, eL, ec, hm1, hm2⟩
      · obtain ⟨g2, cap2, q1, q2, q3⟩ := c4 (by omega)
        rw [r2] at q1
        injection q1 with q4 _ q5
        cases q4
        subst q5
        exact room (by omega) g cap cur r1 r2 r3 r4 r5 r6 r7 r8 r9 q2 q3
      · have := call e0 e1
        rw [r2] at this
        injection this with q2 _ q3
        by_cases hroom : len + ys.length ≤ c
        · exact room hroom g cap cur r1 r2 r3 r4 r5 r6 r7 r8 r9 (by rw [q2, e0]; simp) (by omega)
        · subst e0
          subst q2
          subst q3
          rw [eL] at hm1 hm2
          have hsmall : L + ys.length ≤ 9223372036854775807 := by simp only [maxLen] at hm1; omega
          have holen : (cur.toList.take (len * i.size)).length = len * i.size := by
            rw [List.length_take, Array.length_toList, r7]
            exact Nat.min_eq_left (Nat.mul_le_mul_right _ c1)
          have hold : (Builtin.firstCells i.size len (.slice (some ⟨g, 0, none⟩) len c)).run P w.drew = .ok (cur.toList.take (len * i.size)).toArray w.drew :=
            run_firstCells_some _ _ _ _ _ _ _ holen (fun j q hq => by
              rw [add_off, Nat.zero_add]
              show w.cell? ⟨g, j, none⟩ = some q
              rw [cell_of_row w g _ cur e (0, 0) r4, ← Array.getElem?_toList]
              have hjl := (List.getElem?_eq_some_iff.1 hq).1
              rw [holen] at hjl
              rw [List.getElem?_take_of_lt hjl] at hq
              exact hq)
          have hrun := run_append_grow_src (P := P) w T tx ty e i z hT hinf hz (some ⟨g, 0, none⟩) len c _ hold v ys.length us hs (by omega) (by omega) (growslice_fits (by omega) (by rw [e1]; exact hm2))
          obtain ⟨cap, hcap⟩ : ∃ cap, cap = grownCap w (len + ys.length) c e := ⟨_, rfl⟩
          have hge : len + ys.length ≤ cap := by rw [hcap]; exact grownCap_ge _ _ _ _
          have hle : cap ≤ maxLen := by rw [hcap]; exact grownCap_le_maxLen _ _ _ _ (by rw [e1]; exact hm1)
          rw [← hcap] at hrun
          obtain ⟨cur2, hcur⟩ : ∃ cur2, cur2 = (cur.toList.take (len * i.size) ++ us).toArray ++ Builtin.zeroCells z.cells (cap - (len + ys.length)) := ⟨_, rfl⟩
          rw [← hcur] at hrun
          have hl2 : (cur.toList.take (len * i.size) ++ us).length = (len + ys.length) * i.size := by rw [List.length_append, holen, hr.len, ← Nat.add_mul]
          have hcs : cur2.size = cap * i.size := by
            have := size_zeroCells z.cells (cap - (len + ys.length))
            rw [hcur, Array.size_append, this, List.size_toArray, hl2, hzs, ← Nat.add_mul]
            congr 1
            omega
          have hnew : (w.drew.alloc (.cells cur2 e)).heap[w.heap.size]? = some (.cells cur2 e (0, 0)) := World.alloc_heap_new w.drew _
          have hold2 : ∀ b, b < w.heap.size → (w.drew.alloc (.cells cur2 e)).heap[b]? = w.heap[b]? := fun b hb => Below.heap_alloc w.drew _ b hb
          obtain ⟨sv, hsv⟩ : ∃ sv, sv = Value.slice (some ⟨w.heap.size, 0, none⟩) L' cap := ⟨_, rfl⟩
          have hfl : G.fl n = L := by rw [hb0.1, hL]
          have hcl : cs'.length = L' := by rw [ec, List.length_append, hL, eL]
          have hE : Ext G.N G w (G.grow n G.S sv L' (some w.heap.size)) (w.drew.alloc (.cells cur2 e)) := ⟨by simp, fun _ _ h => h, fun b q hs => World.cell?_of_block (hold2 b (hi.S b q hs)), fun _ _ => rfl, fun m _ => by
              by_cases em : m = n
              · right; subst em; simp only [Gh.grow, if_true, hfl]; omega
              · left; exact ⟨by simp [Gh.grow, em], by simp [Gh.grow, em]⟩, zsame rfl, fun b hb => hold2 b (hi.z b hb), rfl, rfl, rfl, fun b q hs => .inl hs⟩
          refine ⟨_, _, _, hrun, hE, Nat.le_refl _, inv_upd hi hn (fun _ => rfl) (fun _ => rfl) _ _ _ _ hE (fun g' hg' => by cases hg'; exact ⟨.inl rfl, by simp⟩) (fun b q hs => .inl hs) (fun b hb _ => hold2 b hb) ?_, ?_⟩
          · refine ⟨by simp [Gh.grow, hcl], by rw [hcl, eL]; exact hm1, fun d hd => ?_, .inr ⟨w.heap.size, cap, cur2, by simp [Gh.grow], by simp [Gh.grow, hsv, hcl], fun hz => Nat.lt_irrefl _ (hi.z _ hz), hnew, by rw [hcl]; omega, hle, hcs, fun q hs => Nat.lt_irrefl _ (hi.S _ _ hs), fun a b d x q hd hx hq => ?_⟩⟩
            · rw [ec] at hd
              rcases List.mem_append.1 hd with hd | hd
              · exact hwid d hd
              · exact hr.wid d hd
            · refine VRel.keep hE (Nat.le_refl _) ?_
              have hdk : d.length = i.size := by
                have hm := List.mem_of_getElem? hd
                rw [ec] at hm
                rcases List.mem_append.1 hm with hm | hm
                · exact hwid d hm
                · exact hr.wid d hm
              have hbk : b < i.size := by rw [← hdk]; exact (List.getElem?_eq_some_iff.1 hx).1
              have hal : a < len + ys.length := by
                have := (List.getElem?_eq_some_iff.1 hd).1
                rw [hcl, eL] at this; omega
              have hlt : a * i.size + b < (cur.toList.take (len * i.size) ++ us).length := by rw [hl2]; exact mul_lt_of hal hbk
              rw [hcur, Array.getElem?_append_left (by simpa using hlt), List.getElem?_toArray, getElem_app_cells _ us len a b holen hbk] at hq
              rw [ec] at hd
              by_cases h1 : a < len
              · rw [if_pos h1, List.getElem?_take_of_lt (mul_lt_of h1 hbk), Array.getElem?_toList] at hq
                rw [List.getElem?_append_left (by omega)] at hd
                exact r9 a b d x q hd hx hq
              · rw [if_neg h1] at hq
                rw [List.getElem?_append_right (by omega)] at hd
                exact hr.rel (a - len) b d x q (by rw [← hd]; congr 1; omega) hx hq
          · refine .vec n 0 (len + ys.length) L' i.size hnN ⟨_, _, _, rfl⟩ (by simp [Gh.grow]) fun _ => ⟨by omega, ⟨_, _, rfl, hge, hle, by omega, fun _ => ⟨w.heap.size, cap, by simp [Gh.grow, hsv], by simp, by simp⟩⟩, fun _ e => ?_⟩
            simp [Gh.grow, hsv, eL, e1]
/-- an append to nothing: a slice of one's own -/
theorem run_vnew {T tx ty e k by_ : Nat} {i : TypeInfo} {z : Value} {A : Option Addr} {v : Value} {ys : List (List AV)} {us : List Value} (hi : Inv G w h) (hT : P.underlying T = some (.slice e)) (hinf : P.info? e = some i) (hz : i.zero = some z) (hik : i.size = k) (hib : i.bytes = by_) (hzs : z.cells.size = k) (hk0 : 0 < k)
    (hr : RdV G w k ys us) (hs : Src P k tx v ys.length us w) (hm1 : ys.length ≤ maxLen) (hm2 : ys.length * by_ ≤ 140737488355328) :
    ∃ r w' G', (Builtin.append_ #[T, tx] ty #[.slice A 0 0, v]).run P w = .ok r w' ∧ Ext G.N G w G' w' ∧ G.N ≤ G'.N ∧ Inv G' w' (h ++ [.vec e k ys]) ∧ VRel G' w' r (.vec h.length 0 ys.length ys.length k) := by
  subst hik
  subst hib
  by_cases hy : ys.length = 0
  · have hys : ys = [] := List.eq_nil_of_length_eq_zero hy
    subst hys
    have hus : us = [] := List.eq_nil_of_length_eq_zero (by rw [hr.len]; simp)
    subst hus
    have hrun := run_append_nothing (P := P) w T tx ty e i hT hinf A 0 0 (Nat.le_refl _) v hs
    obtain ⟨hE, hI⟩ := inv_new (w' := w) hi (.vec e i.size []) (fun _ _ => rfl) (.slice A 0 0) 0 none ⟨fun _ _ => rfl, Nat.le_refl _, rfl, rfl, rfl⟩ (fun g hg => by cases hg) ⟨by simp [Gh.addV], by simp, (fun _ h => by cases h), .inl ⟨by simp [Gh.addV], rfl, A, by simp [Gh.addV]⟩⟩
    refine ⟨_, w, _, hrun, hE, Nat.le_succ _, hI, ?_⟩
    rw [hi.len]
    exact .vec G.N 0 0 0 i.size (by simp [Gh.addV]) ⟨_, _, _, rfl⟩ (by simp) fun _ => ⟨by omega, ⟨A, 0, rfl, Nat.le_refl _, Nat.zero_le _, by omega, fun h => by omega⟩, fun _ _ => by simp [Gh.addV]⟩
  · have hsmall : ys.length ≤ 9223372036854775807 := by simp only [maxLen] at hm1; omega
    have hold : (Builtin.firstCells i.size 0 (.slice A 0 0)).run P w.drew = .ok ([] : List Value).toArray w.drew := by
      cases A with
      | none => exact run_firstCells_none _ _ _ _ _
      | some a => exact run_firstCells_some _ _ _ _ _ _ [] (by simp) (fun j u hu => by simp at hu)
    have hrun := run_append_grow_src (P := P) w T tx ty e i z hT hinf hz A 0 0 [] hold v ys.length us hs (by omega) (by omega) (growslice_fits (by omega) (by simpa using hm2))
    simp only [Nat.zero_add, List.nil_append] at hrun
    obtain ⟨cap, hcap⟩ : ∃ cap, cap = grownCap w ys.length 0 e := ⟨_, rfl⟩
    have hge : ys.length ≤ cap := by rw [hcap]; exact grownCap_ge _ _ _ _
    have hle : cap ≤ maxLen := by rw [hcap]; exact grownCap_le_maxLen _ _ _ _ hm1
    rw [← hcap] at hrun
    obtain ⟨cur, hcur⟩ : ∃ cur, cur = us.toArray ++ Builtin.zeroCells z.cells (cap - ys.length) := ⟨_, rfl⟩
    rw [← hcur] at hrun
    have hcs : cur.size = cap * i.size := by
      have := size_zeroCells z.cells (cap - ys.length)
      rw [hcur, Array.size_append, this, List.size_toArray, hr.len, hzs, ← Nat.add_mul]
      congr 1
      omega
    obtain ⟨G', g1, g2, g3, g4⟩ := vec_fresh (e := e) (k := i.size) (cap := cap) (cs := ys) (cur := cur) hi hge hle hcs hr.wid w.drew ⟨rfl, rfl, rfl, rfl⟩ (fun a b d x q hd hx hq => by
      have hbk : b < i.size := by rw [← hr.wid d (List.mem_of_getElem? hd)]; exact (List.getElem?_eq_some_iff.1 hx).1
      have hlt : a * i.size + b < us.length := by rw [hr.len]; exact mul_lt_of (List.getElem?_eq_some_iff.1 hd).1 hbk
      rw [hcur, Array.getElem?_append_left (by simpa using hlt), List.getElem?_toArray] at hq
      exact hr.rel a b d x q hd hx hq)
    exact ⟨_, _, G', hrun, g1, g2, g3, g4 _ (Nat.le_refl _)⟩
end
end Go.Proofs.YtaiihhogoogkmaaGreatDoor
