/-
  Why the small language's operations are right: the theorem on one operation.
-/
import Derived.Test.YtaiihhogoogkmaaGreatDoorAbsOp2
namespace Go.Proofs.YtaiihhogoogkmaaGreatDoor
open Go.RowKit

def Gh.addS (G : Gh) (b m : Nat) : Gh := { G with S := fun c o => G.S c o ∨ (c = b ∧ o < m) }
theorem inv_data {G : Gh} {w : World} {h : List Blk} (hi : Inv G w h) (ob : Obj) (m : Nat) : Ext G.N G w (G.addS w.heap.size m) (w.alloc ob) ∧ Inv (G.addS w.heap.size m) (w.alloc ob) h := by
  have hE : Ext G.N G w (G.addS w.heap.size m) (w.alloc ob) :=
    ⟨by simp, fun _ _ h => .inl h, fun b _ h => World.cell?_alloc_lt _ _ _ (hi.S _ _ h), fun _ _ => rfl, fun _ _ => .inl ⟨rfl, rfl⟩, zsame rfl, fun b hb => Below.heap_alloc w ob b (hi.z b hb), rfl, rfl, rfl, fun b o hs => hs.imp id fun ⟨e, _⟩ hz => Nat.lt_irrefl _ (hi.z _ (e ▸ hz))⟩
  refine ⟨hE, hi.len, fun b hb => Nat.lt_of_lt_of_le (hi.z b hb) hE.size, fun b o hs => ?_, fun n B hB => ?_, fun m n b h1 h2 => hi.inj m n b h1 h2, hi.gl.keep hE⟩
  · rcases hs with hs | ⟨rfl, _⟩
    · exact Nat.lt_of_lt_of_le (hi.S b o hs) hE.size
    · simp
  · refine BRel.keep (hi.lt hB) hE (Nat.le_refl _) ⟨rfl, rfl, rfl⟩ (fun b hb => ?_) (hi.blk n B hB)
    have hlt := hi.ownlt (n := n) (b := b) ((ownB_of hB).trans hb)
    refine ⟨Below.heap_alloc w _ _ hlt, fun o hns hs => ?_⟩
    rcases hs with hs | ⟨e, _⟩
    · exact hns hs
    · omega
theorem placesN_get (k : Nat) : ∀ (n o i : Nat) (pl : Nat × Nat), (placesN k o n)[i]? = some pl → pl = (o + i * k, k)
  | 0, _, _, _, h => by simp [placesN] at h
  | n + 1, o, 0, pl, h => by simp [placesN] at h; rw [← h]; simp
  | n + 1, o, i + 1, pl, h => by
    have := placesN_get k n (o + k) i pl (by simpa [placesN] using h)
    rw [this, Nat.add_mul]; simp; omega
theorem repN_length (l : List AV) : ∀ n, (repN n l).length = n * l.length
  | 0 => by simp [repN]
  | n + 1 => by rw [repN, List.length_append, repN_length l n, Nat.add_mul]; omega
theorem repN_get (l : List AV) : ∀ (n i : Nat), i < n * l.length → (repN n l)[i]? = l[i % l.length]?
  | 0, i, h => by omega
  | n + 1, i, h => by
    rw [repN]
    by_cases hi : i < l.length
    · rw [List.getElem?_append_left hi, Nat.mod_eq_of_lt hi]
    · rw [List.getElem?_append_right (by omega), repN_get l n _ (by rw [Nat.add_mul] at h; omega), ← Nat.mod_eq_sub_mod (by omega)]
theorem repN_eq (z : Value) {k : Nat} (hz : z.cells.size = k) (n : Nat) : repN n (z.cells.toList.map fun u => .d (.v u)) = (List.range (n * k)).map fun i => .d (.v (z.cells[i % z.cells.size]!)) := by
  have hl : (z.cells.toList.map fun u => AV.d (.v u)).length = k := by simp [hz]
  refine List.ext_getElem? fun i => ?_
  by_cases hi : i < n * k
  · rw [repN_get _ _ _ (by rw [hl]; exact hi), List.getElem?_map, List.getElem?_map, List.getElem?_range hi, hl, hz, Array.getElem?_toList]
    have hk : 0 < k := Nat.pos_of_ne_zero fun e => by subst e; simp at hi
    have hlt : i % k < z.cells.size := by rw [hz]; exact Nat.mod_lt _ hk
    rw [Array.getElem?_eq_getElem hlt]
    simp only [Option.map_some]
    rw [getElem!_pos z.cells (i % k) hlt]
  · rw [List.getElem?_eq_none (by rw [repN_length, hl]; omega), List.getElem?_eq_none (by simp; omega)]
theorem fillA_length : ∀ {ps : List (Nat × AV)} {places : List (Nat × Nat)} {cs cs' : List AV}, fillA places cs ps = some cs' → cs'.length = cs.length
  | [], _, _, _, h => by simp only [fillA, Option.some.injEq] at h; rw [h]
  | (i, x) :: ps, places, cs, cs', h => by
    unfold fillA at h
    split at h
    · rw [cond_eq_ite] at h
      split at h
      · rename_i hc
        simp only [Bool.and_eq_true, beq_iff_eq, leB_iff] at hc
        rw [fillA_length h, splice_length _ _ _ (by rw [hc.1]; exact hc.2)]
      · cases h
    · cases h
section
variable {P : Program} {r : Option Nat} {n N0 : Nat} {G : Gh} {w : World} {a : Act} {s : St} {o : Oper} {K : St → Prop} {Q : Exit → Act → World → Prop}
theorem run_aBuildSlice {T len : Nat} {h : List Blk} {ps : List (Nat × AV)} {qs : Array (Nat × Value)} {C : AV → Prop} (hi : Inv G w h) (hl : qs.toList.length = ps.length)
    (hr : ∀ (i : Nat) (p : Nat × AV) (q : Nat × Value), ps[i]? = some p → qs.toList[i]? = some q → q.1 = p.1 ∧ VRel G w q.2 p.2) (hC : aBuildSlice P T len ps C) :
    ∃ u w' G' y, (Instr.buildSlice T len qs).run P w = .ok u w' ∧ Ext G.N G w G' w' ∧ G.N ≤ G'.N ∧ Inv G' w' h ∧ VRel G' w' u y ∧ C y := by
  unfold aBuildSlice at hC
  split at hC
  · rename_i e k hT
    obtain ⟨hT1, hT2⟩ := elmT_spec hT
    split at hC
    · rename_i z hz
      split at hC
      · rename_i cs hf
        split at hC
        · rename_i ds hds
          obtain ⟨hall, hC⟩ := chk_iff.1 hC
          simp only [Bool.and_eq_true, beq_iff_eq, leB_iff, Array.length_toList] at hall
          obtain ⟨⟨⟨⟨hk, hsm⟩, hzs⟩, hone⟩, hb⟩ := hall
          have hone := all_toList hone
          rw [repN_eq z hzs] at hf
          have hpl := placesN_get k
          obtain ⟨z0, hz0⟩ : ∃ z0 : Array Value, z0 = if len * k = 0 then #[] else z.cells := ⟨_, rfl⟩
          obtain ⟨zr, hzr⟩ : ∃ zr : Array Value, zr = (Array.range (len * k)).map (z0[· % z0.size]!) := ⟨_, rfl⟩
          have hrow : Row G w zr ((List.range (len * k)).map fun i => .d (.v (z.cells[i % z.cells.size]!))) := by
            have hel : ∀ i, i < len * k → z0[i % z0.size]! = z.cells[i % z.cells.size]! := fun i hi => by rw [hz0, if_neg (by omega)]
            refine ⟨by rw [hzr]; simp, fun i u c hu hc => ?_, fun i u hu => ?_⟩
            · rw [hzr, Array.getElem?_map] at hu
              rw [List.getElem?_map] at hc
              by_cases hi : i < len * k
              · rw [List.getElem?_range hi] at hc
                rw [Array.getElem?_range, if_pos hi] at hu
                simp only [Option.map_some, Option.some.injEq] at hu hc
                subst hu; subst hc
                rw [hel i hi]; exact .d (.v _)
              · rw [List.getElem?_eq_none (by simp; omega)] at hc; cases hc
            · rw [hzr, Array.getElem?_map] at hu
              by_cases hi : i < len * k
              · rw [Array.getElem?_range, if_pos hi] at hu
                simp only [Option.map_some, Option.some.injEq] at hu
                subst hu
                rw [hel i hi]
                have hlt : i % z.cells.size < z.cells.size := Nat.mod_lt _ (by omega)
                rw [getElem!_pos z.cells _ hlt]
                exact Array.all_eq_true_iff_forall_mem.1 hone _ (Array.getElem_mem _)
              · rw [Array.getElem?_eq_none (by simp; omega)] at hu; cases hu
          obtain ⟨vs', h1, h2⟩ := fill_row (fun i => some (i * k, k)) (placesN k 0 len) (fun i pl h => by
            have := hpl len 0 i pl h
            rw [this]; simp) ps qs.toList _ cs zr hrow hl hr hb hf
          obtain ⟨d1, d2⟩ := allD_spec hds
          have hcl : cs.length = len * k := by
            have := fillA_length hf
            rw [this]; simp
          have hvl : vs'.size = len * k := by rw [h2.len, hcl]
          obtain ⟨i1, i2⟩ := inv_data hi (.cells vs' e) (len * k)
          have hrd : Rd G.S w k (chunks k len ds) vs'.toList := rd_chunks (by rw [d1, hcl]) (by rw [Array.length_toList, hvl]) (fun u hu => by
            obtain ⟨j, hj⟩ := List.mem_iff_getElem?.1 hu
            exact h2.one j u (by rw [← Array.getElem?_toList]; exact hj)) (fun i u d hu hd => by
            have hlt : i < cs.length := by rw [← d1]; exact (List.getElem?_eq_some_iff.1 hd).1
            exact (h2.rel i u _ (by rw [← Array.getElem?_toList]; exact hu) (List.getElem?_eq_getElem hlt)).toD (d2 i _ d (List.getElem?_eq_getElem hlt) hd))
          have hp : PRel (G.addS w.heap.size (len * k)).S (w.alloc (.cells vs' e)) (.slice (some ⟨w.heap.size, 0, none⟩) len len) (.sl (chunks k len ds)) := by
            have := (hrd.keep i1.S i1.cell).prel w.heap.size len (by rw [chunks_length]; exact Nat.le_refl _) (by have := Nat.le_mul_of_pos_right len hk; simp only [maxLen]; omega) (fun o ho => .inr ⟨rfl, by rw [chunks_length] at ho; exact ho⟩) (fun o u hu => by
              rw [World.cell?_alloc_new]
              rw [← Array.getElem?_toList]; exact hu)
            rwa [chunks_length] at this
          refine ⟨_, _, _, _, ?_, i1, Nat.le_refl _, i2, .full _ hp ⟨some ⟨w.heap.size, 0, none⟩, by rw [chunks_length]⟩, hC⟩
          have hns : ¬ (len * k > 2 ^ 24) := by omega
          unfold Instr.buildSlice
          simp only [Sem.run_bind, run_underlying hT1, Result.andThen_ok, run_szT hT2, hns, if_false]
          by_cases h0 : len * k = 0
          · rw [if_pos h0] at hz0
            subst hz0
            subst hzr
            simp [h0] at h1
            simp [h0, h1, newRow]
          · rw [if_neg h0] at hz0
            subst hz0
            subst hzr
            simp [h0, run_zeroT hz, h1, newRow]
        · exact hC.elim
      · exact hC.elim
    · exact hC.elim
  · exact hC.elim
end
end Go.Proofs.YtaiihhogoogkmaaGreatDoor
