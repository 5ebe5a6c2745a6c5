/-
  Why the small language's operations on maps are right.
-/
import Derived.Test.YtaiihhogoogkmaaGreatDoorAbsOp3
namespace Go.Proofs.YtaiihhogoogkmaaGreatDoor
open Go.RowKit

section
variable {P : Program} {G : Gh} {w : World} {h : List Blk}
theorem mget_cons (k s : ByteArray) (d : D) (l : List (ByteArray × D)) : mget ((k, d) :: l) s = if k = s then some d else mget l s := by
  have e1 : mget ((k, d) :: l) s = bif bL k == bL s then some d else mget l s := rfl
  rw [e1]
  by_cases e : k = s
  · subst e; rw [if_pos rfl]; simp
  · rw [if_neg e]
    have : (bL k == bL s) = false := by rw [beq_eq_false_iff_ne]; exact fun he => e (bL_inj he)
    rw [this]; rfl
theorem mapT_spec {T k e : TypeId} (h : mapT P T = some (k, e)) : P.underlying T = some (.map k e) := by
  unfold mapT at h
  split at h
  · next k' e' hT => cases h; exact hT
  · cases h
/-- a block of another kind is laid -/
theorem inv_map_alloc (hi : Inv G w h) : Ext G.N G w (G.addC w.heap.size) (w.alloc (.map #[] 0)) ∧ Inv (G.addC w.heap.size) (w.alloc (.map #[] 0)) (h ++ [.map []]) ∧ VRel (G.addC w.heap.size) (w.alloc (.map #[] 0)) (.map (some w.heap.size)) (.mp h.length) := by
  have hE := ext_alloc G w hi.z hi.S (.map #[] 0)
  have hN : G.N ≤ (G.addC w.heap.size).N := Nat.le_succ _
  have hrho : (G.addC w.heap.size).rho h.length = w.heap.size := by simp [Gh.addC, hi.len]
  have hown1 : ∀ n (B : Blk), n < G.N → B.own1 (G.addC w.heap.size) n = B.own1 G n := fun n B hn => by
    cases B <;> simp [Blk.own1, Gh.addC, Nat.ne_of_lt hn]
  have hnew : ∀ n, n < G.N → ownB (h ++ [.map []]) (G.addC w.heap.size) n = ownB h G n := fun n hn => by
    have hlt : n < h.length := by rw [hi.len]; exact hn
    unfold ownB
    rw [List.getElem?_append_left hlt, List.getElem?_eq_getElem hlt]
    exact hown1 n _ hn
  have hlast : ownB (h ++ [.map []]) (G.addC w.heap.size) h.length = some w.heap.size := by
    rw [ownB_of (B := .map []) (by simp)]; exact congrArg some hrho
  refine ⟨hE, ⟨by simp [Gh.addC, hi.len], fun b hb => Nat.lt_of_lt_of_le (hi.z b hb) hE.size, fun b o hs => Nat.lt_of_lt_of_le (hi.S b o hs) hE.size, fun n B hB => ?_, fun m n b hm hn => ?_, hi.gl.keep hE⟩, ?_⟩
  · by_cases hn : n < h.length
    · rw [List.getElem?_append_left hn] at hB
      have hn' : n < G.N := hi.len ▸ hn
      exact BRel.keep hn' hE hN ⟨rfl, rfl, rfl⟩ (fun b hb => ⟨Below.heap_alloc w _ _ (hi.ownlt (n := n) ((ownB_of hB).trans hb)), fun o h => h⟩) (hi.blk n B hB)
    · have hn2 : n = h.length := by
        have := (List.getElem?_eq_some_iff.1 hB).1
        simp at this; omega
      subst hn2
      simp at hB
      subst hB
      exact ⟨by rw [hrho]; exact fun hz => Nat.lt_irrefl _ (hi.z _ hz), fun o hs => by rw [hrho] at hs; exact Nat.lt_irrefl _ (hi.S _ _ hs), #[], 0, by rw [hrho]; exact World.alloc_heap_new w _,
        ⟨by simp, MapKept.stamped_empty 0, fun e he => (by simp at he), fun s d hs => (by cases hs), by simp, fun i e he => (by simp at he), rfl⟩⟩
  · have key : ∀ n b, ownB (h ++ [.map []]) (G.addC w.heap.size) n = some b → (n < G.N ∧ ownB h G n = some b) ∨ (n = h.length ∧ b = w.heap.size) := fun n b hn => by
      by_cases hlt : n < G.N
      · exact .inl ⟨hlt, by rw [← hnew n hlt]; exact hn⟩
      · by_cases e : n = h.length
        · subst e; rw [hlast] at hn; cases hn; exact .inr ⟨rfl, rfl⟩
        · rw [ownB_none (List.getElem?_eq_none (by simp; have := hi.len; omega))] at hn
          cases hn
    rcases key m b hm with ⟨_, hm'⟩ | ⟨rfl, rfl⟩ <;> rcases key n _ hn with ⟨_, hn'⟩ | ⟨rfl, hb⟩
    · exact hi.inj m n b hm' hn'
    · have := hi.ownlt hm'; omega
    · have := hi.ownlt hn'; omega
    · rfl
  · have := VRel.mp (G := G.addC w.heap.size) (w := w.alloc (.map #[] 0)) h.length (by simp [Gh.addC, hi.len])
    rwa [hrho] at this
theorem isKey_str {s : ByteArray} : MapKept.IsKey .string (.string s) := trivial
theorem run_lookup {T k e : TypeId} {z : Value} {n : Nat} {kv : List (ByteArray × D)} {s : ByteArray} {ok : Bool} (hi : Inv G w h) (hT : mapT P T = some (k, e)) (hz : zeroT P e = some z) (hk : strT P k = true) (hn : h[n]? = some (.map kv)) :
    ∃ v, (Instr.lookup T (.map (some (G.rho n))) (.string s) ok).run P w = .ok v w ∧ VRel G w v (lookR ok z (mget kv s)) := by
  obtain ⟨_, _, es, clock, hh, hm⟩ := hi.blk n _ hn
  have hks : ∀ x ∈ es.toList, MapKept.IsKey .string x.key := fun x hx => by
    obtain ⟨s', d, h1, _⟩ := hm.ent x hx
    rw [h1]; exact isKey_str
  have hkd := strT_spec hk
  have one : ∀ (v : Value) (d : D) (b : Bool), PRel G.S w v d → VRel G w (if ok then .tuple #[v, .bool b] else v) (bif ok then .tup [.d d, .d (.v (.bool b))] else .d d) := fun v d b hp => by
    cases ok with
    | false => exact .d hp
    | true =>
      refine .tup #[v, .bool b] _ rfl fun i u c hu hc => ?_
      match i with
      | 0 => simp at hu hc; subst hu; subst hc; exact .d hp
      | 1 => simp at hu hc; subst hu; subst hc; exact .d (.v _)
      | i + 2 => simp at hu
  rcases MapKept.findNow_spec (isKey_str (s := s)) es.toList 0 hks with ⟨h1, h2⟩ | ⟨j, e0, h1, h2, h3⟩
  · have hnone : mget kv s = none := by
      cases hq : mget kv s with
      | none => rfl
      | some d =>
        obtain ⟨x, hx, hxk⟩ := hm.all s d hq
        exact absurd hxk (h2 x hx)
    refine ⟨if ok then .tuple #[z, .bool false] else z, ?_, ?_⟩
    · simp [Instr.lookup, run_underlying (mapT_spec hT), MapKept.run_getObj_map hh, MapKept.run_checkKey hkd isKey_str, MapKept.run_findKey hkd h1, run_zeroT hz, Result.andThen]
    · rw [hnone]
      have := one z (.v z) false (.v z)
      unfold lookR
      exact this
  · have hmem : e0 ∈ es.toList := List.mem_of_getElem? h2
    obtain ⟨s', d, k1, k2, k3⟩ := hm.ent e0 hmem
    rw [h3] at k1
    cases k1
    refine ⟨if ok then .tuple #[e0.val, .bool true] else e0.val, ?_, ?_⟩
    · simp [Instr.lookup, run_underlying (mapT_spec hT), MapKept.run_getObj_map hh, MapKept.run_checkKey hkd isKey_str, MapKept.run_findKey hkd h1, Result.andThen]
    · rw [k2]
      have := one e0.val d true k3
      unfold lookR
      exact this
theorem run_mapUpd {T k e : TypeId} {n : Nat} {kv : List (ByteArray × D)} {s : ByteArray} {v : Value} {d : D} (hi : Inv G w h) (hT : mapT P T = some (k, e)) (hk : strT P k = true) (hn : h[n]? = some (.map kv)) (hv : PRel G.S w v d) (hlen : kv.length < maxLen) :
    ∃ w', (Instr.mapUpdate T (.map (some (G.rho n))) (.string s) v).run P w = .ok () w' ∧ Ext G.N G w G w' ∧ Inv G w' (h.set n (.map ((s, d) :: kv))) := by
  obtain ⟨hZ, hS, es, clock, hh, hm⟩ := hi.blk n _ hn
  have hks : ∀ x ∈ es.toList, MapKept.IsKey .string x.key := fun x hx => by
    obtain ⟨s', d, h1, _⟩ := hm.ent x hx
    rw [h1]; exact isKey_str
  have hkd := strT_spec hk
  have fin : ∀ (es' : Array MapEntry) (clock' : Nat) (w' : World), w' = ChangeMaps.setBlock w (G.rho n) (.map es' clock') → MapOK G.S w es' clock' ((s, d) :: kv) → Ext G.N G w G w' ∧ Inv G w' (h.set n (.map ((s, d) :: kv))) := by
    intro es' clock' w' hw' hm'
    have hoth : ∀ b, b ≠ G.rho n → w'.heap[b]? = w.heap[b]? := fun b hb => by rw [hw']; exact ChangeMaps.heap_setBlock_other hh _ hb
    have hsame : w'.heap[G.rho n]? = some (.map es' clock') := by rw [hw']; exact ChangeMaps.heap_setBlock_same hh _
    have hsz : w'.heap.size = w.heap.size := by rw [hw']; simp [ChangeMaps.setBlock]
    have hcell : ∀ b o, G.S b o → w'.cell? ⟨b, o, none⟩ = w.cell? ⟨b, o, none⟩ := fun b o hs => World.cell?_of_block (hoth b (fun e => hS o (e ▸ hs)))
    have hE : Ext G.N G w G w' := ⟨by rw [hsz]; exact Nat.le_refl _, fun _ _ h => h, hcell, fun _ _ => rfl, fun _ _ => .inl ⟨rfl, rfl⟩, zsame rfl, fun b hb => hoth b (fun e => hZ (e ▸ hb)), by rw [hw']; rfl, by rw [hw']; rfl, by rw [hw']; rfl, fun _ _ h => .inl h⟩
    refine ⟨hE, ?_⟩
    have hon : ownB h G n = some (G.rho n) := ownB_of hn
    have hgn : (h.set n (.map ((s, d) :: kv)))[n]? = some (.map ((s, d) :: kv)) := by rw [List.getElem?_set_self (List.getElem?_eq_some_iff.1 hn).1]
    have hget : ∀ m, m ≠ n → (h.set n (.map ((s, d) :: kv)))[m]? = h[m]? := fun m hm => by rw [List.getElem?_set_ne (Ne.symm hm)]
    have hown : ∀ m, ownB (h.set n (.map ((s, d) :: kv))) G m = ownB h G m := fun m => by
      by_cases e : m = n
      · subst e; rw [ownB_of hgn, ownB_of hn]; rfl
      · unfold ownB; rw [hget m e]
    refine ⟨by rw [List.length_set]; exact hi.len, fun b hb => Nat.lt_of_lt_of_le (hi.z b hb) hE.size, fun b o hs => Nat.lt_of_lt_of_le (hi.S b o hs) hE.size, fun m B hB => ?_, fun m m' b h1 h2 => hi.inj m m' b (by rw [← hown]; exact h1) (by rw [← hown]; exact h2), hi.gl.keep hE⟩
    by_cases e : m = n
    · subst e
      rw [hgn] at hB
      cases hB
      exact ⟨hZ, hS, es', clock', hsame, hm'.keep (fun _ _ h => h) hcell⟩
    · rw [hget m e] at hB
      have hne : ∀ b, ownB h G m = some b → b ≠ G.rho n := fun b hb eb => e (hi.inj m n b hb (by rw [eb]; exact hon))
      exact BRel.keep (hi.lt hB) hE (Nat.le_refl _) ⟨rfl, rfl, rfl⟩ (fun b hb => ⟨hoth b (hne _ ((ownB_of hB).trans hb)), fun o h => h⟩) (hi.blk m B hB)
  rcases MapKept.findNow_spec (isKey_str (s := s)) es.toList 0 hks with ⟨h1, h2⟩ | ⟨j, e0, h1, h2, h3⟩
  · have hm' : MapOK G.S w (es.push ⟨.string s, v, clock⟩) (clock + 1) ((s, d) :: kv) := by
      refine ⟨by have := hm.len; simp; omega, MapKept.stamped_push hm.stamped h2, fun x hx => ?_, fun s' d' hs' => ?_, by have := hm.len; simp; omega, fun i e he => ?_, by rw [hm.clk]; simp⟩
      · simp only [Array.toList_push, List.mem_append, List.mem_singleton] at hx
        rcases hx with hx | rfl
        · obtain ⟨s', d', k1, k2, k3⟩ := hm.ent x hx
          refine ⟨s', d', k1, ?_, k3⟩
          rw [mget_cons, if_neg (fun e => h2 x hx (by rw [k1, e]))]
          exact k2
        · exact ⟨s, d, rfl, by rw [mget_cons, if_pos rfl], hv⟩
      · rw [mget_cons] at hs'
        simp only [Array.toList_push, List.mem_append, List.mem_singleton]
        split at hs'
        · next e => subst e; exact ⟨_, .inr rfl, rfl⟩
        · obtain ⟨x, hx, hk⟩ := hm.all s' d' hs'
          exact ⟨x, .inl hx, hk⟩
      · rw [Array.getElem?_push] at he
        split at he
        · next ei => cases he; rw [ei]; exact hm.clk
        · exact hm.born i e he
    obtain ⟨f1, f2⟩ := fin _ _ _ rfl hm'
    refine ⟨_, ?_, f1, f2⟩
    simp [Instr.mapUpdate, run_underlying (mapT_spec hT), MapKept.run_getObj_map hh, MapKept.run_checkKey hkd isKey_str, MapKept.run_findKey hkd h1, MapKept.run_setObj_map _ hh, Result.andThen, ChangeMaps.setBlock]
  · have hj : es[j]? = some e0 := by simpa using h2
    have hjl : j < es.toList.length := (List.getElem?_eq_some_iff.1 h2).1
    have hkeyf : ∀ e', es[j]? = some e' → ({ e' with key := .string s, val := v } : MapEntry).key = e'.key := fun e' he' => by rw [hj] at he'; cases he'; exact h3.symm
    have hlist : (es.modify j (fun e' => { e' with key := .string s, val := v })).toList = es.toList.set j { e0 with key := .string s, val := v } := by
      rw [Array.toList_modify]; exact ChangeMaps.modify_eq_set _ _ _ _ h2
    have hnd : (es.toList.map (·.key)).Nodup := hm.stamped.2.2
    have hm' : MapOK G.S w (es.modify j (fun e' => { e' with key := .string s, val := v })) clock ((s, d) :: kv) := by
      refine ⟨by simpa using hm.size, MapKept.stamped_modify hm.stamped _ _ (fun _ _ => rfl) (fun e' _ he' => hkeyf e' he'), fun x hx => ?_, fun s' d' hs' => ?_, by have := hm.len; simp; omega, fun i e he => ?_, by rw [hm.clk]; simp⟩
      · rw [hlist] at hx
        obtain ⟨i, hi', ex⟩ := List.getElem_of_mem hx
        rw [List.getElem_set] at ex
        split at ex
        · rw [← ex]; exact ⟨s, d, rfl, by rw [mget_cons, if_pos rfl], hv⟩
        · next hne =>
          have hi2 : i < es.toList.length := by simpa using hi'
          have hx' : x ∈ es.toList := by rw [← ex]; exact List.getElem_mem hi2
          obtain ⟨s', d', k1, k2, k3⟩ := hm.ent x hx'
          refine ⟨s', d', k1, ?_, k3⟩
          rw [mget_cons, if_neg ?_]
          · exact k2
          · intro es'
            have a1 : (es.toList.map (·.key))[i]? = some (.string s) := by rw [List.getElem?_map, List.getElem?_eq_getElem hi2, ex]; simp [k1, es']
            have a2 : (es.toList.map (·.key))[j]? = some (.string s) := by rw [List.getElem?_map, h2]; simp [h3]
            have hii : i < (es.toList.map (·.key)).length := by simpa using hi2
            exact hne ((List.getElem?_inj hii hnd).1 (a1.trans a2.symm)).symm
      · rw [hlist]
        rw [mget_cons] at hs'
        split at hs'
        · next e => subst e; exact ⟨_, List.mem_iff_getElem?.2 ⟨j, List.getElem?_set_self hjl⟩, rfl⟩
        · next hne =>
          obtain ⟨x, hx, hk⟩ := hm.all s' d' hs'
          obtain ⟨i, hi', ex⟩ := List.getElem_of_mem hx
          refine ⟨x, List.mem_iff_getElem.2 ⟨i, by simpa using hi', ?_⟩, hk⟩
          rw [List.getElem_set]
          split
          · next e =>
            subst e
            exfalso
            have : es.toList[j]? = some x := by rw [List.getElem?_eq_getElem hi', ex]
            rw [this] at h2
            cases h2
            rw [h3] at hk
            injection hk with hk
            exact hne hk
          · exact ex
      · rw [Array.getElem?_modify] at he
        split at he
        · next ei =>
          subst ei
          rw [hj] at he
          cases he
          exact hm.born _ e0 hj
        · exact hm.born i e he
    obtain ⟨f1, f2⟩ := fin _ _ _ rfl hm'
    refine ⟨_, ?_, f1, f2⟩
    simp [Instr.mapUpdate, run_underlying (mapT_spec hT), MapKept.run_getObj_map hh, MapKept.run_checkKey hkd isKey_str, MapKept.run_findKey hkd h1, hj, h3, MapKept.run_keyThatStays isKey_str, MapKept.run_setObj_map _ hh, Result.andThen, ChangeMaps.setBlock]
end
end Go.Proofs.YtaiihhogoogkmaaGreatDoor
