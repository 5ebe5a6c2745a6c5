/-
  Why the small language's reading of memory is right: allocation, loading, storing and appending.
-/
import Derived.Test.YtaiihhogoogkmaaGreatDoorAbsOps
namespace Go.Proofs.YtaiihhogoogkmaaGreatDoor
open Go.RowKit

theorem add_off (b o n : Nat) : (⟨b, o, none⟩ : Addr).add n = ⟨b, o + n, none⟩ := by unfold Addr.add; split <;> simp_all

structure Sat (G : Gh) (w : World) (a : Act) (s : St) : Prop where
  size : a.tmps.size = s.n
  tmp : ∀ i, VRel G w (a.tmps.getD i undef) (tget s.t i)
  inv : Inv G w s.h
  df : Marks G w a.defers

theorem CapRel.av {G : Gh} {w : World} {u : Value} {c : Cap} (h : CapRel G.S w u c) : VRel G w u c.av := by
  cases h with
  | d h => exact .d h
  | elt c off b o u h1 h2 => exact .elt [c] 0 off b o u c rfl h1 h2
  | fn f vs cs hl h => exact .hid (.fn f vs cs hl h) rfl
theorem VRel.cellB {G : Gh} {w : World} {u : Value} {x : AV} (h : VRel G w u x) (hb : x.cellB = true) : u.oneCell' = true := by
  cases h with
  | d hp => cases hp with
    | v u => exact hb
    | sl => rfl
  | agg => simp [AV.cellB] at hb
  | tup => simp [AV.cellB] at hb
  | own n xs _ hp => cases hp; rfl
  | vec n o len L k _ hs => obtain ⟨A, l, c, rfl⟩ := hs; rfl
  | vptr n i j L k _ hs => obtain ⟨b, q, rfl⟩ := hs; rfl
  | full xs hp => cases hp; rfl
  | hid h h1 => exact h1
  | dead => simp [AV.cellB] at hb
  | _ => rfl
/-- a value's cells, one by one -/
theorem VRel.cells {G : Gh} {w : World} {u : Value} {x : AV} (h : VRel G w u x) (hb : x.boxB = true) :
    u.cells.size = x.cells.length ∧ ∀ (i : Nat) (v : Value) (c : AV), u.cells[i]? = some v → x.cells[i]? = some c → VRel G w v c ∧ v.oneCell' = true := by
  have one : x.cellB = true → x.cells = [x] → u.cells.size = x.cells.length ∧ ∀ (i : Nat) (v : Value) (c : AV), u.cells[i]? = some v → x.cells[i]? = some c → VRel G w v c ∧ v.oneCell' = true := by
    intro hc hx
    have ho := h.cellB hc
    have hu : u.cells = #[u] := by cases u <;> simp_all [Value.cells, Value.oneCell']
    rw [hu, hx]
    refine ⟨rfl, fun i v c h1 h2 => ?_⟩
    match i with
    | 0 => simp at h1 h2; subst h1; subst h2; exact ⟨h, ho⟩
    | i + 1 => simp at h2
  cases x with
  | agg cs =>
    cases h with
    | agg vs cs hl hr =>
      refine ⟨hl, fun i v c h1 h2 => ?_⟩
      have hv := hr i v c h1 h2
      refine ⟨hv, hv.cellB ?_⟩
      simp only [AV.boxB, List.all_eq_true] at hb
      exact hb c (List.mem_of_getElem? h2)
  | tup cs => simp [AV.boxB, AV.cellB] at hb
  | dead => simp [AV.boxB, AV.cellB] at hb
  | _ => exact one hb rfl

theorem Inv.lt {G : Gh} {w : World} {h : List Blk} (hi : Inv G w h) {n : Nat} {B : Blk} (hb : h[n]? = some B) : n < G.N := by
  rw [← hi.len]; exact (List.getElem?_eq_some_iff.1 hb).1
theorem Inv.ownlt {G : Gh} {w : World} {h : List Blk} (hi : Inv G w h) {n b : Nat} (hb : ownB h G n = some b) : b < w.heap.size := by
  obtain ⟨B, hB, hb⟩ := ownB_some hb
  have hr := hi.blk n B hB
  cases B with
  | gone => cases hb
  | cells cs =>
    obtain ⟨_, _, vs, T, hh, _⟩ := hr
    cases hb
    exact (Array.getElem?_eq_some_iff.1 hh).1
  | lp ls p as bd cs =>
    obtain ⟨_, _, fn, vs, T, hh, _⟩ := hr
    cases hb
    exact (Array.getElem?_eq_some_iff.1 hh).1
  | it sn cs =>
    obtain ⟨_, _, fn, vs, T, hh, _⟩ := hr
    cases hb
    exact (Array.getElem?_eq_some_iff.1 hh).1
  | map kv =>
    obtain ⟨_, _, es, c, hh, _⟩ := hr
    cases hb
    exact (Array.getElem?_eq_some_iff.1 hh).1
  | front e k len =>
    have hb : G.ow n = some b := hb
    obtain ⟨_, _, h1 | ⟨g, cap, cur, h1, _, _, hh, _⟩⟩ := hr
    · rw [h1.1] at hb; cases hb
    · rw [h1] at hb; cases hb; exact (Array.getElem?_eq_some_iff.1 hh).1
  | vec e k cs =>
    have hb : G.ow n = some b := hb
    obtain ⟨_, _, _, h1 | ⟨g, cap, cur, h1, _, _, hh, _⟩⟩ := hr
    · rw [h1.1] at hb; cases hb
    · rw [h1] at hb; cases hb; exact (Array.getElem?_eq_some_iff.1 hh).1
/-- what is owned is not the caller's -/
theorem BRel.notZ {G : Gh} {w : World} {n b : Nat} {B : Blk} (hr : BRel G w n B) (hb : B.own1 G n = some b) : ¬ G.Z b := by
  cases B with
  | gone => cases hb
  | cells cs => cases hb; exact hr.1
  | lp ls p as bd cs => cases hb; exact hr.1
  | it sn cs => cases hb; exact hr.1
  | map kv => cases hb; exact hr.1
  | front e k len =>
    have hb : G.ow n = some b := hb
    obtain ⟨_, _, h1 | ⟨g, cap, cur, h1, _, hz, _⟩⟩ := hr
    · rw [h1.1] at hb; cases hb
    · rw [h1] at hb; cases hb; exact hz
  | vec e k cs =>
    have hb : G.ow n = some b := hb
    obtain ⟨_, _, _, h1 | ⟨g, cap, cur, h1, _, hz, _⟩⟩ := hr
    · rw [h1.1] at hb; cases hb
    · rw [h1] at hb; cases hb; exact hz
theorem MapOK.keep {S S' : Nat → Nat → Prop} {w w' : World} {es : Array MapEntry} {c : Nat} {kv : List (ByteArray × D)} (h : MapOK S w es c kv) (hS : ∀ b o, S b o → S' b o) (hc : ∀ b o, S b o → w'.cell? ⟨b, o, none⟩ = w.cell? ⟨b, o, none⟩) : MapOK S' w' es c kv :=
  ⟨h.size, h.stamped, fun e he => let ⟨s, d, h1, h2, h3⟩ := h.ent e he; ⟨s, d, h1, h2, h3.keep hS hc⟩, h.all, h.len, h.born, h.clk⟩

/-- a block's reading goes on if it lies as it lay -/
theorem BRel.keep {G G' : Gh} {w w' : World} {n : Nat} (hn : n < G.N) (hE : Ext G.N G w G' w') (hN : G.N ≤ G'.N) {B : Blk}
    (hg : G'.fl n = G.fl n ∧ G'.sg n = G.sg n ∧ G'.ow n = G.ow n)
    (ho : ∀ b, B.own1 G n = some b → w'.heap[b]? = w.heap[b]? ∧ ∀ o, ¬ G.S b o → ¬ G'.S b o)
    (h : BRel G w n B) : BRel G' w' n B := by
  obtain ⟨f1, f2, f3⟩ := hg
  cases B with
  | gone => trivial
  | cells cs =>
    obtain ⟨h1, h2, vs, T, h3, h4, h5⟩ := h
    obtain ⟨c2, c1⟩ := ho _ rfl
    refine ⟨by rw [hE.rho n hn]; exact hE.notZ (Array.getElem?_eq_some_iff.1 h3).1 h1, by rw [hE.rho n hn]; exact fun o => c1 o (h2 o), vs, T, by rw [hE.rho n hn, c2]; exact h3, h4, fun i u c hu hc => (h5 i u c hu hc).keep hE hN⟩
  | lp ls p as bd cs =>
    obtain ⟨h1, h2, fn, vs, T, h3, h4, h5⟩ := h
    obtain ⟨c2, c1⟩ := ho _ rfl
    refine ⟨by rw [hE.rho n hn]; exact hE.notZ (Array.getElem?_eq_some_iff.1 h3).1 h1, by rw [hE.rho n hn]; exact fun o => c1 o (h2 o), fn, vs, T, by rw [hE.rho n hn, c2]; exact h3, h4, fun i u c hu hc => (h5 i u c hu hc).keep hE hN⟩
  | it sn cs =>
    obtain ⟨h1, h2, fn, vs, T, h3, h4, h5⟩ := h
    obtain ⟨c2, c1⟩ := ho _ rfl
    refine ⟨by rw [hE.rho n hn]; exact hE.notZ (Array.getElem?_eq_some_iff.1 h3).1 h1, by rw [hE.rho n hn]; exact fun o => c1 o (h2 o), fn, vs, T, by rw [hE.rho n hn, c2]; exact h3, h4, fun i u c hu hc => (h5 i u c hu hc).keep hE hN⟩
  | map kv =>
    obtain ⟨h1, h2, es, c, h3, h4⟩ := h
    obtain ⟨c2, c1⟩ := ho _ rfl
    exact ⟨by rw [hE.rho n hn]; exact hE.notZ (Array.getElem?_eq_some_iff.1 h3).1 h1, by rw [hE.rho n hn]; exact fun o => c1 o (h2 o), es, c, by rw [hE.rho n hn, c2]; exact h3, h4.keep hE.S hE.cell⟩
  | front e k len =>
    obtain ⟨h1, hm, h2⟩ := h
    refine ⟨f1.trans h1, hm, ?_⟩
    rcases h2 with ⟨h2, A, h3⟩ | ⟨g, cap, cur, h2, h3, h4, h5, h6, h7, h8, h9⟩
    · exact .inl ⟨f3.trans h2, A, f2.trans h3⟩
    · obtain ⟨f5, f6⟩ := ho g h2
      exact .inr ⟨g, cap, cur, f3.trans h2, f2.trans h3, hE.notZ (Array.getElem?_eq_some_iff.1 h5).1 h4, f5.trans h5, h6, h7, h8, fun o ho => f6 o (h9 o ho)⟩
  | vec e k cs =>
    obtain ⟨h1, hm, hk, h2⟩ := h
    refine ⟨f1.trans h1, hm, hk, ?_⟩
    rcases h2 with ⟨h2, e2, A, h3⟩ | ⟨g, cap, cur, h2, h3, h4, h5, h6, h7, h8, h9, h10⟩
    · exact .inl ⟨f3.trans h2, e2, A, f2.trans h3⟩
    · obtain ⟨f5, f6⟩ := ho g h2
      exact .inr ⟨g, cap, cur, f3.trans h2, f2.trans h3, hE.notZ (Array.getElem?_eq_some_iff.1 h5).1 h4, f5.trans h5, h6, h7, h8, fun o => f6 o (h9 o), fun i j c x u hc hx hu => (h10 i j c x u hc hx hu).keep hE hN⟩

theorem Sat.put {G : Gh} {w : World} {a : Act} {s : St} (h : Sat G w a s) {v : Value} {x : AV} (hv : VRel G w v x) (dst : Option Nat) : Sat G w (a.put dst v) (s.put dst x) := by
  cases dst with
  | none => exact h
  | some d =>
    by_cases hd : d < s.n
    · have e1 : s.put (some d) x = { s with t := (d, x) :: s.t } := put_lt hd x
      rw [e1]
      refine ⟨by simp [Act.put, h.size], fun i => ?_, h.inv, h.df⟩
      by_cases hi : i = d
      · subst hi
        have : (a.tmps.setIfInBounds i v).getD i undef = v := by simp [Array.getD, h.size, hd]
        simp only [Act.put, this, tget_cons, if_true]
        exact hv
      · have : (a.tmps.setIfInBounds d v).getD i undef = a.tmps.getD i undef := by simp [Array.getElem?_setIfInBounds_ne (Ne.symm hi)]
        simp only [Act.put, this, tget_cons, if_neg hi]
        exact h.tmp i
    · have e1 : s.put (some d) x = s := put_ge hd x
      have e2 : a.put (some d) v = a := by
        have : a.tmps.setIfInBounds d v = a.tmps := Array.setIfInBounds_eq_of_size_le (by rw [h.size]; omega)
        simp [Act.put, this]
      rw [e1, e2]; exact h
theorem Sat.move {G G' : Gh} {w w' : World} {a : Act} {s : St} (h : Sat G w a s) (hE : Ext G.N G w G' w') (hN : G.N ≤ G'.N) {h' : List Blk} (hi : Inv G' w' h') : Sat G' w' a { s with h := h' } :=
  ⟨h.size, fun i => (h.tmp i).keep hE hN, hi, h.df.keep hE⟩
theorem Sat.ev {G : Gh} {w : World} {a : Act} {s : St} (h : Sat G w a s) (x : Operand) : VRel G w (a.eval x) (ev s x) := by
  cases x with
  | tmp t => exact h.tmp t
  | const v =>
    show VRel G w v (absVal v)
    unfold absVal
    split
    · rename_i vs
      exact .agg vs _ (by simp) fun i u c hu hc => by
        simp only [List.getElem?_map, Array.getElem?_toList, hu, Option.map_some, Option.some.injEq] at hc
        subst hc; exact .d (.v u)
    · rename_i vs
      exact .tup vs _ (by simp) fun i u c hu hc => by
        simp only [List.getElem?_map, Array.getElem?_toList, hu, Option.map_some, Option.some.injEq] at hc
        subst hc; exact .d (.v u)
    · exact .d (.v v)
  | global g =>
    show VRel G w (.pointer (some ⟨g, 0, none⟩)) (match glook gtab g with | some l => .elt [l.map .v] 0 0 | none => .dead)
    split
    · next l hl =>
      have hg := h.inv.gl.1 g l (glook_mem hl)
      have := VRel.elt (G := G) (w := w) [l.map .v] 0 0 g 0 (fun j => l.getD j undef) (l.map .v) rfl (fun j hj => ?_) (fun j d hd => ?_)
      · exact this
      · rw [List.length_map] at hj
        have e : l[j]? = some l[j] := List.getElem?_eq_getElem hj
        rw [Nat.zero_add]
        refine ⟨(hg j _ e).1, ?_⟩
        rw [(hg j _ e).2]; simp [hj]
      · rw [List.getElem?_map] at hd
        cases e : l[j]? with
        | none => rw [e] at hd; cases hd
        | some v =>
          rw [e] at hd
          cases hd
          have : l.getD j undef = v := by simp [List.getD, e]
          rw [this]; exact .v v
    · exact .dead _
  | func f => exact .fn f #[] [] rfl fun i u c hu => by simp at hu

/-! ### a new block -/
def Gh.addC (G : Gh) (b : Nat) : Gh := { G with N := G.N + 1, rho := fun n => if n = G.N then b else G.rho n }
theorem ext_alloc (G : Gh) (w : World) (hz : ∀ b, G.Z b → b < w.heap.size) (hS : ∀ b o, G.S b o → b < w.heap.size) (o : Obj) : Ext G.N G w (G.addC w.heap.size) (w.alloc o) :=
  ⟨by simp, fun _ _ h => h, fun b _ h => World.cell?_alloc_lt _ _ _ (hS _ _ h), fun n hn => by simp [Gh.addC, Nat.ne_of_lt hn], fun _ _ => .inl ⟨rfl, rfl⟩, zsame rfl,
   fun b hb => Below.heap_alloc w o b (hz b hb), rfl, rfl, rfl, fun _ _ h => .inl h⟩
theorem inv_alloc {G : Gh} {w : World} {h : List Blk} (hi : Inv G w h) (vs : Array Value) (T : TypeId) (cs : List AV) (hl : vs.size = cs.length)
    (hr : ∀ (i : Nat) (u : Value) (c : AV), vs[i]? = some u → cs[i]? = some c → VRel G w u c) :
    Inv (G.addC w.heap.size) (w.alloc (.cells vs T)) (h ++ [.cells cs]) ∧ VRel (G.addC w.heap.size) (w.alloc (.cells vs T)) (.pointer (some ⟨w.heap.size, 0, none⟩)) (.ptr h.length 0) := by
  have hE := ext_alloc G w hi.z hi.S (.cells vs T)
  have hN : G.N ≤ (G.addC w.heap.size).N := Nat.le_succ _
  have hrho : (G.addC w.heap.size).rho h.length = w.heap.size := by simp [Gh.addC, hi.len]
  have hown1 : ∀ n (B : Blk), n < G.N → B.own1 (G.addC w.heap.size) n = B.own1 G n := fun n B hn => by
    cases B <;> simp [Blk.own1, Gh.addC, Nat.ne_of_lt hn]
  have hnew : ∀ n, n < G.N → ownB (h ++ [.cells cs]) (G.addC w.heap.size) n = ownB h G n := fun n hn => by
    have hlt : n < h.length := by rw [hi.len]; exact hn
    unfold ownB
    rw [List.getElem?_append_left hlt, List.getElem?_eq_getElem hlt]
    exact hown1 n _ hn
  have hlast : ownB (h ++ [.cells cs]) (G.addC w.heap.size) h.length = some w.heap.size := by
    rw [ownB_of (B := .cells cs) (by simp)]; exact congrArg some hrho
  refine ⟨⟨by simp [Gh.addC, hi.len], fun b hb => Nat.lt_of_lt_of_le (hi.z b hb) hE.size, fun b o hs => Nat.lt_of_lt_of_le (hi.S b o hs) hE.size, fun n B hB => ?_, fun m n b hm hn => ?_, hi.gl.keep hE⟩, ?_⟩
  · by_cases hn : n < h.length
    · rw [List.getElem?_append_left hn] at hB
      have hn' : n < G.N := hi.len ▸ hn
      exact BRel.keep hn' hE hN ⟨rfl, rfl, rfl⟩ (fun b hb => ⟨Below.heap_alloc w _ _ (hi.ownlt (n := n) ((ownB_of hB).trans hb)), fun o h => h⟩) (hi.blk n B hB)
    · have hn2 : n = h.length := by
        have := (List.getElem?_eq_some_iff.1 hB).1
        simp at this; omega
      subst hn2
      simp at hB
      subst hB
      exact ⟨by rw [hrho]; exact fun hz => Nat.lt_irrefl _ (hi.z _ hz), fun o hs => by rw [hrho] at hs; exact Nat.lt_irrefl _ (hi.S _ _ hs), vs, T, by rw [hrho]; exact World.alloc_heap_new w _, hl, fun i u c hu hc => (hr i u c hu hc).keep hE hN⟩
  · have key : ∀ n b, ownB (h ++ [.cells cs]) (G.addC w.heap.size) n = some b → (n < G.N ∧ ownB h G n = some b) ∨ (n = h.length ∧ b = w.heap.size) := fun n b hn => by
      by_cases hlt : n < G.N
      · exact .inl ⟨hlt, by rw [← hnew n hlt]; exact hn⟩
      · by_cases e : n = h.length
        · subst e; rw [hlast] at hn; cases hn; exact .inr ⟨rfl, rfl⟩
        · rw [ownB_none (List.getElem?_eq_none (by simp; have := hi.len; omega))] at hn
          cases hn
    rcases key m b hm with ⟨_, hm'⟩ | ⟨rfl, rfl⟩ <;> rcases key n _ hn with ⟨_, hn'⟩ | ⟨rfl, hb⟩
    · exact hi.inj m n b hm' hn'
    · have := hi.ownlt hm'; omega
    · have := hi.ownlt hn'; omega
    · rfl
  · have := VRel.ptr (G := G.addC w.heap.size) (w := w.alloc (.cells vs T)) h.length 0 (by simp [Gh.addC, hi.len])
    rwa [hrho] at this
end Go.Proofs.YtaiihhogoogkmaaGreatDoor
