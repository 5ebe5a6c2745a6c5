/-
  A second, smaller language of values for Go code that builds and reads data: a slice is a list, a variable of one's own is a numbered block; and what it means that memory lies as such values say.
-/
import Derived.Test.YtaiihhogoogkmaaGreatDoorAbsGlob
import Derived.WalkKit
import Derived.Lib.Hide
import Derived.OrdersIn
import Derived.RangeFuncIn
import Derived.RangeFuncCalls
import Derived.RangeFuncLeaves
import Derived.RangeFuncFrom
import Derived.Deep.MidRow
import Derived.Laws.AppendOwn
import Derived.Maps.OwnOps
import Derived.KernelRfl
namespace Go.Proofs.YtaiihhogoogkmaaGreatDoor
open Go.RowKit

/-- a datum: a value as it is, or a slice of elements, each a list of cells -/
inductive D where
  | v (u : Value)
  | sl (xs : List (List D))
/-- what a function value that reads alone has taken along -/
inductive Cap where
  | d (x : D)
  | elt (c : List D) (off : Nat)
  | fn (f : FuncId) (cs : List Cap)
/-- what a temporary holds -/
inductive AV where
  | d (x : D)
  | agg (cs : List AV)
  | tup (cs : List AV)
  | ptr (n off : Nat)
  | elt (xs : List (List D)) (i off : Nat)
  | own (n : Nat) (xs : List (List D))
  | full (xs : List (List D))
  | row (n off len cap k : Nat)
  | fn (f : FuncId) (caps : List AV)
  | mp (n : Nat)
  | yld (n : Nat)
  | vec (n o len L k : Nat)
  | vptr (n i j L k : Nat)
  | hid (c : Cap)
  | dead
/-- how a range over a function stands -/
inductive LS where
  | ready
  | busy
  | done (c : Code)
def LS.st : LS → LoopState
  | .ready => .ready
  | .busy => .busy
  | .done _ => .done
def LS.pd : LS → Option Code
  | .done c => some c
  | _ => none
inductive Blk where
  | cells (cs : List AV)
  | front (e : TypeId) (k len : Nat)
  | vec (e : TypeId) (k : Nat) (cs : List (List AV))
  | map (kv : List (ByteArray × D))
  | lp (ls : LS) (p : Nat) (as bd : Code) (cs : List AV)
  | it (sn : Bool) (cs : List AV)
  | gone
/-- how the numbered blocks lie in memory, and which cells are never written again -/
structure Gh where
  N : Nat
  Z : Nat → Prop
  S : Nat → Nat → Prop
  rho : Nat → Nat
  sg : Nat → Value
  ow : Nat → Option Nat
  fl : Nat → Nat
  M : Nat

inductive PRel (S : Nat → Nat → Prop) (w : World) : Value → D → Prop
  | v (u : Value) : PRel S w u (.v u)
  | sl (A : Option Addr) (b o c k : Nat) (xs : List (List D)) (u : Nat → Nat → Value)
      (hA : xs ≠ [] → A = some ⟨b, o, none⟩) (hc : xs.length ≤ c) (hm : c ≤ maxLen)
      (hk : ∀ x ∈ xs, x.length = k)
      (hS : ∀ i j, i < xs.length → j < k → S b (o + i * k + j) ∧ w.cell? ⟨b, o + i * k + j, none⟩ = some (u i j) ∧ (u i j).oneCell' = true)
      (hu : ∀ (i j : Nat) (x : List D) (d : D), xs[i]? = some x → x[j]? = some d → PRel S w (u i j) d) : PRel S w (.slice A xs.length c) (.sl xs)

inductive CapRel (S : Nat → Nat → Prop) (w : World) : Value → Cap → Prop
  | d {u : Value} {x : D} (h : PRel S w u x) : CapRel S w u (.d x)
  | elt (c : List D) (off b o : Nat) (u : Nat → Value) (hS : ∀ j, j < c.length → S b (o + j) ∧ w.cell? ⟨b, o + j, none⟩ = some (u j)) (hu : ∀ (j : Nat) (d : D), c[j]? = some d → PRel S w (u j) d) : CapRel S w (.pointer (some ⟨b, o + off, none⟩)) (.elt c off)
  | fn (f : FuncId) (vs : Array Value) (cs : List Cap) (hl : vs.size = cs.length) (h : ∀ (i : Nat) (u : Value) (c : Cap), vs[i]? = some u → cs[i]? = some c → CapRel S w u c) : CapRel S w (.func (.func f) #[] vs) (.fn f cs)

/-- a part of a slice that may be written, L elements long when it was taken -/
structure VecOK (s u : Value) (o len L k : Nat) : Prop where
  ol : o + len ≤ L
  sl : ∃ A c, u = .slice A len c ∧ len ≤ c ∧ c ≤ maxLen ∧ L ≤ c + o ∧ (o < L → ∃ g cap, s = .slice (some ⟨g, 0, none⟩) L cap ∧ A = some ⟨g, o * k, none⟩ ∧ o + c = cap)
  all : o = 0 → len = L → u = s
structure VptrOK (s u : Value) (i j L k : Nat) : Prop where
  il : i < L
  pt : ∃ g cap, s = .slice (some ⟨g, 0, none⟩) L cap ∧ u = .pointer (some ⟨g, i * k + j, none⟩)
inductive VRel (G : Gh) (w : World) : Value → AV → Prop
  | d {u : Value} {x : D} (h : PRel G.S w u x) : VRel G w u (.d x)
  | agg (vs : Array Value) (cs : List AV) (hl : vs.size = cs.length) (h : ∀ (i : Nat) (u : Value) (c : AV), vs[i]? = some u → cs[i]? = some c → VRel G w u c) : VRel G w (.agg vs) (.agg cs)
  | tup (vs : Array Value) (cs : List AV) (hl : vs.size = cs.length) (h : ∀ (i : Nat) (u : Value) (c : AV), vs[i]? = some u → cs[i]? = some c → VRel G w u c) : VRel G w (.tuple vs) (.tup cs)
  | ptr (n off : Nat) (h : n < G.N) : VRel G w (.pointer (some ⟨G.rho n, off, none⟩)) (.ptr n off)
  | elt (xs : List (List D)) (i off b o : Nat) (u : Nat → Value) (x : List D) (hx : xs[i]? = some x)
      (hS : ∀ j, j < x.length → G.S b (o + j) ∧ w.cell? ⟨b, o + j, none⟩ = some (u j)) (hu : ∀ (j : Nat) (d : D), x[j]? = some d → PRel G.S w (u j) d) : VRel G w (.pointer (some ⟨b, o + off, none⟩)) (.elt xs i off)
  | own {u : Value} (n : Nat) (xs : List (List D)) (h : n < G.N) (hp : PRel G.S w u (.sl xs)) (hle : xs.length ≤ G.fl n) (hf : xs.length = G.fl n → u = G.sg n) : VRel G w u (.own n xs)
  | full {u : Value} (xs : List (List D)) (hp : PRel G.S w u (.sl xs)) (hf : ∃ A, u = .slice A xs.length xs.length) : VRel G w u (.full xs)
  | row (n off len cap k : Nat) (h : n < G.N) (hl : len ≤ cap) (hm : cap ≤ maxLen) : VRel G w (.slice (some ⟨G.rho n, off, none⟩) len cap) (.row n off len cap k)
  | fn (f : FuncId) (vs : Array Value) (cs : List AV) (hl : vs.size = cs.length) (h : ∀ (i : Nat) (u : Value) (c : AV), vs[i]? = some u → cs[i]? = some c → VRel G w u c) : VRel G w (.func (.func f) #[] vs) (.fn f cs)
  | mp (n : Nat) (h : n < G.N) : VRel G w (.map (some (G.rho n))) (.mp n)
  | yld (n : Nat) (h : n < G.N) : VRel G w (.func (.yield (G.rho n)) #[] #[]) (.yld n)
  | vec {u : Value} (n o len L k : Nat) (h : n < G.N) (hs : ∃ A l c, u = .slice A l c) (hL : L ≤ G.fl n) (hf : L = G.fl n → VecOK (G.sg n) u o len L k) : VRel G w u (.vec n o len L k)
  | vptr {u : Value} (n i j L k : Nat) (h : n < G.N) (hs : ∃ b q, u = .pointer (some ⟨b, q, none⟩)) (hL : L ≤ G.fl n) (hf : L = G.fl n → VptrOK (G.sg n) u i j L k) : VRel G w u (.vptr n i j L k)
  | hid {u : Value} {c : Cap} (h : CapRel G.S w u c) (h1 : u.oneCell' = true) : VRel G w u (.hid c)
  | dead (u : Value) : VRel G w u .dead

/-- a map's entries: what is found at a key -/
def mget : List (ByteArray × D) → ByteArray → Option D
  | [], _ => none
  | (k, d) :: l, s => bif bL k == bL s then some d else mget l s
structure MapOK (S : Nat → Nat → Prop) (w : World) (es : Array MapEntry) (clock : Nat) (kv : List (ByteArray × D)) : Prop where
  size : es.size ≤ maxLen
  stamped : MapKept.Stamped es clock
  ent : ∀ e ∈ es.toList, ∃ s d, e.key = .string s ∧ mget kv s = some d ∧ PRel S w e.val d
  all : ∀ s d, mget kv s = some d → ∃ e ∈ es.toList, e.key = .string s
  len : es.size ≤ kv.length
  born : ∀ (i : Nat) (e : MapEntry), es[i]? = some e → e.born = i
  clk : clock = es.size
/-- the concrete block that a numbered block is -/
def Blk.own1 (G : Gh) (n : Nat) : Blk → Option Nat
  | .cells _ => some (G.rho n)
  | .front _ _ _ => G.ow n
  | .vec _ _ _ => G.ow n
  | .map _ => some (G.rho n)
  | .lp _ _ _ _ _ => some (G.rho n)
  | .it _ _ => some (G.rho n)
  | .gone => none
def ownB (h : List Blk) (G : Gh) (n : Nat) : Option Nat := (h[n]?).bind (Blk.own1 G n)
theorem ownB_of {h : List Blk} {G : Gh} {n : Nat} {B : Blk} (e : h[n]? = some B) : ownB h G n = B.own1 G n := by unfold ownB; rw [e]; rfl
theorem ownB_none {h : List Blk} {G : Gh} {n : Nat} (e : h[n]? = none) : ownB h G n = none := by unfold ownB; rw [e]; rfl
theorem ownB_some {h : List Blk} {G : Gh} {n b : Nat} (e : ownB h G n = some b) : ∃ B, h[n]? = some B ∧ B.own1 G n = some b := by
  unfold ownB at e
  cases hx : h[n]? with
  | none => rw [hx] at e; cases e
  | some B => rw [hx] at e; exact ⟨B, rfl, e⟩
def BRel (G : Gh) (w : World) (n : Nat) : Blk → Prop
  | .cells cs => ¬ G.Z (G.rho n) ∧ (∀ o, ¬ G.S (G.rho n) o) ∧ ∃ (vs : Array Value) (T : TypeId), w.heap[G.rho n]? = some (.cells vs T (0, 0)) ∧ vs.size = cs.length ∧ ∀ (i : Nat) (u : Value) (c : AV), vs[i]? = some u → cs[i]? = some c → VRel G w u c
  | .front e k len => G.fl n = len ∧ len ≤ maxLen ∧ ((G.ow n = none ∧ ∃ A, G.sg n = .slice A len len) ∨
      ∃ (g cap : Nat) (cur : Array Value), G.ow n = some g ∧ G.sg n = .slice (some ⟨g, 0, none⟩) len cap ∧ ¬ G.Z g ∧ w.heap[g]? = some (.cells cur e (0, 0)) ∧ len ≤ cap ∧ cap ≤ maxLen ∧ cur.size = cap * k ∧ ∀ o, len * k ≤ o → ¬ G.S g o)
  | .vec e k cs => G.fl n = cs.length ∧ cs.length ≤ maxLen ∧ (∀ c ∈ cs, c.length = k) ∧ ((G.ow n = none ∧ cs = [] ∧ ∃ A, G.sg n = .slice A 0 0) ∨
      ∃ (g cap : Nat) (cur : Array Value), G.ow n = some g ∧ G.sg n = .slice (some ⟨g, 0, none⟩) cs.length cap ∧ ¬ G.Z g ∧ w.heap[g]? = some (.cells cur e (0, 0)) ∧ cs.length ≤ cap ∧ cap ≤ maxLen ∧ cur.size = cap * k ∧ (∀ o, ¬ G.S g o) ∧
        ∀ (i j : Nat) (c : List AV) (x : AV) (u : Value), cs[i]? = some c → c[j]? = some x → cur[i * k + j]? = some u → VRel G w u x)
  | .map kv => ¬ G.Z (G.rho n) ∧ (∀ o, ¬ G.S (G.rho n) o) ∧ ∃ (es : Array MapEntry) (clock : Nat), w.heap[G.rho n]? = some (.map es clock) ∧ MapOK G.S w es clock kv
  | .lp ls p as bd cs => ¬ G.Z (G.rho n) ∧ (∀ o, ¬ G.S (G.rho n) o) ∧ ∃ (fn : FuncId) (tm : Array Value) (D : Nat), w.heap[G.rho n]? = some (.loop { state := ls.st, pending := ls.pd, fn := fn, tmps := tm, params := #[p], assign := as, body := bd, defers := D }) ∧ tm.size = cs.length ∧ ∀ (i : Nat) (u : Value) (c : AV), tm[i]? = some u → cs[i]? = some c → VRel G w u c
  | .it sn cs => ¬ G.Z (G.rho n) ∧ (∀ o, ¬ G.S (G.rho n) o) ∧ ∃ (fn : Nat) (vs : Array Value) (_ : Unit), w.heap[G.rho n]? = some (.mapIter (some fn) 1 (if sn then #[0] else #[]) 1) ∧ (vs.size = cs.length ∧ vs = #[.map (some fn)]) ∧ ∀ (i : Nat) (u : Value) (c : AV), vs[i]? = some u → cs[i]? = some c → VRel G w u c
  | .gone => True
/-- the tables lie as they were laid -/
def GlOK (G : Gh) (w : World) : Prop := (∀ (g : Nat) (l : List Value), (g, l) ∈ gtab → ∀ (j : Nat) (v : Value), l[j]? = some v → G.S g j ∧ w.cell? ⟨g, j, none⟩ = some v) ∧ G.M ≤ w.heap.size
structure Inv (G : Gh) (w : World) (h : List Blk) : Prop where
  len : h.length = G.N
  z : ∀ b, G.Z b → b < w.heap.size
  S : ∀ b o, G.S b o → b < w.heap.size
  blk : ∀ (n : Nat) (B : Blk), h[n]? = some B → BRel G w n B
  inj : ∀ (m n b : Nat), ownB h G m = some b → ownB h G n = some b → m = n
  gl : GlOK G w

structure Ext (N : Nat) (G : Gh) (w : World) (G' : Gh) (w' : World) : Prop where
  size : w.heap.size ≤ w'.heap.size
  S : ∀ b o, G.S b o → G'.S b o
  cell : ∀ b o, G.S b o → w'.cell? ⟨b, o, none⟩ = w.cell? ⟨b, o, none⟩
  rho : ∀ n, n < N → G'.rho n = G.rho n
  fr : ∀ n, n < N → (G'.fl n = G.fl n ∧ G'.sg n = G.sg n) ∨ G.fl n < G'.fl n
  Z : ((∀ b, G.Z b → G'.Z b) ∧ ∀ b, G'.Z b → G.Z b ∨ w.heap.size ≤ b) ∧ G'.M = G.M
  old : ∀ b, G.Z b → w'.heap[b]? = w.heap[b]?
  os : w'.os = w.os
  tape : w'.tape = w.tape
  output : w'.output = w.output
  new : ∀ b o, G'.S b o → G.S b o ∨ ¬ G.Z b

/-- what is kept whole stays the same -/
theorem zsame {Z Z' : Nat → Prop} {m M M' : Nat} (h : Z' = Z) (hM : M' = M := by rfl) : ((∀ b, Z b → Z' b) ∧ ∀ b, Z' b → Z b ∨ m ≤ b) ∧ M' = M := ⟨⟨fun _ k => h ▸ k, fun _ k => .inl (h ▸ k)⟩, hM⟩
theorem Ext.refl (N : Nat) (G : Gh) (w : World) : Ext N G w G w :=
  ⟨Nat.le_refl _, fun _ _ h => h, fun _ _ _ => rfl, fun _ _ => rfl, fun _ _ => .inl ⟨rfl, rfl⟩, zsame rfl, fun _ _ => rfl, rfl, rfl, rfl, fun _ _ h => .inl h⟩
theorem Ext.trans {N : Nat} {G G1 G2 : Gh} {w w1 w2 : World} (h : Ext N G w G1 w1) (k : Ext N G1 w1 G2 w2) : Ext N G w G2 w2 :=
  ⟨Nat.le_trans h.size k.size, fun b o hs => k.S b o (h.S b o hs), fun b o hs => (k.cell b o (h.S b o hs)).trans (h.cell b o hs), fun n hn => (k.rho n hn).trans (h.rho n hn),
   fun n hn => by
    rcases h.fr n hn with ⟨h1, h2⟩ | h1 <;> rcases k.fr n hn with ⟨k1, k2⟩ | k1
    · exact .inl ⟨k1.trans h1, k2.trans h2⟩
    · exact .inr (h1 ▸ k1)
    · exact .inr (k1 ▸ h1)
    · exact .inr (Nat.lt_trans h1 k1),
   ⟨⟨fun b hb => k.Z.1.1 b (h.Z.1.1 b hb), fun b hb => (k.Z.1.2 b hb).elim (h.Z.1.2 b) fun hs => .inr (Nat.le_trans h.size hs)⟩, k.Z.2.trans h.Z.2⟩, fun b hb => (k.old b (h.Z.1.1 b hb)).trans (h.old b hb), k.os.trans h.os, k.tape.trans h.tape, k.output.trans h.output, fun b o hs => (k.new b o hs).elim (h.new b o) (fun hn => .inr fun hz => hn (h.Z.1.1 b hz))⟩
theorem Ext.less {N M : Nat} {G G' : Gh} {w w' : World} (h : Ext N G w G' w') (hM : M ≤ N) : Ext M G w G' w' :=
  ⟨h.size, h.S, h.cell, fun n hn => h.rho n (Nat.lt_of_lt_of_le hn hM), fun n hn => h.fr n (Nat.lt_of_lt_of_le hn hM), h.Z, h.old, h.os, h.tape, h.output, h.new⟩

theorem Ext.notZ {N : Nat} {G G' : Gh} {w w' : World} (h : Ext N G w G' w') {b : Nat} (hb : b < w.heap.size) (hz : ¬ G.Z b) : ¬ G'.Z b := fun k => (h.Z.1.2 b k).elim hz fun hs => Nat.lt_irrefl _ (Nat.lt_of_lt_of_le hb hs)
/-- the marks that ranges over functions leave among the deferred calls -/
def Marks (G : Gh) (w : World) (ds : List Deferred) : Prop := ∃ l : List Nat, l.Nodup ∧ ds = l.map (fun D => { target := .collected D, args := #[] }) ∧ ∀ D ∈ l, G.M ≤ D ∧ G.Z D ∧ w.heap[D]? = some (.deferred (some []))
theorem Marks.nil (G : Gh) (w : World) : Marks G w [] := ⟨[], List.nodup_nil, rfl, fun _ h => nomatch h⟩
theorem Marks.keep {N : Nat} {G G' : Gh} {w w' : World} {ds : List Deferred} (h : Marks G w ds) (hE : Ext N G w G' w') : Marks G' w' ds :=
  let ⟨l, h1, h2, h3⟩ := h
  ⟨l, h1, h2, fun D hD => ⟨hE.Z.2 ▸ (h3 D hD).1, hE.Z.1.1 D (h3 D hD).2.1, (hE.old D (h3 D hD).2.1).trans (h3 D hD).2.2⟩⟩
theorem GlOK.keep {N : Nat} {G G' : Gh} {w w' : World} (h : GlOK G w) (hE : Ext N G w G' w') : GlOK G' w' := ⟨fun g l hm j v hv =>
  ⟨hE.S _ _ (h.1 g l hm j v hv).1, (hE.cell _ _ (h.1 g l hm j v hv).1).trans (h.1 g l hm j v hv).2⟩, by rw [hE.Z.2]; exact Nat.le_trans h.2 hE.size⟩
theorem PRel.keep {S S' : Nat → Nat → Prop} {w w' : World} (hS : ∀ b o, S b o → S' b o) (hc : ∀ b o, S b o → w'.cell? ⟨b, o, none⟩ = w.cell? ⟨b, o, none⟩) {u : Value} {x : D} (h : PRel S w u x) : PRel S' w' u x := by
  induction h with
  | v u => exact .v u
  | sl A b o c k xs u hA hc' hm hk hS' _ ih =>
    exact .sl A b o c k xs u hA hc' hm hk (fun i j hi hj => ⟨hS _ _ (hS' i j hi hj).1, (hc _ _ (hS' i j hi hj).1).trans (hS' i j hi hj).2.1, (hS' i j hi hj).2.2⟩) ih
theorem CapRel.keep {S S' : Nat → Nat → Prop} {w w' : World} (hS : ∀ b o, S b o → S' b o) (hc : ∀ b o, S b o → w'.cell? ⟨b, o, none⟩ = w.cell? ⟨b, o, none⟩) {u : Value} {x : Cap} (h : CapRel S w u x) : CapRel S' w' u x := by
  induction h with
  | d h => exact .d (h.keep hS hc)
  | elt c off b o u h1 h2 => exact .elt c off b o u (fun j hj => ⟨hS _ _ (h1 j hj).1, (hc _ _ (h1 j hj).1).trans (h1 j hj).2⟩) (fun j d hd => (h2 j d hd).keep hS hc)
  | fn f vs cs hl _ ih => exact .fn f vs cs hl ih
theorem VRel.keep {G G' : Gh} {w w' : World} (hE : Ext G.N G w G' w') (hN : G.N ≤ G'.N) {u : Value} {x : AV} (h : VRel G w u x) : VRel G' w' u x := by
  induction h with
  | d h => exact .d (h.keep hE.S hE.cell)
  | agg vs cs hl _ ih => exact .agg vs cs hl ih
  | tup vs cs hl _ ih => exact .tup vs cs hl ih
  | ptr n off h => rw [← hE.rho n h]; exact .ptr n off (Nat.lt_of_lt_of_le h hN)
  | elt xs i off b o u x hx hS hu => exact .elt xs i off b o u x hx (fun j hj => ⟨hE.S _ _ (hS j hj).1, (hE.cell _ _ (hS j hj).1).trans (hS j hj).2⟩) (fun j d hd => (hu j d hd).keep hE.S hE.cell)
  | own n xs h hp hle hf =>
    refine .own n xs (Nat.lt_of_lt_of_le h hN) (hp.keep hE.S hE.cell) ?_ ?_
    · rcases hE.fr n h with ⟨h1, _⟩ | h1
      · omega
      · omega
    · intro e
      rcases hE.fr n h with ⟨h1, h2⟩ | h1
      · rw [h2]; exact hf (e.trans h1)
      · omega
  | full xs hp hf => exact .full xs (hp.keep hE.S hE.cell) hf
  | row n off len cap k h hl hm => rw [← hE.rho n h]; exact .row n off len cap k (Nat.lt_of_lt_of_le h hN) hl hm
  | fn f vs cs hl _ ih => exact .fn f vs cs hl ih
  | mp n h => rw [← hE.rho n h]; exact .mp n (Nat.lt_of_lt_of_le h hN)
  | yld n h => rw [← hE.rho n h]; exact .yld n (Nat.lt_of_lt_of_le h hN)
  | vec n o len L k h hs hL hf =>
    refine .vec n o len L k (Nat.lt_of_lt_of_le h hN) hs ?_ ?_
    · rcases hE.fr n h with ⟨h1, _⟩ | h1 <;> omega
    · intro e
      rcases hE.fr n h with ⟨h1, h2⟩ | h1
      · rw [h2]; exact hf (e.trans h1)
      · omega
  | vptr n i j L k h hs hL hf =>
    refine .vptr n i j L k (Nat.lt_of_lt_of_le h hN) hs ?_ ?_
    · rcases hE.fr n h with ⟨h1, _⟩ | h1 <;> omega
    · intro e
      rcases hE.fr n h with ⟨h1, h2⟩ | h1
      · rw [h2]; exact hf (e.trans h1)
      · omega
  | hid h h1 => exact .hid (h.keep hE.S hE.cell) h1
  | dead u => exact .dead u
end Go.Proofs.YtaiihhogoogkmaaGreatDoor
