/-
  Part 1 of the proof: AbsGlob, AbsCore, AbsOps, AbsHeap, AbsStore, AbsApp, AbsOp, AbsOp2, AbsOp3, AbsMap, AbsVec, AbsVec2, AbsOp4, AbsLeave, AbsLoop.
-/
import Derived.WalkKit
import Derived.Laws.Strings
import Derived.Lib.Hide
import Derived.OrdersIn
import Derived.RangeFuncIn
import Derived.RangeFuncCalls
import Derived.RangeFuncLeaves
import Derived.RangeFuncFrom
import Derived.Deep.MidRow
import Derived.Laws.AppendOwn
import Derived.Maps.OwnOps
import Derived.KernelRfl
import Derived.Deep.AppendSrc
import Derived.Deep.Upon
import Derived.Laws.BytesString
import Derived.Laws.StructEq
import Derived.Laws.MakeOwn
import Derived.Laws.Cover3
/-! AbsGlob: The package-level tables that the code reads, as the seat's row lists them. -/
namespace Go.Proofs.YtnedgkfefdldeaaGreatDoor
open Go.RowKit
def bL (a : ByteArray) : List UInt8 := a.data.toList
theorem bL_eq (a : ByteArray) : a.toList = bL a := ByteArray.toList_eq a
theorem bL_inj {a b : ByteArray} (h : bL a = bL b) : a = b := by cases a; cases b; simp only [bL, Array.toList_inj] at h; rw [h]
def u8L (l : List Nat) : List Value := l.map fun n => Value.int .u8 (Int.ofNat n)
def asciiSpaceL : List Nat := (List.range 256).map fun n => bif (Nat.ble 9 n && Nat.ble n 13) || n == 32 then 1 else 0
def gtab : List (Nat × List Value) :=
 (0, u8L asciiSpaceL) ::
  []
def glook : List (Nat × List Value) → Nat → Option (List Value)
  | [], _ => none
  | (k, l) :: r, g => bif k == g then some l else glook r g
theorem glook_mem : ∀ {t : List (Nat × List Value)} {g : Nat} {l : List Value}, glook t g = some l → (g, l) ∈ t
  | [], g, l, h => by cases h
  | (k, l') :: r, g, l, h => by
    unfold glook at h
    cases e : k == g with
    | true => rw [e] at h; cases h; rw [beq_iff_eq] at e; subst e; simp
    | false => rw [e] at h; exact List.mem_cons_of_mem _ (glook_mem h)
end Go.Proofs.YtnedgkfefdldeaaGreatDoor

/-! AbsCore: A second, smaller language of values for Go code that builds and reads data: a slice is a list, a variable of one's own is a numbered block; and what it means that memory lies as such values say. -/
namespace Go.Proofs.YtnedgkfefdldeaaGreatDoor
open Go.RowKit
inductive D where
  | v (u : Value)
  | sl (xs : List (List D))
inductive Cap where
  | d (x : D)
  | elt (c : List D) (off : Nat)
  | fn (f : FuncId) (cs : List Cap)
inductive AV where
  | d (x : D)
  | agg (cs : List AV)
  | tup (cs : List AV)
  | ptr (n off : Nat)
  | elt (xs : List (List D)) (i off : Nat)
  | own (n : Nat) (xs : List (List D))
  | full (xs : List (List D))
  | row (n off len cap k : Nat)
  | fn (f : FuncId) (caps : List AV)
  | mp (n : Nat)
  | yld (n : Nat)
  | vec (n o len L k : Nat)
  | vptr (n i j L k : Nat)
  | hid (c : Cap)
  | dead
inductive LS where
  | ready
  | busy
  | done (c : Code)
def LS.st : LS → LoopState
  | .ready => .ready
  | .busy => .busy
  | .done _ => .done
def LS.pd : LS → Option Code
  | .done c => some c
  | _ => none
inductive Blk where
  | cells (cs : List AV)
  | front (e : TypeId) (k len : Nat)
  | vec (e : TypeId) (k : Nat) (cs : List (List AV))
  | map (kv : List (ByteArray × D))
  | lp (ls : LS) (p : Nat) (as bd : Code) (cs : List AV)
  | it (sn : Bool) (cs : List AV)
  | gone
structure Gh where
  N : Nat
  Z : Nat → Prop
  S : Nat → Nat → Prop
  rho : Nat → Nat
  sg : Nat → Value
  ow : Nat → Option Nat
  fl : Nat → Nat
  M : Nat
inductive PRel (S : Nat → Nat → Prop) (w : World) : Value → D → Prop
  | v (u : Value) : PRel S w u (.v u)
  | sl (A : Option Addr) (b o c k : Nat) (xs : List (List D)) (u : Nat → Nat → Value)
      (hA : xs ≠ [] → A = some ⟨b, o, none⟩) (hc : xs.length ≤ c) (hm : c ≤ maxLen)
      (hk : ∀ x ∈ xs, x.length = k)
      (hS : ∀ i j, i < xs.length → j < k → S b (o + i * k + j) ∧ w.cell? ⟨b, o + i * k + j, none⟩ = some (u i j) ∧ (u i j).oneCell' = true)
      (hu : ∀ (i j : Nat) (x : List D) (d : D), xs[i]? = some x → x[j]? = some d → PRel S w (u i j) d) : PRel S w (.slice A xs.length c) (.sl xs)
inductive CapRel (S : Nat → Nat → Prop) (w : World) : Value → Cap → Prop
  | d {u : Value} {x : D} (h : PRel S w u x) : CapRel S w u (.d x)
  | elt (c : List D) (off b o : Nat) (u : Nat → Value) (hS : ∀ j, j < c.length → S b (o + j) ∧ w.cell? ⟨b, o + j, none⟩ = some (u j)) (hu : ∀ (j : Nat) (d : D), c[j]? = some d → PRel S w (u j) d) : CapRel S w (.pointer (some ⟨b, o + off, none⟩)) (.elt c off)
  | fn (f : FuncId) (vs : Array Value) (cs : List Cap) (hl : vs.size = cs.length) (h : ∀ (i : Nat) (u : Value) (c : Cap), vs[i]? = some u → cs[i]? = some c → CapRel S w u c) : CapRel S w (.func (.func f) #[] vs) (.fn f cs)
structure VecOK (s u : Value) (o len L k : Nat) : Prop where
  ol : o + len ≤ L
  sl : ∃ A c, u = .slice A len c ∧ len ≤ c ∧ c ≤ maxLen ∧ L ≤ c + o ∧ (o < L → ∃ g cap, s = .slice (some ⟨g, 0, none⟩) L cap ∧ A = some ⟨g, o * k, none⟩ ∧ o + c = cap)
  all : o = 0 → len = L → u = s
structure VptrOK (s u : Value) (i j L k : Nat) : Prop where
  il : i < L
  pt : ∃ g cap, s = .slice (some ⟨g, 0, none⟩) L cap ∧ u = .pointer (some ⟨g, i * k + j, none⟩)
inductive VRel (G : Gh) (w : World) : Value → AV → Prop
  | d {u : Value} {x : D} (h : PRel G.S w u x) : VRel G w u (.d x)
  | agg (vs : Array Value) (cs : List AV) (hl : vs.size = cs.length) (h : ∀ (i : Nat) (u : Value) (c : AV), vs[i]? = some u → cs[i]? = some c → VRel G w u c) : VRel G w (.agg vs) (.agg cs)
  | tup (vs : Array Value) (cs : List AV) (hl : vs.size = cs.length) (h : ∀ (i : Nat) (u : Value) (c : AV), vs[i]? = some u → cs[i]? = some c → VRel G w u c) : VRel G w (.tuple vs) (.tup cs)
  | ptr (n off : Nat) (h : n < G.N) : VRel G w (.pointer (some ⟨G.rho n, off, none⟩)) (.ptr n off)
  | elt (xs : List (List D)) (i off b o : Nat) (u : Nat → Value) (x : List D) (hx : xs[i]? = some x)
      (hS : ∀ j, j < x.length → G.S b (o + j) ∧ w.cell? ⟨b, o + j, none⟩ = some (u j)) (hu : ∀ (j : Nat) (d : D), x[j]? = some d → PRel G.S w (u j) d) : VRel G w (.pointer (some ⟨b, o + off, none⟩)) (.elt xs i off)
  | own {u : Value} (n : Nat) (xs : List (List D)) (h : n < G.N) (hp : PRel G.S w u (.sl xs)) (hle : xs.length ≤ G.fl n) (hf : xs.length = G.fl n → u = G.sg n) : VRel G w u (.own n xs)
  | full {u : Value} (xs : List (List D)) (hp : PRel G.S w u (.sl xs)) (hf : ∃ A, u = .slice A xs.length xs.length) : VRel G w u (.full xs)
  | row (n off len cap k : Nat) (h : n < G.N) (hl : len ≤ cap) (hm : cap ≤ maxLen) : VRel G w (.slice (some ⟨G.rho n, off, none⟩) len cap) (.row n off len cap k)
  | fn (f : FuncId) (vs : Array Value) (cs : List AV) (hl : vs.size = cs.length) (h : ∀ (i : Nat) (u : Value) (c : AV), vs[i]? = some u → cs[i]? = some c → VRel G w u c) : VRel G w (.func (.func f) #[] vs) (.fn f cs)
  | mp (n : Nat) (h : n < G.N) : VRel G w (.map (some (G.rho n))) (.mp n)
  | yld (n : Nat) (h : n < G.N) : VRel G w (.func (.yield (G.rho n)) #[] #[]) (.yld n)
  | vec {u : Value} (n o len L k : Nat) (h : n < G.N) (hs : ∃ A l c, u = .slice A l c) (hL : L ≤ G.fl n) (hf : L = G.fl n → VecOK (G.sg n) u o len L k) : VRel G w u (.vec n o len L k)
  | vptr {u : Value} (n i j L k : Nat) (h : n < G.N) (hs : ∃ b q, u = .pointer (some ⟨b, q, none⟩)) (hL : L ≤ G.fl n) (hf : L = G.fl n → VptrOK (G.sg n) u i j L k) : VRel G w u (.vptr n i j L k)
  | hid {u : Value} {c : Cap} (h : CapRel G.S w u c) (h1 : u.oneCell' = true) : VRel G w u (.hid c)
  | dead (u : Value) : VRel G w u .dead
def mget : List (ByteArray × D) → ByteArray → Option D
  | [], _ => none
  | (k, d) :: l, s => bif bL k == bL s then some d else mget l s
structure MapOK (S : Nat → Nat → Prop) (w : World) (es : Array MapEntry) (clock : Nat) (kv : List (ByteArray × D)) : Prop where
  size : es.size ≤ maxLen
  stamped : MapKept.Stamped es clock
  ent : ∀ e ∈ es.toList, ∃ s d, e.key = .string s ∧ mget kv s = some d ∧ PRel S w e.val d
  all : ∀ s d, mget kv s = some d → ∃ e ∈ es.toList, e.key = .string s
  len : es.size ≤ kv.length
  born : ∀ (i : Nat) (e : MapEntry), es[i]? = some e → e.born = i
  clk : clock = es.size
def Blk.own1 (G : Gh) (n : Nat) : Blk → Option Nat
  | .cells _ => some (G.rho n)
  | .front _ _ _ => G.ow n
  | .vec _ _ _ => G.ow n
  | .map _ => some (G.rho n)
  | .lp _ _ _ _ _ => some (G.rho n)
  | .it _ _ => some (G.rho n)
  | .gone => none
def ownB (h : List Blk) (G : Gh) (n : Nat) : Option Nat := (h[n]?).bind (Blk.own1 G n)
theorem ownB_of {h : List Blk} {G : Gh} {n : Nat} {B : Blk} (e : h[n]? = some B) : ownB h G n = B.own1 G n := by unfold ownB; rw [e]; rfl
theorem ownB_none {h : List Blk} {G : Gh} {n : Nat} (e : h[n]? = none) : ownB h G n = none := by unfold ownB; rw [e]; rfl
theorem ownB_some {h : List Blk} {G : Gh} {n b : Nat} (e : ownB h G n = some b) : ∃ B, h[n]? = some B ∧ B.own1 G n = some b := by
  unfold ownB at e
  cases hx : h[n]? with
  | none => rw [hx] at e; cases e
  | some B => rw [hx] at e; exact ⟨B, rfl, e⟩
def BRel (G : Gh) (w : World) (n : Nat) : Blk → Prop
  | .cells cs => ¬ G.Z (G.rho n) ∧ (∀ o, ¬ G.S (G.rho n) o) ∧ ∃ (vs : Array Value) (T : TypeId), w.heap[G.rho n]? = some (.cells vs T (0, 0)) ∧ vs.size = cs.length ∧ ∀ (i : Nat) (u : Value) (c : AV), vs[i]? = some u → cs[i]? = some c → VRel G w u c
  | .front e k len => G.fl n = len ∧ len ≤ maxLen ∧ ((G.ow n = none ∧ ∃ A, G.sg n = .slice A len len) ∨
      ∃ (g cap : Nat) (cur : Array Value), G.ow n = some g ∧ G.sg n = .slice (some ⟨g, 0, none⟩) len cap ∧ ¬ G.Z g ∧ w.heap[g]? = some (.cells cur e (0, 0)) ∧ len ≤ cap ∧ cap ≤ maxLen ∧ cur.size = cap * k ∧ ∀ o, len * k ≤ o → ¬ G.S g o)
  | .vec e k cs => G.fl n = cs.length ∧ cs.length ≤ maxLen ∧ (∀ c ∈ cs, c.length = k) ∧ ((G.ow n = none ∧ cs = [] ∧ ∃ A, G.sg n = .slice A 0 0) ∨
      ∃ (g cap : Nat) (cur : Array Value), G.ow n = some g ∧ G.sg n = .slice (some ⟨g, 0, none⟩) cs.length cap ∧ ¬ G.Z g ∧ w.heap[g]? = some (.cells cur e (0, 0)) ∧ cs.length ≤ cap ∧ cap ≤ maxLen ∧ cur.size = cap * k ∧ (∀ o, ¬ G.S g o) ∧
        ∀ (i j : Nat) (c : List AV) (x : AV) (u : Value), cs[i]? = some c → c[j]? = some x → cur[i * k + j]? = some u → VRel G w u x)
  | .map kv => ¬ G.Z (G.rho n) ∧ (∀ o, ¬ G.S (G.rho n) o) ∧ ∃ (es : Array MapEntry) (clock : Nat), w.heap[G.rho n]? = some (.map es clock) ∧ MapOK G.S w es clock kv
  | .lp ls p as bd cs => ¬ G.Z (G.rho n) ∧ (∀ o, ¬ G.S (G.rho n) o) ∧ ∃ (fn : FuncId) (tm : Array Value) (D : Nat), w.heap[G.rho n]? = some (.loop { state := ls.st, pending := ls.pd, fn := fn, tmps := tm, params := #[p], assign := as, body := bd, defers := D }) ∧ tm.size = cs.length ∧ ∀ (i : Nat) (u : Value) (c : AV), tm[i]? = some u → cs[i]? = some c → VRel G w u c
  | .it sn cs => ¬ G.Z (G.rho n) ∧ (∀ o, ¬ G.S (G.rho n) o) ∧ ∃ (fn : Nat) (vs : Array Value) (_ : Unit), w.heap[G.rho n]? = some (.mapIter (some fn) 1 (if sn then #[0] else #[]) 1) ∧ (vs.size = cs.length ∧ vs = #[.map (some fn)]) ∧ ∀ (i : Nat) (u : Value) (c : AV), vs[i]? = some u → cs[i]? = some c → VRel G w u c
  | .gone => True
def GlOK (G : Gh) (w : World) : Prop := (∀ (g : Nat) (l : List Value), (g, l) ∈ gtab → ∀ (j : Nat) (v : Value), l[j]? = some v → G.S g j ∧ w.cell? ⟨g, j, none⟩ = some v) ∧ G.M ≤ w.heap.size
structure Inv (G : Gh) (w : World) (h : List Blk) : Prop where
  len : h.length = G.N
  z : ∀ b, G.Z b → b < w.heap.size
  S : ∀ b o, G.S b o → b < w.heap.size
  blk : ∀ (n : Nat) (B : Blk), h[n]? = some B → BRel G w n B
  inj : ∀ (m n b : Nat), ownB h G m = some b → ownB h G n = some b → m = n
  gl : GlOK G w
structure Ext (N : Nat) (G : Gh) (w : World) (G' : Gh) (w' : World) : Prop where
  size : w.heap.size ≤ w'.heap.size
  S : ∀ b o, G.S b o → G'.S b o
  cell : ∀ b o, G.S b o → w'.cell? ⟨b, o, none⟩ = w.cell? ⟨b, o, none⟩
  rho : ∀ n, n < N → G'.rho n = G.rho n
  fr : ∀ n, n < N → (G'.fl n = G.fl n ∧ G'.sg n = G.sg n) ∨ G.fl n < G'.fl n
  Z : ((∀ b, G.Z b → G'.Z b) ∧ ∀ b, G'.Z b → G.Z b ∨ w.heap.size ≤ b) ∧ G'.M = G.M
  old : ∀ b, G.Z b → w'.heap[b]? = w.heap[b]?
  os : w'.os = w.os
  tape : w'.tape = w.tape
  output : w'.output = w.output
  new : ∀ b o, G'.S b o → G.S b o ∨ ¬ G.Z b
theorem zsame {Z Z' : Nat → Prop} {m M M' : Nat} (h : Z' = Z) (hM : M' = M := by rfl) : ((∀ b, Z b → Z' b) ∧ ∀ b, Z' b → Z b ∨ m ≤ b) ∧ M' = M := ⟨⟨fun _ k => h ▸ k, fun _ k => .inl (h ▸ k)⟩, hM⟩
theorem Ext.refl (N : Nat) (G : Gh) (w : World) : Ext N G w G w :=
  ⟨Nat.le_refl _, fun _ _ h => h, fun _ _ _ => rfl, fun _ _ => rfl, fun _ _ => .inl ⟨rfl, rfl⟩, zsame rfl, fun _ _ => rfl, rfl, rfl, rfl, fun _ _ h => .inl h⟩
theorem Ext.trans {N : Nat} {G G1 G2 : Gh} {w w1 w2 : World} (h : Ext N G w G1 w1) (k : Ext N G1 w1 G2 w2) : Ext N G w G2 w2 :=
  ⟨Nat.le_trans h.size k.size, fun b o hs => k.S b o (h.S b o hs), fun b o hs => (k.cell b o (h.S b o hs)).trans (h.cell b o hs), fun n hn => (k.rho n hn).trans (h.rho n hn),
   fun n hn => by
    rcases h.fr n hn with ⟨h1, h2⟩ | h1 <;> rcases k.fr n hn with ⟨k1, k2⟩ | k1
    · exact .inl ⟨k1.trans h1, k2.trans h2⟩
    · exact .inr (h1 ▸ k1)
    · exact .inr (k1 ▸ h1)
    · exact .inr (Nat.lt_trans h1 k1),
   ⟨⟨fun b hb => k.Z.1.1 b (h.Z.1.1 b hb), fun b hb => (k.Z.1.2 b hb).elim (h.Z.1.2 b) fun hs => .inr (Nat.le_trans h.size hs)⟩, k.Z.2.trans h.Z.2⟩, fun b hb => (k.old b (h.Z.1.1 b hb)).trans (h.old b hb), k.os.trans h.os, k.tape.trans h.tape, k.output.trans h.output, fun b o hs => (k.new b o hs).elim (h.new b o) (fun hn => .inr fun hz => hn (h.Z.1.1 b hz))⟩
theorem Ext.less {N M : Nat} {G G' : Gh} {w w' : World} (h : Ext N G w G' w') (hM : M ≤ N) : Ext M G w G' w' :=
  ⟨h.size, h.S, h.cell, fun n hn => h.rho n (Nat.lt_of_lt_of_le hn hM), fun n hn => h.fr n (Nat.lt_of_lt_of_le hn hM), h.Z, h.old, h.os, h.tape, h.output, h.new⟩
theorem Ext.notZ {N : Nat} {G G' : Gh} {w w' : World} (h : Ext N G w G' w') {b : Nat} (hb : b < w.heap.size) (hz : ¬ G.Z b) : ¬ G'.Z b := fun k => (h.Z.1.2 b k).elim hz fun hs => Nat.lt_irrefl _ (Nat.lt_of_lt_of_le hb hs)
def Marks (G : Gh) (w : World) (ds : List Deferred) : Prop := ∃ l : List Nat, l.Nodup ∧ ds = l.map (fun D => { target := .collected D, args := #[] }) ∧ ∀ D ∈ l, G.M ≤ D ∧ G.Z D ∧ w.heap[D]? = some (.deferred (some []))
theorem Marks.nil (G : Gh) (w : World) : Marks G w [] := ⟨[], List.nodup_nil, rfl, fun _ h => absurd h List.not_mem_nil⟩
theorem Marks.keep {N : Nat} {G G' : Gh} {w w' : World} {ds : List Deferred} (h : Marks G w ds) (hE : Ext N G w G' w') : Marks G' w' ds :=
  let ⟨l, h1, h2, h3⟩ := h
  ⟨l, h1, h2, fun D hD => ⟨hE.Z.2 ▸ (h3 D hD).1, hE.Z.1.1 D (h3 D hD).2.1, (hE.old D (h3 D hD).2.1).trans (h3 D hD).2.2⟩⟩
theorem GlOK.keep {N : Nat} {G G' : Gh} {w w' : World} (h : GlOK G w) (hE : Ext N G w G' w') : GlOK G' w' := ⟨fun g l hm j v hv =>
  ⟨hE.S _ _ (h.1 g l hm j v hv).1, (hE.cell _ _ (h.1 g l hm j v hv).1).trans (h.1 g l hm j v hv).2⟩, by rw [hE.Z.2]; exact Nat.le_trans h.2 hE.size⟩
theorem PRel.keep {S S' : Nat → Nat → Prop} {w w' : World} (hS : ∀ b o, S b o → S' b o) (hc : ∀ b o, S b o → w'.cell? ⟨b, o, none⟩ = w.cell? ⟨b, o, none⟩) {u : Value} {x : D} (h : PRel S w u x) : PRel S' w' u x := by
  induction h with
  | v u => exact .v u
  | sl A b o c k xs u hA hc' hm hk hS' _ ih =>
    exact .sl A b o c k xs u hA hc' hm hk (fun i j hi hj => ⟨hS _ _ (hS' i j hi hj).1, (hc _ _ (hS' i j hi hj).1).trans (hS' i j hi hj).2.1, (hS' i j hi hj).2.2⟩) ih
theorem CapRel.keep {S S' : Nat → Nat → Prop} {w w' : World} (hS : ∀ b o, S b o → S' b o) (hc : ∀ b o, S b o → w'.cell? ⟨b, o, none⟩ = w.cell? ⟨b, o, none⟩) {u : Value} {x : Cap} (h : CapRel S w u x) : CapRel S' w' u x := by
  induction h with
  | d h => exact .d (h.keep hS hc)
  | elt c off b o u h1 h2 => exact .elt c off b o u (fun j hj => ⟨hS _ _ (h1 j hj).1, (hc _ _ (h1 j hj).1).trans (h1 j hj).2⟩) (fun j d hd => (h2 j d hd).keep hS hc)
  | fn f vs cs hl _ ih => exact .fn f vs cs hl ih
theorem VRel.keep {G G' : Gh} {w w' : World} (hE : Ext G.N G w G' w') (hN : G.N ≤ G'.N) {u : Value} {x : AV} (h : VRel G w u x) : VRel G' w' u x := by
  induction h with
  | d h => exact .d (h.keep hE.S hE.cell)
  | agg vs cs hl _ ih => exact .agg vs cs hl ih
  | tup vs cs hl _ ih => exact .tup vs cs hl ih
  | ptr n off h => rw [← hE.rho n h]; exact .ptr n off (Nat.lt_of_lt_of_le h hN)
  | elt xs i off b o u x hx hS hu => exact .elt xs i off b o u x hx (fun j hj => ⟨hE.S _ _ (hS j hj).1, (hE.cell _ _ (hS j hj).1).trans (hS j hj).2⟩) (fun j d hd => (hu j d hd).keep hE.S hE.cell)
  | own n xs h hp hle hf =>
    refine .own n xs (Nat.lt_of_lt_of_le h hN) (hp.keep hE.S hE.cell) ?_ ?_
    · rcases hE.fr n h with ⟨h1, _⟩ | h1
      · omega
      · omega
    · intro e
      rcases hE.fr n h with ⟨h1, h2⟩ | h1
      · rw [h2]; exact hf (e.trans h1)
      · omega
  | full xs hp hf => exact .full xs (hp.keep hE.S hE.cell) hf
  | row n off len cap k h hl hm => rw [← hE.rho n h]; exact .row n off len cap k (Nat.lt_of_lt_of_le h hN) hl hm
  | fn f vs cs hl _ ih => exact .fn f vs cs hl ih
  | mp n h => rw [← hE.rho n h]; exact .mp n (Nat.lt_of_lt_of_le h hN)
  | yld n h => rw [← hE.rho n h]; exact .yld n (Nat.lt_of_lt_of_le h hN)
  | vec n o len L k h hs hL hf =>
    refine .vec n o len L k (Nat.lt_of_lt_of_le h hN) hs ?_ ?_
    · rcases hE.fr n h with ⟨h1, _⟩ | h1 <;> omega
    · intro e
      rcases hE.fr n h with ⟨h1, h2⟩ | h1
      · rw [h2]; exact hf (e.trans h1)
      · omega
  | vptr n i j L k h hs hL hf =>
    refine .vptr n i j L k (Nat.lt_of_lt_of_le h hN) hs ?_ ?_
    · rcases hE.fr n h with ⟨h1, _⟩ | h1 <;> omega
    · intro e
      rcases hE.fr n h with ⟨h1, h2⟩ | h1
      · rw [h2]; exact hf (e.trans h1)
      · omega
  | hid h h1 => exact .hid (h.keep hE.S hE.cell) h1
  | dead u => exact .dead u
end Go.Proofs.YtnedgkfefdldeaaGreatDoor

/-! AbsOps: The small language's operations: what an operation does to states of values of the small language, one definition for each kind of operation. -/
namespace Go.Proofs.YtnedgkfefdldeaaGreatDoor
open Go.RowKit
structure St where
  n : Nat
  t : List (Nat × AV)
  h : List Blk
def tget : List (Nat × AV) → Nat → AV
  | [], _ => .dead
  | (k, x) :: l, i => bif i == k then x else tget l i
theorem tget_cons (k : Nat) (x : AV) (l : List (Nat × AV)) (i : Nat) : tget ((k, x) :: l) i = if i = k then x else tget l i := by
  simp only [tget, cond_eq_ite, beq_iff_eq]
def chk (b : Bool) (p : Prop) : Prop := cond b p False
theorem chk_iff {b : Bool} {p : Prop} : chk b p ↔ b = true ∧ p := by cases b <;> simp [chk]
def leB (a b : Nat) : Bool := a - b == 0
theorem leB_iff {a b : Nat} : leB a b = true ↔ a ≤ b := by simp [leB]; omega
def kNo : IntKind → Nat
  | .i8 => 0 | .i16 => 1 | .i32 => 2 | .i64 => 3 | .u8 => 4 | .u16 => 5 | .u32 => 6 | .u64 => 7
def kEq (a b : IntKind) : Bool := kNo a == kNo b
theorem kEq_iff {a b : IntKind} : kEq a b = true ↔ a = b := by cases a <;> cases b <;> decide
def St.put (s : St) (dst : Option Nat) (x : AV) : St :=
  match dst with
  | none => s
  | some d => bif s.n - d == 0 then s else { s with t := (d, x) :: s.t }
theorem put_lt {s : St} {d : Nat} (h : d < s.n) (x : AV) : s.put (some d) x = { s with t := (d, x) :: s.t } := by
  have : (s.n - d == 0) = false := by simp; omega
  simp only [St.put, this, cond_false]
theorem put_ge {s : St} {d : Nat} (h : ¬ d < s.n) (x : AV) : s.put (some d) x = s := by
  have : (s.n - d == 0) = true := by simp; omega
  simp only [St.put, this, cond_true]
def St.wh (s : St) (h : List Blk) : St := { s with h := h }
def absVal : Value → AV
  | .agg vs => .agg (vs.toList.map fun u => .d (.v u))
  | .tuple vs => .tup (vs.toList.map fun u => .d (.v u))
  | u => .d (.v u)
def ev (s : St) : Operand → AV
  | .tmp t => tget s.t t
  | .const v => absVal v
  | .func f => .fn f []
  | .global g => match glook gtab g with
    | some l => .elt [l.map .v] 0 0
    | none => .dead
def AV.cellB : AV → Bool
  | .d (.v u) => u.oneCell'
  | .d (.sl _) | .ptr .. | .elt .. | .own .. | .full _ | .row .. | .fn .. | .mp _ | .yld _ | .hid _ | .vec .. | .vptr .. => true
  | .agg _ | .tup _ | .dead => false
def AV.cells : AV → List AV
  | .agg cs => cs
  | x => [x]
def AV.boxB : AV → Bool
  | .agg cs => cs.all AV.cellB
  | x => x.cellB
def D.nrm1 : D → D
  | .v (.slice none 0 0) => .sl []
  | x => x
def AV.toD? : AV → Option D
  | .d x => some x.nrm1
  | .own _ xs => some (.sl xs)
  | .full xs => some (.sl xs)
  | _ => none
def AV.list? : AV → Option (List (List D))
  | .d (.sl xs) => some xs
  | .own _ xs => some xs
  | .full xs => some xs
  | .d (.v (.slice none 0 0)) => some []
  | _ => none
def AV.int? : AV → Option Int
  | .d (.v (.int _ n)) => some n
  | _ => none
def Cap.av : Cap → AV
  | .d x => .d x
  | .elt c off => .elt [c] 0 off
  | .fn f cs => .hid (.fn f cs)
def szT (P : Program) (t : TypeId) : Option Nat := (P.info? t).map (·.size)
def aggT (P : Program) (t : TypeId) : Option Bool := (P.underlying t).map fun | .struct _ => true | .array .. => true | _ => false
def fldT (P : Program) (t : TypeId) (i : Nat) : Option (Nat × Nat × Bool) :=
  match P.underlying t with
  | some (.struct fs) => match fs[i]? with
    | some f => match szT P f.type, aggT P f.type with
      | some (k + 1), some g => some (f.offset, k + 1, g)
      | _, _ => none
    | none => none
  | _ => none
def elmT (P : Program) (t : TypeId) : Option (TypeId × Nat) :=
  match P.underlying t with
  | some (.slice e) => (szT P e).map fun k => (e, k)
  | _ => none
def arrT (P : Program) (t : TypeId) : Option (Nat × TypeId × Nat) :=
  match P.underlying t with
  | some (.array n e) => (szT P e).map fun k => (n, e, k)
  | _ => none
def strT (P : Program) (t : TypeId) : Bool := match P.underlying t with | some .string => true | _ => false
def boolT (P : Program) (t : TypeId) : Bool := match P.underlying t with | some .bool => true | _ => false
def intT (P : Program) (t : TypeId) : Option IntKind := match P.underlying t with | some (.int k) => some k | _ => none
def u8T (P : Program) (t : TypeId) : Bool := match P.underlying t with | some (.int .u8) => true | _ => false
def zeroT (P : Program) (t : TypeId) : Option Value := (P.info? t).bind (·.zero)
def byT (P : Program) (t : TypeId) : Option Nat := (P.info? t).map (·.bytes)
def binI (op : BinOp) (k : IntKind) (a b : Int) : Option Value :=
  match op with
  | .add => some (.int k (k.wrap (a + b)))
  | .sub => some (.int k (k.wrap (a - b)))
  | .mul => some (.int k (k.wrap (a * b)))
  | .eql => some (.bool (a == b))
  | .neq => some (.bool (a != b))
  | .lss => some (.bool (a < b))
  | .leq => some (.bool (a ≤ b))
  | .gtr => some (.bool (a > b))
  | .geq => some (.bool (a ≥ b))
  | .and => some (.int k (k.wrap (BitVec.ofInt k.bits a &&& BitVec.ofInt k.bits b).toNat))
  | .or => some (.int k (k.wrap (BitVec.ofInt k.bits a ||| BitVec.ofInt k.bits b).toNat))
  | .xor => some (.int k (k.wrap (BitVec.ofInt k.bits a ^^^ BitVec.ofInt k.bits b).toNat))
  | .andNot => some (.int k (k.wrap (BitVec.ofInt k.bits a &&& ~~~BitVec.ofInt k.bits b).toNat))
  | _ => none
def binS (op : BinOp) (a b : ByteArray) : Option Value :=
  match op with
  | .eql => some (.bool (bL a == bL b))
  | .neq => some (.bool (!(bL a == bL b)))
  | .lss => some (.bool (Op.bytesLess (bL a) (bL b)))
  | .leq => some (.bool (Op.bytesLess (bL a) (bL b) || bL a == bL b))
  | .gtr => some (.bool (!(Op.bytesLess (bL a) (bL b) || bL a == bL b)))
  | .geq => some (.bool (!Op.bytesLess (bL a) (bL b)))
  | _ => none
def binB (op : BinOp) (a b : Bool) : Option Value :=
  match op with
  | .eql => some (.bool (a == b))
  | .neq => some (.bool (!(a == b)))
  | _ => none
def binQ (op : BinOp) (k : IntKind) (a b : Int) : Option Value :=
  match op with
  | .quo => some (.int k (k.wrap (a.tdiv b)))
  | .rem => some (.int k (a.tmod b))
  | _ => none
def shI (op : BinOp) (k : IntKind) (a b : Int) : Option Value :=
  match op with
  | .shl => some (.int k (k.wrap (a * 2 ^ (min b.toNat k.bits))))
  | .shr => some (.int k (a.fdiv (2 ^ (min b.toNat k.bits))))
  | _ => none
def unV (op : UnOp) (x : Value) : Option Value :=
  match op, x with
  | .not, .bool b => some (.bool (!b))
  | .neg, .int k n => some (.int k (k.wrap (0 - n)))
  | .xor, .int k n => some (.int k (k.wrap (BitVec.ofInt k.bits (if k.signed then -1 else k.max) ^^^ BitVec.ofInt k.bits n).toNat))
  | _, _ => none
def splice (cs : List AV) (off : Nat) (ys : List AV) : List AV := cs.take off ++ ys ++ cs.drop (off + ys.length)
def chunks (k : Nat) : Nat → List D → List (List D)
  | 0, _ => []
  | n + 1, l => l.take k :: chunks k n (l.drop k)
def fillA (places : List (Nat × Nat)) : List AV → List (Nat × AV) → Option (List AV)
  | cs, [] => some cs
  | cs, (i, x) :: r =>
    match places[i]? with
    | some (off, k) => bif x.cells.length == k && leB (off + k) cs.length then fillA places (splice cs off x.cells) r else none
    | none => none
def allD : List AV → Option (List D)
  | [] => some []
  | x :: r => match x.toD?, allD r with
    | some d, some l => some (d :: l)
    | _, _ => none
def fldsT (P : Program) (fs : List Field) : Option (List (Nat × Nat)) := fs.mapM fun f => (szT P f.type).map fun k => (f.offset, k)
def enterB (P : Program) (f : FuncId) : Bool :=
  match P.funcs[f]? with
  | some fn => fn.body.isSome && !(fn.name == "runtime.NumGoroutine")
  | none => false
def ACalls (P : Program) (f : FuncId) (args : List AV) (h : List Blk) (K : AV → List Blk → Prop) : Prop :=
  enterB P f = true ∧ ∀ (G : Gh) (w : World) (vs : Array Value), Inv G w h → vs.size = args.length → (∀ (i : Nat) (u : Value) (c : AV), vs[i]? = some u → args[i]? = some c → VRel G w u c) →
    Calls P f vs w fun e w' => ∃ v G' r h', e = .returned v ∧ Ext G.N G w G' w' ∧ G.N ≤ G'.N ∧ Inv G' w' h' ∧ VRel G' w' v r ∧ K r h'
theorem ACalls.mono {P : Program} {f : FuncId} {args : List AV} {h : List Blk} {K K' : AV → List Blk → Prop} (hc : ACalls P f args h K) (hk : ∀ r h', K r h' → K' r h') : ACalls P f args h K' :=
  ⟨hc.1, fun G w vs hi hl hr => (hc.2 G w vs hi hl hr).mono fun _ _ ⟨v, G', r, h', e, x1, x2, x3, x4, x5⟩ => ⟨v, G', r, h', e, x1, x2, x3, x4, hk _ _ x5⟩⟩
def atPtr (h : List Blk) (p : AV) (K : List AV → Nat → Prop) : Prop :=
  match p with
  | .ptr n off => match h[n]? with
    | some (.cells cs) => K cs off
    | _ => False
  | .elt xs i off => match xs[i]? with
    | some cs => K (cs.map .d) off
    | none => False
  | _ => False
def aLoad (P : Program) (t : TypeId) (h : List Blk) (p : AV) (K : AV → Prop) : Prop :=
  atPtr h p fun cs off => match aggT P t, szT P t with
    | some true, some k => chk (leB (off + k) cs.length) (K (.agg ((cs.drop off).take k)))
    | some false, some _ => match cs[off]? with
      | some c => K c
      | none => False
    | _, _ => False
def aStore (P : Program) (t : TypeId) (h : List Blk) (p x : AV) (K : List Blk → Prop) : Prop :=
  match p with
  | .ptr n off => match h[n]? with
    | some (.cells cs) => match szT P t with
      | some k => chk (k == x.cells.length && x.boxB && leB (off + x.cells.length) cs.length) (K (h.set n (.cells (splice cs off x.cells))))
      | none => False
    | _ => False
  | _ => False
def aIndexAddr (P : Program) (T : TypeId) (x i : AV) (K : AV → Prop) : Prop :=
  match elmT P T with
  | some (_, k) =>
    match x with
    | .row n off len _ k' => match i.int? with
      | some z => chk (k' == k) (0 ≤ z ∧ z < len ∧ K (.ptr n (off + z.toNat * k)))
      | none => False
    | _ => match x.list?, i.int? with
      | some xs, some z => 0 ≤ z ∧ (match xs[z.toNat]? with | some c => c.length = k ∧ K (.elt [c] 0 0) | none => False)
      | _, _ => False
  | none => match arrT P T, x, i.int? with
    | some (n, _, k), .ptr b off, some z => 0 ≤ z ∧ z < n ∧ K (.ptr b (off + z.toNat * k))
    | some (n, _, k), .elt xs i off, some z => chk (k == 1) (0 ≤ z ∧ z < n ∧ (match xs[i]? with | some c => (match c[off + z.toNat]? with | some d => K (.elt [[d]] 0 0) | none => False) | none => False))
    | _, _, _ => False
def aLen (P : Program) (T : TypeId) (x : AV) (K : Nat → Prop) : Prop :=
  match x with
  | .d (.v (.string s)) => chk (strT P T) (K s.size)
  | .row _ _ len _ _ => chk (elmT P T).isSome (K len)
  | x => match x.list? with
    | some xs => chk (elmT P T).isSome (K xs.length)
    | none => False
def optInt (ρ : Operand → AV) (x : Option Operand) (dflt : Nat) (K : Nat → Prop) : Prop :=
  match x with
  | none => K dflt
  | some y => match (ρ y).int? with
    | some z => 0 ≤ z ∧ K z.toNat
    | none => False
def aSlice (P : Program) (T : TypeId) (ρ : Operand → AV) (x : AV) (lo hi mx : Option Operand) (K : AV → Prop) : Prop :=
  match mx with
  | none =>
    match x with
    | .d (.v (.string b)) => chk (strT P T) (optInt ρ hi b.size fun h => h ≤ b.size ∧ optInt ρ lo 0 fun l => l ≤ h ∧ K (.d (.v (.string (b.extract l h)))))
    | .ptr n off => match arrT P T with
      | some (m, _, k) => chk (leB m 4096) (optInt ρ hi m fun h => chk (leB h m) (optInt ρ lo 0 fun l => chk (leB l h && !leB m l) (K (.row n (off + l * k) (h - l) (m - l) k))))
      | none => False
    | x => match x.list?, elmT P T with
      | some xs, some (_, k) => (∀ c ∈ xs, c.length = k) ∧ optInt ρ hi xs.length fun h => h ≤ xs.length ∧ optInt ρ lo 0 fun l => l ≤ h ∧ K (.d (.sl ((xs.take h).drop l)))
      | _, _ => False
  | some m => match lo, hi with
    | none, some y => match x.list?, elmT P T with
      | some xs, some (_, k) => (∀ c ∈ xs, c.length = k) ∧ optInt ρ (some m) 0 fun c => c ≤ xs.length ∧ optInt ρ (some y) 0 fun h => h = c ∧ K (.full (xs.take h))
      | _, _ => False
    | _, _ => False
def srcL (h : List Blk) (k : Nat) (x : AV) (K : List (List D) → Prop) : Prop :=
  match x with
  | .row n off len _ k' => match h[n]? with
    | some (.cells cs) => match allD ((cs.drop off).take (len * k)) with
      | some ds => chk (k' == k && leB (off + len * k) cs.length && ((cs.drop off).take (len * k)).all AV.cellB) (K (chunks k len ds))
      | none => False
    | _ => False
  | x => match x.list? with
    | some ys => (∀ c ∈ ys, c.length = k) ∧ K ys
    | none => False
def aAppend (P : Program) (T : TypeId) (h : List Blk) (x y : AV) (K : AV → List Blk → Prop) : Prop :=
  match elmT P T with
  | some (e, k) => match zeroT P e, byT P e with
    | some z, some by_ => chk (leB 1 k && z.cells.toList.length == k) <| srcL h k y fun ys =>
      match x with
      | .own n xs => match h[n]? with
        | some (.front e' k' len) => chk (e' == e && k' == k) <| len = xs.length ∧ (∀ c ∈ xs, c.length = k) ∧ xs.length + ys.length ≤ maxLen ∧ (xs.length + ys.length) * by_ ≤ 140737488355328 ∧ K (.own n (xs ++ ys)) (h.set n (.front e k (xs.length + ys.length)))
        | _ => False
      | .d (.v (.slice none 0 0)) => ys.length ≤ maxLen ∧ ys.length * by_ ≤ 140737488355328 ∧ K (.own h.length ys) (h ++ [.front e k ys.length])
      | .full xs => (∀ c ∈ xs, c.length = k) ∧ xs.length + ys.length ≤ maxLen ∧ (xs.length + ys.length) * by_ ≤ 140737488355328 ∧ K (.own h.length (xs ++ ys)) (h ++ [.front e k (xs.length + ys.length)])
      | _ => False
    | _, _ => False
  | none => False
def fldsP (P : Program) (T : TypeId) : Option (List (Nat × Nat)) :=
  match P.underlying T with
  | some (.struct fs) => fldsT P fs.toList
  | _ => none
def aBuild (P : Program) (T : TypeId) (ps : List (Nat × AV)) (K : AV → Prop) : Prop :=
  match fldsP P T, zeroT P T with
  | some places, some z => match fillA places (z.cells.toList.map fun u => .d (.v u)) ps with
    | some cs => chk ((ps.all fun p => p.2.boxB) && z.cells.toList.all Value.oneCell') (K (.agg cs))
    | none => False
  | _, _ => False
def placesN (k : Nat) : Nat → Nat → List (Nat × Nat)
  | _, 0 => []
  | o, n + 1 => (o, k) :: placesN k (o + k) n
def repN : Nat → List AV → List AV
  | 0, _ => []
  | n + 1, l => l ++ repN n l
def aBuildSlice (P : Program) (T : TypeId) (len : Nat) (ps : List (Nat × AV)) (K : AV → Prop) : Prop :=
  match elmT P T with
  | some (e, k) => match zeroT P e with
    | some z => match fillA (placesN k 0 len) (repN len (z.cells.toList.map fun u => .d (.v u))) ps with
      | some cs => match allD cs with
        | some ds => chk (leB 1 k && leB (len * k) 16777216 && z.cells.toList.length == k && z.cells.toList.all Value.oneCell' && (ps.all fun p => p.2.boxB)) (K (.full (chunks k len ds)))
        | none => False
      | none => False
    | none => False
  | none => False
def eq1 (P : Program) (t : TypeId) (x y : AV) : Option Bool :=
  match x, y with
  | .d (.v (.int k a)), .d (.v (.int k' b)) => bif kEq k k' && (intT P t).isSome then some (a == b) else none
  | .d (.v (.string a)), .d (.v (.string b)) => bif strT P t then some (bL a == bL b) else none
  | .d (.v (.bool a)), .d (.v (.bool b)) => bif boolT P t then some (a == b) else none
  | _, _ => none
def eqFs (P : Program) (sub : TypeId → List AV → List AV → Option Bool) : List Field → List AV → List AV → Option Bool
  | [], _, _ => some true
  | f :: fs, xs, ys => bif f.name == "_" then none else
    match aggT P f.type with
    | some false => match xs[f.offset]?, ys[f.offset]? with
      | some x, some y => match eq1 P f.type x y, eqFs P sub fs xs ys with
        | some a, some b => some (a && b)
        | _, _ => none
      | _, _ => none
    | some true => match szT P f.type with
      | some k => bif leB (f.offset + k) xs.length && leB (f.offset + k) ys.length then match sub f.type ((xs.drop f.offset).take k) ((ys.drop f.offset).take k), eqFs P sub fs xs ys with
        | some a, some b => some (a && b)
        | _, _ => none
        else none
      | none => none
    | none => none
def eqSub (P : Program) : Nat → TypeId → List AV → List AV → Option Bool
  | 0 => fun _ _ _ => none
  | d + 1 => fun T xs ys => match P.underlying T with
    | some (.struct fs) => bif P.stoodInHeld T then none else eqFs P (eqSub P d) fs.toList xs ys
    | _ => none
def eqS (P : Program) (T : TypeId) (xs ys : List AV) : Option Bool :=
  match P.underlying T with
  | some (.struct fs) => bif P.stoodInHeld T || P.eqGuardType P.depth T then none else eqFs P (eqSub P 4) fs.toList xs ys
  | _ => none
def eqV (op : BinOp) (b : Bool) : Option Value :=
  match op with
  | .eql => some (.bool b)
  | .neq => some (.bool (!b))
  | _ => none
def aBin (P : Program) (T : TypeId) (op : BinOp) (x y : AV) (K : AV → Prop) : Prop :=
  match x, y with
  | .d (.v (.int k a)), .d (.v (.int k' b)) =>
    match binQ op k a b with
    | some v => chk (kEq k k') (b ≠ 0 ∧ K (.d (.v v)))
    | none => match shI op k a b with
      | some v => 0 ≤ b ∧ K (.d (.v v))
      | none => match binI op k a b with
        | some v => chk (kEq k k') (K (.d (.v v)))
        | none => False
  | .d (.v (.string a)), .d (.v (.string b)) => match binS op a b with
    | some v => K (.d (.v v))
    | none => match op with
      | .add => a.size + b.size ≤ maxLen ∧ K (.d (.v (.string (a ++ b))))
      | _ => False
  | .d (.v (.bool a)), .d (.v (.bool b)) => match binB op a b with
    | some v => chk (boolT P T) (K (.d (.v v)))
    | none => False
  | .agg xs, .agg ys => match eqS P T xs ys with
    | some b => match eqV op b with
      | some v => K (.d (.v v))
      | none => False
    | none => False
  | _, _ => False
def aUn (op : UnOp) (x : AV) (K : AV → Prop) : Prop :=
  match x with
  | .d (.v u) => match unV op u with
    | some v => K (.d (.v v))
    | none => False
  | _ => False
def aConv (P : Program) (src dst : TypeId) (x : AV) (K : AV → Prop) : Prop :=
  match x with
  | .d (.v (.int _ n)) => match intT P src, intT P dst with
    | some _, some k => K (.d (.v (.int k (k.wrap n))))
    | _, _ => False
  | .d (.v (.string b)) => chk (strT P src && strT P dst) (K (.d (.v (.string b))))
  | x => match x.list?, elmT P src with
    | some xs, some (e, _) => chk (u8T P e && strT P dst) (∃ ns : List Int, xs = ns.map (fun n => [.v (.int .u8 n)]) ∧ K (.d (.v (.string ⟨(ns.map fun n => UInt8.ofNat n.toNat).toArray⟩))))
    | _, _ => False
def aField (P : Program) (T : TypeId) (x : AV) (f : Nat) (K : AV → Prop) : Prop :=
  match fldT P T f, x with
  | some (off, k, true), .agg cs => chk (leB (off + k) cs.length) (K (.agg ((cs.drop off).take k)))
  | some (off, _, false), .agg cs => match cs[off]? with
    | some c => K c
    | none => False
  | _, _ => False
def mapT (P : Program) (T : TypeId) : Option (TypeId × TypeId) :=
  match P.underlying T with
  | some (.map k e) => some (k, e)
  | _ => none
inductive Sd
  | no
  | lt (n : Nat)
def Sd.ok : Sd → Prop
  | .no => True
  | .lt n => n < maxLen
def lookR (commaOk : Bool) (z : Value) : Option D → AV
  | some d => bif commaOk then .tup [.d d, .d (.v (.bool true))] else .d d
  | none => bif commaOk then .tup [.d (.v z), .d (.v (.bool false))] else .d (.v z)
def opX (P : Program) (op : Op) (ρ : Operand → AV) (h : List Blk) : Option (AV × List Blk × Sd) :=
  match op with
  | .makeMap T none => match mapT P T with
    | some _ => some (.mp h.length, h ++ [.map []], .no)
    | none => none
  | .lookup T m i ok => match mapT P T with
    | some (k, e) => match zeroT P e with
      | some z => match ρ m, ρ i with
        | .mp n, .d (.v (.string s)) => match h[n]? with
          | some (.map kv) => bif strT P k && z.oneCell' then some (lookR ok z (mget kv s), h, .no) else none
          | _ => none
        | _, _ => none
      | none => none
    | none => none
  | .mapUpdate T m i x => match mapT P T with
    | some (k, _) => match ρ m, ρ i, (ρ x).toD? with
      | .mp n, .d (.v (.string s)), some d => match h[n]? with
        | some (.map kv) => bif strT P k then some (.d (.v undef), h.set n (.map ((s, d) :: kv)), .lt kv.length) else none
        | _ => none
      | _, _, _ => none
    | none => none
  | _ => none
inductive VA
  | no
  | el (c : List AV)
  | st (c : List AV) (cs : List (List AV))
  | mk (cs : List (List AV)) (len m : Nat)
  | ap (cs ys : List (List AV)) (L len : Nat)
  | ix (i : Nat)
  | ol (o len : Nat)
def ldC (P : Program) (t : TypeId) (c : List AV) (j : Nat) : Option AV :=
  match aggT P t, szT P t with
  | some true, some k => bif leB (j + k) c.length then some (.agg ((c.drop j).take k)) else none
  | some false, some _ => c[j]?
  | _, _ => none
def liftD (xs : List (List D)) : List (List AV) := xs.map fun c => c.map AV.d
def srcV (h : List Blk) (k : Nat) (y : AV) (ys : List (List AV)) : Prop :=
  (∃ xs, y.list? = some xs ∧ (∀ c ∈ xs, c.length = k) ∧ ys = liftD xs) ∨ (∃ n o len L e cs, y = .vec n o len L k ∧ h[n]? = some (.vec e k cs) ∧ cs.length = L ∧ ys = (cs.drop o).take len ∧ ∀ c ∈ ys, c.all AV.cellB = true)
def optI (ρ : Operand → AV) (d : Int) : Option Operand → Option Int
  | none => some d
  | some y => (ρ y).int?
def opV (P : Program) (op : Op) (ρ : Operand → AV) (h : List Blk) (a : VA) : Option (AV × List Blk × Prop) :=
  match op with
  | .indexAddr T x i => match ρ x, (ρ i).int?, elmT P T, a with
    | .vec n o len L k, some z, some (_, k'), .ix i' => match h[n]? with
      | some (.vec _ k2 cs) => bif k' == k && k2 == k then some (.vptr n i' 0 L k, h, cs.length = L ∧ 0 ≤ z ∧ z < len ∧ i' = o + z.toNat) else none
      | _ => none
    | _, _, _, _ => none
  | .fieldAddr S x f => match ρ x, fldT P S f with
    | .vptr n i j L k, some (fo, _, _) => some (.vptr n i (j + fo) L k, h, True)
    | _, _ => none
  | .nilCheck x => match ρ x with
    | .vptr n i j L k => some (.vptr n i j L k, h, True)
    | _ => none
  | .load t p => match ρ p, a with
    | .vptr n i j L k, .el c => match h[n]?, ldC P t c j with
      | some (.vec _ k' cs), some x => bif k' == k then some (x, h, cs.length = L ∧ cs[i]? = some c) else none
      | _, _ => none
    | _, _ => none
  | .store t p x => match ρ p, a with
    | .vptr n i j L k, .st c cs' => match h[n]?, szT P t with
      | some (.vec e k' cs), some q => bif k' == k && q == (ρ x).cells.length && (ρ x).boxB && leB (j + (ρ x).cells.length) k && leB 1 k then some (.d (.v undef), h.set n (.vec e k cs'), cs.length = L ∧ cs[i]? = some c ∧ cs' = cs.set i (splice c j (ρ x).cells)) else none
      | _, _ => none
    | _, _ => none
  | .slice T x lo hi none => match ρ x, elmT P T, a with
    | .vec n o len L k, some (_, k'), .ol o' len' => match optI ρ 0 lo, optI ρ len hi with
      | some l, some u => match h[n]? with
        | some (.vec _ k2 cs) => bif k' == k && k2 == k then some (.vec n o' len' L k, h, cs.length = L ∧ 0 ≤ l ∧ l ≤ u ∧ u ≤ (L : Int) - o ∧ o' = o + l.toNat ∧ len' = u.toNat - l.toNat) else none
        | _ => none
      | _, _ => none
    | _, _, _ => none
  | .makeSlice T l c => match elmT P T, (ρ l).int?, (ρ c).int?, a with
    | some (e, k), some l, some c, .mk cs len m => match zeroT P e, byT P e with
      | some z, some by_ => bif leB 1 k && z.cells.toList.length == k && z.cells.toList.all Value.oneCell' then some (.vec h.length 0 len m k, h ++ [.vec e k cs], 0 ≤ l ∧ l ≤ c ∧ l.toNat = len ∧ c.toNat = m ∧ cs = List.replicate m (z.cells.toList.map fun u => .d (.v u)) ∧ m ≤ maxLen ∧ by_ * m ≤ 281474976710656) else none
      | _, _ => none
    | _, _, _, _ => none
  | .call c => match c.callee with
    | .builtin .len => match c.args.toList, c.argTypes.toList with
      | [x], [T] => match ρ x with
        | .vec n _ len L k => match h[n]? with
          | some (.vec _ k2 cs) => bif (elmT P T).isSome && k2 == k then some (.d (.v (.int .i64 len)), h, cs.length = L) else none
          | _ => none
        | _ => none
      | _, _ => none
    | .builtin .append => match c.args.toList, c.argTypes.toList with
      | [x, y], [T, U] => match elmT P T, elmT P U, a with
        | some (e, k), some _, .ap cs' ys L' len' => match zeroT P e, byT P e with
          | some z, some by_ => bif leB 1 k && z.cells.toList.length == k then
            match ρ x with
            | .vec n o len L k1 => match h[n]? with
              | some (.vec e1 k2 cs) => bif k1 == k && k2 == k && e1 == e then some (.vec n o len' L' k, h.set n (.vec e k cs'), cs.length = L ∧ srcV h k (ρ y) ys ∧ len' = len + ys.length ∧
                  ((o + len + ys.length ≤ L ∧ L' = L ∧ cs' = cs.take (o + len) ++ ys ++ cs.drop (o + len + ys.length)) ∨ (o = 0 ∧ len = L ∧ L' = L + ys.length ∧ cs' = cs ++ ys ∧ L' ≤ maxLen ∧ L' * by_ ≤ 140737488355328))) else none
              | _ => none
            | .d (.v (.slice none 0 0)) => some (.vec h.length 0 len' L' k, h ++ [.vec e k cs'], srcV h k (ρ y) ys ∧ cs' = ys ∧ len' = ys.length ∧ L' = ys.length ∧ L' ≤ maxLen ∧ L' * by_ ≤ 140737488355328)
            | .full xs => some (.vec h.length 0 len' L' k, h ++ [.vec e k cs'], xs = [] ∧ srcV h k (ρ y) ys ∧ cs' = ys ∧ len' = ys.length ∧ L' = ys.length ∧ L' ≤ maxLen ∧ L' * by_ ≤ 140737488355328)
            | _ => none
          else none
          | _, _ => none
        | _, _, _ => none
      | _, _ => none
    | _ => none
  | _ => none
def foldI1 (mx : Bool) (k : IntKind) : Int → List AV → Option (IntKind × Int)
  | a, [] => some (k, a)
  | a, .d (.v (.int _ b)) :: l => foldI1 mx k (bif mx then (if b > a then b else a) else (if b < a then b else a)) l
  | _, _ => none
def foldI (mx : Bool) : List AV → Option (IntKind × Int)
  | .d (.v (.int k a)) :: l => foldI1 mx k a l
  | _ => none
def aopC (P : Program) (o : Oper) (ρ : Operand → AV) (h : List Blk) (C : AV → List Blk → Prop) : Prop :=
  match o.op with
  | .move x | .assign x => C (ρ x) h
  | .pick c a b => match ρ c with
    | .d (.v (.bool t)) => (t = true → C (ρ a) h) ∧ (t = false → C (ρ b) h)
    | _ => False
  | .alloc e => match zeroT P e with
    | some z => C (.ptr h.length 0) (h ++ [Blk.cells (z.cells.toList.map fun u => .d (.v u))])
    | none => False
  | .box _ x => chk (ρ x).boxB <| C (.ptr h.length 0) (h ++ [Blk.cells (ρ x).cells])
  | .load t a => aLoad P t h (ρ a) fun x => C x h
  | .store t a x => aStore P t h (ρ a) (ρ x) fun h' => C (.d (.v undef)) h'
  | .nilCheck x => match ρ x with
    | .ptr n off => C (.ptr n off) h
    | .elt xs i off => C (.elt xs i off) h
    | .fn f cs => C (.fn f cs) h
    | _ => False
  | .fieldAddr S x f => match fldT P S f with
    | some (fo, _, _) => match ρ x with
      | .ptr n off => C (.ptr n (off + fo)) h
      | .elt xs i off => C (.elt xs i (off + fo)) h
      | _ => False
    | none => False
  | .field T x f => aField P T (ρ x) f fun y => C y h
  | .indexAddr T x i => aIndexAddr P T (ρ x) (ρ i) fun y => C y h
  | .index T x i => match ρ x, (ρ i).int? with
    | .d (.v (.string b)), some z => chk (strT P T) (0 ≤ z ∧ (match b[z.toNat]? with | some c => C (.d (.v (.int .u8 c.toNat))) h | none => False))
    | _, _ => False
  | .build T ps => aBuild P T (ps.toList.map fun p => (p.1, ρ p.2)) fun y => C y h
  | .buildSlice T len ps => aBuildSlice P T len (ps.toList.map fun p => (p.1, ρ p.2)) fun y => C y h
  | .slice T x lo hi mx => aSlice P T ρ (ρ x) lo hi mx fun y => C y h
  | .extract x i => match ρ x with
    | .tup cs => match cs[i]? with
      | some c => C c h
      | none => False
    | _ => False
  | .makeFunc (.func f) first caps => match first.toList with
    | [] => C (.fn f (caps.toList.map ρ)) h
    | _ => False
  | .binOp op T x y _ => aBin P T op (ρ x) (ρ y) fun v => C v h
  | .unOp op _ x => aUn op (ρ x) fun v => C v h
  | .convert a b x => aConv P a b (ρ x) fun v => C v h
  | .call c => match c.callee with
    | .builtin .len => match c.args.toList, c.argTypes.toList with
      | [x], [T] => aLen P T (ρ x) fun n => C (.d (.v (.int .i64 n))) h
      | _, _ => False
    | .builtin .append => match c.args.toList, c.argTypes.toList with
      | [x, y], [T, U] => chk (elmT P U).isSome <| aAppend P T h (ρ x) (ρ y) fun v h' => C v h'
      | _, _ => False
    | .builtin .max => match foldI true (c.args.toList.map ρ) with
      | some (k, a) => C (.d (.v (.int k a))) h
      | none => False
    | .builtin .min => match foldI false (c.args.toList.map ρ) with
      | some (k, a) => C (.d (.v (.int k a))) h
      | none => False
    | .value f => match ρ f with
      | .fn g caps => ACalls P g (c.args.toList.map ρ ++ caps) h fun r h' => C r h'
      | .hid q => ∃ g cs, q = .fn g cs ∧ ACalls P g (c.args.toList.map ρ ++ cs.map Cap.av) h fun r h' => C r h'
      | _ => False
    | _ => False
  | op => match opX P op ρ h with
    | some (x, h', p) => p.ok ∧ C x h'
    | none => False
def aNil (P : Program) (o : Oper) (K : St → Prop) (s : St) : Prop :=
  match o.op with
  | .binOp op T x y _ => match (ev s x).list?, ev s y, elmT P T, eqV op true, eqV op false with
    | some xs, .d (.v (.slice none 0 0)), some _, some v1, some v2 => (xs = [] → K (s.put o.dst (.d (.v v1)))) ∧ K (s.put o.dst (.d (.v v2)))
    | _, _, _, _, _ => False
  | _ => False
def aopV (P : Program) (o : Oper) (K : St → Prop) (s : St) : Prop := ∃ a x h' p, opV P o.op (ev s) s.h a = some (x, h', p) ∧ p ∧ K ((s.wh h').put o.dst x)
def aop (P : Program) (o : Oper) (K : St → Prop) (s : St) : Prop := aopC P o (ev s) s.h fun x h => K ((s.wh h).put o.dst x)
def aopN0 (P : Program) (o : Oper) (K : St → Prop) (s : St) : Prop := aopV P o K s ∨ aNil P o K s ∨ aop P o K s
end Go.Proofs.YtnedgkfefdldeaaGreatDoor

/-! AbsHeap: Why the small language's reading of memory is right: allocation, loading, storing and appending. -/
namespace Go.Proofs.YtnedgkfefdldeaaGreatDoor
open Go.RowKit
theorem add_off (b o n : Nat) : (⟨b, o, none⟩ : Addr).add n = ⟨b, o + n, none⟩ := by unfold Addr.add; split <;> simp_all
structure Sat (G : Gh) (w : World) (a : Act) (s : St) : Prop where
  size : a.tmps.size = s.n
  tmp : ∀ i, VRel G w (a.tmps.getD i undef) (tget s.t i)
  inv : Inv G w s.h
  df : Marks G w a.defers
theorem CapRel.av {G : Gh} {w : World} {u : Value} {c : Cap} (h : CapRel G.S w u c) : VRel G w u c.av := by
  cases h with
  | d h => exact .d h
  | elt c off b o u h1 h2 => exact .elt [c] 0 off b o u c rfl h1 h2
  | fn f vs cs hl h => exact .hid (.fn f vs cs hl h) rfl
theorem VRel.cellB {G : Gh} {w : World} {u : Value} {x : AV} (h : VRel G w u x) (hb : x.cellB = true) : u.oneCell' = true := by
  cases h with
  | d hp => cases hp with
    | v u => exact hb
    | sl => rfl
  | agg => simp [AV.cellB] at hb
  | tup => simp [AV.cellB] at hb
  | own n xs _ hp => cases hp; rfl
  | vec n o len L k _ hs => obtain ⟨A, l, c, rfl⟩ := hs; rfl
  | vptr n i j L k _ hs => obtain ⟨b, q, rfl⟩ := hs; rfl
  | full xs hp => cases hp; rfl
  | hid h h1 => exact h1
  | dead => simp [AV.cellB] at hb
  | _ => rfl
theorem VRel.cells {G : Gh} {w : World} {u : Value} {x : AV} (h : VRel G w u x) (hb : x.boxB = true) :
    u.cells.size = x.cells.length ∧ ∀ (i : Nat) (v : Value) (c : AV), u.cells[i]? = some v → x.cells[i]? = some c → VRel G w v c ∧ v.oneCell' = true := by
  have one : x.cellB = true → x.cells = [x] → u.cells.size = x.cells.length ∧ ∀ (i : Nat) (v : Value) (c : AV), u.cells[i]? = some v → x.cells[i]? = some c → VRel G w v c ∧ v.oneCell' = true := by
    intro hc hx
    have ho := h.cellB hc
    have hu : u.cells = #[u] := by cases u <;> simp_all [Value.cells, Value.oneCell']
    rw [hu, hx]
    refine ⟨rfl, fun i v c h1 h2 => ?_⟩
    match i with
    | 0 => simp at h1 h2; subst h1; subst h2; exact ⟨h, ho⟩
    | i + 1 => simp at h2
  cases x with
  | agg cs =>
    cases h with
    | agg vs cs hl hr =>
      refine ⟨hl, fun i v c h1 h2 => ?_⟩
      have hv := hr i v c h1 h2
      refine ⟨hv, hv.cellB ?_⟩
      simp only [AV.boxB, List.all_eq_true] at hb
      exact hb c (List.mem_of_getElem? h2)
  | tup cs => simp [AV.boxB, AV.cellB] at hb
  | dead => simp [AV.boxB, AV.cellB] at hb
  | _ => exact one hb rfl
theorem Inv.lt {G : Gh} {w : World} {h : List Blk} (hi : Inv G w h) {n : Nat} {B : Blk} (hb : h[n]? = some B) : n < G.N := by
  rw [← hi.len]; exact (List.getElem?_eq_some_iff.1 hb).1
theorem Inv.ownlt {G : Gh} {w : World} {h : List Blk} (hi : Inv G w h) {n b : Nat} (hb : ownB h G n = some b) : b < w.heap.size := by
  obtain ⟨B, hB, hb⟩ := ownB_some hb
  have hr := hi.blk n B hB
  cases B with
  | gone => cases hb
  | cells cs =>
    obtain ⟨_, _, vs, T, hh, _⟩ := hr
    cases hb
    exact (Array.getElem?_eq_some_iff.1 hh).1
  | lp ls p as bd cs =>
    obtain ⟨_, _, fn, vs, T, hh, _⟩ := hr
    cases hb
    exact (Array.getElem?_eq_some_iff.1 hh).1
  | it sn cs =>
    obtain ⟨_, _, fn, vs, T, hh, _⟩ := hr
    cases hb
    exact (Array.getElem?_eq_some_iff.1 hh).1
  | map kv =>
    obtain ⟨_, _, es, c, hh, _⟩ := hr
    cases hb
    exact (Array.getElem?_eq_some_iff.1 hh).1
  | front e k len =>
    have hb : G.ow n = some b := hb
    obtain ⟨_, _, h1 | ⟨g, cap, cur, h1, _, _, hh, _⟩⟩ := hr
    · rw [h1.1] at hb; cases hb
    · rw [h1] at hb; cases hb; exact (Array.getElem?_eq_some_iff.1 hh).1
  | vec e k cs =>
    have hb : G.ow n = some b := hb
    obtain ⟨_, _, _, h1 | ⟨g, cap, cur, h1, _, _, hh, _⟩⟩ := hr
    · rw [h1.1] at hb; cases hb
    · rw [h1] at hb; cases hb; exact (Array.getElem?_eq_some_iff.1 hh).1
theorem BRel.notZ {G : Gh} {w : World} {n b : Nat} {B : Blk} (hr : BRel G w n B) (hb : B.own1 G n = some b) : ¬ G.Z b := by
  cases B with
  | gone => cases hb
  | cells cs => cases hb; exact hr.1
  | lp ls p as bd cs => cases hb; exact hr.1
  | it sn cs => cases hb; exact hr.1
  | map kv => cases hb; exact hr.1
  | front e k len =>
    have hb : G.ow n = some b := hb
    obtain ⟨_, _, h1 | ⟨g, cap, cur, h1, _, hz, _⟩⟩ := hr
    · rw [h1.1] at hb; cases hb
    · rw [h1] at hb; cases hb; exact hz
  | vec e k cs =>
    have hb : G.ow n = some b := hb
    obtain ⟨_, _, _, h1 | ⟨g, cap, cur, h1, _, hz, _⟩⟩ := hr
    · rw [h1.1] at hb; cases hb
    · rw [h1] at hb; cases hb; exact hz
theorem MapOK.keep {S S' : Nat → Nat → Prop} {w w' : World} {es : Array MapEntry} {c : Nat} {kv : List (ByteArray × D)} (h : MapOK S w es c kv) (hS : ∀ b o, S b o → S' b o) (hc : ∀ b o, S b o → w'.cell? ⟨b, o, none⟩ = w.cell? ⟨b, o, none⟩) : MapOK S' w' es c kv :=
  ⟨h.size, h.stamped, fun e he => let ⟨s, d, h1, h2, h3⟩ := h.ent e he; ⟨s, d, h1, h2, h3.keep hS hc⟩, h.all, h.len, h.born, h.clk⟩
theorem BRel.keep {G G' : Gh} {w w' : World} {n : Nat} (hn : n < G.N) (hE : Ext G.N G w G' w') (hN : G.N ≤ G'.N) {B : Blk}
    (hg : G'.fl n = G.fl n ∧ G'.sg n = G.sg n ∧ G'.ow n = G.ow n)
    (ho : ∀ b, B.own1 G n = some b → w'.heap[b]? = w.heap[b]? ∧ ∀ o, ¬ G.S b o → ¬ G'.S b o)
    (h : BRel G w n B) : BRel G' w' n B := by
  obtain ⟨f1, f2, f3⟩ := hg
  cases B with
  | gone => trivial
  | cells cs =>
    obtain ⟨h1, h2, vs, T, h3, h4, h5⟩ := h
    obtain ⟨c2, c1⟩ := ho _ rfl
    refine ⟨by rw [hE.rho n hn]; exact hE.notZ (Array.getElem?_eq_some_iff.1 h3).1 h1, by rw [hE.rho n hn]; exact fun o => c1 o (h2 o), vs, T, by rw [hE.rho n hn, c2]; exact h3, h4, fun i u c hu hc => (h5 i u c hu hc).keep hE hN⟩
  | lp ls p as bd cs =>
    obtain ⟨h1, h2, fn, vs, T, h3, h4, h5⟩ := h
    obtain ⟨c2, c1⟩ := ho _ rfl
    refine ⟨by rw [hE.rho n hn]; exact hE.notZ (Array.getElem?_eq_some_iff.1 h3).1 h1, by rw [hE.rho n hn]; exact fun o => c1 o (h2 o), fn, vs, T, by rw [hE.rho n hn, c2]; exact h3, h4, fun i u c hu hc => (h5 i u c hu hc).keep hE hN⟩
  | it sn cs =>
    obtain ⟨h1, h2, fn, vs, T, h3, h4, h5⟩ := h
    obtain ⟨c2, c1⟩ := ho _ rfl
    refine ⟨by rw [hE.rho n hn]; exact hE.notZ (Array.getElem?_eq_some_iff.1 h3).1 h1, by rw [hE.rho n hn]; exact fun o => c1 o (h2 o), fn, vs, T, by rw [hE.rho n hn, c2]; exact h3, h4, fun i u c hu hc => (h5 i u c hu hc).keep hE hN⟩
  | map kv =>
    obtain ⟨h1, h2, es, c, h3, h4⟩ := h
    obtain ⟨c2, c1⟩ := ho _ rfl
    exact ⟨by rw [hE.rho n hn]; exact hE.notZ (Array.getElem?_eq_some_iff.1 h3).1 h1, by rw [hE.rho n hn]; exact fun o => c1 o (h2 o), es, c, by rw [hE.rho n hn, c2]; exact h3, h4.keep hE.S hE.cell⟩
  | front e k len =>
    obtain ⟨h1, hm, h2⟩ := h
    refine ⟨f1.trans h1, hm, ?_⟩
    rcases h2 with ⟨h2, A, h3⟩ | ⟨g, cap, cur, h2, h3, h4, h5, h6, h7, h8, h9⟩
    · exact .inl ⟨f3.trans h2, A, f2.trans h3⟩
    · obtain ⟨f5, f6⟩ := ho g h2
      exact .inr ⟨g, cap, cur, f3.trans h2, f2.trans h3, hE.notZ (Array.getElem?_eq_some_iff.1 h5).1 h4, f5.trans h5, h6, h7, h8, fun o ho => f6 o (h9 o ho)⟩
  | vec e k cs =>
    obtain ⟨h1, hm, hk, h2⟩ := h
    refine ⟨f1.trans h1, hm, hk, ?_⟩
    rcases h2 with ⟨h2, e2, A, h3⟩ | ⟨g, cap, cur, h2, h3, h4, h5, h6, h7, h8, h9, h10⟩
    · exact .inl ⟨f3.trans h2, e2, A, f2.trans h3⟩
    · obtain ⟨f5, f6⟩ := ho g h2
      exact .inr ⟨g, cap, cur, f3.trans h2, f2.trans h3, hE.notZ (Array.getElem?_eq_some_iff.1 h5).1 h4, f5.trans h5, h6, h7, h8, fun o => f6 o (h9 o), fun i j c x u hc hx hu => (h10 i j c x u hc hx hu).keep hE hN⟩
theorem Sat.put {G : Gh} {w : World} {a : Act} {s : St} (h : Sat G w a s) {v : Value} {x : AV} (hv : VRel G w v x) (dst : Option Nat) : Sat G w (a.put dst v) (s.put dst x) := by
  cases dst with
  | none => exact h
  | some d =>
    by_cases hd : d < s.n
    · have e1 : s.put (some d) x = { s with t := (d, x) :: s.t } := put_lt hd x
      rw [e1]
      refine ⟨by simp [Act.put, h.size], fun i => ?_, h.inv, h.df⟩
      by_cases hi : i = d
      · subst hi
        have : (a.tmps.setIfInBounds i v).getD i undef = v := by simp [Array.getD, h.size, hd]
        simp only [Act.put, this, tget_cons, if_true]
        exact hv
      · have : (a.tmps.setIfInBounds d v).getD i undef = a.tmps.getD i undef := by simp [Array.getElem?_setIfInBounds_ne (Ne.symm hi)]
        simp only [Act.put, this, tget_cons, if_neg hi]
        exact h.tmp i
    · have e1 : s.put (some d) x = s := put_ge hd x
      have e2 : a.put (some d) v = a := by
        have : a.tmps.setIfInBounds d v = a.tmps := Array.setIfInBounds_eq_of_size_le (by rw [h.size]; omega)
        simp [Act.put, this]
      rw [e1, e2]; exact h
theorem Sat.move {G G' : Gh} {w w' : World} {a : Act} {s : St} (h : Sat G w a s) (hE : Ext G.N G w G' w') (hN : G.N ≤ G'.N) {h' : List Blk} (hi : Inv G' w' h') : Sat G' w' a { s with h := h' } :=
  ⟨h.size, fun i => (h.tmp i).keep hE hN, hi, h.df.keep hE⟩
theorem Sat.ev {G : Gh} {w : World} {a : Act} {s : St} (h : Sat G w a s) (x : Operand) : VRel G w (a.eval x) (ev s x) := by
  cases x with
  | tmp t => exact h.tmp t
  | const v =>
    show VRel G w v (absVal v)
    unfold absVal
    split
    · rename_i vs
      exact .agg vs _ (by simp) fun i u c hu hc => by
        simp only [List.getElem?_map, Array.getElem?_toList, hu, Option.map_some, Option.some.injEq] at hc
        subst hc; exact .d (.v u)
    · rename_i vs
      exact .tup vs _ (by simp) fun i u c hu hc => by
        simp only [List.getElem?_map, Array.getElem?_toList, hu, Option.map_some, Option.some.injEq] at hc
        subst hc; exact .d (.v u)
    · exact .d (.v v)
  | global g =>
    show VRel G w (.pointer (some ⟨g, 0, none⟩)) (match glook gtab g with | some l => .elt [l.map .v] 0 0 | none => .dead)
    split
    · next l hl =>
      have hg := h.inv.gl.1 g l (glook_mem hl)
      have := VRel.elt (G := G) (w := w) [l.map .v] 0 0 g 0 (fun j => l.getD j undef) (l.map .v) rfl (fun j hj => ?_) (fun j d hd => ?_)
      · exact this
      · rw [List.length_map] at hj
        have e : l[j]? = some l[j] := List.getElem?_eq_getElem hj
        rw [Nat.zero_add]
        refine ⟨(hg j _ e).1, ?_⟩
        rw [(hg j _ e).2]; simp [hj]
      · rw [List.getElem?_map] at hd
        cases e : l[j]? with
        | none => rw [e] at hd; cases hd
        | some v =>
          rw [e] at hd
          cases hd
          have : l.getD j undef = v := by simp [List.getD, e]
          rw [this]; exact .v v
    · exact .dead _
  | func f => exact .fn f #[] [] rfl fun i u c hu => by simp at hu
def Gh.addC (G : Gh) (b : Nat) : Gh := { G with N := G.N + 1, rho := fun n => if n = G.N then b else G.rho n }
theorem ext_alloc (G : Gh) (w : World) (hz : ∀ b, G.Z b → b < w.heap.size) (hS : ∀ b o, G.S b o → b < w.heap.size) (o : Obj) : Ext G.N G w (G.addC w.heap.size) (w.alloc o) :=
  ⟨by simp, fun _ _ h => h, fun b _ h => World.cell?_alloc_lt _ _ _ (hS _ _ h), fun n hn => by simp [Gh.addC, Nat.ne_of_lt hn], fun _ _ => .inl ⟨rfl, rfl⟩, zsame rfl,
   fun b hb => Below.heap_alloc w o b (hz b hb), rfl, rfl, rfl, fun _ _ h => .inl h⟩
theorem inv_alloc {G : Gh} {w : World} {h : List Blk} (hi : Inv G w h) (vs : Array Value) (T : TypeId) (cs : List AV) (hl : vs.size = cs.length)
    (hr : ∀ (i : Nat) (u : Value) (c : AV), vs[i]? = some u → cs[i]? = some c → VRel G w u c) :
    Inv (G.addC w.heap.size) (w.alloc (.cells vs T)) (h ++ [.cells cs]) ∧ VRel (G.addC w.heap.size) (w.alloc (.cells vs T)) (.pointer (some ⟨w.heap.size, 0, none⟩)) (.ptr h.length 0) := by
  have hE := ext_alloc G w hi.z hi.S (.cells vs T)
  have hN : G.N ≤ (G.addC w.heap.size).N := Nat.le_succ _
  have hrho : (G.addC w.heap.size).rho h.length = w.heap.size := by simp [Gh.addC, hi.len]
  have hown1 : ∀ n (B : Blk), n < G.N → B.own1 (G.addC w.heap.size) n = B.own1 G n := fun n B hn => by
    cases B <;> simp [Blk.own1, Gh.addC, Nat.ne_of_lt hn]
  have hnew : ∀ n, n < G.N → ownB (h ++ [.cells cs]) (G.addC w.heap.size) n = ownB h G n := fun n hn => by
    have hlt : n < h.length := by rw [hi.len]; exact hn
    unfold ownB
    rw [List.getElem?_append_left hlt, List.getElem?_eq_getElem hlt]
    exact hown1 n _ hn
  have hlast : ownB (h ++ [.cells cs]) (G.addC w.heap.size) h.length = some w.heap.size := by
    rw [ownB_of (B := .cells cs) (by simp)]; exact congrArg some hrho
  refine ⟨⟨by simp [Gh.addC, hi.len], fun b hb => Nat.lt_of_lt_of_le (hi.z b hb) hE.size, fun b o hs => Nat.lt_of_lt_of_le (hi.S b o hs) hE.size, fun n B hB => ?_, fun m n b hm hn => ?_, hi.gl.keep hE⟩, ?_⟩
  · by_cases hn : n < h.length
    · rw [List.getElem?_append_left hn] at hB
      have hn' : n < G.N := hi.len ▸ hn
      exact BRel.keep hn' hE hN ⟨rfl, rfl, rfl⟩ (fun b hb => ⟨Below.heap_alloc w _ _ (hi.ownlt (n := n) ((ownB_of hB).trans hb)), fun o h => h⟩) (hi.blk n B hB)
    · have hn2 : n = h.length := by
        have := (List.getElem?_eq_some_iff.1 hB).1
        simp at this; omega
      subst hn2
      simp at hB
      subst hB
      exact ⟨by rw [hrho]; exact fun hz => Nat.lt_irrefl _ (hi.z _ hz), fun o hs => by rw [hrho] at hs; exact Nat.lt_irrefl _ (hi.S _ _ hs), vs, T, by rw [hrho]; exact World.alloc_heap_new w _, hl, fun i u c hu hc => (hr i u c hu hc).keep hE hN⟩
  · have key : ∀ n b, ownB (h ++ [.cells cs]) (G.addC w.heap.size) n = some b → (n < G.N ∧ ownB h G n = some b) ∨ (n = h.length ∧ b = w.heap.size) := fun n b hn => by
      by_cases hlt : n < G.N
      · exact .inl ⟨hlt, by rw [← hnew n hlt]; exact hn⟩
      · by_cases e : n = h.length
        · subst e; rw [hlast] at hn; cases hn; exact .inr ⟨rfl, rfl⟩
        · rw [ownB_none (List.getElem?_eq_none (by simp; have := hi.len; omega))] at hn
          cases hn
    rcases key m b hm with ⟨_, hm'⟩ | ⟨rfl, rfl⟩ <;> rcases key n _ hn with ⟨_, hn'⟩ | ⟨rfl, hb⟩
    · exact hi.inj m n b hm' hn'
    · have := hi.ownlt hm'; omega
    · have := hi.ownlt hn'; omega
    · rfl
  · have := VRel.ptr (G := G.addC w.heap.size) (w := w.alloc (.cells vs T)) h.length 0 (by simp [Gh.addC, hi.len])
    rwa [hrho] at this
end Go.Proofs.YtnedgkfefdldeaaGreatDoor

/-! AbsStore: Why the small language's reading of memory is right, continued: a store into a numbered block, and an append. -/
namespace Go.Proofs.YtnedgkfefdldeaaGreatDoor
open Go.RowKit
theorem setRow_size (w : World) (g : Nat) (cs : Array Value) : (w.setRow g cs).heap.size = w.heap.size := by simp [World.setRow]
theorem setRow_cell_other (w : World) (g : Nat) (cs : Array Value) (b o : Nat) (h : b ≠ g) : (w.setRow g cs).cell? ⟨b, o, none⟩ = w.cell? ⟨b, o, none⟩ := World.cell?_of_block (setRow_other w g b cs h)
theorem ext_setRow {G : Gh} {w : World} {g : Nat} (cs : Array Value) (hg : ¬ G.Z g) (hS : ∀ b o, G.S b o → (w.setRow g cs).cell? ⟨b, o, none⟩ = w.cell? ⟨b, o, none⟩) : Ext G.N G w G (w.setRow g cs) :=
  ⟨by rw [setRow_size]; exact Nat.le_refl _, fun _ _ h => h, hS, fun _ _ => rfl, fun _ _ => .inl ⟨rfl, rfl⟩, zsame rfl, fun b hb => setRow_other w g b cs (fun e => hg (e ▸ hb)), rfl, rfl, rfl, fun _ _ h => .inl h⟩
theorem splice_length (cs ys : List AV) (off : Nat) (h : off + ys.length ≤ cs.length) : (splice cs off ys).length = cs.length := by
  simp [splice]; omega
theorem splice_rel {R : Value → AV → Prop} (vs us : Array Value) (cs ys : List AV) (off : Nat) (hl : vs.size = cs.length) (hu : us.size = ys.length) (hb : off + ys.length ≤ cs.length)
    (hr : ∀ (i : Nat) (u : Value) (c : AV), vs[i]? = some u → cs[i]? = some c → R u c) (hr' : ∀ (i : Nat) (u : Value) (c : AV), us[i]? = some u → ys[i]? = some c → R u c) :
    ∀ (i : Nat) (u : Value) (c : AV), (vs.toList.take off ++ us.toList ++ vs.toList.drop (off + us.toList.length)).toArray[i]? = some u → (splice cs off ys)[i]? = some c → R u c := by
  intro i u c h1 h2
  have hul : us.toList.length = ys.length := by rw [Array.length_toList, hu]
  rw [hul] at h1
  rw [List.getElem?_toArray] at h1
  unfold splice at h2
  simp only [List.append_assoc] at h1 h2
  have hvl : vs.toList.length = cs.length := by rw [Array.length_toList, hl]
  by_cases h : i < off
  · rw [List.getElem?_append_left (by simp; omega), List.getElem?_take_of_lt h] at h1
    rw [List.getElem?_append_left (by simp; omega), List.getElem?_take_of_lt h] at h2
    exact hr i u c (by rw [← Array.getElem?_toList]; exact h1) h2
  · rw [List.getElem?_append_right (by simp; omega)] at h1 h2
    simp only [List.length_take, hvl] at h1 h2
    rw [Nat.min_eq_left (by omega)] at h1 h2
    by_cases h' : i - off < ys.length
    · rw [List.getElem?_append_left (by rw [hul]; exact h')] at h1
      rw [List.getElem?_append_left h'] at h2
      exact hr' (i - off) u c (by rw [← Array.getElem?_toList]; exact h1) h2
    · rw [List.getElem?_append_right (by rw [hul]; omega), List.getElem?_drop] at h1
      rw [List.getElem?_append_right (by omega), List.getElem?_drop] at h2
      rw [hul] at h1
      rw [show off + ys.length + (i - off - ys.length) = i by omega] at h1 h2
      exact hr i u c (by rw [← Array.getElem?_toList]; exact h1) h2
theorem run_store_blk {P : Program} {G : Gh} {w : World} {h : List Blk} (hi : Inv G w h) {n off : Nat} {cs : List AV} (hn : h[n]? = some (.cells cs)) {t : TypeId} {v : Value} {x : AV}
    (hv : VRel G w v x) (hb : x.boxB = true) (ht : szT P t = some x.cells.length) (ho : off + x.cells.length ≤ cs.length) :
    ∃ w', (storeVar t ⟨G.rho n, off, none⟩ v).run P w = .ok () w' ∧ Ext G.N G w G w' ∧ Inv G w' (h.set n (.cells (splice cs off x.cells))) := by
  obtain ⟨hz, hS, vs, T, hh, hl, hr⟩ := hi.blk n _ hn
  obtain ⟨hc1, hc2⟩ := hv.cells hb
  obtain ⟨i, hi1, hi2⟩ : ∃ i, P.info? t = some i ∧ i.size = x.cells.length := by
    unfold szT at ht
    cases hq : P.info? t with
    | none => rw [hq] at ht; cases ht
    | some i => rw [hq] at ht; exact ⟨i, rfl, by simpa using ht⟩
  have hst := run_storeCells_at P (G.rho n) off T v.cells.toList 0 vs w hh (by rw [Array.length_toList, hc1, hl]; simpa using ho) (fun u hu => by
    obtain ⟨j, hj⟩ := List.mem_iff_getElem?.1 hu
    have hj' : v.cells[j]? = some u := by rw [← Array.getElem?_toList]; exact hj
    have hjl : j < x.cells.length := by rw [← hc1]; exact (Array.getElem?_eq_some_iff.1 hj').1
    exact (hc2 j u _ hj' (List.getElem?_eq_getElem hjl)).2)
  simp only [Nat.add_zero] at hst
  obtain ⟨w', hw'⟩ : ∃ w', w' = w.setRow (G.rho n) (vs.toList.take off ++ v.cells.toList ++ vs.toList.drop (off + v.cells.toList.length)).toArray := ⟨_, rfl⟩
  rw [← hw'] at hst
  have hE : Ext G.N G w G w' := by
    rw [hw']
    exact ext_setRow _ hz fun b o hs => setRow_cell_other w _ _ b o (fun e => hS o (e ▸ hs))
  have hget : ∀ m, m ≠ n → (h.set n (.cells (splice cs off x.cells)))[m]? = h[m]? := fun m hm => by rw [List.getElem?_set_ne (Ne.symm hm)]
  have hgn : (h.set n (.cells (splice cs off x.cells)))[n]? = some (.cells (splice cs off x.cells)) := by
    rw [List.getElem?_set_self (List.getElem?_eq_some_iff.1 hn).1]
  have hown : ∀ m, ownB (h.set n (.cells (splice cs off x.cells))) G m = ownB h G m := fun m => by
    by_cases e : m = n
    · subst e; rw [ownB_of hgn, ownB_of hn]; rfl
    · unfold ownB; rw [hget m e]
  have hon : ownB h G n = some (G.rho n) := ownB_of hn
  refine ⟨w', ?_, hE, ⟨by rw [List.length_set]; exact hi.len, fun b hb => Nat.lt_of_lt_of_le (hi.z b hb) hE.size, fun b o hs => Nat.lt_of_lt_of_le (hi.S b o hs) hE.size, fun m B hB => ?_, fun m m' b h1 h2 => hi.inj m m' b (by rw [← hown]; exact h1) (by rw [← hown]; exact h2), hi.gl.keep hE⟩⟩
  · unfold storeVar
    simp only [sizeOf, typeInfo, Sem.run_bind, hc1]
    simp [hi1, hi2, hst]
  · by_cases e : m = n
    · subst e
      rw [hgn] at hB
      cases hB
      refine ⟨hz, hS, _, T, by rw [hw']; exact setRow_heap w _ vs _ T _ hh, ?_, fun i u c hu hc => ?_⟩
      · rw [splice_length _ _ _ ho]
        have : v.cells.toList.length = x.cells.length := by rw [Array.length_toList]; exact hc1
        simp only [List.size_toArray, List.length_append, List.length_take, List.length_drop, Array.length_toList, hl, hc1]
        omega
      · exact (splice_rel (R := VRel G w) vs v.cells cs x.cells off hl hc1 ho hr (fun i u c h1 h2 => (hc2 i u c h1 h2).1) i u c hu hc).keep hE (Nat.le_refl _)
    · rw [hget m e] at hB
      have hne : ∀ b, ownB h G m = some b → b ≠ G.rho n := fun b hb eb => e (hi.inj m n b hb (by rw [eb]; exact hon))
      refine BRel.keep (hi.lt hB) hE (Nat.le_refl _) ⟨rfl, rfl, rfl⟩ (fun b hb => ⟨?_, fun o h => h⟩) (hi.blk m B hB)
      rw [hw']
      exact setRow_other w _ _ _ (hne _ ((ownB_of hB).trans hb))
theorem PRel.sl_iff {S : Nat → Nat → Prop} {w : World} {v : Value} {xs : List (List D)} (h : PRel S w v (.sl xs)) :
    ∃ (A : Option Addr) (b o c k : Nat) (u : Nat → Nat → Value), v = .slice A xs.length c ∧ (xs ≠ [] → A = some ⟨b, o, none⟩) ∧ xs.length ≤ c ∧ c ≤ maxLen ∧ (∀ x ∈ xs, x.length = k) ∧
      (∀ i j, i < xs.length → j < k → S b (o + i * k + j) ∧ w.cell? ⟨b, o + i * k + j, none⟩ = some (u i j) ∧ (u i j).oneCell' = true) ∧
      (∀ (i j : Nat) (x : List D) (d : D), xs[i]? = some x → x[j]? = some d → PRel S w (u i j) d) := by
  cases h with
  | sl A b o c k xs u hA hc hm hk hS hu => exact ⟨A, b, o, c, k, u, rfl, hA, hc, hm, hk, hS, hu⟩
end Go.Proofs.YtnedgkfefdldeaaGreatDoor

/-! AbsApp: Why the small language's reading of memory is right, continued: an append. -/
namespace Go.Proofs.YtnedgkfefdldeaaGreatDoor
open Go.RowKit
structure Rd (S : Nat → Nat → Prop) (w : World) (k : Nat) (xs : List (List D)) (us : List Value) : Prop where
  len : us.length = xs.length * k
  wid : ∀ x ∈ xs, x.length = k
  one : ∀ u ∈ us, u.oneCell' = true
  rel : ∀ (i j : Nat) (x : List D) (d : D), xs[i]? = some x → x[j]? = some d → ∃ u, us[i * k + j]? = some u ∧ PRel S w u d
theorem Rd.keep {S S' : Nat → Nat → Prop} {w w' : World} {k : Nat} {xs : List (List D)} {us : List Value} (h : Rd S w k xs us) (hS : ∀ b o, S b o → S' b o) (hc : ∀ b o, S b o → w'.cell? ⟨b, o, none⟩ = w.cell? ⟨b, o, none⟩) : Rd S' w' k xs us :=
  ⟨h.len, h.wid, h.one, fun i j x d hx hd => let ⟨u, h1, h2⟩ := h.rel i j x d hx hd; ⟨u, h1, h2.keep hS hc⟩⟩
theorem Rd.append {S : Nat → Nat → Prop} {w : World} {k : Nat} {xs ys : List (List D)} {us vs : List Value} (h : Rd S w k xs us) (h' : Rd S w k ys vs) : Rd S w k (xs ++ ys) (us ++ vs) := by
  refine ⟨by rw [List.length_append, List.length_append, h.len, h'.len, Nat.add_mul], fun x hx => ?_, fun u hu => ?_, fun i j x d hx hd => ?_⟩
  · rcases List.mem_append.1 hx with hx | hx
    · exact h.wid x hx
    · exact h'.wid x hx
  · rcases List.mem_append.1 hu with hu | hu
    · exact h.one u hu
    · exact h'.one u hu
  · by_cases hi : i < xs.length
    · rw [List.getElem?_append_left hi] at hx
      obtain ⟨u, h1, h2⟩ := h.rel i j x d hx hd
      exact ⟨u, by rw [List.getElem?_append_left (List.getElem?_eq_some_iff.1 h1).1]; exact h1, h2⟩
    · rw [List.getElem?_append_right (by omega)] at hx
      obtain ⟨u, h1, h2⟩ := h'.rel (i - xs.length) j x d hx hd
      refine ⟨u, ?_, h2⟩
      have e : i * k + j = xs.length * k + ((i - xs.length) * k + j) := by rw [Nat.sub_mul]; have := Nat.mul_le_mul_right k (Nat.le_of_not_lt hi); omega
      rw [e, List.getElem?_append_right (by rw [h.len]; omega), h.len, Nat.add_sub_cancel_left]; exact h1
theorem Rd.prel {S : Nat → Nat → Prop} {w : World} {k : Nat} {xs : List (List D)} {us : List Value} (h : Rd S w k xs us) (b c : Nat) (hc : xs.length ≤ c) (hm : c ≤ maxLen)
    (hS : ∀ o, o < xs.length * k → S b o) (hcell : ∀ (o : Nat) (u : Value), us[o]? = some u → w.cell? ⟨b, o, none⟩ = some u) : PRel S w (.slice (some ⟨b, 0, none⟩) xs.length c) (.sl xs) := by
  refine .sl _ b 0 c k xs (fun i j => us.getD (i * k + j) undef) (fun _ => rfl) hc hm h.wid (fun i j hi hj => ?_) (fun i j x d hx hd => ?_)
  · have hlt : i * k + j < xs.length * k := by
      have : (i + 1) * k ≤ xs.length * k := Nat.mul_le_mul_right k hi
      rw [Nat.add_mul] at this; omega
    have hg : us[i * k + j]? = some (us[i * k + j]'(by rw [h.len]; exact hlt)) := List.getElem?_eq_getElem (by rw [h.len]; exact hlt)
    rw [Nat.zero_add]
    refine ⟨hS _ hlt, ?_, ?_⟩
    · rw [hcell _ _ hg]; simp [hg]
    · simp only [List.getD_eq_getElem?_getD, hg, Option.getD_some]; exact h.one _ (List.getElem_mem _)
  · obtain ⟨u, h1, h2⟩ := h.rel i j x d hx hd
    simp only [List.getD_eq_getElem?_getD, h1, Option.getD_some]; exact h2
theorem PRel.rd {S : Nat → Nat → Prop} {w : World} {v : Value} {xs : List (List D)} {k : Nat} (h : PRel S w v (.sl xs)) (hk0 : 0 < k) (hk : ∀ x ∈ xs, x.length = k) :
    ∃ us, Rd S w k xs us ∧ ∃ A c, v = .slice A xs.length c ∧ xs.length ≤ c ∧ c ≤ maxLen ∧ (xs ≠ [] → ∃ b o, A = some ⟨b, o, none⟩ ∧ ∀ (j : Nat) (u : Value), us[j]? = some u → S b (o + j) ∧ w.cell? ⟨b, o + j, none⟩ = some u) := by
  obtain ⟨A, b, o, c, k', u, rfl, hA, hc, hm, hk', hS, hu⟩ := h.sl_iff
  by_cases hx : xs = []
  · subst hx
    exact ⟨[], ⟨by simp, (fun _ h => by cases h), (fun _ h => by cases h), fun i j x d hx => by simp at hx⟩, A, c, rfl, hc, hm, fun h => absurd rfl h⟩
  · have ek : k' = k := by
      obtain ⟨x, hx'⟩ := List.exists_mem_of_ne_nil xs hx
      rw [← hk' x hx', hk x hx']
    subst ek
    refine ⟨(List.range (xs.length * k')).map fun t => u (t / k') (t % k'), ⟨by simp, hk, fun v hv => ?_, fun i j x d hx hd => ?_⟩, A, c, rfl, hc, hm, fun hne => ⟨b, o, hA hne, fun j v hv => ?_⟩⟩
    · obtain ⟨t, ht, rfl⟩ := List.mem_map.1 hv
      have ht' := List.mem_range.1 ht
      exact (hS (t / k') (t % k') (Nat.div_lt_of_lt_mul (by rw [Nat.mul_comm]; exact ht')) (Nat.mod_lt _ hk0)).2.2
    · have hj : j < k' := by rw [← hk x (List.mem_of_getElem? hx)]; exact (List.getElem?_eq_some_iff.1 hd).1
      have hi : i < xs.length := (List.getElem?_eq_some_iff.1 hx).1
      refine ⟨u i j, ?_, hu i j x d hx hd⟩
      have hlt : i * k' + j < xs.length * k' := by
        have : (i + 1) * k' ≤ xs.length * k' := Nat.mul_le_mul_right k' hi
        rw [Nat.add_mul] at this; omega
      rw [List.getElem?_map, List.getElem?_range hlt]
      simp only [Option.map_some, Option.some.injEq]
      rw [show (i * k' + j) / k' = i by rw [Nat.add_comm, Nat.add_mul_div_right _ _ hk0, Nat.div_eq_of_lt hj, Nat.zero_add], show (i * k' + j) % k' = j by rw [Nat.add_comm, Nat.add_mul_mod_self_right, Nat.mod_eq_of_lt hj]]
    · rw [List.getElem?_map] at hv
      by_cases hj : j < xs.length * k'
      · rw [List.getElem?_range hj] at hv
        simp only [Option.map_some, Option.some.injEq] at hv
        subst hv
        have := hS (j / k') (j % k') (Nat.div_lt_of_lt_mul (by rw [Nat.mul_comm]; exact hj)) (Nat.mod_lt _ hk0)
        have e : o + j / k' * k' + j % k' = o + j := by have := Nat.div_add_mod j k'; rw [Nat.mul_comm] at this; omega
        rw [e] at this
        exact ⟨this.1, this.2.1⟩
      · rw [List.getElem?_eq_none (by simp; omega)] at hv; cases hv
theorem PRel.src {P : Program} {S : Nat → Nat → Prop} {w : World} {v : Value} {xs : List (List D)} {k : Nat} (h : PRel S w v (.sl xs)) (hk0 : 0 < k) (hk : ∀ x ∈ xs, x.length = k) {tx e' : TypeId} (ht : P.underlying tx = some (.slice e')) :
    ∃ us, Rd S w k xs us ∧ Src P k tx v xs.length us w := by
  obtain ⟨us, hr, A, c, rfl, _, _, hA⟩ := h.rd hk0 hk
  refine ⟨us, hr, ?_⟩
  by_cases hx : xs = []
  · subst hx
    have hus : us = [] := List.eq_nil_of_length_eq_zero (by rw [hr.len]; simp)
    subst hus
    cases A with
    | none => exact Src.ofNil w ht c
    | some a => exact Src.ofSlice w ht a 0 c [] (by simp) (fun j u hu => by simp at hu) (fun u hu => by cases hu)
  · obtain ⟨b, o, rfl, hc⟩ := hA hx
    exact Src.ofSlice w ht _ _ c us hr.len (fun j u hu => by rw [add_off]; exact (hc j u hu).2) hr.one
def Gh.addF (G : Gh) (v : Value) (len : Nat) : Gh :=
  { G with N := G.N + 1, sg := fun n => if n = G.N then v else G.sg n, fl := fun n => if n = G.N then len else G.fl n, ow := fun n => if n = G.N then none else G.ow n }
theorem adopt {G : Gh} {w : World} {h : List Blk} (hi : Inv G w h) {v : Value} {xs : List (List D)} (hv : PRel G.S w v (.sl xs)) (hf : ∃ A, v = .slice A xs.length xs.length) (e : TypeId) (k : Nat) :
    Ext G.N G w (G.addF v xs.length) w ∧ G.N ≤ (G.addF v xs.length).N ∧ Inv (G.addF v xs.length) w (h ++ [.front e k xs.length]) ∧ VRel (G.addF v xs.length) w v (.own h.length xs) := by
  have hne : ∀ n, n < G.N → n ≠ G.N := fun n hn => Nat.ne_of_lt hn
  have hE : Ext G.N G w (G.addF v xs.length) w := ⟨Nat.le_refl _, fun _ _ h => h, fun _ _ _ => rfl, fun _ _ => rfl, fun n hn => .inl ⟨by simp [Gh.addF, hne n hn], by simp [Gh.addF, hne n hn]⟩, zsame rfl, fun _ _ => rfl, rfl, rfl, rfl, fun _ _ h => .inl h⟩
  have hN : G.N ≤ (G.addF v xs.length).N := Nat.le_succ _
  have hml : xs.length ≤ maxLen := by
    obtain ⟨A, b, o, c, k', u, _, _, h1, h2, _⟩ := hv.sl_iff
    exact Nat.le_trans h1 h2
  have hown1 : ∀ n (B : Blk), n < G.N → B.own1 (G.addF v xs.length) n = B.own1 G n := fun n B hn => by
    cases B <;> simp [Blk.own1, Gh.addF, Nat.ne_of_lt hn]
  have hold : ∀ n b, ownB (h ++ [.front e k xs.length]) (G.addF v xs.length) n = some b → ownB h G n = some b := fun n b hb => by
    by_cases hn : n < h.length
    · unfold ownB at hb ⊢
      rw [List.getElem?_append_left hn, List.getElem?_eq_getElem hn] at hb
      rw [List.getElem?_eq_getElem hn]
      rw [← hb]; exact (hown1 n _ (hi.len ▸ hn)).symm
    · by_cases en : n = h.length
      · subst en
        rw [ownB_of (B := .front e k xs.length) (by simp)] at hb
        simp [Blk.own1, Gh.addF, hi.len] at hb
      · rw [ownB_none (List.getElem?_eq_none (by simp; omega))] at hb
        cases hb
  refine ⟨hE, hN, ⟨by simp [Gh.addF, hi.len], hi.z, hi.S, fun n B hB => ?_, fun m n b hm hn => hi.inj m n b (hold m b hm) (hold n b hn), hi.gl.keep hE⟩, ?_⟩
  · by_cases hn : n < h.length
    · rw [List.getElem?_append_left hn] at hB
      have hn' : n < G.N := hi.len ▸ hn
      exact BRel.keep hn' hE hN ⟨by simp [Gh.addF, hne n hn'], by simp [Gh.addF, hne n hn'], by simp [Gh.addF, hne n hn']⟩ (fun b hb => ⟨rfl, fun o h => h⟩) (hi.blk n B hB)
    · have hn2 : n = h.length := by
        have := (List.getElem?_eq_some_iff.1 hB).1
        simp at this; omega
      subst hn2
      simp at hB
      subst hB
      obtain ⟨A, hA⟩ := hf
      exact ⟨by simp [Gh.addF, hi.len], hml, .inl ⟨by simp [Gh.addF, hi.len], A, by simp [Gh.addF, hi.len, hA]⟩⟩
  · exact .own h.length xs (by simp [Gh.addF, hi.len]) hv (by simp [Gh.addF, hi.len]) (fun _ => by simp [Gh.addF, hi.len])
theorem byT_info {P : Program} {e k b : Nat} (hk : szT P e = some k) (hb : byT P e = some b) : ∃ i, P.info? e = some i ∧ i.size = k ∧ i.bytes = b := by
  unfold szT at hk
  unfold byT at hb
  cases hq : P.info? e with
  | none => rw [hq] at hk; cases hk
  | some i => rw [hq] at hk hb; exact ⟨i, rfl, by simpa using hk, by simpa using hb⟩
def Gh.grow (G : Gh) (n : Nat) (S : Nat → Nat → Prop) (v : Value) (len : Nat) (ow : Option Nat) : Gh :=
  { G with S := S, sg := fun m => if m = n then v else G.sg m, fl := fun m => if m = n then len else G.fl m, ow := fun m => if m = n then ow else G.ow m }
theorem inv_grow {G : Gh} {w w' : World} {h : List Blk} (hi : Inv G w h) {n e k len len' : Nat} (hn : h[n]? = some (.front e k len)) (S : Nat → Nat → Prop) (v : Value) (g : Nat)
    (hE : Ext G.N G w (G.grow n S v len' (some g)) w') (hg : g = w.heap.size ∨ G.ow n = some g) (hgw : g < w'.heap.size)
    (hS : ∀ b o, S b o → G.S b o ∨ b = g) (hoth : ∀ b, b < w.heap.size → b ≠ g → w'.heap[b]? = w.heap[b]?)
    (hB : BRel (G.grow n S v len' (some g)) w' n (.front e k len')) : Inv (G.grow n S v len' (some g)) w' (h.set n (.front e k len')) := by
  have hget : ∀ m, m ≠ n → (h.set n (.front e k len'))[m]? = h[m]? := fun m hm => by rw [List.getElem?_set_ne (Ne.symm hm)]
  have hgn : (h.set n (.front e k len'))[n]? = some (.front e k len') := by rw [List.getElem?_set_self (List.getElem?_eq_some_iff.1 hn).1]
  have hown1 : ∀ m (B : Blk), m ≠ n → B.own1 (G.grow n S v len' (some g)) m = B.own1 G m := fun m B hm => by
    cases B <;> simp [Blk.own1, Gh.grow, hm]
  have hown : ∀ m, m ≠ n → ownB (h.set n (.front e k len')) (G.grow n S v len' (some g)) m = ownB h G m := fun m hm => by
    unfold ownB; rw [hget m hm]
    cases h[m]? with
    | none => rfl
    | some B => exact hown1 m B hm
  have hng : ∀ m, m ≠ n → ownB h G m ≠ some g := fun m hm hb => by
    rcases hg with hg | hg
    · have := hi.ownlt hb; omega
    · exact hm (hi.inj m n g hb ((ownB_of hn).trans hg))
  refine ⟨by rw [List.length_set]; exact hi.len, fun b hb => Nat.lt_of_lt_of_le (hi.z b hb) hE.size, fun b o hs => ?_, fun m B hm => ?_, fun m m' b h1 h2 => ?_, hi.gl.keep hE⟩
  · rcases hS b o hs with hs | hs
    · exact Nat.lt_of_lt_of_le (hi.S b o hs) hE.size
    · rw [hs]; exact hgw
  · by_cases em : m = n
    · subst em; rw [hgn] at hm; cases hm; exact hB
    · rw [hget m em] at hm
      refine BRel.keep (hi.lt hm) hE (Nat.le_refl _) ⟨by simp [Gh.grow, em], by simp [Gh.grow, em], by simp [Gh.grow, em]⟩ (fun b hb => ?_) (hi.blk m B hm)
      have hr : ownB h G m = some b := (ownB_of hm).trans hb
      have hne : b ≠ g := fun e' => hng m em (by rw [hr, e'])
      refine ⟨hoth _ (hi.ownlt hr) hne, fun o hns hs => ?_⟩
      rcases hS _ o hs with hs | hs
      · exact hns hs
      · exact hne hs
  · by_cases e1 : m = n <;> by_cases e2 : m' = n
    · rw [e1, e2]
    · subst e1
      rw [hown m' e2] at h2
      have : ownB (h.set m (.front e k len')) (G.grow m S v len' (some g)) m = some g := by rw [ownB_of hgn]; simp [Blk.own1, Gh.grow]
      rw [this] at h1; cases h1
      exact absurd h2 (hng m' e2)
    · subst e2
      rw [hown m e1] at h1
      have : ownB (h.set m' (.front e k len')) (G.grow m' S v len' (some g)) m' = some g := by rw [ownB_of hgn]; simp [Blk.own1, Gh.grow]
      rw [this] at h2; cases h2
      exact absurd h1 (hng m e1)
    · rw [hown m e1] at h1; rw [hown m' e2] at h2; exact hi.inj m m' b h1 h2
set_option maxHeartbeats 1000000 in
theorem run_app {P : Program} {G : Gh} {w : World} {h : List Blk} (hi : Inv G w h) {T tx ty e k by_ : Nat} {i : TypeInfo} {z : Value} (hT : P.underlying T = some (.slice e)) (hinf : P.info? e = some i) (hz : i.zero = some z) (hik : i.size = k) (hib : i.bytes = by_) (hzs : z.cells.size = k)
    (hk0 : 0 < k) {n : Nat} {xs ys : List (List D)} (hn : h[n]? = some (.front e k xs.length)) {u v : Value} (hu : VRel G w u (.own n xs)) (hxk : ∀ x ∈ xs, x.length = k)
    {us : List Value} (hr : Rd G.S w k ys us) (hs : Src P k tx v ys.length us w) (hmax : xs.length + ys.length ≤ maxLen) (hby : (xs.length + ys.length) * by_ ≤ 140737488355328) :
    ∃ r w' G', (Builtin.append_ #[T, tx] ty #[u, v]).run P w = .ok r w' ∧ Ext G.N G w G' w' ∧ G.N ≤ G'.N ∧ Inv G' w' (h.set n (.front e k (xs.length + ys.length))) ∧ VRel G' w' r (.own n (xs ++ ys)) := by
  subst hik
  subst hib
  have hnN := hi.lt hn
  obtain ⟨hfl, hml, hbr⟩ := hi.blk n _ hn
  obtain ⟨hp, huf⟩ : PRel G.S w u (.sl xs) ∧ u = G.sg n := by
    cases hu with
    | own _ _ _ hp hle hf => exact ⟨hp, hf hfl.symm⟩
  obtain ⟨olds, hro, A, c, hue, hlc, hcm, hA⟩ := hp.rd hk0 hxk
  have hsame : h.set n (.front e i.size (xs.length + 0)) = h := by
    rw [Nat.add_zero]
    refine List.ext_getElem? fun m => ?_
    by_cases em : m = n
    · subst em; rw [List.getElem?_set_self (List.getElem?_eq_some_iff.1 hn).1, hn]
    · rw [List.getElem?_set_ne (Ne.symm em)]
  by_cases hy : ys.length = 0
  · have hys : ys = [] := List.eq_nil_of_length_eq_zero hy
    subst hys
    have hus : us = [] := List.eq_nil_of_length_eq_zero (by rw [hr.len]; simp)
    subst hus
    have := run_append_nothing (P := P) w T tx ty e i hT hinf A xs.length c hlc v hs
    refine ⟨u, w, G, by rw [hue]; exact this, Ext.refl _ _ _, Nat.le_refl _, ?_, by rw [List.append_nil]; exact hu⟩
    simp only [List.length_nil]
    rw [hsame]; exact hi
  · have hy0 : 0 < ys.length := Nat.pos_of_ne_zero hy
    have hsmall : xs.length + ys.length ≤ 9223372036854775807 := by simp only [maxLen] at hmax; omega
    have hrr : Rd G.S w i.size (xs ++ ys) (olds ++ us) := hro.append hr
    -- a new row
    have grow : c < xs.length + ys.length → ∃ r w' G', (Builtin.append_ #[T, tx] ty #[u, v]).run P w = .ok r w' ∧ Ext G.N G w G' w' ∧ G.N ≤ G'.N ∧ Inv G' w' (h.set n (.front e i.size (xs.length + ys.length))) ∧ VRel G' w' r (.own n (xs ++ ys)) := by
      intro hg
      have hold : (Builtin.firstCells i.size xs.length (.slice A xs.length c)).run P w.drew = .ok olds.toArray w.drew := by
        by_cases hx : xs = []
        · subst hx
          have : olds = [] := List.eq_nil_of_length_eq_zero (by rw [hro.len]; simp)
          subst this
          cases A with
          | none => exact run_firstCells_none _ _ _ _ _
          | some a => exact run_firstCells_some _ _ _ _ _ _ [] (by simp) (fun j u hu => by simp at hu)
        · obtain ⟨b, o, rfl, hc⟩ := hA hx
          exact run_firstCells_some _ _ _ _ _ _ olds hro.len (fun j u hu => by rw [add_off]; exact (hc j u hu).2)
      have hrun := run_append_grow_src (P := P) w T tx ty e i z hT hinf hz A xs.length c olds hold v ys.length us hs hg (by omega) (growslice_fits hg hby)
      obtain ⟨cap, hcap⟩ : ∃ cap, cap = grownCap w (xs.length + ys.length) c e := ⟨_, rfl⟩
      have hge : xs.length + ys.length ≤ cap := by rw [hcap]; exact grownCap_ge _ _ _ _
      have hle : cap ≤ maxLen := by rw [hcap]; exact grownCap_le_maxLen _ _ _ _ hmax
      rw [← hcap] at hrun
      obtain ⟨cur, hcur⟩ : ∃ cur, cur = (olds ++ us).toArray ++ Builtin.zeroCells z.cells (cap - (xs.length + ys.length)) := ⟨_, rfl⟩
      rw [← hcur] at hrun
      obtain ⟨w', hw'⟩ : ∃ w', w' = w.drew.alloc (.cells cur e) := ⟨_, rfl⟩
      rw [← hw'] at hrun
      have hcs : cur.size = cap * i.size := by
        have := size_zeroCells z.cells (cap - (xs.length + ys.length))
        rw [hcur, Array.size_append, this, List.size_toArray, hrr.len, hzs, List.length_append, ← Nat.add_mul]
        congr 1
        omega
      have hnew : w'.heap[w.heap.size]? = some (.cells cur e (0, 0)) := by rw [hw']; exact World.alloc_heap_new w.drew _
      have holdb : ∀ b, b < w.heap.size → w'.heap[b]? = w.heap[b]? := fun b hb => by rw [hw']; exact Below.heap_alloc w.drew _ b hb
      have hsz : w'.heap.size = w.heap.size + 1 := by rw [hw']; simp
      obtain ⟨S, hS⟩ : ∃ S : Nat → Nat → Prop, S = fun b o => G.S b o ∨ (b = w.heap.size ∧ o < (xs.length + ys.length) * i.size) := ⟨_, rfl⟩
      have hcell : ∀ b o, G.S b o → w'.cell? ⟨b, o, none⟩ = w.cell? ⟨b, o, none⟩ := fun b o hs => World.cell?_of_block (holdb b (hi.S b o hs))
      have hE : Ext G.N G w (G.grow n S (.slice (some ⟨w.heap.size, 0, none⟩) (xs.length + ys.length) cap) (xs.length + ys.length) (some w.heap.size)) w' :=
        ⟨by rw [hsz]; exact Nat.le_succ _, fun b o h => by show S b o; rw [hS]; exact .inl h, hcell, fun _ _ => rfl,
         fun m _ => by
          by_cases em : m = n
          · right; subst em; simp only [Gh.grow, if_true, hfl]; omega
          · left; exact ⟨by simp [Gh.grow, em], by simp [Gh.grow, em]⟩,
         zsame rfl, fun b hb => holdb b (hi.z b hb), by rw [hw']; rfl, by rw [hw']; rfl, by rw [hw']; rfl, fun b o hs => by
          have hs' : S b o := hs
          rw [hS] at hs'
          rcases hs' with h | ⟨rfl, _⟩
          · exact .inl h
          · exact .inr fun hz => Nat.lt_irrefl _ (hi.z _ hz)⟩
      have hP : PRel S w' (.slice (some ⟨w.heap.size, 0, none⟩) (xs ++ ys).length cap) (.sl (xs ++ ys)) := by
        refine (hrr.keep (S' := S) (w' := w') (fun b o h => by rw [hS]; exact .inl h) hcell).prel w.heap.size cap (by rw [List.length_append]; exact hge) hle (fun o ho => by rw [hS]; exact .inr ⟨rfl, by rw [List.length_append] at ho; exact ho⟩) (fun o x ho => ?_)
        rw [cell_of_row w' w.heap.size o cur e (0, 0) hnew, hcur, Array.getElem?_append_left (by simp only [List.size_toArray]; exact (List.getElem?_eq_some_iff.1 ho).1), List.getElem?_toArray]
        exact ho
      rw [List.length_append] at hP
      refine ⟨_, w', _, by rw [hue]; exact hrun, hE, Nat.le_refl _, inv_grow hi hn S _ w.heap.size hE (.inl rfl) (by rw [hsz]; exact Nat.lt_succ_self _) (fun b o hs => ?_) (fun b hb _ => holdb b hb) ?_, ?_⟩
      · rw [hS] at hs; exact hs.imp id And.left
      · refine ⟨by simp [Gh.grow], hmax, .inr ⟨w.heap.size, cap, cur, by simp [Gh.grow], by simp [Gh.grow], fun hz => Nat.lt_irrefl _ (hi.z _ hz), hnew, hge, hle, hcs, fun o ho hs => ?_⟩⟩
        have hs' : S w.heap.size o := hs
        rw [hS] at hs'
        rcases hs' with hs' | ⟨_, hs'⟩
        · have := hi.S _ _ hs'; omega
        · omega
      · exact .own n (xs ++ ys) hnN hP (by simp [Gh.grow]) (fun _ => by simp [Gh.grow])
    rcases hbr with ⟨hb1, A', hb2⟩ | ⟨g, cap, cur, hb1, hb2, hb3, hb4, hb5, hb6, hb7, hb8⟩
    · refine grow ?_
      rw [huf, hb2] at hue
      cases hue
      omega
    · have hue' := hue
      rw [huf, hb2] at hue'
      injection hue' with eA0 _ e1
      have e2 := e1.symm
      subst e2
      subst eA0
      by_cases hroom : xs.length + ys.length ≤ c
      · -- there is room
        have hfit : xs.length * i.size + us.length ≤ cur.size := by rw [hr.len, hb7, ← Nat.add_mul]; exact Nat.mul_le_mul_right _ hroom
        have hcw : ∀ o, w.cell? ⟨g, o, none⟩ = cur[o]? := fun o => cell_of_row w g o cur e (0, 0) hb4
        have hsome : ∀ j, j < us.length → (w.cell? ⟨g, 0 + xs.length * i.size + j, none⟩).isSome = true := fun j hj => by
          rw [hcw, Nat.zero_add, Array.getElem?_eq_getElem (by omega)]; rfl
        have hrun := run_append_room_src (P := P) w T tx ty e i hT hinf g 0 xs.length c v ys.length us hs hroom hsome
          (fun j hj => by unfold World.frozen?; rw [hb4]; simp)
        rw [Nat.zero_add] at hrun hsome
        obtain ⟨w', hw'⟩ : ∃ w', w' = w.setCells g (xs.length * i.size) us := ⟨_, rfl⟩
        rw [← hw'] at hrun
        have hglt : g < w.heap.size := (Array.getElem?_eq_some_iff.1 hb4).1
        have hst := run_storeCells_at P g (xs.length * i.size) e us 0 cur w hb4 (by simpa using hfit) hs.one
        have hst2 := run_storeCells_cells (P := P) g (xs.length * i.size) us 0 w (by simpa using hsome) (fun j hj => by unfold World.frozen?; rw [hb4]; simp) hs.one
        simp only [Nat.add_zero] at hst hst2
        rw [hst] at hst2
        have hww : w' = w.setRow g (cur.toList.take (xs.length * i.size) ++ us ++ cur.toList.drop (xs.length * i.size + us.length)).toArray := by
          rw [hw']
          injection hst2 with _ e2
          exact e2.symm
        obtain ⟨cur', hcur'⟩ : ∃ cur' : Array Value, cur' = (cur.toList.take (xs.length * i.size) ++ us ++ cur.toList.drop (xs.length * i.size + us.length)).toArray := ⟨_, rfl⟩
        rw [← hcur'] at hww
        have hrow : w'.heap[g]? = some (.cells cur' e (0, 0)) := by rw [hww]; exact setRow_heap w g cur cur' e _ hb4
        have hoth : ∀ b, b ≠ g → w'.heap[b]? = w.heap[b]? := fun b hb => by rw [hww]; exact setRow_other w g b cur' hb
        have hsz : w'.heap.size = w.heap.size := by rw [hww]; exact setRow_size w g cur'
        have hc' : ∀ o, cur'[o]? = if o < xs.length * i.size then cur[o]? else if o < xs.length * i.size + us.length then us[o - xs.length * i.size]? else cur[o]? := fun o => by
          rw [hcur', List.getElem?_toArray, List.append_assoc]
          have hl : cur.toList.length = cur.size := Array.length_toList
          by_cases h1 : o < xs.length * i.size
          · rw [if_pos h1, List.getElem?_append_left (by simp; omega), List.getElem?_take_of_lt h1, Array.getElem?_toList]
          · rw [if_neg h1, List.getElem?_append_right (by simp; omega)]
            simp only [List.length_take, hl]
            rw [Nat.min_eq_left (by omega)]
            by_cases h2 : o < xs.length * i.size + us.length
            · rw [if_pos h2, List.getElem?_append_left (by omega)]
            · rw [if_neg h2, List.getElem?_append_right (by omega), List.getElem?_drop, show xs.length * i.size + us.length + (o - xs.length * i.size - us.length) = o by omega, Array.getElem?_toList]
        have hcs' : cur'.size = cur.size := by
          rw [hcur']
          simp only [List.size_toArray, List.length_append, List.length_take, List.length_drop, Array.length_toList]
          omega
        have hcell : ∀ b o, G.S b o → w'.cell? ⟨b, o, none⟩ = w.cell? ⟨b, o, none⟩ := fun b o hs => by
          by_cases eb : b = g
          · subst eb
            have ho : o < xs.length * i.size := Nat.lt_of_not_le fun hle => hb8 o hle hs
            rw [hcw, cell_of_row w' b o cur' e (0, 0) hrow, hc', if_pos ho]
          · exact World.cell?_of_block (hoth b eb)
        obtain ⟨S, hS⟩ : ∃ S : Nat → Nat → Prop, S = fun b o => G.S b o ∨ (b = g ∧ o < (xs.length + ys.length) * i.size) := ⟨_, rfl⟩
        have hE : Ext G.N G w (G.grow n S (.slice (some ⟨g, 0, none⟩) (xs.length + ys.length) c) (xs.length + ys.length) (some g)) w' :=
          ⟨by rw [hsz]; exact Nat.le_refl _, fun b o h => by show S b o; rw [hS]; exact .inl h, hcell, fun _ _ => rfl,
           fun m _ => by
            by_cases em : m = n
            · right; subst em; simp only [Gh.grow, if_true, hfl]; omega
            · left; exact ⟨by simp [Gh.grow, em], by simp [Gh.grow, em]⟩,
           zsame rfl, fun b hb => hoth b (fun e => hb3 (e ▸ hb)), by rw [hww]; rfl, by rw [hww]; rfl, by rw [hww]; rfl, fun b o hs => by
            have hs' : S b o := hs
            rw [hS] at hs'
            rcases hs' with h | ⟨rfl, _⟩
            · exact .inl h
            · exact .inr hb3⟩
        have hP : PRel S w' (.slice (some ⟨g, 0, none⟩) (xs ++ ys).length c) (.sl (xs ++ ys)) := by
          refine (hrr.keep (S' := S) (w' := w') (fun b o h => by rw [hS]; exact .inl h) hcell).prel g c (by rw [List.length_append]; exact hroom) hb6 (fun o ho => by rw [hS]; exact .inr ⟨rfl, by rw [List.length_append] at ho; exact ho⟩) (fun o x ho => ?_)
          rw [cell_of_row w' g o cur' e (0, 0) hrow, hc']
          have hlo : olds.length = xs.length * i.size := hro.len
          by_cases h1 : o < xs.length * i.size
          · rw [if_pos h1]
            rw [List.getElem?_append_left (by omega)] at ho
            have hx : xs ≠ [] := fun e => by subst e; simp at h1
            obtain ⟨b, o', eA, hc⟩ := hA hx
            cases eA
            have := (hc o x ho).2
            rw [Nat.zero_add, hcw] at this
            exact this
          · rw [if_neg h1]
            rw [List.getElem?_append_right (by omega), hlo] at ho
            have := (List.getElem?_eq_some_iff.1 ho).1
            rw [if_pos (by omega)]; exact ho
        rw [List.length_append] at hP
        refine ⟨_, w', _, by rw [hue]; exact hrun, hE, Nat.le_refl _, inv_grow hi hn S _ g hE (.inr hb1) (by rw [hsz]; exact hglt) (fun b o hs => ?_) (fun b _ hb => hoth b hb) ?_, ?_⟩
        · rw [hS] at hs; exact hs.imp id And.left
        · refine ⟨by simp [Gh.grow], hmax, .inr ⟨g, c, cur', by simp [Gh.grow], by simp [Gh.grow], hb3, hrow, hroom, hb6, by rw [hcs', hb7], fun o ho hs => ?_⟩⟩
          have hs' : S g o := hs
          rw [hS] at hs'
          rcases hs' with hs' | ⟨_, hs'⟩
          · exact hb8 o (Nat.le_trans (Nat.mul_le_mul_right _ (Nat.le_add_right _ _)) ho) hs'
          · omega
        · exact .own n (xs ++ ys) hnN hP (by simp [Gh.grow]) (fun _ => by simp [Gh.grow])
      · exact grow (by omega)
end Go.Proofs.YtnedgkfefdldeaaGreatDoor

/-! AbsOp: Why the small language's operations are right: each operation of the model does what its definition in the small language says. -/
namespace Go.Proofs.YtnedgkfefdldeaaGreatDoor
open Go.RowKit
def WF (r : Option Nat) : Fence := { Fence.wide with round := r }
def NxT (N0 : Nat) (G : Gh) (w : World) (K : St → Prop) (a' : Act) (w' : World) : Prop := ∃ G' s', Ext N0 G w G' w' ∧ N0 ≤ G'.N ∧ Sat G' w' a' s' ∧ K s'
section
variable {P : Program} {r : Option Nat} {n N0 : Nat} {G : Gh} {w : World} {a : Act} {s : St} {o : Oper} {K : St → Prop} {Q : Exit → Act → World → Prop}
theorem fin_val (hop : ∀ c, o.op ≠ .defer c) (hs : Sat G w a s) (hN0 : N0 ≤ G.N) {v : Value} {x : AV} {w' : World} {G' : Gh} {h' : List Blk} (hr : (execOp a.eval o).run P w = .ok (.value v) w')
    (hE : Ext G.N G w G' w') (hN : G.N ≤ G'.N) (hi : Inv G' w' h') (hv : VRel G' w' v x) (hK : K ((s.wh h').put o.dst x)) : o.wpIn (WF r) n P a w (NxT N0 G w K) Q := by
  refine ⟨fun _ _ => trivial, ?_⟩
  rw [Oper.semAt_eq _ _ _ hop, hr]
  exact ⟨G', _, hE.less hN0, Nat.le_trans hN0 hN, ((hs.move hE hN hi).put hv o.dst), hK⟩
theorem fin_same (hop : ∀ c, o.op ≠ .defer c) (hs : Sat G w a s) (hN0 : N0 ≤ G.N) {v : Value} {x : AV} (hr : (execOp a.eval o).run P w = .ok (.value v) w) (hv : VRel G w v x) (hK : K (s.put o.dst x)) :
    o.wpIn (WF r) n P a w (NxT N0 G w K) Q :=
  fin_val hop hs hN0 hr (Ext.refl _ _ _) (Nat.le_refl _) hs.inv hv hK
theorem fin_skip (hop : ∀ c, o.op ≠ .defer c) (hs : Sat G w a s) (hN0 : N0 ≤ G.N) {w' : World} {G' : Gh} {h' : List Blk} (hr : (execOp a.eval o).run P w = .ok .skip w')
    (hE : Ext G.N G w G' w') (hN : G.N ≤ G'.N) (hi : Inv G' w' h') (hK : K ((s.wh h').put o.dst (.d (.v undef)))) : o.wpIn (WF r) n P a w (NxT N0 G w K) Q := by
  refine ⟨fun _ _ => trivial, ?_⟩
  rw [Oper.semAt_eq _ _ _ hop, hr]
  exact ⟨G', _, hE.less hN0, Nat.le_trans hN0 hN, ((hs.move hE hN hi).put (.d (.v undef)) o.dst), hK⟩
theorem szT_info {t k : Nat} (h : szT P t = some k) : ∃ i, P.info? t = some i ∧ i.size = k := by
  unfold szT at h
  cases hq : P.info? t with
  | none => rw [hq] at h; cases h
  | some i => rw [hq] at h; exact ⟨i, rfl, by simpa using h⟩
theorem zeroT_info {t : Nat} {z : Value} (h : zeroT P t = some z) : ∃ i, P.info? t = some i ∧ i.zero = some z := by
  unfold zeroT at h
  cases hq : P.info? t with
  | none => rw [hq] at h; cases h
  | some i => rw [hq] at h; exact ⟨i, rfl, by simpa using h⟩
theorem run_zeroT {t : Nat} {z : Value} (h : zeroT P t = some z) (w : World) : (zeroValue t).run P w = .ok z w := by
  obtain ⟨i, h1, h2⟩ := zeroT_info h
  simp [zeroValue, typeInfo, h1, h2]
theorem run_szT {t k : Nat} (h : szT P t = some k) (w : World) : (sizeOf t).run P w = .ok k w := by
  obtain ⟨i, h1, h2⟩ := szT_info h
  simp [sizeOf, typeInfo, h1, h2]
theorem run_aggT {t : Nat} {g : Bool} (h : aggT P t = some g) (w : World) : (isAgg t).run P w = .ok g w := by
  unfold aggT at h
  cases hq : P.underlying t with
  | none => rw [hq] at h; cases h
  | some d =>
    rw [hq] at h
    unfold isAgg
    rw [Sem.run_bind, run_underlying hq w]
    simp only [Option.map_some, Option.some.injEq] at h
    subst h
    cases d <;> rfl
theorem aggT_desc {t : Nat} (h : aggT P t = some true) : ∃ d, P.underlying t = some d ∧ d.isRow = true := by
  unfold aggT at h
  cases hq : P.underlying t with
  | none => rw [hq] at h; cases h
  | some d => rw [hq] at h; refine ⟨d, rfl, ?_⟩; cases d <;> simp_all [TypeDesc.isRow]
theorem load_key {t : Nat} {C : AV → Prop} : ∀ (b o : Nat) (cs : List AV) (off : Nat) (us : Nat → Value), (∀ j, j < cs.length → w.cell? ⟨b, o + j, none⟩ = some (us j)) → (∀ (j : Nat) (c : AV), cs[j]? = some c → VRel G w (us j) c) →
      (match aggT P t, szT P t with
        | some true, some k => chk (leB (off + k) cs.length) (C (.agg ((cs.drop off).take k)))
        | some false, some _ => match cs[off]? with
          | some c => C c
          | none => False
        | _, _ => False) → ∃ u x, (loadVar t ⟨b, o + off, none⟩).run P w = .ok u w ∧ VRel G w u x ∧ C x := by
  intro b o cs off us h1 h2 h3
  split at h3
  · rename_i k hg hk
    obtain ⟨hlen, hC⟩ := chk_iff.1 h3
    rw [leB_iff] at hlen
    obtain ⟨d, hd1, hd2⟩ := aggT_desc hg
    have hlist : ((List.range k).map fun j => us (off + j)).length = k := by simp
    have hrun := run_loadVar_mid (P := P) w b (o + off) t ((List.range k).map fun j => us (off + j)) d (fun j u hu => by
      rw [List.getElem?_map] at hu
      by_cases hj : j < k
      · rw [List.getElem?_range hj] at hu
        simp only [Option.map_some, Option.some.injEq] at hu
        subst hu
        have := h1 (off + j) (by omega)
        rwa [← Nat.add_assoc] at this
      · rw [List.getElem?_eq_none (by simp; omega)] at hu; cases hu) hd1 hd2 (by rw [hlist]; exact hk)
    refine ⟨_, _, hrun, .agg _ _ (by simp; omega) fun i u c hu hc => ?_, hC⟩
    rw [List.getElem?_toArray, List.getElem?_map] at hu
    rw [List.getElem?_take] at hc
    split at hc
    · rename_i hik
      rw [List.getElem?_range hik] at hu
      simp only [Option.map_some, Option.some.injEq] at hu
      subst hu
      rw [List.getElem?_drop] at hc
      exact h2 (off + i) c hc
    · cases hc
  · rename_i k hg hk
    split at h3
    · rename_i c hc
      refine ⟨us off, c, ?_, h2 off c hc, h3⟩
      unfold loadVar
      rw [Sem.run_bind, run_aggT hg w]
      simp only [Result.andThen_ok, Bool.false_eq_true, if_false]
      unfold load
      simp only [Sem.run, h1 off (List.getElem?_eq_some_iff.1 hc).1]
    · exact h3.elim
  · exact h3.elim
theorem run_aLoad {t : Nat} {p : AV} {v : Value} {C : AV → Prop} (hi : Inv G w s.h) (hv : VRel G w v p) (h : aLoad P t s.h p C) : ∃ u x, (Instr.loadAt t v).run P w = .ok u w ∧ VRel G w u x ∧ C x := by
  have key := load_key (P := P) (G := G) (w := w) (t := t) (C := C)
  unfold aLoad atPtr at h
  cases p with
  | ptr m off =>
    simp only at h
    split at h
    · rename_i cs hm
      obtain ⟨_, _, vs, T, hh, hl, hr⟩ := hi.blk m _ hm
      cases hv with
      | ptr _ _ hmN =>
        obtain ⟨u, x, h1, h2, h3⟩ := key (G.rho m) 0 cs off (fun j => vs.getD j undef) (fun j hj => by
          have hj' : j < vs.size := by rw [hl]; exact hj
          rw [Nat.zero_add, cell_of_row w (G.rho m) j vs T (0, 0) hh]; simp [Array.getD, hj']) (fun j c hc => by
          have hj' : j < vs.size := by rw [hl]; exact (List.getElem?_eq_some_iff.1 hc).1
          exact hr j _ c (by simp [Array.getD, hj']) hc) h
        rw [Nat.zero_add] at h1
        exact ⟨u, x, by simp [Instr.loadAt, Instr.sureAddr, h1], h2, h3⟩
    · exact h.elim
  | elt xs i off =>
    simp only at h
    split at h
    · rename_i cs hcs
      cases hv with
      | elt _ _ _ b o us x hx hS hu =>
        rw [hx] at hcs
        cases hcs
        obtain ⟨u, y, h1, h2, h3⟩ := key b o (cs.map .d) off us (fun j hj => (hS j (by simpa using hj)).2) (fun j c hc => by
          rw [List.getElem?_map] at hc
          cases hd : cs[j]? with
          | none => rw [hd] at hc; cases hc
          | some d => rw [hd] at hc; cases hc; exact .d (hu j d hd)) h
        exact ⟨u, y, by simp [Instr.loadAt, Instr.sureAddr, h1], h2, h3⟩
    · exact h.elim
  | _ => exact h.elim
theorem VRel.list {u : Value} {x : AV} {xs : List (List D)} (h : VRel G w u x) (hx : x.list? = some xs) : PRel G.S w u (.sl xs) := by
  unfold AV.list? at hx
  split at hx
  · cases hx; cases h with | d h => exact h
  · cases hx; cases h with | own _ _ _ h => exact h
  · cases hx; cases h with | full _ h => exact h
  · cases hx
    cases h with
    | d h =>
      cases h with
      | v => exact .sl none 0 0 0 0 [] (fun _ _ => undef) (fun h => absurd rfl h) (Nat.le_refl _) (by simp) (fun _ h => by cases h) (fun i j hi => by simp at hi) (fun i j x d hx => by simp at hx)
  · cases hx
theorem VRel.int {u : Value} {x : AV} {z : Int} (h : VRel G w u x) (hx : x.int? = some z) : ∃ k, u = .int k z := by
  unfold AV.int? at hx
  split at hx
  · rename_i k m
    cases hx
    cases h with
    | d h => cases h with | v => exact ⟨k, rfl⟩
  · cases hx
theorem VRel.bool {u : Value} {t : Bool} (h : VRel G w u (.d (.v (.bool t)))) : u = .bool t := by
  cases h with | d h => cases h with | v => rfl
theorem VRel.val {u v : Value} (h : VRel G w u (.d (.v v))) : u = v := by
  cases h with | d h => cases h with | v => rfl
theorem elmT_spec {T e k : Nat} (h : elmT P T = some (e, k)) : P.underlying T = some (.slice e) ∧ szT P e = some k := by
  unfold elmT at h
  split at h
  · rename_i e' he
    cases hq : szT P e' with
    | none => rw [hq] at h; cases h
    | some k' => rw [hq] at h; simp at h; obtain ⟨rfl, rfl⟩ := h; exact ⟨he, hq⟩
  · cases h
theorem arrT_spec {T m e k : Nat} (h : arrT P T = some (m, e, k)) : P.underlying T = some (.array m e) ∧ szT P e = some k := by
  unfold arrT at h
  split at h
  · rename_i m' e' he
    cases hq : szT P e' with
    | none => rw [hq] at h; cases h
    | some k' => rw [hq] at h; simp at h; obtain ⟨rfl, rfl, rfl⟩ := h; exact ⟨he, hq⟩
  · cases h
theorem run_aIndexAddr {T : Nat} {x i : AV} {u v : Value} {C : AV → Prop} (hu : VRel G w u x) (hv : VRel G w v i) (h : aIndexAddr P T x i C) : ∃ p y, (Instr.indexAt T u v).run P w = .ok p w ∧ VRel G w p y ∧ C y := by
  unfold aIndexAddr at h
  split at h
  · rename_i e k hT
    obtain ⟨hT1, hT2⟩ := elmT_spec hT
    split at h
    · rename_i m off len cap k'
      split at h
      · rename_i z hz
        obtain ⟨hkk, h0, hlt, hC⟩ := chk_iff.1 h
        rw [beq_iff_eq] at hkk
        subst hkk
        obtain ⟨kz, rfl⟩ := hv.int hz
        cases hu with
        | row _ _ _ _ _ hm hl hmx =>
          have hN : (z.toNat : Int) = z := Int.toNat_of_nonneg h0
          refine ⟨_, _, ?_, .ptr m (off + z.toNat * k') hm, hC⟩
          simp [Instr.indexAt, asIntOf, run_underlying hT1, h0, hlt, run_szT hT2, add_off]
      · exact h.elim
    · split at h
      · rename_i xs z hxs hz
        obtain ⟨h0, h⟩ := h
        obtain ⟨kz, rfl⟩ := hv.int hz
        split at h
        · rename_i c hc
          obtain ⟨hk, hC⟩ := h
          obtain ⟨A, b, o, cc, k', us, rfl, hA, hlc, hcm, hk', hS, hus⟩ := (hu.list hxs).sl_iff
          have hlt : z.toNat < xs.length := (List.getElem?_eq_some_iff.1 hc).1
          have hne : xs ≠ [] := fun e => by subst e; simp at hlt
          have ek : k' = k := by rw [← hk' c (List.mem_of_getElem? hc), hk]
          subst ek
          rw [hA hne]
          have hz2 : z < (xs.length : Int) := by omega
          refine ⟨_, .elt [c] 0 0, ?_, .elt [c] 0 0 b (o + z.toNat * k') (us z.toNat) c rfl (fun j hj => ?_) (fun j d hd => hus _ _ _ _ hc hd), hC⟩
          · simp [Instr.indexAt, asIntOf, run_underlying hT1, h0, hz2, run_szT hT2, add_off]
          · have := hS z.toNat j hlt (by rw [hk] at hj; exact hj)
            exact ⟨this.1, this.2.1⟩
        · exact h.elim
      · exact h.elim
  · split at h
    · rename_i m e k b off z hT hz
      obtain ⟨h0, hlt, hC⟩ := h
      obtain ⟨hT1, hT2⟩ := arrT_spec hT
      obtain ⟨kz, rfl⟩ := hv.int hz
      cases hu with
      | ptr _ _ hb =>
        refine ⟨_, _, ?_, .ptr b (off + z.toNat * k) hb, hC⟩
        simp [Instr.indexAt, Instr.sureAddr, asIntOf, run_underlying hT1, h0, hlt, run_szT hT2, add_off]
    · rename_i m e k xs i' off z hT hz
      obtain ⟨hk1, h0, hlt, h9⟩ := chk_iff.1 h
      rw [beq_iff_eq] at hk1
      subst hk1
      obtain ⟨hT1, hT2⟩ := arrT_spec hT
      obtain ⟨kz, rfl⟩ := hv.int hz
      split at h9
      · rename_i c hc
        split at h9
        · rename_i d hd
          cases hu with
          | elt _ _ _ b o us c' hc' hS hus =>
            rw [hc] at hc'
            cases hc'
            have hlt2 := (List.getElem?_eq_some_iff.1 hd).1
            refine ⟨_, .elt [[d]] 0 0, ?_, .elt [[d]] 0 0 b (o + (off + z.toNat)) (fun _ => us (off + z.toNat)) [d] rfl (fun j hj => ?_) (fun j d' hd' => ?_), h9⟩
            · simp [Instr.indexAt, Instr.sureAddr, asIntOf, run_underlying hT1, h0, hlt, run_szT hT2, add_off, Nat.add_assoc]
            · simp at hj
              subst hj
              exact hS _ hlt2
            · match j with
              | 0 => simp at hd'; subst hd'; exact hus _ _ hd
              | j + 1 => simp at hd'
        · exact h9.elim
      · exact h9.elim
    · exact h.elim
theorem strT_spec {T : Nat} (h : strT P T = true) : P.underlying T = some .string := by
  unfold strT at h
  split at h
  · assumption
  · cases h
theorem run_aLen {T : Nat} {x : AV} {u : Value} {ty : Nat} {C : Nat → Prop} (hu : VRel G w u x) (h : aLen P T x C) : ∃ m : Nat, (Builtin.len_ #[T] ty #[u]).run P w = .ok (.int .i64 m) w ∧ C m := by
  have hsl : ∀ (A : Option Addr) (l c : Nat), (elmT P T).isSome = true → (Builtin.len_ #[T] ty #[.slice A l c]).run P w = .ok (.int .i64 l) w := by
    intro A l c hT
    obtain ⟨⟨e, k⟩, hT⟩ := Option.isSome_iff_exists.1 hT
    simp [Builtin.len_, run_underlying (elmT_spec hT).1, goInt]
  unfold aLen at h
  split at h
  · rename_i b
    have := hu.val
    subst this
    obtain ⟨hT, hC⟩ := chk_iff.1 h
    exact ⟨b.size, by simp [Builtin.len_, run_underlying (strT_spec hT), goInt], hC⟩
  · cases hu with
    | row => exact ⟨_, hsl _ _ _ (chk_iff.1 h).1, (chk_iff.1 h).2⟩
  · split at h
    · rename_i xs hxs
      obtain ⟨A, b, o, c, k, us, rfl, _⟩ := (hu.list hxs).sl_iff
      exact ⟨_, hsl _ _ _ (chk_iff.1 h).1, (chk_iff.1 h).2⟩
    · exact h.elim
def isInt (a : Act) (x : Option Operand) (d m : Nat) : Prop := match x with | none => m = d | some y => ∃ k z, a.eval y = .int k z ∧ 0 ≤ z ∧ m = z.toNat
theorem run_optInt {x : Option Operand} {d : Nat} {C : Nat → Prop} (hs : Sat G w a s) (h : optInt (ev s) x d C) : ∃ m, C m ∧ isInt a x d m := by
  cases x with
  | none => exact ⟨_, h, rfl⟩
  | some y =>
    unfold optInt at h
    simp only at h
    split at h
    · rename_i z hz
      obtain ⟨k, hk⟩ := (hs.ev y).int hz
      exact ⟨_, h.2, k, z, hk, h.1, rfl⟩
    · exact h.elim
theorem run_bound {k : IntKind} {z : Int} {y : Nat} {code : BoundsCode} (h0 : 0 ≤ z) (h : z.toNat ≤ y) (w : World) : (Instr.sliceBound (.int k z) y code).run P w = .ok z.toNat w := by
  have : z ≤ (y : Int) := by omega
  simp [Instr.sliceBound, asIntOf, h0, this]
theorem run_bounds2 {lo hi : Option Operand} {len cap l h : Nat} {isS : Bool} (hlo : isInt a lo 0 l) (hhi : isInt a hi len h) (hl : l ≤ h) (hh : h ≤ cap) (w : World) :
    (Instr.sliceBounds isS len cap (lo.map a.eval) (hi.map a.eval) none).run P w = .ok (l, h, cap) w := by
  unfold isInt at hlo hhi
  cases lo with
  | none =>
    subst hlo
    cases hi with
    | none => subst hhi; simp [Instr.sliceBounds]
    | some y =>
      obtain ⟨k, z, e, h0, rfl⟩ := hhi
      simp [Instr.sliceBounds, e, run_bound h0 hh]
  | some x =>
    obtain ⟨k', z', e', h0', rfl⟩ := hlo
    cases hi with
    | none => subst hhi; simp [Instr.sliceBounds, e', run_bound h0' hl]
    | some y =>
      obtain ⟨k, z, e, h0, rfl⟩ := hhi
      simp [Instr.sliceBounds, e, e', run_bound h0 hh, run_bound h0' hl]
theorem PRel.part {S : Nat → Nat → Prop} {v : Value} {xs : List (List D)} {k : Nat} (hp : PRel S w v (.sl xs)) (hk : ∀ c ∈ xs, c.length = k) {l h : Nat} (hl : l ≤ h) (hh : h ≤ xs.length) :
    ∃ A c, v = .slice A xs.length c ∧ xs.length ≤ c ∧ PRel S w (.slice (if c = l then A else A.map (·.add (l * k))) (h - l) (c - l)) (.sl ((xs.take h).drop l)) := by
  obtain ⟨A, b, o, c, k', us, rfl, hA, hlc, hcm, hk', hS, hus⟩ := hp.sl_iff
  refine ⟨A, c, rfl, hlc, ?_⟩
  have hlen : ((xs.take h).drop l).length = h - l := by simp; omega
  rw [← hlen]
  by_cases hx : xs = []
  · subst hx
    have e : ((([] : List (List D)).take h).drop l) = [] := by simp
    rw [e]
    exact .sl _ 0 0 (c - l) 0 [] (fun _ _ => undef) (fun h => absurd rfl h) (Nat.zero_le _) (by omega) (fun _ h => by cases h) (fun i j hi => by simp at hi) (fun i j x d hx => by simp at hx)
  · have ek : k' = k := by
      obtain ⟨x, hx'⟩ := List.exists_mem_of_ne_nil xs hx
      rw [← hk' x hx', hk x hx']
    subst ek
    have hget : ∀ i, i < h - l → ((xs.take h).drop l)[i]? = xs[l + i]? := fun i hi => by
      rw [List.getElem?_drop, List.getElem?_take_of_lt (by omega)]
    refine .sl _ b (o + l * k') (c - l) k' _ (fun i j => us (l + i) j) (fun hne => ?_) (by rw [hlen]; omega) (by omega) (fun x hx => hk x (List.mem_of_mem_take (List.mem_of_mem_drop hx))) (fun i j hi hj => ?_) (fun i j x d hx hd => ?_)
    · have hpos : 0 < ((xs.take h).drop l).length := List.length_pos_iff.2 hne
      rw [hlen] at hpos
      rw [if_neg (by omega), hA hx]
      simp [add_off]
    · rw [hlen] at hi
      have := hS (l + i) j (by omega) hj
      rw [Nat.add_mul, ← Nat.add_assoc] at this
      exact this
    · have hi := (List.getElem?_eq_some_iff.1 hx).1
      rw [hlen] at hi
      rw [hget i hi] at hx
      exact hus _ _ _ _ hx hd
theorem run_aSlice {T : Nat} {x : AV} {u : Value} {lo hi mx : Option Operand} {C : AV → Prop} (hs : Sat G w a s) (hu : VRel G w u x) (h : aSlice P T (ev s) x lo hi mx C) :
    ∃ p y, (Instr.sliceAt T u (lo.map a.eval) (hi.map a.eval) (mx.map a.eval)).run P w = .ok p w ∧ VRel G w p y ∧ C y := by
  unfold aSlice at h
  split at h
  · split at h
    · rename_i b
      obtain ⟨hT, h⟩ := chk_iff.1 h
      have hT := strT_spec hT
      have := hu.val
      subst this
      obtain ⟨m, h, hm⟩ := run_optInt hs h
      obtain ⟨hmb, h⟩ := h
      obtain ⟨l, h, hl⟩ := run_optInt hs h
      obtain ⟨hlm, h⟩ := h
      refine ⟨_, _, ?_, .d (.v _), h⟩
      have hb := run_bounds2 (P := P) (isS := false) hl hm hlm hmb w
      simp [Instr.sliceAt, Instr.slice, run_underlying hT, hb]
    · rename_i m off
      split at h
      · rename_i c e k hT
        rw [chk_iff, leB_iff] at h
        obtain ⟨hcm, h⟩ := h
        have hcm : c ≤ maxLen := by unfold maxLen; omega
        obtain ⟨hT1, hT2⟩ := arrT_spec hT
        obtain ⟨hh, h, hm⟩ := run_optInt hs h
        obtain ⟨hmb, h⟩ := chk_iff.1 h
        rw [leB_iff] at hmb
        obtain ⟨l, h, hl⟩ := run_optInt hs h
        obtain ⟨hlm, h⟩ := chk_iff.1 h
        simp only [Bool.and_eq_true, leB_iff, Bool.not_eq_true', ← Bool.not_eq_true, Nat.not_le] at hlm
        obtain ⟨hlm, hlc⟩ := hlm
        have hb := run_bounds2 (P := P) (isS := false) hl hm hlm hmb w
        cases hu with
        | ptr _ _ hmN =>
          refine ⟨_, _, ?_, .row m (off + l * k) (hh - l) (c - l) k hmN (by omega) (by omega), h⟩
          simp [Instr.sliceAt, Instr.sureAddr, run_underlying hT1, hb, run_szT hT2, add_off, Nat.ne_of_gt hlc]
      · exact h.elim
    · split at h
      · rename_i xs e k hxs hT
        obtain ⟨hk, h⟩ := h
        obtain ⟨hT1, hT2⟩ := elmT_spec hT
        obtain ⟨hh, h, hm⟩ := run_optInt hs h
        obtain ⟨hmb, h⟩ := h
        obtain ⟨l, h, hl⟩ := run_optInt hs h
        obtain ⟨hlm, h⟩ := h
        obtain ⟨A, c, rfl, hlc, hp⟩ := (hu.list hxs).part hk hlm hmb
        have hb := run_bounds2 (P := P) (isS := true) hl hm hlm (Nat.le_trans hmb hlc) w
        refine ⟨_, _, ?_, .d hp, h⟩
        simp [Instr.sliceAt, Instr.slice, run_underlying hT1, hb, run_szT hT2]
      · exact h.elim
  · rename_i y
    split at h
    case h_2 => exact h.elim
    rename_i yh
    split at h
    · rename_i xs e k hxs hT
      obtain ⟨hk, h⟩ := h
      obtain ⟨hT1, hT2⟩ := elmT_spec hT
      obtain ⟨c', h3, hc⟩ := run_optInt hs h
      obtain ⟨hcl, h3⟩ := h3
      obtain ⟨hh, h4, hm⟩ := run_optInt hs h3
      obtain ⟨rfl, h5⟩ := h4
      clear h h3
      obtain ⟨k1, z1, e1, p1, q1⟩ := hc
      obtain ⟨k2, z2, e2, p2, q2⟩ := hm
      obtain ⟨A, c, rfl, hlc, hp⟩ := (hu.list hxs).part hk (Nat.zero_le hh) hcl
      have hp' : PRel G.S w (.slice A hh hh) (.sl (xs.take hh)) := by
        have h1 : (if c = 0 then A else A.map (·.add (0 * k))) = A := by
          split
          · rfl
          · cases A <;> simp [Addr.add]
        rw [h1, List.drop_zero] at hp
        obtain ⟨A', b, o, c2, k', us, e, r1, r2, r3, r4, r5, r6⟩ := hp.sl_iff
        have hl : (xs.take hh).length = hh := by simp; omega
        injection e with eA e3 e4
        subst eA
        have := PRel.sl (S := G.S) (w := w) A b o hh k' (xs.take hh) us r1 (by omega) (by omega) r4 r5 r6
        rwa [hl] at this
      refine ⟨.slice A hh hh, .full (xs.take hh), ?_, .full _ hp' ⟨A, by simp; omega⟩, h5⟩
      have b1 : (Instr.sliceBound (.int k1 z1) c .slice3Acap).run P w = .ok hh w := by rw [run_bound p1 (by omega), q1]
      have b2 : (Instr.sliceBound (.int k2 z2) hh .slice3B).run P w = .ok hh w := by rw [run_bound p2 (by omega), ← q2]
      simp only [Option.map_some, Option.map_none, e1, e2]
      have hA : A.map (·.add 0) = A := by cases A <;> simp [Addr.add]
      simp [Instr.sliceAt, Instr.slice, Instr.sliceBounds, run_underlying hT1, b1, b2, run_szT hT2, hA]
    · exact h.elim
theorem allD_spec : ∀ {cs : List AV} {ds : List D}, allD cs = some ds → ds.length = cs.length ∧ ∀ (i : Nat) (c : AV) (d : D), cs[i]? = some c → ds[i]? = some d → c.toD? = some d
  | [], ds, h => by simp [allD] at h; subst h; simp
  | c :: cs, ds, h => by
    unfold allD at h
    split at h
    · rename_i d l hd hl
      cases h
      obtain ⟨h1, h2⟩ := allD_spec hl
      refine ⟨by simp [h1], fun i c' d' hc hd' => ?_⟩
      match i with
      | 0 => simp at hc hd'; subst hc; subst hd'; exact hd
      | i + 1 => exact h2 i c' d' (by simpa using hc) (by simpa using hd')
    · cases h
theorem PRel.nrm1 {S : Nat → Nat → Prop} {w : World} {u : Value} {x : D} (h : PRel S w u x) : PRel S w u x.nrm1 := by
  unfold D.nrm1
  split
  · cases h with
    | v => exact .sl none 0 0 0 0 [] (fun _ _ => undef) (fun h => absurd rfl h) (Nat.le_refl _) (Nat.zero_le _) (fun _ h => absurd h List.not_mem_nil) (fun i j hi => absurd hi (Nat.not_lt_zero _)) (fun i j x d hx => by simp at hx)
  · exact h
theorem VRel.toD {u : Value} {x : AV} {d : D} (h : VRel G w u x) (hx : x.toD? = some d) : PRel G.S w u d := by
  unfold AV.toD? at hx
  split at hx
  · cases hx; cases h with | d h => exact h.nrm1
  · cases hx; cases h with | own _ _ _ h => exact h
  · cases hx; cases h with | full _ h => exact h
  · cases hx
theorem chunks_length (k : Nat) : ∀ (m : Nat) (l : List D), (chunks k m l).length = m
  | 0, _ => rfl
  | m + 1, l => by simp [chunks, chunks_length k m]
theorem chunks_get (k : Nat) : ∀ (m : Nat) (l : List D) (i : Nat), i < m → (chunks k m l)[i]? = some ((l.drop (i * k)).take k)
  | 0, _, _, h => by omega
  | m + 1, l, 0, _ => by simp [chunks]
  | m + 1, l, i + 1, h => by
    have := chunks_get k m (l.drop k) i (by omega)
    rw [chunks, List.getElem?_cons_succ, this, List.drop_drop, Nat.add_mul, Nat.one_mul, Nat.add_comm k]
theorem rd_chunks {k m : Nat} {us : List Value} {ds : List D} (hl : ds.length = m * k) (hu : us.length = m * k) (h1 : ∀ u ∈ us, u.oneCell' = true)
    (hr : ∀ (i : Nat) (u : Value) (d : D), us[i]? = some u → ds[i]? = some d → PRel G.S w u d) : Rd G.S w k (chunks k m ds) us := by
  have hb : ∀ i, i < m → (i + 1) * k ≤ m * k := fun i hi => Nat.mul_le_mul_right k hi
  refine ⟨by rw [chunks_length, hu], fun x hx => ?_, h1, fun i j x d hx hd => ?_⟩
  · obtain ⟨i, hi⟩ := List.mem_iff_getElem?.1 hx
    have him : i < m := by have := (List.getElem?_eq_some_iff.1 hi).1; rwa [chunks_length] at this
    rw [chunks_get k m ds i him] at hi
    cases hi
    have := hb i him
    rw [Nat.add_mul] at this
    simp; omega
  · have him : i < m := by have := (List.getElem?_eq_some_iff.1 hx).1; rwa [chunks_length] at this
    rw [chunks_get k m ds i him] at hx
    cases hx
    rw [List.getElem?_take] at hd
    split at hd
    · rw [List.getElem?_drop] at hd
      have := (List.getElem?_eq_some_iff.1 hd).1
      have hlt : i * k + j < us.length := by omega
      exact ⟨us[i * k + j], List.getElem?_eq_getElem hlt, hr _ _ _ (List.getElem?_eq_getElem hlt) hd⟩
    · cases hd
theorem run_srcL {k U e' : Nat} {y : AV} {v : Value} {C : List (List D) → Prop} (hi : Inv G w s.h) (hv : VRel G w v y) (hk : 0 < k) (hU : P.underlying U = some (.slice e')) (h : srcL s.h k y C) :
    ∃ ys us, Rd G.S w k ys us ∧ Src P k U v ys.length us w ∧ C ys := by
  unfold srcL at h
  split at h
  · rename_i m off len cap k'
    split at h
    · rename_i cs hm
      split at h
      · rename_i ds hds
        obtain ⟨hall, hC⟩ := chk_iff.1 h
        simp only [Bool.and_eq_true, beq_iff_eq, leB_iff] at hall
        obtain ⟨⟨rfl, hlen⟩, hone⟩ := hall
        obtain ⟨h1, h2⟩ := allD_spec hds
        obtain ⟨_, _, vs, T, hh, hl, hr⟩ := hi.blk m _ hm
        cases hv with
        | row _ _ _ _ _ hmN hlc hmx =>
          have hdl : ds.length = len * k' := by rw [h1]; simp; omega
          have hul : ((vs.toList.drop off).take (len * k')).length = len * k' := by simp; omega
          have hrel : ∀ (i : Nat) (u : Value) (c : AV), ((vs.toList.drop off).take (len * k'))[i]? = some u → ((cs.drop off).take (len * k'))[i]? = some c → VRel G w u c := fun i u c hu hc => by
            rw [List.getElem?_take] at hu hc
            split at hu
            · rename_i hik
              rw [if_pos hik] at hc
              rw [List.getElem?_drop] at hu hc
              exact hr _ u c (by rw [← Array.getElem?_toList]; exact hu) hc
            · cases hu
          have hcl : ((cs.drop off).take (len * k')).length = len * k' := by simp; omega
          have hone' : ∀ u ∈ (vs.toList.drop off).take (len * k'), u.oneCell' = true := fun u hu => by
            obtain ⟨i, hi⟩ := List.mem_iff_getElem?.1 hu
            have hil : i < len * k' := by rw [← hul]; exact (List.getElem?_eq_some_iff.1 hi).1
            have hci := List.getElem?_eq_getElem (l := (cs.drop off).take (len * k')) (i := i) (by rw [hcl]; exact hil)
            exact (hrel i u _ hi hci).cellB (List.all_eq_true.1 hone _ (List.mem_of_getElem? hci))
          have hrd := rd_chunks (G := G) (w := w) (k := k') (m := len) hdl hul hone' (fun i u d hu hd => by
            have hil : i < len * k' := by rw [← hul]; exact (List.getElem?_eq_some_iff.1 hu).1
            have hci := List.getElem?_eq_getElem (l := (cs.drop off).take (len * k')) (i := i) (by rw [hcl]; exact hil)
            exact (hrel i u _ hu hci).toD (h2 i _ d hci hd))
          refine ⟨_, _, hrd, ?_, hC⟩
          rw [chunks_length]
          refine Src.ofSlice w hU _ len cap _ hul (fun j u hu => ?_) hone'
          rw [List.getElem?_take] at hu
          split at hu
          · rw [List.getElem?_drop, Array.getElem?_toList] at hu
            rw [add_off, cell_of_row w _ _ vs T (0, 0) hh]; exact hu
          · cases hu
      · exact h.elim
    · exact h.elim
  · split at h
    · rename_i ys hys
      obtain ⟨us, h1, h2⟩ := (hv.list hys).src (P := P) hk h.1 hU
      exact ⟨ys, us, h1, h2, h.2⟩
    · exact h.elim
theorem nil_full : PRel G.S w (.slice none 0 0) (.sl []) :=
  .sl none 0 0 0 0 [] (fun _ _ => undef) (fun h => absurd rfl h) (Nat.le_refl _) (by simp) (fun _ h => by cases h) (fun i j hi => by simp at hi) (fun i j x d hx => by simp at hx)
theorem set_last (h : List Blk) (x y : Blk) : (h ++ [x]).set h.length y = h ++ [y] := by simp
theorem run_aAppend {T U ty e' : Nat} {x y : AV} {u v : Value} {C : AV → List Blk → Prop} (hi : Inv G w s.h) (hu : VRel G w u x) (hv : VRel G w v y) (hU : P.underlying U = some (.slice e')) (h : aAppend P T s.h x y C) :
    ∃ p w' G' q h', (Builtin.append_ #[T, U] ty #[u, v]).run P w = .ok p w' ∧ Ext G.N G w G' w' ∧ G.N ≤ G'.N ∧ Inv G' w' h' ∧ VRel G' w' p q ∧ C q h' := by
  unfold aAppend at h
  split at h
  · rename_i e k hT
    obtain ⟨hT1, hT2⟩ := elmT_spec hT
    split at h
    · rename_i z by_ hz hby
      obtain ⟨hall, h⟩ := chk_iff.1 h
      simp only [Bool.and_eq_true, beq_iff_eq, leB_iff, Array.length_toList] at hall
      obtain ⟨hk, hzs⟩ := hall
      obtain ⟨i, hi1, hi2, hi3⟩ := byT_info hT2 hby
      have hi4 : i.zero = some z := by
        obtain ⟨i', h1, h2⟩ := zeroT_info hz
        rw [hi1] at h1; cases h1; exact h2
      obtain ⟨ys, us, hr, hs, h2⟩ := run_srcL hi hv hk hU h
      clear h
      have fresh : ∀ (xs : List (List D)), PRel G.S w u (.sl xs) → (∃ A, u = .slice A xs.length xs.length) → (∀ c ∈ xs, c.length = k) → xs.length + ys.length ≤ maxLen → (xs.length + ys.length) * by_ ≤ 140737488355328 →
          C (.own s.h.length (xs ++ ys)) (s.h ++ [.front e k (xs.length + ys.length)]) →
          ∃ p w' G' q h', (Builtin.append_ #[T, U] ty #[u, v]).run P w = .ok p w' ∧ Ext G.N G w G' w' ∧ G.N ≤ G'.N ∧ Inv G' w' h' ∧ VRel G' w' p q ∧ C q h' := by
        intro xs hp hf hxk hm hb hC
        obtain ⟨a1, a2, a3, a4⟩ := adopt hi hp hf e k
        obtain ⟨p, w', G', r1, r2, r3, r4, r5⟩ := run_app (P := P) (ty := ty) a3 hT1 hi1 hi4 hi2 hi3 hzs hk (n := s.h.length) (xs := xs) (ys := ys) (by simp) a4 hxk (hr.keep a1.S a1.cell) hs hm hb
        rw [set_last] at r4
        exact ⟨p, w', G', _, _, r1, a1.trans (r2.less a2), Nat.le_trans a2 r3, r4, r5, hC⟩
      split at h2
      · rename_i m xs
        split at h2
        · rename_i e2 k2 len hm
          obtain ⟨hall, rfl, hxk, hmx, hb, hC⟩ := chk_iff.1 h2
          simp only [Bool.and_eq_true, beq_iff_eq] at hall
          obtain ⟨rfl, rfl⟩ := hall
          obtain ⟨p, w', G', r1, r2, r3, r4, r5⟩ := run_app (P := P) (ty := ty) hi hT1 hi1 hi4 hi2 hi3 hzs hk hm hu hxk hr hs hmx hb
          exact ⟨p, w', G', _, _, r1, r2, r3, r4, r5, hC⟩
        · exact h2.elim
      · have := hu.val
        subst this
        obtain ⟨hmx, hb, hC⟩ := h2
        exact fresh [] nil_full ⟨none, rfl⟩ (fun _ h => by cases h) (by simpa using hmx) (by simpa using hb) (by simpa using hC)
      · rename_i xs
        obtain ⟨hxk, hmx, hb, hC⟩ := h2
        cases hu with
        | full _ hp hf => exact fresh xs hp hf hxk hmx hb hC
      · exact h2.elim
    · exact h.elim
  · exact h.elim
end
end Go.Proofs.YtnedgkfefdldeaaGreatDoor

/-! AbsOp2: Why the small language's operations are right, continued: composite literals, arithmetic; and the theorem on one operation. -/
namespace Go.Proofs.YtnedgkfefdldeaaGreatDoor
open Go.RowKit
theorem foldl_put (off : Nat) : ∀ (l : List Value) (k : Nat) (cs : Array Value), ((l.zipIdx k).foldl (fun cs (p : Value × Nat) => cs.setIfInBounds (off + p.2) p.1) cs).size = cs.size ∧
    ∀ i, off + k + l.length ≤ cs.size → ((l.zipIdx k).foldl (fun cs (p : Value × Nat) => cs.setIfInBounds (off + p.2) p.1) cs)[i]? = if off + k ≤ i ∧ i < off + k + l.length then l[i - (off + k)]? else cs[i]?
  | [], k, cs => ⟨rfl, fun i _ => by
      have h : ¬ (off + k ≤ i ∧ i < off + k + ([] : List Value).length) := by simp
      rw [if_neg h]; rfl⟩
  | u :: l, k, cs => by
    obtain ⟨h1, h2⟩ := foldl_put off l (k + 1) (cs.setIfInBounds (off + k) u)
    simp only [List.zipIdx_cons, List.foldl_cons]
    refine ⟨by rw [h1]; simp, fun i hi => ?_⟩
    simp only [List.length_cons] at hi ⊢
    rw [h2 i (by simp; omega)]
    by_cases ha : off + (k + 1) ≤ i ∧ i < off + (k + 1) + l.length
    · rw [if_pos ha, if_pos ⟨by omega, by omega⟩]
      rw [show i - (off + k) = i - (off + (k + 1)) + 1 by omega, List.getElem?_cons_succ]
    · rw [if_neg ha]
      by_cases hb : i = off + k
      · subst hb
        rw [if_pos ⟨Nat.le_refl _, by omega⟩, Nat.sub_self, List.getElem?_cons_zero, Array.getElem?_setIfInBounds_self_of_lt (by omega)]
      · rw [if_neg (by omega), Array.getElem?_setIfInBounds_ne (Ne.symm hb)]
section
variable {P : Program} {G : Gh} {w : World}
structure Row (G : Gh) (w : World) (vs : Array Value) (cs : List AV) : Prop where
  len : vs.size = cs.length
  rel : ∀ (i : Nat) (u : Value) (c : AV), vs[i]? = some u → cs[i]? = some c → VRel G w u c
  one : ∀ (i : Nat) (u : Value), vs[i]? = some u → u.oneCell' = true
theorem row_put {vs us : Array Value} {cs ys : List AV} (h : Row G w vs cs) (h' : Row G w us ys) {off : Nat} (hb : off + ys.length ≤ cs.length) :
    Row G w (us.zipIdx.foldl (fun cs (p : Value × Nat) => cs.setIfInBounds (off + p.2) p.1) vs) (splice cs off ys) := by
  have e : us.zipIdx.foldl (fun cs (p : Value × Nat) => cs.setIfInBounds (off + p.2) p.1) vs = (us.toList.zipIdx 0).foldl (fun cs (p : Value × Nat) => cs.setIfInBounds (off + p.2) p.1) vs := by
    rw [← Array.foldl_toList, Array.toList_zipIdx]
  obtain ⟨h1, h2⟩ := foldl_put off us.toList 0 vs
  rw [← e] at h1 h2
  have hl : us.toList.length = ys.length := by rw [Array.length_toList, h'.len]
  have hle : off + 0 + us.toList.length ≤ vs.size := by rw [hl, h.len]; omega
  have hs : ∀ i, (splice cs off ys)[i]? = if off + 0 ≤ i ∧ i < off + 0 + us.toList.length then ys[i - off]? else cs[i]? := fun i => by
    unfold splice
    rw [List.append_assoc]
    by_cases ha : i < off
    · rw [List.getElem?_append_left (by simp; omega), List.getElem?_take_of_lt ha, if_neg (by omega)]
    · rw [List.getElem?_append_right (by simp; omega)]
      simp only [List.length_take]
      rw [Nat.min_eq_left (by omega)]
      by_cases hb : i - off < ys.length
      · rw [List.getElem?_append_left hb, if_pos (by omega)]
      · rw [List.getElem?_append_right (by omega), List.getElem?_drop, if_neg (by omega), show off + ys.length + (i - off - ys.length) = i by omega]
  refine ⟨by rw [h1, splice_length _ _ _ hb, h.len], fun i u c hu hc => ?_, fun i u hu => ?_⟩
  · rw [h2 i hle] at hu
    rw [hs] at hc
    split at hu
    · rename_i hp
      rw [if_pos hp] at hc
      exact h'.rel _ _ _ (by rw [← Array.getElem?_toList]; exact hu) hc
    · rename_i hp
      rw [if_neg hp] at hc
      exact h.rel _ _ _ hu hc
  · rw [h2 i hle] at hu
    split at hu
    · exact h'.one _ _ (by rw [← Array.getElem?_toList]; exact hu)
    · exact h.one _ _ hu
theorem VRel.toRow {u : Value} {x : AV} (h : VRel G w u x) (hb : x.boxB = true) : Row G w u.cells x.cells := by
  obtain ⟨h1, h2⟩ := h.cells hb
  refine ⟨h1, fun i v c hv hc => (h2 i v c hv hc).1, fun i v hv => ?_⟩
  have hlt : i < x.cells.length := by rw [← h1]; exact (Array.getElem?_eq_some_iff.1 hv).1
  exact (h2 i v _ hv (List.getElem?_eq_getElem hlt)).2
theorem fill_row (place : Nat → Option (Nat × Nat)) (places : List (Nat × Nat)) (hp : ∀ i pl, places[i]? = some pl → place i = some pl) : ∀ (ps : List (Nat × AV)) (qs : List (Nat × Value)) (cs cs' : List AV) (vs : Array Value), Row G w vs cs →
    qs.length = ps.length → (∀ (i : Nat) (p : Nat × AV) (q : Nat × Value), ps[i]? = some p → qs[i]? = some q → q.1 = p.1 ∧ VRel G w q.2 p.2) → (ps.all fun p => p.2.boxB) = true → fillA places cs ps = some cs' →
    ∃ vs', Instr.fill place vs qs = some vs' ∧ Row G w vs' cs'
  | [], [], cs, cs', vs, h, _, _, _, hf => by
    simp only [fillA, Option.some.injEq] at hf
    subst hf
    exact ⟨vs, rfl, h⟩
  | [], _ :: _, _, _, _, _, hl, _, _, _ => by simp at hl
  | _ :: _, [], _, _, _, _, hl, _, _, _ => by simp at hl
  | (j, x) :: ps, (j', u) :: qs, cs, cs', vs, h, hl, hr, hb, hf => by
    obtain ⟨e1, e2⟩ := hr 0 (j, x) (j', u) rfl rfl
    simp only at e1 e2
    subst e1
    simp only [List.all_cons, Bool.and_eq_true] at hb
    unfold fillA at hf
    split at hf
    · rename_i off k hpl
      rw [cond_eq_ite] at hf
      split at hf
      · rename_i hc
        simp only [Bool.and_eq_true, beq_iff_eq, leB_iff] at hc
        have hrow := e2.toRow hb.1
        obtain ⟨vs', h1, h2⟩ := fill_row place places hp ps qs _ cs' _ (row_put h hrow (by rw [hc.1]; exact hc.2)) (by simpa using hl) (fun i p q hp hq => hr (i + 1) p q (by simpa using hp) (by simpa using hq)) hb.2 hf
        refine ⟨vs', ?_, h2⟩
        unfold Instr.fill
        rw [hp _ _ hpl]
        have h3 : ¬ (u.cells.size ≠ k || decide (off + u.cells.size > vs.size)) = true := by
          rw [hrow.len, hc.1, h.len]
          simp
          exact hc.2
        simp only [h3]
        exact h1
      · cases hf
    · cases hf
theorem all_toList {z : Array Value} (h : z.toList.all Value.oneCell' = true) : z.all (·.oneCell') = true := by
  rw [List.all_eq_true] at h
  exact Array.all_eq_true_iff_forall_mem.2 fun u hu => h u (Array.mem_toList_iff.2 hu)
theorem zero_row (z : Value) (h : z.cells.all (·.oneCell') = true) : Row G w z.cells (z.cells.toList.map fun u => .d (.v u)) := by
  refine ⟨by simp, fun i u c hu hc => ?_, fun i u hu => Array.all_eq_true_iff_forall_mem.1 h u (Array.mem_of_getElem? hu)⟩
  rw [List.getElem?_map, Array.getElem?_toList, hu] at hc
  cases hc
  exact .d (.v u)
theorem run_flds : ∀ (fs : List Field) (ps : List (Nat × Nat)) (w : World), fldsT P fs = some ps → (fs.mapM (m := Sem) fun f => do pure (f.offset, ← sizeOf f.type)).run P w = .ok ps w
  | [], ps, w, h => by simp [fldsT] at h; subst h; simp
  | f :: fs, ps, w, h => by
    unfold fldsT at h
    simp only [List.mapM_cons, Option.bind_eq_bind, Option.bind_eq_some_iff, Option.map_eq_some_iff, Option.pure_def, Option.some.injEq] at h
    obtain ⟨p, ⟨k, hk, rfl⟩, qs, hq, rfl⟩ := h
    have ih := run_flds fs qs w hq
    simp only [List.mapM_cons, Sem.run_bind, run_szT hk, Sem.run_pure, Result.andThen_ok, ih]
theorem run_aBuild {T : Nat} {ps : List (Nat × AV)} {qs : Array (Nat × Value)} {C : AV → Prop} (hl : qs.toList.length = ps.length)
    (hr : ∀ (i : Nat) (p : Nat × AV) (q : Nat × Value), ps[i]? = some p → qs.toList[i]? = some q → q.1 = p.1 ∧ VRel G w q.2 p.2) (h : aBuild P T ps C) : ∃ u y, (Instr.build T qs).run P w = .ok u w ∧ VRel G w u y ∧ C y := by
  unfold aBuild at h
  split at h
  · rename_i places z hfp hz
    obtain ⟨fs, hT, hpl⟩ : ∃ fs, P.underlying T = some (.struct fs) ∧ fldsT P fs.toList = some places := by
      unfold fldsP at hfp
      split at hfp
      · exact ⟨_, by assumption, hfp⟩
      · cases hfp
    · split at h
      · rename_i cs hf
        obtain ⟨hall, hC⟩ := chk_iff.1 h
        simp only [Bool.and_eq_true] at hall
        obtain ⟨hb, hone⟩ := hall
        have hone := all_toList hone
        have hfl : (fs.mapM (m := Sem) fun f => do pure (f.offset, ← sizeOf f.type)).run P w = .ok places.toArray w := by
          rw [Array.mapM_eq_mapM_toList]
          have := run_flds fs.toList places w hpl
          have e : (Functor.map List.toArray (fs.toList.mapM (m := Sem) fun f => do pure (f.offset, ← sizeOf f.type)) : Sem _) = (fs.toList.mapM (m := Sem) fun f => do pure (f.offset, ← sizeOf f.type)) >>= fun l => pure l.toArray := rfl
          rw [e, Sem.run_bind, this]
          rfl
        obtain ⟨vs', h1, h2⟩ := fill_row (fun i => places.toArray[i]?) places (fun i pl h => by simpa using h) ps qs.toList _ cs z.cells (zero_row (G := G) (w := w) z hone) hl hr hb hf
        refine ⟨.agg vs', .agg cs, ?_, .agg vs' cs h2.len h2.rel, hC⟩
        unfold Instr.build
        simp only [Sem.run_bind, run_zeroT hz, Result.andThen_ok, run_underlying hT, hfl, h1, Sem.run_pure]
      · exact h.elim
  · exact h.elim
theorem boolT_spec {T : Nat} (h : boolT P T = true) : P.underlying T = some .bool := by
  unfold boolT at h
  split at h
  · assumption
  · cases h
theorem intT_spec {T : Nat} {k : IntKind} (h : intT P T = some k) : P.underlying T = some (.int k) := by
  unfold intT at h
  split at h
  · cases h; assumption
  · cases h
theorem run_part1 {t off : Nat} {vs : Array Value} {u : Value} (ha : aggT P t = some false) (hu : vs[off]? = some u) : (part t vs off).run P w = .ok u w := by
  unfold part
  rw [Sem.run_bind, run_aggT ha w]
  simp [hu]
theorem run_eq1 {t : Nat} {u v : Value} {x y : AV} {b : Bool} (d : Nat) (hu : VRel G w u x) (hv : VRel G w v y) (h : eq1 P t x y = some b) : (Op.equalIn (d + 1) t u v).run P w = .ok b w := by
  unfold eq1 at h
  split at h
  · have e1 := hu.val
    have e2 := hv.val
    subst e1; subst e2
    rename_i k a k' b'
    cases hc : kEq k k' && (intT P t).isSome with
    | false => rw [hc] at h; cases h
    | true =>
      rw [hc] at h; cases h
      rw [Bool.and_eq_true, kEq_iff] at hc
      obtain ⟨rfl, hc⟩ := hc
      obtain ⟨k2, hk⟩ := Option.isSome_iff_exists.1 hc
      exact run_equalIn_int w d t k k2 a b' (intT_spec hk)
  · have e1 := hu.val
    have e2 := hv.val
    subst e1; subst e2
    cases hc : strT P t with
    | false => rw [hc] at h; cases h
    | true => rw [hc] at h; cases h; rw [← bL_eq, ← bL_eq]; exact run_equalIn_string w d t _ _ (strT_spec hc)
  · have e1 := hu.val
    have e2 := hv.val
    subst e1; subst e2
    cases hc : boolT P t with
    | false => rw [hc] at h; cases h
    | true => rw [hc] at h; cases h; exact run_equalIn_bool w d t _ _ (boolT_spec hc)
  · cases h
theorem run_partA {t off k : Nat} {vs : Array Value} (ha : aggT P t = some true) (hk : szT P t = some k) : (part t vs off).run P w = .ok (.agg (vs.extract off (off + k))) w := by
  unfold part
  rw [Sem.run_bind, run_aggT ha w]
  simp [run_szT hk]
theorem rel_extract {us : Array Value} {xs : List AV} {off k : Nat} (hx : us.size = xs.length) (hb : off + k ≤ xs.length) (hu : ∀ (i : Nat) (u : Value) (c : AV), us[i]? = some u → xs[i]? = some c → VRel G w u c) :
    (us.extract off (off + k)).size = ((xs.drop off).take k).length ∧ ∀ (i : Nat) (u : Value) (c : AV), (us.extract off (off + k))[i]? = some u → ((xs.drop off).take k)[i]? = some c → VRel G w u c := by
  refine ⟨by simp; omega, fun i u c h1 h2 => ?_⟩
  rw [List.getElem?_take] at h2
  split at h2
  · next hi =>
    rw [List.getElem?_drop] at h2
    rw [Array.getElem?_extract] at h1
    split at h1
    · exact hu _ _ _ h1 h2
    · cases h1
  · cases h2
theorem run_eqFs {sub : TypeId → List AV → List AV → Option Bool} (d : Nat)
    (hsub : ∀ (T : Nat) (us vs : Array Value) (xs ys : List AV) (b : Bool), us.size = xs.length → vs.size = ys.length → (∀ (i : Nat) (u : Value) (c : AV), us[i]? = some u → xs[i]? = some c → VRel G w u c) → (∀ (i : Nat) (u : Value) (c : AV), vs[i]? = some u → ys[i]? = some c → VRel G w u c) → sub T xs ys = some b → (Op.equalIn (d + 1) T (.agg us) (.agg vs)).run P w = .ok b w)
    {us vs : Array Value} {xs ys : List AV} (hx : us.size = xs.length) (hy : vs.size = ys.length)
    (hu : ∀ (i : Nat) (u : Value) (c : AV), us[i]? = some u → xs[i]? = some c → VRel G w u c) (hv : ∀ (i : Nat) (u : Value) (c : AV), vs[i]? = some u → ys[i]? = some c → VRel G w u c) :
    ∀ (fs : List Field) (b : Bool), eqFs P sub fs xs ys = some b → (Op.eqFields (d + 1) us vs fs).run P w = .ok b w
  | [], b, h => by cases h; simp [Op.eqFields]
  | f :: fs, b, h => by
    unfold eqFs at h
    cases hn : f.name == "_" with
    | true => rw [hn] at h; cases h
    | false =>
      rw [hn] at h
      simp only [cond_false] at h
      have hne : f.name ≠ "_" := by simpa using hn
      split at h
      · next e1 =>
        split at h
        · next x y e2 e3 =>
          split at h
          · next a c e4 e5 =>
            cases h
            have l1 : f.offset < us.size := by rw [hx]; exact (List.getElem?_eq_some_iff.1 e2).1
            have l2 : f.offset < vs.size := by rw [hy]; exact (List.getElem?_eq_some_iff.1 e3).1
            have g1 := Array.getElem?_eq_getElem l1
            have g2 := Array.getElem?_eq_getElem l2
            simp only [Op.eqFields, if_pos hne, Sem.run_bind, run_part1 (w := w) e1 g1, run_part1 (w := w) e1 g2, Result.andThen_ok, run_eq1 d (hu _ _ _ g1 e2) (hv _ _ _ g2 e3) e4]
            cases a with
            | true => simp only [Bool.not_true, Bool.false_eq_true, if_false, Bool.true_and]; exact run_eqFs d hsub hx hy hu hv fs c e5
            | false => simp
          · cases h
        · cases h
      · next e1 =>
        split at h
        · next k e2 =>
          cases hbb : leB (f.offset + k) xs.length && leB (f.offset + k) ys.length with
          | false => rw [hbb] at h; cases h
          | true =>
            rw [hbb] at h
            rw [Bool.and_eq_true, leB_iff, leB_iff] at hbb
            simp only [cond_true] at h
            split at h
            · next a c e4 e5 =>
              cases h
              obtain ⟨p1, p2⟩ := rel_extract hx hbb.1 hu
              obtain ⟨q1, q2⟩ := rel_extract hy hbb.2 hv
              simp only [Op.eqFields, if_pos hne, Sem.run_bind, run_partA (w := w) e1 e2, Result.andThen_ok, hsub _ _ _ _ _ a p1 q1 p2 q2 e4]
              cases a with
              | true => simp only [Bool.not_true, Bool.false_eq_true, if_false, Bool.true_and]; exact run_eqFs d hsub hx hy hu hv fs c e5
              | false => simp
            · cases h
        · cases h
      · cases h
theorem run_eqSub : ∀ (n d : Nat) (T : Nat) (us vs : Array Value) (xs ys : List AV) (b : Bool), us.size = xs.length → vs.size = ys.length → (∀ (i : Nat) (u : Value) (c : AV), us[i]? = some u → xs[i]? = some c → VRel G w u c) → (∀ (i : Nat) (u : Value) (c : AV), vs[i]? = some u → ys[i]? = some c → VRel G w u c) → eqSub P n T xs ys = some b → (Op.equalIn (d + n + 1) T (.agg us) (.agg vs)).run P w = .ok b w
  | 0, _, _, _, _, _, _, _, _, _, _, _, h => by cases h
  | n + 1, d, T, us, vs, xs, ys, b, hx, hy, hu, hv, h => by
    unfold eqSub at h
    split at h
    · next fs hT =>
      cases hc : P.stoodInHeld T with
      | true => rw [hc] at h; cases h
      | false =>
        rw [hc] at h
        have hf : P.fieldsOf T = fs := by unfold Program.fieldsOf; rw [hT]
        rw [show d + (n + 1) + 1 = (d + n + 1) + 1 by omega, run_equalIn_struct w (d + n + 1) T us vs (by rw [hf]; exact hT) hc, hf]
        exact run_eqFs (d + n) (fun T' us' vs' xs' ys' b' => run_eqSub n d T' us' vs' xs' ys' b') hx hy hu hv _ b h
    · cases h
theorem run_eqS {T : Nat} {us vs : Array Value} {xs ys : List AV} {b : Bool} (hx : us.size = xs.length) (hy : vs.size = ys.length)
    (hu : ∀ (i : Nat) (u : Value) (c : AV), us[i]? = some u → xs[i]? = some c → VRel G w u c) (hv : ∀ (i : Nat) (u : Value) (c : AV), vs[i]? = some u → ys[i]? = some c → VRel G w u c) (h : eqS P T xs ys = some b) :
    P.eqGuardType P.depth T = false ∧ (Op.equalIn 10000 T (.agg us) (.agg vs)).run P w = .ok b w := by
  unfold eqS at h
  split at h
  · next fs hT =>
    cases hc : P.stoodInHeld T || P.eqGuardType P.depth T with
    | true => rw [hc] at h; cases h
    | false =>
      rw [hc] at h
      rw [Bool.or_eq_false_iff] at hc
      refine ⟨hc.2, ?_⟩
      have hf : P.fieldsOf T = fs := by unfold Program.fieldsOf; rw [hT]
      rw [run_equalIn_struct w 9999 T us vs (by rw [hf]; exact hT) hc.1, hf]
      exact run_eqFs 9998 (fun T' us' vs' xs' ys' b' => run_eqSub 4 9994 T' us' vs' xs' ys' b') hx hy hu hv _ b h
  · cases h
theorem run_aBin {op : BinOp} {x y : AV} {u v : Value} {T : Nat} {X Y : Operand} {C : AV → Prop} (hu : VRel G w u x) (hv : VRel G w v y) (h : aBin P T op x y C) :
    ∃ r z, (do eqGuard op T X Y u v; binOp op T u v : Sem Value).run P w = .ok r w ∧ VRel G w r z ∧ C z := by
  unfold aBin at h
  split at h
  · rename_i k a k' b
    have e1 := hu.val
    have e2 := hv.val
    subst e1
    subst e2
    have hg : (eqGuard op T X Y (.int k a) (.int k' b)).run P w = .ok () w := by unfold eqGuard; cases op <;> simp
    rw [Sem.run_bind, hg]
    simp only [Result.andThen_ok]
    split at h
    · rename_i z hq
      obtain ⟨hkk, hp, hC⟩ := chk_iff.1 h
      rw [kEq_iff] at hkk
      subst hkk
      refine ⟨z, _, ?_, .d (.v z), hC⟩
      cases op <;> simp [binQ] at hq <;> subst hq <;> simp [binOp, Op.intDiv, hp]
    · split at h
      · rename_i z hq
        refine ⟨z, _, ?_, .d (.v z), h.2⟩
        have hb : ¬ b < 0 := by omega
        cases op <;> simp [shI] at hq <;> subst hq <;> simp [binOp, Op.shift, hb]
      · split at h
        · rename_i z hq
          obtain ⟨hkk, hC⟩ := chk_iff.1 h
          rw [kEq_iff] at hkk
          subst hkk
          refine ⟨z, _, ?_, .d (.v z), hC⟩
          cases op <;> simp [binI] at hq <;> subst hq <;> simp [binOp, Op.intArith, Op.intCmp, Op.intBits]
        · exact h.elim
  · rename_i a b
    have e1 := hu.val
    have e2 := hv.val
    subst e1
    subst e2
    have hg : (eqGuard op T X Y (.string a) (.string b)).run P w = .ok () w := by unfold eqGuard; cases op <;> simp
    rw [Sem.run_bind, hg]
    simp only [Result.andThen_ok]
    split at h
    · rename_i z hq
      refine ⟨z, _, ?_, .d (.v z), h⟩
      cases op <;> simp [binS] at hq <;> subst hq <;> simp [binOp, Op.stringOp, bL_eq]
    · split at h
      · refine ⟨_, _, ?_, .d (.v _), h.2⟩
        have hm : ¬ (((a.size + b.size : Nat) : Int) > IntKind.i64.max) := by
          have := h.1
          unfold maxLen at this
          have e : IntKind.i64.max = 9223372036854775807 := by decide
          rw [e]; omega
        simp only [binOp, Op.stringOp]
        rw [if_neg hm]; rfl
      · exact h.elim
  · rename_i a b
    have e1 := hu.val
    have e2 := hv.val
    subst e1
    subst e2
    have hg : (eqGuard op T X Y (.bool a) (.bool b)).run P w = .ok () w := by unfold eqGuard; cases op <;> simp
    rw [Sem.run_bind, hg]
    simp only [Result.andThen_ok]
    split at h
    · rename_i z hq
      obtain ⟨hT, hC⟩ := chk_iff.1 h
      have hT := boolT_spec hT
      refine ⟨z, _, ?_, .d (.v z), hC⟩
      have hb := run_equalIn_bool (P := P) w 9999 T a b hT
      cases op <;> simp [binB] at hq <;> subst hq <;> simp [binOp, Op.equal, Op.maxDepth, hb]
    · exact h.elim
  · rename_i xs ys
    cases hu with
    | agg us _ hl1 hr1 =>
      cases hv with
      | agg vs _ hl2 hr2 =>
        split at h
        · next b hb =>
          obtain ⟨hg, he⟩ := run_eqS hl1 hl2 hr1 hr2 hb
          rw [Sem.run_bind, run_eqGuard_agg w op T X Y us vs hg]
          simp only [Result.andThen_ok]
          split at h
          · next z hz =>
            refine ⟨z, _, ?_, .d (.v z), h⟩
            cases op <;> simp [eqV] at hz <;> subst hz
            · rw [run_eql_struct, he]; rfl
            · rw [run_neq_struct, he]; rfl
          · exact h.elim
        · exact h.elim
  · exact h.elim
theorem run_aUn {op : UnOp} {x : AV} {u : Value} {C : AV → Prop} (hu : VRel G w u x) (h : aUn op x C) : ∃ r z, (Op.unary op u).run P w = .ok r w ∧ VRel G w r z ∧ C z := by
  unfold aUn at h
  split at h
  · rename_i v
    have e := hu.val
    subst e
    split at h
    · rename_i z hq
      refine ⟨z, _, ?_, .d (.v z), h⟩
      unfold unV at hq
      split at hq
      · cases hq; simp [Op.unary]
      · cases hq; simp [Op.unary, Op.intArith]
      · cases hq; simp [Op.unary, Op.intBits]
      · cases hq
    · exact h.elim
  · exact h.elim
theorem u8T_spec {T : Nat} (h : u8T P T = true) : P.underlying T = some (.int .u8) := by
  unfold u8T at h
  split at h
  · assumption
  · cases h
theorem run_aConv {a b : Nat} {x : AV} {u : Value} {C : AV → Prop} (hu : VRel G w u x) (h : aConv P a b x C) : ∃ r z, (convert a b u).run P w = .ok r w ∧ VRel G w r z ∧ C z := by
  unfold aConv at h
  split at h
  · rename_i k2 m
    have e := hu.val
    subst e
    split at h
    · rename_i k1 k h1 h2
      refine ⟨_, _, ?_, .d (.v _), h⟩
      simp [convert, run_underlying (intT_spec h1), run_underlying (intT_spec h2), Conv.intToInt]
    · exact h.elim
  · rename_i s
    have e := hu.val
    subst e
    obtain ⟨hall, hC⟩ := chk_iff.1 h
    rw [Bool.and_eq_true] at hall
    refine ⟨_, _, ?_, .d (.v _), hC⟩
    simp [convert, run_underlying (strT_spec hall.1), run_underlying (strT_spec hall.2)]
  · split at h
    · rename_i xs e k hxs hT
      obtain ⟨hall, ns, rfl, hC⟩ := chk_iff.1 h
      rw [Bool.and_eq_true] at hall
      refine ⟨_, _, ?_, .d (.v _), hC⟩
      obtain ⟨A, bb, o, cc, k', us, rfl, hA, hlc, hcm, hk', hS, hus⟩ := (hu.list hxs).sl_iff
      rw [run_convert_bytes_string w a b e A _ cc (elmT_spec hT).1 (u8T_spec hall.1) (strT_spec hall.2)]
      simp only [List.length_map] at hA hlc hS ⊢
      cases ns with
      | nil =>
        cases A with
        | none => rfl
        | some ad =>
          have hl := run_loadCells_list (P := P) w ad (([] : List Int).map (Value.int .u8)) (fun j v hj => by simp at hj)
          simp only [List.map_nil, List.length_nil] at hl
          have := run_bytesToString (P := P) w ad 0 cc [] (by simpa using hl)
          exact this
      | cons n0 ns =>
        have hA' := hA (by simp)
        subst hA'
        have hk1 : k' = 1 := (hk' [.v (.int .u8 n0)] (by simp)).symm
        subst hk1
        have hl := run_loadCells_list (P := P) w ⟨bb, o, none⟩ ((n0 :: ns).map (Value.int .u8)) (fun j v hj => by
          have hlt := (List.getElem?_eq_some_iff.1 hj).1
          rw [List.length_map] at hlt
          have h1 := (hS j 0 hlt (by omega)).2.1
          rw [List.getElem?_map, List.getElem?_eq_getElem hlt] at hj
          cases hj
          have h2 := hus j 0 [.v (.int .u8 ((n0 :: ns)[j]))] (.v (.int .u8 ((n0 :: ns)[j]))) (by rw [List.getElem?_map, List.getElem?_eq_getElem hlt]; rfl) rfl
          have h3 : us j 0 = .int .u8 ((n0 :: ns)[j]) := by
            generalize us j 0 = q at h2
            cases h2; rfl
          rw [add_off]
          rw [h3] at h1
          simpa using h1)
        rw [List.length_map] at hl
        rw [run_bytesToString w _ _ cc _ hl]
        have key : ∀ (l : List Int) (r : ByteArray), l.foldl (fun r n => r.push (UInt8.ofNat n.toNat)) r = ⟨r.data ++ (l.map fun n => UInt8.ofNat n.toNat).toArray⟩ := by
          intro l
          induction l with
          | nil => intro r; simp
          | cons x l ih => intro r; rw [List.foldl_cons, ih]; simp [ByteArray.push]
        rw [key]
        have he0 : ByteArray.empty.data = #[] := rfl
        rw [he0]; simp
    · exact h.elim
theorem fldT_spec {T f off k : Nat} {g : Bool} (h : fldT P T f = some (off, k, g)) : ∃ fs fd, P.underlying T = some (.struct fs) ∧ fs[f]? = some fd ∧ szT P fd.type = some k ∧ 0 < k ∧ aggT P fd.type = some g ∧ fd.offset = off := by
  unfold fldT at h
  split at h
  · rename_i fs hT
    split at h
    · rename_i fd hf
      split at h
      · rename_i k' g' h1 h2
        cases h
        exact ⟨fs, fd, hT, hf, h1, Nat.succ_pos _, h2, rfl⟩
      · cases h
    · cases h
  · cases h
theorem run_fieldAddr {T f off k o b : Nat} {g : Bool} (h : fldT P T f = some (off, k, g)) : (Instr.fieldAt T (.pointer (some ⟨b, o, none⟩)) f).run P w = .ok (.pointer (some ⟨b, o + off, none⟩)) w := by
  obtain ⟨fs, fd, h1, h2, h3, h4, h5, rfl⟩ := fldT_spec h
  simp [Instr.fieldAt, run_underlying h1, h2, Instr.sureAddr, fieldPlace, run_szT h3, Nat.ne_of_gt h4, add_off]
theorem run_aField {T f : Nat} {x : AV} {u : Value} {C : AV → Prop} (hu : VRel G w u x) (h : aField P T x f C) : ∃ r z, (Instr.field T u f).run P w = .ok r w ∧ VRel G w r z ∧ C z := by
  unfold aField at h
  split at h
  · rename_i off k cs hT
    obtain ⟨hl, hC⟩ := chk_iff.1 h
    rw [leB_iff] at hl
    obtain ⟨fs, fd, h1, h2, h3, h4, h5, rfl⟩ := fldT_spec hT
    cases hu with
    | agg vs _ hlen hr =>
      refine ⟨.agg (vs.extract fd.offset (fd.offset + k)), _, ?_, .agg _ _ ?_ fun i u c hu hc => ?_, hC⟩
      · simp [Instr.field, run_underlying h1, h2, asAgg, part, run_aggT h5, run_szT h3]
      · simp; omega
      · rw [Array.getElem?_extract] at hu
        rw [List.getElem?_take] at hc
        split at hc
        · rw [List.getElem?_drop] at hc
          split at hu
          · exact hr _ u c hu hc
          · cases hu
        · cases hc
  · rename_i off k cs hT
    obtain ⟨fs, fd, h1, h2, h3, h4, h5, rfl⟩ := fldT_spec hT
    split at h
    · rename_i c hc
      cases hu with
      | agg vs _ hlen hr =>
        have hlt : fd.offset < vs.size := by rw [hlen]; exact (List.getElem?_eq_some_iff.1 hc).1
        refine ⟨vs[fd.offset], c, ?_, hr _ _ c (Array.getElem?_eq_getElem hlt) hc, h⟩
        simp [Instr.field, run_underlying h1, h2, asAgg, part, run_aggT h5, Array.getElem?_eq_getElem hlt]
    · exact h.elim
  · exact h.elim
end
end Go.Proofs.YtnedgkfefdldeaaGreatDoor

/-! AbsOp3: Why the small language's operations are right: the theorem on one operation. -/
namespace Go.Proofs.YtnedgkfefdldeaaGreatDoor
open Go.RowKit
def Gh.addS (G : Gh) (b m : Nat) : Gh := { G with S := fun c o => G.S c o ∨ (c = b ∧ o < m) }
theorem inv_data {G : Gh} {w : World} {h : List Blk} (hi : Inv G w h) (ob : Obj) (m : Nat) : Ext G.N G w (G.addS w.heap.size m) (w.alloc ob) ∧ Inv (G.addS w.heap.size m) (w.alloc ob) h := by
  have hE : Ext G.N G w (G.addS w.heap.size m) (w.alloc ob) :=
    ⟨by simp, fun _ _ h => .inl h, fun b _ h => World.cell?_alloc_lt _ _ _ (hi.S _ _ h), fun _ _ => rfl, fun _ _ => .inl ⟨rfl, rfl⟩, zsame rfl, fun b hb => Below.heap_alloc w ob b (hi.z b hb), rfl, rfl, rfl, fun b o hs => hs.imp id fun ⟨e, _⟩ hz => Nat.lt_irrefl _ (hi.z _ (e ▸ hz))⟩
  refine ⟨hE, hi.len, fun b hb => Nat.lt_of_lt_of_le (hi.z b hb) hE.size, fun b o hs => ?_, fun n B hB => ?_, fun m n b h1 h2 => hi.inj m n b h1 h2, hi.gl.keep hE⟩
  · rcases hs with hs | ⟨rfl, _⟩
    · exact Nat.lt_of_lt_of_le (hi.S b o hs) hE.size
    · simp
  · refine BRel.keep (hi.lt hB) hE (Nat.le_refl _) ⟨rfl, rfl, rfl⟩ (fun b hb => ?_) (hi.blk n B hB)
    have hlt := hi.ownlt (n := n) (b := b) ((ownB_of hB).trans hb)
    refine ⟨Below.heap_alloc w _ _ hlt, fun o hns hs => ?_⟩
    rcases hs with hs | ⟨e, _⟩
    · exact hns hs
    · omega
theorem placesN_get (k : Nat) : ∀ (n o i : Nat) (pl : Nat × Nat), (placesN k o n)[i]? = some pl → pl = (o + i * k, k)
  | 0, _, _, _, h => by simp [placesN] at h
  | n + 1, o, 0, pl, h => by simp [placesN] at h; rw [← h]; simp
  | n + 1, o, i + 1, pl, h => by
    have := placesN_get k n (o + k) i pl (by simpa [placesN] using h)
    rw [this, Nat.add_mul]; simp; omega
theorem repN_length (l : List AV) : ∀ n, (repN n l).length = n * l.length
  | 0 => by simp [repN]
  | n + 1 => by rw [repN, List.length_append, repN_length l n, Nat.add_mul]; omega
theorem repN_get (l : List AV) : ∀ (n i : Nat), i < n * l.length → (repN n l)[i]? = l[i % l.length]?
  | 0, i, h => by omega
  | n + 1, i, h => by
    rw [repN]
    by_cases hi : i < l.length
    · rw [List.getElem?_append_left hi, Nat.mod_eq_of_lt hi]
    · rw [List.getElem?_append_right (by omega), repN_get l n _ (by rw [Nat.add_mul] at h; omega), ← Nat.mod_eq_sub_mod (by omega)]
theorem repN_eq (z : Value) {k : Nat} (hz : z.cells.size = k) (n : Nat) : repN n (z.cells.toList.map fun u => .d (.v u)) = (List.range (n * k)).map fun i => .d (.v (z.cells[i % z.cells.size]!)) := by
  have hl : (z.cells.toList.map fun u => AV.d (.v u)).length = k := by simp [hz]
  refine List.ext_getElem? fun i => ?_
  by_cases hi : i < n * k
  · rw [repN_get _ _ _ (by rw [hl]; exact hi), List.getElem?_map, List.getElem?_map, List.getElem?_range hi, hl, hz, Array.getElem?_toList]
    have hk : 0 < k := Nat.pos_of_ne_zero fun e => by subst e; simp at hi
    have hlt : i % k < z.cells.size := by rw [hz]; exact Nat.mod_lt _ hk
    rw [Array.getElem?_eq_getElem hlt]
    simp only [Option.map_some]
    rw [getElem!_pos z.cells (i % k) hlt]
  · rw [List.getElem?_eq_none (by rw [repN_length, hl]; omega), List.getElem?_eq_none (by simp; omega)]
theorem fillA_length : ∀ {ps : List (Nat × AV)} {places : List (Nat × Nat)} {cs cs' : List AV}, fillA places cs ps = some cs' → cs'.length = cs.length
  | [], _, _, _, h => by simp only [fillA, Option.some.injEq] at h; rw [h]
  | (i, x) :: ps, places, cs, cs', h => by
    unfold fillA at h
    split at h
    · rw [cond_eq_ite] at h
      split at h
      · rename_i hc
        simp only [Bool.and_eq_true, beq_iff_eq, leB_iff] at hc
        rw [fillA_length h, splice_length _ _ _ (by rw [hc.1]; exact hc.2)]
      · cases h
    · cases h
section
variable {P : Program} {r : Option Nat} {n N0 : Nat} {G : Gh} {w : World} {a : Act} {s : St} {o : Oper} {K : St → Prop} {Q : Exit → Act → World → Prop}
theorem run_aBuildSlice {T len : Nat} {h : List Blk} {ps : List (Nat × AV)} {qs : Array (Nat × Value)} {C : AV → Prop} (hi : Inv G w h) (hl : qs.toList.length = ps.length)
    (hr : ∀ (i : Nat) (p : Nat × AV) (q : Nat × Value), ps[i]? = some p → qs.toList[i]? = some q → q.1 = p.1 ∧ VRel G w q.2 p.2) (hC : aBuildSlice P T len ps C) :
    ∃ u w' G' y, (Instr.buildSlice T len qs).run P w = .ok u w' ∧ Ext G.N G w G' w' ∧ G.N ≤ G'.N ∧ Inv G' w' h ∧ VRel G' w' u y ∧ C y := by
  unfold aBuildSlice at hC
  split at hC
  · rename_i e k hT
    obtain ⟨hT1, hT2⟩ := elmT_spec hT
    split at hC
    · rename_i z hz
      split at hC
      · rename_i cs hf
        split at hC
        · rename_i ds hds
          obtain ⟨hall, hC⟩ := chk_iff.1 hC
          simp only [Bool.and_eq_true, beq_iff_eq, leB_iff, Array.length_toList] at hall
          obtain ⟨⟨⟨⟨hk, hsm⟩, hzs⟩, hone⟩, hb⟩ := hall
          have hone := all_toList hone
          rw [repN_eq z hzs] at hf
          have hpl := placesN_get k
          obtain ⟨z0, hz0⟩ : ∃ z0 : Array Value, z0 = if len * k = 0 then #[] else z.cells := ⟨_, rfl⟩
          obtain ⟨zr, hzr⟩ : ∃ zr : Array Value, zr = (Array.range (len * k)).map (z0[· % z0.size]!) := ⟨_, rfl⟩
          have hrow : Row G w zr ((List.range (len * k)).map fun i => .d (.v (z.cells[i % z.cells.size]!))) := by
            have hel : ∀ i, i < len * k → z0[i % z0.size]! = z.cells[i % z.cells.size]! := fun i hi => by rw [hz0, if_neg (by omega)]
            refine ⟨by rw [hzr]; simp, fun i u c hu hc => ?_, fun i u hu => ?_⟩
            · rw [hzr, Array.getElem?_map] at hu
              rw [List.getElem?_map] at hc
              by_cases hi : i < len * k
              · rw [List.getElem?_range hi] at hc
                rw [Array.getElem?_range, if_pos hi] at hu
                simp only [Option.map_some, Option.some.injEq] at hu hc
                subst hu; subst hc
                rw [hel i hi]; exact .d (.v _)
              · rw [List.getElem?_eq_none (by simp; omega)] at hc; cases hc
            · rw [hzr, Array.getElem?_map] at hu
              by_cases hi : i < len * k
              · rw [Array.getElem?_range, if_pos hi] at hu
                simp only [Option.map_some, Option.some.injEq] at hu
                subst hu
                rw [hel i hi]
                have hlt : i % z.cells.size < z.cells.size := Nat.mod_lt _ (by omega)
                rw [getElem!_pos z.cells _ hlt]
                exact Array.all_eq_true_iff_forall_mem.1 hone _ (Array.getElem_mem _)
              · rw [Array.getElem?_eq_none (by simp; omega)] at hu; cases hu
          obtain ⟨vs', h1, h2⟩ := fill_row (fun i => some (i * k, k)) (placesN k 0 len) (fun i pl h => by
            have := hpl len 0 i pl h
            rw [this]; simp) ps qs.toList _ cs zr hrow hl hr hb hf
          obtain ⟨d1, d2⟩ := allD_spec hds
          have hcl : cs.length = len * k := by
            have := fillA_length hf
            rw [this]; simp
          have hvl : vs'.size = len * k := by rw [h2.len, hcl]
          obtain ⟨i1, i2⟩ := inv_data hi (.cells vs' e) (len * k)
          have hrd : Rd G.S w k (chunks k len ds) vs'.toList := rd_chunks (by rw [d1, hcl]) (by rw [Array.length_toList, hvl]) (fun u hu => by
            obtain ⟨j, hj⟩ := List.mem_iff_getElem?.1 hu
            exact h2.one j u (by rw [← Array.getElem?_toList]; exact hj)) (fun i u d hu hd => by
            have hlt : i < cs.length := by rw [← d1]; exact (List.getElem?_eq_some_iff.1 hd).1
            exact (h2.rel i u _ (by rw [← Array.getElem?_toList]; exact hu) (List.getElem?_eq_getElem hlt)).toD (d2 i _ d (List.getElem?_eq_getElem hlt) hd))
          have hp : PRel (G.addS w.heap.size (len * k)).S (w.alloc (.cells vs' e)) (.slice (some ⟨w.heap.size, 0, none⟩) len len) (.sl (chunks k len ds)) := by
            have := (hrd.keep i1.S i1.cell).prel w.heap.size len (by rw [chunks_length]; exact Nat.le_refl _) (by have := Nat.le_mul_of_pos_right len hk; simp only [maxLen]; omega) (fun o ho => .inr ⟨rfl, by rw [chunks_length] at ho; exact ho⟩) (fun o u hu => by
              rw [World.cell?_alloc_new]
              rw [← Array.getElem?_toList]; exact hu)
            rwa [chunks_length] at this
          refine ⟨_, _, _, _, ?_, i1, Nat.le_refl _, i2, .full _ hp ⟨some ⟨w.heap.size, 0, none⟩, by rw [chunks_length]⟩, hC⟩
          have hns : ¬ (len * k > 2 ^ 24) := by omega
          unfold Instr.buildSlice
          simp only [Sem.run_bind, run_underlying hT1, Result.andThen_ok, run_szT hT2, hns, if_false]
          by_cases h0 : len * k = 0
          · rw [if_pos h0] at hz0
            subst hz0
            subst hzr
            simp [h0] at h1
            simp [h0, h1, newRow]
          · rw [if_neg h0] at hz0
            subst hz0
            subst hzr
            simp [h0, run_zeroT hz, h1, newRow]
        · exact hC.elim
      · exact hC.elim
    · exact hC.elim
  · exact hC.elim
end
end Go.Proofs.YtnedgkfefdldeaaGreatDoor

/-! AbsMap: Why the small language's operations on maps are right. -/
namespace Go.Proofs.YtnedgkfefdldeaaGreatDoor
open Go.RowKit
section
variable {P : Program} {G : Gh} {w : World} {h : List Blk}
theorem mget_cons (k s : ByteArray) (d : D) (l : List (ByteArray × D)) : mget ((k, d) :: l) s = if k = s then some d else mget l s := by
  have e1 : mget ((k, d) :: l) s = bif bL k == bL s then some d else mget l s := rfl
  rw [e1]
  by_cases e : k = s
  · subst e; rw [if_pos rfl]; simp
  · rw [if_neg e]
    have : (bL k == bL s) = false := by rw [beq_eq_false_iff_ne]; exact fun he => e (bL_inj he)
    rw [this]; rfl
theorem mapT_spec {T k e : TypeId} (h : mapT P T = some (k, e)) : P.underlying T = some (.map k e) := by
  unfold mapT at h
  split at h
  · next k' e' hT => cases h; exact hT
  · cases h
theorem inv_map_alloc (hi : Inv G w h) : Ext G.N G w (G.addC w.heap.size) (w.alloc (.map #[] 0)) ∧ Inv (G.addC w.heap.size) (w.alloc (.map #[] 0)) (h ++ [.map []]) ∧ VRel (G.addC w.heap.size) (w.alloc (.map #[] 0)) (.map (some w.heap.size)) (.mp h.length) := by
  have hE := ext_alloc G w hi.z hi.S (.map #[] 0)
  have hN : G.N ≤ (G.addC w.heap.size).N := Nat.le_succ _
  have hrho : (G.addC w.heap.size).rho h.length = w.heap.size := by simp [Gh.addC, hi.len]
  have hown1 : ∀ n (B : Blk), n < G.N → B.own1 (G.addC w.heap.size) n = B.own1 G n := fun n B hn => by
    cases B <;> simp [Blk.own1, Gh.addC, Nat.ne_of_lt hn]
  have hnew : ∀ n, n < G.N → ownB (h ++ [.map []]) (G.addC w.heap.size) n = ownB h G n := fun n hn => by
    have hlt : n < h.length := by rw [hi.len]; exact hn
    unfold ownB
    rw [List.getElem?_append_left hlt, List.getElem?_eq_getElem hlt]
    exact hown1 n _ hn
  have hlast : ownB (h ++ [.map []]) (G.addC w.heap.size) h.length = some w.heap.size := by
    rw [ownB_of (B := .map []) (by simp)]; exact congrArg some hrho
  refine ⟨hE, ⟨by simp [Gh.addC, hi.len], fun b hb => Nat.lt_of_lt_of_le (hi.z b hb) hE.size, fun b o hs => Nat.lt_of_lt_of_le (hi.S b o hs) hE.size, fun n B hB => ?_, fun m n b hm hn => ?_, hi.gl.keep hE⟩, ?_⟩
  · by_cases hn : n < h.length
    · rw [List.getElem?_append_left hn] at hB
      have hn' : n < G.N := hi.len ▸ hn
      exact BRel.keep hn' hE hN ⟨rfl, rfl, rfl⟩ (fun b hb => ⟨Below.heap_alloc w _ _ (hi.ownlt (n := n) ((ownB_of hB).trans hb)), fun o h => h⟩) (hi.blk n B hB)
    · have hn2 : n = h.length := by
        have := (List.getElem?_eq_some_iff.1 hB).1
        simp at this; omega
      subst hn2
      simp at hB
      subst hB
      exact ⟨by rw [hrho]; exact fun hz => Nat.lt_irrefl _ (hi.z _ hz), fun o hs => by rw [hrho] at hs; exact Nat.lt_irrefl _ (hi.S _ _ hs), #[], 0, by rw [hrho]; exact World.alloc_heap_new w _,
        ⟨by simp, MapKept.stamped_empty 0, fun e he => (by simp at he), fun s d hs => (by cases hs), by simp, fun i e he => (by simp at he), rfl⟩⟩
  · have key : ∀ n b, ownB (h ++ [.map []]) (G.addC w.heap.size) n = some b → (n < G.N ∧ ownB h G n = some b) ∨ (n = h.length ∧ b = w.heap.size) := fun n b hn => by
      by_cases hlt : n < G.N
      · exact .inl ⟨hlt, by rw [← hnew n hlt]; exact hn⟩
      · by_cases e : n = h.length
        · subst e; rw [hlast] at hn; cases hn; exact .inr ⟨rfl, rfl⟩
        · rw [ownB_none (List.getElem?_eq_none (by simp; have := hi.len; omega))] at hn
          cases hn
    rcases key m b hm with ⟨_, hm'⟩ | ⟨rfl, rfl⟩ <;> rcases key n _ hn with ⟨_, hn'⟩ | ⟨rfl, hb⟩
    · exact hi.inj m n b hm' hn'
    · have := hi.ownlt hm'; omega
    · have := hi.ownlt hn'; omega
    · rfl
  · have := VRel.mp (G := G.addC w.heap.size) (w := w.alloc (.map #[] 0)) h.length (by simp [Gh.addC, hi.len])
    rwa [hrho] at this
theorem isKey_str {s : ByteArray} : MapKept.IsKey .string (.string s) := trivial
theorem run_lookup {T k e : TypeId} {z : Value} {n : Nat} {kv : List (ByteArray × D)} {s : ByteArray} {ok : Bool} (hi : Inv G w h) (hT : mapT P T = some (k, e)) (hz : zeroT P e = some z) (hk : strT P k = true) (hn : h[n]? = some (.map kv)) :
    ∃ v, (Instr.lookup T (.map (some (G.rho n))) (.string s) ok).run P w = .ok v w ∧ VRel G w v (lookR ok z (mget kv s)) := by
  obtain ⟨_, _, es, clock, hh, hm⟩ := hi.blk n _ hn
  have hks : ∀ x ∈ es.toList, MapKept.IsKey .string x.key := fun x hx => by
    obtain ⟨s', d, h1, _⟩ := hm.ent x hx
    rw [h1]; exact isKey_str
  have hkd := strT_spec hk
  have one : ∀ (v : Value) (d : D) (b : Bool), PRel G.S w v d → VRel G w (if ok then .tuple #[v, .bool b] else v) (bif ok then .tup [.d d, .d (.v (.bool b))] else .d d) := fun v d b hp => by
    cases ok with
    | false => exact .d hp
    | true =>
      refine .tup #[v, .bool b] _ rfl fun i u c hu hc => ?_
      match i with
      | 0 => simp at hu hc; subst hu; subst hc; exact .d hp
      | 1 => simp at hu hc; subst hu; subst hc; exact .d (.v _)
      | i + 2 => simp at hu
  rcases MapKept.findNow_spec (isKey_str (s := s)) es.toList 0 hks with ⟨h1, h2⟩ | ⟨j, e0, h1, h2, h3⟩
  · have hnone : mget kv s = none := by
      cases hq : mget kv s with
      | none => rfl
      | some d =>
        obtain ⟨x, hx, hxk⟩ := hm.all s d hq
        exact absurd hxk (h2 x hx)
    refine ⟨if ok then .tuple #[z, .bool false] else z, ?_, ?_⟩
    · simp [Instr.lookup, run_underlying (mapT_spec hT), MapKept.run_getObj_map hh, MapKept.run_checkKey hkd isKey_str, MapKept.run_findKey hkd h1, run_zeroT hz, Result.andThen]
    · rw [hnone]
      have := one z (.v z) false (.v z)
      unfold lookR
      exact this
  · have hmem : e0 ∈ es.toList := List.mem_of_getElem? h2
    obtain ⟨s', d, k1, k2, k3⟩ := hm.ent e0 hmem
    rw [h3] at k1
    cases k1
    refine ⟨if ok then .tuple #[e0.val, .bool true] else e0.val, ?_, ?_⟩
    · simp [Instr.lookup, run_underlying (mapT_spec hT), MapKept.run_getObj_map hh, MapKept.run_checkKey hkd isKey_str, MapKept.run_findKey hkd h1, Result.andThen]
    · rw [k2]
      have := one e0.val d true k3
      unfold lookR
      exact this
theorem run_mapUpd {T k e : TypeId} {n : Nat} {kv : List (ByteArray × D)} {s : ByteArray} {v : Value} {d : D} (hi : Inv G w h) (hT : mapT P T = some (k, e)) (hk : strT P k = true) (hn : h[n]? = some (.map kv)) (hv : PRel G.S w v d) (hlen : kv.length < maxLen) :
    ∃ w', (Instr.mapUpdate T (.map (some (G.rho n))) (.string s) v).run P w = .ok () w' ∧ Ext G.N G w G w' ∧ Inv G w' (h.set n (.map ((s, d) :: kv))) := by
  obtain ⟨hZ, hS, es, clock, hh, hm⟩ := hi.blk n _ hn
  have hks : ∀ x ∈ es.toList, MapKept.IsKey .string x.key := fun x hx => by
    obtain ⟨s', d, h1, _⟩ := hm.ent x hx
    rw [h1]; exact isKey_str
  have hkd := strT_spec hk
  have fin : ∀ (es' : Array MapEntry) (clock' : Nat) (w' : World), w' = ChangeMaps.setBlock w (G.rho n) (.map es' clock') → MapOK G.S w es' clock' ((s, d) :: kv) → Ext G.N G w G w' ∧ Inv G w' (h.set n (.map ((s, d) :: kv))) := by
    intro es' clock' w' hw' hm'
    have hoth : ∀ b, b ≠ G.rho n → w'.heap[b]? = w.heap[b]? := fun b hb => by rw [hw']; exact ChangeMaps.heap_setBlock_other hh _ hb
    have hsame : w'.heap[G.rho n]? = some (.map es' clock') := by rw [hw']; exact ChangeMaps.heap_setBlock_same hh _
    have hsz : w'.heap.size = w.heap.size := by rw [hw']; simp [ChangeMaps.setBlock]
    have hcell : ∀ b o, G.S b o → w'.cell? ⟨b, o, none⟩ = w.cell? ⟨b, o, none⟩ := fun b o hs => World.cell?_of_block (hoth b (fun e => hS o (e ▸ hs)))
    have hE : Ext G.N G w G w' := ⟨by rw [hsz]; exact Nat.le_refl _, fun _ _ h => h, hcell, fun _ _ => rfl, fun _ _ => .inl ⟨rfl, rfl⟩, zsame rfl, fun b hb => hoth b (fun e => hZ (e ▸ hb)), by rw [hw']; rfl, by rw [hw']; rfl, by rw [hw']; rfl, fun _ _ h => .inl h⟩
    refine ⟨hE, ?_⟩
    have hon : ownB h G n = some (G.rho n) := ownB_of hn
    have hgn : (h.set n (.map ((s, d) :: kv)))[n]? = some (.map ((s, d) :: kv)) := by rw [List.getElem?_set_self (List.getElem?_eq_some_iff.1 hn).1]
    have hget : ∀ m, m ≠ n → (h.set n (.map ((s, d) :: kv)))[m]? = h[m]? := fun m hm => by rw [List.getElem?_set_ne (Ne.symm hm)]
    have hown : ∀ m, ownB (h.set n (.map ((s, d) :: kv))) G m = ownB h G m := fun m => by
      by_cases e : m = n
      · subst e; rw [ownB_of hgn, ownB_of hn]; rfl
      · unfold ownB; rw [hget m e]
    refine ⟨by rw [List.length_set]; exact hi.len, fun b hb => Nat.lt_of_lt_of_le (hi.z b hb) hE.size, fun b o hs => Nat.lt_of_lt_of_le (hi.S b o hs) hE.size, fun m B hB => ?_, fun m m' b h1 h2 => hi.inj m m' b (by rw [← hown]; exact h1) (by rw [← hown]; exact h2), hi.gl.keep hE⟩
    by_cases e : m = n
    · subst e
      rw [hgn] at hB
      cases hB
      exact ⟨hZ, hS, es', clock', hsame, hm'.keep (fun _ _ h => h) hcell⟩
    · rw [hget m e] at hB
      have hne : ∀ b, ownB h G m = some b → b ≠ G.rho n := fun b hb eb => e (hi.inj m n b hb (by rw [eb]; exact hon))
      exact BRel.keep (hi.lt hB) hE (Nat.le_refl _) ⟨rfl, rfl, rfl⟩ (fun b hb => ⟨hoth b (hne _ ((ownB_of hB).trans hb)), fun o h => h⟩) (hi.blk m B hB)
  rcases MapKept.findNow_spec (isKey_str (s := s)) es.toList 0 hks with ⟨h1, h2⟩ | ⟨j, e0, h1, h2, h3⟩
  · have hm' : MapOK G.S w (es.push ⟨.string s, v, clock⟩) (clock + 1) ((s, d) :: kv) := by
      refine ⟨by have := hm.len; simp; omega, MapKept.stamped_push hm.stamped h2, fun x hx => ?_, fun s' d' hs' => ?_, by have := hm.len; simp; omega, fun i e he => ?_, by rw [hm.clk]; simp⟩
      · simp only [Array.toList_push, List.mem_append, List.mem_singleton] at hx
        rcases hx with hx | rfl
        · obtain ⟨s', d', k1, k2, k3⟩ := hm.ent x hx
          refine ⟨s', d', k1, ?_, k3⟩
          rw [mget_cons, if_neg (fun e => h2 x hx (by rw [k1, e]))]
          exact k2
        · exact ⟨s, d, rfl, by rw [mget_cons, if_pos rfl], hv⟩
      · rw [mget_cons] at hs'
        simp only [Array.toList_push, List.mem_append, List.mem_singleton]
        split at hs'
        · next e => subst e; exact ⟨_, .inr rfl, rfl⟩
        · obtain ⟨x, hx, hk⟩ := hm.all s' d' hs'
          exact ⟨x, .inl hx, hk⟩
      · rw [Array.getElem?_push] at he
        split at he
        · next ei => cases he; rw [ei]; exact hm.clk
        · exact hm.born i e he
    obtain ⟨f1, f2⟩ := fin _ _ _ rfl hm'
    refine ⟨_, ?_, f1, f2⟩
    simp [Instr.mapUpdate, run_underlying (mapT_spec hT), MapKept.run_getObj_map hh, MapKept.run_checkKey hkd isKey_str, MapKept.run_findKey hkd h1, MapKept.run_setObj_map _ hh, Result.andThen, ChangeMaps.setBlock]
  · have hj : es[j]? = some e0 := by simpa using h2
    have hjl : j < es.toList.length := (List.getElem?_eq_some_iff.1 h2).1
    have hkeyf : ∀ e', es[j]? = some e' → ({ e' with key := .string s, val := v } : MapEntry).key = e'.key := fun e' he' => by rw [hj] at he'; cases he'; exact h3.symm
    have hlist : (es.modify j (fun e' => { e' with key := .string s, val := v })).toList = es.toList.set j { e0 with key := .string s, val := v } := by
      rw [Array.toList_modify]; exact ChangeMaps.modify_eq_set _ _ _ _ h2
    have hnd : (es.toList.map (·.key)).Nodup := hm.stamped.2.2
    have hm' : MapOK G.S w (es.modify j (fun e' => { e' with key := .string s, val := v })) clock ((s, d) :: kv) := by
      refine ⟨by simpa using hm.size, MapKept.stamped_modify hm.stamped _ _ (fun _ _ => rfl) (fun e' _ he' => hkeyf e' he'), fun x hx => ?_, fun s' d' hs' => ?_, by have := hm.len; simp; omega, fun i e he => ?_, by rw [hm.clk]; simp⟩
      · rw [hlist] at hx
        obtain ⟨i, hi', ex⟩ := List.getElem_of_mem hx
        rw [List.getElem_set] at ex
        split at ex
        · rw [← ex]; exact ⟨s, d, rfl, by rw [mget_cons, if_pos rfl], hv⟩
        · next hne =>
          have hi2 : i < es.toList.length := by simpa using hi'
          have hx' : x ∈ es.toList := by rw [← ex]; exact List.getElem_mem hi2
          obtain ⟨s', d', k1, k2, k3⟩ := hm.ent x hx'
          refine ⟨s', d', k1, ?_, k3⟩
          rw [mget_cons, if_neg ?_]
          · exact k2
          · intro es'
            have a1 : (es.toList.map (·.key))[i]? = some (.string s) := by rw [List.getElem?_map, List.getElem?_eq_getElem hi2, ex]; simp [k1, es']
            have a2 : (es.toList.map (·.key))[j]? = some (.string s) := by rw [List.getElem?_map, h2]; simp [h3]
            have hii : i < (es.toList.map (·.key)).length := by simpa using hi2
            exact hne ((List.getElem?_inj hii hnd).1 (a1.trans a2.symm)).symm
      · rw [hlist]
        rw [mget_cons] at hs'
        split at hs'
        · next e => subst e; exact ⟨_, List.mem_iff_getElem?.2 ⟨j, List.getElem?_set_self hjl⟩, rfl⟩
        · next hne =>
          obtain ⟨x, hx, hk⟩ := hm.all s' d' hs'
          obtain ⟨i, hi', ex⟩ := List.getElem_of_mem hx
          refine ⟨x, List.mem_iff_getElem.2 ⟨i, by simpa using hi', ?_⟩, hk⟩
          rw [List.getElem_set]
          split
          · next e =>
            subst e
            exfalso
            have : es.toList[j]? = some x := by rw [List.getElem?_eq_getElem hi', ex]
            rw [this] at h2
            cases h2
            rw [h3] at hk
            injection hk with hk
            exact hne hk
          · exact ex
      · rw [Array.getElem?_modify] at he
        split at he
        · next ei =>
          subst ei
          rw [hj] at he
          cases he
          exact hm.born _ e0 hj
        · exact hm.born i e he
    obtain ⟨f1, f2⟩ := fin _ _ _ rfl hm'
    refine ⟨_, ?_, f1, f2⟩
    simp [Instr.mapUpdate, run_underlying (mapT_spec hT), MapKept.run_getObj_map hh, MapKept.run_checkKey hkd isKey_str, MapKept.run_findKey hkd h1, hj, h3, MapKept.run_keyThatStays isKey_str, MapKept.run_setObj_map _ hh, Result.andThen, ChangeMaps.setBlock]
end
end Go.Proofs.YtnedgkfefdldeaaGreatDoor

/-! AbsVec: Why the small language's operations on slices that may be written are right. -/
namespace Go.Proofs.YtnedgkfefdldeaaGreatDoor
open Go.RowKit
set_option linter.unusedVariables false
set_option linter.unusedSimpArgs false
section
variable {P : Program} {G : Gh} {w : World} {h : List Blk}
theorem inv_upd {w' : World} (hi : Inv G w h) {n : Nat} {B B' : Blk} (hn : h[n]? = some B) (hB1 : ∀ G' : Gh, B.own1 G' n = G'.ow n) (hB2 : ∀ G' : Gh, B'.own1 G' n = G'.ow n) (S : Nat → Nat → Prop) (v : Value) (len : Nat) (ow : Option Nat)
    (hE : Ext G.N G w (G.grow n S v len ow) w') (hg : ∀ g, ow = some g → (g = w.heap.size ∨ G.ow n = some g) ∧ g < w'.heap.size)
    (hS : ∀ b o, S b o → G.S b o ∨ ow = some b) (hoth : ∀ b, b < w.heap.size → ow ≠ some b → w'.heap[b]? = w.heap[b]?)
    (hB : BRel (G.grow n S v len ow) w' n B') : Inv (G.grow n S v len ow) w' (h.set n B') := by
  have hget : ∀ m, m ≠ n → (h.set n B')[m]? = h[m]? := fun m hm => by rw [List.getElem?_set_ne (Ne.symm hm)]
  have hgn : (h.set n B')[n]? = some B' := by rw [List.getElem?_set_self (List.getElem?_eq_some_iff.1 hn).1]
  have hown1 : ∀ m (C : Blk), m ≠ n → C.own1 (G.grow n S v len ow) m = C.own1 G m := fun m C hm => by
    cases C <;> simp [Blk.own1, Gh.grow, hm]
  have hown : ∀ m, m ≠ n → ownB (h.set n B') (G.grow n S v len ow) m = ownB h G m := fun m hm => by
    unfold ownB; rw [hget m hm]
    cases h[m]? with
    | none => rfl
    | some C => exact hown1 m C hm
  have hown2 : ownB (h.set n B') (G.grow n S v len ow) n = ow := by rw [ownB_of hgn, hB2]; simp [Gh.grow]
  have hng : ∀ m b, m ≠ n → ow = some b → ownB h G m ≠ some b := fun m b hm ho hb => by
    rcases (hg b ho).1 with hg | hg
    · have := hi.ownlt hb; omega
    · exact hm (hi.inj m n b hb ((ownB_of hn).trans ((hB1 G).trans hg)))
  refine ⟨by rw [List.length_set]; exact hi.len, fun b hb => Nat.lt_of_lt_of_le (hi.z b hb) hE.size, fun b o hs => ?_, fun m C hm => ?_, fun m m' b h1 h2 => ?_, hi.gl.keep hE⟩
  · rcases hS b o hs with hs | hs
    · exact Nat.lt_of_lt_of_le (hi.S b o hs) hE.size
    · exact (hg b hs).2
  · by_cases em : m = n
    · subst em; rw [hgn] at hm; cases hm; exact hB
    · rw [hget m em] at hm
      refine BRel.keep (hi.lt hm) hE (Nat.le_refl _) ⟨by simp [Gh.grow, em], by simp [Gh.grow, em], by simp [Gh.grow, em]⟩ (fun b hb => ?_) (hi.blk m C hm)
      have hr : ownB h G m = some b := (ownB_of hm).trans hb
      have hne : ow ≠ some b := fun e' => hng m b em e' hr
      refine ⟨hoth _ (hi.ownlt hr) hne, fun o hns hs => ?_⟩
      rcases hS _ o hs with hs | hs
      · exact hns hs
      · exact hne hs
  · by_cases e1 : m = n <;> by_cases e2 : m' = n
    · rw [e1, e2]
    · subst e1
      rw [hown m' e2] at h2
      rw [hown2] at h1
      exact absurd h2 (hng m' b e2 h1)
    · subst e2
      rw [hown m e1] at h1
      rw [hown2] at h2
      exact absurd h1 (hng m b e1 h2)
    · rw [hown m e1] at h1; rw [hown m' e2] at h2; exact hi.inj m m' b h1 h2
def Gh.addV (G : Gh) (v : Value) (len : Nat) (ow : Option Nat) : Gh :=
  { G with N := G.N + 1, sg := fun n => if n = G.N then v else G.sg n, fl := fun n => if n = G.N then len else G.fl n, ow := fun n => if n = G.N then ow else G.ow n }
theorem inv_new {w' : World} (hi : Inv G w h) (B : Blk) (hB1 : ∀ (G' : Gh) n, B.own1 G' n = G'.ow n) (v : Value) (len : Nat) (ow : Option Nat) (hw : (∀ b, b < w.heap.size → w'.heap[b]? = w.heap[b]?) ∧ w.heap.size ≤ w'.heap.size ∧ w'.os = w.os ∧ w'.tape = w.tape ∧ w'.output = w.output)
    (how : ∀ g, ow = some g → w.heap.size ≤ g)
    (hB : BRel (G.addV v len ow) w' G.N B) : Ext G.N G w (G.addV v len ow) w' ∧ Inv (G.addV v len ow) w' (h ++ [B]) := by
  have hne : ∀ n, n < G.N → n ≠ G.N := fun n hn => Nat.ne_of_lt hn
  have hE : Ext G.N G w (G.addV v len ow) w' := ⟨hw.2.1, fun _ _ h => h, fun b o hs => World.cell?_of_block (hw.1 b (hi.S b o hs)), fun _ _ => rfl, fun n hn => .inl ⟨by simp [Gh.addV, hne n hn], by simp [Gh.addV, hne n hn]⟩, zsame rfl, fun b hb => hw.1 b (hi.z b hb), hw.2.2.1, hw.2.2.2.1, hw.2.2.2.2, fun _ _ h => .inl h⟩
  have hN : G.N ≤ (G.addV v len ow).N := Nat.le_succ _
  have hown1 : ∀ n (C : Blk), n < G.N → C.own1 (G.addV v len ow) n = C.own1 G n := fun n C hn => by
    cases C <;> simp [Blk.own1, Gh.addV, Nat.ne_of_lt hn]
  have key : ∀ n b, ownB (h ++ [B]) (G.addV v len ow) n = some b → (n < G.N ∧ ownB h G n = some b) ∨ (n = G.N ∧ ow = some b) := fun n b hb => by
    by_cases hn : n < h.length
    · unfold ownB at hb
      rw [List.getElem?_append_left hn, List.getElem?_eq_getElem hn] at hb
      exact .inl ⟨hi.len ▸ hn, by unfold ownB; rw [List.getElem?_eq_getElem hn, ← hb]; exact (hown1 n _ (hi.len ▸ hn)).symm⟩
    · by_cases en : n = h.length
      · subst en
        rw [ownB_of (B := B) (by simp), hB1] at hb
        exact .inr ⟨hi.len, by simpa [Gh.addV, hi.len] using hb⟩
      · rw [ownB_none (List.getElem?_eq_none (by simp; omega))] at hb
        cases hb
  refine ⟨hE, by simp [Gh.addV, hi.len], fun b hb => Nat.lt_of_lt_of_le (hi.z b hb) hw.2.1, fun b o hs => Nat.lt_of_lt_of_le (hi.S b o hs) hw.2.1, fun n C hC => ?_, fun m n b h1 h2 => ?_, hi.gl.keep hE⟩
  · by_cases hn : n < h.length
    · rw [List.getElem?_append_left hn] at hC
      have hn' : n < G.N := hi.len ▸ hn
      exact BRel.keep hn' hE hN ⟨by simp [Gh.addV, hne n hn'], by simp [Gh.addV, hne n hn'], by simp [Gh.addV, hne n hn']⟩ (fun b hb => ⟨hw.1 b (hi.ownlt ((ownB_of hC).trans hb)), fun o h => h⟩) (hi.blk n C hC)
    · have hn2 : n = h.length := by
        have := (List.getElem?_eq_some_iff.1 hC).1
        simp at this; omega
      subst hn2
      simp at hC
      subst hC
      rw [hi.len]; exact hB
  · rcases key m b h1 with ⟨_, a1⟩ | ⟨rfl, a1⟩ <;> rcases key n b h2 with ⟨_, b1⟩ | ⟨rfl, b1⟩
    · exact hi.inj m n b a1 b1
    · have := hi.ownlt a1; have := how b b1; omega
    · have := hi.ownlt b1; have := how b a1; omega
    · rfl
theorem VRel.vecOK {n o len L k : Nat} {e : TypeId} {cs : List (List AV)} {u : Value} (hi : Inv G w h) (hn : h[n]? = some (.vec e k cs)) (hL : cs.length = L) (hv : VRel G w u (.vec n o len L k)) : VecOK (G.sg n) u o len L k := by
  have hb := (hi.blk n _ hn).1
  cases hv with | vec _ _ _ _ _ h1 h2 h3 h4 => exact h4 (by rw [← hL, hb])
theorem VRel.vptrOK {n i j L k : Nat} {e : TypeId} {k' : Nat} {cs : List (List AV)} {u : Value} (hi : Inv G w h) (hn : h[n]? = some (.vec e k' cs)) (hL : cs.length = L) (hv : VRel G w u (.vptr n i j L k)) : VptrOK (G.sg n) u i j L k := by
  have hb := (hi.blk n _ hn).1
  cases hv with | vptr _ _ _ _ _ h1 h2 h3 h4 => exact h4 (by rw [← hL, hb])
theorem vec_real {n : Nat} {e k : Nat} {cs : List (List AV)} (hi : Inv G w h) (hn : h[n]? = some (.vec e k cs)) (hne : cs ≠ []) : ∃ (g cap : Nat) (cur : Array Value), G.ow n = some g ∧ G.sg n = .slice (some ⟨g, 0, none⟩) cs.length cap ∧ ¬ G.Z g ∧ w.heap[g]? = some (.cells cur e (0, 0)) ∧ cs.length ≤ cap ∧ cap ≤ maxLen ∧ cur.size = cap * k ∧ (∀ o, ¬ G.S g o) ∧
        ∀ (i j : Nat) (c : List AV) (x : AV) (u : Value), cs[i]? = some c → c[j]? = some x → cur[i * k + j]? = some u → VRel G w u x := by
  obtain ⟨_, _, _, h4 | h4⟩ := hi.blk n _ hn
  · exact absurd h4.2.1 hne
  · exact h4
theorem vec_wid {n : Nat} {e k : Nat} {cs : List (List AV)} (hi : Inv G w h) (hn : h[n]? = some (.vec e k cs)) : ∀ c ∈ cs, c.length = k := (hi.blk n _ hn).2.2.1
theorem mul_lt_of {i k L j : Nat} (hi : i < L) (hj : j < k) : i * k + j < L * k := by
  have : (i + 1) * k ≤ L * k := Nat.mul_le_mul_right k hi
  rw [Nat.add_mul] at this; omega
theorem divmod_of {i k j : Nat} (hj : j < k) : (i * k + j) / k = i ∧ (i * k + j) % k = j := by
  have hk : 0 < k := by omega
  exact ⟨by rw [Nat.add_comm, Nat.add_mul_div_right _ _ hk, Nat.div_eq_of_lt hj, Nat.zero_add], by rw [Nat.add_comm, Nat.add_mul_mod_self_right, Nat.mod_eq_of_lt hj]⟩
theorem ij_inj {i i' j j' k : Nat} (hj : j < k) (hj' : j' < k) (e : i * k + j = i' * k + j') : i = i' ∧ j = j' := by
  have h1 := divmod_of (i := i) hj
  have h2 := divmod_of (i := i') hj'
  exact ⟨by rw [← h1.1, ← h2.1, e], by rw [← h1.2, ← h2.2, e]⟩
theorem run_vload {t n i j L k : Nat} {e : TypeId} {cs : List (List AV)} {c : List AV} {x : AV} {v : Value} (hi : Inv G w h) (hn : h[n]? = some (.vec e k cs)) (hL : cs.length = L) (hc : cs[i]? = some c) (hx : ldC P t c j = some x) (hv : VRel G w v (.vptr n i j L k)) :
    ∃ u, (Instr.loadAt t v).run P w = .ok u w ∧ VRel G w u x := by
  have hil : i < cs.length := (List.getElem?_eq_some_iff.1 hc).1
  have hck : c.length = k := vec_wid hi hn c (List.mem_of_getElem? hc)
  obtain ⟨g, cap, cur, r1, r2, r3, r4, r5, r6, r7, r8, r9⟩ := vec_real hi hn (fun e => by subst e; simp at hil)
  obtain ⟨_, g', cap', p1, p2⟩ := hv.vptrOK hi hn hL
  rw [r2] at p1
  cases p1
  have h1 : ∀ q, q < c.length → w.cell? ⟨g, i * k + q, none⟩ = some (cur.getD (i * k + q) undef) := fun q hq => by
    rw [cell_of_row w g _ cur e (0, 0) r4]
    have : i * k + q < cur.size := by
      rw [r7]; exact Nat.lt_of_lt_of_le (mul_lt_of hil (by omega)) (Nat.mul_le_mul_right k r5)
    simp [Array.getD, this]
  have h2 : ∀ (q : Nat) (y : AV), c[q]? = some y → VRel G w (cur.getD (i * k + q) undef) y := fun q y hq => by
    have hq' := (List.getElem?_eq_some_iff.1 hq).1
    have hlt : i * k + q < cur.size := by
      rw [r7]; exact Nat.lt_of_lt_of_le (mul_lt_of hil (by omega)) (Nat.mul_le_mul_right k r5)
    have e1 : cur[i * k + q]? = some (cur.getD (i * k + q) undef) := by simp [Array.getD, hlt]
    exact r9 i q c y _ hc hq e1
  have key := load_key (P := P) (G := G) (w := w) (t := t) (C := (· = x)) g (i * k) c j (fun q => cur.getD (i * k + q) undef) h1 h2 (by
    unfold ldC at hx
    revert hx
    cases aggT P t with
    | none => intro hx; cases hx
    | some ag =>
      cases szT P t with
      | none => cases ag <;> (intro hx; cases hx)
      | some kk =>
        cases ag with
        | true =>
          simp only
          intro hx
          cases hb : leB (j + kk) c.length with
          | false => rw [hb] at hx; cases hx
          | true => rw [hb] at hx; cases hx; exact rfl
        | false =>
          simp only
          intro hx
          rw [hx])
  obtain ⟨u, y, k1, k2, rfl⟩ := key
  refine ⟨u, ?_, k2⟩
  rw [p2]
  simp [Instr.loadAt, Instr.sureAddr, k1]
theorem run_storeVar_at {t b off k : Nat} {T : TypeId} {v : Value} {vs : Array Value} (hh : w.heap[b]? = some (.cells vs T (0, 0))) (ht : szT P t = some k) (hk : v.cells.size = k) (hone : ∀ u ∈ v.cells.toList, u.oneCell' = true) (hb : off + k ≤ vs.size) :
    (storeVar t ⟨b, off, none⟩ v).run P w = .ok () (w.setRow b (vs.toList.take off ++ v.cells.toList ++ vs.toList.drop (off + v.cells.toList.length)).toArray) := by
  obtain ⟨i, hi1, hi2⟩ := szT_info ht
  have hst := run_storeCells_at P b off T v.cells.toList 0 vs w hh (by rw [Array.length_toList, hk]; simpa using hb) hone
  simp only [Nat.add_zero] at hst
  unfold storeVar
  simp only [sizeOf, typeInfo, Sem.run_bind, hk]
  simp [hi1, hi2, hst]
theorem row_get (vs : Array Value) (us : List Value) (off q : Nat) (hb : off + us.length ≤ vs.size) : (vs.toList.take off ++ us ++ vs.toList.drop (off + us.length)).toArray[q]? = if off ≤ q ∧ q < off + us.length then us[q - off]? else vs[q]? := by
  rw [List.getElem?_toArray, List.append_assoc]
  have hvl : vs.toList.length = vs.size := Array.length_toList
  by_cases h1 : q < off
  · rw [List.getElem?_append_left (by simp; omega), List.getElem?_take_of_lt h1, if_neg (by omega), Array.getElem?_toList]
  · rw [List.getElem?_append_right (by simp; omega)]
    simp only [List.length_take, hvl]
    rw [Nat.min_eq_left (by omega)]
    by_cases h2 : q < off + us.length
    · rw [List.getElem?_append_left (by omega), if_pos (by omega)]
    · rw [List.getElem?_append_right (by omega), List.getElem?_drop, if_neg (by omega), show off + us.length + (q - off - us.length) = q by omega, Array.getElem?_toList]
theorem row_size (vs : Array Value) (us : List Value) (off : Nat) (hb : off + us.length ≤ vs.size) : (vs.toList.take off ++ us ++ vs.toList.drop (off + us.length)).toArray.size = vs.size := by
  simp only [List.size_toArray, List.length_append, List.length_take, List.length_drop, Array.length_toList]
  omega
theorem splice_get (cs ys : List AV) (off q : Nat) (hb : off + ys.length ≤ cs.length) : (splice cs off ys)[q]? = if off ≤ q ∧ q < off + ys.length then ys[q - off]? else cs[q]? := by
  unfold splice
  rw [List.append_assoc]
  by_cases h1 : q < off
  · rw [List.getElem?_append_left (by simp; omega), List.getElem?_take_of_lt h1, if_neg (by omega)]
  · rw [List.getElem?_append_right (by simp; omega)]
    simp only [List.length_take]
    rw [Nat.min_eq_left (by omega)]
    by_cases h2 : q < off + ys.length
    · rw [List.getElem?_append_left (by omega), if_pos (by omega)]
    · rw [List.getElem?_append_right (by omega), List.getElem?_drop, if_neg (by omega), show off + ys.length + (q - off - ys.length) = q by omega]
theorem vec_write {n e k g cap : Nat} {cs cs' : List (List AV)} {cur : Array Value} {us : List Value} {off : Nat} (hi : Inv G w h) (hn : h[n]? = some (.vec e k cs)) (hk0 : 0 < k) (r1 : G.ow n = some g) (r2 : G.sg n = .slice (some ⟨g, 0, none⟩) cs.length cap) (r3 : ¬ G.Z g) (r4 : w.heap[g]? = some (.cells cur e (0, 0))) (r5 : cs.length ≤ cap) (r6 : cap ≤ maxLen) (r7 : cur.size = cap * k) (r8 : ∀ o, ¬ G.S g o)
    (hb : off + us.length ≤ cur.size) (hl : cs'.length = cs.length) (hwid : ∀ c ∈ cs', c.length = k)
    (hrel : ∀ (i j : Nat) (c : List AV) (x : AV) (u : Value), cs'[i]? = some c → c[j]? = some x → (if off ≤ i * k + j ∧ i * k + j < off + us.length then us[i * k + j - off]? else cur[i * k + j]?) = some u → VRel G w u x) :
    ∃ G', Ext G.N G w G' (w.setRow g (cur.toList.take off ++ us ++ cur.toList.drop (off + us.length)).toArray) ∧ G'.N = G.N ∧ Inv G' (w.setRow g (cur.toList.take off ++ us ++ cur.toList.drop (off + us.length)).toArray) (h.set n (.vec e k cs')) ∧ (∀ m, G'.sg m = G.sg m) ∧ (∀ m, G'.fl m = G.fl m) := by
  obtain ⟨w', hw'⟩ : ∃ w', w' = w.setRow g (cur.toList.take off ++ us ++ cur.toList.drop (off + us.length)).toArray := ⟨_, rfl⟩
  rw [← hw']
  have hoth : ∀ b, b ≠ g → w'.heap[b]? = w.heap[b]? := fun b hb => by rw [hw']; exact setRow_other w g b _ hb
  have hrow : w'.heap[g]? = some (.cells (cur.toList.take off ++ us ++ cur.toList.drop (off + us.length)).toArray e (0, 0)) := by rw [hw']; exact setRow_heap w g cur _ e _ r4
  have hsz : w'.heap.size = w.heap.size := by rw [hw']; exact setRow_size w g _
  obtain ⟨G', hG'⟩ : ∃ G', G' = G.grow n G.S (G.sg n) (G.fl n) (some g) := ⟨_, rfl⟩
  have hsg : ∀ m, G'.sg m = G.sg m := fun m => by rw [hG']; simp only [Gh.grow]; split <;> simp_all
  have hfl : ∀ m, G'.fl m = G.fl m := fun m => by rw [hG']; simp only [Gh.grow]; split <;> simp_all
  have hE : Ext G.N G w G' w' := ⟨by rw [hsz]; exact Nat.le_refl _, fun b o h => by rw [hG']; exact h, fun b o hs => World.cell?_of_block (hoth b (fun e => r8 o (e ▸ hs))), fun _ _ => by rw [hG']; rfl, fun m _ => .inl ⟨hfl m, hsg m⟩, zsame (by rw [hG']; rfl) (by rw [hG']; rfl), fun b hb => hoth b (fun e => r3 (e ▸ hb)), by rw [hw']; rfl, by rw [hw']; rfl, by rw [hw']; rfl, fun b o hs => .inl (by rw [hG'] at hs; exact hs)⟩
  have hb0 := hi.blk n _ hn
  refine ⟨G', hE, by rw [hG']; rfl, ?_, hsg, hfl⟩
  subst hG'
  refine inv_upd hi hn (fun _ => rfl) (fun _ => rfl) _ _ _ _ hE (fun g' hg' => ?_) (fun b o hs => .inl hs) (fun b _ hb' => hoth b (fun e => hb' (by rw [e]))) ?_
  · cases hg'; exact ⟨.inr r1, by rw [hsz]; exact (Array.getElem?_eq_some_iff.1 r4).1⟩
  · refine ⟨by rw [hfl, hl]; exact hb0.1, by rw [hl]; exact hb0.2.1, hwid, .inr ⟨g, cap, _, by simp [Gh.grow], by rw [hsg, hl]; exact r2, r3, hrow, by rw [hl]; exact r5, r6, by rw [row_size _ _ _ hb]; exact r7, r8, fun i j c x u hc hx hu => ?_⟩⟩
    rw [row_get _ _ _ _ hb] at hu
    exact (hrel i j c x u hc hx hu).keep hE (Nat.le_refl _)
theorem run_vstore {t n i j L k : Nat} {e : TypeId} {cs : List (List AV)} {c : List AV} {x : AV} {v u : Value} (hi : Inv G w h) (hn : h[n]? = some (.vec e k cs)) (hL : cs.length = L) (hc : cs[i]? = some c) (hv : VRel G w v (.vptr n i j L k)) (hx : VRel G w u x) (hbox : x.boxB = true) (ht : szT P t = some x.cells.length) (hj : j + x.cells.length ≤ k) (hk0 : 0 < k) :
    ∃ w' G', (Instr.storeAt t v u).run P w = .ok () w' ∧ Ext G.N G w G' w' ∧ G.N ≤ G'.N ∧ Inv G' w' (h.set n (.vec e k (cs.set i (splice c j x.cells)))) := by
  have hil : i < cs.length := (List.getElem?_eq_some_iff.1 hc).1
  have hwid := vec_wid hi hn
  have hck : c.length = k := hwid c (List.mem_of_getElem? hc)
  obtain ⟨g, cap, cur, r1, r2, r3, r4, r5, r6, r7, r8, r9⟩ := vec_real hi hn (fun e => by subst e; simp at hil)
  obtain ⟨_, g', cap', p1, p2⟩ := hv.vptrOK hi hn hL
  rw [r2] at p1
  cases p1
  obtain ⟨c1, c2⟩ := hx.cells hbox
  have hul : u.cells.toList.length = x.cells.length := by rw [Array.length_toList, c1]
  have hone : ∀ y ∈ u.cells.toList, y.oneCell' = true := fun y hy => by
    obtain ⟨q, hq⟩ := List.mem_iff_getElem?.1 hy
    have hq' : u.cells[q]? = some y := by rw [← Array.getElem?_toList]; exact hq
    have hql : q < x.cells.length := by rw [← c1]; exact (Array.getElem?_eq_some_iff.1 hq').1
    exact (c2 q y _ hq' (List.getElem?_eq_getElem hql)).2
  have hfit : i * k + j + x.cells.length ≤ cur.size := by
    have h1 : (i + 1) * k ≤ cap * k := Nat.mul_le_mul_right k (Nat.lt_of_lt_of_le hil r5)
    rw [Nat.add_mul] at h1
    rw [r7]; omega
  have hrun := run_storeVar_at (P := P) (off := i * k + j) r4 ht c1 hone hfit
  obtain ⟨G', e1, e2, e3, _⟩ := vec_write (us := u.cells.toList) (off := i * k + j) (cs' := cs.set i (splice c j x.cells)) hi hn hk0 r1 r2 r3 r4 r5 r6 r7 r8 (by rw [hul]; exact hfit) (by rw [List.length_set]) (fun d hd => by
      obtain ⟨q, hq⟩ := List.mem_iff_getElem?.1 hd
      by_cases e : i = q
      · subst e
        rw [List.getElem?_set_self hil] at hq
        cases hq
        rw [splice_length _ _ _ (by omega)]; exact hck
      · rw [List.getElem?_set_ne e] at hq
        exact hwid d (List.mem_of_getElem? hq)) (fun a b d y z hd hy hz => by
      have hbk : b < k := by
        by_cases e : i = a
        · subst e
          rw [List.getElem?_set_self hil] at hd
          cases hd
          have := (List.getElem?_eq_some_iff.1 hy).1
          rw [splice_length _ _ _ (by omega)] at this; omega
        · rw [List.getElem?_set_ne e] at hd
          rw [← hwid d (List.mem_of_getElem? hd)]; exact (List.getElem?_eq_some_iff.1 hy).1
      rw [hul] at hz
      by_cases e : i = a
      · subst e
        rw [List.getElem?_set_self hil] at hd
        cases hd
        rw [splice_get _ _ _ _ (by omega)] at hy
        by_cases hb : j ≤ b ∧ b < j + x.cells.length
        · rw [if_pos hb] at hy
          rw [if_pos (by omega), show i * k + b - (i * k + j) = b - j by omega, Array.getElem?_toList] at hz
          exact (c2 _ _ _ hz hy).1
        · rw [if_neg hb] at hy
          rw [if_neg (by omega)] at hz
          exact r9 i b c y z hc hy hz
      · rw [List.getElem?_set_ne e] at hd
        rw [if_neg ?_] at hz
        · exact r9 a b d y z hd hy hz
        · intro hh
          have : a * k + b = i * k + (a * k + b - i * k) := by omega
          exact e ((ij_inj (i := a) (i' := i) (j := b) (j' := a * k + b - i * k) hbk (by omega) this).1.symm))
  refine ⟨_, G', ?_, e1, by rw [e2]; exact Nat.le_refl _, e3⟩
  rw [p2]
  simp [Instr.storeAt, Instr.sureAddr, hrun]
end
end Go.Proofs.YtnedgkfefdldeaaGreatDoor

/-! AbsVec2: Why the small language's operations on slices that may be written are right, continued: appends and 'make'. -/
namespace Go.Proofs.YtnedgkfefdldeaaGreatDoor
open Go.RowKit
set_option linter.unusedVariables false
set_option linter.unusedSimpArgs false
section
variable {P : Program} {G : Gh} {w : World} {h : List Blk}
structure RdV (G : Gh) (w : World) (k : Nat) (ys : List (List AV)) (us : List Value) : Prop where
  len : us.length = ys.length * k
  wid : ∀ c ∈ ys, c.length = k
  one : ∀ u ∈ us, u.oneCell' = true
  rel : ∀ (i j : Nat) (c : List AV) (x : AV) (u : Value), ys[i]? = some c → c[j]? = some x → us[i * k + j]? = some u → VRel G w u x
theorem srcV_sound {k tx e' : Nat} {y : AV} {v : Value} {ys : List (List AV)} (hi : Inv G w h) (hv : VRel G w v y) (hs : srcV h k y ys) (hk0 : 0 < k) (hT : P.underlying tx = some (.slice e')) :
    ∃ us, RdV G w k ys us ∧ Src P k tx v ys.length us w := by
  rcases hs with ⟨xs, h1, h2, rfl⟩ | ⟨n, o, len, L, e, cs, rfl, h2, h3, h4, h5⟩
  · obtain ⟨us, hr, hsrc⟩ := (hv.list h1).src hk0 h2 hT
    have hl : (liftD xs).length = xs.length := by unfold liftD; rw [List.length_map]
    refine ⟨us, ⟨by rw [hl]; exact hr.len, fun c hc => ?_, hr.one, fun i j c x u hc hx hu => ?_⟩, by rw [hl]; exact hsrc⟩
    · unfold liftD at hc
      obtain ⟨d, hd, rfl⟩ := List.mem_map.1 hc
      rw [List.length_map]; exact h2 d hd
    · unfold liftD at hc
      rw [List.getElem?_map] at hc
      cases hx' : xs[i]? with
      | none => rw [hx'] at hc; cases hc
      | some d =>
        rw [hx'] at hc
        cases hc
        rw [List.getElem?_map] at hx
        cases hy : d[j]? with
        | none => rw [hy] at hx; cases hx
        | some z =>
          rw [hy] at hx
          cases hx
          obtain ⟨u', a1, a2⟩ := hr.rel i j d z hx' hy
          rw [a1] at hu
          cases hu
          exact .d a2
  · have hvo := hv.vecOK hi h2 h3
    obtain ⟨A, c, rfl, c1, c2, c3, c4⟩ := hvo.sl
    have hyl : ys.length = len := by rw [h4, List.length_take, List.length_drop, h3]; have := hvo.ol; omega
    by_cases h0 : len = 0
    · subst h0
      have : ys = [] := List.eq_nil_of_length_eq_zero hyl
      subst this
      refine ⟨[], ⟨by simp, (fun _ h => by cases h), (fun _ h => by cases h), fun i j c x u hc => by simp at hc⟩, ?_⟩
      cases A with
      | none => exact Src.ofNil w hT c
      | some a => exact Src.ofSlice w hT a 0 c [] (by simp) (fun j u hu => by simp at hu) (fun u hu => by cases hu)
    · have ho : o < L := by have := hvo.ol; omega
      obtain ⟨g, cap, p1, rfl, p3⟩ := c4 ho
      have hne : cs ≠ [] := fun e => by subst e; simp at h3; omega
      obtain ⟨g', cap', cur, r1, r2, r3, r4, r5, r6, r7, r8, r9⟩ := vec_real hi h2 hne
      rw [r2] at p1
      cases p1
      have hwid := vec_wid hi h2
      have hcell : ∀ q, q < len * k → o * k + q < cur.size := fun q hq => by
        have h1 : (o + len) * k ≤ cap * k := Nat.mul_le_mul_right k (by have := hvo.ol; omega)
        rw [Nat.add_mul] at h1
        rw [r7]; omega
      have hys : ∀ i, i < len → ys[i]? = cs[o + i]? := fun i hi' => by rw [h4, List.getElem?_take_of_lt hi', List.getElem?_drop]
      have hone : ∀ q, q < len * k → (cur.getD (o * k + q) undef).oneCell' = true := fun q hq => by
        have hki : q / k < len := Nat.div_lt_of_lt_mul (by rw [Nat.mul_comm]; exact hq)
        have hkj : q % k < k := Nat.mod_lt _ hk0
        obtain ⟨d, hcs⟩ : ∃ d, cs[o + q / k]? = some d := ⟨_, List.getElem?_eq_getElem (by have := hvo.ol; omega)⟩
        have hcw := hwid _ (List.mem_of_getElem? hcs)
        obtain ⟨x, hx⟩ : ∃ x, d[q % k]? = some x := ⟨_, List.getElem?_eq_getElem (by rw [hcw]; exact hkj)⟩
        have e1 : (o + q / k) * k + q % k = o * k + q := by
          rw [Nat.add_mul]
          have := Nat.div_add_mod q k
          rw [Nat.mul_comm] at this
          omega
        have hu' : cur[(o + q / k) * k + q % k]? = some (cur.getD (o * k + q) undef) := by
          rw [e1]; simp [Array.getD, hcell q hq]
        refine (r9 _ _ _ _ _ hcs hx hu').cellB ?_
        have hmem : d ∈ ys := List.mem_of_getElem? ((hys _ hki).trans hcs)
        have := h5 _ hmem
        rw [List.all_eq_true] at this
        exact this _ (List.mem_of_getElem? hx)
      refine ⟨(List.range (len * k)).map fun q => cur.getD (o * k + q) undef, ⟨by rw [hyl]; simp, fun c hc => hwid c ?_, fun u hu => ?_, fun i j c x u hc hx hu => ?_⟩, ?_⟩
      · rw [h4] at hc; exact List.mem_of_mem_drop (List.mem_of_mem_take hc)
      · obtain ⟨q, hq, rfl⟩ := List.mem_map.1 hu
        exact hone q (List.mem_range.1 hq)
      · have hil : i < len := by rw [← hyl]; exact (List.getElem?_eq_some_iff.1 hc).1
        rw [hys i hil] at hc
        have hjk : j < k := by rw [← hwid c (List.mem_of_getElem? hc)]; exact (List.getElem?_eq_some_iff.1 hx).1
        have hlt : i * k + j < len * k := mul_lt_of hil hjk
        rw [List.getElem?_map, List.getElem?_range hlt] at hu
        simp only [Option.map_some, Option.some.injEq] at hu
        refine r9 (o + i) j c x u hc hx ?_
        rw [← hu, show (o + i) * k + j = o * k + (i * k + j) by rw [Nat.add_mul]; omega]
        simp [Array.getD, hcell _ hlt]
      · rw [hyl]
        refine Src.ofSlice w hT _ len c _ (by simp) (fun j u hu => ?_) (fun u hu => ?_)
        · rw [add_off, cell_of_row w g _ cur e (0, 0) r4]
          rw [List.getElem?_map] at hu
          by_cases hj : j < len * k
          · rw [List.getElem?_range hj] at hu
            simp only [Option.map_some, Option.some.injEq] at hu
            rw [← hu]; simp [Array.getD, hcell _ hj]
          · rw [List.getElem?_eq_none (by simp; omega)] at hu; cases hu
        · obtain ⟨q, hq, rfl⟩ := List.mem_map.1 hu
          exact hone q (List.mem_range.1 hq)
theorem RdV.keep {G' : Gh} {w' : World} {k : Nat} {ys : List (List AV)} {us : List Value} (h : RdV G w k ys us) (hE : Ext G.N G w G' w') (hN : G.N ≤ G'.N) : RdV G' w' k ys us :=
  ⟨h.len, h.wid, h.one, fun i j c x u h1 h2 h3 => (h.rel i j c x u h1 h2 h3).keep hE hN⟩
theorem getElem_app_cells {α : Type} {k : Nat} (l : List α) (us : List α) (m i j : Nat) (hl : l.length = m * k) (hj : j < k) : (l ++ us)[i * k + j]? = if i < m then l[i * k + j]? else us[(i - m) * k + j]? := by
  by_cases h : i < m
  · rw [if_pos h, List.getElem?_append_left (by rw [hl]; exact mul_lt_of h hj)]
  · have h1 : m * k ≤ i * k := Nat.mul_le_mul_right k (by omega)
    rw [if_neg h, List.getElem?_append_right (by rw [hl]; omega), hl, Nat.sub_mul, show i * k + j - m * k = i * k - m * k + j by omega]
theorem vec_fresh {e k cap : Nat} {cs : List (List AV)} {cur : Array Value} (hi : Inv G w h) (h1 : cs.length ≤ cap) (h2 : cap ≤ maxLen) (h3 : cur.size = cap * k) (hwid : ∀ c ∈ cs, c.length = k) (w0 : World) (hw0 : w0.heap = w.heap ∧ w0.os = w.os ∧ w0.tape = w.tape ∧ w0.output = w.output)
    (hrel : ∀ (i j : Nat) (c : List AV) (x : AV) (u : Value), cs[i]? = some c → c[j]? = some x → cur[i * k + j]? = some u → VRel G w u x) :
    ∃ G', Ext G.N G w G' (w0.alloc (.cells cur e)) ∧ G.N ≤ G'.N ∧ Inv G' (w0.alloc (.cells cur e)) (h ++ [.vec e k cs]) ∧ ∀ len, len ≤ cs.length → VRel G' (w0.alloc (.cells cur e)) (.slice (some ⟨w.heap.size, 0, none⟩) len cap) (.vec h.length 0 len cs.length k) := by
  have hsz : w0.heap.size = w.heap.size := by rw [hw0.1]
  have hnew : (w0.alloc (.cells cur e)).heap[w.heap.size]? = some (.cells cur e (0, 0)) := by rw [← hsz]; exact World.alloc_heap_new w0 _
  have hold : ∀ b, b < w.heap.size → (w0.alloc (.cells cur e)).heap[b]? = w.heap[b]? := fun b hb => by rw [Below.heap_alloc w0 _ b (by rw [hsz]; exact hb), hw0.1]
  have hw : (∀ b, b < w.heap.size → (w0.alloc (.cells cur e)).heap[b]? = w.heap[b]?) ∧ w.heap.size ≤ (w0.alloc (.cells cur e)).heap.size ∧ (w0.alloc (.cells cur e)).os = w.os ∧ (w0.alloc (.cells cur e)).tape = w.tape ∧ (w0.alloc (.cells cur e)).output = w.output :=
    ⟨hold, by simp [hsz], hw0.2.1, hw0.2.2.1, hw0.2.2.2⟩
  obtain ⟨sv, hsv⟩ : ∃ sv, sv = Value.slice (some ⟨w.heap.size, 0, none⟩) cs.length cap := ⟨_, rfl⟩
  obtain ⟨hE0, _⟩ : Ext G.N G w (G.addV sv cs.length (some w.heap.size)) (w0.alloc (.cells cur e)) ∧ True := by
    refine ⟨⟨hw.2.1, fun _ _ h => h, fun b o hs => World.cell?_of_block (hw.1 b (hi.S b o hs)), fun _ _ => rfl, fun n hn => .inl ⟨by simp [Gh.addV, Nat.ne_of_lt hn], by simp [Gh.addV, Nat.ne_of_lt hn]⟩, zsame rfl, fun b hb => hw.1 b (hi.z b hb), hw.2.2.1, hw.2.2.2.1, hw.2.2.2.2, fun _ _ h => .inl h⟩, trivial⟩
  obtain ⟨hE, hI⟩ := inv_new (w' := w0.alloc (.cells cur e)) hi (.vec e k cs) (fun _ _ => rfl) sv cs.length (some w.heap.size) hw (fun g hg => by cases hg; exact Nat.le_refl _) (by
    refine ⟨by simp [Gh.addV], Nat.le_trans h1 h2, hwid, .inr ⟨w.heap.size, cap, cur, by simp [Gh.addV], by simp [Gh.addV, hsv], fun hz => Nat.lt_irrefl _ (hi.z _ hz), hnew, h1, h2, h3, fun o hs => Nat.lt_irrefl _ (hi.S _ _ hs), fun i j c x u hc hx hu => (hrel i j c x u hc hx hu).keep hE0 (Nat.le_succ _)⟩⟩)
  refine ⟨_, hE, Nat.le_succ _, hI, fun len hlen => ?_⟩
  rw [hi.len]
  refine .vec G.N 0 len cs.length k (by simp [Gh.addV]) ⟨_, _, _, rfl⟩ (by simp [Gh.addV]) fun _ => ⟨by omega, ⟨_, _, rfl, Nat.le_trans hlen h1, h2, h1, fun _ => ⟨w.heap.size, cap, by simp [Gh.addV, hsv], by simp, by simp⟩⟩, fun _ e => by subst e; simp [Gh.addV, hsv]⟩
theorem run_vmake {T e k len m by_ : Nat} {i : TypeInfo} {z : Value} {kl kc : IntKind} {l c : Int} (hi : Inv G w h) (hT : P.underlying T = some (.slice e)) (hinf : P.info? e = some i) (hz : i.zero = some z) (hik : i.size = k) (hib : i.bytes = by_) (hzs : z.cells.toList.length = k) (hk0 : 0 < k)
    (h0 : 0 ≤ l) (hlc : l ≤ c) (hl : l.toNat = len) (hc : c.toNat = m) (hm : m ≤ maxLen) (hb : by_ * m ≤ 281474976710656) :
    ∃ u w' G', (Instr.makeSlice T (.int kl l) (.int kc c)).run P w = .ok u w' ∧ Ext G.N G w G' w' ∧ G.N ≤ G'.N ∧ Inv G' w' (h ++ [.vec e k (List.replicate m (z.cells.toList.map fun u => .d (.v u)))]) ∧ VRel G' w' u (.vec h.length 0 len m k) := by
  subst hik
  subst hib
  have hb' : (i.bytes : Int) * c ≤ 281474976710656 := by
    have : ((i.bytes * m : Nat) : Int) ≤ 281474976710656 := by omega
    rw [Int.natCast_mul, ← hc, Int.toNat_of_nonneg (by omega)] at this
    exact this
  have h63 : c ≤ 9223372036854775807 := by have h := hm; simp [maxLen] at h; omega
  have hrun := run_make (P := P) w T e i z hT hinf hz kl kc l c h0 hlc hb' h63
  rw [hl, hc] at hrun
  have hcl : (List.replicate m (z.cells.toList.map fun u => AV.d (.v u))).length = m := List.length_replicate
  obtain ⟨G', g1, g2, g3, g4⟩ := vec_fresh (e := e) (k := i.size) (cap := m) (cs := List.replicate m (z.cells.toList.map fun u => AV.d (.v u))) (cur := madeCells z.cells (m * i.size)) hi (by rw [hcl]; exact Nat.le_refl _) hm (size_madeCells _ _) (fun c hc => by
    rw [List.eq_of_mem_replicate hc, List.length_map]; exact hzs) w ⟨rfl, rfl, rfl, rfl⟩ (fun a b c x u hc hx hu => by
    have := List.eq_of_mem_replicate (List.mem_of_getElem? hc)
    subst this
    rw [List.getElem?_map] at hx
    cases hq : z.cells.toList[b]? with
    | none => rw [hq] at hx; cases hx
    | some y =>
      rw [hq] at hx
      cases hx
      have hbk : b < i.size := by rw [← hzs]; exact (List.getElem?_eq_some_iff.1 hq).1
      have ham : a < m := by have := (List.getElem?_eq_some_iff.1 hc).1; rwa [hcl] at this
      unfold madeCells at hu
      have hlt : a * i.size + b < m * i.size := mul_lt_of ham hbk
      rw [Array.getElem?_map, Array.getElem?_range, if_pos hlt] at hu
      simp only [Option.map_some, Option.some.injEq] at hu
      have hzz : z.cells.size = i.size := by rw [← Array.length_toList]; exact hzs
      rw [hzz, (divmod_of (i := a) hbk).2] at hu
      have hq2 : z.cells[b]? = some y := by rw [← Array.getElem?_toList]; exact hq
      rw [getElem!_pos z.cells b (by rw [hzz]; exact hbk)] at hu
      rw [Array.getElem?_eq_getElem (by rw [hzz]; exact hbk)] at hq2
      cases hq2
      subst hu
      exact .d (.v _))
  rw [hcl] at g4
  refine ⟨_, _, G', hrun, g1, g2, g3, g4 len ?_⟩
  rw [← hl, ← hc]; omega
theorem run_vapp {T tx ty e k by_ n o len L : Nat} {i : TypeInfo} {z : Value} {u v : Value} {cs ys : List (List AV)} {us : List Value} (hi : Inv G w h) (hT : P.underlying T = some (.slice e)) (hinf : P.info? e = some i) (hz : i.zero = some z) (hik : i.size = k) (hib : i.bytes = by_) (hzs : z.cells.size = k) (hk0 : 0 < k)
    (hn : h[n]? = some (.vec e k cs)) (hL : cs.length = L) (hu : VRel G w u (.vec n o len L k)) (hr : RdV G w k ys us) (hs : Src P k tx v ys.length us w)
    {L' : Nat} {cs' : List (List AV)} (hway : (o + len + ys.length ≤ L ∧ L' = L ∧ cs' = cs.take (o + len) ++ ys ++ cs.drop (o + len + ys.length)) ∨ (o = 0 ∧ len = L ∧ L' = L + ys.length ∧ cs' = cs ++ ys ∧ L' ≤ maxLen ∧ L' * by_ ≤ 140737488355328)) :
    ∃ r w' G', (Builtin.append_ #[T, tx] ty #[u, v]).run P w = .ok r w' ∧ Ext G.N G w G' w' ∧ G.N ≤ G'.N ∧ Inv G' w' (h.set n (.vec e k cs')) ∧ VRel G' w' r (.vec n o (len + ys.length) L' k) := by
  subst hik
  subst hib
  have hnN := hi.lt hn
  have hwid := vec_wid hi hn
  have hvo := hu.vecOK hi hn hL
  have hb0 := hi.blk n _ hn
  have hvo' := hvo
  obtain ⟨hol, ⟨A, c, rfl, c1, c2, c3, c4⟩, call⟩ := hvo
  by_cases hy : ys.length = 0
  · have hys : ys = [] := List.eq_nil_of_length_eq_zero hy
    subst hys
    have hus : us = [] := List.eq_nil_of_length_eq_zero (by rw [hr.len]; simp)
    subst hus
    have hrun := run_append_nothing (P := P) w T tx ty e i hT hinf A len c c1 v hs
    have e1 : cs' = cs := by
      rcases hway with ⟨_, _, e⟩ | ⟨_, _, _, e, _⟩
      · rw [e]; simp
      · rw [e]; simp
    have e2 : L' = L := by
      rcases hway with ⟨_, e, _⟩ | ⟨_, _, e, _⟩
      · exact e
      · rw [e]; simp
    subst e1
    subst e2
    refine ⟨_, w, G, hrun, Ext.refl _ _ _, Nat.le_refl _, ?_, by simpa using hu⟩
    have : h.set n (.vec e i.size cs') = h := by
      refine List.ext_getElem? fun m => ?_
      by_cases em : m = n
      · subst em; rw [List.getElem?_set_self (List.getElem?_eq_some_iff.1 hn).1, hn]
      · rw [List.getElem?_set_ne (Ne.symm em)]
    rw [this]; exact hi
  · have hy0 : 0 < ys.length := Nat.pos_of_ne_zero hy
    -- there is room
    have room : len + ys.length ≤ c → ∀ g cap cur, G.ow n = some g → G.sg n = .slice (some ⟨g, 0, none⟩) cs.length cap → ¬ G.Z g → w.heap[g]? = some (.cells cur e (0, 0)) → cs.length ≤ cap → cap ≤ maxLen → cur.size = cap * i.size → (∀ o, ¬ G.S g o) →
        (∀ (a b : Nat) (d : List AV) (x : AV) (q : Value), cs[a]? = some d → d[b]? = some x → cur[a * i.size + b]? = some q → VRel G w q x) → A = some ⟨g, o * i.size, none⟩ → o + c = cap →
        ∃ r w' G', (Builtin.append_ #[T, tx] ty #[.slice A len c, v]).run P w = .ok r w' ∧ Ext G.N G w G' w' ∧ G.N ≤ G'.N ∧ Inv G' w' (h.set n (.vec e i.size cs')) ∧ VRel G' w' r (.vec n o (len + ys.length) L' i.size) := by
      intro hroom g cap cur r1 r2 r3 r4 r5 r6 r7 r8 r9 rA rc
      have hfit : (o + len) * i.size + us.length ≤ cur.size := by
        rw [hr.len, r7, ← Nat.add_mul]; exact Nat.mul_le_mul_right _ (by omega)
      have hsome : ∀ j, j < us.length → (w.cell? ⟨g, o * i.size + len * i.size + j, none⟩).isSome = true := fun j hj => by
        rw [cell_of_row w g _ cur e (0, 0) r4, Array.getElem?_eq_getElem (by rw [Nat.add_mul] at hfit; omega)]; rfl
      have hrun := run_append_room_src (P := P) w T tx ty e i hT hinf g (o * i.size) len c v ys.length us hs hroom hsome (fun j hj => by unfold World.frozen?; rw [r4]; simp)
      have hst := run_storeCells_at P g (o * i.size + len * i.size) e us 0 cur w r4 (by rw [Nat.add_mul] at hfit; simpa using hfit) hr.one
      have hst2 := run_storeCells_cells (P := P) g (o * i.size + len * i.size) us 0 w (by simpa using hsome) (fun j hj => by unfold World.frozen?; rw [r4]; simp) hr.one
      simp only [Nat.add_zero] at hst hst2
      rw [hst] at hst2
      injection hst2 with _ e2
      rw [← e2, ← Nat.add_mul] at hrun
      rw [rA]
      -- the new cells
      have hnew : ∀ (a b : Nat) (d : List AV) (x : AV) (q : Value), cs'[a]? = some d → d[b]? = some x → (if (o + len) * i.size ≤ a * i.size + b ∧ a * i.size + b < (o + len) * i.size + us.length then us[a * i.size + b - (o + len) * i.size]? else cur[a * i.size + b]?) = some q → VRel G w q x := by
        intro a b d x q hd hx hq
        have hdk : d.length = i.size := by
          have hm := List.mem_of_getElem? hd
          rcases hway with ⟨_, _, e⟩ | ⟨_, _, _, e, _⟩
          · rw [e] at hm
            rcases List.mem_append.1 hm with hm | hm
            · rcases List.mem_append.1 hm with hm | hm
              · exact hwid d (List.mem_of_mem_take hm)
              · exact hr.wid d hm
            · exact hwid d (List.mem_of_mem_drop hm)
          · rw [e] at hm
            rcases List.mem_append.1 hm with hm | hm
            · exact hwid d hm
            · exact hr.wid d hm
        have hbk : b < i.size := by rw [← hdk]; exact (List.getElem?_eq_some_iff.1 hx).1
        -- which element
        have hcase : (a < o + len ∧ cs[a]? = some d) ∨ (o + len ≤ a ∧ a < o + len + ys.length ∧ ys[a - (o + len)]? = some d) ∨ (o + len + ys.length ≤ a ∧ cs[a]? = some d) := by
          rcases hway with ⟨hf, _, e⟩ | ⟨e0, e1, _, e, _⟩
          · rw [e] at hd
            have htl : (cs.take (o + len)).length = o + len := by rw [List.length_take]; omega
            by_cases h1 : a < o + len
            · rw [List.append_assoc, List.getElem?_append_left (by rw [htl]; exact h1), List.getElem?_take_of_lt h1] at hd
              exact .inl ⟨h1, hd⟩
            · rw [List.append_assoc, List.getElem?_append_right (by rw [htl]; omega), htl] at hd
              by_cases h2 : a - (o + len) < ys.length
              · rw [List.getElem?_append_left h2] at hd
                exact .inr (.inl ⟨by omega, by omega, hd⟩)
              · rw [List.getElem?_append_right (by omega), List.getElem?_drop, show o + len + ys.length + (a - (o + len) - ys.length) = a by omega] at hd
                exact .inr (.inr ⟨by omega, hd⟩)
          · rw [e] at hd
            by_cases h1 : a < cs.length
            · rw [List.getElem?_append_left h1] at hd
              exact .inl ⟨by omega, hd⟩
            · rw [List.getElem?_append_right (by omega)] at hd
              have := (List.getElem?_eq_some_iff.1 hd).1
              exact .inr (.inl ⟨by omega, by omega, by rw [show a - (o + len) = a - cs.length by omega]; exact hd⟩)
        rcases hcase with ⟨h1, h2⟩ | ⟨h1, h2, h3⟩ | ⟨h1, h2⟩
        · rw [if_neg (by have := mul_lt_of h1 hbk; omega)] at hq
          exact r9 a b d x q h2 hx hq
        · have hle : (o + len) * i.size ≤ a * i.size := Nat.mul_le_mul_right _ h1
          have hlt : a * i.size + b < (o + len + ys.length) * i.size := mul_lt_of h2 hbk
          rw [Nat.add_mul (o + len)] at hlt
          rw [if_pos ⟨by omega, by rw [hr.len]; exact hlt⟩] at hq
          refine hr.rel (a - (o + len)) b d x q h3 hx ?_
          rw [Nat.sub_mul, show a * i.size - (o + len) * i.size + b = a * i.size + b - (o + len) * i.size by omega]
          exact hq
        · have hle : (o + len + ys.length) * i.size ≤ a * i.size := Nat.mul_le_mul_right _ h1
          rw [Nat.add_mul (o + len)] at hle
          rw [if_neg (by rw [hr.len]; omega)] at hq
          exact r9 a b d x q h2 hx hq
      have hwid' : ∀ d ∈ cs', d.length = i.size := fun d hm => by
        rcases hway with ⟨_, _, e⟩ | ⟨_, _, _, e, _⟩
        · rw [e] at hm
          rcases List.mem_append.1 hm with hm | hm
          · rcases List.mem_append.1 hm with hm | hm
            · exact hwid d (List.mem_of_mem_take hm)
            · exact hr.wid d hm
          · exact hwid d (List.mem_of_mem_drop hm)
        · rw [e] at hm
          rcases List.mem_append.1 hm with hm | hm
          · exact hwid d hm
          · exact hr.wid d hm
      rcases hway with ⟨hf, eL, ec⟩ | ⟨e0, e1, eL, ec, hm1, hm2⟩
      · have hcl : cs'.length = cs.length := by rw [ec]; simp; omega
        obtain ⟨G', k1, k2, k3, k4, k5⟩ := vec_write (us := us) (off := (o + len) * i.size) (cs' := cs') hi hn hk0 r1 r2 r3 r4 r5 r6 r7 r8 hfit hcl hwid' hnew
        refine ⟨_, _, G', hrun, k1, by rw [k2]; exact Nat.le_refl _, k3, ?_⟩
        refine .vec n o (len + ys.length) L' i.size (by rw [k2]; exact hnN) ⟨_, _, _, rfl⟩ (by rw [k5, eL, hb0.1, hL]; exact Nat.le_refl _) fun _ => ?_
        rw [k4]
        refine ⟨by omega, ⟨_, _, rfl, hroom, c2, by omega, fun ho => ?_⟩, fun ho hl => ?_⟩
        · rw [eL] at ho ⊢
          obtain ⟨g2, cap2, q1, q2, q3⟩ := c4 ho
          exact ⟨g2, cap2, q1, by rw [← q2, rA], q3⟩
        · subst ho
          rw [r2, hL, ← eL, ← hl]
          simp at rc
          subst rc
          simp
      · subst e0
        subst e1
        simp only [Nat.zero_add, Nat.zero_mul] at *
        subst rc
        obtain ⟨w', hw'⟩ : ∃ w', w' = w.setRow g (cur.toList.take (len * i.size) ++ us ++ cur.toList.drop (len * i.size + us.length)).toArray := ⟨_, rfl⟩
        rw [← hw'] at hrun
        have hoth : ∀ b, b ≠ g → w'.heap[b]? = w.heap[b]? := fun b hb => by rw [hw']; exact setRow_other w g b _ hb
        have hrow : w'.heap[g]? = some (.cells (cur.toList.take (len * i.size) ++ us ++ cur.toList.drop (len * i.size + us.length)).toArray e (0, 0)) := by rw [hw']; exact setRow_heap w g cur _ e _ r4
        have hsz : w'.heap.size = w.heap.size := by rw [hw']; exact setRow_size w g _
        obtain ⟨sv, hsv⟩ : ∃ sv, sv = Value.slice (some ⟨g, 0, none⟩) L' c := ⟨_, rfl⟩
        have hcl : cs'.length = L' := by rw [ec, List.length_append, hL, eL]
        have hfl : G.fl n = len := by rw [hb0.1, hL]
        have hE : Ext G.N G w (G.grow n G.S sv L' (some g)) w' := ⟨by rw [hsz]; exact Nat.le_refl _, fun _ _ h => h, fun b q hs => World.cell?_of_block (hoth b (fun e => r8 q (e ▸ hs))), fun _ _ => rfl, fun m _ => by
            by_cases em : m = n
            · right; subst em; simp only [Gh.grow, if_true, hfl]; omega
            · left; exact ⟨by simp [Gh.grow, em], by simp [Gh.grow, em]⟩, zsame rfl, fun b hb => hoth b (fun e => r3 (e ▸ hb)), by rw [hw']; rfl, by rw [hw']; rfl, by rw [hw']; rfl, fun b q hs => .inl hs⟩
        refine ⟨_, w', _, hrun, hE, Nat.le_refl _, inv_upd hi hn (fun _ => rfl) (fun _ => rfl) _ _ _ _ hE (fun g' hg' => by cases hg'; exact ⟨.inr r1, by rw [hsz]; exact (Array.getElem?_eq_some_iff.1 r4).1⟩) (fun b q hs => .inl hs) (fun b _ hb' => hoth b (fun e => hb' (by rw [e]))) ?_, ?_⟩
        · refine ⟨by simp [Gh.grow, hcl], by rw [hcl]; exact hm1, hwid', .inr ⟨g, c, _, by simp [Gh.grow], by simp [Gh.grow, hsv, hcl], r3, hrow, by rw [hcl]; omega, r6, by rw [row_size _ _ _ hfit]; exact r7, r8, fun a b d x q hd hx hq => ?_⟩⟩
          rw [row_get _ _ _ _ hfit] at hq
          exact (hnew a b d x q hd hx hq).keep hE (Nat.le_refl _)
        · refine .vec n 0 (len + ys.length) L' i.size hnN ⟨_, _, _, rfl⟩ (by simp [Gh.grow]) fun _ => ⟨by omega, ⟨_, _, rfl, hroom, c2, by omega, fun _ => ⟨g, c, by simp [Gh.grow, hsv], by simp, by simp⟩⟩, fun _ e => ?_⟩
          simp [Gh.grow, hsv, eL]
    rcases hb0.2.2.2 with ⟨b1, b2, A', b3⟩ | ⟨g, cap, cur, r1, r2, r3, r4, r5, r6, r7, r8, r9⟩
    · -- nothing yet: a new row
      subst b2
      simp at hL
      subst hL
      have ho : o = 0 := by omega
      have hl0 : len = 0 := by omega
      subst ho
      subst hl0
      have := call rfl rfl
      rw [b3] at this
      injection this with q1 _ q2
      subst q2
      rcases hway with ⟨hf, _, _⟩ | ⟨_, _, eL, ec, hm1, hm2⟩
      · omega
      · simp only [Nat.zero_add, List.nil_append] at eL ec
        subst ec
        rw [eL] at hm1 hm2
        have hsmall : cs'.length ≤ 9223372036854775807 := by simp only [maxLen] at hm1; omega
        have hold : (Builtin.firstCells i.size 0 (.slice A 0 0)).run P w.drew = .ok ([] : List Value).toArray w.drew := by
          cases A with
          | none => exact run_firstCells_none _ _ _ _ _
          | some a => exact run_firstCells_some _ _ _ _ _ _ [] (by simp) (fun j u hu => by simp at hu)
        have hrun := run_append_grow_src (P := P) w T tx ty e i z hT hinf hz A 0 0 [] hold v cs'.length us hs (by omega) (by omega) (growslice_fits (by omega) (by simpa using hm2))
        simp only [Nat.zero_add, List.nil_append] at hrun
        obtain ⟨cap, hcap⟩ : ∃ cap, cap = grownCap w cs'.length 0 e := ⟨_, rfl⟩
        have hge : cs'.length ≤ cap := by rw [hcap]; exact grownCap_ge _ _ _ _
        have hle : cap ≤ maxLen := by rw [hcap]; exact grownCap_le_maxLen _ _ _ _ hm1
        rw [← hcap] at hrun
        obtain ⟨cur, hcur⟩ : ∃ cur, cur = us.toArray ++ Builtin.zeroCells z.cells (cap - cs'.length) := ⟨_, rfl⟩
        rw [← hcur] at hrun
        have hcs : cur.size = cap * i.size := by
          have := size_zeroCells z.cells (cap - cs'.length)
          rw [hcur, Array.size_append, this, List.size_toArray, hr.len, hzs, ← Nat.add_mul]
          congr 1
          omega
        have hnew : (w.drew.alloc (.cells cur e)).heap[w.heap.size]? = some (.cells cur e (0, 0)) := World.alloc_heap_new w.drew _
        have hold2 : ∀ b, b < w.heap.size → (w.drew.alloc (.cells cur e)).heap[b]? = w.heap[b]? := fun b hb => Below.heap_alloc w.drew _ b hb
        obtain ⟨sv, hsv⟩ : ∃ sv, sv = Value.slice (some ⟨w.heap.size, 0, none⟩) L' cap := ⟨_, rfl⟩
        have hfl : G.fl n = 0 := by rw [hb0.1]; rfl
        have hE : Ext G.N G w (G.grow n G.S sv L' (some w.heap.size)) (w.drew.alloc (.cells cur e)) := ⟨by simp, fun _ _ h => h, fun b q hs => World.cell?_of_block (hold2 b (hi.S b q hs)), fun _ _ => rfl, fun m _ => by
            by_cases em : m = n
            · right; subst em; simp only [Gh.grow, if_true, hfl]; omega
            · left; exact ⟨by simp [Gh.grow, em], by simp [Gh.grow, em]⟩, zsame rfl, fun b hb => hold2 b (hi.z b hb), rfl, rfl, rfl, fun b q hs => .inl hs⟩
        refine ⟨_, _, _, hrun, hE, Nat.le_refl _, inv_upd hi hn (fun _ => rfl) (fun _ => rfl) _ _ _ _ hE (fun g' hg' => by cases hg'; exact ⟨.inl rfl, by simp⟩) (fun b q hs => .inl hs) (fun b hb _ => hold2 b hb) ?_, ?_⟩
        · refine ⟨by simp [Gh.grow, eL], hm1, hr.wid, .inr ⟨w.heap.size, cap, cur, by simp [Gh.grow], by simp [Gh.grow, hsv, eL], fun hz => Nat.lt_irrefl _ (hi.z _ hz), hnew, hge, hle, hcs, fun q hs => Nat.lt_irrefl _ (hi.S _ _ hs), fun a b d x q hd hx hq => ?_⟩⟩
          have hbk : b < i.size := by rw [← hr.wid d (List.mem_of_getElem? hd)]; exact (List.getElem?_eq_some_iff.1 hx).1
          have hlt : a * i.size + b < us.length := by rw [hr.len]; exact mul_lt_of (List.getElem?_eq_some_iff.1 hd).1 hbk
          rw [hcur, Array.getElem?_append_left (by simpa using hlt), List.getElem?_toArray] at hq
          exact (hr.rel a b d x q hd hx hq).keep hE (Nat.le_refl _)
        · rw [Nat.zero_add]
          refine .vec n 0 cs'.length L' i.size hnN ⟨_, _, _, rfl⟩ (by simp [Gh.grow]) fun _ => ⟨by omega, ⟨_, _, rfl, hge, hle, by omega, fun _ => ⟨w.heap.size, cap, by simp [Gh.grow, hsv], by simp, by simp⟩⟩, fun _ e => ?_⟩
          simp [Gh.grow, hsv, eL]
    · -- a row
      rcases hway with ⟨hf, eL, ec⟩ | ⟨e0, e1, eL, ec, hm1, hm2⟩
      · obtain ⟨g2, cap2, q1, q2, q3⟩ := c4 (by omega)
        rw [r2] at q1
        injection q1 with q4 _ q5
        cases q4
        subst q5
        exact room (by omega) g cap cur r1 r2 r3 r4 r5 r6 r7 r8 r9 q2 q3
      · have := call e0 e1
        rw [r2] at this
        injection this with q2 _ q3
        by_cases hroom : len + ys.length ≤ c
        · exact room hroom g cap cur r1 r2 r3 r4 r5 r6 r7 r8 r9 (by rw [q2, e0]; simp) (by omega)
        · subst e0
          subst q2
          subst q3
          rw [eL] at hm1 hm2
          have hsmall : L + ys.length ≤ 9223372036854775807 := by simp only [maxLen] at hm1; omega
          have holen : (cur.toList.take (len * i.size)).length = len * i.size := by
            rw [List.length_take, Array.length_toList, r7]
            exact Nat.min_eq_left (Nat.mul_le_mul_right _ c1)
          have hold : (Builtin.firstCells i.size len (.slice (some ⟨g, 0, none⟩) len c)).run P w.drew = .ok (cur.toList.take (len * i.size)).toArray w.drew :=
            run_firstCells_some _ _ _ _ _ _ _ holen (fun j q hq => by
              rw [add_off, Nat.zero_add]
              show w.cell? ⟨g, j, none⟩ = some q
              rw [cell_of_row w g _ cur e (0, 0) r4, ← Array.getElem?_toList]
              have hjl := (List.getElem?_eq_some_iff.1 hq).1
              rw [holen] at hjl
              rw [List.getElem?_take_of_lt hjl] at hq
              exact hq)
          have hrun := run_append_grow_src (P := P) w T tx ty e i z hT hinf hz (some ⟨g, 0, none⟩) len c _ hold v ys.length us hs (by omega) (by omega) (growslice_fits (by omega) (by rw [e1]; exact hm2))
          obtain ⟨cap, hcap⟩ : ∃ cap, cap = grownCap w (len + ys.length) c e := ⟨_, rfl⟩
          have hge : len + ys.length ≤ cap := by rw [hcap]; exact grownCap_ge _ _ _ _
          have hle : cap ≤ maxLen := by rw [hcap]; exact grownCap_le_maxLen _ _ _ _ (by rw [e1]; exact hm1)
          rw [← hcap] at hrun
          obtain ⟨cur2, hcur⟩ : ∃ cur2, cur2 = (cur.toList.take (len * i.size) ++ us).toArray ++ Builtin.zeroCells z.cells (cap - (len + ys.length)) := ⟨_, rfl⟩
          rw [← hcur] at hrun
          have hl2 : (cur.toList.take (len * i.size) ++ us).length = (len + ys.length) * i.size := by rw [List.length_append, holen, hr.len, ← Nat.add_mul]
          have hcs : cur2.size = cap * i.size := by
            have := size_zeroCells z.cells (cap - (len + ys.length))
            rw [hcur, Array.size_append, this, List.size_toArray, hl2, hzs, ← Nat.add_mul]
            congr 1
            omega
          have hnew : (w.drew.alloc (.cells cur2 e)).heap[w.heap.size]? = some (.cells cur2 e (0, 0)) := World.alloc_heap_new w.drew _
          have hold2 : ∀ b, b < w.heap.size → (w.drew.alloc (.cells cur2 e)).heap[b]? = w.heap[b]? := fun b hb => Below.heap_alloc w.drew _ b hb
          obtain ⟨sv, hsv⟩ : ∃ sv, sv = Value.slice (some ⟨w.heap.size, 0, none⟩) L' cap := ⟨_, rfl⟩
          have hfl : G.fl n = L := by rw [hb0.1, hL]
          have hcl : cs'.length = L' := by rw [ec, List.length_append, hL, eL]
          have hE : Ext G.N G w (G.grow n G.S sv L' (some w.heap.size)) (w.drew.alloc (.cells cur2 e)) := ⟨by simp, fun _ _ h => h, fun b q hs => World.cell?_of_block (hold2 b (hi.S b q hs)), fun _ _ => rfl, fun m _ => by
              by_cases em : m = n
              · right; subst em; simp only [Gh.grow, if_true, hfl]; omega
              · left; exact ⟨by simp [Gh.grow, em], by simp [Gh.grow, em]⟩, zsame rfl, fun b hb => hold2 b (hi.z b hb), rfl, rfl, rfl, fun b q hs => .inl hs⟩
          refine ⟨_, _, _, hrun, hE, Nat.le_refl _, inv_upd hi hn (fun _ => rfl) (fun _ => rfl) _ _ _ _ hE (fun g' hg' => by cases hg'; exact ⟨.inl rfl, by simp⟩) (fun b q hs => .inl hs) (fun b hb _ => hold2 b hb) ?_, ?_⟩
          · refine ⟨by simp [Gh.grow, hcl], by rw [hcl, eL]; exact hm1, fun d hd => ?_, .inr ⟨w.heap.size, cap, cur2, by simp [Gh.grow], by simp [Gh.grow, hsv, hcl], fun hz => Nat.lt_irrefl _ (hi.z _ hz), hnew, by rw [hcl]; omega, hle, hcs, fun q hs => Nat.lt_irrefl _ (hi.S _ _ hs), fun a b d x q hd hx hq => ?_⟩⟩
            · rw [ec] at hd
              rcases List.mem_append.1 hd with hd | hd
              · exact hwid d hd
              · exact hr.wid d hd
            · refine VRel.keep hE (Nat.le_refl _) ?_
              have hdk : d.length = i.size := by
                have hm := List.mem_of_getElem? hd
                rw [ec] at hm
                rcases List.mem_append.1 hm with hm | hm
                · exact hwid d hm
                · exact hr.wid d hm
              have hbk : b < i.size := by rw [← hdk]; exact (List.getElem?_eq_some_iff.1 hx).1
              have hal : a < len + ys.length := by
                have := (List.getElem?_eq_some_iff.1 hd).1
                rw [hcl, eL] at this; omega
              have hlt : a * i.size + b < (cur.toList.take (len * i.size) ++ us).length := by rw [hl2]; exact mul_lt_of hal hbk
              rw [hcur, Array.getElem?_append_left (by simpa using hlt), List.getElem?_toArray, getElem_app_cells _ us len a b holen hbk] at hq
              rw [ec] at hd
              by_cases h1 : a < len
              · rw [if_pos h1, List.getElem?_take_of_lt (mul_lt_of h1 hbk), Array.getElem?_toList] at hq
                rw [List.getElem?_append_left (by omega)] at hd
                exact r9 a b d x q hd hx hq
              · rw [if_neg h1] at hq
                rw [List.getElem?_append_right (by omega)] at hd
                exact hr.rel (a - len) b d x q (by rw [← hd]; congr 1; omega) hx hq
          · refine .vec n 0 (len + ys.length) L' i.size hnN ⟨_, _, _, rfl⟩ (by simp [Gh.grow]) fun _ => ⟨by omega, ⟨_, _, rfl, hge, hle, by omega, fun _ => ⟨w.heap.size, cap, by simp [Gh.grow, hsv], by simp, by simp⟩⟩, fun _ e => ?_⟩
            simp [Gh.grow, hsv, eL, e1]
theorem run_vnew {T tx ty e k by_ : Nat} {i : TypeInfo} {z : Value} {A : Option Addr} {v : Value} {ys : List (List AV)} {us : List Value} (hi : Inv G w h) (hT : P.underlying T = some (.slice e)) (hinf : P.info? e = some i) (hz : i.zero = some z) (hik : i.size = k) (hib : i.bytes = by_) (hzs : z.cells.size = k) (hk0 : 0 < k)
    (hr : RdV G w k ys us) (hs : Src P k tx v ys.length us w) (hm1 : ys.length ≤ maxLen) (hm2 : ys.length * by_ ≤ 140737488355328) :
    ∃ r w' G', (Builtin.append_ #[T, tx] ty #[.slice A 0 0, v]).run P w = .ok r w' ∧ Ext G.N G w G' w' ∧ G.N ≤ G'.N ∧ Inv G' w' (h ++ [.vec e k ys]) ∧ VRel G' w' r (.vec h.length 0 ys.length ys.length k) := by
  subst hik
  subst hib
  by_cases hy : ys.length = 0
  · have hys : ys = [] := List.eq_nil_of_length_eq_zero hy
    subst hys
    have hus : us = [] := List.eq_nil_of_length_eq_zero (by rw [hr.len]; simp)
    subst hus
    have hrun := run_append_nothing (P := P) w T tx ty e i hT hinf A 0 0 (Nat.le_refl _) v hs
    obtain ⟨hE, hI⟩ := inv_new (w' := w) hi (.vec e i.size []) (fun _ _ => rfl) (.slice A 0 0) 0 none ⟨fun _ _ => rfl, Nat.le_refl _, rfl, rfl, rfl⟩ (fun g hg => by cases hg) ⟨by simp [Gh.addV], by simp, (fun _ h => by cases h), .inl ⟨by simp [Gh.addV], rfl, A, by simp [Gh.addV]⟩⟩
    refine ⟨_, w, _, hrun, hE, Nat.le_succ _, hI, ?_⟩
    rw [hi.len]
    exact .vec G.N 0 0 0 i.size (by simp [Gh.addV]) ⟨_, _, _, rfl⟩ (by simp) fun _ => ⟨by omega, ⟨A, 0, rfl, Nat.le_refl _, Nat.zero_le _, by omega, fun h => by omega⟩, fun _ _ => by simp [Gh.addV]⟩
  · have hsmall : ys.length ≤ 9223372036854775807 := by simp only [maxLen] at hm1; omega
    have hold : (Builtin.firstCells i.size 0 (.slice A 0 0)).run P w.drew = .ok ([] : List Value).toArray w.drew := by
      cases A with
      | none => exact run_firstCells_none _ _ _ _ _
      | some a => exact run_firstCells_some _ _ _ _ _ _ [] (by simp) (fun j u hu => by simp at hu)
    have hrun := run_append_grow_src (P := P) w T tx ty e i z hT hinf hz A 0 0 [] hold v ys.length us hs (by omega) (by omega) (growslice_fits (by omega) (by simpa using hm2))
    simp only [Nat.zero_add, List.nil_append] at hrun
    obtain ⟨cap, hcap⟩ : ∃ cap, cap = grownCap w ys.length 0 e := ⟨_, rfl⟩
    have hge : ys.length ≤ cap := by rw [hcap]; exact grownCap_ge _ _ _ _
    have hle : cap ≤ maxLen := by rw [hcap]; exact grownCap_le_maxLen _ _ _ _ hm1
    rw [← hcap] at hrun
    obtain ⟨cur, hcur⟩ : ∃ cur, cur = us.toArray ++ Builtin.zeroCells z.cells (cap - ys.length) := ⟨_, rfl⟩
    rw [← hcur] at hrun
    have hcs : cur.size = cap * i.size := by
      have := size_zeroCells z.cells (cap - ys.length)
      rw [hcur, Array.size_append, this, List.size_toArray, hr.len, hzs, ← Nat.add_mul]
      congr 1
      omega
    obtain ⟨G', g1, g2, g3, g4⟩ := vec_fresh (e := e) (k := i.size) (cap := cap) (cs := ys) (cur := cur) hi hge hle hcs hr.wid w.drew ⟨rfl, rfl, rfl, rfl⟩ (fun a b d x q hd hx hq => by
      have hbk : b < i.size := by rw [← hr.wid d (List.mem_of_getElem? hd)]; exact (List.getElem?_eq_some_iff.1 hx).1
      have hlt : a * i.size + b < us.length := by rw [hr.len]; exact mul_lt_of (List.getElem?_eq_some_iff.1 hd).1 hbk
      rw [hcur, Array.getElem?_append_left (by simpa using hlt), List.getElem?_toArray] at hq
      exact hr.rel a b d x q hd hx hq)
    exact ⟨_, _, G', hrun, g1, g2, g3, g4 _ (Nat.le_refl _)⟩
end
end Go.Proofs.YtnedgkfefdldeaaGreatDoor

/-! AbsOp4: Why the small language's operations are right: the theorem on one operation. -/
namespace Go.Proofs.YtnedgkfefdldeaaGreatDoor
open Go.RowKit
section
variable {P : Program} {r : Option Nat} {n N0 : Nat} {G : Gh} {w : World} {a : Act} {s : St} {o : Oper} {K : St → Prop} {Q : Exit → Act → World → Prop}
theorem sat_args (hs : Sat G w a s) (l : Array Operand) : (l.map a.eval).size = (l.toList.map (ev s)).length ∧ ∀ (i : Nat) (u : Value) (c : AV), (l.map a.eval)[i]? = some u → (l.toList.map (ev s))[i]? = some c → VRel G w u c := by
  refine ⟨by simp, fun i u c hu hc => ?_⟩
  rw [Array.getElem?_map] at hu
  rw [List.getElem?_map, Array.getElem?_toList] at hc
  cases hx : l[i]? with
  | none => rw [hx] at hu; cases hu
  | some x => rw [hx] at hu hc; cases hu; cases hc; exact hs.ev x
theorem sat_parts (hs : Sat G w a s) (l : Array (Nat × Operand)) : (l.map fun (i, x) => (i, a.eval x)).toList.length = (l.toList.map fun p => (p.1, ev s p.2)).length ∧
    ∀ (i : Nat) (p : Nat × AV) (q : Nat × Value), (l.toList.map fun p => (p.1, ev s p.2))[i]? = some p → (l.map fun (i, x) => (i, a.eval x)).toList[i]? = some q → q.1 = p.1 ∧ VRel G w q.2 p.2 := by
  refine ⟨by simp, fun i p q hp hq => ?_⟩
  rw [Array.getElem?_toList, Array.getElem?_map] at hq
  rw [List.getElem?_map, Array.getElem?_toList] at hp
  cases hx : l[i]? with
  | none => rw [hx] at hp; cases hp
  | some x => rw [hx] at hp hq; cases hp; cases hq; exact ⟨rfl, hs.ev x.2⟩
theorem run_append_op {x y : Operand} {T U : TypeId} (c : Call) (hc : c.callee = .builtin .append) (h1 : c.args.toList = [x, y]) (h2 : c.argTypes.toList = [T, U]) (ho : o.op = .call c) :
    (execOp a.eval o).run P w = ((Builtin.append_ #[T, U] o.type #[a.eval x, a.eval y]).run P w).andThen fun v w' => .ok (.value v) w' := by
  have e1 : c.args = #[x, y] := by rw [← Array.toList_inj]; exact h1
  have e2 : c.argTypes = #[T, U] := by rw [← Array.toList_inj]; exact h2
  unfold execOp
  simp only [ho, resolve, hc, e1, e2, invoke, builtin, Sem.run_bind, Sem.run_pure, Result.andThen_ok, List.map_toArray, List.map_cons, List.map_nil]
theorem run_len_op {x : Operand} {T : TypeId} (c : Call) (hc : c.callee = .builtin .len) (h1 : c.args.toList = [x]) (h2 : c.argTypes.toList = [T]) (ho : o.op = .call c) :
    (execOp a.eval o).run P w = ((Builtin.len_ #[T] o.type #[a.eval x]).run P w).andThen fun v w' => .ok (.value v) w' := by
  have e1 : c.args = #[x] := by rw [← Array.toList_inj]; exact h1
  have e2 : c.argTypes = #[T] := by rw [← Array.toList_inj]; exact h2
  unfold execOp
  simp only [ho, resolve, hc, e1, e2, invoke, builtin, Sem.run_bind, Sem.run_pure, Result.andThen_ok, List.map_toArray, List.map_cons, List.map_nil]
theorem run_max_op (c : Call) (hc : c.callee = .builtin .max) (ho : o.op = .call c) :
    (execOp a.eval o).run P w = ((Builtin.max_ c.argTypes o.type (c.args.map a.eval)).run P w).andThen fun v w' => .ok (.value v) w' := by
  unfold execOp
  simp only [ho, resolve, hc, invoke, builtin, Sem.run_bind, Sem.run_pure, Result.andThen_ok]
theorem run_min_op (c : Call) (hc : c.callee = .builtin .min) (ho : o.op = .call c) :
    (execOp a.eval o).run P w = ((Builtin.min_ c.argTypes o.type (c.args.map a.eval)).run P w).andThen fun v w' => .ok (.value v) w' := by
  unfold execOp
  simp only [ho, resolve, hc, invoke, builtin, Sem.run_bind, Sem.run_pure, Result.andThen_ok]
theorem run_foldI1 {mx : Bool} {k k' : IntKind} {z : Int} : ∀ (l : List AV) (vs : List Value) (x : Int), vs.length = l.length → (∀ (i : Nat) (u : Value) (c : AV), vs[i]? = some u → l[i]? = some c → VRel G w u c) → foldI1 mx k x l = some (k', z) →
    (vs.foldlM (if mx then Builtin.max2 else Builtin.min2) (.int k x)).run P w = .ok (.int k' z) w
  | [], [], x, _, _, h => by cases h; simp
  | [], _ :: _, _, hl, _, _ => by simp at hl
  | _ :: _, [], _, hl, _, _ => by simp at hl
  | y :: l, u :: vs, x, hl, hr, h => by
    unfold foldI1 at h
    split at h
    · next e => cases e
    · next k2 b l' e =>
      cases e
      have e1 := (hr 0 u _ rfl rfl).val
      subst e1
      have ih := run_foldI1 l vs _ (by simpa using hl) (fun i u c hu hc => hr (i + 1) u c (by simpa using hu) (by simpa using hc)) h
      rw [List.foldlM_cons, Sem.run_bind]
      cases mx with
      | true => simp only [if_true, cond_true] at ih ⊢; simp only [Builtin.max2, Sem.run_pure, Result.andThen_ok]; exact ih
      | false => simp only [Bool.false_eq_true, if_false, cond_false] at ih ⊢; simp only [Builtin.min2, Sem.run_pure, Result.andThen_ok]; exact ih
    · cases h
theorem run_foldI {mx : Bool} {k : IntKind} {z : Int} {l : List AV} {vs : Array Value} (hl : vs.size = l.length) (hr : ∀ (i : Nat) (u : Value) (c : AV), vs[i]? = some u → l[i]? = some c → VRel G w u c) (h : foldI mx l = some (k, z)) :
    ∃ u us, vs.toList = u :: us ∧ (us.foldlM (if mx then Builtin.max2 else Builtin.min2) u).run P w = .ok (.int k z) w := by
  unfold foldI at h
  split at h
  · next k2 x l' =>
    cases hv : vs.toList with
    | nil => rw [← Array.length_toList, hv] at hl; simp at hl
    | cons u us =>
      refine ⟨u, us, rfl, ?_⟩
      have hr' : ∀ (i : Nat) (v : Value) (c : AV), (u :: us)[i]? = some v → (AV.d (.v (.int k2 x)) :: l')[i]? = some c → VRel G w v c := fun i v c h1 h2 => hr i v c (by rw [← Array.getElem?_toList, hv]; exact h1) h2
      have e1 := (hr' 0 u _ rfl rfl).val
      subst e1
      refine run_foldI1 l' us x ?_ (fun i v c h1 h2 => hr' (i + 1) v c (by simpa using h1) (by simpa using h2)) h
      rw [← Array.length_toList, hv] at hl; simpa using hl
  · cases h
theorem run_enter {f : FuncId} (h : enterB P f = true) (args : Array Value) (w : World) : (callFunc f args).run P w = .ok (.enter f args) w := by
  unfold enterB at h
  cases hq : P.funcs[f]? with
  | none => rw [hq] at h; simp at h
  | some fn =>
    rw [hq] at h
    simp only [Bool.and_eq_true, Bool.not_eq_true'] at h
    obtain ⟨h1, h2⟩ := h
    have h3 : fn.body ≠ none := by intro e; rw [e] at h1; cases h1
    have h4 : fn.name ≠ "runtime.NumGoroutine" := by simpa using h2
    simp [callFunc, hq, h4, h3]
theorem opX_sound (hs : Sat G w a s) (hN0 : N0 ≤ G.N) {x : AV} {h' : List Blk} {p : Sd} (hx : opX P o.op (ev s) s.h = some (x, h', p)) (hp : p.ok) (hK : K ((s.wh h').put o.dst x)) : o.wpIn (WF r) n P a w (NxT N0 G w K) Q := by
  have hev := hs.ev
  unfold opX at hx
  split at hx
  next T ho =>
    split at hx
    · next q hT =>
      cases hx
      obtain ⟨i1, i2, i3⟩ := inv_map_alloc hs.inv
      exact fin_val (by rw [ho]; simp) hs hN0 (v := .map (some w.heap.size)) (by unfold execOp; simp [ho, run_makeMap, Result.andThen]) i1 (Nat.le_succ _) i2 i3 hK
    · cases hx
  next T m i ok ho =>
    split at hx
    · next k e hT =>
      split at hx
      · next z hz =>
        split at hx
        · next b s' hm hi =>
          split at hx
          · next kv hn =>
            cases hc : strT P k && z.oneCell' with
            | false => rw [hc] at hx; cases hx
            | true =>
              rw [hc] at hx
              cases hx
              rw [Bool.and_eq_true] at hc
              obtain ⟨v, r1, r2⟩ := run_lookup (ok := ok) (s := s') hs.inv hT hz hc.1 hn
              have e1 := hev m
              rw [hm] at e1
              have e2 := hev i
              rw [hi] at e2
              have e2 := e2.val
              have e1' : a.eval m = .map (some (G.rho b)) := by
                generalize a.eval m = u at e1
                cases e1 with | mp _ _ => rfl
              exact fin_same (by rw [ho]; simp) hs hN0 (by unfold execOp; simp [ho, e1', e2, r1, Result.andThen]) r2 hK
          · cases hx
        · cases hx
      · cases hx
    · cases hx
  next T m i y ho =>
    split at hx
    · next k e hT =>
      split at hx
      · next b s' d hm hi hd =>
        split at hx
        · next kv hn =>
          cases hc : strT P k with
          | false => rw [hc] at hx; cases hx
          | true =>
            rw [hc] at hx
            cases hx
            obtain ⟨w', r1, r2, r3⟩ := run_mapUpd (s := s') hs.inv hT hc hn ((hev y).toD hd) hp
            have e1 := hev m
            rw [hm] at e1
            have e2 := hev i
            rw [hi] at e2
            have e2 := e2.val
            have e1' : a.eval m = .map (some (G.rho b)) := by
              generalize a.eval m = u at e1
              cases e1 with | mp _ _ => rfl
            exact fin_skip (by rw [ho]; simp) hs hN0 (by unfold execOp; simp [ho, e1', e2, r1, Result.andThen]) r2 (Nat.le_refl _) r3 hK
        · cases hx
      · cases hx
    · cases hx
  next => cases hx
theorem aop_sound (hs : Sat G w a s) (hN0 : N0 ≤ G.N) (h : aop P o K s) : o.wpIn (WF r) n P a w (NxT N0 G w K) Q := by
  have hev := hs.ev
  unfold aop aopC at h
  split at h
  next x ho => exact fin_same (by rw [ho]; simp) hs hN0 (v := a.eval x) (by unfold execOp; rw [ho]; rfl) (hev x) h
  next x ho => exact fin_same (by rw [ho]; simp) hs hN0 (v := a.eval x) (by unfold execOp; rw [ho]; rfl) (hev x) h
  next c x y ho =>
    split at h
    next t hc =>
      have hb := hev c
      rw [hc] at hb
      have e := hb.bool
      cases t with
      | true => exact fin_same (by rw [ho]; simp) hs hN0 (v := a.eval x) (by unfold execOp; simp [ho, e, asBool]) (hev x) (h.1 rfl)
      | false => exact fin_same (by rw [ho]; simp) hs hN0 (v := a.eval y) (by unfold execOp; simp [ho, e, asBool]) (hev y) (h.2 rfl)
    next => exact h.elim
  next e ho =>
    split at h
    next z hz =>
      obtain ⟨i1, i2⟩ := inv_alloc hs.inv z.cells e (z.cells.toList.map fun u => .d (.v u)) (by simp) (fun i u c hu hc => by
        rw [List.getElem?_map, Array.getElem?_toList, hu] at hc
        cases hc; exact .d (.v u))
      exact fin_val (by rw [ho]; simp) hs hN0 (by unfold execOp; simp [ho, Instr.alloc, run_zeroT hz, newVar, newRow]) (ext_alloc G w hs.inv.z hs.inv.S _) (Nat.le_succ _) i1 i2 h
    next => exact h.elim
  next e x ho =>
    obtain ⟨hb, hK⟩ := chk_iff.1 h
    have hr := (hev x).toRow hb
    obtain ⟨i1, i2⟩ := inv_alloc hs.inv (a.eval x).cells e (ev s x).cells hr.len hr.rel
    exact fin_val (by rw [ho]; simp) hs hN0 (by unfold execOp; simp [ho, Instr.box, newVar, newRow]) (ext_alloc G w hs.inv.z hs.inv.S _) (Nat.le_succ _) i1 i2 hK
  next t x ho =>
    obtain ⟨u, y, h1, h2, h3⟩ := run_aLoad hs.inv (hev x) h
    exact fin_same (by rw [ho]; simp) hs hN0 (by unfold execOp; simp [ho, h1]) h2 h3
  next t x y ho =>
    unfold aStore at h
    split at h
    next m off hm =>
      split at h
      next cs hcs =>
        split at h
        case h_2 => exact h.elim
        rename_i k hk
        obtain ⟨hall, h4⟩ := chk_iff.1 h
        simp only [Bool.and_eq_true, beq_iff_eq, leB_iff] at hall
        obtain ⟨⟨rfl, h2⟩, h3⟩ := hall
        have h1 := hk
        have hx := hev x
        rw [hm] at hx
        obtain ⟨w', r1, r2, r3⟩ := run_store_blk (P := P) hs.inv hcs (hev y) h2 h1 h3
        have ex : a.eval x = .pointer (some ⟨G.rho m, off, none⟩) := by
          generalize a.eval x = u at hx
          cases hx with
          | ptr => rfl
        exact fin_skip (by rw [ho]; simp) hs hN0 (by unfold execOp; simp [ho, Instr.storeAt, Instr.sureAddr, ex, r1]) r2 (Nat.le_refl _) r3 h4
      next => exact h.elim
    next => exact h.elim
  next x ho =>
    have hx := hev x
    split at h
    next m off hm =>
      rw [hm] at hx
      generalize ea : a.eval x = u at hx
      cases hx with
      | ptr _ _ hmN => exact fin_same (by rw [ho]; simp) hs hN0 (by unfold execOp; simp [ho, ea]) (.ptr m off hmN) h
    next xs i off hm =>
      rw [hm] at hx
      generalize ea : a.eval x = u at hx
      have hx2 := hx
      cases hx with
      | elt => exact fin_same (by rw [ho]; simp) hs hN0 (by unfold execOp; simp [ho, ea]) hx2 h
    next f cs hm =>
      rw [hm] at hx
      generalize ea : a.eval x = u at hx
      have hx2 := hx
      cases hx with
      | fn => exact fin_same (by rw [ho]; simp) hs hN0 (by unfold execOp; simp [ho, ea]) hx2 h
    next => exact h.elim
  next T x f ho =>
    split at h
    next fo k g hT =>
      have hx := hev x
      split at h
      next m off hm =>
        rw [hm] at hx
        generalize ea : a.eval x = u at hx
        cases hx with
        | ptr _ _ hmN => exact fin_same (by rw [ho]; simp) hs hN0 (by unfold execOp; simp [ho, ea, run_fieldAddr hT]) (.ptr m (off + fo) hmN) h
      next xs i off hm =>
        rw [hm] at hx
        generalize ea : a.eval x = u at hx
        cases hx with
        | elt _ _ _ b oo us c hx hS hu => exact fin_same (by rw [ho]; simp) hs hN0 (by unfold execOp; simp [ho, ea, run_fieldAddr hT]; rfl) (by rw [Nat.add_assoc]; exact .elt xs i (off + fo) b oo us c hx hS hu) h
      next => exact h.elim
    next => exact h.elim
  next T x f ho =>
    obtain ⟨u, y, h1, h2, h3⟩ := run_aField (hev x) h
    exact fin_same (by rw [ho]; simp) hs hN0 (by unfold execOp; simp [ho, h1]) h2 h3
  next T x i ho =>
    obtain ⟨u, y, h1, h2, h3⟩ := run_aIndexAddr (hev x) (hev i) h
    exact fin_same (by rw [ho]; simp) hs hN0 (by unfold execOp; simp [ho, h1]) h2 h3
  next T x i ho =>
    split at h
    next b z hb hz =>
      obtain ⟨hT, h0, h⟩ := chk_iff.1 h
      have hT := strT_spec hT
      have hx := hev x
      rw [hb] at hx
      have ex := hx.val
      obtain ⟨k, ei⟩ := (hev i).int hz
      split at h
      next c hc =>
        refine fin_same (by rw [ho]; simp) hs hN0 (v := .int .u8 c.toNat) ?_ (.d (.v _)) h
        unfold execOp
        simp [ho, Instr.index, ex, ei, asIntOf, run_underlying hT, h0, hc]
      next => exact h.elim
    next => exact h.elim
  next T ps ho =>
    obtain ⟨p1, p2⟩ := sat_parts hs ps
    obtain ⟨u, y, h1, h2, h3⟩ := run_aBuild p1 p2 h
    exact fin_same (by rw [ho]; simp) hs hN0 (by unfold execOp; simp only [ho, Sem.run_bind, h1]; rfl) h2 h3
  next T len ps ho =>
    obtain ⟨p1, p2⟩ := sat_parts hs ps
    obtain ⟨u, w', G', y, h1, h2, h3, h4, h5, h6⟩ := run_aBuildSlice (T := T) hs.inv p1 p2 h
    exact fin_val (by rw [ho]; simp) hs hN0 (by unfold execOp; simp only [ho, Sem.run_bind, h1]; rfl) h2 h3 h4 h5 h6
  next T x lo hi mx ho =>
    obtain ⟨u, y, h1, h2, h3⟩ := run_aSlice hs (hev x) h
    exact fin_same (by rw [ho]; simp) hs hN0 (by unfold execOp; simp [ho, h1]) h2 h3
  next x i ho =>
    have hx := hev x
    split at h
    next cs hcs =>
      rw [hcs] at hx
      generalize ea : a.eval x = u at hx
      split at h
      next c hc =>
        cases hx with
        | tup vs _ hl hr =>
          have hlt : i < vs.size := by rw [hl]; exact (List.getElem?_eq_some_iff.1 hc).1
          exact fin_same (by rw [ho]; simp) hs hN0 (v := vs[i]) (by unfold execOp; simp [ho, ea, Instr.extract, hlt]) (hr i _ c (Array.getElem?_eq_getElem hlt) hc) h
      next => exact h.elim
    next => exact h.elim
  next f first caps ho =>
    split at h
    case h_2 => exact h.elim
    rename_i hfirst
    have hfirst : first = #[] := by rw [← Array.toList_inj]; exact hfirst
    subst hfirst
    obtain ⟨p1, p2⟩ := sat_args hs caps
    exact fin_same (by rw [ho]; simp) hs hN0 (v := .func (.func f) #[] (caps.map a.eval)) (by unfold execOp; simp [ho, Instr.makeFunc]) (.fn f _ _ p1 p2) h
  next op T x y U ho =>
    obtain ⟨u, z, h1, h2, h3⟩ := run_aBin (X := x) (Y := y) (hev x) (hev y) h
    refine fin_same (by rw [ho]; simp) hs hN0 ?_ h2 h3
    unfold execOp
    simp only [ho]
    rw [Sem.run_bind, h1]
    rfl
  next op T x ho =>
    obtain ⟨u, z, h1, h2, h3⟩ := run_aUn (P := P) (hev x) h
    exact fin_same (by rw [ho]; simp) hs hN0 (by unfold execOp; simp [ho, h1]) h2 h3
  next t u x ho =>
    obtain ⟨u, z, h1, h2, h3⟩ := run_aConv (hev x) h
    exact fin_same (by rw [ho]; simp) hs hN0 (by unfold execOp; simp [ho, h1]) h2 h3
  next c ho =>
    have hnd : ∀ c, o.op ≠ .defer c := by rw [ho]; simp
    split at h
    next hc =>
      split at h
      next x T h1 h2 =>
        obtain ⟨m, r1, r2⟩ := run_aLen (ty := o.type) (hev x) h
        exact fin_same hnd hs hN0 (by rw [run_len_op c hc h1 h2 ho, r1]; rfl) (.d (.v _)) r2
      next => exact h.elim
    next hc =>
      split at h
      next x y T U h1 h2 =>
        obtain ⟨hU, h⟩ := chk_iff.1 h
        obtain ⟨⟨e', k'⟩, hU⟩ := Option.isSome_iff_exists.1 hU
        obtain ⟨p, w', G', q, h', r1, r2, r3, r4, r5, r6⟩ := run_aAppend (ty := o.type) hs.inv (hev x) (hev y) (elmT_spec hU).1 h
        exact fin_val hnd hs hN0 (by rw [run_append_op c hc h1 h2 ho, r1]; rfl) r2 r3 r4 r5 r6
      next => exact h.elim
    next hc =>
      split at h
      next k z hf =>
        obtain ⟨p1, p2⟩ := sat_args hs c.args
        obtain ⟨u, us, e1, e2⟩ := run_foldI (P := P) p1 p2 hf
        refine fin_same hnd hs hN0 (v := .int k z) ?_ (.d (.v _)) h
        rw [run_max_op c hc ho]
        unfold Builtin.max_
        rw [e1]
        simp only [if_true] at e2
        rw [e2]; rfl
      next => exact h.elim
    next hc =>
      split at h
      next k z hf =>
        obtain ⟨p1, p2⟩ := sat_args hs c.args
        obtain ⟨u, us, e1, e2⟩ := run_foldI (P := P) p1 p2 hf
        refine fin_same hnd hs hN0 (v := .int k z) ?_ (.d (.v _)) h
        rw [run_min_op c hc ho]
        unfold Builtin.min_
        rw [e1]
        simp only [Bool.false_eq_true, if_false] at e2
        rw [e2]; rfl
      next => exact h.elim
    next f hc =>
      have call : ∀ (g : FuncId) (caps : List AV) (vs : Array Value), a.eval f = .func (.func g) #[] vs → vs.size = caps.length → (∀ (i : Nat) (u : Value) (c : AV), vs[i]? = some u → caps[i]? = some c → VRel G w u c) →
          ACalls P g (c.args.toList.map (ev s) ++ caps) s.h (fun r h' => K ((s.wh h').put o.dst r)) → o.wpIn (WF r) n P a w (NxT N0 G w K) Q := by
          intro g caps vs ea hl hr h
          obtain ⟨p1, p2⟩ := sat_args hs c.args
          obtain ⟨hent, hcall⟩ := h
          have hargs := hcall G w (c.args.map a.eval ++ vs) hs.inv (by rw [Array.size_append, List.length_append, p1, hl]) (fun i u x hu hx => by
            by_cases hi : i < (c.args.map a.eval).size
            · rw [Array.getElem?_append_left hi] at hu
              rw [List.getElem?_append_left (by rw [← p1]; exact hi)] at hx
              exact p2 i u x hu hx
            · rw [Array.getElem?_append_right (by omega)] at hu
              rw [List.getElem?_append_right (by rw [← p1]; omega)] at hx
              rw [p1] at hu
              exact hr _ u x hu hx)
          refine ⟨fun _ _ => trivial, ?_⟩
          have hrun : (o.semAt (WF r).round a.eval).run P w = .ok (.enter g (c.args.map a.eval ++ vs)) w := by
            rw [Oper.semAt_eq _ _ _ hnd]
            unfold execOp
            simp only [ho, resolve, hc, ea]
            simp [Deferred.ofValue, invoke, run_enter hent]
          rw [hrun]
          refine ⟨fun h => (by simp [WF, Fence.wide] at h), ?_⟩
          have h2 := callsIn_wide (n := n - 1).2 hargs
          refine CallsIn.mono (F := WF r) h2 ?_
          rintro e w' ⟨v, G', x, h', rfl, x1, x2, x3, x4, x5⟩
          exact ⟨G', _, x1.less hN0, Nat.le_trans hN0 x2, (hs.move x1 x2 x3).put x4 o.dst, x5⟩
      split at h
      next g caps hg =>
        have hf := hev f
        rw [hg] at hf
        generalize ea : a.eval f = u at hf
        cases hf with
        | fn _ vs _ hl hr => exact call g caps vs ea hl hr h
      next q hg =>
        obtain ⟨g, cs, rfl, h⟩ := h
        have hf := hev f
        rw [hg] at hf
        generalize ea : a.eval f = u at hf
        cases hf with
        | hid hq h1 =>
          cases hq with
          | fn _ vs _ hl hr => exact call g (cs.map Cap.av) vs ea (by rw [List.length_map]; exact hl) (fun i u c hu hc => by
              rw [List.getElem?_map] at hc
              cases hx : cs[i]? with
              | none => rw [hx] at hc; cases hc
              | some d => rw [hx] at hc; cases hc; exact (hr i u d hu hx).av) h
      next => exact h.elim
    next => exact h.elim
  next op _ =>
    split at h
    next x h' p hx => exact opX_sound hs hN0 hx h.1 h.2
    next => exact h.elim
theorem optI_isInt (hs : Sat G w a s) {x : Option Operand} {d : Nat} {z : Int} (h : optI (ev s) d x = some z) (h0 : 0 ≤ z) : isInt a x d z.toNat := by
  cases x with
  | none =>
    simp only [optI, Option.some.injEq] at h
    subst h
    show _ = d
    exact Int.toNat_natCast d
  | some y =>
    simp only [optI] at h
    obtain ⟨k, e⟩ := (hs.ev y).int h
    exact ⟨k, z, e, h0, rfl⟩
theorem bifS {α : Type} {b : Bool} {x y : α} (h : (bif b then some x else none) = some y) : b = true ∧ x = y := by
  cases b with
  | true => exact ⟨rfl, Option.some.inj h⟩
  | false => cases h
theorem bif_pos' {α : Type} {b : Bool} {x : Option α} {y : α} (h : (bif b then x else none) = some y) : b = true ∧ x = some y := by
  cases b with
  | true => exact ⟨rfl, h⟩
  | false => cases h
theorem aopV_sound (hs : Sat G w a s) (hN0 : N0 ≤ G.N) (h : aopV P o K s) : o.wpIn (WF r) n P a w (NxT N0 G w K) Q := by
  obtain ⟨va, x, h', p, hx, hp, hK⟩ := h
  have hev := hs.ev
  unfold opV at hx
  split at hx
  next T y i ho =>
    split at hx
    · next n' o' len L k z e k' i' e1 e2 e3 =>
      split at hx
      · next e4 k2 cs hn =>
        obtain ⟨hb, he⟩ := bifS hx
        cases he
        rw [Bool.and_eq_true, beq_iff_eq, beq_iff_eq] at hb
        obtain ⟨rfl, rfl⟩ := hb
        obtain ⟨hL, h0, hlt, rfl⟩ := hp
        obtain ⟨hT1, hT2⟩ := elmT_spec e3
        obtain ⟨kz, ez⟩ := (hev i).int e2
        have hv := hev y
        rw [e1] at hv
        have hvo := hv.vecOK hs.inv hn hL
        obtain ⟨hol, ⟨A, c, q1, q2, q3, q4, q5⟩, _⟩ := hvo
        obtain ⟨g, cap, s1, rfl, s3⟩ := q5 (by omega)
        have hz2 : z < (len : Int) := hlt
        refine fin_same (by rw [ho]; simp) hs hN0 (v := .pointer (some ⟨g, o' * k2 + z.toNat * k2, none⟩)) ?_ (.vptr n' (o' + z.toNat) 0 L k2 (hs.inv.lt hn) ⟨_, _, rfl⟩ (by rw [(hs.inv.blk n' _ hn).1, hL]; exact Nat.le_refl _) fun _ => ⟨by omega, g, cap, s1, ?_⟩) hK
        · unfold execOp
          simp [ho, q1, ez, Instr.indexAt, asIntOf, run_underlying hT1, h0, hz2, run_szT hT2, add_off]
        · rw [Nat.add_mul]; rfl
      · cases hx
    · cases hx
  next T y f ho =>
    split at hx
    · next n' i j L k fo q g e1 hT =>
      cases hx
      have hv := hev y
      rw [e1] at hv
      generalize ea : a.eval y = u at hv
      cases hv with
      | vptr _ _ _ _ _ hnN hpt hL hf =>
        obtain ⟨pb, pq, rfl⟩ := hpt
        refine fin_same (by rw [ho]; simp) hs hN0 (v := .pointer (some ⟨pb, pq + fo, none⟩)) (by unfold execOp; simp [ho, ea, run_fieldAddr hT]) (.vptr n' i (j + fo) L k hnN ⟨_, _, rfl⟩ hL fun e => ?_) hK
        obtain ⟨a1, g2, cap, a2, a3⟩ := hf e
        refine ⟨a1, g2, cap, a2, ?_⟩
        injection a3 with a3
        injection a3 with a3
        injection a3 with a4 a5
        subst a4
        subst a5
        rw [Nat.add_assoc]
    · cases hx
  next y ho =>
    split at hx
    · next n' i j L k e1 =>
      cases hx
      have hv := hev y
      rw [e1] at hv
      have hv2 := hv
      generalize ea : a.eval y = u at hv hv2
      cases hv with
      | vptr _ _ _ _ _ hnN hpt hL hf =>
        obtain ⟨pb, pq, rfl⟩ := hpt
        exact fin_same (by rw [ho]; simp) hs hN0 (by unfold execOp; simp [ho, ea]) hv2 hK
    · cases hx
  next t y ho =>
    split at hx
    · next n' i j L k c e1 =>
      split at hx
      · next e k' cs z hn hz =>
        obtain ⟨hb, he⟩ := bifS hx
        cases he
        rw [beq_iff_eq] at hb
        subst hb
        have hv := hev y
        rw [e1] at hv
        obtain ⟨u, r1, r2⟩ := run_vload hs.inv hn hp.1 hp.2 hz hv
        exact fin_same (by rw [ho]; simp) hs hN0 (by unfold execOp; simp [ho, r1]) r2 hK
      · cases hx
    · cases hx
  next t y z ho =>
    split at hx
    · next n' i j L k c cs' e1 =>
      split at hx
      · next e k' cs q hn hq =>
        obtain ⟨hb, he⟩ := bifS hx
        cases he
        simp only [Bool.and_eq_true, beq_iff_eq, leB_iff] at hb
        obtain ⟨⟨⟨⟨rfl, rfl⟩, hbox⟩, hj⟩, hk0⟩ := hb
        obtain ⟨hL, hc, rfl⟩ := hp
        have hv := hev y
        rw [e1] at hv
        obtain ⟨w', G', r1, r2, r3, r4⟩ := run_vstore hs.inv hn hL hc hv (hev z) hbox hq hj hk0
        exact fin_skip (by rw [ho]; simp) hs hN0 (by unfold execOp; simp [ho, r1]) r2 r3 r4 hK
      · cases hx
    · cases hx
  next T y lo hi ho =>
    split at hx
    · next n' o' len L k e k' oo ll e1 hT =>
      split at hx
      · next l u hl hu =>
        split at hx
        · next e4 k2 cs hn =>
          obtain ⟨hb, he⟩ := bifS hx
          cases he
          rw [Bool.and_eq_true, beq_iff_eq, beq_iff_eq] at hb
          obtain ⟨rfl, rfl⟩ := hb
          obtain ⟨hL, h0, hlu, huL, rfl, rfl⟩ := hp
          obtain ⟨hT1, hT2⟩ := elmT_spec hT
          have hv := hev y
          rw [e1] at hv
          have hvo := hv.vecOK hs.inv hn hL
          obtain ⟨hol, ⟨A, c, q1, q2, q3, q4, q5⟩, _⟩ := hvo
          have hb := run_bounds2 (P := P) (isS := true) (optI_isInt hs hl h0) (optI_isInt hs hu (by omega)) (by omega) (show u.toNat ≤ c by omega) w
          refine fin_same (by rw [ho]; simp) hs hN0 (v := .slice (if c = l.toNat then A else A.map (·.add (l.toNat * k2))) (u.toNat - l.toNat) (c - l.toNat)) ?_ (.vec n' (o' + l.toNat) (u.toNat - l.toNat) L k2 (hs.inv.lt hn) ⟨_, _, _, rfl⟩ (by rw [(hs.inv.blk n' _ hn).1, hL]; exact Nat.le_refl _) fun _ => ⟨by omega, ⟨_, _, rfl, by omega, by omega, by omega, fun ho2 => ?_⟩, fun h1 h2 => ?_⟩) hK
          · unfold execOp
            simp [ho, q1, Instr.sliceAt, Instr.slice, run_underlying hT1, hb, run_szT hT2]
          · obtain ⟨g, cap, s1, rfl, s3⟩ := q5 (by omega)
            refine ⟨g, cap, s1, ?_, by omega⟩
            rw [if_neg (by omega)]
            simp [add_off, Nat.add_mul]
          · have ho0 : o' = 0 := by omega
            have hl0 : l.toNat = 0 := by omega
            subst ho0
            rw [hl0]
            rw [hl0] at h2
            simp only [Nat.sub_zero] at h2 ⊢
            by_cases hL0 : L = 0
            · subst hL0
              have : len = 0 := by omega
              subst this
              rename_i hall
              rw [← hall rfl rfl, q1, h2]
              split
              · rfl
              · cases A <;> simp [Addr.add]
            · obtain ⟨g, cap, s1, rfl, s3⟩ := q5 (by omega)
              rw [s1, h2]
              have : c = cap := by omega
              subst this
              split <;> simp [add_off]
        · cases hx
      · cases hx
    · cases hx
  next T l c ho =>
    split at hx
    · next e k z1 z2 cs len m hT e1 e2 =>
      split at hx
      · next z by_ hz hby =>
        obtain ⟨hb, he⟩ := bifS hx
        cases he
        simp only [Bool.and_eq_true, beq_iff_eq, leB_iff] at hb
        obtain ⟨⟨hk0, hzs⟩, _⟩ := hb
        obtain ⟨h0, hlc, hl, hc, rfl, hm, hbb⟩ := hp
        obtain ⟨hT1, hT2⟩ := elmT_spec hT
        obtain ⟨inf, i1, i2, i3⟩ := byT_info hT2 hby
        have hzi : inf.zero = some z := by
          obtain ⟨i', j1, j2⟩ := zeroT_info hz
          rw [i1] at j1; cases j1; exact j2
        obtain ⟨k1, ez1⟩ := (hev l).int e1
        obtain ⟨k2, ez2⟩ := (hev c).int e2
        obtain ⟨u, w', G', r1, r2, r3, r4, r5⟩ := run_vmake (kl := k1) (kc := k2) hs.inv hT1 i1 hzi i2 i3 hzs hk0 h0 hlc hl hc hm hbb
        exact fin_val (by rw [ho]; simp) hs hN0 (by unfold execOp; simp [ho, ez1, ez2, r1]) r2 r3 r4 r5 hK
      · cases hx
    · cases hx
  next c ho =>
    have hnd : ∀ c, o.op ≠ .defer c := by rw [ho]; simp
    split at hx
    next hc =>
      split at hx
      · next y T h1 h2 =>
        split at hx
        · next n' oo len L k e1 =>
          split at hx
          · next e4 k2 cs hn =>
            obtain ⟨hb, he⟩ := bifS hx
            cases he
            rw [Bool.and_eq_true, beq_iff_eq] at hb
            obtain ⟨hT, rfl⟩ := hb
            obtain ⟨⟨e, q⟩, hT⟩ := Option.isSome_iff_exists.1 hT
            have hv := hev y
            rw [e1] at hv
            have hvo := hv.vecOK hs.inv hn hp
            obtain ⟨hol, ⟨A, cc, q1, q2, q3, q4, q5⟩, _⟩ := hvo
            exact fin_same hnd hs hN0 (v := .int .i64 len) (by rw [run_len_op c hc h1 h2 ho, q1]; simp [Builtin.len_, run_underlying (elmT_spec hT).1, goInt]) (.d (.v _)) hK
          · cases hx
        · cases hx
      · cases hx
    next hc =>
      split at hx
      · next y z T U h1 h2 =>
        split at hx
        · next e k pU cs' ys L' len' hT hU =>
          split at hx
          · next z0 by_ hz hby =>
            obtain ⟨hb, hx⟩ := bif_pos' hx
            rw [Bool.and_eq_true, beq_iff_eq, leB_iff] at hb
            obtain ⟨hk0, hzs⟩ := hb
            obtain ⟨hT1, hT2⟩ := elmT_spec hT
            obtain ⟨inf, i1, i2, i3⟩ := byT_info hT2 hby
            have hzi : inf.zero = some z0 := by
              obtain ⟨i', j1, j2⟩ := zeroT_info hz
              rw [i1] at j1; cases j1; exact j2
            have hzz : z0.cells.size = k := by rw [← Array.length_toList]; exact hzs
            obtain ⟨eU, kU⟩ := pU
            split at hx
            · next n' oo len L k1 e1 =>
              split at hx
              · next e4 k2 cs hn =>
                obtain ⟨hb, he⟩ := bifS hx
                cases he
                simp only [Bool.and_eq_true, beq_iff_eq] at hb
                obtain ⟨⟨rfl, rfl⟩, rfl⟩ := hb
                obtain ⟨hL, hsrc, rfl, hway⟩ := hp
                obtain ⟨us, hr, hss⟩ := srcV_sound (tx := U) hs.inv (hev z) hsrc hk0 (elmT_spec hU).1
                have hv := hev y
                rw [e1] at hv
                obtain ⟨u, w', G', r1, r2, r3, r4, r5⟩ := run_vapp (ty := o.type) hs.inv hT1 i1 hzi i2 i3 hzz hk0 hn hL hv hr hss hway
                exact fin_val hnd hs hN0 (by rw [run_append_op c hc h1 h2 ho, r1]; rfl) r2 r3 r4 r5 hK
              · cases hx
            · next e1 =>
              cases hx
              obtain ⟨hsrc, rfl, rfl, rfl, hm1, hm2⟩ := hp
              obtain ⟨us, hr, hss⟩ := srcV_sound (tx := U) hs.inv (hev z) hsrc hk0 (elmT_spec hU).1
              have hv := hev y
              rw [e1] at hv
              have ev := hv.val
              obtain ⟨u, w', G', r1, r2, r3, r4, r5⟩ := run_vnew (ty := o.type) (A := none) hs.inv hT1 i1 hzi i2 i3 hzz hk0 hr hss hm1 hm2
              exact fin_val hnd hs hN0 (by rw [run_append_op c hc h1 h2 ho, ev, r1]; rfl) r2 r3 r4 r5 hK
            · next xs e1 =>
              cases hx
              obtain ⟨rfl, hsrc, rfl, rfl, rfl, hm1, hm2⟩ := hp
              obtain ⟨us, hr, hss⟩ := srcV_sound (tx := U) hs.inv (hev z) hsrc hk0 (elmT_spec hU).1
              have hv := hev y
              rw [e1] at hv
              obtain ⟨A, eA⟩ : ∃ A, a.eval y = .slice A 0 0 := by
                generalize a.eval y = u at hv
                cases hv with | full _ _ hf => exact hf
              obtain ⟨u, w', G', r1, r2, r3, r4, r5⟩ := run_vnew (ty := o.type) (A := A) hs.inv hT1 i1 hzi i2 i3 hzz hk0 hr hss hm1 hm2
              exact fin_val hnd hs hN0 (by rw [run_append_op c hc h1 h2 ho, eA, r1]; rfl) r2 r3 r4 r5 hK
            · cases hx
          · cases hx
        · cases hx
      · cases hx
    next => cases hx
  next => cases hx
theorem aNil_sound (hs : Sat G w a s) (hN0 : N0 ≤ G.N) (h : aNil P o K s) : o.wpIn (WF r) n P a w (NxT N0 G w K) Q := by
  have hev := hs.ev
  unfold aNil at h
  split at h
  · next op T x y U ho =>
    split at h
    · next xs pT v1 v2 hx hy hT h1 h2 =>
      obtain ⟨e, k⟩ := pT
      have hT1 := (elmT_spec hT).1
      have hv := hev y
      rw [hy] at hv
      have ey := hv.val
      obtain ⟨A, b, oo, c, k', u, ex, hA, _, _, _, _, _⟩ := ((hev x).list hx).sl_iff
      have hg : (eqGuard op T x y (a.eval x) (a.eval y)).run P w = .ok () w := by rw [ex, ey]; unfold eqGuard; cases op <;> simp
      have hrun : (binOp op T (a.eval x) (a.eval y)).run P w = .ok (if A.isNone then v1 else v2) w := by
        rw [ex, ey]
        have hq := run_equal_slice_nil (P := P) (w := w) T e A xs.length c hT1
        cases op <;> simp [eqV] at h1 h2 <;> subst h1 <;> subst h2 <;> simp [binOp, hq] <;> cases A <;> rfl
      have hex : (execOp a.eval o).run P w = .ok (.value (if A.isNone then v1 else v2)) w := by
        unfold execOp
        simp only [ho]
        rw [Sem.run_bind, Sem.run_bind, hg]
        simp only [Result.andThen_ok]
        rw [hrun]; rfl
      cases A with
      | none =>
        have hxs : xs = [] := Classical.byContradiction fun hne => by have := hA hne; cases this
        exact fin_same (by rw [ho]; simp) hs hN0 hex (.d (.v _)) (h.1 hxs)
      | some ad => exact fin_same (by rw [ho]; simp) hs hN0 hex (.d (.v _)) h.2
    · exact h.elim
  · exact h.elim
theorem aopN0_sound (hs : Sat G w a s) (hN0 : N0 ≤ G.N) (h : aopN0 P o K s) : o.wpIn (WF r) n P a w (NxT N0 G w K) Q := by
  rcases h with h | h | h
  · exact aopV_sound hs hN0 h
  · exact aNil_sound hs hN0 h
  · exact aop_sound hs hN0 h
end
end Go.Proofs.YtnedgkfefdldeaaGreatDoor

/-! AbsLeave: A frame that leaves: the marks of its ranges over functions are taken down. -/
namespace Go.Proofs.YtnedgkfefdldeaaGreatDoor
open Go.RowKit
theorem VRel.zm {G : Gh} {w : World} {u : Value} {x : AV} (Z : Nat → Prop) (M : Nat) (h : VRel G w u x) : VRel { G with Z := Z, M := M } w u x := by
  induction h with
  | agg vs cs hl _ ih => exact .agg vs cs hl ih
  | tup vs cs hl _ ih => exact .tup vs cs hl ih
  | fn f vs cs hl _ ih => exact .fn f vs cs hl ih
  | own n xs h hp hle hf => exact .own n xs h hp hle hf
  | ptr n off h => exact .ptr (G := { G with Z := Z, M := M }) n off h
  | row n off len cap k h hl hm => exact .row (G := { G with Z := Z, M := M }) n off len cap k h hl hm
  | mp n h => exact .mp (G := { G with Z := Z, M := M }) n h
  | yld n h => exact .yld (G := { G with Z := Z, M := M }) n h
  | vec n o len L k h hs hL hf => exact .vec (G := { G with Z := Z, M := M }) n o len L k h hs hL hf
  | vptr n i j L k h hs hL hf => exact .vptr (G := { G with Z := Z, M := M }) n i j L k h hs hL hf
  | hid h h1 => exact .hid h h1
  | d h => exact .d h
  | elt xs i off b o u x hx hS hu => exact .elt xs i off b o u x hx hS hu
  | full xs hp hf => exact .full xs hp hf
  | dead u => exact .dead u
theorem BRel.zm {G : Gh} {w : World} {n : Nat} {B : Blk} (Z : Nat → Prop) (M : Nat) (hz : ∀ b, Z b → G.Z b) (h : BRel G w n B) : BRel { G with Z := Z, M := M } w n B := by
  cases B with
  | gone => trivial
  | cells cs =>
    obtain ⟨h1, h2, vs, T, h3, h4, h5⟩ := h
    exact ⟨fun k => h1 (hz _ k), h2, vs, T, h3, h4, fun i u c hu hc => (h5 i u c hu hc).zm Z M⟩
  | lp ls p as bd cs =>
    obtain ⟨h1, h2, fn, vs, T, h3, h4, h5⟩ := h
    exact ⟨fun k => h1 (hz _ k), h2, fn, vs, T, h3, h4, fun i u c hu hc => (h5 i u c hu hc).zm Z M⟩
  | it sn cs =>
    obtain ⟨h1, h2, fn, vs, T, h3, h4, h5⟩ := h
    exact ⟨fun k => h1 (hz _ k), h2, fn, vs, T, h3, h4, fun i u c hu hc => (h5 i u c hu hc).zm Z M⟩
  | map kv =>
    obtain ⟨h1, h2, es, c, h3, h4⟩ := h
    exact ⟨fun k => h1 (hz _ k), h2, es, c, h3, h4⟩
  | front e k len =>
    obtain ⟨h1, hm, h2⟩ := h
    refine ⟨h1, hm, ?_⟩
    rcases h2 with h2 | ⟨g, cap, cur, h2, h3, h4, h5⟩
    · exact .inl h2
    · exact .inr ⟨g, cap, cur, h2, h3, fun k => h4 (hz _ k), h5⟩
  | vec e k cs =>
    obtain ⟨h1, hm, hk, h2⟩ := h
    refine ⟨h1, hm, hk, ?_⟩
    rcases h2 with h2 | ⟨g, cap, cur, h2, h3, h4, h5, h6, h7, h8, h9, h10⟩
    · exact .inl h2
    · exact .inr ⟨g, cap, cur, h2, h3, fun k => h4 (hz _ k), h5, h6, h7, h8, h9, fun i j c x u hc hx hu => (h10 i j c x u hc hx hu).zm Z M⟩
theorem ownB_zm {h : List Blk} {G : Gh} {n : Nat} (Z : Nat → Prop) (M : Nat) : ownB h { G with Z := Z, M := M } n = ownB h G n := by
  unfold ownB
  cases h[n]? with
  | none => rfl
  | some B => cases B <;> rfl
theorem Inv.zm {G : Gh} {w : World} {h : List Blk} (hi : Inv G w h) (Z : Nat → Prop) (M : Nat) (hz : ∀ b, Z b → G.Z b) (hM : M ≤ w.heap.size) : Inv { G with Z := Z, M := M } w h :=
  ⟨hi.len, fun b hb => hi.z b (hz b hb), hi.S, fun n B hB => (hi.blk n B hB).zm Z M hz, fun m n b h1 h2 => hi.inj m n b (by rw [← ownB_zm Z M]; exact h1) (by rw [← ownB_zm Z M]; exact h2), ⟨hi.gl.1, hM⟩⟩
def shutD (l : List Nat) (w : World) : World := l.foldl (fun w D => w.putObj D (.deferred none)) w
theorem shut_spec : ∀ (l : List Nat) (w : World), (∀ D ∈ l, w.heap[D]? = some (.deferred (some []))) → l.Nodup →
    (shutD l w).heap.size = w.heap.size ∧ (∀ b, b ∉ l → (shutD l w).heap[b]? = w.heap[b]?) ∧ (∀ b o, (shutD l w).cell? ⟨b, o, none⟩ = w.cell? ⟨b, o, none⟩) ∧ (shutD l w).os = w.os ∧ (shutD l w).tape = w.tape ∧ (shutD l w).output = w.output
  | [], w, _, _ => ⟨rfl, fun _ _ => rfl, fun _ _ => rfl, rfl, rfl, rfl⟩
  | D :: l, w, hd, hn => by
    rw [List.nodup_cons] at hn
    have hD := hd D List.mem_cons_self
    have hlt := (Array.getElem?_eq_some_iff.1 hD).1
    obtain ⟨h1, h2, h3, h4, h5, h6⟩ := shut_spec l (w.putObj D (.deferred none)) (fun E hE => by
      have hne : E ≠ D := fun e => hn.1 (e ▸ hE)
      rw [World.putObj_heap_other hne]; exact hd E (List.mem_cons_of_mem _ hE)) hn.2
    refine ⟨h1.trans (by simp), fun b hb => ?_, fun b o => ?_, h4, h5, h6⟩
    · exact (h2 b fun h => hb (List.mem_cons_of_mem _ h)).trans (World.putObj_heap_other fun e => hb (e ▸ List.mem_cons_self))
    · refine (h3 b o).trans ?_
      by_cases e : b = D
      · subst e
        unfold World.cell?
        simp only [World.putObj_heap_same hlt, hD]
      · exact World.cell?_of_block (World.putObj_heap_other e)
theorem leaves_marks {F : Fence} {n : Nat} {P : Program} {fn : Func} {tmps : Array Value} {R : Ending → World → Prop} : ∀ (l : List Nat) (w : World), (∀ D ∈ l, w.heap[D]? = some (.deferred (some []))) → l.Nodup →
    LeavesIn F n P fn tmps R [] .returning (shutD l w) → LeavesInM F n P fn tmps R (l.map fun D => { target := .collected D, args := #[] }) .returning w
  | [], w, _, _, h => h
  | D :: l, w, hd, hn, h => by
    rw [List.nodup_cons] at hn
    exact ⟨by simp, .inl ⟨D, _, rfl, run_takeDeferred (hd D List.mem_cons_self), leaves_marks l _ (fun E hE => by
      have hne : E ≠ D := fun e => hn.1 (e ▸ hE)
      rw [World.putObj_heap_other hne]; exact hd E (List.mem_cons_of_mem _ hE)) hn.2 h⟩⟩
theorem leave_ok {N0 : Nat} {G G1 : Gh} {w w' : World} {a' : Act} {s1 : St} (hE : Ext N0 { G with M := w.heap.size } w G1 w') (hN : N0 ≤ G1.N) (hz : ∀ b, G.Z b → b < w.heap.size) (hMw : G.M ≤ w.heap.size) (hs : Sat G1 w' a' s1) :
    ∃ (w2 : World) (G2 : Gh), (∀ (F : Fence) (n : Nat) (P : Program) (fn : Func) (R : Ending → World → Prop), (∃ v, (results fn a'.tmps).run P w2 = .ok v w2 ∧ R (.returned v) w2) → LeavesInM F n P fn a'.tmps R a'.defers .returning w') ∧
      Ext N0 G w G2 w2 ∧ G2.N = G1.N ∧ Sat G2 w2 { a' with defers := [] } s1 := by
  obtain ⟨l, l1, l2, l3⟩ := hs.df
  have hd : ∀ D ∈ l, w'.heap[D]? = some (.deferred (some [])) := fun D hD => (l3 D hD).2.2
  obtain ⟨h1, h2, h3, h4, h5, h6⟩ := shut_spec l w' hd l1
  have hM : G1.M = w.heap.size := hE.Z.2
  have hzz : ∀ b, G.Z b → b ∉ l := fun b hb hl => by
    have := (l3 b hl).1
    have := hz b hb
    omega
  obtain ⟨G2, hG2⟩ : ∃ G2 : Gh, G2 = { G1 with Z := G.Z, M := G.M } := ⟨_, rfl⟩
  have hsub : ∀ b, G.Z b → G1.Z b := hE.Z.1.1
  have hi2 : Inv G2 w' s1.h := by rw [hG2]; exact hs.inv.zm _ _ hsub (Nat.le_trans hMw hE.size)
  have hE1 : Ext N0 G w G2 w' := by
    rw [hG2]
    exact ⟨hE.size, hE.S, hE.cell, hE.rho, hE.fr, zsame rfl, hE.old, hE.os, hE.tape, hE.output, hE.new⟩
  have hE2 : Ext G2.N G2 w' G2 (shutD l w') := ⟨by rw [h1]; exact Nat.le_refl _, fun _ _ h => h, fun b o _ => h3 b o, fun _ _ => rfl, fun _ _ => .inl ⟨rfl, rfl⟩, zsame rfl, fun b hb => h2 b (hzz b (by rw [hG2] at hb; exact hb)), h4, h5, h6, fun _ _ h => .inl h⟩
  have hi3 : Inv G2 (shutD l w') s1.h := ⟨hi2.len, fun b hb => by rw [h1]; exact hi2.z b hb, fun b o hb => by rw [h1]; exact hi2.S b o hb, fun n B hB => BRel.keep (hi2.lt hB) hE2 (Nat.le_refl _) ⟨rfl, rfl, rfl⟩ (fun b hb => ⟨h2 b fun hl => (hs.inv.blk n B hB).notZ (by rw [hG2] at hb; cases B <;> exact hb) (l3 b hl).2.1, fun _ h => h⟩) (hi2.blk n B hB), hi2.inj, hi2.gl.keep hE2⟩
  refine ⟨shutD l w', G2, fun F n P fn R h => ?_, hE1.trans (hE2.less (by rw [hG2]; exact hN)), by rw [hG2], ⟨hs.size, fun i => VRel.keep hE2 (Nat.le_refl _) (by rw [hG2]; exact (hs.tmp i).zm _ _), hi3, Marks.nil _ _⟩⟩
  rw [l2]
  exact leaves_marks l w' hd l1 h
end Go.Proofs.YtnedgkfefdldeaaGreatDoor

/-! AbsLoop: Suspended ranges over functions, as blocks. -/
namespace Go.Proofs.YtnedgkfefdldeaaGreatDoor
open Go.RowKit
section
variable {G : Gh} {w : World} {h : List Blk}
theorem inv_lp_alloc (hi : Inv G w h) (fn : FuncId) (tm : Array Value) (D p : Nat) (as bd : Code) (cs : List AV) (hl : tm.size = cs.length) (hr : ∀ (i : Nat) (u : Value) (c : AV), tm[i]? = some u → cs[i]? = some c → VRel G w u c) : Ext G.N G w (G.addC w.heap.size) (w.alloc (.loop { state := .ready, pending := none, fn := fn, tmps := tm, params := #[p], assign := as, body := bd, defers := D })) ∧ Inv (G.addC w.heap.size) (w.alloc (.loop { state := .ready, pending := none, fn := fn, tmps := tm, params := #[p], assign := as, body := bd, defers := D })) (h ++ [.lp .ready p as bd cs]) ∧ VRel (G.addC w.heap.size) (w.alloc (.loop { state := .ready, pending := none, fn := fn, tmps := tm, params := #[p], assign := as, body := bd, defers := D })) (.func (.yield w.heap.size) #[] #[]) (.yld h.length) := by
  have hE := ext_alloc G w hi.z hi.S (.loop { state := .ready, pending := none, fn := fn, tmps := tm, params := #[p], assign := as, body := bd, defers := D })
  have hN : G.N ≤ (G.addC w.heap.size).N := Nat.le_succ _
  have hrho : (G.addC w.heap.size).rho h.length = w.heap.size := by simp [Gh.addC, hi.len]
  have hown1 : ∀ n (B : Blk), n < G.N → B.own1 (G.addC w.heap.size) n = B.own1 G n := fun n B hn => by
    cases B <;> simp [Blk.own1, Gh.addC, Nat.ne_of_lt hn]
  have hnew : ∀ n, n < G.N → ownB (h ++ [.lp .ready p as bd cs]) (G.addC w.heap.size) n = ownB h G n := fun n hn => by
    have hlt : n < h.length := by rw [hi.len]; exact hn
    unfold ownB
    rw [List.getElem?_append_left hlt, List.getElem?_eq_getElem hlt]
    exact hown1 n _ hn
  have hlast : ownB (h ++ [.lp .ready p as bd cs]) (G.addC w.heap.size) h.length = some w.heap.size := by
    rw [ownB_of (B := .lp .ready p as bd cs) (by simp)]; exact congrArg some hrho
  refine ⟨hE, ⟨by simp [Gh.addC, hi.len], fun b hb => Nat.lt_of_lt_of_le (hi.z b hb) hE.size, fun b o hs => Nat.lt_of_lt_of_le (hi.S b o hs) hE.size, fun n B hB => ?_, fun m n b hm hn => ?_, hi.gl.keep hE⟩, ?_⟩
  · by_cases hn : n < h.length
    · rw [List.getElem?_append_left hn] at hB
      have hn' : n < G.N := hi.len ▸ hn
      exact BRel.keep hn' hE hN ⟨rfl, rfl, rfl⟩ (fun b hb => ⟨Below.heap_alloc w _ _ (hi.ownlt (n := n) ((ownB_of hB).trans hb)), fun o h => h⟩) (hi.blk n B hB)
    · have hn2 : n = h.length := by
        have := (List.getElem?_eq_some_iff.1 hB).1
        simp at this; omega
      subst hn2
      simp at hB
      subst hB
      exact ⟨by rw [hrho]; exact fun hz => Nat.lt_irrefl _ (hi.z _ hz), fun o hs => by rw [hrho] at hs; exact Nat.lt_irrefl _ (hi.S _ _ hs), fn, tm, D, by rw [hrho]; exact World.alloc_heap_new w _, hl, fun i u c hu hc => (hr i u c hu hc).keep hE hN⟩
  · have key : ∀ n b, ownB (h ++ [.lp .ready p as bd cs]) (G.addC w.heap.size) n = some b → (n < G.N ∧ ownB h G n = some b) ∨ (n = h.length ∧ b = w.heap.size) := fun n b hn => by
      by_cases hlt : n < G.N
      · exact .inl ⟨hlt, by rw [← hnew n hlt]; exact hn⟩
      · by_cases e : n = h.length
        · subst e; rw [hlast] at hn; cases hn; exact .inr ⟨rfl, rfl⟩
        · rw [ownB_none (List.getElem?_eq_none (by simp; have := hi.len; omega))] at hn
          cases hn
    rcases key m b hm with ⟨_, hm'⟩ | ⟨rfl, rfl⟩ <;> rcases key n _ hn with ⟨_, hn'⟩ | ⟨rfl, hb⟩
    · exact hi.inj m n b hm' hn'
    · have := hi.ownlt hm'; omega
    · have := hi.ownlt hn'; omega
    · rfl
  · have := VRel.yld (G := G.addC w.heap.size) (w := w.alloc (.loop { state := .ready, pending := none, fn := fn, tmps := tm, params := #[p], assign := as, body := bd, defers := D })) h.length (by simp [Gh.addC, hi.len])
    rwa [hrho] at this
theorem inv_lp_chg {k : Nat} {B B' : Blk} {ob ob' : Obj} (hi : Inv G w h) (hk : h[k]? = some B) (hB1 : B.own1 G k = some (G.rho k)) (hS : ∀ o, ¬ G.S (G.rho k) o) (hob : w.heap[G.rho k]? = some ob) (hn : B' = .gone ∨ B'.own1 G k = some (G.rho k))
    (hB : ∀ w', (∀ b o, G.S b o → w'.cell? ⟨b, o, none⟩ = w.cell? ⟨b, o, none⟩) → w'.heap[G.rho k]? = some ob' → Ext G.N G w G w' → BRel G w' k B') : Ext G.N G w G (w.putObj (G.rho k) ob') ∧ Inv G (w.putObj (G.rho k) ob') (h.set k B') := by
  have hlt := (Array.getElem?_eq_some_iff.1 hob).1
  have hZ : ¬ G.Z (G.rho k) := (hi.blk k B hk).notZ hB1
  have hoth : ∀ b, b ≠ G.rho k → (w.putObj (G.rho k) ob').heap[b]? = w.heap[b]? := fun b hb => World.putObj_heap_other hb
  have hcell : ∀ b o, G.S b o → (w.putObj (G.rho k) ob').cell? ⟨b, o, none⟩ = w.cell? ⟨b, o, none⟩ := fun b o hs => World.cell?_of_block (hoth b (fun e => hS o (e ▸ hs)))
  have hE : Ext G.N G w G (w.putObj (G.rho k) ob') := ⟨by simp, fun _ _ h => h, hcell, fun _ _ => rfl, fun _ _ => .inl ⟨rfl, rfl⟩, zsame rfl, fun b hb => hoth b (fun e => hZ (e ▸ hb)), rfl, rfl, rfl, fun _ _ h => .inl h⟩
  refine ⟨hE, ?_⟩
  have hkl := (List.getElem?_eq_some_iff.1 hk).1
  have hgn : (h.set k B')[k]? = some B' := by rw [List.getElem?_set_self hkl]
  have hget : ∀ m, m ≠ k → (h.set k B')[m]? = h[m]? := fun m hm => by rw [List.getElem?_set_ne (Ne.symm hm)]
  have hon : ownB h G k = some (G.rho k) := (ownB_of hk).trans hB1
  have hown : ∀ m b, ownB (h.set k B') G m = some b → ownB h G m = some b := fun m b hb => by
    by_cases e : m = k
    · subst e
      rw [ownB_of hgn] at hb
      rcases hn with rfl | hn
      · cases hb
      · rw [hn] at hb; cases hb; exact hon
    · unfold ownB at hb ⊢; rw [hget m e] at hb; exact hb
  refine ⟨by rw [List.length_set]; exact hi.len, fun b hb => Nat.lt_of_lt_of_le (hi.z b hb) hE.size, fun b o hs => Nat.lt_of_lt_of_le (hi.S b o hs) hE.size, fun m C hC => ?_, fun m m' b h1 h2 => hi.inj m m' b (hown m b h1) (hown m' b h2), hi.gl.keep hE⟩
  by_cases e : m = k
  · subst e
    rw [hgn] at hC
    cases hC
    exact hB _ hcell (World.putObj_heap_same hlt) hE
  · rw [hget m e] at hC
    have hne : ∀ b, ownB h G m = some b → b ≠ G.rho k := fun b hb eb => e (hi.inj m k b hb (by rw [eb]; exact hon))
    exact BRel.keep (hi.lt hC) hE (Nat.le_refl _) ⟨rfl, rfl, rfl⟩ (fun b hb => ⟨hoth b (hne _ ((ownB_of hC).trans hb)), fun o h => h⟩) (hi.blk m C hC)
theorem lp_rec {k : Nat} {ls : LS} {p : Nat} {as bd : Code} {cs : List AV} (hi : Inv G w h) (hk : h[k]? = some (.lp ls p as bd cs)) :
    (∀ o, ¬ G.S (G.rho k) o) ∧ ∃ (fn : FuncId) (tm : Array Value) (D : Nat), w.heap[G.rho k]? = some (.loop { state := ls.st, pending := ls.pd, fn := fn, tmps := tm, params := #[p], assign := as, body := bd, defers := D }) ∧ tm.size = cs.length ∧ (∀ (i : Nat) (u : Value) (c : AV), tm[i]? = some u → cs[i]? = some c → VRel G w u c) ∧
      ∀ (ls' : LS), Ext G.N G w G (w.putObj (G.rho k) (.loop { state := ls'.st, pending := ls'.pd, fn := fn, tmps := tm, params := #[p], assign := as, body := bd, defers := D })) ∧ Inv G (w.putObj (G.rho k) (.loop { state := ls'.st, pending := ls'.pd, fn := fn, tmps := tm, params := #[p], assign := as, body := bd, defers := D })) (h.set k (.lp ls' p as bd cs)) := by
  obtain ⟨h1, h2, fn, tm, D, h3, h4, h5⟩ := hi.blk k _ hk
  refine ⟨h2, fn, tm, D, h3, h4, h5, fun ls' => inv_lp_chg hi hk rfl h2 h3 (.inr rfl) fun w' hc hw' hE => ⟨h1, h2, fn, tm, D, hw', h4, fun i u c hu hc' => (h5 i u c hu hc').keep hE (Nat.le_refl _)⟩⟩
theorem lp_gone {k : Nat} {ls : LS} {p : Nat} {as bd : Code} {cs : List AV} (hi : Inv G w h) (hk : h[k]? = some (.lp ls p as bd cs)) (ob : Obj) : Ext G.N G w G (w.putObj (G.rho k) ob) ∧ Inv G (w.putObj (G.rho k) ob) (h.set k .gone) := by
  obtain ⟨h1, h2, fn, tm, D, h3, h4, h5⟩ := hi.blk k _ hk
  exact inv_lp_chg hi hk rfl h2 h3 (.inl rfl) fun _ _ _ _ => trivial
theorem inv_mark (hi : Inv G w h) : Ext G.N G w { G with Z := fun b => G.Z b ∨ b = w.heap.size } (w.alloc (.deferred (some []))) ∧ Inv { G with Z := fun b => G.Z b ∨ b = w.heap.size } (w.alloc (.deferred (some []))) h := by
  have hE : Ext G.N G w { G with Z := fun b => G.Z b ∨ b = w.heap.size } (w.alloc (.deferred (some []))) :=
    ⟨by simp, fun _ _ h => h, fun b _ h => World.cell?_alloc_lt _ _ _ (hi.S _ _ h), fun _ _ => rfl, fun _ _ => .inl ⟨rfl, rfl⟩, ⟨⟨fun _ h => .inl h, fun b h => h.imp id fun e => Nat.le_of_eq e.symm⟩, rfl⟩, fun b hb => Below.heap_alloc w _ b (hi.z b hb), rfl, rfl, rfl, fun _ _ h => .inl h⟩
  refine ⟨hE, hi.len, fun b hb => ?_, fun b o hs => Nat.lt_of_lt_of_le (hi.S b o hs) hE.size, fun n B hB => ?_, fun m n b h1 h2 => hi.inj m n b (by rw [← ownB_zm (fun b => G.Z b ∨ b = w.heap.size) G.M]; exact h1) (by rw [← ownB_zm (fun b => G.Z b ∨ b = w.heap.size) G.M]; exact h2), hi.gl.keep hE⟩
  · rcases hb with hb | rfl
    · exact Nat.lt_of_lt_of_le (hi.z b hb) hE.size
    · simp
  · exact BRel.keep (hi.lt hB) hE (Nat.le_refl _) ⟨rfl, rfl, rfl⟩ (fun b hb => ⟨Below.heap_alloc w _ _ (hi.ownlt (n := n) ((ownB_of hB).trans hb)), fun o h => h⟩) (hi.blk n B hB)
end
end Go.Proofs.YtnedgkfefdldeaaGreatDoor
