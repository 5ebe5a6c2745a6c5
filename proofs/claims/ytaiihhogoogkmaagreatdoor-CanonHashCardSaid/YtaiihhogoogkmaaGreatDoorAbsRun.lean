/-
  A region of code worked out by computation: a function that runs the operations of a region over the small language's values, and why it may be believed.
-/
import Derived.Test.YtaiihhogoogkmaaGreatDoorAbsDraw
import Derived.Test.YtaiihhogoogkmaaGreatDoorAbsFrame
namespace Go.Proofs.YtaiihhogoogkmaaGreatDoor
open Go.RowKit

/-- what an operation asks of the proof -/
inductive In
  | none
  | bit (x : AV)
  | eq (x : AV)
  | el (xs : List (List D)) (i : Int)
  | lt (z : Int) (n : Nat)
  | len (xs : List (List D))
  | sub (xs : List (List D)) (lo : Int) (hi : Option Int) (k : Nat)
  | app (xs ys : List (List D)) (len k by_ : Nat)
  | nz (b : Int)
  | nn (b : Int)
  | str (b : ByteArray) (lo hi : Int)
  | cat (n : Nat)
  | pr (p : Prop)
  | sd (p : Sd)
  | byt (xs : List (List D))
  | tel (c : List D) (z : Int) (n : Nat)
  | ch (b : ByteArray) (i : Int)
  | call (f : FuncId) (args : List AV)
  | hcall (f : FuncId) (args : List AV) (h : List Blk)
  | ccall (c : Cap) (args : List AV)
  | rcall (f : FuncId) (args : List AV) (h : List Blk)
/-- a function value's contract -/
def CCalls (P : Program) (c : Cap) (args : List AV) (r : AV) : Prop := ∃ g cs, c = .fn g cs ∧ AFn P g (args ++ cs.map Cap.av) (· = r)
/-- what the proof answers -/
inductive Out
  | none
  | bit (b : Bool)
  | und
  | eq (y : AV)
  | el (c : List D)
  | ok
  | nat (n : Nat)
  | list (ys : List (List D))
  | listn (ys : List (List D)) (n : Nat)
  | byte (c : UInt8)
  | bytes (s : ByteArray)
  | one (d : D)
  | va (a : VA)
  | ret (r : AV)
  | hret (r : AV) (h : List Blk)
  | rret (l : List Nat) (argsC : List AV) (H : List Blk) (r : AV) (H' : List Blk)
  | rq (l : List Nat) (argsC : List AV) (H : List Blk) (r : AV)
inductive OK (P : Program) : In → Out → Prop
  | none {o : Out} : OK P .none o
  | bit {e b : Bool} (h : e = b) : OK P (.bit (.d (.v (.bool e)))) (.bit b)
  | und : OK P (.bit (.d (.v undef))) .und
  | eq {x y : AV} (h : x = y) : OK P (.eq x) (.eq y)
  | el {xs : List (List D)} {i : Int} {c : List D} (h0 : 0 ≤ i) (h : xs[i.toNat]? = some c) : OK P (.el xs i) (.el c)
  | lt {z : Int} {n : Nat} (h0 : 0 ≤ z) (h : z < n) : OK P (.lt z n) .ok
  | len {xs : List (List D)} {n : Nat} (h : xs.length = n) : OK P (.len xs) (.nat n)
  | sub {xs ys : List (List D)} {lo hi : Int} {k : Nat} (h0 : 0 ≤ lo) (h1 : lo.toNat ≤ hi.toNat) (h2 : 0 ≤ hi) (h3 : hi.toNat ≤ xs.length) (hk : ∀ c ∈ xs, c.length = k) (h : (xs.take hi.toNat).drop lo.toNat = ys) : OK P (.sub xs lo (some hi) k) (.list ys)
  | subn {xs ys : List (List D)} {lo : Int} {k : Nat} (h0 : 0 ≤ lo) (h1 : lo.toNat ≤ xs.length) (hk : ∀ c ∈ xs, c.length = k) (h : xs.drop lo.toNat = ys) : OK P (.sub xs lo .none k) (.list ys)
  | app {xs ys zs : List (List D)} {len k by_ n : Nat} (hl : len = xs.length) (hx : ∀ c ∈ xs, c.length = k) (hy : ∀ c ∈ ys, c.length = k) (hm : xs.length + ys.length ≤ maxLen) (hb : (xs.length + ys.length) * by_ ≤ 140737488355328) (hz : xs ++ ys = zs) (hn : xs.length + ys.length = n) : OK P (.app xs ys len k by_) (.listn zs n)
  | nz {b : Int} (h : b ≠ 0) : OK P (.nz b) .ok
  | nn {b : Int} (h : 0 ≤ b) : OK P (.nn b) .ok
  | str {b : ByteArray} {lo hi : Int} (h0 : 0 ≤ lo) (h1 : lo.toNat ≤ hi.toNat) (h2 : 0 ≤ hi) (h3 : hi.toNat ≤ b.size) : OK P (.str b lo hi) .ok
  | ch {b : ByteArray} {i : Int} {c : UInt8} (h0 : 0 ≤ i) (h : b[i.toNat]? = some c) : OK P (.ch b i) (.byte c)
  | cat {n : Nat} (h : n ≤ maxLen) : OK P (.cat n) .ok
  | pr {p : Prop} (a : VA) (h : p) : OK P (.pr p) (.va a)
  | sd {p : Sd} {o : Out} (h : p.ok) : OK P (.sd p) o
  | byt {xs : List (List D)} {s : ByteArray} (h : ∃ ns : List Int, xs = ns.map (fun n => [.v (.int .u8 n)]) ∧ s = ⟨(ns.map fun n => UInt8.ofNat n.toNat).toArray⟩) : OK P (.byt xs) (.bytes s)
  | tel {c : List D} {z : Int} {n : Nat} {d : D} (h0 : 0 ≤ z) (h1 : z < n) (h : c[z.toNat]? = some d) : OK P (.tel c z n) (.one d)
  | call {f : FuncId} {args : List AV} {r : AV} (h : AFn P f args (· = r)) : OK P (.call f args) (.ret r)
  | ccall {c : Cap} {args : List AV} {r : AV} (h : CCalls P c args r) : OK P (.ccall c args) (.ret r)
  | rcall {f : FuncId} {as argsC : List AV} {h H H' : List Blk} {l : List Nat} {r : AV} (ha : as = argsC.map (AV.ren (rn l h.length))) (hd : nodupB l = true) (hb : l.map (fun j => h[j]?) = H.map fun B => some (B.ren (rn l h.length))) (hl : (argsC.all (AV.lowB H.length) && H.all (Blk.lowB H.length)) = true)
      (hc : ACalls P f argsC H fun r1 h1 => r1 = r ∧ h1 = H') : OK P (.rcall f as h) (.rret l argsC H r H')
  | rq {f : FuncId} {as argsC : List AV} {h H : List Blk} {l : List Nat} {r : AV} (ha : as = argsC.map (AV.ren (rn l 0))) (hd : nodupB l = true) (hb : l.map (fun j => h[j]?) = H.map fun B => some (B.ren (rn l 0))) (hl : (argsC.all (AV.lowB H.length) && H.all (Blk.lowB H.length) && r.lowB H.length) = true)
      (hc : ACalls P f argsC H fun r1 h1 => r1 = r ∧ h1 = H) : OK P (.rcall f as h) (.rq l argsC H r)
  | hcall {f : FuncId} {args : List AV} {h h' : List Blk} {r : AV} (hc : ACalls P f args h fun r1 h1 => r1 = r ∧ h1 = h') : OK P (.hcall f args h) (.hret r h')

def rLoad (P : Program) (t : TypeId) (cs : List AV) (off : Nat) : Option AV :=
  match aggT P t, szT P t with
  | some true, some k => bif leB (off + k) cs.length then some (.agg ((cs.drop off).take k)) else none
  | some false, some _ => cs[off]?
  | _, _ => none
def rAt (h : List Blk) (p : AV) : Option (List AV × Nat) :=
  match p with
  | .ptr n off => match h[n]? with
    | some (.cells cs) => some (cs, off)
    | _ => none
  | .elt xs i off => match xs[i]? with
    | some c => some (c.map .d, off)
    | none => none
  | _ => none
def rEl (x : AV) (i : Option Int) (k : Nat) (a : Out) : Option (AV × In) :=
  match x.list?, i, a with
  | some xs, some z, .el c => bif c.length == k then some (.elt [c] 0 0, .el xs z) else none
  | _, _, _ => none
def rIndexAddr (P : Program) (T : TypeId) (x i : AV) (a : Out) : Option (AV × In) :=
  match elmT P T with
  | some (_, k) =>
    match x with
    | .row n off len _ k' => match i.int? with
      | some z => bif k' == k then some (.ptr n (off + z.toNat * k), .lt z len) else none
      | none => none
    | x => rEl x i.int? k a
  | none => match arrT P T, x, i.int? with
    | some (n, _, k), .ptr b off, some z => some (.ptr b (off + z.toNat * k), .lt z n)
    | some (n, _, k), .elt [c] 0 0, some z => match a with
      | .one d => bif k == 1 then some (.elt [[d]] 0 0, .tel c z n) else none
      | _ => none
    | _, _, _ => none
def rLen (P : Program) (T : TypeId) (x : AV) (a : Out) : Option (AV × In) :=
  match x with
  | .d (.v (.string s)) => bif strT P T then some (.d (.v (.int .i64 s.size)), .none) else none
  | .row _ _ len _ _ => bif (elmT P T).isSome then some (.d (.v (.int .i64 len)), .none) else none
  | x => match x.list?, a with
    | some xs, .nat n => bif (elmT P T).isSome then some (.d (.v (.int .i64 n)), .len xs) else none
    | _, _ => none
def oN (l : Option Int) (d : Nat) : Nat := match l with | some z => z.toNat | none => d
def rInt (ρ : Operand → AV) : Option Operand → Option (Option Int)
  | none => some none
  | some y => match (ρ y).int? with
    | some z => some (some z)
    | none => none
def rSlice (P : Program) (T : TypeId) (ρ : Operand → AV) (x : AV) (lo hi mx : Option Operand) (a : Out) : Option (AV × In) :=
  match mx with
  | none => match rInt ρ lo, rInt ρ hi with
    | some l, some h => match x with
      | .d (.v (.string b)) => bif strT P T then some (.d (.v (.string (b.extract (oN l 0) (oN h b.size)))), .str b (l.getD 0) (h.getD b.size)) else none
      | .ptr n off => match arrT P T, l, h with
        | some (m, _, k), none, none => bif leB m 4096 && !leB m 0 then some (.row n off m m k, .none) else none
        | _, _, _ => none
      | x => match x.list?, elmT P T, a with
        | some xs, some (_, k), .list ys => some (.d (.sl ys), .sub xs (l.getD 0) h k)
        | _, _, _ => none
    | _, _ => none
  | some m => match lo, hi, ρ m with
    | none, some y, .d (.v (.int _ 0)) => match x.list?, elmT P T, ρ y, a with
      | some xs, some (_, k), .d (.v (.int _ 0)), .list _ => some (.full [], .sub xs 0 (some 0) k)
      | _, _, _, _ => none
    | _, _, _ => none
def rSrc (h : List Blk) (k : Nat) (x : AV) : Option (List (List D)) :=
  match x with
  | .row n off len _ k' => match h[n]? with
    | some (.cells cs) => match allD ((cs.drop off).take (len * k)) with
      | some ds => bif k' == k && leB (off + len * k) cs.length && ((cs.drop off).take (len * k)).all AV.cellB then some (chunks k len ds) else none
      | none => none
    | _ => none
  | x => x.list?
def rAppend (P : Program) (T : TypeId) (h : List Blk) (x y : AV) (a : Out) : Option (AV × List Blk × In) :=
  match elmT P T, a with
  | some (e, k), .listn zs n' => match zeroT P e, byT P e with
    | some z, some by_ => bif leB 1 k && z.cells.toList.length == k then
        match rSrc h k y with
        | some ys => match x with
          | .own n xs => match h[n]? with
            | some (.front e' k' len) => bif e' == e && k' == k then some (.own n zs, h.set n (.front e k n'), .app xs ys len k by_) else none
            | _ => none
          | .d (.v (.slice none 0 0)) => some (.own h.length zs, h ++ [.front e k n'], .app [] ys 0 k by_)
          | .full xs => some (.own h.length zs, h ++ [.front e k n'], .app xs ys xs.length k by_)
          | _ => none
        | none => none
      else none
    | _, _ => none
  | _, _ => none
def rBuild (P : Program) (T : TypeId) (ps : List (Nat × AV)) : Option AV :=
  match fldsP P T, zeroT P T with
  | some places, some z => match fillA places (z.cells.toList.map fun u => .d (.v u)) ps with
    | some cs => bif (ps.all fun p => p.2.boxB) && z.cells.toList.all Value.oneCell' then some (.agg cs) else none
    | none => none
  | _, _ => none
def rBuildSlice (P : Program) (T : TypeId) (len : Nat) (ps : List (Nat × AV)) : Option AV :=
  match elmT P T with
  | some (e, k) => match zeroT P e with
    | some z => match fillA (placesN k 0 len) (repN len (z.cells.toList.map fun u => .d (.v u))) ps with
      | some cs => match allD cs with
        | some ds => bif leB 1 k && leB (len * k) 16777216 && z.cells.toList.length == k && z.cells.toList.all Value.oneCell' && (ps.all fun p => p.2.boxB) then some (.full (chunks k len ds)) else none
        | none => none
      | none => none
    | none => none
  | none => none
def rBin (P : Program) (T : TypeId) (op : BinOp) (x y : AV) : Option (AV × In) :=
  match x, y with
  | .d (.v (.int k a)), .d (.v (.int k' b)) =>
    match binQ op k a b with
    | some v => bif kEq k k' then some (.d (.v v), .nz b) else none
    | none => match shI op k a b with
      | some v => some (.d (.v v), .nn b)
      | none => match binI op k a b with
        | some v => bif kEq k k' then some (.d (.v v), .none) else none
        | none => none
  | .d (.v (.string a)), .d (.v (.string b)) => match binS op a b with
    | some v => some (.d (.v v), .none)
    | none => match op with
      | .add => some (.d (.v (.string (a ++ b))), .cat (a.size + b.size))
      | _ => none
  | .d (.v (.bool a)), .d (.v (.bool b)) => match binB op a b with
    | some v => bif boolT P T then some (.d (.v v), .none) else none
    | none => none
  | .agg xs, .agg ys => match eqS P T xs ys with
    | some b => match eqV op b with
      | some v => some (.d (.v v), .none)
      | none => none
    | none => none
  | _, _ => none
def rConv (P : Program) (src dst : TypeId) (x : AV) (a : Out) : Option (AV × In) :=
  match x with
  | .d (.v (.int _ n)) => match intT P src, intT P dst with
    | some _, some k => some (.d (.v (.int k (k.wrap n))), .none)
    | _, _ => none
  | .d (.v (.string b)) => bif strT P src && strT P dst then some (.d (.v (.string b)), .none) else none
  | x => match x.list?, elmT P src, a with
    | some xs, some (e, _), .bytes s => bif u8T P e && strT P dst then some (.d (.v (.string s)), .byt xs) else none
    | _, _, _ => none
def rField (P : Program) (T : TypeId) (x : AV) (f : Nat) : Option AV :=
  match fldT P T f, x with
  | some (off, k, true), .agg cs => bif leB (off + k) cs.length then some (.agg ((cs.drop off).take k)) else none
  | some (off, _, false), .agg cs => cs[off]?
  | _, _ => none
def pureR (h : List Blk) : Option AV → Option (AV × List Blk × In)
  | some x => some (x, h, .none)
  | none => none
def inR (h : List Blk) : Option (AV × In) → Option (AV × List Blk × In)
  | some (x, i) => some (x, h, i)
  | none => none

mutual
/-- known less exactly: a slice as its list alone -/
def AV.nrm : AV → AV
  | .full xs => .d (.sl xs)
  | .d (.v (.slice none 0 0)) => .d (.sl [])
  | .agg cs => .agg (AV.nrmL cs)
  | .tup cs => .tup (AV.nrmL cs)
  | x => x
def AV.nrmL : List AV → List AV
  | [] => []
  | x :: l => x.nrm :: AV.nrmL l
end
mutual
/-- what a closure that reads alone takes along -/
def AV.cap : AV → Option Cap
  | .d x => some (.d x)
  | .own _ xs => some (.d (.sl xs))
  | .full xs => some (.d (.sl xs))
  | .elt xs i off => match xs[i]? with
    | some c => some (.elt c off)
    | none => none
  | .fn f cs => match AV.capL cs with
    | some l => some (.fn f l)
    | none => none
  | .hid c => some c
  | _ => none
def AV.capL : List AV → Option (List Cap)
  | [] => some []
  | x :: l => match x.cap, AV.capL l with
    | some c, some l => some (c :: l)
    | _, _ => none
end
def AV.clo : AV → AV
  | .fn f cs => match AV.capL cs with
    | some l => .hid (.fn f l)
    | none => .fn f cs
  | x => x
def AV.arg (x : AV) : AV := ((x.pub 0).nrm).clo
/-- one operation, worked out -/
def AV.arg2 (x : AV) : AV := (x.pub 0).nrm
def sdI : Sd → In
  | .no => .none
  | p => .sd p
def xR : Option (AV × List Blk × Sd) → Option (AV × List Blk × In)
  | some (x, h, p) => some (x, h, sdI p)
  | none => none
def runOp (P : Program) (op : Op) (ρ : Operand → AV) (h : List Blk) (a : Out) : Option (AV × List Blk × In) :=
  match op with
  | .move x | .assign x => some (ρ x, h, .none)
  | .pick c x y => match a with
    | .bit b => some (bif b then ρ x else ρ y, h, .bit (ρ c))
    | _ => none
  | .alloc e => match zeroT P e with
    | some z => some (.ptr h.length 0, h ++ [Blk.cells (z.cells.toList.map fun u => .d (.v u))], .none)
    | none => none
  | .box _ x => bif (ρ x).boxB then some (.ptr h.length 0, h ++ [Blk.cells (ρ x).cells], .none) else none
  | .load t p => match rAt h (ρ p) with
    | some (cs, off) => match rLoad P t cs off with
      | some x => some (x, h, .none)
      | none => none
    | none => none
  | .store t p x => match ρ p with
    | .ptr n off => match h[n]? with
      | some (.cells cs) => match szT P t with
        | some k => bif k == (ρ x).cells.length && (ρ x).boxB && leB (off + (ρ x).cells.length) cs.length then some (.d (.v undef), h.set n (.cells (splice cs off (ρ x).cells)), .none) else none
        | none => none
      | _ => none
    | _ => none
  | .nilCheck x => match ρ x with
    | .ptr n off => some (.ptr n off, h, .none)
    | .elt xs i off => some (.elt xs i off, h, .none)
    | .fn f cs => some (.fn f cs, h, .none)
    | _ => none
  | .fieldAddr S x f => match fldT P S f with
    | some (fo, _, _) => match ρ x with
      | .ptr n off => some (.ptr n (off + fo), h, .none)
      | .elt xs i off => some (.elt xs i (off + fo), h, .none)
      | _ => none
    | none => none
  | .field T x f => pureR h (rField P T (ρ x) f)
  | .indexAddr T x i => inR h (rIndexAddr P T (ρ x) (ρ i) a)
  | .index T x i => match ρ x, (ρ i).int?, a with
    | .d (.v (.string b)), some z, .byte c => bif strT P T then some (.d (.v (.int .u8 c.toNat)), h, .ch b z) else none
    | _, _, _ => none
  | .build T ps => pureR h (rBuild P T (ps.toList.map fun p => (p.1, ρ p.2)))
  | .buildSlice T len ps => pureR h (rBuildSlice P T len (ps.toList.map fun p => (p.1, ρ p.2)))
  | .slice T x lo hi mx => inR h (rSlice P T ρ (ρ x) lo hi mx a)
  | .extract x i => match ρ x with
    | .tup cs => match cs[i]? with
      | some c => some (c, h, .none)
      | none => none
    | _ => none
  | .makeFunc (.func f) first caps => match first.toList with
    | [] => some (.fn f (caps.toList.map ρ), h, .none)
    | _ => none
  | .binOp op T x y _ => inR h (rBin P T op (ρ x) (ρ y))
  | .unOp op _ x => match ρ x with
    | .d (.v u) => match unV op u with
      | some v => some (.d (.v v), h, .none)
      | none => none
    | _ => none
  | .convert s t x => inR h (rConv P s t (ρ x) a)
  | .call c => match c.callee with
    | .builtin .len => match c.args.toList, c.argTypes.toList with
      | [x], [T] => inR h (rLen P T (ρ x) a)
      | _, _ => none
    | .builtin .append => match c.args.toList, c.argTypes.toList with
      | [x, y], [T, U] => bif (elmT P U).isSome then rAppend P T h (ρ x) (ρ y) a else none
      | _, _ => none
    | .builtin .max => match foldI true (c.args.toList.map ρ) with
      | some (k, a) => some (.d (.v (.int k a)), h, .none)
      | none => none
    | .builtin .min => match foldI false (c.args.toList.map ρ) with
      | some (k, a) => some (.d (.v (.int k a)), h, .none)
      | none => none
    | .value f => match ρ f, a with
      | .fn g caps, .ret r => bif ((c.args.toList.map ρ ++ caps).map AV.arg).all (AV.lowB 0) && r.lowB 0 then some (r, h, .call g ((c.args.toList.map ρ ++ caps).map AV.arg)) else none
      | .fn g caps, .hret r h' => some (r, h', .hcall g (c.args.toList.map ρ ++ caps) h)
      | .fn g caps, .rret l _ _ r H' => some (r.ren (rn l h.length), putAll l (H'.map (Blk.ren (rn l h.length))) h, .rcall g ((c.args.toList.map ρ ++ caps).map AV.arg2) h)
      | .fn g caps, .rq l _ _ r => some (r.ren (rn l 0), h, .rcall g ((c.args.toList.map ρ ++ caps).map AV.arg2) h)
      | .hid q, .ret r => bif ((c.args.toList.map ρ).map AV.arg).all (AV.lowB 0) && r.lowB 0 then some (r, h, .ccall q ((c.args.toList.map ρ).map AV.arg)) else none
      | _, _ => none
    | _ => none
  | op => xR (opX P op ρ h)
theorem nrmL_eq : ∀ l, AV.nrmL l = l.map AV.nrm
  | [] => by simp [AV.nrmL]
  | x :: l => by simp [AV.nrmL, nrmL_eq l]
theorem VRel.nrm {G : Gh} {w : World} {u : Value} {x : AV} (h : VRel G w u x) : VRel G w u x.nrm := by
  have lst : ∀ (vs : Array Value) (cs : List AV), (∀ (i : Nat) (u : Value) (c : AV), vs[i]? = some u → cs[i]? = some c → VRel G w u c.nrm) → ∀ (i : Nat) (u : Value) (c : AV), vs[i]? = some u → (AV.nrmL cs)[i]? = some c → VRel G w u c := by
    intro vs cs ih i u c hu hc
    rw [nrmL_eq, List.getElem?_map] at hc
    cases hx : cs[i]? with
    | none => rw [hx] at hc; cases hc
    | some x => rw [hx] at hc; cases hc; exact ih i u x hu hx
  induction h with
  | agg vs cs hl _ ih => rw [AV.nrm]; exact .agg vs _ (by rw [nrmL_eq, List.length_map]; exact hl) (lst vs cs ih)
  | tup vs cs hl _ ih => rw [AV.nrm]; exact .tup vs _ (by rw [nrmL_eq, List.length_map]; exact hl) (lst vs cs ih)
  | full xs hp hf => rw [AV.nrm]; exact .d hp
  | @d u x h =>
    by_cases hx : x = .v (.slice none 0 0)
    · subst hx
      cases h with | v => simp only [AV.nrm]; exact .d nil_full
    · have : (AV.d x).nrm = .d x := by
        unfold AV.nrm
        split <;> simp_all
      rw [this]; exact .d h
  | own n xs h hp hle hf => simp only [AV.nrm]; exact .own n xs h hp hle hf
  | ptr n off h => simp only [AV.nrm]; exact .ptr n off h
  | elt xs i off b o u x hx hS hu => simp only [AV.nrm]; exact .elt xs i off b o u x hx hS hu
  | row n off len cap k h hl hm => simp only [AV.nrm]; exact .row n off len cap k h hl hm
  | fn f vs cs hl h => simp only [AV.nrm]; exact .fn f vs cs hl h
  | mp n h => simp only [AV.nrm]; exact .mp n h
  | yld n h => simp only [AV.nrm]; exact .yld n h
  | vec n o len L k h hs hL hf => simp only [AV.nrm]; exact .vec n o len L k h hs hL hf
  | vptr n i j L k h hs hL hf => simp only [AV.nrm]; exact .vptr n i j L k h hs hL hf
  | hid h h1 => simp only [AV.nrm]; exact .hid h h1
  | dead u => simp only [AV.nrm]; exact .dead u
theorem capL_get : ∀ (cs : List AV) (l : List Cap), AV.capL cs = some l → cs.length = l.length ∧ ∀ (i : Nat) (x : AV) (c : Cap), cs[i]? = some x → l[i]? = some c → x.cap = some c
  | [], l, h => by
    unfold AV.capL at h; cases h
    exact ⟨rfl, fun i x c hx => by simp at hx⟩
  | x :: cs, l, h => by
    unfold AV.capL at h
    split at h
    · next c l' e1 e2 =>
      cases h
      obtain ⟨h1, h2⟩ := capL_get cs l' e2
      refine ⟨by simp [h1], fun i y d hy hd => ?_⟩
      match i with
      | 0 => simp only [List.getElem?_cons_zero, Option.some.injEq] at hy hd; subst hy; subst hd; exact e1
      | i + 1 => exact h2 i y d (by simpa using hy) (by simpa using hd)
    · cases h
theorem VRel.cap {G : Gh} {w : World} {u : Value} {x : AV} (h : VRel G w u x) : ∀ c, x.cap = some c → CapRel G.S w u c := by
  induction h with
  | d h => intro c hc; simp only [AV.cap] at hc; cases hc; exact .d h
  | own n xs h hp hle hf => intro c hc; simp only [AV.cap] at hc; cases hc; exact .d hp
  | full xs hp hf => intro c hc; simp only [AV.cap] at hc; cases hc; exact .d hp
  | elt xs i off b o u x hx hS hu =>
    intro c hc
    simp only [AV.cap, hx] at hc
    cases hc
    exact .elt x off b o u hS hu
  | fn f vs cs hl h ih =>
    intro c hc
    simp only [AV.cap] at hc
    split at hc
    · next l e =>
      cases hc
      obtain ⟨h1, h2⟩ := capL_get cs l e
      refine .fn f vs l (hl.trans h1) fun i v d hv hd => ?_
      have hlt : i < cs.length := by rw [h1]; exact (List.getElem?_eq_some_iff.1 hd).1
      exact ih i v _ hv (List.getElem?_eq_getElem hlt) d (h2 i _ d (List.getElem?_eq_getElem hlt) hd)
    · cases hc
  | hid h h1 => intro c hc; simp only [AV.cap] at hc; cases hc; exact h
  | agg => intro c hc; simp [AV.cap] at hc
  | tup => intro c hc; simp [AV.cap] at hc
  | ptr => intro c hc; simp [AV.cap] at hc
  | row => intro c hc; simp [AV.cap] at hc
  | mp => intro c hc; simp [AV.cap] at hc
  | yld => intro c hc; simp [AV.cap] at hc
  | vec => intro c hc; simp [AV.cap] at hc
  | vptr => intro c hc; simp [AV.cap] at hc
  | dead => intro c hc; simp [AV.cap] at hc
theorem AV.Le.clo (x : AV) : AV.Le x x.clo := fun G w u h => by
  unfold AV.clo
  split
  · next f cs =>
    split
    · next l e =>
      have := h.cap (.fn f l) (by simp only [AV.cap, e])
      cases h with | fn => exact .hid this rfl
    · exact h
  · exact h
theorem AV.Le.arg (x : AV) : AV.Le x x.arg := fun _ _ _ h => AV.Le.clo _ _ _ _ (h.pub 0).nrm
theorem ACalls.args {P : Program} {f : FuncId} {as : List AV} {h : List Blk} {K : AV → List Blk → Prop} (hc : ACalls P f as h K) (bs : List AV) (hl : as.length = bs.length) (hle : ∀ (i : Nat) (c d : AV), bs[i]? = some c → as[i]? = some d → AV.Le c d) : ACalls P f bs h K :=
  ⟨hc.1, fun G w vs hi hs hr => hc.2 G w vs hi (hs.trans hl.symm) fun i u d hu hd => by
    have hlt : i < bs.length := by rw [← hl]; exact (List.getElem?_eq_some_iff.1 hd).1
    exact hle i _ d (List.getElem?_eq_getElem hlt) hd G w u (hr i u _ hu (List.getElem?_eq_getElem hlt))⟩
theorem ACalls.ofArg {P : Program} {f : FuncId} {as : List AV} {h : List Blk} {K : AV → List Blk → Prop} (hc : ACalls P f (as.map AV.arg) h K) : ACalls P f as h K :=
  hc.args as (by rw [List.length_map]) fun i c d hc hd => by
    rw [List.getElem?_map, hc] at hd; cases hd; exact AV.Le.arg c
theorem AV.Le.arg2 (x : AV) : AV.Le x x.arg2 := fun _ _ _ h => (h.pub 0).nrm
theorem ACalls.ofArg2 {P : Program} {f : FuncId} {as : List AV} {h : List Blk} {K : AV → List Blk → Prop} (hc : ACalls P f (as.map AV.arg2) h K) : ACalls P f as h K :=
  hc.args as (by rw [List.length_map]) fun i c d hc hd => by
    rw [List.getElem?_map, hc] at hd; cases hd; exact AV.Le.arg2 c
theorem cap_low (l : List Cap) : (l.map Cap.av).all (AV.lowB 0) = true := by
  rw [List.all_eq_true]
  intro x hx
  obtain ⟨c, _, rfl⟩ := List.mem_map.1 hx
  cases c <;> rfl
theorem CCalls.use {P : Program} {q : Cap} {args : List AV} {r : AV} {h : List Blk} {C : AV → List Blk → Prop} (hc : CCalls P q (args.map AV.arg) r) (ha : (args.map AV.arg).all (AV.lowB 0) = true) (hr : r.lowB 0 = true) (hC : C r h) : ∃ g cs, q = .fn g cs ∧ ACalls P g (args ++ cs.map Cap.av) h C := by
  obtain ⟨g, cs, rfl, hc⟩ := hc
  refine ⟨g, cs, rfl, ACalls.args (hc.use (h := h) (C := C) (by rw [List.all_append, ha, cap_low]; rfl) hr hC) _ (by simp) fun i c d h1 h2 => ?_⟩
  by_cases hi : i < args.length
  · rw [List.getElem?_append_left hi] at h1
    rw [List.getElem?_append_left (by simpa using hi), List.getElem?_map, h1] at h2
    cases h2; exact AV.Le.arg c
  · rw [List.getElem?_append_right (by omega)] at h1
    rw [List.getElem?_append_right (by simpa using hi), List.length_map, h1] at h2
    cases h2; exact AV.Le.refl c
theorem bif_some {α : Type} {b : Bool} {x y : α} (h : (bif b then some x else none) = some y) : b = true ∧ x = y := by
  cases b with
  | true => exact ⟨rfl, Option.some.inj h⟩
  | false => cases h
theorem bif_pos {α : Type} {b : Bool} {x : Option α} {y : α} (h : (bif b then x else none) = some y) : b = true ∧ x = some y := by
  cases b with
  | true => exact ⟨rfl, h⟩
  | false => cases h
section
variable {P : Program} {ρ : Operand → AV} {h h' : List Blk} {a : Out} {i : In} {x : AV} {C : AV → List Blk → Prop}
theorem OK.bit_inv {x : AV} {b : Bool} (h : OK P (.bit x) (.bit b)) : x = .d (.v (.bool b)) := by
  cases h with | bit h => subst h; rfl
theorem rLoad_sound {t : TypeId} {p : AV} {cs : List AV} {off : Nat} {K : AV → Prop} (h1 : rAt h p = some (cs, off)) (h2 : rLoad P t cs off = some x) (hK : K x) : aLoad P t h p K := by
  have key : (match aggT P t, szT P t with
      | some true, some k => chk (leB (off + k) cs.length) (K (.agg ((cs.drop off).take k)))
      | some false, some _ => match cs[off]? with
        | some c => K c
        | none => False
      | _, _ => False) := by
    unfold rLoad at h2
    split at h2
    · next k e1 e2 =>
      obtain ⟨h3, rfl⟩ := bif_some h2
      exact chk_iff.2 ⟨h3, hK⟩
    · next k e1 e2 => rw [h2]; exact hK
    · cases h2
  unfold aLoad atPtr
  unfold rAt at h1
  split at h1
  · split at h1
    · next cs' e => cases h1; simp only [e]; exact key
    · cases h1
  · split at h1
    · next c e => cases h1; simp only [e]; exact key
    · cases h1
  · cases h1
theorem rEl_spec {y : AV} {z : Option Int} {k : Nat} (h1 : rEl y z k a = some (x, i)) (hok : OK P i a) : ∃ xs w c, y.list? = some xs ∧ z = some w ∧ 0 ≤ w ∧ xs[w.toNat]? = some c ∧ c.length = k ∧ x = .elt [c] 0 0 := by
  unfold rEl at h1
  split at h1
  · next xs w c hx =>
    obtain ⟨hk, he⟩ := bif_some h1
    cases he
    cases hok with
    | el h0 hc => exact ⟨_, _, _, hx, rfl, h0, hc, by simpa using hk, rfl⟩
  · cases h1
theorem rIndexAddr_sound {T : TypeId} {y z : AV} {K : AV → Prop} (h1 : rIndexAddr P T y z a = some (x, i)) (hok : OK P i a) (hK : K x) : aIndexAddr P T y z K := by
  unfold rIndexAddr at h1
  unfold aIndexAddr
  cases hT : elmT P T with
  | some p =>
    obtain ⟨e, k⟩ := p
    simp only [hT] at h1 ⊢
    cases y with
    | row n off len cap k' =>
      simp only at h1 ⊢
      split at h1
      · next w hw =>
        obtain ⟨hk, he⟩ := bif_some h1
        cases he
        cases hok with | lt h0 hl => simp only [hw]; exact chk_iff.2 ⟨hk, h0, hl, hK⟩
      · cases h1
    | _ =>
      obtain ⟨xs, w, c, e1, e2, e3, e4, e5, rfl⟩ := rEl_spec h1 hok
      simp only [e1, e2, e4, e5]
      exact ⟨e3, trivial, hK⟩
  | none =>
    simp only [hT] at h1 ⊢
    split at h1
    · next n e k b off w hA hw =>
      cases h1
      simp only [hA, hw]
      cases hok with | lt h0 hl => exact ⟨h0, hl, hK⟩
    · next n e k c w hA hw =>
      split at h1
      · next d =>
        obtain ⟨hb, he⟩ := bif_some h1; cases he
        simp only [hA, hw]
        cases hok with | tel h0 hl h => exact chk_iff.2 ⟨hb, h0, hl, by simp only [List.getElem?_cons_zero, Nat.zero_add, h]; exact hK⟩
      · cases h1
    · cases h1
theorem rLen_sound {T : TypeId} {y : AV} {K : Nat → Prop} {C : AV → Prop} (h1 : rLen P T y a = some (x, i)) (hok : OK P i a) (hK : C x) (hc : ∀ n : Nat, C (.d (.v (.int .i64 n))) → K n) : aLen P T y K := by
  unfold rLen at h1
  unfold aLen
  split at h1
  · obtain ⟨hb, he⟩ := bif_some h1; cases he; exact chk_iff.2 ⟨hb, hc _ hK⟩
  · obtain ⟨hb, he⟩ := bif_some h1; cases he; exact chk_iff.2 ⟨hb, hc _ hK⟩
  · next n1 n2 =>
    split at h1
    · next xs n hx =>
      obtain ⟨hb, he⟩ := bif_some h1; cases he
      cases hok with
      | len hl =>
        subst hl
        split
        · next s => exact absurd rfl (n1 s)
        · next a b c d e => exact absurd rfl (n2 a b c d e)
        · simp only [hx]; exact chk_iff.2 ⟨hb, hc _ hK⟩
    · cases h1
theorem rInt_spec {y : Option Operand} {l : Option Int} (h1 : rInt ρ y = some l) : (y = none ∧ l = none) ∨ ∃ o z, y = some o ∧ l = some z ∧ (ρ o).int? = some z := by
  unfold rInt at h1
  cases y with
  | none => cases h1; exact .inl ⟨rfl, rfl⟩
  | some o =>
    simp only at h1
    split at h1
    · next z hz => cases h1; exact .inr ⟨o, z, rfl, rfl, hz⟩
    · cases h1
theorem optInt_of {y : Option Operand} {l : Option Int} {d : Nat} {K : Nat → Prop} (h1 : rInt ρ y = some l) (h0 : ∀ z, l = some z → 0 ≤ z) (hK : K (oN l d)) : optInt ρ y d K := by
  rcases rInt_spec h1 with ⟨rfl, rfl⟩ | ⟨o, z, rfl, rfl, hz⟩
  · exact hK
  · simp only [optInt, hz]; exact ⟨h0 z rfl, hK⟩
theorem rSlice_sound {T : TypeId} {y : AV} {lo hi mx : Option Operand} {K : AV → Prop} (h1 : rSlice P T ρ y lo hi mx a = some (x, i)) (hok : OK P i a) (hK : K x) : aSlice P T ρ y lo hi mx K := by
  unfold rSlice at h1
  unfold aSlice
  split at h1
  · split at h1
    · next l hh hl hhi =>
      split at h1
      · next b =>
        obtain ⟨hb, he⟩ := bif_some h1; cases he
        cases hok with
        | str h0 h2 h3 h4 =>
          refine chk_iff.2 ⟨hb, optInt_of hhi (fun z e => by subst e; exact h3) ?_⟩
          have e1 : oN hh b.size = (hh.getD b.size).toNat := by cases hh <;> simp [oN]
          have e2 : oN l 0 = (l.getD 0).toNat := by cases l <;> simp [oN]
          rw [e1]
          refine ⟨h4, optInt_of hl (fun z e => by subst e; exact h0) ?_⟩
          rw [e2]
          rw [e1, e2] at hK
          exact ⟨h2, hK⟩
      · next n off =>
        split at h1
        · next m e k hT =>
          obtain ⟨hb, he⟩ := bif_some h1; cases he
          simp only [hT]
          generalize leB m 4096 = q at hb ⊢
          rw [Bool.and_eq_true] at hb
          refine chk_iff.2 ⟨hb.1, optInt_of hhi (fun z e => by cases e) (chk_iff.2 ⟨leB_iff.2 (Nat.le_refl _), optInt_of hl (fun z e => by cases e) (chk_iff.2 ⟨?_, ?_⟩)⟩)⟩
          · rw [Bool.and_eq_true]; exact ⟨leB_iff.2 (Nat.zero_le _), hb.2⟩
          · show K (.row n (off + 0 * k) (m - 0) (m - 0) k)
            rw [Nat.zero_mul, Nat.add_zero, Nat.sub_zero]; exact hK
        · cases h1
      · next hn1 hn2 =>
        split at h1
        · next xs e k ys hx hT =>
          cases h1
          dsimp only
          split
          · next b => exact absurd rfl (hn1 b)
          · next n off => exact absurd rfl (hn2 n off)
          · simp only [hx, hT]
            cases hh with
            | none =>
              cases hok with
              | subn h0 h2 hk he =>
                refine ⟨hk, optInt_of hhi (fun z e => by cases e) ⟨Nat.le_refl _, optInt_of hl (fun z e => by subst e; exact h0) ?_⟩⟩
                have e2 : oN l 0 = (l.getD 0).toNat := by cases l <;> simp [oN]
                rw [e2]
                refine ⟨h2, ?_⟩
                rw [show oN none xs.length = xs.length from rfl, List.take_length, he]; exact hK
            | some z =>
              cases hok with
              | sub h0 h2 h3 h4 hk he =>
                refine ⟨hk, optInt_of hhi (fun z e => by cases e; exact h3) ⟨h4, optInt_of hl (fun z e => by subst e; exact h0) ?_⟩⟩
                have e2 : oN l 0 = (l.getD 0).toNat := by cases l <;> simp [oN]
                rw [e2]
                refine ⟨h2, ?_⟩
                rw [show oN (some z) xs.length = z.toNat from rfl, he]; exact hK
        · cases h1
    · cases h1
  · split at h1
    · next m _ _ y' _ hm =>
      split at h1
      · next xs e k _ _ ys hx hT hy =>
        cases h1
        cases hok with
        | sub h0 h2 h3 h4 hk he =>
          simp only [hx, hT]
          refine ⟨hk, ?_⟩
          simp only [optInt, hm, hy, AV.int?]
          refine ⟨Int.le_refl _, Nat.zero_le _, Int.le_refl _, ?_, by simpa using hK⟩
          first | rfl | trivial
      · cases h1
    · cases h1
theorem rSrc_sound {k : Nat} {y : AV} {ys : List (List D)} {K : List (List D) → Prop} (h1 : rSrc h k y = some ys) (hy : ∀ c ∈ ys, c.length = k) (hK : K ys) : srcL h k y K := by
  unfold rSrc at h1
  unfold srcL
  split at h1
  · split at h1
    · next cs e =>
      split at h1
      · next ds e2 =>
        obtain ⟨hb, rfl⟩ := bif_some h1
        simp only [e, e2]
        exact chk_iff.2 ⟨hb, hK⟩
      · cases h1
    · cases h1
  · next hn =>
    split
    · next n off len cap k' => exact absurd rfl (hn n off len cap k')
    · simp only [h1]; exact ⟨hy, hK⟩
theorem rAppend_sound {T : TypeId} {y z : AV} (h1 : rAppend P T h y z a = some (x, h', i)) (hok : OK P i a) (hC : C x h') : aAppend P T h y z C := by
  unfold rAppend at h1
  unfold aAppend
  split at h1
  · next e k zs n' hT =>
    simp only [hT]
    split at h1
    · next zv by_ hz hby =>
      simp only [hz, hby]
      obtain ⟨hb, h1⟩ := bif_pos h1
      refine chk_iff.2 ⟨hb, ?_⟩
      split at h1
      · next ys hys =>
        split at h1
        · next n xs =>
          split at h1
          · next e' k' len hn =>
            obtain ⟨hc, he⟩ := bif_some h1; cases he
            cases hok with
            | app hl hx hy hm hbb hzz hnn =>
              subst hzz; subst hnn
              refine rSrc_sound hys hy ?_
              simp only [hn]
              exact chk_iff.2 ⟨hc, hl, hx, hm, hbb, hC⟩
          · cases h1
        · cases h1
          cases hok with
          | app hl hx hy hm hbb hzz hnn =>
            subst hzz; subst hnn
            refine rSrc_sound hys hy ?_
            simp only [List.nil_append, List.length_nil, Nat.zero_add] at hC hm hbb ⊢
            exact ⟨hm, hbb, hC⟩
        · cases h1
          cases hok with
          | app hl hx hy hm hbb hzz hnn =>
            subst hzz; subst hnn
            exact rSrc_sound hys hy ⟨hx, hm, hbb, hC⟩
        · cases h1
      · cases h1
    · cases h1
  · cases h1
theorem rBuild_sound {T : TypeId} {ps : List (Nat × AV)} {K : AV → Prop} (h1 : rBuild P T ps = some x) (hK : K x) : aBuild P T ps K := by
  unfold rBuild at h1
  unfold aBuild
  split at h1
  · next pl z e1 e2 =>
    simp only [e1, e2]
    split at h1
    · next cs e3 => obtain ⟨hb, rfl⟩ := bif_some h1; simp only [e3]; exact chk_iff.2 ⟨hb, hK⟩
    · cases h1
  · cases h1
theorem rBuildSlice_sound {T : TypeId} {len : Nat} {ps : List (Nat × AV)} {K : AV → Prop} (h1 : rBuildSlice P T len ps = some x) (hK : K x) : aBuildSlice P T len ps K := by
  unfold rBuildSlice at h1
  unfold aBuildSlice
  split at h1
  · next e k hT =>
    simp only [hT]
    split at h1
    · next z hz =>
      simp only [hz]
      split at h1
      · next cs hcs =>
        simp only [hcs]
        split at h1
        · next ds hds => obtain ⟨hb, rfl⟩ := bif_some h1; simp only [hds]; exact chk_iff.2 ⟨hb, hK⟩
        · cases h1
      · cases h1
    · cases h1
  · cases h1
theorem rBin_sound {T : TypeId} {op : BinOp} {y z : AV} {K : AV → Prop} (h1 : rBin P T op y z = some (x, i)) (hok : OK P i a) (hK : K x) : aBin P T op y z K := by
  unfold rBin at h1
  unfold aBin
  split at h1
  · split at h1
    · next v e =>
      obtain ⟨hb, he⟩ := bif_some h1; cases he
      cases hok with | nz h0 => simp only [e]; exact chk_iff.2 ⟨hb, h0, hK⟩
    · next e =>
      simp only [e]
      split at h1
      · next v e2 =>
        cases h1
        cases hok with | nn h0 => simp only [e2]; exact ⟨h0, hK⟩
      · next e2 =>
        simp only [e2]
        split at h1
        · next v e3 => obtain ⟨hb, he⟩ := bif_some h1; cases he; simp only [e3]; exact chk_iff.2 ⟨hb, hK⟩
        · cases h1
  · split at h1
    · next v e => cases h1; simp only [e]; exact hK
    · next e =>
      simp only [e]
      split at h1
      · cases h1; cases hok with | cat h => exact ⟨h, hK⟩
      · cases h1
  · split at h1
    · next v e => obtain ⟨hb, he⟩ := bif_some h1; cases he; simp only [e]; exact chk_iff.2 ⟨hb, hK⟩
    · cases h1
  · split at h1
    · next b e =>
      simp only [e]
      split at h1
      · next v e2 => cases h1; simp only [e2]; exact hK
      · cases h1
    · cases h1
  · cases h1
theorem rConv_sound {s t : TypeId} {y : AV} {K : AV → Prop} (h1 : rConv P s t y a = some (x, i)) (hok : OK P i a) (hK : K x) : aConv P s t y K := by
  unfold rConv at h1
  unfold aConv
  split at h1
  · split at h1
    · next e1 e2 => cases h1; simp only [e1, e2]; exact hK
    · cases h1
  · obtain ⟨hb, he⟩ := bif_some h1; cases he; exact chk_iff.2 ⟨hb, hK⟩
  · next h8 h9 =>
    split at h1
    · next xs e k s' e1 e2 =>
      obtain ⟨hb, he⟩ := bif_some h1; cases he
      cases hok with
      | byt h =>
        obtain ⟨ns, k1, k2⟩ := h
        subst k2
        split
        · next k' n => exact absurd rfl (h8 k' n)
        · next b' => exact absurd rfl (h9 b')
        · simp only [e1, e2]; exact chk_iff.2 ⟨hb, ns, k1, hK⟩
    · cases h1
theorem rField_sound {T : TypeId} {y : AV} {f : Nat} {K : AV → Prop} (h1 : rField P T y f = some x) (hK : K x) : aField P T y f K := by
  unfold rField at h1
  unfold aField
  split at h1
  · next e => obtain ⟨hb, rfl⟩ := bif_some h1; simp only [e]; exact chk_iff.2 ⟨hb, hK⟩
  · next e => simp only [e, h1]; exact hK
  · cases h1
theorem pureR_some {y : Option AV} (h1 : pureR h y = some (x, h', i)) : y = some x ∧ h' = h := by
  cases y with
  | none => cases h1
  | some y => cases h1; exact ⟨rfl, rfl⟩
theorem inR_some {y : Option (AV × In)} (h1 : inR h y = some (x, h', i)) : y = some (x, i) ∧ h' = h := by
  cases y with
  | none => cases h1
  | some y => cases h1; exact ⟨rfl, rfl⟩
theorem runOp_sound {o : Oper} (h1 : runOp P o.op ρ h a = some (x, h', i)) (hok : OK P i a) (hC : C x h') : aopC P o ρ h C := by
  obtain ⟨dst, op, type, pos, after, guard⟩ := o
  simp only at h1
  unfold runOp at h1
  unfold aopC
  split at h1
  · cases h1; exact hC
  · cases h1; exact hC
  · next c y z =>
    split at h1
    · next b =>
      cases h1
      simp only [OK.bit_inv hok]
      cases b <;> simp_all
    · cases h1
  · split at h1
    · next z e => cases h1; simp only [e]; exact hC
    · cases h1
  · obtain ⟨hb, he⟩ := bif_some h1; cases he; exact chk_iff.2 ⟨hb, hC⟩
  · split at h1
    · next cs off e =>
      split at h1
      · next y e2 => cases h1; exact rLoad_sound e e2 hC
      · cases h1
    · cases h1
  · split at h1
    · next n off e =>
      split at h1
      · next cs e2 =>
        split at h1
        · next k e3 => obtain ⟨hb, he⟩ := bif_some h1; cases he; simp only [e, aStore, e2, e3]; exact chk_iff.2 ⟨hb, hC⟩
        · cases h1
      · cases h1
    · cases h1
  · split at h1
    · next e => cases h1; simp only [e]; exact hC
    · next e => cases h1; simp only [e]; exact hC
    · next e => cases h1; simp only [e]; exact hC
    · cases h1
  · split at h1
    · next e =>
      simp only [e]
      split at h1
      · next e2 => cases h1; simp only [e2]; exact hC
      · next e2 => cases h1; simp only [e2]; exact hC
      · cases h1
    · cases h1
  · obtain ⟨e, rfl⟩ := pureR_some h1; exact rField_sound e hC
  · obtain ⟨e, rfl⟩ := inR_some h1; exact rIndexAddr_sound e hok hC
  · split at h1
    · next b z c e1 e2 =>
      obtain ⟨hb, he⟩ := bif_some h1; cases he
      cases hok with
      | ch h0 hc => simp only [e1, e2]; refine chk_iff.2 ⟨hb, h0, ?_⟩; simp only [hc]; exact hC
    · cases h1
  · obtain ⟨e, rfl⟩ := pureR_some h1; exact rBuild_sound e hC
  · obtain ⟨e, rfl⟩ := pureR_some h1; exact rBuildSlice_sound e hC
  · obtain ⟨e, rfl⟩ := inR_some h1; exact rSlice_sound e hok hC
  · split at h1
    · next e =>
      split at h1
      · next e2 => cases h1; simp only [e, e2]; exact hC
      · cases h1
    · cases h1
  · split at h1
    · next e => cases h1; simp only [e]; exact hC
    · cases h1
  · obtain ⟨e, rfl⟩ := inR_some h1; exact rBin_sound e hok hC
  · unfold aUn
    split at h1
    · next e =>
      split at h1
      · next e2 => cases h1; simp only [e, e2]; exact hC
      · cases h1
    · cases h1
  · obtain ⟨e, rfl⟩ := inR_some h1; exact rConv_sound e hok hC
  · next c =>
    split at h1
    · next hc =>
      simp only [hc]
      split at h1
      · next e1 e2 => obtain ⟨e, rfl⟩ := inR_some h1; simp only [e1, e2]; exact rLen_sound (C := fun x => C x _) e hok hC (fun n hn => hn)
      · cases h1
    · next hc =>
      simp only [hc]
      split at h1
      · next e1 e2 => obtain ⟨hb, h1⟩ := bif_pos h1; simp only [e1, e2]; exact chk_iff.2 ⟨hb, rAppend_sound h1 hok hC⟩
      · cases h1
    · next hc =>
      simp only [hc]
      split at h1
      · next e1 => cases h1; simp only [e1]; exact hC
      · cases h1
    · next hc =>
      simp only [hc]
      split at h1
      · next e1 => cases h1; simp only [e1]; exact hC
      · cases h1
    · next f hc =>
      simp only [hc]
      split at h1
      · next g caps r e =>
        obtain ⟨hb, he⟩ := bif_some h1; cases he
        simp only [Bool.and_eq_true] at hb
        simp only [e]
        cases hok with | call hcall => exact (hcall.use hb.1 hb.2 hC).ofArg
      · next g caps r h2 e =>
        cases h1
        simp only [e]
        cases hok with | hcall hcall => exact hcall.mono fun r1 h1 ⟨e1, e2⟩ => by subst e1; subst e2; exact hC
      · next g caps l argsC H r H' e =>
        cases h1
        simp only [e]
        cases hok with | rcall ha hd hb hl hc => exact (ha ▸ (hc.rcall hd hb hl).mono fun r1 h1 ⟨e1, e2⟩ => by subst e1; subst e2; exact hC : ACalls P g _ _ _).ofArg2
      · next g caps l argsC H r e =>
        cases h1
        simp only [e]
        cases hok with | rq ha hd hb hl hc => exact (ha ▸ (by have := hc.rq hd hb hl []; rw [List.append_nil] at this; exact this.mono fun r1 h1 ⟨e1, e2⟩ => by subst e1; subst e2; exact hC) : ACalls P g _ _ _).ofArg2
      · next q r e =>
        obtain ⟨hb, he⟩ := bif_some h1; cases he
        simp only [Bool.and_eq_true] at hb
        simp only [e]
        cases hok with | ccall hq => exact hq.use hb.1 hb.2 hC
      · cases h1
    · cases h1
  · next op _ =>
    unfold xR at h1
    split at h1
    · next y h2 p e =>
      cases h1
      simp only [e]
      refine ⟨?_, hC⟩
      cases p with
      | no => trivial
      | lt n => cases hok with | sd h => exact h
    · cases h1
end

/-! ### a region -/
def look : List (Nat × Out) → Nat → Out
  | [], _ => .none
  | (k, x) :: l, i => bif k == i then x else look l i
def consI (i : In) (a : Out) (r : Option (St × List (In × Out))) : Option (St × List (In × Out)) :=
  match i with
  | .none => r
  | i => match r with
    | some (s, l) => some (s, (i, a) :: l)
    | none => none
def isH : Out → Bool
  | .hret .. | .rret .. => true
  | _ => false
/-- an operation, on what may be written too -/
def runOpN (P : Program) (dr : Bool) (op : Op) (ρ : Operand → AV) (h : List Blk) (a : Out) : Option (AV × List Blk × In) :=
  match a with
  | .va va => bif dr then none else match opV P op ρ h va with
    | some (x, h', p) => some (x, h', .pr p)
    | none => none
  | a => runOp P op ρ h a
/-- the state behind an operation, and what it asks -/
def runStep (P : Program) (dr : Bool) (o : Oper) (j : Nat) (as : List (Nat × Out)) (s : St) : Option (St × List (In × Out)) :=
  bif dr && isH (look as (3 * j + 1)) then none else
  match runOpN P dr o.op (ev s) s.h (look as (3 * j + 1)) with
  | some (x, h', i) => match look as (3 * j + 2) with
    | .eq y => consI i (look as (3 * j + 1)) (some ((s.wh h').put o.dst y, [(.eq x, .eq y)]))
    | _ => consI i (look as (3 * j + 1)) (some ((s.wh h').put o.dst x, []))
  | none => none
def skipS (o : Oper) (s : St) : St := s.put o.dst (.d (.v undef))
def catR (l : List (In × Out)) : Option (St × List (In × Out)) → Option (St × List (In × Out))
  | some (s, m) => some (s, l ++ m)
  | none => none
def runG (P : Program) (ops : Array Oper) (dr : Bool) (o : Oper) (j : Nat) (as : List (Nat × Out)) (s : St) : Option (St × List (In × Out)) :=
  match o.guard with
  | none => runStep P dr o j as s
  | some (g, want) => match look as (3 * j) with
    | .bit b => catR [(.bit (gSlot ops g s.t), .bit b)] (bif b == want then runStep P dr o j as s else some (skipS o s, []))
    | .und => catR [(.bit (gSlot ops g s.t), .und)] (some (skipS o s, []))
    | _ => none
def runOps (P : Program) (ops : Array Oper) (dr : Bool) : List Oper → Nat → List (Nat × Out) → St → Option (St × List (In × Out))
  | [], _, _, s => some (s, [])
  | o :: rest, j, as, s => match runG P ops dr o j as s with
    | some (s1, l) => catR l (runOps P ops dr rest (j + 1) as s1)
    | none => none
def AllOK (P : Program) (l : List (In × Out)) : Prop := ∀ p ∈ l, OK P p.1 p.2
section
variable {P : Program} {ops : Array Oper} {dr : Bool} {o : Oper} {j : Nat} {as : List (Nat × Out)} {s s1 : St} {l : List (In × Out)} {K : St → Prop}
theorem consI_some {i : In} {a : Out} {r : Option (St × List (In × Out))} (h : consI i a r = some (s1, l)) (hok : AllOK P l) : ∃ m, r = some (s1, m) ∧ AllOK P m ∧ OK P i a := by
  unfold consI at h
  split at h
  · exact ⟨l, h, hok, .none⟩
  · split at h
    · next s2 m =>
      cases h
      exact ⟨m, rfl, fun p hp => hok p (List.mem_cons_of_mem _ hp), hok (i, a) List.mem_cons_self⟩
    · cases h
theorem catR_some {r : Option (St × List (In × Out))} {m : List (In × Out)} (h : catR m r = some (s1, l)) (hok : AllOK P l) : ∃ n, r = some (s1, n) ∧ AllOK P n ∧ AllOK P m := by
  unfold catR at h
  split at h
  · next s2 n =>
    cases h
    exact ⟨n, rfl, fun p hp => hok p (List.mem_append_right _ hp), fun p hp => hok p (List.mem_append_left _ hp)⟩
  · cases h
def aopB (P : Program) (dr : Bool) (o : Oper) (K : St → Prop) (s : St) : Prop := bif dr then aopD P o K s else aopN P o K s
theorem aopD_of {x : AV} {h' : List Blk} {i : In} {a : Out} (h1 : runOp P o.op (ev s) s.h a = some (x, h', i)) (hok : OK P i a) (hh : isH a = false) (hK : K ((s.wh h').put o.dst x)) : aopD P o K s := by
  unfold aopD
  split
  · next c hop =>
    split
    · next f hc =>
      rw [hop] at h1
      unfold runOp at h1
      simp only [hc] at h1
      split at h1
      · next g caps r e =>
        obtain ⟨hb, he⟩ := bif_some h1; cases he
        simp only [Bool.and_eq_true] at hb
        simp only [e]
        cases hok with
        | call hcall => exact ⟨_, hK, fun e => (hcall.use hb.1 hb.2 ⟨rfl, rfl⟩).ofArg⟩
      · cases hh
      · cases hh
      · next g caps l argsC H r e =>
        cases h1
        simp only [e]
        cases hok with | rq ha hd hb hl hc => exact ⟨_, hK, fun e => (ha ▸ hc.rq hd hb hl e : ACalls P g _ _ _).ofArg2⟩
      · next q r e =>
        obtain ⟨hb, he⟩ := bif_some h1; cases he
        simp only [Bool.and_eq_true] at hb
        simp only [e]
        cases hok with
        | ccall hq =>
          have := fun h => hq.use (h := h) (C := fun r' h' => r' = x ∧ h' = h) hb.1 hb.2 ⟨rfl, rfl⟩
          obtain ⟨g, cs, e1, _⟩ := this []
          refine ⟨g, cs, e1, x, hK, fun e => ?_⟩
          obtain ⟨g', cs', e2, h9⟩ := this (s.h ++ e)
          rw [e1] at e2
          cases e2
          exact h9
      · cases h1
    · exact runOp_sound (C := fun x h' => K ((s.wh h').put o.dst x)) h1 hok hK
  · exact runOp_sound (C := fun x h' => K ((s.wh h').put o.dst x)) h1 hok hK
theorem runStep_sound (h : runStep P dr o j as s = some (s1, l)) (hok : AllOK P l) (hK : K s1) : aopB P dr o K s := by
  unfold runStep at h
  cases hd : dr && isH (look as (3 * j + 1)) with
  | true => rw [hd] at h; cases h
  | false =>
    rw [hd] at h
    simp only [cond_false] at h
    split at h
    · next x h' i hr =>
      have fin : OK P i (look as (3 * j + 1)) → K ((s.wh h').put o.dst x) → aopB P dr o K s := fun h1 h2 => by
        unfold aopB
        cases dr with
        | true =>
          unfold runOpN at hr
          split at hr
          · cases hr
          · exact aopD_of hr h1 (by simpa using hd) h2
        | false =>
          unfold runOpN at hr
          split at hr
          · next va e =>
            simp only [cond_false] at hr
            split at hr
            · next x2 h2' p e2 =>
              cases hr
              rw [e] at h1
              cases h1 with | pr _ hp => exact .inl ⟨va, x, h', p, e2, hp, h2⟩
            · cases hr
          · exact .inr (.inr (.inl (runOp_sound (C := fun x h' => K ((s.wh h').put o.dst x)) hr h1 h2)))
      split at h
      · next y hy =>
        obtain ⟨m, e, h2, h3⟩ := consI_some h hok
        cases e
        have := h2 (.eq x, .eq y) List.mem_cons_self
        cases this with | eq e => subst e; exact fin h3 hK
      · obtain ⟨m, e, h2, h3⟩ := consI_some h hok
        cases e
        exact fin h3 hK
    · cases h
theorem runG_sound (h : runG P ops dr o j as s = some (s1, l)) (hok : AllOK P l) (hK : K s1) : aGuard ops o s (aopB P dr o K s) (K (s.put o.dst (.d (.v undef)))) := by
  unfold runG at h
  split at h
  · next hg => unfold aGuard; rw [hg]; exact runStep_sound h hok hK
  · next g want hg =>
    obtain ⟨dst, op, ty, pos, after, guard⟩ := o
    simp only at hg
    subst hg
    split at h
    · next b hb =>
      obtain ⟨n, e, h2, h3⟩ := catR_some h hok
      have h4 := OK.bit_inv (h3 (_, _) List.mem_cons_self)
      rw [aGuard_some, h4]
      refine ⟨fun e2 => ?_, fun e2 => ?_⟩
      · subst e2
        simp only [BEq.rfl, cond_true] at e
        exact runStep_sound e h2 hK
      · subst e2
        have : ((!want) == want) = false := by cases want <;> rfl
        rw [this] at e
        simp only [cond_false] at e
        cases e
        exact hK
    · next hb =>
      obtain ⟨n, e, h2, h3⟩ := catR_some h hok
      cases e
      have h4 := h3 (_, _) List.mem_cons_self
      have h5 : gSlot ops g s.t = .d (.v undef) := by
        generalize gSlot ops g s.t = z at h4
        cases h4; rfl
      rw [aGuard_some, h5]
      exact hK
    · cases h
theorem runOps_sound : ∀ (ol : List Oper) (j : Nat) (s : St) (l : List (In × Out)), runOps P ops dr ol j as s = some (s1, l) → AllOK P l → K s1 → (bif dr then aDraw P ops ol K s else aOps P ops ol K s)
  | [], _, s, l, h, _, hK => by cases h; cases dr <;> exact hK
  | o :: rest, j, s, l, h, hok, hK => by
    unfold runOps at h
    split at h
    · next s2 m hg =>
      obtain ⟨n, e, h2, h3⟩ := catR_some h hok
      have ih := runOps_sound rest (j + 1) s2 n e h2 hK
      cases dr with
      | true => exact runG_sound (K := aDraw P ops rest K) hg h3 ih
      | false => exact runG_sound (K := aOps P ops rest K) hg h3 ih
    · cases h
theorem put_pre (s : St) (d : Option Nat) (x : AV) : ∃ pre, (s.put d x).t = pre ++ s.t := by
  cases d with
  | none => exact ⟨[], rfl⟩
  | some k =>
    by_cases hk : k < s.n
    · exact ⟨[(k, x)], by rw [put_lt hk]; rfl⟩
    · exact ⟨[], by rw [put_ge hk]; rfl⟩
theorem runG_pre (h : runG P ops dr o j as s = some (s1, l)) : (∃ pre, s1.t = pre ++ s.t) ∧ s1.n = s.n := by
  have cI : ∀ {i a r l}, consI i a r = some (s1, l) → ∃ m, r = some (s1, m) := fun {i a r l} h => by
    unfold consI at h
    split at h
    · exact ⟨_, h⟩
    · split at h
      · cases h; exact ⟨_, rfl⟩
      · cases h
  have cR : ∀ {m r l}, catR m r = some (s1, l) → ∃ m, r = some (s1, m) := fun {m r l} h => by
    unfold catR at h
    split at h
    · cases h; exact ⟨_, rfl⟩
    · cases h
  have st : ∀ l, runStep P dr o j as s = some (s1, l) → (∃ pre, s1.t = pre ++ s.t) ∧ s1.n = s.n := fun l h => by
    unfold runStep at h
    cases hd : dr && isH (look as (3 * j + 1)) with
    | true => rw [hd] at h; cases h
    | false =>
      rw [hd] at h
      simp only [cond_false] at h
      split at h
      · split at h <;> (obtain ⟨m, e⟩ := cI h; cases e; exact ⟨put_pre _ _ _, by rw [put_n]; rfl⟩)
      · cases h
  unfold runG at h
  split at h
  · exact st _ h
  · split at h
    · obtain ⟨m, e⟩ := cR h
      revert e
      generalize ((_ : Bool) == _) = q
      intro e
      cases q with
      | true => exact st _ e
      | false => cases e; exact ⟨put_pre _ _ _, by unfold skipS; rw [put_n]⟩
    · obtain ⟨m, e⟩ := cR h
      cases e; exact ⟨put_pre _ _ _, by unfold skipS; rw [put_n]⟩
    · cases h
theorem runOps_pre : ∀ (ol : List Oper) (j : Nat) (s : St) (l : List (In × Out)), runOps P ops dr ol j as s = some (s1, l) → (∃ pre, s1.t = pre ++ s.t) ∧ s1.n = s.n
  | [], _, s, l, h => by cases h; exact ⟨⟨[], rfl⟩, rfl⟩
  | o :: rest, j, s, l, h => by
    unfold runOps at h
    split at h
    · next s2 m hg =>
      unfold catR at h
      split at h
      · next s3 n e =>
        cases h
        obtain ⟨⟨p1, e1⟩, n1⟩ := runG_pre hg
        obtain ⟨⟨p2, e2⟩, n2⟩ := runOps_pre rest (j + 1) s2 n e
        exact ⟨⟨p2 ++ p1, by rw [e2, e1, List.append_assoc]⟩, n2.trans n1⟩
      · cases h
    · cases h
end
def isDead : AV → Bool
  | .dead => true
  | _ => false
/-- a region worked out: the temporaries kept, the blocks, what is asked -/
def runFin (P : Program) (dr : Bool) (l : List Oper) (as : List (Nat × Out)) (keep : List Nat) (s : St) : Option (List (Nat × AV) × List Blk × List (In × Out)) :=
  match runOps P l.toArray dr l 0 as s with
  | some (s1, ps) => bif (s1.t.take (s1.t.length - s.t.length)).all (fun p => keep.any (· == p.1) || isDead (tget s.t p.1)) then some (keep.map fun k => (k, tget s1.t k), s1.h, ps) else none
  | none => none
theorem tget_append : ∀ (a b : List (Nat × AV)) (i : Nat), (i ∈ a.map (·.1) ∧ tget (a ++ b) i = tget a i) ∨ (i ∉ a.map (·.1) ∧ tget (a ++ b) i = tget b i)
  | [], b, i => .inr ⟨by simp, rfl⟩
  | (k, x) :: a, b, i => by
    by_cases e : i = k
    · subst e; exact .inl ⟨by simp, by simp [tget_cons]⟩
    · rcases tget_append a b i with ⟨h1, h2⟩ | ⟨h1, h2⟩
      · exact .inl ⟨by simp at h1 ⊢; exact .inr h1, by rw [List.cons_append, tget_cons, if_neg e, h2, tget_cons, if_neg e]⟩
      · exact .inr ⟨by simp at h1 ⊢; exact ⟨e, h1⟩, by rw [List.cons_append, tget_cons, if_neg e, h2]⟩
section
variable {P : Program} {dr : Bool} {as : List (Nat × Out)} {s s1 s' : St} {ps : List (In × Out)} {keep : List Nat} {ol : List Oper} {Δ : List (Nat × AV)} {h' : List Blk}
theorem runFin_spec (h : runFin P dr ol as keep s = some (Δ, h', ps)) : ∃ s1, runOps P ol.toArray dr ol 0 as s = some (s1, ps) ∧ s1.n = s.n ∧ s1.h = h' ∧ ∀ i, tget (Δ ++ s.t) i = tget s1.t i ∨ tget (Δ ++ s.t) i = .dead := by
  unfold runFin at h
  split at h
  · next s1 ps' hr =>
    obtain ⟨hb, he⟩ := bif_some h
    cases he
    obtain ⟨⟨pre, e1⟩, n1⟩ := runOps_pre _ _ _ _ hr
    refine ⟨s1, hr, n1, rfl, fun i => ?_⟩
    have hkeys : ∀ (f : Nat → AV), (keep.map fun k => (k, f k)).map (·.1) = keep := fun f => by rw [List.map_map]; exact List.map_id _
    rcases tget_append (keep.map fun k => (k, tget s1.t k)) s.t i with ⟨h1, h2⟩ | ⟨h1, h2⟩
    · rw [hkeys] at h1
      rw [h2, tget_map (fun k => tget s1.t k), if_pos h1]; exact .inl rfl
    · rw [hkeys] at h1
      rw [h2]
      rw [e1, List.length_append, Nat.add_sub_cancel, List.take_left'] at hb
      · rw [e1]
        rcases tget_append pre s.t i with ⟨h3, h4⟩ | ⟨h3, h4⟩
        · right
          obtain ⟨p, hp, rfl⟩ := List.mem_map.1 h3
          have := List.all_eq_true.1 hb p hp
          rw [Bool.or_eq_true] at this
          rcases this with this | this
          · exfalso
            obtain ⟨k, hk, e⟩ := List.any_eq_true.1 this
            rw [beq_iff_eq] at e
            exact h1 (e ▸ hk)
          · generalize tget s.t p.1 = z at this
            cases z <;> first | rfl | cases this
        · exact .inl h4.symm
      · rfl
  · cases h
theorem Sat.less {G : Gh} {w : World} {a : Act} (hs : Sat G w a s1) (hn : s'.n = s1.n) (hh : s'.h = s1.h) (ht : ∀ i, tget s'.t i = tget s1.t i ∨ tget s'.t i = .dead) : Sat G w a s' :=
  ⟨hs.size.trans hn.symm, fun i => by
    rcases ht i with e | e
    · rw [e]; exact hs.tmp i
    · rw [e]; exact .dead _, by rw [hh]; exact hs.inv, hs.df⟩
end
/-- an answer, with its proof -/
structure Ob (P : Program) where
  i : In
  o : Out
  ok : OK P i o
def obO {P : Program} (l : List (Nat × Ob P)) : List (Nat × Out) := l.map fun b => (b.1, b.2.o)
def obP {P : Program} (l : List (Nat × Ob P)) : List (In × Out) := l.map fun b => (b.2.i, b.2.o)
theorem obP_ok {P : Program} (l : List (Nat × Ob P)) : AllOK P (obP l) := fun p hp => by
  obtain ⟨b, _, rfl⟩ := List.mem_map.1 hp
  exact b.2.ok
section
variable {P : Program} {r : Option Nat} {N0 id : Nat} {ol : List Oper} {y : Code} {s : St} {Q Q' : Exit → St → Prop} {obs : List (Nat × Ob P)} {Δ : List (Nat × AV)} {h' : List Blk}
theorem aw_less {c : Code} {s' : St} (hn : s'.n = s.n) (hh : s'.h = s.h) (ht : ∀ i, tget s'.t i = tget s.t i ∨ tget s'.t i = .dead) (h : AWp P r N0 c Q s') : AWp P r N0 c Q s :=
  ⟨fun G w a n hs hN => h.run G w a n (hs.less hn hh ht) hN⟩
/-- A REGION, its order the text's -/
theorem run_reg (obs : List (Nat × Ob P)) (Δ : List (Nat × AV)) (h' : List Blk) (h : runFin P false ol (obO obs) (Δ.map (·.1)) s = some (Δ, h', obP obs)) (k : AWp P r N0 y Q' ⟨s.n, Δ ++ s.t, h'⟩) : AWp P r N0 (.region id ol.toArray false) (AThen (fun s => AWp P r N0 y Q' s) Q) s := by
  obtain ⟨s1, h1, h2, h3, h4⟩ := runFin_spec h
  refine aw_region ?_
  exact runOps_sound (dr := false) ol 0 s _ h1 (obP_ok obs) (aw_less (s := s1) (s' := ⟨s.n, Δ ++ s.t, h'⟩) h2.symm h3.symm h4 k)
/-- A REGION THAT DRAWS ITS ORDER -/
theorem run_drw (hm : P.follows .mixedOrders = true) (hl : lexD ol.toArray = true) (obs : List (Nat × Ob P)) (Δ : List (Nat × AV)) (h' : List Blk) (h : runFin P true ol (obO obs) (Δ.map (·.1)) s = some (Δ, h', obP obs)) (k : AWp P r N0 y Q' ⟨s.n, Δ ++ s.t, h'⟩) : AWp P r N0 (.region id ol.toArray true) (AThen (fun s => AWp P r N0 y Q' s) Q) s := by
  obtain ⟨s1, h1, h2, h3, h4⟩ := runFin_spec h
  refine aw_draw hm hl ?_
  exact runOps_sound (dr := true) ol 0 s _ h1 (obP_ok obs) (aw_less (s := s1) (s' := ⟨s.n, Δ ++ s.t, h'⟩) h2.symm h3.symm h4 k)
def runAll (P : Program) (dr : Bool) (l : List Oper) (as : List (Nat × Out)) (s : St) : Option (List (Nat × AV) × List Blk × List (In × Out)) :=
  match runOps P l.toArray dr l 0 as s with
  | some (s1, ps) => some (s1.t, s1.h, ps)
  | none => none
theorem runAll_spec {dr : Bool} {as : List (Nat × Out)} {t : List (Nat × AV)} {ps : List (In × Out)} (h : runAll P dr ol as s = some (t, h', ps)) : runOps P ol.toArray dr ol 0 as s = some (⟨s.n, t, h'⟩, ps) := by
  unfold runAll at h
  split at h
  · next s1 ps' hr =>
    cases h
    obtain ⟨_, n1⟩ := runOps_pre _ _ _ _ hr
    rw [hr, ← n1]
  · cases h
/-- a region behind which no code of the same row stands -/
theorem run_end (obs : List (Nat × Ob P)) (Δ : List (Nat × AV)) (h' : List Blk) (h : runAll P false ol (obO obs) s = some (Δ ++ s.t, h', obP obs)) (k : Q .normal ⟨s.n, Δ ++ s.t, h'⟩) : AWp P r N0 (.region id ol.toArray false) Q s :=
  aw_region (runOps_sound (dr := false) ol 0 s _ (runAll_spec h) (obP_ok obs) k)
theorem run_dend (hm : P.follows .mixedOrders = true) (hl : lexD ol.toArray = true) (obs : List (Nat × Ob P)) (Δ : List (Nat × AV)) (h' : List Blk) (h : runAll P true ol (obO obs) s = some (Δ ++ s.t, h', obP obs)) (k : Q .normal ⟨s.n, Δ ++ s.t, h'⟩) : AWp P r N0 (.region id ol.toArray true) Q s :=
  aw_draw hm hl (runOps_sound (dr := true) ol 0 s _ (runAll_spec h) (obP_ok obs) k)
end

/-! ### between rows of code -/
def AV.fin (m : Nat) (x : AV) : AV := (x.pub m).nrm
def Blk.nrmB : Blk → Blk
  | .cells cs => .cells (cs.map AV.nrm)
  | .lp ls p as bd cs => .lp ls p as bd (cs.map AV.nrm)
  | .it sn cs => .it sn (cs.map AV.nrm)
  | .vec e k cs => .vec e k (cs.map (·.map AV.nrm))
  | B => B
/-- some temporaries and the first m blocks, known less exactly -/
def cutS (s : St) (live : List Nat) (m : Nat) : Option St :=
  bif leB m s.h.length && (live.all fun k => ((tget s.t k).pub m).lowB m) && (((s.h.take m).map (Blk.pub m)).all (Blk.lowB m)) then some ⟨s.n, live.map fun k => (k, (tget s.t k).fin m), ((s.h.take m).map (Blk.pub m)).map Blk.nrmB⟩ else none
theorem inv_nrm {G : Gh} {w : World} {h : List Blk} (hi : Inv G w h) : Inv G w (h.map Blk.nrmB) := by
  have hget : ∀ (n : Nat) (B : Blk), (h.map Blk.nrmB)[n]? = some B → ∃ B', h[n]? = some B' ∧ B = B'.nrmB := fun n B hB => by
    rw [List.getElem?_map] at hB
    cases hx : h[n]? with
    | none => rw [hx] at hB; cases hB
    | some B' => rw [hx] at hB; cases hB; exact ⟨B', rfl, rfl⟩
  have hown : ∀ n b, ownB (h.map Blk.nrmB) G n = some b → ownB h G n = some b := fun n b hb => by
    obtain ⟨B, hB, hb⟩ := ownB_some hb
    obtain ⟨B', h1, rfl⟩ := hget n B hB
    rw [ownB_of h1, ← hb]
    cases B' <;> rfl
  refine ⟨by rw [List.length_map]; exact hi.len, hi.z, hi.S, fun n B hB => ?_, fun i j b h1 h2 => hi.inj i j b (hown i b h1) (hown j b h2), hi.gl⟩
  obtain ⟨B', h1, rfl⟩ := hget n B hB
  have hB' := hi.blk n B' h1
  cases B' with
  | gone => trivial
  | front e k len => exact hB'
  | map kv => exact hB'
  | vec e k cs =>
    obtain ⟨c1, c2, c3, c4⟩ := hB'
    refine ⟨by rw [List.length_map]; exact c1, by rw [List.length_map]; exact c2, fun c hc => ?_, ?_⟩
    · obtain ⟨x, hx, rfl⟩ := List.mem_map.1 hc
      rw [List.length_map]; exact c3 x hx
    · rcases c4 with ⟨d1, d2, A, d3⟩ | ⟨g, cap, cur, d1, d2, d3, d4, d5, d6, d7, d8, d9⟩
      · exact .inl ⟨d1, by rw [d2]; rfl, A, d3⟩
      · refine .inr ⟨g, cap, cur, d1, by rw [List.length_map]; exact d2, d3, d4, by rw [List.length_map]; exact d5, d6, d7, d8, fun i j c x u hc hx hu => ?_⟩
        rw [List.getElem?_map] at hc
        cases hy : cs[i]? with
        | none => rw [hy] at hc; cases hc
        | some y =>
          rw [hy] at hc
          cases hc
          rw [List.getElem?_map] at hx
          cases hw : y[j]? with
          | none => rw [hw] at hx; cases hx
          | some z => rw [hw] at hx; cases hx; exact (d9 i j y z u hy hw hu).nrm
  | cells cs =>
    obtain ⟨c1, c2, vs, T, c3, c4, c5⟩ := hB'
    refine ⟨c1, c2, vs, T, c3, by rw [List.length_map]; exact c4, fun i u c hu hc => ?_⟩
    rw [List.getElem?_map] at hc
    cases hx : cs[i]? with
    | none => rw [hx] at hc; cases hc
    | some x => rw [hx] at hc; cases hc; exact (c5 i u x hu hx).nrm
  | lp ls p as bd cs =>
    obtain ⟨c1, c2, fn, vs, T, c3, c4, c5⟩ := hB'
    refine ⟨c1, c2, fn, vs, T, c3, by rw [List.length_map]; exact c4, fun i u c hu hc => ?_⟩
    rw [List.getElem?_map] at hc
    cases hx : cs[i]? with
    | none => rw [hx] at hc; cases hc
    | some x => rw [hx] at hc; cases hc; exact (c5 i u x hu hx).nrm
  | it sn cs =>
    obtain ⟨c1, c2, fn, vs, T, c3, c4, c5⟩ := hB'
    refine ⟨c1, c2, fn, vs, T, c3, by rw [List.length_map]; exact c4, fun i u c hu hc => ?_⟩
    rw [List.getElem?_map] at hc
    cases hx : cs[i]? with
    | none => rw [hx] at hc; cases hc
    | some x => rw [hx] at hc; cases hc; exact (c5 i u x hu hx).nrm
section
variable {P : Program} {r : Option Nat} {n N0 : Nat} {G : Gh} {w : World} {a : Act} {s s' : St} {Q Q' : Exit → St → Prop} {live : List Nat} {m : Nat}
theorem cutS_spec (h : cutS s live m = some s') : s.okMask live m ∧ s'.n = s.n ∧ s'.t = (live.map fun k => (k, (tget s.t k).fin m)) ∧ s'.h = ((s.h.take m).map (Blk.pub m)).map Blk.nrmB := by
  unfold cutS at h
  obtain ⟨hb, rfl⟩ := bif_some h
  rw [Bool.and_eq_true, Bool.and_eq_true] at hb
  exact ⟨⟨leB_iff.1 hb.1.1, hb.1.2, hb.2⟩, rfl, rfl, rfl⟩
theorem Sat.cutS (hs : Sat G w a s) (h : cutS s live m = some s') : Sat (G.cut m) w a s' := by
  obtain ⟨h1, h2, h3, h4⟩ := cutS_spec h
  have hm := hs.mask h1
  refine ⟨hs.size.trans h2.symm, fun i => ?_, by rw [h4]; exact inv_nrm hm.inv, hs.df⟩
  have := hm.tmp i
  change VRel _ _ _ (tget (live.map fun k => (k, (tget s.t k).pub m)) i) at this
  rw [tget_map (fun k => (tget s.t k).pub m)] at this
  rw [h3, tget_map (fun k => (tget s.t k).fin m)]
  split at this
  · rename_i hi; rw [if_pos hi]; exact this.nrm
  · rename_i hi; rw [if_neg hi]; exact .dead _
/-- THE LOOP -/
theorem aw_loopC {c : Code} {ι : Type} (live : List Nat) (m : Nat) (st : ι → St) (I : ι → Prop) (μ : ι → Nat) (i0 : ι) (hm : N0 ≤ m) (h0 : Go.Proofs.YtaiihhogoogkmaaGreatDoor.cutS s live m = some (st i0)) (hI : I i0)
    (round : ∀ i, I i → AWp P r N0 c (AThen (fun s' => ∃ i', Go.Proofs.YtaiihhogoogkmaaGreatDoor.cutS s' live m = some (st i') ∧ I i' ∧ μ i' < μ i) Q) (st i)) : AWp P r N0 (.loop c) Q s := by
  constructor
  intro G w a n hs _
  refine wpIn_loop_ghost (fun (i : ι) a' w' => ∃ G', I i ∧ Ext N0 G w G' w' ∧ N0 ≤ G'.N ∧ Sat G' w' a' (st i)) μ i0 ⟨G.cut m, hI, ext_cut _ _ _ _, hm, hs.cutS h0⟩ ?_
  rintro i a' w' ⟨G', hi, hE, hN, hs'⟩
  refine wpIn_mono ((round i hi).run G' w' a' n hs' hN) fun e a1 w1 hn => ?_
  obtain ⟨G1, s1, hE1, hN1, hs1, hq⟩ := hn
  cases e with
  | normal =>
    obtain ⟨i', h1, h2, h3⟩ := hq
    exact ⟨i', ⟨G1.cut m, h2, (hE.trans hE1).trans (ext_cut _ _ _ _), hm, hs1.cutS h1⟩, h3⟩
  | _ => exact ⟨G1, s1, hE.trans hE1, hN1, hs1, hq⟩
theorem aw_cut {c : Code} (live : List Nat) (m : Nat) (hm : N0 ≤ m) (h0 : Go.Proofs.YtaiihhogoogkmaaGreatDoor.cutS s live m = some s') (h : AWp P r N0 c Q s') : AWp P r N0 c Q s := by
  constructor
  intro G w a n hs _
  exact wpIn_mono (h.run (G.cut m) w a n (hs.cutS h0) hm) fun _ _ _ hn => hn.trans (ext_cut N0 G w m)
/-- where ways meet -/
theorem aw_joinC {c y : Code} {ι : Type} (live : List Nat) (m : Nat) (st : ι → St) (I : ι → Prop) (hm : N0 ≤ m) (hc : AWp P r N0 c (AThen (fun s' => ∃ i, Go.Proofs.YtaiihhogoogkmaaGreatDoor.cutS s' live m = some (st i) ∧ I i) Q) s) (hy : ∀ i, I i → AWp P r N0 y Q' (st i)) : AWp P r N0 c (AThen (fun s => AWp P r N0 y Q' s) Q) s := by
  refine hc.mono fun e s' h => ?_
  cases e with
  | normal => obtain ⟨i, h1, h2⟩ := h; exact aw_cut live m hm h1 (hy i h2)
  | _ => exact h
/-! results -/
def runRes (P : Program) (s : St) : List ResultVar → Option (List AV)
  | [] => some []
  | .tmp t :: l => match runRes P s l with
    | some xs => some (tget s.t t :: xs)
    | none => none
  | .cell p t :: l => match rAt s.h (tget s.t p) with
    | some (cs, off) => match rLoad P t cs off, runRes P s l with
      | some x, some xs => some (x :: xs)
      | _, _ => none
    | none => none
def runRet (P : Program) (rs : List ResultVar) (s : St) : Option AV :=
  match runRes P s rs with
  | some l => bif ((tupOf l).pub 0).lowB 0 then some ((tupOf l).fin 0) else none
  | none => none
def aPostR (P : Program) (fn : Func) (R : AV) : Exit → St → Prop
  | .normal, s => runRet P fn.results.toList s = some R
  | .ret, s => runRet P fn.results.toList s = some R
  | _, _ => False
theorem runRes_sound : ∀ (l : List ResultVar) (xs : List AV) (C : List AV → Prop), runRes P s l = some xs → C xs → aResults P s l C
  | [], xs, C, h, hC => by cases h; exact hC
  | .tmp t :: l, xs, C, h, hC => by
    unfold runRes at h
    split at h
    · next ys e => cases h; exact runRes_sound l ys _ e hC
    · cases h
  | .cell p t :: l, xs, C, h, hC => by
    unfold runRes at h
    split at h
    · next cs off e =>
      split at h
      · next x ys e1 e2 => cases h; exact rLoad_sound e e1 (runRes_sound l ys _ e2 hC)
      · cases h
    · cases h
theorem runRet_sound {fn : Func} {R : AV} (h : runRet P fn.results.toList s = some R) : aRet P fn 0 (fun r h' => h' = [] ∧ r.nrm = R) s := by
  unfold runRet at h
  split at h
  · next l e =>
    obtain ⟨hb, rfl⟩ := bif_some h
    exact runRes_sound _ l _ e ⟨Nat.zero_le _, hb, by simp, by simp, rfl⟩
  · cases h
theorem ret_ok {fn : Func} {R : AV} (h : runRet P fn.results.toList s = some R) : aPostR P fn R .ret s := h
theorem nrm_ok {fn : Func} {R : AV} (h : runRet P fn.results.toList s = some R) : aPostR P fn R .normal s := h
/-- THE CONTRACT OUT OF THE BODY -/
theorem afn_of {f : FuncId} {fn : Func} {c : Code} {args : List AV} {R : AV} (hf : P.funcs[f]? = some fn) (hb : fn.body = some c) (hn : (fn.name == "runtime.NumGoroutine") = false)
    (hw : AWp P none 0 c (aPostR P fn R) { n := args.length + (fn.ntmps - args.length), t := enumT 0 args, h := [] }) : AFn P f args (· = R) := by
  have h := acalls_of (P := P) (f := f) (args := args) (h := []) (K := fun r h' => h' = [] ∧ r.nrm = R) 0 hf hb hn (Nat.le_refl _) (hw.mono fun e s hq => by
    cases e with
    | normal => exact runRet_sound hq
    | ret => exact runRet_sound hq
    | _ => exact hq.elim)
  refine ⟨h.1, fun G w vs hi hl hr => (h.2 G w vs hi hl hr).mono fun e w' hp => ?_⟩
  obtain ⟨v, G', x, h', rfl, hE, hN, hi', hv, rfl, rfl⟩ := hp
  exact ⟨v, G', x.nrm, [], rfl, hE, hN, hi', hv.nrm, rfl, rfl⟩
theorem aw_lenT {c : Code} (k : Nat) (xs : List (List D)) (hx : (tget s.t k).list? = some xs) (h : xs.length ≤ maxLen → AWp P r N0 c Q s) : AWp P r N0 c Q s := aw_len k hx h
/-- a slice in a cell of a block is not longer than a slice can be -/
theorem aw_lenB {c : Code} (b i : Nat) (xs : List (List D)) (hx : ((s.h[b]?).bind fun B => match B with | .cells cs => (cs[i]?).bind AV.list? | _ => none) = some xs) (h : xs.length ≤ maxLen → AWp P r N0 c Q s) : AWp P r N0 c Q s := by
  constructor
  intro G w a n hs hN
  cases hb : s.h[b]? with
  | none => rw [hb] at hx; cases hx
  | some B =>
    rw [hb] at hx
    cases B with
    | cells cs =>
      simp only [Option.bind_some] at hx
      obtain ⟨_, _, vs, T, _, hl, hr⟩ := hs.inv.blk b _ hb
      cases hc : cs[i]? with
      | none => rw [hc] at hx; cases hx
      | some x =>
        rw [hc] at hx
        have hlt : i < vs.size := by rw [hl]; exact (List.getElem?_eq_some_iff.1 hc).1
        obtain ⟨A, b', o, c', k', us, _, _, h1, h2, _⟩ := ((hr i _ x (Array.getElem?_eq_getElem hlt) hc).list hx).sl_iff
        exact (h (Nat.le_trans h1 h2)).run G w a n hs hN
    | _ => cases hx
end
/-- the region's goal set apart, for ways that meet at its end -/
theorem run_regE {P : Program} {r : Option Nat} {N0 id : Nat} {ol : List Oper} {y : Code} {s : St} {Q Q' : Exit → St → Prop} (Δ : List (Nat × AV)) (h' : List Blk) (h : ∃ obs : List (Nat × Ob P), runFin P false ol (obO obs) (Δ.map (·.1)) s = some (Δ, h', obP obs)) (k : AWp P r N0 y Q' ⟨s.n, Δ ++ s.t, h'⟩) : AWp P r N0 (.region id ol.toArray false) (AThen (fun s => AWp P r N0 y Q' s) Q) s :=
  let ⟨obs, h⟩ := h; run_reg obs Δ h' h k
theorem run_drwE {P : Program} {r : Option Nat} {N0 id : Nat} {ol : List Oper} {y : Code} {s : St} {Q Q' : Exit → St → Prop} (hm : P.follows .mixedOrders = true) (hl : lexD ol.toArray = true) (Δ : List (Nat × AV)) (h' : List Blk) (h : ∃ obs : List (Nat × Ob P), runFin P true ol (obO obs) (Δ.map (·.1)) s = some (Δ, h', obP obs)) (k : AWp P r N0 y Q' ⟨s.n, Δ ++ s.t, h'⟩) : AWp P r N0 (.region id ol.toArray true) (AThen (fun s => AWp P r N0 y Q' s) Q) s :=
  let ⟨obs, h⟩ := h; run_drw hm hl obs Δ h' h k
theorem cond_t {α : Type} {c : Bool} {a b : α} (h : c = true) : cond c a b = a := by rw [h]; rfl
theorem cond_f {α : Type} {c : Bool} {a b : α} (h : c = false) : cond c a b = b := by rw [h]; rfl
theorem bind_some {α β : Type} {x : Option α} {f : α → Option β} {b : β} (h : Option.bind x f = some b) : ∃ a, x = some a ∧ f a = some b := by
  cases x with
  | none => cases h
  | some a => exact ⟨a, rfl, h⟩
theorem bool_cases (b : Bool) : b = true ∨ b = false := by cases b <;> simp

theorem not_t {b : Bool} (h : b = true) : (!b) = false := by rw [h]; rfl
theorem not_f {b : Bool} (h : b = false) : (!b) = true := by rw [h]; rfl
theorem chk_t {α : Type} {c : Bool} {x : Option α} {r : α} (h : (bif c then x else none) = some r) : c = true := by
  cases c with
  | true => rfl
  | false => cases h
section
variable {P : Program} {r : Option Nat} {N0 id n : Nat} {ol : List Oper} {y : Code} {t : List (Nat × AV)} {h : List Blk} {Q Q' : Exit → St → Prop}
theorem rg (obs : List (Nat × Ob P)) (Δ : List (Nat × AV)) (h' : List Blk) (e : runFin P false ol (obO obs) (Δ.map (·.1)) ⟨n, t, h⟩ = some (Δ, h', obP obs)) (k : AWp P r N0 y Q' ⟨n, Δ ++ t, h'⟩) : AWp P r N0 (.region id ol.toArray false) (AThen (fun s => AWp P r N0 y Q' s) Q) ⟨n, t, h⟩ := run_reg obs Δ h' e k
theorem rd (hm : P.follows .mixedOrders = true) (hl : lexD ol.toArray = true) (obs : List (Nat × Ob P)) (Δ : List (Nat × AV)) (h' : List Blk) (e : runFin P true ol (obO obs) (Δ.map (·.1)) ⟨n, t, h⟩ = some (Δ, h', obP obs)) (k : AWp P r N0 y Q' ⟨n, Δ ++ t, h'⟩) : AWp P r N0 (.region id ol.toArray true) (AThen (fun s => AWp P r N0 y Q' s) Q) ⟨n, t, h⟩ := run_drw hm hl obs Δ h' e k
theorem re (obs : List (Nat × Ob P)) (Δ : List (Nat × AV)) (h' : List Blk) (e : runAll P false ol (obO obs) ⟨n, t, h⟩ = some (Δ ++ t, h', obP obs)) (k : Q .normal ⟨n, Δ ++ t, h'⟩) : AWp P r N0 (.region id ol.toArray false) Q ⟨n, t, h⟩ := run_end obs Δ h' e k
theorem rde (hm : P.follows .mixedOrders = true) (hl : lexD ol.toArray = true) (obs : List (Nat × Ob P)) (Δ : List (Nat × AV)) (h' : List Blk) (e : runAll P true ol (obO obs) ⟨n, t, h⟩ = some (Δ ++ t, h', obP obs)) (k : Q .normal ⟨n, Δ ++ t, h'⟩) : AWp P r N0 (.region id ol.toArray true) Q ⟨n, t, h⟩ := run_dend hm hl obs Δ h' e k
theorem rgE (Δ : List (Nat × AV)) (h' : List Blk) (e : ∃ obs : List (Nat × Ob P), runFin P false ol (obO obs) (Δ.map (·.1)) ⟨n, t, h⟩ = some (Δ, h', obP obs)) (k : AWp P r N0 y Q' ⟨n, Δ ++ t, h'⟩) : AWp P r N0 (.region id ol.toArray false) (AThen (fun s => AWp P r N0 y Q' s) Q) ⟨n, t, h⟩ := run_regE Δ h' e k
theorem rdE (hm : P.follows .mixedOrders = true) (hl : lexD ol.toArray = true) (Δ : List (Nat × AV)) (h' : List Blk) (e : ∃ obs : List (Nat × Ob P), runFin P true ol (obO obs) (Δ.map (·.1)) ⟨n, t, h⟩ = some (Δ, h', obP obs)) (k : AWp P r N0 y Q' ⟨n, Δ ++ t, h'⟩) : AWp P r N0 (.region id ol.toArray true) (AThen (fun s => AWp P r N0 y Q' s) Q) ⟨n, t, h⟩ := run_drwE hm hl Δ h' e k
end
theorem runOps_soundK {P : Program} {ops : Array Oper} {as : List (Nat × Out)} {s1 : St} : ∀ (ol : List Oper) (j : Nat) (s : St) (l : List (In × Out)) (K : St → Prop), runOps P ops false ol j as s = some (s1, l) → AllOK P l → ∀ o, (aGuard ops o s1 (aopN P o K s1) (K (s1.put o.dst (.d (.v undef))))) → aOps P ops (ol ++ [o]) K s
  | [], _, s, l, K, h, _, o, hK => by cases h; exact hK
  | q :: rest, j, s, l, K, h, hok, o, hK => by
    unfold runOps at h
    split at h
    · next s2 m hg =>
      obtain ⟨n, e, h2, h3⟩ := catR_some h hok
      exact runG_sound (dr := false) (K := aOps P ops (rest ++ [o]) K) hg h3 (runOps_soundK rest (j + 1) s2 n K e h2 o hK)
    · cases h
def runFinP (P : Program) (full l : List Oper) (as : List (Nat × Out)) (keep : List Nat) (s : St) : Option (List (Nat × AV) × List Blk × List (In × Out)) :=
  match runOps P full.toArray false l 0 as s with
  | some (s1, ps) => bif (s1.t.take (s1.t.length - s.t.length)).all (fun p => keep.any (· == p.1) || isDead (tget s.t p.1)) then some (keep.map fun k => (k, tget s1.t k), s1.h, ps) else none
  | none => none
theorem runFinP_spec {P : Program} {full ol : List Oper} {as : List (Nat × Out)} {keep : List Nat} {s : St} {Δ : List (Nat × AV)} {h' : List Blk} {ps : List (In × Out)} (h : runFinP P full ol as keep s = some (Δ, h', ps)) : ∃ s1, runOps P full.toArray false ol 0 as s = some (s1, ps) ∧ s1.n = s.n ∧ s1.h = h' ∧ ∀ i, tget (Δ ++ s.t) i = tget s1.t i ∨ tget (Δ ++ s.t) i = .dead := by
  unfold runFinP at h
  split at h
  · next s1 ps' hr =>
    obtain ⟨hb, he⟩ := bif_some h
    cases he
    obtain ⟨⟨pre, e1⟩, n1⟩ := runOps_pre _ _ _ _ hr
    refine ⟨s1, hr, n1, rfl, fun i => ?_⟩
    have hkeys : ∀ (f : Nat → AV), (keep.map fun k => (k, f k)).map (·.1) = keep := fun f => by rw [List.map_map]; exact List.map_id _
    rcases tget_append (keep.map fun k => (k, tget s1.t k)) s.t i with ⟨h1, h2⟩ | ⟨h1, h2⟩
    · rw [hkeys] at h1
      rw [h2, tget_map (fun k => tget s1.t k), if_pos h1]; exact .inl rfl
    · rw [hkeys] at h1
      rw [h2]
      rw [e1, List.length_append, Nat.add_sub_cancel, List.take_left'] at hb
      · rw [e1]
        rcases tget_append pre s.t i with ⟨h3, h4⟩ | ⟨h3, h4⟩
        · right
          obtain ⟨p, hp, rfl⟩ := List.mem_map.1 h3
          have := List.all_eq_true.1 hb p hp
          rw [Bool.or_eq_true] at this
          rcases this with this | this
          · exfalso
            obtain ⟨k, hk, e⟩ := List.any_eq_true.1 this
            rw [beq_iff_eq] at e
            exact h1 (e ▸ hk)
          · generalize tget s.t p.1 = z at this
            cases z <;> first | rfl | cases this
        · exact .inl h4.symm
      · rfl
  · cases h
/-- the list held against nil, and both answers -/
def nilI (P : Program) (o : Oper) (s : St) : Option (List (List D) × Nat × Value × Value) :=
  match o.op, o.guard, o.dst with
  | .binOp op T x y _, none, some d => match (ev s x).list?, ev s y, elmT P T, eqV op true, eqV op false with
    | some xs, .d (.v (.slice none 0 0)), some _, some v1, some v2 => bif leB (d + 1) s.n then some (xs, d, v1, v2) else none
    | _, _, _, _, _ => none
  | _, _, _ => none
/-- A REGION THAT ENDS IN A SLICE HELD AGAINST NIL -/
theorem rgNil {P : Program} {r : Option Nat} {N0 id n : Nat} {ol : List Oper} {o : Oper} {y : Code} {t : List (Nat × AV)} {h : List Blk} {Q Q' : Exit → St → Prop} (hlast : ol.getLast? = some o) (obs : List (Nat × Ob P)) (Δ : List (Nat × AV)) (h' : List Blk) {xs : List (List D)} {d : Nat} {v1 v2 : Value}
    (e : runFinP P ol ol.dropLast (obO obs) (Δ.map (·.1)) ⟨n, t, h⟩ = some (Δ, h', obP obs)) (e2 : nilI P o ⟨n, Δ ++ t, h'⟩ = some (xs, d, v1, v2))
    (k1 : xs = [] → AWp P r N0 y Q' ⟨n, (d, .d (.v v1)) :: (Δ ++ t), h'⟩) (k2 : AWp P r N0 y Q' ⟨n, (d, .d (.v v2)) :: (Δ ++ t), h'⟩) : AWp P r N0 (.region id ol.toArray false) (AThen (fun s => AWp P r N0 y Q' s) Q) ⟨n, t, h⟩ := by
  have hol : ol = ol.dropLast ++ [o] := by
    cases ol with
    | nil => cases hlast
    | cons a l =>
      have h9 : (a :: l).getLast? = some o := hlast
      rw [List.getLast?_eq_some_iff] at h9
      obtain ⟨ys, h9⟩ := h9
      rw [h9]; simp
  obtain ⟨s1, hr, hn, eh, hget⟩ := runFinP_spec e
  simp only at hn
  have hev : ∀ x, ev ⟨n, Δ ++ t, h'⟩ x = ev s1 x ∨ ev ⟨n, Δ ++ t, h'⟩ x = .dead := fun x => by
    cases x with
    | tmp q => exact hget q
    | _ => exact .inl rfl
  refine aw_region ?_
  have key := runOps_soundK (ops := ol.toArray) ol.dropLast 0 ⟨n, t, h⟩ _ (fun s => AWp P r N0 y Q' s) hr (obP_ok obs) o ?_
  · rw [← hol] at key; exact key
  · unfold nilI at e2
    split at e2
    · next op T x yy U d' ho hg hd =>
      unfold aGuard
      rw [hg]
      refine .inr (.inl ?_)
      unfold aNil
      rw [ho]
      split at e2
      · next xs' w1 w2 a1 a2 a3 a4 a5 =>
        obtain ⟨hlt, e6⟩ := bif_some e2
        cases e6
        rw [leB_iff] at hlt
        have hx1 : ev s1 x = ev ⟨n, Δ ++ t, h'⟩ x := by
          rcases hev x with hh | hh
          · exact hh.symm
          · rw [hh] at a1; cases a1
        have hy1 : ev s1 yy = ev ⟨n, Δ ++ t, h'⟩ yy := by
          rcases hev yy with hh | hh
          · exact hh.symm
          · rw [hh] at a2; cases a2
        simp only [hx1, hy1, a1, a2, a3, a4, a5]
        have fin : ∀ v, AWp P r N0 y Q' ⟨n, (d, .d (.v v)) :: (Δ ++ t), h'⟩ → AWp P r N0 y Q' (s1.put o.dst (.d (.v v))) := fun v hv => by
          rw [hd, put_lt (by rw [hn]; exact hlt)]
          refine aw_less (s' := ⟨n, (d, .d (.v v)) :: (Δ ++ t), h'⟩) hn.symm eh.symm (fun i => ?_) hv
          show tget ((d, _) :: (Δ ++ t)) i = tget ((d, _) :: s1.t) i ∨ _
          rw [tget_cons, tget_cons]
          split
          · exact .inl rfl
          · exact hget i
        exact ⟨fun hx => fin _ (k1 hx), fin _ k2⟩
      · cases e2
    · cases e2
/-- a string by its bytes -/
def bs (l : List UInt8) : ByteArray := ⟨l.toArray⟩

/-- it can be read: so no slice in it is longer than a slice can be -/
def LOk (x : D) : Prop := ∃ (S : Nat → Nat → Prop) (w : World) (u : Value), PRel S w u x
theorem ok_len {xs : List (List D)} (h : LOk (.sl xs)) : xs.length ≤ maxLen := by
  obtain ⟨S, w, u, h⟩ := h
  obtain ⟨A, b', o, c', k', us, _, _, h1, h2, _⟩ := h.sl_iff
  exact Nat.le_trans h1 h2
theorem ok_el {xs : List (List D)} {i j : Nat} {c : List D} {d : D} (h : LOk (.sl xs)) (hc : xs[i]? = some c) (hd : c[j]? = some d) : LOk d := by
  obtain ⟨S, w, u, h⟩ := h
  obtain ⟨A, b', o, c', k', us, _, _, h1, h2, h3, h4, h5⟩ := h.sl_iff
  exact ⟨S, w, _, h5 i j c d hc hd⟩
section
variable {P : Program} {r : Option Nat} {n N0 : Nat} {s : St} {Q : Exit → St → Prop}
theorem aw_okT {c : Code} (k : Nat) (xs : List (List D)) (hx : (tget s.t k).list? = some xs) (h : LOk (.sl xs) → AWp P r N0 c Q s) : AWp P r N0 c Q s := by
  constructor
  intro G w a n hs hN
  exact (h ⟨_, _, _, (hs.tmp k).list hx⟩).run G w a n hs hN
theorem aw_okB {c : Code} (b i : Nat) (xs : List (List D)) (hx : ((s.h[b]?).bind fun B => match B with | .cells cs => (cs[i]?).bind AV.list? | _ => none) = some xs) (h : LOk (.sl xs) → AWp P r N0 c Q s) : AWp P r N0 c Q s := by
  constructor
  intro G w a n hs hN
  cases hb : s.h[b]? with
  | none => rw [hb] at hx; cases hx
  | some B =>
    rw [hb] at hx
    cases B with
    | cells cs =>
      simp only [Option.bind_some] at hx
      obtain ⟨_, _, vs, T, _, hl, hr⟩ := hs.inv.blk b _ hb
      cases hc : cs[i]? with
      | none => rw [hc] at hx; cases hx
      | some x =>
        rw [hc] at hx
        have hlt : i < vs.size := by rw [hl]; exact (List.getElem?_eq_some_iff.1 hc).1
        exact (h ⟨_, _, _, (hr i _ x (Array.getElem?_eq_getElem hlt) hc).list hx⟩).run G w a n hs hN
    | _ => cases hx
end
end Go.Proofs.YtaiihhogoogkmaaGreatDoor
