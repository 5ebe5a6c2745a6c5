/-
  The small language's operations: what an operation does to states of values of the small language, one definition for each kind of operation.
-/
import Derived.Test.YtaiihhogoogkmaaGreatDoorAbsCore
namespace Go.Proofs.YtaiihhogoogkmaaGreatDoor
open Go.RowKit

structure St where
  n : Nat
  t : List (Nat × AV)
  h : List Blk
def tget : List (Nat × AV) → Nat → AV
  | [], _ => .dead
  | (k, x) :: l, i => bif i == k then x else tget l i
theorem tget_cons (k : Nat) (x : AV) (l : List (Nat × AV)) (i : Nat) : tget ((k, x) :: l) i = if i = k then x else tget l i := by
  simp only [tget, cond_eq_ite, beq_iff_eq]
/-- a test that the types settle -/
def chk (b : Bool) (p : Prop) : Prop := cond b p False
theorem chk_iff {b : Bool} {p : Prop} : chk b p ↔ b = true ∧ p := by cases b <;> simp [chk]
def leB (a b : Nat) : Bool := a - b == 0
theorem leB_iff {a b : Nat} : leB a b = true ↔ a ≤ b := by simp [leB]; omega
def kNo : IntKind → Nat
  | .i8 => 0 | .i16 => 1 | .i32 => 2 | .i64 => 3 | .u8 => 4 | .u16 => 5 | .u32 => 6 | .u64 => 7
def kEq (a b : IntKind) : Bool := kNo a == kNo b
theorem kEq_iff {a b : IntKind} : kEq a b = true ↔ a = b := by cases a <;> cases b <;> decide
def St.put (s : St) (dst : Option Nat) (x : AV) : St :=
  match dst with
  | none => s
  | some d => bif s.n - d == 0 then s else { s with t := (d, x) :: s.t }
theorem put_lt {s : St} {d : Nat} (h : d < s.n) (x : AV) : s.put (some d) x = { s with t := (d, x) :: s.t } := by
  have : (s.n - d == 0) = false := by simp; omega
  simp only [St.put, this, cond_false]
theorem put_ge {s : St} {d : Nat} (h : ¬ d < s.n) (x : AV) : s.put (some d) x = s := by
  have : (s.n - d == 0) = true := by simp; omega
  simp only [St.put, this, cond_true]
def St.wh (s : St) (h : List Blk) : St := { s with h := h }
def absVal : Value → AV
  | .agg vs => .agg (vs.toList.map fun u => .d (.v u))
  | .tuple vs => .tup (vs.toList.map fun u => .d (.v u))
  | u => .d (.v u)
def ev (s : St) : Operand → AV
  | .tmp t => tget s.t t
  | .const v => absVal v
  | .func f => .fn f []
  | .global g => match glook gtab g with
    | some l => .elt [l.map .v] 0 0
    | none => .dead

def AV.cellB : AV → Bool
  | .d (.v u) => u.oneCell'
  | .d (.sl _) | .ptr .. | .elt .. | .own .. | .full _ | .row .. | .fn .. | .mp _ | .yld _ | .hid _ | .vec .. | .vptr .. => true
  | .agg _ | .tup _ | .dead => false
def AV.cells : AV → List AV
  | .agg cs => cs
  | x => [x]
/-- may be stored: a row of cells, or one cell -/
def AV.boxB : AV → Bool
  | .agg cs => cs.all AV.cellB
  | x => x.cellB
/-- a slice without elements is known as its list alone -/
def D.nrm1 : D → D
  | .v (.slice none 0 0) => .sl []
  | x => x
/-- pure data -/
def AV.toD? : AV → Option D
  | .d x => some x.nrm1
  | .own _ xs => some (.sl xs)
  | .full xs => some (.sl xs)
  | _ => none
/-- what a slice reads as -/
def AV.list? : AV → Option (List (List D))
  | .d (.sl xs) => some xs
  | .own _ xs => some xs
  | .full xs => some xs
  | .d (.v (.slice none 0 0)) => some []
  | _ => none
def AV.int? : AV → Option Int
  | .d (.v (.int _ n)) => some n
  | _ => none

/-- taken along, as a value -/
def Cap.av : Cap → AV
  | .d x => .d x
  | .elt c off => .elt [c] 0 off
  | .fn f cs => .hid (.fn f cs)

/-! the program's types -/
def szT (P : Program) (t : TypeId) : Option Nat := (P.info? t).map (·.size)
def aggT (P : Program) (t : TypeId) : Option Bool := (P.underlying t).map fun | .struct _ => true | .array .. => true | _ => false
def fldT (P : Program) (t : TypeId) (i : Nat) : Option (Nat × Nat × Bool) :=
  match P.underlying t with
  | some (.struct fs) => match fs[i]? with
    | some f => match szT P f.type, aggT P f.type with
      | some (k + 1), some g => some (f.offset, k + 1, g)
      | _, _ => none
    | none => none
  | _ => none
/-- the element of a slice type: its type, its cells -/
def elmT (P : Program) (t : TypeId) : Option (TypeId × Nat) :=
  match P.underlying t with
  | some (.slice e) => (szT P e).map fun k => (e, k)
  | _ => none
def arrT (P : Program) (t : TypeId) : Option (Nat × TypeId × Nat) :=
  match P.underlying t with
  | some (.array n e) => (szT P e).map fun k => (n, e, k)
  | _ => none
def strT (P : Program) (t : TypeId) : Bool := match P.underlying t with | some .string => true | _ => false
def boolT (P : Program) (t : TypeId) : Bool := match P.underlying t with | some .bool => true | _ => false
def intT (P : Program) (t : TypeId) : Option IntKind := match P.underlying t with | some (.int k) => some k | _ => none
def u8T (P : Program) (t : TypeId) : Bool := match P.underlying t with | some (.int .u8) => true | _ => false
def zeroT (P : Program) (t : TypeId) : Option Value := (P.info? t).bind (·.zero)
def byT (P : Program) (t : TypeId) : Option Nat := (P.info? t).map (·.bytes)

/-! arithmetic on plain values -/
def binI (op : BinOp) (k : IntKind) (a b : Int) : Option Value :=
  match op with
  | .add => some (.int k (k.wrap (a + b)))
  | .sub => some (.int k (k.wrap (a - b)))
  | .mul => some (.int k (k.wrap (a * b)))
  | .eql => some (.bool (a == b))
  | .neq => some (.bool (a != b))
  | .lss => some (.bool (a < b))
  | .leq => some (.bool (a ≤ b))
  | .gtr => some (.bool (a > b))
  | .geq => some (.bool (a ≥ b))
  | .and => some (.int k (k.wrap (BitVec.ofInt k.bits a &&& BitVec.ofInt k.bits b).toNat))
  | .or => some (.int k (k.wrap (BitVec.ofInt k.bits a ||| BitVec.ofInt k.bits b).toNat))
  | .xor => some (.int k (k.wrap (BitVec.ofInt k.bits a ^^^ BitVec.ofInt k.bits b).toNat))
  | .andNot => some (.int k (k.wrap (BitVec.ofInt k.bits a &&& ~~~BitVec.ofInt k.bits b).toNat))
  | _ => none
def binS (op : BinOp) (a b : ByteArray) : Option Value :=
  match op with
  | .eql => some (.bool (bL a == bL b))
  | .neq => some (.bool (!(bL a == bL b)))
  | .lss => some (.bool (Op.bytesLess (bL a) (bL b)))
  | .leq => some (.bool (Op.bytesLess (bL a) (bL b) || bL a == bL b))
  | .gtr => some (.bool (!(Op.bytesLess (bL a) (bL b) || bL a == bL b)))
  | .geq => some (.bool (!Op.bytesLess (bL a) (bL b)))
  | _ => none
def binB (op : BinOp) (a b : Bool) : Option Value :=
  match op with
  | .eql => some (.bool (a == b))
  | .neq => some (.bool (!(a == b)))
  | _ => none
/-- a quotient, a remainder -/
def binQ (op : BinOp) (k : IntKind) (a b : Int) : Option Value :=
  match op with
  | .quo => some (.int k (k.wrap (a.tdiv b)))
  | .rem => some (.int k (a.tmod b))
  | _ => none
def shI (op : BinOp) (k : IntKind) (a b : Int) : Option Value :=
  match op with
  | .shl => some (.int k (k.wrap (a * 2 ^ (min b.toNat k.bits))))
  | .shr => some (.int k (a.fdiv (2 ^ (min b.toNat k.bits))))
  | _ => none
def unV (op : UnOp) (x : Value) : Option Value :=
  match op, x with
  | .not, .bool b => some (.bool (!b))
  | .neg, .int k n => some (.int k (k.wrap (0 - n)))
  | .xor, .int k n => some (.int k (k.wrap (BitVec.ofInt k.bits (if k.signed then -1 else k.max) ^^^ BitVec.ofInt k.bits n).toNat))
  | _, _ => none

def splice (cs : List AV) (off : Nat) (ys : List AV) : List AV := cs.take off ++ ys ++ cs.drop (off + ys.length)
def chunks (k : Nat) : Nat → List D → List (List D)
  | 0, _ => []
  | n + 1, l => l.take k :: chunks k n (l.drop k)
def fillA (places : List (Nat × Nat)) : List AV → List (Nat × AV) → Option (List AV)
  | cs, [] => some cs
  | cs, (i, x) :: r =>
    match places[i]? with
    | some (off, k) => bif x.cells.length == k && leB (off + k) cs.length then fillA places (splice cs off x.cells) r else none
    | none => none
def allD : List AV → Option (List D)
  | [] => some []
  | x :: r => match x.toD?, allD r with
    | some d, some l => some (d :: l)
    | _, _ => none
def fldsT (P : Program) (fs : List Field) : Option (List (Nat × Nat)) := fs.mapM fun f => (szT P f.type).map fun k => (f.offset, k)

def enterB (P : Program) (f : FuncId) : Bool :=
  match P.funcs[f]? with
  | some fn => fn.body.isSome && !(fn.name == "runtime.NumGoroutine")
  | none => false
/-- a call's contract in the small language -/
def ACalls (P : Program) (f : FuncId) (args : List AV) (h : List Blk) (K : AV → List Blk → Prop) : Prop :=
  enterB P f = true ∧ ∀ (G : Gh) (w : World) (vs : Array Value), Inv G w h → vs.size = args.length → (∀ (i : Nat) (u : Value) (c : AV), vs[i]? = some u → args[i]? = some c → VRel G w u c) →
    Calls P f vs w fun e w' => ∃ v G' r h', e = .returned v ∧ Ext G.N G w G' w' ∧ G.N ≤ G'.N ∧ Inv G' w' h' ∧ VRel G' w' v r ∧ K r h'
theorem ACalls.mono {P : Program} {f : FuncId} {args : List AV} {h : List Blk} {K K' : AV → List Blk → Prop} (hc : ACalls P f args h K) (hk : ∀ r h', K r h' → K' r h') : ACalls P f args h K' :=
  ⟨hc.1, fun G w vs hi hl hr => (hc.2 G w vs hi hl hr).mono fun _ _ ⟨v, G', r, h', e, x1, x2, x3, x4, x5⟩ => ⟨v, G', r, h', e, x1, x2, x3, x4, hk _ _ x5⟩⟩

def atPtr (h : List Blk) (p : AV) (K : List AV → Nat → Prop) : Prop :=
  match p with
  | .ptr n off => match h[n]? with
    | some (.cells cs) => K cs off
    | _ => False
  | .elt xs i off => match xs[i]? with
    | some cs => K (cs.map .d) off
    | none => False
  | _ => False
def aLoad (P : Program) (t : TypeId) (h : List Blk) (p : AV) (K : AV → Prop) : Prop :=
  atPtr h p fun cs off => match aggT P t, szT P t with
    | some true, some k => chk (leB (off + k) cs.length) (K (.agg ((cs.drop off).take k)))
    | some false, some _ => match cs[off]? with
      | some c => K c
      | none => False
    | _, _ => False
def aStore (P : Program) (t : TypeId) (h : List Blk) (p x : AV) (K : List Blk → Prop) : Prop :=
  match p with
  | .ptr n off => match h[n]? with
    | some (.cells cs) => match szT P t with
      | some k => chk (k == x.cells.length && x.boxB && leB (off + x.cells.length) cs.length) (K (h.set n (.cells (splice cs off x.cells))))
      | none => False
    | _ => False
  | _ => False
def aIndexAddr (P : Program) (T : TypeId) (x i : AV) (K : AV → Prop) : Prop :=
  match elmT P T with
  | some (_, k) =>
    match x with
    | .row n off len _ k' => match i.int? with
      | some z => chk (k' == k) (0 ≤ z ∧ z < len ∧ K (.ptr n (off + z.toNat * k)))
      | none => False
    | _ => match x.list?, i.int? with
      | some xs, some z => 0 ≤ z ∧ (match xs[z.toNat]? with | some c => c.length = k ∧ K (.elt [c] 0 0) | none => False)
      | _, _ => False
  | none => match arrT P T, x, i.int? with
    | some (n, _, k), .ptr b off, some z => 0 ≤ z ∧ z < n ∧ K (.ptr b (off + z.toNat * k))
    | some (n, _, k), .elt xs i off, some z => chk (k == 1) (0 ≤ z ∧ z < n ∧ (match xs[i]? with | some c => (match c[off + z.toNat]? with | some d => K (.elt [[d]] 0 0) | none => False) | none => False))
    | _, _, _ => False
def aLen (P : Program) (T : TypeId) (x : AV) (K : Nat → Prop) : Prop :=
  match x with
  | .d (.v (.string s)) => chk (strT P T) (K s.size)
  | .row _ _ len _ _ => chk (elmT P T).isSome (K len)
  | x => match x.list? with
    | some xs => chk (elmT P T).isSome (K xs.length)
    | none => False
def optInt (ρ : Operand → AV) (x : Option Operand) (dflt : Nat) (K : Nat → Prop) : Prop :=
  match x with
  | none => K dflt
  | some y => match (ρ y).int? with
    | some z => 0 ≤ z ∧ K z.toNat
    | none => False
def aSlice (P : Program) (T : TypeId) (ρ : Operand → AV) (x : AV) (lo hi mx : Option Operand) (K : AV → Prop) : Prop :=
  match mx with
  | none =>
    match x with
    | .d (.v (.string b)) => chk (strT P T) (optInt ρ hi b.size fun h => h ≤ b.size ∧ optInt ρ lo 0 fun l => l ≤ h ∧ K (.d (.v (.string (b.extract l h)))))
    | .ptr n off => match arrT P T with
      | some (m, _, k) => chk (leB m 4096) (optInt ρ hi m fun h => chk (leB h m) (optInt ρ lo 0 fun l => chk (leB l h && !leB m l) (K (.row n (off + l * k) (h - l) (m - l) k))))
      | none => False
    | x => match x.list?, elmT P T with
      | some xs, some (_, k) => (∀ c ∈ xs, c.length = k) ∧ optInt ρ hi xs.length fun h => h ≤ xs.length ∧ optInt ρ lo 0 fun l => l ≤ h ∧ K (.d (.sl ((xs.take h).drop l)))
      | _, _ => False
  | some m => match lo, hi with
    | none, some y => match x.list?, elmT P T with
      | some xs, some (_, k) => (∀ c ∈ xs, c.length = k) ∧ optInt ρ (some m) 0 fun c => c ≤ xs.length ∧ optInt ρ (some y) 0 fun h => h = c ∧ K (.full (xs.take h))
      | _, _ => False
    | _, _ => False
/-- the source of an append -/
def srcL (h : List Blk) (k : Nat) (x : AV) (K : List (List D) → Prop) : Prop :=
  match x with
  | .row n off len _ k' => match h[n]? with
    | some (.cells cs) => match allD ((cs.drop off).take (len * k)) with
      | some ds => chk (k' == k && leB (off + len * k) cs.length && ((cs.drop off).take (len * k)).all AV.cellB) (K (chunks k len ds))
      | none => False
    | _ => False
  | x => match x.list? with
    | some ys => (∀ c ∈ ys, c.length = k) ∧ K ys
    | none => False
def aAppend (P : Program) (T : TypeId) (h : List Blk) (x y : AV) (K : AV → List Blk → Prop) : Prop :=
  match elmT P T with
  | some (e, k) => match zeroT P e, byT P e with
    | some z, some by_ => chk (leB 1 k && z.cells.toList.length == k) <| srcL h k y fun ys =>
      match x with
      | .own n xs => match h[n]? with
        | some (.front e' k' len) => chk (e' == e && k' == k) <| len = xs.length ∧ (∀ c ∈ xs, c.length = k) ∧ xs.length + ys.length ≤ maxLen ∧ (xs.length + ys.length) * by_ ≤ 140737488355328 ∧ K (.own n (xs ++ ys)) (h.set n (.front e k (xs.length + ys.length)))
        | _ => False
      | .d (.v (.slice none 0 0)) => ys.length ≤ maxLen ∧ ys.length * by_ ≤ 140737488355328 ∧ K (.own h.length ys) (h ++ [.front e k ys.length])
      | .full xs => (∀ c ∈ xs, c.length = k) ∧ xs.length + ys.length ≤ maxLen ∧ (xs.length + ys.length) * by_ ≤ 140737488355328 ∧ K (.own h.length (xs ++ ys)) (h ++ [.front e k (xs.length + ys.length)])
      | _ => False
    | _, _ => False
  | none => False

def fldsP (P : Program) (T : TypeId) : Option (List (Nat × Nat)) :=
  match P.underlying T with
  | some (.struct fs) => fldsT P fs.toList
  | _ => none
def aBuild (P : Program) (T : TypeId) (ps : List (Nat × AV)) (K : AV → Prop) : Prop :=
  match fldsP P T, zeroT P T with
  | some places, some z => match fillA places (z.cells.toList.map fun u => .d (.v u)) ps with
    | some cs => chk ((ps.all fun p => p.2.boxB) && z.cells.toList.all Value.oneCell') (K (.agg cs))
    | none => False
  | _, _ => False
def placesN (k : Nat) : Nat → Nat → List (Nat × Nat)
  | _, 0 => []
  | o, n + 1 => (o, k) :: placesN k (o + k) n
def repN : Nat → List AV → List AV
  | 0, _ => []
  | n + 1, l => l ++ repN n l
def aBuildSlice (P : Program) (T : TypeId) (len : Nat) (ps : List (Nat × AV)) (K : AV → Prop) : Prop :=
  match elmT P T with
  | some (e, k) => match zeroT P e with
    | some z => match fillA (placesN k 0 len) (repN len (z.cells.toList.map fun u => .d (.v u))) ps with
      | some cs => match allD cs with
        | some ds => chk (leB 1 k && leB (len * k) 16777216 && z.cells.toList.length == k && z.cells.toList.all Value.oneCell' && (ps.all fun p => p.2.boxB)) (K (.full (chunks k len ds)))
        | none => False
      | none => False
    | none => False
  | none => False
/-- two cells of a comparable plain type -/
def eq1 (P : Program) (t : TypeId) (x y : AV) : Option Bool :=
  match x, y with
  | .d (.v (.int k a)), .d (.v (.int k' b)) => bif kEq k k' && (intT P t).isSome then some (a == b) else none
  | .d (.v (.string a)), .d (.v (.string b)) => bif strT P t then some (bL a == bL b) else none
  | .d (.v (.bool a)), .d (.v (.bool b)) => bif boolT P t then some (a == b) else none
  | _, _ => none
def eqF (P : Program) : List Field → List AV → List AV → Option Bool
  | [], _, _ => some true
  | f :: fs, xs, ys => bif f.name == "_" then none else
    match aggT P f.type, xs[f.offset]?, ys[f.offset]? with
    | some false, some x, some y => match eq1 P f.type x y, eqF P fs xs ys with
      | some a, some b => some (a && b)
      | _, _ => none
    | _, _, _ => none
def eqS (P : Program) (T : TypeId) (xs ys : List AV) : Option Bool :=
  match P.underlying T with
  | some (.struct fs) => bif P.stoodInHeld T || P.eqGuardType P.depth T then none else eqF P fs.toList xs ys
  | _ => none
def eqV (op : BinOp) (b : Bool) : Option Value :=
  match op with
  | .eql => some (.bool b)
  | .neq => some (.bool (!b))
  | _ => none
def aBin (P : Program) (T : TypeId) (op : BinOp) (x y : AV) (K : AV → Prop) : Prop :=
  match x, y with
  | .d (.v (.int k a)), .d (.v (.int k' b)) =>
    match binQ op k a b with
    | some v => chk (kEq k k') (b ≠ 0 ∧ K (.d (.v v)))
    | none => match shI op k a b with
      | some v => 0 ≤ b ∧ K (.d (.v v))
      | none => match binI op k a b with
        | some v => chk (kEq k k') (K (.d (.v v)))
        | none => False
  | .d (.v (.string a)), .d (.v (.string b)) => match binS op a b with
    | some v => K (.d (.v v))
    | none => match op with
      | .add => a.size + b.size ≤ maxLen ∧ K (.d (.v (.string (a ++ b))))
      | _ => False
  | .d (.v (.bool a)), .d (.v (.bool b)) => match binB op a b with
    | some v => chk (boolT P T) (K (.d (.v v)))
    | none => False
  | .agg xs, .agg ys => match eqS P T xs ys with
    | some b => match eqV op b with
      | some v => K (.d (.v v))
      | none => False
    | none => False
  | _, _ => False
def aUn (op : UnOp) (x : AV) (K : AV → Prop) : Prop :=
  match x with
  | .d (.v u) => match unV op u with
    | some v => K (.d (.v v))
    | none => False
  | _ => False
def aConv (P : Program) (src dst : TypeId) (x : AV) (K : AV → Prop) : Prop :=
  match x with
  | .d (.v (.int _ n)) => match intT P src, intT P dst with
    | some _, some k => K (.d (.v (.int k (k.wrap n))))
    | _, _ => False
  | .d (.v (.string b)) => chk (strT P src && strT P dst) (K (.d (.v (.string b))))
  | x => match x.list?, elmT P src with
    | some xs, some (e, _) => chk (u8T P e && strT P dst) (∃ ns : List Int, xs = ns.map (fun n => [.v (.int .u8 n)]) ∧ K (.d (.v (.string ⟨(ns.map fun n => UInt8.ofNat n.toNat).toArray⟩))))
    | _, _ => False
def aField (P : Program) (T : TypeId) (x : AV) (f : Nat) (K : AV → Prop) : Prop :=
  match fldT P T f, x with
  | some (off, k, true), .agg cs => chk (leB (off + k) cs.length) (K (.agg ((cs.drop off).take k)))
  | some (off, _, false), .agg cs => match cs[off]? with
    | some c => K c
    | none => False
  | _, _ => False

def mapT (P : Program) (T : TypeId) : Option (TypeId × TypeId) :=
  match P.underlying T with
  | some (.map k e) => some (k, e)
  | _ => none
/-- what an operation beyond those asks -/
inductive Sd
  | no
  | lt (n : Nat)
def Sd.ok : Sd → Prop
  | .no => True
  | .lt n => n < maxLen
def lookR (commaOk : Bool) (z : Value) : Option D → AV
  | some d => bif commaOk then .tup [.d d, .d (.v (.bool true))] else .d d
  | none => bif commaOk then .tup [.d (.v z), .d (.v (.bool false))] else .d (.v z)
/-- operations that compute a value and blocks -/
def opX (P : Program) (op : Op) (ρ : Operand → AV) (h : List Blk) : Option (AV × List Blk × Sd) :=
  match op with
  | .makeMap T none => match mapT P T with
    | some _ => some (.mp h.length, h ++ [.map []], .no)
    | none => none
  | .lookup T m i ok => match mapT P T with
    | some (k, e) => match zeroT P e with
      | some z => match ρ m, ρ i with
        | .mp n, .d (.v (.string s)) => match h[n]? with
          | some (.map kv) => bif strT P k && z.oneCell' then some (lookR ok z (mget kv s), h, .no) else none
          | _ => none
        | _, _ => none
      | none => none
    | none => none
  | .mapUpdate T m i x => match mapT P T with
    | some (k, _) => match ρ m, ρ i, (ρ x).toD? with
      | .mp n, .d (.v (.string s)), some d => match h[n]? with
        | some (.map kv) => bif strT P k then some (.d (.v undef), h.set n (.map ((s, d) :: kv)), .lt kv.length) else none
        | _ => none
      | _, _, _ => none
    | none => none
  | _ => none
/-- what the proof says of an operation on a slice that may be written -/
inductive VA
  | no
  | el (c : List AV)
  | st (c : List AV) (cs : List (List AV))
  | mk (cs : List (List AV)) (len m : Nat)
  | ap (cs ys : List (List AV)) (L len : Nat)
  | ix (i : Nat)
  | ol (o len : Nat)
def ldC (P : Program) (t : TypeId) (c : List AV) (j : Nat) : Option AV :=
  match aggT P t, szT P t with
  | some true, some k => bif leB (j + k) c.length then some (.agg ((c.drop j).take k)) else none
  | some false, some _ => c[j]?
  | _, _ => none
def liftD (xs : List (List D)) : List (List AV) := xs.map fun c => c.map AV.d
/-- the elements of an append's source -/
def srcV (h : List Blk) (k : Nat) (y : AV) (ys : List (List AV)) : Prop :=
  (∃ xs, y.list? = some xs ∧ (∀ c ∈ xs, c.length = k) ∧ ys = liftD xs) ∨ (∃ n o len L e cs, y = .vec n o len L k ∧ h[n]? = some (.vec e k cs) ∧ cs.length = L ∧ ys = (cs.drop o).take len ∧ ∀ c ∈ ys, c.all AV.cellB = true)
def optI (ρ : Operand → AV) (d : Int) : Option Operand → Option Int
  | none => some d
  | some y => (ρ y).int?
/-- operations on slices that may be written -/
def opV (P : Program) (op : Op) (ρ : Operand → AV) (h : List Blk) (a : VA) : Option (AV × List Blk × Prop) :=
  match op with
  | .indexAddr T x i => match ρ x, (ρ i).int?, elmT P T, a with
    | .vec n o len L k, some z, some (_, k'), .ix i' => match h[n]? with
      | some (.vec _ k2 cs) => bif k' == k && k2 == k then some (.vptr n i' 0 L k, h, cs.length = L ∧ 0 ≤ z ∧ z < len ∧ i' = o + z.toNat) else none
      | _ => none
    | _, _, _, _ => none
  | .fieldAddr S x f => match ρ x, fldT P S f with
    | .vptr n i j L k, some (fo, _, _) => some (.vptr n i (j + fo) L k, h, True)
    | _, _ => none
  | .nilCheck x => match ρ x with
    | .vptr n i j L k => some (.vptr n i j L k, h, True)
    | _ => none
  | .load t p => match ρ p, a with
    | .vptr n i j L k, .el c => match h[n]?, ldC P t c j with
      | some (.vec _ k' cs), some x => bif k' == k then some (x, h, cs.length = L ∧ cs[i]? = some c) else none
      | _, _ => none
    | _, _ => none
  | .store t p x => match ρ p, a with
    | .vptr n i j L k, .st c cs' => match h[n]?, szT P t with
      | some (.vec e k' cs), some q => bif k' == k && q == (ρ x).cells.length && (ρ x).boxB && leB (j + (ρ x).cells.length) k && leB 1 k then some (.d (.v undef), h.set n (.vec e k cs'), cs.length = L ∧ cs[i]? = some c ∧ cs' = cs.set i (splice c j (ρ x).cells)) else none
      | _, _ => none
    | _, _ => none
  | .slice T x lo hi none => match ρ x, elmT P T, a with
    | .vec n o len L k, some (_, k'), .ol o' len' => match optI ρ 0 lo, optI ρ len hi with
      | some l, some u => match h[n]? with
        | some (.vec _ k2 cs) => bif k' == k && k2 == k then some (.vec n o' len' L k, h, cs.length = L ∧ 0 ≤ l ∧ l ≤ u ∧ u ≤ (L : Int) - o ∧ o' = o + l.toNat ∧ len' = u.toNat - l.toNat) else none
        | _ => none
      | _, _ => none
    | _, _, _ => none
  | .makeSlice T l c => match elmT P T, (ρ l).int?, (ρ c).int?, a with
    | some (e, k), some l, some c, .mk cs len m => match zeroT P e, byT P e with
      | some z, some by_ => bif leB 1 k && z.cells.toList.length == k && z.cells.toList.all Value.oneCell' then some (.vec h.length 0 len m k, h ++ [.vec e k cs], 0 ≤ l ∧ l ≤ c ∧ l.toNat = len ∧ c.toNat = m ∧ cs = List.replicate m (z.cells.toList.map fun u => .d (.v u)) ∧ m ≤ maxLen ∧ by_ * m ≤ 281474976710656) else none
      | _, _ => none
    | _, _, _, _ => none
  | .call c => match c.callee with
    | .builtin .len => match c.args.toList, c.argTypes.toList with
      | [x], [T] => match ρ x with
        | .vec n _ len L k => match h[n]? with
          | some (.vec _ k2 cs) => bif (elmT P T).isSome && k2 == k then some (.d (.v (.int .i64 len)), h, cs.length = L) else none
          | _ => none
        | _ => none
      | _, _ => none
    | .builtin .append => match c.args.toList, c.argTypes.toList with
      | [x, y], [T, U] => match elmT P T, elmT P U, a with
        | some (e, k), some _, .ap cs' ys L' len' => match zeroT P e, byT P e with
          | some z, some by_ => bif leB 1 k && z.cells.toList.length == k then
            match ρ x with
            | .vec n o len L k1 => match h[n]? with
              | some (.vec e1 k2 cs) => bif k1 == k && k2 == k && e1 == e then some (.vec n o len' L' k, h.set n (.vec e k cs'), cs.length = L ∧ srcV h k (ρ y) ys ∧ len' = len + ys.length ∧
                  ((o + len + ys.length ≤ L ∧ L' = L ∧ cs' = cs.take (o + len) ++ ys ++ cs.drop (o + len + ys.length)) ∨ (o = 0 ∧ len = L ∧ L' = L + ys.length ∧ cs' = cs ++ ys ∧ L' ≤ maxLen ∧ L' * by_ ≤ 140737488355328))) else none
              | _ => none
            | .d (.v (.slice none 0 0)) => some (.vec h.length 0 len' L' k, h ++ [.vec e k cs'], srcV h k (ρ y) ys ∧ cs' = ys ∧ len' = ys.length ∧ L' = ys.length ∧ L' ≤ maxLen ∧ L' * by_ ≤ 140737488355328)
            | .full xs => some (.vec h.length 0 len' L' k, h ++ [.vec e k cs'], xs = [] ∧ srcV h k (ρ y) ys ∧ cs' = ys ∧ len' = ys.length ∧ L' = ys.length ∧ L' ≤ maxLen ∧ L' * by_ ≤ 140737488355328)
            | _ => none
          else none
          | _, _ => none
        | _, _, _ => none
      | _, _ => none
    | _ => none
  | _ => none
/-- the greatest, the least of integers -/
def foldI1 (mx : Bool) (k : IntKind) : Int → List AV → Option (IntKind × Int)
  | a, [] => some (k, a)
  | a, .d (.v (.int _ b)) :: l => foldI1 mx k (bif mx then (if b > a then b else a) else (if b < a then b else a)) l
  | _, _ => none
def foldI (mx : Bool) : List AV → Option (IntKind × Int)
  | .d (.v (.int k a)) :: l => foldI1 mx k a l
  | _ => none
/-- one operation -/
def aopC (P : Program) (o : Oper) (ρ : Operand → AV) (h : List Blk) (C : AV → List Blk → Prop) : Prop :=
  match o.op with
  | .move x | .assign x => C (ρ x) h
  | .pick c a b => match ρ c with
    | .d (.v (.bool t)) => (t = true → C (ρ a) h) ∧ (t = false → C (ρ b) h)
    | _ => False
  | .alloc e => match zeroT P e with
    | some z => C (.ptr h.length 0) (h ++ [Blk.cells (z.cells.toList.map fun u => .d (.v u))])
    | none => False
  | .box _ x => chk (ρ x).boxB <| C (.ptr h.length 0) (h ++ [Blk.cells (ρ x).cells])
  | .load t a => aLoad P t h (ρ a) fun x => C x h
  | .store t a x => aStore P t h (ρ a) (ρ x) fun h' => C (.d (.v undef)) h'
  | .nilCheck x => match ρ x with
    | .ptr n off => C (.ptr n off) h
    | .elt xs i off => C (.elt xs i off) h
    | .fn f cs => C (.fn f cs) h
    | _ => False
  | .fieldAddr S x f => match fldT P S f with
    | some (fo, _, _) => match ρ x with
      | .ptr n off => C (.ptr n (off + fo)) h
      | .elt xs i off => C (.elt xs i (off + fo)) h
      | _ => False
    | none => False
  | .field T x f => aField P T (ρ x) f fun y => C y h
  | .indexAddr T x i => aIndexAddr P T (ρ x) (ρ i) fun y => C y h
  | .index T x i => match ρ x, (ρ i).int? with
    | .d (.v (.string b)), some z => chk (strT P T) (0 ≤ z ∧ (match b[z.toNat]? with | some c => C (.d (.v (.int .u8 c.toNat))) h | none => False))
    | _, _ => False
  | .build T ps => aBuild P T (ps.toList.map fun p => (p.1, ρ p.2)) fun y => C y h
  | .buildSlice T len ps => aBuildSlice P T len (ps.toList.map fun p => (p.1, ρ p.2)) fun y => C y h
  | .slice T x lo hi mx => aSlice P T ρ (ρ x) lo hi mx fun y => C y h
  | .extract x i => match ρ x with
    | .tup cs => match cs[i]? with
      | some c => C c h
      | none => False
    | _ => False
  | .makeFunc (.func f) first caps => match first.toList with
    | [] => C (.fn f (caps.toList.map ρ)) h
    | _ => False
  | .binOp op T x y _ => aBin P T op (ρ x) (ρ y) fun v => C v h
  | .unOp op _ x => aUn op (ρ x) fun v => C v h
  | .convert a b x => aConv P a b (ρ x) fun v => C v h
  | .call c => match c.callee with
    | .builtin .len => match c.args.toList, c.argTypes.toList with
      | [x], [T] => aLen P T (ρ x) fun n => C (.d (.v (.int .i64 n))) h
      | _, _ => False
    | .builtin .append => match c.args.toList, c.argTypes.toList with
      | [x, y], [T, U] => chk (elmT P U).isSome <| aAppend P T h (ρ x) (ρ y) fun v h' => C v h'
      | _, _ => False
    | .builtin .max => match foldI true (c.args.toList.map ρ) with
      | some (k, a) => C (.d (.v (.int k a))) h
      | none => False
    | .builtin .min => match foldI false (c.args.toList.map ρ) with
      | some (k, a) => C (.d (.v (.int k a))) h
      | none => False
    | .value f => match ρ f with
      | .fn g caps => ACalls P g (c.args.toList.map ρ ++ caps) h fun r h' => C r h'
      | .hid q => ∃ g cs, q = .fn g cs ∧ ACalls P g (c.args.toList.map ρ ++ cs.map Cap.av) h fun r h' => C r h'
      | _ => False
    | _ => False
  | op => match opX P op ρ h with
    | some (x, h', p) => p.ok ∧ C x h'
    | none => False
/-- a slice held against nil: of an empty one nobody knows -/
def aNil (P : Program) (o : Oper) (K : St → Prop) (s : St) : Prop :=
  match o.op with
  | .binOp op T x y _ => match (ev s x).list?, ev s y, elmT P T, eqV op true, eqV op false with
    | some xs, .d (.v (.slice none 0 0)), some _, some v1, some v2 => (xs = [] → K (s.put o.dst (.d (.v v1)))) ∧ K (s.put o.dst (.d (.v v2)))
    | _, _, _, _, _ => False
  | _ => False
def aopV (P : Program) (o : Oper) (K : St → Prop) (s : St) : Prop := ∃ a x h' p, opV P o.op (ev s) s.h a = some (x, h', p) ∧ p ∧ K ((s.wh h').put o.dst x)
def aop (P : Program) (o : Oper) (K : St → Prop) (s : St) : Prop := aopC P o (ev s) s.h fun x h => K ((s.wh h).put o.dst x)
def aopN0 (P : Program) (o : Oper) (K : St → Prop) (s : St) : Prop := aopV P o K s ∨ aNil P o K s ∨ aop P o K s
end Go.Proofs.YtaiihhogoogkmaaGreatDoor
