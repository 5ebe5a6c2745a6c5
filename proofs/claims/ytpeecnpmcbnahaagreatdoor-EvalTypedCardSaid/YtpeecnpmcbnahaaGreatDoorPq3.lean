/-
  Part 3 of the proof: AbsRun, AbsFrz, AbsInst, AbsExec, AbsExecV, AbsRange, AbsAny, AbsExec2, AbsExec3, AbsYield, AbsTree, AbsVecX, MemK, AbsVecD.
-/
import Derived.Test.YtpeecnpmcbnahaaGreatDoorPq2
import Derived.WalkKit
import Derived.Laws.CopyOwn
import Derived.Deep.AppendLies
import Derived.Lib.AppendZerosOnto
import Derived.Lib.Overlaps
import Derived.Lib.Hide
namespace Go.Proofs.YtpeecnpmcbnahaaGreatDoor
open Go.RowKit
def aq.vd:aq->Prop
 | .vec _ _ cs=>(∀f,cs.map (AV.gn f)=cs)/\∀m,cs.all (·.all (AV.aE m))=true
 |_=>True
theorem alD(f:Nat->Nat)(c:aqP D):AV.gn f (c.map AV.d)=c.map AV.d:=by
 induction c with
 |nil=>simp [AV.gn]
 |cons x c ih=>simp only[aqq,AV.gn,AV.aM,ih]
theorem amw(xs:aqP (aqP D)):(∀f,(cp xs).map (AV.gn f)=cp xs)/\∀m,(cp xs).all (·.all (AV.aE m))=true:=by
 refine⟨λf=> ?_,λm=>by simp [cp,AV.aE]⟩;unfold cp;rw[List.map_map];exact aqw λc _=>alD f c
def VD:aqP aq->Prop
 |[]=>True
 |B::l=>B.vd/\VD l
theorem dd:VD []:=trivial
theorem yF{e k:Nat}{xs:aqP (aqP D)}{l:aqP aq}(h:VD l):VD (.vec e k (cp xs)::l):=⟨amw xs,h⟩
theorem VD.mem:∀{l:aqP aq},VD l->∀B∈l,B.vd
 |[],_,B,hB=>by cases hB
 |_::_,h,B,hB=>by
  rcases aqv.1 hB with rfl|hB
  ·exact h.1
  ·exact VD.mem h.2 B hB
def aq.rB(f:Nat->Nat):aq->aq
 | .vec e k cs=> .vec e k cs
 |B=>B.aM f
theorem WA{f:Nat->Nat}{B:aq}(h:B.vd):B.rB f=B.aM f:=by
 cases B with
 |vec e k cs=>simp only[aq.rB,aq.aM];rw[h.1 f]
 |_=>rfl
theorem anB{f:Nat->Nat}{l:aqP aq}(h:VD l):l.map (aq.rB f)=l.map (aq.aM f):=aqw λB hB=>WA (h.mem B hB)
def aq.ui(m:Nat):aq->Bool
 | .vec .. =>true
 |B=>B.aE m
theorem afS{m:Nat}{B:aq}(h:B.vd)(hl:B.ui m=true):B.aE m=true:=by
 cases B with
 |vec e k cs=>exact h.2 m
 |_=>exact hl
theorem aeq{m:Nat}{l:aqP aq}(h:VD l)(hl:l.all (aq.ui m)=true):l.all (aq.aE m)=true:=by
 rw[aqr]at hl ⊢;exact λB hB=>afS (h.mem B hB) (hl B hB)
theorem ah3{f:Nat->Nat}{l:aqP aq}(h:VD l):(l.map λB=>some (B.rB f))=l.map λB=>some (B.aM f):=aqw λB hB=>congrArg some (WA (h.mem B hB))
inductive In
 |none
 |bit (x:AV)
 |eq (x:AV)
 |el (xs:List (List D)) (i:Int)
 |lt (z:Int) (n:Nat)
 |len (xs:List (List D))
 |sub (xs:List (List D)) (lo:Int) (hi:Option Int) (k:Nat)
 |app (xs ys:List (List D)) (len k c6:Nat)
 |nz (b:Int)
 |nn (b:Int)
 |str (b:ByteArray) (lo hi:Int)
 |cat (n:Nat)
 |pr (p:Prop)
 |sd (p:Sd)
 |iP (xs:List (List D))
 |M7 (c:List D) (z:Int) (n:Nat)
 |ch (b:ByteArray) (i:Int)
 |call (f:FuncId) (args:List AV)
 |jR (f:FuncId) (args:List AV) (h:List aq)
 |G7 (c:fA) (args:List AV)
 |oB (f:FuncId) (args:List AV) (h:List aq)
def PR(P:aqS)(c:fA)(args:aqP AV)(r:AV):Prop:=∃g as,c.app args=some (g,as)/\gi P g as (·=r)
inductive cg
 |none
 |bit (b:Bool)
 |CM
 |eq (y:AV)
 |el (c:List D)
 |ok
 |nat (n:Nat)
 |list (ys:List (List D))
 |Yv (ys:List (List D)) (n:Nat)
 |byte (c:UInt8)
 |bytes (s:ByteArray)
 |one (d:D)
 |va (a:VA)
 |ret (r:AV)
 |R8 (r:AV) (h:List aq)
 |Ta (l:List Nat) (fc:List AV) (H:List aq) (r:AV) (H':List aq)
 |rq (l:List Nat) (fc:List AV) (H:List aq) (r:AV)
 |Dl (l:List Nat) (fc:List AV) (H:List aq) (r:AV) (H':List aq)
inductive OK(P:Program):In->cg->Prop
 |none {o:cg}:OK P .none o
 |bit {e b:Bool} (h:e=b):OK P (.bit (.d (.v (.bool e)))) (.bit b)
 |CM:OK P (.bit (.d (.v undef))) .CM
 |eq {x y:AV} (h:x=y):OK P (.eq x) (.eq y)
 |el {xs:List (List D)} {i:Int} {c:List D} (h0:0<=i) (h:xs[i.toNat]?=some c):OK P (.el xs i) (.el c)
 |lt {z:Int} {n:Nat} (h0:0<=z) (h:z<n):OK P (.lt z n) .ok
 |len {xs:List (List D)} {n:Nat} (h:xs.length=n):OK P (.len xs) (.nat n)
 |sub {xs ys:List (List D)} {lo hi:Int} {k:Nat} (h0:0<=lo) (J:lo.toNat<=hi.toNat) (h2:0<=hi) (h3:hi.toNat<=xs.length) (hk:∀c∈xs,c.length=k) (h:(xs.take hi.toNat).drop lo.toNat=ys):OK P (.sub xs lo (some hi) k) (.list ys)
 |PB {xs ys:List (List D)} {lo:Int} {k:Nat} (h0:0<=lo) (J:lo.toNat<=xs.length) (hk:∀c∈xs,c.length=k) (h:xs.drop lo.toNat=ys):OK P (.sub xs lo .none k) (.list ys)
 |app {xs ys zs:List (List D)} {len k c6 n:Nat} (hl:len=xs.length) (hx:∀c∈xs,c.length=k) (hy:∀c∈ys,c.length=k) (hm:xs.length+ys.length<=maxLen) (hb:(xs.length+ys.length)*c6<=140737488355328) (hz:xs++ys=zs) (hn:xs.length+ys.length=n):OK P (.app xs ys len k c6) (.Yv zs n)
 |nz {b:Int} (h:b≠0):OK P (.nz b) .ok
 |nn {b:Int} (h:0<=b):OK P (.nn b) .ok
 |str {b:ByteArray} {lo hi:Int} (h0:0<=lo) (J:lo.toNat<=hi.toNat) (h2:0<=hi) (h3:hi.toNat<=b.size):OK P (.str b lo hi) .ok
 |ch {b:ByteArray} {i:Int} {c:UInt8} (h0:0<=i) (h:b[i.toNat]?=some c):OK P (.ch b i) (.byte c)
 |cat {n:Nat} (h:n<=maxLen):OK P (.cat n) .ok
 |pr {p:Prop} (a:VA) (h:p):OK P (.pr p) (.va a)
 |sd {p:Sd} {o:cg} (h:p.ok):OK P (.sd p) o
 |iP {xs:List (List D)} {s:ByteArray} (h:∃ns:List Int,xs=ns.map (λn=>[.v (.int .u8 n)])/\s=⟨(ns.map λn=>UInt8.ofNat n.toNat).toArray⟩):OK P (.iP xs) (.bytes s)
 |M7 {c:List D} {z:Int} {n:Nat} {d:D} (h0:0<=z) (J:z<n) (h:c[z.toNat]?=some d):OK P (.M7 c z n) (.one d)
 |call {f:FuncId} {args:List AV} {r:AV} (h:gi P f args (·=r)):OK P (.call f args) (.ret r)
 |G7 {c:fA} {args:List AV} {r:AV} (h:PR P c args r):OK P (.G7 c args) (.ret r)
 |oB {f:FuncId} {mF fc:List AV} {h H H':List aq} {l:List Nat} {r:AV} (ha:mF=fc.map (AV.aM (rn l h.length))) (hd:qM l=true) (hb:l.map (λj=>h[j]?)=H.map λB=>some (B.aM (rn l h.length))) (hl:(fc.all (AV.aE H.length)&&H.all (aq.aE H.length))=true)
  (hc:cV P f fc H λr1 J=>r1=r/\J=H'):OK P (.oB f mF h) (.Ta l fc H r H')
 |Nw {f:FuncId} {mF fc:List AV} {h H H':List aq} {l:List Nat} {r:AV} (vG:VD H) (hv:VD H') (ha:mF=fc.map (AV.aM (rn l h.length))) (hd:qM l=true) (hb:l.map (λj=>h[j]?)=H.map λB=>some (B.rB (rn l h.length))) (hl:(fc.all (AV.aE H.length)&&H.all (aq.ui H.length))=true)
  (hc:cV P f fc H λr1 J=>r1=r/\J=H'):OK P (.oB f mF h) (.Dl l fc H r H')
 |rq {f:FuncId} {mF fc:List AV} {h H:List aq} {l:List Nat} {r:AV} (ha:mF=fc.map (AV.aM (rn l 0))) (hd:qM l=true) (hb:l.map (λj=>h[j]?)=H.map λB=>some (B.aM (rn l 0))) (hl:(fc.all (AV.aE H.length)&&H.all (aq.aE H.length)&&r.aE H.length)=true)
    (hc:cV P f fc H λr1 J=>r1=r/\J=H):OK P (.oB f mF h) (.rq l fc H r)
 |jR {f:FuncId} {args:List AV} {h h':List aq} {r:AV} (hc:cV P f args h λr1 J=>r1=r/\J=h'):OK P (.jR f args h) (.R8 r h')
def Al(P:aqS)(t:TypeId)(cs:aqP AV)(off:Nat):aqR AV:=
 match mJ P t,gx P t with
 |some true,some k=>bif ct (off+k) cs.length then some (.agg ((cs.drop off).take k))else none
 |some false,some _=>cs[off]?
 |_,_=>none
def yn(h:aqP aq)(p:AV):aqR (aqP AV×Nat):=
 match p with
 | .ptr n off=>match h[n]? with
   |some (.cells cs)=>some (cs,off)
   |_=>none
 | .bk xs i off=>match xs[i]? with
   |some c=>some (c.map .d,off)
   |none=>none
 |_=>none
def S0(x:AV)(i:aqR Int)(k:Nat)(a:cg):aqR (AV×In):=
 match x.fW,i,a with
 |some xs,some z, .el c=>bif c.length==k then some (.bk [c] 0 0, .el xs z)else none
 |_,_,_=>none
def P2(P:aqS)(T:TypeId)(x i:AV)(a:cg):aqR (AV×In):=
 match fb P T with
 |some (_,k)=>
  match x with
  | .row n off len _ k'=>match i.int? with
    |some z=>bif k'==k then some (.ptr n (off+z.toNat*k), .lt z len)else none
    |none=>none
  |x=>S0 x i.int? k a
 |none=>match ud P T,x,i.int? with
  |some (n,_,k), .ptr b off,some z=>some (.ptr b (off+z.toNat*k), .lt z n)
  |some (n,_,k), .bk [c] 0 0,some z=>match a with
   | .one d=>bif k==1 then some (.bk [[d]] 0 0, .M7 c z n)else none
   |_=>none
  |_,_,_=>none
def Tp(P:aqS)(T:TypeId)(x:AV)(a:cg):aqR (AV×In):=
 match x with
 | .d (.v (.string s))=>bif iD P T then some (.d (.v (.int .i64 s.size)), .none)else none
 | .row _ _ len _ _=>bif (fb P T).isSome then some (.d (.v (.int .i64 len)), .none)else none
 |x=>match x.fW,a with
  |some xs, .nat n=>bif (fb P T).isSome then some (.d (.v (.int .i64 n)), .len xs)else none
  |_,_=>none
def oN(l:aqR Int)(d:Nat):Nat:=match l with|some z=>z.toNat|none=>d
def EE(ρ:Operand->AV):aqR Operand->aqR (aqR Int)
 |none=>some none
 |some y=>match (ρ y).int? with
  |some z=>some (some z)
  |none=>none
def Ph(P:aqS)(T:TypeId)(ρ:Operand->AV)(x:AV)(lo hi mx:aqR Operand)(a:cg):aqR (AV×In):=
 match mx with
 |none=>match EE ρ lo,EE ρ hi with
  |some l,some h=>match x with
   | .d (.v (.string b))=>bif iD P T then some (.d (.v (.string (b.extract (oN l 0) (oN h b.size)))), .str b (l.getD 0) (h.getD b.size))else none
   | .ptr n off=>match ud P T,l,h with
     |some (m,_,k),none,none=>bif ct m 4096&& !ct m 0 then some (.row n off m m k, .none)else none
     |_,_,_=>none
   |x=>match x.fW,fb P T,a with
    |some xs,some (_,k), .list ys=>some (.d (.sl ys), .sub xs (l.getD 0) h k)
    |_,_,_=>none
  |_,_=>none
 |some m=>match lo,hi,ρ m with
  |none,some y, .d (.v (.int _ 0))=>match x.fW,fb P T,ρ y,a with
   |some xs,some (_,k), .d (.v (.int _ 0)), .list _=>some (.full [], .sub xs 0 (some 0) k)
   |_,_,_,_=>none
  |_,_,_=>none
def ML(h:aqP aq)(k:Nat)(x:AV):aqR (aqP (aqP D)):=
 match x with
 | .row n off len _ k'=>match h[n]? with
   |some (.cells cs)=>match nw ((cs.drop off).take (len*k))with
    |some ds=>bif k'==k&&ct (off+len*k) cs.length&&((cs.drop off).take (len*k)).all AV.kH then some (oJ k len ds)else none
    |none=>none
   |_=>none
 |x=>x.fW
def RW(P:aqS)(T:TypeId)(h:aqP aq)(x y:AV)(a:cg):aqR (AV×aqP aq×In):=
 match fb P T,a with
 |some (e,k), .Yv zs n'=>match iQ P e,rN P e with
  |some z,some c6=>bif ct 1 k&&z.cells.toList.length==k then
   match ML h k y with
   |some ys=>match x with
    | .own n xs=>match h[n]? with
      |some (.front e' k' len)=>bif e'==e&&k'==k then some (.own n zs,h.set n (.front e k n'), .app xs ys len k c6)else none
      |_=>none
    | .d (.v (.slice none 0 0))=>some (.own h.length zs,h++[.front e k n'], .app [] ys 0 k c6)
    | .full xs=>some (.own h.length zs,h++[.front e k n'], .app xs ys xs.length k c6)
    |_=>none
   |none=>none
   else none
  |_,_=>none
 |_,_=>none
def SB(P:aqS)(T:TypeId)(ps:aqP (Nat×AV)):aqR AV:=
 match Oo P T,iQ P T with
 |some places,some z=>match qh places (z.cells.toList.map λu=> .d (.v u)) ps with
  |some cs=>bif (ps.all λp=>p.2.jN)&&z.cells.toList.all Value.oneCell' then some (.agg cs)else none
  |none=>none
 |_,_=>none
def SL(P:aqS)(T:TypeId)(len:Nat)(ps:aqP (Nat×AV)):aqR AV:=
 match fb P T with
 |some (e,k)=>match iQ P e with
  |some z=>match qh (vU k 0 len) (sX len (z.cells.toList.map λu=> .d (.v u))) ps with
   |some cs=>match nw cs with
    |some ds=>bif ct 1 k&&ct (len*k) 16777216&&z.cells.toList.length==k&&z.cells.toList.all Value.oneCell'&&(ps.all λp=>p.2.jN)then some (.full (oJ k len ds))else none
    |none=>none
   |none=>none
  |none=>none
 |none=>none
def Jf(P:aqS)(T:TypeId)(op:BinOp)(x y:AV):aqR (AV×In):=
 match x,y with
 | .d (.v (.int k a)), .d (.v (.int k' b))=>
   match PQ op k a b with
   |some v=>bif yC k k' then some (.d (.v v), .nz b)else none
   |none=>match OP op k a b with
    |some v=>some (.d (.v v), .nn b)
    |none=>match OL op k a b with
     |some v=>bif yC k k' then some (.d (.v v), .none)else none
     |none=>none
 | .d (.v (.string a)), .d (.v (.string b))=>match O7 op a b with
   |some v=>some (.d (.v v), .none)
   |none=>match op with
    | .add=>some (.d (.v (.string (a++b))), .cat (a.size+b.size))
    |_=>none
 | .d (.v (.bool a)), .d (.v (.bool b))=>match QK op a b with
   |some v=>bif BW P T then some (.d (.v v), .none)else none
   |none=>none
 | .agg xs, .agg ys=>match Kq P T xs ys with
   |some b=>match x8 op b with
    |some v=>some (.d (.v v), .none)
    |none=>none
   |none=>none
 |_,_=>none
def Ib(P:aqS)(src dst:TypeId)(x:AV)(a:cg):aqR (AV×In):=
 match x with
 | .d (.v (.int _ n))=>match rk P src,rk P dst with
   |some _,some k=>some (.d (.v (.int k (k.wrap n))), .none)
   |_,_=>none
 | .d (.v (.string b))=>bif iD P src&&iD P dst then some (.d (.v (.string b)), .none)else none
 |x=>match x.fW,fb P src,a with
  |some xs,some (e,_), .bytes s=>bif Dw P e&&iD P dst then some (.d (.v (.string s)), .iP xs)else none
  |_,_,_=>none
def HA(P:aqS)(T:TypeId)(x:AV)(f:Nat):aqR AV:=
 match th P T f,x with
 |some (off,k,true), .agg cs=>bif ct (off+k) cs.length then some (.agg ((cs.drop off).take k))else none
 |some (off,_,false), .agg cs=>cs[off]?
 |_,_=>none
def H0(h:aqP aq):aqR AV->aqR (AV×aqP aq×In)
 |some x=>some (x,h, .none)
 |none=>none
def Av(h:aqP aq):aqR (AV×In)->aqR (AV×aqP aq×In)
 |some (x,i)=>some (x,h,i)
 |none=>none
mutual
def AV.nrm:AV->AV
 | .full xs=> .d (.sl xs)
 | .d (.v (.slice none 0 0))=> .d (.sl [])
 | .agg cs=> .agg (AV.yx cs)
 | .bj cs=> .bj (AV.yx cs)
 |x=>x
def AV.yx:aqP AV->aqP AV
 |[]=>[]
 |x::l=>x.nrm::AV.yx l
end
def AV.FE:AV->AV
 | .fn f cs=>match AV.xz cs with
   |some l=> .hid (.fn f l)
   |none=> .fn f cs
 |x=>x
def AV.arg(x:AV):AV:=((x.bx 0).nrm).FE
def AV.yE(x:AV):AV:=(x.bx 0).nrm
def sdI:Sd->In
 | .no=> .none
 |p=> .sd p
def xR:aqR (AV×aqP aq×Sd)->aqR (AV×aqP aq×In)
 |some (x,h,p)=>some (x,h,sdI p)
 |none=>none
def uw(P:aqS)(op:Op)(ρ:Operand->AV)(h:aqP aq)(a:cg):aqR (AV×aqP aq×In):=
 match op with
 | .move x| .assign x=>some (ρ x,h, .none)
 | .pick c x y=>match a with
   | .bit b=>some (bif b then ρ x else ρ y,h, .bit (ρ c))
   |_=>none
 | .alloc e=>match iQ P e with
   |some z=>some (.ptr h.length 0,h++[aq.cells (z.cells.toList.map λu=> .d (.v u))], .none)
   |none=>none
 | .box _ x=>bif (ρ x).jN then some (.ptr h.length 0,h++[aq.cells (ρ x).cells], .none)else none
 | .load t p=>match yn h (ρ p)with
   |some (cs,off)=>match Al P t cs off with
    |some x=>some (x,h, .none)
    |none=>none
   |none=>none
 | .store t p x=>match ρ p with
   | .ptr n off=>match h[n]? with
     |some (.cells cs)=>match gx P t with
      |some k=>bif k==(ρ x).cells.length&&(ρ x).jN&&ct (off+(ρ x).cells.length) cs.length then some (.d (.v undef),h.set n (.cells (ji cs off (ρ x).cells)), .none)else none
      |none=>none
     |_=>none
   |_=>none
 | .nilCheck x=>match ρ x with
   | .ptr n off=>some (.ptr n off,h, .none)
   | .bk xs i off=>some (.bk xs i off,h, .none)
   | .fn f cs=>some (.fn f cs,h, .none)
   |_=>none
 | .fieldAddr S x f=>match th P S f with
   |some (fo,_,_)=>match ρ x with
    | .ptr n off=>some (.ptr n (off+fo),h, .none)
    | .bk xs i off=>some (.bk xs i (off+fo),h, .none)
    |_=>none
   |none=>none
 | .field T x f=>H0 h (HA P T (ρ x) f)
 | .indexAddr T x i=>Av h (P2 P T (ρ x) (ρ i) a)
 | .index T x i=>match ρ x,(ρ i).int?,a with
   | .d (.v (.string b)),some z, .byte c=>bif iD P T then some (.d (.v (.int .u8 c.toNat)),h, .ch b z)else none
   |_,_,_=>none
 | .build T ps=>H0 h (SB P T (ps.toList.map λp=>(p.1,ρ p.2)))
 | .buildSlice T len ps=>H0 h (SL P T len (ps.toList.map λp=>(p.1,ρ p.2)))
 | .slice T x lo hi mx=>Av h (Ph P T ρ (ρ x) lo hi mx a)
 | .extract x i=>match ρ x with
   | .bj cs=>match cs[i]? with
     |some c=>some (c,h, .none)
     |none=>none
   |_=>none
 | .makeFunc (.func f) first db=>match QA f (first.toList.map ρ) (db.toList.map ρ)with
   |some x=>some (x,h, .none)
   |none=>none
 | .binOp op T x y _=>Av h (Jf P T op (ρ x) (ρ y))
 | .unOp op _ x=>match ρ x with
   | .d (.v u)=>match J4 op u with
     |some v=>some (.d (.v v),h, .none)
     |none=>none
   |_=>none
 | .convert s t x=>Av h (Ib P s t (ρ x) a)
 | .call c=>match c.callee with
   | .builtin .len=>match c.args.toList,c.argTypes.toList with
     |[x],[T]=>Av h (Tp P T (ρ x) a)
     |_,_=>none
   | .builtin .append=>match c.args.toList,c.argTypes.toList with
     |[x,y],[T,U]=>bif (fb P U).isSome then RW P T h (ρ x) (ρ y) a else none
     |_,_=>none
   | .builtin .max=>match Cs true (c.args.toList.map ρ)with
     |some (k,a)=>some (.d (.v (.int k a)),h, .none)
     |none=>none
   | .builtin .min=>match Cs false (c.args.toList.map ρ)with
     |some (k,a)=>some (.d (.v (.int k a)),h, .none)
     |none=>none
   | .value f=>match ρ f,a with
     | .fn g db, .ret r=>bif ((c.args.toList.map ρ++db).map AV.arg).all (AV.aE 0)&&r.aE 0 then some (r,h, .call g ((c.args.toList.map ρ++db).map AV.arg))else none
     | .fn g db, .R8 r h'=>some (r,h', .jR g (c.args.toList.map ρ++db) h)
     | .fn g db, .Ta l _ _ r H'=>some (r.aM (rn l h.length),ig l (H'.map (aq.aM (rn l h.length))) h, .oB g ((c.args.toList.map ρ++db).map AV.yE) h)
     | .fn g db, .Dl l _ _ r H'=>some (r.aM (rn l h.length),ig l (H'.map (aq.rB (rn l h.length))) h, .oB g ((c.args.toList.map ρ++db).map AV.yE) h)
     | .fn g db, .rq l _ _ r=>some (r.aM (rn l 0),h, .oB g ((c.args.toList.map ρ++db).map AV.yE) h)
     | .hid q, .ret r=>bif ((c.args.toList.map ρ).map AV.arg).all (AV.aE 0)&&r.aE 0 then some (r,h, .G7 q ((c.args.toList.map ρ).map AV.arg))else none
     |_,_=>none
   |_=>none
 |op=>xR (qF P op ρ h)
theorem LO:∀l,AV.yx l=l.map AV.nrm
 |[]=>by simp [AV.yx]
 |x::l=>by simp [AV.yx,LO l]
theorem aH.nrm{G:Gh}{w:aqU}{u:aqT}{x:AV}(h:aH G w u x):aH G w u x.nrm:=by
 have fM:∀(vs:Array aqT)(cs:aqP AV),(∀(i:Nat)(u:aqT)(c:AV),vs[i]?=some u->cs[i]?=some c->aH G w u c.nrm)->∀(i:Nat)(u:aqT)(c:AV),vs[i]?=some u->(AV.yx cs)[i]?=some c->aH G w u c:=by
  intro vs cs ih i u c hu hc;rw[LO,ap8]at hc;cases hx:cs[i]? with
  |none=>rw[hx]at hc;cases hc
  |some x=>rw[hx]at hc;cases hc;exact ih i u x hu hx
 induction h with
 |agg vs cs hl _ ih=>rw[AV.nrm];exact .agg vs _ (by rw[LO,ap6];exact hl) (fM vs cs ih)
 |bj vs cs hl _ ih=>rw[AV.nrm];exact .bj vs _ (by rw[LO,ap6];exact hl) (fM vs cs ih)
 |full xs hp hf=>rw[AV.nrm];exact .d hp
 | @d u x h=>
   by_cases hx:x= .v (.slice none 0 0)
   ·subst hx;cases h with|v=>simp only[AV.nrm];exact .d Fe
   ·have:(AV.d x).nrm= .d x:=by
     unfold AV.nrm;split<;>simp_all
    rw[this];exact .d h
 |own n xs h hp hle hf=>simp only[AV.nrm];exact .own n xs h hp hle hf
 |ptr n off h=>simp only[AV.nrm];exact .ptr n off h
 |bk xs i off b o u x hx hS hu=>simp only[AV.nrm];exact .bk xs i off b o u x hx hS hu
 |row n off len cap k h hl hm=>simp only[AV.nrm];exact .row n off len cap k h hl hm
 |fn f vs cs hl h=>simp only[AV.nrm];exact .fn f vs cs hl h
 |mp n h=>simp only[AV.nrm];exact .mp n h
 |cr n h=>simp only[AV.nrm];exact .cr n h
 |vec n o len L k h hs hL hf=>simp only[AV.nrm];exact .vec n o len L k h hs hL hf
 |dB n i j L k h hs hL hf=>simp only[AV.nrm];exact .dB n i j L k h hs hL hf
 |hid h J=>simp only[AV.nrm];exact .hid h J
 |dead u=>simp only[AV.nrm];exact .dead u
theorem AV.Le.FE(x:AV):AV.Le x x.FE:=λG w u h=>by
 unfold AV.FE;split
 ·next f cs=>
  split
  ·next l e=>
   have:=h.cap (.fn f l) (by simp only[AV.cap,e]);cases h with|fn=>exact .hid this rfl
  ·exact h
 ·exact h
theorem AV.Le.arg(x:AV):AV.Le x x.arg:=λ_ _ _ h=>AV.Le.FE _ _ _ _ (h.bx 0).nrm
theorem cV.args{P:aqS}{f:FuncId}{as:aqP AV}{h:aqP aq}{K:AV->aqP aq->Prop}(hc:cV P f as h K)(bs:aqP AV)(hl:as.length=bs.length)(hle:∀(i:Nat)(c d:AV),bs[i]?=some c->as[i]?=some d->AV.Le c d):cV P f bs h K:=
 ⟨hc.1,λG w vs hi hs hr=>hc.2 G w vs hi (hs.trans hl.symm) λi u d hu hd=>by
  have aN:i<bs.length:=by rw[<-hl];exact(ap1.1 hd).1
  exact hle i _ d (ap5 aN) hd G w u (hr i u _ hu (ap5 aN))⟩
theorem cV.ack{P:aqS}{f:FuncId}{as:aqP AV}{h:aqP aq}{K:AV->aqP aq->Prop}(hc:cV P f (as.map AV.arg) h K):cV P f as h K:=
 hc.args as (by rw[ap6]) λi c d hc hd=>by
  rw[ap8,hc]at hd;cases hd;exact AV.Le.arg c
theorem AV.Le.yE(x:AV):AV.Le x x.yE:=λ_ _ _ h=>(h.bx 0).nrm
theorem cV.Mm{P:aqS}{f:FuncId}{as:aqP AV}{h:aqP aq}{K:AV->aqP aq->Prop}(hc:cV P f (as.map AV.yE) h K):cV P f as h K:=
 hc.args as (by rw[ap6]) λi c d hc hd=>by
  rw[ap8,hc]at hd;cases hd;exact AV.Le.yE c
theorem aaB(l:aqP fA):(l.map fA.av).all (AV.aE 0)=true:=by
 rw[aqr];intro x hx;obtain⟨c,_,rfl⟩:=List.mem_map.1 hx;cases c<;>rfl
theorem PR.use{P:aqS}{q:fA}{args:aqP AV}{r:AV}{h:aqP aq}{C:AV->aqP aq->Prop}(hc:PR P q (args.map AV.arg) r)(ha:(args.map AV.arg).all (AV.aE 0)=true)(hr:r.aE 0=true)(hC:C r h):∃g as,q.app args=some (g,as)/\cV P g as h C:=by
 obtain⟨g,as,e,hc⟩:=hc;cases q with
 |d x=>simp [fA.app]at e
 |bk c off=>simp [fA.app]at e
 |fn g' cs=>
  simp only[fA.app,Option.some.injEq,Prod.mk.injEq]at e;obtain⟨rfl,rfl⟩:=e;refine⟨g',_,rfl,cV.args (hc.use (h:=h) (C:=C) (by rw[List.all_append,ha,aaB];rfl) hr hC) _ (by simp) λi c d J h2=> ?_⟩;by_cases hi:i<args.length
  ·rw[aqb hi]at J;rw[aqb (by simpa using hi),ap8,J]at h2;cases h2;exact AV.Le.arg c
  ·rw[aqh (by omega)]at J;rw[aqh (by simpa using hi),ap6,J]at h2;cases h2;exact AV.Le.refl c
 |ou g' cs=>
  simp only[fA.app,Option.some.injEq,Prod.mk.injEq]at e;obtain⟨rfl,rfl⟩:=e;refine⟨g',_,rfl,cV.args (hc.use (h:=h) (C:=C) (by rw[List.all_append,ha,aaB];rfl) hr hC) _ (by simp) λi c d J h2=> ?_⟩;by_cases hi:i<(cs.map fA.av).length
  ·rw[aqb hi]at J h2;rw[J]at h2;cases h2;exact AV.Le.refl c
  ·rw[aqh (by omega)]at J h2;rw[ap8,J]at h2;cases h2;exact AV.Le.arg c
theorem eD{α:Type}{b:Bool}{x y:α}(h:(bif b then some x else none)=some y):b=true/\x=y:=by
 cases b with
 |true=>exact⟨rfl,aqk h⟩
 |false=>cases h
theorem lx{α:Type}{b:Bool}{x:aqR α}{y:α}(h:(bif b then x else none)=some y):b=true/\x=some y:=by
 cases b with
 |true=>exact⟨rfl,h⟩
 |false=>cases h
section
variable {P:aqS} {ρ:Operand->AV} {h h':aqP aq} {a:cg} {i:In} {x:AV} {C:AV->aqP aq->Prop}
theorem OK.HB{x:AV}{b:Bool}(h:OK P (.bit x) (.bit b)):x= .d (.v (.bool b)):=by
 cases h with|bit h=>subst h;rfl
theorem RS{t:TypeId}{p:AV}{cs:aqP AV}{off:Nat}{K:AV->Prop}(J:yn h p=some (cs,off))(h2:Al P t cs off=some x)(hK:K x):oO P t h p K:=by
 have key:(match mJ P t,gx P t with
     |some true,some k=>fQ (ct (off+k) cs.length) (K (.agg ((cs.drop off).take k)))
     |some false,some _=>match cs[off]? with
      |some c=>K c
      |none=>False
     |_,_=>False):=by
  unfold Al at h2;split at h2
  ·next k e1 e2=>
   obtain⟨h3,rfl⟩:=eD h2;exact bX.2 ⟨h3,hK⟩
  ·next k e1 e2=>rw[h2];exact hK
  ·cases h2
 unfold oO tG;unfold yn at J;split at J
 ·split at J
  ·next cC e=>cases J;simp only[e];exact key
  ·cases J
 ·split at J
  ·next c e=>cases J;simp only[e];exact key
  ·cases J
 ·cases J
theorem amB{y:AV}{z:aqR Int}{k:Nat}(J:S0 y z k a=some (x,i))(cd:OK P i a):∃xs w c,y.fW=some xs/\z=some w/\0<=w/\xs[w.toNat]?=some c/\c.length=k/\x= .bk [c] 0 0:=by
 unfold S0 at J;split at J
 ·next xs w c hx=>
  obtain⟨hk,he⟩:=eD J;cases he
  cases cd with
  |el h0 hc=>exact⟨_,_,_,hx,rfl,h0,hc,by simpa using hk,rfl⟩
 ·cases J
theorem ans{T:TypeId}{y z:AV}{K:AV->Prop}(J:P2 P T y z a=some (x,i))(cd:OK P i a)(hK:K x):ua P T y z K:=by
 unfold P2 at J;unfold ua;cases hT:fb P T with
 |some p=>
  obtain⟨e,k⟩:=p;simp only[hT]at J ⊢;cases y with
  |row n off len cap k'=>
   simp only at J ⊢;split at J
   ·next w hw=>
    obtain⟨hk,he⟩:=eD J;cases he
    cases cd with|lt h0 hl=>simp only[hw];exact bX.2 ⟨hk,h0,hl,hK⟩
   ·cases J
  |_=>
   obtain⟨xs,w,c,e1,e2,e3,e4,e5,rfl⟩:=amB J cd;simp only[e1,e2,e4,e5];exact⟨e3,trivial,hK⟩
 |none=>
  simp only[hT]at J ⊢;split at J
  ·next n e k b off w hA hw=>
   cases J
   simp only[hA,hw];cases cd with|lt h0 hl=>exact⟨h0,hl,hK⟩
  ·next n e k c w hA hw=>
   split at J
   ·next d=>
    obtain⟨hb,he⟩:=eD J;cases he;simp only[hA,hw];cases cd with|M7 h0 hl h=>exact bX.2 ⟨hb,h0,hl,by simp only[List.getElem?_cons_zero,aql,h];exact hK⟩
   ·cases J
  ·cases J
theorem ae2{T:TypeId}{y:AV}{K:Nat->Prop}{C:AV->Prop}(J:Tp P T y a=some (x,i))(cd:OK P i a)(hK:C x)(hc:∀n:Nat,C (.d (.v (.int .i64 n)))->K n):sZ P T y K:=by
 unfold Tp at J;unfold sZ;split at J
 ·obtain⟨hb,he⟩:=eD J;cases he;exact bX.2 ⟨hb,hc _ hK⟩
 ·obtain⟨hb,he⟩:=eD J;cases he;exact bX.2 ⟨hb,hc _ hK⟩
 ·next n1 n2=>
  split at J
  ·next xs n hx=>
   obtain⟨hb,he⟩:=eD J;cases he;cases cd with
   |len hl=>
    subst hl;split
    ·next s=>exact absurd rfl (n1 s)
    ·next a b c d e=>exact absurd rfl (n2 a b c d e)
    ·simp only[hx];exact bX.2 ⟨hb,hc _ hK⟩
  ·cases J
theorem agG{y:aqR Operand}{l:aqR Int}(J:EE ρ y=some l):(y=none/\l=none)\/∃o z,y=some o/\l=some z/\(ρ o).int?=some z:=by
 unfold EE at J;cases y with
 |none=>cases J;exact .inl ⟨rfl,rfl⟩
 |some o=>
  simp only at J;split at J
  ·next z hz=>cases J;exact .inr ⟨o,z,rfl,rfl,hz⟩
  ·cases J
theorem vt{y:aqR Operand}{l:aqR Int}{d:Nat}{K:Nat->Prop}(J:EE ρ y=some l)(h0:∀z,l=some z->0<=z)(hK:K (oN l d)):ky ρ y d K:=by
 rcases agG J with⟨rfl,rfl⟩|⟨o,z,rfl,rfl,hz⟩
 ·exact hK
 ·simp only[ky,hz];exact⟨h0 z rfl,hK⟩
theorem alj{T:TypeId}{y:AV}{lo hi mx:aqR Operand}{K:AV->Prop}(J:Ph P T ρ y lo hi mx a=some (x,i))(cd:OK P i a)(hK:K x):vf P T ρ y lo hi mx K:=by
 unfold Ph at J;unfold vf;split at J
 ·split at J
  ·next l hh hl rf=>
   split at J
   ·next b=>
    obtain⟨hb,he⟩:=eD J;cases he;cases cd with
    |str h0 h2 h3 h4=>
     refine bX.2 ⟨hb,vt rf (λz e=>by subst e;exact h3) ?_⟩;have e1:oN hh b.size=(hh.getD b.size).toNat:=by cases hh<;>simp [oN]
     have e2:oN l 0=(l.getD 0).toNat:=by cases l<;>simp [oN]
     rw[e1];refine⟨h4,vt hl (λz e=>by subst e;exact h0) ?_⟩;rw[e2];rw[e1,e2]at hK;exact⟨h2,hK⟩
   ·next n off=>
    split at J
    ·next m e k hT=>
     obtain⟨hb,he⟩:=eD J;cases he;simp only[hT];generalize ct m 4096=q at hb ⊢;rw[ap3]at hb;refine bX.2 ⟨hb.1,vt rf (λz e=>by cases e) (bX.2 ⟨dh.2 (aqc _),vt hl (λz e=>by cases e) (bX.2 ⟨?_,?_⟩)⟩)⟩
     ·rw[ap3];exact⟨dh.2 (Nat.zero_le _),hb.2⟩
     ·show K (.row n (off+0*k) (m-0) (m-0) k);rw[Nat.zero_mul,Nat.add_zero,Nat.sub_zero];exact hK
    ·cases J
   ·next xd kM=>
    split at J
    ·next xs e k ys hx hT=>
     cases J
     dsimp only;split
     ·next b=>exact absurd rfl (xd b)
     ·next n off=>exact absurd rfl (kM n off)
     ·simp only[hx,hT];cases hh with
      |none=>
       cases cd with
       |PB h0 h2 hk he=>
        refine⟨hk,vt rf (λz e=>by cases e) ⟨aqc _,vt hl (λz e=>by subst e;exact h0) ?_⟩⟩;have e2:oN l 0=(l.getD 0).toNat:=by cases l<;>simp [oN]
        rw[e2];refine⟨h2,?_⟩;rw[show oN none xs.length=xs.length from rfl,List.take_length,he];exact hK
      |some z=>
       cases cd with
       |sub h0 h2 h3 h4 hk he=>
        refine⟨hk,vt rf (λz e=>by cases e;exact h3) ⟨h4,vt hl (λz e=>by subst e;exact h0) ?_⟩⟩;have e2:oN l 0=(l.getD 0).toNat:=by cases l<;>simp [oN]
        rw[e2];refine⟨h2,?_⟩;rw[show oN (some z) xs.length=z.toNat from rfl,he];exact hK
    ·cases J
  ·cases J
 ·split at J
  ·next m _ _ y' _ hm=>
   split at J
   ·next xs e k _ _ ys hx hT hy=>
    cases J
    cases cd with
    |sub h0 h2 h3 h4 hk he=>
     simp only[hx,hT];refine⟨hk,?_⟩;simp only[ky,hm,hy,AV.int?];refine⟨Int.le_refl _,Nat.zero_le _,Int.le_refl _,?_,by simpa using hK⟩;first|rfl|trivial
   ·cases J
  ·cases J
theorem TD{k:Nat}{y:AV}{ys:aqP (aqP D)}{K:aqP (aqP D)->Prop}(J:ML h k y=some ys)(hy:∀c∈ys,c.length=k)(hK:K ys):uy h k y K:=by
 unfold ML at J;unfold uy;split at J
 ·split at J
  ·next cs e=>
   split at J
   ·next ds e2=>
    obtain⟨hb,rfl⟩:=eD J;simp only[e,e2];exact bX.2 ⟨hb,hK⟩
   ·cases J
  ·cases J
 ·next hn=>
  split
  ·next n off len cap k'=>exact absurd rfl (hn n off len cap k')
  ·simp only[J];exact⟨hy,hK⟩
theorem am5{T:TypeId}{y z:AV}(J:RW P T h y z a=some (x,h',i))(cd:OK P i a)(hC:C x h'):ue P T h y z C:=by
 unfold RW at J;unfold ue;split at J
 ·next e k zs n' hT=>
  simp only[hT];split at J
  ·next zv c6 hz qQ=>
   simp only[hz,qQ];obtain⟨hb,J⟩:=lx J;refine bX.2 ⟨hb,?_⟩;split at J
   ·next ys jW=>
    split at J
    ·next n xs=>
     split at J
     ·next e' k' len hn=>
      obtain⟨hc,he⟩:=eD J;cases he;cases cd with
      |app hl hx hy hm nk j6 Db=>
       subst j6;subst Db;refine TD jW hy ?_;simp only[hn];exact bX.2 ⟨hc,hl,hx,hm,nk,hC⟩
     ·cases J
    ·cases J
     cases cd with
     |app hl hx hy hm nk j6 Db=>
      subst j6;subst Db;refine TD jW hy ?_;simp only[List.nil_append,aqd,aql]at hC hm nk ⊢;exact⟨hm,nk,hC⟩
    ·cases J
     cases cd with
     |app hl hx hy hm nk j6 Db=>
      subst j6;subst Db;exact TD jW hy ⟨hx,hm,nk,hC⟩
    ·cases J
   ·cases J
  ·cases J
 ·cases J
theorem ahQ{T:TypeId}{ps:aqP (Nat×AV)}{K:AV->Prop}(J:SB P T ps=some x)(hK:K x):yU P T ps K:=by
 unfold SB at J;unfold yU;split at J
 ·next pl z e1 e2=>
  simp only[e1,e2];split at J
  ·next cs e3=>obtain⟨hb,rfl⟩:=eD J;simp only[e3];exact bX.2 ⟨hb,hK⟩
  ·cases J
 ·cases J
theorem aou{T:TypeId}{len:Nat}{ps:aqP (Nat×AV)}{K:AV->Prop}(J:SL P T len ps=some x)(hK:K x):xc P T len ps K:=by
 unfold SL at J;unfold xc;split at J
 ·next e k hT=>
  simp only[hT];split at J
  ·next z hz=>
   simp only[hz];split at J
   ·next cs gX=>
    simp only[gX];split at J
    ·next ds sq=>obtain⟨hb,rfl⟩:=eD J;simp only[sq];exact bX.2 ⟨hb,hK⟩
    ·cases J
   ·cases J
  ·cases J
 ·cases J
theorem aaa{T:TypeId}{op:BinOp}{y z:AV}{K:AV->Prop}(J:Jf P T op y z=some (x,i))(cd:OK P i a)(hK:K x):xI P T op y z K:=by
 unfold Jf at J;unfold xI;split at J
 ·split at J
  ·next v e=>
   obtain⟨hb,he⟩:=eD J;cases he;cases cd with|nz h0=>simp only[e];exact bX.2 ⟨hb,h0,hK⟩
  ·next e=>
   simp only[e];split at J
   ·next v e2=>
    cases J
    cases cd with|nn h0=>simp only[e2];exact⟨h0,hK⟩
   ·next e2=>
    simp only[e2];split at J
    ·next v e3=>obtain⟨hb,he⟩:=eD J;cases he;simp only[e3];exact bX.2 ⟨hb,hK⟩
    ·cases J
 ·split at J
  ·next v e=>cases J;simp only[e];exact hK
  ·next e=>
   simp only[e];split at J
   ·cases J;cases cd with|cat h=>exact⟨h,hK⟩
   ·cases J
 ·split at J
  ·next v e=>obtain⟨hb,he⟩:=eD J;cases he;simp only[e];exact bX.2 ⟨hb,hK⟩
  ·cases J
 ·split at J
  ·next b e=>
   simp only[e];split at J
   ·next v e2=>cases J;simp only[e2];exact hK
   ·cases J
  ·cases J
 ·cases J
theorem ahR{s t:TypeId}{y:AV}{K:AV->Prop}(J:Ib P s t y a=some (x,i))(cd:OK P i a)(hK:K x):xq P s t y K:=by
 unfold Ib at J;unfold xq;split at J
 ·split at J
  ·next e1 e2=>cases J;simp only[e1,e2];exact hK
  ·cases J
 ·obtain⟨hb,he⟩:=eD J;cases he;exact bX.2 ⟨hb,hK⟩
 ·next h8 h9=>
  split at J
  ·next xs e k s' e1 e2=>
   obtain⟨hb,he⟩:=eD J;cases he;cases cd with
   |iP h=>
    obtain⟨ns,k1,k2⟩:=h;subst k2;split
    ·next k' n=>exact absurd rfl (h8 k' n)
    ·next b'=>exact absurd rfl (h9 b')
    ·simp only[e1,e2];exact bX.2 ⟨hb,ns,k1,hK⟩
  ·cases J
theorem Zh{T:TypeId}{y:AV}{f:Nat}{K:AV->Prop}(J:HA P T y f=some x)(hK:K x):yK P T y f K:=by
 unfold HA at J;unfold yK;split at J
 ·next e=>obtain⟨hb,rfl⟩:=eD J;simp only[e];exact bX.2 ⟨hb,hK⟩
 ·next e=>simp only[e,J];exact hK
 ·cases J
theorem Rz{y:aqR AV}(J:H0 h y=some (x,h',i)):y=some x/\h'=h:=by
 cases y with
 |none=>cases J
 |some y=>cases J;exact⟨rfl,rfl⟩
theorem Ej{y:aqR (AV×In)}(J:Av h y=some (x,h',i)):y=some (x,i)/\h'=h:=by
 cases y with
 |none=>cases J
 |some y=>cases J;exact⟨rfl,rfl⟩
theorem AY{o:Oper}(J:uw P o.op ρ h a=some (x,h',i))(cd:OK P i a)(hC:C x h'):cQ P o ρ h C:=by
 obtain⟨dst,op,type,pos,after,guard⟩:=o;simp only at J;unfold uw at J;unfold cQ;split at J
 ·cases J;exact hC
 ·cases J;exact hC
 ·next c y z=>
  split at J
  ·next b=>
   cases J
   simp only[OK.HB cd];cases b<;>simp_all
  ·cases J
 ·split at J
  ·next z e=>cases J;simp only[e];exact hC
  ·cases J
 ·obtain⟨hb,he⟩:=eD J;cases he;exact bX.2 ⟨hb,hC⟩
 ·split at J
  ·next cs off e=>
   split at J
   ·next y e2=>cases J;exact RS e e2 hC
   ·cases J
  ·cases J
 ·split at J
  ·next n off e=>
   split at J
   ·next cs e2=>
    split at J
    ·next k e3=>obtain⟨hb,he⟩:=eD J;cases he;simp only[e,xP,e2,e3];exact bX.2 ⟨hb,hC⟩
    ·cases J
   ·cases J
  ·cases J
 ·split at J
  ·next e=>cases J;simp only[e];exact hC
  ·next e=>cases J;simp only[e];exact hC
  ·next e=>cases J;simp only[e];exact hC
  ·cases J
 ·split at J
  ·next e=>
   simp only[e];split at J
   ·next e2=>cases J;simp only[e2];exact hC
   ·next e2=>cases J;simp only[e2];exact hC
   ·cases J
  ·cases J
 ·obtain⟨e,rfl⟩:=Rz J;exact Zh e hC
 ·obtain⟨e,rfl⟩:=Ej J;exact ans e cd hC
 ·split at J
  ·next b z c e1 e2=>
   obtain⟨hb,he⟩:=eD J;cases he;cases cd with
   |ch h0 hc=>simp only[e1,e2];refine bX.2 ⟨hb,h0,?_⟩;simp only[hc];exact hC
  ·cases J
 ·obtain⟨e,rfl⟩:=Rz J;exact ahQ e hC
 ·obtain⟨e,rfl⟩:=Rz J;exact aou e hC
 ·obtain⟨e,rfl⟩:=Ej J;exact alj e cd hC
 ·split at J
  ·next e=>
   split at J
   ·next e2=>cases J;simp only[e,e2];exact hC
   ·cases J
  ·cases J
 ·split at J
  ·next e=>cases J;simp only[e];exact hC
  ·cases J
 ·obtain⟨e,rfl⟩:=Ej J;exact aaa e cd hC
 ·unfold xB;split at J
  ·next e=>
   split at J
   ·next e2=>cases J;simp only[e,e2];exact hC
   ·cases J
  ·cases J
 ·obtain⟨e,rfl⟩:=Ej J;exact ahR e cd hC
 ·next c=>
  split at J
  ·next hc=>
   simp only[hc];split at J
   ·next e1 e2=>obtain⟨e,rfl⟩:=Ej J;simp only[e1,e2];exact ae2 (C:=λx=>C x _) e cd hC (λn hn=>hn)
   ·cases J
  ·next hc=>
   simp only[hc];split at J
   ·next e1 e2=>obtain⟨hb,J⟩:=lx J;simp only[e1,e2];exact bX.2 ⟨hb,am5 J cd hC⟩
   ·cases J
  ·next hc=>
   simp only[hc];split at J
   ·next e1=>cases J;simp only[e1];exact hC
   ·cases J
  ·next hc=>
   simp only[hc];split at J
   ·next e1=>cases J;simp only[e1];exact hC
   ·cases J
  ·next f hc=>
   simp only[hc];split at J
   ·next g db r e=>
    obtain⟨hb,he⟩:=eD J;cases he;simp only[ap3]at hb;simp only[e];cases cd with|call jR=>exact(jR.use hb.1 hb.2 hC).ack
   ·next g db r h2 e=>
    cases J
    simp only[e];cases cd with|jR jR=>exact jR.mono λr1 J ⟨e1,e2⟩=>by subst e1;subst e2;exact hC
   ·next g db l fc H r H' e=>
    cases J
    simp only[e];cases cd with|oB ha hd hb hl hc=>exact(ha▸(hc.oB hd hb hl).mono λr1 J ⟨e1,e2⟩=>by subst e1;subst e2;exact hC:cV P g _ _ _).Mm
   ·next g db l fc H r H' e=>
    cases J
    simp only[e];cases cd with|Nw vG hv ha hd hb hl hc=>exact(ha▸(hc.oB hd (by rw[hb,ah3 vG]) (by rw[ap3]at hl ⊢;exact⟨hl.1,aeq vG hl.2⟩)).mono λr1 J ⟨e1,e2⟩=>by subst e1;subst e2;rw[<-anB hv];exact hC:cV P g _ _ _).Mm
   ·next g db l fc H r e=>
    cases J
    simp only[e];cases cd with|rq ha hd hb hl hc=>exact(ha▸(by have:=hc.rq hd hb hl [];rw[aqm]at this;exact this.mono λr1 J ⟨e1,e2⟩=>by subst e1;subst e2;exact hC):cV P g _ _ _).Mm
   ·next q r e=>
    obtain⟨hb,he⟩:=eD J;cases he;simp only[ap3]at hb;simp only[e];cases cd with|G7 hq=>exact hq.use hb.1 hb.2 hC
   ·cases J
  ·cases J
 ·next op _=>
  unfold xR at J;split at J
  ·next y h2 p e=>
   cases J
   simp only[e];refine⟨?_,hC⟩;cases p with
   |no=>trivial
   |lt n=>cases cd with|sd h=>exact h
  ·cases J
end
def jh:aqP (Nat×cg)->Nat->cg
 |[],_=> .none
 |(k,x)::l,i=>bif k==i then x else jh l i
def vB(i:In)(a:cg)(r:aqR (St×aqP (In×cg))):aqR (St×aqP (In×cg)):=
 match i with
 | .none=>r
 |i=>match r with
  |some (s,l)=>some (s,(i,a)::l)
  |none=>none
def BE:cg->Bool
 | .R8 .. | .Ta .. | .Dl .. =>true
 |_=>false
def zu(o:Oper):cg->Bool
 | .Dl [] .. =>cx o==6
 |_=>false
def C8(P:aqS)(dr vk:Bool)(op:Op)(ρ:Operand->AV)(h:aqP aq)(a:cg):aqR (AV×aqP aq×In):=
 match a with
 | .va va=>bif dr&& !vk then none else match iF P op ρ h va with
   |some (x,h',p)=>some (x,h', .pr p)
   |none=>none
 |a=>uw P op ρ h a
def nT(P:aqS)(dr:Bool)(o:Oper)(j:Nat)(as:aqP (Nat×cg))(s:St):aqR (St×aqP (In×cg)):=
 bif dr&&BE (jh as (3*j+1))&& !zu o (jh as (3*j+1))then none else
 match C8 P dr (jO o) o.op (ev s) s.h (jh as (3*j+1))with
 |some (x,h',i)=>match jh as (3*j+2)with
  | .eq y=>vB i (jh as (3*j+1)) (some ((s.wh h').put o.dst y,[(.eq x, .eq y)]))
  |_=>vB i (jh as (3*j+1)) (some ((s.wh h').put o.dst x,[]))
 |none=>none
def C1(o:Oper)(s:St):St:=s.put o.dst (.d (.v undef))
def rT(l:aqP (In×cg)):aqR (St×aqP (In×cg))->aqR (St×aqP (In×cg))
 |some (s,m)=>some (s,l++m)
 |none=>none
def nZ(P:aqS)(ops:Array Oper)(dr:Bool)(o:Oper)(j:Nat)(as:aqP (Nat×cg))(s:St):aqR (St×aqP (In×cg)):=
 match o.guard with
 |none=>nT P dr o j as s
 |some (g,want)=>match jh as (3*j)with
  | .bit b=>rT [(.bit (vE ops g s.t), .bit b)] (bif b==want then nT P dr o j as s else some (C1 o s,[]))
  | .CM=>rT [(.bit (vE ops g s.t), .CM)] (some (C1 o s,[]))
  |_=>none
def o8(P:aqS)(ops:Array Oper)(dr:Bool):aqP Oper->Nat->aqP (Nat×cg)->St->aqR (St×aqP (In×cg))
 |[],_,_,s=>some (s,[])
 |o::rest,j,as,s=>match nZ P ops dr o j as s with
  |some (s1,l)=>rT l (o8 P ops dr rest (j+1) as s1)
  |none=>none
def gr(P:aqS)(l:aqP (In×cg)):Prop:=∀p∈l,OK P p.1 p.2
section
variable {P:aqS} {ops:Array Oper} {dr:Bool} {o:Oper} {j:Nat} {as:aqP (Nat×cg)} {s s1:St} {l:aqP (In×cg)} {K:St->Prop}
theorem Ng{i:In}{a:cg}{r:aqR (St×aqP (In×cg))}(h:vB i a r=some (s1,l))(cd:gr P l):∃m,r=some (s1,m)/\gr P m/\OK P i a:=by
 unfold vB at h;split at h
 ·exact⟨l,h,cd, .none⟩
 ·split at h
  ·next s2 m=>
   cases h
   exact⟨m,rfl,λp hp=>cd p (aqa _ hp),cd (i,a) ap7⟩
  ·cases h
theorem Bq{r:aqR (St×aqP (In×cg))}{m:aqP (In×cg)}(h:rT m r=some (s1,l))(cd:gr P l):∃n,r=some (s1,n)/\gr P n/\gr P m:=by
 unfold rT at h;split at h
 ·next s2 n=>
  cases h
  exact⟨n,rfl,λp hp=>cd p (List.mem_append_right _ hp),λp hp=>cd p (List.mem_append_left _ hp)⟩
 ·cases h
def MD(P:aqS)(dr:Bool)(o:Oper)(K:St->Prop)(s:St):Prop:=bif dr then VR P o K s else pf P o K s
theorem aow{x:AV}{h':aqP aq}{i:In}{a:cg}(J:uw P o.op (ev s) s.h a=some (x,h',i))(cd:OK P i a)(hh:BE a=false)(hK:K ((s.wh h').put o.dst x)):VR P o K s:=by
 refine .inl ?_;unfold Cp;split
 ·next c ia=>
  split
  ·next f hc=>
   rw[ia]at J;unfold uw at J;simp only[hc]at J;split at J
   ·next g db r e=>
    obtain⟨hb,he⟩:=eD J;cases he;simp only[ap3]at hb;simp only[e];cases cd with
    |call jR=>exact⟨_,hK,λe=>(jR.use hb.1 hb.2 ⟨rfl,rfl⟩).ack⟩
   ·cases hh
   ·cases hh
   ·cases hh
   ·next g db l fc H r e=>
    cases J
    simp only[e];cases cd with|rq ha hd hb hl hc=>exact⟨_,hK,λe=>(ha▸hc.rq hd hb hl e:cV P g _ _ _).Mm⟩
   ·next q r e=>
    obtain⟨hb,he⟩:=eD J;cases he;simp only[ap3]at hb;simp only[e];cases cd with
    |G7 hq=>
     have:=λh=>hq.use (h:=h) (C:=λr' h'=>r'=x/\h'=h) hb.1 hb.2 ⟨rfl,rfl⟩;obtain⟨g,cs,e1,_⟩:=this [];refine⟨g,cs,e1,x,hK,λe=> ?_⟩;obtain⟨g',cC,e2,h9⟩:=this (s.h++e);rw[e1]at e2;cases e2
     exact h9
   ·cases J
  ·exact AY (C:=λx h'=>K ((s.wh h').put o.dst x)) J cd hK
 ·exact AY (C:=λx h'=>K ((s.wh h').put o.dst x)) J cd hK
theorem al5{o:Oper}{ρ:Operand->AV}{h h':aqP aq}{fc:aqP AV}{H H':aqP aq}{r x:AV}{i:In}(hk:cx o=6)(hr:uw P o.op ρ h (.Dl [] fc H r H')=some (x,h',i)):h'=h++H'.map (aq.rB (rn [] h.length)):=by
 unfold cx at hk;split at hk
 all_goals first|(cases hk;done)|skip
 next c ia=>
  split at hk
  all_goals first|(cases hk;done)|skip
  next f hc=>
   rw[ia]at hr;unfold uw at hr;simp only[hc]at hr;generalize ρ f=v at hr;cases v<;>first|(cases hr;rfl)|cases hr
theorem TG(h:nT P dr o j as s=some (s1,l))(cd:gr P l)(hK:K s1):MD P dr o K s:=by
 unfold nT at h;cases hd:dr&&BE (jh as (3*j+1))&& !zu o (jh as (3*j+1))with
 |true=>rw[hd]at h;cases h
 |false=>
  rw[hd]at h;simp only[cond_false]at h;split at h
  ·next x h' i hr=>
   have fin:OK P i (jh as (3*j+1))->K ((s.wh h').put o.dst x)->MD P dr o K s:=λJ h2=>by
    unfold MD;cases dr with
    |true=>
     unfold C8 at hr;split at hr
     ·next va e=>
      cases hv:jO o with
      |false=>rw[hv]at hr;cases hr
      |true=>
       rw[hv]at hr;simp only[Bool.not_true,Bool.and_false,cond_false]at hr;split at hr
       ·next x2 TT p e2=>
        cases hr
        rw[e]at J;cases J with|pr _ hp=>exact .inr (.inr (.inl ⟨.inl ⟨hv,rfl⟩,va,x,h',p,e2,hp,h2⟩))
       ·cases hr
     ·by_cases hx:zu o (jh as (3*j+1))=true
      ·refine .inr (.inr (.inr ?_));generalize jh as (3*j+1)=a at hx J hr;unfold zu at hx;split at hx
       ·next fc H r H'=>
        have EW:cx o=6:=by simpa using hx
        have this:h'=s.h++H'.map (aq.rB (rn [] s.h.length)):=al5 EW hr;refine⟨EW,x,H'.map (aq.rB (rn [] s.h.length)),?_,λC hC=> ?_⟩
        ·rw[<-this];exact h2
        ·rw[<-this]at hC;exact AY hr J hC
       ·cases hx
      ·exact aow hr J (by simpa [hx]using hd) h2
    |false=>
     unfold C8 at hr;split at hr
     ·next va e=>
      simp only[Bool.false_and,cond_false]at hr;split at hr
      ·next x2 TT p e2=>
       cases hr
       rw[e]at J;cases J with|pr _ hp=>exact .inl ⟨va,x,h',p,e2,hp,h2⟩
      ·cases hr
     ·exact .inr (.inr (.inl (AY (C:=λx h'=>K ((s.wh h').put o.dst x)) hr J h2)))
   split at h
   ·next y hy=>
    obtain⟨m,e,h2,h3⟩:=Ng h cd;cases e
    have:=h2 (.eq x, .eq y) ap7;cases this with|eq e=>subst e;exact fin h3 hK
   ·obtain⟨m,e,h2,h3⟩:=Ng h cd;cases e
    exact fin h3 hK
  ·cases h
theorem PA(h:nZ P ops dr o j as s=some (s1,l))(cd:gr P l)(hK:K s1):jv ops o s (MD P dr o K s) (K (s.put o.dst (.d (.v undef)))):=by
 unfold nZ at h;split at h
 ·next hg=>unfold jv;rw[hg];exact TG h cd hK
 ·next g want hg=>
  obtain⟨dst,op,ty,pos,after,guard⟩:=o;simp only at hg;subst hg;split at h
  ·next b hb=>
   obtain⟨n,e,h2,h3⟩:=Bq h cd;have h4:=OK.HB (h3 (_,_) ap7);rw[Kv,h4];refine⟨λe2=> ?_,λe2=> ?_⟩
   ·subst e2;simp only[BEq.rfl,cond_true]at e;exact TG e h2 hK
   ·subst e2;have:((!want)==want)=false:=by cases want<;>rfl
    rw[this]at e;simp only[cond_false]at e;cases e
    exact hK
  ·next hb=>
   obtain⟨n,e,h2,h3⟩:=Bq h cd;cases e
   have h4:=h3 (_,_) ap7;have h5:vE ops g s.t= .d (.v undef):=by
    generalize vE ops g s.t=z at h4;cases h4;rfl
   rw[Kv,h5];exact hK
  ·cases h
theorem wL:∀(ol:aqP Oper)(j:Nat)(s:St)(l:aqP (In×cg)),o8 P ops dr ol j as s=some (s1,l)->gr P l->K s1->(bif dr then Da P ops ol K s else s8 P ops ol K s)
 |[],_,s,l,h,_,hK=>by cases h;cases dr<;>exact hK
 |o::rest,j,s,l,h,cd,hK=>by
  unfold o8 at h;split at h
  ·next s2 m hg=>
   obtain⟨n,e,h2,h3⟩:=Bq h cd;have ih:=wL rest (j+1) s2 n e h2 hK;cases dr with
   |true=>exact PA (K:=Da P ops rest K) hg h3 ih
   |false=>exact PA (K:=s8 P ops rest K) hg h3 ih
  ·cases h
theorem N4(s:St)(d:aqR Nat)(x:AV):∃pre,(s.put d x).t=pre++s.t:=by
 cases d with
 |none=>exact⟨[],rfl⟩
 |some k=>
  by_cases hk:k<s.n
  ·exact⟨[(k,x)],by rw[qT hk];rfl⟩
  ·exact⟨[],by rw[Hb hk];rfl⟩
theorem SU(h:nZ P ops dr o j as s=some (s1,l)):(∃pre,s1.t=pre++s.t)/\s1.n=s.n:=by
 have cI:∀{i a r l},vB i a r=some (s1,l)->∃m,r=some (s1,m):=fun{i a r l} h=>by
  unfold vB at h;split at h
  ·exact⟨_,h⟩
  ·split at h
   ·cases h;exact⟨_,rfl⟩
   ·cases h
 have cR:∀{m r l},rT m r=some (s1,l)->∃m,r=some (s1,m):=fun{m r l} h=>by
  unfold rT at h;split at h
  ·cases h;exact⟨_,rfl⟩
  ·cases h
 have st:∀l,nT P dr o j as s=some (s1,l)->(∃pre,s1.t=pre++s.t)/\s1.n=s.n:=λl h=>by
  unfold nT at h;cases hd:dr&&BE (jh as (3*j+1))&& !zu o (jh as (3*j+1))with
  |true=>rw[hd]at h;cases h
  |false=>
   rw[hd]at h;simp only[cond_false]at h;split at h
   ·split at h<;>(obtain⟨m,e⟩:=cI h;cases e;exact⟨N4 _ _ _,by rw[rD];rfl⟩)
   ·cases h
 unfold nZ at h;split at h
 ·exact st _ h
 ·split at h
  ·obtain⟨m,e⟩:=cR h;revert e;generalize ((_:Bool)==_)=q;intro e;cases q with
   |true=>exact st _ e
   |false=>cases e;exact⟨N4 _ _ _,by unfold C1;rw[rD]⟩
  ·obtain⟨m,e⟩:=cR h;cases e;exact⟨N4 _ _ _,by unfold C1;rw[rD]⟩
  ·cases h
theorem OA:∀(ol:aqP Oper)(j:Nat)(s:St)(l:aqP (In×cg)),o8 P ops dr ol j as s=some (s1,l)->(∃pre,s1.t=pre++s.t)/\s1.n=s.n
 |[],_,s,l,h=>by cases h;exact⟨⟨[],rfl⟩,rfl⟩
 |o::rest,j,s,l,h=>by
  unfold o8 at h;split at h
  ·next s2 m hg=>
   unfold rT at h;split at h
   ·next s3 n e=>
    cases h
    obtain⟨⟨p1,e1⟩,n1⟩:=SU hg;obtain⟨⟨p2,e2⟩,n2⟩:=OA rest (j+1) s2 n e;exact⟨⟨p2++p1,by rw[e2,e1,aqi]⟩,n2.trans n1⟩
   ·cases h
  ·cases h
end
def Yx:AV->Bool
 | .dead=>true
 |_=>false
def rV(P:aqS)(dr:Bool)(l:aqP Oper)(as:aqP (Nat×cg))(keep:aqP Nat)(s:St):aqR (aqP (Nat×AV)×aqP aq×aqP (In×cg)):=
 match o8 P l.toArray dr l 0 as s with
 |some (s1,ps)=>bif (s1.t.take (s1.t.length-s.t.length)).all (λp=>keep.any (·==p.1)||Yx (bp s.t p.1))then some (keep.map λk=>(k,bp s1.t k),s1.h,ps)else none
 |none=>none
theorem Fm:∀(a b:aqP (Nat×AV))(i:Nat),(i∈a.map (·.1)/\bp (a++b) i=bp a i)\/(i ∉ a.map (·.1)/\bp (a++b) i=bp b i)
 |[],b,i=> .inr ⟨by simp,rfl⟩
 |(k,x)::a,b,i=>by
  by_cases e:i=k
  ·subst e;exact .inl ⟨by simp,by simp [lI]⟩
  ·rcases Fm a b i with⟨J,h2⟩|⟨J,h2⟩
   ·exact .inl ⟨by simp at J ⊢;exact .inr J,by rw[List.cons_append,lI,if_neg e,h2,lI,if_neg e]⟩
   ·exact .inr ⟨by simp at J ⊢;exact⟨e,J⟩,by rw[List.cons_append,lI,if_neg e,h2]⟩
section
variable {P:aqS} {dr:Bool} {as:aqP (Nat×cg)} {s s1 s':St} {ps:aqP (In×cg)} {keep:aqP Nat} {ol:aqP Oper} {Δ:aqP (Nat×AV)} {h':aqP aq}
theorem LD(h:rV P dr ol as keep s=some (Δ,h',ps)):∃s1,o8 P ol.toArray dr ol 0 as s=some (s1,ps)/\s1.n=s.n/\s1.h=h'/\∀i,bp (Δ++s.t) i=bp s1.t i\/bp (Δ++s.t) i= .dead:=by
 unfold rV at h;split at h
 ·next s1 ps' hr=>
  obtain⟨hb,he⟩:=eD h;cases he
  obtain⟨⟨pre,e1⟩,n1⟩:=OA _ _ _ _ hr;refine⟨s1,hr,n1,rfl,λi=> ?_⟩;have F4:∀(f:Nat->AV),(keep.map λk=>(k,f k)).map (·.1)=keep:=λf=>by rw[List.map_map];exact List.map_id _
  rcases Fm (keep.map λk=>(k,bp s1.t k)) s.t i with⟨J,h2⟩|⟨J,h2⟩
  ·rw[F4]at J;rw[h2,tO (λk=>bp s1.t k),if_pos J];exact .inl rfl
  ·rw[F4]at J;rw[h2];rw[e1,ap2,Nat.add_sub_cancel,List.take_left']at hb
   ·rw[e1];rcases Fm pre s.t i with⟨h3,h4⟩|⟨h3,h4⟩
    ·right
     obtain⟨p,hp,rfl⟩:=List.mem_map.1 h3;have:=aqr.1 hb p hp;rw[Bool.or_eq_true]at this;rcases this with this|this
     ·exfalso;obtain⟨k,hk,e⟩:=List.any_eq_true.1 this;rw[beq_iff_eq]at e;exact J (e▸hk)
     ·generalize bp s.t p.1=z at this;cases z<;>first|rfl|cases this
    ·exact .inl h4.symm
   ·rfl
 ·cases h
theorem cY.less{G:Gh}{w:aqU}{a:Act}(hs:cY G w a s1)(hn:s'.n=s1.n)(hh:s'.h=s1.h)(ht:∀i,bp s'.t i=bp s1.t i\/bp s'.t i= .dead):cY G w a s':=
 ⟨hs.size.trans hn.symm,λi=>by
  rcases ht i with e|e
  ·rw[e];exact hs.tmp i
  ·rw[e];exact .dead _,by rw[hh];exact hs.inv,hs.df⟩
end
structure Ob(P:Program) where
 i:In
 o:cg
 ok:OK P i o
def bT{P:aqS}{e:Bool}(h:e=true):Ob P:=⟨_,_, .bit (b:=true) h⟩
def bF{P:aqS}{e:Bool}(h:e=false):Ob P:=⟨_,_, .bit (b:=false) h⟩
def uN{P:aqS}:Ob P:=⟨_,_, .CM⟩
def cL{P:aqS}{f:FuncId}{args:aqP AV}{r:AV}(h:gi P f args (·=r)):Ob P:=⟨_,_, .call h⟩
def jn{P:aqS}(l:aqP (Nat×Ob P)):aqP (Nat×cg):=l.map λb=>(b.1,b.2.o)
def jI{P:aqS}(l:aqP (Nat×Ob P)):aqP (In×cg):=l.map λb=>(b.2.i,b.2.o)
theorem pP{P:aqS}(l:aqP (Nat×Ob P)):gr P (jI l):=λp hp=>by
 obtain⟨b,_,rfl⟩:=List.mem_map.1 hp;exact b.2.ok
section
variable {P:aqS} {r:aqR Nat} {N0 id:Nat} {ol:aqP Oper} {y:Code} {s:St} {Q Q':Exit->St->Prop} {ay:aqP (Nat×Ob P)} {Δ:aqP (Nat×AV)} {h':aqP aq}
theorem I0{c:Code}{s':St}(hn:s'.n=s.n)(hh:s'.h=s.h)(ht:∀i,bp s'.t i=bp s.t i\/bp s'.t i= .dead)(h:bH P r N0 c Q s'):bH P r N0 c Q s:=
 ⟨λG w a n hs hN=>h.run G w a n (hs.less hn hh ht) hN⟩
theorem VZ(ay:aqP (Nat×Ob P))(Δ:aqP (Nat×AV))(h':aqP aq)(h:rV P false ol (jn ay) (Δ.map (·.1)) s=some (Δ,h',jI ay))(k:bH P r N0 y Q' ⟨s.n,Δ++s.t,h'⟩):bH P r N0 (.region id ol.toArray false) (jc (λs=>bH P r N0 y Q' s) Q) s:=by
 obtain⟨s1,J,h2,h3,h4⟩:=LD h;refine ff ?_;exact wL (dr:=false) ol 0 s _ J (pP ay) (I0 (s:=s1) (s':=⟨s.n,Δ++s.t,h'⟩) h2.symm h3.symm h4 k)
theorem alr(hm:P.follows .mixedOrders=true)(hl:rQ ol.toArray=true)(ay:aqP (Nat×Ob P))(Δ:aqP (Nat×AV))(h':aqP aq)(h:rV P true ol (jn ay) (Δ.map (·.1)) s=some (Δ,h',jI ay))(k:bH P r N0 y Q' ⟨s.n,Δ++s.t,h'⟩):bH P r N0 (.region id ol.toArray true) (jc (λs=>bH P r N0 y Q' s) Q) s:=by
 obtain⟨s1,J,h2,h3,h4⟩:=LD h;refine Mk hm hl ?_;exact wL (dr:=true) ol 0 s _ J (pP ay) (I0 (s:=s1) (s':=⟨s.n,Δ++s.t,h'⟩) h2.symm h3.symm h4 k)
def xU(P:aqS)(dr:Bool)(l:aqP Oper)(as:aqP (Nat×cg))(s:St):aqR (aqP (Nat×AV)×aqP aq×aqP (In×cg)):=
 match o8 P l.toArray dr l 0 as s with
 |some (s1,ps)=>some (s1.t,s1.h,ps)
 |none=>none
theorem Qs{dr:Bool}{as:aqP (Nat×cg)}{t:aqP (Nat×AV)}{ps:aqP (In×cg)}(h:xU P dr ol as s=some (t,h',ps)):o8 P ol.toArray dr ol 0 as s=some (⟨s.n,t,h'⟩,ps):=by
 unfold xU at h;split at h
 ·next s1 ps' hr=>
  cases h
  obtain⟨_,n1⟩:=OA _ _ _ _ hr;rw[hr,<-n1]
 ·cases h
theorem ah7(ay:aqP (Nat×Ob P))(Δ:aqP (Nat×AV))(h':aqP aq)(h:xU P false ol (jn ay) s=some (Δ++s.t,h',jI ay))(k:Q .normal ⟨s.n,Δ++s.t,h'⟩):bH P r N0 (.region id ol.toArray false) Q s:=
 ff (wL (dr:=false) ol 0 s _ (Qs h) (pP ay) k)
theorem aoA(hm:P.follows .mixedOrders=true)(hl:rQ ol.toArray=true)(ay:aqP (Nat×Ob P))(Δ:aqP (Nat×AV))(h':aqP aq)(h:xU P true ol (jn ay) s=some (Δ++s.t,h',jI ay))(k:Q .normal ⟨s.n,Δ++s.t,h'⟩):bH P r N0 (.region id ol.toArray true) Q s:=
 Mk hm hl (wL (dr:=true) ol 0 s _ (Qs h) (pP ay) k)
end
def AV.fin(m:Nat)(x:AV):AV:=(x.bx m).nrm
def aq.qd:aq->aq
 | .cells cs=> .cells (cs.map AV.nrm)
 | .lp ls p as bd cs=> .lp ls p as bd (cs.map AV.nrm)
 | .it sn cs=> .it sn (cs.map AV.nrm)
 | .e9 T cs=> .e9 T (cs.map AV.nrm)
 | .vec e k cs=> .vec e k (cs.map (·.map AV.nrm))
 |B=>B
def ko(s:St)(live:aqP Nat)(m:Nat):aqR St:=
 bif ct m s.h.length&&(live.all λk=>((bp s.t k).bx m).aE m)&&(((s.h.take m).map (aq.bx m)).all (aq.aE m))then some ⟨s.n,live.map λk=>(k,(bp s.t k).fin m),((s.h.take m).map (aq.bx m)).map aq.qd⟩else none
theorem Tg{G:Gh}{w:aqU}{h:aqP aq}(hi:bW G w h):bW G w (h.map aq.qd):=by
 have fp:∀(n:Nat)(B:aq),(h.map aq.qd)[n]?=some B->∃B',h[n]?=some B'/\B=B'.qd:=λn B hB=>by
  rw[ap8]at hB;cases hx:h[n]? with
  |none=>rw[hx]at hB;cases hB
  |some B'=>rw[hx]at hB;cases hB;exact⟨B',rfl,rfl⟩
 have eJ:∀n b,bU (h.map aq.qd) G n=some b->bU h G n=some b:=λn b hb=>by
  obtain⟨B,hB,hb⟩:=nI hb;obtain⟨B',J,rfl⟩:=fp n B hB;rw[dJ J,<-hb];cases B'<;>rfl
 refine⟨by rw[ap6];exact hi.len,hi.z,hi.S,λn B hB=> ?_,λi j b J h2=>hi.inj i j b (eJ i b J) (eJ j b h2),hi.gl⟩;obtain⟨B',J,rfl⟩:=fp n B hB;have dP:=hi.dc n B' J;cases B' with
 |gone=>trivial
 |front e k len=>exact dP
 |iP e b=>exact dP
 |map kv=>exact dP
 |ja kv=>exact dP
 |vec e k cs=>
  obtain⟨c1,c2,c3,c4⟩:=dP;refine⟨by rw[ap6];exact c1,by rw[ap6];exact c2,λc hc=> ?_,?_⟩
  ·obtain⟨x,hx,rfl⟩:=List.mem_map.1 hc;rw[ap6];exact c3 x hx
  ·rcases c4 with⟨d1,d2,A,d3⟩|⟨g,cap,cur,d1,d2,d3,d4,d5,d6,d7,d8,d9⟩
   ·exact .inl ⟨d1,by rw[d2];rfl,A,d3⟩
   ·refine .inr ⟨g,cap,cur,d1,by rw[ap6];exact d2,d3,d4,by rw[ap6];exact d5,d6,d7,d8,λi j c x u hc hx hu=> ?_⟩;rw[ap8]at hc;cases hy:cs[i]? with
    |none=>rw[hy]at hc;cases hc
    |some y=>
     rw[hy]at hc;cases hc
     rw[ap8]at hx;cases hw:y[j]? with
     |none=>rw[hw]at hx;cases hx
     |some z=>rw[hw]at hx;cases hx;exact(d9 i j y z u hy hw hu).nrm
 |cells cs=>
  obtain⟨c1,c2,vs,T,c3,c4,c5⟩:=dP;refine⟨c1,c2,vs,T,c3,by rw[ap6];exact c4,λi u c hu hc=> ?_⟩;rw[ap8]at hc;cases hx:cs[i]? with
  |none=>rw[hx]at hc;cases hc
  |some x=>rw[hx]at hc;cases hc;exact(c5 i u x hu hx).nrm
 |lp ls p as bd cs=>
  obtain⟨c1,c2,fn,vs,T,c3,c4,c5⟩:=dP;refine⟨c1,c2,fn,vs,T,c3,by rw[ap6];exact c4,λi u c hu hc=> ?_⟩;rw[ap8]at hc;cases hx:cs[i]? with
  |none=>rw[hx]at hc;cases hc
  |some x=>rw[hx]at hc;cases hc;exact(c5 i u x hu hx).nrm
 |it sn cs=>
  obtain⟨c1,c2,fn,vs,T,c3,c4,c5⟩:=dP;refine⟨c1,c2,fn,vs,T,c3,by rw[ap6];exact c4,λi u c hu hc=> ?_⟩;rw[ap8]at hc;cases hx:cs[i]? with
  |none=>rw[hx]at hc;cases hc
  |some x=>rw[hx]at hc;cases hc;exact(c5 i u x hu hx).nrm
 |e9 T0 cs=>
  obtain⟨c1,c2,fn,vs,T,c3,c4,c5⟩:=dP;refine⟨c1,c2,fn,vs,T,c3,by rw[ap6];exact c4,λi u c hu hc=> ?_⟩;rw[ap8]at hc;cases hx:cs[i]? with
  |none=>rw[hx]at hc;cases hc
  |some x=>rw[hx]at hc;cases hc;exact(c5 i u x hu hx).nrm
section
variable {P:aqS} {r:aqR Nat} {n N0:Nat} {G:Gh} {w:aqU} {a:Act} {s s':St} {Q Q':Exit->St->Prop} {live:aqP Nat} {m:Nat}
theorem ajN(h:ko s live m=some s'):s.zk live m/\s'.n=s.n/\s'.t=(live.map λk=>(k,(bp s.t k).fin m))/\s'.h=((s.h.take m).map (aq.bx m)).map aq.qd:=by
 unfold ko at h;obtain⟨hb,rfl⟩:=eD h;rw[ap3,ap3]at hb;exact⟨⟨dh.1 hb.1.1,hb.1.2,hb.2⟩,rfl,rfl,rfl⟩
theorem cY.ko(hs:cY G w a s)(h:ko s live m=some s'):cY (G.cut m) w a s':=by
 obtain⟨J,h2,h3,h4⟩:=ajN h;have hm:=hs.mask J;refine⟨hs.size.trans h2.symm,λi=> ?_,by rw[h4];exact Tg hm.inv,hs.df⟩;have:=hm.tmp i
 change aH _ _ _ (bp (live.map λk=>(k,(bp s.t k).bx m)) i)at this
 rw[tO (λk=>(bp s.t k).bx m)]at this;rw[h3,tO (λk=>(bp s.t k).fin m)];split at this
 ·rename_i hi;rw[if_pos hi];exact this.nrm
 ·rename_i hi;rw[if_neg hi];exact .dead _
theorem Ot{c:Code}{ι:Type}(live:aqP Nat)(m:Nat)(st:ι->St)(I:ι->Prop)(μ:ι->Nat)(i0:ι)(hm:N0<=m)(h0:Go.Proofs.YtpeecnpmcbnahaaGreatDoor.ko s live m=some (st i0))(hI:I i0)
 (round:∀i,I i->bH P r N0 c (jc (λs'=>∃i',Go.Proofs.YtpeecnpmcbnahaaGreatDoor.ko s' live m=some (st i')/\I i'/\μ i'<μ i) Q) (st i)):bH P r N0 (.loop c) Q s:=by
 constructor
 intro G w a n hs _;refine T4 (λ(i:ι) a' w'=>∃G',I i/\bV N0 G w G' w'/\N0<=G'.N/\cY G' w' a' (st i)) μ i0 ⟨G.cut m,hI,qN _ _ _ _,hm,hs.ko h0⟩ ?_;rintro i a' w' ⟨G',hi,hE,hN,cE⟩;refine wpIn_mono ((round i hi).run G' w' a' n cE hN) λe a1 w1 hn=> ?_;obtain⟨G1,s1,jk,gF,ft,hq⟩:=hn;cases e with
 |normal=>
  obtain⟨i',J,h2,h3⟩:=hq;exact⟨i',⟨G1.cut m,h2,(hE.trans jk).trans (qN _ _ _ _),hm,ft.ko J⟩,h3⟩
 |_=>exact⟨G1,s1,hE.trans jk,gF,ft,hq⟩
theorem gL{c:Code}(live:aqP Nat)(m:Nat)(hm:N0<=m)(h0:Go.Proofs.YtpeecnpmcbnahaaGreatDoor.ko s live m=some s')(h:bH P r N0 c Q s'):bH P r N0 c Q s:=by
 constructor
 intro G w a n hs _;exact wpIn_mono (h.run (G.cut m) w a n (hs.ko h0) hm) λ_ _ _ hn=>hn.trans (qN N0 G w m)
theorem GX{c y:Code}{ι:Type}(live:aqP Nat)(m:Nat)(st:ι->St)(I:ι->Prop)(hm:N0<=m)(hc:bH P r N0 c (jc (λs'=>∃i,Go.Proofs.YtpeecnpmcbnahaaGreatDoor.ko s' live m=some (st i)/\I i) Q) s)(hy:∀i,I i->bH P r N0 y Q' (st i)):bH P r N0 c (jc (λs=>bH P r N0 y Q' s) Q) s:=by
 refine hc.mono λe s' h=> ?_;cases e with
 |normal=>obtain⟨i,J,h2⟩:=h;exact gL live m hm J (hy i h2)
 |_=>exact h
def sI(P:aqS)(s:St):aqP ResultVar->aqR (aqP AV)
 |[]=>some []
 | .tmp t::l=>match sI P s l with
   |some xs=>some (bp s.t t::xs)
   |none=>none
 | .cell p t::l=>match yn s.h (bp s.t p)with
   |some (cs,off)=>match Al P t cs off,sI P s l with
    |some x,some xs=>some (x::xs)
    |_,_=>none
   |none=>none
def yr(P:aqS)(rs:aqP ResultVar)(s:St):aqR AV:=
 match sI P s rs with
 |some l=>bif ((kp l).bx 0).aE 0 then some ((kp l).fin 0)else none
 |none=>none
def lu(P:aqS)(fn:Func)(R:AV):Exit->St->Prop
 | .normal,s=>yr P fn.results.toList s=some R
 | .ret,s=>yr P fn.results.toList s=some R
 |_,_=>False
theorem Gu:∀(l:aqP ResultVar)(xs:aqP AV)(C:aqP AV->Prop),sI P s l=some xs->C xs->nH P s l C
 |[],xs,C,h,hC=>by cases h;exact hC
 | .tmp t::l,xs,C,h,hC=>by
   unfold sI at h;split at h
   ·next ys e=>cases h;exact Gu l ys _ e hC
   ·cases h
 | .cell p t::l,xs,C,h,hC=>by
   unfold sI at h;split at h
   ·next cs off e=>
    split at h
    ·next x ys e1 e2=>cases h;exact RS e e1 (Gu l ys _ e2 hC)
    ·cases h
   ·cases h
theorem Z7{fn:Func}{R:AV}(h:yr P fn.results.toList s=some R):qS P fn 0 (λr h'=>h'=[]/\r.nrm=R) s:=by
 unfold yr at h;split at h
 ·next l e=>
  obtain⟨hb,rfl⟩:=eD h;exact Gu _ l _ e ⟨Nat.zero_le _,hb,by simp,by simp,rfl⟩
 ·cases h
theorem gz{fn:Func}{R:AV}(h:yr P fn.results.toList s=some R):lu P fn R .ret s:=h
theorem sw{f:FuncId}{fn:Func}{c:Code}{args:aqP AV}{R:AV}(hf:P.funcs[f]?=some fn)(hb:fn.body=some c)(hn:(fn.name== "runtime.NumGoroutine")=false)
 (hw:bH P none 0 c (lu P fn R) {n:=args.length+(fn.ntmps-args.length),t:=l5 0 args,h:=[]}):gi P f args (·=R):=by
 have h:=vV (P:=P) (f:=f) (args:=args) (h:=[]) (K:=λr h'=>h'=[]/\r.nrm=R) 0 hf hb hn (aqc _) (hw.mono λe s hq=>by
  cases e with
  |normal=>exact Z7 hq
  |ret=>exact Z7 hq
  |_=>exact hq.elim)
 refine⟨h.1,λG w vs hi hl hr=>(h.2 G w vs hi hl hr).mono λe w' hp=> ?_⟩;obtain⟨v,G',x,h',rfl,hE,hN,dY,hv,rfl,rfl⟩:=hp;exact⟨v,G',x.nrm,[],rfl,hE,hN,dY,hv.nrm,rfl,rfl⟩
theorem apP{c:Code}(b i:Nat)(xs:aqP (aqP D))(hx:((s.h[b]?).bind λB=>match B with| .cells cs=>(cs[i]?).bind AV.fW|_=>none)=some xs)(h:xs.length<=maxLen->bH P r N0 c Q s):bH P r N0 c Q s:=by
 constructor
 intro G w a n hs hN;cases hb:s.h[b]? with
 |none=>rw[hb]at hx;cases hx
 |some B=>
  rw[hb]at hx;cases B with
  |cells cs=>
   simp only[ap0]at hx;obtain⟨_,_,vs,T,_,hl,hr⟩:=hs.inv.dc b _ hb;cases hc:cs[i]? with
   |none=>rw[hc]at hx;cases hx
   |some x=>
    rw[hc]at hx;have aN:i<vs.size:=by rw[hl];exact(ap1.1 hc).1
    obtain⟨A,b',o,c',k',us,_,_,J,h2,_⟩:=((hr i _ x (aqn aN) hc).list hx).qt;exact(h (aqj J h2)).run G w a n hs hN
  |_=>cases hx
end
theorem aic{P:aqS}{r:aqR Nat}{N0 id:Nat}{ol:aqP Oper}{y:Code}{s:St}{Q Q':Exit->St->Prop}(Δ:aqP (Nat×AV))(h':aqP aq)(h:∃ay:aqP (Nat×Ob P),rV P false ol (jn ay) (Δ.map (·.1)) s=some (Δ,h',jI ay))(k:bH P r N0 y Q' ⟨s.n,Δ++s.t,h'⟩):bH P r N0 (.region id ol.toArray false) (jc (λs=>bH P r N0 y Q' s) Q) s:=
 let ⟨ay,h⟩:=h;VZ ay Δ h' h k
theorem dx{α:Type}{c:Bool}{a b:α}(h:c=true):cond c a b=a:=by rw[h];rfl
theorem eF{α:Type}{c:Bool}{a b:α}(h:c=false):cond c a b=b:=by rw[h];rfl
theorem bO{α β:Type}{x:aqR α}{f:α->aqR β}{b:β}(h:Option.bind x f=some b):∃a,x=some a/\f a=some b:=by
 cases x with
 |none=>cases h
 |some a=>exact⟨a,rfl,h⟩
theorem eC(b:Bool):b=true\/b=false:=by cases b<;>simp
theorem dq{b:Bool}(h:b=true):(!b)=false:=by rw[h];rfl
theorem dZ{b:Bool}(h:b=false):(!b)=true:=by rw[h];rfl
theorem nm{α:Type}{c:Bool}{x:aqR α}{r:α}(h:(bif c then x else none)=some r):c=true:=by
 cases c with
 |true=>rfl
 |false=>cases h
section
variable {P:aqS} {r:aqR Nat} {N0 id n:Nat} {ol:aqP Oper} {y:Code} {t:aqP (Nat×AV)} {h:aqP aq} {Q Q':Exit->St->Prop}
theorem rg(ay:aqP (Nat×Ob P))(Δ:aqP (Nat×AV))(h':aqP aq)(e:rV P false ol (jn ay) (Δ.map (·.1)) ⟨n,t,h⟩=some (Δ,h',jI ay))(k:bH P r N0 y Q' ⟨n,Δ++t,h'⟩):bH P r N0 (.region id ol.toArray false) (jc (λs=>bH P r N0 y Q' s) Q) ⟨n,t,h⟩:=VZ ay Δ h' e k
theorem rd(hm:P.follows .mixedOrders=true)(hl:rQ ol.toArray=true)(ay:aqP (Nat×Ob P))(Δ:aqP (Nat×AV))(h':aqP aq)(e:rV P true ol (jn ay) (Δ.map (·.1)) ⟨n,t,h⟩=some (Δ,h',jI ay))(k:bH P r N0 y Q' ⟨n,Δ++t,h'⟩):bH P r N0 (.region id ol.toArray true) (jc (λs=>bH P r N0 y Q' s) Q) ⟨n,t,h⟩:=alr hm hl ay Δ h' e k
theorem re(ay:aqP (Nat×Ob P))(Δ:aqP (Nat×AV))(h':aqP aq)(e:xU P false ol (jn ay) ⟨n,t,h⟩=some (Δ++t,h',jI ay))(k:Q .normal ⟨n,Δ++t,h'⟩):bH P r N0 (.region id ol.toArray false) Q ⟨n,t,h⟩:=ah7 ay Δ h' e k
theorem WC(hm:P.follows .mixedOrders=true)(hl:rQ ol.toArray=true)(ay:aqP (Nat×Ob P))(Δ:aqP (Nat×AV))(h':aqP aq)(e:xU P true ol (jn ay) ⟨n,t,h⟩=some (Δ++t,h',jI ay))(k:Q .normal ⟨n,Δ++t,h'⟩):bH P r N0 (.region id ol.toArray true) Q ⟨n,t,h⟩:=aoA hm hl ay Δ h' e k
theorem A1(Δ:aqP (Nat×AV))(h':aqP aq)(e:∃ay:aqP (Nat×Ob P),rV P false ol (jn ay) (Δ.map (·.1)) ⟨n,t,h⟩=some (Δ,h',jI ay))(k:bH P r N0 y Q' ⟨n,Δ++t,h'⟩):bH P r N0 (.region id ol.toArray false) (jc (λs=>bH P r N0 y Q' s) Q) ⟨n,t,h⟩:=aic Δ h' e k
end
def bs(l:aqP UInt8):aqQ:=⟨l.toArray⟩
def vW(x:D):Prop:=∃(S:Nat->Nat->Prop)(w:aqU)(u:aqT),dw S w u x
theorem Iv{xs:aqP (aqP D)}(h:vW (.sl xs)):xs.length<=maxLen:=by
 obtain⟨S,w,u,h⟩:=h;obtain⟨A,b',o,c',k',us,_,_,J,h2,_⟩:=h.qt;exact aqj J h2
theorem apx{xs:aqP (aqP D)}{i j:Nat}{c:aqP D}{d:D}(h:vW (.sl xs))(hc:xs[i]?=some c)(hd:c[j]?=some d):vW d:=by
 obtain⟨S,w,u,h⟩:=h;obtain⟨A,b',o,c',k',us,_,_,J,h2,h3,h4,h5⟩:=h.qt;exact⟨S,w,_,h5 i j c d hc hd⟩
section
variable {P:aqS} {r:aqR Nat} {n N0:Nat} {s:St} {Q:Exit->St->Prop}
theorem yT{c:Code}(k:Nat)(xs:aqP (aqP D))(hx:(bp s.t k).fW=some xs)(h:vW (.sl xs)->bH P r N0 c Q s):bH P r N0 c Q s:=by
 constructor
 intro G w a n hs hN;exact(h ⟨_,_,_,(hs.tmp k).list hx⟩).run G w a n hs hN
theorem akJ{c:Code}(b i:Nat)(xs:aqP (aqP D))(hx:((s.h[b]?).bind λB=>match B with| .cells cs=>(cs[i]?).bind AV.fW|_=>none)=some xs)(h:vW (.sl xs)->bH P r N0 c Q s):bH P r N0 c Q s:=by
 constructor
 intro G w a n hs hN;cases hb:s.h[b]? with
 |none=>rw[hb]at hx;cases hx
 |some B=>
  rw[hb]at hx;cases B with
  |cells cs=>
   simp only[ap0]at hx;obtain⟨_,_,vs,T,_,hl,hr⟩:=hs.inv.dc b _ hb;cases hc:cs[i]? with
   |none=>rw[hc]at hx;cases hx
   |some x=>
    rw[hc]at hx;have aN:i<vs.size:=by rw[hl];exact(ap1.1 hc).1
    exact(h ⟨_,_,_,(hr i _ x (aqn aN) hc).list hx⟩).run G w a n hs hN
  |_=>cases hx
end
end Go.Proofs.YtpeecnpmcbnahaaGreatDoor
namespace Go.Proofs.YtpeecnpmcbnahaaGreatDoor
open Go.RowKit
mutual
def AV.fz(b:Nat)(ds:aqP D):AV->AV
 | .ptr n off=>bif n==b then .bk [ds] 0 off else .ptr n off
 | .agg cs=> .agg (AV.uO b ds cs)
 | .bj cs=> .bj (AV.uO b ds cs)
 | .fn f cs=> .fn f (AV.uO b ds cs)
 |x=>x
def AV.uO(b:Nat)(ds:aqP D):aqP AV->aqP AV
 |[]=>[]
 |x::l=>x.fz b ds::AV.uO b ds l
end
theorem FA(b:Nat)(ds:aqP D):∀l,AV.uO b ds l=l.map (AV.fz b ds)
 |[]=>by simp [AV.uO]
 |x::l=>by simp [AV.uO,FA b ds l]
def aq.fz(b:Nat)(ds:aqP D):aq->aq
 | .cells cs=> .cells (cs.map (AV.fz b ds))
 | .lp ls p as bd cs=> .lp ls p as bd (cs.map (AV.fz b ds))
 | .it sn cs=> .it sn (cs.map (AV.fz b ds))
 | .e9 T cs=> .e9 T (cs.map (AV.fz b ds))
 | .vec e k cs=> .vec e k (cs.map (·.map (AV.fz b ds)))
 |B=>B
def xV(s:St)(b:Nat):aqR St:=
 match s.h[b]? with
 |some (.cells cs)=>match nw cs with
  |some ds=>some ⟨s.n,s.t.map λp=>(p.1,p.2.fz b ds),(s.h.map (aq.fz b ds)).set b .gone⟩
  |none=>none
 |_=>none
theorem Ip(f:AV->AV)(hf:f .dead= .dead):∀(t:aqP (Nat×AV))(i:Nat),bp (t.map λp=>(p.1,f p.2)) i=f (bp t i)
 |[],i=>by simp [bp,hf]
 |(k,x)::l,i=>by
  simp only[aqq,lI,Ip f hf l i];split<;>rfl
theorem aH.fz{G G':Gh}{w:aqU}{b:Nat}{ds:aqP D}(hE:bV G.N G w G' w)(hN:G'.N=G.N)(hp:∀off,aH G' w (.pointer (some ⟨G.aR b,off,none⟩)) (.bk [ds] 0 off)){u:aqT}{x:AV}(h:aH G w u x):aH G' w u (x.fz b ds):=by
 have keep:∀{u:aqT}{x:AV},aH G w u x->aH G' w u x:=λh=>h.keep hE (Nat.le_of_eq hN.symm);have fM:∀(vs:Array aqT)(cs:aqP AV),(∀(i:Nat)(u:aqT)(c:AV),vs[i]?=some u->cs[i]?=some c->aH G' w u (c.fz b ds))->∀(i:Nat)(u:aqT)(c:AV),vs[i]?=some u->(AV.uO b ds cs)[i]?=some c->aH G' w u c:=by
  intro vs cs ih i u c hu hc;rw[FA,ap8]at hc;cases hx:cs[i]? with
  |none=>rw[hx]at hc;cases hc
  |some x=>rw[hx]at hc;cases hc;exact ih i u x hu hx
 induction h with
 |agg vs cs hl _ ih=>rw[AV.fz];exact .agg vs _ (by rw[FA,ap6];exact hl) (fM vs cs ih)
 |bj vs cs hl _ ih=>rw[AV.fz];exact .bj vs _ (by rw[FA,ap6];exact hl) (fM vs cs ih)
 |fn f vs cs hl _ ih=>rw[AV.fz];exact .fn f vs _ (by rw[FA,ap6];exact hl) (fM vs cs ih)
 |ptr n off h=>
  rw[AV.fz,cond_eq_ite];split
  ·next e=>rw[beq_iff_eq]at e;subst e;exact hp off
  ·exact keep (.ptr n off h)
 |own n xs h hp hle hf=>simp only[AV.fz];exact keep (.own n xs h hp hle hf)
 |d h=>simp only[AV.fz];exact keep (.d h)
 |bk xs i off b o u x hx hS hu=>simp only[AV.fz];exact keep (.bk xs i off b o u x hx hS hu)
 |full xs hp hf=>simp only[AV.fz];exact keep (.full xs hp hf)
 |row n off len cap k h hl hm=>simp only[AV.fz];exact keep (.row n off len cap k h hl hm)
 |mp n h=>simp only[AV.fz];exact keep (.mp n h)
 |cr n h=>simp only[AV.fz];exact keep (.cr n h)
 |vec n o len L k h hs hL hf=>simp only[AV.fz];exact keep (.vec n o len L k h hs hL hf)
 |dB n i j L k h hs hL hf=>simp only[AV.fz];exact keep (.dB n i j L k h hs hL hf)
 |hid h J=>simp only[AV.fz];exact keep (.hid h J)
 |dead u=>simp only[AV.fz];exact .dead u
theorem Yg:∀(cs:aqP AV)(ds:aqP D),nw cs=some ds->cs.length=ds.length/\∀(i:Nat)(c:AV)(d:D),cs[i]?=some c->ds[i]?=some d->c.xl=some d
 |[],ds,h=>by unfold nw at h;cases h;exact⟨rfl,λi c d hc=>by simp at hc⟩
 |x::cs,ds,h=>by
  unfold nw at h;split at h
  ·next d l e1 e2=>
   cases h
   obtain⟨J,h2⟩:=Yg cs l e2;refine⟨by simp [J],λi c d' hc hd=> ?_⟩
   match i with
   |0=>simp only[List.getElem?_cons_zero,Option.some.injEq]at hc hd;subst hc;subst hd;exact e1
   |i+1=>exact h2 i c d' (by simpa using hc) (by simpa using hd)
  ·cases h
theorem aH.akp{G:Gh}{w:aqU}{u:aqT}{x:AV}{d:D}(h:aH G w u x)(hd:x.xl=some d):dw G.S w u d:=by
 cases h with
 |d h=>cases hd;exact h.vD
 |own n xs h hp=>cases hd;exact hp
 |full xs hp=>cases hd;exact hp
 |_=>cases hd
theorem cY.xV{G:Gh}{w:aqU}{a:Act}{s s':St}{b:Nat}(hs:cY G w a s)(h:xV s b=some s'):∃G',bV G.N G w G' w/\G'.N=G.N/\cY G' w a s':=by
 unfold Go.Proofs.YtpeecnpmcbnahaaGreatDoor.xV at h;split at h
 ·next cs hb=>
  split at h
  ·next ds sq=>
   cases h
   obtain⟨z1,z2,vs,T,z3,z4,z5⟩:=hs.inv.dc b _ hb;obtain⟨d1,d2⟩:=Yg cs ds sq;have mD:bU s.h G b=some (G.aR b):=dJ hb;obtain⟨S,hS⟩:∃S:Nat->Nat->Prop,S=λb' o=>G.S b' o\/(b'=G.aR b/\o<ds.length):=⟨_,rfl⟩;have hE:bV G.N G w {G with S:=S} w:=⟨aqc _,λb o h=>by show S b o;rw[hS];exact .inl h,λ_ _ _=>rfl,λ_ _=>rfl,λ_ _=> .inl ⟨rfl,rfl⟩,im rfl,λ_ _=>rfl,rfl,rfl,rfl,λb' o hs=>by
    have cE:S b' o:=hs;rw[hS]at cE;rcases cE with h|⟨rfl,_⟩
    ·exact .inl h
    ·exact .inr z1⟩
   have hp:∀off,aH {G with S:=S} w (.pointer (some ⟨G.aR b,off,none⟩)) (.bk [ds] 0 off):=λoff=>by
    have:=aH.bk (G:={G with S:=S}) (w:=w) [ds] 0 off (G.aR b) 0 (λj=>vs.getD j undef) ds rfl (λj hj=> ?_) (λj d hd=> ?_)
    ·rwa [aql]at this
    ·have iM:j<vs.size:=by rw[z4,d1];exact hj
     refine⟨by show S _ _;rw[hS];exact .inr ⟨rfl,by rw[aql];exact hj⟩,?_⟩;rw[aql,cell_of_row w (G.aR b) j vs T (0,0) z3];simp [Array.getD,iM]
    ·have hj:j<ds.length:=(ap1.1 hd).1;have iM:j<vs.size:=by rw[z4,d1];exact hj
     have hc:cs[j]?=some cs[j]:=ap5 (by rw[d1];exact hj);have hv:=z5 j vs[j] _ (aqn iM) hc;have e:vs.getD j undef=vs[j]:=by simp [Array.getD,iM]
     rw[e];exact(hv.akp (d2 j _ d hc hd)).keep hE.S hE.cell
   have hv:∀{u:aqT}{x:AV},aH G w u x->aH {G with S:=S} w u (x.fz b ds):=λh=>h.fz hE rfl hp;have aos:=(ap1.1 hb).1;have fp:∀(n:Nat)(B:aq),((s.h.map (aq.fz b ds)).set b .gone)[n]?=some B->(n=b/\B= .gone)\/(n≠b/\∃B',s.h[n]?=some B'/\B=B'.fz b ds):=λn B hB=>by
    by_cases e:b=n
    ·subst e;rw[aqu (by rw[ap6];exact aos)]at hB;cases hB;exact .inl ⟨rfl,rfl⟩
    ·rw[aqz e,ap8]at hB;cases hx:s.h[n]? with
     |none=>rw[hx]at hB;cases hB
     |some B'=>rw[hx]at hB;cases hB;exact .inr ⟨λh=>e h.symm,B',rfl,rfl⟩
   have eJ:∀n x,bU ((s.h.map (aq.fz b ds)).set b .gone) {G with S:=S} n=some x->n≠b/\bU s.h G n=some x:=λn x hx=>by
    obtain⟨B,hn,hx⟩:=nI hx;rcases fp n _ hn with⟨_,e⟩|⟨cG,B',J,rfl⟩
    ·subst e;cases hx
    ·refine⟨cG,?_⟩;rw[dJ J,<-hx];cases B'<;>rfl
   refine⟨{G with S:=S},hE,rfl,hs.size,λi=> ?_,⟨by rw[List.length_set,ap6];exact hs.inv.len,hs.inv.z,λb' o h=> ?_,λn B hB=> ?_,λm n x J h2=>hs.inv.inj m n x (eJ m x J).2 (eJ n x h2).2,hs.inv.gl.keep hE⟩,hs.df⟩
   ·show aH _ _ _ (bp (s.t.map λp=>(p.1,p.2.fz b ds)) i);rw[Ip (AV.fz b ds) (by simp [AV.fz])];exact hv (hs.tmp i)
   ·have cE:S b' o:=h;rw[hS]at cE;rcases cE with h|⟨rfl,_⟩
    ·exact hs.inv.S b' o h
    ·exact(aqg.1 z3).1
   ·rcases fp n B hB with⟨rfl,rfl⟩|⟨cG,B',J,rfl⟩
    ·trivial
    ·have dP:=hs.inv.dc n B' J;cases B' with
     |gone=>trivial
     |map kv=>exact eu.keep (G':={G with S:=S}) (hs.inv.lt J) hE (aqc _) ⟨rfl,rfl,rfl⟩ (λc hc=>⟨rfl,λo jX hq=>by
      have cE:S c o:=hq;rw[hS]at cE;rcases cE with h|⟨e,_⟩
      ·exact jX h
      ·exact cG (hs.inv.inj n b _ ((dJ J).trans hc) (by rw[e];exact mD))⟩) dP
     |ja kv=>exact eu.keep (G':={G with S:=S}) (hs.inv.lt J) hE (aqc _) ⟨rfl,rfl,rfl⟩ (λc hc=>⟨rfl,λo jX hq=>by
      have cE:S c o:=hq;rw[hS]at cE;rcases cE with h|⟨e,_⟩
      ·exact jX h
      ·exact cG (hs.inv.inj n b _ ((dJ J).trans hc) (by rw[e];exact mD))⟩) dP
     |front e k len=>exact eu.keep (G':={G with S:=S}) (hs.inv.lt J) hE (aqc _) ⟨rfl,rfl,rfl⟩ (λc hc=>⟨rfl,λo jX hq=>by
      have cE:S c o:=hq;rw[hS]at cE;rcases cE with h|⟨e,_⟩
      ·exact jX h
      ·exact cG (hs.inv.inj n b _ ((dJ J).trans hc) (by rw[e];exact mD))⟩) dP
     |iP e b2=>exact eu.keep (G':={G with S:=S}) (hs.inv.lt J) hE (aqc _) ⟨rfl,rfl,rfl⟩ (λc hc=>⟨rfl,λo jX hq=>by
      have cE:S c o:=hq;rw[hS]at cE;rcases cE with h|⟨e,_⟩
      ·exact jX h
      ·exact cG (hs.inv.inj n b _ ((dJ J).trans hc) (by rw[e];exact mD))⟩) dP
     |cells cC=>
      obtain⟨c1,c2,gh,T',c3,c4,c5⟩:=dP;have mf:bU s.h G n=some (G.aR n):=dJ J;refine⟨c1,λo hq=> ?_,gh,T',c3,by rw[ap6];exact c4,λi u c hu hc=> ?_⟩
      ·have cE:S (G.aR n) o:=hq;rw[hS]at cE;rcases cE with h|⟨e,_⟩
       ·exact c2 o h
       ·exact cG (hs.inv.inj n b _ mf (by rw[e];exact mD))
      ·rw[ap8]at hc;cases hx:cC[i]? with
       |none=>rw[hx]at hc;cases hc
       |some x=>rw[hx]at hc;cases hc;exact hv (c5 i u x hu hx)
     |lp ls p as bd cC=>
      obtain⟨c1,c2,fn,gh,T',c3,c4,c5⟩:=dP;have mf:bU s.h G n=some (G.aR n):=dJ J;refine⟨c1,λo hq=> ?_,fn,gh,T',c3,by rw[ap6];exact c4,λi u c hu hc=> ?_⟩
      ·have cE:S (G.aR n) o:=hq;rw[hS]at cE;rcases cE with h|⟨e,_⟩
       ·exact c2 o h
       ·exact cG (hs.inv.inj n b _ mf (by rw[e];exact mD))
      ·rw[ap8]at hc;cases hx:cC[i]? with
       |none=>rw[hx]at hc;cases hc
       |some x=>rw[hx]at hc;cases hc;exact hv (c5 i u x hu hx)
     |it sn cC=>
      obtain⟨c1,c2,fn,gh,T',c3,c4,c5⟩:=dP;have mf:bU s.h G n=some (G.aR n):=dJ J;refine⟨c1,λo hq=> ?_,fn,gh,T',c3,by rw[ap6];exact c4,λi u c hu hc=> ?_⟩
      ·have cE:S (G.aR n) o:=hq;rw[hS]at cE;rcases cE with h|⟨e,_⟩
       ·exact c2 o h
       ·exact cG (hs.inv.inj n b _ mf (by rw[e];exact mD))
      ·rw[ap8]at hc;cases hx:cC[i]? with
       |none=>rw[hx]at hc;cases hc
       |some x=>rw[hx]at hc;cases hc;exact hv (c5 i u x hu hx)
     |e9 T0 cC=>
      obtain⟨c1,c2,fn,gh,T',c3,c4,c5⟩:=dP;have mf:bU s.h G n=some (G.aR n):=dJ J;refine⟨c1,λo hq=> ?_,fn,gh,T',c3,by rw[ap6];exact c4,λi u c hu hc=> ?_⟩
      ·have cE:S (G.aR n) o:=hq;rw[hS]at cE;rcases cE with h|⟨e,_⟩
       ·exact c2 o h
       ·exact cG (hs.inv.inj n b _ mf (by rw[e];exact mD))
      ·rw[ap8]at hc;cases hx:cC[i]? with
       |none=>rw[hx]at hc;cases hc
       |some x=>rw[hx]at hc;cases hc;exact hv (c5 i u x hu hx)
     |vec e k cC=>
      obtain⟨c1,c2,c3,c4⟩:=dP;refine⟨by rw[ap6];exact c1,by rw[ap6];exact c2,λc hc=> ?_,?_⟩
      ·obtain⟨x,hx,rfl⟩:=List.mem_map.1 hc;rw[ap6];exact c3 x hx
      ·rcases c4 with⟨d1,d2,A,d3⟩|⟨g,cap,cur,d1,d2,d3,d4,d5,d6,d7,d8,d9⟩
       ·exact .inl ⟨d1,by rw[d2];rfl,A,d3⟩
       ·have mf:bU s.h G n=some g:=(dJ J).trans d1;refine .inr ⟨g,cap,cur,d1,by rw[ap6];exact d2,d3,d4,by rw[ap6];exact d5,d6,d7,λo hq=> ?_,λi j c x u hc hx hu=> ?_⟩
        ·have cE:S g o:=hq;rw[hS]at cE;rcases cE with h|⟨e,_⟩
         ·exact d8 o h
         ·exact cG (hs.inv.inj n b _ mf (by rw[e];exact mD))
        ·rw[ap8]at hc;cases hy:cC[i]? with
         |none=>rw[hy]at hc;cases hc
         |some y=>
          rw[hy]at hc;cases hc
          rw[ap8]at hx;cases hw:y[j]? with
          |none=>rw[hw]at hx;cases hx
          |some z=>rw[hw]at hx;cases hx;exact hv (d9 i j y z u hy hw hu)
  ·cases h
 ·cases h
theorem anM{P:aqS}{r:aqR Nat}{N0:Nat}{c:Code}{s s':St}{Q:Exit->St->Prop}(b:Nat)(e:xV s b=some s')(h:bH P r N0 c Q s'):bH P r N0 c Q s:=by
 constructor
 intro G w a n hs hN;obtain⟨G',hE,rP,cE⟩:=hs.xV e;exact wpIn_mono (h.run G' w a n cE (by rw[rP];exact hN)) λ_ _ _ hn=>hn.trans (hE.less hN)
def D.AW:D->Bool
 | .v u=>u.oneCell'
 | .sl _=>true
 | .ag _=>false
mutual
def AV.kill(b:Nat):AV->AV
 | .vec n o len L k=>bif n==b then .dead else .vec n o len L k
 | .dB n i j L k=>bif n==b then .dead else .dB n i j L k
 | .agg cs=> .agg (AV.Jb b cs)
 | .bj cs=> .bj (AV.Jb b cs)
 | .fn f cs=> .fn f (AV.Jb b cs)
 |x=>x
def AV.Jb(b:Nat):aqP AV->aqP AV
 |[]=>[]
 |x::l=>x.kill b::AV.Jb b l
end
def aq.lU(f:AV->AV):aq->aq
 | .cells cs=> .cells (cs.map f)
 | .lp ls p as bd cs=> .lp ls p as bd (cs.map f)
 | .it sn cs=> .it sn (cs.map f)
 | .e9 T cs=> .e9 T (cs.map f)
 | .vec e k cs=> .vec e k (cs.map (·.map f))
 |B=>B
theorem anp{G:Gh}{w:aqU}{h:aqP aq}(hi:bW G w h){b:Nat}{S:Nat->Nat->Prop}{f:AV->AV}(hE:bV G.N G w {G with S:=S} w)(hS:∀c o,S c o->G.S c o\/bU h G b=some c)(hv:∀{u:aqT}{x:AV},aH G w u x->aH {G with S:=S} w u (f x)):
 bW {G with S:=S} w ((h.map (aq.lU f)).set b .gone):=by
 have fp:∀(n:Nat)(B:aq),((h.map (aq.lU f)).set b .gone)[n]?=some B->(n=b/\B= .gone)\/(n≠b/\∃B',h[n]?=some B'/\B=B'.lU f):=λn B hB=>by
  by_cases e:b=n
  ·subst e;have aN:=(ap1.1 hB).1;rw[List.length_set]at aN;rw[aqu aN]at hB;cases hB;exact .inl ⟨rfl,rfl⟩
  ·rw[aqz e,ap8]at hB;cases hx:h[n]? with
   |none=>rw[hx]at hB;cases hB
   |some B'=>rw[hx]at hB;cases hB;exact .inr ⟨λh=>e h.symm,B',rfl,rfl⟩
 have eJ:∀n x,bU ((h.map (aq.lU f)).set b .gone) {G with S:=S} n=some x->n≠b/\bU h G n=some x:=λn x hx=>by
  obtain⟨B,hn,hx⟩:=nI hx;rcases fp n _ hn with⟨_,e⟩|⟨cG,B',J,rfl⟩
  ·subst e;cases hx
  ·refine⟨cG,?_⟩;rw[dJ J,<-hx];cases B'<;>rfl
 refine⟨by rw[List.length_set,ap6];exact hi.len,hi.z,λc o hs=> ?_,λn B hB=> ?_,λm n x J h2=>hi.inj m n x (eJ m x J).2 (eJ n x h2).2,hi.gl.keep hE⟩
 ·rcases hS c o hs with J|J
  ·exact hi.S c o J
  ·exact hi.ib J
 ·rcases fp n B hB with⟨rfl,rfl⟩|⟨cG,B',J,rfl⟩
  ·trivial
  ·have dP:=hi.dc n B' J;have fD:∀c,B'.ee G n=some c->∀o,¬G.S c o->¬S c o:=λc hc o jX hq=>by
    rcases hS c o hq with h2|h2
    ·exact jX h2
    ·exact cG (hi.inj n b c ((dJ J).trans hc) h2)
   cases B' with
   |gone=>trivial
   |map kv=>exact eu.keep (G':={G with S:=S}) (hi.lt J) hE (aqc _) ⟨rfl,rfl,rfl⟩ (λc hc=>⟨rfl,fD c hc⟩) dP
   |ja kv=>exact eu.keep (G':={G with S:=S}) (hi.lt J) hE (aqc _) ⟨rfl,rfl,rfl⟩ (λc hc=>⟨rfl,fD c hc⟩) dP
   |front e k len=>exact eu.keep (G':={G with S:=S}) (hi.lt J) hE (aqc _) ⟨rfl,rfl,rfl⟩ (λc hc=>⟨rfl,fD c hc⟩) dP
   |iP e b2=>exact eu.keep (G':={G with S:=S}) (hi.lt J) hE (aqc _) ⟨rfl,rfl,rfl⟩ (λc hc=>⟨rfl,fD c hc⟩) dP
   |cells cC=>
    obtain⟨c1,c2,gh,T',c3,c4,c5⟩:=dP;refine⟨c1,λo=>fD _ rfl o (c2 o),gh,T',c3,by rw[ap6];exact c4,λi u c hu hc=> ?_⟩;rw[ap8]at hc;cases hx:cC[i]? with
    |none=>rw[hx]at hc;cases hc
    |some x=>rw[hx]at hc;cases hc;exact hv (c5 i u x hu hx)
   |lp ls p as bd cC=>
    obtain⟨c1,c2,fn,gh,T',c3,c4,c5⟩:=dP;refine⟨c1,λo=>fD _ rfl o (c2 o),fn,gh,T',c3,by rw[ap6];exact c4,λi u c hu hc=> ?_⟩;rw[ap8]at hc;cases hx:cC[i]? with
    |none=>rw[hx]at hc;cases hc
    |some x=>rw[hx]at hc;cases hc;exact hv (c5 i u x hu hx)
   |it sn cC=>
    obtain⟨c1,c2,fn,gh,T',c3,c4,c5⟩:=dP;refine⟨c1,λo=>fD _ rfl o (c2 o),fn,gh,T',c3,by rw[ap6];exact c4,λi u c hu hc=> ?_⟩;rw[ap8]at hc;cases hx:cC[i]? with
    |none=>rw[hx]at hc;cases hc
    |some x=>rw[hx]at hc;cases hc;exact hv (c5 i u x hu hx)
   |e9 T0 cC=>
    obtain⟨c1,c2,fn,gh,T',c3,c4,c5⟩:=dP;refine⟨c1,λo=>fD _ rfl o (c2 o),fn,gh,T',c3,by rw[ap6];exact c4,λi u c hu hc=> ?_⟩;rw[ap8]at hc;cases hx:cC[i]? with
    |none=>rw[hx]at hc;cases hc
    |some x=>rw[hx]at hc;cases hc;exact hv (c5 i u x hu hx)
   |vec e k cC=>
    obtain⟨c1,c2,c3,c4⟩:=dP;refine⟨by rw[ap6];exact c1,by rw[ap6];exact c2,λc hc=> ?_,?_⟩
    ·obtain⟨x,hx,rfl⟩:=List.mem_map.1 hc;rw[ap6];exact c3 x hx
    ·rcases c4 with⟨d1,d2,A,d3⟩|⟨g,cap,cur,d1,d2,d3,d4,d5,d6,d7,d8,d9⟩
     ·exact .inl ⟨d1,by rw[d2];rfl,A,d3⟩
     ·refine .inr ⟨g,cap,cur,d1,by rw[ap6];exact d2,d3,d4,by rw[ap6];exact d5,d6,d7,λo=>fD g d1 o (d8 o),λi j c x u hc hx hu=> ?_⟩;rw[ap8]at hc;cases hy:cC[i]? with
      |none=>rw[hy]at hc;cases hc
      |some y=>
       rw[hy]at hc;cases hc
       rw[ap8]at hx;cases hw:y[j]? with
       |none=>rw[hw]at hx;cases hx
       |some z=>rw[hw]at hx;cases hx;exact hv (d9 i j y z u hy hw hu)
mutual
def AV.dz(b kk:Nat)(xs:aqP (aqP D)):AV->AV
 | .vec n o len L k=>bif n==b then(bif L==xs.length&&k==kk then .d (.sl ((xs.drop o).take len))else .dead)else .vec n o len L k
 | .dB n i j L k=>bif n==b then .dead else .dB n i j L k
 | .agg cs=> .agg (AV.qz b kk xs cs)
 | .bj cs=> .bj (AV.qz b kk xs cs)
 | .fn f cs=> .fn f (AV.qz b kk xs cs)
 |x=>x
def AV.qz(b kk:Nat)(xs:aqP (aqP D)):aqP AV->aqP AV
 |[]=>[]
 |x::l=>x.dz b kk xs::AV.qz b kk xs l
end
theorem yw(b kk:Nat)(xs:aqP (aqP D)):∀l,AV.qz b kk xs l=l.map (AV.dz b kk xs)
 |[]=>by simp [AV.qz]
 |x::l=>by simp [AV.qz,yw b kk xs l]
theorem aH.dz{G G':Gh}{w:aqU}{b kk:Nat}{xs:aqP (aqP D)}(hE:bV G.N G w G' w)(hN:G'.N=G.N)(hp:∀(u:aqT)(o len:Nat),aH G w u (.vec b o len xs.length kk)->dw G'.S w u (.sl ((xs.drop o).take len))){u:aqT}{x:AV}(h:aH G w u x):aH G' w u (x.dz b kk xs):=by
 have keep:∀{u:aqT}{x:AV},aH G w u x->aH G' w u x:=λh=>h.keep hE (Nat.le_of_eq hN.symm);have fM:∀(vs:Array aqT)(cs:aqP AV),(∀(i:Nat)(u:aqT)(c:AV),vs[i]?=some u->cs[i]?=some c->aH G' w u (c.dz b kk xs))->∀(i:Nat)(u:aqT)(c:AV),vs[i]?=some u->(AV.qz b kk xs cs)[i]?=some c->aH G' w u c:=by
  intro vs cs ih i u c hu hc;rw[yw,ap8]at hc;cases hx:cs[i]? with
  |none=>rw[hx]at hc;cases hc
  |some x=>rw[hx]at hc;cases hc;exact ih i u x hu hx
 induction h with
 |agg vs cs hl _ ih=>rw[AV.dz];exact .agg vs _ (by rw[yw,ap6];exact hl) (fM vs cs ih)
 |bj vs cs hl _ ih=>rw[AV.dz];exact .bj vs _ (by rw[yw,ap6];exact hl) (fM vs cs ih)
 |fn f vs cs hl _ ih=>rw[AV.dz];exact .fn f vs _ (by rw[yw,ap6];exact hl) (fM vs cs ih)
 |vec n o len L k h hs hL hf=>
  rw[AV.dz,cond_eq_ite];split
  ·next e=>
   have e:n=b:=by simpa using e
   subst e;rw[cond_eq_ite];split
   ·next e2=>
    rw[ap3,beq_iff_eq,beq_iff_eq]at e2;obtain⟨rfl,rfl⟩:=e2;exact .d (hp _ o len (.vec n o len _ _ h hs hL hf))
   ·exact .dead _
  ·exact keep (.vec n o len L k h hs hL hf)
 |dB n i j L k h hs hL hf=>
  rw[AV.dz,cond_eq_ite];split
  ·exact .dead _
  ·exact keep (.dB n i j L k h hs hL hf)
 |ptr n off h=>simp only[AV.dz];exact keep (.ptr n off h)
 |own n xs h hp hle hf=>simp only[AV.dz];exact keep (.own n xs h hp hle hf)
 |d h=>simp only[AV.dz];exact keep (.d h)
 |bk xs i off b o u x hx hS hu=>simp only[AV.dz];exact keep (.bk xs i off b o u x hx hS hu)
 |full xs hp hf=>simp only[AV.dz];exact keep (.full xs hp hf)
 |row n off len cap k h hl hm=>simp only[AV.dz];exact keep (.row n off len cap k h hl hm)
 |mp n h=>simp only[AV.dz];exact keep (.mp n h)
 |cr n h=>simp only[AV.dz];exact keep (.cr n h)
 |hid h J=>simp only[AV.dz];exact keep (.hid h J)
 |dead u=>simp only[AV.dz];exact .dead u
theorem cY.Z5{G:Gh}{w:aqU}{a:Act}{s:St}(hs:cY G w a s)(xs:aqP (aqP D)){b e k:Nat}(hb:s.h[b]?=some (.vec e k (cp xs)))(jK:∀c∈xs,c.all D.AW=true)
 :∃G',bV G.N G w G' w/\G'.N=G.N/\cY G' w a ⟨s.n,s.t.map λp=>(p.1,p.2.dz b k xs),(s.h.map (aq.lU (AV.dz b k xs))).set b .gone⟩:=by
 obtain⟨L,hL⟩:∃L,xs.length=L:=⟨_,rfl⟩;have pQ:(cp xs).length=L:=by unfold cp;rw[ap6];exact hL
 have jF:=GJ hs.inv hb;have nS:∀d∈xs,d.length=k:=λd hd=>by
  have:=jF (d.map .d) (by unfold cp;exact List.mem_map.2 ⟨d,hd,rfl⟩)
  rwa [ap6]at this
 obtain⟨S,hS⟩:∃S:Nat->Nat->Prop,S=λc o=>G.S c o\/(bU s.h G b=some c/\o<L*k):=⟨_,rfl⟩;have hE:bV G.N G w {G with S:=S} w:=⟨aqc _,λb o h=>by show S b o;rw[hS];exact .inl h,λ_ _ _=>rfl,λ_ _=>rfl,λ_ _=> .inl ⟨rfl,rfl⟩,im rfl,λ_ _=>rfl,rfl,rfl,rfl,λc o hq=>by
  have cE:S c o:=hq;rw[hS]at cE;rcases cE with h|⟨h,_⟩
  ·exact .inl h
  ·obtain⟨B,hB,fE⟩:=nI h;exact .inr ((hs.inv.dc b B hB).lH fE)⟩
 have hpd:∀(u:aqT)(o len:Nat),aH G w u (.vec b o len xs.length k)->dw S w u (.sl ((xs.drop o).take len)):=λu o len vG=>by
  rw[hL]at vG;have l9:=vG.vK hs.inv hb pQ;obtain⟨vh,⟨A,cc,q1,q2,q3,q4,q5⟩,_⟩:=l9;generalize hy:(xs.drop o).take len=ys;have qc:ys.length=len:=by rw[<-hy,List.length_take,List.length_drop];omega
  rw[q1,<-qc];show dw S w _ _;by_cases hh0:True
  ·skip
   by_cases h0:len=0
   ·have:ys=[]:=List.eq_nil_of_length_eq_zero (by omega);subst this;exact .sl A 0 0 cc 0 [] (λ_ _=>undef) (λh=>absurd rfl h) (Nat.zero_le _) q3 (λ_ h=>absurd h aqH) (λi j hi=>absurd hi (aqt _)) (λi j x d hx=>by simp at hx)
   ·obtain⟨g,cap,s1,rfl,s3⟩:=q5 (by omega);obtain⟨g',GL,cur,r1,r2,r3,r4,r5,r6,r7,r8,r9⟩:=Cw hs.inv hb (λe=>by rw[e]at pQ;simp at pQ;omega);rw[r2]at s1;cases s1
    have mD:bU s.h G b=some g:=(dJ hb).trans r1;have jW:∀i,i<len->ys[i]?=xs[o+i]?:=λi dY=>by rw[<-hy,List.getElem?_take_of_lt dY,List.getElem?_drop]
    have iu:∀i j,i<len->j<k->o*k+i*k+j<cur.size:=λi j hi hj=>by
     have:=m9 (i:=o+i) (k:=k) (L:=(cp xs).length) (j:=j) (by omega) hj;rw[Nat.add_mul]at this;have h2:(cp xs).length*k<=cap*k:=Nat.mul_le_mul_right k (by omega);rw[r7];omega
    have sD:∀(i j:Nat)(x:aqP D)(d:D),i<len->ys[i]?=some x->x[j]?=some d->aH G w (cur.getD (o*k+i*k+j) undef) (.d d):=λi j x d hi hx hd=>by
     rw[jW i hi]at hx;have hj:j<k:=by rw[<-nS x (aqe hx)];exact(ap1.1 hd).1
     refine r9 (o+i) j (x.map .d) (.d d) _ (by unfold cp;rw[ap8,hx];rfl) (by rw[ap8,hd];rfl) ?_;have hc:=iu i j hi hj;rw[show(o+i)*k+j=o*k+i*k+j by rw[Nat.add_mul]];simp [Array.getD,hc]
    refine .sl _ g (o*k) cc k ys (λi j=>cur.getD (o*k+i*k+j) undef) (λ_=>rfl) (by omega) q3 (λx hx=> ?_) (λi j hi hj=>⟨?_,?_,?_⟩) (λi j x d hx hd=> ?_)
    ·rw[<-hy]at hx;exact nS x (List.mem_of_mem_drop (List.mem_of_mem_take hx))
    ·rw[hS];refine .inr ⟨mD,?_⟩;have:=m9 (i:=o+i) (k:=k) (L:=(cp xs).length) (j:=j) (by omega) hj;rw[Nat.add_mul]at this;exact this
    ·rw[cell_of_row w g _ cur e (0,0) r4];have hc:=iu i j (by omega) hj;simp [Array.getD,hc]
    ·have dY:i<len:=by omega
     obtain⟨x,hx⟩:∃x,ys[i]?=some x:=⟨_,ap5 hi⟩;have zj:=hx;rw[jW i dY]at zj;have jY:=aqe zj;obtain⟨d,hd⟩:∃d,x[j]?=some d:=⟨_,ap5 (by rw[nS x jY];exact hj)⟩;refine(sD i j x d dY hx hd).kH ?_;have J:=jK x jY;rw[aqr]at J;have h2:=J d (aqe hd);cases d with
     |v u=>exact h2
     |sl l=>rfl
     |ag l=>exact absurd h2 Bool.false_ne_true
    ·have dY:i<len:=by rw[<-qc];exact(ap1.1 hx).1
     have:=sD i j x d dY hx hd;generalize cur.getD (o*k+i*k+j) undef=q at this;cases this with|d h=>exact h.keep hE.S hE.cell
  ·exact(hh0 trivial).elim
 have hinv:=anp (b:=b) (f:=AV.dz b k xs) hs.inv hE (λc o hq=>by rw[hS]at hq;exact hq.imp id And.left) (λhq=>hq.dz hE rfl hpd);have cE:cY {G with S:=S} w a ⟨s.n,s.t.map λp=>(p.1,p.2.dz b k xs),(s.h.map (aq.lU (AV.dz b k xs))).set b .gone⟩:=by
  refine⟨hs.size,λi=> ?_,hinv,hs.df⟩;show aH _ _ _ (bp (s.t.map λp=>(p.1,p.2.dz b k xs)) i);rw[Ip (AV.dz b k xs) (by simp [AV.dz])];exact(hs.tmp i).dz hE rfl hpd
 exact⟨_,hE,rfl,cE⟩
def yi(P:aqS)(rs:aqP ResultVar)(m:Nat)(s:St):aqR (AV×aqP aq):=
 match sI P s rs with
 |some l=>bif ct m s.h.length&&((kp l).bx m).aE m&&(((s.h.take m).map (aq.bx m)).all (aq.aE m))then some (((kp l).bx m).nrm,((s.h.take m).map (aq.bx m)).map aq.qd)else none
 |none=>none
def uo(P:aqS)(fn:Func)(m:Nat)(R:AV)(H:aqP aq):Exit->St->Prop
 | .normal,s=>yi P fn.results.toList m s=some (R,H)
 | .ret,s=>yi P fn.results.toList m s=some (R,H)
 |_,_=>False
theorem aby{P:aqS}{s:St}{fn:Func}{m:Nat}{R:AV}{H:aqP aq}(h:yi P fn.results.toList m s=some (R,H)):qS P fn m (λr h'=>r.nrm=R/\h'.map aq.qd=H) s:=by
 unfold yi at h;split at h
 ·next l e=>
  obtain⟨hb,he⟩:=eD h;cases he
  simp only[ap3,dh]at hb;exact Gu _ _ _ e ⟨hb.1.1,hb.1.2,hb.2,rfl,rfl⟩
 ·cases h
theorem jA{P:aqS}{s:St}{fn:Func}{m:Nat}{R:AV}{H:aqP aq}(h:yi P fn.results.toList m s=some (R,H)):uo P fn m R H .ret s:=h
theorem rK{P:aqS}{f:FuncId}{fn:Func}{c:Code}{args:aqP AV}{h H:aqP aq}{R:AV}(m:Nat)(hf:P.funcs[f]?=some fn)(hb:fn.body=some c)(hn:(fn.name== "runtime.NumGoroutine")=false)(hm:h.length<=m)
 (hw:bH P none h.length c (uo P fn m R H) {n:=args.length+(fn.ntmps-args.length),t:=l5 0 args,h:=h}):cV P f args h λr1 J=>r1=R/\J=H:=by
 have h0:=vV (P:=P) (f:=f) (args:=args) (h:=h) (K:=λr h'=>r.nrm=R/\h'.map aq.qd=H) m hf hb hn hm (hw.mono λe s hq=>by
  cases e with
  |normal=>exact aby hq
  |ret=>exact aby hq
  |_=>exact hq.elim)
 refine⟨h0.1,λG w vs hi hl hr=>(h0.2 G w vs hi hl hr).mono λe w' hp=> ?_⟩;obtain⟨v,G',x,h',rfl,hE,hN,dY,hv,rfl,rfl⟩:=hp;exact⟨v,G',x.nrm,_,rfl,hE,hN,Tg dY,hv.nrm,rfl,rfl⟩
theorem mz{P:aqS}{r:aqR Nat}{N0:Nat}{c:Code}{s s':St}{Q:Exit->St->Prop}(e:s=s')(h:bH P r N0 c Q s'):bH P r N0 c Q s:=e▸h
def gv{V:Type}:aqP (aqQ×V)->aqQ->V->V
 |[],_,d=>d
 |(k,v)::l,s,d=>bif bL k==bL s then v else gv l s d
def mq{V:Type}:aqP (aqQ×V)->aqQ->Bool
 |[],_=>false
 |(k,_)::l,s=>bif bL k==bL s then true else mq l s
def fq(l:aqP (aqQ×Int)):aqP (aqQ×D):=l.map λp=>(p.1, .v (.int .i64 p.2))
def BZ(l:aqP (aqQ×Bool)):aqP (aqQ×D):=l.map λp=>(p.1, .v (.bool p.2))
theorem acN{V:Type}(f:V->D):∀(l:aqP (aqQ×V))(s:aqQ)(d:V),lK (l.map λp=>(p.1,f p.2)) s=bif mq l s then some (f (gv l s d))else none
 |[],s,d=>rfl
 |(k,v)::l,s,d=>by
  simp only[aqq,lK,mq,gv];cases bL k==bL s with
  |true=>rfl
  |false=>simp only[cond_false];exact acN f l s d
theorem Vi{V:Type}:∀(l:aqP (aqQ×V))(s:aqQ)(d:V),mq l s=false->gv l s d=d
 |[],s,d,_=>rfl
 |(k,v)::l,s,d,h=>by
  unfold mq at h;unfold gv;cases e:bL k==bL s with
  |true=>rw[e]at h;cases h
  |false=>rw[e]at h;simp only[cond_false];exact Vi l s d h
theorem SZ{V:Type}(f:V->D)(F:V->AV)(hF:∀x,MG (f x)=F x)(z:aqT)(d0:V)(hz:B4 z=F d0)(ok:Bool)(l:aqP (aqQ×V))(s:aqQ):
 sa ok z (lK (l.map λp=>(p.1,f p.2)) s)=bif ok then .bj [F (gv l s d0), .d (.v (.bool (mq l s)))]else F (gv l s d0):=by
 rw[acN f l s d0];cases e:mq l s with
 |true=>cases ok<;>simp only[sa,cond_true,cond_false,hF]
 |false=>rw[Vi l s d0 e];cases ok<;>simp only[sa,cond_true,cond_false,hz]
theorem DB(ok:Bool)(l:aqP (aqQ×Int))(s:aqQ):sa ok (.int .i64 0) (lK (fq l) s)=bif ok then .bj [.d (.v (.int .i64 (gv l s 0))), .d (.v (.bool (mq l s)))]else .d (.v (.int .i64 (gv l s 0))):=
 SZ (λn=> .v (.int .i64 n)) (λn=> .d (.v (.int .i64 n))) (λ_=>rfl) _ 0 rfl ok l s
theorem ao7(ok:Bool)(l:aqP (aqQ×Bool))(s:aqQ):sa ok (.bool false) (lK (BZ l) s)=bif ok then .bj [.d (.v (.bool (gv l s false))), .d (.v (.bool (mq l s)))]else .d (.v (.bool (gv l s false))):=
 SZ (λn=> .v (.bool n)) (λn=> .d (.v (.bool n))) (λ_=>rfl) _ false rfl ok l s
def cf{α:Type}(f:α->aqP D)(l:aqP (aqQ×α)):aqP (aqQ×D):=l.map λp=>(p.1, .ag (f p.2))
theorem afy{α:Type}(f:α->aqP D)(z:aqT)(d0:α)(hz:B4 z= .agg ((f d0).map .d))(ok:Bool)(l:aqP (aqQ×α))(s:aqQ):
 sa ok z (lK (cf f l) s)=bif ok then .bj [.agg ((f (gv l s d0)).map .d), .d (.v (.bool (mq l s)))]else .agg ((f (gv l s d0)).map .d):=
 SZ (λx=> .ag (f x)) (λx=> .agg ((f x).map .d)) (λ_=>rfl) _ d0 hz ok l s
theorem aeS{α:Type}{f:α->aqP D}{l:aqP (aqQ×α)}(h:Nat.blt l.length 9223372036854775807=true):(Sd.lt (cf f l).length).ok:=by
 unfold cf;rw[ap6];exact ap9 h
theorem Rm{l:aqP (aqQ×Int)}(h:Nat.blt l.length 9223372036854775807=true):(Sd.lt (fq l).length).ok:=by
 unfold fq;rw[ap6];exact ap9 h
theorem aoK{l:aqP (aqQ×Bool)}(h:Nat.blt l.length 9223372036854775807=true):(Sd.lt (BZ l).length).ok:=by
 unfold BZ;rw[ap6];exact ap9 h
def gI(g:Nat):aqP Int:=((zT Bf g).getD []).map λv=>match v with| .int _ n=>n|_=>0
def aeG(l:aqP Int):aqQ:=⟨(l.map λn=>UInt8.ofNat n.toNat).toArray⟩
theorem anK{α:Type}{c:Bool}{x y z:α}(h:(bif c then x else y)=z):(c=true/\x=z)\/(c=false/\y=z):=by
 cases c with
 |true=>exact .inl ⟨rfl,h⟩
 |false=>exact .inr ⟨rfl,h⟩
inductive HD
 |same
 |push (B:aq)
 |set (n:Nat) (B:aq)
def HD.app:HD->aqP aq->aqP aq
 | .same,h=>h
 | .push B,h=>h++[B]
 | .set n B,h=>h.set n B
def zN:Int->aqR Nat
 | .ofNat n=>some n
 | .negSucc _=>none
theorem Dz{z:Int}{n:Nat}(h:zN z=some n):0<=z/\z.toNat=n:=by
 cases z with
 |ofNat m=>cases h;exact⟨Int.natCast_nonneg _,rfl⟩
 |negSucc m=>cases h
def um(ρ:Operand->AV)(d:Nat):aqR Operand->aqR Nat
 |none=>some d
 |some y=>match (ρ y).int? with
  |some z=>zN z
  |none=>none
def FP(k:Nat)(xs:aqP (aqP D)):Bool:=xs.all λc=>c.length==k
def H3(P:aqS)(T:TypeId)(x i:AV):aqR AV:=
 match fb P T with
 |some (_,k)=>match x with
  | .row n off len _ k'=>match i.int? with
    |some z=>match zN z with
     |some q=>bif k'==k&&ct (q+1) len then some (.ptr n (off+q*k))else none
     |none=>none
    |none=>none
  |x=>match x.fW,i.int? with
   |some xs,some z=>match zN z with
    |some q=>match xs[q]? with
     |some c=>bif c.length==k then some (.bk [c] 0 0)else none
     |none=>none
    |none=>none
   |_,_=>none
 |none=>match ud P T,x,i.int? with
  |some (n,_,k), .ptr b off,some z=>match zN z with
   |some q=>bif ct (q+1) n then some (.ptr b (off+q*k))else none
   |none=>none
  |some (n,_,k), .bk xs e off,some z=>match zN z with
   |some q=>bif k==1&&ct (q+1) n then match xs[e]? with
    |some c=>match c[off+q]? with
     |some d=>some (.bk [[d]] 0 0)
     |none=>none
    |none=>none
    else none
   |none=>none
  |_,_,_=>none
theorem amG{P:aqS}{T:TypeId}{x i y:AV}{K:AV->Prop}(h:H3 P T x i=some y)(hK:K y):ua P T x i K:=by
 unfold H3 at h;unfold ua;split at h
 ·next e k eT=>
  simp only[eT];split at h
  ·next n off len cap k'=>
   simp only;split at h
   ·next z ez=>
    simp only[ez];split at h
    ·next q eq=>
     obtain⟨h0,J⟩:=Dz eq;obtain⟨hb,he⟩:=eD h;rw[ap3,dh]at hb;refine bX.2 ⟨hb.1,h0,by omega,?_⟩;rw[J,he];exact hK
    ·cases h
   ·cases h
  ·next x' nx=>
   split at h
   ·next xs z e1 e2=>
    split at h
    ·next q eq=>
     obtain⟨h0,J⟩:=Dz eq;split at h
     ·next c ec=>
      obtain⟨hb,he⟩:=eD h;simp only[e1,e2];refine⟨h0,?_⟩;rw[J,ec];exact⟨by simpa using hb,by rw[he];exact hK⟩
     ·cases h
    ·cases h
   ·cases h
 ·next eT=>
  simp only[eT];split at h
  ·next n e k b off z e1 e2=>
   simp only[e1,e2];split at h
   ·next q eq=>
    obtain⟨h0,J⟩:=Dz eq;obtain⟨hb,he⟩:=eD h;rw[dh]at hb;exact⟨h0,by omega,by rw[J,he];exact hK⟩
   ·cases h
  ·next n e0 k xs e off z e1 e2=>
   simp only[e1,e2];split at h
   ·next q eq=>
    obtain⟨h0,J⟩:=Dz eq;obtain⟨hb,h⟩:=lx h;rw[ap3,dh]at hb;split at h
    ·next c ec=>
     split at h
     ·next d ed=>
      cases h
      refine bX.2 ⟨hb.1,h0,by omega,?_⟩;rw[ec];simp only;rw[J,ed];exact hK
     ·cases h
    ·cases h
   ·cases h
  ·cases h
def apQ(P:aqS)(T:TypeId)(ρ:Operand->AV)(x:AV)(lo hi mx:aqR Operand):aqR AV:=
 match mx with
 |none=>
  match x with
  | .d (.v (.string b))=>match um ρ b.size hi,um ρ 0 lo with
    |some h,some l=>bif iD P T&&ct h b.size&&ct l h then some (.d (.v (.string (b.extract l h))))else none
    |_,_=>none
  | .ptr n off=>match ud P T with
    |some (m,_,k)=>match um ρ m hi,um ρ 0 lo with
     |some h,some l=>bif ct m 4096&&ct h m&&(ct l h&& !ct m l)then some (.row n (off+l*k) (h-l) (m-l) k)else none
     |_,_=>none
    |none=>none
  |x=>match x.fW,fb P T with
   |some xs,some (_,k)=>match um ρ xs.length hi,um ρ 0 lo with
    |some h,some l=>bif FP k xs&&ct h xs.length&&ct l h then some (.d (.sl ((xs.take h).drop l)))else none
    |_,_=>none
   |_,_=>none
 |some m=>match lo,hi with
  |none,some y=>match x.fW,fb P T with
   |some xs,some (_,k)=>match um ρ 0 (some m),um ρ 0 (some y)with
    |some c,some h=>bif FP k xs&&ct c xs.length&&h==c then some (.full (xs.take h))else none
    |_,_=>none
   |_,_=>none
  |_,_=>none
def apY(P:aqS)(T:TypeId)(h:aqP aq)(x y:AV):aqR (AV×HD):=
 match fb P T with
 |some (e,k)=>match iQ P e,rN P e with
  |some z,some c6=>match ML h k y with
   |some ys=>bif ct 1 k&&z.cells.toList.length==k&&FP k ys then
    match x with
    | .own n xs=>match h[n]? with
      |some (.front e' k' len)=>bif e'==e&&k'==k&&len==xs.length&&FP k xs&&ct (xs.length+ys.length) maxLen&&ct ((xs.length+ys.length)*c6) 140737488355328 then some (.own n (xs++ys), .set n (.front e k (xs.length+ys.length)))else none
      |_=>none
    | .d (.v (.slice none 0 0))=>bif ct ys.length maxLen&&ct (ys.length*c6) 140737488355328 then some (.own h.length ys, .push (.front e k ys.length))else none
    | .full xs=>bif FP k xs&&ct (xs.length+ys.length) maxLen&&ct ((xs.length+ys.length)*c6) 140737488355328 then some (.own h.length (xs++ys), .push (.front e k (xs.length+ys.length)))else none
    |_=>none
    else none
   |none=>none
  |_,_=>none
 |none=>none
def abX:aqP (aqP D)->aqR (aqP Int)
 |[]=>some []
 |[.v (.int .u8 n)]::l=>match abX l with
  |some ns=>some (n::ns)
  |none=>none
 |_=>none
def TN:aqR (AV×In)->aqR AV
 |some (x, .none)=>some x
 |some (x, .nz b)=>bif b==0 then none else some x
 |some (x, .nn b)=>match zN b with
  |some _=>some x
  |none=>none
 |some (x, .cat n)=>bif ct n maxLen then some x else none
 |_=>none
theorem alU{r:aqR (AV×In)}{x:AV}(P:aqS)(h:TN r=some x):∃i,r=some (x,i)/\OK P i .ok:=by
 unfold TN at h;split at h
 ·cases h;exact⟨_,rfl, .none⟩
 ·next b=>
  cases hb:b==0 with
  |true=>rw[hb]at h;cases h
  |false=>rw[hb]at h;cases h;exact⟨_,rfl, .nz (by simpa using hb)⟩
 ·next b=>
  split at h
  ·next e=>cases h;exact⟨_,rfl, .nn (Dz e).1⟩
  ·cases h
 ·obtain⟨hb,he⟩:=eD h;cases he
  exact⟨_,rfl, .cat (dh.1 hb)⟩
 ·cases h
def pX(r:aqR AV):aqR (AV×HD):=
 match r with
 |some x=>some (x, .same)
 |none=>none
def apU(P:aqS)(src dst:TypeId)(x:AV):aqR AV:=
 match Ib P src dst x .none with
 |some (y, .none)=>some y
 |_=>match x.fW,fb P src with
  |some xs,some (e,_)=>match abX xs with
   |some ns=>match x with
    | .d (.v _)=>none
    |_=>bif Dw P e&&iD P dst then some (.d (.v (.string (aeG ns))))else none
   |none=>none
  |_,_=>none
def mw(P:aqS)(op:Op)(ρ:Operand->AV)(h:aqP aq):aqR (AV×HD):=
 match op with
 | .move x| .assign x=>some (ρ x, .same)
 | .pick c x y=>match ρ c with
   | .d (.v (.bool b))=>some (bif b then ρ x else ρ y, .same)
   |_=>none
 | .alloc e=>match iQ P e with
   |some z=>some (.ptr h.length 0, .push (.cells (z.cells.toList.map λu=> .d (.v u))))
   |none=>none
 | .box _ x=>bif (ρ x).jN then some (.ptr h.length 0, .push (.cells (ρ x).cells))else none
 | .load t p=>match yn h (ρ p)with
   |some (cs,off)=>pX (Al P t cs off)
   |none=>none
 | .store t p x=>match ρ p with
   | .ptr n off=>match h[n]? with
     |some (.cells cs)=>match gx P t with
      |some k=>bif k==(ρ x).cells.length&&(ρ x).jN&&ct (off+(ρ x).cells.length) cs.length then some (.d (.v undef), .set n (.cells (ji cs off (ρ x).cells)))else none
      |none=>none
     |_=>none
   |_=>none
 | .nilCheck x=>match ρ x with
   | .ptr n off=>some (.ptr n off, .same)
   | .bk xs i off=>some (.bk xs i off, .same)
   | .fn f cs=>some (.fn f cs, .same)
   |_=>none
 | .fieldAddr S x f=>match th P S f with
   |some (fo,_,_)=>match ρ x with
    | .ptr n off=>some (.ptr n (off+fo), .same)
    | .bk xs i off=>some (.bk xs i (off+fo), .same)
    |_=>none
   |none=>none
 | .field T x f=>pX (HA P T (ρ x) f)
 | .indexAddr T x i=>pX (H3 P T (ρ x) (ρ i))
 | .extract x i=>match ρ x with
   | .bj cs=>match cs[i]? with
     |some c=>some (c, .same)
     |none=>none
   |_=>none
 | .makeFunc (.func f) first db=>match first.toList with
   |[]=>some (.fn f (db.toList.map ρ), .same)
   |_=>none
 | .binOp op T x y _=>pX (TN (Jf P T op (ρ x) (ρ y)))
 | .unOp op _ x=>match ρ x with
   | .d (.v u)=>match J4 op u with
     |some v=>some (.d (.v v), .same)
     |none=>none
   |_=>none
 | .call c=>match c.callee with
   | .builtin .len=>match c.args.toList,c.argTypes.toList with
     |[x],[T]=>match ρ x with
      | .d (.v (.string s))=>bif iD P T then some (.d (.v (.int .i64 s.size)), .same)else none
      | .row _ _ len _ _=>bif (fb P T).isSome then some (.d (.v (.int .i64 len)), .same)else none
      |x=>match x.fW with
       |some xs=>bif (fb P T).isSome then some (.d (.v (.int .i64 xs.length)), .same)else none
       |none=>none
     |_,_=>none
   |_=>none
 |_=>none
theorem I3{r:aqR AV}{x:AV}{d:HD}(h:pX r=some (x,d)):r=some x/\d= .same:=by
 unfold pX at h;split at h
 ·cases h;exact⟨rfl,rfl⟩
 ·cases h
theorem acC{P:aqS}{o:Oper}{ρ:Operand->AV}{h:aqP aq}{x:AV}{d:HD}{C:AV->aqP aq->Prop}(J:mw P o.op ρ h=some (x,d))(hC:C x (d.app h)):cQ P o ρ h C:=by
 obtain⟨dst,op,type,pos,after,guard⟩:=o;simp only at J;unfold mw at J;unfold cQ;split at J
 ·cases J;exact hC
 ·cases J;exact hC
 ·next c y z=>
  split at J
  ·next b e=>
   cases J
   simp only[e];cases b with
   |true=>exact⟨λ_=>hC,λh=>Bool.noConfusion h⟩
   |false=>exact⟨λh=>Bool.noConfusion h,λ_=>hC⟩
  ·cases J
 ·split at J
  ·next z e=>cases J;simp only[e];exact hC
  ·cases J
 ·obtain⟨hb,he⟩:=eD J;cases he;exact bX.2 ⟨hb,hC⟩
 ·split at J
  ·next cs off e=>
   obtain⟨e2,rfl⟩:=I3 J;exact RS e e2 hC
  ·cases J
 ·split at J
  ·next n off e=>
   split at J
   ·next cs e2=>
    split at J
    ·next k e3=>obtain⟨hb,he⟩:=eD J;cases he;simp only[e,xP,e2,e3];exact bX.2 ⟨hb,hC⟩
    ·cases J
   ·cases J
  ·cases J
 ·split at J
  ·next e=>cases J;simp only[e];exact hC
  ·next e=>cases J;simp only[e];exact hC
  ·next e=>cases J;simp only[e];exact hC
  ·cases J
 ·split at J
  ·next e=>
   simp only[e];split at J
   ·next e2=>cases J;simp only[e2];exact hC
   ·next e2=>cases J;simp only[e2];exact hC
   ·cases J
  ·cases J
 ·obtain⟨e,rfl⟩:=I3 J;exact Zh e hC
 ·obtain⟨e,rfl⟩:=I3 J;exact amG e hC
 ·split at J
  ·next e=>
   split at J
   ·next e2=>cases J;simp only[e,e2];exact hC
   ·cases J
  ·cases J
 ·split at J
  ·next e=>cases J;simp only[e];exact hC
  ·cases J
 ·obtain⟨e,rfl⟩:=I3 J;obtain⟨i,e2,cd⟩:=alU P e;exact aaa e2 cd hC
 ·unfold xB;split at J
  ·next e=>
   split at J
   ·next e2=>cases J;simp only[e,e2];exact hC
   ·cases J
  ·cases J
 ·next c=>
  split at J
  ·next hc=>
   simp only[hc];split at J
   ·next y T e1 e2=>
    simp only[e1,e2];unfold sZ;split at J
    ·next s e=>obtain⟨hb,he⟩:=eD J;cases he;simp only[e];exact bX.2 ⟨hb,hC⟩
    ·next e=>obtain⟨hb,he⟩:=eD J;cases he;simp only[e];exact bX.2 ⟨hb,hC⟩
    ·next n1 n2=>
     split at J
     ·next xs e=>
      obtain⟨hb,he⟩:=eD J;cases he;split
      ·next s e'=>exact absurd e' (n1 s)
      ·next e'=>exact absurd e' (n2 _ _ _ _ _)
      ·simp only[e];exact bX.2 ⟨hb,hC⟩
     ·cases J
   ·cases J
  ·cases J
 ·cases J
def dp(n:Nat)(t:aqP (Nat×AV)):aqP AV:=(List.range n).map (bp t)
theorem ajz{n:Nat}{t:aqP (Nat×AV)}{i:Nat}{c:AV}(h:(dp n t)[i]?=some c):bp t i=c:=by
 unfold dp at h;rw[ap8]at h;by_cases hi:i<n
 ·rw[List.getElem?_range hi]at h;exact aqk h
 ·rw[aqx (by simpa using hi)]at h;cases h
def NY(P:aqS)(N0:Nat)(Q:Exit->St->Prop)(s:St):LS->Prop
 | .ready=>Q .normal s
 | .done c=>bH P none N0 c Q s
 | .busy=>False
theorem afV{P:aqS}{N0:Nat}{s:St}{Q:Exit->St->Prop}{g:Operand}{p:Nat}{assign body:Code}{gf:FuncId}{db:aqP AV}(hg:ev s g= .fn gf db)
 (hc:cV P gf (.cr s.h.length::db) (s.h++[.lp .ready p assign body (dp s.n s.t)]) λ_ h'=>∃(ls:LS)(p1:Nat)(tF tE:Code)(yR:aqP AV),h'[s.h.length]?=some (.lp ls p1 tF tE yR)/\NY P N0 Q ⟨s.n,s.t,h'.set s.h.length .gone⟩ ls):
 bH P none N0 (.rangeFunc g #[p] assign body) Q s:=by
 constructor
 intro G w a n hs hN;have hv:=hs.ev g;rw[hg]at hv;obtain⟨lb,ea,hl,hr⟩:∃lb:Array aqT,a.eval g= .func (.func gf) #[] lb/\lb.size=db.length/\∀(i:Nat)(u:aqT)(c:AV),lb[i]?=some u->db[i]?=some c->aH G w u c:=by
  generalize a.eval g=u at hv;cases hv with|fn _ vs _ hl hr=>exact⟨vs,rfl,hl,hr⟩
 obtain⟨Gy,jR⟩:=hc;refine wpIn_rangeFunc (F:=WF none) ?_;intro fn _;obtain⟨Hj,XK⟩:=ahn hs.inv;obtain⟨G0,lg⟩:∃G0:Gh,G0={G with Z:=λb=>G.Z b\/b=w.heap.size}:=⟨_,rfl⟩;obtain⟨w0,sr⟩:∃w0,w0=w.alloc (.deferred (some [])):=⟨_,rfl⟩;rw[<-lg,<-sr]at Hj XK;have cy:G0.N=G.N:=by rw[lg]
 have iA:w0.heap.size=w.heap.size+1:=by rw[sr];simp
 obtain⟨jk,zf,NQ⟩:=afJ XK fn a.tmps w.heap.size p assign body (dp s.n s.t) (by simp [dp,hs.size]) λi u c hu hc=>by
  have h9:=hs.tmp i;rw[ajz hc]at h9;have e:a.tmps.getD i undef=u:=by
   have aN:=(aqg.1 hu).1;rw[aqn aN]at hu;simp [Array.getD,aN];exact aqk hu
  rw[e]at h9;exact h9.keep Hj (Nat.le_of_eq cy.symm)
 obtain⟨w1,Bm⟩:∃w1,w1=w0.alloc (.loop {state:= .ready,pending:=none,fn:=fn,tmps:=a.tmps,params:= #[p],assign:=assign,body:=body,defers:=w.heap.size}):=⟨_,rfl⟩;obtain⟨G1,Tb⟩:∃G1:Gh,G1=G0.c7 w0.heap.size:=⟨_,rfl⟩;rw[<-Bm,<-Tb]at jk zf NQ;have gF:G1.N=G.N+1:=by rw[Tb,<-cy];rfl
 have aj5:G1.aR s.h.length=w.heap.size+1:=by rw[Tb,hs.inv.len,<-cy];simp [Gh.c7,iA]
 rw[iA]at NQ;have XL:bV G.N G w G1 w1:=Hj.trans (jk.less (Nat.le_of_eq cy.symm));refine⟨w.heap.size+1,[{target:= .collected w.heap.size,args:= #[]}],w1,{target:= .fn (.func gf) lb,args:= #[.func (.yield (w.heap.size+1)) #[] #[]]},w1,gf, #[.func (.yield (w.heap.size+1)) #[] #[]]++lb,w1,?_,?_,λ_ _=>trivial,?_,λh=>(by simp [WF,Fence.wide]at h),?_⟩
 ·rw[Bm,sr];exact run_enterLoop_outer _ _ _ _ _
 ·simp only[resolve,ea];simp [Deferred.ofValue,go_sem]
 ·simp [invoke,Qe Gy]
 have hK:=jR G1 w1 (#[.func (.yield (w.heap.size+1)) #[] #[]]++lb) zf (by simp [hl];omega) (λi u c hu hc=>by
  match i with
  |0=>
   rw[Array.getElem?_append_left (by simp)]at hu;simp at hu hc;subst hu;subst hc;exact NQ
  |i+1=>
   rw[Array.getElem?_append_right (by simp)]at hu;simp at hu hc;exact(hr i u c hu hc).keep XL (by rw[gF];exact Nat.le_succ _))
 refine CallsIn.mono (F:=WF none) (callsIn_wide (n:=n-1).2 hK) ?_;rintro e w2 ⟨v,G2,r,h',rfl,jG,hN2,Ju,_,ls,p1,tF,tE,yR,hk,Pr⟩;have AO:s.h.length<G1.N:=by rw[hs.inv.len,gF];exact aqN _
 have Ez:G2.aR s.h.length=w.heap.size+1:=(jG.aR _ AO).trans aj5;obtain⟨_,fn2,tm2,D2,g3,g4,g5,U2⟩:=KZ Ju hk;rw[Ez]at g3;have hEa:bV G.N G w G2 w2:=XL.trans (jG.less (by rw[gF];exact Nat.le_succ _));have MI:G.N<=G2.N:=by rw[gF]at hN2;omega
 obtain⟨ob,mD⟩:∃ob:Obj,ob= .loop {state:= .exhausted,pending:=ls.pd,fn:=fn2,tmps:=tm2,params:= #[p1],assign:=tF,body:=tE,defers:=D2}:=⟨_,rfl⟩;obtain⟨zE,zI⟩:=apH Ju hk ob;rw[Ez]at zE zI;have GH:bV G.N G w G2 (w2.putObj (w.heap.size+1) ob):=hEa.trans (zE.less MI);have hM:=hs.inv.gl.2;have Bg:G0.Z w.heap.size:=by rw[lg];exact .inr rfl
 have Wr:G2.Z w.heap.size:=jG.Z.1.1 _ (jk.Z.1.1 _ Bg);have hDh:(w2.putObj (w.heap.size+1) ob).heap[w.heap.size]?=some (.deferred (some [])):=by
  rw[zE.old _ Wr,jG.old _ (jk.Z.1.1 _ Bg),jk.old _ Bg,sr];exact World.alloc_heap_new w _
 have cE:cY G2 (w2.putObj (w.heap.size+1) ob) {a with defers:=[{target:= .collected w.heap.size,args:= #[]}]++a.defers} ⟨s.n,s.t,h'.set s.h.length .gone⟩:=by
  refine⟨hs.size,λi=>(hs.tmp i).keep GH MI,zI,?_⟩;obtain⟨l,l1,l2,l3⟩:=hs.df.keep GH;obtain⟨l',l1',V2,l3'⟩:=hs.df;have pQ:l=l':=by
   rw[l2]at V2;have aoQ:∀(x y:aqP Nat),x.map (λD=>({target:= .collected D,args:= #[]}:Deferred))=y.map (λD=>{target:= .collected D,args:= #[]})->x=y:=by
     intro x
     induction x with
     |nil=>intro y h;cases y with
      |nil=>rfl
      |cons b y=>simp at h
     |cons a x ih=>intro y h;cases y with
      |nil=>simp at h
      |cons b y=>simp at h;rw[h.1,ih y (by simpa using h.2)]
   exact aoQ _ _ V2
  refine⟨w.heap.size::l,?_,by rw[aqq,<-l2];rfl,λD hD=> ?_⟩
  ·rw[List.nodup_cons];exact⟨λh=>aqF _ (hs.inv.z _ (l3' _ (pQ▸h)).2.1),l1⟩
  ·rcases aqv.1 hD with rfl|hD
   ·exact⟨by rw[GH.Z.2];exact hM,Wr,hDh⟩
   ·exact l3 D hD
 subst mD;have CC:=λhb=>run_endLoop (P:=P) g3 hb;cases ls with
 |busy=>exact Pr.elim
 |ready=>
  refine⟨_,_,CC (by simp [LS.st]),?_⟩;exact⟨G2,_,GH.less hN,aqj hN MI,cE,Pr⟩
 |done c=>
  refine⟨_,_,CC (by simp [LS.st]),?_⟩;refine wpIn_mono (Pr.run G2 _ _ n (cE) (aqj hN MI)) λ_ _ _ hn=> ?_;exact hn.trans (GH.less hN)
set_option linter.unusedSimpArgs false
set_option linter.unusedVariables false
mutual
theorem GM:∀x:AV,x.aM id=x
 | .agg cs=>by rw[AV.aM,tk cs]
 | .bj cs=>by rw[AV.aM,tk cs]
 | .fn f cs=>by rw[AV.aM,tk cs]
 | .own .. =>by simp [AV.aM]
 | .d _=>by simp [AV.aM]
 | .ptr .. =>by simp [AV.aM]
 | .bk .. =>by simp [AV.aM]
 | .full _=>by simp [AV.aM]
 | .row .. =>by simp [AV.aM]
 | .mp _=>by simp [AV.aM]
 | .cr _=>by simp [AV.aM]
 | .vec .. =>by simp [AV.aM]
 | .dB .. =>by simp [AV.aM]
 | .hid _=>by simp [AV.aM]
 | .dead=>by simp [AV.aM]
theorem tk:∀l:aqP AV,AV.gn id l=l
 |[]=>by simp [AV.gn]
 |x::l=>by rw[AV.gn,GM x,tk l]
end
theorem Sg(B:aq):B.aM id=B:=by
 cases B with
 |cells cs=>simp only[aq.aM,tk]
 |lp ls p as bd cs=>simp only[aq.aM,tk]
 |it sn cs=>simp only[aq.aM,tk]
 |e9 T0 cs=>simp only[aq.aM,tk]
 |vec e k cs=>simp only[aq.aM];congr 1;exact(aqw λx _=>tk x).trans (List.map_id _)
 |_=>rfl
theorem aH.low{G:Gh}{w:aqU}{u:aqT}{x:AV}(h:aH G w u x):x.aE G.N=true:=by
 have lt:∀{n:Nat},n<G.N->(!ct G.N n)=true:=fun{n} hn=>by
  rw[Bool.not_eq_true',<-Bool.not_eq_true,dh];omega
 have fM:∀(vs:Array aqT)(cs:aqP AV),vs.size=cs.length->(∀(i:Nat)(u:aqT)(c:AV),vs[i]?=some u->cs[i]?=some c->c.aE G.N=true)->AV.kK G.N cs=true:=λvs cs hl h=>by
  rw[nv,aqr];intro c hc;obtain⟨i,hi,rfl⟩:=List.mem_iff_getElem.1 hc;exact h i vs[i] _ (aqn (by omega)) (ap5 hi)
 induction h with
 |agg vs cs hl _ ih=>rw[AV.aE];exact fM vs cs hl ih
 |bj vs cs hl _ ih=>rw[AV.aE];exact fM vs cs hl ih
 |fn f vs cs hl _ ih=>rw[AV.aE];exact fM vs cs hl ih
 |ptr n off h=>rw[AV.aE];exact lt h
 |own n xs h=>rw[AV.aE];exact lt h
 |row n off len cap k h=>rw[AV.aE];exact lt h
 |mp n h=>rw[AV.aE];exact lt h
 |cr n h=>rw[AV.aE];exact lt h
 |vec n o len L k h=>rw[AV.aE];exact lt h
 |dB n i j L k h=>rw[AV.aE];exact lt h
 |_=>simp [AV.aE]
def iJ(N0:Nat)(s s':St):Prop:=∀(G:Gh)(w:aqU)(a:Act),N0<=G.N->cY G w a s->∃G',bV N0 G w G' w/\N0<=G'.N/\cY G' w a s'
theorem iJ.refl(N0:Nat)(s:St):iJ N0 s s:=λG _ _ hN hs=>⟨G,bV.refl _ _ _,hN,hs⟩
theorem iJ.trans{N0:Nat}{s1 s2 s3:St}(h:iJ N0 s1 s2)(k:iJ N0 s2 s3):iJ N0 s1 s3:=λG w a hN hs=>by
 obtain⟨G1,e1,n1,J⟩:=h G w a hN hs;obtain⟨G2,e2,n2,h2⟩:=k G1 w a n1 J;exact⟨G2,e1.trans e2,n2,h2⟩
theorem iJ.of_eq{N0:Nat}{s s':St}(h:jC s s'):iJ N0 s s':=λG _ _ hN hs=>
 ⟨G,bV.refl _ _ _,hN,hs.size.trans h.n,λi=>by rw[<-h.t i];exact hs.tmp i,by rw[<-h.h];exact hs.inv,hs.df⟩
theorem iJ.aM{N0:Nat}{s s':St}(σ τ:Nat->Nat)(hn:s.n=s'.n)(hlen:s'.h.length=s.h.length)(aN:∀i,i<s.h.length->σ i<s.h.length)(hτ:∀i,i<s.h.length->τ i<s.h.length)
 (uB:∀i,i<s.h.length->τ (σ i)=i) (lT:∀i,i<s.h.length->σ (τ i)=i) (yD:∀i,i<N0->σ i=i)
 (ht:∀i,(bp s.t i).aE s.h.length=true->bp s'.t i=(bp s.t i).aM σ\/bp s'.t i= .dead) (hh:∀i,i<s.h.length->s'.h[σ i]?=(s.h[i]?).map (aq.aM σ)):iJ N0 s s':=λG w a hN hs=>by
 have hl:s.h.length=G.N:=hs.inv.len;rw[hl]at aN hτ uB lT hh hlen ht;have RV:∀i,i<N0->τ i=i:=λi hi=>by
  have J:=uB i (by omega);rw[yD i hi]at J;exact J
 let G':Gh:={G with aR:=λn=>G.aR (τ n),sg:=λn=>G.sg (τ n),ow:=λn=>G.ow (τ n),fl:=λn=>G.fl (τ n)}
 have hR:rm σ G G':=⟨aN,λn h=>by show G.aR (τ (σ n))=_;rw[uB n h],λn h=>by show G.sg (τ (σ n))=_;rw[uB n h],λn h=>by show G.fl (τ (σ n))=_;rw[uB n h],λn h=>by show G.ow (τ (σ n))=_;rw[uB n h],λ_ _=>Iff.rfl⟩;have hE:bV N0 G w G' w:=⟨aqc _,λ_ _ h=>h,λ_ _ _=>rfl,λn h=>by show G.aR (τ n)=_;rw[RV n h],λn h=> .inl ⟨by show G.fl (τ n)=_;rw[RV n h],by show G.sg (τ n)=_;rw[RV n h]⟩,im rfl,λ_ _=>rfl,rfl,rfl,rfl,λ_ _ h=> .inl h⟩;have fp:∀(n:Nat)(B:aq),s'.h[n]?=some B->∃m B0,m<G.N/\σ m=n/\s.h[m]?=some B0/\B=B0.aM σ:=λn B hB=>by
  have eX:n<G.N:=by have:=(ap1.1 hB).1;omega
  have J:=hh (τ n) (hτ n eX);rw[lT n eX,hB]at J;cases h2:s.h[τ n]? with
  |none=>rw[h2]at J;cases J
  |some B0=>rw[h2]at J;cases J;exact⟨τ n,B0,hτ n eX,lT n eX,h2,rfl⟩
 have eJ:∀(n b:Nat),bU s'.h G' n=some b->∃m,m<G.N/\σ m=n/\bU s.h G m=some b:=λn b hb=>by
  obtain⟨B,hB,hb⟩:=nI hb;obtain⟨m,B0,k1,k2,k3,rfl⟩:=fp n B hB;subst k2;rw[RZ hR k1]at hb;exact⟨m,k1,rfl,by rw[dJ k3];exact hb⟩
 refine⟨G',hE,hN,hs.size.trans hn,λi=> ?_,⟨hlen,hs.inv.z,hs.inv.S,λn B hB=> ?_,λm n b hm eX=> ?_,hs.inv.gl.keep hE⟩,hs.df.keep hE⟩
 ·have hv:=hs.tmp i;rcases ht i hv.low with e|e
  ·rw[e];exact hv.aM hR
  ·rw[e];exact .dead _
 ·obtain⟨m,B0,k1,k2,k3,rfl⟩:=fp n B hB;subst k2;have hb:=hs.inv.dc m B0 k3;exact eu.aM hR k1 (λb J=>hb.lH J) hb
 ·obtain⟨m',k1,k2,k3⟩:=eJ m b hm;obtain⟨n',j1,j2,j3⟩:=eJ n b eX;have:=hs.inv.inj m' n' b k3 j3;rw[<-k2,<-j2,this]
def TB:aqT->aqT->Bool
 | .bool a, .bool b=>a==b
 | .int k a, .int l b=>decide (k=l)&&decide (a=b)
 | .string a, .string b=>bL a==bL b
 | .pointer none, .pointer none=>true
 | .slice none a b, .slice none c d=>a==c&&b==d
 | .map none, .map none=>true
 | .nilFunc, .nilFunc=>true
 | .nilIface, .nilIface=>true
 | .tuple a, .tuple b=>a.size==0&&b.size==0
 |_,_=>false
theorem ahu{u v:aqT}(h:TB u v=true):u=v:=by
 unfold TB at h;split at h
 ·rw[beq_iff_eq]at h;subst h;rfl
 ·rw[ap3,decide_eq_true_eq,decide_eq_true_eq]at h;obtain⟨J,h2⟩:=h;subst J;subst h2;rfl
 ·rw[beq_iff_eq]at h;rw[JO h]
 ·rfl
 ·rw[ap3,beq_iff_eq,beq_iff_eq]at h;obtain⟨J,h2⟩:=h;subst J;subst h2;rfl
 ·rfl
 ·rfl
 ·rfl
 ·rw[ap3,beq_iff_eq,beq_iff_eq]at h;rw[Array.eq_empty_of_size_eq_zero h.1,Array.eq_empty_of_size_eq_zero h.2]
 ·cases h
mutual
def D.n9:D->D->Bool
 | .v a, .v b=>TB a b
 | .sl xs, .sl ys=>D.sV xs ys
 | .ag xs, .ag ys=>D.yu xs ys
 |_,_=>false
def D.sV:aqP (aqP D)->aqP (aqP D)->Bool
 |[],[]=>true
 |x::xs,y::ys=>D.yu x y&&D.sV xs ys
 |_,_=>false
def D.yu:aqP D->aqP D->Bool
 |[],[]=>true
 |x::xs,y::ys=>D.n9 x y&&D.yu xs ys
 |_,_=>false
end
mutual
theorem D.QC:∀x y:D,D.n9 x y=true->x=y
 | .v a, .v b,h=>by rw[D.n9]at h;rw[ahu h]
 | .sl xs, .sl ys,h=>by rw[D.n9]at h;rw[D.CE xs ys h]
 | .v _, .sl _,h=>by simp [D.n9]at h
 | .sl _, .v _,h=>by simp [D.n9]at h
 | .ag xs, .ag ys,h=>by rw[D.n9]at h;rw[D.Tu xs ys h]
 | .v _, .ag _,h=>by simp [D.n9]at h
 | .ag _, .v _,h=>by simp [D.n9]at h
 | .sl _, .ag _,h=>by simp [D.n9]at h
 | .ag _, .sl _,h=>by simp [D.n9]at h
theorem D.CE:∀x y:aqP (aqP D),D.sV x y=true->x=y
 |[],[],_=>rfl
 |x::xs,y::ys,h=>by rw[D.sV,ap3]at h;rw[D.Tu x y h.1,D.CE xs ys h.2]
 |[],_::_,h=>by simp [D.sV]at h
 |_::_,[],h=>by simp [D.sV]at h
theorem D.Tu:∀x y:aqP D,D.yu x y=true->x=y
 |[],[],_=>rfl
 |x::xs,y::ys,h=>by rw[D.yu,ap3]at h;rw[D.QC x y h.1,D.Tu xs ys h.2]
 |[],_::_,h=>by simp [D.yu]at h
 |_::_,[],h=>by simp [D.yu]at h
end
mutual
def AV.fS(σ:Nat->Nat):AV->AV->Bool
 | .d x,y=>(match y with| .d y=>D.n9 x y|_=>false)
 | .agg a,y=>(match y with| .agg b=>AV.qu σ a b|_=>false)
 | .bj a,y=>(match y with| .bj b=>AV.qu σ a b|_=>false)
 | .fn f a,y=>(match y with| .fn g b=>f==g&&AV.qu σ a b|_=>false)
 | .ptr n o,y=>(match y with| .ptr m p=>σ n==m&&o==p|_=>false)
 | .bk xs i o,y=>(match y with| .bk ys j p=>D.sV xs ys&&(i==j&&o==p)|_=>false)
 | .own n xs,y=>(match y with| .own m ys=>σ n==m&&D.sV xs ys|_=>false)
 | .full xs,y=>(match y with| .full ys=>D.sV xs ys|_=>false)
 | .row n i1 i2 i3 i4,y=>(match y with| .row m j1 j2 j3 j4=>σ n==m&&(i1==j1&&(i2==j2&&(i3==j3&&i4==j4)))|_=>false)
 | .mp n,y=>(match y with| .mp m=>σ n==m|_=>false)
 | .cr n,y=>(match y with| .cr m=>σ n==m|_=>false)
 | .vec n i1 i2 i3 i4,y=>(match y with| .vec m j1 j2 j3 j4=>σ n==m&&(i1==j1&&(i2==j2&&(i3==j3&&i4==j4)))|_=>false)
 | .dB n i1 i2 i3 i4,y=>(match y with| .dB m j1 j2 j3 j4=>σ n==m&&(i1==j1&&(i2==j2&&(i3==j3&&i4==j4)))|_=>false)
 | .dead,y=>(match y with| .dead=>true|_=>false)
 | .hid _,_=>false
def AV.qu(σ:Nat->Nat):aqP AV->aqP AV->Bool
 |[],y=>(match y with|[]=>true|_=>false)
 |x::xs,l=>(match l with|y::ys=>AV.fS σ x y&&AV.qu σ xs ys|_=>false)
end
mutual
theorem AV.Kn(σ:Nat->Nat):∀x y:AV,AV.fS σ x y=true->y=x.aM σ
 | .d x,y,h=>by
   cases y with
   |d y=>simp only[AV.fS,ap3,beq_iff_eq]at h;rw[AV.aM,D.QC _ _ h]
   |_=>simp [AV.fS]at h
 | .agg a,y,h=>by
   cases y with
   |agg b=>simp only[AV.fS,ap3,beq_iff_eq]at h;rw[AV.aM,AV.yo σ _ _ h]
   |_=>simp [AV.fS]at h
 | .bj a,y,h=>by
   cases y with
   |bj b=>simp only[AV.fS,ap3,beq_iff_eq]at h;rw[AV.aM,AV.yo σ _ _ h]
   |_=>simp [AV.fS]at h
 | .fn f a,y,h=>by
   cases y with
   |fn g b=>simp only[AV.fS,ap3,beq_iff_eq]at h;rw[AV.aM,AV.yo σ _ _ h.2,h.1]
   |_=>simp [AV.fS]at h
 | .ptr n o,y,h=>by
   cases y with
   |ptr m p=>simp only[AV.fS,ap3,beq_iff_eq]at h;rw[AV.aM,h.1,h.2]
   |_=>simp [AV.fS]at h
 | .bk xs i o,y,h=>by
   cases y with
   |bk ys j p=>simp only[AV.fS,ap3,beq_iff_eq]at h;rw[AV.aM,D.CE _ _ h.1,h.2.1,h.2.2]
   |_=>simp [AV.fS]at h
 | .own n xs,y,h=>by
   cases y with
   |own m ys=>simp only[AV.fS,ap3,beq_iff_eq]at h;rw[AV.aM,D.CE _ _ h.2,h.1]
   |_=>simp [AV.fS]at h
 | .full xs,y,h=>by
   cases y with
   |full ys=>simp only[AV.fS,ap3,beq_iff_eq]at h;rw[AV.aM,D.CE _ _ h]
   |_=>simp [AV.fS]at h
 | .row n i1 i2 i3 i4,y,h=>by
   cases y with
   |row m j1 j2 j3 j4=>simp only[AV.fS,ap3,beq_iff_eq]at h;rw[AV.aM,h.1,h.2.1,h.2.2.1,h.2.2.2.1,h.2.2.2.2]
   |_=>simp [AV.fS]at h
 | .vec n i1 i2 i3 i4,y,h=>by
   cases y with
   |vec m j1 j2 j3 j4=>simp only[AV.fS,ap3,beq_iff_eq]at h;rw[AV.aM,h.1,h.2.1,h.2.2.1,h.2.2.2.1,h.2.2.2.2]
   |_=>simp [AV.fS]at h
 | .dB n i1 i2 i3 i4,y,h=>by
   cases y with
   |dB m j1 j2 j3 j4=>simp only[AV.fS,ap3,beq_iff_eq]at h;rw[AV.aM,h.1,h.2.1,h.2.2.1,h.2.2.2.1,h.2.2.2.2]
   |_=>simp [AV.fS]at h
 | .mp n,y,h=>by
   cases y with
   |mp m=>simp only[AV.fS,ap3,beq_iff_eq]at h;rw[AV.aM,h]
   |_=>simp [AV.fS]at h
 | .cr n,y,h=>by
   cases y with
   |cr m=>simp only[AV.fS,ap3,beq_iff_eq]at h;rw[AV.aM,h]
   |_=>simp [AV.fS]at h
 | .dead,y,h=>by
   cases y with
   |dead=>rw[AV.aM]
   |_=>simp [AV.fS]at h
 | .hid _,y,h=>by simp [AV.fS]at h
theorem AV.yo(σ:Nat->Nat):∀x y:aqP AV,AV.qu σ x y=true->y=AV.gn σ x
 |[],y,h=>by
  cases y with
  |nil=>rw[AV.gn]
  |cons=>simp [AV.qu]at h
 |x::xs,l,h=>by
  cases l with
  |nil=>simp [AV.qu]at h
  |cons y ys=>simp only[AV.qu,ap3]at h;rw[AV.gn,AV.Kn σ _ _ h.1,AV.yo σ _ _ h.2]
end
def Bi:aqP (aqQ×D)->aqP (aqQ×D)->Bool
 |[],[]=>true
 |(k,d)::l,(k',d')::l'=>bL k==bL k'&&D.n9 d d'&&Bi l l'
 |_,_=>false
theorem Xk:∀x y,Bi x y=true->x=y
 |[],[],_=>rfl
 |(k,d)::l,(k',d')::l',h=>by
  rw[Bi,ap3,ap3]at h;rw[JO (beq_iff_eq.1 h.1.1),D.QC _ _ h.1.2,Xk l l' h.2]
 |[],_::_,h=>by simp [Bi]at h
 |_::_,[],h=>by simp [Bi]at h
def Bo(σ:Nat->Nat):aqP (aqP AV)->aqP (aqP AV)->Bool
 |[],[]=>true
 |x::xs,y::ys=>AV.qu σ x y&&Bo σ xs ys
 |_,_=>false
theorem abL(σ:Nat->Nat):∀x y,Bo σ x y=true->y=x.map (AV.gn σ)
 |[],[],_=>rfl
 |x::xs,y::ys,h=>by
  rw[Bo,ap3]at h;rw[aqq,AV.yo σ x y h.1,abL σ xs ys h.2]
 |[],_::_,h=>by simp [Bo]at h
 |_::_,[],h=>by simp [Bo]at h
def aq.fS(σ:Nat->Nat):aq->aq->Bool
 | .cells a,y=>(match y with| .cells b=>AV.qu σ a b|_=>false)
 | .front e k l,y=>(match y with| .front e' k' l'=>e==e'&&(k==k'&&l==l')|_=>false)
 | .iP _ _,_=>false
 | .vec e k cs,y=>(match y with| .vec e' k' ds=>e==e'&&(k==k'&&Bo σ cs ds)|_=>false)
 | .map kv,y=>(match y with| .map dS=>Bi kv dS|_=>false)
 | .ja _,_=>false
 | .it sn cs,y=>(match y with| .it sn' ds=>sn==sn'&&AV.qu σ cs ds|_=>false)
 | .e9 _ _,_=>false
 | .gone,y=>(match y with| .gone=>true|_=>false)
 | .lp ..,_=>false
theorem aq.Kn(σ:Nat->Nat)(x y:aq)(h:aq.fS σ x y=true):y=x.aM σ:=by
 cases x<;>cases y<;>simp only[aq.fS,ap3,beq_iff_eq,Bool.false_eq_true]at h
 ·rw[aq.aM,AV.yo σ _ _ h]
 ·rw[aq.aM,h.1,h.2.1,h.2.2]
 ·rw[aq.aM,h.1,h.2.1,abL σ _ _ h.2.2]
 ·rw[aq.aM,Xk _ _ h]
 ·rw[aq.aM,h.1,AV.yo σ _ _ h.2]
 ·rfl
def fV(h0:Nat)(p:aqP Nat)(i:Nat):Nat:=bif ct h0 i then p.getD (i-h0) i else i
def AT(ts BM:aqP (Nat×AV))(ks:aqP Nat)(i:Nat):Nat:=
 match ks with
 |[]=>i
 |d::ks=>match bp ts d,bp BM d with
  | .ptr n _, .ptr m _=>bif n==i then m else AT ts BM ks i
  | .own n _, .own m _=>bif n==i then m else AT ts BM ks i
  | .vec n _ _ _ _, .vec m _ _ _ _=>bif n==i then m else AT ts BM ks i
  | .mp n, .mp m=>bif n==i then m else AT ts BM ks i
  |_,_=>AT ts BM ks i
def GN(s s':St)(ks:aqP Nat)(h0:Nat):Nat->aqP Nat
 |0=>[]
 |k+1=>AT s.t s'.t ks h0::GN s s' ks (h0+1) k
def Ug(h0:Nat)(ks:aqP Nat)(s s':St)(p q:aqP Nat):Bool:=
 (s'.h.length==s.h.length)&&(((List.range s.h.length).all λi=>ct (fV h0 p i+1) s.h.length&&ct (fV h0 q i+1) s.h.length&&fV h0 q (fV h0 p i)==i&&fV h0 p (fV h0 q i)==i)&&(ks.all (λd=>AV.fS (fV h0 p) (bp s.t d) (bp s'.t d))&&
  ((List.range s.h.length).all λi=>match s.h[i]?,s'.h[fV h0 p i]? with
    |some B,some B'=>aq.fS (fV h0 p) B B'
    |_,_=>false)))
def Ux(h0:Nat)(ks:aqP Nat)(s s':St):Bool:=Ug h0 ks s s' (GN s s' ks h0 (s.h.length-h0)) (GN s' s ks h0 (s.h.length-h0))
structure l4(ks:List Nat)(s0 s:St):Prop where
 n:s.n=s0.n
 t:∀d,d ∉ ks->bp s.t d=bp s0.t d
theorem l4.refl(ks:aqP Nat)(s:St):l4 ks s s:=⟨rfl,λ_ _=>rfl⟩
theorem l4.put{ks:aqP Nat}{s0 s:St}(h:l4 ks s0 s)(J:aqP aq){d:aqR Nat}(x:AV)(hd:∀k,d=some k->k∈ks):l4 ks s0 ((s.wh J).put d x):=
 ⟨by rw[rD];exact h.n,λi hi=>by
  rw[sW,if_neg]
  ·exact h.t i hi
  ·rintro⟨e,_⟩;exact hi (hd i e)⟩
theorem apS{N0 h0:Nat}{ks:aqP Nat}{s0 s s':St}(hN:N0<=h0)(nP:∀i,(bp s0.t i).aE h0=true)(hb:l4 ks s0 s)(fE:l4 ks s0 s')(h:Ux h0 ks s s'=true):iJ N0 s s':=by
 unfold Ux at h;generalize GN s s' ks h0 (s.h.length-h0)=p at h;generalize GN s' s ks h0 (s.h.length-h0)=q at h;unfold Ug at h;simp only[ap3,beq_iff_eq,aqr,List.mem_range,dh]at h;obtain⟨J,h2,h3,h4⟩:=h;have yD:∀i,i<h0->fV h0 p i=i:=λi hi=>by
  unfold fV;have:ct h0 i=false:=by rw[<-Bool.not_eq_true,dh];omega
  rw[this];rfl
 refine iJ.aM (fV h0 p) (fV h0 q) (hb.n.trans fE.n.symm) J (λi hi=>(h2 i hi).1.1.1) (λi hi=>(h2 i hi).1.1.2) (λi hi=>(h2 i hi).1.2) (λi hi=>(h2 i hi).2) (λi hi=>yD i (by omega)) (λi _=> ?_) λi hi=> ?_
 ·left
  by_cases hk:i∈ks
  ·exact AV.Kn _ _ _ (h3 i hk)
  ·rw[hb.t i hk,fE.t i hk,wZ (τ:=id) yD _ (nP i),GM]
 ·have h5:=h4 i hi;split at h5
  ·next B B' e1 e2=>rw[e1,e2,aq.Kn _ _ _ h5];rfl
  ·cases h5
def F2(N0:Nat)(K:St->Prop):Prop:=∀s s',iJ N0 s s'->K s'->K s
theorem F2.c{N0:Nat}{K:St->Prop}(h:F2 N0 K):rR K:=λs s' e hk=>h s' s (iJ.of_eq e.symm) hk
theorem Sp{P:aqS}{r:aqR Nat}{N0:Nat}{s:St}{Q:Exit->St->Prop}{m:Bool}{id:Nat}{ops:Array Oper}(hm:P.follows .mixedOrders=true)
 (h:N0<=s.h.length->(∀i,(bp s.t i).aE s.h.length=true)->lf m P ops (λs1=>∃s2,iJ N0 s1 s2/\Q .normal s2) ops.size (Array.replicate ops.size false) s):bH P r N0 (.region id ops true) Q s:=by
 constructor
 intro G w a n hs hN;obtain⟨d1,d2⟩:=hs.drew;refine wpIn_region_any hm ?_;have hl:=hs.inv.len;refine Gb (G:=G) (w:=w) (N0:=N0) (K:=λs1=>∃s2,iJ N0 s1 s2/\Q .normal s2) (λa' w' hn=> ?_) ops.size _ G _ a s (d1.less hN) hN d2 (h (by omega) λi=>by rw[hl];exact(hs.tmp i).low);obtain⟨G',s',x1,x2,x3,s2,e0,x4⟩:=hn;obtain⟨G2,y1,y2,y3⟩:=e0 G' w' a' x2 x3;exact⟨G2,s2,x1.trans y1,y2,y3,x4⟩
theorem TQ{N0:Nat}(Q:St->Prop):F2 N0 (λs1=>∃s2,iJ N0 s1 s2/\Q s2):=λ_ _ h ⟨s2,J,h2⟩=>⟨s2,h.trans J,h2⟩
def zh(f:Nat->Bool):Nat->Nat
 |0=>0
 |n+1=>bif f n then zh f n|||(1<<<n)else zh f n
theorem Hf(f:Nat->Bool):∀(n j:Nat),Nat.testBit (zh f n) j=(decide (j<n)&&f j)
 |0,j=>by simp [zh]
 |n+1,j=>by
  unfold zh;have ih:=Hf f n j;cases hf:f n with
  |true=>
   simp only[cond_true,Nat.testBit_or,ih,Nat.one_shiftLeft,Nat.testBit_two_pow];by_cases e:n=j
   ·subst e;simp [hf]
   ·have:decide (j<n+1)=decide (j<n):=by simp;omega
    rw[this];simp [e]
  |false=>
   simp only[cond_false,ih];by_cases e:n=j
   ·subst e;simp [hf]
   ·have:decide (j<n+1)=decide (j<n):=by simp;omega
    rw[this]
def fN{α:Type}(n:Nat)(f:Nat->α):α:=Nat.casesOn (Nat.succ n) (f 0) f
theorem A7{α:Type}(n:Nat)(f:Nat->α):fN n f=f n:=rfl
def fL{α:Type}:aqP Nat->(aqP Nat->α)->α
 |[],f=>f []
 |n::l,f=>fN n λn=>fL l λl=>f (n::l)
theorem yV{α:Type}:∀(l:aqP Nat)(f:aqP Nat->α),fL l f=f l
 |[],_=>rfl
 |n::l,f=>by rw[fL,A7,yV l]
section
variable (ops:Array Oper)
def AR(o:Oper)(n j:Nat):Bool:=o.after.any λe=>Region.binds .any e&&(e.on==j||(j==n&&ct n e.on))
def Nj(k:Nat):Nat:=match ops[k]? with
 |some o=>zh (AR o ops.size) (ops.size+1)
 |none=>1<<<ops.size
def Qw(m:Bool)(M:Array Nat)(k j:Nat):Bool:= !(j==k)&&(!((M.getD j 0).testBit k)&&match ops[k]?,ops[j]? with
 |some oi,some oj=> !(oi.apart ops oj&&BU m oi oj)
 |_,_=>true)
def vI(m:Bool)(M:Array Nat)(k:Nat):Nat:=zh (Qw ops m M k) ops.size
def pj:Nat->Nat->aqP Nat
 |_,0=>[]
 |k,n+1=>Nj ops k::pj (k+1) n
def kT(m:Bool)(M:Array Nat):Nat->Nat->aqP Nat
 |_,0=>[]
 |k,n+1=>vI ops m M k::kT m M (k+1) n
end
def qv:aqP Nat->Nat->Nat->aqP Nat
 |[],_,_=>[]
 |a::A,L,k=>bif !(Nat.testBit L k)&&(L&&&a==a)then k::qv A L (k+1)else qv A L (k+1)
def xk(C:aqP Nat)(L:Nat):aqP Nat->aqR Nat
 |[]=>none
 |k::r=>bif (C.getD k 0)|||L==L then some k else xk C L r
section
variable (ops:Array Oper) (st:Oper->St->aqR St) (h0:Nat) (ks A C:aqP Nat)
def pe:aqP Oper->aqP Nat
 |[]=>[]
 |o::l=>match o.dst with
  |some d=>d::pe l
  |none=>pe l
end
theorem HF:∀{l:aqP Oper}{o:Oper},o∈l->∀d,o.dst=some d->d∈pe l
 |[],_,h,_,_=>by cases h
 |a::l,o,h,d,hd=>by
  unfold pe;rcases aqv.1 h with rfl|h
  ·rw[hd];simp
  ·split
   ·exact aqa _ (HF h d hd)
   ·exact HF h d hd
theorem GD(ops:Array Oper):∀(n k i:Nat),(pj ops k n)[i]?=if i<n then some (Nj ops (k+i))else none
 |0,k,i=>by simp [pj]
 |n+1,k,0=>by simp [pj]
 |n+1,k,i+1=>by rw[pj,aqC,GD ops n (k+1) i];simp only[Nat.add_lt_add_iff_right];rw[show k+1+i=k+(i+1) by omega]
theorem Pc(ops:Array Oper)(m:Bool)(M:Array Nat):∀(n k i:Nat),(kT ops m M k n)[i]?=if i<n then some (vI ops m M (k+i))else none
 |0,k,i=>by simp [kT]
 |n+1,k,0=>by simp [kT]
 |n+1,k,i+1=>by rw[kT,aqC,Pc ops m M n (k+1) i];simp only[Nat.add_lt_add_iff_right];rw[show k+1+i=k+(i+1) by omega]
theorem GI{L:Nat}:∀(A:aqP Nat)(k i:Nat),i∈qv A L k↔k<=i/\Nat.testBit L i=false/\∃a,A[i-k]?=some a/\L&&&a=a
 |[],k,i=>by simp [qv]
 |a::A,k,i=>by
  have ih:=GI (L:=L) A (k+1) i;unfold qv;have key:i∈qv A L (k+1)↔k<i/\Nat.testBit L i=false/\∃b,(a::A)[i-k]?=some b/\L&&&b=b:=by
   rw[ih];constructor
   ·rintro⟨J,h2,b,h3,h4⟩;refine⟨J,h2,b,?_,h4⟩;rw[show i-k=(i-(k+1))+1 by omega,aqC];exact h3
   ·rintro⟨J,h2,b,h3,h4⟩;refine⟨J,h2,b,?_,h4⟩;rw[show i-k=(i-(k+1))+1 by omega,aqC]at h3;exact h3
  cases hb:(!(Nat.testBit L k)&&(L&&&a==a))with
  |true=>
   simp only[cond_true,aqv,key];simp only[ap3,Bool.not_eq_true',beq_iff_eq]at hb;constructor
   ·rintro(rfl|⟨J,h2⟩)
    ·exact⟨aqc _,hb.1,a,by simp,hb.2⟩
    ·exact⟨by omega,h2⟩
   ·rintro⟨J,h2⟩;rcases Nat.lt_or_eq_of_le J with h|h
    ·exact .inr ⟨h,h2⟩
    ·exact .inl h.symm
  |false=>
   simp only[cond_false,key];constructor
   ·rintro⟨J,h2⟩;exact⟨by omega,h2⟩
   ·rintro⟨J,h2,b,h3,h4⟩;rcases Nat.lt_or_eq_of_le J with h|h
    ·exact⟨h,h2,b,h3,h4⟩
    ·subst h;simp at h3;subst h3;rw[h2]at hb;simp at hb;exact absurd h4 hb
theorem GA{C:aqP Nat}{L:Nat}:∀{r:aqP Nat}{k:Nat},xk C L r=some k->k∈r/\(C.getD k 0)|||L=L
 |[],k,h=>by cases h
 |a::r,k,h=>by
  unfold xk at h;cases hb:((C.getD a 0)|||L==L)with
  |true=>rw[hb]at h;cases h;exact⟨by simp,by simpa using hb⟩
  |false=>rw[hb]at h;have:=GA h;exact⟨aqa _ this.1,this.2⟩
structure LM(ops:Array Oper)(L:Nat)(listed:Array Bool):Prop where
 sz:listed.size=ops.size
 b:∀i,Nat.testBit L i=listed.getD i false
theorem LM.set{ops:Array Oper}{L:Nat}{listed:Array Bool}(h:LM ops L listed){k:Nat}(hk:k<ops.size):LM ops (L|||(1<<<k)) (listed.setIfInBounds k true):=by
 refine⟨by simp [h.sz],λi=> ?_⟩;rw[Nat.testBit_or,Nat.one_shiftLeft,Nat.testBit_two_pow,h.b i];by_cases e:k=i
 ·subst e;have:k<listed.size:=by rw[h.sz];exact hk
  simp [this]
 ·rw[getD_set_ne false e];simp [e]
theorem LM.ready{ops:Array Oper}{L:Nat}{listed:Array Bool}(h:LM ops L listed)(i:Nat):i∈Region.ready .any ops listed↔i∈qv (pj ops 0 ops.size) L 0:=by
 rw[mem_ready,GI];simp only[Nat.zero_le,true_and,Nat.sub_zero,GD,aql];have X0:∀j,ops.size<=j->Nat.testBit L j=false:=λj hj=>by
   rw[h.b,Array.getD_eq_getD_getElem?,Array.getElem?_eq_none (by rw[h.sz];exact hj)];rfl
 constructor
 ·rintro⟨J,o,ho,h2⟩;have hi:=(aqg.1 ho).1;have hgd:listed.getD i false=false:=by
   have dY:i<listed.size:=by rw[h.sz];exact hi
   simpa [dY]using J
  refine⟨by rw[h.b];exact hgd,_,by rw[if_pos hi],?_⟩;apply Nat.eq_of_testBit_eq;intro j;rw[Nat.testBit_and];unfold Nj;rw[ho];simp only[Hf];cases hb:(decide (j<ops.size+1)&&AR o ops.size j)with
  |false=>simp
  |true=>
   simp only[Bool.and_true];rw[ap3]at hb;have hb:=hb.2;unfold AR at hb;rw[Array.any_eq_true']at hb;obtain⟨e,he,hb⟩:=hb;simp only[ap3,Bool.or_eq_true,beq_iff_eq,dh]at hb;have h3:=h2 e he hb.1;have:e.on<ops.size:=by
    rcases Nat.lt_or_ge e.on ops.size with hl|hl
    ·exact hl
    ·have:=X0 e.on hl;rw[h.b]at this;rw[this]at h3;cases h3
   rcases hb.2 with hj|⟨_,hj⟩
   ·rw[<-hj,h.b];exact h3
   ·omega
 ·rintro⟨J,a,ha,h2⟩;split at ha
  ·next hi=>
   cases ha
   have ho:ops[i]?=some ops[i]:=aqn hi;refine⟨?_,ops[i],ho,λe he Bv=> ?_⟩
   ·rw[h.b]at J;have dY:i<listed.size:=by rw[h.sz];exact hi
    simpa [dY]using J
   ·have kh:∀j,j<ops.size+1->AR ops[i] ops.size j=true->Nat.testBit L j=true:=λj hj hf=>by
     have:=congrArg (λn=>Nat.testBit n j) h2;simp only[Nat.testBit_and]at this;unfold Nj at this;rw[ho]at this;simp only[Hf]at this;rw[hf]at this
     simpa [hj]using this
    have haf:∀j,(e.on==j||(j==ops.size&&ct ops.size e.on))=true->AR ops[i] ops.size j=true:=λj hj=>by
     unfold AR;rw[Array.any_eq_true'];exact⟨e,he,by rw[Bv,hj];rfl⟩
    rcases Nat.lt_or_ge e.on ops.size with hl|hl
    ·rw[<-h.b];exact kh e.on (by omega) (haf _ (by simp))
    ·have:=kh ops.size (by omega) (haf _ (by simp [dh.2 hl]));rw[X0 _ (aqc _)]at this;cases this
  ·cases ha
section
variable {P:aqS} {ops:Array Oper} {st:Oper->St->aqR St} {h0:Nat} {m:Bool} {N0:Nat} {K:St->Prop} {s0:St}
end
end Go.Proofs.YtpeecnpmcbnahaaGreatDoor
namespace Go.Proofs.YtpeecnpmcbnahaaGreatDoor
open Go.RowKit
inductive Ex
 |n
 |r
 |x (id:Nat)
def Rc{α:Type}(n:Nat)(f:Nat->α):α:=Nat.casesOn (Nat.succ n) (f 0) f
theorem ag1{α:Type}(n:Nat)(f:Nat->α):Rc n f=f n:=rfl
def AV.force{α:Type}(x:AV)(f:AV->α):α:=
 match x with
 | .d (.v (.int k (.ofNat n)))=>Rc n λn=>f (.d (.v (.int k (.ofNat n))))
 | .d (.v (.bool b))=>bif b then f (.d (.v (.bool true)))else f (.d (.v (.bool false)))
 |x=>f x
theorem AV.force_eq{α:Type}(x:AV)(f:AV->α):x.force f=f x:=by
 unfold AV.force;split
 ·rw[ag1]
 ·next b=>cases b<;>rfl
 ·rfl
def IY{α:Type}:aqP aq->(aqP aq->α)->α
 |[],f=>f []
 |b::l,f=>IY l λr=>f (b::r)
theorem adB{α:Type}:∀(l:aqP aq)(f:aqP aq->α),IY l f=f l
 |[],_=>rfl
 |b::l,f=>by rw[IY,adB l]
abbrev O1:=Bool->Nat->Code->St->aqR (Ex×St)
abbrev Tf:=FuncId->aqP AV->aqR (aqR AV)
def apR:aqR (aqR AV)->Bool
 |some none=>true
 |_=>false
mutual
def AV.YD:AV->aqP Nat
 | .fn _ cs=>AV.TH cs
 |_=>[]
def AV.TH:aqP AV->aqP Nat
 |[]=>[]
 | .ptr n _::l=>n::AV.TH l
 |x::l=>x.YD++AV.TH l
end
def HI:aqP Nat->AV->aqP aq->aqR (AV×aqP aq)
 |[],r,h=>some (r,h)
 |b::l,r,h=>match h[b]? with
  |some (.cells cs)=>match nw cs with
   |some ds=>HI l (r.fz b ds) ((h.map (aq.fz b ds)).set b .gone)
   |none=>none
  |_=>none
def Xl:AV->aqR D
 | .d x=>some x
 |_=>none
def J1:aqP AV->aqR (aqP D)
 |[]=>some []
 |x::l=>match Xl x,J1 l with
  |some d,some r=>some (d::r)
  |_,_=>none
def Iq:aqP (aqP AV)->aqR (aqP (aqP D))
 |[]=>some []
 |x::l=>match J1 x,Iq l with
  |some d,some r=>some (d::r)
  |_,_=>none
mutual
def AV.aaI:AV->Bool
 | .vec .. =>true
 | .agg cs=>AV.KS cs
 | .bj cs=>AV.KS cs
 | .fn _ cs=>AV.KS cs
 |_=>false
def AV.KS:aqP AV->Bool
 |[]=>false
 |x::l=>x.aaI||AV.KS l
end
def ve:aqP Nat->AV->aqP aq->AV×aqP aq
 |[],r,h=>(r,h)
 |b::l,r,h=>match h[b]? with
  |some (.vec _ k cs)=>match Iq cs with
   |some xs=>bif xs.all (λc=>c.all D.AW)then(r.dz b k xs).force λr=>IY ((h.map (aq.lU (AV.dz b k xs))).set b .gone) λh=>ve l r h else ve l r h
   |none=>ve l r h
  |_=>ve l r h
def ani(h:aqP aq):aqP Nat:=(List.range h.length).reverse++(List.range h.length).reverse
def Nc(r:AV)(h:aqP aq):aqR AV:=
 match HI r.YD r h with
 |some (r,_)=>some (r.bx 0)
 |none=>none
def aaV(r:AV)(h:aqP aq):aqR AV:=
 bif r.aaI then(match ve (ani h) r h with|(r,h)=>Nc r h)else Nc r h
section
variable (run:O1) (P:aqS) (X3:Tf)
def bP(lo:Nat)(f:FuncId)(args:aqP AV)(h:aqP aq):aqR (AV×aqP aq):=
 match P.funcs[f]? with
 |some fn=>match fn.body with
  |some c=>Rc (args.length+(fn.ntmps-args.length)) λn=>match run true lo c ⟨n,l5 0 args,h⟩with
   |some (.x _,_)=>none
   |some (_,s)=>match sI P s fn.results.toList with
    |some l=>some (kp l,s.h)
    |none=>none
   |none=>none
  |none=>none
 |none=>none
end
section
variable {run:O1} {P:aqS} {X3:Tf} {lo:Nat} {s s':St}
end
mutual
theorem Ak(m:Nat):∀x:AV,x.aE m=true->x.bx m=x
 | .own n xs,h=>by
   rw[AV.aE]at h;rw[AV.bx];cases e:ct m n with
   |true=>rw[e]at h;cases h
   |false=>rfl
 | .agg cs,h=>by rw[AV.aE]at h;rw[AV.bx,Me m cs h]
 | .bj cs,h=>by rw[AV.aE]at h;rw[AV.bx,Me m cs h]
 | .fn f cs,h=>by rw[AV.aE]at h;rw[AV.bx,Me m cs h]
 | .d _,_=>by simp only[AV.bx]
 | .ptr ..,_=>by simp only[AV.bx]
 | .bk ..,_=>by simp only[AV.bx]
 | .full _,_=>by simp only[AV.bx]
 | .row ..,_=>by simp only[AV.bx]
 | .mp _,_=>by simp only[AV.bx]
 | .cr _,_=>by simp only[AV.bx]
 | .vec ..,_=>by simp only[AV.bx]
 | .dB ..,_=>by simp only[AV.bx]
 | .hid _,_=>by simp only[AV.bx]
 | .dead,_=>by simp only[AV.bx]
theorem Me(m:Nat):∀l:aqP AV,AV.kK m l=true->AV.qe m l=l
 |[],_=>by simp [AV.qe]
 |x::l,h=>by
  rw[AV.kK,ap3]at h;rw[AV.qe,Ak m x h.1,Me m l h.2]
end
theorem ahl{m:Nat}{B:aq}(h:B.aE m=true):B.bx m=B:=by
 cases B with
 |cells cs=>
  simp only[aq.aE,aqr]at h;simp only[aq.bx]
  congr 1
  exact(aqw λx hx=>Ak m x (h x hx)).trans (List.map_id _)
 |lp ls p as bd cs=>
  simp only[aq.aE,aqr]at h;simp only[aq.bx]
  congr 1
  exact(aqw λx hx=>Ak m x (h x hx)).trans (List.map_id _)
 |it sn cs=>
  simp only[aq.aE,aqr]at h;simp only[aq.bx]
  congr 1
  exact(aqw λx hx=>Ak m x (h x hx)).trans (List.map_id _)
 |e9 T0 cs=>
  simp only[aq.aE,aqr]at h;simp only[aq.bx]
  congr 1
  exact(aqw λx hx=>Ak m x (h x hx)).trans (List.map_id _)
 |vec e k cs=>
  simp only[aq.aE,aqr]at h;simp only[aq.bx]
  congr 1
  exact(aqw λx hx=>(aqw λy hy=>Ak m y (h x hx y hy)).trans (List.map_id _)).trans (List.map_id _)
 |front e k len=>rfl
 |iP e b=>rfl
 |map kv=>rfl
 |ja kv=>rfl
 |gone=>rfl
theorem PG{m:Nat}{h:aqP aq}(e:h.all (aq.aE m)=true):h.map (aq.bx m)=h:=
 (aqw λB hB=>ahl (aqr.1 e B hB)).trans (List.map_id _)
end Go.Proofs.YtpeecnpmcbnahaaGreatDoor
namespace Go.Proofs.YtpeecnpmcbnahaaGreatDoor
open Go.RowKit
section
variable {P:aqS} {r:aqR Nat} {n N0:Nat} {G:Gh} {w:aqU} {a:Act} {s:St} {o:Oper} {Q:Exit->St->Prop}
end
theorem cV.cut{P:aqS}{f:FuncId}{args:aqP AV}{h h':aqP aq}{r:AV}(m:Nat)(hc:cV P f args h λr1 J=>r1=r/\J=h')(J:h.length<=m)(h2:m<=h'.length)(hb:(((h'.take m).map (aq.bx m)).all (aq.aE m))=true)(hr:(r.bx m).aE m=true):
 cV P f args h λr1 J=>r1=r.bx m/\J=(h'.take m).map (aq.bx m):=by
 refine⟨hc.1,λG w vs hi hl hv=>(hc.2 G w vs hi hl hv).mono λe w' hp=> ?_⟩;obtain⟨v,G',_,_,rfl,hE,hN,dY,Ti,rfl,rfl⟩:=hp;exact⟨v,G'.cut m,_,_,rfl,hE.trans (qN _ _ _ _),by rw[<-hi.len];exact J,RG dY h2 hb,(Ti.bx m).cut hr,rfl,rfl⟩
section
variable {run:O1} {P:aqS} {X3:Tf} {lo:Nat} {s s':St}
theorem cV.Wq{f:FuncId}{args:aqP AV}{h0 h h2:aqP aq}{r r2:AV}{tl:aqP (Nat×AV)}(hc:cV P f args h0 λr1 J=>r1=r/\J=h)
 (hT:∀(G:Gh)(w:aqU)(a:Act),cY G w a ⟨1,[(0,r)],h⟩->∃G',bV G.N G w G' w/\G'.N=G.N/\cY G' w a ⟨1,(0,r2)::tl,h2⟩):cV P f args h0 λr1 J=>r1=r2/\J=h2:=by
 refine⟨hc.1,λG w vs hi hl hv=>(hc.2 G w vs hi hl hv).mono λe w' hp=> ?_⟩;obtain⟨v,G',_,_,rfl,hE,hN,dY,Ti,rfl,rfl⟩:=hp;obtain⟨G2,e1,e2,e3⟩:=hT G' w' {tmps:= #[v],defers:=[]} ⟨rfl,λi=>by
  show aH G' w' _ (bp [(0,_)] i);rw[lI];split
  ·next ei=>subst ei;exact Ti
  ·exact .dead _,dY,sx.nil _ _⟩
 exact⟨v,G2,r2,h2,rfl,hE.trans (e1.less hN),by rw[e2];exact hN,e3.inv,e3.tmp 0,rfl,rfl⟩
theorem acx{f:FuncId}{args:aqP AV}{h0:aqP aq}:∀(l:aqP Nat){h h2:aqP aq}{r r2:AV},(cV P f args h0 λr1 J=>r1=r/\J=h)->HI l r h=some (r2,h2)->cV P f args h0 λr1 J=>r1=r2/\J=h2
 |[],h,h2,r,r2,hc,e=>by cases e;exact hc
 |b::l,h,h2,r,r2,hc,e=>by
  unfold HI at e;split at e
  ·next cs e1=>
   split at e
   ·next ds e2=>
    refine acx l (cV.Wq (tl:=[]) hc λG w a hs=> ?_) e;refine hs.xV (b:=b) ?_;simp only[Go.Proofs.YtpeecnpmcbnahaaGreatDoor.xV,e1,e2];rfl
   ·cases e
  ·cases e
theorem X6:∀{l:aqP AV}{ds:aqP D},J1 l=some ds->l=ds.map AV.d
 |[],ds,h=>by cases h;rfl
 |x::l,ds,h=>by
  unfold J1 at h;split at h
  ·next d r e1 e2=>
   cases h
   rw[X6 e2];cases x<;>simp [Xl]at e1
   subst e1;rfl
  ·cases h
theorem Zk:∀{l:aqP (aqP AV)}{xs:aqP (aqP D)},Iq l=some xs->l=cp xs
 |[],xs,h=>by cases h;rfl
 |x::l,xs,h=>by
  unfold Iq at h;split at h
  ·next d r e1 e2=>cases h;rw[Zk e2,X6 e1];rfl
  ·cases h
theorem E3{f:FuncId}{args:aqP AV}{h0:aqP aq}:∀(l:aqP Nat){h:aqP aq}{r:AV},(cV P f args h0 λr1 J=>r1=r/\J=h)->cV P f args h0 λr1 J=>r1=(ve l r h).1/\J=(ve l r h).2
 |[],h,r,hc=>hc
 |b::l,h,r,hc=>by
  unfold ve;split
  ·next e k cs e1=>
   split
   ·next xs e2=>
    rw[AV.force_eq,adB,cond_eq_ite];split
    ·next J=>
     refine E3 l (cV.Wq (tl:=[]) hc λG w a hs=> ?_);have e3:=Zk e2;exact hs.Z5 xs (by show h[b]?=_;rw[e1,e3]) (λc hc=>aqr.1 J c hc)
    ·exact E3 l hc
   ·exact E3 l hc
  ·exact E3 l hc
theorem Q1{f:FuncId}{args:aqP AV}{h:aqP aq}{r r2:AV}(hc:cV P f args [] λr1 J=>r1=r/\J=h)(e:aaV r h=some r2)(hb:r2.aE 0=true):gi P f args (·=r2):=by
 have fin:∀{r:AV}{h:aqP aq},(cV P f args [] λr1 J=>r1=r/\J=h)->(r.bx 0).aE 0=true->gi P f args (·=r.bx 0):=λhc hb=>
  (hc.cut 0 (aqc _) (Nat.zero_le _) (by simp) hb).mono λr1 J ⟨k1,k2⟩=>⟨by simpa using k2,k1⟩
 have gen:∀{r:AV}{h:aqP aq},(cV P f args [] λr1 J=>r1=r/\J=h)->Nc r h=some r2->gi P f args (·=r2):=λhc e=>by
  unfold Nc at e;split at e
  ·next r3 h3 e1=>
   cases e
   exact fin (acx _ hc e1) hb
  ·cases e
 unfold aaV at e;rcases anK e with⟨_,e⟩|⟨_,e⟩
 ·exact gen (E3 _ hc) e
 ·exact gen hc e
end
theorem acO:∀(H' H e:aqP aq),H'.length=H.length->ig (List.range H.length) H' (H++e)=H'++e:=by
 intro H' H e hl;have gen:∀(n:Nat)(a b B r:aqP aq),b.length=n->B.length=n->ig ((List.range n).map (a.length+·)) B (a++(b++r))=a++(B++r):=by
  intro n
  induction n with
  |zero=>intro a b B r hb hB;rw[List.length_eq_zero_iff.1 hb,List.length_eq_zero_iff.1 hB];simp [ig]
  |succ n ih=>
   intro a b B r hb hB;cases b with
   |nil=>simp at hb
   |cons b0 b=>
    cases B with
    |nil=>simp at hB
    |cons B0 B=>
     rw[List.range_succ_eq_map,aqq,List.map_map,ig];have e1:(a++(b0::b++r)).set (a.length+0) B0=(a++[B0])++(b++r):=by
       rw[Nat.add_zero,List.set_append_right _ _ (aqc _),Nat.sub_self];simp
     have e2:(λx=>a.length+x)∘Nat.succ=λx=>(a++[B0]).length+x:=by
      funext x
      simp only[Function.comp_apply,ap2,ap4,aqd];omega
     rw[e1,e2,ih (a++[B0]) b B r (by simpa using hb) (by simpa using hB)];simp
 have:=gen H.length [] H H' e rfl hl
 simpa using this
theorem Lh{P:aqS}{k:Nat}{x:AV}{H:aqP aq}{C:Bool->aqP aq->Prop}(hy:YS P k x H C)(e:aqP aq)(hb:H.all (aq.aE H.length)=true)(hx:x.aE H.length=true)
 (hC:∀b h',C b h'->h'.length=H.length/\h'.all (aq.aE H.length)=true):YS P k x (H++e) λb h'=>∃H',C b H'/\h'=H'++e:=by
 intro G w v r n hi hv;have yy:∀i,i<H.length->rn (List.range H.length) (H++e).length i=i:=λi h=>As (List.range H.length) _ i i (by rw[List.getElem?_range h]);have Km:∀y:AV,y.aE H.length=true->y.aM (rn (List.range H.length) (H++e).length)=y:=λy hy=>(wZ (τ:=id) yy y hy).trans (GM y);have Dg:∀B:aq,B.aE H.length=true->B.aM (rn (List.range H.length) (H++e).length)=B:=λB hB=>(Sv (τ:=id) yy B hB).trans (Sg B);obtain⟨G0,cy,sA,oh,Ns⟩:=adi (H:=H) (l:=List.range H.length) (h:=H++e) List.nodup_range (λj hj=>by have:=List.mem_range.1 hj;simp;omega) (λi j oW=>by
  obtain⟨aN,rfl⟩:i<H.length/\j=i:=by
   have J:=(ap1.1 oW).1;rw[List.length_range]at J;rw[List.getElem?_range J]at oW;exact⟨J,(aqk oW).symm⟩
  rw[aqb aN,ap5 aN,Option.map_some,Dg _ (aqr.1 hb _ (List.getElem_mem aN))]) (by simp) hb hi
 obtain⟨hk,p,as,bd,fn,tm,D,J,h2⟩:=hy G0 w v r n sA (aH.tD oh (by rw[Km x hx];exact hv) x rfl (by rw[cy];exact hx));have hJ:k<H.length:=cy▸hk;have gy:G.aR k=G0.aR k:=by
  have:=oh.aR k hk
  rwa [yy k hJ]at this
 refine⟨by have:=oh.lt k hk;rwa [yy k hJ]at this,p,as,bd,fn,tm,D,by rw[gy];exact J,?_⟩;rw[gy];refine h2.mono λe1 w' hp=> ?_;obtain⟨b,G1,H',rfl,hE,gF,jD,hc⟩:=hp;rw[cy]at hE gF;obtain⟨G2,a1,a2,a3,_⟩:=Ns G1 w' H' hE gF jD;obtain⟨c1,c2⟩:=hC b H' hc;refine⟨b,G2,H'++e,rfl,a1,a2,?_,H',hc,rfl⟩;have hm:H'.map (aq.aM (rn (List.range H.length) (H++e).length))=H':=(aqw λB hB=>Dg B (aqr.1 c2 B hB)).trans (List.map_id _);rw[hm,acO H' H e c1]at a3;exact a3
def me(P:aqS)(k:Nat):aqP AV->(Bool->aqP aq->Prop)->aqP aq->Prop
 |[],C,h=>C true h
 |x::l,C,h=>YS P k x h λb J=>(J.length=h.length/\J.all (aq.aE h.length)=true)/\bif b then me P k l C J else C false J
theorem X8{P:aqS}{k:Nat}:∀(l:aqP AV){C C':Bool->aqP aq->Prop}{h:aqP aq},(∀b J,C b J->C' b J)->me P k l C h->me P k l C' h
 |[],_,_,_,hc,hs=>hc _ _ hs
 |x::l,C,C',h,hc,hs=>YS.mono hs λb J ⟨h2,h3⟩=>⟨h2,by
  cases b with
  |true=>exact X8 l hc h3
  |false=>exact hc _ _ h3⟩
theorem Vw{P:aqS}{k:Nat}:∀(l l':aqP AV){C:Bool->aqP aq->Prop}{h:aqP aq},me P k (l++l') C h->me P k l (λb J=>bif b then me P k l' C J else C false J) h
 |[],_,_,_,hs=>hs
 |x::l,l',C,h,hs=>YS.mono hs λb J ⟨h2,h3⟩=>⟨h2,by
  cases b with
  |true=>exact Vw l l' h3
  |false=>exact h3⟩
def oK(h J:aqP aq):Prop:=J.length=h.length/\J.all (aq.aE h.length)=true
def Cm(P:aqS)(gf:FuncId)(db:aqP AV)(xs:aqP AV):Prop:=
 ∀(k:Nat)(h:aqP aq)(C:Bool->aqP aq->Prop),h.all (aq.aE h.length)=true->k<h.length->me P k xs C h->cV P gf (.cr k::db) h λ_ J=>∃b,C b J
def Vj(P:aqS)(T:TypeId):aqP AV:=match iQ P T with|some z=>z.cells.toList.map λu=> .d (.v u)|none=>[]
section
variable {P:aqS} {r:aqR Nat} {N0:Nat} {Q:Exit->St->Prop} {ops:Array Oper} {o o1 o2 o3 o4 o5:Oper} {s:St} {K:St->Prop} {id:Nat}
theorem bS{rest:aqP Oper}(hg:o.guard=none)(h:pf P o (s8 P ops rest K) s):s8 P ops (o::rest) K s:=by
 unfold s8 jv;rw[hg];exact h
theorem Be{n d:Nat}{t:aqP (Nat×AV)}{h h':aqP aq}{x:AV}{hd:HD}(hx:mw P o.op (ev ⟨n,t,h⟩) h=some (x,hd))(jf:o.dst=some d)(hn:Nat.ble n d=false)(he:hd.app h=h')(hK:K ⟨n,(d,x)::t,h'⟩):pf P o K ⟨n,t,h⟩:=by
 refine .inr (.inr (.inl (acC hx ?_)));show K ((St.wh ⟨n,t,h⟩ (hd.app h)).put o.dst x);rw[jf,he];have aN:d<n:=Nat.lt_of_not_le λhle=>by rw[Nat.ble_eq_true_of_le hle]at hn;cases hn
 rw[qT (s:=St.wh ⟨n,t,h⟩ h') aN];exact hK
theorem cF{n d:Nat}{t:aqP (Nat×AV)}{h:aqP aq}{x:AV}(hx:mw P o.op (ev ⟨n,t,h⟩) h=some (x, .same))(jf:o.dst=some d)(hn:Nat.ble n d=false)(hK:K ⟨n,(d,x)::t,h⟩):pf P o K ⟨n,t,h⟩:=Be hx jf hn rfl hK
theorem TV{n:Nat}{t:aqP (Nat×AV)}{h h':aqP aq}{x:AV}{hd:HD}(hx:mw P o.op (ev ⟨n,t,h⟩) h=some (x,hd))(jf:o.dst=none)(he:hd.app h=h')(hK:K ⟨n,t,h'⟩):pf P o K ⟨n,t,h⟩:=by
 refine .inr (.inr (.inl (acC hx ?_)));show K ((St.wh ⟨n,t,h⟩ (hd.app h)).put o.dst x);rw[jf,he];exact hK
theorem afD{h l:aqP aq}{i off:Nat}{cs:aqP AV}(hi:l[i]?=some (.cells cs)):yn (h++l) (.ptr (h.length+i) off)=some (cs,off):=by
 unfold yn;simp only;rw[aqh (aqG _ _),Nat.add_sub_cancel_left,hi]
theorem wD{ρ:Operand->AV}{h l:aqP aq}{T:TypeId}{p:Operand}{i off:Nat}{cs:aqP AV}{x:AV}(hp:ρ p= .ptr (h.length+i) off)(hi:l[i]?=some (.cells cs))(hl:Al P T cs off=some x):mw P (.load T p) ρ (h++l)=some (x, .same):=by
 unfold mw;simp only[hp,afD hi,hl,pX]
theorem Xt{ρ:Operand->AV}{h l:aqP aq}{T:TypeId}{y:Operand}{v:AV}(hv:ρ y=v)(hb:v.jN=true):mw P (.box T y) ρ (h++l)=some (.ptr (h.length+l.length) 0, .push (.cells v.cells)):=by
 subst hv;unfold mw;simp only[hb,cond_true,ap2]
theorem TF{ρ:Operand->AV}{h l:aqP aq}{T:TypeId}(hz:(iQ P T).isSome=true):mw P (.alloc T) ρ (h++l)=some (.ptr (h.length+l.length) 0, .push (.cells (Vj P T))):=by
 unfold mw Vj;cases e:iQ P T with
 |none=>rw[e]at hz;cases hz
 |some z=>simp only[e,ap2]
theorem DM{h l:aqP aq}{B:aq}:(HD.push B).app (h++l)=h++(l++[B]):=by simp [HD.app]
theorem P8{ρ:Operand->AV}{h l:aqP aq}{T:TypeId}{p y:Operand}{i off k:Nat}{cs:aqP AV}{v:AV}(hp:ρ p= .ptr (h.length+i) off)(hi:l[i]?=some (.cells cs))(hk:gx P T=some k)(hv:ρ y=v)(hb:(k==v.cells.length&&v.jN&&ct (off+v.cells.length) cs.length)=true){cC:aqP AV}(gX:ji cs off v.cells=cC):
 mw P (.store T p y) ρ (h++l)=some (.d (.v undef), .set (h.length+i) (.cells cC)):=by
 subst hv gX;unfold mw;simp only[hp,hk];rw[aqh (aqG _ _),Nat.add_sub_cancel_left,hi];simp only[hb,cond_true]
theorem Nu{ρ:Operand->AV}{h:aqP aq}{T:TypeId}{a i:Operand}{xs:aqP (aqP D)}{q e k:Nat}{c:aqP D}(hx:ρ a= .d (.sl xs))(hi:ρ i= .d (.v (.int .i64 (Int.ofNat q))))(hT:fb P T=some (e,k))(hc:xs[q]?=some c)(hk:(c.length==k)=true):mw P (.indexAddr T a i) ρ h=some (.bk [c] 0 0, .same):=by
 unfold mw;simp only[hx,hi];unfold H3;simp only[hT,AV.fW,AV.int?,zN,hc,hk,cond_true,pX]
theorem S1{h l:aqP aq}{B:aq}{i:Nat}:(HD.set (h.length+i) B).app (h++l)=h++l.set i B:=by
 simp only[HD.app];rw[List.set_append_right _ _ (aqG _ _),Nat.add_sub_cancel_left]
theorem Kr{n d:Nat}{t:aqP (Nat×AV)}{h:aqP aq}{T:TypeId}{x y:Operand}{p:TypeId}{xs:aqP (aqP D)}{q:TypeId×Nat}(ho:o.op= .binOp .eql T x y p)(hx:(ev ⟨n,t,h⟩ x).fW=some xs)(hy:ev ⟨n,t,h⟩ y= .d (.v (.slice none 0 0)))(hT:fb P T=some q)(jf:o.dst=some d)(hn:Nat.ble n d=false)
 (J:xs=[]->K ⟨n,(d, .d (.v (.bool true)))::t,h⟩) (h2:K ⟨n,(d, .d (.v (.bool false)))::t,h⟩):pf P o K ⟨n,t,h⟩:=by
 refine .inr (.inl ?_);have aN:d<n:=Nat.lt_of_not_le λhle=>by rw[Nat.ble_eq_true_of_le hle]at hn;cases hn
 unfold GK;simp only[ho,hx,hy,hT,x8,jf,qT (s:=⟨n,t,h⟩) aN];exact⟨J,h2⟩
theorem zQ{n d k:Nat}{t:aqP (Nat×AV)}{h:aqP aq}{c:Call}{f:Operand}{x:AV}(ho:o.op= .call c)(hc:c.callee= .value f)(hf:ev ⟨n,t,h⟩ f= .cr k)(hx:c.args.toList.map (ev ⟨n,t,h⟩)=[x])(jf:o.dst=some d)(hn:Nat.ble n d=false)
 (hy:YS P k x h λb h'=>K ⟨n,(d, .d (.v (.bool b)))::t,h'⟩):pf P o K ⟨n,t,h⟩:=by
 refine .inr (.inr (.inr (.inl ?_)));unfold L8;simp only[ho,hc,hf,hx];refine hy.mono λb h' hK=> ?_;have aN:d<n:=Nat.lt_of_not_le λhle=>by rw[Nat.ble_eq_true_of_le hle]at hn;cases hn
 rw[jf,qT (s:=St.wh ⟨n,t,h⟩ h') aN];exact hK
theorem DZ{n:Nat}{t:aqP (Nat×AV)}{h:aqP aq}{c:Call}{f:Operand}{g:FuncId}{db:aqP AV}(ho:o.op= .call c)(hc:c.callee= .value f)(hf:ev ⟨n,t,h⟩ f= .fn g db)
 (hA:cV P g (c.args.toList.map (ev ⟨n,t,h⟩)++db) h λx h'=>K ((St.wh ⟨n,t,h⟩ h').put o.dst x)):pf P o K ⟨n,t,h⟩:=by
 refine .inr (.inr (.inl ?_));unfold rz cQ;simp only[ho,hc,hf];exact hA
end
theorem amK{P:aqS}{f:FuncId}{args:aqP AV}{H:aqP aq}{K:AV->aqP aq->Prop}(hc:cV P f args H K)(e:aqP aq)(hb:H.all (aq.aE H.length)=true)(ha:args.all (AV.aE H.length)=true)
 (hK:∀r h',K r h'->h'.length=H.length/\h'.all (aq.aE H.length)=true/\r.aE H.length=true):cV P f args (H++e) λr h'=>∃H',K r H'/\h'=H'++e:=by
 have yy:∀i,i<H.length->rn (List.range H.length) (H++e).length i=i:=λi h=>As (List.range H.length) _ i i (by rw[List.getElem?_range h]);have Km:∀y:AV,y.aE H.length=true->y.aM (rn (List.range H.length) (H++e).length)=y:=λy hy=>(wZ (τ:=id) yy y hy).trans (GM y);have Dg:∀B:aq,B.aE H.length=true->B.aM (rn (List.range H.length) (H++e).length)=B:=λB hB=>(Sv (τ:=id) yy B hB).trans (Sg B);have:=hc.aaP (l:=List.range H.length) (h:=H++e) List.nodup_range (λj hj=>by have:=List.mem_range.1 hj;simp;omega) (λi j oW=>by
  obtain⟨aN,rfl⟩:i<H.length/\j=i:=by
   have J:=(ap1.1 oW).1;rw[List.length_range]at J;rw[List.getElem?_range J]at oW;exact⟨J,(aqk oW).symm⟩
  rw[aqb aN,ap5 aN,Option.map_some,Dg _ (aqr.1 hb _ (List.getElem_mem aN))]) (by simp) ha hb
 have ea:args.map (AV.aM (rn (List.range H.length) (H++e).length))=args:=(aqw λx hx=>Km x (aqr.1 ha x hx)).trans (List.map_id _);rw[ea]at this;refine this.mono λr' h' ⟨r,H',k1,k2,k3⟩=> ?_;obtain⟨c1,c2,c3⟩:=hK r H' k1;have hm:H'.map (aq.aM (rn (List.range H.length) (H++e).length))=H':=(aqw λB hB=>Dg B (aqr.1 c2 B hB)).trans (List.map_id _);rw[hm,acO H' H e c1]at k3;rw[Km r c3]at k2;exact⟨H',by rw[k2];exact k1,k3⟩
theorem amh{h:aqP aq}{p:AV}{K K':aqP AV->Nat->Prop}(hk:∀cs off,K cs off->K' cs off)(hp:tG h p K):tG h p K':=by
 unfold tG at hp ⊢;split at hp
 ·next n off=>
  split at hp
  ·next cs e=>(try simp only[e]);exact hk _ _ hp
  ·exact hp.elim
 ·next xs i off=>
  split at hp
  ·next cs e=>(try simp only[e]);exact hk _ _ hp
  ·exact hp.elim
 ·exact hp.elim
theorem akI{P:aqS}{T:TypeId}{h:aqP aq}{p:AV}{K K':AV->Prop}(hk:∀x,K x->K' x)(hp:oO P T h p K):oO P T h p K':=
 amh (λcs off hc=>by
  split at hc
  ·next k e1 e2=>
   try simp only[e1,e2]
   exact bX.2 ⟨(bX.1 hc).1,hk _ (bX.1 hc).2⟩
  ·next k e1 e2=>
   try simp only[e1,e2]
   split at hc
   ·next c e3=>(try simp only[e3]);exact hk _ hc
   ·exact hc.elim
  ·exact hc.elim) hp
theorem api{P:aqS}{fn:Func}{n:Nat}{t:aqP (Nat×AV)}{H l:aqP aq}{K:AV->aqP aq->Prop}(hb:H.all (aq.aE H.length)=true)(hr:nH P ⟨n,t,H++l⟩ fn.results.toList λrs=>((kp rs).bx H.length).aE H.length=true/\K ((kp rs).bx H.length) H):qS P fn H.length K ⟨n,t,H++l⟩:=by
 have ht:(((H++l).take H.length).map (aq.bx H.length))=H:=by rw[List.take_left];exact PG hb
 unfold qS;show nH P ⟨n,t,H++l⟩ fn.results.toList λrs=>H.length<=(H++l).length/\_;simp only[ht];have gen:∀(rv:aqP ResultVar){C C':aqP AV->Prop},(∀x,C x->C' x)->nH P ⟨n,t,H++l⟩ rv C->nH P ⟨n,t,H++l⟩ rv C':=by
  intro rv
  induction rv with
  |nil=>intro C C' hc h;exact hc _ h
  |cons x rv ih=>
   intro C C' hc h;cases x with
   |tmp t=>exact ih (λy hy=>hc _ hy) h
   |cell p t=>exact akI (λx h=>ih (λy hy=>hc _ hy) h) h
 exact gen _ (λrs ⟨J,h2⟩=>⟨by simp,J,hb,h2⟩) hr
theorem BG{n:Nat}{t:aqP (Nat×AV)}{H l:aqP aq}(live:aqP Nat)(hb:H.all (aq.aE H.length)=true):(⟨n,t,H++l⟩:St).mask live H.length=⟨n,live.map λk=>(k,(bp t k).bx H.length),H⟩:=by
 unfold St.mask;rw[show((H++l).take H.length).map (aq.bx H.length)=H by rw[List.take_left];exact PG hb]
theorem zW{n:Nat}{t:aqP (Nat×AV)}{H l:aqP aq}(live:aqP Nat)(hb:H.all (aq.aE H.length)=true)(hl:(live.all λk=>((bp t k).bx H.length).aE H.length)=true):(⟨n,t,H++l⟩:St).zk live H.length:=
 ⟨by simp,hl,by rw[show((H++l).take H.length).map (aq.bx H.length)=H by rw[List.take_left];exact PG hb];exact hb⟩
theorem JS{n:Nat}{t:aqP (Nat×AV)}{H:aqP aq}(live:aqP Nat)(hb:H.all (aq.aE H.length)=true):(⟨n,t,H⟩:St).mask live H.length=⟨n,live.map λk=>(k,(bp t k).bx H.length),H⟩:=by
 have:=BG (n:=n) (t:=t) (l:=[]) live hb
 rwa [aqm]at this
theorem Lu{n:Nat}{t:aqP (Nat×AV)}{H:aqP aq}(live:aqP Nat)(hb:H.all (aq.aE H.length)=true)(hl:(live.all λk=>((bp t k).bx H.length).aE H.length)=true):(⟨n,t,H⟩:St).zk live H.length:=by
 have:=zW (n:=n) (t:=t) (l:=[]) live hb hl
 rwa [aqm]at this
theorem Cd{k m:Nat}(h:k<m):((AV.cr k).bx m).aE m=true:=by simp [AV.bx,AV.aE,ct];omega
structure uP(s:St)(m:Nat)(s':St):Prop where
 cut:∀{G:Gh}{w:World}{a:Act},cY G w a s->cY (G.cut m) w a s'
theorem uP.S{s s':St}{live:aqP Nat}{m:Nat}(h:ko s live m=some s'):uP s m s':=⟨λhs=>hs.ko h⟩
theorem aji{P:aqS}{r:aqR Nat}{N0 m:Nat}{c:Code}{s:St}{R R':Exit->St->Prop}(hm:N0<=m)(h:bH P r N0 c R s)(hR:∀e s2,R e s2->∃s',uP s2 m s'/\R' e s'):bH P r N0 c R' s:=by
 constructor
 intro G w a n hs hN;refine wpIn_mono (h.run G w a n hs hN) λe a1 w1 hn=> ?_;obtain⟨G1,s1,hE,_,ft,hq⟩:=hn;obtain⟨s',k1,k2⟩:=hR e s1 hq;exact⟨G1.cut m,s',hE.trans (qN _ _ _ _),hm,k1.cut ft,k2⟩
def Cv(m:Nat)(n:Nat)(T:aqP (Nat×AV))(LP:aq)(next:aqP aq->Prop)(Q:Exit->St->Prop)(e:Exit)(s:St):Prop:=
 ∃hs,hs.length=m/\hs.all (aq.aE (m+1))=true/\uP s (m+1) ⟨s.n,[],hs++[LP]⟩/\match e with
  | .normal=>next hs
  | .ret=>Q .ret ⟨n,T,hs++[.gone]⟩
  | .exit i=>Q (.exit i) ⟨n,T,hs++[.gone]⟩
  |_=>False
theorem wQ{P:aqS}{N0 n m:Nat}{T:aqP (Nat×AV)}{H:aqP aq}{Q:Exit->St->Prop}{g:Operand}{p:Nat}{as bd:Code}{gf:FuncId}{db:aqP AV}(hg:ev ⟨n,T,H⟩ g= .fn gf db){α:Type}{enc:α->AV}{xs:aqP α}(hI:Cm P gf db (xs.map enc))
 {ι:Type} (Hs:ι->aqP aq) (I:ι->aqP α->Prop) (i0:ι) (h0:H=Hs i0) (sA:I i0 xs) (hl:∀i,(Hs i).length=m) (kJ:∀i,(Hs i).all (aq.aE (m+1))=true) (hT:(dp n T).all (AV.aE (m+1))=true) (hp:Nat.ble n p=false)
 (round:∀i x l,I i (x::l)->∀(rr:Nat)(a b:Code),bH P (some rr) (m+1) as (jc (λs1=>∃hs e,hs.length=m/\s1.h=hs++ .lp .ready p a b (dp n T)::e/\
  bH P (some rr) (m+1) bd (Cv m n T (.lp .busy p a b (dp n T)) (λcE=>∃i',cE=Hs i'/\I i' l) Q) ⟨s1.n,s1.t,hs++ .lp .busy p a b (dp n T)::e⟩) (λ_ _=>False)) ⟨n,(p,enc x)::l5 0 (dp n T),Hs i++[.lp .ready p a b (dp n T)]⟩)
 (done:∀i,I i []->Q .normal ⟨n,T,Hs i++[.gone]⟩):bH P none N0 (.rangeFunc g #[p] as bd) Q ⟨n,T,H⟩:=by
 subst h0;have hm:(Hs i0).length=m:=hl i0;have hnl:(dp n T).length=n:=by simp [dp]
 have xn:∀ls,(aq.lp ls p as bd (dp n T)).aE (m+1)=true:=λls=>hT;refine afV hg ?_;show cV P gf (.cr (Hs i0).length::db) (Hs i0++[.lp .ready p as bd (dp n T)]) _;have Hy:∀(hs:aqP aq)(B B':aq),hs.length=m->(hs++[B]).set m B'=hs++[B']:=λhs B B' h=>by
  rw[List.set_append_right _ _ (Nat.le_of_eq h),h,Nat.sub_self];rfl
 have fp:∀(hs:aqP aq)(B:aq)(e:aqP aq),hs.length=m->(hs++B::e)[m]?=some B:=λhs B e h=>by
  rw[aqh (Nat.le_of_eq h),h,Nat.sub_self];rfl
 have seq:∀(l:aqP α)(i:ι),I i l->me P m (l.map enc) (λb J=>∃(hs:aqP aq)(ls:LS),hs.length=m/\J=hs++[.lp ls p as bd (dp n T)]/\NY P N0 Q ⟨n,T,hs++[.gone]⟩ ls) (Hs i++[.lp .ready p as bd (dp n T)]):=by
  intro l
  induction l with
  |nil=>intro i hi;exact⟨Hs i, .ready,hl i,rfl,done i hi⟩
  |cons x l ih=>
   intro i hi;have hlen:(Hs i++[aq.lp .ready p as bd (dp n T)]).length=m+1:=by simp [hl i]
   refine aeb ⟨p,as,bd,dp n T,fp _ _ [] (hl i),?_,λrr=> ?_⟩
   ·rw[hnl];exact Nat.lt_of_not_le λhle=>by rw[Nat.ble_eq_true_of_le hle]at hp;cases hp
   ·rw[hlen,hnl];refine(round i x l hi rr as bd).mono λe s1 ft=> ?_;cases e with
    |normal=>
     obtain⟨hs,e',k1,k2,k3⟩:=ft;refine⟨p,as,bd,dp n T,by rw[k2];exact fp _ _ _ k1,?_⟩;have hse:s1.h.set m (.lp .busy p as bd (dp n T))=hs++ .lp .busy p as bd (dp n T)::e':=by
      rw[k2,List.set_append_right _ _ (Nat.le_of_eq k1),k1,Nat.sub_self];rfl
     rw[hse];refine aji (aqc _) k3 λe2 s2 hr=> ?_;obtain⟨x7,c2,c5,c3,c4⟩:=hr;refine⟨_,c3,?_⟩;have fO:∀B,B.aE (m+1)=true->(x7++[B]).all (aq.aE (m+1))=true:=λB hB=>by
       rw[List.all_append,c5];simp [hB]
     have C0:(x7++[aq.lp .busy p as bd (dp n T)])[m]?=some (.lp .busy p as bd (dp n T)):=fp _ _ [] c2;cases e2 with
     |normal=>
      obtain⟨i',rfl,dY⟩:=c4;refine⟨p,as,bd,dp n T,C0,?_⟩;simp only[Hy _ _ _ c2];exact⟨⟨by simp [hl],fO _ (xn _)⟩,ih i' dY⟩
     |ret=>
      refine⟨p,as,bd,dp n T,C0,?_⟩;simp only[Hy _ _ _ c2];exact⟨⟨by simp [c2],fO _ (xn _)⟩,x7, .done .ret,c2,rfl,c8 c4⟩
     |exit j=>
      refine⟨p,as,bd,dp n T,C0,?_⟩;simp only[Hy _ _ _ c2];exact⟨⟨by simp [c2],fO _ (xn _)⟩,x7, .done (.exit j),c2,rfl,oT c4⟩
     |_=>exact c4.elim
    |_=>exact ft.elim
 have UT:(Hs i0++[aq.lp .ready p as bd (dp n T)]).length=m+1:=by simp [hm]
 refine(hI (Hs i0).length _ _ (by rw[UT,List.all_append,kJ i0];simp [xn]) (by rw[UT,hm];exact aqN m) (by rw[hm];exact seq xs i0 sA)).mono λ_ J hb=> ?_;obtain⟨b,hs,ls,k1,rfl,k2⟩:=hb;refine⟨ls,p,as,bd,dp n T,?_,?_⟩
 ·show(hs++[aq.lp ls p as bd (dp n T)])[(Hs i0).length]?=_;rw[hm];exact fp _ _ [] k1
 ·show NY P N0 Q ⟨n,T,(hs++[aq.lp ls p as bd (dp n T)]).set (Hs i0).length .gone⟩ ls;rw[hm,Hy _ _ _ k1];exact k2
section
variable {m n:Nat} {T:aqP (Nat×AV)} {LP:aq} {next:aqP aq->Prop} {Q:Exit->St->Prop} {s:St}
theorem Ck(hs:aqP aq)(hl:hs.length=m)(hb:hs.all (aq.aE (m+1))=true)(hc:ko s [] (m+1)=some ⟨s.n,[],hs++[LP]⟩)(hn:next hs):Cv m n T LP next Q .normal s:=⟨hs,hl,hb, .S hc,hn⟩
theorem CQ(hs:aqP aq)(hl:hs.length=m)(hb:hs.all (aq.aE (m+1))=true)(hc:ko s [] (m+1)=some ⟨s.n,[],hs++[LP]⟩)(hq:Q .ret ⟨n,T,hs++[.gone]⟩):Cv m n T LP next Q .ret s:=⟨hs,hl,hb, .S hc,hq⟩
theorem akb{i:Nat}(hs:aqP aq)(hl:hs.length=m)(hb:hs.all (aq.aE (m+1))=true)(hc:ko s [] (m+1)=some ⟨s.n,[],hs++[LP]⟩)(hq:Q (.exit i) ⟨n,T,hs++[.gone]⟩):Cv m n T LP next Q (.exit i) s:=⟨hs,hl,hb, .S hc,hq⟩
end
set_option linter.unusedSimpArgs false
set_option linter.unusedVariables false
abbrev Lf:=St×aqP Nat×aqP (Nat×aqP (In×cg))
def uI(go:Nat->aqR (aqP Lf)):aqP Nat->aqR (aqP Lf)
 |[]=>some []
 |k::r=>match go k with
  |some a=>match uI go r with
   |some b=>some (a++b)
   |none=>none
  |none=>none
def AB(P:aqS)(ops:Array Oper)(A C:aqP Nat)(as:aqP (Nat×cg)):Nat->Nat->aqP Nat->aqP (Nat×aqP (In×cg))->St->aqR (aqP Lf)
 |0,L,al,acc,s=>match qv A L 0 with
  |[]=>some [(s,al,acc)]
  |_=>none
 |f+1,L,al,acc,s=>match qv A L 0 with
  |[]=>some [(s,al,acc)]
  |k0::r=>uI (λk=>match ops[k]? with
     |some o=>match nZ P ops true o k as s with
      |some (s1,l)=>fN (L|||(1<<<k)) λL=>AB P ops A C as f L (al++List.replicate (s1.h.length-s.h.length) k) ((k,l)::acc) s1
      |none=>none
     |none=>none) (match xk C L (k0::r)with
      |some k=>[k]
      |none=>k0::r)
theorem Xm{go:Nat->aqR (aqP Lf)}:∀{l:aqP Nat}{ls:aqP Lf},uI go l=some ls->∀k∈l,∃a,go k=some a/\∀x∈a,x∈ls
 |[],_,_,k,hk=>by cases hk
 |j::r,ls,h,k,hk=>by
  unfold uI at h;split at h
  ·next a e1=>
   split at h
   ·next b e2=>
    cases h
    rcases aqv.1 hk with rfl|hk
    ·exact⟨a,e1,λx hx=>List.mem_append_left _ hx⟩
    ·obtain⟨a',e3,h3⟩:=Xm e2 k hk;exact⟨a',e3,λx hx=>List.mem_append_right _ (h3 x hx)⟩
   ·cases h
  ·cases h
section
variable {P:aqS} {ops:Array Oper} {as:aqP (Nat×cg)} {K:St->Prop} {s0:St}
theorem aie{o:Oper}{j:Nat}{dr:Bool}{s s1:St}{l:aqP (In×cg)}(h:nZ P ops dr o j as s=some (s1,l))(ho:o∈ops.toList)(hB:l4 (pe ops.toList) s0 s):l4 (pe ops.toList) s0 s1:=by
 have cI:∀{i a r l},vB i a r=some (s1,l)->∃m,r=some (s1,m):=fun{i a r l} h=>by
  unfold vB at h;split at h
  ·exact⟨_,h⟩
  ·split at h
   ·cases h;exact⟨_,rfl⟩
   ·cases h
 have cR:∀{m r l},rT m r=some (s1,l)->∃m,r=some (s1,m):=fun{m r l} h=>by
  unfold rT at h;split at h
  ·cases h;exact⟨_,rfl⟩
  ·cases h
 have hsk:l4 (pe ops.toList) s0 (C1 o s):=hB.put s.h (.d (.v undef)) (HF ho);have st:∀l,nT P dr o j as s=some (s1,l)->l4 (pe ops.toList) s0 s1:=λl h=>by
  unfold nT at h;cases hd:dr&&BE (jh as (3*j+1))&& !zu o (jh as (3*j+1))with
  |true=>rw[hd]at h;cases h
  |false=>
   rw[hd]at h;simp only[cond_false]at h;split at h
   ·split at h<;>(obtain⟨m,e⟩:=cI h;cases e;exact hB.put _ _ (HF ho))
   ·cases h
 unfold nZ at h;split at h
 ·exact st _ h
 ·split at h
  ·obtain⟨m,e⟩:=cR h;revert e;generalize ((_:Bool)==_)=q;intro e;cases q with
   |true=>exact st _ e
   |false=>cases e;exact hsk
  ·obtain⟨m,e⟩:=cR h;cases e;exact hsk
  ·cases h
theorem ab9(hK:rR K)(hM:oU (Region.before ops) ops=true)(t0:aqP (Nat×AV)):
 ∀(fuel L:Nat)(listed:Array Bool)(al:aqP Nat)(acc:aqP (Nat×aqP (In×cg)))(s:St)(ls:aqP Lf),LM ops L listed->Dn ops listed->AB P ops (pj ops 0 ops.size) (kT ops false (Region.before ops) 0 ops.size) as fuel L al acc s=some ls->
  (∃x,x∈ls)/\(∀x∈ls,(∀p∈acc,p∈x.2.2)/\((∃pre,s.t=pre++t0)->∃pre,x.1.t=pre++t0)/\(l4 (pe ops.toList) s0 s->l4 (pe ops.toList) s0 x.1))/\((∀x∈ls,(∀p∈x.2.2,gr P p.2)/\K x.1)->lf false P ops K fuel listed s)
 |0,L,listed,al,acc,s,ls,hL,hD,h=>by
  unfold AB at h;split at h
  ·next hr=>
   cases h
   refine⟨⟨_,ap7⟩,λx hx=> ?_,λhk=>⟨?_,(hk _ ap7).2⟩⟩
   ·rw[List.mem_singleton]at hx;subst hx;exact⟨λ_ h=>h,λh=>h,λh=>h⟩
   ·rw[List.eq_nil_iff_forall_not_mem];intro i hi;have:=(hL.ready i).1 hi;rw[hr]at this;cases this
  ·cases h
 |fuel+1,L,listed,al,acc,s,ls,hL,hD,h=>by
  have mem:∀{k:Nat}{o:Oper},ops[k]?=some o->o∈ops.toList:=λho=>Array.mem_toList_iff.2 (Array.mem_of_getElem? ho);unfold AB at h;split at h
  ·next hr=>
   cases h
   refine⟨⟨_,ap7⟩,λx hx=> ?_,λhk=>⟨λ_=>(hk _ ap7).2,λi hi=> ?_⟩⟩
   ·rw[List.mem_singleton]at hx;subst hx;exact⟨λ_ h=>h,λh=>h,λh=>h⟩
   ·have:=(hL.ready i).1 hi;rw[hr]at this;cases this
  ·next k0 r hr=>
   generalize hgo:(λk:Nat=>(match ops[k]? with
    |some o=>match nZ P ops true o k as s with
     |some (s1,l)=>fN (L|||(1<<<k)) λL=>AB P ops (pj ops 0 ops.size) (kT ops false (Region.before ops) 0 ops.size) as fuel L (al++List.replicate (s1.h.length-s.h.length) k) ((k,l)::acc) s1
     |none=>none
    |none=>none:aqR (aqP Lf)))=go at h
   have one:∀k a,k∈Region.ready .any ops listed->go k=some a->∃o s1 l,ops[k]?=some o/\nZ P ops true o k as s=some (s1,l)/\(∃x,x∈a)/\(∀x∈a,(∀p∈(k,l)::acc,p∈x.2.2)/\((∃pre,s.t=pre++t0)->∃pre,x.1.t=pre++t0)/\(l4 (pe ops.toList) s0 s->l4 (pe ops.toList) s0 x.1))/\
       ((∀x∈a,(∀p∈x.2.2,gr P p.2)/\K x.1)->∃y J,mI false P ops o s y J/\lf false P ops K fuel (listed.setIfInBounds k true) ((s.wh J).put o.dst y)):=λk a uf vO=>by
    rw[<-hgo]at vO;simp only at vO;split at vO
    ·next o ho=>
     split at vO
     ·next s1 l hg=>
      rw[A7]at vO;obtain⟨J,h2,h3⟩:=ab9 hK hM t0 fuel _ _ _ _ s1 a (hL.set (aqg.1 ho).1) (hD.set uf) vO;refine⟨o,s1,l,ho,hg,J,λx hx=>⟨(h2 x hx).1,fun⟨pre,hp⟩=> ?_,λhB=>(h2 x hx).2.2 (aie hg (mem ho) hB)⟩,λhk=> ?_⟩
      ·obtain⟨⟨p1,e1⟩,_⟩:=SU hg;exact(h2 x hx).2.1 ⟨p1++pre,by rw[e1,hp,aqi]⟩
      ·obtain⟨x,hx⟩:=J;have hl:gr P l:=(hk x hx).1 (k,l) ((h2 x hx).1 _ ap7);have h4:=PA (K:=(·=s1)) hg hl rfl;have h5:=h3 hk;have:∃y J,mI false P ops o s y J/\(s.wh J).put o.dst y=s1:=by
        rcases IP h4 with⟨g,hd⟩|⟨g,hd⟩
        ·obtain⟨y,J,h2,h3⟩:=Ly hd;exact⟨y,J, .inl ⟨g,h2⟩,h3⟩
        ·exact⟨_,s.h, .inr ⟨g,rfl,rfl⟩,hd⟩
       obtain⟨y,hh,q1,rfl⟩:=this;exact⟨y,hh,q1,h5⟩
     ·cases vO
    ·cases vO
   cases hf:xk (kT ops false (Region.before ops) 0 ops.size) L (k0::r)with
   |some k=>
    rw[hf]at h;obtain⟨j5,zg⟩:=GA hf;have uf:k∈Region.ready .any ops listed:=(hL.ready k).2 (by rw[hr];exact j5);unfold uI at h;split at h
    ·next a e1=>
     unfold uI at h;simp only[aqm]at h;cases h
     obtain⟨o,s1,l,ho,hg,J,h2,h3⟩:=one k _ uf e1;refine⟨J,λx hx=>⟨λp hp=>(h2 x hx).1 p (aqa _ hp),(h2 x hx).2⟩,λhk=> ?_⟩;obtain⟨y,hh,q1,q2⟩:=h3 hk;refine HS hK hM ho fuel listed s hD (λj oj hj cG pK tK=> ?_) uf q1 q2;have ER:=(aqg.1 hj).1;have o6:=(aqg.1 ho).1;have SV:Nat.testBit L j=false:=by
      rw[hL.b];have iM:j<listed.size:=by rw[hL.sz];exact ER
      simpa [iM]using pK
     have nL:Nat.testBit (vI ops false (Region.before ops) k) j=false:=by
      rw[<-Bool.not_eq_true];intro hc;have h5:(kT ops false (Region.before ops) 0 ops.size).getD k 0=vI ops false (Region.before ops) k:=by
        rw[List.getD_eq_getElem?_getD,Pc,if_pos o6,aql];rfl
      rw[h5]at zg;have:=congrArg (λn=>Nat.testBit n j) zg;simp only[Nat.testBit_or,hc,SV]at this;cases this
     unfold vI at nL;rw[Hf]at nL;unfold Qw at nL;rw[tK,ho,hj]at nL;simp [ER,cG]at nL;exact nL
    ·cases h
   |none=>
    rw[hf]at h;have ZL:=Xm h;have B6:k0∈Region.ready .any ops listed:=(hL.ready k0).2 (by rw[hr];simp);have back:∀(l:aqP Nat)(ls:aqP Lf),uI go l=some ls->∀x∈ls,∃k∈l,∃a,go k=some a/\x∈a:=by
      intro l
      induction l with
      |nil=>intro ls h x hx;cases h;cases hx
      |cons j r ih=>
       intro ls h x hx;unfold uI at h;split at h
       ·next a e1=>
        split at h
        ·next b e2=>
         cases h
         rcases aqD.1 hx with hx|hx
         ·exact⟨j,ap7,a,e1,hx⟩
         ·obtain⟨k,hk,a',J,h2⟩:=ih b e2 x hx;exact⟨k,aqa _ hk,a',J,h2⟩
        ·cases h
       ·cases h
    refine⟨?_,λx hx=> ?_,λhk=>⟨λe=>(by rw[e]at B6;cases B6),λi hi oi Kk=> ?_⟩⟩
    ·obtain⟨a,e1,J⟩:=ZL k0 ap7;obtain⟨o,s1,l,ho,hg,⟨x,hx⟩,_⟩:=one k0 a B6 e1;exact⟨x,J x hx⟩
    ·obtain⟨k,hk,a,e1,hxa⟩:=back _ _ h x hx;obtain⟨o,s1,l,ho,hg,J,h2,h3⟩:=one k a ((hL.ready k).2 (by rw[hr];exact hk)) e1;exact⟨λp hp=>(h2 x hxa).1 p (aqa _ hp),(h2 x hxa).2⟩
    ·have dY:i∈k0::r:=by rw[<-hr];exact(hL.ready i).1 hi
     obtain⟨a,e1,J⟩:=ZL i dY;obtain⟨o,s1,l,ho,hg,_,_,h3⟩:=one i a hi e1;rw[ho]at Kk;cases Kk;exact h3 λx hx=>hk x (J x hx)
end
def Pw(k:Nat):aqP Nat->Nat
 |[]=>0
 |j::l=>bif ct (j+1) k then Pw k l+1 else Pw k l
def RM(k:Nat):aqP Nat->Nat
 |[]=>0
 |j::l=>bif j==k then RM k l+1 else RM k l
def Pl(h0:Nat)(all:aqP Nat):aqP Nat->aqP Nat->aqP Nat
 |_,[]=>[]
 |pre,k::l=>fN (h0+Pw k all+RM k pre) λq=>q::Pl h0 all (k::pre) l
def abo(q:Nat):aqP Nat->Nat->Nat
 |[],i=>i
 |x::l,i=>bif x==q then i else abo q l (i+1)
def NG(h0:Nat)(p:aqP Nat):Nat->Nat->aqP Nat
 |0,_=>[]
 |n+1,q=>fN (abo q p h0) λi=>i::NG h0 p n (q+1)
def Fi(a:Nat×aqP (In×cg)):aqP (Nat×aqP (In×cg))->aqP (Nat×aqP (In×cg))
 |[]=>[a]
 |b::l=>bif ct a.1 b.1 then a::b::l else b::Fi a l
def G5:aqP (Nat×aqP (In×cg))->aqP (Nat×aqP (In×cg))
 |[]=>[]
 |a::l=>Fi a (G5 l)
def Mg:aqP (Nat×aqP (In×cg))->aqP (In×cg)
 |[]=>[]
 |a::l=>a.2++Mg l
def tq(p q:aqP Nat)(h0:Nat)(h:aqP aq):Nat->Nat->aqP aq
 |0,_=>[]
 |n+1,i=>(match h[fV h0 q i]? with|some B=>B.aM (fV h0 p)|none=> .gone)::tq p q h0 h n (i+1)
def zM(h0:Nat)(p:aqP Nat):Bool:=(List.range p.length).all λi=>p.getD i 0==h0+i
theorem aem{h0:Nat}{p:aqP Nat}(h:zM h0 p=true):fV h0 p=id:=by
 funext i
 unfold fV;cases e:ct h0 i with
 |false=>rfl
 |true=>
  rw[dh]at e;simp only[cond_true,id];by_cases hi:i-h0<p.length
  ·unfold zM at h;rw[aqr]at h;have:=h (i-h0) (List.mem_range.2 hi);rw[beq_iff_eq,List.getD_eq_getElem?_getD,ap5 hi]at this;rw[List.getD_eq_getElem?_getD,ap5 hi];simp only[Option.getD_some]at this ⊢;omega
  ·rw[List.getD_eq_getElem?_getD,aqx (by omega)];rfl
def adC(keep:aqP Nat)(s:St)(x:Lf)(p q:aqP Nat):aqR (aqP (Nat×AV)×aqP aq×aqP (In×cg)):=
 bif (x.1.t.take (x.1.t.length-s.t.length)).all (λp=>keep.any (·==p.1)||Yx (bp s.t p.1))&&(List.range x.1.h.length).all (λi=>ct (fV s.h.length p i+1) x.1.h.length&&ct (fV s.h.length q i+1) x.1.h.length&&fV s.h.length q (fV s.h.length p i)==i&&fV s.h.length p (fV s.h.length q i)==i)
 then some (keep.map λk=>(k,(bp x.1.t k).aM (fV s.h.length p)),bif zM s.h.length p then x.1.h else tq p q s.h.length x.1.h x.1.h.length 0,Mg (G5 x.2.2))else none
def Lv(keep:aqP Nat)(s:St)(x:Lf):aqR (aqP (Nat×AV)×aqP aq×aqP (In×cg)):=
 fL (Pl s.h.length x.2.1 [] x.2.1) λp=>fL (NG s.h.length p p.length s.h.length) λq=>adC keep s x p q
def Hm(keep:aqP Nat)(s:St):aqP Lf->aqR (aqP (aqP (Nat×AV)×aqP aq×aqP (In×cg)))
 |[]=>some []
 |x::l=>match Lv keep s x with
  |some a=>match Hm keep s l with
   |some b=>some (a::b)
   |none=>none
  |none=>none
def Ad(P:aqS)(ol:aqP Oper)(as:aqP (Nat×cg))(keep:aqP Nat)(s:St):aqR (aqP (aqP (Nat×AV)×aqP aq×aqP (In×cg))):=
 bif oU (Region.before ol.toArray) ol.toArray then fL (pj ol.toArray 0 ol.toArray.size) λA=>fL (kT ol.toArray false (Region.before ol.toArray) 0 ol.toArray.size) λC=>
  match AB P ol.toArray A C as ol.toArray.size 0 [] [] s with
  |some ls=>Hm keep s ls
  |none=>none
 else none
theorem Qk{keep:aqP Nat}{s:St}:∀{ls:aqP Lf}{r},Hm keep s ls=some r->∀x∈ls,∃a∈r,Lv keep s x=some a
 |[],_,_,x,hx=>by cases hx
 |y::l,r,h,x,hx=>by
  unfold Hm at h;split at h
  ·next a e1=>
   split at h
   ·next b e2=>
    cases h
    rcases aqv.1 hx with rfl|hx
    ·exact⟨a,ap7,e1⟩
    ·obtain⟨a',J,h2⟩:=Qk e2 x hx;exact⟨a',aqa _ J,h2⟩
   ·cases h
  ·cases h
theorem acm{a x:Nat×aqP (In×cg)}:∀{l:aqP (Nat×aqP (In×cg))},x∈Fi a l↔x=a\/x∈l
 |[]=>by simp [Fi]
 |b::l=>by
  unfold Fi;cases ct a.1 b.1 with
  |true=>simp
  |false=>
   simp only[cond_false,aqv,acm (l:=l)];constructor
   ·rintro(h|h|h)
    ·exact .inr (.inl h)
    ·exact .inl h
    ·exact .inr (.inr h)
   ·rintro(h|h|h)
    ·exact .inr (.inl h)
    ·exact .inl h
    ·exact .inr (.inr h)
theorem ZD{x:Nat×aqP (In×cg)}:∀{l:aqP (Nat×aqP (In×cg))},x∈G5 l↔x∈l
 |[]=>by simp [G5]
 |a::l=>by rw[G5,acm,ZD (l:=l),aqv]
theorem aaT{P:aqS}:∀{l:aqP (Nat×aqP (In×cg))},gr P (Mg l)->∀p∈l,gr P p.2
 |[],_,p,hp=>by cases hp
 |a::l,h,p,hp=>by
  unfold Mg at h;rcases aqv.1 hp with rfl|hp
  ·exact λq hq=>h q (List.mem_append_left _ hq)
  ·exact aaT (λq hq=>h q (List.mem_append_right _ hq)) p hp
theorem VB{p q:aqP Nat}{h0:Nat}{h:aqP aq}:∀(n i j:Nat),(tq p q h0 h n i)[j]?=if j<n then some (match h[fV h0 q (i+j)]? with|some B=>B.aM (fV h0 p)|none=> .gone)else none
 |0,i,j=>by simp [tq]
 |n+1,i,0=>by simp [tq]
 |n+1,i,j+1=>by
  rw[tq,aqC,VB n (i+1) j];simp only[Nat.add_lt_add_iff_right];rw[show i+1+j=i+(j+1) by omega]
theorem ZH{p q:aqP Nat}{h0:Nat}{h:aqP aq}:∀(n i:Nat),(tq p q h0 h n i).length=n
 |0,_=>rfl
 |n+1,i=>by rw[tq,ap4,ZH n]
theorem Z9{P:aqS}{ops:Array Oper}{N0:Nat}{keep:aqP Nat}{s:St}{x:Lf}{Δ:aqP (Nat×AV)}{h':aqP aq}{ps:aqP (In×cg)}(h:Lv keep s x=some (Δ,h',ps))(hN:N0<=s.h.length)(nP:∀i,(bp s.t i).aE s.h.length=true)
 (hn:x.1.n=s.n) (hp:∃pre,x.1.t=pre++s.t) (cd:gr P ps):iJ N0 x.1 ⟨s.n,Δ++s.t,h'⟩/\∀p∈x.2.2,gr P p.2:=by
 unfold Lv at h;rw[yV,yV]at h;generalize Pl s.h.length x.2.1 [] x.2.1=p at h;generalize NG s.h.length p p.length s.h.length=q at h;unfold adC at h;obtain⟨hb,he⟩:=eD h;cases he
 rw[ap3]at hb;obtain⟨hb,hc⟩:=hb;simp only[aqr,List.mem_range,ap3,beq_iff_eq,dh]at hc;have yD:∀i,i<s.h.length->fV s.h.length p i=i:=λi hi=>by
   unfold fV;have:ct s.h.length i=false:=by rw[<-Bool.not_eq_true,dh];omega
   rw[this];rfl
 refine⟨?_,λy hy=>aaT cd y (ZD.2 hy)⟩;refine iJ.aM (fV s.h.length p) (fV s.h.length q) hn (by
  cases zM s.h.length p with
  |true=>rfl
  |false=>exact ZH _ _) (λi hi=>(hc i hi).1.1.1) (λi hi=>(hc i hi).1.1.2) (λi hi=>(hc i hi).1.2) (λi hi=>(hc i hi).2) (λi hi=>yD i (by omega)) (λi _=> ?_) λi hi=> ?_
 ·obtain⟨pre,e1⟩:=hp;have F4:∀(f:Nat->AV),(keep.map λk=>(k,f k)).map (·.1)=keep:=λf=>by rw[List.map_map];exact List.map_id _
  show bp ((keep.map λk=>(k,(bp x.1.t k).aM (fV s.h.length p)))++s.t) i=_\/_;rcases Fm (keep.map λk=>(k,(bp x.1.t k).aM (fV s.h.length p))) s.t i with⟨J,h2⟩|⟨J,h2⟩
  ·rw[F4]at J;rw[h2,tO (λk=>(bp x.1.t k).aM (fV s.h.length p)),if_pos J];exact .inl rfl
  ·rw[F4]at J;show _\/bp ((keep.map λk=>(k,(bp x.1.t k).aM (fV s.h.length p)))++s.t) i=_;rw[h2];rw[e1,ap2,Nat.add_sub_cancel,List.take_left']at hb
   ·rw[e1];rcases Fm pre s.t i with⟨h3,h4⟩|⟨h3,h4⟩
    ·right
     obtain⟨y,hy,rfl⟩:=List.mem_map.1 h3;have:=aqr.1 hb y hy;rw[Bool.or_eq_true]at this;rcases this with this|this
     ·exfalso;obtain⟨k,hk,e⟩:=List.any_eq_true.1 this;rw[beq_iff_eq]at e;exact J (e▸hk)
     ·generalize bp s.t y.1=z at this;cases z<;>first|rfl|cases this
    ·left
     rw[h4,wZ (τ:=id) yD _ (nP i),GM]
   ·rfl
 ·show(bif zM s.h.length p then x.1.h else tq p q s.h.length x.1.h x.1.h.length 0)[fV s.h.length p i]?=_;cases hid:zM s.h.length p with
  |true=>rw[aem hid];simp only[cond_true,id];rw[ap5 hi,Option.map_some,Sg]
  |false=>
  simp only[cond_false];rw[VB,if_pos (Nat.lt_of_succ_le (hc i hi).1.1.1),aql,(hc i hi).1.2,ap5 hi];rfl
theorem Z6{P:aqS}{ol:aqP Oper}{as:aqP (Nat×cg)}{keep:aqP Nat}{s:St}{Δ:aqP (Nat×AV)}{h':aqP aq}{ps:aqP (In×cg)}{m N0:Nat}{K:St->Prop}(h:Ad P ol as keep s=some (List.replicate m (Δ,h',ps)))(cd:gr P ps)(hN:N0<=s.h.length)(nP:∀i,(bp s.t i).aE s.h.length=true)(hK:F2 N0 K)(hk:K ⟨s.n,Δ++s.t,h'⟩):
 lf false P ol.toArray K ol.toArray.size (Array.replicate ol.toArray.size false) s:=by
 unfold Ad at h;obtain⟨hM,h⟩:=lx h;rw[yV,yV]at h;split at h
 ·next ls e1=>
  obtain⟨_,h2,h3⟩:=ab9 (s0:=s) hK.c hM s.t _ 0 (Array.replicate ol.toArray.size false) _ _ s ls ⟨by simp,λi=>by
   rw[Nat.zero_testBit,Array.getD_eq_getD_getElem?,Array.getElem?_replicate];split<;>rfl⟩ (λj o ho hj=>by
   exfalso;rw[Array.getD_eq_getD_getElem?]at hj;rw[Array.getElem?_replicate]at hj;split at hj<;>simp at hj) e1
  refine h3 λx hx=> ?_;obtain⟨a,ha,e2⟩:=Qk h x hx;rw[List.mem_replicate]at ha;obtain⟨_,rfl⟩:=ha;obtain⟨k1,k2⟩:=Z9 (P:=P) (ops:=ol.toArray) e2 hN nP ((h2 x hx).2.2 (l4.refl _ _)).n ((h2 x hx).2.1 ⟨[],rfl⟩) cd;exact⟨k2,hK _ _ k1 hk⟩
 ·cases h
section
variable {P:aqS} {r:aqR Nat} {N0 id n:Nat} {ol:aqP Oper} {y:Code} {t:aqP (Nat×AV)} {h:aqP aq} {Q Q':Exit->St->Prop}
theorem rtE(m:Nat)(hm:P.follows .mixedOrders=true)(Δ:aqP (Nat×AV))(h':aqP aq)(e:∃ay:aqP (Nat×Ob P),Ad P ol (jn ay) (Δ.map (·.1)) ⟨n,t,h⟩=some (List.replicate m (Δ,h',jI ay)))(k:bH P r N0 y Q' ⟨n,Δ++t,h'⟩):bH P r N0 (.region id ol.toArray true) (jc (λs=>bH P r N0 y Q' s) Q) ⟨n,t,h⟩:=
 let ⟨ay,e⟩:=e
 Sp hm λhN nP=>Z6 e (pP ay) hN nP (TQ _) ⟨_,iJ.refl _ _,k⟩
theorem rt(m:Nat)(hm:P.follows .mixedOrders=true)(ay:aqP (Nat×Ob P))(Δ:aqP (Nat×AV))(h':aqP aq)(e:Ad P ol (jn ay) (Δ.map (·.1)) ⟨n,t,h⟩=some (List.replicate m (Δ,h',jI ay)))(k:bH P r N0 y Q' ⟨n,Δ++t,h'⟩):bH P r N0 (.region id ol.toArray true) (jc (λs=>bH P r N0 y Q' s) Q) ⟨n,t,h⟩:=rtE m hm Δ h' ⟨ay,e⟩ k
theorem rte(m:Nat)(hm:P.follows .mixedOrders=true)(ay:aqP (Nat×Ob P))(Δ:aqP (Nat×AV))(h':aqP aq)(e:Ad P ol (jn ay) (Δ.map (·.1)) ⟨n,t,h⟩=some (List.replicate m (Δ,h',jI ay)))(k:Q .normal ⟨n,Δ++t,h'⟩):bH P r N0 (.region id ol.toArray true) Q ⟨n,t,h⟩:=
 Sp hm λhN nP=>Z6 e (pP ay) hN nP (TQ _) ⟨_,iJ.refl _ _,k⟩
end
theorem adL{f:AV->AV}(hf:∀d,f (.d d)= .d d)(xs:aqP (aqP D)):(cp xs).map (·.map f)=cp xs:=by
 unfold cp;rw[List.map_map];refine aqw λc _=> ?_;simp only[Function.comp,List.map_map];exact aqw λd _=>hf d
theorem Gm(xs:aqP (aqP D)):(cp xs).length=xs.length:=by unfold cp;rw[ap6]
theorem Ox{xs:aqP (aqP D)}{i:Nat}{c:aqP D}(h:xs[i]?=some c):(cp xs)[i]?=some (c.map .d):=by unfold cp;rw[ap8,h];rfl
theorem ad5(xs:aqP (aqP D))(i:Nat)(c:aqP D):cp (xs.set i c)=(cp xs).set i (c.map .d):=by unfold cp;rw[List.map_set]
theorem ahb(xs ys:aqP (aqP D)):cp (xs++ys)=cp xs++cp ys:=by unfold cp;rw[List.map_append]
theorem aY{cs:aqP AV}{l:aqP aq}(h:VD l):VD (.cells cs::l):=⟨trivial,h⟩
theorem af8{e k n:Nat}{l:aqP aq}(h:VD l):VD (.front e k n::l):=⟨trivial,h⟩
theorem eB{kv:aqP (aqQ×D)}{l:aqP aq}(h:VD l):VD (.map kv::l):=⟨trivial,h⟩
theorem ao9{l:aqP aq}(h:VD l):VD (.gone::l):=⟨trivial,h⟩
def aq.sf(m:Nat):aq->aq
 | .vec e k cs=> .vec e k cs
 |B=>B.bx m
def aq.zU:aq->aq
 | .vec e k cs=> .vec e k cs
 |B=>B.qd
def aq.Bn(m:Nat):aq->Prop
 | .vec _ _ cs=>cs.map (·.map (AV.bx m))=cs/\cs.all (·.all (AV.aE m))=true
 |_=>True
def js(m:Nat):aqP aq->Prop
 |[]=>True
 |B::l=>B.Bn m/\js m l
section
variable {m:Nat} {l:aqP aq}
theorem jU:js m []:=trivial
theorem eY{B:aq}(hB:B.Bn m)(h:js m l):js m (B::l):=⟨hB,h⟩
theorem Wp(xs:aqP (aqP D)):(cp xs).all (·.all (AV.aE m))=true:=by simp [cp,AV.aE]
theorem mc{e k:Nat}{xs:aqP (aqP D)}(h:js m l):js m (.vec e k (cp xs)::l):=⟨⟨adL (λd=>by simp [AV.bx]) _,Wp _⟩,h⟩
theorem js.mem:∀{l:aqP aq},js m l->∀B∈l,B.Bn m
 |[],_,B,hB=>by cases hB
 |_::_,h,B,hB=>by
  rcases aqv.1 hB with rfl|hB
  ·exact h.1
  ·exact js.mem h.2 B hB
end
theorem ahw{m:Nat}{B:aq}(h:B.Bn m):B.sf m=B.bx m:=by
 cases B with
 |vec e k cs=>simp only[aq.sf,aq.bx];rw[h.1]
 |_=>rfl
theorem afq{m:Nat}{B:aq}(h:B.Bn m)(hl:(B.sf m).ui m=true):(B.bx m).aE m=true:=by
 cases B with
 |vec e k cs=>simp only[aq.bx,aq.aE];rw[h.1];exact h.2
 |_=>exact hl
theorem Wh{G:Gh}{w:aqU}{h:aqP aq}(hi:bW G w h):bW G w (h.map aq.zU):=by
 have eJ:∀n,bU (h.map aq.zU) G n=bU h G n:=λn=>by
  unfold bU;rw[ap8];cases h[n]? with
  |none=>rfl
  |some B=>cases B<;>rfl
 have h2:=Tg hi;refine⟨by rw[ap6];exact hi.len,hi.z,hi.S,λn B hB=> ?_,λm n x hm hn=>hi.inj m n x (by rw[<-eJ];exact hm) (by rw[<-eJ];exact hn),hi.gl⟩;rw[ap8]at hB;cases J:h[n]? with
 |none=>rw[J]at hB;cases hB
 |some B'=>
  rw[J]at hB;cases hB
  have h3:=h2.dc n B'.qd (by rw[ap8,J];rfl);cases B' with
  |vec e k cs=>exact hi.dc n _ J
  |_=>exact h3
def vb(kn:aqP (Nat×Nat))(n:Nat):Nat->aqP AV->aqP AV
 |_,[]=>[]
 |i,x::l=>(bif kn.any (λp=>p.1==n&&p.2==i)then x else x.nrm)::vb kn n (i+1) l
def aq.U5(kn:aqP (Nat×Nat))(n:Nat):aq->aq
 | .cells cs=> .cells (vb kn n 0 cs)
 |B=>B.zU
def pL(kn:aqP (Nat×Nat)):Nat->aqP aq->aqP aq
 |_,[]=>[]
 |n,B::l=>B.U5 kn n::pL kn (n+1) l
theorem abA(kn:aqP (Nat×Nat))(n:Nat):∀(j:Nat)(cs:aqP AV),(vb kn n j cs).length=cs.length
 |_,[]=>rfl
 |j,x::l=>by rw[vb,ap4,abA kn n (j+1) l,ap4]
theorem Xf(kn:aqP (Nat×Nat))(n:Nat):∀(j:Nat)(cs:aqP AV)(i:Nat)(c':AV),(vb kn n j cs)[i]?=some c'->∃c,cs[i]?=some c/\(c'=c\/c'=c.nrm)
 |_,[],i,c',h=>by simp [vb]at h
 |j,x::l,0,c',h=>by
  simp only[vb,List.getElem?_cons_zero,Option.some.injEq]at h;refine⟨x,rfl,?_⟩;cases hk:kn.any (λp=>p.1==n&&p.2==j)with
  |true=>rw[hk]at h;exact .inl h.symm
  |false=>rw[hk]at h;exact .inr h.symm
 |j,x::l,i+1,c',h=>by
  simp only[vb,aqC]at h;obtain⟨c,J,h2⟩:=Xf kn n (j+1) l i c' h;exact⟨c,by simpa using J,h2⟩
theorem TP(kn:aqP (Nat×Nat)):∀(j:Nat)(h:aqP aq)(i:Nat)(B':aq),(pL kn j h)[i]?=some B'->∃B,h[i]?=some B/\B'=B.U5 kn (j+i)
 |_,[],i,B',h=>by simp [pL]at h
 |j,B::l,0,B',h=>by simp only[pL,List.getElem?_cons_zero,Option.some.injEq]at h;exact⟨B,rfl,h.symm⟩
 |j,B::l,i+1,B',h=>by
  simp only[pL,aqC]at h;obtain⟨C,J,h2⟩:=TP kn (j+1) l i B' h;exact⟨C,by simpa using J,by rw[h2];congr 1;omega⟩
theorem WI(kn:aqP (Nat×Nat)):∀(j:Nat)(h:aqP aq),(pL kn j h).length=h.length
 |_,[]=>rfl
 |j,B::l=>by rw[pL,ap4,WI kn (j+1) l,ap4]
theorem ag0{G:Gh}{w:aqU}{h:aqP aq}(kn:aqP (Nat×Nat))(hi:bW G w h):bW G w (pL kn 0 h):=by
 have eJ:∀n x,bU (pL kn 0 h) G n=some x->bU h G n=some x:=λn x hx=>by
  obtain⟨B',hB,J⟩:=nI hx;obtain⟨B,h2,rfl⟩:=TP kn 0 h n B' hB;rw[dJ h2,<-J];cases B<;>rfl
 have h2:=Wh hi;refine⟨by rw[WI];exact hi.len,hi.z,hi.S,λn B' hB=> ?_,λm n x hm hn=>hi.inj m n x (eJ m x hm) (eJ n x hn),hi.gl⟩;obtain⟨B,J,rfl⟩:=TP kn 0 h n B' hB;cases B with
 |cells cs=>
  obtain⟨c1,c2,vs,T,c3,c4,c5⟩:=hi.dc n _ J;refine⟨c1,c2,vs,T,c3,by rw[abA];exact c4,λi u c hu hc=> ?_⟩;obtain⟨c0,h3,h4|h4⟩:=Xf _ _ _ _ _ _ hc
  ·rw[h4];exact c5 i u c0 hu h3
  ·rw[h4];exact(c5 i u c0 hu h3).nrm
 |_=>exact h2.dc n _ (by rw[ap8,J];rfl)
def mO(s:St)(live:aqP Nat)(m:Nat)(ks:aqP Nat)(kn:aqP (Nat×Nat)):aqR St:=
 bif ct m s.h.length&&(live.all λk=>((bp s.t k).bx m).aE m)&&(((s.h.take m).map (aq.sf m)).all (aq.ui m))then some ⟨s.n,live.map λk=>(k,bif ks.any (·==k)then(bp s.t k).bx m else(bp s.t k).fin m),pL kn 0 ((s.h.take m).map (aq.sf m))⟩else none
theorem U8{h:aqP aq}{m:Nat}(hd:js m (h.take m)):(h.take m).map (aq.sf m)=(h.take m).map (aq.bx m):=aqw λB hB=>ahw (hd.mem B hB)
theorem US{h:aqP aq}{m:Nat}(hd:js m (h.take m))(hl:((h.take m).map (aq.sf m)).all (aq.ui m)=true):((h.take m).map (aq.bx m)).all (aq.aE m)=true:=by
 rw[aqr]at hl ⊢;intro B hB;obtain⟨B',J,rfl⟩:=List.mem_map.1 hB;exact afq (hd.mem B' J) (hl _ (List.mem_map.2 ⟨B',J,rfl⟩))
section
variable {P:aqS} {r:aqR Nat} {n N0:Nat} {G:Gh} {w:aqU} {a:Act} {s s':St} {Q Q':Exit->St->Prop} {live:aqP Nat} {m:Nat} {ks:aqP Nat} {kn:aqP (Nat×Nat)}
theorem cY.mO(hs:cY G w a s)(hd:js m (s.h.take m))(h:mO s live m ks kn=some s'):cY (G.cut m) w a s':=by
 unfold Go.Proofs.YtpeecnpmcbnahaaGreatDoor.mO at h;obtain⟨hb,rfl⟩:=eD h;rw[ap3,ap3]at hb;have hm:=hs.mask (live:=live) ⟨dh.1 hb.1.1,hb.1.2,US hd hb.2⟩;refine⟨hs.size,λi=> ?_,by show bW _ _ (pL kn 0 ((s.h.take m).map (aq.sf m)));rw[U8 hd];exact ag0 kn hm.inv,hs.df⟩;have:=hm.tmp i
 change aH _ _ _ (bp (live.map λk=>(k,(bp s.t k).bx m)) i)at this
 rw[tO (λk=>(bp s.t k).bx m)]at this;show aH _ _ _ (bp (live.map λk=>(k,bif ks.any (·==k)then(bp s.t k).bx m else(bp s.t k).fin m)) i);rw[tO (λk=>bif ks.any (·==k)then(bp s.t k).bx m else(bp s.t k).fin m)];split at this
 ·rename_i hi
  rw[if_pos hi];cases ks.any (·==i)with
  |true=>exact this
  |false=>exact this.nrm
 ·rename_i hi;rw[if_neg hi];exact .dead _
theorem Ty{c:Code}{ι:Type}(live:aqP Nat)(m:Nat)(ks:aqP Nat)(kn:aqP (Nat×Nat))(st:ι->St)(I:ι->Prop)(μ:ι->Nat)(i0:ι)(hm:N0<=m)(h0:js m (s.h.take m)/\Go.Proofs.YtpeecnpmcbnahaaGreatDoor.mO s live m ks kn=some (st i0))(hI:I i0)
 (round:∀i,I i->bH P r N0 c (jc (λs'=>∃i',(js m (s'.h.take m)/\Go.Proofs.YtpeecnpmcbnahaaGreatDoor.mO s' live m ks kn=some (st i'))/\I i'/\μ i'<μ i) Q) (st i)):bH P r N0 (.loop c) Q s:=by
 constructor
 intro G w a n hs _;refine T4 (λ(i:ι) a' w'=>∃G',I i/\bV N0 G w G' w'/\N0<=G'.N/\cY G' w' a' (st i)) μ i0 ⟨G.cut m,hI,qN _ _ _ _,hm,hs.mO h0.1 h0.2⟩ ?_;rintro i a' w' ⟨G',hi,hE,hN,cE⟩;refine wpIn_mono ((round i hi).run G' w' a' n cE hN) λe a1 w1 hn=> ?_;obtain⟨G1,s1,jk,gF,ft,hq⟩:=hn;cases e with
 |normal=>
  obtain⟨i',J,h2,h3⟩:=hq;exact⟨i',⟨G1.cut m,h2,(hE.trans jk).trans (qN _ _ _ _),hm,ft.mO J.1 J.2⟩,h3⟩
 |_=>exact⟨G1,s1,hE.trans jk,gF,ft,hq⟩
theorem Jm{c:Code}(live:aqP Nat)(m:Nat)(ks:aqP Nat)(kn:aqP (Nat×Nat))(hm:N0<=m)(h0:js m (s.h.take m)/\Go.Proofs.YtpeecnpmcbnahaaGreatDoor.mO s live m ks kn=some s')(h:bH P r N0 c Q s'):bH P r N0 c Q s:=by
 constructor
 intro G w a n hs _;exact wpIn_mono (h.run (G.cut m) w a n (hs.mO h0.1 h0.2) hm) λ_ _ _ hn=>hn.trans (qN N0 G w m)
theorem aov{c y:Code}{ι:Type}(live:aqP Nat)(m:Nat)(ks:aqP Nat)(kn:aqP (Nat×Nat))(st:ι->St)(I:ι->Prop)(hm:N0<=m)(hc:bH P r N0 c (jc (λs'=>∃i,(js m (s'.h.take m)/\Go.Proofs.YtpeecnpmcbnahaaGreatDoor.mO s' live m ks kn=some (st i))/\I i) Q) s)(hy:∀i,I i->bH P r N0 y Q' (st i)):bH P r N0 c (jc (λs=>bH P r N0 y Q' s) Q) s:=by
 refine hc.mono λe s' h=> ?_;cases e with
 |normal=>obtain⟨i,J,h2⟩:=h;exact Jm live m ks kn hm J (hy i h2)
 |_=>exact h
end
def Ha(P:aqS)(rs:aqP ResultVar)(m:Nat)(s:St):aqR (AV×aqP aq):=
 match sI P s rs with
 |some l=>bif ct m s.h.length&&((kp l).bx m).aE m&&(((s.h.take m).map (aq.sf m)).all (aq.ui m))then some (((kp l).bx m).nrm,((s.h.take m).map (aq.sf m)).map aq.zU)else none
 |none=>none
def YM(P:aqS)(fn:Func)(m:Nat)(R:AV)(H:aqP aq):Exit->St->Prop
 | .normal,s=>js m (s.h.take m)/\Ha P fn.results.toList m s=some (R,H)
 | .ret,s=>js m (s.h.take m)/\Ha P fn.results.toList m s=some (R,H)
 |_,_=>False
theorem Yl{P:aqS}{s:St}{fn:Func}{m:Nat}{R:AV}{H:aqP aq}(h:js m (s.h.take m)/\Ha P fn.results.toList m s=some (R,H)):qS P fn m (λr h'=>r.nrm=R/\h'.map aq.zU=H) s:=by
 obtain⟨hd,h⟩:=h;unfold Ha at h;split at h
 ·next l e=>
  obtain⟨hb,he⟩:=eD h;cases he
  simp only[ap3,dh]at hb;exact Gu _ _ _ e ⟨hb.1.1,hb.1.2,US hd hb.2,rfl,by rw[U8 hd]⟩
 ·cases h
theorem vc{P:aqS}{s:St}{fn:Func}{m:Nat}{R:AV}{H:aqP aq}(hd:js m (s.h.take m))(h:Ha P fn.results.toList m s=some (R,H)):YM P fn m R H .ret s:=⟨hd,h⟩
theorem Gx{P:aqS}{f:FuncId}{fn:Func}{c:Code}{args:aqP AV}{h H:aqP aq}{R:AV}(m:Nat)(hf:P.funcs[f]?=some fn)(hb:fn.body=some c)(hn:(fn.name== "runtime.NumGoroutine")=false)(hm:h.length<=m)
 (hw:bH P none h.length c (YM P fn m R H) {n:=args.length+(fn.ntmps-args.length),t:=l5 0 args,h:=h}):cV P f args h λr1 J=>r1=R/\J=H:=by
 have h0:=vV (P:=P) (f:=f) (args:=args) (h:=h) (K:=λr h'=>r.nrm=R/\h'.map aq.zU=H) m hf hb hn hm (hw.mono λe s hq=>by
  cases e with
  |normal=>exact Yl hq
  |ret=>exact Yl hq
  |_=>exact hq.elim)
 refine⟨h0.1,λG w vs hi hl hr=>(h0.2 G w vs hi hl hr).mono λe w' hp=> ?_⟩;obtain⟨v,G',x,h',rfl,hE,hN,dY,hv,rfl,rfl⟩:=hp;exact⟨v,G',x.nrm,_,rfl,hE,hN,Wh dY,hv.nrm,rfl,rfl⟩
mutual
def AV.uQ(b:Nat):AV->aqP (Nat×Nat×Nat×Nat)
 | .vec n o len L k=>bif n==b then[(o,len,L,k)]else[]
 | .agg cs=>AV.vR b cs
 | .bj cs=>AV.vR b cs
 | .fn _ cs=>AV.vR b cs
 |_=>[]
def AV.vR(b:Nat):aqP AV->aqP (Nat×Nat×Nat×Nat)
 |[]=>[]
 |x::l=>x.uQ b++AV.vR b l
end
mutual
def AV.mlt(b:Nat)(xs:aqP (aqP D)):AV->AV
 | .vec n o len L k=>bif n==b then .d (.sl xs)else .vec n o len L k
 | .dB n i j L k=>bif n==b then .dead else .dB n i j L k
 | .agg cs=> .agg (AV.oH b xs cs)
 | .bj cs=> .bj (AV.oH b xs cs)
 | .fn f cs=> .fn f (AV.oH b xs cs)
 |x=>x
def AV.oH(b:Nat)(xs:aqP (aqP D)):aqP AV->aqP AV
 |[]=>[]
 |x::l=>x.mlt b xs::AV.oH b xs l
end
mutual
theorem abr{b kk:Nat}{xs:aqP (aqP D)}:∀x:AV,(∀q∈x.uQ b,q=(0,xs.length,xs.length,kk))->x.dz b kk xs=x.mlt b xs
 | .vec n o len L k,h=>by
   unfold AV.dz AV.mlt;unfold AV.uQ at h;cases e:n==b with
   |false=>rfl
   |true=>
    rw[e]at h;have:=h _ ap7;cases this
    simp
 | .agg cs,h=>by unfold AV.dz AV.mlt;rw[BN cs (by unfold AV.uQ at h;exact h)]
 | .bj cs,h=>by unfold AV.dz AV.mlt;rw[BN cs (by unfold AV.uQ at h;exact h)]
 | .fn f cs,h=>by unfold AV.dz AV.mlt;rw[BN cs (by unfold AV.uQ at h;exact h)]
 | .dB n i j L k,h=>by unfold AV.dz AV.mlt;rfl
 | .d _,_=>by simp [AV.dz,AV.mlt]
 | .ptr ..,_=>by simp [AV.dz,AV.mlt]
 | .bk ..,_=>by simp [AV.dz,AV.mlt]
 | .own ..,_=>by simp [AV.dz,AV.mlt]
 | .full _,_=>by simp [AV.dz,AV.mlt]
 | .row ..,_=>by simp [AV.dz,AV.mlt]
 | .mp _,_=>by simp [AV.dz,AV.mlt]
 | .cr _,_=>by simp [AV.dz,AV.mlt]
 | .hid _,_=>by simp [AV.dz,AV.mlt]
 | .dead,_=>by simp [AV.dz,AV.mlt]
theorem BN{b kk:Nat}{xs:aqP (aqP D)}:∀l:aqP AV,(∀q∈AV.vR b l,q=(0,xs.length,xs.length,kk))->AV.qz b kk xs l=AV.oH b xs l
 |[],_=>by simp [AV.qz,AV.oH]
 |x::l,h=>by
  unfold AV.vR at h;unfold AV.qz AV.oH;rw[abr x λq hq=>h q (List.mem_append_left _ hq),BN l λq hq=>h q (List.mem_append_right _ hq)]
end
theorem aex{c L kk:Nat}{xs:aqP (aqP D)}(hL:xs.length=L){l:aqP (Nat×Nat×Nat×Nat)}(h:l=List.replicate c (0,L,L,kk)):∀q∈l,q=(0,xs.length,xs.length,kk):=λq hq=>by
 rw[h,List.mem_replicate]at hq;rw[hq.2,hL]
theorem Vv{G:Gh}{w:aqU}{h:aqP aq}(hi:bW G w h)(e k:Nat):bV G.N G w (G.fm (.slice none 0 0) 0 none) w/\G.N<=(G.fm (.slice none 0 0) 0 none).N/\bW (G.fm (.slice none 0 0) 0 none) w (h++[.vec e k []])/\aH (G.fm (.slice none 0 0) 0 none) w (.slice none 0 0) (.vec h.length 0 0 0 k):=by
 obtain⟨a1,a2⟩:=Sc (w':=w) hi (.vec e k []) (λ_ _=>rfl) (.slice none 0 0) 0 none ⟨λ_ _=>rfl,aqc _,rfl,rfl,rfl⟩ (λ_ h=>by cases h)
  ⟨by simp [Gh.fm],Nat.zero_le _,λc hc=>absurd hc aqH, .inl ⟨by simp [Gh.fm],rfl,none,by simp [Gh.fm]⟩⟩
 refine⟨a1,Nat.le_succ _,a2, .vec _ 0 0 0 k (by rw[hi.len];exact aqN _) ⟨none,0,0,rfl⟩ (Nat.zero_le _) λ_=>⟨aqc _,⟨none,0,rfl,aqc _,Nat.zero_le _,aqc _,λh=>absurd h (aqF _)⟩,λ_ _=> ?_⟩⟩;simp [Gh.fm,hi.len]
section
variable {P:aqS} {r:aqR Nat} {N0:Nat} {s:St} {Q:Exit->St->Prop} {c:Code}
theorem aeg(t e k:Nat)(hx:bp s.t t= .d (.v (.slice none 0 0)))(h:bH P r N0 c Q ⟨s.n,(t, .vec s.h.length 0 0 0 k)::s.t,s.h++[.vec e k []]⟩):bH P r N0 c Q s:=by
 constructor
 intro G w a n hs hN;obtain⟨a1,a2,a3,a4⟩:=Vv hs.inv e k;have hv:=hs.tmp t;rw[hx]at hv;have hv:=hv.val;have cE:cY (G.fm (.slice none 0 0) 0 none) w a ⟨s.n,(t, .vec s.h.length 0 0 0 k)::s.t,s.h++[.vec e k []]⟩:=by
  refine⟨hs.size,λi=> ?_,a3,hs.df.keep a1⟩;show aH _ _ _ (bp ((t, .vec s.h.length 0 0 0 k)::s.t) i);rw[lI];split
  ·next e=>exact e▸hv▸a4
  ·exact(hs.tmp i).keep a1 a2
 exact wpIn_mono (h.run _ w a n cE (aqj hN a2)) λ_ _ _ hn=>hn.trans (a1.less hN)
theorem apm(b i e k:Nat){cs:aqP AV}(hb:s.h[b]?=some (.cells cs))(hx:cs[i]?=some (.d (.v (.slice none 0 0))))
 (h:bH P r N0 c Q ⟨s.n,s.t,(s.h++[aq.vec e k []]).set b (aq.cells (cs.set i (AV.vec s.h.length 0 0 0 k)))⟩):bH P r N0 c Q s:=by
 constructor
 intro G w a n hs hN;obtain⟨J,h2,vs,T,h3,h4,h5⟩:=hs.inv.dc _ _ hb;have hi:i<cs.length:=(ap1.1 hx).1;have hv:vs[i]?=some vs[i]:=aqn (by omega);have sD:=(h5 i _ _ hv hx).val;obtain⟨a1,a2,a3,a4⟩:=Vv hs.inv e k;have aN:=(ap1.1 hb).1;have cE:cY (G.fm (.slice none 0 0) 0 none) w a ⟨s.n,s.t,(s.h++[aq.vec e k []]).set b (aq.cells (cs.set i (AV.vec s.h.length 0 0 0 k)))⟩:=by
  refine⟨hs.size,λj=>(hs.tmp j).keep a1 a2,ZP a3 (by rw[aqb aN];exact hb) (by rw[List.length_set]) λgh T' EO j u c hu hc=> ?_,hs.df.keep a1⟩;have e1:(G.fm (.slice none 0 0) 0 none).aR b=G.aR b:=rfl;rw[e1,h3]at EO;cases EO
  by_cases e2:i=j
  ·subst e2;rw[aqu hi]at hc;cases hc
   rw[hv]at hu;cases hu
   rw[sD];exact a4
  ·rw[aqz e2]at hc;exact(h5 j u c hu hc).keep a1 a2
 exact wpIn_mono (h.run _ w a n cE (aqj hN a2)) λ_ _ _ hn=>hn.trans (a1.less hN)
theorem apG(b:Nat)(h:bH P r N0 c Q ⟨s.n,s.t,s.h.set b .gone⟩):bH P r N0 c Q s:=by
 constructor
 intro G w a n hs hN;have hi:=hs.inv;have eJ:∀n x,bU (s.h.set b .gone) G n=some x->bU s.h G n=some x:=λn x hx=>by
  obtain⟨B,hB,J⟩:=nI hx;by_cases e:b=n
  ·subst e;have aN:=(ap1.1 hB).1;rw[List.length_set]at aN;rw[aqu aN]at hB;cases hB;cases J
  ·rw[aqz e]at hB;rw[dJ hB];exact J
 refine h.run G w a n ⟨hs.size,hs.tmp,⟨by rw[List.length_set];exact hi.len,hi.z,hi.S,λn B hB=> ?_,λm n x J h2=>hi.inj m n x (eJ m x J) (eJ n x h2),hi.gl⟩,hs.df⟩ hN;by_cases e:b=n
 ·subst e;have aN:=(ap1.1 hB).1;rw[List.length_set]at aN;rw[aqu aN]at hB;cases hB;trivial
 ·rw[aqz e]at hB;exact hi.dc n B hB
end
theorem zO{α:Type}{f:α->aqP D}{E:aqP α}{L:Nat}(h:E.length=L):(cp (E.map f)).length=L:=by rw[Gm,ap6,h]
theorem YW{cs:aqP (aqP AV)}{z:Int}{L i:Nat}(h:cs.length=L)(h0:0<=z)(J:z<(L:Int))(h2:z.toNat=i):cs.length=L/\0<=z/\z<(L:Int)/\i=0+z.toNat:=⟨h,h0,J,by rw[h2,aql]⟩
theorem ape{α:Type}{f:α->aqP D}{E:aqP α}{L i:Nat}{x:α}(h:E.length=L)(hx:E[i]?=some x):(cp (E.map f)).length=L/\(cp (E.map f))[i]?=some ((f x).map .d):=⟨zO h,Ox (by rw[ap8,hx];rfl)⟩
theorem aiC{α:Type}{f:α->aqP D}{E:aqP α}{L i j:Nat}{x y:α}{zs:aqP AV}(h:E.length=L)(hx:E[i]?=some x)(hy:(f y).map AV.d=ji ((f x).map .d) j zs):(cp (E.map f)).length=L/\(cp (E.map f))[i]?=some ((f x).map .d)/\cp ((E.set i y).map f)=(cp (E.map f)).set i (ji ((f x).map .d) j zs):=
 ⟨zO h,Ox (by rw[ap8,hx];rfl),by rw[List.map_set,ad5,hy]⟩
theorem Ks{α:Type}{f:α->aqP D}{E ys:aqP α}{h:aqP aq}{k L hX L' c6:Nat}{y:AV}(hE:E.length=L)(hy:y.fW=some (ys.map f))(hk:∀c∈ys.map f,c.length=k)(hn:ys.length=hX)(hL:L+ys.length=L')(hm:L'<=maxLen)(hb:L'*c6<=140737488355328):
 (cp (E.map f)).length=L/\Bk h k y (cp (ys.map f))/\L'=L+(cp (ys.map f)).length/\((0+L+(cp (ys.map f)).length<=L/\L'=L/\cp ((E++ys).map f)=(cp (E.map f)).take (0+L)++cp (ys.map f)++(cp (E.map f)).drop (0+L+(cp (ys.map f)).length))\/(0=0/\L=L/\L'=L+(cp (ys.map f)).length/\cp ((E++ys).map f)=cp (E.map f)++cp (ys.map f)/\L'<=maxLen/\L'*c6<=140737488355328)):=by
 have hl:(cp (ys.map f)).length=ys.length:=by rw[Gm,ap6]
 refine⟨zO hE, .inl ⟨_,hy,hk,rfl⟩,by rw[hl,hL], .inr ⟨rfl,rfl,by rw[hl,hL],by rw[List.map_append,ahb],hm,hb⟩⟩
theorem anf{xs:aqP (aqP D)}{h:aqP aq}{k c6:Nat}{y:AV}(hk:∀c∈xs,c.length=k)(hy:y.fW=some xs)(hm:xs.length<=maxLen)(hb:xs.length*c6<=140737488355328):
 ([]:aqP (aqP D))=[]/\Bk h k y (cp xs)/\cp xs=cp xs/\xs.length=(cp xs).length/\xs.length=(cp xs).length/\xs.length<=maxLen/\xs.length*c6<=140737488355328:=⟨rfl, .inl ⟨xs,hy,hk,rfl⟩,rfl,(Gm xs).symm,(Gm xs).symm,hm,hb⟩
theorem aku{α:Type}{f:α->aqP D}(hf:∀x,(f x).all D.AW=true)(E:aqP α):∀c∈E.map f,c.all D.AW=true:=λc hc=>by
 obtain⟨x,_,rfl⟩:=List.mem_map.1 hc;exact hf x
theorem ajJ{α:Type}{f:α->aqP D}{E:aqP α}{L:Nat}(h:E.length=L):(E.map f).length=L:=by rw[ap6,h]
def Oc(o:Oper):Bool:=
 match o.op with
 | .call c=>match c.callee with
   | .value _=>false
   |_=>true
 |_=>true
def IL:cg->Bool
 | .va _=>true
 |_=>false
def TU(o:Oper)(a:cg):Bool:=IB o||(Oc o&&((ub o||jO o&& !(cx o==0))|| !IL a))
def He(o:Oper)(a:cg):Bool:=TU o a||(!BE a&&(!IL a&& !jO o))
def DP(as:aqP (Nat×cg)):Nat->aqP Oper->Bool
 |_,[]=>true
 |j,o::l=>He o (jh as (3*j+1))&&DP as (j+1) l
section
variable {P:aqS} {ops:Array Oper} {o:Oper} {j:Nat} {as:aqP (Nat×cg)} {s s1:St} {l:aqP (In×cg)} {K:St->Prop}
theorem anV(hn:Oc o=true)(h:rz P o K s):Cp P o K s:=by
 unfold Cp;unfold Oc at hn;split
 ·next c ia=>
  rw[ia]at hn;split
  ·next f hc=>simp only[hc]at hn;cases hn
  ·exact h
 ·exact h
theorem agL(h:nT P false o j as s=some (s1,l))(cd:gr P l)(hK:K s1)(hL:TU o (jh as (3*j+1))=true):yt true P o K s:=by
 unfold nT at h;simp only[Bool.false_and,cond_false]at h;split at h
 ·next x h' i hr=>
  have fin:OK P i (jh as (3*j+1))->K ((s.wh h').put o.dst x)->yt true P o K s:=λJ h2=>by
   unfold TU at hL;rw[Bool.or_eq_true]at hL;unfold C8 at hr;split at hr
   ·next va e=>
    simp only[Bool.false_and,cond_false]at hr;split at hr
    ·next x2 TT p e2=>
     cases hr
     rcases hL with hL|hL
     ·exfalso;rw[e]at J;unfold IB at hL;split at hL
      ·next c ia=>
       split at hL
       ·next t hc=>
        rw[ia]at e2;unfold iF at e2;simp only[hc]at e2;cases e2
       ·next t hc=>
        rw[ia]at e2;unfold iF at e2;simp only[hc]at e2;cases e2
       ·cases hL
      ·cases hL
     ·rw[e]at J hL;simp only[IL,Bool.not_true,Bool.or_false,ap3]at hL;cases J with|pr _ hp=>exact .inr (.inr (.inl ⟨(by
        have h3:=hL.2;rw[Bool.or_eq_true,ap3,Bool.not_eq_true']at h3;exact h3.elim (λe=> .inr (by rw[e];rfl)) λe=> .inl ⟨e.1,by rw[e.2];rfl⟩),va,x,h',p,e2,hp,h2⟩))
    ·cases hr
   ·rcases hL with hL|hL
    ·exact .inr (.inl ⟨by unfold nK;rw[hL];rfl,x,h',h2,λC hC=>AY hr J hC⟩)
    ·rw[ap3]at hL;exact .inl (anV hL.1 (AY (C:=λx h'=>K ((s.wh h').put o.dst x)) hr J h2))
  split at h
  ·next y hy=>
   obtain⟨m,e,h2,h3⟩:=Ng h cd;cases e
   have:=h2 (.eq x, .eq y) ap7;cases this with|eq e=>subst e;exact fin h3 hK
  ·obtain⟨m,e,h2,h3⟩:=Ng h cd;cases e
   exact fin h3 hK
 ·cases h
theorem am7{dr v:Bool}{op:Op}{ρ:Operand->AV}{h:aqP aq}{a:cg}(hv:IL a=false):C8 P dr v op ρ h a=uw P op ρ h a:=by
 cases a<;>first|rfl|cases hv
theorem acP(h:nT P false o j as s=some (s1,l))(cd:gr P l)(hK:K s1)(hL:He o (jh as (3*j+1))=true):yt true P o K s:=by
 unfold He at hL;rw[Bool.or_eq_true]at hL;rcases hL with hL|hL
 ·exact agL h cd hK hL
 ·rw[ap3,ap3,Bool.not_eq_true',Bool.not_eq_true',Bool.not_eq_true']at hL;obtain⟨J,h2,h3⟩:=hL;have h':nT P true o j as s=some (s1,l):=by
    unfold nT at h ⊢;rw[am7 h2]at h ⊢;rw[J];exact h
  have:=TG (dr:=true) h' cd hK;rcases this with h|⟨e,_⟩|⟨e,_⟩|h
  ·exact .inl h
  ·cases e
  ·exfalso;rcases e with e|e
   ·rw[h3]at e;exact absurd e.1 (by simp)
   ·cases e
  ·exact .inr (.inr (.inr h))
theorem Vz(h:nZ P ops false o j as s=some (s1,l))(cd:gr P l)(hK:K s1)(hL:He o (jh as (3*j+1))=true):jv ops o s (yt true P o K s) (K (s.put o.dst (.d (.v undef)))):=by
 unfold nZ at h;split at h
 ·next hg=>unfold jv;rw[hg];exact acP h cd hK hL
 ·next g want hg=>
  obtain⟨dst,op,ty,pos,after,guard⟩:=o;simp only at hg;subst hg;split at h
  ·next b hb=>
   obtain⟨n,e,h2,h3⟩:=Bq h cd;have h4:=OK.HB (h3 (_,_) ap7);rw[Kv,h4];refine⟨λe2=> ?_,λe2=> ?_⟩
   ·subst e2;simp only[BEq.rfl,cond_true]at e;exact acP e h2 hK hL
   ·subst e2;have:((!want)==want)=false:=by cases want<;>rfl
    rw[this]at e;simp only[cond_false]at e;cases e
    exact hK
  ·next hb=>
   obtain⟨n,e,h2,h3⟩:=Bq h cd;cases e
   have h4:=h3 (_,_) ap7;have h5:vE ops g s.t= .d (.v undef):=by
    generalize vE ops g s.t=z at h4;cases h4;rfl
   rw[Kv,h5];exact hK
  ·cases h
theorem OV:∀(ol:aqP Oper)(j:Nat)(s:St)(l:aqP (In×cg)),o8 P ops false ol j as s=some (s1,l)->gr P l->DP as j ol=true->K s1->uJ true P ops ol K s
 |[],_,s,l,h,_,_,hK=>by cases h;exact hK
 |o::rest,j,s,l,h,cd,hL,hK=>by
  unfold DP at hL;rw[ap3]at hL;unfold o8 at h;split at h
  ·next s2 m hg=>
   obtain⟨n,e,h2,h3⟩:=Bq h cd;exact Vz (K:=uJ true P ops rest K) hg h3 (OV rest (j+1) s2 n e h2 hL.2 hK) hL.1
  ·cases h
theorem aaQ:∀(ol pre:aqP Oper),tY (pre++ol).toArray ((List.range ol.length).map (pre.length+·))=ol
 |[],_=>rfl
 |o::l,pre=>by
  rw[ap4,List.range_succ_eq_map,aqq,List.map_map];unfold tY;have J:(pre++o::l).toArray[pre.length+0]?=some o:=by simp
  rw[J];simp only;have h2:=aaQ l (pre++[o]);rw[aqi]at h2;simp only[List.singleton_append,ap2,ap4,aqd,aql]at h2
  congr 1
  rw[show(pre.length+·)∘Nat.succ=(pre.length+1+·)from by funext i;simp only[Function.comp];omega];exact h2
theorem UX(ol:aqP Oper):tY ol.toArray (List.range ol.length)=ol:=by
 have:=aaQ ol []
 simpa using this
end
section
variable {P:aqS} {r:aqR Nat} {N0 id n:Nat} {ol:aqP Oper} {y:Code} {t:aqP (Nat×AV)} {h:aqP aq} {Q Q':Exit->St->Prop}
theorem rle(hm:P.follows .mixedOrders=true)(hl:F6 true ol.toArray (List.range ol.length)=true)(ay:aqP (Nat×Ob P))(Δ:aqP (Nat×AV))(h':aqP aq)(e:DP (jn ay) 0 ol=true/\xU P false ol (jn ay) ⟨n,t,h⟩=some (Δ++t,h',jI ay))(k:Q .normal ⟨n,Δ++t,h'⟩):bH P r N0 (.region id ol.toArray true) Q ⟨n,t,h⟩:=by
 obtain⟨e0,e⟩:=e;refine ads (m:=true) (List.range ol.length) hm (by simp) hl ?_;rw[UX];exact OV ol 0 _ _ (Qs e) (pP ay) e0 k
end
section
variable {P:aqS} {r:aqR Nat} {N0:Nat} {Q:Exit->St->Prop} {c:Code} {o:Oper} {K:St->Prop}
theorem KB{n d:Nat}{t:aqP (Nat×AV)}{h h':aqP aq}{x:AV}(hx:Bj P o.op (ev ⟨n,t,h⟩) h=some (x,h'))(hd:o.dst=some d)(hn:Nat.ble n d=false)(hK:K ⟨n,(d,x)::t,h'⟩):pf P o K ⟨n,t,h⟩:=by
 refine .inr (.inr (.inr (.inr (.inl ⟨x,h',hx,?_⟩))));have aN:d<n:=Nat.lt_of_not_le λhle=>by rw[Nat.ble_eq_true_of_le hle]at hn;cases hn
 rw[hd,qT (s:=St.wh ⟨n,t,h⟩ h') aN];exact hK
theorem alu{n d:Nat}{t:aqP (Nat×AV)}{h h':aqP aq}{x:AV}{p:Prop}(a:VA)(hx:iF P o.op (ev ⟨n,t,h⟩) h a=some (x,h',p))(hp:p)(hd:o.dst=some d)(hn:Nat.ble n d=false)(hK:K ⟨n,(d,x)::t,h'⟩):pf P o K ⟨n,t,h⟩:=by
 refine .inl ⟨a,x,h',p,hx,hp,?_⟩;have aN:d<n:=Nat.lt_of_not_le λhle=>by rw[Nat.ble_eq_true_of_le hle]at hn;cases hn
 rw[hd,qT (s:=St.wh ⟨n,t,h⟩ h') aN];exact hK
theorem afu{ρ:Operand->AV}{h:aqP aq}{q:Call}{x y:Operand}{T U:TypeId}{e k m c6:Nat}{kq kn:IntKind}{z:aqT}(hc:q.callee= .builtin .append)(J:q.args.toList=[x,y])(h2:q.argTypes.toList=[T,U])(hx:(ρ x).isNil=true)(hT:fb P T=some (e,k))(hU:rk P U=some kn)(hy:ρ y= .d (.v (.int kq (Int.ofNat m))))(hz:iQ P e=some z)(hb:rN P e=some c6)(g1:1<=m)(g2:1<=k)(g3:z.cells.toList.length=k)(g4:m<=maxLen)(g5:m*c6<=140737488355328):
 Bj P (.call q) ρ h=some (.vec h.length 0 m m k,h++[.vec e k (List.replicate m (z.cells.toList.map λu=> .d (.v u)))]):=by
 unfold Bj;simp only[hc,J,h2,hT,hU,hy,hz,hb,hx,dh.2 g1,dh.2 g2,dh.2 g4,dh.2 g5,g3,aqK,Bool.and_self,cond_true]
theorem ago{n t e k L:Nat}{ts:aqP (Nat×AV)}{cs:aqP (aqP AV)}(cy:N0=0)(ht:bp ts t= .vec 0 0 0 L k)(hL:cs.length=L)(h:bH P r N0 c Q ⟨n,[(t, .own 0 [])],[.front e k 0]⟩):bH P r N0 c Q ⟨n,ts,[.vec e k cs]⟩:=by
 subst cy;constructor
 intro G w a m hs hN;have hi:=hs.inv;have mQ:([aq.vec e k cs]:aqP aq)[0]?=some (.vec e k cs):=rfl;have hGN:G.N=1:=hi.len.symm;have hv:=hs.tmp t;rw[ht]at hv;obtain⟨vh,⟨A,cc,q1,q2,q3,q4,q5⟩,UR⟩:=hv.vK hi mQ hL;obtain⟨b1,b2,b3,b4⟩:=hi.dc 0 _ mQ;have hp0:∀(A:aqR Addr),cc<=maxLen->dw G.S w (.slice A 0 cc) (.sl []):=λA hc=> .sl A 0 0 cc 0 [] (λ_ _=>undef) (λh=>absurd rfl h) (Nat.zero_le _) hc (λ_ h=>absurd h aqH) (λi j hi=>absurd hi (aqt _)) (λi j x d hx=>by simp at hx);obtain⟨G',gO⟩:∃G',G'={G with sg:=λi=>if i=0 then a.tmps.getD t undef else G.sg i,fl:=λi=>if i=0 then 0 else G.fl i}:=⟨_,rfl⟩;have hE:bV 0 G w G' w:=by
  subst gO;exact⟨aqc _,λ_ _ h=>h,λ_ _ _=>rfl,λ_ h=>absurd h (aqt _),λ_ h=>absurd h (aqt _),im rfl,λ_ _=>rfl,rfl,rfl,rfl,λ_ _ h=> .inl h⟩
 have hinv:bW G' w [.front e k 0]:=by
  refine⟨by rw[gO];exact hi.len,by rw[gO];exact hi.z,by rw[gO];exact hi.S,λj B hB=> ?_,λi j x J h2=> ?_,by rw[gO];exact hi.gl⟩
  ·match j with
   |0=>
    cases hB
    refine⟨by rw[gO];simp,Nat.zero_le _,?_⟩;rcases b4 with⟨d1,d2,A',d3⟩|⟨g,cap,cur,d1,d2,d3,d4,d5,d6,d7,d8,d9⟩
    ·left
     refine⟨by rw[gO];exact d1,?_⟩;have w7:L=0:=by rw[<-hL,d2];rfl
     have:=UR rfl w7.symm;rw[gO];exact⟨A',by simp only[if_true];rw[this];exact d3⟩
    ·by_cases w7:L=0
     ·have:=UR rfl w7.symm
      right
      refine⟨g,cap,cur,by rw[gO];exact d1,?_,by rw[gO];exact d3,d4,Nat.zero_le _,d6,d7,λo _=>by rw[gO];exact d8 o⟩;rw[gO];simp only[if_true];rw[this,d2,hL,w7]
     ·obtain⟨g',GL,s1,rfl,s3⟩:=q5 (Nat.pos_of_ne_zero w7);rw[d2]at s1;cases s1
      right
      have:cc=cap:=by omega
      subst this;refine⟨g,cc,cur,by rw[gO];exact d1,?_,by rw[gO];exact d3,d4,Nat.zero_le _,d6,d7,λo _=>by rw[gO];exact d8 o⟩;rw[gO];simp only[if_true];rw[q1,Nat.zero_mul]
   |j+1=>simp at hB
  ·have hj:∀i x,bU [aq.front e k 0] G' i=some x->i=0:=λi x h=>by
    obtain⟨B,hB,_⟩:=nI h
    match i with
    |0=>rfl
    |i+1=>simp at hB
   rw[hj i x J,hj j x h2]
 refine wpIn_mono (h.run G' w a m ⟨hs.size,λi=> ?_,hinv,?_⟩ (Nat.zero_le _)) λ_ _ _ hn=>hn.trans hE
 ·show aH G' w _ (bp [(t, .own 0 [])] i);rw[lI];split
  ·next e=>
   subst e;refine .own 0 [] (by rw[gO];show 0<G.N;omega) ?_ (Nat.zero_le _) (λ_=>by rw[gO];simp);rw[q1,gO];exact hp0 A q3
  ·exact .dead _
 ·have:=hs.df;rw[gO];exact this
end
end Go.Proofs.YtpeecnpmcbnahaaGreatDoor
namespace Go.Proofs.YtpeecnpmcbnahaaGreatDoor.MK
open Go.RowKit
set_option linter.unusedVariables false
def aq(w:aqU)(g:Nat)(t:TypeId)(cs:aqP aqT):Prop:=w.heap[g]?=some (.cells cs.toArray t (0,0))
section
variable {w w':aqU} {g:Nat} {t:TypeId} {cs:aqP aqT}
end
section
variable {P:aqS} (w:aqU)
end
section
variable {P:aqS} {w:aqU}
end
section
variable {S E base:Nat} {w w' w'':aqU}
end
end Go.Proofs.YtpeecnpmcbnahaaGreatDoor.MK
namespace Go.Proofs.YtpeecnpmcbnahaaGreatDoor
open Go.RowKit
set_option linter.unusedSimpArgs false
set_option linter.unusedVariables false
section
variable {P:aqS}
end
end Go.Proofs.YtpeecnpmcbnahaaGreatDoor
