/-
  Part 3 of the proof: AbsRun, AbsFrz, AbsInst, AbsExec, AbsExecV, AbsRange, AbsAny, AbsExec2, AbsExec3, AbsYield, AbsTree, AbsVecX, MemK, AbsVecD.
-/
import Derived.Test.YtpeecnpmcbnahaaGreatDoorPp2
import Derived.WalkKit
import Derived.Laws.CopyOwn
import Derived.Deep.AppendLies
import Derived.Lib.AppendZerosOnto
import Derived.Lib.Overlaps
import Derived.Lib.Hide
namespace Go.Proofs.YtpeecnpmcbnahaaGreatDoor
open Go.RowKit
def aq.vd:aq->Prop
 | .vec _ _ cs=>(∀f,cs.map (AV.fX f)=cs)/\∀m,cs.all (·.all (AV.aE m))=true
 |_=>True
theorem aho(f:Nat->Nat)(c:apf D):AV.fX f (c.map AV.d)=c.map AV.d:=by
 induction c with
 |nil=>simp [AV.fX]
 |cons x c ih=>simp only[aoQ,AV.fX,AV.aK,ih]
theorem amM(xs:apf (apf D)):(∀f,(cd xs).map (AV.fX f)=cd xs)/\∀m,(cd xs).all (·.all (AV.aE m))=true:=by
 refine⟨λf=> ?_,λm=>by simp [cd,AV.aE]⟩;unfold cd;rw[List.map_map];exact aoW λc _=>aho f c
def VD:apf aq->Prop
 |[]=>True
 |B::l=>B.vd/\VD l
theorem c6:VD []:=trivial
theorem wV{e k:Nat}{xs:apf (apf D)}{l:apf aq}(h:VD l):VD (.vec e k (cd xs)::l):=⟨amM xs,h⟩
theorem VD.mem:∀{l:apf aq},VD l->∀B∈l,B.vd
 |[],_,B,hB=>by cases hB
 |_::_,h,B,hB=>by
  rcases aoV.1 hB with rfl|hB
  ·exact h.1
  ·exact VD.mem h.2 B hB
def aq.qG(f:Nat->Nat):aq->aq
 | .vec e k cs=> .vec e k cs
 |B=>B.aK f
theorem aaW{f:Nat->Nat}{B:aq}(h:B.vd):B.qG f=B.aK f:=by
 cases B with
 |vec e k cs=>simp only[aq.qG,aq.aK];rw[h.1 f]
 |_=>rfl
theorem agu{f:Nat->Nat}{l:apf aq}(h:VD l):l.map (aq.qG f)=l.map (aq.aK f):=aoW λB hB=>aaW (h.mem B hB)
def aq.vj(m:Nat):aq->Bool
 | .vec .. =>true
 |B=>B.aE m
theorem ah1{m:Nat}{B:aq}(h:B.vd)(hl:B.vj m=true):B.aE m=true:=by
 cases B with
 |vec e k cs=>exact h.2 m
 |_=>exact hl
theorem akz{m:Nat}{l:apf aq}(h:VD l)(hl:l.all (aq.vj m)=true):l.all (aq.aE m)=true:=by
 rw[aoR]at hl ⊢;exact λB hB=>ah1 (h.mem B hB) (hl B hB)
theorem ah5{f:Nat->Nat}{l:apf aq}(h:VD l):(l.map λB=>some (B.qG f))=l.map λB=>some (B.aK f):=aoW λB hB=>congrArg some (aaW (h.mem B hB))
inductive In
 |none
 |bit (x:AV)
 |eq (x:AV)
 |el (xs:List (List D)) (i:Int)
 |lt (z:Int) (n:Nat)
 |len (xs:List (List D))
 |sub (xs:List (List D)) (lo:Int) (hi:Option Int) (k:Nat)
 |app (xs ys:List (List D)) (len k cW:Nat)
 |nz (b:Int)
 |nn (b:Int)
 |str (b:ByteArray) (lo hi:Int)
 |cat (n:Nat)
 |pr (p:Prop)
 |sd (p:Sd)
 |iB (xs:List (List D))
 |Kh (c:List D) (z:Int) (n:Nat)
 |ch (b:ByteArray) (i:Int)
 |call (f:FuncId) (args:List AV)
 |jM (f:FuncId) (args:List AV) (h:List aq)
 |CI (c:fk) (args:List AV)
 |nJ (f:FuncId) (args:List AV) (h:List aq)
def QS(P:api)(c:fk)(args:apf AV)(r:AV):Prop:=∃g as,c.app args=some (g,as)/\ga P g as (·=r)
inductive bX
 |none
 |bit (b:Bool)
 |FZ
 |eq (y:AV)
 |el (c:List D)
 |ok
 |nat (n:Nat)
 |list (ys:List (List D))
 |Y2 (ys:List (List D)) (n:Nat)
 |byte (c:UInt8)
 |bytes (s:ByteArray)
 |one (d:D)
 |va (a:VA)
 |ret (r:AV)
 |Pm (r:AV) (h:List aq)
 |O6 (l:List Nat) (eV:List AV) (H:List aq) (r:AV) (H':List aq)
 |rq (l:List Nat) (eV:List AV) (H:List aq) (r:AV)
 |Dp (l:List Nat) (eV:List AV) (H:List aq) (r:AV) (H':List aq)
inductive OK(P:Program):In->bX->Prop
 |none {o:bX}:OK P .none o
 |bit {e b:Bool} (h:e=b):OK P (.bit (.d (.v (.bool e)))) (.bit b)
 |FZ:OK P (.bit (.d (.v undef))) .FZ
 |eq {x y:AV} (h:x=y):OK P (.eq x) (.eq y)
 |el {xs:List (List D)} {i:Int} {c:List D} (h0:0<=i) (h:xs[i.toNat]?=some c):OK P (.el xs i) (.el c)
 |lt {z:Int} {n:Nat} (h0:0<=z) (h:z<n):OK P (.lt z n) .ok
 |len {xs:List (List D)} {n:Nat} (h:xs.length=n):OK P (.len xs) (.nat n)
 |sub {xs ys:List (List D)} {lo hi:Int} {k:Nat} (h0:0<=lo) (J:lo.toNat<=hi.toNat) (h2:0<=hi) (h3:hi.toNat<=xs.length) (hk:∀c∈xs,c.length=k) (h:(xs.take hi.toNat).drop lo.toNat=ys):OK P (.sub xs lo (some hi) k) (.list ys)
 |QL {xs ys:List (List D)} {lo:Int} {k:Nat} (h0:0<=lo) (J:lo.toNat<=xs.length) (hk:∀c∈xs,c.length=k) (h:xs.drop lo.toNat=ys):OK P (.sub xs lo .none k) (.list ys)
 |app {xs ys zs:List (List D)} {len k cW n:Nat} (hl:len=xs.length) (hx:∀c∈xs,c.length=k) (hy:∀c∈ys,c.length=k) (hm:xs.length+ys.length<=maxLen) (hb:(xs.length+ys.length)*cW<=140737488355328) (hz:xs++ys=zs) (hn:xs.length+ys.length=n):OK P (.app xs ys len k cW) (.Y2 zs n)
 |nz {b:Int} (h:b≠0):OK P (.nz b) .ok
 |nn {b:Int} (h:0<=b):OK P (.nn b) .ok
 |str {b:ByteArray} {lo hi:Int} (h0:0<=lo) (J:lo.toNat<=hi.toNat) (h2:0<=hi) (h3:hi.toNat<=b.size):OK P (.str b lo hi) .ok
 |ch {b:ByteArray} {i:Int} {c:UInt8} (h0:0<=i) (h:b[i.toNat]?=some c):OK P (.ch b i) (.byte c)
 |cat {n:Nat} (h:n<=maxLen):OK P (.cat n) .ok
 |pr {p:Prop} (a:VA) (h:p):OK P (.pr p) (.va a)
 |sd {p:Sd} {o:bX} (h:p.ok):OK P (.sd p) o
 |iB {xs:List (List D)} {s:ByteArray} (h:∃ns:List Int,xs=ns.map (λn=>[.v (.int .u8 n)])/\s=⟨(ns.map λn=>UInt8.ofNat n.toNat).toArray⟩):OK P (.iB xs) (.bytes s)
 |Kh {c:List D} {z:Int} {n:Nat} {d:D} (h0:0<=z) (J:z<n) (h:c[z.toNat]?=some d):OK P (.Kh c z n) (.one d)
 |call {f:FuncId} {args:List AV} {r:AV} (h:ga P f args (·=r)):OK P (.call f args) (.ret r)
 |CI {c:fk} {args:List AV} {r:AV} (h:QS P c args r):OK P (.CI c args) (.ret r)
 |nJ {f:FuncId} {mg eV:List AV} {h H H':List aq} {l:List Nat} {r:AV} (ha:mg=eV.map (AV.aK (rn l h.length))) (hd:pO l=true) (hb:l.map (λj=>h[j]?)=H.map λB=>some (B.aK (rn l h.length))) (hl:(eV.all (AV.aE H.length)&&H.all (aq.aE H.length))=true)
  (hc:cO P f eV H λr1 J=>r1=r/\J=H'):OK P (.nJ f mg h) (.O6 l eV H r H')
 |MV {f:FuncId} {mg eV:List AV} {h H H':List aq} {l:List Nat} {r:AV} (ue:VD H) (hv:VD H') (ha:mg=eV.map (AV.aK (rn l h.length))) (hd:pO l=true) (hb:l.map (λj=>h[j]?)=H.map λB=>some (B.qG (rn l h.length))) (hl:(eV.all (AV.aE H.length)&&H.all (aq.vj H.length))=true)
  (hc:cO P f eV H λr1 J=>r1=r/\J=H'):OK P (.nJ f mg h) (.Dp l eV H r H')
 |rq {f:FuncId} {mg eV:List AV} {h H:List aq} {l:List Nat} {r:AV} (ha:mg=eV.map (AV.aK (rn l 0))) (hd:pO l=true) (hb:l.map (λj=>h[j]?)=H.map λB=>some (B.aK (rn l 0))) (hl:(eV.all (AV.aE H.length)&&H.all (aq.aE H.length)&&r.aE H.length)=true)
    (hc:cO P f eV H λr1 J=>r1=r/\J=H):OK P (.nJ f mg h) (.rq l eV H r)
 |jM {f:FuncId} {args:List AV} {h h':List aq} {r:AV} (hc:cO P f args h λr1 J=>r1=r/\J=h'):OK P (.jM f args h) (.Pm r h')
def BN(P:api)(t:TypeId)(cs:apf AV)(off:Nat):aph AV:=
 match mJ P t,gh P t with
 |some true,some k=>bif cm (off+k) cs.length then some (.agg ((cs.drop off).take k))else none
 |some false,some _=>cs[off]?
 |_,_=>none
def xa(h:apf aq)(p:AV):aph (apf AV×Nat):=
 match p with
 | .ptr n off=>match h[n]? with
   |some (.cells cs)=>some (cs,off)
   |_=>none
 | .bj xs i off=>match xs[i]? with
   |some c=>some (c.map .d,off)
   |none=>none
 |_=>none
def RO(x:AV)(i:aph Int)(k:Nat)(a:bX):aph (AV×In):=
 match x.fI,i,a with
 |some xs,some z, .el c=>bif c.length==k then some (.bj [c] 0 0, .el xs z)else none
 |_,_,_=>none
def QB(P:api)(T:TypeId)(x i:AV)(a:bX):aph (AV×In):=
 match eY P T with
 |some (_,k)=>
  match x with
  | .row n off len _ k'=>match i.int? with
    |some z=>bif k'==k then some (.ptr n (off+z.toNat*k), .lt z len)else none
    |none=>none
  |x=>RO x i.int? k a
 |none=>match uj P T,x,i.int? with
  |some (n,_,k), .ptr b off,some z=>some (.ptr b (off+z.toNat*k), .lt z n)
  |some (n,_,k), .bj [c] 0 0,some z=>match a with
   | .one d=>bif k==1 then some (.bj [[d]] 0 0, .Kh c z n)else none
   |_=>none
  |_,_,_=>none
def NP(P:api)(T:TypeId)(x:AV)(a:bX):aph (AV×In):=
 match x with
 | .d (.v (.string s))=>bif iu P T then some (.d (.v (.int .i64 s.size)), .none)else none
 | .row _ _ len _ _=>bif (eY P T).isSome then some (.d (.v (.int .i64 len)), .none)else none
 |x=>match x.fI,a with
  |some xs, .nat n=>bif (eY P T).isSome then some (.d (.v (.int .i64 n)), .len xs)else none
  |_,_=>none
def oN(l:aph Int)(d:Nat):Nat:=match l with|some z=>z.toNat|none=>d
def F8(ρ:Operand->AV):aph Operand->aph (aph Int)
 |none=>some none
 |some y=>match (ρ y).int? with
  |some z=>some (some z)
  |none=>none
def NH(P:api)(T:TypeId)(ρ:Operand->AV)(x:AV)(lo hi mx:aph Operand)(a:bX):aph (AV×In):=
 match mx with
 |none=>match F8 ρ lo,F8 ρ hi with
  |some l,some h=>match x with
   | .d (.v (.string b))=>bif iu P T then some (.d (.v (.string (b.extract (oN l 0) (oN h b.size)))), .str b (l.getD 0) (h.getD b.size))else none
   | .ptr n off=>match uj P T,l,h with
     |some (m,_,k),none,none=>bif cm m 4096&& !cm m 0 then some (.row n off m m k, .none)else none
     |_,_,_=>none
   |x=>match x.fI,eY P T,a with
    |some xs,some (_,k), .list ys=>some (.d (.sl ys), .sub xs (l.getD 0) h k)
    |_,_,_=>none
  |_,_=>none
 |some m=>match lo,hi,ρ m with
  |none,some y, .d (.v (.int _ 0))=>match x.fI,eY P T,ρ y,a with
   |some xs,some (_,k), .d (.v (.int _ 0)), .list _=>some (.full [], .sub xs 0 (some 0) k)
   |_,_,_,_=>none
  |_,_,_=>none
def IY(h:apf aq)(k:Nat)(x:AV):aph (apf (apf D)):=
 match x with
 | .row n off len _ k'=>match h[n]? with
   |some (.cells cs)=>match mW ((cs.drop off).take (len*k))with
    |some ds=>bif k'==k&&cm (off+len*k) cs.length&&((cs.drop off).take (len*k)).all AV.kh then some (n8 k len ds)else none
    |none=>none
   |_=>none
 |x=>x.fI
def Qr(P:api)(T:TypeId)(h:apf aq)(x y:AV)(a:bX):aph (AV×apf aq×In):=
 match eY P T,a with
 |some (e,k), .Y2 zs n'=>match iR P e,qQ P e with
  |some z,some cW=>bif cm 1 k&&z.cells.toList.length==k then
   match IY h k y with
   |some ys=>match x with
    | .own n xs=>match h[n]? with
      |some (.front e' k' len)=>bif e'==e&&k'==k then some (.own n zs,h.set n (.front e k n'), .app xs ys len k cW)else none
      |_=>none
    | .d (.v (.slice none 0 0))=>some (.own h.length zs,h++[.front e k n'], .app [] ys 0 k cW)
    | .full xs=>some (.own h.length zs,h++[.front e k n'], .app xs ys xs.length k cW)
    |_=>none
   |none=>none
   else none
  |_,_=>none
 |_,_=>none
def Q3(P:api)(T:TypeId)(ps:apf (Nat×AV)):aph AV:=
 match RE P T,iR P T with
 |some places,some z=>match pH places (z.cells.toList.map λu=> .d (.v u)) ps with
  |some cs=>bif (ps.all λp=>p.2.jS)&&z.cells.toList.all Value.oneCell' then some (.agg cs)else none
  |none=>none
 |_,_=>none
def PL(P:api)(T:TypeId)(len:Nat)(ps:apf (Nat×AV)):aph AV:=
 match eY P T with
 |some (e,k)=>match iR P e with
  |some z=>match pH (vp k 0 len) (rU len (z.cells.toList.map λu=> .d (.v u))) ps with
   |some cs=>match mW cs with
    |some ds=>bif cm 1 k&&cm (len*k) 16777216&&z.cells.toList.length==k&&z.cells.toList.all Value.oneCell'&&(ps.all λp=>p.2.jS)then some (.full (n8 k len ds))else none
    |none=>none
   |none=>none
  |none=>none
 |none=>none
def Kr(P:api)(T:TypeId)(op:BinOp)(x y:AV):aph (AV×In):=
 match x,y with
 | .d (.v (.int k a)), .d (.v (.int k' b))=>
   match P6 op k a b with
   |some v=>bif xc k k' then some (.d (.v v), .nz b)else none
   |none=>match Pe op k a b with
    |some v=>some (.d (.v v), .nn b)
    |none=>match NX op k a b with
     |some v=>bif xc k k' then some (.d (.v v), .none)else none
     |none=>none
 | .d (.v (.string a)), .d (.v (.string b))=>match Qb op a b with
   |some v=>some (.d (.v v), .none)
   |none=>match op with
    | .add=>some (.d (.v (.string (a++b))), .cat (a.size+b.size))
    |_=>none
 | .d (.v (.bool a)), .d (.v (.bool b))=>match P5 op a b with
   |some v=>bif zP P T then some (.d (.v v), .none)else none
   |none=>none
 | .agg xs, .agg ys=>match GD P T xs ys with
   |some b=>match wC op b with
    |some v=>some (.d (.v v), .none)
    |none=>none
   |none=>none
 |_,_=>none
def Ls(P:api)(src dst:TypeId)(x:AV)(a:bX):aph (AV×In):=
 match x with
 | .d (.v (.int _ n))=>match qS P src,qS P dst with
   |some _,some k=>some (.d (.v (.int k (k.wrap n))), .none)
   |_,_=>none
 | .d (.v (.string b))=>bif iu P src&&iu P dst then some (.d (.v (.string b)), .none)else none
 |x=>match x.fI,eY P src,a with
  |some xs,some (e,_), .bytes s=>bif Dz P e&&iu P dst then some (.d (.v (.string s)), .iB xs)else none
  |_,_,_=>none
def KU(P:api)(T:TypeId)(x:AV)(f:Nat):aph AV:=
 match rM P T f,x with
 |some (off,k,true), .agg cs=>bif cm (off+k) cs.length then some (.agg ((cs.drop off).take k))else none
 |some (off,_,false), .agg cs=>cs[off]?
 |_,_=>none
def Kj(h:apf aq):aph AV->aph (AV×apf aq×In)
 |some x=>some (x,h, .none)
 |none=>none
def BK(h:apf aq):aph (AV×In)->aph (AV×apf aq×In)
 |some (x,i)=>some (x,h,i)
 |none=>none
mutual
def AV.nrm:AV->AV
 | .full xs=> .d (.sl xs)
 | .d (.v (.slice none 0 0))=> .d (.sl [])
 | .agg cs=> .agg (AV.xH cs)
 | .bg cs=> .bg (AV.xH cs)
 |x=>x
def AV.xH:apf AV->apf AV
 |[]=>[]
 |x::l=>x.nrm::AV.xH l
end
def AV.DG:AV->AV
 | .fn f cs=>match AV.wI cs with
   |some l=> .hid (.fn f l)
   |none=> .fn f cs
 |x=>x
def AV.arg(x:AV):AV:=((x.bo 0).nrm).DG
def AV.wT(x:AV):AV:=(x.bo 0).nrm
def sdI:Sd->In
 | .no=> .none
 |p=> .sd p
def xR:aph (AV×apf aq×Sd)->aph (AV×apf aq×In)
 |some (x,h,p)=>some (x,h,sdI p)
 |none=>none
def uO(P:api)(op:Op)(ρ:Operand->AV)(h:apf aq)(a:bX):aph (AV×apf aq×In):=
 match op with
 | .move x| .assign x=>some (ρ x,h, .none)
 | .pick c x y=>match a with
   | .bit b=>some (bif b then ρ x else ρ y,h, .bit (ρ c))
   |_=>none
 | .alloc e=>match iR P e with
   |some z=>some (.ptr h.length 0,h++[aq.cells (z.cells.toList.map λu=> .d (.v u))], .none)
   |none=>none
 | .box _ x=>bif (ρ x).jS then some (.ptr h.length 0,h++[aq.cells (ρ x).cells], .none)else none
 | .load t p=>match xa h (ρ p)with
   |some (cs,off)=>match BN P t cs off with
    |some x=>some (x,h, .none)
    |none=>none
   |none=>none
 | .store t p x=>match ρ p with
   | .ptr n off=>match h[n]? with
     |some (.cells cs)=>match gh P t with
      |some k=>bif k==(ρ x).cells.length&&(ρ x).jS&&cm (off+(ρ x).cells.length) cs.length then some (.d (.v undef),h.set n (.cells (iW cs off (ρ x).cells)), .none)else none
      |none=>none
     |_=>none
   |_=>none
 | .nilCheck x=>match ρ x with
   | .ptr n off=>some (.ptr n off,h, .none)
   | .bj xs i off=>some (.bj xs i off,h, .none)
   | .fn f cs=>some (.fn f cs,h, .none)
   |_=>none
 | .fieldAddr S x f=>match rM P S f with
   |some (fo,_,_)=>match ρ x with
    | .ptr n off=>some (.ptr n (off+fo),h, .none)
    | .bj xs i off=>some (.bj xs i (off+fo),h, .none)
    |_=>none
   |none=>none
 | .field T x f=>Kj h (KU P T (ρ x) f)
 | .indexAddr T x i=>BK h (QB P T (ρ x) (ρ i) a)
 | .index T x i=>match ρ x,(ρ i).int?,a with
   | .d (.v (.string b)),some z, .byte c=>bif iu P T then some (.d (.v (.int .u8 c.toNat)),h, .ch b z)else none
   |_,_,_=>none
 | .build T ps=>Kj h (Q3 P T (ps.toList.map λp=>(p.1,ρ p.2)))
 | .buildSlice T len ps=>Kj h (PL P T len (ps.toList.map λp=>(p.1,ρ p.2)))
 | .slice T x lo hi mx=>BK h (NH P T ρ (ρ x) lo hi mx a)
 | .extract x i=>match ρ x with
   | .bg cs=>match cs[i]? with
     |some c=>some (c,h, .none)
     |none=>none
   |_=>none
 | .makeFunc (.func f) first cZ=>match Q9 f (first.toList.map ρ) (cZ.toList.map ρ)with
   |some x=>some (x,h, .none)
   |none=>none
 | .binOp op T x y _=>BK h (Kr P T op (ρ x) (ρ y))
 | .unOp op _ x=>match ρ x with
   | .d (.v u)=>match Il op u with
     |some v=>some (.d (.v v),h, .none)
     |none=>none
   |_=>none
 | .convert s t x=>BK h (Ls P s t (ρ x) a)
 | .call c=>match c.callee with
   | .builtin .len=>match c.args.toList,c.argTypes.toList with
     |[x],[T]=>BK h (NP P T (ρ x) a)
     |_,_=>none
   | .builtin .append=>match c.args.toList,c.argTypes.toList with
     |[x,y],[T,U]=>bif (eY P U).isSome then Qr P T h (ρ x) (ρ y) a else none
     |_,_=>none
   | .builtin .max=>match BV true (c.args.toList.map ρ)with
     |some (k,a)=>some (.d (.v (.int k a)),h, .none)
     |none=>none
   | .builtin .min=>match BV false (c.args.toList.map ρ)with
     |some (k,a)=>some (.d (.v (.int k a)),h, .none)
     |none=>none
   | .value f=>match ρ f,a with
     | .fn g cZ, .ret r=>bif ((c.args.toList.map ρ++cZ).map AV.arg).all (AV.aE 0)&&r.aE 0 then some (r,h, .call g ((c.args.toList.map ρ++cZ).map AV.arg))else none
     | .fn g cZ, .Pm r h'=>some (r,h', .jM g (c.args.toList.map ρ++cZ) h)
     | .fn g cZ, .O6 l _ _ r H'=>some (r.aK (rn l h.length),putAll l (H'.map (aq.aK (rn l h.length))) h, .nJ g ((c.args.toList.map ρ++cZ).map AV.wT) h)
     | .fn g cZ, .Dp l _ _ r H'=>some (r.aK (rn l h.length),putAll l (H'.map (aq.qG (rn l h.length))) h, .nJ g ((c.args.toList.map ρ++cZ).map AV.wT) h)
     | .fn g cZ, .rq l _ _ r=>some (r.aK (rn l 0),h, .nJ g ((c.args.toList.map ρ++cZ).map AV.wT) h)
     | .hid q, .ret r=>bif ((c.args.toList.map ρ).map AV.arg).all (AV.aE 0)&&r.aE 0 then some (r,h, .CI q ((c.args.toList.map ρ).map AV.arg))else none
     |_,_=>none
   |_=>none
 |op=>xR (pV P op ρ h)
theorem IA:∀l,AV.xH l=l.map AV.nrm
 |[]=>by simp [AV.xH]
 |x::l=>by simp [AV.xH,IA l]
theorem aF.nrm{G:Gh}{w:apk}{u:apj}{x:AV}(h:aF G w u x):aF G w u x.nrm:=by
 have fG:∀(vs:Array apj)(cs:apf AV),(∀(i:Nat)(u:apj)(c:AV),vs[i]?=some u->cs[i]?=some c->aF G w u c.nrm)->∀(i:Nat)(u:apj)(c:AV),vs[i]?=some u->(AV.xH cs)[i]?=some c->aF G w u c:=by
  intro vs cs ih i u c hu hc;rw[IA,aoy]at hc;cases hx:cs[i]? with
  |none=>rw[hx]at hc;cases hc
  |some x=>rw[hx]at hc;cases hc;exact ih i u x hu hx
 induction h with
 |agg vs cs hl _ ih=>rw[AV.nrm];exact .agg vs _ (by rw[IA,aow];exact hl) (fG vs cs ih)
 |bg vs cs hl _ ih=>rw[AV.nrm];exact .bg vs _ (by rw[IA,aow];exact hl) (fG vs cs ih)
 |full xs hp hf=>rw[AV.nrm];exact .d hp
 | @d u x h=>
   by_cases hx:x= .v (.slice none 0 0)
   ·subst hx;cases h with|v=>simp only[AV.nrm];exact .d CF
   ·have:(AV.d x).nrm= .d x:=by
     unfold AV.nrm;split<;>simp_all
    rw[this];exact .d h
 |own n xs h hp hle hf=>simp only[AV.nrm];exact .own n xs h hp hle hf
 |ptr n off h=>simp only[AV.nrm];exact .ptr n off h
 |bj xs i off b o u x hx hS hu=>simp only[AV.nrm];exact .bj xs i off b o u x hx hS hu
 |row n off len cap k h hl hm=>simp only[AV.nrm];exact .row n off len cap k h hl hm
 |fn f vs cs hl h=>simp only[AV.nrm];exact .fn f vs cs hl h
 |mp n h=>simp only[AV.nrm];exact .mp n h
 |cn n h=>simp only[AV.nrm];exact .cn n h
 |vec n o len L k h hs hL hf=>simp only[AV.nrm];exact .vec n o len L k h hs hL hf
 |dn n i j L k h hs hL hf=>simp only[AV.nrm];exact .dn n i j L k h hs hL hf
 |hid h J=>simp only[AV.nrm];exact .hid h J
 |dead u=>simp only[AV.nrm];exact .dead u
theorem AV.Le.DG(x:AV):AV.Le x x.DG:=λG w u h=>by
 unfold AV.DG;split
 ·next f cs=>
  split
  ·next l e=>
   have:=h.cap (.fn f l) (by simp only[AV.cap,e]);cases h with|fn=>exact .hid this rfl
  ·exact h
 ·exact h
theorem AV.Le.arg(x:AV):AV.Le x x.arg:=λ_ _ _ h=>AV.Le.DG _ _ _ _ (h.bo 0).nrm
theorem cO.args{P:api}{f:FuncId}{as:apf AV}{h:apf aq}{K:AV->apf aq->Prop}(hc:cO P f as h K)(bs:apf AV)(hl:as.length=bs.length)(hle:∀(i:Nat)(c d:AV),bs[i]?=some c->as[i]?=some d->AV.Le c d):cO P f bs h K:=
 ⟨hc.1,λG w vs hi hs hr=>hc.2 G w vs hi (hs.trans hl.symm) λi u d hu hd=>by
  have aN:i<bs.length:=by rw[<-hl];exact(aor.1 hd).1
  exact hle i _ d (aov aN) hd G w u (hr i u _ hu (aov aN))⟩
theorem cO.ZJ{P:api}{f:FuncId}{as:apf AV}{h:apf aq}{K:AV->apf aq->Prop}(hc:cO P f (as.map AV.arg) h K):cO P f as h K:=
 hc.args as (by rw[aow]) λi c d hc hd=>by
  rw[aoy,hc]at hd;cases hd;exact AV.Le.arg c
theorem AV.Le.wT(x:AV):AV.Le x x.wT:=λ_ _ _ h=>(h.bo 0).nrm
theorem cO.GI{P:api}{f:FuncId}{as:apf AV}{h:apf aq}{K:AV->apf aq->Prop}(hc:cO P f (as.map AV.wT) h K):cO P f as h K:=
 hc.args as (by rw[aow]) λi c d hc hd=>by
  rw[aoy,hc]at hd;cases hd;exact AV.Le.wT c
theorem Zb(l:apf fk):(l.map fk.av).all (AV.aE 0)=true:=by
 rw[aoR];intro x hx;obtain⟨c,_,rfl⟩:=List.mem_map.1 hx;cases c<;>rfl
theorem QS.use{P:api}{q:fk}{args:apf AV}{r:AV}{h:apf aq}{C:AV->apf aq->Prop}(hc:QS P q (args.map AV.arg) r)(ha:(args.map AV.arg).all (AV.aE 0)=true)(hr:r.aE 0=true)(hC:C r h):∃g as,q.app args=some (g,as)/\cO P g as h C:=by
 obtain⟨g,as,e,hc⟩:=hc;cases q with
 |d x=>simp [fk.app]at e
 |bj c off=>simp [fk.app]at e
 |fn g' cs=>
  simp only[fk.app,Option.some.injEq,Prod.mk.injEq]at e;obtain⟨rfl,rfl⟩:=e;refine⟨g',_,rfl,cO.args (hc.use (h:=h) (C:=C) (by rw[List.all_append,ha,Zb];rfl) hr hC) _ (by simp) λi c d J h2=> ?_⟩;by_cases hi:i<args.length
  ·rw[aoB hi]at J;rw[aoB (by simpa using hi),aoy,J]at h2;cases h2;exact AV.Le.arg c
  ·rw[aoH (by omega)]at J;rw[aoH (by simpa using hi),aow,J]at h2;cases h2;exact AV.Le.refl c
 |nS g' cs=>
  simp only[fk.app,Option.some.injEq,Prod.mk.injEq]at e;obtain⟨rfl,rfl⟩:=e;refine⟨g',_,rfl,cO.args (hc.use (h:=h) (C:=C) (by rw[List.all_append,ha,Zb];rfl) hr hC) _ (by simp) λi c d J h2=> ?_⟩;by_cases hi:i<(cs.map fk.av).length
  ·rw[aoB hi]at J h2;rw[J]at h2;cases h2;exact AV.Le.refl c
  ·rw[aoH (by omega)]at J h2;rw[aoy,J]at h2;cases h2;exact AV.Le.arg c
theorem eB{α:Type}{b:Bool}{x y:α}(h:(bif b then some x else none)=some y):b=true/\x=y:=by
 cases b with
 |true=>exact⟨rfl,aoK h⟩
 |false=>cases h
theorem kG{α:Type}{b:Bool}{x:aph α}{y:α}(h:(bif b then x else none)=some y):b=true/\x=some y:=by
 cases b with
 |true=>exact⟨rfl,h⟩
 |false=>cases h
section
variable {P:api} {ρ:Operand->AV} {h h':apf aq} {a:bX} {i:In} {x:AV} {C:AV->apf aq->Prop}
theorem OK.GJ{x:AV}{b:Bool}(h:OK P (.bit x) (.bit b)):x= .d (.v (.bool b)):=by
 cases h with|bit h=>subst h;rfl
theorem Sl{t:TypeId}{p:AV}{cs:apf AV}{off:Nat}{K:AV->Prop}(J:xa h p=some (cs,off))(h2:BN P t cs off=some x)(hK:K x):oM P t h p K:=by
 have key:(match mJ P t,gh P t with
     |some true,some k=>fK (cm (off+k) cs.length) (K (.agg ((cs.drop off).take k)))
     |some false,some _=>match cs[off]? with
      |some c=>K c
      |none=>False
     |_,_=>False):=by
  unfold BN at h2;split at h2
  ·next k e1 e2=>
   obtain⟨h3,rfl⟩:=eB h2;exact bO.2 ⟨h3,hK⟩
  ·next k e1 e2=>rw[h2];exact hK
  ·cases h2
 unfold oM sE;unfold xa at J;split at J
 ·split at J
  ·next cB e=>cases J;simp only[e];exact key
  ·cases J
 ·split at J
  ·next c e=>cases J;simp only[e];exact key
  ·cases J
 ·cases J
theorem al0{y:AV}{z:aph Int}{k:Nat}(J:RO y z k a=some (x,i))(bS:OK P i a):∃xs w c,y.fI=some xs/\z=some w/\0<=w/\xs[w.toNat]?=some c/\c.length=k/\x= .bj [c] 0 0:=by
 unfold RO at J;split at J
 ·next xs w c hx=>
  obtain⟨hk,he⟩:=eB J;cases he
  cases bS with
  |el h0 hc=>exact⟨_,_,_,hx,rfl,h0,hc,by simpa using hk,rfl⟩
 ·cases J
theorem al2{T:TypeId}{y z:AV}{K:AV->Prop}(J:QB P T y z a=some (x,i))(bS:OK P i a)(hK:K x):rX P T y z K:=by
 unfold QB at J;unfold rX;cases hT:eY P T with
 |some p=>
  obtain⟨e,k⟩:=p;simp only[hT]at J ⊢;cases y with
  |row n off len cap k'=>
   simp only at J ⊢;split at J
   ·next w hw=>
    obtain⟨hk,he⟩:=eB J;cases he
    cases bS with|lt h0 hl=>simp only[hw];exact bO.2 ⟨hk,h0,hl,hK⟩
   ·cases J
  |_=>
   obtain⟨xs,w,c,e1,e2,e3,e4,e5,rfl⟩:=al0 J bS;simp only[e1,e2,e4,e5];exact⟨e3,trivial,hK⟩
 |none=>
  simp only[hT]at J ⊢;split at J
  ·next n e k b off w hA hw=>
   cases J
   simp only[hA,hw];cases bS with|lt h0 hl=>exact⟨h0,hl,hK⟩
  ·next n e k c w hA hw=>
   split at J
   ·next d=>
    obtain⟨hb,he⟩:=eB J;cases he;simp only[hA,hw];cases bS with|Kh h0 hl h=>exact bO.2 ⟨hb,h0,hl,by simp only[List.getElem?_cons_zero,aoL,h];exact hK⟩
   ·cases J
  ·cases J
theorem amC{T:TypeId}{y:AV}{K:Nat->Prop}{C:AV->Prop}(J:NP P T y a=some (x,i))(bS:OK P i a)(hK:C x)(hc:∀n:Nat,C (.d (.v (.int .i64 n)))->K n):rS P T y K:=by
 unfold NP at J;unfold rS;split at J
 ·obtain⟨hb,he⟩:=eB J;cases he;exact bO.2 ⟨hb,hc _ hK⟩
 ·obtain⟨hb,he⟩:=eB J;cases he;exact bO.2 ⟨hb,hc _ hK⟩
 ·next n1 n2=>
  split at J
  ·next xs n hx=>
   obtain⟨hb,he⟩:=eB J;cases he;cases bS with
   |len hl=>
    subst hl;split
    ·next s=>exact absurd rfl (n1 s)
    ·next a b c d e=>exact absurd rfl (n2 a b c d e)
    ·simp only[hx];exact bO.2 ⟨hb,hc _ hK⟩
  ·cases J
theorem alb{y:aph Operand}{l:aph Int}(J:F8 ρ y=some l):(y=none/\l=none)\/∃o z,y=some o/\l=some z/\(ρ o).int?=some z:=by
 unfold F8 at J;cases y with
 |none=>cases J;exact .inl ⟨rfl,rfl⟩
 |some o=>
  simp only at J;split at J
  ·next z hz=>cases J;exact .inr ⟨o,z,rfl,rfl,hz⟩
  ·cases J
theorem uX{y:aph Operand}{l:aph Int}{d:Nat}{K:Nat->Prop}(J:F8 ρ y=some l)(h0:∀z,l=some z->0<=z)(hK:K (oN l d)):jW ρ y d K:=by
 rcases alb J with⟨rfl,rfl⟩|⟨o,z,rfl,rfl,hz⟩
 ·exact hK
 ·simp only[jW,hz];exact⟨h0 z rfl,hK⟩
theorem afg{T:TypeId}{y:AV}{lo hi mx:aph Operand}{K:AV->Prop}(J:NH P T ρ y lo hi mx a=some (x,i))(bS:OK P i a)(hK:K x):vn P T ρ y lo hi mx K:=by
 unfold NH at J;unfold vn;split at J
 ·split at J
  ·next l hh hl rl=>
   split at J
   ·next b=>
    obtain⟨hb,he⟩:=eB J;cases he;cases bS with
    |str h0 h2 h3 h4=>
     refine bO.2 ⟨hb,uX rl (λz e=>by subst e;exact h3) ?_⟩;have e1:oN hh b.size=(hh.getD b.size).toNat:=by cases hh<;>simp [oN]
     have e2:oN l 0=(l.getD 0).toNat:=by cases l<;>simp [oN]
     rw[e1];refine⟨h4,uX hl (λz e=>by subst e;exact h0) ?_⟩;rw[e2];rw[e1,e2]at hK;exact⟨h2,hK⟩
   ·next n off=>
    split at J
    ·next m e k hT=>
     obtain⟨hb,he⟩:=eB J;cases he;simp only[hT];generalize cm m 4096=q at hb ⊢;rw[aot]at hb;refine bO.2 ⟨hb.1,uX rl (λz e=>by cases e) (bO.2 ⟨da.2 (aoC _),uX hl (λz e=>by cases e) (bO.2 ⟨?_,?_⟩)⟩)⟩
     ·rw[aot];exact⟨da.2 (Nat.zero_le _),hb.2⟩
     ·show K (.row n (off+0*k) (m-0) (m-0) k);rw[Nat.zero_mul,Nat.add_zero,Nat.sub_zero];exact hK
    ·cases J
   ·next vK ku=>
    split at J
    ·next xs e k ys hx hT=>
     cases J
     dsimp only;split
     ·next b=>exact absurd rfl (vK b)
     ·next n off=>exact absurd rfl (ku n off)
     ·simp only[hx,hT];cases hh with
      |none=>
       cases bS with
       |QL h0 h2 hk he=>
        refine⟨hk,uX rl (λz e=>by cases e) ⟨aoC _,uX hl (λz e=>by subst e;exact h0) ?_⟩⟩;have e2:oN l 0=(l.getD 0).toNat:=by cases l<;>simp [oN]
        rw[e2];refine⟨h2,?_⟩;rw[show oN none xs.length=xs.length from rfl,List.take_length,he];exact hK
      |some z=>
       cases bS with
       |sub h0 h2 h3 h4 hk he=>
        refine⟨hk,uX rl (λz e=>by cases e;exact h3) ⟨h4,uX hl (λz e=>by subst e;exact h0) ?_⟩⟩;have e2:oN l 0=(l.getD 0).toNat:=by cases l<;>simp [oN]
        rw[e2];refine⟨h2,?_⟩;rw[show oN (some z) xs.length=z.toNat from rfl,he];exact hK
    ·cases J
  ·cases J
 ·split at J
  ·next m _ _ y' _ hm=>
   split at J
   ·next xs e k _ _ ys hx hT hy=>
    cases J
    cases bS with
    |sub h0 h2 h3 h4 hk he=>
     simp only[hx,hT];refine⟨hk,?_⟩;simp only[jW,hm,hy,AV.int?];refine⟨Int.le_refl _,Nat.zero_le _,Int.le_refl _,?_,by simpa using hK⟩;first|rfl|trivial
   ·cases J
  ·cases J
theorem ME{k:Nat}{y:AV}{ys:apf (apf D)}{K:apf (apf D)->Prop}(J:IY h k y=some ys)(hy:∀c∈ys,c.length=k)(hK:K ys):uP h k y K:=by
 unfold IY at J;unfold uP;split at J
 ·split at J
  ·next cs e=>
   split at J
   ·next ds e2=>
    obtain⟨hb,rfl⟩:=eB J;simp only[e,e2];exact bO.2 ⟨hb,hK⟩
   ·cases J
  ·cases J
 ·next hn=>
  split
  ·next n off len cap k'=>exact absurd rfl (hn n off len cap k')
  ·simp only[J];exact⟨hy,hK⟩
theorem an9{T:TypeId}{y z:AV}(J:Qr P T h y z a=some (x,h',i))(bS:OK P i a)(hC:C x h'):vx P T h y z C:=by
 unfold Qr at J;unfold vx;split at J
 ·next e k zs n' hT=>
  simp only[hT];split at J
  ·next zv cW hz po=>
   simp only[hz,po];obtain⟨hb,J⟩:=kG J;refine bO.2 ⟨hb,?_⟩;split at J
   ·next ys jO=>
    split at J
    ·next n xs=>
     split at J
     ·next e' k' len hn=>
      obtain⟨hc,he⟩:=eB J;cases he;cases bS with
      |app hl hx hy hm m8 jA Fz=>
       subst jA;subst Fz;refine ME jO hy ?_;simp only[hn];exact bO.2 ⟨hc,hl,hx,hm,m8,hC⟩
     ·cases J
    ·cases J
     cases bS with
     |app hl hx hy hm m8 jA Fz=>
      subst jA;subst Fz;refine ME jO hy ?_;simp only[List.nil_append,aoD,aoL]at hC hm m8 ⊢;exact⟨hm,m8,hC⟩
    ·cases J
     cases bS with
     |app hl hx hy hm m8 jA Fz=>
      subst jA;subst Fz;exact ME jO hy ⟨hx,hm,m8,hC⟩
    ·cases J
   ·cases J
  ·cases J
 ·cases J
theorem anw{T:TypeId}{ps:apf (Nat×AV)}{K:AV->Prop}(J:Q3 P T ps=some x)(hK:K x):yd P T ps K:=by
 unfold Q3 at J;unfold yd;split at J
 ·next pl z e1 e2=>
  simp only[e1,e2];split at J
  ·next cs e3=>obtain⟨hb,rfl⟩:=eB J;simp only[e3];exact bO.2 ⟨hb,hK⟩
  ·cases J
 ·cases J
theorem afJ{T:TypeId}{len:Nat}{ps:apf (Nat×AV)}{K:AV->Prop}(J:PL P T len ps=some x)(hK:K x):wa P T len ps K:=by
 unfold PL at J;unfold wa;split at J
 ·next e k hT=>
  simp only[hT];split at J
  ·next z hz=>
   simp only[hz];split at J
   ·next cs gO=>
    simp only[gO];split at J
    ·next ds qX=>obtain⟨hb,rfl⟩:=eB J;simp only[qX];exact bO.2 ⟨hb,hK⟩
    ·cases J
   ·cases J
  ·cases J
 ·cases J
theorem abu{T:TypeId}{op:BinOp}{y z:AV}{K:AV->Prop}(J:Kr P T op y z=some (x,i))(bS:OK P i a)(hK:K x):w6 P T op y z K:=by
 unfold Kr at J;unfold w6;split at J
 ·split at J
  ·next v e=>
   obtain⟨hb,he⟩:=eB J;cases he;cases bS with|nz h0=>simp only[e];exact bO.2 ⟨hb,h0,hK⟩
  ·next e=>
   simp only[e];split at J
   ·next v e2=>
    cases J
    cases bS with|nn h0=>simp only[e2];exact⟨h0,hK⟩
   ·next e2=>
    simp only[e2];split at J
    ·next v e3=>obtain⟨hb,he⟩:=eB J;cases he;simp only[e3];exact bO.2 ⟨hb,hK⟩
    ·cases J
 ·split at J
  ·next v e=>cases J;simp only[e];exact hK
  ·next e=>
   simp only[e];split at J
   ·cases J;cases bS with|cat h=>exact⟨h,hK⟩
   ·cases J
 ·split at J
  ·next v e=>obtain⟨hb,he⟩:=eB J;cases he;simp only[e];exact bO.2 ⟨hb,hK⟩
  ·cases J
 ·split at J
  ·next b e=>
   simp only[e];split at J
   ·next v e2=>cases J;simp only[e2];exact hK
   ·cases J
  ·cases J
 ·cases J
theorem aeo{s t:TypeId}{y:AV}{K:AV->Prop}(J:Ls P s t y a=some (x,i))(bS:OK P i a)(hK:K x):wW P s t y K:=by
 unfold Ls at J;unfold wW;split at J
 ·split at J
  ·next e1 e2=>cases J;simp only[e1,e2];exact hK
  ·cases J
 ·obtain⟨hb,he⟩:=eB J;cases he;exact bO.2 ⟨hb,hK⟩
 ·next h8 h9=>
  split at J
  ·next xs e k s' e1 e2=>
   obtain⟨hb,he⟩:=eB J;cases he;cases bS with
   |iB h=>
    obtain⟨ns,k1,k2⟩:=h;subst k2;split
    ·next k' n=>exact absurd rfl (h8 k' n)
    ·next b'=>exact absurd rfl (h9 b')
    ·simp only[e1,e2];exact bO.2 ⟨hb,ns,k1,hK⟩
  ·cases J
theorem S8{T:TypeId}{y:AV}{f:Nat}{K:AV->Prop}(J:KU P T y f=some x)(hK:K x):xv P T y f K:=by
 unfold KU at J;unfold xv;split at J
 ·next e=>obtain⟨hb,rfl⟩:=eB J;simp only[e];exact bO.2 ⟨hb,hK⟩
 ·next e=>simp only[e,J];exact hK
 ·cases J
theorem OI{y:aph AV}(J:Kj h y=some (x,h',i)):y=some x/\h'=h:=by
 cases y with
 |none=>cases J
 |some y=>cases J;exact⟨rfl,rfl⟩
theorem El{y:aph (AV×In)}(J:BK h y=some (x,h',i)):y=some (x,i)/\h'=h:=by
 cases y with
 |none=>cases J
 |some y=>cases J;exact⟨rfl,rfl⟩
theorem AX{o:Oper}(J:uO P o.op ρ h a=some (x,h',i))(bS:OK P i a)(hC:C x h'):cG P o ρ h C:=by
 obtain⟨dst,op,type,pos,after,guard⟩:=o;simp only at J;unfold uO at J;unfold cG;split at J
 ·cases J;exact hC
 ·cases J;exact hC
 ·next c y z=>
  split at J
  ·next b=>
   cases J
   simp only[OK.GJ bS];cases b<;>simp_all
  ·cases J
 ·split at J
  ·next z e=>cases J;simp only[e];exact hC
  ·cases J
 ·obtain⟨hb,he⟩:=eB J;cases he;exact bO.2 ⟨hb,hC⟩
 ·split at J
  ·next cs off e=>
   split at J
   ·next y e2=>cases J;exact Sl e e2 hC
   ·cases J
  ·cases J
 ·split at J
  ·next n off e=>
   split at J
   ·next cs e2=>
    split at J
    ·next k e3=>obtain⟨hb,he⟩:=eB J;cases he;simp only[e,xQ,e2,e3];exact bO.2 ⟨hb,hC⟩
    ·cases J
   ·cases J
  ·cases J
 ·split at J
  ·next e=>cases J;simp only[e];exact hC
  ·next e=>cases J;simp only[e];exact hC
  ·next e=>cases J;simp only[e];exact hC
  ·cases J
 ·split at J
  ·next e=>
   simp only[e];split at J
   ·next e2=>cases J;simp only[e2];exact hC
   ·next e2=>cases J;simp only[e2];exact hC
   ·cases J
  ·cases J
 ·obtain⟨e,rfl⟩:=OI J;exact S8 e hC
 ·obtain⟨e,rfl⟩:=El J;exact al2 e bS hC
 ·split at J
  ·next b z c e1 e2=>
   obtain⟨hb,he⟩:=eB J;cases he;cases bS with
   |ch h0 hc=>simp only[e1,e2];refine bO.2 ⟨hb,h0,?_⟩;simp only[hc];exact hC
  ·cases J
 ·obtain⟨e,rfl⟩:=OI J;exact anw e hC
 ·obtain⟨e,rfl⟩:=OI J;exact afJ e hC
 ·obtain⟨e,rfl⟩:=El J;exact afg e bS hC
 ·split at J
  ·next e=>
   split at J
   ·next e2=>cases J;simp only[e,e2];exact hC
   ·cases J
  ·cases J
 ·split at J
  ·next e=>cases J;simp only[e];exact hC
  ·cases J
 ·obtain⟨e,rfl⟩:=El J;exact abu e bS hC
 ·unfold wX;split at J
  ·next e=>
   split at J
   ·next e2=>cases J;simp only[e,e2];exact hC
   ·cases J
  ·cases J
 ·obtain⟨e,rfl⟩:=El J;exact aeo e bS hC
 ·next c=>
  split at J
  ·next hc=>
   simp only[hc];split at J
   ·next e1 e2=>obtain⟨e,rfl⟩:=El J;simp only[e1,e2];exact amC (C:=λx=>C x _) e bS hC (λn hn=>hn)
   ·cases J
  ·next hc=>
   simp only[hc];split at J
   ·next e1 e2=>obtain⟨hb,J⟩:=kG J;simp only[e1,e2];exact bO.2 ⟨hb,an9 J bS hC⟩
   ·cases J
  ·next hc=>
   simp only[hc];split at J
   ·next e1=>cases J;simp only[e1];exact hC
   ·cases J
  ·next hc=>
   simp only[hc];split at J
   ·next e1=>cases J;simp only[e1];exact hC
   ·cases J
  ·next f hc=>
   simp only[hc];split at J
   ·next g cZ r e=>
    obtain⟨hb,he⟩:=eB J;cases he;simp only[aot]at hb;simp only[e];cases bS with|call jM=>exact(jM.use hb.1 hb.2 hC).ZJ
   ·next g cZ r h2 e=>
    cases J
    simp only[e];cases bS with|jM jM=>exact jM.mono λr1 J ⟨e1,e2⟩=>by subst e1;subst e2;exact hC
   ·next g cZ l eV H r H' e=>
    cases J
    simp only[e];cases bS with|nJ ha hd hb hl hc=>exact(ha▸(hc.nJ hd hb hl).mono λr1 J ⟨e1,e2⟩=>by subst e1;subst e2;exact hC:cO P g _ _ _).GI
   ·next g cZ l eV H r H' e=>
    cases J
    simp only[e];cases bS with|MV ue hv ha hd hb hl hc=>exact(ha▸(hc.nJ hd (by rw[hb,ah5 ue]) (by rw[aot]at hl ⊢;exact⟨hl.1,akz ue hl.2⟩)).mono λr1 J ⟨e1,e2⟩=>by subst e1;subst e2;rw[<-agu hv];exact hC:cO P g _ _ _).GI
   ·next g cZ l eV H r e=>
    cases J
    simp only[e];cases bS with|rq ha hd hb hl hc=>exact(ha▸(by have:=hc.rq hd hb hl [];rw[aoM]at this;exact this.mono λr1 J ⟨e1,e2⟩=>by subst e1;subst e2;exact hC):cO P g _ _ _).GI
   ·next q r e=>
    obtain⟨hb,he⟩:=eB J;cases he;simp only[aot]at hb;simp only[e];cases bS with|CI hq=>exact hq.use hb.1 hb.2 hC
   ·cases J
  ·cases J
 ·next op _=>
  unfold xR at J;split at J
  ·next y h2 p e=>
   cases J
   simp only[e];refine⟨?_,hC⟩;cases p with
   |no=>trivial
   |lt n=>cases bS with|sd h=>exact h
  ·cases J
end
def iV:apf (Nat×bX)->Nat->bX
 |[],_=> .none
 |(k,x)::l,i=>bif k==i then x else iV l i
def vh(i:In)(a:bX)(r:aph (St×apf (In×bX))):aph (St×apf (In×bX)):=
 match i with
 | .none=>r
 |i=>match r with
  |some (s,l)=>some (s,(i,a)::l)
  |none=>none
def AN:bX->Bool
 | .Pm .. | .O6 .. | .Dp .. =>true
 |_=>false
def zi(o:Oper):bX->Bool
 | .Dp [] .. =>cr o==6
 |_=>false
def DR(P:api)(dr vk:Bool)(op:Op)(ρ:Operand->AV)(h:apf aq)(a:bX):aph (AV×apf aq×In):=
 match a with
 | .va va=>bif dr&& !vk then none else match iD P op ρ h va with
   |some (x,h',p)=>some (x,h', .pr p)
   |none=>none
 |a=>uO P op ρ h a
def nO(P:api)(dr:Bool)(o:Oper)(j:Nat)(as:apf (Nat×bX))(s:St):aph (St×apf (In×bX)):=
 bif dr&&AN (iV as (3*j+1))&& !zi o (iV as (3*j+1))then none else
 match DR P dr (jy o) o.op (ev s) s.h (iV as (3*j+1))with
 |some (x,h',i)=>match iV as (3*j+2)with
  | .eq y=>vh i (iV as (3*j+1)) (some ((s.wh h').put o.dst y,[(.eq x, .eq y)]))
  |_=>vh i (iV as (3*j+1)) (some ((s.wh h').put o.dst x,[]))
 |none=>none
def FR(o:Oper)(s:St):St:=s.put o.dst (.d (.v undef))
def qD(l:apf (In×bX)):aph (St×apf (In×bX))->aph (St×apf (In×bX))
 |some (s,m)=>some (s,l++m)
 |none=>none
def nD(P:api)(ops:Array Oper)(dr:Bool)(o:Oper)(j:Nat)(as:apf (Nat×bX))(s:St):aph (St×apf (In×bX)):=
 match o.guard with
 |none=>nO P dr o j as s
 |some (g,want)=>match iV as (3*j)with
  | .bit b=>qD [(.bit (vy ops g s.t), .bit b)] (bif b==want then nO P dr o j as s else some (FR o s,[]))
  | .FZ=>qD [(.bit (vy ops g s.t), .FZ)] (some (FR o s,[]))
  |_=>none
def oG(P:api)(ops:Array Oper)(dr:Bool):apf Oper->Nat->apf (Nat×bX)->St->aph (St×apf (In×bX))
 |[],_,_,s=>some (s,[])
 |o::rest,j,as,s=>match nD P ops dr o j as s with
  |some (s1,l)=>qD l (oG P ops dr rest (j+1) as s1)
  |none=>none
def gq(P:api)(l:apf (In×bX)):Prop:=∀p∈l,OK P p.1 p.2
section
variable {P:api} {ops:Array Oper} {dr:Bool} {o:Oper} {j:Nat} {as:apf (Nat×bX)} {s s1:St} {l:apf (In×bX)} {K:St->Prop}
theorem L3{i:In}{a:bX}{r:aph (St×apf (In×bX))}(h:vh i a r=some (s1,l))(bS:gq P l):∃m,r=some (s1,m)/\gq P m/\OK P i a:=by
 unfold vh at h;split at h
 ·exact⟨l,h,bS, .none⟩
 ·split at h
  ·next s2 m=>
   cases h
   exact⟨m,rfl,λp hp=>bS p (aoA _ hp),bS (i,a) aox⟩
  ·cases h
theorem zK{r:aph (St×apf (In×bX))}{m:apf (In×bX)}(h:qD m r=some (s1,l))(bS:gq P l):∃n,r=some (s1,n)/\gq P n/\gq P m:=by
 unfold qD at h;split at h
 ·next s2 n=>
  cases h
  exact⟨n,rfl,λp hp=>bS p (List.mem_append_right _ hp),λp hp=>bS p (List.mem_append_left _ hp)⟩
 ·cases h
def Iy(P:api)(dr:Bool)(o:Oper)(K:St->Prop)(s:St):Prop:=bif dr then Vw P o K s else oY P o K s
theorem akr{x:AV}{h':apf aq}{i:In}{a:bX}(J:uO P o.op (ev s) s.h a=some (x,h',i))(bS:OK P i a)(hh:AN a=false)(hK:K ((s.wh h').put o.dst x)):Vw P o K s:=by
 refine .inl ?_;unfold Bn;split
 ·next c hO=>
  split
  ·next f hc=>
   rw[hO]at J;unfold uO at J;simp only[hc]at J;split at J
   ·next g cZ r e=>
    obtain⟨hb,he⟩:=eB J;cases he;simp only[aot]at hb;simp only[e];cases bS with
    |call jM=>exact⟨_,hK,λe=>(jM.use hb.1 hb.2 ⟨rfl,rfl⟩).ZJ⟩
   ·cases hh
   ·cases hh
   ·cases hh
   ·next g cZ l eV H r e=>
    cases J
    simp only[e];cases bS with|rq ha hd hb hl hc=>exact⟨_,hK,λe=>(ha▸hc.rq hd hb hl e:cO P g _ _ _).GI⟩
   ·next q r e=>
    obtain⟨hb,he⟩:=eB J;cases he;simp only[aot]at hb;simp only[e];cases bS with
    |CI hq=>
     have:=λh=>hq.use (h:=h) (C:=λr' h'=>r'=x/\h'=h) hb.1 hb.2 ⟨rfl,rfl⟩;obtain⟨g,cs,e1,_⟩:=this [];refine⟨g,cs,e1,x,hK,λe=> ?_⟩;obtain⟨g',cB,e2,h9⟩:=this (s.h++e);rw[e1]at e2;cases e2
     exact h9
   ·cases J
  ·exact AX (C:=λx h'=>K ((s.wh h').put o.dst x)) J bS hK
 ·exact AX (C:=λx h'=>K ((s.wh h').put o.dst x)) J bS hK
theorem akB{o:Oper}{ρ:Operand->AV}{h h':apf aq}{eV:apf AV}{H H':apf aq}{r x:AV}{i:In}(hk:cr o=6)(hr:uO P o.op ρ h (.Dp [] eV H r H')=some (x,h',i)):h'=h++H'.map (aq.qG (rn [] h.length)):=by
 unfold cr at hk;split at hk
 all_goals first|(cases hk;done)|skip
 next c hO=>
  split at hk
  all_goals first|(cases hk;done)|skip
  next f hc=>
   rw[hO]at hr;unfold uO at hr;simp only[hc]at hr;generalize ρ f=v at hr;cases v<;>first|(cases hr;rfl)|cases hr
theorem Pb(h:nO P dr o j as s=some (s1,l))(bS:gq P l)(hK:K s1):Iy P dr o K s:=by
 unfold nO at h;cases hd:dr&&AN (iV as (3*j+1))&& !zi o (iV as (3*j+1))with
 |true=>rw[hd]at h;cases h
 |false=>
  rw[hd]at h;simp only[cond_false]at h;split at h
  ·next x h' i hr=>
   have fin:OK P i (iV as (3*j+1))->K ((s.wh h').put o.dst x)->Iy P dr o K s:=λJ h2=>by
    unfold Iy;cases dr with
    |true=>
     unfold DR at hr;split at hr
     ·next va e=>
      cases hv:jy o with
      |false=>rw[hv]at hr;cases hr
      |true=>
       rw[hv]at hr;simp only[Bool.not_true,Bool.and_false,cond_false]at hr;split at hr
       ·next x2 RC p e2=>
        cases hr
        rw[e]at J;cases J with|pr _ hp=>exact .inr (.inr (.inl ⟨.inl ⟨hv,rfl⟩,va,x,h',p,e2,hp,h2⟩))
       ·cases hr
     ·by_cases hx:zi o (iV as (3*j+1))=true
      ·refine .inr (.inr (.inr ?_));generalize iV as (3*j+1)=a at hx J hr;unfold zi at hx;split at hx
       ·next eV H r H'=>
        have E7:cr o=6:=by simpa using hx
        have this:h'=s.h++H'.map (aq.qG (rn [] s.h.length)):=akB E7 hr;refine⟨E7,x,H'.map (aq.qG (rn [] s.h.length)),?_,λC hC=> ?_⟩
        ·rw[<-this];exact h2
        ·rw[<-this]at hC;exact AX hr J hC
       ·cases hx
      ·exact akr hr J (by simpa [hx]using hd) h2
    |false=>
     unfold DR at hr;split at hr
     ·next va e=>
      simp only[Bool.false_and,cond_false]at hr;split at hr
      ·next x2 RC p e2=>
       cases hr
       rw[e]at J;cases J with|pr _ hp=>exact .inl ⟨va,x,h',p,e2,hp,h2⟩
      ·cases hr
     ·exact .inr (.inr (.inl (AX (C:=λx h'=>K ((s.wh h').put o.dst x)) hr J h2)))
   split at h
   ·next y hy=>
    obtain⟨m,e,h2,h3⟩:=L3 h bS;cases e
    have:=h2 (.eq x, .eq y) aox;cases this with|eq e=>subst e;exact fin h3 hK
   ·obtain⟨m,e,h2,h3⟩:=L3 h bS;cases e
    exact fin h3 hK
  ·cases h
theorem Na(h:nD P ops dr o j as s=some (s1,l))(bS:gq P l)(hK:K s1):iX ops o s (Iy P dr o K s) (K (s.put o.dst (.d (.v undef)))):=by
 unfold nD at h;split at h
 ·next hg=>unfold iX;rw[hg];exact Pb h bS hK
 ·next g want hg=>
  obtain⟨dst,op,ty,pos,after,guard⟩:=o;simp only at hg;subst hg;split at h
  ·next b hb=>
   obtain⟨n,e,h2,h3⟩:=zK h bS;have h4:=OK.GJ (h3 (_,_) aox);rw[IP,h4];refine⟨λe2=> ?_,λe2=> ?_⟩
   ·subst e2;simp only[BEq.rfl,cond_true]at e;exact Pb e h2 hK
   ·subst e2;have:((!want)==want)=false:=by cases want<;>rfl
    rw[this]at e;simp only[cond_false]at e;cases e
    exact hK
  ·next hb=>
   obtain⟨n,e,h2,h3⟩:=zK h bS;cases e
   have h4:=h3 (_,_) aox;have h5:vy ops g s.t= .d (.v undef):=by
    generalize vy ops g s.t=z at h4;cases h4;rfl
   rw[IP,h5];exact hK
  ·cases h
theorem xz:∀(ol:apf Oper)(j:Nat)(s:St)(l:apf (In×bX)),oG P ops dr ol j as s=some (s1,l)->gq P l->K s1->(bif dr then Dx P ops ol K s else su P ops ol K s)
 |[],_,s,l,h,_,hK=>by cases h;cases dr<;>exact hK
 |o::rest,j,s,l,h,bS,hK=>by
  unfold oG at h;split at h
  ·next s2 m hg=>
   obtain⟨n,e,h2,h3⟩:=zK h bS;have ih:=xz rest (j+1) s2 n e h2 hK;cases dr with
   |true=>exact Na (K:=Dx P ops rest K) hg h3 ih
   |false=>exact Na (K:=su P ops rest K) hg h3 ih
  ·cases h
theorem Om(s:St)(d:aph Nat)(x:AV):∃pre,(s.put d x).t=pre++s.t:=by
 cases d with
 |none=>exact⟨[],rfl⟩
 |some k=>
  by_cases hk:k<s.n
  ·exact⟨[(k,x)],by rw[ri hk];rfl⟩
  ·exact⟨[],by rw[CH hk];rfl⟩
theorem Rt(h:nD P ops dr o j as s=some (s1,l)):(∃pre,s1.t=pre++s.t)/\s1.n=s.n:=by
 have cI:∀{i a r l},vh i a r=some (s1,l)->∃m,r=some (s1,m):=fun{i a r l} h=>by
  unfold vh at h;split at h
  ·exact⟨_,h⟩
  ·split at h
   ·cases h;exact⟨_,rfl⟩
   ·cases h
 have cR:∀{m r l},qD m r=some (s1,l)->∃m,r=some (s1,m):=fun{m r l} h=>by
  unfold qD at h;split at h
  ·cases h;exact⟨_,rfl⟩
  ·cases h
 have st:∀l,nO P dr o j as s=some (s1,l)->(∃pre,s1.t=pre++s.t)/\s1.n=s.n:=λl h=>by
  unfold nO at h;cases hd:dr&&AN (iV as (3*j+1))&& !zi o (iV as (3*j+1))with
  |true=>rw[hd]at h;cases h
  |false=>
   rw[hd]at h;simp only[cond_false]at h;split at h
   ·split at h<;>(obtain⟨m,e⟩:=cI h;cases e;exact⟨Om _ _ _,by rw[rD];rfl⟩)
   ·cases h
 unfold nD at h;split at h
 ·exact st _ h
 ·split at h
  ·obtain⟨m,e⟩:=cR h;revert e;generalize ((_:Bool)==_)=q;intro e;cases q with
   |true=>exact st _ e
   |false=>cases e;exact⟨Om _ _ _,by unfold FR;rw[rD]⟩
  ·obtain⟨m,e⟩:=cR h;cases e;exact⟨Om _ _ _,by unfold FR;rw[rD]⟩
  ·cases h
theorem Qk:∀(ol:apf Oper)(j:Nat)(s:St)(l:apf (In×bX)),oG P ops dr ol j as s=some (s1,l)->(∃pre,s1.t=pre++s.t)/\s1.n=s.n
 |[],_,s,l,h=>by cases h;exact⟨⟨[],rfl⟩,rfl⟩
 |o::rest,j,s,l,h=>by
  unfold oG at h;split at h
  ·next s2 m hg=>
   unfold qD at h;split at h
   ·next s3 n e=>
    cases h
    obtain⟨⟨p1,e1⟩,n1⟩:=Rt hg;obtain⟨⟨p2,e2⟩,n2⟩:=Qk rest (j+1) s2 n e;exact⟨⟨p2++p1,by rw[e2,e1,aoI]⟩,n2.trans n1⟩
   ·cases h
  ·cases h
end
def UF:AV->Bool
 | .dead=>true
 |_=>false
def qH(P:api)(dr:Bool)(l:apf Oper)(as:apf (Nat×bX))(keep:apf Nat)(s:St):aph (apf (Nat×AV)×apf aq×apf (In×bX)):=
 match oG P l.toArray dr l 0 as s with
 |some (s1,ps)=>bif (s1.t.take (s1.t.length-s.t.length)).all (λp=>keep.any (·==p.1)||UF (bn s.t p.1))then some (keep.map λk=>(k,bn s1.t k),s1.h,ps)else none
 |none=>none
theorem Fg:∀(a b:apf (Nat×AV))(i:Nat),(i∈a.map (·.1)/\bn (a++b) i=bn a i)\/(i ∉ a.map (·.1)/\bn (a++b) i=bn b i)
 |[],b,i=> .inr ⟨by simp,rfl⟩
 |(k,x)::a,b,i=>by
  by_cases e:i=k
  ·subst e;exact .inl ⟨by simp,by simp [k8]⟩
  ·rcases Fg a b i with⟨J,h2⟩|⟨J,h2⟩
   ·exact .inl ⟨by simp at J ⊢;exact .inr J,by rw[List.cons_append,k8,if_neg e,h2,k8,if_neg e]⟩
   ·exact .inr ⟨by simp at J ⊢;exact⟨e,J⟩,by rw[List.cons_append,k8,if_neg e,h2]⟩
section
variable {P:api} {dr:Bool} {as:apf (Nat×bX)} {s s1 s':St} {ps:apf (In×bX)} {keep:apf Nat} {ol:apf Oper} {Δ:apf (Nat×AV)} {h':apf aq}
theorem Jo(h:qH P dr ol as keep s=some (Δ,h',ps)):∃s1,oG P ol.toArray dr ol 0 as s=some (s1,ps)/\s1.n=s.n/\s1.h=h'/\∀i,bn (Δ++s.t) i=bn s1.t i\/bn (Δ++s.t) i= .dead:=by
 unfold qH at h;split at h
 ·next s1 ps' hr=>
  obtain⟨hb,he⟩:=eB h;cases he
  obtain⟨⟨pre,e1⟩,n1⟩:=Qk _ _ _ _ hr;refine⟨s1,hr,n1,rfl,λi=> ?_⟩;have Cm:∀(f:Nat->AV),(keep.map λk=>(k,f k)).map (·.1)=keep:=λf=>by rw[List.map_map];exact List.map_id _
  rcases Fg (keep.map λk=>(k,bn s1.t k)) s.t i with⟨J,h2⟩|⟨J,h2⟩
  ·rw[Cm]at J;rw[h2,tc (λk=>bn s1.t k),if_pos J];exact .inl rfl
  ·rw[Cm]at J;rw[h2];rw[e1,aos,Nat.add_sub_cancel,List.take_left']at hb
   ·rw[e1];rcases Fg pre s.t i with⟨h3,h4⟩|⟨h3,h4⟩
    ·right
     obtain⟨p,hp,rfl⟩:=List.mem_map.1 h3;have:=aoR.1 hb p hp;rw[Bool.or_eq_true]at this;rcases this with this|this
     ·exfalso;obtain⟨k,hk,e⟩:=List.any_eq_true.1 this;rw[beq_iff_eq]at e;exact J (e▸hk)
     ·generalize bn s.t p.1=z at this;cases z<;>first|rfl|cases this
    ·exact .inl h4.symm
   ·rfl
 ·cases h
theorem cV.less{G:Gh}{w:apk}{a:Act}(hs:cV G w a s1)(hn:s'.n=s1.n)(hh:s'.h=s1.h)(ht:∀i,bn s'.t i=bn s1.t i\/bn s'.t i= .dead):cV G w a s':=
 ⟨hs.size.trans hn.symm,λi=>by
  rcases ht i with e|e
  ·rw[e];exact hs.tmp i
  ·rw[e];exact .dead _,by rw[hh];exact hs.inv,hs.df⟩
end
structure Ob(P:Program) where
 i:In
 o:bX
 ok:OK P i o
def bT{P:api}{e:Bool}(h:e=true):Ob P:=⟨_,_, .bit (b:=true) h⟩
def bF{P:api}{e:Bool}(h:e=false):Ob P:=⟨_,_, .bit (b:=false) h⟩
def uN{P:api}:Ob P:=⟨_,_, .FZ⟩
def cL{P:api}{f:FuncId}{args:apf AV}{r:AV}(h:ga P f args (·=r)):Ob P:=⟨_,_, .call h⟩
def iY{P:api}(l:apf (Nat×Ob P)):apf (Nat×bX):=l.map λb=>(b.1,b.2.o)
def jv{P:api}(l:apf (Nat×Ob P)):apf (In×bX):=l.map λb=>(b.2.i,b.2.o)
theorem pz{P:api}(l:apf (Nat×Ob P)):gq P (jv l):=λp hp=>by
 obtain⟨b,_,rfl⟩:=List.mem_map.1 hp;exact b.2.ok
section
variable {P:api} {r:aph Nat} {N0 id:Nat} {ol:apf Oper} {y:Code} {s:St} {Q Q':Exit->St->Prop} {ay:apf (Nat×Ob P)} {Δ:apf (Nat×AV)} {h':apf aq}
theorem L2{c:Code}{s':St}(hn:s'.n=s.n)(hh:s'.h=s.h)(ht:∀i,bn s'.t i=bn s.t i\/bn s'.t i= .dead)(h:bA P r N0 c Q s'):bA P r N0 c Q s:=
 ⟨λG w a n hs hN=>h.run G w a n (hs.less hn hh ht) hN⟩
theorem UZ(ay:apf (Nat×Ob P))(Δ:apf (Nat×AV))(h':apf aq)(h:qH P false ol (iY ay) (Δ.map (·.1)) s=some (Δ,h',jv ay))(k:bA P r N0 y Q' ⟨s.n,Δ++s.t,h'⟩):bA P r N0 (.region id ol.toArray false) (iU (λs=>bA P r N0 y Q' s) Q) s:=by
 obtain⟨s1,J,h2,h3,h4⟩:=Jo h;refine e7 ?_;exact xz (dr:=false) ol 0 s _ J (pz ay) (L2 (s:=s1) (s':=⟨s.n,Δ++s.t,h'⟩) h2.symm h3.symm h4 k)
theorem afT(hm:P.follows .mixedOrders=true)(hl:qx ol.toArray=true)(ay:apf (Nat×Ob P))(Δ:apf (Nat×AV))(h':apf aq)(h:qH P true ol (iY ay) (Δ.map (·.1)) s=some (Δ,h',jv ay))(k:bA P r N0 y Q' ⟨s.n,Δ++s.t,h'⟩):bA P r N0 (.region id ol.toArray true) (iU (λs=>bA P r N0 y Q' s) Q) s:=by
 obtain⟨s1,J,h2,h3,h4⟩:=Jo h;refine Ib hm hl ?_;exact xz (dr:=true) ol 0 s _ J (pz ay) (L2 (s:=s1) (s':=⟨s.n,Δ++s.t,h'⟩) h2.symm h3.symm h4 k)
def xp(P:api)(dr:Bool)(l:apf Oper)(as:apf (Nat×bX))(s:St):aph (apf (Nat×AV)×apf aq×apf (In×bX)):=
 match oG P l.toArray dr l 0 as s with
 |some (s1,ps)=>some (s1.t,s1.h,ps)
 |none=>none
theorem Qs{dr:Bool}{as:apf (Nat×bX)}{t:apf (Nat×AV)}{ps:apf (In×bX)}(h:xp P dr ol as s=some (t,h',ps)):oG P ol.toArray dr ol 0 as s=some (⟨s.n,t,h'⟩,ps):=by
 unfold xp at h;split at h
 ·next s1 ps' hr=>
  cases h
  obtain⟨_,n1⟩:=Qk _ _ _ _ hr;rw[hr,<-n1]
 ·cases h
theorem adD(ay:apf (Nat×Ob P))(Δ:apf (Nat×AV))(h':apf aq)(h:xp P false ol (iY ay) s=some (Δ++s.t,h',jv ay))(k:Q .normal ⟨s.n,Δ++s.t,h'⟩):bA P r N0 (.region id ol.toArray false) Q s:=
 e7 (xz (dr:=false) ol 0 s _ (Qs h) (pz ay) k)
theorem alA(hm:P.follows .mixedOrders=true)(hl:qx ol.toArray=true)(ay:apf (Nat×Ob P))(Δ:apf (Nat×AV))(h':apf aq)(h:xp P true ol (iY ay) s=some (Δ++s.t,h',jv ay))(k:Q .normal ⟨s.n,Δ++s.t,h'⟩):bA P r N0 (.region id ol.toArray true) Q s:=
 Ib hm hl (xz (dr:=true) ol 0 s _ (Qs h) (pz ay) k)
end
def AV.fin(m:Nat)(x:AV):AV:=(x.bo m).nrm
def aq.pR:aq->aq
 | .cells cs=> .cells (cs.map AV.nrm)
 | .lp ls p as bd cs=> .lp ls p as bd (cs.map AV.nrm)
 | .it sn cs=> .it sn (cs.map AV.nrm)
 | .eP T cs=> .eP T (cs.map AV.nrm)
 | .vec e k cs=> .vec e k (cs.map (·.map AV.nrm))
 |B=>B
def j6(s:St)(live:apf Nat)(m:Nat):aph St:=
 bif cm m s.h.length&&(live.all λk=>((bn s.t k).bo m).aE m)&&(((s.h.take m).map (aq.bo m)).all (aq.aE m))then some ⟨s.n,live.map λk=>(k,(bn s.t k).fin m),((s.h.take m).map (aq.bo m)).map aq.pR⟩else none
theorem My{G:Gh}{w:apk}{h:apf aq}(hi:bN G w h):bN G w (h.map aq.pR):=by
 have e9:∀(n:Nat)(B:aq),(h.map aq.pR)[n]?=some B->∃B',h[n]?=some B'/\B=B'.pR:=λn B hB=>by
  rw[aoy]at hB;cases hx:h[n]? with
  |none=>rw[hx]at hB;cases hB
  |some B'=>rw[hx]at hB;cases hB;exact⟨B',rfl,rfl⟩
 have eG:∀n b,bK (h.map aq.pR) G n=some b->bK h G n=some b:=λn b hb=>by
  obtain⟨B,hB,hb⟩:=nm hb;obtain⟨B',J,rfl⟩:=e9 n B hB;rw[dA J,<-hb];cases B'<;>rfl
 refine⟨by rw[aow];exact hi.len,hi.z,hi.S,λn B hB=> ?_,λi j b J h2=>hi.inj i j b (eG i b J) (eG j b h2),hi.gl⟩;obtain⟨B',J,rfl⟩:=e9 n B hB;have dG:=hi.c7 n B' J;cases B' with
 |gone=>trivial
 |front e k len=>exact dG
 |iB e b=>exact dG
 |map kv=>exact dG
 |iS kv=>exact dG
 |vec e k cs=>
  obtain⟨c1,c2,c3,c4⟩:=dG;refine⟨by rw[aow];exact c1,by rw[aow];exact c2,λc hc=> ?_,?_⟩
  ·obtain⟨x,hx,rfl⟩:=List.mem_map.1 hc;rw[aow];exact c3 x hx
  ·rcases c4 with⟨d1,d2,A,d3⟩|⟨g,cap,cur,d1,d2,d3,d4,d5,d6,d7,d8,d9⟩
   ·exact .inl ⟨d1,by rw[d2];rfl,A,d3⟩
   ·refine .inr ⟨g,cap,cur,d1,by rw[aow];exact d2,d3,d4,by rw[aow];exact d5,d6,d7,d8,λi j c x u hc hx hu=> ?_⟩;rw[aoy]at hc;cases hy:cs[i]? with
    |none=>rw[hy]at hc;cases hc
    |some y=>
     rw[hy]at hc;cases hc
     rw[aoy]at hx;cases hw:y[j]? with
     |none=>rw[hw]at hx;cases hx
     |some z=>rw[hw]at hx;cases hx;exact(d9 i j y z u hy hw hu).nrm
 |cells cs=>
  obtain⟨c1,c2,vs,T,c3,c4,c5⟩:=dG;refine⟨c1,c2,vs,T,c3,by rw[aow];exact c4,λi u c hu hc=> ?_⟩;rw[aoy]at hc;cases hx:cs[i]? with
  |none=>rw[hx]at hc;cases hc
  |some x=>rw[hx]at hc;cases hc;exact(c5 i u x hu hx).nrm
 |lp ls p as bd cs=>
  obtain⟨c1,c2,fn,vs,T,c3,c4,c5⟩:=dG;refine⟨c1,c2,fn,vs,T,c3,by rw[aow];exact c4,λi u c hu hc=> ?_⟩;rw[aoy]at hc;cases hx:cs[i]? with
  |none=>rw[hx]at hc;cases hc
  |some x=>rw[hx]at hc;cases hc;exact(c5 i u x hu hx).nrm
 |it sn cs=>
  obtain⟨c1,c2,fn,vs,T,c3,c4,c5⟩:=dG;refine⟨c1,c2,fn,vs,T,c3,by rw[aow];exact c4,λi u c hu hc=> ?_⟩;rw[aoy]at hc;cases hx:cs[i]? with
  |none=>rw[hx]at hc;cases hc
  |some x=>rw[hx]at hc;cases hc;exact(c5 i u x hu hx).nrm
 |eP T0 cs=>
  obtain⟨c1,c2,fn,vs,T,c3,c4,c5⟩:=dG;refine⟨c1,c2,fn,vs,T,c3,by rw[aow];exact c4,λi u c hu hc=> ?_⟩;rw[aoy]at hc;cases hx:cs[i]? with
  |none=>rw[hx]at hc;cases hc
  |some x=>rw[hx]at hc;cases hc;exact(c5 i u x hu hx).nrm
section
variable {P:api} {r:aph Nat} {n N0:Nat} {G:Gh} {w:apk} {a:Act} {s s':St} {Q Q':Exit->St->Prop} {live:apf Nat} {m:Nat}
theorem aiK(h:j6 s live m=some s'):s.AS live m/\s'.n=s.n/\s'.t=(live.map λk=>(k,(bn s.t k).fin m))/\s'.h=((s.h.take m).map (aq.bo m)).map aq.pR:=by
 unfold j6 at h;obtain⟨hb,rfl⟩:=eB h;rw[aot,aot]at hb;exact⟨⟨da.1 hb.1.1,hb.1.2,hb.2⟩,rfl,rfl,rfl⟩
theorem cV.j6(hs:cV G w a s)(h:j6 s live m=some s'):cV (G.cut m) w a s':=by
 obtain⟨J,h2,h3,h4⟩:=aiK h;have hm:=hs.mask J;refine⟨hs.size.trans h2.symm,λi=> ?_,by rw[h4];exact My hm.inv,hs.df⟩;have:=hm.tmp i
 change aF _ _ _ (bn (live.map λk=>(k,(bn s.t k).bo m)) i)at this
 rw[tc (λk=>(bn s.t k).bo m)]at this;rw[h3,tc (λk=>(bn s.t k).fin m)];split at this
 ·rename_i hi;rw[if_pos hi];exact this.nrm
 ·rename_i hi;rw[if_neg hi];exact .dead _
theorem Ns{c:Code}{ι:Type}(live:apf Nat)(m:Nat)(st:ι->St)(I:ι->Prop)(μ:ι->Nat)(i0:ι)(hm:N0<=m)(h0:Go.Proofs.YtpeecnpmcbnahaaGreatDoor.j6 s live m=some (st i0))(hI:I i0)
 (round:∀i,I i->bA P r N0 c (iU (λs'=>∃i',Go.Proofs.YtpeecnpmcbnahaaGreatDoor.j6 s' live m=some (st i')/\I i'/\μ i'<μ i) Q) (st i)):bA P r N0 (.loop c) Q s:=by
 constructor
 intro G w a n hs _;refine SQ (λ(i:ι) a' w'=>∃G',I i/\bM N0 G w G' w'/\N0<=G'.N/\cV G' w' a' (st i)) μ i0 ⟨G.cut m,hI,qn _ _ _ _,hm,hs.j6 h0⟩ ?_;rintro i a' w' ⟨G',hi,hE,hN,cC⟩;refine wpIn_mono ((round i hi).run G' w' a' n cC hN) λe a1 w1 hn=> ?_;obtain⟨G1,s1,jb,gu,fg,hq⟩:=hn;cases e with
 |normal=>
  obtain⟨i',J,h2,h3⟩:=hq;exact⟨i',⟨G1.cut m,h2,(hE.trans jb).trans (qn _ _ _ _),hm,fg.j6 J⟩,h3⟩
 |_=>exact⟨G1,s1,hE.trans jb,gu,fg,hq⟩
theorem gx{c:Code}(live:apf Nat)(m:Nat)(hm:N0<=m)(h0:Go.Proofs.YtpeecnpmcbnahaaGreatDoor.j6 s live m=some s')(h:bA P r N0 c Q s'):bA P r N0 c Q s:=by
 constructor
 intro G w a n hs _;exact wpIn_mono (h.run (G.cut m) w a n (hs.j6 h0) hm) λ_ _ _ hn=>hn.trans (qn N0 G w m)
theorem Dd{c y:Code}{ι:Type}(live:apf Nat)(m:Nat)(st:ι->St)(I:ι->Prop)(hm:N0<=m)(hc:bA P r N0 c (iU (λs'=>∃i,Go.Proofs.YtpeecnpmcbnahaaGreatDoor.j6 s' live m=some (st i)/\I i) Q) s)(hy:∀i,I i->bA P r N0 y Q' (st i)):bA P r N0 c (iU (λs=>bA P r N0 y Q' s) Q) s:=by
 refine hc.mono λe s' h=> ?_;cases e with
 |normal=>obtain⟨i,J,h2⟩:=h;exact gx live m hm J (hy i h2)
 |_=>exact h
def sT(P:api)(s:St):apf ResultVar->aph (apf AV)
 |[]=>some []
 | .tmp t::l=>match sT P s l with
   |some xs=>some (bn s.t t::xs)
   |none=>none
 | .cell p t::l=>match xa s.h (bn s.t p)with
   |some (cs,off)=>match BN P t cs off,sT P s l with
    |some x,some xs=>some (x::xs)
    |_,_=>none
   |none=>none
def wR(P:api)(rs:apf ResultVar)(s:St):aph AV:=
 match sT P s rs with
 |some l=>bif ((jY l).bo 0).aE 0 then some ((jY l).fin 0)else none
 |none=>none
def kS(P:api)(fn:Func)(R:AV):Exit->St->Prop
 | .normal,s=>wR P fn.results.toList s=some R
 | .ret,s=>wR P fn.results.toList s=some R
 |_,_=>False
theorem Cr:∀(l:apf ResultVar)(xs:apf AV)(C:apf AV->Prop),sT P s l=some xs->C xs->mV P s l C
 |[],xs,C,h,hC=>by cases h;exact hC
 | .tmp t::l,xs,C,h,hC=>by
   unfold sT at h;split at h
   ·next ys e=>cases h;exact Cr l ys _ e hC
   ·cases h
 | .cell p t::l,xs,C,h,hC=>by
   unfold sT at h;split at h
   ·next cs off e=>
    split at h
    ·next x ys e1 e2=>cases h;exact Sl e e1 (Cr l ys _ e2 hC)
    ·cases h
   ·cases h
theorem WE{fn:Func}{R:AV}(h:wR P fn.results.toList s=some R):rC P fn 0 (λr h'=>h'=[]/\r.nrm=R) s:=by
 unfold wR at h;split at h
 ·next l e=>
  obtain⟨hb,rfl⟩:=eB h;exact Cr _ l _ e ⟨Nat.zero_le _,hb,by simp,by simp,rfl⟩
 ·cases h
theorem gD{fn:Func}{R:AV}(h:wR P fn.results.toList s=some R):kS P fn R .ret s:=h
theorem ru{f:FuncId}{fn:Func}{c:Code}{args:apf AV}{R:AV}(hf:P.funcs[f]?=some fn)(hb:fn.body=some c)(hn:(fn.name== "runtime.NumGoroutine")=false)
 (hw:bA P none 0 c (kS P fn R) {n:=args.length+(fn.ntmps-args.length),t:=lD 0 args,h:=[]}):ga P f args (·=R):=by
 have h:=uA (P:=P) (f:=f) (args:=args) (h:=[]) (K:=λr h'=>h'=[]/\r.nrm=R) 0 hf hb hn (aoC _) (hw.mono λe s hq=>by
  cases e with
  |normal=>exact WE hq
  |ret=>exact WE hq
  |_=>exact hq.elim)
 refine⟨h.1,λG w vs hi hl hr=>(h.2 G w vs hi hl hr).mono λe w' hp=> ?_⟩;obtain⟨v,G',x,h',rfl,hE,hN,dO,hv,rfl,rfl⟩:=hp;exact⟨v,G',x.nrm,[],rfl,hE,hN,dO,hv.nrm,rfl,rfl⟩
theorem aom{c:Code}(b i:Nat)(xs:apf (apf D))(hx:((s.h[b]?).bind λB=>match B with| .cells cs=>(cs[i]?).bind AV.fI|_=>none)=some xs)(h:xs.length<=maxLen->bA P r N0 c Q s):bA P r N0 c Q s:=by
 constructor
 intro G w a n hs hN;cases hb:s.h[b]? with
 |none=>rw[hb]at hx;cases hx
 |some B=>
  rw[hb]at hx;cases B with
  |cells cs=>
   simp only[aoq]at hx;obtain⟨_,_,vs,T,_,hl,hr⟩:=hs.inv.c7 b _ hb;cases hc:cs[i]? with
   |none=>rw[hc]at hx;cases hx
   |some x=>
    rw[hc]at hx;have aN:i<vs.size:=by rw[hl];exact(aor.1 hc).1
    obtain⟨A,b',o,c',k',us,_,_,J,h2,_⟩:=((hr i _ x (aoN aN) hc).list hx).qh;exact(h (aoJ J h2)).run G w a n hs hN
  |_=>cases hx
end
theorem acY{P:api}{r:aph Nat}{N0 id:Nat}{ol:apf Oper}{y:Code}{s:St}{Q Q':Exit->St->Prop}(Δ:apf (Nat×AV))(h':apf aq)(h:∃ay:apf (Nat×Ob P),qH P false ol (iY ay) (Δ.map (·.1)) s=some (Δ,h',jv ay))(k:bA P r N0 y Q' ⟨s.n,Δ++s.t,h'⟩):bA P r N0 (.region id ol.toArray false) (iU (λs=>bA P r N0 y Q' s) Q) s:=
 let ⟨ay,h⟩:=h;UZ ay Δ h' h k
theorem dk{α:Type}{c:Bool}{a b:α}(h:c=true):cond c a b=a:=by rw[h];rfl
theorem eu{α:Type}{c:Bool}{a b:α}(h:c=false):cond c a b=b:=by rw[h];rfl
theorem cp{α β:Type}{x:aph α}{f:α->aph β}{b:β}(h:Option.bind x f=some b):∃a,x=some a/\f a=some b:=by
 cases x with
 |none=>cases h
 |some a=>exact⟨a,rfl,h⟩
theorem ee(b:Bool):b=true\/b=false:=by cases b<;>simp
theorem dH{b:Bool}(h:b=true):(!b)=false:=by rw[h];rfl
theorem eo{b:Bool}(h:b=false):(!b)=true:=by rw[h];rfl
theorem na{α:Type}{c:Bool}{x:aph α}{r:α}(h:(bif c then x else none)=some r):c=true:=by
 cases c with
 |true=>rfl
 |false=>cases h
section
variable {P:api} {r:aph Nat} {N0 id n:Nat} {ol:apf Oper} {y:Code} {t:apf (Nat×AV)} {h:apf aq} {Q Q':Exit->St->Prop}
theorem rg(ay:apf (Nat×Ob P))(Δ:apf (Nat×AV))(h':apf aq)(e:qH P false ol (iY ay) (Δ.map (·.1)) ⟨n,t,h⟩=some (Δ,h',jv ay))(k:bA P r N0 y Q' ⟨n,Δ++t,h'⟩):bA P r N0 (.region id ol.toArray false) (iU (λs=>bA P r N0 y Q' s) Q) ⟨n,t,h⟩:=UZ ay Δ h' e k
theorem rd(hm:P.follows .mixedOrders=true)(hl:qx ol.toArray=true)(ay:apf (Nat×Ob P))(Δ:apf (Nat×AV))(h':apf aq)(e:qH P true ol (iY ay) (Δ.map (·.1)) ⟨n,t,h⟩=some (Δ,h',jv ay))(k:bA P r N0 y Q' ⟨n,Δ++t,h'⟩):bA P r N0 (.region id ol.toArray true) (iU (λs=>bA P r N0 y Q' s) Q) ⟨n,t,h⟩:=afT hm hl ay Δ h' e k
theorem re(ay:apf (Nat×Ob P))(Δ:apf (Nat×AV))(h':apf aq)(e:xp P false ol (iY ay) ⟨n,t,h⟩=some (Δ++t,h',jv ay))(k:Q .normal ⟨n,Δ++t,h'⟩):bA P r N0 (.region id ol.toArray false) Q ⟨n,t,h⟩:=adD ay Δ h' e k
theorem Xj(hm:P.follows .mixedOrders=true)(hl:qx ol.toArray=true)(ay:apf (Nat×Ob P))(Δ:apf (Nat×AV))(h':apf aq)(e:xp P true ol (iY ay) ⟨n,t,h⟩=some (Δ++t,h',jv ay))(k:Q .normal ⟨n,Δ++t,h'⟩):bA P r N0 (.region id ol.toArray true) Q ⟨n,t,h⟩:=alA hm hl ay Δ h' e k
theorem Ai(Δ:apf (Nat×AV))(h':apf aq)(e:∃ay:apf (Nat×Ob P),qH P false ol (iY ay) (Δ.map (·.1)) ⟨n,t,h⟩=some (Δ,h',jv ay))(k:bA P r N0 y Q' ⟨n,Δ++t,h'⟩):bA P r N0 (.region id ol.toArray false) (iU (λs=>bA P r N0 y Q' s) Q) ⟨n,t,h⟩:=acY Δ h' e k
end
def bs(l:apf UInt8):apg:=⟨l.toArray⟩
def uW(x:D):Prop:=∃(S:Nat->Nat->Prop)(w:apk)(u:apj),dh S w u x
theorem Mj{xs:apf (apf D)}(h:uW (.sl xs)):xs.length<=maxLen:=by
 obtain⟨S,w,u,h⟩:=h;obtain⟨A,b',o,c',k',us,_,_,J,h2,_⟩:=h.qh;exact aoJ J h2
theorem adk{xs:apf (apf D)}{i j:Nat}{c:apf D}{d:D}(h:uW (.sl xs))(hc:xs[i]?=some c)(hd:c[j]?=some d):uW d:=by
 obtain⟨S,w,u,h⟩:=h;obtain⟨A,b',o,c',k',us,_,_,J,h2,h3,h4,h5⟩:=h.qh;exact⟨S,w,_,h5 i j c d hc hd⟩
section
variable {P:api} {r:aph Nat} {n N0:Nat} {s:St} {Q:Exit->St->Prop}
theorem vH{c:Code}(k:Nat)(xs:apf (apf D))(hx:(bn s.t k).fI=some xs)(h:uW (.sl xs)->bA P r N0 c Q s):bA P r N0 c Q s:=by
 constructor
 intro G w a n hs hN;exact(h ⟨_,_,_,(hs.tmp k).list hx⟩).run G w a n hs hN
theorem acE{c:Code}(b i:Nat)(xs:apf (apf D))(hx:((s.h[b]?).bind λB=>match B with| .cells cs=>(cs[i]?).bind AV.fI|_=>none)=some xs)(h:uW (.sl xs)->bA P r N0 c Q s):bA P r N0 c Q s:=by
 constructor
 intro G w a n hs hN;cases hb:s.h[b]? with
 |none=>rw[hb]at hx;cases hx
 |some B=>
  rw[hb]at hx;cases B with
  |cells cs=>
   simp only[aoq]at hx;obtain⟨_,_,vs,T,_,hl,hr⟩:=hs.inv.c7 b _ hb;cases hc:cs[i]? with
   |none=>rw[hc]at hx;cases hx
   |some x=>
    rw[hc]at hx;have aN:i<vs.size:=by rw[hl];exact(aor.1 hc).1
    exact(h ⟨_,_,_,(hr i _ x (aoN aN) hc).list hx⟩).run G w a n hs hN
  |_=>cases hx
end
end Go.Proofs.YtpeecnpmcbnahaaGreatDoor
namespace Go.Proofs.YtpeecnpmcbnahaaGreatDoor
open Go.RowKit
mutual
def AV.fq(b:Nat)(ds:apf D):AV->AV
 | .ptr n off=>bif n==b then .bj [ds] 0 off else .ptr n off
 | .agg cs=> .agg (AV.ug b ds cs)
 | .bg cs=> .bg (AV.ug b ds cs)
 | .fn f cs=> .fn f (AV.ug b ds cs)
 |x=>x
def AV.ug(b:Nat)(ds:apf D):apf AV->apf AV
 |[]=>[]
 |x::l=>x.fq b ds::AV.ug b ds l
end
theorem DO(b:Nat)(ds:apf D):∀l,AV.ug b ds l=l.map (AV.fq b ds)
 |[]=>by simp [AV.ug]
 |x::l=>by simp [AV.ug,DO b ds l]
def aq.fq(b:Nat)(ds:apf D):aq->aq
 | .cells cs=> .cells (cs.map (AV.fq b ds))
 | .lp ls p as bd cs=> .lp ls p as bd (cs.map (AV.fq b ds))
 | .it sn cs=> .it sn (cs.map (AV.fq b ds))
 | .eP T cs=> .eP T (cs.map (AV.fq b ds))
 | .vec e k cs=> .vec e k (cs.map (·.map (AV.fq b ds)))
 |B=>B
def vJ(s:St)(b:Nat):aph St:=
 match s.h[b]? with
 |some (.cells cs)=>match mW cs with
  |some ds=>some ⟨s.n,s.t.map λp=>(p.1,p.2.fq b ds),(s.h.map (aq.fq b ds)).set b .gone⟩
  |none=>none
 |_=>none
theorem Lc(f:AV->AV)(hf:f .dead= .dead):∀(t:apf (Nat×AV))(i:Nat),bn (t.map λp=>(p.1,f p.2)) i=f (bn t i)
 |[],i=>by simp [bn,hf]
 |(k,x)::l,i=>by
  simp only[aoQ,k8,Lc f hf l i];split<;>rfl
theorem aF.fq{G G':Gh}{w:apk}{b:Nat}{ds:apf D}(hE:bM G.N G w G' w)(hN:G'.N=G.N)(hp:∀off,aF G' w (.pointer (some ⟨G.aR b,off,none⟩)) (.bj [ds] 0 off)){u:apj}{x:AV}(h:aF G w u x):aF G' w u (x.fq b ds):=by
 have keep:∀{u:apj}{x:AV},aF G w u x->aF G' w u x:=λh=>h.keep hE (Nat.le_of_eq hN.symm);have fG:∀(vs:Array apj)(cs:apf AV),(∀(i:Nat)(u:apj)(c:AV),vs[i]?=some u->cs[i]?=some c->aF G' w u (c.fq b ds))->∀(i:Nat)(u:apj)(c:AV),vs[i]?=some u->(AV.ug b ds cs)[i]?=some c->aF G' w u c:=by
  intro vs cs ih i u c hu hc;rw[DO,aoy]at hc;cases hx:cs[i]? with
  |none=>rw[hx]at hc;cases hc
  |some x=>rw[hx]at hc;cases hc;exact ih i u x hu hx
 induction h with
 |agg vs cs hl _ ih=>rw[AV.fq];exact .agg vs _ (by rw[DO,aow];exact hl) (fG vs cs ih)
 |bg vs cs hl _ ih=>rw[AV.fq];exact .bg vs _ (by rw[DO,aow];exact hl) (fG vs cs ih)
 |fn f vs cs hl _ ih=>rw[AV.fq];exact .fn f vs _ (by rw[DO,aow];exact hl) (fG vs cs ih)
 |ptr n off h=>
  rw[AV.fq,cond_eq_ite];split
  ·next e=>rw[beq_iff_eq]at e;subst e;exact hp off
  ·exact keep (.ptr n off h)
 |own n xs h hp hle hf=>simp only[AV.fq];exact keep (.own n xs h hp hle hf)
 |d h=>simp only[AV.fq];exact keep (.d h)
 |bj xs i off b o u x hx hS hu=>simp only[AV.fq];exact keep (.bj xs i off b o u x hx hS hu)
 |full xs hp hf=>simp only[AV.fq];exact keep (.full xs hp hf)
 |row n off len cap k h hl hm=>simp only[AV.fq];exact keep (.row n off len cap k h hl hm)
 |mp n h=>simp only[AV.fq];exact keep (.mp n h)
 |cn n h=>simp only[AV.fq];exact keep (.cn n h)
 |vec n o len L k h hs hL hf=>simp only[AV.fq];exact keep (.vec n o len L k h hs hL hf)
 |dn n i j L k h hs hL hf=>simp only[AV.fq];exact keep (.dn n i j L k h hs hL hf)
 |hid h J=>simp only[AV.fq];exact keep (.hid h J)
 |dead u=>simp only[AV.fq];exact .dead u
theorem X2:∀(cs:apf AV)(ds:apf D),mW cs=some ds->cs.length=ds.length/\∀(i:Nat)(c:AV)(d:D),cs[i]?=some c->ds[i]?=some d->c.wU=some d
 |[],ds,h=>by unfold mW at h;cases h;exact⟨rfl,λi c d hc=>by simp at hc⟩
 |x::cs,ds,h=>by
  unfold mW at h;split at h
  ·next d l e1 e2=>
   cases h
   obtain⟨J,h2⟩:=X2 cs l e2;refine⟨by simp [J],λi c d' hc hd=> ?_⟩
   match i with
   |0=>simp only[List.getElem?_cons_zero,Option.some.injEq]at hc hd;subst hc;subst hd;exact e1
   |i+1=>exact h2 i c d' (by simpa using hc) (by simpa using hd)
  ·cases h
theorem aF.ajv{G:Gh}{w:apk}{u:apj}{x:AV}{d:D}(h:aF G w u x)(hd:x.wU=some d):dh G.S w u d:=by
 cases h with
 |d h=>cases hd;exact h.ua
 |own n xs h hp=>cases hd;exact hp
 |full xs hp=>cases hd;exact hp
 |_=>cases hd
theorem cV.vJ{G:Gh}{w:apk}{a:Act}{s s':St}{b:Nat}(hs:cV G w a s)(h:vJ s b=some s'):∃G',bM G.N G w G' w/\G'.N=G.N/\cV G' w a s':=by
 unfold Go.Proofs.YtpeecnpmcbnahaaGreatDoor.vJ at h;split at h
 ·next cs hb=>
  split at h
  ·next ds qX=>
   cases h
   obtain⟨z1,z2,vs,T,z3,z4,z5⟩:=hs.inv.c7 b _ hb;obtain⟨d1,d2⟩:=X2 cs ds qX;have mG:bK s.h G b=some (G.aR b):=dA hb;obtain⟨S,hS⟩:∃S:Nat->Nat->Prop,S=λb' o=>G.S b' o\/(b'=G.aR b/\o<ds.length):=⟨_,rfl⟩;have hE:bM G.N G w {G with S:=S} w:=⟨aoC _,λb o h=>by show S b o;rw[hS];exact .inl h,λ_ _ _=>rfl,λ_ _=>rfl,λ_ _=> .inl ⟨rfl,rfl⟩,zsame rfl,λ_ _=>rfl,rfl,rfl,rfl,λb' o hs=>by
    have cC:S b' o:=hs;rw[hS]at cC;rcases cC with h|⟨rfl,_⟩
    ·exact .inl h
    ·exact .inr z1⟩
   have hp:∀off,aF {G with S:=S} w (.pointer (some ⟨G.aR b,off,none⟩)) (.bj [ds] 0 off):=λoff=>by
    have:=aF.bj (G:={G with S:=S}) (w:=w) [ds] 0 off (G.aR b) 0 (λj=>vs.getD j undef) ds rfl (λj hj=> ?_) (λj d hd=> ?_)
    ·rwa [aoL]at this
    ·have jh:j<vs.size:=by rw[z4,d1];exact hj
     refine⟨by show S _ _;rw[hS];exact .inr ⟨rfl,by rw[aoL];exact hj⟩,?_⟩;rw[aoL,cell_of_row w (G.aR b) j vs T (0,0) z3];simp [Array.getD,jh]
    ·have hj:j<ds.length:=(aor.1 hd).1;have jh:j<vs.size:=by rw[z4,d1];exact hj
     have hc:cs[j]?=some cs[j]:=aov (by rw[d1];exact hj);have hv:=z5 j vs[j] _ (aoN jh) hc;have e:vs.getD j undef=vs[j]:=by simp [Array.getD,jh]
     rw[e];exact(hv.ajv (d2 j _ d hc hd)).keep hE.S hE.cell
   have hv:∀{u:apj}{x:AV},aF G w u x->aF {G with S:=S} w u (x.fq b ds):=λh=>h.fq hE rfl hp;have aeT:=(aor.1 hb).1;have e9:∀(n:Nat)(B:aq),((s.h.map (aq.fq b ds)).set b .gone)[n]?=some B->(n=b/\B= .gone)\/(n≠b/\∃B',s.h[n]?=some B'/\B=B'.fq b ds):=λn B hB=>by
    by_cases e:b=n
    ·subst e;rw[aoU (by rw[aow];exact aeT)]at hB;cases hB;exact .inl ⟨rfl,rfl⟩
    ·rw[aoZ e,aoy]at hB;cases hx:s.h[n]? with
     |none=>rw[hx]at hB;cases hB
     |some B'=>rw[hx]at hB;cases hB;exact .inr ⟨λh=>e h.symm,B',rfl,rfl⟩
   have eG:∀n x,bK ((s.h.map (aq.fq b ds)).set b .gone) {G with S:=S} n=some x->n≠b/\bK s.h G n=some x:=λn x hx=>by
    obtain⟨B,hn,hx⟩:=nm hx;rcases e9 n _ hn with⟨_,e⟩|⟨cE,B',J,rfl⟩
    ·subst e;cases hx
    ·refine⟨cE,?_⟩;rw[dA J,<-hx];cases B'<;>rfl
   refine⟨{G with S:=S},hE,rfl,hs.size,λi=> ?_,⟨by rw[List.length_set,aow];exact hs.inv.len,hs.inv.z,λb' o h=> ?_,λn B hB=> ?_,λm n x J h2=>hs.inv.inj m n x (eG m x J).2 (eG n x h2).2,hs.inv.gl.keep hE⟩,hs.df⟩
   ·show aF _ _ _ (bn (s.t.map λp=>(p.1,p.2.fq b ds)) i);rw[Lc (AV.fq b ds) (by simp [AV.fq])];exact hv (hs.tmp i)
   ·have cC:S b' o:=h;rw[hS]at cC;rcases cC with h|⟨rfl,_⟩
    ·exact hs.inv.S b' o h
    ·exact(aoG.1 z3).1
   ·rcases e9 n B hB with⟨rfl,rfl⟩|⟨cE,B',J,rfl⟩
    ·trivial
    ·have dG:=hs.inv.c7 n B' J;cases B' with
     |gone=>trivial
     |map kv=>exact dZ.keep (G':={G with S:=S}) (hs.inv.lt J) hE (aoC _) ⟨rfl,rfl,rfl⟩ (λc hc=>⟨rfl,λo jx hq=>by
      have cC:S c o:=hq;rw[hS]at cC;rcases cC with h|⟨e,_⟩
      ·exact jx h
      ·exact cE (hs.inv.inj n b _ ((dA J).trans hc) (by rw[e];exact mG))⟩) dG
     |iS kv=>exact dZ.keep (G':={G with S:=S}) (hs.inv.lt J) hE (aoC _) ⟨rfl,rfl,rfl⟩ (λc hc=>⟨rfl,λo jx hq=>by
      have cC:S c o:=hq;rw[hS]at cC;rcases cC with h|⟨e,_⟩
      ·exact jx h
      ·exact cE (hs.inv.inj n b _ ((dA J).trans hc) (by rw[e];exact mG))⟩) dG
     |front e k len=>exact dZ.keep (G':={G with S:=S}) (hs.inv.lt J) hE (aoC _) ⟨rfl,rfl,rfl⟩ (λc hc=>⟨rfl,λo jx hq=>by
      have cC:S c o:=hq;rw[hS]at cC;rcases cC with h|⟨e,_⟩
      ·exact jx h
      ·exact cE (hs.inv.inj n b _ ((dA J).trans hc) (by rw[e];exact mG))⟩) dG
     |iB e b2=>exact dZ.keep (G':={G with S:=S}) (hs.inv.lt J) hE (aoC _) ⟨rfl,rfl,rfl⟩ (λc hc=>⟨rfl,λo jx hq=>by
      have cC:S c o:=hq;rw[hS]at cC;rcases cC with h|⟨e,_⟩
      ·exact jx h
      ·exact cE (hs.inv.inj n b _ ((dA J).trans hc) (by rw[e];exact mG))⟩) dG
     |cells cB=>
      obtain⟨c1,c2,fS,T',c3,c4,c5⟩:=dG;have lv:bK s.h G n=some (G.aR n):=dA J;refine⟨c1,λo hq=> ?_,fS,T',c3,by rw[aow];exact c4,λi u c hu hc=> ?_⟩
      ·have cC:S (G.aR n) o:=hq;rw[hS]at cC;rcases cC with h|⟨e,_⟩
       ·exact c2 o h
       ·exact cE (hs.inv.inj n b _ lv (by rw[e];exact mG))
      ·rw[aoy]at hc;cases hx:cB[i]? with
       |none=>rw[hx]at hc;cases hc
       |some x=>rw[hx]at hc;cases hc;exact hv (c5 i u x hu hx)
     |lp ls p as bd cB=>
      obtain⟨c1,c2,fn,fS,T',c3,c4,c5⟩:=dG;have lv:bK s.h G n=some (G.aR n):=dA J;refine⟨c1,λo hq=> ?_,fn,fS,T',c3,by rw[aow];exact c4,λi u c hu hc=> ?_⟩
      ·have cC:S (G.aR n) o:=hq;rw[hS]at cC;rcases cC with h|⟨e,_⟩
       ·exact c2 o h
       ·exact cE (hs.inv.inj n b _ lv (by rw[e];exact mG))
      ·rw[aoy]at hc;cases hx:cB[i]? with
       |none=>rw[hx]at hc;cases hc
       |some x=>rw[hx]at hc;cases hc;exact hv (c5 i u x hu hx)
     |it sn cB=>
      obtain⟨c1,c2,fn,fS,T',c3,c4,c5⟩:=dG;have lv:bK s.h G n=some (G.aR n):=dA J;refine⟨c1,λo hq=> ?_,fn,fS,T',c3,by rw[aow];exact c4,λi u c hu hc=> ?_⟩
      ·have cC:S (G.aR n) o:=hq;rw[hS]at cC;rcases cC with h|⟨e,_⟩
       ·exact c2 o h
       ·exact cE (hs.inv.inj n b _ lv (by rw[e];exact mG))
      ·rw[aoy]at hc;cases hx:cB[i]? with
       |none=>rw[hx]at hc;cases hc
       |some x=>rw[hx]at hc;cases hc;exact hv (c5 i u x hu hx)
     |eP T0 cB=>
      obtain⟨c1,c2,fn,fS,T',c3,c4,c5⟩:=dG;have lv:bK s.h G n=some (G.aR n):=dA J;refine⟨c1,λo hq=> ?_,fn,fS,T',c3,by rw[aow];exact c4,λi u c hu hc=> ?_⟩
      ·have cC:S (G.aR n) o:=hq;rw[hS]at cC;rcases cC with h|⟨e,_⟩
       ·exact c2 o h
       ·exact cE (hs.inv.inj n b _ lv (by rw[e];exact mG))
      ·rw[aoy]at hc;cases hx:cB[i]? with
       |none=>rw[hx]at hc;cases hc
       |some x=>rw[hx]at hc;cases hc;exact hv (c5 i u x hu hx)
     |vec e k cB=>
      obtain⟨c1,c2,c3,c4⟩:=dG;refine⟨by rw[aow];exact c1,by rw[aow];exact c2,λc hc=> ?_,?_⟩
      ·obtain⟨x,hx,rfl⟩:=List.mem_map.1 hc;rw[aow];exact c3 x hx
      ·rcases c4 with⟨d1,d2,A,d3⟩|⟨g,cap,cur,d1,d2,d3,d4,d5,d6,d7,d8,d9⟩
       ·exact .inl ⟨d1,by rw[d2];rfl,A,d3⟩
       ·have lv:bK s.h G n=some g:=(dA J).trans d1;refine .inr ⟨g,cap,cur,d1,by rw[aow];exact d2,d3,d4,by rw[aow];exact d5,d6,d7,λo hq=> ?_,λi j c x u hc hx hu=> ?_⟩
        ·have cC:S g o:=hq;rw[hS]at cC;rcases cC with h|⟨e,_⟩
         ·exact d8 o h
         ·exact cE (hs.inv.inj n b _ lv (by rw[e];exact mG))
        ·rw[aoy]at hc;cases hy:cB[i]? with
         |none=>rw[hy]at hc;cases hc
         |some y=>
          rw[hy]at hc;cases hc
          rw[aoy]at hx;cases hw:y[j]? with
          |none=>rw[hw]at hx;cases hx
          |some z=>rw[hw]at hx;cases hx;exact hv (d9 i j y z u hy hw hu)
  ·cases h
 ·cases h
theorem aiL{P:api}{r:aph Nat}{N0:Nat}{c:Code}{s s':St}{Q:Exit->St->Prop}(b:Nat)(e:vJ s b=some s')(h:bA P r N0 c Q s'):bA P r N0 c Q s:=by
 constructor
 intro G w a n hs hN;obtain⟨G',hE,ry,cC⟩:=hs.vJ e;exact wpIn_mono (h.run G' w a n cC (by rw[ry];exact hN)) λ_ _ _ hn=>hn.trans (hE.less hN)
def D.zZ:D->Bool
 | .v u=>u.oneCell'
 | .sl _=>true
 | .ag _=>false
mutual
def AV.kill(b:Nat):AV->AV
 | .vec n o len L k=>bif n==b then .dead else .vec n o len L k
 | .dn n i j L k=>bif n==b then .dead else .dn n i j L k
 | .agg cs=> .agg (AV.LO b cs)
 | .bg cs=> .bg (AV.LO b cs)
 | .fn f cs=> .fn f (AV.LO b cs)
 |x=>x
def AV.LO(b:Nat):apf AV->apf AV
 |[]=>[]
 |x::l=>x.kill b::AV.LO b l
end
def aq.lx(f:AV->AV):aq->aq
 | .cells cs=> .cells (cs.map f)
 | .lp ls p as bd cs=> .lp ls p as bd (cs.map f)
 | .it sn cs=> .it sn (cs.map f)
 | .eP T cs=> .eP T (cs.map f)
 | .vec e k cs=> .vec e k (cs.map (·.map f))
 |B=>B
theorem akE{G:Gh}{w:apk}{h:apf aq}(hi:bN G w h){b:Nat}{S:Nat->Nat->Prop}{f:AV->AV}(hE:bM G.N G w {G with S:=S} w)(hS:∀c o,S c o->G.S c o\/bK h G b=some c)(hv:∀{u:apj}{x:AV},aF G w u x->aF {G with S:=S} w u (f x)):
 bN {G with S:=S} w ((h.map (aq.lx f)).set b .gone):=by
 have e9:∀(n:Nat)(B:aq),((h.map (aq.lx f)).set b .gone)[n]?=some B->(n=b/\B= .gone)\/(n≠b/\∃B',h[n]?=some B'/\B=B'.lx f):=λn B hB=>by
  by_cases e:b=n
  ·subst e;have aN:=(aor.1 hB).1;rw[List.length_set]at aN;rw[aoU aN]at hB;cases hB;exact .inl ⟨rfl,rfl⟩
  ·rw[aoZ e,aoy]at hB;cases hx:h[n]? with
   |none=>rw[hx]at hB;cases hB
   |some B'=>rw[hx]at hB;cases hB;exact .inr ⟨λh=>e h.symm,B',rfl,rfl⟩
 have eG:∀n x,bK ((h.map (aq.lx f)).set b .gone) {G with S:=S} n=some x->n≠b/\bK h G n=some x:=λn x hx=>by
  obtain⟨B,hn,hx⟩:=nm hx;rcases e9 n _ hn with⟨_,e⟩|⟨cE,B',J,rfl⟩
  ·subst e;cases hx
  ·refine⟨cE,?_⟩;rw[dA J,<-hx];cases B'<;>rfl
 refine⟨by rw[List.length_set,aow];exact hi.len,hi.z,λc o hs=> ?_,λn B hB=> ?_,λm n x J h2=>hi.inj m n x (eG m x J).2 (eG n x h2).2,hi.gl.keep hE⟩
 ·rcases hS c o hs with J|J
  ·exact hi.S c o J
  ·exact hi.h1 J
 ·rcases e9 n B hB with⟨rfl,rfl⟩|⟨cE,B',J,rfl⟩
  ·trivial
  ·have dG:=hi.c7 n B' J;have fm:∀c,B'.dP G n=some c->∀o,¬G.S c o->¬S c o:=λc hc o jx hq=>by
    rcases hS c o hq with h2|h2
    ·exact jx h2
    ·exact cE (hi.inj n b c ((dA J).trans hc) h2)
   cases B' with
   |gone=>trivial
   |map kv=>exact dZ.keep (G':={G with S:=S}) (hi.lt J) hE (aoC _) ⟨rfl,rfl,rfl⟩ (λc hc=>⟨rfl,fm c hc⟩) dG
   |iS kv=>exact dZ.keep (G':={G with S:=S}) (hi.lt J) hE (aoC _) ⟨rfl,rfl,rfl⟩ (λc hc=>⟨rfl,fm c hc⟩) dG
   |front e k len=>exact dZ.keep (G':={G with S:=S}) (hi.lt J) hE (aoC _) ⟨rfl,rfl,rfl⟩ (λc hc=>⟨rfl,fm c hc⟩) dG
   |iB e b2=>exact dZ.keep (G':={G with S:=S}) (hi.lt J) hE (aoC _) ⟨rfl,rfl,rfl⟩ (λc hc=>⟨rfl,fm c hc⟩) dG
   |cells cB=>
    obtain⟨c1,c2,fS,T',c3,c4,c5⟩:=dG;refine⟨c1,λo=>fm _ rfl o (c2 o),fS,T',c3,by rw[aow];exact c4,λi u c hu hc=> ?_⟩;rw[aoy]at hc;cases hx:cB[i]? with
    |none=>rw[hx]at hc;cases hc
    |some x=>rw[hx]at hc;cases hc;exact hv (c5 i u x hu hx)
   |lp ls p as bd cB=>
    obtain⟨c1,c2,fn,fS,T',c3,c4,c5⟩:=dG;refine⟨c1,λo=>fm _ rfl o (c2 o),fn,fS,T',c3,by rw[aow];exact c4,λi u c hu hc=> ?_⟩;rw[aoy]at hc;cases hx:cB[i]? with
    |none=>rw[hx]at hc;cases hc
    |some x=>rw[hx]at hc;cases hc;exact hv (c5 i u x hu hx)
   |it sn cB=>
    obtain⟨c1,c2,fn,fS,T',c3,c4,c5⟩:=dG;refine⟨c1,λo=>fm _ rfl o (c2 o),fn,fS,T',c3,by rw[aow];exact c4,λi u c hu hc=> ?_⟩;rw[aoy]at hc;cases hx:cB[i]? with
    |none=>rw[hx]at hc;cases hc
    |some x=>rw[hx]at hc;cases hc;exact hv (c5 i u x hu hx)
   |eP T0 cB=>
    obtain⟨c1,c2,fn,fS,T',c3,c4,c5⟩:=dG;refine⟨c1,λo=>fm _ rfl o (c2 o),fn,fS,T',c3,by rw[aow];exact c4,λi u c hu hc=> ?_⟩;rw[aoy]at hc;cases hx:cB[i]? with
    |none=>rw[hx]at hc;cases hc
    |some x=>rw[hx]at hc;cases hc;exact hv (c5 i u x hu hx)
   |vec e k cB=>
    obtain⟨c1,c2,c3,c4⟩:=dG;refine⟨by rw[aow];exact c1,by rw[aow];exact c2,λc hc=> ?_,?_⟩
    ·obtain⟨x,hx,rfl⟩:=List.mem_map.1 hc;rw[aow];exact c3 x hx
    ·rcases c4 with⟨d1,d2,A,d3⟩|⟨g,cap,cur,d1,d2,d3,d4,d5,d6,d7,d8,d9⟩
     ·exact .inl ⟨d1,by rw[d2];rfl,A,d3⟩
     ·refine .inr ⟨g,cap,cur,d1,by rw[aow];exact d2,d3,d4,by rw[aow];exact d5,d6,d7,λo=>fm g d1 o (d8 o),λi j c x u hc hx hu=> ?_⟩;rw[aoy]at hc;cases hy:cB[i]? with
      |none=>rw[hy]at hc;cases hc
      |some y=>
       rw[hy]at hc;cases hc
       rw[aoy]at hx;cases hw:y[j]? with
       |none=>rw[hw]at hx;cases hx
       |some z=>rw[hw]at hx;cases hx;exact hv (d9 i j y z u hy hw hu)
mutual
def AV.dj(b kk:Nat)(xs:apf (apf D)):AV->AV
 | .vec n o len L k=>bif n==b then(bif L==xs.length&&k==kk then .d (.sl ((xs.drop o).take len))else .dead)else .vec n o len L k
 | .dn n i j L k=>bif n==b then .dead else .dn n i j L k
 | .agg cs=> .agg (AV.qe b kk xs cs)
 | .bg cs=> .bg (AV.qe b kk xs cs)
 | .fn f cs=> .fn f (AV.qe b kk xs cs)
 |x=>x
def AV.qe(b kk:Nat)(xs:apf (apf D)):apf AV->apf AV
 |[]=>[]
 |x::l=>x.dj b kk xs::AV.qe b kk xs l
end
theorem wY(b kk:Nat)(xs:apf (apf D)):∀l,AV.qe b kk xs l=l.map (AV.dj b kk xs)
 |[]=>by simp [AV.qe]
 |x::l=>by simp [AV.qe,wY b kk xs l]
theorem aF.dj{G G':Gh}{w:apk}{b kk:Nat}{xs:apf (apf D)}(hE:bM G.N G w G' w)(hN:G'.N=G.N)(hp:∀(u:apj)(o len:Nat),aF G w u (.vec b o len xs.length kk)->dh G'.S w u (.sl ((xs.drop o).take len))){u:apj}{x:AV}(h:aF G w u x):aF G' w u (x.dj b kk xs):=by
 have keep:∀{u:apj}{x:AV},aF G w u x->aF G' w u x:=λh=>h.keep hE (Nat.le_of_eq hN.symm);have fG:∀(vs:Array apj)(cs:apf AV),(∀(i:Nat)(u:apj)(c:AV),vs[i]?=some u->cs[i]?=some c->aF G' w u (c.dj b kk xs))->∀(i:Nat)(u:apj)(c:AV),vs[i]?=some u->(AV.qe b kk xs cs)[i]?=some c->aF G' w u c:=by
  intro vs cs ih i u c hu hc;rw[wY,aoy]at hc;cases hx:cs[i]? with
  |none=>rw[hx]at hc;cases hc
  |some x=>rw[hx]at hc;cases hc;exact ih i u x hu hx
 induction h with
 |agg vs cs hl _ ih=>rw[AV.dj];exact .agg vs _ (by rw[wY,aow];exact hl) (fG vs cs ih)
 |bg vs cs hl _ ih=>rw[AV.dj];exact .bg vs _ (by rw[wY,aow];exact hl) (fG vs cs ih)
 |fn f vs cs hl _ ih=>rw[AV.dj];exact .fn f vs _ (by rw[wY,aow];exact hl) (fG vs cs ih)
 |vec n o len L k h hs hL hf=>
  rw[AV.dj,cond_eq_ite];split
  ·next e=>
   have e:n=b:=by simpa using e
   subst e;rw[cond_eq_ite];split
   ·next e2=>
    rw[aot,beq_iff_eq,beq_iff_eq]at e2;obtain⟨rfl,rfl⟩:=e2;exact .d (hp _ o len (.vec n o len _ _ h hs hL hf))
   ·exact .dead _
  ·exact keep (.vec n o len L k h hs hL hf)
 |dn n i j L k h hs hL hf=>
  rw[AV.dj,cond_eq_ite];split
  ·exact .dead _
  ·exact keep (.dn n i j L k h hs hL hf)
 |ptr n off h=>simp only[AV.dj];exact keep (.ptr n off h)
 |own n xs h hp hle hf=>simp only[AV.dj];exact keep (.own n xs h hp hle hf)
 |d h=>simp only[AV.dj];exact keep (.d h)
 |bj xs i off b o u x hx hS hu=>simp only[AV.dj];exact keep (.bj xs i off b o u x hx hS hu)
 |full xs hp hf=>simp only[AV.dj];exact keep (.full xs hp hf)
 |row n off len cap k h hl hm=>simp only[AV.dj];exact keep (.row n off len cap k h hl hm)
 |mp n h=>simp only[AV.dj];exact keep (.mp n h)
 |cn n h=>simp only[AV.dj];exact keep (.cn n h)
 |hid h J=>simp only[AV.dj];exact keep (.hid h J)
 |dead u=>simp only[AV.dj];exact .dead u
theorem cV.XM{G:Gh}{w:apk}{a:Act}{s:St}(hs:cV G w a s)(xs:apf (apf D)){b e k:Nat}(hb:s.h[b]?=some (.vec e k (cd xs)))(jq:∀c∈xs,c.all D.zZ=true)
 :∃G',bM G.N G w G' w/\G'.N=G.N/\cV G' w a ⟨s.n,s.t.map λp=>(p.1,p.2.dj b k xs),(s.h.map (aq.lx (AV.dj b k xs))).set b .gone⟩:=by
 obtain⟨L,hL⟩:∃L,xs.length=L:=⟨_,rfl⟩;have pK:(cd xs).length=L:=by unfold cd;rw[aow];exact hL
 have jm:=FJ hs.inv hb;have nG:∀d∈xs,d.length=k:=λd hd=>by
  have:=jm (d.map .d) (by unfold cd;exact List.mem_map.2 ⟨d,hd,rfl⟩)
  rwa [aow]at this
 obtain⟨S,hS⟩:∃S:Nat->Nat->Prop,S=λc o=>G.S c o\/(bK s.h G b=some c/\o<L*k):=⟨_,rfl⟩;have hE:bM G.N G w {G with S:=S} w:=⟨aoC _,λb o h=>by show S b o;rw[hS];exact .inl h,λ_ _ _=>rfl,λ_ _=>rfl,λ_ _=> .inl ⟨rfl,rfl⟩,zsame rfl,λ_ _=>rfl,rfl,rfl,rfl,λc o hq=>by
  have cC:S c o:=hq;rw[hS]at cC;rcases cC with h|⟨h,_⟩
  ·exact .inl h
  ·obtain⟨B,hB,fu⟩:=nm h;exact .inr ((hs.inv.c7 b B hB).lq fu)⟩
 have Zp:∀(u:apj)(o len:Nat),aF G w u (.vec b o len xs.length k)->dh S w u (.sl ((xs.drop o).take len)):=λu o len ue=>by
  rw[hL]at ue;have lL:=ue.vc hs.inv hb pK;obtain⟨AE,⟨A,cc,q1,q2,q3,q4,q5⟩,_⟩:=lL;generalize hy:(xs.drop o).take len=ys;have py:ys.length=len:=by rw[<-hy,List.length_take,List.length_drop];omega
  rw[q1,<-py];show dh S w _ _;by_cases hh0:True
  ·skip
   by_cases h0:len=0
   ·have:ys=[]:=List.eq_nil_of_length_eq_zero (by omega);subst this;exact .sl A 0 0 cc 0 [] (λ_ _=>undef) (λh=>absurd rfl h) (Nat.zero_le _) q3 (λ_ h=>absurd h ao7) (λi j hi=>absurd hi (aoT _)) (λi j x d hx=>by simp at hx)
   ·obtain⟨g,cap,s1,rfl,s3⟩:=q5 (by omega);obtain⟨g',Fm,cur,r1,r2,r3,r4,r5,r6,r7,r8,r9⟩:=Gp hs.inv hb (λe=>by rw[e]at pK;simp at pK;omega);rw[r2]at s1;cases s1
    have mG:bK s.h G b=some g:=(dA hb).trans r1;have jO:∀i,i<len->ys[i]?=xs[o+i]?:=λi dO=>by rw[<-hy,List.getElem?_take_of_lt dO,List.getElem?_drop]
    have ie:∀i j,i<len->j<k->o*k+i*k+j<cur.size:=λi j hi hj=>by
     have:=m4 (i:=o+i) (k:=k) (L:=(cd xs).length) (j:=j) (by omega) hj;rw[Nat.add_mul]at this;have h2:(cd xs).length*k<=cap*k:=Nat.mul_le_mul_right k (by omega);rw[r7];omega
    have sP:∀(i j:Nat)(x:apf D)(d:D),i<len->ys[i]?=some x->x[j]?=some d->aF G w (cur.getD (o*k+i*k+j) undef) (.d d):=λi j x d hi hx hd=>by
     rw[jO i hi]at hx;have hj:j<k:=by rw[<-nG x (aoE hx)];exact(aor.1 hd).1
     refine r9 (o+i) j (x.map .d) (.d d) _ (by unfold cd;rw[aoy,hx];rfl) (by rw[aoy,hd];rfl) ?_;have hc:=ie i j hi hj;rw[show(o+i)*k+j=o*k+i*k+j by rw[Nat.add_mul]];simp [Array.getD,hc]
    refine .sl _ g (o*k) cc k ys (λi j=>cur.getD (o*k+i*k+j) undef) (λ_=>rfl) (by omega) q3 (λx hx=> ?_) (λi j hi hj=>⟨?_,?_,?_⟩) (λi j x d hx hd=> ?_)
    ·rw[<-hy]at hx;exact nG x (List.mem_of_mem_drop (List.mem_of_mem_take hx))
    ·rw[hS];refine .inr ⟨mG,?_⟩;have:=m4 (i:=o+i) (k:=k) (L:=(cd xs).length) (j:=j) (by omega) hj;rw[Nat.add_mul]at this;exact this
    ·rw[cell_of_row w g _ cur e (0,0) r4];have hc:=ie i j (by omega) hj;simp [Array.getD,hc]
    ·have dO:i<len:=by omega
     obtain⟨x,hx⟩:∃x,ys[i]?=some x:=⟨_,aov hi⟩;have Al:=hx;rw[jO i dO]at Al;have jD:=aoE Al;obtain⟨d,hd⟩:∃d,x[j]?=some d:=⟨_,aov (by rw[nG x jD];exact hj)⟩;refine(sP i j x d dO hx hd).kh ?_;have J:=jq x jD;rw[aoR]at J;have h2:=J d (aoE hd);cases d with
     |v u=>exact h2
     |sl l=>rfl
     |ag l=>exact absurd h2 Bool.false_ne_true
    ·have dO:i<len:=by rw[<-py];exact(aor.1 hx).1
     have:=sP i j x d dO hx hd;generalize cur.getD (o*k+i*k+j) undef=q at this;cases this with|d h=>exact h.keep hE.S hE.cell
  ·exact(hh0 trivial).elim
 have hinv:=akE (b:=b) (f:=AV.dj b k xs) hs.inv hE (λc o hq=>by rw[hS]at hq;exact hq.imp id And.left) (λhq=>hq.dj hE rfl Zp);have cC:cV {G with S:=S} w a ⟨s.n,s.t.map λp=>(p.1,p.2.dj b k xs),(s.h.map (aq.lx (AV.dj b k xs))).set b .gone⟩:=by
  refine⟨hs.size,λi=> ?_,hinv,hs.df⟩;show aF _ _ _ (bn (s.t.map λp=>(p.1,p.2.dj b k xs)) i);rw[Lc (AV.dj b k xs) (by simp [AV.dj])];exact(hs.tmp i).dj hE rfl Zp
 exact⟨_,hE,rfl,cC⟩
def xI(P:api)(rs:apf ResultVar)(m:Nat)(s:St):aph (AV×apf aq):=
 match sT P s rs with
 |some l=>bif cm m s.h.length&&((jY l).bo m).aE m&&(((s.h.take m).map (aq.bo m)).all (aq.aE m))then some (((jY l).bo m).nrm,((s.h.take m).map (aq.bo m)).map aq.pR)else none
 |none=>none
def tR(P:api)(fn:Func)(m:Nat)(R:AV)(H:apf aq):Exit->St->Prop
 | .normal,s=>xI P fn.results.toList m s=some (R,H)
 | .ret,s=>xI P fn.results.toList m s=some (R,H)
 |_,_=>False
theorem Tq{P:api}{s:St}{fn:Func}{m:Nat}{R:AV}{H:apf aq}(h:xI P fn.results.toList m s=some (R,H)):rC P fn m (λr h'=>r.nrm=R/\h'.map aq.pR=H) s:=by
 unfold xI at h;split at h
 ·next l e=>
  obtain⟨hb,he⟩:=eB h;cases he
  simp only[aot,da]at hb;exact Cr _ _ _ e ⟨hb.1.1,hb.1.2,hb.2,rfl,rfl⟩
 ·cases h
theorem jt{P:api}{s:St}{fn:Func}{m:Nat}{R:AV}{H:apf aq}(h:xI P fn.results.toList m s=some (R,H)):tR P fn m R H .ret s:=h
theorem qU{P:api}{f:FuncId}{fn:Func}{c:Code}{args:apf AV}{h H:apf aq}{R:AV}(m:Nat)(hf:P.funcs[f]?=some fn)(hb:fn.body=some c)(hn:(fn.name== "runtime.NumGoroutine")=false)(hm:h.length<=m)
 (hw:bA P none h.length c (tR P fn m R H) {n:=args.length+(fn.ntmps-args.length),t:=lD 0 args,h:=h}):cO P f args h λr1 J=>r1=R/\J=H:=by
 have h0:=uA (P:=P) (f:=f) (args:=args) (h:=h) (K:=λr h'=>r.nrm=R/\h'.map aq.pR=H) m hf hb hn hm (hw.mono λe s hq=>by
  cases e with
  |normal=>exact Tq hq
  |ret=>exact Tq hq
  |_=>exact hq.elim)
 refine⟨h0.1,λG w vs hi hl hr=>(h0.2 G w vs hi hl hr).mono λe w' hp=> ?_⟩;obtain⟨v,G',x,h',rfl,hE,hN,dO,hv,rfl,rfl⟩:=hp;exact⟨v,G',x.nrm,_,rfl,hE,hN,My dO,hv.nrm,rfl,rfl⟩
theorem l6{P:api}{r:aph Nat}{N0:Nat}{c:Code}{s s':St}{Q:Exit->St->Prop}(e:s=s')(h:bA P r N0 c Q s'):bA P r N0 c Q s:=e▸h
def gg{V:Type}:apf (apg×V)->apg->V->V
 |[],_,d=>d
 |(k,v)::l,s,d=>bif bL k==bL s then v else gg l s d
def lN{V:Type}:apf (apg×V)->apg->Bool
 |[],_=>false
 |(k,_)::l,s=>bif bL k==bL s then true else lN l s
def fc(l:apf (apg×Int)):apf (apg×D):=l.map λp=>(p.1, .v (.int .i64 p.2))
def AU(l:apf (apg×Bool)):apf (apg×D):=l.map λp=>(p.1, .v (.bool p.2))
theorem aaK{V:Type}(f:V->D):∀(l:apf (apg×V))(s:apg)(d:V),kV (l.map λp=>(p.1,f p.2)) s=bif lN l s then some (f (gg l s d))else none
 |[],s,d=>rfl
 |(k,v)::l,s,d=>by
  simp only[aoQ,kV,lN,gg];cases bL k==bL s with
  |true=>rfl
  |false=>simp only[cond_false];exact aaK f l s d
theorem abz{V:Type}:∀(l:apf (apg×V))(s:apg)(d:V),lN l s=false->gg l s d=d
 |[],s,d,_=>rfl
 |(k,v)::l,s,d,h=>by
  unfold lN at h;unfold gg;cases e:bL k==bL s with
  |true=>rw[e]at h;cases h
  |false=>rw[e]at h;simp only[cond_false];exact abz l s d h
theorem PZ{V:Type}(f:V->D)(F:V->AV)(hF:∀x,I1 (f x)=F x)(z:apj)(d0:V)(hz:AF z=F d0)(ok:Bool)(l:apf (apg×V))(s:apg):
 qR ok z (kV (l.map λp=>(p.1,f p.2)) s)=bif ok then .bg [F (gg l s d0), .d (.v (.bool (lN l s)))]else F (gg l s d0):=by
 rw[aaK f l s d0];cases e:lN l s with
 |true=>cases ok<;>simp only[qR,cond_true,cond_false,hF]
 |false=>rw[abz l s d0 e];cases ok<;>simp only[qR,cond_true,cond_false,hz]
theorem E2(ok:Bool)(l:apf (apg×Int))(s:apg):qR ok (.int .i64 0) (kV (fc l) s)=bif ok then .bg [.d (.v (.int .i64 (gg l s 0))), .d (.v (.bool (lN l s)))]else .d (.v (.int .i64 (gg l s 0))):=
 PZ (λn=> .v (.int .i64 n)) (λn=> .d (.v (.int .i64 n))) (λ_=>rfl) _ 0 rfl ok l s
theorem alO(ok:Bool)(l:apf (apg×Bool))(s:apg):qR ok (.bool false) (kV (AU l) s)=bif ok then .bg [.d (.v (.bool (gg l s false))), .d (.v (.bool (lN l s)))]else .d (.v (.bool (gg l s false))):=
 PZ (λn=> .v (.bool n)) (λn=> .d (.v (.bool n))) (λ_=>rfl) _ false rfl ok l s
def bU{α:Type}(f:α->apf D)(l:apf (apg×α)):apf (apg×D):=l.map λp=>(p.1, .ag (f p.2))
theorem am2{α:Type}(f:α->apf D)(z:apj)(d0:α)(hz:AF z= .agg ((f d0).map .d))(ok:Bool)(l:apf (apg×α))(s:apg):
 qR ok z (kV (bU f l) s)=bif ok then .bg [.agg ((f (gg l s d0)).map .d), .d (.v (.bool (lN l s)))]else .agg ((f (gg l s d0)).map .d):=
 PZ (λx=> .ag (f x)) (λx=> .agg ((f x).map .d)) (λ_=>rfl) _ d0 hz ok l s
theorem aiw{α:Type}{f:α->apf D}{l:apf (apg×α)}(h:Nat.blt l.length 9223372036854775807=true):(Sd.lt (bU f l).length).ok:=by
 unfold bU;rw[aow];exact aoz h
theorem MH{l:apf (apg×Int)}(h:Nat.blt l.length 9223372036854775807=true):(Sd.lt (fc l).length).ok:=by
 unfold fc;rw[aow];exact aoz h
theorem aci{l:apf (apg×Bool)}(h:Nat.blt l.length 9223372036854775807=true):(Sd.lt (AU l).length).ok:=by
 unfold AU;rw[aow];exact aoz h
def gI(g:Nat):apf Int:=((BR By g).getD []).map λv=>match v with| .int _ n=>n|_=>0
def amF(l:apf Int):apg:=⟨(l.map λn=>UInt8.ofNat n.toNat).toArray⟩
theorem acC{α:Type}{c:Bool}{x y z:α}(h:(bif c then x else y)=z):(c=true/\x=z)\/(c=false/\y=z):=by
 cases c with
 |true=>exact .inl ⟨rfl,h⟩
 |false=>exact .inr ⟨rfl,h⟩
inductive HD
 |same
 |push (B:aq)
 |set (n:Nat) (B:aq)
def HD.app:HD->apf aq->apf aq
 | .same,h=>h
 | .push B,h=>h++[B]
 | .set n B,h=>h.set n B
def zN:Int->aph Nat
 | .ofNat n=>some n
 | .negSucc _=>none
theorem EX{z:Int}{n:Nat}(h:zN z=some n):0<=z/\z.toNat=n:=by
 cases z with
 |ofNat m=>cases h;exact⟨Int.natCast_nonneg _,rfl⟩
 |negSucc m=>cases h
def vb(ρ:Operand->AV)(d:Nat):aph Operand->aph Nat
 |none=>some d
 |some y=>match (ρ y).int? with
  |some z=>zN z
  |none=>none
def Cw(k:Nat)(xs:apf (apf D)):Bool:=xs.all λc=>c.length==k
def Hv(P:api)(T:TypeId)(x i:AV):aph AV:=
 match eY P T with
 |some (_,k)=>match x with
  | .row n off len _ k'=>match i.int? with
    |some z=>match zN z with
     |some q=>bif k'==k&&cm (q+1) len then some (.ptr n (off+q*k))else none
     |none=>none
    |none=>none
  |x=>match x.fI,i.int? with
   |some xs,some z=>match zN z with
    |some q=>match xs[q]? with
     |some c=>bif c.length==k then some (.bj [c] 0 0)else none
     |none=>none
    |none=>none
   |_,_=>none
 |none=>match uj P T,x,i.int? with
  |some (n,_,k), .ptr b off,some z=>match zN z with
   |some q=>bif cm (q+1) n then some (.ptr b (off+q*k))else none
   |none=>none
  |some (n,_,k), .bj xs e off,some z=>match zN z with
   |some q=>bif k==1&&cm (q+1) n then match xs[e]? with
    |some c=>match c[off+q]? with
     |some d=>some (.bj [[d]] 0 0)
     |none=>none
    |none=>none
    else none
   |none=>none
  |_,_,_=>none
theorem anh{P:api}{T:TypeId}{x i y:AV}{K:AV->Prop}(h:Hv P T x i=some y)(hK:K y):rX P T x i K:=by
 unfold Hv at h;unfold rX;split at h
 ·next e k eT=>
  simp only[eT];split at h
  ·next n off len cap k'=>
   simp only;split at h
   ·next z ez=>
    simp only[ez];split at h
    ·next q eq=>
     obtain⟨h0,J⟩:=EX eq;obtain⟨hb,he⟩:=eB h;rw[aot,da]at hb;refine bO.2 ⟨hb.1,h0,by omega,?_⟩;rw[J,he];exact hK
    ·cases h
   ·cases h
  ·next x' kP=>
   split at h
   ·next xs z e1 e2=>
    split at h
    ·next q eq=>
     obtain⟨h0,J⟩:=EX eq;split at h
     ·next c ec=>
      obtain⟨hb,he⟩:=eB h;simp only[e1,e2];refine⟨h0,?_⟩;rw[J,ec];exact⟨by simpa using hb,by rw[he];exact hK⟩
     ·cases h
    ·cases h
   ·cases h
 ·next eT=>
  simp only[eT];split at h
  ·next n e k b off z e1 e2=>
   simp only[e1,e2];split at h
   ·next q eq=>
    obtain⟨h0,J⟩:=EX eq;obtain⟨hb,he⟩:=eB h;rw[da]at hb;exact⟨h0,by omega,by rw[J,he];exact hK⟩
   ·cases h
  ·next n e0 k xs e off z e1 e2=>
   simp only[e1,e2];split at h
   ·next q eq=>
    obtain⟨h0,J⟩:=EX eq;obtain⟨hb,h⟩:=kG h;rw[aot,da]at hb;split at h
    ·next c ec=>
     split at h
     ·next d ed=>
      cases h
      refine bO.2 ⟨hb.1,h0,by omega,?_⟩;rw[ec];simp only;rw[J,ed];exact hK
     ·cases h
    ·cases h
   ·cases h
  ·cases h
def aog(P:api)(T:TypeId)(ρ:Operand->AV)(x:AV)(lo hi mx:aph Operand):aph AV:=
 match mx with
 |none=>
  match x with
  | .d (.v (.string b))=>match vb ρ b.size hi,vb ρ 0 lo with
    |some h,some l=>bif iu P T&&cm h b.size&&cm l h then some (.d (.v (.string (b.extract l h))))else none
    |_,_=>none
  | .ptr n off=>match uj P T with
    |some (m,_,k)=>match vb ρ m hi,vb ρ 0 lo with
     |some h,some l=>bif cm m 4096&&cm h m&&(cm l h&& !cm m l)then some (.row n (off+l*k) (h-l) (m-l) k)else none
     |_,_=>none
    |none=>none
  |x=>match x.fI,eY P T with
   |some xs,some (_,k)=>match vb ρ xs.length hi,vb ρ 0 lo with
    |some h,some l=>bif Cw k xs&&cm h xs.length&&cm l h then some (.d (.sl ((xs.take h).drop l)))else none
    |_,_=>none
   |_,_=>none
 |some m=>match lo,hi with
  |none,some y=>match x.fI,eY P T with
   |some xs,some (_,k)=>match vb ρ 0 (some m),vb ρ 0 (some y)with
    |some c,some h=>bif Cw k xs&&cm c xs.length&&h==c then some (.full (xs.take h))else none
    |_,_=>none
   |_,_=>none
  |_,_=>none
def aoj(P:api)(T:TypeId)(h:apf aq)(x y:AV):aph (AV×HD):=
 match eY P T with
 |some (e,k)=>match iR P e,qQ P e with
  |some z,some cW=>match IY h k y with
   |some ys=>bif cm 1 k&&z.cells.toList.length==k&&Cw k ys then
    match x with
    | .own n xs=>match h[n]? with
      |some (.front e' k' len)=>bif e'==e&&k'==k&&len==xs.length&&Cw k xs&&cm (xs.length+ys.length) maxLen&&cm ((xs.length+ys.length)*cW) 140737488355328 then some (.own n (xs++ys), .set n (.front e k (xs.length+ys.length)))else none
      |_=>none
    | .d (.v (.slice none 0 0))=>bif cm ys.length maxLen&&cm (ys.length*cW) 140737488355328 then some (.own h.length ys, .push (.front e k ys.length))else none
    | .full xs=>bif Cw k xs&&cm (xs.length+ys.length) maxLen&&cm ((xs.length+ys.length)*cW) 140737488355328 then some (.own h.length (xs++ys), .push (.front e k (xs.length+ys.length)))else none
    |_=>none
    else none
   |none=>none
  |_,_=>none
 |none=>none
def Z5:apf (apf D)->aph (apf Int)
 |[]=>some []
 |[.v (.int .u8 n)]::l=>match Z5 l with
  |some ns=>some (n::ns)
  |none=>none
 |_=>none
def Q2:aph (AV×In)->aph AV
 |some (x, .none)=>some x
 |some (x, .nz b)=>bif b==0 then none else some x
 |some (x, .nn b)=>match zN b with
  |some _=>some x
  |none=>none
 |some (x, .cat n)=>bif cm n maxLen then some x else none
 |_=>none
theorem amo{r:aph (AV×In)}{x:AV}(P:api)(h:Q2 r=some x):∃i,r=some (x,i)/\OK P i .ok:=by
 unfold Q2 at h;split at h
 ·cases h;exact⟨_,rfl, .none⟩
 ·next b=>
  cases hb:b==0 with
  |true=>rw[hb]at h;cases h
  |false=>rw[hb]at h;cases h;exact⟨_,rfl, .nz (by simpa using hb)⟩
 ·next b=>
  split at h
  ·next e=>cases h;exact⟨_,rfl, .nn (EX e).1⟩
  ·cases h
 ·obtain⟨hb,he⟩:=eB h;cases he
  exact⟨_,rfl, .cat (da.1 hb)⟩
 ·cases h
def pX(r:aph AV):aph (AV×HD):=
 match r with
 |some x=>some (x, .same)
 |none=>none
def aoo(P:api)(src dst:TypeId)(x:AV):aph AV:=
 match Ls P src dst x .none with
 |some (y, .none)=>some y
 |_=>match x.fI,eY P src with
  |some xs,some (e,_)=>match Z5 xs with
   |some ns=>match x with
    | .d (.v _)=>none
    |_=>bif Dz P e&&iu P dst then some (.d (.v (.string (amF ns))))else none
   |none=>none
  |_,_=>none
def me(P:api)(op:Op)(ρ:Operand->AV)(h:apf aq):aph (AV×HD):=
 match op with
 | .move x| .assign x=>some (ρ x, .same)
 | .pick c x y=>match ρ c with
   | .d (.v (.bool b))=>some (bif b then ρ x else ρ y, .same)
   |_=>none
 | .alloc e=>match iR P e with
   |some z=>some (.ptr h.length 0, .push (.cells (z.cells.toList.map λu=> .d (.v u))))
   |none=>none
 | .box _ x=>bif (ρ x).jS then some (.ptr h.length 0, .push (.cells (ρ x).cells))else none
 | .load t p=>match xa h (ρ p)with
   |some (cs,off)=>pX (BN P t cs off)
   |none=>none
 | .store t p x=>match ρ p with
   | .ptr n off=>match h[n]? with
     |some (.cells cs)=>match gh P t with
      |some k=>bif k==(ρ x).cells.length&&(ρ x).jS&&cm (off+(ρ x).cells.length) cs.length then some (.d (.v undef), .set n (.cells (iW cs off (ρ x).cells)))else none
      |none=>none
     |_=>none
   |_=>none
 | .nilCheck x=>match ρ x with
   | .ptr n off=>some (.ptr n off, .same)
   | .bj xs i off=>some (.bj xs i off, .same)
   | .fn f cs=>some (.fn f cs, .same)
   |_=>none
 | .fieldAddr S x f=>match rM P S f with
   |some (fo,_,_)=>match ρ x with
    | .ptr n off=>some (.ptr n (off+fo), .same)
    | .bj xs i off=>some (.bj xs i (off+fo), .same)
    |_=>none
   |none=>none
 | .field T x f=>pX (KU P T (ρ x) f)
 | .indexAddr T x i=>pX (Hv P T (ρ x) (ρ i))
 | .extract x i=>match ρ x with
   | .bg cs=>match cs[i]? with
     |some c=>some (c, .same)
     |none=>none
   |_=>none
 | .makeFunc (.func f) first cZ=>match first.toList with
   |[]=>some (.fn f (cZ.toList.map ρ), .same)
   |_=>none
 | .binOp op T x y _=>pX (Q2 (Kr P T op (ρ x) (ρ y)))
 | .unOp op _ x=>match ρ x with
   | .d (.v u)=>match Il op u with
     |some v=>some (.d (.v v), .same)
     |none=>none
   |_=>none
 | .call c=>match c.callee with
   | .builtin .len=>match c.args.toList,c.argTypes.toList with
     |[x],[T]=>match ρ x with
      | .d (.v (.string s))=>bif iu P T then some (.d (.v (.int .i64 s.size)), .same)else none
      | .row _ _ len _ _=>bif (eY P T).isSome then some (.d (.v (.int .i64 len)), .same)else none
      |x=>match x.fI with
       |some xs=>bif (eY P T).isSome then some (.d (.v (.int .i64 xs.length)), .same)else none
       |none=>none
     |_,_=>none
   |_=>none
 |_=>none
theorem JK{r:aph AV}{x:AV}{d:HD}(h:pX r=some (x,d)):r=some x/\d= .same:=by
 unfold pX at h;split at h
 ·cases h;exact⟨rfl,rfl⟩
 ·cases h
theorem UK{P:api}{o:Oper}{ρ:Operand->AV}{h:apf aq}{x:AV}{d:HD}{C:AV->apf aq->Prop}(J:me P o.op ρ h=some (x,d))(hC:C x (d.app h)):cG P o ρ h C:=by
 obtain⟨dst,op,type,pos,after,guard⟩:=o;simp only at J;unfold me at J;unfold cG;split at J
 ·cases J;exact hC
 ·cases J;exact hC
 ·next c y z=>
  split at J
  ·next b e=>
   cases J
   simp only[e];cases b with
   |true=>exact⟨λ_=>hC,λh=>Bool.noConfusion h⟩
   |false=>exact⟨λh=>Bool.noConfusion h,λ_=>hC⟩
  ·cases J
 ·split at J
  ·next z e=>cases J;simp only[e];exact hC
  ·cases J
 ·obtain⟨hb,he⟩:=eB J;cases he;exact bO.2 ⟨hb,hC⟩
 ·split at J
  ·next cs off e=>
   obtain⟨e2,rfl⟩:=JK J;exact Sl e e2 hC
  ·cases J
 ·split at J
  ·next n off e=>
   split at J
   ·next cs e2=>
    split at J
    ·next k e3=>obtain⟨hb,he⟩:=eB J;cases he;simp only[e,xQ,e2,e3];exact bO.2 ⟨hb,hC⟩
    ·cases J
   ·cases J
  ·cases J
 ·split at J
  ·next e=>cases J;simp only[e];exact hC
  ·next e=>cases J;simp only[e];exact hC
  ·next e=>cases J;simp only[e];exact hC
  ·cases J
 ·split at J
  ·next e=>
   simp only[e];split at J
   ·next e2=>cases J;simp only[e2];exact hC
   ·next e2=>cases J;simp only[e2];exact hC
   ·cases J
  ·cases J
 ·obtain⟨e,rfl⟩:=JK J;exact S8 e hC
 ·obtain⟨e,rfl⟩:=JK J;exact anh e hC
 ·split at J
  ·next e=>
   split at J
   ·next e2=>cases J;simp only[e,e2];exact hC
   ·cases J
  ·cases J
 ·split at J
  ·next e=>cases J;simp only[e];exact hC
  ·cases J
 ·obtain⟨e,rfl⟩:=JK J;obtain⟨i,e2,bS⟩:=amo P e;exact abu e2 bS hC
 ·unfold wX;split at J
  ·next e=>
   split at J
   ·next e2=>cases J;simp only[e,e2];exact hC
   ·cases J
  ·cases J
 ·next c=>
  split at J
  ·next hc=>
   simp only[hc];split at J
   ·next y T e1 e2=>
    simp only[e1,e2];unfold rS;split at J
    ·next s e=>obtain⟨hb,he⟩:=eB J;cases he;simp only[e];exact bO.2 ⟨hb,hC⟩
    ·next e=>obtain⟨hb,he⟩:=eB J;cases he;simp only[e];exact bO.2 ⟨hb,hC⟩
    ·next n1 n2=>
     split at J
     ·next xs e=>
      obtain⟨hb,he⟩:=eB J;cases he;split
      ·next s e'=>exact absurd e' (n1 s)
      ·next e'=>exact absurd e' (n2 _ _ _ _ _)
      ·simp only[e];exact bO.2 ⟨hb,hC⟩
     ·cases J
   ·cases J
  ·cases J
 ·cases J
def dc(n:Nat)(t:apf (Nat×AV)):apf AV:=(List.range n).map (bn t)
theorem aid{n:Nat}{t:apf (Nat×AV)}{i:Nat}{c:AV}(h:(dc n t)[i]?=some c):bn t i=c:=by
 unfold dc at h;rw[aoy]at h;by_cases hi:i<n
 ·rw[List.getElem?_range hi]at h;exact aoK h
 ·rw[aoX (by simpa using hi)]at h;cases h
def Ph(P:api)(N0:Nat)(Q:Exit->St->Prop)(s:St):LS->Prop
 | .ready=>Q .normal s
 | .done c=>bA P none N0 c Q s
 | .busy=>False
theorem alL{P:api}{N0:Nat}{s:St}{Q:Exit->St->Prop}{g:Operand}{p:Nat}{assign body:Code}{gf:FuncId}{cZ:apf AV}(hg:ev s g= .fn gf cZ)
 (hc:cO P gf (.cn s.h.length::cZ) (s.h++[.lp .ready p assign body (dc s.n s.t)]) λ_ h'=>∃(ls:LS)(p1:Nat)(rR tz:Code)(wM:apf AV),h'[s.h.length]?=some (.lp ls p1 rR tz wM)/\Ph P N0 Q ⟨s.n,s.t,h'.set s.h.length .gone⟩ ls):
 bA P none N0 (.rangeFunc g #[p] assign body) Q s:=by
 constructor
 intro G w a n hs hN;have hv:=hs.ev g;rw[hg]at hv;obtain⟨lb,ea,hl,hr⟩:∃lb:Array apj,a.eval g= .func (.func gf) #[] lb/\lb.size=cZ.length/\∀(i:Nat)(u:apj)(c:AV),lb[i]?=some u->cZ[i]?=some c->aF G w u c:=by
  generalize a.eval g=u at hv;cases hv with|fn _ vs _ hl hr=>exact⟨vs,rfl,hl,hr⟩
 obtain⟨FA,jM⟩:=hc;refine wpIn_rangeFunc (F:=WF none) ?_;intro fn _;obtain⟨CW,VU⟩:=ahn hs.inv;obtain⟨G0,kO⟩:∃G0:Gh,G0={G with Z:=λb=>G.Z b\/b=w.heap.size}:=⟨_,rfl⟩;obtain⟨w0,rf⟩:∃w0,w0=w.alloc (.deferred (some [])):=⟨_,rfl⟩;rw[<-kO,<-rf]at CW VU;have cv:G0.N=G.N:=by rw[kO]
 have iq:w0.heap.size=w.heap.size+1:=by rw[rf];simp
 obtain⟨jb,wG,RD⟩:=afk VU fn a.tmps w.heap.size p assign body (dc s.n s.t) (by simp [dc,hs.size]) λi u c hu hc=>by
  have h9:=hs.tmp i;rw[aid hc]at h9;have e:a.tmps.getD i undef=u:=by
   have aN:=(aoG.1 hu).1;rw[aoN aN]at hu;simp [Array.getD,aN];exact aoK hu
  rw[e]at h9;exact h9.keep CW (Nat.le_of_eq cv.symm)
 obtain⟨w1,AK⟩:∃w1,w1=w0.alloc (.loop {state:= .ready,pending:=none,fn:=fn,tmps:=a.tmps,params:= #[p],assign:=assign,body:=body,defers:=w.heap.size}):=⟨_,rfl⟩;obtain⟨G1,Rk⟩:∃G1:Gh,G1=G0.cX w0.heap.size:=⟨_,rfl⟩;rw[<-AK,<-Rk]at jb wG RD;have gu:G1.N=G.N+1:=by rw[Rk,<-cv];rfl
 have ah4:G1.aR s.h.length=w.heap.size+1:=by rw[Rk,hs.inv.len,<-cv];simp [Gh.cX,iq]
 rw[iq]at RD;have abp:bM G.N G w G1 w1:=CW.trans (jb.less (Nat.le_of_eq cv.symm));refine⟨w.heap.size+1,[{target:= .collected w.heap.size,args:= #[]}],w1,{target:= .fn (.func gf) lb,args:= #[.func (.yield (w.heap.size+1)) #[] #[]]},w1,gf, #[.func (.yield (w.heap.size+1)) #[] #[]]++lb,w1,?_,?_,λ_ _=>trivial,?_,λh=>(by simp [WF,Fence.wide]at h),?_⟩
 ·rw[AK,rf];exact run_enterLoop_outer _ _ _ _ _
 ·simp only[resolve,ea];simp [Deferred.ofValue,go_sem]
 ·simp [invoke,RU FA]
 have hK:=jM G1 w1 (#[.func (.yield (w.heap.size+1)) #[] #[]]++lb) wG (by simp [hl];omega) (λi u c hu hc=>by
  match i with
  |0=>
   rw[Array.getElem?_append_left (by simp)]at hu;simp at hu hc;subst hu;subst hc;exact RD
  |i+1=>
   rw[Array.getElem?_append_right (by simp)]at hu;simp at hu hc;exact(hr i u c hu hc).keep abp (by rw[gu];exact Nat.le_succ _))
 refine CallsIn.mono (F:=WF none) (callsIn_wide (n:=n-1).2 hK) ?_;rintro e w2 ⟨v,G2,r,h',rfl,jo,SL,HE,_,ls,p1,rR,tz,wM,hk,Pv⟩;have yY:s.h.length<G1.N:=by rw[hs.inv.len,gu];exact apd _
 have Gs:G2.aR s.h.length=w.heap.size+1:=(jo.aR _ yY).trans ah4;obtain⟨_,fn2,tm2,D2,g3,g4,g5,abC⟩:=Jt HE hk;rw[Gs]at g3;have hEa:bM G.N G w G2 w2:=abp.trans (jo.less (by rw[gu];exact Nat.le_succ _));have LN:G.N<=G2.N:=by rw[gu]at SL;omega
 obtain⟨ob,mG⟩:∃ob:Obj,ob= .loop {state:= .exhausted,pending:=ls.pd,fn:=fn2,tmps:=tm2,params:= #[p1],assign:=rR,body:=tz,defers:=D2}:=⟨_,rfl⟩;obtain⟨zE,zI⟩:=afS HE hk ob;rw[Gs]at zE zI;have Dm:bM G.N G w G2 (w2.putObj (w.heap.size+1) ob):=hEa.trans (zE.less LN);have hM:=hs.inv.gl.2;have yQ:G0.Z w.heap.size:=by rw[kO];exact .inr rfl
 have hDZ:G2.Z w.heap.size:=jo.Z.1.1 _ (jb.Z.1.1 _ yQ);have hDh:(w2.putObj (w.heap.size+1) ob).heap[w.heap.size]?=some (.deferred (some [])):=by
  rw[zE.old _ hDZ,jo.old _ (jb.Z.1.1 _ yQ),jb.old _ yQ,rf];exact World.alloc_heap_new w _
 have cC:cV G2 (w2.putObj (w.heap.size+1) ob) {a with defers:=[{target:= .collected w.heap.size,args:= #[]}]++a.defers} ⟨s.n,s.t,h'.set s.h.length .gone⟩:=by
  refine⟨hs.size,λi=>(hs.tmp i).keep Dm LN,zI,?_⟩;obtain⟨l,l1,l2,l3⟩:=hs.df.keep Dm;obtain⟨l',l1',l2',l3'⟩:=hs.df;have pK:l=l':=by
   rw[l2]at l2';have ag0:∀(x y:apf Nat),x.map (λD=>({target:= .collected D,args:= #[]}:Deferred))=y.map (λD=>{target:= .collected D,args:= #[]})->x=y:=by
     intro x
     induction x with
     |nil=>intro y h;cases y with
      |nil=>rfl
      |cons b y=>simp at h
     |cons a x ih=>intro y h;cases y with
      |nil=>simp at h
      |cons b y=>simp at h;rw[h.1,ih y (by simpa using h.2)]
   exact ag0 _ _ l2'
  refine⟨w.heap.size::l,?_,by rw[aoQ,<-l2];rfl,λD hD=> ?_⟩
  ·rw[List.nodup_cons];exact⟨λh=>ao5 _ (hs.inv.z _ (l3' _ (pK▸h)).2.1),l1⟩
  ·rcases aoV.1 hD with rfl|hD
   ·exact⟨by rw[Dm.Z.2];exact hM,hDZ,hDh⟩
   ·exact l3 D hD
 subst mG;have FO:=λhb=>run_endLoop (P:=P) g3 hb;cases ls with
 |busy=>exact Pv.elim
 |ready=>
  refine⟨_,_,FO (by simp [LS.st]),?_⟩;exact⟨G2,_,Dm.less hN,aoJ hN LN,cC,Pv⟩
 |done c=>
  refine⟨_,_,FO (by simp [LS.st]),?_⟩;refine wpIn_mono (Pv.run G2 _ _ n (cC) (aoJ hN LN)) λ_ _ _ hn=> ?_;exact hn.trans (Dm.less hN)
set_option linter.unusedSimpArgs false
set_option linter.unusedVariables false
mutual
theorem Ge:∀x:AV,x.aK id=x
 | .agg cs=>by rw[AV.aK,sY cs]
 | .bg cs=>by rw[AV.aK,sY cs]
 | .fn f cs=>by rw[AV.aK,sY cs]
 | .own .. =>by simp [AV.aK]
 | .d _=>by simp [AV.aK]
 | .ptr .. =>by simp [AV.aK]
 | .bj .. =>by simp [AV.aK]
 | .full _=>by simp [AV.aK]
 | .row .. =>by simp [AV.aK]
 | .mp _=>by simp [AV.aK]
 | .cn _=>by simp [AV.aK]
 | .vec .. =>by simp [AV.aK]
 | .dn .. =>by simp [AV.aK]
 | .hid _=>by simp [AV.aK]
 | .dead=>by simp [AV.aK]
theorem sY:∀l:apf AV,AV.fX id l=l
 |[]=>by simp [AV.fX]
 |x::l=>by rw[AV.fX,Ge x,sY l]
end
theorem RA(B:aq):B.aK id=B:=by
 cases B with
 |cells cs=>simp only[aq.aK,sY]
 |lp ls p as bd cs=>simp only[aq.aK,sY]
 |it sn cs=>simp only[aq.aK,sY]
 |eP T0 cs=>simp only[aq.aK,sY]
 |vec e k cs=>simp only[aq.aK];congr 1;exact(aoW λx _=>sY x).trans (List.map_id _)
 |_=>rfl
theorem aF.low{G:Gh}{w:apk}{u:apj}{x:AV}(h:aF G w u x):x.aE G.N=true:=by
 have lt:∀{n:Nat},n<G.N->(!cm G.N n)=true:=fun{n} hn=>by
  rw[Bool.not_eq_true',<-Bool.not_eq_true,da];omega
 have fG:∀(vs:Array apj)(cs:apf AV),vs.size=cs.length->(∀(i:Nat)(u:apj)(c:AV),vs[i]?=some u->cs[i]?=some c->c.aE G.N=true)->AV.kE G.N cs=true:=λvs cs hl h=>by
  rw[mS,aoR];intro c hc;obtain⟨i,hi,rfl⟩:=List.mem_iff_getElem.1 hc;exact h i vs[i] _ (aoN (by omega)) (aov hi)
 induction h with
 |agg vs cs hl _ ih=>rw[AV.aE];exact fG vs cs hl ih
 |bg vs cs hl _ ih=>rw[AV.aE];exact fG vs cs hl ih
 |fn f vs cs hl _ ih=>rw[AV.aE];exact fG vs cs hl ih
 |ptr n off h=>rw[AV.aE];exact lt h
 |own n xs h=>rw[AV.aE];exact lt h
 |row n off len cap k h=>rw[AV.aE];exact lt h
 |mp n h=>rw[AV.aE];exact lt h
 |cn n h=>rw[AV.aE];exact lt h
 |vec n o len L k h=>rw[AV.aE];exact lt h
 |dn n i j L k h=>rw[AV.aE];exact lt h
 |_=>simp [AV.aE]
def iE(N0:Nat)(s s':St):Prop:=∀(G:Gh)(w:apk)(a:Act),N0<=G.N->cV G w a s->∃G',bM N0 G w G' w/\N0<=G'.N/\cV G' w a s'
theorem iE.refl(N0:Nat)(s:St):iE N0 s s:=λG _ _ hN hs=>⟨G,bM.refl _ _ _,hN,hs⟩
theorem iE.trans{N0:Nat}{s1 s2 s3:St}(h:iE N0 s1 s2)(k:iE N0 s2 s3):iE N0 s1 s3:=λG w a hN hs=>by
 obtain⟨G1,e1,n1,J⟩:=h G w a hN hs;obtain⟨G2,e2,n2,h2⟩:=k G1 w a n1 J;exact⟨G2,e1.trans e2,n2,h2⟩
theorem iE.of_eq{N0:Nat}{s s':St}(h:js s s'):iE N0 s s':=λG _ _ hN hs=>
 ⟨G,bM.refl _ _ _,hN,hs.size.trans h.n,λi=>by rw[<-h.t i];exact hs.tmp i,by rw[<-h.h];exact hs.inv,hs.df⟩
theorem iE.aK{N0:Nat}{s s':St}(σ τ:Nat->Nat)(hn:s.n=s'.n)(hlen:s'.h.length=s.h.length)(aN:∀i,i<s.h.length->σ i<s.h.length)(hτ:∀i,i<s.h.length->τ i<s.h.length)
 (uu:∀i,i<s.h.length->τ (σ i)=i) (lK:∀i,i<s.h.length->σ (τ i)=i) (vQ:∀i,i<N0->σ i=i)
 (ht:∀i,(bn s.t i).aE s.h.length=true->bn s'.t i=(bn s.t i).aK σ\/bn s'.t i= .dead) (hh:∀i,i<s.h.length->s'.h[σ i]?=(s.h[i]?).map (aq.aK σ)):iE N0 s s':=λG w a hN hs=>by
 have hl:s.h.length=G.N:=hs.inv.len;rw[hl]at aN hτ uu lK hh hlen ht;have MG:∀i,i<N0->τ i=i:=λi hi=>by
  have J:=uu i (by omega);rw[vQ i hi]at J;exact J
 let G':Gh:={G with aR:=λn=>G.aR (τ n),sg:=λn=>G.sg (τ n),ow:=λn=>G.ow (τ n),fl:=λn=>G.fl (τ n)}
 have hR:rj σ G G':=⟨aN,λn h=>by show G.aR (τ (σ n))=_;rw[uu n h],λn h=>by show G.sg (τ (σ n))=_;rw[uu n h],λn h=>by show G.fl (τ (σ n))=_;rw[uu n h],λn h=>by show G.ow (τ (σ n))=_;rw[uu n h],λ_ _=>Iff.rfl⟩;have hE:bM N0 G w G' w:=⟨aoC _,λ_ _ h=>h,λ_ _ _=>rfl,λn h=>by show G.aR (τ n)=_;rw[MG n h],λn h=> .inl ⟨by show G.fl (τ n)=_;rw[MG n h],by show G.sg (τ n)=_;rw[MG n h]⟩,zsame rfl,λ_ _=>rfl,rfl,rfl,rfl,λ_ _ h=> .inl h⟩;have e9:∀(n:Nat)(B:aq),s'.h[n]?=some B->∃m B0,m<G.N/\σ m=n/\s.h[m]?=some B0/\B=B0.aK σ:=λn B hB=>by
  have eW:n<G.N:=by have:=(aor.1 hB).1;omega
  have J:=hh (τ n) (hτ n eW);rw[lK n eW,hB]at J;cases h2:s.h[τ n]? with
  |none=>rw[h2]at J;cases J
  |some B0=>rw[h2]at J;cases J;exact⟨τ n,B0,hτ n eW,lK n eW,h2,rfl⟩
 have eG:∀(n b:Nat),bK s'.h G' n=some b->∃m,m<G.N/\σ m=n/\bK s.h G m=some b:=λn b hb=>by
  obtain⟨B,hB,hb⟩:=nm hb;obtain⟨m,B0,k1,k2,k3,rfl⟩:=e9 n B hB;subst k2;rw[Sv hR k1]at hb;exact⟨m,k1,rfl,by rw[dA k3];exact hb⟩
 refine⟨G',hE,hN,hs.size.trans hn,λi=> ?_,⟨hlen,hs.inv.z,hs.inv.S,λn B hB=> ?_,λm n b hm eW=> ?_,hs.inv.gl.keep hE⟩,hs.df.keep hE⟩
 ·have hv:=hs.tmp i;rcases ht i hv.low with e|e
  ·rw[e];exact hv.aK hR
  ·rw[e];exact .dead _
 ·obtain⟨m,B0,k1,k2,k3,rfl⟩:=e9 n B hB;subst k2;have hb:=hs.inv.c7 m B0 k3;exact dZ.aK hR k1 (λb J=>hb.lq J) hb
 ·obtain⟨m',k1,k2,k3⟩:=eG m b hm;obtain⟨n',j1,j2,j3⟩:=eG n b eW;have:=hs.inv.inj m' n' b k3 j3;rw[<-k2,<-j2,this]
def Rj:apj->apj->Bool
 | .bool a, .bool b=>a==b
 | .int k a, .int l b=>decide (k=l)&&decide (a=b)
 | .string a, .string b=>bL a==bL b
 | .pointer none, .pointer none=>true
 | .slice none a b, .slice none c d=>a==c&&b==d
 | .map none, .map none=>true
 | .nilFunc, .nilFunc=>true
 | .nilIface, .nilIface=>true
 | .tuple a, .tuple b=>a.size==0&&b.size==0
 |_,_=>false
theorem acK{u v:apj}(h:Rj u v=true):u=v:=by
 unfold Rj at h;split at h
 ·rw[beq_iff_eq]at h;subst h;rfl
 ·rw[aot,decide_eq_true_eq,decide_eq_true_eq]at h;obtain⟨J,h2⟩:=h;subst J;subst h2;rfl
 ·rw[beq_iff_eq]at h;rw[L9 h]
 ·rfl
 ·rw[aot,beq_iff_eq,beq_iff_eq]at h;obtain⟨J,h2⟩:=h;subst J;subst h2;rfl
 ·rfl
 ·rfl
 ·rfl
 ·rw[aot,beq_iff_eq,beq_iff_eq]at h;rw[Array.eq_empty_of_size_eq_zero h.1,Array.eq_empty_of_size_eq_zero h.2]
 ·cases h
mutual
def D.nR:D->D->Bool
 | .v a, .v b=>Rj a b
 | .sl xs, .sl ys=>D.rZ xs ys
 | .ag xs, .ag ys=>D.wB xs ys
 |_,_=>false
def D.rZ:apf (apf D)->apf (apf D)->Bool
 |[],[]=>true
 |x::xs,y::ys=>D.wB x y&&D.rZ xs ys
 |_,_=>false
def D.wB:apf D->apf D->Bool
 |[],[]=>true
 |x::xs,y::ys=>D.nR x y&&D.wB xs ys
 |_,_=>false
end
mutual
theorem D.Rv:∀x y:D,D.nR x y=true->x=y
 | .v a, .v b,h=>by rw[D.nR]at h;rw[acK h]
 | .sl xs, .sl ys,h=>by rw[D.nR]at h;rw[D.Dj xs ys h]
 | .v _, .sl _,h=>by simp [D.nR]at h
 | .sl _, .v _,h=>by simp [D.nR]at h
 | .ag xs, .ag ys,h=>by rw[D.nR]at h;rw[D.R5 xs ys h]
 | .v _, .ag _,h=>by simp [D.nR]at h
 | .ag _, .v _,h=>by simp [D.nR]at h
 | .sl _, .ag _,h=>by simp [D.nR]at h
 | .ag _, .sl _,h=>by simp [D.nR]at h
theorem D.Dj:∀x y:apf (apf D),D.rZ x y=true->x=y
 |[],[],_=>rfl
 |x::xs,y::ys,h=>by rw[D.rZ,aot]at h;rw[D.R5 x y h.1,D.Dj xs ys h.2]
 |[],_::_,h=>by simp [D.rZ]at h
 |_::_,[],h=>by simp [D.rZ]at h
theorem D.R5:∀x y:apf D,D.wB x y=true->x=y
 |[],[],_=>rfl
 |x::xs,y::ys,h=>by rw[D.wB,aot]at h;rw[D.Rv x y h.1,D.R5 xs ys h.2]
 |[],_::_,h=>by simp [D.wB]at h
 |_::_,[],h=>by simp [D.wB]at h
end
mutual
def AV.fP(σ:Nat->Nat):AV->AV->Bool
 | .d x,y=>(match y with| .d y=>D.nR x y|_=>false)
 | .agg a,y=>(match y with| .agg b=>AV.qk σ a b|_=>false)
 | .bg a,y=>(match y with| .bg b=>AV.qk σ a b|_=>false)
 | .fn f a,y=>(match y with| .fn g b=>f==g&&AV.qk σ a b|_=>false)
 | .ptr n o,y=>(match y with| .ptr m p=>σ n==m&&o==p|_=>false)
 | .bj xs i o,y=>(match y with| .bj ys j p=>D.rZ xs ys&&(i==j&&o==p)|_=>false)
 | .own n xs,y=>(match y with| .own m ys=>σ n==m&&D.rZ xs ys|_=>false)
 | .full xs,y=>(match y with| .full ys=>D.rZ xs ys|_=>false)
 | .row n i1 i2 i3 i4,y=>(match y with| .row m j1 j2 j3 j4=>σ n==m&&(i1==j1&&(i2==j2&&(i3==j3&&i4==j4)))|_=>false)
 | .mp n,y=>(match y with| .mp m=>σ n==m|_=>false)
 | .cn n,y=>(match y with| .cn m=>σ n==m|_=>false)
 | .vec n i1 i2 i3 i4,y=>(match y with| .vec m j1 j2 j3 j4=>σ n==m&&(i1==j1&&(i2==j2&&(i3==j3&&i4==j4)))|_=>false)
 | .dn n i1 i2 i3 i4,y=>(match y with| .dn m j1 j2 j3 j4=>σ n==m&&(i1==j1&&(i2==j2&&(i3==j3&&i4==j4)))|_=>false)
 | .dead,y=>(match y with| .dead=>true|_=>false)
 | .hid _,_=>false
def AV.qk(σ:Nat->Nat):apf AV->apf AV->Bool
 |[],y=>(match y with|[]=>true|_=>false)
 |x::xs,l=>(match l with|y::ys=>AV.fP σ x y&&AV.qk σ xs ys|_=>false)
end
mutual
theorem AV.H3(σ:Nat->Nat):∀x y:AV,AV.fP σ x y=true->y=x.aK σ
 | .d x,y,h=>by
   cases y with
   |d y=>simp only[AV.fP,aot,beq_iff_eq]at h;rw[AV.aK,D.Rv _ _ h]
   |_=>simp [AV.fP]at h
 | .agg a,y,h=>by
   cases y with
   |agg b=>simp only[AV.fP,aot,beq_iff_eq]at h;rw[AV.aK,AV.xO σ _ _ h]
   |_=>simp [AV.fP]at h
 | .bg a,y,h=>by
   cases y with
   |bg b=>simp only[AV.fP,aot,beq_iff_eq]at h;rw[AV.aK,AV.xO σ _ _ h]
   |_=>simp [AV.fP]at h
 | .fn f a,y,h=>by
   cases y with
   |fn g b=>simp only[AV.fP,aot,beq_iff_eq]at h;rw[AV.aK,AV.xO σ _ _ h.2,h.1]
   |_=>simp [AV.fP]at h
 | .ptr n o,y,h=>by
   cases y with
   |ptr m p=>simp only[AV.fP,aot,beq_iff_eq]at h;rw[AV.aK,h.1,h.2]
   |_=>simp [AV.fP]at h
 | .bj xs i o,y,h=>by
   cases y with
   |bj ys j p=>simp only[AV.fP,aot,beq_iff_eq]at h;rw[AV.aK,D.Dj _ _ h.1,h.2.1,h.2.2]
   |_=>simp [AV.fP]at h
 | .own n xs,y,h=>by
   cases y with
   |own m ys=>simp only[AV.fP,aot,beq_iff_eq]at h;rw[AV.aK,D.Dj _ _ h.2,h.1]
   |_=>simp [AV.fP]at h
 | .full xs,y,h=>by
   cases y with
   |full ys=>simp only[AV.fP,aot,beq_iff_eq]at h;rw[AV.aK,D.Dj _ _ h]
   |_=>simp [AV.fP]at h
 | .row n i1 i2 i3 i4,y,h=>by
   cases y with
   |row m j1 j2 j3 j4=>simp only[AV.fP,aot,beq_iff_eq]at h;rw[AV.aK,h.1,h.2.1,h.2.2.1,h.2.2.2.1,h.2.2.2.2]
   |_=>simp [AV.fP]at h
 | .vec n i1 i2 i3 i4,y,h=>by
   cases y with
   |vec m j1 j2 j3 j4=>simp only[AV.fP,aot,beq_iff_eq]at h;rw[AV.aK,h.1,h.2.1,h.2.2.1,h.2.2.2.1,h.2.2.2.2]
   |_=>simp [AV.fP]at h
 | .dn n i1 i2 i3 i4,y,h=>by
   cases y with
   |dn m j1 j2 j3 j4=>simp only[AV.fP,aot,beq_iff_eq]at h;rw[AV.aK,h.1,h.2.1,h.2.2.1,h.2.2.2.1,h.2.2.2.2]
   |_=>simp [AV.fP]at h
 | .mp n,y,h=>by
   cases y with
   |mp m=>simp only[AV.fP,aot,beq_iff_eq]at h;rw[AV.aK,h]
   |_=>simp [AV.fP]at h
 | .cn n,y,h=>by
   cases y with
   |cn m=>simp only[AV.fP,aot,beq_iff_eq]at h;rw[AV.aK,h]
   |_=>simp [AV.fP]at h
 | .dead,y,h=>by
   cases y with
   |dead=>rw[AV.aK]
   |_=>simp [AV.fP]at h
 | .hid _,y,h=>by simp [AV.fP]at h
theorem AV.xO(σ:Nat->Nat):∀x y:apf AV,AV.qk σ x y=true->y=AV.fX σ x
 |[],y,h=>by
  cases y with
  |nil=>rw[AV.fX]
  |cons=>simp [AV.qk]at h
 |x::xs,l,h=>by
  cases l with
  |nil=>simp [AV.qk]at h
  |cons y ys=>simp only[AV.qk,aot]at h;rw[AV.fX,AV.H3 σ _ _ h.1,AV.xO σ _ _ h.2]
end
def yN:apf (apg×D)->apf (apg×D)->Bool
 |[],[]=>true
 |(k,d)::l,(k',d')::l'=>bL k==bL k'&&D.nR d d'&&yN l l'
 |_,_=>false
theorem Vi:∀x y,yN x y=true->x=y
 |[],[],_=>rfl
 |(k,d)::l,(k',d')::l',h=>by
  rw[yN,aot,aot]at h;rw[L9 (beq_iff_eq.1 h.1.1),D.Rv _ _ h.1.2,Vi l l' h.2]
 |[],_::_,h=>by simp [yN]at h
 |_::_,[],h=>by simp [yN]at h
def Aq(σ:Nat->Nat):apf (apf AV)->apf (apf AV)->Bool
 |[],[]=>true
 |x::xs,y::ys=>AV.qk σ x y&&Aq σ xs ys
 |_,_=>false
theorem YL(σ:Nat->Nat):∀x y,Aq σ x y=true->y=x.map (AV.fX σ)
 |[],[],_=>rfl
 |x::xs,y::ys,h=>by
  rw[Aq,aot]at h;rw[aoQ,AV.xO σ x y h.1,YL σ xs ys h.2]
 |[],_::_,h=>by simp [Aq]at h
 |_::_,[],h=>by simp [Aq]at h
def aq.fP(σ:Nat->Nat):aq->aq->Bool
 | .cells a,y=>(match y with| .cells b=>AV.qk σ a b|_=>false)
 | .front e k l,y=>(match y with| .front e' k' l'=>e==e'&&(k==k'&&l==l')|_=>false)
 | .iB _ _,_=>false
 | .vec e k cs,y=>(match y with| .vec e' k' ds=>e==e'&&(k==k'&&Aq σ cs ds)|_=>false)
 | .map kv,y=>(match y with| .map dI=>yN kv dI|_=>false)
 | .iS _,_=>false
 | .it sn cs,y=>(match y with| .it sn' ds=>sn==sn'&&AV.qk σ cs ds|_=>false)
 | .eP _ _,_=>false
 | .gone,y=>(match y with| .gone=>true|_=>false)
 | .lp ..,_=>false
theorem aq.H3(σ:Nat->Nat)(x y:aq)(h:aq.fP σ x y=true):y=x.aK σ:=by
 cases x<;>cases y<;>simp only[aq.fP,aot,beq_iff_eq,Bool.false_eq_true]at h
 ·rw[aq.aK,AV.xO σ _ _ h]
 ·rw[aq.aK,h.1,h.2.1,h.2.2]
 ·rw[aq.aK,h.1,h.2.1,YL σ _ _ h.2.2]
 ·rw[aq.aK,Vi _ _ h]
 ·rw[aq.aK,h.1,AV.xO σ _ _ h.2]
 ·rfl
def fM(h0:Nat)(p:apf Nat)(i:Nat):Nat:=bif cm h0 i then p.getD (i-h0) i else i
def Bi(ts yP:apf (Nat×AV))(ks:apf Nat)(i:Nat):Nat:=
 match ks with
 |[]=>i
 |d::ks=>match bn ts d,bn yP d with
  | .ptr n _, .ptr m _=>bif n==i then m else Bi ts yP ks i
  | .own n _, .own m _=>bif n==i then m else Bi ts yP ks i
  | .vec n _ _ _ _, .vec m _ _ _ _=>bif n==i then m else Bi ts yP ks i
  | .mp n, .mp m=>bif n==i then m else Bi ts yP ks i
  |_,_=>Bi ts yP ks i
def FC(s s':St)(ks:apf Nat)(h0:Nat):Nat->apf Nat
 |0=>[]
 |k+1=>Bi s.t s'.t ks h0::FC s s' ks (h0+1) k
def VI(h0:Nat)(ks:apf Nat)(s s':St)(p q:apf Nat):Bool:=
 (s'.h.length==s.h.length)&&(((List.range s.h.length).all λi=>cm (fM h0 p i+1) s.h.length&&cm (fM h0 q i+1) s.h.length&&fM h0 q (fM h0 p i)==i&&fM h0 p (fM h0 q i)==i)&&(ks.all (λd=>AV.fP (fM h0 p) (bn s.t d) (bn s'.t d))&&
  ((List.range s.h.length).all λi=>match s.h[i]?,s'.h[fM h0 p i]? with
    |some B,some B'=>aq.fP (fM h0 p) B B'
    |_,_=>false)))
def Xc(h0:Nat)(ks:apf Nat)(s s':St):Bool:=VI h0 ks s s' (FC s s' ks h0 (s.h.length-h0)) (FC s' s ks h0 (s.h.length-h0))
structure lR(ks:List Nat)(s0 s:St):Prop where
 n:s.n=s0.n
 t:∀d,d ∉ ks->bn s.t d=bn s0.t d
theorem lR.refl(ks:apf Nat)(s:St):lR ks s s:=⟨rfl,λ_ _=>rfl⟩
theorem lR.put{ks:apf Nat}{s0 s:St}(h:lR ks s0 s)(J:apf aq){d:aph Nat}(x:AV)(hd:∀k,d=some k->k∈ks):lR ks s0 ((s.wh J).put d x):=
 ⟨by rw[rD];exact h.n,λi hi=>by
  rw[rJ,if_neg]
  ·exact h.t i hi
  ·rintro⟨e,_⟩;exact hi (hd i e)⟩
theorem aok{N0 h0:Nat}{ks:apf Nat}{s0 s s':St}(hN:N0<=h0)(nF:∀i,(bn s0.t i).aE h0=true)(hb:lR ks s0 s)(fu:lR ks s0 s')(h:Xc h0 ks s s'=true):iE N0 s s':=by
 unfold Xc at h;generalize FC s s' ks h0 (s.h.length-h0)=p at h;generalize FC s' s ks h0 (s.h.length-h0)=q at h;unfold VI at h;simp only[aot,beq_iff_eq,aoR,List.mem_range,da]at h;obtain⟨J,h2,h3,h4⟩:=h;have vQ:∀i,i<h0->fM h0 p i=i:=λi hi=>by
  unfold fM;have:cm h0 i=false:=by rw[<-Bool.not_eq_true,da];omega
  rw[this];rfl
 refine iE.aK (fM h0 p) (fM h0 q) (hb.n.trans fu.n.symm) J (λi hi=>(h2 i hi).1.1.1) (λi hi=>(h2 i hi).1.1.2) (λi hi=>(h2 i hi).1.2) (λi hi=>(h2 i hi).2) (λi hi=>vQ i (by omega)) (λi _=> ?_) λi hi=> ?_
 ·left
  by_cases hk:i∈ks
  ·exact AV.H3 _ _ _ (h3 i hk)
  ·rw[hb.t i hk,fu.t i hk,vD (τ:=id) vQ _ (nF i),Ge]
 ·have h5:=h4 i hi;split at h5
  ·next B B' e1 e2=>rw[e1,e2,aq.H3 _ _ _ h5];rfl
  ·cases h5
def Gk(N0:Nat)(K:St->Prop):Prop:=∀s s',iE N0 s s'->K s'->K s
theorem Gk.c{N0:Nat}{K:St->Prop}(h:Gk N0 K):rm K:=λs s' e hk=>h s' s (iE.of_eq e.symm) hk
theorem SH{P:api}{r:aph Nat}{N0:Nat}{s:St}{Q:Exit->St->Prop}{m:Bool}{id:Nat}{ops:Array Oper}(hm:P.follows .mixedOrders=true)
 (h:N0<=s.h.length->(∀i,(bn s.t i).aE s.h.length=true)->kN m P ops (λs1=>∃s2,iE N0 s1 s2/\Q .normal s2) ops.size (Array.replicate ops.size false) s):bA P r N0 (.region id ops true) Q s:=by
 constructor
 intro G w a n hs hN;obtain⟨d1,d2⟩:=hs.drew;refine wpIn_region_any hm ?_;have hl:=hs.inv.len;refine Cb (G:=G) (w:=w) (N0:=N0) (K:=λs1=>∃s2,iE N0 s1 s2/\Q .normal s2) (λa' w' hn=> ?_) ops.size _ G _ a s (d1.less hN) hN d2 (h (by omega) λi=>by rw[hl];exact(hs.tmp i).low);obtain⟨G',s',x1,x2,x3,s2,e0,x4⟩:=hn;obtain⟨G2,y1,y2,y3⟩:=e0 G' w' a' x2 x3;exact⟨G2,s2,x1.trans y1,y2,y3,x4⟩
theorem M1{N0:Nat}(Q:St->Prop):Gk N0 (λs1=>∃s2,iE N0 s1 s2/\Q s2):=λ_ _ h ⟨s2,J,h2⟩=>⟨s2,h.trans J,h2⟩
def yz(f:Nat->Bool):Nat->Nat
 |0=>0
 |n+1=>bif f n then yz f n|||(1<<<n)else yz f n
theorem CZ(f:Nat->Bool):∀(n j:Nat),Nat.testBit (yz f n) j=(decide (j<n)&&f j)
 |0,j=>by simp [yz]
 |n+1,j=>by
  unfold yz;have ih:=CZ f n j;cases hf:f n with
  |true=>
   simp only[cond_true,Nat.testBit_or,ih,Nat.one_shiftLeft,Nat.testBit_two_pow];by_cases e:n=j
   ·subst e;simp [hf]
   ·have:decide (j<n+1)=decide (j<n):=by simp;omega
    rw[this];simp [e]
  |false=>
   simp only[cond_false,ih];by_cases e:n=j
   ·subst e;simp [hf]
   ·have:decide (j<n+1)=decide (j<n):=by simp;omega
    rw[this]
def fN{α:Type}(n:Nat)(f:Nat->α):α:=Nat.casesOn (Nat.succ n) (f 0) f
theorem As{α:Type}(n:Nat)(f:Nat->α):fN n f=f n:=rfl
def fL{α:Type}:apf Nat->(apf Nat->α)->α
 |[],f=>f []
 |n::l,f=>fN n λn=>fL l λl=>f (n::l)
theorem yx{α:Type}:∀(l:apf Nat)(f:apf Nat->α),fL l f=f l
 |[],_=>rfl
 |n::l,f=>by rw[fL,As,yx l]
section
variable (ops:Array Oper)
def yF(o:Oper)(n j:Nat):Bool:=o.after.any λe=>Region.binds .any e&&(e.on==j||(j==n&&cm n e.on))
def K8(k:Nat):Nat:=match ops[k]? with
 |some o=>yz (yF o ops.size) (ops.size+1)
 |none=>1<<<ops.size
def Rq(m:Bool)(M:Array Nat)(k j:Nat):Bool:= !(j==k)&&(!((M.getD j 0).testBit k)&&match ops[k]?,ops[j]? with
 |some oi,some oj=> !(oi.apart ops oj&&An m oi oj)
 |_,_=>true)
def vl(m:Bool)(M:Array Nat)(k:Nat):Nat:=yz (Rq ops m M k) ops.size
def pg:Nat->Nat->apf Nat
 |_,0=>[]
 |k,n+1=>K8 ops k::pg (k+1) n
def kp(m:Bool)(M:Array Nat):Nat->Nat->apf Nat
 |_,0=>[]
 |k,n+1=>vl ops m M k::kp m M (k+1) n
end
def pP:apf Nat->Nat->Nat->apf Nat
 |[],_,_=>[]
 |a::A,L,k=>bif !(Nat.testBit L k)&&(L&&&a==a)then k::pP A L (k+1)else pP A L (k+1)
def xo(C:apf Nat)(L:Nat):apf Nat->aph Nat
 |[]=>none
 |k::r=>bif (C.getD k 0)|||L==L then some k else xo C L r
section
variable (ops:Array Oper) (st:Oper->St->aph St) (h0:Nat) (ks A C:apf Nat)
def pc:apf Oper->apf Nat
 |[]=>[]
 |o::l=>match o.dst with
  |some d=>d::pc l
  |none=>pc l
end
theorem H7:∀{l:apf Oper}{o:Oper},o∈l->∀d,o.dst=some d->d∈pc l
 |[],_,h,_,_=>by cases h
 |a::l,o,h,d,hd=>by
  unfold pc;rcases aoV.1 h with rfl|h
  ·rw[hd];simp
  ·split
   ·exact aoA _ (H7 h d hd)
   ·exact H7 h d hd
theorem FE(ops:Array Oper):∀(n k i:Nat),(pg ops k n)[i]?=if i<n then some (K8 ops (k+i))else none
 |0,k,i=>by simp [pg]
 |n+1,k,0=>by simp [pg]
 |n+1,k,i+1=>by rw[pg,ao2,FE ops n (k+1) i];simp only[Nat.add_lt_add_iff_right];rw[show k+1+i=k+(i+1) by omega]
theorem Oo(ops:Array Oper)(m:Bool)(M:Array Nat):∀(n k i:Nat),(kp ops m M k n)[i]?=if i<n then some (vl ops m M (k+i))else none
 |0,k,i=>by simp [kp]
 |n+1,k,0=>by simp [kp]
 |n+1,k,i+1=>by rw[kp,ao2,Oo ops m M n (k+1) i];simp only[Nat.add_lt_add_iff_right];rw[show k+1+i=k+(i+1) by omega]
theorem Gj{L:Nat}:∀(A:apf Nat)(k i:Nat),i∈pP A L k↔k<=i/\Nat.testBit L i=false/\∃a,A[i-k]?=some a/\L&&&a=a
 |[],k,i=>by simp [pP]
 |a::A,k,i=>by
  have ih:=Gj (L:=L) A (k+1) i;unfold pP;have key:i∈pP A L (k+1)↔k<i/\Nat.testBit L i=false/\∃b,(a::A)[i-k]?=some b/\L&&&b=b:=by
   rw[ih];constructor
   ·rintro⟨J,h2,b,h3,h4⟩;refine⟨J,h2,b,?_,h4⟩;rw[show i-k=(i-(k+1))+1 by omega,ao2];exact h3
   ·rintro⟨J,h2,b,h3,h4⟩;refine⟨J,h2,b,?_,h4⟩;rw[show i-k=(i-(k+1))+1 by omega,ao2]at h3;exact h3
  cases hb:(!(Nat.testBit L k)&&(L&&&a==a))with
  |true=>
   simp only[cond_true,aoV,key];simp only[aot,Bool.not_eq_true',beq_iff_eq]at hb;constructor
   ·rintro(rfl|⟨J,h2⟩)
    ·exact⟨aoC _,hb.1,a,by simp,hb.2⟩
    ·exact⟨by omega,h2⟩
   ·rintro⟨J,h2⟩;rcases Nat.lt_or_eq_of_le J with h|h
    ·exact .inr ⟨h,h2⟩
    ·exact .inl h.symm
  |false=>
   simp only[cond_false,key];constructor
   ·rintro⟨J,h2⟩;exact⟨by omega,h2⟩
   ·rintro⟨J,h2,b,h3,h4⟩;rcases Nat.lt_or_eq_of_le J with h|h
    ·exact⟨h,h2,b,h3,h4⟩
    ·subst h;simp at h3;subst h3;rw[h2]at hb;simp at hb;exact absurd h4 hb
theorem EI{C:apf Nat}{L:Nat}:∀{r:apf Nat}{k:Nat},xo C L r=some k->k∈r/\(C.getD k 0)|||L=L
 |[],k,h=>by cases h
 |a::r,k,h=>by
  unfold xo at h;cases hb:((C.getD a 0)|||L==L)with
  |true=>rw[hb]at h;cases h;exact⟨by simp,by simpa using hb⟩
  |false=>rw[hb]at h;have:=EI h;exact⟨aoA _ this.1,this.2⟩
structure LM(ops:Array Oper)(L:Nat)(listed:Array Bool):Prop where
 sz:listed.size=ops.size
 b:∀i,Nat.testBit L i=listed.getD i false
theorem LM.set{ops:Array Oper}{L:Nat}{listed:Array Bool}(h:LM ops L listed){k:Nat}(hk:k<ops.size):LM ops (L|||(1<<<k)) (listed.setIfInBounds k true):=by
 refine⟨by simp [h.sz],λi=> ?_⟩;rw[Nat.testBit_or,Nat.one_shiftLeft,Nat.testBit_two_pow,h.b i];by_cases e:k=i
 ·subst e;have:k<listed.size:=by rw[h.sz];exact hk
  simp [this]
 ·rw[getD_set_ne false e];simp [e]
theorem LM.ready{ops:Array Oper}{L:Nat}{listed:Array Bool}(h:LM ops L listed)(i:Nat):i∈Region.ready .any ops listed↔i∈pP (pg ops 0 ops.size) L 0:=by
 rw[mem_ready,Gj];simp only[Nat.zero_le,true_and,Nat.sub_zero,FE,aoL];have Vz:∀j,ops.size<=j->Nat.testBit L j=false:=λj hj=>by
   rw[h.b,Array.getD_eq_getD_getElem?,Array.getElem?_eq_none (by rw[h.sz];exact hj)];rfl
 constructor
 ·rintro⟨J,o,ho,h2⟩;have hi:=(aoG.1 ho).1;have hgd:listed.getD i false=false:=by
   have dO:i<listed.size:=by rw[h.sz];exact hi
   simpa [dO]using J
  refine⟨by rw[h.b];exact hgd,_,by rw[if_pos hi],?_⟩;apply Nat.eq_of_testBit_eq;intro j;rw[Nat.testBit_and];unfold K8;rw[ho];simp only[CZ];cases hb:(decide (j<ops.size+1)&&yF o ops.size j)with
  |false=>simp
  |true=>
   simp only[Bool.and_true];rw[aot]at hb;have hb:=hb.2;unfold yF at hb;rw[Array.any_eq_true']at hb;obtain⟨e,he,hb⟩:=hb;simp only[aot,Bool.or_eq_true,beq_iff_eq,da]at hb;have h3:=h2 e he hb.1;have:e.on<ops.size:=by
    rcases Nat.lt_or_ge e.on ops.size with hl|hl
    ·exact hl
    ·have:=Vz e.on hl;rw[h.b]at this;rw[this]at h3;cases h3
   rcases hb.2 with hj|⟨_,hj⟩
   ·rw[<-hj,h.b];exact h3
   ·omega
 ·rintro⟨J,a,ha,h2⟩;split at ha
  ·next hi=>
   cases ha
   have ho:ops[i]?=some ops[i]:=aoN hi;refine⟨?_,ops[i],ho,λe he zh=> ?_⟩
   ·rw[h.b]at J;have dO:i<listed.size:=by rw[h.sz];exact hi
    simpa [dO]using J
   ·have jZ:∀j,j<ops.size+1->yF ops[i] ops.size j=true->Nat.testBit L j=true:=λj hj hf=>by
     have:=congrArg (λn=>Nat.testBit n j) h2;simp only[Nat.testBit_and]at this;unfold K8 at this;rw[ho]at this;simp only[CZ]at this;rw[hf]at this
     simpa [hj]using this
    have ZN:∀j,(e.on==j||(j==ops.size&&cm ops.size e.on))=true->yF ops[i] ops.size j=true:=λj hj=>by
     unfold yF;rw[Array.any_eq_true'];exact⟨e,he,by rw[zh,hj];rfl⟩
    rcases Nat.lt_or_ge e.on ops.size with hl|hl
    ·rw[<-h.b];exact jZ e.on (by omega) (ZN _ (by simp))
    ·have:=jZ ops.size (by omega) (ZN _ (by simp [da.2 hl]));rw[Vz _ (aoC _)]at this;cases this
  ·cases ha
section
variable {P:api} {ops:Array Oper} {st:Oper->St->aph St} {h0:Nat} {m:Bool} {N0:Nat} {K:St->Prop} {s0:St}
end
end Go.Proofs.YtpeecnpmcbnahaaGreatDoor
namespace Go.Proofs.YtpeecnpmcbnahaaGreatDoor
open Go.RowKit
inductive Ex
 |n
 |r
 |x (id:Nat)
def MJ{α:Type}(n:Nat)(f:Nat->α):α:=Nat.casesOn (Nat.succ n) (f 0) f
theorem afm{α:Type}(n:Nat)(f:Nat->α):MJ n f=f n:=rfl
def AV.force{α:Type}(x:AV)(f:AV->α):α:=
 match x with
 | .d (.v (.int k (.ofNat n)))=>MJ n λn=>f (.d (.v (.int k (.ofNat n))))
 | .d (.v (.bool b))=>bif b then f (.d (.v (.bool true)))else f (.d (.v (.bool false)))
 |x=>f x
theorem AV.force_eq{α:Type}(x:AV)(f:AV->α):x.force f=f x:=by
 unfold AV.force;split
 ·rw[afm]
 ·next b=>cases b<;>rfl
 ·rfl
def GL{α:Type}:apf aq->(apf aq->α)->α
 |[],f=>f []
 |b::l,f=>GL l λr=>f (b::r)
theorem TL{α:Type}:∀(l:apf aq)(f:apf aq->α),GL l f=f l
 |[],_=>rfl
 |b::l,f=>by rw[GL,TL l]
abbrev Rb:=Bool->Nat->Code->St->aph (Ex×St)
abbrev OB:=FuncId->apf AV->aph (aph AV)
def aof:aph (aph AV)->Bool
 |some none=>true
 |_=>false
mutual
def AV.XL:AV->apf Nat
 | .fn _ cs=>AV.Nq cs
 |_=>[]
def AV.Nq:apf AV->apf Nat
 |[]=>[]
 | .ptr n _::l=>n::AV.Nq l
 |x::l=>x.XL++AV.Nq l
end
def LC:apf Nat->AV->apf aq->aph (AV×apf aq)
 |[],r,h=>some (r,h)
 |b::l,r,h=>match h[b]? with
  |some (.cells cs)=>match mW cs with
   |some ds=>LC l (r.fq b ds) ((h.map (aq.fq b ds)).set b .gone)
   |none=>none
  |_=>none
def Wk:AV->aph D
 | .d x=>some x
 |_=>none
def GM:apf AV->aph (apf D)
 |[]=>some []
 |x::l=>match Wk x,GM l with
  |some d,some r=>some (d::r)
  |_,_=>none
def JZ:apf (apf AV)->aph (apf (apf D))
 |[]=>some []
 |x::l=>match GM x,JZ l with
  |some d,some r=>some (d::r)
  |_,_=>none
mutual
def AV.Wj:AV->Bool
 | .vec .. =>true
 | .agg cs=>AV.KD cs
 | .bg cs=>AV.KD cs
 | .fn _ cs=>AV.KD cs
 |_=>false
def AV.KD:apf AV->Bool
 |[]=>false
 |x::l=>x.Wj||AV.KD l
end
def um:apf Nat->AV->apf aq->AV×apf aq
 |[],r,h=>(r,h)
 |b::l,r,h=>match h[b]? with
  |some (.vec _ k cs)=>match JZ cs with
   |some xs=>bif xs.all (λc=>c.all D.zZ)then(r.dj b k xs).force λr=>GL ((h.map (aq.lx (AV.dj b k xs))).set b .gone) λh=>um l r h else um l r h
   |none=>um l r h
  |_=>um l r h
def amB(h:apf aq):apf Nat:=(List.range h.length).reverse++(List.range h.length).reverse
def Jn(r:AV)(h:apf aq):aph AV:=
 match LC r.XL r h with
 |some (r,_)=>some (r.bo 0)
 |none=>none
def V0(r:AV)(h:apf aq):aph AV:=
 bif r.Wj then(match um (amB h) r h with|(r,h)=>Jn r h)else Jn r h
section
variable (run:Rb) (P:api) (Zy:OB)
def bV(lo:Nat)(f:FuncId)(args:apf AV)(h:apf aq):aph (AV×apf aq):=
 match P.funcs[f]? with
 |some fn=>match fn.body with
  |some c=>MJ (args.length+(fn.ntmps-args.length)) λn=>match run true lo c ⟨n,lD 0 args,h⟩with
   |some (.x _,_)=>none
   |some (_,s)=>match sT P s fn.results.toList with
    |some l=>some (jY l,s.h)
    |none=>none
   |none=>none
  |none=>none
 |none=>none
end
section
variable {run:Rb} {P:api} {Zy:OB} {lo:Nat} {s s':St}
end
mutual
theorem Bc(m:Nat):∀x:AV,x.aE m=true->x.bo m=x
 | .own n xs,h=>by
   rw[AV.aE]at h;rw[AV.bo];cases e:cm m n with
   |true=>rw[e]at h;cases h
   |false=>rfl
 | .agg cs,h=>by rw[AV.aE]at h;rw[AV.bo,Ll m cs h]
 | .bg cs,h=>by rw[AV.aE]at h;rw[AV.bo,Ll m cs h]
 | .fn f cs,h=>by rw[AV.aE]at h;rw[AV.bo,Ll m cs h]
 | .d _,_=>by simp only[AV.bo]
 | .ptr ..,_=>by simp only[AV.bo]
 | .bj ..,_=>by simp only[AV.bo]
 | .full _,_=>by simp only[AV.bo]
 | .row ..,_=>by simp only[AV.bo]
 | .mp _,_=>by simp only[AV.bo]
 | .cn _,_=>by simp only[AV.bo]
 | .vec ..,_=>by simp only[AV.bo]
 | .dn ..,_=>by simp only[AV.bo]
 | .hid _,_=>by simp only[AV.bo]
 | .dead,_=>by simp only[AV.bo]
theorem Ll(m:Nat):∀l:apf AV,AV.kE m l=true->AV.pk m l=l
 |[],_=>by simp [AV.pk]
 |x::l,h=>by
  rw[AV.kE,aot]at h;rw[AV.pk,Bc m x h.1,Ll m l h.2]
end
theorem afQ{m:Nat}{B:aq}(h:B.aE m=true):B.bo m=B:=by
 cases B with
 |cells cs=>
  simp only[aq.aE,aoR]at h;simp only[aq.bo]
  congr 1
  exact(aoW λx hx=>Bc m x (h x hx)).trans (List.map_id _)
 |lp ls p as bd cs=>
  simp only[aq.aE,aoR]at h;simp only[aq.bo]
  congr 1
  exact(aoW λx hx=>Bc m x (h x hx)).trans (List.map_id _)
 |it sn cs=>
  simp only[aq.aE,aoR]at h;simp only[aq.bo]
  congr 1
  exact(aoW λx hx=>Bc m x (h x hx)).trans (List.map_id _)
 |eP T0 cs=>
  simp only[aq.aE,aoR]at h;simp only[aq.bo]
  congr 1
  exact(aoW λx hx=>Bc m x (h x hx)).trans (List.map_id _)
 |vec e k cs=>
  simp only[aq.aE,aoR]at h;simp only[aq.bo]
  congr 1
  exact(aoW λx hx=>(aoW λy hy=>Bc m y (h x hx y hy)).trans (List.map_id _)).trans (List.map_id _)
 |front e k len=>rfl
 |iB e b=>rfl
 |map kv=>rfl
 |iS kv=>rfl
 |gone=>rfl
theorem Si{m:Nat}{h:apf aq}(e:h.all (aq.aE m)=true):h.map (aq.bo m)=h:=
 (aoW λB hB=>afQ (aoR.1 e B hB)).trans (List.map_id _)
end Go.Proofs.YtpeecnpmcbnahaaGreatDoor
namespace Go.Proofs.YtpeecnpmcbnahaaGreatDoor
open Go.RowKit
section
variable {P:api} {r:aph Nat} {n N0:Nat} {G:Gh} {w:apk} {a:Act} {s:St} {o:Oper} {Q:Exit->St->Prop}
end
theorem cO.cut{P:api}{f:FuncId}{args:apf AV}{h h':apf aq}{r:AV}(m:Nat)(hc:cO P f args h λr1 J=>r1=r/\J=h')(J:h.length<=m)(h2:m<=h'.length)(hb:(((h'.take m).map (aq.bo m)).all (aq.aE m))=true)(hr:(r.bo m).aE m=true):
 cO P f args h λr1 J=>r1=r.bo m/\J=(h'.take m).map (aq.bo m):=by
 refine⟨hc.1,λG w vs hi hl hv=>(hc.2 G w vs hi hl hv).mono λe w' hp=> ?_⟩;obtain⟨v,G',_,_,rfl,hE,hN,dO,RG,rfl,rfl⟩:=hp;exact⟨v,G'.cut m,_,_,rfl,hE.trans (qn _ _ _ _),by rw[<-hi.len];exact J,Ra dO h2 hb,(RG.bo m).cut hr,rfl,rfl⟩
section
variable {run:Rb} {P:api} {Zy:OB} {lo:Nat} {s s':St}
theorem cO.V6{f:FuncId}{args:apf AV}{h0 h h2:apf aq}{r r2:AV}{tl:apf (Nat×AV)}(hc:cO P f args h0 λr1 J=>r1=r/\J=h)
 (hT:∀(G:Gh)(w:apk)(a:Act),cV G w a ⟨1,[(0,r)],h⟩->∃G',bM G.N G w G' w/\G'.N=G.N/\cV G' w a ⟨1,(0,r2)::tl,h2⟩):cO P f args h0 λr1 J=>r1=r2/\J=h2:=by
 refine⟨hc.1,λG w vs hi hl hv=>(hc.2 G w vs hi hl hv).mono λe w' hp=> ?_⟩;obtain⟨v,G',_,_,rfl,hE,hN,dO,RG,rfl,rfl⟩:=hp;obtain⟨G2,e1,e2,e3⟩:=hT G' w' {tmps:= #[v],defers:=[]} ⟨rfl,λi=>by
  show aF G' w' _ (bn [(0,_)] i);rw[k8];split
  ·next ei=>subst ei;exact RG
  ·exact .dead _,dO,rG.nil _ _⟩
 exact⟨v,G2,r2,h2,rfl,hE.trans (e1.less hN),by rw[e2];exact hN,e3.inv,e3.tmp 0,rfl,rfl⟩
theorem aaa{f:FuncId}{args:apf AV}{h0:apf aq}:∀(l:apf Nat){h h2:apf aq}{r r2:AV},(cO P f args h0 λr1 J=>r1=r/\J=h)->LC l r h=some (r2,h2)->cO P f args h0 λr1 J=>r1=r2/\J=h2
 |[],h,h2,r,r2,hc,e=>by cases e;exact hc
 |b::l,h,h2,r,r2,hc,e=>by
  unfold LC at e;split at e
  ·next cs e1=>
   split at e
   ·next ds e2=>
    refine aaa l (cO.V6 (tl:=[]) hc λG w a hs=> ?_) e;refine hs.vJ (b:=b) ?_;simp only[Go.Proofs.YtpeecnpmcbnahaaGreatDoor.vJ,e1,e2];rfl
   ·cases e
  ·cases e
theorem ZR:∀{l:apf AV}{ds:apf D},GM l=some ds->l=ds.map AV.d
 |[],ds,h=>by cases h;rfl
 |x::l,ds,h=>by
  unfold GM at h;split at h
  ·next d r e1 e2=>
   cases h
   rw[ZR e2];cases x<;>simp [Wk]at e1
   subst e1;rfl
  ·cases h
theorem TN:∀{l:apf (apf AV)}{xs:apf (apf D)},JZ l=some xs->l=cd xs
 |[],xs,h=>by cases h;rfl
 |x::l,xs,h=>by
  unfold JZ at h;split at h
  ·next d r e1 e2=>cases h;rw[TN e2,ZR e1];rfl
  ·cases h
theorem Eh{f:FuncId}{args:apf AV}{h0:apf aq}:∀(l:apf Nat){h:apf aq}{r:AV},(cO P f args h0 λr1 J=>r1=r/\J=h)->cO P f args h0 λr1 J=>r1=(um l r h).1/\J=(um l r h).2
 |[],h,r,hc=>hc
 |b::l,h,r,hc=>by
  unfold um;split
  ·next e k cs e1=>
   split
   ·next xs e2=>
    rw[AV.force_eq,TL,cond_eq_ite];split
    ·next J=>
     refine Eh l (cO.V6 (tl:=[]) hc λG w a hs=> ?_);have e3:=TN e2;exact hs.XM xs (by show h[b]?=_;rw[e1,e3]) (λc hc=>aoR.1 J c hc)
    ·exact Eh l hc
   ·exact Eh l hc
  ·exact Eh l hc
theorem SI{f:FuncId}{args:apf AV}{h:apf aq}{r r2:AV}(hc:cO P f args [] λr1 J=>r1=r/\J=h)(e:V0 r h=some r2)(hb:r2.aE 0=true):ga P f args (·=r2):=by
 have fin:∀{r:AV}{h:apf aq},(cO P f args [] λr1 J=>r1=r/\J=h)->(r.bo 0).aE 0=true->ga P f args (·=r.bo 0):=λhc hb=>
  (hc.cut 0 (aoC _) (Nat.zero_le _) (by simp) hb).mono λr1 J ⟨k1,k2⟩=>⟨by simpa using k2,k1⟩
 have gen:∀{r:AV}{h:apf aq},(cO P f args [] λr1 J=>r1=r/\J=h)->Jn r h=some r2->ga P f args (·=r2):=λhc e=>by
  unfold Jn at e;split at e
  ·next r3 h3 e1=>
   cases e
   exact fin (aaa _ hc e1) hb
  ·cases e
 unfold V0 at e;rcases acC e with⟨_,e⟩|⟨_,e⟩
 ·exact gen (Eh _ hc) e
 ·exact gen hc e
end
theorem YT:∀(H' H e:apf aq),H'.length=H.length->putAll (List.range H.length) H' (H++e)=H'++e:=by
 intro H' H e hl;have gen:∀(n:Nat)(a b B r:apf aq),b.length=n->B.length=n->putAll ((List.range n).map (a.length+·)) B (a++(b++r))=a++(B++r):=by
  intro n
  induction n with
  |zero=>intro a b B r hb hB;rw[List.length_eq_zero_iff.1 hb,List.length_eq_zero_iff.1 hB];simp [putAll]
  |succ n ih=>
   intro a b B r hb hB;cases b with
   |nil=>simp at hb
   |cons b0 b=>
    cases B with
    |nil=>simp at hB
    |cons B0 B=>
     rw[List.range_succ_eq_map,aoQ,List.map_map,putAll];have e1:(a++(b0::b++r)).set (a.length+0) B0=(a++[B0])++(b++r):=by
       rw[Nat.add_zero,List.set_append_right _ _ (aoC _),Nat.sub_self];simp
     have e2:(λx=>a.length+x)∘Nat.succ=λx=>(a++[B0]).length+x:=by
      funext x
      simp only[Function.comp_apply,aos,aou,aoD];omega
     rw[e1,e2,ih (a++[B0]) b B r (by simpa using hb) (by simpa using hB)];simp
 have:=gen H.length [] H H' e rfl hl
 simpa using this
theorem HR{P:api}{k:Nat}{x:AV}{H:apf aq}{C:Bool->apf aq->Prop}(hy:YS P k x H C)(e:apf aq)(hb:H.all (aq.aE H.length)=true)(hx:x.aE H.length=true)
 (hC:∀b h',C b h'->h'.length=H.length/\h'.all (aq.aE H.length)=true):YS P k x (H++e) λb h'=>∃H',C b H'/\h'=H'++e:=by
 intro G w v r n hi hv;have xP:∀i,i<H.length->rn (List.range H.length) (H++e).length i=i:=λi h=>Bu (List.range H.length) _ i i (by rw[List.getElem?_range h]);have GK:∀y:AV,y.aE H.length=true->y.aK (rn (List.range H.length) (H++e).length)=y:=λy hy=>(vD (τ:=id) xP y hy).trans (Ge y);have Gu:∀B:aq,B.aE H.length=true->B.aK (rn (List.range H.length) (H++e).length)=B:=λB hB=>(Pk (τ:=id) xP B hB).trans (RA B);obtain⟨G0,cv,sf,nT,Qa⟩:=Xx (H:=H) (l:=List.range H.length) (h:=H++e) List.nodup_range (λj hj=>by have:=List.mem_range.1 hj;simp;omega) (λi j l5=>by
  obtain⟨aN,rfl⟩:i<H.length/\j=i:=by
   have J:=(aor.1 l5).1;rw[List.length_range]at J;rw[List.getElem?_range J]at l5;exact⟨J,(aoK l5).symm⟩
  rw[aoB aN,aov aN,Option.map_some,Gu _ (aoR.1 hb _ (List.getElem_mem aN))]) (by simp) hb hi
 obtain⟨hk,p,as,bd,fn,tm,D,J,h2⟩:=hy G0 w v r n sf (aF.rT nT (by rw[GK x hx];exact hv) x rfl (by rw[cv];exact hx));have gL:k<H.length:=cv▸hk;have gj:G.aR k=G0.aR k:=by
  have:=nT.aR k hk
  rwa [xP k gL]at this
 refine⟨by have:=nT.lt k hk;rwa [xP k gL]at this,p,as,bd,fn,tm,D,by rw[gj];exact J,?_⟩;rw[gj];refine h2.mono λe1 w' hp=> ?_;obtain⟨b,G1,H',rfl,hE,gu,j5,hc⟩:=hp;rw[cv]at hE gu;obtain⟨G2,a1,a2,a3,_⟩:=Qa G1 w' H' hE gu j5;obtain⟨c1,c2⟩:=hC b H' hc;refine⟨b,G2,H'++e,rfl,a1,a2,?_,H',hc,rfl⟩;have hm:H'.map (aq.aK (rn (List.range H.length) (H++e).length))=H':=(aoW λB hB=>Gu B (aoR.1 c2 B hB)).trans (List.map_id _);rw[hm,YT H' H e c1]at a3;exact a3
def lX(P:api)(k:Nat):apf AV->(Bool->apf aq->Prop)->apf aq->Prop
 |[],C,h=>C true h
 |x::l,C,h=>YS P k x h λb J=>(J.length=h.length/\J.all (aq.aE h.length)=true)/\bif b then lX P k l C J else C false J
theorem Vf{P:api}{k:Nat}:∀(l:apf AV){C C':Bool->apf aq->Prop}{h:apf aq},(∀b J,C b J->C' b J)->lX P k l C h->lX P k l C' h
 |[],_,_,_,hc,hs=>hc _ _ hs
 |x::l,C,C',h,hc,hs=>YS.mono hs λb J ⟨h2,h3⟩=>⟨h2,by
  cases b with
  |true=>exact Vf l hc h3
  |false=>exact hc _ _ h3⟩
theorem aaX{P:api}{k:Nat}:∀(l l':apf AV){C:Bool->apf aq->Prop}{h:apf aq},lX P k (l++l') C h->lX P k l (λb J=>bif b then lX P k l' C J else C false J) h
 |[],_,_,_,hs=>hs
 |x::l,l',C,h,hs=>YS.mono hs λb J ⟨h2,h3⟩=>⟨h2,by
  cases b with
  |true=>exact aaX l l' h3
  |false=>exact h3⟩
def ov(h J:apf aq):Prop:=J.length=h.length/\J.all (aq.aE h.length)=true
def ze(P:api)(gf:FuncId)(cZ:apf AV)(xs:apf AV):Prop:=
 ∀(k:Nat)(h:apf aq)(C:Bool->apf aq->Prop),h.all (aq.aE h.length)=true->k<h.length->lX P k xs C h->cO P gf (.cn k::cZ) h λ_ J=>∃b,C b J
def abO(P:api)(T:TypeId):apf AV:=match iR P T with|some z=>z.cells.toList.map λu=> .d (.v u)|none=>[]
section
variable {P:api} {r:aph Nat} {N0:Nat} {Q:Exit->St->Prop} {ops:Array Oper} {o o1 o2 o3 o4 o5:Oper} {s:St} {K:St->Prop} {id:Nat}
theorem bJ{rest:apf Oper}(hg:o.guard=none)(h:oY P o (su P ops rest K) s):su P ops (o::rest) K s:=by
 unfold su iX;rw[hg];exact h
theorem yG{n d:Nat}{t:apf (Nat×AV)}{h h':apf aq}{x:AV}{hd:HD}(hx:me P o.op (ev ⟨n,t,h⟩) h=some (x,hd))(iM:o.dst=some d)(hn:Nat.ble n d=false)(he:hd.app h=h')(hK:K ⟨n,(d,x)::t,h'⟩):oY P o K ⟨n,t,h⟩:=by
 refine .inr (.inr (.inl (UK hx ?_)));show K ((St.wh ⟨n,t,h⟩ (hd.app h)).put o.dst x);rw[iM,he];have aN:d<n:=Nat.lt_of_not_le λhle=>by rw[Nat.ble_eq_true_of_le hle]at hn;cases hn
 rw[ri (s:=St.wh ⟨n,t,h⟩ h') aN];exact hK
theorem cD{n d:Nat}{t:apf (Nat×AV)}{h:apf aq}{x:AV}(hx:me P o.op (ev ⟨n,t,h⟩) h=some (x, .same))(iM:o.dst=some d)(hn:Nat.ble n d=false)(hK:K ⟨n,(d,x)::t,h⟩):oY P o K ⟨n,t,h⟩:=yG hx iM hn rfl hK
theorem M3{n:Nat}{t:apf (Nat×AV)}{h h':apf aq}{x:AV}{hd:HD}(hx:me P o.op (ev ⟨n,t,h⟩) h=some (x,hd))(iM:o.dst=none)(he:hd.app h=h')(hK:K ⟨n,t,h'⟩):oY P o K ⟨n,t,h⟩:=by
 refine .inr (.inr (.inl (UK hx ?_)));show K ((St.wh ⟨n,t,h⟩ (hd.app h)).put o.dst x);rw[iM,he];exact hK
theorem ahx{h l:apf aq}{i off:Nat}{cs:apf AV}(hi:l[i]?=some (.cells cs)):xa (h++l) (.ptr (h.length+i) off)=some (cs,off):=by
 unfold xa;simp only;rw[aoH (ao6 _ _),Nat.add_sub_cancel_left,hi]
theorem xy{ρ:Operand->AV}{h l:apf aq}{T:TypeId}{p:Operand}{i off:Nat}{cs:apf AV}{x:AV}(hp:ρ p= .ptr (h.length+i) off)(hi:l[i]?=some (.cells cs))(hl:BN P T cs off=some x):me P (.load T p) ρ (h++l)=some (x, .same):=by
 unfold me;simp only[hp,ahx hi,hl,pX]
theorem Tm{ρ:Operand->AV}{h l:apf aq}{T:TypeId}{y:Operand}{v:AV}(hv:ρ y=v)(hb:v.jS=true):me P (.box T y) ρ (h++l)=some (.ptr (h.length+l.length) 0, .push (.cells v.cells)):=by
 subst hv;unfold me;simp only[hb,cond_true,aos]
theorem RJ{ρ:Operand->AV}{h l:apf aq}{T:TypeId}(hz:(iR P T).isSome=true):me P (.alloc T) ρ (h++l)=some (.ptr (h.length+l.length) 0, .push (.cells (abO P T))):=by
 unfold me abO;cases e:iR P T with
 |none=>rw[e]at hz;cases hz
 |some z=>simp only[e,aos]
theorem Ck{h l:apf aq}{B:aq}:(HD.push B).app (h++l)=h++(l++[B]):=by simp [HD.app]
theorem Q6{ρ:Operand->AV}{h l:apf aq}{T:TypeId}{p y:Operand}{i off k:Nat}{cs:apf AV}{v:AV}(hp:ρ p= .ptr (h.length+i) off)(hi:l[i]?=some (.cells cs))(hk:gh P T=some k)(hv:ρ y=v)(hb:(k==v.cells.length&&v.jS&&cm (off+v.cells.length) cs.length)=true){cB:apf AV}(gO:iW cs off v.cells=cB):
 me P (.store T p y) ρ (h++l)=some (.d (.v undef), .set (h.length+i) (.cells cB)):=by
 subst hv gO;unfold me;simp only[hp,hk];rw[aoH (ao6 _ _),Nat.add_sub_cancel_left,hi];simp only[hb,cond_true]
theorem Ni{ρ:Operand->AV}{h:apf aq}{T:TypeId}{a i:Operand}{xs:apf (apf D)}{q e k:Nat}{c:apf D}(hx:ρ a= .d (.sl xs))(hi:ρ i= .d (.v (.int .i64 (Int.ofNat q))))(hT:eY P T=some (e,k))(hc:xs[q]?=some c)(hk:(c.length==k)=true):me P (.indexAddr T a i) ρ h=some (.bj [c] 0 0, .same):=by
 unfold me;simp only[hx,hi];unfold Hv;simp only[hT,AV.fI,AV.int?,zN,hc,hk,cond_true,pX]
theorem PS{h l:apf aq}{B:aq}{i:Nat}:(HD.set (h.length+i) B).app (h++l)=h++l.set i B:=by
 simp only[HD.app];rw[List.set_append_right _ _ (ao6 _ _),Nat.add_sub_cancel_left]
theorem II{n d:Nat}{t:apf (Nat×AV)}{h:apf aq}{T:TypeId}{x y:Operand}{p:TypeId}{xs:apf (apf D)}{q:TypeId×Nat}(ho:o.op= .binOp .eql T x y p)(hx:(ev ⟨n,t,h⟩ x).fI=some xs)(hy:ev ⟨n,t,h⟩ y= .d (.v (.slice none 0 0)))(hT:eY P T=some q)(iM:o.dst=some d)(hn:Nat.ble n d=false)
 (J:xs=[]->K ⟨n,(d, .d (.v (.bool true)))::t,h⟩) (h2:K ⟨n,(d, .d (.v (.bool false)))::t,h⟩):oY P o K ⟨n,t,h⟩:=by
 refine .inr (.inl ?_);have aN:d<n:=Nat.lt_of_not_le λhle=>by rw[Nat.ble_eq_true_of_le hle]at hn;cases hn
 unfold EU;simp only[ho,hx,hy,hT,wC,iM,ri (s:=⟨n,t,h⟩) aN];exact⟨J,h2⟩
theorem zk{n d k:Nat}{t:apf (Nat×AV)}{h:apf aq}{c:Call}{f:Operand}{x:AV}(ho:o.op= .call c)(hc:c.callee= .value f)(hf:ev ⟨n,t,h⟩ f= .cn k)(hx:c.args.toList.map (ev ⟨n,t,h⟩)=[x])(iM:o.dst=some d)(hn:Nat.ble n d=false)
 (hy:YS P k x h λb h'=>K ⟨n,(d, .d (.v (.bool b)))::t,h'⟩):oY P o K ⟨n,t,h⟩:=by
 refine .inr (.inr (.inr (.inl ?_)));unfold Mp;simp only[ho,hc,hf,hx];refine hy.mono λb h' hK=> ?_;have aN:d<n:=Nat.lt_of_not_le λhle=>by rw[Nat.ble_eq_true_of_le hle]at hn;cases hn
 rw[iM,ri (s:=St.wh ⟨n,t,h⟩ h') aN];exact hK
theorem Eb{n:Nat}{t:apf (Nat×AV)}{h:apf aq}{c:Call}{f:Operand}{g:FuncId}{cZ:apf AV}(ho:o.op= .call c)(hc:c.callee= .value f)(hf:ev ⟨n,t,h⟩ f= .fn g cZ)
 (hA:cO P g (c.args.toList.map (ev ⟨n,t,h⟩)++cZ) h λx h'=>K ((St.wh ⟨n,t,h⟩ h').put o.dst x)):oY P o K ⟨n,t,h⟩:=by
 refine .inr (.inr (.inl ?_));unfold qN cG;simp only[ho,hc,hf];exact hA
end
theorem agp{P:api}{f:FuncId}{args:apf AV}{H:apf aq}{K:AV->apf aq->Prop}(hc:cO P f args H K)(e:apf aq)(hb:H.all (aq.aE H.length)=true)(ha:args.all (AV.aE H.length)=true)
 (hK:∀r h',K r h'->h'.length=H.length/\h'.all (aq.aE H.length)=true/\r.aE H.length=true):cO P f args (H++e) λr h'=>∃H',K r H'/\h'=H'++e:=by
 have xP:∀i,i<H.length->rn (List.range H.length) (H++e).length i=i:=λi h=>Bu (List.range H.length) _ i i (by rw[List.getElem?_range h]);have GK:∀y:AV,y.aE H.length=true->y.aK (rn (List.range H.length) (H++e).length)=y:=λy hy=>(vD (τ:=id) xP y hy).trans (Ge y);have Gu:∀B:aq,B.aE H.length=true->B.aK (rn (List.range H.length) (H++e).length)=B:=λB hB=>(Pk (τ:=id) xP B hB).trans (RA B);have:=hc.Yq (l:=List.range H.length) (h:=H++e) List.nodup_range (λj hj=>by have:=List.mem_range.1 hj;simp;omega) (λi j l5=>by
  obtain⟨aN,rfl⟩:i<H.length/\j=i:=by
   have J:=(aor.1 l5).1;rw[List.length_range]at J;rw[List.getElem?_range J]at l5;exact⟨J,(aoK l5).symm⟩
  rw[aoB aN,aov aN,Option.map_some,Gu _ (aoR.1 hb _ (List.getElem_mem aN))]) (by simp) ha hb
 have ea:args.map (AV.aK (rn (List.range H.length) (H++e).length))=args:=(aoW λx hx=>GK x (aoR.1 ha x hx)).trans (List.map_id _);rw[ea]at this;refine this.mono λr' h' ⟨r,H',k1,k2,k3⟩=> ?_;obtain⟨c1,c2,c3⟩:=hK r H' k1;have hm:H'.map (aq.aK (rn (List.range H.length) (H++e).length))=H':=(aoW λB hB=>Gu B (aoR.1 c2 B hB)).trans (List.map_id _);rw[hm,YT H' H e c1]at k3;rw[GK r c3]at k2;exact⟨H',by rw[k2];exact k1,k3⟩
theorem afF{h:apf aq}{p:AV}{K K':apf AV->Nat->Prop}(hk:∀cs off,K cs off->K' cs off)(hp:sE h p K):sE h p K':=by
 unfold sE at hp ⊢;split at hp
 ·next n off=>
  split at hp
  ·next cs e=>(try simp only[e]);exact hk _ _ hp
  ·exact hp.elim
 ·next xs i off=>
  split at hp
  ·next cs e=>(try simp only[e]);exact hk _ _ hp
  ·exact hp.elim
 ·exact hp.elim
theorem aiz{P:api}{T:TypeId}{h:apf aq}{p:AV}{K K':AV->Prop}(hk:∀x,K x->K' x)(hp:oM P T h p K):oM P T h p K':=
 afF (λcs off hc=>by
  split at hc
  ·next k e1 e2=>
   try simp only[e1,e2]
   exact bO.2 ⟨(bO.1 hc).1,hk _ (bO.1 hc).2⟩
  ·next k e1 e2=>
   try simp only[e1,e2]
   split at hc
   ·next c e3=>(try simp only[e3]);exact hk _ hc
   ·exact hc.elim
  ·exact hc.elim) hp
theorem amJ{P:api}{fn:Func}{n:Nat}{t:apf (Nat×AV)}{H l:apf aq}{K:AV->apf aq->Prop}(hb:H.all (aq.aE H.length)=true)(hr:mV P ⟨n,t,H++l⟩ fn.results.toList λrs=>((jY rs).bo H.length).aE H.length=true/\K ((jY rs).bo H.length) H):rC P fn H.length K ⟨n,t,H++l⟩:=by
 have ht:(((H++l).take H.length).map (aq.bo H.length))=H:=by rw[List.take_left];exact Si hb
 unfold rC;show mV P ⟨n,t,H++l⟩ fn.results.toList λrs=>H.length<=(H++l).length/\_;simp only[ht];have gen:∀(rv:apf ResultVar){C C':apf AV->Prop},(∀x,C x->C' x)->mV P ⟨n,t,H++l⟩ rv C->mV P ⟨n,t,H++l⟩ rv C':=by
  intro rv
  induction rv with
  |nil=>intro C C' hc h;exact hc _ h
  |cons x rv ih=>
   intro C C' hc h;cases x with
   |tmp t=>exact ih (λy hy=>hc _ hy) h
   |cell p t=>exact aiz (λx h=>ih (λy hy=>hc _ hy) h) h
 exact gen _ (λrs ⟨J,h2⟩=>⟨by simp,J,hb,h2⟩) hr
theorem AG{n:Nat}{t:apf (Nat×AV)}{H l:apf aq}(live:apf Nat)(hb:H.all (aq.aE H.length)=true):(⟨n,t,H++l⟩:St).mask live H.length=⟨n,live.map λk=>(k,(bn t k).bo H.length),H⟩:=by
 unfold St.mask;rw[show((H++l).take H.length).map (aq.bo H.length)=H by rw[List.take_left];exact Si hb]
theorem zJ{n:Nat}{t:apf (Nat×AV)}{H l:apf aq}(live:apf Nat)(hb:H.all (aq.aE H.length)=true)(hl:(live.all λk=>((bn t k).bo H.length).aE H.length)=true):(⟨n,t,H++l⟩:St).AS live H.length:=
 ⟨by simp,hl,by rw[show((H++l).take H.length).map (aq.bo H.length)=H by rw[List.take_left];exact Si hb];exact hb⟩
theorem Iw{n:Nat}{t:apf (Nat×AV)}{H:apf aq}(live:apf Nat)(hb:H.all (aq.aE H.length)=true):(⟨n,t,H⟩:St).mask live H.length=⟨n,live.map λk=>(k,(bn t k).bo H.length),H⟩:=by
 have:=AG (n:=n) (t:=t) (l:=[]) live hb
 rwa [aoM]at this
theorem GC{n:Nat}{t:apf (Nat×AV)}{H:apf aq}(live:apf Nat)(hb:H.all (aq.aE H.length)=true)(hl:(live.all λk=>((bn t k).bo H.length).aE H.length)=true):(⟨n,t,H⟩:St).AS live H.length:=by
 have:=zJ (n:=n) (t:=t) (l:=[]) live hb hl
 rwa [aoM]at this
theorem Bx{k m:Nat}(h:k<m):((AV.cn k).bo m).aE m=true:=by simp [AV.bo,AV.aE,cm];omega
structure uc(s:St)(m:Nat)(s':St):Prop where
 cut:∀{G:Gh}{w:World}{a:Act},cV G w a s->cV (G.cut m) w a s'
theorem uc.S{s s':St}{live:apf Nat}{m:Nat}(h:j6 s live m=some s'):uc s m s':=⟨λhs=>hs.j6 h⟩
theorem anD{P:api}{r:aph Nat}{N0 m:Nat}{c:Code}{s:St}{R R':Exit->St->Prop}(hm:N0<=m)(h:bA P r N0 c R s)(hR:∀e s2,R e s2->∃s',uc s2 m s'/\R' e s'):bA P r N0 c R' s:=by
 constructor
 intro G w a n hs hN;refine wpIn_mono (h.run G w a n hs hN) λe a1 w1 hn=> ?_;obtain⟨G1,s1,hE,_,fg,hq⟩:=hn;obtain⟨s',k1,k2⟩:=hR e s1 hq;exact⟨G1.cut m,s',hE.trans (qn _ _ _ _),hm,k1.cut fg,k2⟩
def Fo(m:Nat)(n:Nat)(T:apf (Nat×AV))(LP:aq)(next:apf aq->Prop)(Q:Exit->St->Prop)(e:Exit)(s:St):Prop:=
 ∃hs,hs.length=m/\hs.all (aq.aE (m+1))=true/\uc s (m+1) ⟨s.n,[],hs++[LP]⟩/\match e with
  | .normal=>next hs
  | .ret=>Q .ret ⟨n,T,hs++[.gone]⟩
  | .exit i=>Q (.exit i) ⟨n,T,hs++[.gone]⟩
  |_=>False
theorem vL{P:api}{N0 n m:Nat}{T:apf (Nat×AV)}{H:apf aq}{Q:Exit->St->Prop}{g:Operand}{p:Nat}{as bd:Code}{gf:FuncId}{cZ:apf AV}(hg:ev ⟨n,T,H⟩ g= .fn gf cZ){α:Type}{enc:α->AV}{xs:apf α}(hI:ze P gf cZ (xs.map enc))
 {ι:Type} (Hs:ι->apf aq) (I:ι->apf α->Prop) (i0:ι) (h0:H=Hs i0) (sf:I i0 xs) (hl:∀i,(Hs i).length=m) (kA:∀i,(Hs i).all (aq.aE (m+1))=true) (hT:(dc n T).all (AV.aE (m+1))=true) (hp:Nat.ble n p=false)
 (round:∀i x l,I i (x::l)->∀(rr:Nat)(a b:Code),bA P (some rr) (m+1) as (iU (λs1=>∃hs e,hs.length=m/\s1.h=hs++ .lp .ready p a b (dc n T)::e/\
  bA P (some rr) (m+1) bd (Fo m n T (.lp .busy p a b (dc n T)) (λcC=>∃i',cC=Hs i'/\I i' l) Q) ⟨s1.n,s1.t,hs++ .lp .busy p a b (dc n T)::e⟩) (λ_ _=>False)) ⟨n,(p,enc x)::lD 0 (dc n T),Hs i++[.lp .ready p a b (dc n T)]⟩)
 (done:∀i,I i []->Q .normal ⟨n,T,Hs i++[.gone]⟩):bA P none N0 (.rangeFunc g #[p] as bd) Q ⟨n,T,H⟩:=by
 subst h0;have hm:(Hs i0).length=m:=hl i0;have Yl:(dc n T).length=n:=by simp [dc]
 have wA:∀ls,(aq.lp ls p as bd (dc n T)).aE (m+1)=true:=λls=>hT;refine alL hg ?_;show cO P gf (.cn (Hs i0).length::cZ) (Hs i0++[.lp .ready p as bd (dc n T)]) _;have IV:∀(hs:apf aq)(B B':aq),hs.length=m->(hs++[B]).set m B'=hs++[B']:=λhs B B' h=>by
  rw[List.set_append_right _ _ (Nat.le_of_eq h),h,Nat.sub_self];rfl
 have e9:∀(hs:apf aq)(B:aq)(e:apf aq),hs.length=m->(hs++B::e)[m]?=some B:=λhs B e h=>by
  rw[aoH (Nat.le_of_eq h),h,Nat.sub_self];rfl
 have seq:∀(l:apf α)(i:ι),I i l->lX P m (l.map enc) (λb J=>∃(hs:apf aq)(ls:LS),hs.length=m/\J=hs++[.lp ls p as bd (dc n T)]/\Ph P N0 Q ⟨n,T,hs++[.gone]⟩ ls) (Hs i++[.lp .ready p as bd (dc n T)]):=by
  intro l
  induction l with
  |nil=>intro i hi;exact⟨Hs i, .ready,hl i,rfl,done i hi⟩
  |cons x l ih=>
   intro i hi;have hlen:(Hs i++[aq.lp .ready p as bd (dc n T)]).length=m+1:=by simp [hl i]
   refine acS ⟨p,as,bd,dc n T,e9 _ _ [] (hl i),?_,λrr=> ?_⟩
   ·rw[Yl];exact Nat.lt_of_not_le λhle=>by rw[Nat.ble_eq_true_of_le hle]at hp;cases hp
   ·rw[hlen,Yl];refine(round i x l hi rr as bd).mono λe s1 fg=> ?_;cases e with
    |normal=>
     obtain⟨hs,e',k1,k2,k3⟩:=fg;refine⟨p,as,bd,dc n T,by rw[k2];exact e9 _ _ _ k1,?_⟩;have hse:s1.h.set m (.lp .busy p as bd (dc n T))=hs++ .lp .busy p as bd (dc n T)::e':=by
      rw[k2,List.set_append_right _ _ (Nat.le_of_eq k1),k1,Nat.sub_self];rfl
     rw[hse];refine anD (aoC _) k3 λe2 s2 hr=> ?_;obtain⟨wj,c2,c5,c3,c4⟩:=hr;refine⟨_,c3,?_⟩;have fB:∀B,B.aE (m+1)=true->(wj++[B]).all (aq.aE (m+1))=true:=λB hB=>by
       rw[List.all_append,c5];simp [hB]
     have ET:(wj++[aq.lp .busy p as bd (dc n T)])[m]?=some (.lp .busy p as bd (dc n T)):=e9 _ _ [] c2;cases e2 with
     |normal=>
      obtain⟨i',rfl,dO⟩:=c4;refine⟨p,as,bd,dc n T,ET,?_⟩;simp only[IV _ _ _ c2];exact⟨⟨by simp [hl],fB _ (wA _)⟩,ih i' dO⟩
     |ret=>
      refine⟨p,as,bd,dc n T,ET,?_⟩;simp only[IV _ _ _ c2];exact⟨⟨by simp [c2],fB _ (wA _)⟩,wj, .done .ret,c2,rfl,cY c4⟩
     |exit j=>
      refine⟨p,as,bd,dc n T,ET,?_⟩;simp only[IV _ _ _ c2];exact⟨⟨by simp [c2],fB _ (wA _)⟩,wj, .done (.exit j),c2,rfl,o7 c4⟩
     |_=>exact c4.elim
    |_=>exact fg.elim
 have UE:(Hs i0++[aq.lp .ready p as bd (dc n T)]).length=m+1:=by simp [hm]
 refine(hI (Hs i0).length _ _ (by rw[UE,List.all_append,kA i0];simp [wA]) (by rw[UE,hm];exact apd m) (by rw[hm];exact seq xs i0 sf)).mono λ_ J hb=> ?_;obtain⟨b,hs,ls,k1,rfl,k2⟩:=hb;refine⟨ls,p,as,bd,dc n T,?_,?_⟩
 ·show(hs++[aq.lp ls p as bd (dc n T)])[(Hs i0).length]?=_;rw[hm];exact e9 _ _ [] k1
 ·show Ph P N0 Q ⟨n,T,(hs++[aq.lp ls p as bd (dc n T)]).set (Hs i0).length .gone⟩ ls;rw[hm,IV _ _ _ k1];exact k2
section
variable {m n:Nat} {T:apf (Nat×AV)} {LP:aq} {next:apf aq->Prop} {Q:Exit->St->Prop} {s:St}
theorem zQ(hs:apf aq)(hl:hs.length=m)(hb:hs.all (aq.aE (m+1))=true)(hc:j6 s [] (m+1)=some ⟨s.n,[],hs++[LP]⟩)(hn:next hs):Fo m n T LP next Q .normal s:=⟨hs,hl,hb, .S hc,hn⟩
theorem DA(hs:apf aq)(hl:hs.length=m)(hb:hs.all (aq.aE (m+1))=true)(hc:j6 s [] (m+1)=some ⟨s.n,[],hs++[LP]⟩)(hq:Q .ret ⟨n,T,hs++[.gone]⟩):Fo m n T LP next Q .ret s:=⟨hs,hl,hb, .S hc,hq⟩
theorem akX{i:Nat}(hs:apf aq)(hl:hs.length=m)(hb:hs.all (aq.aE (m+1))=true)(hc:j6 s [] (m+1)=some ⟨s.n,[],hs++[LP]⟩)(hq:Q (.exit i) ⟨n,T,hs++[.gone]⟩):Fo m n T LP next Q (.exit i) s:=⟨hs,hl,hb, .S hc,hq⟩
end
set_option linter.unusedSimpArgs false
set_option linter.unusedVariables false
abbrev Lf:=St×apf Nat×apf (Nat×apf (In×bX))
def tC(go:Nat->aph (apf Lf)):apf Nat->aph (apf Lf)
 |[]=>some []
 |k::r=>match go k with
  |some a=>match tC go r with
   |some b=>some (a++b)
   |none=>none
  |none=>none
def A3(P:api)(ops:Array Oper)(A C:apf Nat)(as:apf (Nat×bX)):Nat->Nat->apf Nat->apf (Nat×apf (In×bX))->St->aph (apf Lf)
 |0,L,al,acc,s=>match pP A L 0 with
  |[]=>some [(s,al,acc)]
  |_=>none
 |f+1,L,al,acc,s=>match pP A L 0 with
  |[]=>some [(s,al,acc)]
  |k0::r=>tC (λk=>match ops[k]? with
     |some o=>match nD P ops true o k as s with
      |some (s1,l)=>fN (L|||(1<<<k)) λL=>A3 P ops A C as f L (al++List.replicate (s1.h.length-s.h.length) k) ((k,l)::acc) s1
      |none=>none
     |none=>none) (match xo C L (k0::r)with
      |some k=>[k]
      |none=>k0::r)
theorem V5{go:Nat->aph (apf Lf)}:∀{l:apf Nat}{ls:apf Lf},tC go l=some ls->∀k∈l,∃a,go k=some a/\∀x∈a,x∈ls
 |[],_,_,k,hk=>by cases hk
 |j::r,ls,h,k,hk=>by
  unfold tC at h;split at h
  ·next a e1=>
   split at h
   ·next b e2=>
    cases h
    rcases aoV.1 hk with rfl|hk
    ·exact⟨a,e1,λx hx=>List.mem_append_left _ hx⟩
    ·obtain⟨a',e3,h3⟩:=V5 e2 k hk;exact⟨a',e3,λx hx=>List.mem_append_right _ (h3 x hx)⟩
   ·cases h
  ·cases h
section
variable {P:api} {ops:Array Oper} {as:apf (Nat×bX)} {K:St->Prop} {s0:St}
theorem acv{o:Oper}{j:Nat}{dr:Bool}{s s1:St}{l:apf (In×bX)}(h:nD P ops dr o j as s=some (s1,l))(ho:o∈ops.toList)(hB:lR (pc ops.toList) s0 s):lR (pc ops.toList) s0 s1:=by
 have cI:∀{i a r l},vh i a r=some (s1,l)->∃m,r=some (s1,m):=fun{i a r l} h=>by
  unfold vh at h;split at h
  ·exact⟨_,h⟩
  ·split at h
   ·cases h;exact⟨_,rfl⟩
   ·cases h
 have cR:∀{m r l},qD m r=some (s1,l)->∃m,r=some (s1,m):=fun{m r l} h=>by
  unfold qD at h;split at h
  ·cases h;exact⟨_,rfl⟩
  ·cases h
 have XQ:lR (pc ops.toList) s0 (FR o s):=hB.put s.h (.d (.v undef)) (H7 ho);have st:∀l,nO P dr o j as s=some (s1,l)->lR (pc ops.toList) s0 s1:=λl h=>by
  unfold nO at h;cases hd:dr&&AN (iV as (3*j+1))&& !zi o (iV as (3*j+1))with
  |true=>rw[hd]at h;cases h
  |false=>
   rw[hd]at h;simp only[cond_false]at h;split at h
   ·split at h<;>(obtain⟨m,e⟩:=cI h;cases e;exact hB.put _ _ (H7 ho))
   ·cases h
 unfold nD at h;split at h
 ·exact st _ h
 ·split at h
  ·obtain⟨m,e⟩:=cR h;revert e;generalize ((_:Bool)==_)=q;intro e;cases q with
   |true=>exact st _ e
   |false=>cases e;exact XQ
  ·obtain⟨m,e⟩:=cR h;cases e;exact XQ
  ·cases h
theorem ZW(hK:rm K)(hM:oc (Region.before ops) ops=true)(t0:apf (Nat×AV)):
 ∀(fuel L:Nat)(listed:Array Bool)(al:apf Nat)(acc:apf (Nat×apf (In×bX)))(s:St)(ls:apf Lf),LM ops L listed->Dn ops listed->A3 P ops (pg ops 0 ops.size) (kp ops false (Region.before ops) 0 ops.size) as fuel L al acc s=some ls->
  (∃x,x∈ls)/\(∀x∈ls,(∀p∈acc,p∈x.2.2)/\((∃pre,s.t=pre++t0)->∃pre,x.1.t=pre++t0)/\(lR (pc ops.toList) s0 s->lR (pc ops.toList) s0 x.1))/\((∀x∈ls,(∀p∈x.2.2,gq P p.2)/\K x.1)->kN false P ops K fuel listed s)
 |0,L,listed,al,acc,s,ls,hL,hD,h=>by
  unfold A3 at h;split at h
  ·next hr=>
   cases h
   refine⟨⟨_,aox⟩,λx hx=> ?_,λhk=>⟨?_,(hk _ aox).2⟩⟩
   ·rw[List.mem_singleton]at hx;subst hx;exact⟨λ_ h=>h,λh=>h,λh=>h⟩
   ·rw[List.eq_nil_iff_forall_not_mem];intro i hi;have:=(hL.ready i).1 hi;rw[hr]at this;cases this
  ·cases h
 |fuel+1,L,listed,al,acc,s,ls,hL,hD,h=>by
  have mem:∀{k:Nat}{o:Oper},ops[k]?=some o->o∈ops.toList:=λho=>Array.mem_toList_iff.2 (Array.mem_of_getElem? ho);unfold A3 at h;split at h
  ·next hr=>
   cases h
   refine⟨⟨_,aox⟩,λx hx=> ?_,λhk=>⟨λ_=>(hk _ aox).2,λi hi=> ?_⟩⟩
   ·rw[List.mem_singleton]at hx;subst hx;exact⟨λ_ h=>h,λh=>h,λh=>h⟩
   ·have:=(hL.ready i).1 hi;rw[hr]at this;cases this
  ·next k0 r hr=>
   generalize hgo:(λk:Nat=>(match ops[k]? with
    |some o=>match nD P ops true o k as s with
     |some (s1,l)=>fN (L|||(1<<<k)) λL=>A3 P ops (pg ops 0 ops.size) (kp ops false (Region.before ops) 0 ops.size) as fuel L (al++List.replicate (s1.h.length-s.h.length) k) ((k,l)::acc) s1
     |none=>none
    |none=>none:aph (apf Lf)))=go at h
   have one:∀k a,k∈Region.ready .any ops listed->go k=some a->∃o s1 l,ops[k]?=some o/\nD P ops true o k as s=some (s1,l)/\(∃x,x∈a)/\(∀x∈a,(∀p∈(k,l)::acc,p∈x.2.2)/\((∃pre,s.t=pre++t0)->∃pre,x.1.t=pre++t0)/\(lR (pc ops.toList) s0 s->lR (pc ops.toList) s0 x.1))/\
       ((∀x∈a,(∀p∈x.2.2,gq P p.2)/\K x.1)->∃y J,mc false P ops o s y J/\kN false P ops K fuel (listed.setIfInBounds k true) ((s.wh J).put o.dst y)):=λk a uD vu=>by
    rw[<-hgo]at vu;simp only at vu;split at vu
    ·next o ho=>
     split at vu
     ·next s1 l hg=>
      rw[As]at vu;obtain⟨J,h2,h3⟩:=ZW hK hM t0 fuel _ _ _ _ s1 a (hL.set (aoG.1 ho).1) (hD.set uD) vu;refine⟨o,s1,l,ho,hg,J,λx hx=>⟨(h2 x hx).1,fun⟨pre,hp⟩=> ?_,λhB=>(h2 x hx).2.2 (acv hg (mem ho) hB)⟩,λhk=> ?_⟩
      ·obtain⟨⟨p1,e1⟩,_⟩:=Rt hg;exact(h2 x hx).2.1 ⟨p1++pre,by rw[e1,hp,aoI]⟩
      ·obtain⟨x,hx⟩:=J;have hl:gq P l:=(hk x hx).1 (k,l) ((h2 x hx).1 _ aox);have h4:=Na (K:=(·=s1)) hg hl rfl;have h5:=h3 hk;have:∃y J,mc false P ops o s y J/\(s.wh J).put o.dst y=s1:=by
        rcases Ha h4 with⟨g,hd⟩|⟨g,hd⟩
        ·obtain⟨y,J,h2,h3⟩:=Ka hd;exact⟨y,J, .inl ⟨g,h2⟩,h3⟩
        ·exact⟨_,s.h, .inr ⟨g,rfl,rfl⟩,hd⟩
       obtain⟨y,hh,q1,rfl⟩:=this;exact⟨y,hh,q1,h5⟩
     ·cases vu
    ·cases vu
   cases hf:xo (kp ops false (Region.before ops) 0 ops.size) L (k0::r)with
   |some k=>
    rw[hf]at h;obtain⟨jH,xu⟩:=EI hf;have uD:k∈Region.ready .any ops listed:=(hL.ready k).2 (by rw[hr];exact jH);unfold tC at h;split at h
    ·next a e1=>
     unfold tC at h;simp only[aoM]at h;cases h
     obtain⟨o,s1,l,ho,hg,J,h2,h3⟩:=one k _ uD e1;refine⟨J,λx hx=>⟨λp hp=>(h2 x hx).1 p (aoA _ hp),(h2 x hx).2⟩,λhk=> ?_⟩;obtain⟨y,hh,q1,q2⟩:=h3 hk;refine KL hK hM ho fuel listed s hD (λj oj hj cE qd tv=> ?_) uD q1 q2;have DF:=(aoG.1 hj).1;have pe:=(aoG.1 ho).1;have Pp:Nat.testBit L j=false:=by
      rw[hL.b];have jh:j<listed.size:=by rw[hL.sz];exact DF
      simpa [jh]using qd
     have nX:Nat.testBit (vl ops false (Region.before ops) k) j=false:=by
      rw[<-Bool.not_eq_true];intro hc;have h5:(kp ops false (Region.before ops) 0 ops.size).getD k 0=vl ops false (Region.before ops) k:=by
        rw[List.getD_eq_getElem?_getD,Oo,if_pos pe,aoL];rfl
      rw[h5]at xu;have:=congrArg (λn=>Nat.testBit n j) xu;simp only[Nat.testBit_or,hc,Pp]at this;cases this
     unfold vl at nX;rw[CZ]at nX;unfold Rq at nX;rw[tv,ho,hj]at nX;simp [DF,cE]at nX;exact nX
    ·cases h
   |none=>
    rw[hf]at h;have S7:=V5 h;have BI:k0∈Region.ready .any ops listed:=(hL.ready k0).2 (by rw[hr];simp);have back:∀(l:apf Nat)(ls:apf Lf),tC go l=some ls->∀x∈ls,∃k∈l,∃a,go k=some a/\x∈a:=by
      intro l
      induction l with
      |nil=>intro ls h x hx;cases h;cases hx
      |cons j r ih=>
       intro ls h x hx;unfold tC at h;split at h
       ·next a e1=>
        split at h
        ·next b e2=>
         cases h
         rcases ao3.1 hx with hx|hx
         ·exact⟨j,aox,a,e1,hx⟩
         ·obtain⟨k,hk,a',J,h2⟩:=ih b e2 x hx;exact⟨k,aoA _ hk,a',J,h2⟩
        ·cases h
       ·cases h
    refine⟨?_,λx hx=> ?_,λhk=>⟨λe=>(by rw[e]at BI;cases BI),λi hi oi J6=> ?_⟩⟩
    ·obtain⟨a,e1,J⟩:=S7 k0 aox;obtain⟨o,s1,l,ho,hg,⟨x,hx⟩,_⟩:=one k0 a BI e1;exact⟨x,J x hx⟩
    ·obtain⟨k,hk,a,e1,hxa⟩:=back _ _ h x hx;obtain⟨o,s1,l,ho,hg,J,h2,h3⟩:=one k a ((hL.ready k).2 (by rw[hr];exact hk)) e1;exact⟨λp hp=>(h2 x hxa).1 p (aoA _ hp),(h2 x hxa).2⟩
    ·have dO:i∈k0::r:=by rw[<-hr];exact(hL.ready i).1 hi
     obtain⟨a,e1,J⟩:=S7 i dO;obtain⟨o,s1,l,ho,hg,_,_,h3⟩:=one i a hi e1;rw[ho]at J6;cases J6;exact h3 λx hx=>hk x (J x hx)
end
def QA(k:Nat):apf Nat->Nat
 |[]=>0
 |j::l=>bif cm (j+1) k then QA k l+1 else QA k l
def RK(k:Nat):apf Nat->Nat
 |[]=>0
 |j::l=>bif j==k then RK k l+1 else RK k l
def OM(h0:Nat)(all:apf Nat):apf Nat->apf Nat->apf Nat
 |_,[]=>[]
 |pre,k::l=>fN (h0+QA k all+RK k pre) λq=>q::OM h0 all (k::pre) l
def Yi(q:Nat):apf Nat->Nat->Nat
 |[],i=>i
 |x::l,i=>bif x==q then i else Yi q l (i+1)
def Pr(h0:Nat)(p:apf Nat):Nat->Nat->apf Nat
 |0,_=>[]
 |n+1,q=>fN (Yi q p h0) λi=>i::Pr h0 p n (q+1)
def Ch(a:Nat×apf (In×bX)):apf (Nat×apf (In×bX))->apf (Nat×apf (In×bX))
 |[]=>[a]
 |b::l=>bif cm a.1 b.1 then a::b::l else b::Ch a l
def DI:apf (Nat×apf (In×bX))->apf (Nat×apf (In×bX))
 |[]=>[]
 |a::l=>Ch a (DI l)
def Hn:apf (Nat×apf (In×bX))->apf (In×bX)
 |[]=>[]
 |a::l=>a.2++Hn l
def s8(p q:apf Nat)(h0:Nat)(h:apf aq):Nat->Nat->apf aq
 |0,_=>[]
 |n+1,i=>(match h[fM h0 q i]? with|some B=>B.aK (fM h0 p)|none=> .gone)::s8 p q h0 h n (i+1)
def yE(h0:Nat)(p:apf Nat):Bool:=(List.range p.length).all λi=>p.getD i 0==h0+i
theorem agZ{h0:Nat}{p:apf Nat}(h:yE h0 p=true):fM h0 p=id:=by
 funext i
 unfold fM;cases e:cm h0 i with
 |false=>rfl
 |true=>
  rw[da]at e;simp only[cond_true,id];by_cases hi:i-h0<p.length
  ·unfold yE at h;rw[aoR]at h;have:=h (i-h0) (List.mem_range.2 hi);rw[beq_iff_eq,List.getD_eq_getElem?_getD,aov hi]at this;rw[List.getD_eq_getElem?_getD,aov hi];simp only[Option.getD_some]at this ⊢;omega
  ·rw[List.getD_eq_getElem?_getD,aoX (by omega)];rfl
def abm(keep:apf Nat)(s:St)(x:Lf)(p q:apf Nat):aph (apf (Nat×AV)×apf aq×apf (In×bX)):=
 bif (x.1.t.take (x.1.t.length-s.t.length)).all (λp=>keep.any (·==p.1)||UF (bn s.t p.1))&&(List.range x.1.h.length).all (λi=>cm (fM s.h.length p i+1) x.1.h.length&&cm (fM s.h.length q i+1) x.1.h.length&&fM s.h.length q (fM s.h.length p i)==i&&fM s.h.length p (fM s.h.length q i)==i)
 then some (keep.map λk=>(k,(bn x.1.t k).aK (fM s.h.length p)),bif yE s.h.length p then x.1.h else s8 p q s.h.length x.1.h x.1.h.length 0,Hn (DI x.2.2))else none
def J2(keep:apf Nat)(s:St)(x:Lf):aph (apf (Nat×AV)×apf aq×apf (In×bX)):=
 fL (OM s.h.length x.2.1 [] x.2.1) λp=>fL (Pr s.h.length p p.length s.h.length) λq=>abm keep s x p q
def Gw(keep:apf Nat)(s:St):apf Lf->aph (apf (apf (Nat×AV)×apf aq×apf (In×bX)))
 |[]=>some []
 |x::l=>match J2 keep s x with
  |some a=>match Gw keep s l with
   |some b=>some (a::b)
   |none=>none
  |none=>none
def yO(P:api)(ol:apf Oper)(as:apf (Nat×bX))(keep:apf Nat)(s:St):aph (apf (apf (Nat×AV)×apf aq×apf (In×bX))):=
 bif oc (Region.before ol.toArray) ol.toArray then fL (pg ol.toArray 0 ol.toArray.size) λA=>fL (kp ol.toArray false (Region.before ol.toArray) 0 ol.toArray.size) λC=>
  match A3 P ol.toArray A C as ol.toArray.size 0 [] [] s with
  |some ls=>Gw keep s ls
  |none=>none
 else none
theorem R0{keep:apf Nat}{s:St}:∀{ls:apf Lf}{r},Gw keep s ls=some r->∀x∈ls,∃a∈r,J2 keep s x=some a
 |[],_,_,x,hx=>by cases hx
 |y::l,r,h,x,hx=>by
  unfold Gw at h;split at h
  ·next a e1=>
   split at h
   ·next b e2=>
    cases h
    rcases aoV.1 hx with rfl|hx
    ·exact⟨a,aox,e1⟩
    ·obtain⟨a',J,h2⟩:=R0 e2 x hx;exact⟨a',aoA _ J,h2⟩
   ·cases h
  ·cases h
theorem abt{a x:Nat×apf (In×bX)}:∀{l:apf (Nat×apf (In×bX))},x∈Ch a l↔x=a\/x∈l
 |[]=>by simp [Ch]
 |b::l=>by
  unfold Ch;cases cm a.1 b.1 with
  |true=>simp
  |false=>
   simp only[cond_false,aoV,abt (l:=l)];constructor
   ·rintro(h|h|h)
    ·exact .inr (.inl h)
    ·exact .inl h
    ·exact .inr (.inr h)
   ·rintro(h|h|h)
    ·exact .inr (.inl h)
    ·exact .inl h
    ·exact .inr (.inr h)
theorem U2{x:Nat×apf (In×bX)}:∀{l:apf (Nat×apf (In×bX))},x∈DI l↔x∈l
 |[]=>by simp [DI]
 |a::l=>by rw[DI,abt,U2 (l:=l),aoV]
theorem Zm{P:api}:∀{l:apf (Nat×apf (In×bX))},gq P (Hn l)->∀p∈l,gq P p.2
 |[],_,p,hp=>by cases hp
 |a::l,h,p,hp=>by
  unfold Hn at h;rcases aoV.1 hp with rfl|hp
  ·exact λq hq=>h q (List.mem_append_left _ hq)
  ·exact Zm (λq hq=>h q (List.mem_append_right _ hq)) p hp
theorem U7{p q:apf Nat}{h0:Nat}{h:apf aq}:∀(n i j:Nat),(s8 p q h0 h n i)[j]?=if j<n then some (match h[fM h0 q (i+j)]? with|some B=>B.aK (fM h0 p)|none=> .gone)else none
 |0,i,j=>by simp [s8]
 |n+1,i,0=>by simp [s8]
 |n+1,i,j+1=>by
  rw[s8,ao2,U7 n (i+1) j];simp only[Nat.add_lt_add_iff_right];rw[show i+1+j=i+(j+1) by omega]
theorem ZI{p q:apf Nat}{h0:Nat}{h:apf aq}:∀(n i:Nat),(s8 p q h0 h n i).length=n
 |0,_=>rfl
 |n+1,i=>by rw[s8,aou,ZI n]
theorem aaG{P:api}{ops:Array Oper}{N0:Nat}{keep:apf Nat}{s:St}{x:Lf}{Δ:apf (Nat×AV)}{h':apf aq}{ps:apf (In×bX)}(h:J2 keep s x=some (Δ,h',ps))(hN:N0<=s.h.length)(nF:∀i,(bn s.t i).aE s.h.length=true)
 (hn:x.1.n=s.n) (hp:∃pre,x.1.t=pre++s.t) (bS:gq P ps):iE N0 x.1 ⟨s.n,Δ++s.t,h'⟩/\∀p∈x.2.2,gq P p.2:=by
 unfold J2 at h;rw[yx,yx]at h;generalize OM s.h.length x.2.1 [] x.2.1=p at h;generalize Pr s.h.length p p.length s.h.length=q at h;unfold abm at h;obtain⟨hb,he⟩:=eB h;cases he
 rw[aot]at hb;obtain⟨hb,hc⟩:=hb;simp only[aoR,List.mem_range,aot,beq_iff_eq,da]at hc;have vQ:∀i,i<s.h.length->fM s.h.length p i=i:=λi hi=>by
   unfold fM;have:cm s.h.length i=false:=by rw[<-Bool.not_eq_true,da];omega
   rw[this];rfl
 refine⟨?_,λy hy=>Zm bS y (U2.2 hy)⟩;refine iE.aK (fM s.h.length p) (fM s.h.length q) hn (by
  cases yE s.h.length p with
  |true=>rfl
  |false=>exact ZI _ _) (λi hi=>(hc i hi).1.1.1) (λi hi=>(hc i hi).1.1.2) (λi hi=>(hc i hi).1.2) (λi hi=>(hc i hi).2) (λi hi=>vQ i (by omega)) (λi _=> ?_) λi hi=> ?_
 ·obtain⟨pre,e1⟩:=hp;have Cm:∀(f:Nat->AV),(keep.map λk=>(k,f k)).map (·.1)=keep:=λf=>by rw[List.map_map];exact List.map_id _
  show bn ((keep.map λk=>(k,(bn x.1.t k).aK (fM s.h.length p)))++s.t) i=_\/_;rcases Fg (keep.map λk=>(k,(bn x.1.t k).aK (fM s.h.length p))) s.t i with⟨J,h2⟩|⟨J,h2⟩
  ·rw[Cm]at J;rw[h2,tc (λk=>(bn x.1.t k).aK (fM s.h.length p)),if_pos J];exact .inl rfl
  ·rw[Cm]at J;show _\/bn ((keep.map λk=>(k,(bn x.1.t k).aK (fM s.h.length p)))++s.t) i=_;rw[h2];rw[e1,aos,Nat.add_sub_cancel,List.take_left']at hb
   ·rw[e1];rcases Fg pre s.t i with⟨h3,h4⟩|⟨h3,h4⟩
    ·right
     obtain⟨y,hy,rfl⟩:=List.mem_map.1 h3;have:=aoR.1 hb y hy;rw[Bool.or_eq_true]at this;rcases this with this|this
     ·exfalso;obtain⟨k,hk,e⟩:=List.any_eq_true.1 this;rw[beq_iff_eq]at e;exact J (e▸hk)
     ·generalize bn s.t y.1=z at this;cases z<;>first|rfl|cases this
    ·left
     rw[h4,vD (τ:=id) vQ _ (nF i),Ge]
   ·rfl
 ·show(bif yE s.h.length p then x.1.h else s8 p q s.h.length x.1.h x.1.h.length 0)[fM s.h.length p i]?=_;cases hid:yE s.h.length p with
  |true=>rw[agZ hid];simp only[cond_true,id];rw[aov hi,Option.map_some,RA]
  |false=>
  simp only[cond_false];rw[U7,if_pos (Nat.lt_of_succ_le (hc i hi).1.1.1),aoL,(hc i hi).1.2,aov hi];rfl
theorem aaj{P:api}{ol:apf Oper}{as:apf (Nat×bX)}{keep:apf Nat}{s:St}{Δ:apf (Nat×AV)}{h':apf aq}{ps:apf (In×bX)}{m N0:Nat}{K:St->Prop}(h:yO P ol as keep s=some (List.replicate m (Δ,h',ps)))(bS:gq P ps)(hN:N0<=s.h.length)(nF:∀i,(bn s.t i).aE s.h.length=true)(hK:Gk N0 K)(hk:K ⟨s.n,Δ++s.t,h'⟩):
 kN false P ol.toArray K ol.toArray.size (Array.replicate ol.toArray.size false) s:=by
 unfold yO at h;obtain⟨hM,h⟩:=kG h;rw[yx,yx]at h;split at h
 ·next ls e1=>
  obtain⟨_,h2,h3⟩:=ZW (s0:=s) hK.c hM s.t _ 0 (Array.replicate ol.toArray.size false) _ _ s ls ⟨by simp,λi=>by
   rw[Nat.zero_testBit,Array.getD_eq_getD_getElem?,Array.getElem?_replicate];split<;>rfl⟩ (λj o ho hj=>by
   exfalso;rw[Array.getD_eq_getD_getElem?]at hj;rw[Array.getElem?_replicate]at hj;split at hj<;>simp at hj) e1
  refine h3 λx hx=> ?_;obtain⟨a,ha,e2⟩:=R0 h x hx;rw[List.mem_replicate]at ha;obtain⟨_,rfl⟩:=ha;obtain⟨k1,k2⟩:=aaG (P:=P) (ops:=ol.toArray) e2 hN nF ((h2 x hx).2.2 (lR.refl _ _)).n ((h2 x hx).2.1 ⟨[],rfl⟩) bS;exact⟨k2,hK _ _ k1 hk⟩
 ·cases h
section
variable {P:api} {r:aph Nat} {N0 id n:Nat} {ol:apf Oper} {y:Code} {t:apf (Nat×AV)} {h:apf aq} {Q Q':Exit->St->Prop}
theorem rtE(m:Nat)(hm:P.follows .mixedOrders=true)(Δ:apf (Nat×AV))(h':apf aq)(e:∃ay:apf (Nat×Ob P),yO P ol (iY ay) (Δ.map (·.1)) ⟨n,t,h⟩=some (List.replicate m (Δ,h',jv ay)))(k:bA P r N0 y Q' ⟨n,Δ++t,h'⟩):bA P r N0 (.region id ol.toArray true) (iU (λs=>bA P r N0 y Q' s) Q) ⟨n,t,h⟩:=
 let ⟨ay,e⟩:=e
 SH hm λhN nF=>aaj e (pz ay) hN nF (M1 _) ⟨_,iE.refl _ _,k⟩
theorem rt(m:Nat)(hm:P.follows .mixedOrders=true)(ay:apf (Nat×Ob P))(Δ:apf (Nat×AV))(h':apf aq)(e:yO P ol (iY ay) (Δ.map (·.1)) ⟨n,t,h⟩=some (List.replicate m (Δ,h',jv ay)))(k:bA P r N0 y Q' ⟨n,Δ++t,h'⟩):bA P r N0 (.region id ol.toArray true) (iU (λs=>bA P r N0 y Q' s) Q) ⟨n,t,h⟩:=rtE m hm Δ h' ⟨ay,e⟩ k
theorem rte(m:Nat)(hm:P.follows .mixedOrders=true)(ay:apf (Nat×Ob P))(Δ:apf (Nat×AV))(h':apf aq)(e:yO P ol (iY ay) (Δ.map (·.1)) ⟨n,t,h⟩=some (List.replicate m (Δ,h',jv ay)))(k:Q .normal ⟨n,Δ++t,h'⟩):bA P r N0 (.region id ol.toArray true) Q ⟨n,t,h⟩:=
 SH hm λhN nF=>aaj e (pz ay) hN nF (M1 _) ⟨_,iE.refl _ _,k⟩
end
theorem ab4{f:AV->AV}(hf:∀d,f (.d d)= .d d)(xs:apf (apf D)):(cd xs).map (·.map f)=cd xs:=by
 unfold cd;rw[List.map_map];refine aoW λc _=> ?_;simp only[Function.comp,List.map_map];exact aoW λd _=>hf d
theorem ES(xs:apf (apf D)):(cd xs).length=xs.length:=by unfold cd;rw[aow]
theorem P3{xs:apf (apf D)}{i:Nat}{c:apf D}(h:xs[i]?=some c):(cd xs)[i]?=some (c.map .d):=by unfold cd;rw[aoy,h];rfl
theorem ai2(xs:apf (apf D))(i:Nat)(c:apf D):cd (xs.set i c)=(cd xs).set i (c.map .d):=by unfold cd;rw[List.map_set]
theorem adY(xs ys:apf (apf D)):cd (xs++ys)=cd xs++cd ys:=by unfold cd;rw[List.map_append]
theorem aZ{cs:apf AV}{l:apf aq}(h:VD l):VD (.cells cs::l):=⟨trivial,h⟩
theorem ajp{e k n:Nat}{l:apf aq}(h:VD l):VD (.front e k n::l):=⟨trivial,h⟩
theorem ep{kv:apf (apg×D)}{l:apf aq}(h:VD l):VD (.map kv::l):=⟨trivial,h⟩
theorem ahP{l:apf aq}(h:VD l):VD (.gone::l):=⟨trivial,h⟩
def aq.qE(m:Nat):aq->aq
 | .vec e k cs=> .vec e k cs
 |B=>B.bo m
def aq.BB:aq->aq
 | .vec e k cs=> .vec e k cs
 |B=>B.pR
def aq.zx(m:Nat):aq->Prop
 | .vec _ _ cs=>cs.map (·.map (AV.bo m))=cs/\cs.all (·.all (AV.aE m))=true
 |_=>True
def ja(m:Nat):apf aq->Prop
 |[]=>True
 |B::l=>B.zx m/\ja m l
section
variable {m:Nat} {l:apf aq}
theorem jB:ja m []:=trivial
theorem eO{B:aq}(hB:B.zx m)(h:ja m l):ja m (B::l):=⟨hB,h⟩
theorem ab1(xs:apf (apf D)):(cd xs).all (·.all (AV.aE m))=true:=by simp [cd,AV.aE]
theorem lY{e k:Nat}{xs:apf (apf D)}(h:ja m l):ja m (.vec e k (cd xs)::l):=⟨⟨ab4 (λd=>by simp [AV.bo]) _,ab1 _⟩,h⟩
theorem ja.mem:∀{l:apf aq},ja m l->∀B∈l,B.zx m
 |[],_,B,hB=>by cases hB
 |_::_,h,B,hB=>by
  rcases aoV.1 hB with rfl|hB
  ·exact h.1
  ·exact ja.mem h.2 B hB
end
theorem adW{m:Nat}{B:aq}(h:B.zx m):B.qE m=B.bo m:=by
 cases B with
 |vec e k cs=>simp only[aq.qE,aq.bo];rw[h.1]
 |_=>rfl
theorem amr{m:Nat}{B:aq}(h:B.zx m)(hl:(B.qE m).vj m=true):(B.bo m).aE m=true:=by
 cases B with
 |vec e k cs=>simp only[aq.bo,aq.aE];rw[h.1];exact h.2
 |_=>exact hl
theorem ZC{G:Gh}{w:apk}{h:apf aq}(hi:bN G w h):bN G w (h.map aq.BB):=by
 have eG:∀n,bK (h.map aq.BB) G n=bK h G n:=λn=>by
  unfold bK;rw[aoy];cases h[n]? with
  |none=>rfl
  |some B=>cases B<;>rfl
 have h2:=My hi;refine⟨by rw[aow];exact hi.len,hi.z,hi.S,λn B hB=> ?_,λm n x hm hn=>hi.inj m n x (by rw[<-eG];exact hm) (by rw[<-eG];exact hn),hi.gl⟩;rw[aoy]at hB;cases J:h[n]? with
 |none=>rw[J]at hB;cases hB
 |some B'=>
  rw[J]at hB;cases hB
  have h3:=h2.c7 n B'.pR (by rw[aoy,J];rfl);cases B' with
  |vec e k cs=>exact hi.c7 n _ J
  |_=>exact h3
def uo(kn:apf (Nat×Nat))(n:Nat):Nat->apf AV->apf AV
 |_,[]=>[]
 |i,x::l=>(bif kn.any (λp=>p.1==n&&p.2==i)then x else x.nrm)::uo kn n (i+1) l
def aq.aa0(kn:apf (Nat×Nat))(n:Nat):aq->aq
 | .cells cs=> .cells (uo kn n 0 cs)
 |B=>B.BB
def pF(kn:apf (Nat×Nat)):Nat->apf aq->apf aq
 |_,[]=>[]
 |n,B::l=>B.aa0 kn n::pF kn (n+1) l
theorem aa8(kn:apf (Nat×Nat))(n:Nat):∀(j:Nat)(cs:apf AV),(uo kn n j cs).length=cs.length
 |_,[]=>rfl
 |j,x::l=>by rw[uo,aou,aa8 kn n (j+1) l,aou]
theorem TS(kn:apf (Nat×Nat))(n:Nat):∀(j:Nat)(cs:apf AV)(i:Nat)(c':AV),(uo kn n j cs)[i]?=some c'->∃c,cs[i]?=some c/\(c'=c\/c'=c.nrm)
 |_,[],i,c',h=>by simp [uo]at h
 |j,x::l,0,c',h=>by
  simp only[uo,List.getElem?_cons_zero,Option.some.injEq]at h;refine⟨x,rfl,?_⟩;cases hk:kn.any (λp=>p.1==n&&p.2==j)with
  |true=>rw[hk]at h;exact .inl h.symm
  |false=>rw[hk]at h;exact .inr h.symm
 |j,x::l,i+1,c',h=>by
  simp only[uo,ao2]at h;obtain⟨c,J,h2⟩:=TS kn n (j+1) l i c' h;exact⟨c,by simpa using J,h2⟩
theorem NG(kn:apf (Nat×Nat)):∀(j:Nat)(h:apf aq)(i:Nat)(B':aq),(pF kn j h)[i]?=some B'->∃B,h[i]?=some B/\B'=B.aa0 kn (j+i)
 |_,[],i,B',h=>by simp [pF]at h
 |j,B::l,0,B',h=>by simp only[pF,List.getElem?_cons_zero,Option.some.injEq]at h;exact⟨B,rfl,h.symm⟩
 |j,B::l,i+1,B',h=>by
  simp only[pF,ao2]at h;obtain⟨C,J,h2⟩:=NG kn (j+1) l i B' h;exact⟨C,by simpa using J,by rw[h2];congr 1;omega⟩
theorem Zl(kn:apf (Nat×Nat)):∀(j:Nat)(h:apf aq),(pF kn j h).length=h.length
 |_,[]=>rfl
 |j,B::l=>by rw[pF,aou,Zl kn (j+1) l,aou]
theorem afl{G:Gh}{w:apk}{h:apf aq}(kn:apf (Nat×Nat))(hi:bN G w h):bN G w (pF kn 0 h):=by
 have eG:∀n x,bK (pF kn 0 h) G n=some x->bK h G n=some x:=λn x hx=>by
  obtain⟨B',hB,J⟩:=nm hx;obtain⟨B,h2,rfl⟩:=NG kn 0 h n B' hB;rw[dA h2,<-J];cases B<;>rfl
 have h2:=ZC hi;refine⟨by rw[Zl];exact hi.len,hi.z,hi.S,λn B' hB=> ?_,λm n x hm hn=>hi.inj m n x (eG m x hm) (eG n x hn),hi.gl⟩;obtain⟨B,J,rfl⟩:=NG kn 0 h n B' hB;cases B with
 |cells cs=>
  obtain⟨c1,c2,vs,T,c3,c4,c5⟩:=hi.c7 n _ J;refine⟨c1,c2,vs,T,c3,by rw[aa8];exact c4,λi u c hu hc=> ?_⟩;obtain⟨c0,h3,h4|h4⟩:=TS _ _ _ _ _ _ hc
  ·rw[h4];exact c5 i u c0 hu h3
  ·rw[h4];exact(c5 i u c0 hu h3).nrm
 |_=>exact h2.c7 n _ (by rw[aoy,J];rfl)
def mA(s:St)(live:apf Nat)(m:Nat)(ks:apf Nat)(kn:apf (Nat×Nat)):aph St:=
 bif cm m s.h.length&&(live.all λk=>((bn s.t k).bo m).aE m)&&(((s.h.take m).map (aq.qE m)).all (aq.vj m))then some ⟨s.n,live.map λk=>(k,bif ks.any (·==k)then(bn s.t k).bo m else(bn s.t k).fin m),pF kn 0 ((s.h.take m).map (aq.qE m))⟩else none
theorem Te{h:apf aq}{m:Nat}(hd:ja m (h.take m)):(h.take m).map (aq.qE m)=(h.take m).map (aq.bo m):=aoW λB hB=>adW (hd.mem B hB)
theorem W8{h:apf aq}{m:Nat}(hd:ja m (h.take m))(hl:((h.take m).map (aq.qE m)).all (aq.vj m)=true):((h.take m).map (aq.bo m)).all (aq.aE m)=true:=by
 rw[aoR]at hl ⊢;intro B hB;obtain⟨B',J,rfl⟩:=List.mem_map.1 hB;exact amr (hd.mem B' J) (hl _ (List.mem_map.2 ⟨B',J,rfl⟩))
section
variable {P:api} {r:aph Nat} {n N0:Nat} {G:Gh} {w:apk} {a:Act} {s s':St} {Q Q':Exit->St->Prop} {live:apf Nat} {m:Nat} {ks:apf Nat} {kn:apf (Nat×Nat)}
theorem cV.mA(hs:cV G w a s)(hd:ja m (s.h.take m))(h:mA s live m ks kn=some s'):cV (G.cut m) w a s':=by
 unfold Go.Proofs.YtpeecnpmcbnahaaGreatDoor.mA at h;obtain⟨hb,rfl⟩:=eB h;rw[aot,aot]at hb;have hm:=hs.mask (live:=live) ⟨da.1 hb.1.1,hb.1.2,W8 hd hb.2⟩;refine⟨hs.size,λi=> ?_,by show bN _ _ (pF kn 0 ((s.h.take m).map (aq.qE m)));rw[Te hd];exact afl kn hm.inv,hs.df⟩;have:=hm.tmp i
 change aF _ _ _ (bn (live.map λk=>(k,(bn s.t k).bo m)) i)at this
 rw[tc (λk=>(bn s.t k).bo m)]at this;show aF _ _ _ (bn (live.map λk=>(k,bif ks.any (·==k)then(bn s.t k).bo m else(bn s.t k).fin m)) i);rw[tc (λk=>bif ks.any (·==k)then(bn s.t k).bo m else(bn s.t k).fin m)];split at this
 ·rename_i hi
  rw[if_pos hi];cases ks.any (·==i)with
  |true=>exact this
  |false=>exact this.nrm
 ·rename_i hi;rw[if_neg hi];exact .dead _
theorem NV{c:Code}{ι:Type}(live:apf Nat)(m:Nat)(ks:apf Nat)(kn:apf (Nat×Nat))(st:ι->St)(I:ι->Prop)(μ:ι->Nat)(i0:ι)(hm:N0<=m)(h0:ja m (s.h.take m)/\Go.Proofs.YtpeecnpmcbnahaaGreatDoor.mA s live m ks kn=some (st i0))(hI:I i0)
 (round:∀i,I i->bA P r N0 c (iU (λs'=>∃i',(ja m (s'.h.take m)/\Go.Proofs.YtpeecnpmcbnahaaGreatDoor.mA s' live m ks kn=some (st i'))/\I i'/\μ i'<μ i) Q) (st i)):bA P r N0 (.loop c) Q s:=by
 constructor
 intro G w a n hs _;refine SQ (λ(i:ι) a' w'=>∃G',I i/\bM N0 G w G' w'/\N0<=G'.N/\cV G' w' a' (st i)) μ i0 ⟨G.cut m,hI,qn _ _ _ _,hm,hs.mA h0.1 h0.2⟩ ?_;rintro i a' w' ⟨G',hi,hE,hN,cC⟩;refine wpIn_mono ((round i hi).run G' w' a' n cC hN) λe a1 w1 hn=> ?_;obtain⟨G1,s1,jb,gu,fg,hq⟩:=hn;cases e with
 |normal=>
  obtain⟨i',J,h2,h3⟩:=hq;exact⟨i',⟨G1.cut m,h2,(hE.trans jb).trans (qn _ _ _ _),hm,fg.mA J.1 J.2⟩,h3⟩
 |_=>exact⟨G1,s1,hE.trans jb,gu,fg,hq⟩
theorem GQ{c:Code}(live:apf Nat)(m:Nat)(ks:apf Nat)(kn:apf (Nat×Nat))(hm:N0<=m)(h0:ja m (s.h.take m)/\Go.Proofs.YtpeecnpmcbnahaaGreatDoor.mA s live m ks kn=some s')(h:bA P r N0 c Q s'):bA P r N0 c Q s:=by
 constructor
 intro G w a n hs _;exact wpIn_mono (h.run (G.cut m) w a n (hs.mA h0.1 h0.2) hm) λ_ _ _ hn=>hn.trans (qn N0 G w m)
theorem aj7{c y:Code}{ι:Type}(live:apf Nat)(m:Nat)(ks:apf Nat)(kn:apf (Nat×Nat))(st:ι->St)(I:ι->Prop)(hm:N0<=m)(hc:bA P r N0 c (iU (λs'=>∃i,(ja m (s'.h.take m)/\Go.Proofs.YtpeecnpmcbnahaaGreatDoor.mA s' live m ks kn=some (st i))/\I i) Q) s)(hy:∀i,I i->bA P r N0 y Q' (st i)):bA P r N0 c (iU (λs=>bA P r N0 y Q' s) Q) s:=by
 refine hc.mono λe s' h=> ?_;cases e with
 |normal=>obtain⟨i,J,h2⟩:=h;exact GQ live m ks kn hm J (hy i h2)
 |_=>exact h
end
def Ef(P:api)(rs:apf ResultVar)(m:Nat)(s:St):aph (AV×apf aq):=
 match sT P s rs with
 |some l=>bif cm m s.h.length&&((jY l).bo m).aE m&&(((s.h.take m).map (aq.qE m)).all (aq.vj m))then some (((jY l).bo m).nrm,((s.h.take m).map (aq.qE m)).map aq.BB)else none
 |none=>none
def Zo(P:api)(fn:Func)(m:Nat)(R:AV)(H:apf aq):Exit->St->Prop
 | .normal,s=>ja m (s.h.take m)/\Ef P fn.results.toList m s=some (R,H)
 | .ret,s=>ja m (s.h.take m)/\Ef P fn.results.toList m s=some (R,H)
 |_,_=>False
theorem Tl{P:api}{s:St}{fn:Func}{m:Nat}{R:AV}{H:apf aq}(h:ja m (s.h.take m)/\Ef P fn.results.toList m s=some (R,H)):rC P fn m (λr h'=>r.nrm=R/\h'.map aq.BB=H) s:=by
 obtain⟨hd,h⟩:=h;unfold Ef at h;split at h
 ·next l e=>
  obtain⟨hb,he⟩:=eB h;cases he
  simp only[aot,da]at hb;exact Cr _ _ _ e ⟨hb.1.1,hb.1.2,W8 hd hb.2,rfl,by rw[Te hd]⟩
 ·cases h
theorem uY{P:api}{s:St}{fn:Func}{m:Nat}{R:AV}{H:apf aq}(hd:ja m (s.h.take m))(h:Ef P fn.results.toList m s=some (R,H)):Zo P fn m R H .ret s:=⟨hd,h⟩
theorem DW{P:api}{f:FuncId}{fn:Func}{c:Code}{args:apf AV}{h H:apf aq}{R:AV}(m:Nat)(hf:P.funcs[f]?=some fn)(hb:fn.body=some c)(hn:(fn.name== "runtime.NumGoroutine")=false)(hm:h.length<=m)
 (hw:bA P none h.length c (Zo P fn m R H) {n:=args.length+(fn.ntmps-args.length),t:=lD 0 args,h:=h}):cO P f args h λr1 J=>r1=R/\J=H:=by
 have h0:=uA (P:=P) (f:=f) (args:=args) (h:=h) (K:=λr h'=>r.nrm=R/\h'.map aq.BB=H) m hf hb hn hm (hw.mono λe s hq=>by
  cases e with
  |normal=>exact Tl hq
  |ret=>exact Tl hq
  |_=>exact hq.elim)
 refine⟨h0.1,λG w vs hi hl hr=>(h0.2 G w vs hi hl hr).mono λe w' hp=> ?_⟩;obtain⟨v,G',x,h',rfl,hE,hN,dO,hv,rfl,rfl⟩:=hp;exact⟨v,G',x.nrm,_,rfl,hE,hN,ZC dO,hv.nrm,rfl,rfl⟩
mutual
def AV.uE(b:Nat):AV->apf (Nat×Nat×Nat×Nat)
 | .vec n o len L k=>bif n==b then[(o,len,L,k)]else[]
 | .agg cs=>AV.ud b cs
 | .bg cs=>AV.ud b cs
 | .fn _ cs=>AV.ud b cs
 |_=>[]
def AV.ud(b:Nat):apf AV->apf (Nat×Nat×Nat×Nat)
 |[]=>[]
 |x::l=>x.uE b++AV.ud b l
end
mutual
def AV.mlt(b:Nat)(xs:apf (apf D)):AV->AV
 | .vec n o len L k=>bif n==b then .d (.sl xs)else .vec n o len L k
 | .dn n i j L k=>bif n==b then .dead else .dn n i j L k
 | .agg cs=> .agg (AV.nv b xs cs)
 | .bg cs=> .bg (AV.nv b xs cs)
 | .fn f cs=> .fn f (AV.nv b xs cs)
 |x=>x
def AV.nv(b:Nat)(xs:apf (apf D)):apf AV->apf AV
 |[]=>[]
 |x::l=>x.mlt b xs::AV.nv b xs l
end
mutual
theorem Ua{b kk:Nat}{xs:apf (apf D)}:∀x:AV,(∀q∈x.uE b,q=(0,xs.length,xs.length,kk))->x.dj b kk xs=x.mlt b xs
 | .vec n o len L k,h=>by
   unfold AV.dj AV.mlt;unfold AV.uE at h;cases e:n==b with
   |false=>rfl
   |true=>
    rw[e]at h;have:=h _ aox;cases this
    simp
 | .agg cs,h=>by unfold AV.dj AV.mlt;rw[yX cs (by unfold AV.uE at h;exact h)]
 | .bg cs,h=>by unfold AV.dj AV.mlt;rw[yX cs (by unfold AV.uE at h;exact h)]
 | .fn f cs,h=>by unfold AV.dj AV.mlt;rw[yX cs (by unfold AV.uE at h;exact h)]
 | .dn n i j L k,h=>by unfold AV.dj AV.mlt;rfl
 | .d _,_=>by simp [AV.dj,AV.mlt]
 | .ptr ..,_=>by simp [AV.dj,AV.mlt]
 | .bj ..,_=>by simp [AV.dj,AV.mlt]
 | .own ..,_=>by simp [AV.dj,AV.mlt]
 | .full _,_=>by simp [AV.dj,AV.mlt]
 | .row ..,_=>by simp [AV.dj,AV.mlt]
 | .mp _,_=>by simp [AV.dj,AV.mlt]
 | .cn _,_=>by simp [AV.dj,AV.mlt]
 | .hid _,_=>by simp [AV.dj,AV.mlt]
 | .dead,_=>by simp [AV.dj,AV.mlt]
theorem yX{b kk:Nat}{xs:apf (apf D)}:∀l:apf AV,(∀q∈AV.ud b l,q=(0,xs.length,xs.length,kk))->AV.qe b kk xs l=AV.nv b xs l
 |[],_=>by simp [AV.qe,AV.nv]
 |x::l,h=>by
  unfold AV.ud at h;unfold AV.qe AV.nv;rw[Ua x λq hq=>h q (List.mem_append_left _ hq),yX l λq hq=>h q (List.mem_append_right _ hq)]
end
theorem akY{c L kk:Nat}{xs:apf (apf D)}(hL:xs.length=L){l:apf (Nat×Nat×Nat×Nat)}(h:l=List.replicate c (0,L,L,kk)):∀q∈l,q=(0,xs.length,xs.length,kk):=λq hq=>by
 rw[h,List.mem_replicate]at hq;rw[hq.2,hL]
theorem W7{G:Gh}{w:apk}{h:apf aq}(hi:bN G w h)(e k:Nat):bM G.N G w (G.e8 (.slice none 0 0) 0 none) w/\G.N<=(G.e8 (.slice none 0 0) 0 none).N/\bN (G.e8 (.slice none 0 0) 0 none) w (h++[.vec e k []])/\aF (G.e8 (.slice none 0 0) 0 none) w (.slice none 0 0) (.vec h.length 0 0 0 k):=by
 obtain⟨a1,a2⟩:=OU (w':=w) hi (.vec e k []) (λ_ _=>rfl) (.slice none 0 0) 0 none ⟨λ_ _=>rfl,aoC _,rfl,rfl,rfl⟩ (λ_ h=>by cases h)
  ⟨by simp [Gh.e8],Nat.zero_le _,λc hc=>absurd hc ao7, .inl ⟨by simp [Gh.e8],rfl,none,by simp [Gh.e8]⟩⟩
 refine⟨a1,Nat.le_succ _,a2, .vec _ 0 0 0 k (by rw[hi.len];exact apd _) ⟨none,0,0,rfl⟩ (Nat.zero_le _) λ_=>⟨aoC _,⟨none,0,rfl,aoC _,Nat.zero_le _,aoC _,λh=>absurd h (ao5 _)⟩,λ_ _=> ?_⟩⟩;simp [Gh.e8,hi.len]
section
variable {P:api} {r:aph Nat} {N0:Nat} {s:St} {Q:Exit->St->Prop} {c:Code}
theorem anf(t e k:Nat)(hx:bn s.t t= .d (.v (.slice none 0 0)))(h:bA P r N0 c Q ⟨s.n,(t, .vec s.h.length 0 0 0 k)::s.t,s.h++[.vec e k []]⟩):bA P r N0 c Q s:=by
 constructor
 intro G w a n hs hN;obtain⟨a1,a2,a3,a4⟩:=W7 hs.inv e k;have hv:=hs.tmp t;rw[hx]at hv;have hv:=hv.val;have cC:cV (G.e8 (.slice none 0 0) 0 none) w a ⟨s.n,(t, .vec s.h.length 0 0 0 k)::s.t,s.h++[.vec e k []]⟩:=by
  refine⟨hs.size,λi=> ?_,a3,hs.df.keep a1⟩;show aF _ _ _ (bn ((t, .vec s.h.length 0 0 0 k)::s.t) i);rw[k8];split
  ·next e=>exact e▸hv▸a4
  ·exact(hs.tmp i).keep a1 a2
 exact wpIn_mono (h.run _ w a n cC (aoJ hN a2)) λ_ _ _ hn=>hn.trans (a1.less hN)
theorem ajG(b i e k:Nat){cs:apf AV}(hb:s.h[b]?=some (.cells cs))(hx:cs[i]?=some (.d (.v (.slice none 0 0))))
 (h:bA P r N0 c Q ⟨s.n,s.t,(s.h++[aq.vec e k []]).set b (aq.cells (cs.set i (AV.vec s.h.length 0 0 0 k)))⟩):bA P r N0 c Q s:=by
 constructor
 intro G w a n hs hN;obtain⟨J,h2,vs,T,h3,h4,h5⟩:=hs.inv.c7 _ _ hb;have hi:i<cs.length:=(aor.1 hx).1;have hv:vs[i]?=some vs[i]:=aoN (by omega);have sP:=(h5 i _ _ hv hx).val;obtain⟨a1,a2,a3,a4⟩:=W7 hs.inv e k;have aN:=(aor.1 hb).1;have cC:cV (G.e8 (.slice none 0 0) 0 none) w a ⟨s.n,s.t,(s.h++[aq.vec e k []]).set b (aq.cells (cs.set i (AV.vec s.h.length 0 0 0 k)))⟩:=by
  refine⟨hs.size,λj=>(hs.tmp j).keep a1 a2,Vc a3 (by rw[aoB aN];exact hb) (by rw[List.length_set]) λfS T' B5 j u c hu hc=> ?_,hs.df.keep a1⟩;have e1:(G.e8 (.slice none 0 0) 0 none).aR b=G.aR b:=rfl;rw[e1,h3]at B5;cases B5
  by_cases e2:i=j
  ·subst e2;rw[aoU hi]at hc;cases hc
   rw[hv]at hu;cases hu
   rw[sP];exact a4
  ·rw[aoZ e2]at hc;exact(h5 j u c hu hc).keep a1 a2
 exact wpIn_mono (h.run _ w a n cC (aoJ hN a2)) λ_ _ _ hn=>hn.trans (a1.less hN)
theorem aeg(b:Nat)(h:bA P r N0 c Q ⟨s.n,s.t,s.h.set b .gone⟩):bA P r N0 c Q s:=by
 constructor
 intro G w a n hs hN;have hi:=hs.inv;have eG:∀n x,bK (s.h.set b .gone) G n=some x->bK s.h G n=some x:=λn x hx=>by
  obtain⟨B,hB,J⟩:=nm hx;by_cases e:b=n
  ·subst e;have aN:=(aor.1 hB).1;rw[List.length_set]at aN;rw[aoU aN]at hB;cases hB;cases J
  ·rw[aoZ e]at hB;rw[dA hB];exact J
 refine h.run G w a n ⟨hs.size,hs.tmp,⟨by rw[List.length_set];exact hi.len,hi.z,hi.S,λn B hB=> ?_,λm n x J h2=>hi.inj m n x (eG m x J) (eG n x h2),hi.gl⟩,hs.df⟩ hN;by_cases e:b=n
 ·subst e;have aN:=(aor.1 hB).1;rw[List.length_set]at aN;rw[aoU aN]at hB;cases hB;trivial
 ·rw[aoZ e]at hB;exact hi.c7 n B hB
end
theorem yZ{α:Type}{f:α->apf D}{E:apf α}{L:Nat}(h:E.length=L):(cd (E.map f)).length=L:=by rw[ES,aow,h]
theorem UJ{cs:apf (apf AV)}{z:Int}{L i:Nat}(h:cs.length=L)(h0:0<=z)(J:z<(L:Int))(h2:z.toNat=i):cs.length=L/\0<=z/\z<(L:Int)/\i=0+z.toNat:=⟨h,h0,J,by rw[h2,aoL]⟩
theorem aeq{α:Type}{f:α->apf D}{E:apf α}{L i:Nat}{x:α}(h:E.length=L)(hx:E[i]?=some x):(cd (E.map f)).length=L/\(cd (E.map f))[i]?=some ((f x).map .d):=⟨yZ h,P3 (by rw[aoy,hx];rfl)⟩
theorem ahZ{α:Type}{f:α->apf D}{E:apf α}{L i j:Nat}{x y:α}{zs:apf AV}(h:E.length=L)(hx:E[i]?=some x)(hy:(f y).map AV.d=iW ((f x).map .d) j zs):(cd (E.map f)).length=L/\(cd (E.map f))[i]?=some ((f x).map .d)/\cd ((E.set i y).map f)=(cd (E.map f)).set i (iW ((f x).map .d) j zs):=
 ⟨yZ h,P3 (by rw[aoy,hx];rfl),by rw[List.map_set,ai2,hy]⟩
theorem Hd{α:Type}{f:α->apf D}{E ys:apf α}{h:apf aq}{k L len' L' cW:Nat}{y:AV}(hE:E.length=L)(hy:y.fI=some (ys.map f))(hk:∀c∈ys.map f,c.length=k)(hn:ys.length=len')(hL:L+ys.length=L')(hm:L'<=maxLen)(hb:L'*cW<=140737488355328):
 (cd (E.map f)).length=L/\AZ h k y (cd (ys.map f))/\L'=L+(cd (ys.map f)).length/\((0+L+(cd (ys.map f)).length<=L/\L'=L/\cd ((E++ys).map f)=(cd (E.map f)).take (0+L)++cd (ys.map f)++(cd (E.map f)).drop (0+L+(cd (ys.map f)).length))\/(0=0/\L=L/\L'=L+(cd (ys.map f)).length/\cd ((E++ys).map f)=cd (E.map f)++cd (ys.map f)/\L'<=maxLen/\L'*cW<=140737488355328)):=by
 have hl:(cd (ys.map f)).length=ys.length:=by rw[ES,aow]
 refine⟨yZ hE, .inl ⟨_,hy,hk,rfl⟩,by rw[hl,hL], .inr ⟨rfl,rfl,by rw[hl,hL],by rw[List.map_append,adY],hm,hb⟩⟩
theorem ae7{xs:apf (apf D)}{h:apf aq}{k cW:Nat}{y:AV}(hk:∀c∈xs,c.length=k)(hy:y.fI=some xs)(hm:xs.length<=maxLen)(hb:xs.length*cW<=140737488355328):
 ([]:apf (apf D))=[]/\AZ h k y (cd xs)/\cd xs=cd xs/\xs.length=(cd xs).length/\xs.length=(cd xs).length/\xs.length<=maxLen/\xs.length*cW<=140737488355328:=⟨rfl, .inl ⟨xs,hy,hk,rfl⟩,rfl,(ES xs).symm,(ES xs).symm,hm,hb⟩
theorem anr{α:Type}{f:α->apf D}(hf:∀x,(f x).all D.zZ=true)(E:apf α):∀c∈E.map f,c.all D.zZ=true:=λc hc=>by
 obtain⟨x,_,rfl⟩:=List.mem_map.1 hc;exact hf x
theorem aiN{α:Type}{f:α->apf D}{E:apf α}{L:Nat}(h:E.length=L):(E.map f).length=L:=by rw[aow,h]
def Ol(o:Oper):Bool:=
 match o.op with
 | .call c=>match c.callee with
   | .value _=>false
   |_=>true
 |_=>true
def Jb:bX->Bool
 | .va _=>true
 |_=>false
def OZ(o:Oper)(a:bX):Bool:=K9 o||(Ol o&&((tB o||jy o&& !(cr o==0))|| !Jb a))
def Ej(o:Oper)(a:bX):Bool:=OZ o a||(!AN a&&(!Jb a&& !jy o))
def Fp(as:apf (Nat×bX)):Nat->apf Oper->Bool
 |_,[]=>true
 |j,o::l=>Ej o (iV as (3*j+1))&&Fp as (j+1) l
section
variable {P:api} {ops:Array Oper} {o:Oper} {j:Nat} {as:apf (Nat×bX)} {s s1:St} {l:apf (In×bX)} {K:St->Prop}
theorem aib(hn:Ol o=true)(h:qN P o K s):Bn P o K s:=by
 unfold Bn;unfold Ol at hn;split
 ·next c hO=>
  rw[hO]at hn;split
  ·next f hc=>simp only[hc]at hn;cases hn
  ·exact h
 ·exact h
theorem acD(h:nO P false o j as s=some (s1,l))(bS:gq P l)(hK:K s1)(hL:OZ o (iV as (3*j+1))=true):yc true P o K s:=by
 unfold nO at h;simp only[Bool.false_and,cond_false]at h;split at h
 ·next x h' i hr=>
  have fin:OK P i (iV as (3*j+1))->K ((s.wh h').put o.dst x)->yc true P o K s:=λJ h2=>by
   unfold OZ at hL;rw[Bool.or_eq_true]at hL;unfold DR at hr;split at hr
   ·next va e=>
    simp only[Bool.false_and,cond_false]at hr;split at hr
    ·next x2 RC p e2=>
     cases hr
     rcases hL with hL|hL
     ·exfalso;rw[e]at J;unfold K9 at hL;split at hL
      ·next c hO=>
       split at hL
       ·next t hc=>
        rw[hO]at e2;unfold iD at e2;simp only[hc]at e2;cases e2
       ·next t hc=>
        rw[hO]at e2;unfold iD at e2;simp only[hc]at e2;cases e2
       ·cases hL
      ·cases hL
     ·rw[e]at J hL;simp only[Jb,Bool.not_true,Bool.or_false,aot]at hL;cases J with|pr _ hp=>exact .inr (.inr (.inl ⟨(by
        have h3:=hL.2;rw[Bool.or_eq_true,aot,Bool.not_eq_true']at h3;exact h3.elim (λe=> .inr (by rw[e];rfl)) λe=> .inl ⟨e.1,by rw[e.2];rfl⟩),va,x,h',p,e2,hp,h2⟩))
    ·cases hr
   ·rcases hL with hL|hL
    ·exact .inr (.inl ⟨by unfold nq;rw[hL];rfl,x,h',h2,λC hC=>AX hr J hC⟩)
    ·rw[aot]at hL;exact .inl (aib hL.1 (AX (C:=λx h'=>K ((s.wh h').put o.dst x)) hr J h2))
  split at h
  ·next y hy=>
   obtain⟨m,e,h2,h3⟩:=L3 h bS;cases e
   have:=h2 (.eq x, .eq y) aox;cases this with|eq e=>subst e;exact fin h3 hK
  ·obtain⟨m,e,h2,h3⟩:=L3 h bS;cases e
   exact fin h3 hK
 ·cases h
theorem alm{dr v:Bool}{op:Op}{ρ:Operand->AV}{h:apf aq}{a:bX}(hv:Jb a=false):DR P dr v op ρ h a=uO P op ρ h a:=by
 cases a<;>first|rfl|cases hv
theorem VY(h:nO P false o j as s=some (s1,l))(bS:gq P l)(hK:K s1)(hL:Ej o (iV as (3*j+1))=true):yc true P o K s:=by
 unfold Ej at hL;rw[Bool.or_eq_true]at hL;rcases hL with hL|hL
 ·exact acD h bS hK hL
 ·rw[aot,aot,Bool.not_eq_true',Bool.not_eq_true',Bool.not_eq_true']at hL;obtain⟨J,h2,h3⟩:=hL;have h':nO P true o j as s=some (s1,l):=by
    unfold nO at h ⊢;rw[alm h2]at h ⊢;rw[J];exact h
  have:=Pb (dr:=true) h' bS hK;rcases this with h|⟨e,_⟩|⟨e,_⟩|h
  ·exact .inl h
  ·cases e
  ·exfalso;rcases e with e|e
   ·rw[h3]at e;exact absurd e.1 (by simp)
   ·cases e
  ·exact .inr (.inr (.inr h))
theorem aah(h:nD P ops false o j as s=some (s1,l))(bS:gq P l)(hK:K s1)(hL:Ej o (iV as (3*j+1))=true):iX ops o s (yc true P o K s) (K (s.put o.dst (.d (.v undef)))):=by
 unfold nD at h;split at h
 ·next hg=>unfold iX;rw[hg];exact VY h bS hK hL
 ·next g want hg=>
  obtain⟨dst,op,ty,pos,after,guard⟩:=o;simp only at hg;subst hg;split at h
  ·next b hb=>
   obtain⟨n,e,h2,h3⟩:=zK h bS;have h4:=OK.GJ (h3 (_,_) aox);rw[IP,h4];refine⟨λe2=> ?_,λe2=> ?_⟩
   ·subst e2;simp only[BEq.rfl,cond_true]at e;exact VY e h2 hK hL
   ·subst e2;have:((!want)==want)=false:=by cases want<;>rfl
    rw[this]at e;simp only[cond_false]at e;cases e
    exact hK
  ·next hb=>
   obtain⟨n,e,h2,h3⟩:=zK h bS;cases e
   have h4:=h3 (_,_) aox;have h5:vy ops g s.t= .d (.v undef):=by
    generalize vy ops g s.t=z at h4;cases h4;rfl
   rw[IP,h5];exact hK
  ·cases h
theorem Nk:∀(ol:apf Oper)(j:Nat)(s:St)(l:apf (In×bX)),oG P ops false ol j as s=some (s1,l)->gq P l->Fp as j ol=true->K s1->vi true P ops ol K s
 |[],_,s,l,h,_,_,hK=>by cases h;exact hK
 |o::rest,j,s,l,h,bS,hL,hK=>by
  unfold Fp at hL;rw[aot]at hL;unfold oG at h;split at h
  ·next s2 m hg=>
   obtain⟨n,e,h2,h3⟩:=zK h bS;exact aah (K:=vi true P ops rest K) hg h3 (Nk rest (j+1) s2 n e h2 hL.2 hK) hL.1
  ·cases h
theorem ZL:∀(ol pre:apf Oper),sa (pre++ol).toArray ((List.range ol.length).map (pre.length+·))=ol
 |[],_=>rfl
 |o::l,pre=>by
  rw[aou,List.range_succ_eq_map,aoQ,List.map_map];unfold sa;have J:(pre++o::l).toArray[pre.length+0]?=some o:=by simp
  rw[J];simp only;have h2:=ZL l (pre++[o]);rw[aoI]at h2;simp only[List.singleton_append,aos,aou,aoD,aoL]at h2
  congr 1
  rw[show(pre.length+·)∘Nat.succ=(pre.length+1+·)from by funext i;simp only[Function.comp];omega];exact h2
theorem Uu(ol:apf Oper):sa ol.toArray (List.range ol.length)=ol:=by
 have:=ZL ol []
 simpa using this
end
section
variable {P:api} {r:aph Nat} {N0 id n:Nat} {ol:apf Oper} {y:Code} {t:apf (Nat×AV)} {h:apf aq} {Q Q':Exit->St->Prop}
theorem rle(hm:P.follows .mixedOrders=true)(hl:D4 true ol.toArray (List.range ol.length)=true)(ay:apf (Nat×Ob P))(Δ:apf (Nat×AV))(h':apf aq)(e:Fp (iY ay) 0 ol=true/\xp P false ol (iY ay) ⟨n,t,h⟩=some (Δ++t,h',jv ay))(k:Q .normal ⟨n,Δ++t,h'⟩):bA P r N0 (.region id ol.toArray true) Q ⟨n,t,h⟩:=by
 obtain⟨e0,e⟩:=e;refine Ti (m:=true) (List.range ol.length) hm (by simp) hl ?_;rw[Uu];exact Nk ol 0 _ _ (Qs e) (pz ay) e0 k
end
section
variable {P:api} {r:aph Nat} {N0:Nat} {Q:Exit->St->Prop} {c:Code} {o:Oper} {K:St->Prop}
theorem Iq{n d:Nat}{t:apf (Nat×AV)}{h h':apf aq}{x:AV}(hx:Aa P o.op (ev ⟨n,t,h⟩) h=some (x,h'))(hd:o.dst=some d)(hn:Nat.ble n d=false)(hK:K ⟨n,(d,x)::t,h'⟩):oY P o K ⟨n,t,h⟩:=by
 refine .inr (.inr (.inr (.inr (.inl ⟨x,h',hx,?_⟩))));have aN:d<n:=Nat.lt_of_not_le λhle=>by rw[Nat.ble_eq_true_of_le hle]at hn;cases hn
 rw[hd,ri (s:=St.wh ⟨n,t,h⟩ h') aN];exact hK
theorem amL{n d:Nat}{t:apf (Nat×AV)}{h h':apf aq}{x:AV}{p:Prop}(a:VA)(hx:iD P o.op (ev ⟨n,t,h⟩) h a=some (x,h',p))(hp:p)(hd:o.dst=some d)(hn:Nat.ble n d=false)(hK:K ⟨n,(d,x)::t,h'⟩):oY P o K ⟨n,t,h⟩:=by
 refine .inl ⟨a,x,h',p,hx,hp,?_⟩;have aN:d<n:=Nat.lt_of_not_le λhle=>by rw[Nat.ble_eq_true_of_le hle]at hn;cases hn
 rw[hd,ri (s:=St.wh ⟨n,t,h⟩ h') aN];exact hK
theorem ajd{ρ:Operand->AV}{h:apf aq}{q:Call}{x y:Operand}{T U:TypeId}{e k m cW:Nat}{kq kn:IntKind}{z:apj}(hc:q.callee= .builtin .append)(J:q.args.toList=[x,y])(h2:q.argTypes.toList=[T,U])(hx:(ρ x).isNil=true)(hT:eY P T=some (e,k))(hU:qS P U=some kn)(hy:ρ y= .d (.v (.int kq (Int.ofNat m))))(hz:iR P e=some z)(hb:qQ P e=some cW)(g1:1<=m)(g2:1<=k)(g3:z.cells.toList.length=k)(g4:m<=maxLen)(g5:m*cW<=140737488355328):
 Aa P (.call q) ρ h=some (.vec h.length 0 m m k,h++[.vec e k (List.replicate m (z.cells.toList.map λu=> .d (.v u)))]):=by
 unfold Aa;simp only[hc,J,h2,hT,hU,hy,hz,hb,hx,da.2 g1,da.2 g2,da.2 g4,da.2 g5,g3,apa,Bool.and_self,cond_true]
theorem ac2{n t e k L:Nat}{ts:apf (Nat×AV)}{cs:apf (apf AV)}(cv:N0=0)(ht:bn ts t= .vec 0 0 0 L k)(hL:cs.length=L)(h:bA P r N0 c Q ⟨n,[(t, .own 0 [])],[.front e k 0]⟩):bA P r N0 c Q ⟨n,ts,[.vec e k cs]⟩:=by
 subst cv;constructor
 intro G w a m hs hN;have hi:=hs.inv;have mw:([aq.vec e k cs]:apf aq)[0]?=some (.vec e k cs):=rfl;have hGN:G.N=1:=hi.len.symm;have hv:=hs.tmp t;rw[ht]at hv;obtain⟨AE,⟨A,cc,q1,q2,q3,q4,q5⟩,XT⟩:=hv.vc hi mw hL;obtain⟨b1,b2,b3,b4⟩:=hi.c7 0 _ mw;have Zc:∀(A:aph Addr),cc<=maxLen->dh G.S w (.slice A 0 cc) (.sl []):=λA hc=> .sl A 0 0 cc 0 [] (λ_ _=>undef) (λh=>absurd rfl h) (Nat.zero_le _) hc (λ_ h=>absurd h ao7) (λi j hi=>absurd hi (aoT _)) (λi j x d hx=>by simp at hx);obtain⟨G',gM⟩:∃G',G'={G with sg:=λi=>if i=0 then a.tmps.getD t undef else G.sg i,fl:=λi=>if i=0 then 0 else G.fl i}:=⟨_,rfl⟩;have hE:bM 0 G w G' w:=by
  subst gM;exact⟨aoC _,λ_ _ h=>h,λ_ _ _=>rfl,λ_ h=>absurd h (aoT _),λ_ h=>absurd h (aoT _),zsame rfl,λ_ _=>rfl,rfl,rfl,rfl,λ_ _ h=> .inl h⟩
 have hinv:bN G' w [.front e k 0]:=by
  refine⟨by rw[gM];exact hi.len,by rw[gM];exact hi.z,by rw[gM];exact hi.S,λj B hB=> ?_,λi j x J h2=> ?_,by rw[gM];exact hi.gl⟩
  ·match j with
   |0=>
    cases hB
    refine⟨by rw[gM];simp,Nat.zero_le _,?_⟩;rcases b4 with⟨d1,d2,A',d3⟩|⟨g,cap,cur,d1,d2,d3,d4,d5,d6,d7,d8,d9⟩
    ·left
     refine⟨by rw[gM];exact d1,?_⟩;have wo:L=0:=by rw[<-hL,d2];rfl
     have:=XT rfl wo.symm;rw[gM];exact⟨A',by simp only[if_true];rw[this];exact d3⟩
    ·by_cases wo:L=0
     ·have:=XT rfl wo.symm
      right
      refine⟨g,cap,cur,by rw[gM];exact d1,?_,by rw[gM];exact d3,d4,Nat.zero_le _,d6,d7,λo _=>by rw[gM];exact d8 o⟩;rw[gM];simp only[if_true];rw[this,d2,hL,wo]
     ·obtain⟨g',Fm,s1,rfl,s3⟩:=q5 (Nat.pos_of_ne_zero wo);rw[d2]at s1;cases s1
      right
      have:cc=cap:=by omega
      subst this;refine⟨g,cc,cur,by rw[gM];exact d1,?_,by rw[gM];exact d3,d4,Nat.zero_le _,d6,d7,λo _=>by rw[gM];exact d8 o⟩;rw[gM];simp only[if_true];rw[q1,Nat.zero_mul]
   |j+1=>simp at hB
  ·have hj:∀i x,bK [aq.front e k 0] G' i=some x->i=0:=λi x h=>by
    obtain⟨B,hB,_⟩:=nm h
    match i with
    |0=>rfl
    |i+1=>simp at hB
   rw[hj i x J,hj j x h2]
 refine wpIn_mono (h.run G' w a m ⟨hs.size,λi=> ?_,hinv,?_⟩ (Nat.zero_le _)) λ_ _ _ hn=>hn.trans hE
 ·show aF G' w _ (bn [(t, .own 0 [])] i);rw[k8];split
  ·next e=>
   subst e;refine .own 0 [] (by rw[gM];show 0<G.N;omega) ?_ (Nat.zero_le _) (λ_=>by rw[gM];simp);rw[q1,gM];exact Zc A q3
  ·exact .dead _
 ·have:=hs.df;rw[gM];exact this
end
end Go.Proofs.YtpeecnpmcbnahaaGreatDoor
namespace Go.Proofs.YtpeecnpmcbnahaaGreatDoor.MK
open Go.RowKit
set_option linter.unusedVariables false
def aq(w:apk)(g:Nat)(t:TypeId)(cs:apf apj):Prop:=w.heap[g]?=some (.cells cs.toArray t (0,0))
section
variable {w w':apk} {g:Nat} {t:TypeId} {cs:apf apj}
end
section
variable {P:api} (w:apk)
end
section
variable {P:api} {w:apk}
end
section
variable {S E base:Nat} {w w' w'':apk}
end
end Go.Proofs.YtpeecnpmcbnahaaGreatDoor.MK
namespace Go.Proofs.YtpeecnpmcbnahaaGreatDoor
open Go.RowKit
set_option linter.unusedSimpArgs false
set_option linter.unusedVariables false
section
variable {P:api}
end
end Go.Proofs.YtpeecnpmcbnahaaGreatDoor
