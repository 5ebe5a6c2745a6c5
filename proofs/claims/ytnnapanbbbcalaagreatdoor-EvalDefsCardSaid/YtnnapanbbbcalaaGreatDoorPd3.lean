/-
  Part 3 of the proof: AbsRun, AbsFrz, AbsInst, AbsExec, AbsExecV, AbsRange, AbsAny, AbsExec2, AbsExec3, AbsYield, AbsTree, AbsVecX, MemK, AbsVecD.
-/
import Derived.Test.YtnnapanbbbcalaaGreatDoorPd2
import Derived.WalkKit
import Derived.Laws.CopyOwn
import Derived.Deep.AppendLies
import Derived.Lib.AppendZerosOnto
import Derived.Lib.Overlaps
import Derived.Lib.Hide
set_option linter.defProp false
namespace Go.Proofs.YtnnapanbbbcalaaGreatDoor
open Go.RowKit
def ar.vd:ar->Prop
 | .vec _ _ cs=>(∀f,cs.map (AV.ib f)=cs)/\∀m,cs.all (·.all (AV.aN m))=true
 |_=>True
def aqb(f:Nat->Nat)(c:I D):AV.ib f (c.map AV.d)=c.map AV.d:=by
 induction c with
 |nil=>simp [AV.ib]
 |cons x c b=>simp only[ZS,AV.ib,AV.aW,b]
def ag4(xs:I (I D)):(∀f,(cg xs).map (AV.ib f)=cg xs)/\∀m,(cg xs).all (·.all (AV.aN m))=true:=by
 refine⟨λf=> ?_,λm=>by simp [cg,AV.aN]⟩;unfold cg;rw[List.map_map];exact Yy λc _=>aqb f c
def VD:I ar->Prop
 |[]=>True
 |B::l=>B.vd/\VD l
def dK:VD []:=trivial
def zT{e k:Nat}{xs:I (I D)}{l:I ar}(h:VD l):VD (.vec e k (cg xs)::l):=⟨ag4 xs,h⟩
def VD.mem:∀{l:I ar},VD l->∀B∈l,B.vd
 |[],_,B,b=>by cases b
 |_::_,h,B,b=>by
  rcases ZY.1 b with rfl|b
  ·exact h.1
  ·exact VD.mem h.2 B b
def ar.te(f:Nat->Nat):ar->ar
 | .vec e k cs=>.vec e k cs
 |B=>B.aW f
def Xd{f:Nat->Nat}{B:ar}(h:B.vd):B.te f=B.aW f:=by
 cases B with
 |vec e k cs=>simp only[ar.te,ar.aW];rw[h.1 f]
 |_=>rfl
def ant{f:Nat->Nat}{l:I ar}(h:VD l):l.map (ar.te f)=l.map (ar.aW f):=Yy λB b=>Xd (h.mem B b)
def ar.vC(m:Nat):ar->Bool
 | .vec .. =>true
 |B=>B.aN m
def am2{m:Nat}{B:ar}(h:B.vd)(b:B.vC m=true):B.aN m=true:=by
 cases B with
 |vec e k cs=>exact h.2 m
 |_=>exact b
def aoS{m:Nat}{l:I ar}(h:VD l)(b:l.all (ar.vC m)=true):l.all (ar.aN m)=true:=by
 rw[Zb]at b ⊢;exact λB d=>am2 (h.mem B d) (b B d)
def ahI{f:Nat->Nat}{l:I ar}(h:VD l):(l.map λB=>some (B.te f))=l.map λB=>some (B.aW f):=Yy λB b=>congrArg some (Xd (h.mem B b))
inductive In
 |none
 |bit (x:AV)
 |eq (x:AV)
 |el (xs:List (List D)) (i:Int)
 |lt (z:Int) (n:Nat)
 |len (xs:List (List D))
 |sub (xs:List (List D)) (lo:Int) (hi:Option Int) (k:Nat)
 |app (xs ys:List (List D)) (len k dy:Nat)
 |nz (b:Int)
 |nn (b:Int)
 |str (b:ByteArray) (lo hi:Int)
 |cat (n:Nat)
 |pr (p:Prop)
 |sd (p:Sd)
 |jq (xs:List (List D))
 |Ll (c:List D) (z:Int) (n:Nat)
 |ch (b:ByteArray) (i:Int)
 |call (f:FuncId) (args:List AV)
 |kV (f:FuncId) (args:List AV) (h:List ar)
 |Ft (c:ga) (args:List AV)
 |pA (f:FuncId) (args:List AV) (h:List ar)
def Re(P:dg)(c:ga)(args:I AV)(r:AV):Prop:=∃g as,c.app args=some (g,as)/\gZ P g as (·=r)
inductive cB
 |none
 |bit (b:Bool)
 |Fl
 |eq (y:AV)
 |el (c:List D)
 |ok
 |nat (n:Nat)
 |list (ys:List (List D))
 |aaD (ys:List (List D)) (n:Nat)
 |byte (c:UInt8)
 |bytes (s:ByteArray)
 |one (d:D)
 |va (a:VA)
 |ret (r:AV)
 |VY (r:AV) (h:List ar)
 |Qb (l:List Nat) (fK:List AV) (H:List ar) (r:AV) (H':List ar)
 |rq (l:List Nat) (fK:List AV) (H:List ar) (r:AV)
 |FE (l:List Nat) (fK:List AV) (H:List ar) (r:AV) (H':List ar)
inductive OK(P:Program):In->cB->Prop
 |none {o:cB}:OK P .none o
 |bit {e b:Bool} (h:e=b):OK P (.bit (.d (.v (.bool e)))) (.bit b)
 |Fl:OK P (.bit (.d (.v undef))) .Fl
 |eq {x y:AV} (h:x=y):OK P (.eq x) (.eq y)
 |el {xs:List (List D)} {i:Int} {c:List D} (h0:0<=i) (h:xs[i.toNat]?=some c):OK P (.el xs i) (.el c)
 |lt {z:Int} {n:Nat} (h0:0<=z) (h:z<n):OK P (.lt z n) .ok
 |len {xs:List (List D)} {n:Nat} (h:xs.length=n):OK P (.len xs) (.nat n)
 |sub {xs ys:List (List D)} {lo hi:Int} {k:Nat} (h0:0<=lo) (h1:lo.toNat<=hi.toNat) (h2:0<=hi) (h3:hi.toNat<=xs.length) (hk:∀c∈xs,c.length=k) (h:(xs.take hi.toNat).drop lo.toNat=ys):OK P (.sub xs lo (some hi) k) (.list ys)
 |Nh {xs ys:List (List D)} {lo:Int} {k:Nat} (h0:0<=lo) (h1:lo.toNat<=xs.length) (hk:∀c∈xs,c.length=k) (h:xs.drop lo.toNat=ys):OK P (.sub xs lo .none k) (.list ys)
 |app {xs ys zs:List (List D)} {len k dy n:Nat} (hl:len=xs.length) (hx:∀c∈xs,c.length=k) (hy:∀c∈ys,c.length=k) (hm:xs.length+ys.length<=maxLen) (hb:(xs.length+ys.length)*dy<=140737488355328) (hz:xs++ys=zs) (hn:xs.length+ys.length=n):OK P (.app xs ys len k dy) (.aaD zs n)
 |nz {b:Int} (h:b≠0):OK P (.nz b) .ok
 |nn {b:Int} (h:0<=b):OK P (.nn b) .ok
 |str {b:ByteArray} {lo hi:Int} (h0:0<=lo) (h1:lo.toNat<=hi.toNat) (h2:0<=hi) (h3:hi.toNat<=b.size):OK P (.str b lo hi) .ok
 |ch {b:ByteArray} {i:Int} {c:UInt8} (h0:0<=i) (h:b[i.toNat]?=some c):OK P (.ch b i) (.byte c)
 |cat {n:Nat} (h:n<=maxLen):OK P (.cat n) .ok
 |pr {p:Prop} (a:VA) (h:p):OK P (.pr p) (.va a)
 |sd {p:Sd} {o:cB} (h:p.ok):OK P (.sd p) o
 |jq {xs:List (List D)} {s:ByteArray} (h:∃ns:List Int,xs=ns.map (λn=>[.v (.int .u8 n)])/\s=⟨(ns.map λn=>UInt8.ofNat n.toNat).toArray⟩):OK P (.jq xs) (.bytes s)
 |Ll {c:List D} {z:Int} {n:Nat} {d:D} (h0:0<=z) (h1:z<n) (h:c[z.toNat]?=some d):OK P (.Ll c z n) (.one d)
 |call {f:FuncId} {args:List AV} {r:AV} (h:gZ P f args (·=r)):OK P (.call f args) (.ret r)
 |Ft {c:ga} {args:List AV} {r:AV} (h:Re P c args r):OK P (.Ft c args) (.ret r)
 |pA {f:FuncId} {nA fK:List AV} {h H H':List ar} {l:List Nat} {r:AV} (ha:nA=fK.map (AV.aW (rn l h.length))) (hd:qP l=true) (hb:l.map (λj=>h[j]?)=H.map λB=>some (B.aW (rn l h.length))) (hl:(fK.all (AV.aN H.length)&&H.all (ar.aN H.length))=true)
  (hc:dq P f fK H λr1 h1=>r1=r/\h1=H'):OK P (.pA f nA h) (.Qb l fK H r H')
 |RN {f:FuncId} {nA fK:List AV} {h H H':List ar} {l:List Nat} {r:AV} (vR:VD H) (hv:VD H') (ha:nA=fK.map (AV.aW (rn l h.length))) (hd:qP l=true) (hb:l.map (λj=>h[j]?)=H.map λB=>some (B.te (rn l h.length))) (hl:(fK.all (AV.aN H.length)&&H.all (ar.vC H.length))=true)
  (hc:dq P f fK H λr1 h1=>r1=r/\h1=H'):OK P (.pA f nA h) (.FE l fK H r H')
 |rq {f:FuncId} {nA fK:List AV} {h H:List ar} {l:List Nat} {r:AV} (ha:nA=fK.map (AV.aW (rn l 0))) (hd:qP l=true) (hb:l.map (λj=>h[j]?)=H.map λB=>some (B.aW (rn l 0))) (hl:(fK.all (AV.aN H.length)&&H.all (ar.aN H.length)&&r.aN H.length)=true)
    (hc:dq P f fK H λr1 h1=>r1=r/\h1=H):OK P (.pA f nA h) (.rq l fK H r)
 |kV {f:FuncId} {args:List AV} {h h':List ar} {r:AV} (hc:dq P f args h λr1 h1=>r1=r/\h1=h'):OK P (.kV f args h) (.VY r h')
def CB(P:dg)(t:TypeId)(cs:I AV)(off:Nat):U AV:=
 match nL P t,ZA P t with
 |some true,some k=>bif cG (off+k) cs.length then some (.agg ((cs.drop off).take k))else none
 |some false,some _=>cs[off]?
 |_,_=>none
def yy(h:I ar)(p:AV):U (I AV×Nat):=
 match p with
 | .ptr n b=>match h[n]? with
   |some (.cells cs)=>some (cs,b)
   |_=>none
 | .bK e i b=>match e[i]? with
   |some c=>some (c.map .d,b)
   |none=>none
 |_=>none
def Tg(x:AV)(i:U Int)(k:Nat)(a:cB):U (AV×In):=
 match x.gN,i,a with
 |some b,some z,.el c=>bif c.length==k then some (.bK [c] 0 0,.el b z)else none
 |_,_,_=>none
def T9(P:dg)(T:TypeId)(x i:AV)(a:cB):U (AV×In):=
 match fO P T with
 |some (_,k)=>
  match x with
  | .row n e f _ p=>match i.int? with
    |some z=>bif p==k then some (.ptr n (e+z.toNat*k),.lt z f)else none
    |none=>none
  |x=>Tg x i.int? k a
 |none=>match vM P T,x,i.int? with
  |some (n,_,k),.ptr b e,some z=>some (.ptr b (e+z.toNat*k),.lt z n)
  |some (n,_,k),.bK [c] 0 0,some z=>match a with
   | .one d=>bif k==1 then some (.bK [[d]] 0 0,.Ll c z n)else none
   |_=>none
  |_,_,_=>none
def Qx(P:dg)(T:TypeId)(x:AV)(a:cB):U (AV×In):=
 match x with
 | .d (.v (.string s))=>bif ja P T then some (.d (.v (.int .i64 s.size)),.none)else none
 | .row _ _ b _ _=>bif (fO P T).isSome then some (.d (.v (.int .i64 b)),.none)else none
 |x=>match x.gN,a with
  |some e,.nat n=>bif (fO P T).isSome then some (.d (.v (.int .i64 n)),.len e)else none
  |_,_=>none
def oN(l:U Int)(d:Nat):Nat:=match l with|some z=>z.toNat|none=>d
def FW(ρ:Operand->AV):U Operand->U (U Int)
 |none=>some none
 |some y=>match (ρ y).int? with
  |some z=>some (some z)
  |none=>none
def SH(P:dg)(T:TypeId)(ρ:Operand->AV)(x:AV)(lo hi p:U Operand)(a:cB):U (AV×In):=
 match p with
 |none=>match FW ρ lo,FW ρ hi with
  |some l,some h=>match x with
   | .d (.v (.string b))=>bif ja P T then some (.d (.v (.string (b.extract (oN l 0) (oN h b.size)))),.str b (l.getD 0) (h.getD b.size))else none
   | .ptr n e=>match vM P T,l,h with
     |some (m,_,k),none,none=>bif cG m 4096&& !cG m 0 then some (.row n e m m k,.none)else none
     |_,_,_=>none
   |x=>match x.gN,fO P T,a with
    |some f,some (_,k),.list q=>some (.d (.sl q),.sub f (l.getD 0) h k)
    |_,_,_=>none
  |_,_=>none
 |some m=>match lo,hi,ρ m with
  |none,some y,.d (.v (.int _ 0))=>match x.gN,fO P T,ρ y,a with
   |some f,some (_,k),.d (.v (.int _ 0)),.list _=>some (.full [],.sub f 0 (some 0) k)
   |_,_,_,_=>none
  |_,_,_=>none
def Kr(h:I ar)(k:Nat)(x:AV):U (I (I D)):=
 match x with
 | .row n d b _ e=>match h[n]? with
   |some (.cells cs)=>match ox ((cs.drop d).take (b*k))with
    |some f=>bif e==k&&cG (d+b*k) cs.length&&((cs.drop d).take (b*k)).all AV.lG then some (pK k b f)else none
    |none=>none
   |_=>none
 |x=>x.gN
def Ql(P:dg)(T:TypeId)(h:I ar)(x y:AV)(a:cB):U (AV×I ar×In):=
 match fO P T,a with
 |some (e,k),.aaD f p=>match jz P e,tu P e with
  |some z,some q=>bif cG 1 k&&z.cells.toList.length==k then
   match Kr h k y with
   |some u=>match x with
    | .own n b=>match h[n]? with
      |some (.front F H B)=>bif F==e&&H==k then some (.own n f,h.set n (.front e k p),.app b u B k q)else none
      |_=>none
    | .d (.v (.slice none 0 0))=>some (.own h.length f,h++[.front e k p],.app [] u 0 k q)
    | .full b=>some (.own h.length f,h++[.front e k p],.app b u b.length k q)
    |_=>none
   |none=>none
   else none
  |_,_=>none
 |_,_=>none
def Ui(P:dg)(T:TypeId)(ps:I (Nat×AV)):U AV:=
 match RP P T,jz P T with
 |some places,some z=>match rN places (z.cells.toList.map λu=>.d (.v u)) ps with
  |some cs=>bif (ps.all λp=>p.2.kW)&&z.cells.toList.all Value.oneCell' then some (.agg cs)else none
  |none=>none
 |_,_=>none
def Qz(P:dg)(T:TypeId)(len:Nat)(ps:I (Nat×AV)):U AV:=
 match fO P T with
 |some (e,k)=>match jz P e with
  |some z=>match rN (wB k 0 len) (uQ len (z.cells.toList.map λu=>.d (.v u))) ps with
   |some cs=>match ox cs with
    |some b=>bif cG 1 k&&cG (len*k) 16777216&&z.cells.toList.length==k&&z.cells.toList.all Value.oneCell'&&(ps.all λp=>p.2.kW)then some (.full (pK k len b))else none
    |none=>none
   |none=>none
  |none=>none
 |none=>none
def Oi(P:dg)(T:TypeId)(e:BinOp)(x y:AV):U (AV×In):=
 match x,y with
 | .d (.v (.int k a)),.d (.v (.int f b))=>
   match P8 e k a b with
   |some v=>bif yF k f then some (.d (.v v),.nz b)else none
   |none=>match QG e k a b with
    |some v=>some (.d (.v v),.nn b)
    |none=>match UI e k a b with
     |some v=>bif yF k f then some (.d (.v v),.none)else none
     |none=>none
 | .d (.v (.string a)),.d (.v (.string b))=>match R0 e a b with
   |some v=>some (.d (.v v),.none)
   |none=>match e with
    | .add=>some (.d (.v (.string (a++b))),.cat (a.size+b.size))
    |_=>none
 | .d (.v (.bool a)),.d (.v (.bool b))=>match UU e a b with
   |some v=>bif DN P T then some (.d (.v v),.none)else none
   |none=>none
 | .agg p,.agg q=>match KT P T p q with
   |some b=>match zG e b with
    |some v=>some (.d (.v v),.none)
    |none=>none
   |none=>none
 |_,_=>none
def PG(P:dg)(f p:TypeId)(x:AV)(a:cB):U (AV×In):=
 match x with
 | .d (.v (.int _ n))=>match tn P f,tn P p with
   |some _,some k=>some (.d (.v (.int k (k.wrap n))),.none)
   |_,_=>none
 | .d (.v (.string b))=>bif ja P f&&ja P p then some (.d (.v (.string b)),.none)else none
 |x=>match x.gN,fO P f,a with
  |some q,some (e,_),.bytes s=>bif Hz P e&&ja P p then some (.d (.v (.string s)),.jq q)else none
  |_,_,_=>none
def Po(P:dg)(T:TypeId)(x:AV)(f:Nat):U AV:=
 match uV P T f,x with
 |some (b,k,true),.agg cs=>bif cG (b+k) cs.length then some (.agg ((cs.drop b).take k))else none
 |some (b,_,false),.agg cs=>cs[b]?
 |_,_=>none
def JR(h:I ar):U AV->U (AV×I ar×In)
 |some x=>some (x,h,.none)
 |none=>none
def C1(h:I ar):U (AV×In)->U (AV×I ar×In)
 |some (x,i)=>some (x,h,i)
 |none=>none
mutual
def AV.nrm:AV->AV
 | .full xs=>.d (.sl xs)
 | .d (.v (.slice none 0 0))=>.d (.sl [])
 | .agg cs=>.agg (AV.zV cs)
 | .bn cs=>.bn (AV.zV cs)
 |x=>x
def AV.zV:I AV->I AV
 |[]=>[]
 |x::l=>x.nrm::AV.zV l
end
def AV.Hh:AV->AV
 | .fn f cs=>match AV.yX cs with
   |some l=>.hid (.fn f l)
   |none=>.fn f cs
 |x=>x
def AV.arg(x:AV):AV:=((x.bR 0).nrm).Hh
def AV.zo(x:AV):AV:=(x.bR 0).nrm
def sdI:Sd->In
 | .no=>.none
 |p=>.sd p
def xR:U (AV×I ar×Sd)->U (AV×I ar×In)
 |some (x,h,p)=>some (x,h,sdI p)
 |none=>none
def xl(P:dg)(op:Op)(ρ:Operand->AV)(h:I ar)(a:cB):U (AV×I ar×In):=
 match op with
 | .move x| .assign x=>some (ρ x,h,.none)
 | .pick c x y=>match a with
   | .bit b=>some (bif b then ρ x else ρ y,h,.bit (ρ c))
   |_=>none
 | .alloc e=>match jz P e with
   |some z=>some (.ptr h.length 0,h++[ar.cells (z.cells.toList.map λu=>.d (.v u))],.none)
   |none=>none
 | .box _ x=>bif (ρ x).kW then some (.ptr h.length 0,h++[ar.cells (ρ x).cells],.none)else none
 | .load t p=>match yy h (ρ p)with
   |some (cs,F)=>match CB P t cs F with
    |some x=>some (x,h,.none)
    |none=>none
   |none=>none
 | .store t p x=>match ρ p with
   | .ptr n F=>match h[n]? with
     |some (.cells cs)=>match ZA P t with
      |some k=>bif k==(ρ x).cells.length&&(ρ x).kW&&cG (F+(ρ x).cells.length) cs.length then some (.d (.v undef),h.set n (.cells (jM cs F (ρ x).cells)),.none)else none
      |none=>none
     |_=>none
   |_=>none
 | .nilCheck x=>match ρ x with
   | .ptr n F=>some (.ptr n F,h,.none)
   | .bK J i F=>some (.bK J i F,h,.none)
   | .fn f cs=>some (.fn f cs,h,.none)
   |_=>none
 | .fieldAddr S x f=>match uV P S f with
   |some (M,_,_)=>match ρ x with
    | .ptr n F=>some (.ptr n (F+M),h,.none)
    | .bK J i F=>some (.bK J i (F+M),h,.none)
    |_=>none
   |none=>none
 | .field T x f=>JR h (Po P T (ρ x) f)
 | .indexAddr T x i=>C1 h (T9 P T (ρ x) (ρ i) a)
 | .index T x i=>match ρ x,(ρ i).int?,a with
   | .d (.v (.string b)),some z,.byte c=>bif ja P T then some (.d (.v (.int .u8 c.toNat)),h,.ch b z)else none
   |_,_,_=>none
 | .build T ps=>JR h (Ui P T (ps.toList.map λp=>(p.1,ρ p.2)))
 | .buildSlice T L ps=>JR h (Qz P T L (ps.toList.map λp=>(p.1,ρ p.2)))
 | .slice T x lo N R=>C1 h (SH P T ρ (ρ x) lo N R a)
 | .extract x i=>match ρ x with
   | .bn cs=>match cs[i]? with
     |some c=>some (c,h,.none)
     |none=>none
   |_=>none
 | .makeFunc (.func f) first H=>match Vi f (first.toList.map ρ) (H.toList.map ρ)with
   |some x=>some (x,h,.none)
   |none=>none
 | .binOp op T x y _=>C1 h (Oi P T op (ρ x) (ρ y))
 | .unOp op _ x=>match ρ x with
   | .d (.v u)=>match NB op u with
     |some v=>some (.d (.v v),h,.none)
     |none=>none
   |_=>none
 | .convert s t x=>C1 h (PG P s t (ρ x) a)
 | .call c=>match c.callee with
   | .builtin .len=>match c.args.toList,c.argTypes.toList with
     |[x],[T]=>C1 h (Qx P T (ρ x) a)
     |_,_=>none
   | .builtin .append=>match c.args.toList,c.argTypes.toList with
     |[x,y],[T,B]=>bif (fO P B).isSome then Ql P T h (ρ x) (ρ y) a else none
     |_,_=>none
   | .builtin .max=>match D0 true (c.args.toList.map ρ)with
     |some (k,a)=>some (.d (.v (.int k a)),h,.none)
     |none=>none
   | .builtin .min=>match D0 false (c.args.toList.map ρ)with
     |some (k,a)=>some (.d (.v (.int k a)),h,.none)
     |none=>none
   | .value f=>match ρ f,a with
     | .fn g H,.ret r=>bif ((c.args.toList.map ρ++H).map AV.arg).all (AV.aN 0)&&r.aN 0 then some (r,h,.call g ((c.args.toList.map ρ++H).map AV.arg))else none
     | .fn g H,.VY r h'=>some (r,h',.kV g (c.args.toList.map ρ++H) h)
     | .fn g H,.Qb l _ _ r H'=>some (r.aW (rn l h.length),iW l (H'.map (ar.aW (rn l h.length))) h,.pA g ((c.args.toList.map ρ++H).map AV.zo) h)
     | .fn g H,.FE l _ _ r H'=>some (r.aW (rn l h.length),iW l (H'.map (ar.te (rn l h.length))) h,.pA g ((c.args.toList.map ρ++H).map AV.zo) h)
     | .fn g H,.rq l _ _ r=>some (r.aW (rn l 0),h,.pA g ((c.args.toList.map ρ++H).map AV.zo) h)
     | .hid q,.ret r=>bif ((c.args.toList.map ρ).map AV.arg).all (AV.aN 0)&&r.aN 0 then some (r,h,.Ft q ((c.args.toList.map ρ).map AV.arg))else none
     |_,_=>none
   |_=>none
 |op=>xR (rO P op ρ h)
def Lb:∀l,AV.zV l=l.map AV.nrm
 |[]=>by simp [AV.zV]
 |x::l=>by simp [AV.zV,Lb l]
def aO.nrm{G:Gh}{w:Zz}{u:kd}{x:AV}(h:aO G w u x):aO G w u x.nrm:=by
 have gK:∀(e:Array kd)(cs:I AV),(∀(i:Nat)(u:kd)(c:AV),e[i]?=some u->cs[i]?=some c->aO G w u c.nrm)->∀(i:Nat)(u:kd)(c:AV),e[i]?=some u->(AV.zV cs)[i]?=some c->aO G w u c:=by
  intro e cs F i u c M H;rw[Lb,Zm]at H;cases q:cs[i]? with
  |none=>rw[q]at H;cases H
  |some x=>rw[q]at H;cases H;exact F i u x M q
 induction h with
 |agg e cs z _ F=>rw[AV.nrm];exact .agg e _ (by rw[Lb,Zq];exact z) (gK e cs F)
 |bn e cs z _ F=>rw[AV.nrm];exact .bn e _ (by rw[Lb,Zq];exact z) (gK e cs F)
 |full J N B=>rw[AV.nrm];exact .d N
 | @d u x h=>
   by_cases q:x= .v (.slice none 0 0);{subst q;cases h with|v=>simp only[AV.nrm];exact .d El}
   ·have:(AV.d x).nrm= .d x:=by
     unfold AV.nrm;split<;>simp_all
    rw[this];exact .d h
 |own n J h N R B=>simp only[AV.nrm];exact .own n J h N R B
 |ptr n p h=>simp only[AV.nrm];exact .ptr n p h
 |bK J i p b o u x q hS M=>simp only[AV.nrm];exact .bK J i p b o u x q hS M
 |row n p len cap k h z hm=>simp only[AV.nrm];exact .row n p len cap k h z hm
 |fn f e cs z h=>simp only[AV.nrm];exact .fn f e cs z h
 |mp n h=>simp only[AV.nrm];exact .mp n h
 |cF n h=>simp only[AV.nrm];exact .cF n h
 |vec n o len L k h W hL B=>simp only[AV.nrm];exact .vec n o len L k h W hL B
 |eC n i j L k h W hL B=>simp only[AV.nrm];exact .eC n i j L k h W hL B
 |hid h h1=>simp only[AV.nrm];exact .hid h h1
 |dead u=>simp only[AV.nrm];exact .dead u
def AV.Le.Hh(x:AV):AV.Le x x.Hh:=λG w u h=>by
 unfold AV.Hh;split
 ·next f cs=>
  split
  ·next l e=>
   have:=h.cap (.fn f l) (by simp only[AV.cap,e]);cases h with|fn=>exact .hid this rfl
  ·exact h
 ·exact h
def AV.Le.arg(x:AV):AV.Le x x.arg:=λ_ _ _ h=>AV.Le.Hh _ _ _ _ (h.bR 0).nrm
def dq.args{P:dg}{f:FuncId}{as:I AV}{h:I ar}{K:AV->I ar->Prop}(e:dq P f as h K)(bs:I AV)(k:as.length=bs.length)(b:∀(i:Nat)(c d:AV),bs[i]?=some c->as[i]?=some d->AV.Le c d):dq P f bs h K:=
 ⟨e.1,λG w v z B F=>e.2 G w v z (B.trans k.symm) λi u d H p=>by
  have q:i<bs.length:=by rw[<-k];exact(Zk.1 p).1
  exact b i _ d (Zd q) p G w u (F i u _ H (Zd q))⟩
def dq.adR{P:dg}{f:FuncId}{as:I AV}{h:I ar}{K:AV->I ar->Prop}(b:dq P f (as.map AV.arg) h K):dq P f as h K:=
 b.args as (by rw[Zq]) λi c d b e=>by
  rw[Zm,b]at e;cases e;exact AV.Le.arg c
def AV.Le.zo(x:AV):AV.Le x x.zo:=λ_ _ _ h=>(h.bR 0).nrm
def dq.Ol{P:dg}{f:FuncId}{as:I AV}{h:I ar}{K:AV->I ar->Prop}(b:dq P f (as.map AV.zo) h K):dq P f as h K:=
 b.args as (by rw[Zq]) λi c d b e=>by
  rw[Zm,b]at e;cases e;exact AV.Le.zo c
def Xc(l:I ga):(l.map ga.av).all (AV.aN 0)=true:=by
 rw[Zb];intro x b;obtain⟨c,_,rfl⟩:=W1.1 b;cases c<;>rfl
def Re.use{P:dg}{q:ga}{args:I AV}{r:AV}{h:I ar}{C:AV->I ar->Prop}(p:Re P q (args.map AV.arg) r)(v:(args.map AV.arg).all (AV.aN 0)=true)(z:r.aN 0=true)(B:C r h):∃g as,q.app args=some (g,as)/\dq P g as h C:=by
 obtain⟨g,as,e,p⟩:=p;cases q with
 |d x=>simp [ga.app]at e
 |bK c F=>simp [ga.app]at e
 |fn u cs=>
  simp only[ga.app,W2,Prod.mk.injEq]at e;obtain⟨rfl,rfl⟩:=e;refine⟨u,_,rfl,dq.args (p.use (h:=h) (C:=C) (by rw[List.all_append,v,Xc];rfl) z B) _ (by simp) λi c d f b=> ?_⟩;by_cases k:i<args.length;{rw[ZW k]at f;rw[ZW (by simpa using k),Zm,f]at b;cases b;exact AV.Le.arg c};{rw[ZC (by omega)]at f;rw[ZC (by simpa using k),Zq,f]at b;cases b;exact AV.Le.refl c}
 |o9 u cs=>
  simp only[ga.app,W2,Prod.mk.injEq]at e;obtain⟨rfl,rfl⟩:=e;refine⟨u,_,rfl,dq.args (p.use (h:=h) (C:=C) (by rw[List.all_append,v,Xc];rfl) z B) _ (by simp) λi c d f b=> ?_⟩;by_cases k:i<(cs.map ga.av).length;{rw[ZW k]at f b;rw[f]at b;cases b;exact AV.Le.refl c};{rw[ZC (by omega)]at f b;rw[Zm,f]at b;cases b;exact AV.Le.arg c}
def fe{α:Type}{b:Bool}{x y:α}(h:(bif b then some x else none)=some y):b=true/\x=y:=by
 cases b with
 |true=>exact⟨rfl,Zs h⟩
 |false=>cases h
def lF{α:Type}{b:Bool}{x:U α}{y:α}(h:(bif b then x else none)=some y):b=true/\x=some y:=by
 cases b with
 |true=>exact⟨rfl,h⟩
 |false=>cases h
section
variable {P:dg} {ρ:Operand->AV} {h h':I ar} {a:cB} {i:In} {x:AV} {C:AV->I ar->Prop}
def OK.JQ{x:AV}{b:Bool}(h:OK P (.bit x) (.bit b)):x= .d (.v (.bool b)):=by
 cases h with|bit h=>subst h;rfl
def Un{t:TypeId}{p:AV}{cs:I AV}{off:Nat}{K:AV->Prop}(h1:yy h p=some (cs,off))(b:CB P t cs off=some x)(f:K x):qq P t h p K:=by
 have d:(match nL P t,ZA P t with
     |some true,some k=>gO (cG (off+k) cs.length) (K (.agg ((cs.drop off).take k)))
     |some false,some _=>match cs[off]? with
      |some c=>K c
      |none=>False
     |_,_=>False):=by
  unfold CB at b;split at b
  ·next k q u=>
   obtain⟨v,rfl⟩:=fe b;exact cv.2 ⟨v,f⟩
  ·next k q u=>rw[b];exact f
  ·cases b
 unfold qq tL;unfold yy at h1;split at h1
 ·split at h1
  ·next z e=>cases h1;simp only[e];exact d
  ·cases h1
 ·split at h1
  ·next c e=>cases h1;simp only[e];exact d
  ·cases h1
 ·cases h1
def aot{y:AV}{z:U Int}{k:Nat}(h1:Tg y z k a=some (x,i))(b:OK P i a):∃xs w c,y.gN=some xs/\z=some w/\0<=w/\xs[w.toNat]?=some c/\c.length=k/\x= .bK [c] 0 0:=by
 unfold Tg at h1;split at h1
 ·next xs w c d=>
  obtain⟨e,f⟩:=fe h1;cases f
  cases b with
  |el h0 p=>exact⟨_,_,_,d,rfl,h0,p,by simpa using e,rfl⟩
 ·cases h1
def aq0{T:TypeId}{y z:AV}{K:AV->Prop}(h1:T9 P T y z a=some (x,i))(u:OK P i a)(v:K x):uW P T y z K:=by
 unfold T9 at h1;unfold uW;cases J:fO P T with
 |some p=>
  obtain⟨e,k⟩:=p;simp only[J]at h1 ⊢;cases y with
  |row n B L M k'=>
   simp only at h1 ⊢;split at h1
   ·next w f=>
    obtain⟨N,F⟩:=fe h1;cases F
    cases u with|lt h0 q=>simp only[f];exact cv.2 ⟨N,h0,q,v⟩
   ·cases h1
  |_=>
   obtain⟨xs,w,c,R,W,e3,e4,e5,rfl⟩:=aot h1 u;simp only[R,W,e4,e5];exact⟨e3,trivial,v⟩
 |none=>
  simp only[J]at h1 ⊢;split at h1
  ·next n e k b B w H f=>
   cases h1
   simp only[H,f];cases u with|lt h0 q=>exact⟨h0,q,v⟩
  ·next n e k c w H f=>
   split at h1
   ·next d=>
    obtain⟨hb,F⟩:=fe h1;cases F;simp only[H,f];cases u with|Ll h0 q h=>exact cv.2 ⟨hb,h0,q,by simp only[List.getElem?_cons_zero,ZJ,h];exact v⟩
   ·cases h1
  ·cases h1
def am1{T:TypeId}{y:AV}{K:Nat->Prop}{C:AV->Prop}(h1:Qx P T y a=some (x,i))(u:OK P i a)(p:C x)(q:∀n:Nat,C (.d (.v (.int .i64 n)))->K n):ua P T y K:=by
 unfold Qx at h1;unfold ua;split at h1;{obtain⟨f,k⟩:=fe h1;cases k;exact cv.2 ⟨f,q _ p⟩};{obtain⟨f,k⟩:=fe h1;cases k;exact cv.2 ⟨f,q _ p⟩}
 ·next z B=>
  split at h1
  ·next J n F=>
   obtain⟨f,k⟩:=fe h1;cases k;cases u with
   |len H=>
    subst H;split;{next s=>exact absurd rfl (z s)};{next a b c d e=>exact absurd rfl (B a b c d e)};{simp only[F];exact cv.2 ⟨f,q _ p⟩}
  ·cases h1
def ark{y:U Operand}{l:U Int}(h1:FW ρ y=some l):(y=none/\l=none)\/∃o z,y=some o/\l=some z/\(ρ o).int?=some z:=by
 unfold FW at h1;cases y with
 |none=>cases h1;exact .inl ⟨rfl,rfl⟩
 |some o=>
  simp only at h1;split at h1;{next z b=>cases h1;exact .inr ⟨o,z,rfl,rfl,b⟩};{cases h1}
def w6{y:U Operand}{l:U Int}{d:Nat}{K:Nat->Prop}(h1:FW ρ y=some l)(h0:∀z,l=some z->0<=z)(b:K (oN l d)):ln ρ y d K:=by
 rcases ark h1 with⟨rfl,rfl⟩|⟨o,z,rfl,rfl,e⟩
 ·exact b
 ·simp only[ln,e];exact⟨h0 z rfl,b⟩
def asO{T:TypeId}{y:AV}{lo hi mx:U Operand}{K:AV->Prop}(h1:SH P T ρ y lo hi mx a=some (x,i))(J:OK P i a)(p:K x):wP P T ρ y lo hi mx K:=by
 unfold SH at h1;unfold wP;split at h1
 ·split at h1
  ·next l L M N=>
   split at h1
   ·next b=>
    obtain⟨u,d⟩:=fe h1;cases d;cases J with
    |str h0 v R W=>
     refine cv.2 ⟨u,w6 N (λz e=>by subst e;exact R) ?_⟩;have e1:oN L b.size=(L.getD b.size).toNat:=by cases L<;>simp [oN]
     have B:oN l 0=(l.getD 0).toNat:=by cases l<;>simp [oN]
     rw[e1];refine⟨W,w6 M (λz e=>by subst e;exact h0) ?_⟩;rw[B];rw[e1,B]at p;exact⟨v,p⟩
   ·next n f=>
    split at h1
    ·next m e k F=>
     obtain⟨u,d⟩:=fe h1;cases d;simp only[F];generalize cG m 4096=q at u ⊢;rw[Zo]at u;refine cv.2 ⟨u.1,w6 N (λz e=>by cases e) (cv.2 ⟨dS.2 (Zr _),w6 M (λz e=>by cases e) (cv.2 ⟨?_,?_⟩)⟩)⟩;{rw[Zo];exact⟨dS.2 (WJ _),u.2⟩};{show K (.row n (f+0*k) (m-0) (m-0) k);rw[Nat.zero_mul,Nat.add_zero,Nat.sub_zero];exact p}
    ·cases h1
   ·next zX lH=>
    split at h1
    ·next xs e k ys hx F=>
     cases h1
     dsimp only;split;{next b=>exact absurd rfl (zX b)};{next n f=>exact absurd rfl (lH n f)}
     ·simp only[hx,F];cases L with
      |none=>
       cases J with
       |Nh h0 v H d=>
        refine⟨H,w6 N (λz e=>by cases e) ⟨Zr _,w6 M (λz e=>by subst e;exact h0) ?_⟩⟩;have B:oN l 0=(l.getD 0).toNat:=by cases l<;>simp [oN]
        rw[B];refine⟨v,?_⟩;rw[show oN none xs.length=xs.length from rfl,List.take_length,d];exact p
      |some z=>
       cases J with
       |sub h0 v R W H d=>
        refine⟨H,w6 N (λz e=>by cases e;exact R) ⟨W,w6 M (λz e=>by subst e;exact h0) ?_⟩⟩;have B:oN l 0=(l.getD 0).toNat:=by cases l<;>simp [oN]
        rw[B];refine⟨v,?_⟩;rw[show oN (some z) xs.length=z.toNat from rfl,d];exact p
    ·cases h1
  ·cases h1
 ·split at h1
  ·next m _ _ y' _ hm=>
   split at h1
   ·next xs e k _ _ ys hx F hy=>
    cases h1
    cases J with
    |sub h0 v R W H d=>
     simp only[hx,F];refine⟨H,?_⟩;simp only[ln,hm,hy,AV.int?];refine⟨Int.le_refl _,WJ _,Int.le_refl _,?_,by simpa using p⟩;first|rfl|trivial
   ·cases h1
  ·cases h1
def TL{k:Nat}{y:AV}{ys:I (I D)}{K:I (I D)->Prop}(h1:Kr h k y=some ys)(q:∀c∈ys,c.length=k)(p:K ys):xx h k y K:=by
 unfold Kr at h1;unfold xx;split at h1
 ·split at h1
  ·next cs e=>
   split at h1
   ·next F u=>
    obtain⟨v,rfl⟩:=fe h1;simp only[e,u];exact cv.2 ⟨v,p⟩
   ·cases h1
  ·cases h1
 ·next z=>
  split;{next n b d f B=>exact absurd rfl (z n b d f B)};{simp only[h1];exact⟨q,p⟩}
def aly{T:TypeId}{y z:AV}(h1:Ql P T h y z a=some (x,h',i))(B:OK P i a)(u:C x h'):wM P T h y z C:=by
 unfold Ql at h1;unfold wM;split at h1
 ·next e k zs n' J=>
  simp only[J];split at h1
  ·next zv dy L M=>
   simp only[L,M];obtain⟨N,h1⟩:=lF h1;refine cv.2 ⟨N,?_⟩;split at h1
   ·next ys F=>
    split at h1
    ·next n xs=>
     split at h1
     ·next e' k' R W=>
      obtain⟨hc,he⟩:=fe h1;cases he;cases B with
      |app H v f b d p q=>
       subst p;subst q;refine TL F f ?_;simp only[W];exact cv.2 ⟨hc,H,v,b,d,u⟩
     ·cases h1
    ·cases h1
     cases B with
     |app H v f b d p q=>
      subst p;subst q;refine TL F f ?_;simp only[Wo,Zc,ZJ]at u b d ⊢;exact⟨b,d,u⟩
    ·cases h1
     cases B with
     |app H v f b d p q=>
      subst p;subst q;exact TL F f ⟨v,b,d,u⟩
    ·cases h1
   ·cases h1
  ·cases h1
 ·cases h1
def aj7{T:TypeId}{ps:I (Nat×AV)}{K:AV->Prop}(h1:Ui P T ps=some x)(b:K x):yB P T ps K:=by
 unfold Ui at h1;unfold yB;split at h1
 ·next p z d e=>
  simp only[d,e];split at h1;{next cs f=>obtain⟨k,rfl⟩:=fe h1;simp only[f];exact cv.2 ⟨k,b⟩};{cases h1}
 ·cases h1
def arT{T:TypeId}{len:Nat}{ps:I (Nat×AV)}{K:AV->Prop}(h1:Qz P T len ps=some x)(b:K x):Al P T len ps K:=by
 unfold Qz at h1;unfold Al;split at h1
 ·next e k d=>
  simp only[d];split at h1
  ·next z f=>
   simp only[f];split at h1
   ·next cs p=>
    simp only[p];split at h1;{next v q=>obtain⟨u,rfl⟩:=fe h1;simp only[q];exact cv.2 ⟨u,b⟩};{cases h1}
   ·cases h1
  ·cases h1
 ·cases h1
def Xb{T:TypeId}{u:BinOp}{y z:AV}{K:AV->Prop}(h1:Oi P T u y z=some (x,i))(q:OK P i a)(d:K x):yW P T u y z K:=by
 unfold Oi at h1;unfold yW;split at h1
 ·split at h1
  ·next v e=>
   obtain⟨f,k⟩:=fe h1;cases k;cases q with|nz h0=>simp only[e];exact cv.2 ⟨f,h0,d⟩
  ·next e=>
   simp only[e];split at h1
   ·next v p=>
    cases h1
    cases q with|nn h0=>simp only[p];exact⟨h0,d⟩
   ·next p=>
    simp only[p];split at h1;{next v B=>obtain⟨f,k⟩:=fe h1;cases k;simp only[B];exact cv.2 ⟨f,d⟩};{cases h1}
 ·split at h1
  ·next v e=>cases h1;simp only[e];exact d
  ·next e=>
   simp only[e];split at h1;{cases h1;cases q with|cat h=>exact⟨h,d⟩};{cases h1}
 ·split at h1
  ·next v e=>obtain⟨f,k⟩:=fe h1;cases k;simp only[e];exact cv.2 ⟨f,d⟩
  ·cases h1
 ·split at h1
  ·next b e=>
   simp only[e];split at h1;{next v p=>cases h1;simp only[p];exact d};{cases h1}
  ·cases h1
 ·cases h1
def aiT{s t:TypeId}{y:AV}{K:AV->Prop}(h1:PG P s t y a=some (x,i))(u:OK P i a)(b:K x):yL P s t y K:=by
 unfold PG at h1;unfold yL;split at h1
 ·split at h1
  ·next d f=>cases h1;simp only[d,f];exact b
  ·cases h1
 ·obtain⟨p,q⟩:=fe h1;cases q;exact cv.2 ⟨p,b⟩
 ·next v z=>
  split at h1
  ·next M e k s' d f=>
   obtain⟨p,q⟩:=fe h1;cases q;cases u with
   |jq h=>
    obtain⟨B,F,H⟩:=h;subst H;split;{next J n=>exact absurd rfl (v J n)};{next L=>exact absurd rfl (z L)};{simp only[d,f];exact cv.2 ⟨p,B,F,b⟩}
  ·cases h1
def Xf{T:TypeId}{y:AV}{f:Nat}{K:AV->Prop}(h1:Po P T y f=some x)(b:K x):Aw P T y f K:=by
 unfold Po at h1;unfold Aw;split at h1;{next e=>obtain⟨d,rfl⟩:=fe h1;simp only[e];exact cv.2 ⟨d,b⟩};{next e=>simp only[e,h1];exact b};{cases h1}
def QW{y:U AV}(h1:JR h y=some (x,h',i)):y=some x/\h'=h:=by
 cases y with
 |none=>cases h1
 |some y=>cases h1;exact⟨rfl,rfl⟩
def Gf{y:U (AV×In)}(h1:C1 h y=some (x,h',i)):y=some (x,i)/\h'=h:=by
 cases y with
 |none=>cases h1
 |some y=>cases h1;exact⟨rfl,rfl⟩
def BL{o:Oper}(h1:xl P o.op ρ h a=some (x,h',i))(J:OK P i a)(d:C x h'):dm P o ρ h C:=by
 obtain⟨dst,op,type,pos,after,guard⟩:=o;simp only at h1;unfold xl at h1;unfold dm;split at h1;{cases h1;exact d};{cases h1;exact d}
 ·next c y z=>
  split at h1
  ·next b=>
   cases h1
   simp only[OK.JQ J];cases b<;>simp_all
  ·cases h1
 ·split at h1
  ·next z e=>cases h1;simp only[e];exact d
  ·cases h1
 ·obtain⟨v,L⟩:=fe h1;cases L;exact cv.2 ⟨v,d⟩
 ·split at h1
  ·next cs off e=>
   split at h1;{next y u=>cases h1;exact Un e u d};{cases h1}
  ·cases h1
 ·split at h1
  ·next n off e=>
   split at h1
   ·next cs u=>
    split at h1;{next k e3=>obtain⟨v,L⟩:=fe h1;cases L;simp only[e,xU,u,e3];exact cv.2 ⟨v,d⟩};{cases h1}
   ·cases h1
  ·cases h1
 ·split at h1
  ·next e=>cases h1;simp only[e];exact d
  ·next e=>cases h1;simp only[e];exact d
  ·next e=>cases h1;simp only[e];exact d
  ·cases h1
 ·split at h1
  ·next e=>
   simp only[e];split at h1;{next u=>cases h1;simp only[u];exact d};{next u=>cases h1;simp only[u];exact d};{cases h1}
  ·cases h1
 ·obtain⟨e,rfl⟩:=QW h1;exact Xf e d
 ·obtain⟨e,rfl⟩:=Gf h1;exact aq0 e J d
 ·split at h1
  ·next b z c B u=>
   obtain⟨v,L⟩:=fe h1;cases L;cases J with
   |ch h0 F=>simp only[B,u];refine cv.2 ⟨v,h0,?_⟩;simp only[F];exact d
  ·cases h1
 ·obtain⟨e,rfl⟩:=QW h1;exact aj7 e d
 ·obtain⟨e,rfl⟩:=QW h1;exact arT e d
 ·obtain⟨e,rfl⟩:=Gf h1;exact asO e J d
 ·split at h1
  ·next e=>
   split at h1;{next u=>cases h1;simp only[e,u];exact d};{cases h1}
  ·cases h1
 ·split at h1
  ·next e=>cases h1;simp only[e];exact d
  ·cases h1
 ·obtain⟨e,rfl⟩:=Gf h1;exact Xb e J d
 ·unfold Ah;split at h1
  ·next e=>
   split at h1;{next u=>cases h1;simp only[e,u];exact d};{cases h1}
  ·cases h1
 ·obtain⟨e,rfl⟩:=Gf h1;exact aiT e J d
 ·next c=>
  split at h1
  ·next F=>
   simp only[F];split at h1;{next B u=>obtain⟨e,rfl⟩:=Gf h1;simp only[B,u];exact am1 (C:=λx=>C x _) e J d (λn hn=>hn)};{cases h1}
  ·next F=>
   simp only[F];split at h1;{next B u=>obtain⟨v,h1⟩:=lF h1;simp only[B,u];exact cv.2 ⟨v,aly h1 J d⟩};{cases h1}
  ·next F=>
   simp only[F];split at h1;{next B=>cases h1;simp only[B];exact d};{cases h1}
  ·next F=>
   simp only[F];split at h1;{next B=>cases h1;simp only[B];exact d};{cases h1}
  ·next f F=>
   simp only[F];split at h1
   ·next g W r e=>
    obtain⟨v,L⟩:=fe h1;cases L;simp only[Zo]at v;simp only[e];cases J with|call kV=>exact(kV.use v.1 v.2 d).adR
   ·next g W r h2 e=>
    cases h1
    simp only[e];cases J with|kV kV=>exact kV.mono λr1 h1 ⟨B,u⟩=>by subst B;subst u;exact d
   ·next g W l fK H r H' e=>
    cases h1
    simp only[e];cases J with|pA N R v M F=>exact(N▸(F.pA R v M).mono λr1 h1 ⟨B,u⟩=>by subst B;subst u;exact d:dq P g _ _ _).Ol
   ·next g W l fK H r H' e=>
    cases h1
    simp only[e];cases J with|RN vR hv N R v M F=>exact(N▸(F.pA R (by rw[v,ahI vR]) (by rw[Zo]at M ⊢;exact⟨M.1,aoS vR M.2⟩)).mono λr1 h1 ⟨B,u⟩=>by subst B;subst u;rw[<-ant hv];exact d:dq P g _ _ _).Ol
   ·next g W l fK H r e=>
    cases h1
    simp only[e];cases J with|rq N R v M F=>exact(N▸(by have:=F.rq R v M [];rw[ZV]at this;exact this.mono λr1 h1 ⟨B,u⟩=>by subst B;subst u;exact d):dq P g _ _ _).Ol
   ·next q r e=>
    obtain⟨v,L⟩:=fe h1;cases L;simp only[Zo]at v;simp only[e];cases J with|Ft hq=>exact hq.use v.1 v.2 d
   ·cases h1
  ·cases h1
 ·next op _=>
  unfold xR at h1;split at h1
  ·next y h2 p e=>
   cases h1
   simp only[e];refine⟨?_,d⟩;cases p with
   |no=>trivial
   |lt n=>cases J with|sd h=>exact h
  ·cases h1
end
def jN:I (Nat×cB)->Nat->cB
 |[],_=>.none
 |(k,x)::l,i=>bif k==i then x else jN l i
def wR(i:In)(a:cB)(r:U (St×I (In×cB))):U (St×I (In×cB)):=
 match i with
 | .none=>r
 |i=>match r with
  |some (s,l)=>some (s,(i,a)::l)
  |none=>none
def BH:cB->Bool
 | .VY .. | .Qb .. | .FE .. =>true
 |_=>false
def DJ(o:Oper):cB->Bool
 | .FE [] .. =>cS o==6
 |_=>false
def Jz(P:dg)(dr d:Bool)(b:Op)(ρ:Operand->AV)(h:I ar)(a:cB):U (AV×I ar×In):=
 match a with
 | .va e=>bif dr&& !d then none else match js P b ρ h e with
   |some (x,h',p)=>some (x,h',.pr p)
   |none=>none
 |a=>xl P b ρ h a
def pk(P:dg)(dr:Bool)(o:Oper)(j:Nat)(as:I (Nat×cB))(s:St):U (St×I (In×cB)):=
 bif dr&&BH (jN as (3*j+1))&& !DJ o (jN as (3*j+1))then none else
 match Jz P dr (kZ o) o.op (ev s) s.h (jN as (3*j+1))with
 |some (x,h',i)=>match jN as (3*j+2)with
  | .eq y=>wR i (jN as (3*j+1)) (some ((s.wh h').put o.dst y,[(.eq x,.eq y)]))
  |_=>wR i (jN as (3*j+1)) (some ((s.wh h').put o.dst x,[]))
 |none=>none
def Fm(o:Oper)(s:St):St:=s.put o.dst (.d (.v undef))
def tw(l:I (In×cB)):U (St×I (In×cB))->U (St×I (In×cB))
 |some (s,m)=>some (s,l++m)
 |none=>none
def oM(P:dg)(ops:Array Oper)(dr:Bool)(o:Oper)(j:Nat)(as:I (Nat×cB))(s:St):U (St×I (In×cB)):=
 match o.guard with
 |none=>pk P dr o j as s
 |some (g,d)=>match jN as (3*j)with
  | .bit b=>tw [(.bit (wE ops g s.t),.bit b)] (bif b==d then pk P dr o j as s else some (Fm o s,[]))
  | .Fl=>tw [(.bit (wE ops g s.t),.Fl)] (some (Fm o s,[]))
  |_=>none
def pW(P:dg)(ops:Array Oper)(dr:Bool):I Oper->Nat->I (Nat×cB)->St->U (St×I (In×cB))
 |[],_,_,s=>some (s,[])
 |o::rest,j,as,s=>match oM P ops dr o j as s with
  |some (s1,l)=>tw l (pW P ops dr rest (j+1) as s1)
  |none=>none
def hO(P:dg)(l:I (In×cB)):Prop:=∀p∈l,OK P p.1 p.2
section
variable {P:dg} {ops:Array Oper} {dr:Bool} {o:Oper} {j:Nat} {as:I (Nat×cB)} {s s1:St} {l:I (In×cB)} {K:St->Prop}
def Ly{i:In}{a:cB}{r:U (St×I (In×cB))}(h:wR i a r=some (s1,l))(b:hO P l):∃m,r=some (s1,m)/\hO P m/\OK P i a:=by
 unfold wR at h;split at h;{exact⟨l,h,b,.none⟩}
 ·split at h
  ·next e m=>
   cases h
   exact⟨m,rfl,λp d=>b p (Zg _ d),b (i,a) Zl⟩
  ·cases h
def B8{r:U (St×I (In×cB))}{m:I (In×cB)}(h:tw m r=some (s1,l))(d:hO P l):∃n,r=some (s1,n)/\hO P n/\hO P m:=by
 unfold tw at h;split at h
 ·next e n=>
  cases h
  exact⟨n,rfl,λp b=>d p (Zw _ b),λp b=>d p (aa _ b)⟩
 ·cases h
def K7(P:dg)(dr:Bool)(o:Oper)(K:St->Prop)(s:St):Prop:=bif dr then Yl P o K s else pL P o K s
def apn{x:AV}{h':I ar}{i:In}{a:cB}(h1:xl P o.op (ev s) s.h a=some (x,h',i))(d:OK P i a)(p:BH a=false)(k:K ((s.wh h').put o.dst x)):Yl P o K s:=by
 refine .inl ?_;unfold Ct;split
 ·next c F=>
  split
  ·next f u=>
   rw[F]at h1;unfold xl at h1;simp only[u]at h1;split at h1
   ·next g J r e=>
    obtain⟨b,v⟩:=fe h1;cases v;simp only[Zo]at b;simp only[e];cases d with
    |call L=>exact⟨_,k,λe=>(L.use b.1 b.2 ⟨rfl,rfl⟩).adR⟩
   ·cases p
   ·cases p
   ·cases p
   ·next g J l fK H r e=>
    cases h1
    simp only[e];cases d with|rq M N b R u=>exact⟨_,k,λe=>(M▸u.rq N b R e:dq P g _ _ _).Ol⟩
   ·next q r e=>
    obtain⟨b,v⟩:=fe h1;cases v;simp only[Zo]at b;simp only[e];cases d with
    |Ft W=>
     have:=λh=>W.use (h:=h) (C:=λr' h'=>r'=x/\h'=h) b.1 b.2 ⟨rfl,rfl⟩;obtain⟨g,cs,z,_⟩:=this [];refine⟨g,cs,z,x,k,λe=> ?_⟩;obtain⟨g',cM,B,h9⟩:=this (s.h++e);rw[z]at B;cases B
     exact h9
   ·cases h1
  ·exact BL (C:=λx h'=>K ((s.wh h').put o.dst x)) h1 d k
 ·exact BL (C:=λx h'=>K ((s.wh h').put o.dst x)) h1 d k
def akI{o:Oper}{ρ:Operand->AV}{h h':I ar}{e:I AV}{H H':I ar}{r x:AV}{i:In}(d:cS o=6)(b:xl P o.op ρ h (.FE [] e H r H')=some (x,h',i)):h'=h++H'.map (ar.te (rn [] h.length)):=by
 unfold cS at d;split at d
 all_goals first|(cases d;done)|skip
 next c k=>
  split at d
  all_goals first|(cases d;done)|skip
  next f p=>
   rw[k]at b;unfold xl at b;simp only[p]at b;generalize ρ f=v at b;cases v<;>first|(cases b;rfl)|cases b
def Rz(h:pk P dr o j as s=some (s1,l))(L:hO P l)(M:K s1):K7 P dr o K s:=by
 unfold pk at h;cases u:dr&&BH (jN as (3*j+1))&& !DJ o (jN as (3*j+1))with
 |true=>rw[u]at h;cases h
 |false=>
  rw[u]at h;simp only[UQ]at h;split at h
  ·next x h' i b=>
   have q:OK P i (jN as (3*j+1))->K ((s.wh h').put o.dst x)->K7 P dr o K s:=λd f=>by
    unfold K7;cases dr with
    |true=>
     unfold Jz at b;split at b
     ·next v e=>
      cases z:kZ o with
      |false=>rw[z]at b;cases b
      |true=>
       rw[z]at b;simp only[Wh,Bool.and_false,UQ]at b;split at b
       ·next W SI p B=>
        cases b
        rw[e]at d;cases d with|pr _ F=>exact .inr (.inr (.inl ⟨.inl ⟨z,rfl⟩,v,x,h',p,B,F,f⟩))
       ·cases b
     ·by_cases k:DJ o (jN as (3*j+1))=true
      ·refine .inr (.inr (.inr ?_));generalize jN as (3*j+1)=a at k d b;unfold DJ at k;split at k
       ·next fK H r H'=>
        have N:cS o=6:=by simpa using k
        have this:h'=s.h++H'.map (ar.te (rn [] s.h.length)):=akI N b;refine⟨N,x,H'.map (ar.te (rn [] s.h.length)),?_,λC R=> ?_⟩;{rw[<-this];exact f};{rw[<-this]at R;exact BL b d R}
       ·cases k
      ·exact apn b d (by simpa [k]using u) f
    |false=>
     unfold Jz at b;split at b
     ·next v e=>
      simp only[Bool.false_and,UQ]at b;split at b
      ·next W SI p B=>
       cases b
       rw[e]at d;cases d with|pr _ F=>exact .inl ⟨v,x,h',p,B,F,f⟩
      ·cases b
     ·exact .inr (.inr (.inl (BL (C:=λx h'=>K ((s.wh h').put o.dst x)) b d f)))
   split at h
   ·next y hy=>
    obtain⟨m,e,f,J⟩:=Ly h L;cases e
    have:=f (.eq x,.eq y) Zl;cases this with|eq e=>subst e;exact q J M
   ·obtain⟨m,e,f,J⟩:=Ly h L;cases e
    exact q J M
  ·cases h
def Uz(h:oM P ops dr o j as s=some (s1,l))(u:hO P l)(k:K s1):jX ops o s (K7 P dr o K s) (K (s.put o.dst (.d (.v undef)))):=by
 unfold oM at h;split at h;{next p=>unfold jX;rw[p];exact Rz h u k}
 ·next g f p=>
  obtain⟨J,R,W,L,after,guard⟩:=o;simp only at p;subst p;split at h
  ·next b M=>
   obtain⟨n,e,H,B⟩:=B8 h u;have q:=OK.JQ (B (_,_) Zl);rw[PS,q];refine⟨λF=> ?_,λF=> ?_⟩;{subst F;simp only[BEq.rfl,V1]at e;exact Rz e H k}
   ·subst F;have:((!f)==f)=false:=by cases f<;>rfl
    rw[this]at e;simp only[UQ]at e;cases e
    exact k
  ·next M=>
   obtain⟨n,e,H,B⟩:=B8 h u;cases e
   have q:=B (_,_) Zl;have N:wE ops g s.t= .d (.v undef):=by
    generalize wE ops g s.t=z at q;cases q;rfl
   rw[PS,N];exact k
  ·cases h
def Ab:∀(ol:I Oper)(j:Nat)(s:St)(l:I (In×cB)),pW P ops dr ol j as s=some (s1,l)->hO P l->K s1->(bif dr then Ew P ops ol K s else tV P ops ol K s)
 |[],_,s,l,h,_,b=>by cases h;cases dr<;>exact b
 |o::rest,j,s,l,h,p,b=>by
  unfold pW at h;split at h
  ·next q m d=>
   obtain⟨n,e,u,f⟩:=B8 h p;have k:=Ab rest (j+1) q n e u b;cases dr with
   |true=>exact Uz (K:=Ew P ops rest K) d f k
   |false=>exact Uz (K:=tV P ops rest K) d f k
  ·cases h
def TK(s:St)(d:U Nat)(x:AV):∃b,(s.put d x).t=b++s.t:=by
 cases d with
 |none=>exact⟨[],rfl⟩
 |some k=>
  by_cases e:k<s.n;{exact⟨[(k,x)],by rw[tc e];rfl⟩};{exact⟨[],by rw[Gs e];rfl⟩}
def RM(h:oM P ops dr o j as s=some (s1,l)):(∃b,s1.t=b++s.t)/\s1.n=s.n:=by
 have k:∀{i a r l},wR i a r=some (s1,l)->∃m,r=some (s1,m):=fun{i a r l} h=>by
  unfold wR at h;split at h;{exact⟨_,h⟩}
  ·split at h
   ·cases h;exact⟨_,rfl⟩
   ·cases h
 have d:∀{m r l},tw m r=some (s1,l)->∃m,r=some (s1,m):=fun{m r l} h=>by
  unfold tw at h;split at h;{cases h;exact⟨_,rfl⟩};{cases h}
 have st:∀l,pk P dr o j as s=some (s1,l)->(∃b,s1.t=b++s.t)/\s1.n=s.n:=λl h=>by
  unfold pk at h;cases f:dr&&BH (jN as (3*j+1))&& !DJ o (jN as (3*j+1))with
  |true=>rw[f]at h;cases h
  |false=>
   rw[f]at h;simp only[UQ]at h;split at h;{split at h<;>(obtain⟨m,e⟩:=k h;cases e;exact⟨TK _ _ _,by rw[s8];rfl⟩)};{cases h}
 unfold oM at h;split at h;{exact st _ h}
 ·split at h
  ·obtain⟨m,e⟩:=d h;revert e;generalize ((_:Bool)==_)=q;intro e;cases q with
   |true=>exact st _ e
   |false=>cases e;exact⟨TK _ _ _,by unfold Fm;rw[s8]⟩
  ·obtain⟨m,e⟩:=d h;cases e;exact⟨TK _ _ _,by unfold Fm;rw[s8]⟩
  ·cases h
def Tz:∀(ol:I Oper)(j:Nat)(s:St)(l:I (In×cB)),pW P ops dr ol j as s=some (s1,l)->(∃b,s1.t=b++s.t)/\s1.n=s.n
 |[],_,s,l,h=>by cases h;exact⟨⟨[],rfl⟩,rfl⟩
 |o::rest,j,s,l,h=>by
  unfold pW at h;split at h
  ·next d m f=>
   unfold tw at h;split at h
   ·next B n e=>
    cases h
    obtain⟨⟨k,p⟩,q⟩:=RM f;obtain⟨⟨u,v⟩,z⟩:=Tz rest (j+1) d n e;exact⟨⟨u++k,by rw[v,p,ZP]⟩,z.trans q⟩
   ·cases h
  ·cases h
end
def Y0:AV->Bool
 | .dead=>true
 |_=>false
def sU(P:dg)(dr:Bool)(l:I Oper)(as:I (Nat×cB))(keep:I Nat)(s:St):U (I (Nat×AV)×I ar×I (In×cB)):=
 match pW P l.toArray dr l 0 as s with
 |some (s1,ps)=>bif (s1.t.take (s1.t.length-s.t.length)).all (λp=>keep.any (·==p.1)||Y0 (bM s.t p.1))then some (keep.map λk=>(k,bM s1.t k),s1.h,ps)else none
 |none=>none
def Eu:∀(a b:I (Nat×AV))(i:Nat),(i∈a.map (·.1)/\bM (a++b) i=bM a i)\/(i ∉ a.map (·.1)/\bM (a++b) i=bM b i)
 |[],b,i=>.inr ⟨by simp,rfl⟩
 |(k,x)::a,b,i=>by
  by_cases e:i=k;{subst e;exact .inl ⟨by simp,by simp [mi]⟩}
  ·rcases Eu a b i with⟨d,f⟩|⟨d,f⟩
   ·exact .inl ⟨by simp at d ⊢;exact .inr d,by rw[List.cons_append,mi,ZN e,f,mi,ZN e]⟩
   ·exact .inr ⟨by simp at d ⊢;exact⟨e,d⟩,by rw[List.cons_append,mi,ZN e,f]⟩
section
variable {P:dg} {dr:Bool} {as:I (Nat×cB)} {s s1 s':St} {ps:I (In×cB)} {keep:I Nat} {ol:I Oper} {Δ:I (Nat×AV)} {h':I ar}
def Ld(h:sU P dr ol as keep s=some (Δ,h',ps)):∃s1,pW P ol.toArray dr ol 0 as s=some (s1,ps)/\s1.n=s.n/\s1.h=h'/\∀i,bM (Δ++s.t) i=bM s1.t i\/bM (Δ++s.t) i= .dead:=by
 unfold sU at h;split at h
 ·next s1 L u=>
  obtain⟨v,M⟩:=fe h;cases M
  obtain⟨⟨d,B⟩,N⟩:=Tz _ _ _ _ u;refine⟨s1,u,N,rfl,λi=> ?_⟩;have F:∀(f:Nat->AV),(keep.map λk=>(k,f k)).map (·.1)=keep:=λf=>by rw[List.map_map];exact List.map_id _
  rcases Eu (keep.map λk=>(k,bM s1.t k)) s.t i with⟨b,q⟩|⟨b,q⟩
  ·rw[F]at b;rw[q,sK (λk=>bM s1.t k),ZL b];exact .inl rfl
  ·rw[F]at b;rw[q];rw[B,Zj,Nat.add_sub_cancel,List.take_left']at v
   ·rw[B];rcases Eu d s.t i with⟨H,J⟩|⟨H,J⟩
    ·right
     obtain⟨p,R,rfl⟩:=W1.1 H;have:=Zb.1 v p R;rw[af]at this;rcases this with this|this
     ·exfalso;obtain⟨k,W,e⟩:=List.any_eq_true.1 this;rw[Ve]at e;exact b (e▸W)
     ·generalize bM s.t p.1=z at this;cases z<;>first|rfl|cases this
    ·exact .inl J.symm
   ·rfl
 ·cases h
def dx.less{G:Gh}{w:Zz}{a:Act}(b:dx G w a s1)(d:s'.n=s1.n)(f:s'.h=s1.h)(k:∀i,bM s'.t i=bM s1.t i\/bM s'.t i= .dead):dx G w a s':=
 ⟨b.size.trans d.symm,λi=>by
  rcases k i with e|e
  ·rw[e];exact b.tmp i
  ·rw[e];exact .dead _,by rw[f];exact b.inv,b.df⟩
end
structure Ob(P:Program) where
 i:In
 o:cB
 ok:OK P i o
def bT{P:dg}{e:Bool}(h:e=true):Ob P:=⟨_,_,.bit (b:=true) h⟩
def bF{P:dg}{e:Bool}(h:e=false):Ob P:=⟨_,_,.bit (b:=false) h⟩
def uN{P:dg}:Ob P:=⟨_,_,.Fl⟩
def cL{P:dg}{f:FuncId}{args:I AV}{r:AV}(h:gZ P f args (·=r)):Ob P:=⟨_,_,.call h⟩
def jV{P:dg}(l:I (Nat×Ob P)):I (Nat×cB):=l.map λb=>(b.1,b.2.o)
def kf{P:dg}(l:I (Nat×Ob P)):I (In×cB):=l.map λb=>(b.2.i,b.2.o)
def qO{P:dg}(l:I (Nat×Ob P)):hO P (kf l):=λp d=>by
 obtain⟨b,_,rfl⟩:=W1.1 d;exact b.2.ok
section
variable {P:dg} {r:U Nat} {N0 id:Nat} {ol:I Oper} {y:Code} {s:St} {Q Q':Exit->St->Prop} {aB:I (Nat×Ob P)} {Δ:I (Nat×AV)} {h':I ar}
def Mn{c:Code}{s':St}(b:s'.n=s.n)(d:s'.h=s.h)(e:∀i,bM s'.t i=bM s.t i\/bM s'.t i= .dead)(h:bQ P r N0 c Q s'):bQ P r N0 c Q s:=
 ⟨λG w a n f k=>h.run G w a n (f.less b d e) k⟩
def Xa(aB:I (Nat×Ob P))(Δ:I (Nat×AV))(h':I ar)(h:sU P false ol (jV aB) (Δ.map (·.1)) s=some (Δ,h',kf aB))(k:bQ P r N0 y Q' ⟨s.n,Δ++s.t,h'⟩):bQ P r N0 (.region id ol.toArray false) (jk (λs=>bQ P r N0 y Q' s) Q) s:=by
 obtain⟨s1,b,d,e,f⟩:=Ld h;refine fS ?_;exact Ab (dr:=false) ol 0 s _ b (qO aB) (Mn (s:=s1) (s':=⟨s.n,Δ++s.t,h'⟩) d.symm e.symm f k)
def aiL(b:P.follows .mixedOrders=true)(d:sP ol.toArray=true)(aB:I (Nat×Ob P))(Δ:I (Nat×AV))(h':I ar)(h:sU P true ol (jV aB) (Δ.map (·.1)) s=some (Δ,h',kf aB))(k:bQ P r N0 y Q' ⟨s.n,Δ++s.t,h'⟩):bQ P r N0 (.region id ol.toArray true) (jk (λs=>bQ P r N0 y Q' s) Q) s:=by
 obtain⟨s1,e,f,p,q⟩:=Ld h;refine N5 b d ?_;exact Ab (dr:=true) ol 0 s _ e (qO aB) (Mn (s:=s1) (s':=⟨s.n,Δ++s.t,h'⟩) f.symm p.symm q k)
def AE(P:dg)(dr:Bool)(l:I Oper)(as:I (Nat×cB))(s:St):U (I (Nat×AV)×I ar×I (In×cB)):=
 match pW P l.toArray dr l 0 as s with
 |some (s1,ps)=>some (s1.t,s1.h,ps)
 |none=>none
def Wc{dr:Bool}{as:I (Nat×cB)}{t:I (Nat×AV)}{ps:I (In×cB)}(h:AE P dr ol as s=some (t,h',ps)):pW P ol.toArray dr ol 0 as s=some (⟨s.n,t,h'⟩,ps):=by
 unfold AE at h;split at h
 ·next s1 d b=>
  cases h
  obtain⟨_,e⟩:=Tz _ _ _ _ b;rw[b,<-e]
 ·cases h
def arj(aB:I (Nat×Ob P))(Δ:I (Nat×AV))(h':I ar)(h:AE P false ol (jV aB) s=some (Δ++s.t,h',kf aB))(k:Q .normal ⟨s.n,Δ++s.t,h'⟩):bQ P r N0 (.region id ol.toArray false) Q s:=
 fS (Ab (dr:=false) ol 0 s _ (Wc h) (qO aB) k)
def ahC(b:P.follows .mixedOrders=true)(d:sP ol.toArray=true)(aB:I (Nat×Ob P))(Δ:I (Nat×AV))(h':I ar)(h:AE P true ol (jV aB) s=some (Δ++s.t,h',kf aB))(k:Q .normal ⟨s.n,Δ++s.t,h'⟩):bQ P r N0 (.region id ol.toArray true) Q s:=
 N5 b d (Ab (dr:=true) ol 0 s _ (Wc h) (qO aB) k)
end
def AV.fin(m:Nat)(x:AV):AV:=(x.bR m).nrm
def ar.rX:ar->ar
 | .cells cs=>.cells (cs.map AV.nrm)
 | .lp b p as bd cs=>.lp b p as bd (cs.map AV.nrm)
 | .it d cs=>.it d (cs.map AV.nrm)
 | .fG T cs=>.fG T (cs.map AV.nrm)
 | .vec e k cs=>.vec e k (cs.map (·.map AV.nrm))
 |B=>B
def ly(s:St)(live:I Nat)(m:Nat):U St:=bif cG m s.h.length&&(live.all λk=>((bM s.t k).bR m).aN m)&&(((s.h.take m).map (ar.bR m)).all (ar.aN m))then some ⟨s.n,live.map λk=>(k,(bM s.t k).fin m),((s.h.take m).map (ar.bR m)).map ar.rX⟩else none
def QA{G:Gh}{w:Zz}{h:I ar}(hi:cu G w h):cu G w (h.map ar.rX):=by
 have fD:∀(n:Nat)(B:ar),(h.map ar.rX)[n]?=some B->∃B',h[n]?=some B'/\B=B'.rX:=λn B q=>by
  rw[Zm]at q;cases f:h[n]? with
  |none=>rw[f]at q;cases q
  |some B'=>rw[f]at q;cases q;exact⟨B',rfl,rfl⟩
 have fp:∀n b,ct (h.map ar.rX) G n=some b->ct h G n=some b:=λn b hb=>by
  obtain⟨B,q,hb⟩:=n9 hb;obtain⟨B',W,rfl⟩:=fD n B q;rw[eJ W,<-hb];cases B'<;>rfl
 refine⟨by rw[Zq];exact hi.len,hi.z,hi.S,λn B q=> ?_,λi j b W h2=>hi.inj i j b (fp i b W) (fp j b h2),hi.gl⟩;obtain⟨B',W,rfl⟩:=fD n B q;have v:=hi.dJ n B' W;cases B' with
 |gone=>trivial
 |front e k len=>exact v
 |jq e b=>exact v
 |map kv=>exact v
 |jx kv=>exact v
 |vec e k cs=>
  obtain⟨F,H,J,L⟩:=v;refine⟨by rw[Zq];exact F,by rw[Zq];exact H,λc d=> ?_,?_⟩;{obtain⟨x,f,rfl⟩:=W1.1 d;rw[Zq];exact J x f}
  ·rcases L with⟨d1,d2,A,d3⟩|⟨g,cap,cur,d1,d2,d3,d4,d5,d6,d7,d8,d9⟩
   ·exact .inl ⟨d1,by rw[d2];rfl,A,d3⟩
   ·refine .inr ⟨g,cap,cur,d1,by rw[Zq];exact d2,d3,d4,by rw[Zq];exact d5,d6,d7,d8,λi j c x u d f M=> ?_⟩;rw[Zm]at d;cases hy:cs[i]? with
    |none=>rw[hy]at d;cases d
    |some y=>
     rw[hy]at d;cases d
     rw[Zm]at f;cases hw:y[j]? with
     |none=>rw[hw]at f;cases f
     |some z=>rw[hw]at f;cases f;exact(d9 i j y z u hy hw M).nrm
 |cells cs=>
  obtain⟨F,H,N,T,J,L,R⟩:=v;refine⟨F,H,N,T,J,by rw[Zq];exact L,λi u c M d=> ?_⟩;rw[Zm]at d;cases f:cs[i]? with
  |none=>rw[f]at d;cases d
  |some x=>rw[f]at d;cases d;exact(R i u x M f).nrm
 |lp ls p as bd cs=>
  obtain⟨F,H,fn,N,T,J,L,R⟩:=v;refine⟨F,H,fn,N,T,J,by rw[Zq];exact L,λi u c M d=> ?_⟩;rw[Zm]at d;cases f:cs[i]? with
  |none=>rw[f]at d;cases d
  |some x=>rw[f]at d;cases d;exact(R i u x M f).nrm
 |it sn cs=>
  obtain⟨F,H,fn,N,T,J,L,R⟩:=v;refine⟨F,H,fn,N,T,J,by rw[Zq];exact L,λi u c M d=> ?_⟩;rw[Zm]at d;cases f:cs[i]? with
  |none=>rw[f]at d;cases d
  |some x=>rw[f]at d;cases d;exact(R i u x M f).nrm
 |fG T0 cs=>
  obtain⟨F,H,fn,N,T,J,L,R⟩:=v;refine⟨F,H,fn,N,T,J,by rw[Zq];exact L,λi u c M d=> ?_⟩;rw[Zm]at d;cases f:cs[i]? with
  |none=>rw[f]at d;cases d
  |some x=>rw[f]at d;cases d;exact(R i u x M f).nrm
section
variable {P:dg} {r:U Nat} {n N0:Nat} {G:Gh} {w:Zz} {a:Act} {s s':St} {Q Q':Exit->St->Prop} {live:I Nat} {m:Nat}
def ahJ(h:ly s live m=some s'):s.C2 live m/\s'.n=s.n/\s'.t=(live.map λk=>(k,(bM s.t k).fin m))/\s'.h=((s.h.take m).map (ar.bR m)).map ar.rX:=by
 unfold ly at h;obtain⟨b,rfl⟩:=fe h;rw[Zo,Zo]at b;exact⟨⟨dS.1 b.1.1,b.1.2,b.2⟩,rfl,rfl,rfl⟩
def dx.ly(b:dx G w a s)(h:ly s live m=some s'):dx (G.cut m) w a s':=by
 obtain⟨f,p,q,u⟩:=ahJ h;have e:=b.mask f;refine⟨b.size.trans p.symm,λi=> ?_,by rw[u];exact QA e.inv,b.df⟩;have:=e.tmp i
 change aO _ _ _ (bM (live.map λk=>(k,(bM s.t k).bR m)) i)at this
 rw[sK (λk=>(bM s.t k).bR m)]at this;rw[q,sK (λk=>(bM s.t k).fin m)];split at this;{rename_i d;rw[ZL d];exact this.nrm};{rename_i d;rw[ZN d];exact .dead _}
def SP{c:Code}{ι:Type}(live:I Nat)(m:Nat)(st:ι->St)(b:ι->Prop)(μ:ι->Nat)(d:ι)(k:N0<=m)(h0:Go.Proofs.YtnnapanbbbcalaaGreatDoor.ly s live m=some (st d))(z:b d)
 (round:∀i,b i->bQ P r N0 c (jk (λs'=>∃i',Go.Proofs.YtnnapanbbbcalaaGreatDoor.ly s' live m=some (st i')/\b i'/\μ i'<μ i) Q) (st i)):bQ P r N0 (.loop c) Q s:=by
 constructor
 intro G w a n B _;refine Wv (λ(i:ι) f w'=>∃G',b i/\cn N0 G w G' w'/\N0<=G'.N/\dx G' w' f (st i)) μ d ⟨G.cut m,z,rC _ _ _ _,k,B.ly h0⟩ ?_;rintro i f w' ⟨G',F,p,H,J⟩;refine wpIn_mono ((round i F).run G' w' f n J H) λe a1 w1 L=> ?_;obtain⟨G1,s1,q,M,u,v⟩:=L;cases e with
 |normal=>
  obtain⟨i',R,W,h3⟩:=v;exact⟨i',⟨G1.cut m,W,(p.trans q).trans (rC _ _ _ _),k,u.ly R⟩,h3⟩
 |_=>exact⟨G1,s1,p.trans q,M,u,v⟩
def gu{c:Code}(live:I Nat)(m:Nat)(b:N0<=m)(h0:Go.Proofs.YtnnapanbbbcalaaGreatDoor.ly s live m=some s')(h:bQ P r N0 c Q s'):bQ P r N0 c Q s:=by
 constructor
 intro G w a n d _;exact wpIn_mono (h.run (G.cut m) w a n (d.ly h0) b) λ_ _ _ e=>e.trans (rC N0 G w m)
def rE{c y:Code}{ι:Type}(live:I Nat)(m:Nat)(st:ι->St)(b:ι->Prop)(d:N0<=m)(f:bQ P r N0 c (jk (λs'=>∃i,Go.Proofs.YtnnapanbbbcalaaGreatDoor.ly s' live m=some (st i)/\b i) Q) s)(k:∀i,b i->bQ P r N0 y Q' (st i)):bQ P r N0 c (jk (λs=>bQ P r N0 y Q' s) Q) s:=by
 refine f.mono λe s' h=> ?_;cases e with
 |normal=>obtain⟨i,p,q⟩:=h;exact gu live m d p (k i q)
 |_=>exact h
def ur(P:dg)(s:St):I ResultVar->U (I AV)
 |[]=>some []
 | .tmp t::l=>match ur P s l with
   |some b=>some (bM s.t t::b)
   |none=>none
 | .cell p t::l=>match yy s.h (bM s.t p)with
   |some (cs,d)=>match CB P t cs d,ur P s l with
    |some x,some b=>some (x::b)
    |_,_=>none
   |none=>none
def zk(P:dg)(b:I ResultVar)(s:St):U AV:=
 match ur P s b with
 |some l=>bif ((lx l).bR 0).aN 0 then some ((lx l).fin 0)else none
 |none=>none
def mf(P:dg)(fn:Func)(R:AV):Exit->St->Prop
 | .normal,s=>zk P fn.results.toList s=some R
 | .ret,s=>zk P fn.results.toList s=some R
 |_,_=>False
def G6:∀(l:I ResultVar)(xs:I AV)(C:I AV->Prop),ur P s l=some xs->C xs->oD P s l C
 |[],xs,C,h,b=>by cases h;exact b
 | .tmp t::l,xs,C,h,b=>by
   unfold ur at h;split at h;{next d e=>cases h;exact G6 l d _ e b};{cases h}
 | .cell p t::l,xs,C,h,b=>by
   unfold ur at h;split at h
   ·next cs f e=>
    split at h;{next x d k q=>cases h;exact Un e k (G6 l d _ q b)};{cases h}
   ·cases h
def XY{fn:Func}{R:AV}(h:zk P fn.results.toList s=some R):tz P fn 0 (λr h'=>h'=[]/\r.nrm=R) s:=by
 unfold zk at h;split at h
 ·next l e=>
  obtain⟨b,rfl⟩:=fe h;exact G6 _ l _ e ⟨WJ _,b,by simp,by simp,rfl⟩
 ·cases h
def fJ{fn:Func}{R:AV}(h:zk P fn.results.toList s=some R):mf P fn R .ret s:=h
def mJ{f:FuncId}{fn:Func}{c:Code}{args:I AV}{R:AV}(d:P.funcs[f]?=some fn)(k:fn.body=some c)(p:(fn.name== "runtime.NumGoroutine")=false)
 (q:bQ P none 0 c (mf P fn R) {n:=args.length+(fn.ntmps-args.length),t:=nj 0 args,h:=[]}):gZ P f args (·=R):=by
 have h:=vU (P:=P) (f:=f) (args:=args) (h:=[]) (K:=λr h'=>h'=[]/\r.nrm=R) 0 d k p (Zr _) (q.mono λe s b=>by
  cases e with
  |normal=>exact XY b
  |ret=>exact XY b
  |_=>exact b.elim)
 refine⟨h.1,λG w u z B F=>(h.2 G w u z B F).mono λe w' H=> ?_⟩;obtain⟨v,J,x,h',rfl,L,M,N,W,rfl,rfl⟩:=H;exact⟨v,J,x.nrm,[],rfl,L,M,N,W.nrm,rfl,rfl⟩
def ate{c:Code}(b i:Nat)(xs:I (I D))(d:((s.h[b]?).bind λB=>match B with| .cells cs=>(cs[i]?).bind AV.gN|_=>none)=some xs)(h:xs.length<=maxLen->bQ P r N0 c Q s):bQ P r N0 c Q s:=by
 constructor
 intro G w a n k p;cases f:s.h[b]? with
 |none=>rw[f]at d;cases d
 |some B=>
  rw[f]at d;cases B with
  |cells cs=>
   simp only[re]at d;obtain⟨_,_,vs,T,_,q,u⟩:=k.inv.dJ b _ f;cases e:cs[i]? with
   |none=>rw[e]at d;cases d
   |some x=>
    rw[e]at d;have v:i<vs.size:=by rw[q];exact(Zk.1 e).1
    obtain⟨A,H,o,J,L,M,_,_,z,F,_⟩:=((u i _ x (ZH v) e).list d).rb;exact(h (Za z F)).run G w a n k p
  |_=>cases d
end
def ajN{P:dg}{r:U Nat}{N0 id:Nat}{ol:I Oper}{y:Code}{s:St}{Q Q':Exit->St->Prop}(Δ:I (Nat×AV))(h':I ar)(h:∃aB:I (Nat×Ob P),sU P false ol (jV aB) (Δ.map (·.1)) s=some (Δ,h',kf aB))(k:bQ P r N0 y Q' ⟨s.n,Δ++s.t,h'⟩):bQ P r N0 (.region id ol.toArray false) (jk (λs=>bQ P r N0 y Q' s) Q) s:=
 let ⟨aB,h⟩:=h;Xa aB Δ h' h k
def dh{α:Type}{c:Bool}{a b:α}(h:c=true):cond c a b=a:=by rw[h];rfl
def ee{α:Type}{c:Bool}{a b:α}(h:c=false):cond c a b=b:=by rw[h];rfl
def bz{α β:Type}{x:U α}{f:α->U β}{b:β}(h:Option.bind x f=some b):∃a,x=some a/\f a=some b:=by
 cases x with
 |none=>cases h
 |some a=>exact⟨a,rfl,h⟩
def eo(b:Bool):b=true\/b=false:=by cases b<;>simp
def cy{b:Bool}(h:b=true):(!b)=false:=by rw[h];rfl
def dt{b:Bool}(h:b=false):(!b)=true:=by rw[h];rfl
def jZ{α:Type}{c:Bool}{x:U α}{r:α}(h:(bif c then x else none)=some r):c=true:=by
 cases c with
 |true=>rfl
 |false=>cases h
section
variable {P:dg} {r:U Nat} {N0 id n:Nat} {ol:I Oper} {y:Code} {t:I (Nat×AV)} {h:I ar} {Q Q':Exit->St->Prop}
def rg(aB:I (Nat×Ob P))(Δ:I (Nat×AV))(h':I ar)(e:sU P false ol (jV aB) (Δ.map (·.1)) ⟨n,t,h⟩=some (Δ,h',kf aB))(k:bQ P r N0 y Q' ⟨n,Δ++t,h'⟩):bQ P r N0 (.region id ol.toArray false) (jk (λs=>bQ P r N0 y Q' s) Q) ⟨n,t,h⟩:=Xa aB Δ h' e k
def CU(aB:I (Nat×Ob P))(Δ:I (Nat×AV))(h':I ar)(k:bQ P r N0 y Q' ⟨n,Δ++t,h'⟩)(e:sU P false ol (jV aB) (Δ.map (·.1)) ⟨n,t,h⟩=some (Δ,h',kf aB):=by kernel_rfl):bQ P r N0 (.region id ol.toArray false) (jk (λs=>bQ P r N0 y Q' s) Q) ⟨n,t,h⟩:=rg aB Δ h' e k
def rd(b:P.follows .mixedOrders=true)(d:sP ol.toArray=true)(aB:I (Nat×Ob P))(Δ:I (Nat×AV))(h':I ar)(e:sU P true ol (jV aB) (Δ.map (·.1)) ⟨n,t,h⟩=some (Δ,h',kf aB))(k:bQ P r N0 y Q' ⟨n,Δ++t,h'⟩):bQ P r N0 (.region id ol.toArray true) (jk (λs=>bQ P r N0 y Q' s) Q) ⟨n,t,h⟩:=aiL b d aB Δ h' e k
def aaF(aB:I (Nat×Ob P))(Δ:I (Nat×AV))(h':I ar)(e:AE P false ol (jV aB) ⟨n,t,h⟩=some (Δ++t,h',kf aB))(k:Q .normal ⟨n,Δ++t,h'⟩):bQ P r N0 (.region id ol.toArray false) Q ⟨n,t,h⟩:=arj aB Δ h' e k
def CH(aB:I (Nat×Ob P))(Δ:I (Nat×AV))(h':I ar)(k:Q .normal ⟨n,Δ++t,h'⟩)(e:AE P false ol (jV aB) ⟨n,t,h⟩=some (Δ++t,h',kf aB):=by kernel_rfl):bQ P r N0 (.region id ol.toArray false) Q ⟨n,t,h⟩:=aaF aB Δ h' e k
def XX(b:P.follows .mixedOrders=true)(d:sP ol.toArray=true)(aB:I (Nat×Ob P))(Δ:I (Nat×AV))(h':I ar)(e:AE P true ol (jV aB) ⟨n,t,h⟩=some (Δ++t,h',kf aB))(k:Q .normal ⟨n,Δ++t,h'⟩):bQ P r N0 (.region id ol.toArray true) Q ⟨n,t,h⟩:=ahC b d aB Δ h' e k
def CN(Δ:I (Nat×AV))(h':I ar)(e:∃aB:I (Nat×Ob P),sU P false ol (jV aB) (Δ.map (·.1)) ⟨n,t,h⟩=some (Δ,h',kf aB))(k:bQ P r N0 y Q' ⟨n,Δ++t,h'⟩):bQ P r N0 (.region id ol.toArray false) (jk (λs=>bQ P r N0 y Q' s) Q) ⟨n,t,h⟩:=ajN Δ h' e k
end
def bs(l:I UInt8):so:=⟨l.toArray⟩
def vA(x:D):Prop:=∃(S:Nat->Nat->Prop)(w:Zz)(u:kd),dY S w u x
def Ma{xs:I (I D)}(h:vA (.sl xs)):xs.length<=maxLen:=by
 obtain⟨S,w,u,h⟩:=h;obtain⟨A,e,o,f,k,p,_,_,b,d,_⟩:=h.rb;exact Za b d
def Hm{xs:I (I D)}{i j:Nat}{c:I D}{d:D}(h:vA (.sl xs))(b:xs[i]?=some c)(e:c[j]?=some d):vA d:=by
 obtain⟨S,w,u,h⟩:=h;obtain⟨A,k,o,p,q,v,_,_,z,B,F,H,f⟩:=h.rb;exact⟨S,w,_,f i j c d b e⟩
section
variable {P:dg} {r:U Nat} {n N0:Nat} {s:St} {Q:Exit->St->Prop}
def x9{c:Code}(k:Nat)(xs:I (I D))(d:(bM s.t k).gN=some xs)(h:vA (.sl xs)->bQ P r N0 c Q s):bQ P r N0 c Q s:=by
 constructor
 intro G w a n b e;exact(h ⟨_,_,_,(b.tmp k).list d⟩).run G w a n b e
def alY{c:Code}(b i:Nat)(xs:I (I D))(d:((s.h[b]?).bind λB=>match B with| .cells cs=>(cs[i]?).bind AV.gN|_=>none)=some xs)(h:vA (.sl xs)->bQ P r N0 c Q s):bQ P r N0 c Q s:=by
 constructor
 intro G w a n k p;cases f:s.h[b]? with
 |none=>rw[f]at d;cases d
 |some B=>
  rw[f]at d;cases B with
  |cells cs=>
   simp only[re]at d;obtain⟨_,_,vs,T,_,q,u⟩:=k.inv.dJ b _ f;cases e:cs[i]? with
   |none=>rw[e]at d;cases d
   |some x=>
    rw[e]at d;have v:i<vs.size:=by rw[q];exact(Zk.1 e).1
    exact(h ⟨_,_,_,(u i _ x (ZH v) e).list d⟩).run G w a n k p
  |_=>cases d
end
mutual
def AV.gd(b:Nat)(ds:I D):AV->AV
 | .ptr n off=>bif n==b then .bK [ds] 0 off else .ptr n off
 | .agg cs=>.agg (AV.wu b ds cs)
 | .bn cs=>.bn (AV.wu b ds cs)
 | .fn f cs=>.fn f (AV.wu b ds cs)
 |x=>x
def AV.wu(b:Nat)(ds:I D):I AV->I AV
 |[]=>[]
 |x::l=>x.gd b ds::AV.wu b ds l
end
def I3(b:Nat)(d:I D):∀l,AV.wu b d l=l.map (AV.gd b d)
 |[]=>by simp [AV.wu]
 |x::l=>by simp [AV.wu,I3 b d l]
def ar.gd(b:Nat)(d:I D):ar->ar
 | .cells cs=>.cells (cs.map (AV.gd b d))
 | .lp f p as bd cs=>.lp f p as bd (cs.map (AV.gd b d))
 | .it q cs=>.it q (cs.map (AV.gd b d))
 | .fG T cs=>.fG T (cs.map (AV.gd b d))
 | .vec e k cs=>.vec e k (cs.map (·.map (AV.gd b d)))
 |B=>B
def yj(s:St)(b:Nat):U St:=
 match s.h[b]? with
 |some (.cells cs)=>match ox cs with
  |some d=>some ⟨s.n,s.t.map λp=>(p.1,p.2.gd b d),(s.h.map (ar.gd b d)).set b .gone⟩
  |none=>none
 |_=>none
def Fg(f:AV->AV)(b:f .dead= .dead):∀(t:I (Nat×AV))(i:Nat),bM (t.map λp=>(p.1,f p.2)) i=f (bM t i)
 |[],i=>by simp [bM,b]
 |(k,x)::l,i=>by
  simp only[ZS,mi,Fg f b l i];split<;>rfl
def aO.gd{G G':Gh}{w:Zz}{b:Nat}{M:I D}(hE:cn G.N G w G' w)(hN:G'.N=G.N)(B:∀off,aO G' w (.pointer (some ⟨G.aZ b,off,none⟩)) (.bK [M] 0 off)){u:kd}{x:AV}(h:aO G w u x):aO G' w u (x.gd b M):=by
 have keep:∀{u:kd}{x:AV},aO G w u x->aO G' w u x:=λh=>h.keep hE (Nat.le_of_eq hN.symm);have R:∀(p:Array kd)(cs:I AV),(∀(i:Nat)(u:kd)(c:AV),p[i]?=some u->cs[i]?=some c->aO G' w u (c.gd b M))->∀(i:Nat)(u:kd)(c:AV),p[i]?=some u->(AV.wu b M cs)[i]?=some c->aO G' w u c:=by
  intro p cs q i u c W F;rw[I3,Zm]at F;cases H:cs[i]? with
  |none=>rw[H]at F;cases F
  |some x=>rw[H]at F;cases F;exact q i u x W H
 induction h with
 |agg p cs v _ q=>rw[AV.gd];exact .agg p _ (by rw[I3,Zq];exact v) (R p cs q)
 |bn p cs v _ q=>rw[AV.gd];exact .bn p _ (by rw[I3,Zq];exact v) (R p cs q)
 |fn f p cs v _ q=>rw[AV.gd];exact .fn f p _ (by rw[I3,Zq];exact v) (R p cs q)
 |ptr n off h=>
  rw[AV.gd,cond_eq_ite];split;{next e=>rw[Ve]at e;subst e;exact B off};{exact keep (.ptr n off h)}
 |own n J h B hle z=>simp only[AV.gd];exact keep (.own n J h B hle z)
 |d h=>simp only[AV.gd];exact keep (.d h)
 |bK J i off b o u x H hS W=>simp only[AV.gd];exact keep (.bK J i off b o u x H hS W)
 |full J B z=>simp only[AV.gd];exact keep (.full J B z)
 |row n off len cap k h v hm=>simp only[AV.gd];exact keep (.row n off len cap k h v hm)
 |mp n h=>simp only[AV.gd];exact keep (.mp n h)
 |cF n h=>simp only[AV.gd];exact keep (.cF n h)
 |vec n o len L k h hs hL z=>simp only[AV.gd];exact keep (.vec n o len L k h hs hL z)
 |eC n i j L k h hs hL z=>simp only[AV.gd];exact keep (.eC n i j L k h hs hL z)
 |hid h h1=>simp only[AV.gd];exact keep (.hid h h1)
 |dead u=>simp only[AV.gd];exact .dead u
def XW:∀(cs:I AV)(b:I D),ox cs=some b->cs.length=b.length/\∀(i:Nat)(c:AV)(d:D),cs[i]?=some c->b[i]?=some d->c.AI=some d
 |[],b,h=>by unfold ox at h;cases h;exact⟨rfl,λi c d e=>by simp at e⟩
 |x::cs,b,h=>by
  unfold ox at h;split at h
  ·next d l k p=>
   cases h
   obtain⟨q,u⟩:=XW cs l p;refine⟨by simp [q],λi c v e f=> ?_⟩
   match i with
   |0=>simp only[List.getElem?_cons_zero,W2]at e f;subst e;subst f;exact k
   |i+1=>exact u i c v (by simpa using e) (by simpa using f)
  ·cases h
def aO.asG{G:Gh}{w:Zz}{u:kd}{x:AV}{d:D}(h:aO G w u x)(b:x.AI=some d):dY G.S w u d:=by
 cases h with
 |d h=>cases b;exact h.wo
 |own n f h e=>cases b;exact e
 |full f e=>cases b;exact e
 |_=>cases b
def dx.yj{G:Gh}{w:Zz}{a:Act}{s s':St}{b:Nat}(F:dx G w a s)(h:yj s b=some s'):∃G',cn G.N G w G' w/\G'.N=G.N/\dx G' w a s':=by
 unfold Go.Proofs.YtnnapanbbbcalaaGreatDoor.yj at h;split at h
 ·next cs hb=>
  split at h
  ·next ds pR=>
   cases h
   obtain⟨z1,z2,vs,T,z3,z4,z5⟩:=F.inv.dJ b _ hb;obtain⟨d1,d2⟩:=XW cs ds pR;have R:ct s.h G b=some (G.aZ b):=eJ hb;obtain⟨S,L⟩:∃S:Nat->Nat->Prop,S=λb' o=>G.S b' o\/(b'=G.aZ b/\o<ds.length):=⟨_,rfl⟩;have W:cn G.N G w {G with S:=S} w:=⟨Zr _,λb o h=>by show S b o;rw[L];exact .inl h,λ_ _ _=>rfl,λ_ _=>rfl,λ_ _=>.inl ⟨rfl,rfl⟩,iO rfl,λ_ _=>rfl,rfl,rfl,rfl,λb' o F=>by
    have q:S b' o:=F;rw[L]at q;rcases q with h|⟨rfl,_⟩
    ·exact .inl h
    ·exact .inr z1⟩
   have hp:∀off,aO {G with S:=S} w (.pointer (some ⟨G.aZ b,off,none⟩)) (.bK [ds] 0 off):=λoff=>by
    have:=aO.bK (G:={G with S:=S}) (w:=w) [ds] 0 off (G.aZ b) 0 (λj=>vs.getD j undef) ds rfl (λj hj=> ?_) (λj d hd=> ?_);{rwa [ZJ]at this}
    ·have iw:j<vs.size:=by rw[z4,d1];exact hj
     refine⟨by show S _ _;rw[L];exact .inr ⟨rfl,by rw[ZJ];exact hj⟩,?_⟩;rw[ZJ,cell_of_row w (G.aZ b) j vs T (0,0) z3];simp [Array.getD,iw]
    ·have hj:j<ds.length:=(Zk.1 hd).1;have iw:j<vs.size:=by rw[z4,d1];exact hj
     have f:cs[j]?=some cs[j]:=Zd (by rw[d1];exact hj);have hv:=z5 j vs[j] _ (ZH iw) f;have e:vs.getD j undef=vs[j]:=by simp [Array.getD,iw]
     rw[e];exact(hv.asG (d2 j _ d f hd)).keep W.S W.cell
   have hv:∀{u:kd}{x:AV},aO G w u x->aO {G with S:=S} w u (x.gd b ds):=λh=>h.gd W rfl hp;have aqV:=(Zk.1 hb).1;have fD:∀(n:Nat)(B:ar),((s.h.map (ar.gd b ds)).set b .gone)[n]?=some B->(n=b/\B= .gone)\/(n≠b/\∃B',s.h[n]?=some B'/\B=B'.gd b ds):=λn B hB=>by
    by_cases e:b=n;{subst e;rw[Z1 (by rw[Zq];exact aqV)]at hB;cases hB;exact .inl ⟨rfl,rfl⟩}
    ·rw[Z3 e,Zm]at hB;cases v:s.h[n]? with
     |none=>rw[v]at hB;cases hB
     |some B'=>rw[v]at hB;cases hB;exact .inr ⟨λh=>e h.symm,B',rfl,rfl⟩
   have fp:∀n x,ct ((s.h.map (ar.gd b ds)).set b .gone) {G with S:=S} n=some x->n≠b/\ct s.h G n=some x:=λn x v=>by
    obtain⟨B,hn,v⟩:=n9 v;rcases fD n _ hn with⟨_,e⟩|⟨M,B',H,rfl⟩
    ·subst e;cases v
    ·refine⟨M,?_⟩;rw[eJ H,<-v];cases B'<;>rfl
   refine⟨{G with S:=S},W,rfl,F.size,λi=> ?_,⟨by rw[YR,Zq];exact F.inv.len,F.inv.z,λb' o h=> ?_,λn B hB=> ?_,λm n x H h2=>F.inv.inj m n x (fp m x H).2 (fp n x h2).2,F.inv.gl.keep W⟩,F.df⟩;{show aO _ _ _ (bM (s.t.map λp=>(p.1,p.2.gd b ds)) i);rw[Fg (AV.gd b ds) (by simp [AV.gd])];exact hv (F.tmp i)}
   ·have q:S b' o:=h;rw[L]at q;rcases q with h|⟨rfl,_⟩
    ·exact F.inv.S b' o h
    ·exact(ZT.1 z3).1
   ·rcases fD n B hB with⟨rfl,rfl⟩|⟨M,B',H,rfl⟩
    ·trivial
    ·have eO:=F.inv.dJ n B' H;cases B' with
     |gone=>trivial
     |map kv=>exact e8.keep (G':={G with S:=S}) (F.inv.lt H) W (Zr _) ⟨rfl,rfl,rfl⟩ (λc f=>⟨rfl,λo kL J=>by
      have q:S c o:=J;rw[L]at q;rcases q with h|⟨e,_⟩
      ·exact kL h
      ·exact M (F.inv.inj n b _ ((eJ H).trans f) (by rw[e];exact R))⟩) eO
     |jx kv=>exact e8.keep (G':={G with S:=S}) (F.inv.lt H) W (Zr _) ⟨rfl,rfl,rfl⟩ (λc f=>⟨rfl,λo kL J=>by
      have q:S c o:=J;rw[L]at q;rcases q with h|⟨e,_⟩
      ·exact kL h
      ·exact M (F.inv.inj n b _ ((eJ H).trans f) (by rw[e];exact R))⟩) eO
     |front e k len=>exact e8.keep (G':={G with S:=S}) (F.inv.lt H) W (Zr _) ⟨rfl,rfl,rfl⟩ (λc f=>⟨rfl,λo kL J=>by
      have q:S c o:=J;rw[L]at q;rcases q with h|⟨e,_⟩
      ·exact kL h
      ·exact M (F.inv.inj n b _ ((eJ H).trans f) (by rw[e];exact R))⟩) eO
     |jq e b2=>exact e8.keep (G':={G with S:=S}) (F.inv.lt H) W (Zr _) ⟨rfl,rfl,rfl⟩ (λc f=>⟨rfl,λo kL J=>by
      have q:S c o:=J;rw[L]at q;rcases q with h|⟨e,_⟩
      ·exact kL h
      ·exact M (F.inv.inj n b _ ((eJ H).trans f) (by rw[e];exact R))⟩) eO
     |cells cM=>
      obtain⟨c1,c2,gQ,T',c3,c4,c5⟩:=eO;have np:ct s.h G n=some (G.aZ n):=eJ H;refine⟨c1,λo J=> ?_,gQ,T',c3,by rw[Zq];exact c4,λi u c hu f=> ?_⟩
      ·have q:S (G.aZ n) o:=J;rw[L]at q;rcases q with h|⟨e,_⟩
       ·exact c2 o h
       ·exact M (F.inv.inj n b _ np (by rw[e];exact R))
      ·rw[Zm]at f;cases v:cM[i]? with
       |none=>rw[v]at f;cases f
       |some x=>rw[v]at f;cases f;exact hv (c5 i u x hu v)
     |lp ls p as bd cM=>
      obtain⟨c1,c2,fn,gQ,T',c3,c4,c5⟩:=eO;have np:ct s.h G n=some (G.aZ n):=eJ H;refine⟨c1,λo J=> ?_,fn,gQ,T',c3,by rw[Zq];exact c4,λi u c hu f=> ?_⟩
      ·have q:S (G.aZ n) o:=J;rw[L]at q;rcases q with h|⟨e,_⟩
       ·exact c2 o h
       ·exact M (F.inv.inj n b _ np (by rw[e];exact R))
      ·rw[Zm]at f;cases v:cM[i]? with
       |none=>rw[v]at f;cases f
       |some x=>rw[v]at f;cases f;exact hv (c5 i u x hu v)
     |it sn cM=>
      obtain⟨c1,c2,fn,gQ,T',c3,c4,c5⟩:=eO;have np:ct s.h G n=some (G.aZ n):=eJ H;refine⟨c1,λo J=> ?_,fn,gQ,T',c3,by rw[Zq];exact c4,λi u c hu f=> ?_⟩
      ·have q:S (G.aZ n) o:=J;rw[L]at q;rcases q with h|⟨e,_⟩
       ·exact c2 o h
       ·exact M (F.inv.inj n b _ np (by rw[e];exact R))
      ·rw[Zm]at f;cases v:cM[i]? with
       |none=>rw[v]at f;cases f
       |some x=>rw[v]at f;cases f;exact hv (c5 i u x hu v)
     |fG T0 cM=>
      obtain⟨c1,c2,fn,gQ,T',c3,c4,c5⟩:=eO;have np:ct s.h G n=some (G.aZ n):=eJ H;refine⟨c1,λo J=> ?_,fn,gQ,T',c3,by rw[Zq];exact c4,λi u c hu f=> ?_⟩
      ·have q:S (G.aZ n) o:=J;rw[L]at q;rcases q with h|⟨e,_⟩
       ·exact c2 o h
       ·exact M (F.inv.inj n b _ np (by rw[e];exact R))
      ·rw[Zm]at f;cases v:cM[i]? with
       |none=>rw[v]at f;cases f
       |some x=>rw[v]at f;cases f;exact hv (c5 i u x hu v)
     |vec e k cM=>
      obtain⟨c1,c2,c3,c4⟩:=eO;refine⟨by rw[Zq];exact c1,by rw[Zq];exact c2,λc f=> ?_,?_⟩;{obtain⟨x,v,rfl⟩:=W1.1 f;rw[Zq];exact c3 x v}
      ·rcases c4 with⟨d1,d2,A,d3⟩|⟨g,cap,cur,d1,d2,d3,d4,d5,d6,d7,d8,d9⟩
       ·exact .inl ⟨d1,by rw[d2];rfl,A,d3⟩
       ·have np:ct s.h G n=some g:=(eJ H).trans d1;refine .inr ⟨g,cap,cur,d1,by rw[Zq];exact d2,d3,d4,by rw[Zq];exact d5,d6,d7,λo J=> ?_,λi j c x u f v hu=> ?_⟩
        ·have q:S g o:=J;rw[L]at q;rcases q with h|⟨e,_⟩
         ·exact d8 o h
         ·exact M (F.inv.inj n b _ np (by rw[e];exact R))
        ·rw[Zm]at f;cases hy:cM[i]? with
         |none=>rw[hy]at f;cases f
         |some y=>
          rw[hy]at f;cases f
          rw[Zm]at v;cases hw:y[j]? with
          |none=>rw[hw]at v;cases v
          |some z=>rw[hw]at v;cases v;exact hv (d9 i j y z u hy hw hu)
  ·cases h
 ·cases h
def ahv{P:dg}{r:U Nat}{N0:Nat}{c:Code}{s s':St}{Q:Exit->St->Prop}(b:Nat)(e:yj s b=some s')(h:bQ P r N0 c Q s'):bQ P r N0 c Q s:=by
 constructor
 intro G w a n f d;obtain⟨k,p,q,u⟩:=f.yj e;exact wpIn_mono (h.run k w a n u (by rw[q];exact d)) λ_ _ _ v=>v.trans (p.less d)
def D.wX:D->Bool
 | .v u=>u.oneCell'
 | .sl _=>true
 | .ag _=>false
mutual
def AV.kill(b:Nat):AV->AV
 | .vec n o len L k=>bif n==b then .dead else .vec n o len L k
 | .eC n i j L k=>bif n==b then .dead else .eC n i j L k
 | .agg cs=>.agg (AV.OC b cs)
 | .bn cs=>.bn (AV.OC b cs)
 | .fn f cs=>.fn f (AV.OC b cs)
 |x=>x
def AV.OC(b:Nat):I AV->I AV
 |[]=>[]
 |x::l=>x.kill b::AV.OC b l
end
def ar.lr(f:AV->AV):ar->ar
 | .cells cs=>.cells (cs.map f)
 | .lp b p as bd cs=>.lp b p as bd (cs.map f)
 | .it d cs=>.it d (cs.map f)
 | .fG T cs=>.fG T (cs.map f)
 | .vec e k cs=>.vec e k (cs.map (·.map f))
 |B=>B
def akT{G:Gh}{w:Zz}{h:I ar}(hi:cu G w h){b:Nat}{S:Nat->Nat->Prop}{f:AV->AV}(hE:cn G.N G w {G with S:=S} w)(hS:∀c o,S c o->G.S c o\/ct h G b=some c)(hv:∀{u:kd}{x:AV},aO G w u x->aO {G with S:=S} w u (f x)):
 cu {G with S:=S} w ((h.map (ar.lr f)).set b .gone):=by
 have fD:∀(n:Nat)(B:ar),((h.map (ar.lr f)).set b .gone)[n]?=some B->(n=b/\B= .gone)\/(n≠b/\∃B',h[n]?=some B'/\B=B'.lr f):=λn B F=>by
  by_cases e:b=n;{subst e;have aS:=(Zk.1 F).1;rw[YR]at aS;rw[Z1 aS]at F;cases F;exact .inl ⟨rfl,rfl⟩}
  ·rw[Z3 e,Zm]at F;cases q:h[n]? with
   |none=>rw[q]at F;cases F
   |some B'=>rw[q]at F;cases F;exact .inr ⟨λh=>e h.symm,B',rfl,rfl⟩
 have fp:∀n x,ct ((h.map (ar.lr f)).set b .gone) {G with S:=S} n=some x->n≠b/\ct h G n=some x:=λn x q=>by
  obtain⟨B,hn,q⟩:=n9 q;rcases fD n _ hn with⟨_,e⟩|⟨cX,B',v,rfl⟩
  ·subst e;cases q
  ·refine⟨cX,?_⟩;rw[eJ v,<-q];cases B'<;>rfl
 refine⟨by rw[YR,Zq];exact hi.len,hi.z,λc o hs=> ?_,λn B F=> ?_,λm n x v h2=>hi.inj m n x (fp m x v).2 (fp n x h2).2,hi.gl.keep hE⟩
 ·rcases hS c o hs with v|v
  ·exact hi.S c o v
  ·exact hi.iS v
 ·rcases fD n B F with⟨rfl,rfl⟩|⟨cX,B',v,rfl⟩
  ·trivial
  ·have H:=hi.dJ n B' v;have J:∀c,B'.eZ G n=some c->∀o,¬G.S c o->¬S c o:=λc d o kL hq=>by
    rcases hS c o hq with h2|h2
    ·exact kL h2
    ·exact cX (hi.inj n b c ((eJ v).trans d) h2)
   cases B' with
   |gone=>trivial
   |map kv=>exact e8.keep (G':={G with S:=S}) (hi.lt v) hE (Zr _) ⟨rfl,rfl,rfl⟩ (λc d=>⟨rfl,J c d⟩) H
   |jx kv=>exact e8.keep (G':={G with S:=S}) (hi.lt v) hE (Zr _) ⟨rfl,rfl,rfl⟩ (λc d=>⟨rfl,J c d⟩) H
   |front e k len=>exact e8.keep (G':={G with S:=S}) (hi.lt v) hE (Zr _) ⟨rfl,rfl,rfl⟩ (λc d=>⟨rfl,J c d⟩) H
   |jq e b2=>exact e8.keep (G':={G with S:=S}) (hi.lt v) hE (Zr _) ⟨rfl,rfl,rfl⟩ (λc d=>⟨rfl,J c d⟩) H
   |cells L=>
    obtain⟨M,R,gQ,T',W,c4,c5⟩:=H;refine⟨M,λo=>J _ rfl o (R o),gQ,T',W,by rw[Zq];exact c4,λi u c hu d=> ?_⟩;rw[Zm]at d;cases q:L[i]? with
    |none=>rw[q]at d;cases d
    |some x=>rw[q]at d;cases d;exact hv (c5 i u x hu q)
   |lp ls p as bd L=>
    obtain⟨M,R,fn,gQ,T',W,c4,c5⟩:=H;refine⟨M,λo=>J _ rfl o (R o),fn,gQ,T',W,by rw[Zq];exact c4,λi u c hu d=> ?_⟩;rw[Zm]at d;cases q:L[i]? with
    |none=>rw[q]at d;cases d
    |some x=>rw[q]at d;cases d;exact hv (c5 i u x hu q)
   |it sn L=>
    obtain⟨M,R,fn,gQ,T',W,c4,c5⟩:=H;refine⟨M,λo=>J _ rfl o (R o),fn,gQ,T',W,by rw[Zq];exact c4,λi u c hu d=> ?_⟩;rw[Zm]at d;cases q:L[i]? with
    |none=>rw[q]at d;cases d
    |some x=>rw[q]at d;cases d;exact hv (c5 i u x hu q)
   |fG T0 L=>
    obtain⟨M,R,fn,gQ,T',W,c4,c5⟩:=H;refine⟨M,λo=>J _ rfl o (R o),fn,gQ,T',W,by rw[Zq];exact c4,λi u c hu d=> ?_⟩;rw[Zm]at d;cases q:L[i]? with
    |none=>rw[q]at d;cases d
    |some x=>rw[q]at d;cases d;exact hv (c5 i u x hu q)
   |vec e k L=>
    obtain⟨M,R,W,c4⟩:=H;refine⟨by rw[Zq];exact M,by rw[Zq];exact R,λc d=> ?_,?_⟩;{obtain⟨x,q,rfl⟩:=W1.1 d;rw[Zq];exact W x q}
    ·rcases c4 with⟨d1,d2,A,d3⟩|⟨g,cap,cur,d1,d2,d3,d4,d5,d6,d7,d8,d9⟩
     ·exact .inl ⟨d1,by rw[d2];rfl,A,d3⟩
     ·refine .inr ⟨g,cap,cur,d1,by rw[Zq];exact d2,d3,d4,by rw[Zq];exact d5,d6,d7,λo=>J g d1 o (d8 o),λi j c x u d q hu=> ?_⟩;rw[Zm]at d;cases hy:L[i]? with
      |none=>rw[hy]at d;cases d
      |some y=>
       rw[hy]at d;cases d
       rw[Zm]at q;cases hw:y[j]? with
       |none=>rw[hw]at q;cases q
       |some z=>rw[hw]at q;cases q;exact hv (d9 i j y z u hy hw hu)
mutual
def AV.dD(b kk:Nat)(xs:I (I D)):AV->AV
 | .vec n o len L k=>bif n==b then(bif L==xs.length&&k==kk then .d (.sl ((xs.drop o).take len))else .dead)else .vec n o len L k
 | .eC n i j L k=>bif n==b then .dead else .eC n i j L k
 | .agg cs=>.agg (AV.rz b kk xs cs)
 | .bn cs=>.bn (AV.rz b kk xs cs)
 | .fn f cs=>.fn f (AV.rz b kk xs cs)
 |x=>x
def AV.rz(b kk:Nat)(xs:I (I D)):I AV->I AV
 |[]=>[]
 |x::l=>x.dD b kk xs::AV.rz b kk xs l
end
def uo(b d:Nat)(xs:I (I D)):∀l,AV.rz b d xs l=l.map (AV.dD b d xs)
 |[]=>by simp [AV.rz]
 |x::l=>by simp [AV.rz,uo b d xs l]
def aO.dD{G G':Gh}{w:Zz}{b M:Nat}{xs:I (I D)}(hE:cn G.N G w G' w)(hN:G'.N=G.N)(F:∀(u:kd)(o len:Nat),aO G w u (.vec b o len xs.length M)->dY G'.S w u (.sl ((xs.drop o).take len))){u:kd}{x:AV}(h:aO G w u x):aO G' w u (x.dD b M xs):=by
 have keep:∀{u:kd}{x:AV},aO G w u x->aO G' w u x:=λh=>h.keep hE (Nat.le_of_eq hN.symm);have gK:∀(p:Array kd)(cs:I AV),(∀(i:Nat)(u:kd)(c:AV),p[i]?=some u->cs[i]?=some c->aO G' w u (c.dD b M xs))->∀(i:Nat)(u:kd)(c:AV),p[i]?=some u->(AV.rz b M xs cs)[i]?=some c->aO G' w u c:=by
  intro p cs z i u c hu H;rw[uo,Zm]at H;cases J:cs[i]? with
  |none=>rw[J]at H;cases H
  |some x=>rw[J]at H;cases H;exact z i u x hu J
 induction h with
 |agg p cs B _ z=>rw[AV.dD];exact .agg p _ (by rw[uo,Zq];exact B) (gK p cs z)
 |bn p cs B _ z=>rw[AV.dD];exact .bn p _ (by rw[uo,Zq];exact B) (gK p cs z)
 |fn f p cs B _ z=>rw[AV.dD];exact .fn f p _ (by rw[uo,Zq];exact B) (gK p cs z)
 |vec n o len L k h R W v=>
  rw[AV.dD,cond_eq_ite];split
  ·next e=>
   have e:n=b:=by simpa using e
   subst e;rw[cond_eq_ite];split
   ·next e2=>
    rw[Zo,Ve,Ve]at e2;obtain⟨rfl,rfl⟩:=e2;exact .d (F _ o len (.vec n o len _ _ h R W v))
   ·exact .dead _
  ·exact keep (.vec n o len L k h R W v)
 |eC n i j L k h R W v=>
  rw[AV.dD,cond_eq_ite];split;{exact .dead _};{exact keep (.eC n i j L k h R W v)}
 |ptr n q h=>simp only[AV.dD];exact keep (.ptr n q h)
 |own n xs h F hle v=>simp only[AV.dD];exact keep (.own n xs h F hle v)
 |d h=>simp only[AV.dD];exact keep (.d h)
 |bK xs i q b o u x J hS hu=>simp only[AV.dD];exact keep (.bK xs i q b o u x J hS hu)
 |full xs F v=>simp only[AV.dD];exact keep (.full xs F v)
 |row n q len cap k h B hm=>simp only[AV.dD];exact keep (.row n q len cap k h B hm)
 |mp n h=>simp only[AV.dD];exact keep (.mp n h)
 |cF n h=>simp only[AV.dD];exact keep (.cF n h)
 |hid h h1=>simp only[AV.dD];exact keep (.hid h h1)
 |dead u=>simp only[AV.dD];exact .dead u
def dx.U6{G:Gh}{w:Zz}{a:Act}{s:St}(H:dx G w a s)(xs:I (I D)){b e k:Nat}(hb:s.h[b]?=some (.vec e k (cg xs)))(jb:∀c∈xs,c.all D.wX=true)
 :∃G',cn G.N G w G' w/\G'.N=G.N/\dx G' w a ⟨s.n,s.t.map λp=>(p.1,p.2.dD b k xs),(s.h.map (ar.lr (AV.dD b k xs))).set b .gone⟩:=by
 obtain⟨L,hL⟩:∃L,xs.length=L:=⟨_,rfl⟩;have qU:(cg xs).length=L:=by unfold cg;rw[Zq];exact hL
 have j9:=IC H.inv hb;have pE:∀d∈xs,d.length=k:=λd F=>by
  have:=j9 (d.map .d) (by unfold cg;exact W1.2 ⟨d,F,rfl⟩)
  rwa [Zq]at this
 obtain⟨S,hS⟩:∃S:Nat->Nat->Prop,S=λc o=>G.S c o\/(ct s.h G b=some c/\o<L*k):=⟨_,rfl⟩;have R:cn G.N G w {G with S:=S} w:=⟨Zr _,λb o h=>by show S b o;rw[hS];exact .inl h,λ_ _ _=>rfl,λ_ _=>rfl,λ_ _=>.inl ⟨rfl,rfl⟩,iO rfl,λ_ _=>rfl,rfl,rfl,rfl,λc o W=>by
  have cZ:S c o:=W;rw[hS]at cZ;rcases cZ with h|⟨h,_⟩
  ·exact .inl h
  ·obtain⟨B,hB,ie⟩:=n9 h;exact .inr ((H.inv.dJ b B hB).my ie)⟩
 have hpd:∀(u:kd)(o len:Nat),aO G w u (.vec b o len xs.length k)->dY S w u (.sl ((xs.drop o).take len)):=λu o len vR=>by
  rw[hL]at vR;have m4:=vR.vy H.inv hb qU;obtain⟨CP,⟨A,cc,q1,q2,q3,q4,q5⟩,_⟩:=m4;generalize hy:(xs.drop o).take len=ys;have qT:ys.length=len:=by rw[<-hy,ae,ak];omega
  rw[q1,<-qT];show dY S w _ _;by_cases hh0:True
  ·skip
   by_cases h0:len=0;{have:ys=[]:=W7 (by omega);subst this;exact .sl A 0 0 cc 0 [] (λ_ _=>undef) (λh=>absurd rfl h) (WJ _) q3 (λ_ h=>absurd h Yp) (λi j J=>absurd J (Z5 _)) (λi j x d z=>by simp at z)}
   ·obtain⟨g,cap,s1,rfl,s3⟩:=q5 (by omega);obtain⟨g',Hw,cur,r1,r2,r3,r4,r5,r6,r7,r8,r9⟩:=IZ H.inv hb (λe=>by rw[e]at qU;simp at qU;omega);rw[r2]at s1;cases s1
    have nD:ct s.h G b=some g:=(eJ hb).trans r1;have kY:∀i,i<len->ys[i]?=xs[o+i]?:=λi eY=>by rw[<-hy,List.getElem?_take_of_lt eY,List.getElem?_drop]
    have je:∀i j,i<len->j<k->o*k+i*k+j<cur.size:=λi j J M=>by
     have:=oG (i:=o+i) (k:=k) (L:=(cg xs).length) (j:=j) (by omega) M;rw[YF]at this;have h2:(cg xs).length*k<=cap*k:=Xw k (by omega);rw[r7];omega
    have vg:∀(i j:Nat)(x:I D)(d:D),i<len->ys[i]?=some x->x[j]?=some d->aO G w (cur.getD (o*k+i*k+j) undef) (.d d):=λi j x d J z F=>by
     rw[kY i J]at z;have M:j<k:=by rw[<-pE x (ZX z)];exact(Zk.1 F).1
     refine r9 (o+i) j (x.map .d) (.d d) _ (by unfold cg;rw[Zm,z];rfl) (by rw[Zm,F];rfl) ?_;have hc:=je i j J M;rw[show(o+i)*k+j=o*k+i*k+j by rw[YF]];simp [Array.getD,hc]
    refine .sl _ g (o*k) cc k ys (λi j=>cur.getD (o*k+i*k+j) undef) (λ_=>rfl) (by omega) q3 (λx z=> ?_) (λi j J M=>⟨?_,?_,?_⟩) (λi j x d z F=> ?_);{rw[<-hy]at z;exact pE x (Z2 (List.mem_of_mem_take z))};{rw[hS];refine .inr ⟨nD,?_⟩;have:=oG (i:=o+i) (k:=k) (L:=(cg xs).length) (j:=j) (by omega) M;rw[YF]at this;exact this};{rw[cell_of_row w g _ cur e (0,0) r4];have hc:=je i j (by omega) M;simp [Array.getD,hc]}
    ·have eY:i<len:=by omega
     obtain⟨x,z⟩:∃x,ys[i]?=some x:=⟨_,Zd J⟩;have C6:=z;rw[kY i eY]at C6;have kK:=ZX C6;obtain⟨d,F⟩:∃d,x[j]?=some d:=⟨_,Zd (by rw[pE x kK];exact M)⟩;refine(vg i j x d eY z F).lG ?_;have h1:=jb x kK;rw[Zb]at h1;have h2:=h1 d (ZX F);cases d with
     |v u=>exact h2
     |sl l=>rfl
     |ag l=>exact absurd h2 Bool.false_ne_true
    ·have eY:i<len:=by rw[<-qT];exact(Zk.1 z).1
     have:=vg i j x d eY z F;generalize cur.getD (o*k+i*k+j) undef=q at this;cases this with|d h=>exact h.keep R.S R.cell
  ·exact(hh0 trivial).elim
 have hinv:=akT (b:=b) (f:=AV.dD b k xs) H.inv R (λc o W=>by rw[hS]at W;exact W.imp id And.left) (λW=>W.dD R rfl hpd);have cZ:dx {G with S:=S} w a ⟨s.n,s.t.map λp=>(p.1,p.2.dD b k xs),(s.h.map (ar.lr (AV.dD b k xs))).set b .gone⟩:=by
  refine⟨H.size,λi=> ?_,hinv,H.df⟩;show aO _ _ _ (bM (s.t.map λp=>(p.1,p.2.dD b k xs)) i);rw[Fg (AV.dD b k xs) (by simp [AV.dD])];exact(H.tmp i).dD R rfl hpd
 exact⟨_,R,rfl,cZ⟩
def yT(P:dg)(b:I ResultVar)(m:Nat)(s:St):U (AV×I ar):=
 match ur P s b with
 |some l=>bif cG m s.h.length&&((lx l).bR m).aN m&&(((s.h.take m).map (ar.bR m)).all (ar.aN m))then some (((lx l).bR m).nrm,((s.h.take m).map (ar.bR m)).map ar.rX)else none
 |none=>none
def xh(P:dg)(fn:Func)(m:Nat)(R:AV)(H:I ar):Exit->St->Prop
 | .normal,s=>yT P fn.results.toList m s=some (R,H)
 | .ret,s=>yT P fn.results.toList m s=some (R,H)
 |_,_=>False
def Ze{P:dg}{s:St}{fn:Func}{m:Nat}{R:AV}{H:I ar}(h:yT P fn.results.toList m s=some (R,H)):tz P fn m (λr h'=>r.nrm=R/\h'.map ar.rX=H) s:=by
 unfold yT at h;split at h
 ·next l e=>
  obtain⟨b,d⟩:=fe h;cases d
  simp only[Zo,dS]at b;exact G6 _ _ _ e ⟨b.1.1,b.1.2,b.2,rfl,rfl⟩
 ·cases h
def kt{P:dg}{s:St}{fn:Func}{m:Nat}{R:AV}{H:I ar}(h:yT P fn.results.toList m s=some (R,H)):xh P fn m R H .ret s:=h
def tv{P:dg}{f:FuncId}{fn:Func}{c:Code}{args:I AV}{h H:I ar}{R:AV}(m:Nat)(d:P.funcs[f]?=some fn)(k:fn.body=some c)(p:(fn.name== "runtime.NumGoroutine")=false)(q:h.length<=m)
 (u:bQ P none h.length c (xh P fn m R H) {n:=args.length+(fn.ntmps-args.length),t:=nj 0 args,h:=h}):dq P f args h λz h1=>z=R/\h1=H:=by
 have h0:=vU (P:=P) (f:=f) (args:=args) (h:=h) (K:=λr h'=>r.nrm=R/\h'.map ar.rX=H) m d k p q (u.mono λe s b=>by
  cases e with
  |normal=>exact Ze b
  |ret=>exact Ze b
  |_=>exact b.elim)
 refine⟨h0.1,λG w B F J L=>(h0.2 G w B F J L).mono λe w' M=> ?_⟩;obtain⟨v,N,x,h',rfl,W,hN,eY,hv,rfl,rfl⟩:=M;exact⟨v,N,x.nrm,_,rfl,W,hN,QA eY,hv.nrm,rfl,rfl⟩
def mI{P:dg}{r:U Nat}{N0:Nat}{c:Code}{s s':St}{Q:Exit->St->Prop}(e:s=s')(h:bQ P r N0 c Q s'):bQ P r N0 c Q s:=e▸h
def ia{b:Type}:I (so×b)->so->b->b
 |[],_,d=>d
 |(k,v)::l,s,d=>bif bL k==bL s then v else ia l s d
def mY{b:Type}:I (so×b)->so->Bool
 |[],_=>false
 |(k,_)::l,s=>bif bL k==bL s then true else mY l s
def fW(l:I (so×Int)):I (so×D):=l.map λp=>(p.1,.v (.int .i64 p.2))
def B5(l:I (so×Bool)):I (so×D):=l.map λp=>(p.1,.v (.bool p.2))
def XU{b:Type}(f:b->D):∀(l:I (so×b))(s:so)(d:b),ml (l.map λp=>(p.1,f p.2)) s=bif mY l s then some (f (ia l s d))else none
 |[],s,d=>rfl
 |(k,v)::l,s,d=>by
  simp only[ZS,ml,mY,ia];cases bL k==bL s with
  |true=>rfl
  |false=>simp only[UQ];exact XU f l s d
def XS{b:Type}:∀(l:I (so×b))(s:so)(d:b),mY l s=false->ia l s d=d
 |[],s,d,_=>rfl
 |(k,v)::l,s,d,h=>by
  unfold mY at h;unfold ia;cases e:bL k==bL s with
  |true=>rw[e]at h;cases h
  |false=>rw[e]at h;simp only[UQ];exact XS l s d h
def SY{b:Type}(f:b->D)(F:b->AV)(k:∀x,Lk (f x)=F x)(z:kd)(d0:b)(q:CE z=F d0)(ok:Bool)(l:I (so×b))(s:so):
 sH ok z (ml (l.map λp=>(p.1,f p.2)) s)=bif ok then .bn [F (ia l s d0),.d (.v (.bool (mY l s)))]else F (ia l s d0):=by
 rw[XU f l s d0];cases e:mY l s with
 |true=>cases ok<;>simp only[sH,V1,UQ,k]
 |false=>rw[XS l s d0 e];cases ok<;>simp only[sH,V1,UQ,q]
def It(ok:Bool)(l:I (so×Int))(s:so):sH ok (.int .i64 0) (ml (fW l) s)=bif ok then .bn [.d (.v (.int .i64 (ia l s 0))),.d (.v (.bool (mY l s)))]else .d (.v (.int .i64 (ia l s 0))):=
 SY (λn=>.v (.int .i64 n)) (λn=>.d (.v (.int .i64 n))) (λ_=>rfl) _ 0 rfl ok l s
def aoT(ok:Bool)(l:I (so×Bool))(s:so):sH ok (.bool false) (ml (B5 l) s)=bif ok then .bn [.d (.v (.bool (ia l s false))),.d (.v (.bool (mY l s)))]else .d (.v (.bool (ia l s false))):=
 SY (λn=>.v (.bool n)) (λn=>.d (.v (.bool n))) (λ_=>rfl) _ false rfl ok l s
def cx{α:Type}(f:α->I D)(l:I (so×α)):I (so×D):=l.map λp=>(p.1,.ag (f p.2))
def al7{α:Type}(f:α->I D)(z:kd)(d0:α)(b:CE z= .agg ((f d0).map .d))(ok:Bool)(l:I (so×α))(s:so):
 sH ok z (ml (cx f l) s)=bif ok then .bn [.agg ((f (ia l s d0)).map .d),.d (.v (.bool (mY l s)))]else .agg ((f (ia l s d0)).map .d):=
 SY (λx=>.ag (f x)) (λx=>.agg ((f x).map .d)) (λ_=>rfl) _ d0 b ok l s
def aro{α:Type}{f:α->I D}{l:I (so×α)}(h:Nat.blt l.length 9223372036854775807=true):(Sd.lt (cx f l).length).ok:=by
 unfold cx;rw[Zq];exact Zh h
def Rw{l:I (so×Int)}(h:Nat.blt l.length 9223372036854775807=true):(Sd.lt (fW l).length).ok:=by
 unfold fW;rw[Zq];exact Zh h
def alF{l:I (so×Bool)}(h:Nat.blt l.length 9223372036854775807=true):(Sd.lt (B5 l).length).ok:=by
 unfold B5;rw[Zq];exact Zh h
def gI(g:Nat):I Int:=((DX Ds g).getD []).map λv=>match v with| .int _ n=>n|_=>0
def aoB(l:I Int):so:=⟨(l.map λn=>UInt8.ofNat n.toNat).toArray⟩
def apC{α:Type}{c:Bool}{x y z:α}(h:(bif c then x else y)=z):(c=true/\x=z)\/(c=false/\y=z):=by
 cases c with
 |true=>exact .inl ⟨rfl,h⟩
 |false=>exact .inr ⟨rfl,h⟩
inductive HD
 |same
 |push (B:ar)
 |set (n:Nat) (B:ar)
def HD.app:HD->I ar->I ar
 | .same,h=>h
 | .push B,h=>h++[B]
 | .set n B,h=>h.set n B
def zN:Int->U Nat
 | .ofNat n=>some n
 | .negSucc _=>none
def Ek{z:Int}{n:Nat}(h:zN z=some n):0<=z/\z.toNat=n:=by
 cases z with
 |ofNat m=>cases h;exact⟨Int.natCast_nonneg _,rfl⟩
 |negSucc m=>cases h
def vF(ρ:Operand->AV)(d:Nat):U Operand->U Nat
 |none=>some d
 |some y=>match (ρ y).int? with
  |some z=>zN z
  |none=>none
def EF(k:Nat)(xs:I (I D)):Bool:=xs.all λc=>c.length==k
def Lz(P:dg)(T:TypeId)(x i:AV):U AV:=
 match fO P T with
 |some (_,k)=>match x with
  | .row n f p _ v=>match i.int? with
    |some z=>match zN z with
     |some q=>bif v==k&&cG (q+1) p then some (.ptr n (f+q*k))else none
     |none=>none
    |none=>none
  |x=>match x.gN,i.int? with
   |some u,some z=>match zN z with
    |some q=>match u[q]? with
     |some c=>bif c.length==k then some (.bK [c] 0 0)else none
     |none=>none
    |none=>none
   |_,_=>none
 |none=>match vM P T,x,i.int? with
  |some (n,_,k),.ptr b f,some z=>match zN z with
   |some q=>bif cG (q+1) n then some (.ptr b (f+q*k))else none
   |none=>none
  |some (n,_,k),.bK u e f,some z=>match zN z with
   |some q=>bif k==1&&cG (q+1) n then match u[e]? with
    |some c=>match c[f+q]? with
     |some d=>some (.bK [[d]] 0 0)
     |none=>none
    |none=>none
    else none
   |none=>none
  |_,_,_=>none
def aml{P:dg}{T:TypeId}{x i y:AV}{K:AV->Prop}(h:Lz P T x i=some y)(J:K y):uW P T x i K:=by
 unfold Lz at h;unfold uW;split at h
 ·next e k L=>
  simp only[L];split at h
  ·next n v N R k'=>
   simp only;split at h
   ·next z W=>
    simp only[W];split at h
    ·next q p=>
     obtain⟨h0,u⟩:=Ek p;obtain⟨f,B⟩:=fe h;rw[Zo,dS]at f;refine cv.2 ⟨f.1,h0,by omega,?_⟩;rw[u,B];exact J
    ·cases h
   ·cases h
  ·next x' oh=>
   split at h
   ·next xs z F H=>
    split at h
    ·next q p=>
     obtain⟨h0,u⟩:=Ek p;split at h
     ·next c M=>
      obtain⟨f,B⟩:=fe h;simp only[F,H];refine⟨h0,?_⟩;rw[u,M];exact⟨by simpa using f,by rw[B];exact J⟩
     ·cases h
    ·cases h
   ·cases h
 ·next L=>
  simp only[L];split at h
  ·next n e k b v z F H=>
   simp only[F,H];split at h
   ·next q p=>
    obtain⟨h0,u⟩:=Ek p;obtain⟨f,B⟩:=fe h;rw[dS]at f;exact⟨h0,by omega,by rw[u,B];exact J⟩
   ·cases h
  ·next n e0 k xs e v z F H=>
   simp only[F,H];split at h
   ·next q p=>
    obtain⟨h0,u⟩:=Ek p;obtain⟨f,h⟩:=lF h;rw[Zo,dS]at f;split at h
    ·next c M=>
     split at h
     ·next d ed=>
      cases h
      refine cv.2 ⟨f.1,h0,by omega,?_⟩;rw[M];simp only;rw[u,ed];exact J
     ·cases h
    ·cases h
   ·cases h
  ·cases h
def atg(P:dg)(T:TypeId)(ρ:Operand->AV)(x:AV)(lo hi p:U Operand):U AV:=
 match p with
 |none=>
  match x with
  | .d (.v (.string b))=>match vF ρ b.size hi,vF ρ 0 lo with
    |some h,some l=>bif ja P T&&cG h b.size&&cG l h then some (.d (.v (.string (b.extract l h))))else none
    |_,_=>none
  | .ptr n f=>match vM P T with
    |some (m,_,k)=>match vF ρ m hi,vF ρ 0 lo with
     |some h,some l=>bif cG m 4096&&cG h m&&(cG l h&& !cG m l)then some (.row n (f+l*k) (h-l) (m-l) k)else none
     |_,_=>none
    |none=>none
  |x=>match x.gN,fO P T with
   |some e,some (_,k)=>match vF ρ e.length hi,vF ρ 0 lo with
    |some h,some l=>bif EF k e&&cG h e.length&&cG l h then some (.d (.sl ((e.take h).drop l)))else none
    |_,_=>none
   |_,_=>none
 |some m=>match lo,hi with
  |none,some y=>match x.gN,fO P T with
   |some e,some (_,k)=>match vF ρ 0 (some m),vF ρ 0 (some y)with
    |some c,some h=>bif EF k e&&cG c e.length&&h==c then some (.full (e.take h))else none
    |_,_=>none
   |_,_=>none
  |_,_=>none
def atf(P:dg)(T:TypeId)(h:I ar)(x y:AV):U (AV×HD):=
 match fO P T with
 |some (e,k)=>match jz P e,tu P e with
  |some z,some p=>match Kr h k y with
   |some b=>bif cG 1 k&&z.cells.toList.length==k&&EF k b then
    match x with
    | .own n f=>match h[n]? with
      |some (.front u B q)=>bif u==e&&B==k&&q==f.length&&EF k f&&cG (f.length+b.length) maxLen&&cG ((f.length+b.length)*p) 140737488355328 then some (.own n (f++b),.set n (.front e k (f.length+b.length)))else none
      |_=>none
    | .d (.v (.slice none 0 0))=>bif cG b.length maxLen&&cG (b.length*p) 140737488355328 then some (.own h.length b,.push (.front e k b.length))else none
    | .full f=>bif EF k f&&cG (f.length+b.length) maxLen&&cG ((f.length+b.length)*p) 140737488355328 then some (.own h.length (f++b),.push (.front e k (f.length+b.length)))else none
    |_=>none
    else none
   |none=>none
  |_,_=>none
 |none=>none
def XZ:I (I D)->U (I Int)
 |[]=>some []
 |[.v (.int .u8 n)]::l=>match XZ l with
  |some b=>some (n::b)
  |none=>none
 |_=>none
def QI:U (AV×In)->U AV
 |some (x,.none)=>some x
 |some (x,.nz b)=>bif b==0 then none else some x
 |some (x,.nn b)=>match zN b with
  |some _=>some x
  |none=>none
 |some (x,.cat n)=>bif cG n maxLen then some x else none
 |_=>none
def ajf{r:U (AV×In)}{x:AV}(P:dg)(h:QI r=some x):∃i,r=some (x,i)/\OK P i .ok:=by
 unfold QI at h;split at h;{cases h;exact⟨_,rfl,.none⟩}
 ·next b=>
  cases d:b==0 with
  |true=>rw[d]at h;cases h
  |false=>rw[d]at h;cases h;exact⟨_,rfl,.nz (by simpa using d)⟩
 ·next b=>
  split at h;{next e=>cases h;exact⟨_,rfl,.nn (Ek e).1⟩};{cases h}
 ·obtain⟨d,f⟩:=fe h;cases f
  exact⟨_,rfl,.cat (dS.1 d)⟩
 ·cases h
def pX(r:U AV):U (AV×HD):=
 match r with
 |some x=>some (x,.same)
 |none=>none
def atk(P:dg)(b f:TypeId)(x:AV):U AV:=
 match PG P b f x .none with
 |some (y,.none)=>some y
 |_=>match x.gN,fO P b with
  |some k,some (e,_)=>match XZ k with
   |some p=>match x with
    | .d (.v _)=>none
    |_=>bif Hz P e&&ja P f then some (.d (.v (.string (aoB p))))else none
   |none=>none
  |_,_=>none
def nu(P:dg)(B:Op)(ρ:Operand->AV)(h:I ar):U (AV×HD):=
 match B with
 | .move x| .assign x=>some (ρ x,.same)
 | .pick c x y=>match ρ c with
   | .d (.v (.bool b))=>some (bif b then ρ x else ρ y,.same)
   |_=>none
 | .alloc e=>match jz P e with
   |some z=>some (.ptr h.length 0,.push (.cells (z.cells.toList.map λu=>.d (.v u))))
   |none=>none
 | .box _ x=>bif (ρ x).kW then some (.ptr h.length 0,.push (.cells (ρ x).cells))else none
 | .load t p=>match yy h (ρ p)with
   |some (cs,q)=>pX (CB P t cs q)
   |none=>none
 | .store t p x=>match ρ p with
   | .ptr n q=>match h[n]? with
     |some (.cells cs)=>match ZA P t with
      |some k=>bif k==(ρ x).cells.length&&(ρ x).kW&&cG (q+(ρ x).cells.length) cs.length then some (.d (.v undef),.set n (.cells (jM cs q (ρ x).cells)))else none
      |none=>none
     |_=>none
   |_=>none
 | .nilCheck x=>match ρ x with
   | .ptr n q=>some (.ptr n q,.same)
   | .bK F i q=>some (.bK F i q,.same)
   | .fn f cs=>some (.fn f cs,.same)
   |_=>none
 | .fieldAddr S x f=>match uV P S f with
   |some (J,_,_)=>match ρ x with
    | .ptr n q=>some (.ptr n (q+J),.same)
    | .bK F i q=>some (.bK F i (q+J),.same)
    |_=>none
   |none=>none
 | .field T x f=>pX (Po P T (ρ x) f)
 | .indexAddr T x i=>pX (Lz P T (ρ x) (ρ i))
 | .extract x i=>match ρ x with
   | .bn cs=>match cs[i]? with
     |some c=>some (c,.same)
     |none=>none
   |_=>none
 | .makeFunc (.func f) first L=>match first.toList with
   |[]=>some (.fn f (L.toList.map ρ),.same)
   |_=>none
 | .binOp B T x y _=>pX (QI (Oi P T B (ρ x) (ρ y)))
 | .unOp B _ x=>match ρ x with
   | .d (.v u)=>match NB B u with
     |some v=>some (.d (.v v),.same)
     |none=>none
   |_=>none
 | .call c=>match c.callee with
   | .builtin .len=>match c.args.toList,c.argTypes.toList with
     |[x],[T]=>match ρ x with
      | .d (.v (.string s))=>bif ja P T then some (.d (.v (.int .i64 s.size)),.same)else none
      | .row _ _ H _ _=>bif (fO P T).isSome then some (.d (.v (.int .i64 H)),.same)else none
      |x=>match x.gN with
       |some F=>bif (fO P T).isSome then some (.d (.v (.int .i64 F.length)),.same)else none
       |none=>none
     |_,_=>none
   |_=>none
 |_=>none
def Oh{r:U AV}{x:AV}{d:HD}(h:pX r=some (x,d)):r=some x/\d= .same:=by
 unfold pX at h;split at h;{cases h;exact⟨rfl,rfl⟩};{cases h}
def XR{P:dg}{o:Oper}{ρ:Operand->AV}{h:I ar}{x:AV}{d:HD}{C:AV->I ar->Prop}(h1:nu P o.op ρ h=some (x,d))(f:C x (d.app h)):dm P o ρ h C:=by
 obtain⟨F,op,type,H,after,guard⟩:=o;simp only at h1;unfold nu at h1;unfold dm;split at h1;{cases h1;exact f};{cases h1;exact f}
 ·next c y z=>
  split at h1
  ·next b e=>
   cases h1
   simp only[e];cases b with
   |true=>exact⟨λ_=>f,λh=>Bool.noConfusion h⟩
   |false=>exact⟨λh=>Bool.noConfusion h,λ_=>f⟩
  ·cases h1
 ·split at h1
  ·next z e=>cases h1;simp only[e];exact f
  ·cases h1
 ·obtain⟨q,u⟩:=fe h1;cases u;exact cv.2 ⟨q,f⟩
 ·split at h1
  ·next cs v e=>
   obtain⟨p,rfl⟩:=Oh h1;exact Un e p f
  ·cases h1
 ·split at h1
  ·next n v e=>
   split at h1
   ·next cs p=>
    split at h1;{next k J=>obtain⟨q,u⟩:=fe h1;cases u;simp only[e,xU,p,J];exact cv.2 ⟨q,f⟩};{cases h1}
   ·cases h1
  ·cases h1
 ·split at h1
  ·next e=>cases h1;simp only[e];exact f
  ·next e=>cases h1;simp only[e];exact f
  ·next e=>cases h1;simp only[e];exact f
  ·cases h1
 ·split at h1
  ·next e=>
   simp only[e];split at h1;{next p=>cases h1;simp only[p];exact f};{next p=>cases h1;simp only[p];exact f};{cases h1}
  ·cases h1
 ·obtain⟨e,rfl⟩:=Oh h1;exact Xf e f
 ·obtain⟨e,rfl⟩:=Oh h1;exact aml e f
 ·split at h1
  ·next e=>
   split at h1;{next p=>cases h1;simp only[e,p];exact f};{cases h1}
  ·cases h1
 ·split at h1
  ·next e=>cases h1;simp only[e];exact f
  ·cases h1
 ·obtain⟨e,rfl⟩:=Oh h1;obtain⟨i,p,L⟩:=ajf P e;exact Xb p L f
 ·unfold Ah;split at h1
  ·next e=>
   split at h1;{next p=>cases h1;simp only[e,p];exact f};{cases h1}
  ·cases h1
 ·next c=>
  split at h1
  ·next M=>
   simp only[M];split at h1
   ·next y T N p=>
    simp only[N,p];unfold ua;split at h1;{next s e=>obtain⟨q,u⟩:=fe h1;cases u;simp only[e];exact cv.2 ⟨q,f⟩};{next e=>obtain⟨q,u⟩:=fe h1;cases u;simp only[e];exact cv.2 ⟨q,f⟩}
    ·next R W=>
     split at h1
     ·next xs e=>
      obtain⟨q,u⟩:=fe h1;cases u;split;{next s B=>exact absurd B (R s)};{next B=>exact absurd B (W _ _ _ _ _)};{simp only[e];exact cv.2 ⟨q,f⟩}
     ·cases h1
   ·cases h1
  ·cases h1
 ·cases h1
def dT(n:Nat)(t:I (Nat×AV)):I AV:=(List.range n).map (bM t)
def apQ{n:Nat}{t:I (Nat×AV)}{i:Nat}{c:AV}(h:(dT n t)[i]?=some c):bM t i=c:=by
 unfold dT at h;rw[Zm]at h;by_cases b:i<n;{rw[List.getElem?_range b]at h;exact Zs h};{rw[Yz (by simpa using b)]at h;cases h}
def Tp(P:dg)(N0:Nat)(Q:Exit->St->Prop)(s:St):LS->Prop
 | .ready=>Q .normal s
 | .done c=>bQ P none N0 c Q s
 | .busy=>False
def asQ{P:dg}{N0:Nat}{s:St}{Q:Exit->St->Prop}{g:Operand}{p:Nat}{assign body:Code}{gf:FuncId}{dC:I AV}(hg:ev s g= .fn gf dC)
 (k:dq P gf (.cF s.h.length::dC) (s.h++[.lp .ready p assign body (dT s.n s.t)]) λ_ h'=>∃(H:LS)(p1:Nat)(vl uU:Code)(AD:I AV),h'[s.h.length]?=some (.lp H p1 vl uU AD)/\Tp P N0 Q ⟨s.n,s.t,h'.set s.h.length .gone⟩ H):
 bQ P none N0 (.rangeFunc g #[p] assign body) Q s:=by
 constructor
 intro G w a n d W;have hv:=d.ev g;rw[hg]at hv;obtain⟨q,ea,hl,hr⟩:∃q:Array kd,a.eval g= .func (.func gf) #[] q/\q.size=dC.length/\∀(i:Nat)(u:kd)(c:AV),q[i]?=some u->dC[i]?=some c->aO G w u c:=by
  generalize a.eval g=u at hv;cases hv with|fn _ vs _ hl hr=>exact⟨vs,rfl,hl,hr⟩
 obtain⟨Ez,kV⟩:=k;refine wpIn_rangeFunc (F:=WF none) ?_;intro fn _;obtain⟨FG,J⟩:=aoo d.inv;obtain⟨G0,l4⟩:∃G0:Gh,G0={G with Z:=λb=>G.Z b\/b=w.heap.size}:=⟨_,rfl⟩;obtain⟨w0,sT⟩:∃w0,w0=w.alloc (.deferred (some [])):=⟨_,rfl⟩;rw[<-l4,<-sT]at FG J;have cN:G0.N=G.N:=by rw[l4]
 have iR:w0.heap.size=w.heap.size+1:=by rw[sT];simp
 obtain⟨L,Aj,Rm⟩:=ahm J fn a.tmps w.heap.size p assign body (dT s.n s.t) (by simp [dT,d.size]) λi u c f k=>by
  have h9:=d.tmp i;rw[apQ k]at h9;have e:a.tmps.getD i undef=u:=by
   have aS:=(ZT.1 f).1;rw[ZH aS]at f;simp [Array.getD,aS];exact Zs f
  rw[e]at h9;exact h9.keep FG (Nat.le_of_eq cN.symm)
 obtain⟨w1,sy⟩:∃w1,w1=w0.alloc (.loop {state:= .ready,pending:=none,fn:=fn,tmps:=a.tmps,params:= #[p],assign:=assign,body:=body,defers:=w.heap.size}):=⟨_,rfl⟩;obtain⟨G1,Um⟩:∃G1:Gh,G1=G0.dz w0.heap.size:=⟨_,rfl⟩;rw[<-sy,<-Um]at L Aj Rm;have gU:G1.N=G.N+1:=by rw[Um,<-cN];rfl
 have akX:G1.aZ s.h.length=w.heap.size+1:=by rw[Um,d.inv.len,<-cN];simp [Gh.dz,iR]
 rw[iR]at Rm;have M:cn G.N G w G1 w1:=FG.trans (L.less (Nat.le_of_eq cN.symm));refine⟨w.heap.size+1,[{target:= .collected w.heap.size,args:= #[]}],w1,{target:= .fn (.func gf) q,args:= #[.func (.yield (w.heap.size+1)) #[] #[]]},w1,gf, #[.func (.yield (w.heap.size+1)) #[] #[]]++q,w1,?_,?_,λ_ _=>trivial,?_,λh=>(by simp [WF,Fence.wide]at h),?_⟩;{rw[sy,sT];exact run_enterLoop_outer _ _ _ _ _};{simp only[resolve,ea];simp [Deferred.ofValue,go_sem]};{simp [invoke,SL Ez]}
 have hK:=kV G1 w1 (#[.func (.yield (w.heap.size+1)) #[] #[]]++q) Aj (by simp [hl];omega) (λi u c f k=>by
  match i with
  |0=>
   rw[Array.getElem?_append_left (by simp)]at f;simp at f k;subst f;subst k;exact Rm
  |i+1=>
   rw[Array.getElem?_append_right (by simp)]at f;simp at f k;exact(hr i u c f k).keep M (by rw[gU];exact an _))
 refine CallsIn.mono (F:=WF none) (callsIn_wide (n:=n-1).2 hK) ?_;rintro e w2 ⟨v,G2,r,h',rfl,kr,hN2,MV,_,H,p1,vl,uU,AD,hk,V0⟩;have Dr:s.h.length<G1.N:=by rw[d.inv.len,gU];exact Yu _
 have E4:G2.aZ s.h.length=w.heap.size+1:=(kr.aZ _ Dr).trans akX;obtain⟨_,fn2,tm2,D2,g3,g4,g5,acC⟩:=Kt MV hk;rw[E4]at g3;have hEa:cn G.N G w G2 w2:=M.trans (kr.less (by rw[gU];exact an _));have Mf:G.N<=G2.N:=by rw[gU]at hN2;omega
 obtain⟨B,nD⟩:∃B:Obj,B= .loop {state:= .exhausted,pending:=H.pd,fn:=fn2,tmps:=tm2,params:= #[p1],assign:=vl,body:=uU,defers:=D2}:=⟨_,rfl⟩;obtain⟨zE,zI⟩:=aip MV hk B;rw[E4]at zE zI;have Iu:cn G.N G w G2 (w2.putObj (w.heap.size+1) B):=hEa.trans (zE.less Mf);have hM:=d.inv.gl.2;have AW:G0.Z w.heap.size:=by rw[l4];exact .inr rfl
 have R:G2.Z w.heap.size:=kr.Z.1.1 _ (L.Z.1.1 _ AW);have hDh:(w2.putObj (w.heap.size+1) B).heap[w.heap.size]?=some (.deferred (some [])):=by
  rw[zE.old _ R,kr.old _ (L.Z.1.1 _ AW),L.old _ AW,sT];exact World.alloc_heap_new w _
 have cZ:dx G2 (w2.putObj (w.heap.size+1) B) {a with defers:=[{target:= .collected w.heap.size,args:= #[]}]++a.defers} ⟨s.n,s.t,h'.set s.h.length .gone⟩:=by
  refine⟨d.size,λi=>(d.tmp i).keep Iu Mf,zI,?_⟩;obtain⟨l,l1,l2,l3⟩:=d.df.keep Iu;obtain⟨l',l1',Yk,l3'⟩:=d.df;have qU:l=l':=by
   rw[l2]at Yk;have ajA:∀(x y:I Nat),x.map (λD=>({target:= .collected D,args:= #[]}:Deferred))=y.map (λD=>{target:= .collected D,args:= #[]})->x=y:=by
     intro x
     induction x with
     |nil=>intro y h;cases y with
      |nil=>rfl
      |cons b y=>simp at h
     |cons a x ih=>intro y h;cases y with
      |nil=>simp at h
      |cons b y=>simp at h;rw[h.1,ih y (by simpa using h.2)]
   exact ajA _ _ Yk
  refine⟨w.heap.size::l,?_,by rw[ZS,<-l2];rfl,λD hD=> ?_⟩;{rw[List.nodup_cons];exact⟨λh=>Yv _ (d.inv.z _ (l3' _ (qU▸h)).2.1),l1⟩}
  ·rcases ZY.1 hD with rfl|hD
   ·exact⟨by rw[Iu.Z.2];exact hM,R,hDh⟩
   ·exact l3 D hD
 subst nD;have H3:=λhb=>run_endLoop (P:=P) g3 hb;cases H with
 |busy=>exact V0.elim
 |ready=>
  refine⟨_,_,H3 (by simp [LS.st]),?_⟩;exact⟨G2,_,Iu.less W,Za W Mf,cZ,V0⟩
 |done c=>
  refine⟨_,_,H3 (by simp [LS.st]),?_⟩;refine wpIn_mono (V0.run G2 _ _ n (cZ) (Za W Mf)) λ_ _ _ hn=> ?_;exact hn.trans (Iu.less W)
set_option linter.unusedSimpArgs false
set_option linter.unusedVariables false
mutual
def LD:∀x:AV,x.aW id=x
 | .agg cs=>by rw[AV.aW,ui cs]
 | .bn cs=>by rw[AV.aW,ui cs]
 | .fn f cs=>by rw[AV.aW,ui cs]
 | .own .. =>by simp [AV.aW]
 | .d _=>by simp [AV.aW]
 | .ptr .. =>by simp [AV.aW]
 | .bK .. =>by simp [AV.aW]
 | .full _=>by simp [AV.aW]
 | .row .. =>by simp [AV.aW]
 | .mp _=>by simp [AV.aW]
 | .cF _=>by simp [AV.aW]
 | .vec .. =>by simp [AV.aW]
 | .eC .. =>by simp [AV.aW]
 | .hid _=>by simp [AV.aW]
 | .dead=>by simp [AV.aW]
def ui:∀l:I AV,AV.ib id l=l
 |[]=>by simp [AV.ib]
 |x::l=>by rw[AV.ib,LD x,ui l]
end
def QJ(B:ar):B.aW id=B:=by
 cases B with
 |cells cs=>simp only[ar.aW,ui]
 |lp b p as d cs=>simp only[ar.aW,ui]
 |it f cs=>simp only[ar.aW,ui]
 |fG q cs=>simp only[ar.aW,ui]
 |vec e k cs=>simp only[ar.aW];congr 1;exact(Yy λx _=>ui x).trans (List.map_id _)
 |_=>rfl
def aO.low{G:Gh}{w:Zz}{u:kd}{x:AV}(h:aO G w u x):x.aN G.N=true:=by
 have lt:∀{n:Nat},n<G.N->(!cG G.N n)=true:=fun{n} B=>by
  rw[VJ,<-VC,dS];omega
 have p:∀(b:Array kd)(cs:I AV),b.size=cs.length->(∀(i:Nat)(u:kd)(c:AV),b[i]?=some u->cs[i]?=some c->c.aN G.N=true)->AV.lB G.N cs=true:=λb cs d h=>by
  rw[oe,Zb];intro c v;obtain⟨i,z,rfl⟩:=a8.1 v;exact h i b[i] _ (ZH (by omega)) (Zd z)
 induction h with
 |agg b cs d _ e=>rw[AV.aN];exact p b cs d e
 |bn b cs d _ e=>rw[AV.aN];exact p b cs d e
 |fn f b cs d _ e=>rw[AV.aN];exact p b cs d e
 |ptr n q h=>rw[AV.aN];exact lt h
 |own n F h=>rw[AV.aN];exact lt h
 |row n q len cap k h=>rw[AV.aN];exact lt h
 |mp n h=>rw[AV.aN];exact lt h
 |cF n h=>rw[AV.aN];exact lt h
 |vec n o len L k h=>rw[AV.aN];exact lt h
 |eC n i j L k h=>rw[AV.aN];exact lt h
 |_=>simp [AV.aN]
def j5(N0:Nat)(s s':St):Prop:=∀(G:Gh)(w:Zz)(a:Act),N0<=G.N->dx G w a s->∃G',cn N0 G w G' w/\N0<=G'.N/\dx G' w a s'
def j5.refl(N0:Nat)(s:St):j5 N0 s s:=λG _ _ b d=>⟨G,cn.refl _ _ _,b,d⟩
def j5.trans{N0:Nat}{s1 b s3:St}(h:j5 N0 s1 b)(k:j5 N0 b s3):j5 N0 s1 s3:=λG w a d e=>by
 obtain⟨f,p,q,u⟩:=h G w a d e;obtain⟨v,z,B,F⟩:=k f w a q u;exact⟨v,p.trans z,B,F⟩
def j5.of_eq{N0:Nat}{s s':St}(h:kg s s'):j5 N0 s s':=λG _ _ d b=>
 ⟨G,cn.refl _ _ _,d,b.size.trans h.n,λi=>by rw[<-h.t i];exact b.tmp i,by rw[<-h.h];exact b.inv,b.df⟩
def j5.aW{N0:Nat}{s s':St}(σ τ:Nat->Nat)(hn:s.n=s'.n)(k:s'.h.length=s.h.length)(aS:∀i,i<s.h.length->σ i<s.h.length)(L:∀i,i<s.h.length->τ i<s.h.length)
 (q:∀i,i<s.h.length->τ (σ i)=i) (M:∀i,i<s.h.length->σ (τ i)=i) (K6:∀i,i<N0->σ i=i)
 (ht:∀i,(bM s.t i).aN s.h.length=true->bM s'.t i=(bM s.t i).aW σ\/bM s'.t i= .dead) (hh:∀i,i<s.h.length->s'.h[σ i]?=(s.h[i]?).map (ar.aW σ)):j5 N0 s s':=λG w a hN f=>by
 have hl:s.h.length=G.N:=f.inv.len;rw[hl]at aS L q M hh k ht;have R:∀i,i<N0->τ i=i:=λi hi=>by
  have d:=q i (by omega);rw[K6 i hi]at d;exact d
 let G':Gh:={G with aZ:=λn=>G.aZ (τ n),sg:=λn=>G.sg (τ n),ow:=λn=>G.ow (τ n),fl:=λn=>G.fl (τ n)}
 have W:tA σ G G':=⟨aS,λn h=>by show G.aZ (τ (σ n))=_;rw[q n h],λn h=>by show G.sg (τ (σ n))=_;rw[q n h],λn h=>by show G.fl (τ (σ n))=_;rw[q n h],λn h=>by show G.ow (τ (σ n))=_;rw[q n h],λ_ _=>Iff.rfl⟩;have hE:cn N0 G w G' w:=⟨Zr _,λ_ _ h=>h,λ_ _ _=>rfl,λn h=>by show G.aZ (τ n)=_;rw[R n h],λn h=>.inl ⟨by show G.fl (τ n)=_;rw[R n h],by show G.sg (τ n)=_;rw[R n h]⟩,iO rfl,λ_ _=>rfl,rfl,rfl,rfl,λ_ _ h=>.inl h⟩;have fD:∀(n:Nat)(B:ar),s'.h[n]?=some B->∃m B0,m<G.N/\σ m=n/\s.h[m]?=some B0/\B=B0.aW σ:=λn B u=>by
  have v:n<G.N:=by have:=(Zk.1 u).1;omega
  have d:=hh (τ n) (L n v);rw[M n v,u]at d;cases h2:s.h[τ n]? with
  |none=>rw[h2]at d;cases d
  |some B0=>rw[h2]at d;cases d;exact⟨τ n,B0,L n v,M n v,h2,rfl⟩
 have fp:∀(n b:Nat),ct s'.h G' n=some b->∃m,m<G.N/\σ m=n/\ct s.h G m=some b:=λn b p=>by
  obtain⟨B,u,p⟩:=n9 p;obtain⟨m,B0,F,H,J,rfl⟩:=fD n B u;subst H;rw[UC W F]at p;exact⟨m,F,rfl,by rw[eJ J];exact p⟩
 refine⟨G',hE,hN,f.size.trans hn,λi=> ?_,⟨k,f.inv.z,f.inv.S,λn B u=> ?_,λm n b hm v=> ?_,f.inv.gl.keep hE⟩,f.df.keep hE⟩
 ·have hv:=f.tmp i;rcases ht i hv.low with e|e
  ·rw[e];exact hv.aW W
  ·rw[e];exact .dead _
 ·obtain⟨m,B0,F,H,J,rfl⟩:=fD n B u;subst H;have p:=f.inv.dJ m B0 J;exact e8.aW W F (λb d=>p.my d) p
 ·obtain⟨m',F,H,J⟩:=fp m b hm;obtain⟨n',j1,j2,j3⟩:=fp n b v;have:=f.inv.inj m' n' b J j3;rw[<-H,<-j2,this]
def QD:kd->kd->Bool
 | .bool a,.bool b=>a==b
 | .int k a,.int l b=>decide (k=l)&&decide (a=b)
 | .string a,.string b=>bL a==bL b
 | .pointer none,.pointer none=>true
 | .slice none a b,.slice none c d=>a==c&&b==d
 | .map none,.map none=>true
 | .nilFunc,.nilFunc=>true
 | .nilIface,.nilIface=>true
 | .tuple a,.tuple b=>a.size==0&&b.size==0
 |_,_=>false
def apd{u v:kd}(h:QD u v=true):u=v:=by
 unfold QD at h;split at h;{rw[Ve]at h;subst h;rfl};{rw[Zo,VX,VX]at h;obtain⟨b,d⟩:=h;subst b;subst d;rfl};{rw[Ve]at h;rw[UE h]};{rfl};{rw[Zo,Ve,Ve]at h;obtain⟨b,d⟩:=h;subst b;subst d;rfl};{rfl};{rfl};{rfl};{rw[Zo,Ve,Ve]at h;rw[Array.eq_empty_of_size_eq_zero h.1,Array.eq_empty_of_size_eq_zero h.2]};{cases h}
mutual
def D.pI:D->D->Bool
 | .v a,.v b=>QD a b
 | .sl xs,.sl ys=>D.tS xs ys
 | .ag xs,.ag ys=>D.yE xs ys
 |_,_=>false
def D.tS:I (I D)->I (I D)->Bool
 |[],[]=>true
 |x::xs,y::ys=>D.yE x y&&D.tS xs ys
 |_,_=>false
def D.yE:I D->I D->Bool
 |[],[]=>true
 |x::xs,y::ys=>D.pI x y&&D.yE xs ys
 |_,_=>false
end
mutual
def D.abZ:∀x y:D,D.pI x y=true->x=y
 | .v a,.v b,h=>by rw[D.pI]at h;rw[apd h]
 | .sl xs,.sl ys,h=>by rw[D.pI]at h;rw[D.GJ xs ys h]
 | .v _,.sl _,h=>by simp [D.pI]at h
 | .sl _,.v _,h=>by simp [D.pI]at h
 | .ag xs,.ag ys,h=>by rw[D.pI]at h;rw[D.Qu xs ys h]
 | .v _,.ag _,h=>by simp [D.pI]at h
 | .ag _,.v _,h=>by simp [D.pI]at h
 | .sl _,.ag _,h=>by simp [D.pI]at h
 | .ag _,.sl _,h=>by simp [D.pI]at h
def D.GJ:∀x y:I (I D),D.tS x y=true->x=y
 |[],[],_=>rfl
 |x::xs,y::ys,h=>by rw[D.tS,Zo]at h;rw[D.Qu x y h.1,D.GJ xs ys h.2]
 |[],_::_,h=>by simp [D.tS]at h
 |_::_,[],h=>by simp [D.tS]at h
def D.Qu:∀x y:I D,D.yE x y=true->x=y
 |[],[],_=>rfl
 |x::xs,y::ys,h=>by rw[D.yE,Zo]at h;rw[D.abZ x y h.1,D.Qu xs ys h.2]
 |[],_::_,h=>by simp [D.yE]at h
 |_::_,[],h=>by simp [D.yE]at h
end
mutual
def AV.gW(σ:Nat->Nat):AV->AV->Bool
 | .d x,y=>(match y with| .d y=>D.pI x y|_=>false)
 | .agg a,y=>(match y with| .agg b=>AV.ra σ a b|_=>false)
 | .bn a,y=>(match y with| .bn b=>AV.ra σ a b|_=>false)
 | .fn f a,y=>(match y with| .fn g b=>f==g&&AV.ra σ a b|_=>false)
 | .ptr n o,y=>(match y with| .ptr m p=>σ n==m&&o==p|_=>false)
 | .bK xs i o,y=>(match y with| .bK ys j p=>D.tS xs ys&&(i==j&&o==p)|_=>false)
 | .own n xs,y=>(match y with| .own m ys=>σ n==m&&D.tS xs ys|_=>false)
 | .full xs,y=>(match y with| .full ys=>D.tS xs ys|_=>false)
 | .row n i1 i2 i3 i4,y=>(match y with| .row m j1 j2 j3 j4=>σ n==m&&(i1==j1&&(i2==j2&&(i3==j3&&i4==j4)))|_=>false)
 | .mp n,y=>(match y with| .mp m=>σ n==m|_=>false)
 | .cF n,y=>(match y with| .cF m=>σ n==m|_=>false)
 | .vec n i1 i2 i3 i4,y=>(match y with| .vec m j1 j2 j3 j4=>σ n==m&&(i1==j1&&(i2==j2&&(i3==j3&&i4==j4)))|_=>false)
 | .eC n i1 i2 i3 i4,y=>(match y with| .eC m j1 j2 j3 j4=>σ n==m&&(i1==j1&&(i2==j2&&(i3==j3&&i4==j4)))|_=>false)
 | .dead,y=>(match y with| .dead=>true|_=>false)
 | .hid _,_=>false
def AV.ra(σ:Nat->Nat):I AV->I AV->Bool
 |[],y=>(match y with|[]=>true|_=>false)
 |x::xs,l=>(match l with|y::ys=>AV.gW σ x y&&AV.ra σ xs ys|_=>false)
end
mutual
def AV.ahS(σ:Nat->Nat):∀x y:AV,AV.gW σ x y=true->y=x.aW σ
 | .d x,y,h=>by
   cases y with
   |d y=>simp only[AV.gW,Zo,Ve]at h;rw[AV.aW,D.abZ _ _ h]
   |_=>simp [AV.gW]at h
 | .agg a,y,h=>by
   cases y with
   |agg b=>simp only[AV.gW,Zo,Ve]at h;rw[AV.aW,AV.MQ σ _ _ h]
   |_=>simp [AV.gW]at h
 | .bn a,y,h=>by
   cases y with
   |bn b=>simp only[AV.gW,Zo,Ve]at h;rw[AV.aW,AV.MQ σ _ _ h]
   |_=>simp [AV.gW]at h
 | .fn f a,y,h=>by
   cases y with
   |fn g b=>simp only[AV.gW,Zo,Ve]at h;rw[AV.aW,AV.MQ σ _ _ h.2,h.1]
   |_=>simp [AV.gW]at h
 | .ptr n o,y,h=>by
   cases y with
   |ptr m p=>simp only[AV.gW,Zo,Ve]at h;rw[AV.aW,h.1,h.2]
   |_=>simp [AV.gW]at h
 | .bK xs i o,y,h=>by
   cases y with
   |bK ys j p=>simp only[AV.gW,Zo,Ve]at h;rw[AV.aW,D.GJ _ _ h.1,h.2.1,h.2.2]
   |_=>simp [AV.gW]at h
 | .own n xs,y,h=>by
   cases y with
   |own m ys=>simp only[AV.gW,Zo,Ve]at h;rw[AV.aW,D.GJ _ _ h.2,h.1]
   |_=>simp [AV.gW]at h
 | .full xs,y,h=>by
   cases y with
   |full ys=>simp only[AV.gW,Zo,Ve]at h;rw[AV.aW,D.GJ _ _ h]
   |_=>simp [AV.gW]at h
 | .row n i1 i2 i3 i4,y,h=>by
   cases y with
   |row m j1 j2 j3 j4=>simp only[AV.gW,Zo,Ve]at h;rw[AV.aW,h.1,h.2.1,h.2.2.1,h.2.2.2.1,h.2.2.2.2]
   |_=>simp [AV.gW]at h
 | .vec n i1 i2 i3 i4,y,h=>by
   cases y with
   |vec m j1 j2 j3 j4=>simp only[AV.gW,Zo,Ve]at h;rw[AV.aW,h.1,h.2.1,h.2.2.1,h.2.2.2.1,h.2.2.2.2]
   |_=>simp [AV.gW]at h
 | .eC n i1 i2 i3 i4,y,h=>by
   cases y with
   |eC m j1 j2 j3 j4=>simp only[AV.gW,Zo,Ve]at h;rw[AV.aW,h.1,h.2.1,h.2.2.1,h.2.2.2.1,h.2.2.2.2]
   |_=>simp [AV.gW]at h
 | .mp n,y,h=>by
   cases y with
   |mp m=>simp only[AV.gW,Zo,Ve]at h;rw[AV.aW,h]
   |_=>simp [AV.gW]at h
 | .cF n,y,h=>by
   cases y with
   |cF m=>simp only[AV.gW,Zo,Ve]at h;rw[AV.aW,h]
   |_=>simp [AV.gW]at h
 | .dead,y,h=>by
   cases y with
   |dead=>rw[AV.aW]
   |_=>simp [AV.gW]at h
 | .hid _,y,h=>by simp [AV.gW]at h
def AV.MQ(σ:Nat->Nat):∀x y:I AV,AV.ra σ x y=true->y=AV.ib σ x
 |[],y,h=>by
  cases y with
  |nil=>rw[AV.ib]
  |cons=>simp [AV.ra]at h
 |x::xs,l,h=>by
  cases l with
  |nil=>simp [AV.ra]at h
  |cons y ys=>simp only[AV.ra,Zo]at h;rw[AV.ib,AV.ahS σ _ _ h.1,AV.MQ σ _ _ h.2]
end
def X6:I (so×D)->I (so×D)->Bool
 |[],[]=>true
 |(k,d)::l,(b,e)::f=>bL k==bL b&&D.pI d e&&X6 l f
 |_,_=>false
def XQ(σ:Nat->Nat):I (I AV)->I (I AV)->Bool
 |[],[]=>true
 |x::b,y::d=>AV.ra σ x y&&XQ σ b d
 |_,_=>false
def ar.gW(σ:Nat->Nat):ar->ar->Bool
 | .cells a,y=>(match y with| .cells b=>AV.ra σ a b|_=>false)
 | .front e k l,y=>(match y with| .front d f u=>e==d&&(k==f&&l==u)|_=>false)
 | .jq _ _,_=>false
 | .vec e k cs,y=>(match y with| .vec d f p=>e==d&&(k==f&&XQ σ cs p)|_=>false)
 | .map v,y=>(match y with| .map z=>X6 v z|_=>false)
 | .jx _,_=>false
 | .it B cs,y=>(match y with| .it q p=>B==q&&AV.ra σ cs p|_=>false)
 | .fG _ _,_=>false
 | .gone,y=>(match y with| .gone=>true|_=>false)
 | .lp ..,_=>false
def ir(h0:Nat)(p:I Nat)(i:Nat):Nat:=bif cG h0 i then p.getD (i-h0) i else i
def Cm(b e:I (Nat×AV))(ks:I Nat)(i:Nat):Nat:=
 match ks with
 |[]=>i
 |d::ks=>match bM b d,bM e d with
  | .ptr n _,.ptr m _=>bif n==i then m else Cm b e ks i
  | .own n _,.own m _=>bif n==i then m else Cm b e ks i
  | .vec n _ _ _ _,.vec m _ _ _ _=>bif n==i then m else Cm b e ks i
  | .mp n,.mp m=>bif n==i then m else Cm b e ks i
  |_,_=>Cm b e ks i
def mkP(s s':St)(ks:I Nat)(h0:Nat):Nat->I Nat
 |0=>[]
 |k+1=>Cm s.t s'.t ks h0::mkP s s' ks (h0+1) k
def atj(h0:Nat)(ks:I Nat)(s s':St)(p q:I Nat):Bool:=
 (s'.h.length==s.h.length)&&(((List.range s.h.length).all λi=>cG (ir h0 p i+1) s.h.length&&cG (ir h0 q i+1) s.h.length&&ir h0 q (ir h0 p i)==i&&ir h0 p (ir h0 q i)==i)&&(ks.all (λd=>AV.gW (ir h0 p) (bM s.t d) (bM s'.t d))&&
  ((List.range s.h.length).all λi=>match s.h[i]?,s'.h[ir h0 p i]? with
    |some B,some b=>ar.gW (ir h0 p) B b
    |_,_=>false)))
structure oc(ks:List Nat)(s0 s:St):Prop where
 n:s.n=s0.n
 t:∀d,d ∉ ks->bM s.t d=bM s0.t d
def oc.refl(ks:I Nat)(s:St):oc ks s s:=⟨rfl,λ_ _=>rfl⟩
def oc.put{ks:I Nat}{s0 s:St}(h:oc ks s0 s)(h1:I ar){d:U Nat}(x:AV)(f:∀k,d=some k->k∈ks):oc ks s0 ((s.wh h1).put d x):=
 ⟨by rw[s8];exact h.n,λi b=>by
  rw[vc,ZN];{exact h.t i b}
  ·rintro⟨e,_⟩;exact b (f i e)⟩
def HE(N0:Nat)(K:St->Prop):Prop:=∀s s',j5 N0 s s'->K s'->K s
def HE.c{N0:Nat}{K:St->Prop}(h:HE N0 K):sB K:=λs s' e b=>h s' s (j5.of_eq e.symm) b
def U0{P:dg}{r:U Nat}{N0:Nat}{s:St}{Q:Exit->St->Prop}{m:Bool}{id:Nat}{ops:Array Oper}(f:P.follows .mixedOrders=true)
 (h:N0<=s.h.length->(∀i,(bM s.t i).aN s.h.length=true)->l8 m P ops (λs1=>∃b,j5 N0 s1 b/\Q .normal b) ops.size (Array.replicate ops.size false) s):bQ P r N0 (.region id ops true) Q s:=by
 constructor
 intro G w a n d e;obtain⟨k,p⟩:=d.drew;refine wpIn_region_any f ?_;have q:=d.inv.len;refine Jl (G:=G) (w:=w) (N0:=N0) (K:=λs1=>∃b,j5 N0 s1 b/\Q .normal b) (λu w' v=> ?_) ops.size _ G _ a s (k.less e) e p (h (by omega) λi=>by rw[q];exact(d.tmp i).low);obtain⟨z,s',B,F,H,b,J,L⟩:=v;obtain⟨M,N,R,W⟩:=J z w' u F H;exact⟨M,b,B.trans N,R,W,L⟩
def RR{N0:Nat}(Q:St->Prop):HE N0 (λs1=>∃b,j5 N0 s1 b/\Q b):=λ_ _ h ⟨b,d,e⟩=>⟨b,h.trans d,e⟩
def AL(f:Nat->Bool):Nat->Nat
 |0=>0
 |n+1=>bif f n then AL f n|||(1<<<n)else AL f n
def EX(f:Nat->Bool):∀(n j:Nat),Nat.testBit (AL f n) j=(decide (j<n)&&f j)
 |0,j=>by simp [AL]
 |n+1,j=>by
  unfold AL;have b:=EX f n j;cases d:f n with
  |true=>
   simp only[V1,Nat.testBit_or,b,Nat.one_shiftLeft,Nat.testBit_two_pow];by_cases e:n=j;{subst e;simp [d]}
   ·have:decide (j<n+1)=decide (j<n):=by simp;omega
    rw[this];simp [e]
  |false=>
   simp only[UQ,b];by_cases e:n=j;{subst e;simp [d]}
   ·have:decide (j<n+1)=decide (j<n):=by simp;omega
    rw[this]
def fN{α:Type}(n:Nat)(f:Nat->α):α:=Nat.casesOn (Nat.succ n) (f 0) f
def AX{α:Type}(n:Nat)(f:Nat->α):fN n f=f n:=rfl
def fL{α:Type}:I Nat->(I Nat->α)->α
 |[],f=>f []
 |n::l,f=>fN n λn=>fL l λl=>f (n::l)
def xS{α:Type}:∀(l:I Nat)(f:I Nat->α),fL l f=f l
 |[],_=>rfl
 |n::l,f=>by rw[fL,AX,xS l]
section
variable (ops:Array Oper)
def BS(o:Oper)(n j:Nat):Bool:=o.after.any λe=>Region.binds .any e&&(e.on==j||(j==n&&cG n e.on))
def Ka(k:Nat):Nat:=match ops[k]? with
 |some o=>AL (BS o ops.size) (ops.size+1)
 |none=>1<<<ops.size
def T3(m:Bool)(M:Array Nat)(k j:Nat):Bool:= !(j==k)&&(!((M.getD j 0).testBit k)&&match ops[k]?,ops[j]? with
 |some b,some d=> !(b.apart ops d&&AZ m b d)
 |_,_=>true)
def xd(m:Bool)(M:Array Nat)(k:Nat):Nat:=AL (T3 ops m M k) ops.size
def qA:Nat->Nat->I Nat
 |_,0=>[]
 |k,n+1=>Ka ops k::qA (k+1) n
def lI(m:Bool)(M:Array Nat):Nat->Nat->I Nat
 |_,0=>[]
 |k,n+1=>xd ops m M k::lI m M (k+1) n
end
def rW:I Nat->Nat->Nat->I Nat
 |[],_,_=>[]
 |a::A,L,k=>bif !(Nat.testBit L k)&&(L&&&a==a)then k::rW A L (k+1)else rW A L (k+1)
def yZ(C:I Nat)(L:Nat):I Nat->U Nat
 |[]=>none
 |k::r=>bif (C.getD k 0)|||L==L then some k else yZ C L r
section
variable (ops:Array Oper) (st:Oper->St->U St) (h0:Nat) (ks A C:I Nat)
def pZ:I Oper->I Nat
 |[]=>[]
 |o::l=>match o.dst with
  |some d=>d::pZ l
  |none=>pZ l
end
def Ke:∀{l:I Oper}{o:Oper},o∈l->∀d,o.dst=some d->d∈pZ l
 |[],_,h,_,_=>by cases h
 |a::l,o,h,d,b=>by
  unfold pZ;rcases ZY.1 h with rfl|h
  ·rw[b];simp
  ·split
   ·exact Zg _ (Ke h d b)
   ·exact Ke h d b
def Iz(ops:Array Oper):∀(n k i:Nat),(qA ops k n)[i]?=if i<n then some (Ka ops (k+i))else none
 |0,k,i=>by simp [qA]
 |n+1,k,0=>by simp [qA]
 |n+1,k,i+1=>by rw[qA,Yt,Iz ops n (k+1) i];simp only[Nat.add_lt_add_iff_right];rw[show k+1+i=k+(i+1) by omega]
def RJ(ops:Array Oper)(m:Bool)(M:Array Nat):∀(n k i:Nat),(lI ops m M k n)[i]?=if i<n then some (xd ops m M (k+i))else none
 |0,k,i=>by simp [lI]
 |n+1,k,0=>by simp [lI]
 |n+1,k,i+1=>by rw[lI,Yt,RJ ops m M n (k+1) i];simp only[Nat.add_lt_add_iff_right];rw[show k+1+i=k+(i+1) by omega]
def Hd{L:Nat}:∀(A:I Nat)(k i:Nat),i∈rW A L k↔k<=i/\Nat.testBit L i=false/\∃a,A[i-k]?=some a/\L&&&a=a
 |[],k,i=>by simp [rW]
 |a::A,k,i=>by
  have v:=Hd (L:=L) A (k+1) i;unfold rW;have u:i∈rW A L (k+1)↔k<i/\Nat.testBit L i=false/\∃b,(a::A)[i-k]?=some b/\L&&&b=b:=by
   rw[v];constructor;{rintro⟨e,d,b,f,p⟩;refine⟨e,d,b,?_,p⟩;rw[show i-k=(i-(k+1))+1 by omega,Yt];exact f};{rintro⟨e,d,b,f,p⟩;refine⟨e,d,b,?_,p⟩;rw[show i-k=(i-(k+1))+1 by omega,Yt]at f;exact f}
  cases q:(!(Nat.testBit L k)&&(L&&&a==a))with
  |true=>
   simp only[V1,ZY,u];simp only[Zo,VJ,Ve]at q;constructor
   ·rintro(rfl|⟨e,d⟩)
    ·exact⟨Zr _,q.1,a,by simp,q.2⟩
    ·exact⟨by omega,d⟩
   ·rintro⟨e,d⟩;rcases Nat.lt_or_eq_of_le e with h|h
    ·exact .inr ⟨h,d⟩
    ·exact .inl h.symm
  |false=>
   simp only[UQ,u];constructor;{rintro⟨e,d⟩;exact⟨by omega,d⟩}
   ·rintro⟨e,d,b,f,p⟩;rcases Nat.lt_or_eq_of_le e with h|h
    ·exact⟨h,d,b,f,p⟩
    ·subst h;simp at f;subst f;rw[d]at q;simp at q;exact absurd p q
def HU{C:I Nat}{L:Nat}:∀{r:I Nat}{k:Nat},yZ C L r=some k->k∈r/\(C.getD k 0)|||L=L
 |[],k,h=>by cases h
 |a::r,k,h=>by
  unfold yZ at h;cases b:((C.getD a 0)|||L==L)with
  |true=>rw[b]at h;cases h;exact⟨by simp,by simpa using b⟩
  |false=>rw[b]at h;have:=HU h;exact⟨Zg _ this.1,this.2⟩
structure LM(ops:Array Oper)(L:Nat)(listed:Array Bool):Prop where
 sz:listed.size=ops.size
 b:∀i,Nat.testBit L i=listed.getD i false
def LM.set{ops:Array Oper}{L:Nat}{listed:Array Bool}(h:LM ops L listed){k:Nat}(d:k<ops.size):LM ops (L|||(1<<<k)) (listed.setIfInBounds k true):=by
 refine⟨by simp [h.sz],λi=> ?_⟩;rw[Nat.testBit_or,Nat.one_shiftLeft,Nat.testBit_two_pow,h.b i];by_cases e:k=i
 ·subst e;have:k<listed.size:=by rw[h.sz];exact d
  simp [this]
 ·rw[getD_set_ne false e];simp [e]
def LM.ready{ops:Array Oper}{L:Nat}{listed:Array Bool}(h:LM ops L listed)(i:Nat):i∈Region.ready .any ops listed↔i∈rW (qA ops 0 ops.size) L 0:=by
 rw[mem_ready,Hd];simp only[WJ,true_and,Nat.sub_zero,Iz,ZJ];have p:∀j,ops.size<=j->Nat.testBit L j=false:=λj f=>by
   rw[h.b,Array.getD_eq_getD_getElem?,Array.getElem?_eq_none (by rw[h.sz];exact f)];rfl
 constructor
 ·rintro⟨z,o,q,B⟩;have u:=(ZT.1 q).1;have F:listed.getD i false=false:=by
   have H:i<listed.size:=by rw[h.sz];exact u
   simpa [H]using z
  refine⟨by rw[h.b];exact F,_,by rw[ZL u],?_⟩;apply Nat.eq_of_testBit_eq;intro j;rw[Nat.testBit_and];unfold Ka;rw[q];simp only[EX];cases d:(decide (j<ops.size+1)&&BS o ops.size j)with
  |false=>simp
  |true=>
   simp only[Bool.and_true];rw[Zo]at d;have d:=d.2;unfold BS at d;rw[Array.any_eq_true']at d;obtain⟨e,J,d⟩:=d;simp only[Zo,af,Ve,dS]at d;have M:=B e J d.1;have:e.on<ops.size:=by
    rcases Nat.lt_or_ge e.on ops.size with k|k
    ·exact k
    ·have:=p e.on k;rw[h.b]at this;rw[this]at M;cases M
   rcases d.2 with f|⟨_,f⟩
   ·rw[<-f,h.b];exact M
   ·omega
 ·rintro⟨z,a,N,B⟩;split at N
  ·next u=>
   cases N
   have q:ops[i]?=some ops[i]:=ZH u;refine⟨?_,ops[i],q,λe J W=> ?_⟩
   ·rw[h.b]at z;have H:i<listed.size:=by rw[h.sz];exact u
    simpa [H]using z
   ·have R:∀j,j<ops.size+1->BS ops[i] ops.size j=true->Nat.testBit L j=true:=λj f hf=>by
     have:=congrArg (λn=>Nat.testBit n j) B;simp only[Nat.testBit_and]at this;unfold Ka at this;rw[q]at this;simp only[EX]at this;rw[hf]at this
     simpa [f]using this
    have v:∀j,(e.on==j||(j==ops.size&&cG ops.size e.on))=true->BS ops[i] ops.size j=true:=λj f=>by
     unfold BS;rw[Array.any_eq_true'];exact⟨e,J,by rw[W,f];rfl⟩
    rcases Nat.lt_or_ge e.on ops.size with k|k
    ·rw[<-h.b];exact R e.on (by omega) (v _ (by simp))
    ·have:=R ops.size (by omega) (v _ (by simp [dS.2 k]));rw[p _ (Zr _)]at this;cases this
  ·cases N
section
variable {P:dg} {ops:Array Oper} {st:Oper->St->U St} {h0:Nat} {m:Bool} {N0:Nat} {K:St->Prop} {s0:St}
end
inductive aaB
 |n
 |r
 |x (id:Nat)
def SG{α:Type}(n:Nat)(f:Nat->α):α:=Nat.casesOn (Nat.succ n) (f 0) f
def ajT{α:Type}(n:Nat)(f:Nat->α):SG n f=f n:=rfl
def AV.force{α:Type}(x:AV)(f:AV->α):α:=
 match x with
 | .d (.v (.int k (.ofNat n)))=>SG n λn=>f (.d (.v (.int k (.ofNat n))))
 | .d (.v (.bool b))=>bif b then f (.d (.v (.bool true)))else f (.d (.v (.bool false)))
 |x=>f x
def AV.force_eq{α:Type}(x:AV)(f:AV->α):x.force f=f x:=by
 unfold AV.force;split;{rw[ajT]};{next b=>cases b<;>rfl};{rfl}
def Mc{α:Type}:I ar->(I ar->α)->α
 |[],f=>f []
 |b::l,f=>Mc l λr=>f (b::r)
def XN{α:Type}:∀(l:I ar)(f:I ar->α),Mc l f=f l
 |[],_=>rfl
 |b::l,f=>by rw[Mc,XN l]
abbrev RU:=Bool->Nat->Code->St->U (aaB×St)
abbrev Qc:=FuncId->I AV->U (U AV)
def extE:U (U AV)->Bool
 |some none=>true
 |_=>false
mutual
def AV.aak:AV->I Nat
 | .fn _ cs=>AV.QS cs
 |_=>[]
def AV.QS:I AV->I Nat
 |[]=>[]
 | .ptr n _::l=>n::AV.QS l
 |x::l=>x.aak++AV.QS l
end
def Kk:I Nat->AV->I ar->U (AV×I ar)
 |[],r,h=>some (r,h)
 |b::l,r,h=>match h[b]? with
  |some (.cells cs)=>match ox cs with
   |some d=>Kk l (r.gd b d) ((h.map (ar.gd b d)).set b .gone)
   |none=>none
  |_=>none
def YD:AV->U D
 | .d x=>some x
 |_=>none
def Oo:I AV->U (I D)
 |[]=>some []
 |x::l=>match YD x,Oo l with
  |some d,some r=>some (d::r)
  |_,_=>none
def OP:I (I AV)->U (I (I D))
 |[]=>some []
 |x::l=>match Oo x,OP l with
  |some d,some r=>some (d::r)
  |_,_=>none
mutual
def AV.aaY:AV->Bool
 | .vec .. =>true
 | .agg cs=>AV.Ot cs
 | .bn cs=>AV.Ot cs
 | .fn _ cs=>AV.Ot cs
 |_=>false
def AV.Ot:I AV->Bool
 |[]=>false
 |x::l=>x.aaY||AV.Ot l
end
def xB:I Nat->AV->I ar->AV×I ar
 |[],r,h=>(r,h)
 |b::l,r,h=>match h[b]? with
  |some (.vec _ k cs)=>match OP cs with
   |some d=>bif d.all (λc=>c.all D.wX)then(r.dD b k d).force λr=>Mc ((h.map (ar.lr (AV.dD b k d))).set b .gone) λh=>xB l r h else xB l r h
   |none=>xB l r h
  |_=>xB l r h
def amr(h:I ar):I Nat:=(List.range h.length).reverse++(List.range h.length).reverse
def JS(r:AV)(h:I ar):U AV:=
 match Kk r.aak r h with
 |some (r,_)=>some (r.bR 0)
 |none=>none
def XM(r:AV)(h:I ar):U AV:=
 bif r.aaY then(match xB (amr h) r h with|(r,h)=>JS r h)else JS r h
section
variable (run:RU) (P:dg) (afK:Qc)
def cw(lo:Nat)(f:FuncId)(args:I AV)(h:I ar):U (AV×I ar):=
 match P.funcs[f]? with
 |some b=>match b.body with
  |some c=>SG (args.length+(b.ntmps-args.length)) λn=>match run true lo c ⟨n,nj 0 args,h⟩with
   |some (.x _,_)=>none
   |some (_,s)=>match ur P s b.results.toList with
    |some l=>some (lx l,s.h)
    |none=>none
   |none=>none
  |none=>none
 |none=>none
end
section
variable {run:RU} {P:dg} {afK:Qc} {lo:Nat} {s s':St}
end
mutual
def AO(m:Nat):∀x:AV,x.aN m=true->x.bR m=x
 | .own n xs,h=>by
   rw[AV.aN]at h;rw[AV.bR];cases e:cG m n with
   |true=>rw[e]at h;cases h
   |false=>rfl
 | .agg cs,h=>by rw[AV.aN]at h;rw[AV.bR,Ou m cs h]
 | .bn cs,h=>by rw[AV.aN]at h;rw[AV.bR,Ou m cs h]
 | .fn f cs,h=>by rw[AV.aN]at h;rw[AV.bR,Ou m cs h]
 | .d _,_=>by simp only[AV.bR]
 | .ptr ..,_=>by simp only[AV.bR]
 | .bK ..,_=>by simp only[AV.bR]
 | .full _,_=>by simp only[AV.bR]
 | .row ..,_=>by simp only[AV.bR]
 | .mp _,_=>by simp only[AV.bR]
 | .cF _,_=>by simp only[AV.bR]
 | .vec ..,_=>by simp only[AV.bR]
 | .eC ..,_=>by simp only[AV.bR]
 | .hid _,_=>by simp only[AV.bR]
 | .dead,_=>by simp only[AV.bR]
def Ou(m:Nat):∀l:I AV,AV.lB m l=true->AV.rP m l=l
 |[],_=>by simp [AV.rP]
 |x::l,h=>by
  rw[AV.lB,Zo]at h;rw[AV.rP,AO m x h.1,Ou m l h.2]
end
def aqx{m:Nat}{B:ar}(h:B.aN m=true):B.bR m=B:=by
 cases B with
 |cells cs=>
  simp only[ar.aN,Zb]at h;simp only[ar.bR]
  congr 1
  exact(Yy λx d=>AO m x (h x d)).trans (List.map_id _)
 |lp v p as z cs=>
  simp only[ar.aN,Zb]at h;simp only[ar.bR]
  congr 1
  exact(Yy λx d=>AO m x (h x d)).trans (List.map_id _)
 |it F cs=>
  simp only[ar.aN,Zb]at h;simp only[ar.bR]
  congr 1
  exact(Yy λx d=>AO m x (h x d)).trans (List.map_id _)
 |fG H cs=>
  simp only[ar.aN,Zb]at h;simp only[ar.bR]
  congr 1
  exact(Yy λx d=>AO m x (h x d)).trans (List.map_id _)
 |vec e k cs=>
  simp only[ar.aN,Zb]at h;simp only[ar.bR]
  congr 1
  exact(Yy λx d=>(Yy λy f=>AO m y (h x d y f)).trans (List.map_id _)).trans (List.map_id _)
 |front e k q=>rfl
 |jq e b=>rfl
 |map u=>rfl
 |jx u=>rfl
 |gone=>rfl
def Vg{m:Nat}{h:I ar}(e:h.all (ar.aN m)=true):h.map (ar.bR m)=h:=
 (Yy λB b=>aqx (Zb.1 e B b)).trans (List.map_id _)
section
variable {P:dg} {r:U Nat} {n N0:Nat} {G:Gh} {w:Zz} {a:Act} {s:St} {o:Oper} {Q:Exit->St->Prop}
end
def dq.cut{P:dg}{f:FuncId}{args:I AV}{h h':I ar}{r:AV}(m:Nat)(d:dq P f args h λb h1=>b=r/\h1=h')(h1:h.length<=m)(p:m<=h'.length)(q:(((h'.take m).map (ar.bR m)).all (ar.aN m))=true)(u:(r.bR m).aN m=true):
 dq P f args h λb h1=>b=r.bR m/\h1=(h'.take m).map (ar.bR m):=by
 refine⟨d.1,λG w z k B F=>(d.2 G w z k B F).mono λe w' H=> ?_⟩;obtain⟨v,G',_,_,rfl,J,M,L,Sr,rfl,rfl⟩:=H;exact⟨v,G'.cut m,_,_,rfl,J.trans (rC _ _ _ _),by rw[<-k.len];exact h1,TS L p q,(Sr.bR m).cut u,rfl,rfl⟩
section
variable {run:RU} {P:dg} {afK:Qc} {lo:Nat} {s s':St}
def dq.ZR{f:FuncId}{args:I AV}{h0 h h2:I ar}{r b:AV}{tl:I (Nat×AV)}(k:dq P f args h0 λd h1=>d=r/\h1=h)
 (u:∀(G:Gh)(w:Zz)(a:Act),dx G w a ⟨1,[(0,r)],h⟩->∃G',cn G.N G w G' w/\G'.N=G.N/\dx G' w a ⟨1,(0,b)::tl,h2⟩):dq P f args h0 λd h1=>d=b/\h1=h2:=by
 refine⟨k.1,λG w z B F H=>(k.2 G w z B F H).mono λe w' J=> ?_⟩;obtain⟨v,G',_,_,rfl,L,p,M,R,rfl,rfl⟩:=J;obtain⟨W,e1,e2,q⟩:=u G' w' {tmps:= #[v],defers:=[]} ⟨rfl,λi=>by
  show aO G' w' _ (bM [(0,_)] i);rw[mi];split;{next ei=>subst ei;exact R}
  ·exact .dead _,M,tC.nil _ _⟩
 exact⟨v,W,b,h2,rfl,L.trans (e1.less p),by rw[e2];exact p,q.inv,q.tmp 0,rfl,rfl⟩
def W6{f:FuncId}{args:I AV}{h0:I ar}:∀(l:I Nat){h d:I ar}{r k:AV},(dq P f args h0 λp h1=>p=r/\h1=h)->Kk l r h=some (k,d)->dq P f args h0 λp h1=>p=k/\h1=d
 |[],h,d,r,k,q,e=>by cases e;exact q
 |b::l,h,d,r,k,q,e=>by
  unfold Kk at e;split at e
  ·next cs u=>
   split at e
   ·next B v=>
    refine W6 l (dq.ZR (tl:=[]) q λG w a z=> ?_) e;refine z.yj (b:=b) ?_;simp only[Go.Proofs.YtnnapanbbbcalaaGreatDoor.yj,u,v];rfl
   ·cases e
  ·cases e
def XK:∀{l:I AV}{b:I D},Oo l=some b->l=b.map AV.d
 |[],b,h=>by cases h;rfl
 |x::l,b,h=>by
  unfold Oo at h;split at h
  ·next d r e f=>
   cases h
   rw[XK f];cases x<;>simp [YD]at e
   subst e;rfl
  ·cases h
def XJ:∀{l:I (I AV)}{xs:I (I D)},OP l=some xs->l=cg xs
 |[],xs,h=>by cases h;rfl
 |x::l,xs,h=>by
  unfold OP at h;split at h;{next d r b e=>cases h;rw[XJ e,XK b];rfl};{cases h}
def HB{f:FuncId}{args:I AV}{h0:I ar}:∀(l:I Nat){h:I ar}{r:AV},(dq P f args h0 λp h1=>p=r/\h1=h)->dq P f args h0 λp h1=>p=(xB l r h).1/\h1=(xB l r h).2
 |[],h,r,d=>d
 |b::l,h,r,d=>by
  unfold xB;split
  ·next e k cs q=>
   split
   ·next u v=>
    rw[AV.force_eq,XN,cond_eq_ite];split
    ·next h1=>
     refine HB l (dq.ZR (tl:=[]) d λG w a z=> ?_);have B:=XJ v;exact z.U6 u (by show h[b]?=_;rw[q,B]) (λc d=>Zb.1 h1 c d)
    ·exact HB l d
   ·exact HB l d
  ·exact HB l d
def U8{f:FuncId}{args:I AV}{h:I ar}{r k:AV}(b:dq P f args [] λd h1=>d=r/\h1=h)(e:XM r h=some k)(q:k.aN 0=true):gZ P f args (·=k):=by
 have u:∀{r:AV}{h:I ar},(dq P f args [] λd h1=>d=r/\h1=h)->(r.bR 0).aN 0=true->gZ P f args (·=r.bR 0):=λb q=>
  (b.cut 0 (Zr _) (WJ _) (by simp) q).mono λd h1 ⟨v,z⟩=>⟨by simpa using z,v⟩
 have p:∀{r:AV}{h:I ar},(dq P f args [] λd h1=>d=r/\h1=h)->JS r h=some k->gZ P f args (·=k):=λb e=>by
  unfold JS at e;split at e
  ·next F H B=>
   cases e
   exact u (W6 _ b B) q
  ·cases e
 unfold XM at e;rcases apC e with⟨_,e⟩|⟨_,e⟩
 ·exact p (HB _ b) e
 ·exact p b e
end
def Zf:∀(H' H e:I ar),H'.length=H.length->iW (List.range H.length) H' (H++e)=H'++e:=by
 intro H' H e q;have p:∀(n:Nat)(a b B r:I ar),b.length=n->B.length=n->iW ((List.range n).map (a.length+·)) B (a++(b++r))=a++(B++r):=by
  intro n
  induction n with
  |zero=>intro a b B r d f;rw[List.length_eq_zero_iff.1 d,List.length_eq_zero_iff.1 f];simp [iW]
  |succ n u=>
   intro a b B r d f;cases b with
   |nil=>simp at d
   |cons v b=>
    cases B with
    |nil=>simp at f
    |cons k B=>
     rw[List.range_succ_eq_map,ZS,List.map_map,iW];have z:(a++(v::b++r)).set (a.length+0) k=(a++[k])++(b++r):=by
       rw[Nat.add_zero,List.set_append_right _ _ (Zr _),Nat.sub_self];simp
     have F:(λx=>a.length+x)∘Nat.succ=λx=>(a++[k]).length+x:=by
      funext x
      simp only[Function.comp_apply,Zj,Zi,Zc];omega
     rw[z,F,u (a++[k]) b B r (by simpa using d) (by simpa using f)];simp
 have:=p H.length [] H H' e rfl q
 simpa using this
def PE{P:dg}{k:Nat}{x:AV}{H:I ar}{C:Bool->I ar->Prop}(q:YS P k x H C)(e:I ar)(N:H.all (ar.aN H.length)=true)(R:x.aN H.length=true)
 (hC:∀b h',C b h'->h'.length=H.length/\h'.all (ar.aN H.length)=true):YS P k x (H++e) λb h'=>∃H',C b H'/\h'=H'++e:=by
 intro G w v r n hi hv;have f:∀i,i<H.length->rn (List.range H.length) (H++e).length i=i:=λi h=>A1 (List.range H.length) _ i i (by rw[List.getElem?_range h]);have O0:∀y:AV,y.aN H.length=true->y.aW (rn (List.range H.length) (H++e).length)=y:=λy q=>(CL (τ:=id) f y q).trans (LD y);have W:∀B:ar,B.aN H.length=true->B.aW (rn (List.range H.length) (H++e).length)=B:=λB u=>(UP (τ:=id) f B u).trans (QJ B);obtain⟨G0,z,vf,F,UK⟩:=Xz (H:=H) (l:=List.range H.length) (h:=H++e) List.nodup_range (λj hj=>by have:=List.mem_range.1 hj;simp;omega) (λi j J=>by
  obtain⟨L,rfl⟩:i<H.length/\j=i:=by
   have d:=(Zk.1 J).1;rw[List.length_range]at d;rw[List.getElem?_range d]at J;exact⟨d,(Zs J).symm⟩
  rw[ZW L,Zd L,YV,W _ (Zb.1 N _ (List.getElem_mem L))]) (by simp) N hi
 obtain⟨M,p,as,bd,fn,tm,D,d,h2⟩:=q G0 w v r n vf (aO.uA F (by rw[O0 x R];exact hv) x rfl (by rw[z];exact R));have iz:k<H.length:=z▸M;have ic:G.aZ k=G0.aZ k:=by
  have:=F.aZ k M
  rwa [f k iz]at this
 refine⟨by have:=F.lt k M;rwa [f k iz]at this,p,as,bd,fn,tm,D,by rw[ic];exact d,?_⟩;rw[ic];refine h2.mono λe1 w' hp=> ?_;obtain⟨b,G1,H',rfl,hE,gU,lv,hc⟩:=hp;rw[z]at hE gU;obtain⟨G2,a1,a2,a3,_⟩:=UK G1 w' H' hE gU lv;obtain⟨c1,c2⟩:=hC b H' hc;refine⟨b,G2,H'++e,rfl,a1,a2,?_,H',hc,rfl⟩;have hm:H'.map (ar.aW (rn (List.range H.length) (H++e).length))=H':=(Yy λB u=>W B (Zb.1 c2 B u)).trans (List.map_id _);rw[hm,Zf H' H e c1]at a3;exact a3
def mK(P:dg)(k:Nat):I AV->(Bool->I ar->Prop)->I ar->Prop
 |[],C,h=>C true h
 |x::l,C,h=>YS P k x h λb d=>(d.length=h.length/\d.all (ar.aN h.length)=true)/\bif b then mK P k l C d else C false d
def XH{P:dg}{k:Nat}:∀(l:I AV){C e:Bool->I ar->Prop}{h:I ar},(∀b h1,C b h1->e b h1)->mK P k l C h->mK P k l e h
 |[],_,_,_,d,f=>d _ _ f
 |x::l,C,e,h,d,f=>YS.mono f λb h1 ⟨q,p⟩=>⟨q,by
  cases b with
  |true=>exact XH l d p
  |false=>exact d _ _ p⟩
def XG{P:dg}{k:Nat}:∀(l d:I AV){C:Bool->I ar->Prop}{h:I ar},mK P k (l++d) C h->mK P k l (λb h1=>bif b then mK P k d C h1 else C false h1) h
 |[],_,_,_,e=>e
 |x::l,d,C,h,e=>YS.mono e λb h1 ⟨p,f⟩=>⟨p,by
  cases b with
  |true=>exact XG l d f
  |false=>exact f⟩
def qx(h h1:I ar):Prop:=h1.length=h.length/\h1.all (ar.aN h.length)=true
def BW(P:dg)(gf:FuncId)(dC:I AV)(xs:I AV):Prop:=∀(k:Nat)(h:I ar)(C:Bool->I ar->Prop),h.all (ar.aN h.length)=true->k<h.length->mK P k xs C h->dq P gf (.cF k::dC) h λ_ d=>∃b,C b d
def XF(P:dg)(T:TypeId):I AV:=match jz P T with|some z=>z.cells.toList.map λu=>.d (.v u)|none=>[]
section
variable {P:dg} {r:U Nat} {N0:Nat} {Q:Exit->St->Prop} {ops:Array Oper} {o o1 o2 o3 o4 o5:Oper} {s:St} {K:St->Prop} {id:Nat}
def cq{rest:I Oper}(b:o.guard=none)(h:pL P o (tV P ops rest K) s):tV P ops (o::rest) K s:=by
 unfold tV jX;rw[b];exact h
def DS{n d:Nat}{t:I (Nat×AV)}{h h':I ar}{x:AV}{b:HD}(k:nu P o.op (ev ⟨n,t,h⟩) h=some (x,b))(p:o.dst=some d)(f:Nat.ble n d=false)(q:b.app h=h')(u:K ⟨n,(d,x)::t,h'⟩):pL P o K ⟨n,t,h⟩:=by
 refine .inr (.inr (.inl (XR k ?_)));show K ((St.wh ⟨n,t,h⟩ (b.app h)).put o.dst x);rw[p,q];have v:d<n:=Nat.lt_of_not_le λe=>by rw[WS e]at f;cases f
 rw[tc (s:=St.wh ⟨n,t,h⟩ h') v];exact u
def c8{n d:Nat}{t:I (Nat×AV)}{h:I ar}{x:AV}(b:nu P o.op (ev ⟨n,t,h⟩) h=some (x,.same))(e:o.dst=some d)(f:Nat.ble n d=false)(k:K ⟨n,(d,x)::t,h⟩):pL P o K ⟨n,t,h⟩:=DS b e f rfl k
def BR{n d:Nat}{t:I (Nat×AV)}{h:I ar}{x:AV}(e:o.dst=some d)(f:Nat.ble n d=false)(k:K ⟨n,(d,x)::t,h⟩)(b:nu P o.op (ev ⟨n,t,h⟩) h=some (x,.same):=by kernel_rfl):pL P o K ⟨n,t,h⟩:=c8 b e f k
def VS{n:Nat}{t:I (Nat×AV)}{h h':I ar}{x:AV}{b:HD}(d:nu P o.op (ev ⟨n,t,h⟩) h=some (x,b))(e:o.dst=none)(f:b.app h=h')(k:K ⟨n,t,h'⟩):pL P o K ⟨n,t,h⟩:=by
 refine .inr (.inr (.inl (XR d ?_)));show K ((St.wh ⟨n,t,h⟩ (b.app h)).put o.dst x);rw[e,f];exact k
def arb{h l:I ar}{i off:Nat}{cs:I AV}(hi:l[i]?=some (.cells cs)):yy (h++l) (.ptr (h.length+i) off)=some (cs,off):=by
 unfold yy;simp only;rw[ZC (Yh _ _),Nat.add_sub_cancel_left,hi]
def yn{ρ:Operand->AV}{h l:I ar}{T:TypeId}{p:Operand}{i off:Nat}{cs:I AV}{x:AV}(b:ρ p= .ptr (h.length+i) off)(hi:l[i]?=some (.cells cs))(d:CB P T cs off=some x):nu P (.load T p) ρ (h++l)=some (x,.same):=by
 unfold nu;simp only[b,arb hi,d,pX]
def XD{ρ:Operand->AV}{h l:I ar}{T:TypeId}{y:Operand}{v:AV}(b:ρ y=v)(d:v.kW=true):nu P (.box T y) ρ (h++l)=some (.ptr (h.length+l.length) 0,.push (.cells v.cells)):=by
 subst b;unfold nu;simp only[d,V1,Zj]
def T7{ρ:Operand->AV}{h l:I ar}{T:TypeId}(b:(jz P T).isSome=true):nu P (.alloc T) ρ (h++l)=some (.ptr (h.length+l.length) 0,.push (.cells (XF P T))):=by
 unfold nu XF;cases e:jz P T with
 |none=>rw[e]at b;cases b
 |some z=>simp only[e,Zj]
def Hy{h l:I ar}{B:ar}:(HD.push B).app (h++l)=h++(l++[B]):=by simp [HD.app]
def QT{ρ:Operand->AV}{h l:I ar}{T:TypeId}{p y:Operand}{i off k:Nat}{cs:I AV}{v:AV}(b:ρ p= .ptr (h.length+i) off)(hi:l[i]?=some (.cells cs))(e:ZA P T=some k)(f:ρ y=v)(q:(k==v.cells.length&&v.kW&&cG (off+v.cells.length) cs.length)=true){cM:I AV}(u:jM cs off v.cells=cM):
 nu P (.store T p y) ρ (h++l)=some (.d (.v undef),.set (h.length+i) (.cells cM)):=by
 subst f u;unfold nu;simp only[b,e];rw[ZC (Yh _ _),Nat.add_sub_cancel_left,hi];simp only[q,V1]
def R5{ρ:Operand->AV}{h:I ar}{T:TypeId}{a i:Operand}{xs:I (I D)}{q e k:Nat}{c:I D}(b:ρ a= .d (.sl xs))(hi:ρ i= .d (.v (.int .i64 (Int.ofNat q))))(f:fO P T=some (e,k))(p:xs[q]?=some c)(u:(c.length==k)=true):nu P (.indexAddr T a i) ρ h=some (.bK [c] 0 0,.same):=by
 unfold nu;simp only[b,hi];unfold Lz;simp only[f,AV.gN,AV.int?,zN,p,u,V1,pX]
def TT{h l:I ar}{B:ar}{i:Nat}:(HD.set (h.length+i) B).app (h++l)=h++l.set i B:=by
 simp only[HD.app];rw[List.set_append_right _ _ (Yh _ _),Nat.add_sub_cancel_left]
def LC{n d:Nat}{t:I (Nat×AV)}{h:I ar}{T:TypeId}{x y:Operand}{p:TypeId}{xs:I (I D)}{q:TypeId×Nat}(f:o.op= .binOp .eql T x y p)(k:(ev ⟨n,t,h⟩ x).gN=some xs)(u:ev ⟨n,t,h⟩ y= .d (.v (.slice none 0 0)))(z:fO P T=some q)(B:o.dst=some d)(e:Nat.ble n d=false)
 (h1:xs=[]->K ⟨n,(d,.d (.v (.bool true)))::t,h⟩) (F:K ⟨n,(d,.d (.v (.bool false)))::t,h⟩):pL P o K ⟨n,t,h⟩:=by
 refine .inr (.inl ?_);have H:d<n:=Nat.lt_of_not_le λb=>by rw[WS b]at e;cases e
 unfold HI;simp only[f,k,u,z,zG,B,tc (s:=⟨n,t,h⟩) H];exact⟨h1,F⟩
def Bn{n d k:Nat}{t:I (Nat×AV)}{h:I ar}{c:Call}{f:Operand}{x:AV}(q:o.op= .call c)(u:c.callee= .value f)(z:ev ⟨n,t,h⟩ f= .cF k)(B:c.args.toList.map (ev ⟨n,t,h⟩)=[x])(F:o.dst=some d)(p:Nat.ble n d=false)
 (H:YS P k x h λb h'=>K ⟨n,(d,.d (.v (.bool b)))::t,h'⟩):pL P o K ⟨n,t,h⟩:=by
 refine .inr (.inr (.inr (.inl ?_)));unfold L3;simp only[q,u,z,B];refine H.mono λb h' J=> ?_;have L:d<n:=Nat.lt_of_not_le λe=>by rw[WS e]at p;cases p
 rw[F,tc (s:=St.wh ⟨n,t,h⟩ h') L];exact J
def I2{n:Nat}{t:I (Nat×AV)}{h:I ar}{c:Call}{f:Operand}{g:FuncId}{dC:I AV}(b:o.op= .call c)(d:c.callee= .value f)(e:ev ⟨n,t,h⟩ f= .fn g dC)
 (k:dq P g (c.args.toList.map (ev ⟨n,t,h⟩)++dC) h λx h'=>K ((St.wh ⟨n,t,h⟩ h').put o.dst x)):pL P o K ⟨n,t,h⟩:=by
 refine .inr (.inr (.inl ?_));unfold sw dm;simp only[b,d,e];exact k
end
def asz{P:dg}{f:FuncId}{args:I AV}{H:I ar}{K:AV->I ar->Prop}(N:dq P f args H K)(e:I ar)(q:H.all (ar.aN H.length)=true)(u:args.all (AV.aN H.length)=true)
 (R:∀r h',K r h'->h'.length=H.length/\h'.all (ar.aN H.length)=true/\r.aN H.length=true):dq P f args (H++e) λr h'=>∃H',K r H'/\h'=H'++e:=by
 have v:∀i,i<H.length->rn (List.range H.length) (H++e).length i=i:=λi h=>A1 (List.range H.length) _ i i (by rw[List.getElem?_range h]);have z:∀y:AV,y.aN H.length=true->y.aW (rn (List.range H.length) (H++e).length)=y:=λy W=>(CL (τ:=id) v y W).trans (LD y);have F:∀B:ar,B.aN H.length=true->B.aW (rn (List.range H.length) (H++e).length)=B:=λB b=>(UP (τ:=id) v B b).trans (QJ B);have:=N.Zy (l:=List.range H.length) (h:=H++e) List.nodup_range (λj hj=>by have:=List.mem_range.1 hj;simp;omega) (λi j d=>by
  obtain⟨k,rfl⟩:i<H.length/\j=i:=by
   have p:=(Zk.1 d).1;rw[List.length_range]at p;rw[List.getElem?_range p]at d;exact⟨p,(Zs d).symm⟩
  rw[ZW k,Zd k,YV,F _ (Zb.1 q _ (List.getElem_mem k))]) (by simp) u q
 have ea:args.map (AV.aW (rn (List.range H.length) (H++e).length))=args:=(Yy λx hx=>z x (Zb.1 u x hx)).trans (List.map_id _);rw[ea]at this;refine this.mono λr' h' ⟨r,H',J,L,M⟩=> ?_;obtain⟨c1,c2,c3⟩:=R r H' J;have hm:H'.map (ar.aW (rn (List.range H.length) (H++e).length))=H':=(Yy λB b=>F B (Zb.1 c2 B b)).trans (List.map_id _);rw[hm,Zf H' H e c1]at M;rw[z r c3]at L;exact⟨H',by rw[L];exact J,M⟩
def arF{h:I ar}{p:AV}{K K':I AV->Nat->Prop}(d:∀cs off,K cs off->K' cs off)(b:tL h p K):tL h p K':=by
 unfold tL at b ⊢;split at b
 ·next n off=>
  split at b;{next cs e=>(try simp only[e]);exact d _ _ b};{exact b.elim}
 ·next f i off=>
  split at b;{next cs e=>(try simp only[e]);exact d _ _ b};{exact b.elim}
 ·exact b.elim
def aiD{P:dg}{T:TypeId}{h:I ar}{p:AV}{K K':AV->Prop}(f:∀x,K x->K' x)(q:qq P T h p K):qq P T h p K':=
 arF (λcs u b=>by
  split at b
  ·next k d e=>
   try simp only[d,e]
   exact cv.2 ⟨(cv.1 b).1,f _ (cv.1 b).2⟩
  ·next k d e=>
   try simp only[d,e]
   split at b;{next c v=>(try simp only[v]);exact f _ b};{exact b.elim}
  ·exact b.elim) q
def asD{P:dg}{fn:Func}{n:Nat}{t:I (Nat×AV)}{H l:I ar}{K:AV->I ar->Prop}(q:H.all (ar.aN H.length)=true)(v:oD P ⟨n,t,H++l⟩ fn.results.toList λd=>((lx d).bR H.length).aN H.length=true/\K ((lx d).bR H.length) H):tz P fn H.length K ⟨n,t,H++l⟩:=by
 have z:(((H++l).take H.length).map (ar.bR H.length))=H:=by rw[List.take_left];exact Vg q
 unfold tz;show oD P ⟨n,t,H++l⟩ fn.results.toList λd=>H.length<=(H++l).length/\_;simp only[z];have f:∀(b:I ResultVar){C C':I AV->Prop},(∀x,C x->C' x)->oD P ⟨n,t,H++l⟩ b C->oD P ⟨n,t,H++l⟩ b C':=by
  intro b
  induction b with
  |nil=>intro C C' e h;exact e _ h
  |cons x b u=>
   intro C C' e h;cases x with
   |tmp t=>exact u (λy k=>e _ k) h
   |cell p t=>exact aiD (λx h=>u (λy k=>e _ k) h) h
 exact f _ (λd ⟨B,F⟩=>⟨by simp,B,q,F⟩) v
def C9{n:Nat}{t:I (Nat×AV)}{H l:I ar}(live:I Nat)(b:H.all (ar.aN H.length)=true):(⟨n,t,H++l⟩:St).mask live H.length=⟨n,live.map λk=>(k,(bM t k).bR H.length),H⟩:=by
 unfold St.mask;rw[show((H++l).take H.length).map (ar.bR H.length)=H by rw[List.take_left];exact Vg b]
def Bz{n:Nat}{t:I (Nat×AV)}{H l:I ar}(live:I Nat)(b:H.all (ar.aN H.length)=true)(d:(live.all λk=>((bM t k).bR H.length).aN H.length)=true):(⟨n,t,H++l⟩:St).C2 live H.length:=
 ⟨by simp,d,by rw[show((H++l).take H.length).map (ar.bR H.length)=H by rw[List.take_left];exact Vg b];exact b⟩
def PM{n:Nat}{t:I (Nat×AV)}{H:I ar}(live:I Nat)(b:H.all (ar.aN H.length)=true):(⟨n,t,H⟩:St).mask live H.length=⟨n,live.map λk=>(k,(bM t k).bR H.length),H⟩:=by
 have:=C9 (n:=n) (t:=t) (l:=[]) live b
 rwa [ZV]at this
def My{n:Nat}{t:I (Nat×AV)}{H:I ar}(live:I Nat)(b:H.all (ar.aN H.length)=true)(d:(live.all λk=>((bM t k).bR H.length).aN H.length)=true):(⟨n,t,H⟩:St).C2 live H.length:=by
 have:=Bz (n:=n) (t:=t) (l:=[]) live b d
 rwa [ZV]at this
def Dq{k m:Nat}(h:k<m):((AV.cF k).bR m).aN m=true:=by simp [AV.bR,AV.aN,cG];omega
structure w8(s:St)(m:Nat)(s':St):Prop where
 cut:∀{G:Gh}{w:World}{a:Act},dx G w a s->dx (G.cut m) w a s'
def w8.S{s s':St}{live:I Nat}{m:Nat}(h:ly s live m=some s'):w8 s m s':=⟨λb=>b.ly h⟩
def al2{P:dg}{r:U Nat}{N0 m:Nat}{c:Code}{s:St}{R b:Exit->St->Prop}(f:N0<=m)(h:bQ P r N0 c R s)(k:∀e d,R e d->∃s',w8 d m s'/\b e s'):bQ P r N0 c b s:=by
 constructor
 intro G w a n p q;refine wpIn_mono (h.run G w a n p q) λe J L u=> ?_;obtain⟨G1,s1,v,_,z,B⟩:=u;obtain⟨s',F,H⟩:=k e s1 B;exact⟨G1.cut m,s',v.trans (rC _ _ _ _),f,F.cut z,H⟩
def GV(m:Nat)(n:Nat)(T:I (Nat×AV))(LP:ar)(next:I ar->Prop)(Q:Exit->St->Prop)(e:Exit)(s:St):Prop:=
 ∃b,b.length=m/\b.all (ar.aN (m+1))=true/\w8 s (m+1) ⟨s.n,[],b++[LP]⟩/\match e with
  | .normal=>next b
  | .ret=>Q .ret ⟨n,T,b++[.gone]⟩
  | .exit i=>Q (.exit i) ⟨n,T,b++[.gone]⟩
  |_=>False
def yq{P:dg}{N0 n m:Nat}{T:I (Nat×AV)}{H:I ar}{Q:Exit->St->Prop}{g:Operand}{p:Nat}{as f:Code}{gf:FuncId}{dC:I AV}(hg:ev ⟨n,T,H⟩ g= .fn gf dC){α:Type}{enc:α->AV}{xs:I α}(hI:BW P gf dC (xs.map enc))
 {ι:Type} (q:ι->I ar) (d:ι->I α->Prop) (u:ι) (h0:H=q u) (vf:d u xs) (J:∀i,(q i).length=m) (lE:∀i,(q i).all (ar.aN (m+1))=true) (hT:(dT n T).all (AV.aN (m+1))=true) (hp:Nat.ble n p=false)
 (round:∀i x l,d i (x::l)->∀(W:Nat)(a b:Code),bQ P (some W) (m+1) as (jk (λs1=>∃k e,k.length=m/\s1.h=k++ .lp .ready p a b (dT n T)::e/\
  bQ P (some W) (m+1) f (GV m n T (.lp .busy p a b (dT n T)) (λcZ=>∃i',cZ=q i'/\d i' l) Q) ⟨s1.n,s1.t,k++ .lp .busy p a b (dT n T)::e⟩) (λ_ _=>False)) ⟨n,(p,enc x)::nj 0 (dT n T),q i++[.lp .ready p a b (dT n T)]⟩)
 (done:∀i,d i []->Q .normal ⟨n,T,q i++[.gone]⟩):bQ P none N0 (.rangeFunc g #[p] as f) Q ⟨n,T,H⟩:=by
 subst h0;have L:(q u).length=m:=J u;have M:(dT n T).length=n:=by simp [dT]
 have uZ:∀v,(ar.lp v p as f (dT n T)).aN (m+1)=true:=λv=>hT;refine asQ hg ?_;show dq P gf (.cF (q u).length::dC) (q u++[.lp .ready p as f (dT n T)]) _;have Pr:∀(k:I ar)(B B':ar),k.length=m->(k++[B]).set m B'=k++[B']:=λk B B' h=>by
  rw[List.set_append_right _ _ (Nat.le_of_eq h),h,Nat.sub_self];rfl
 have fD:∀(k:I ar)(B:ar)(e:I ar),k.length=m->(k++B::e)[m]?=some B:=λk B e h=>by
  rw[ZC (Nat.le_of_eq h),h,Nat.sub_self];rfl
 have seq:∀(l:I α)(i:ι),d i l->mK P m (l.map enc) (λb h1=>∃(k:I ar)(v:LS),k.length=m/\h1=k++[.lp v p as f (dT n T)]/\Tp P N0 Q ⟨n,T,k++[.gone]⟩ v) (q i++[.lp .ready p as f (dT n T)]):=by
  intro l
  induction l with
  |nil=>intro i hi;exact⟨q i,.ready,J i,rfl,done i hi⟩
  |cons x l ih=>
   intro i hi;have N:(q i++[ar.lp .ready p as f (dT n T)]).length=m+1:=by simp [J i]
   refine apK ⟨p,as,f,dT n T,fD _ _ [] (J i),?_,λW=> ?_⟩;{rw[M];exact Nat.lt_of_not_le λhle=>by rw[WS hle]at hp;cases hp}
   ·rw[N,M];refine(round i x l hi W as f).mono λe s1 fR=> ?_;cases e with
    |normal=>
     obtain⟨k,e',F,k2,k3⟩:=fR;refine⟨p,as,f,dT n T,by rw[k2];exact fD _ _ _ F,?_⟩;have hse:s1.h.set m (.lp .busy p as f (dT n T))=k++ .lp .busy p as f (dT n T)::e':=by
      rw[k2,List.set_append_right _ _ (Nat.le_of_eq F),F,Nat.sub_self];rfl
     rw[hse];refine al2 (Zr _) k3 λe2 s2 hr=> ?_;obtain⟨zW,z,c5,c3,c4⟩:=hr;refine⟨_,c3,?_⟩;have gM:∀B,B.aN (m+1)=true->(zW++[B]).all (ar.aN (m+1))=true:=λB hB=>by
       rw[List.all_append,c5];simp [hB]
     have FV:(zW++[ar.lp .busy p as f (dT n T)])[m]?=some (.lp .busy p as f (dT n T)):=fD _ _ [] z;cases e2 with
     |normal=>
      obtain⟨i',rfl,eY⟩:=c4;refine⟨p,as,f,dT n T,FV,?_⟩;simp only[Pr _ _ _ z];exact⟨⟨by simp [J],gM _ (uZ _)⟩,ih i' eY⟩
     |ret=>
      refine⟨p,as,f,dT n T,FV,?_⟩;simp only[Pr _ _ _ z];exact⟨⟨by simp [z],gM _ (uZ _)⟩,zW,.done .ret,z,rfl,dk c4⟩
     |exit j=>
      refine⟨p,as,f,dT n T,FV,?_⟩;simp only[Pr _ _ _ z];exact⟨⟨by simp [z],gM _ (uZ _)⟩,zW,.done (.exit j),z,rfl,lW c4⟩
     |_=>exact c4.elim
    |_=>exact fR.elim
 have R:(q u++[ar.lp .ready p as f (dT n T)]).length=m+1:=by simp [L]
 refine(hI (q u).length _ _ (by rw[R,List.all_append,lE u];simp [uZ]) (by rw[R,L];exact Yu m) (by rw[L];exact seq xs u vf)).mono λ_ h1 hb=> ?_;obtain⟨b,k,v,F,rfl,k2⟩:=hb;refine⟨v,p,as,f,dT n T,?_,?_⟩
 ·show(k++[ar.lp v p as f (dT n T)])[(q u).length]?=_;rw[L];exact fD _ _ [] F
 ·show Tp P N0 Q ⟨n,T,(k++[ar.lp v p as f (dT n T)]).set (q u).length .gone⟩ v;rw[L,Pr _ _ _ F];exact k2
section
variable {m n:Nat} {T:I (Nat×AV)} {LP:ar} {next:I ar->Prop} {Q:Exit->St->Prop} {s:St}
def Bp(b:I ar)(d:b.length=m)(e:b.all (ar.aN (m+1))=true)(f:ly s [] (m+1)=some ⟨s.n,[],b++[LP]⟩)(k:next b):GV m n T LP next Q .normal s:=⟨b,d,e,.S f,k⟩
def Gw(b:I ar)(d:b.length=m)(e:b.all (ar.aN (m+1))=true)(f:ly s [] (m+1)=some ⟨s.n,[],b++[LP]⟩)(k:Q .ret ⟨n,T,b++[.gone]⟩):GV m n T LP next Q .ret s:=⟨b,d,e,.S f,k⟩
def amS{i:Nat}(b:I ar)(d:b.length=m)(e:b.all (ar.aN (m+1))=true)(f:ly s [] (m+1)=some ⟨s.n,[],b++[LP]⟩)(k:Q (.exit i) ⟨n,T,b++[.gone]⟩):GV m n T LP next Q (.exit i) s:=⟨b,d,e,.S f,k⟩
end
abbrev Lf:=St×I Nat×I (Nat×I (In×cB))
def xp(d:Nat->U (I Lf)):I Nat->U (I Lf)
 |[]=>some []
 |k::r=>match d k with
  |some a=>match xp d r with
   |some b=>some (a++b)
   |none=>none
  |none=>none
def BB(P:dg)(ops:Array Oper)(A C:I Nat)(as:I (Nat×cB)):Nat->Nat->I Nat->I (Nat×I (In×cB))->St->U (I Lf)
 |0,L,d,b,s=>match rW A L 0 with
  |[]=>some [(s,d,b)]
  |_=>none
 |f+1,L,d,b,s=>match rW A L 0 with
  |[]=>some [(s,d,b)]
  |e::r=>xp (λk=>match ops[k]? with
     |some o=>match oM P ops true o k as s with
      |some (s1,l)=>fN (L|||(1<<<k)) λL=>BB P ops A C as f L (d++List.replicate (s1.h.length-s.h.length) k) ((k,l)::b) s1
      |none=>none
     |none=>none) (match yZ C L (e::r)with
      |some k=>[k]
      |none=>e::r)
def XC{p:Nat->U (I Lf)}:∀{l:I Nat}{e:I Lf},xp p l=some e->∀k∈l,∃a,p k=some a/\∀x∈a,x∈e
 |[],_,_,k,d=>by cases d
 |j::r,e,h,k,d=>by
  unfold xp at h;split at h
  ·next a q=>
   split at h
   ·next b u=>
    cases h
    rcases ZY.1 d with rfl|d
    ·exact⟨a,q,λx f=>aa _ f⟩
    ·obtain⟨v,z,B⟩:=XC u k d;exact⟨v,z,λx f=>Zw _ (B x f)⟩
   ·cases h
  ·cases h
section
variable {P:dg} {ops:Array Oper} {as:I (Nat×cB)} {K:St->Prop} {s0:St}
def am9{o:Oper}{j:Nat}{dr:Bool}{s s1:St}{l:I (In×cB)}(h:oM P ops dr o j as s=some (s1,l))(b:o∈ops.toList)(f:oc (pZ ops.toList) s0 s):oc (pZ ops.toList) s0 s1:=by
 have z:∀{i a r l},wR i a r=some (s1,l)->∃m,r=some (s1,m):=fun{i a r l} h=>by
  unfold wR at h;split at h;{exact⟨_,h⟩}
  ·split at h
   ·cases h;exact⟨_,rfl⟩
   ·cases h
 have k:∀{m r l},tw m r=some (s1,l)->∃m,r=some (s1,m):=fun{m r l} h=>by
  unfold tw at h;split at h;{cases h;exact⟨_,rfl⟩};{cases h}
 have p:oc (pZ ops.toList) s0 (Fm o s):=f.put s.h (.d (.v undef)) (Ke b);have st:∀l,pk P dr o j as s=some (s1,l)->oc (pZ ops.toList) s0 s1:=λl h=>by
  unfold pk at h;cases u:dr&&BH (jN as (3*j+1))&& !DJ o (jN as (3*j+1))with
  |true=>rw[u]at h;cases h
  |false=>
   rw[u]at h;simp only[UQ]at h;split at h;{split at h<;>(obtain⟨m,e⟩:=z h;cases e;exact f.put _ _ (Ke b))};{cases h}
 unfold oM at h;split at h;{exact st _ h}
 ·split at h
  ·obtain⟨m,e⟩:=k h;revert e;generalize ((_:Bool)==_)=q;intro e;cases q with
   |true=>exact st _ e
   |false=>cases e;exact p
  ·obtain⟨m,e⟩:=k h;cases e;exact p
  ·cases h
def XB(hK:sB K)(hM:qv (Region.before ops) ops=true)(t0:I (Nat×AV)):
 ∀(f L:Nat)(listed:Array Bool)(al:I Nat)(B:I (Nat×I (In×cB)))(s:St)(H:I Lf),LM ops L listed->Dn ops listed->BB P ops (qA ops 0 ops.size) (lI ops false (Region.before ops) 0 ops.size) as f L al B s=some H->
  (∃x,x∈H)/\(∀x∈H,(∀p∈B,p∈x.2.2)/\((∃q,s.t=q++t0)->∃q,x.1.t=q++t0)/\(oc (pZ ops.toList) s0 s->oc (pZ ops.toList) s0 x.1))/\((∀x∈H,(∀p∈x.2.2,hO P p.2)/\K x.1)->l8 false P ops K f listed s)
 |0,L,listed,al,B,s,H,M,hD,h=>by
  unfold BB at h;split at h
  ·next R=>
   cases h
   refine⟨⟨_,Zl⟩,λx d=> ?_,λv=>⟨?_,(v _ Zl).2⟩⟩;{rw[ZZ]at d;subst d;exact⟨λ_ h=>h,λh=>h,λh=>h⟩};{rw[List.eq_nil_iff_forall_not_mem];intro i hi;have:=(M.ready i).1 hi;rw[R]at this;cases this}
  ·cases h
 |f+1,L,listed,al,B,s,H,M,hD,h=>by
  have mem:∀{k:Nat}{o:Oper},ops[k]?=some o->o∈ops.toList:=λF=>Array.mem_toList_iff.2 (Array.mem_of_getElem? F);unfold BB at h;split at h
  ·next R=>
   cases h
   refine⟨⟨_,Zl⟩,λx d=> ?_,λv=>⟨λ_=>(v _ Zl).2,λi hi=> ?_⟩⟩;{rw[ZZ]at d;subst d;exact⟨λ_ h=>h,λh=>h,λh=>h⟩};{have:=(M.ready i).1 hi;rw[R]at this;cases this}
  ·next k0 r R=>
   generalize hgo:(λk:Nat=>(match ops[k]? with
    |some o=>match oM P ops true o k as s with
     |some (s1,l)=>fN (L|||(1<<<k)) λL=>BB P ops (qA ops 0 ops.size) (lI ops false (Region.before ops) 0 ops.size) as f L (al++List.replicate (s1.h.length-s.h.length) k) ((k,l)::B) s1
     |none=>none
    |none=>none:U (I Lf)))=go at h
   have N:∀k a,k∈Region.ready .any ops listed->go k=some a->∃o s1 l,ops[k]?=some o/\oM P ops true o k as s=some (s1,l)/\(∃x,x∈a)/\(∀x∈a,(∀p∈(k,l)::B,p∈x.2.2)/\((∃q,s.t=q++t0)->∃q,x.1.t=q++t0)/\(oc (pZ ops.toList) s0 s->oc (pZ ops.toList) s0 x.1))/\
       ((∀x∈a,(∀p∈x.2.2,hO P p.2)/\K x.1)->∃y u,nt false P ops o s y u/\l8 false P ops K f (listed.setIfInBounds k true) ((s.wh u).put o.dst y)):=λk a vD W=>by
    rw[<-hgo]at W;simp only at W;split at W
    ·next o F=>
     split at W
     ·next s1 l hg=>
      rw[AX]at W;obtain⟨u,z,h3⟩:=XB hK hM t0 f _ _ _ _ s1 a (M.set (ZT.1 F).1) (hD.set vD) W;refine⟨o,s1,l,F,hg,u,λx d=>⟨(z x d).1,fun⟨q,hp⟩=> ?_,λhB=>(z x d).2.2 (am9 hg (mem F) hB)⟩,λv=> ?_⟩;{obtain⟨⟨p1,J⟩,_⟩:=RM hg;exact(z x d).2.1 ⟨p1++q,by rw[J,hp,ZP]⟩}
      ·obtain⟨x,d⟩:=u;have hl:hO P l:=(v x d).1 (k,l) ((z x d).1 _ Zl);have h4:=Uz (K:=(·=s1)) hg hl rfl;have h5:=h3 v;have:∃y u,nt false P ops o s y u/\(s.wh u).put o.dst y=s1:=by
        rcases LF h4 with⟨g,hd⟩|⟨g,hd⟩
        ·obtain⟨y,u,z,h3⟩:=Ml hd;exact⟨y,u,.inl ⟨g,z⟩,h3⟩
        ·exact⟨_,s.h,.inr ⟨g,rfl,rfl⟩,hd⟩
       obtain⟨y,hh,q1,rfl⟩:=this;exact⟨y,hh,q1,h5⟩
     ·cases W
    ·cases W
   cases hf:yZ (lI ops false (Region.before ops) 0 ops.size) L (k0::r)with
   |some k=>
    rw[hf]at h;obtain⟨kE,AG⟩:=HU hf;have vD:k∈Region.ready .any ops listed:=(M.ready k).2 (by rw[R];exact kE);unfold xp at h;split at h
    ·next a J=>
     unfold xp at h;simp only[ZV]at h;cases h
     obtain⟨o,s1,l,F,hg,u,z,h3⟩:=N k _ vD J;refine⟨u,λx d=>⟨λp hp=>(z x d).1 p (Zg _ hp),(z x d).2⟩,λv=> ?_⟩;obtain⟨y,hh,q1,q2⟩:=h3 v;refine Mg hK hM F f listed s hD (λj oj hj cX sc uy=> ?_) vD q1 q2;have FJ:=(ZT.1 hj).1;have qG:=(ZT.1 F).1;have Qn:Nat.testBit L j=false:=by
      rw[M.b];have iw:j<listed.size:=by rw[M.sz];exact FJ
      simpa [iw]using sc
     have oO:Nat.testBit (xd ops false (Region.before ops) k) j=false:=by
      rw[<-VC];intro hc;have h5:(lI ops false (Region.before ops) 0 ops.size).getD k 0=xd ops false (Region.before ops) k:=by
        rw[List.getD_eq_getElem?_getD,RJ,ZL qG,ZJ];rfl
      rw[h5]at AG;have:=congrArg (λn=>Nat.testBit n j) AG;simp only[Nat.testBit_or,hc,Qn]at this;cases this
     unfold xd at oO;rw[EX]at oO;unfold T3 at oO;rw[uy,F,hj]at oO;simp [FJ,cX]at oO;exact oO
    ·cases h
   |none=>
    rw[hf]at h;have adz:=XC h;have Bv:k0∈Region.ready .any ops listed:=(M.ready k0).2 (by rw[R];simp);have back:∀(l:I Nat)(H:I Lf),xp go l=some H->∀x∈H,∃k∈l,∃a,go k=some a/\x∈a:=by
      intro l
      induction l with
      |nil=>intro H h x d;cases h;cases d
      |cons j r ih=>
       intro H h x d;unfold xp at h;split at h
       ·next a J=>
        split at h
        ·next b e2=>
         cases h
         rcases ZE.1 d with d|d
         ·exact⟨j,Zl,a,J,d⟩
         ·obtain⟨k,v,a',u,z⟩:=ih b e2 x d;exact⟨k,Zg _ v,a',u,z⟩
        ·cases h
       ·cases h
    refine⟨?_,λx d=> ?_,λv=>⟨λe=>(by rw[e]at Bv;cases Bv),λi hi oi L7=> ?_⟩⟩;{obtain⟨a,J,u⟩:=adz k0 Zl;obtain⟨o,s1,l,F,hg,⟨x,d⟩,_⟩:=N k0 a Bv J;exact⟨x,u x d⟩};{obtain⟨k,v,a,J,YU⟩:=back _ _ h x d;obtain⟨o,s1,l,F,hg,u,z,h3⟩:=N k a ((M.ready k).2 (by rw[R];exact v)) J;exact⟨λp hp=>(z x YU).1 p (Zg _ hp),(z x YU).2⟩}
    ·have eY:i∈k0::r:=by rw[<-R];exact(M.ready i).1 hi
     obtain⟨a,J,u⟩:=adz i eY;obtain⟨o,s1,l,F,hg,_,_,h3⟩:=N i a hi J;rw[F]at L7;cases L7;exact h3 λx d=>v x (u x d)
end
def Qi(k:Nat):I Nat->Nat
 |[]=>0
 |j::l=>bif cG (j+1) k then Qi k l+1 else Qi k l
def Va(k:Nat):I Nat->Nat
 |[]=>0
 |j::l=>bif j==k then Va k l+1 else Va k l
def V4(h0:Nat)(b:I Nat):I Nat->I Nat->I Nat
 |_,[]=>[]
 |pre,k::l=>fN (h0+Qi k b+Va k pre) λq=>q::V4 h0 b (k::pre) l
def X8(q:Nat):I Nat->Nat->Nat
 |[],i=>i
 |x::l,i=>bif x==q then i else X8 q l (i+1)
def Wg(h0:Nat)(p:I Nat):Nat->Nat->I Nat
 |0,_=>[]
 |n+1,q=>fN (X8 q p h0) λi=>i::Wg h0 p n (q+1)
def Iq(a:Nat×I (In×cB)):I (Nat×I (In×cB))->I (Nat×I (In×cB))
 |[]=>[a]
 |b::l=>bif cG a.1 b.1 then a::b::l else b::Iq a l
def F6:I (Nat×I (In×cB))->I (Nat×I (In×cB))
 |[]=>[]
 |a::l=>Iq a (F6 l)
def LA:I (Nat×I (In×cB))->I (In×cB)
 |[]=>[]
 |a::l=>a.2++LA l
def uX(p q:I Nat)(h0:Nat)(h:I ar):Nat->Nat->I ar
 |0,_=>[]
 |n+1,i=>(match h[ir h0 q i]? with|some B=>B.aW (ir h0 p)|none=>.gone)::uX p q h0 h n (i+1)
def CF(h0:Nat)(p:I Nat):Bool:=(List.range p.length).all λi=>p.getD i 0==h0+i
def arl{h0:Nat}{p:I Nat}(h:CF h0 p=true):ir h0 p=id:=by
 funext i
 unfold ir;cases e:cG h0 i with
 |false=>rfl
 |true=>
  rw[dS]at e;simp only[V1,id];by_cases b:i-h0<p.length;{unfold CF at h;rw[Zb]at h;have:=h (i-h0) (List.mem_range.2 b);rw[Ve,List.getD_eq_getElem?_getD,Zd b]at this;rw[List.getD_eq_getElem?_getD,Zd b];simp only[Option.getD_some]at this ⊢;omega};{rw[List.getD_eq_getElem?_getD,Yz (by omega)];rfl}
def Yr(keep:I Nat)(s:St)(x:Lf)(p q:I Nat):U (I (Nat×AV)×I ar×I (In×cB)):=bif (x.1.t.take (x.1.t.length-s.t.length)).all (λp=>keep.any (·==p.1)||Y0 (bM s.t p.1))&&(List.range x.1.h.length).all (λi=>cG (ir s.h.length p i+1) x.1.h.length&&cG (ir s.h.length q i+1) x.1.h.length&&ir s.h.length q (ir s.h.length p i)==i&&ir s.h.length p (ir s.h.length q i)==i)then some (keep.map λk=>(k,(bM x.1.t k).aW (ir s.h.length p)),bif CF s.h.length p then x.1.h else uX p q s.h.length x.1.h x.1.h.length 0,LA (F6 x.2.2))else none
def MY(keep:I Nat)(s:St)(x:Lf):U (I (Nat×AV)×I ar×I (In×cB)):=fL (V4 s.h.length x.2.1 [] x.2.1) λp=>fL (Wg s.h.length p p.length s.h.length) λq=>Yr keep s x p q
def JD(keep:I Nat)(s:St):I Lf->U (I (I (Nat×AV)×I ar×I (In×cB)))
 |[]=>some []
 |x::l=>match MY keep s x with
  |some a=>match JD keep s l with
   |some b=>some (a::b)
   |none=>none
  |none=>none
def A0(P:dg)(ol:I Oper)(as:I (Nat×cB))(keep:I Nat)(s:St):U (I (I (Nat×AV)×I ar×I (In×cB))):=
 bif qv (Region.before ol.toArray) ol.toArray then fL (qA ol.toArray 0 ol.toArray.size) λA=>fL (lI ol.toArray false (Region.before ol.toArray) 0 ol.toArray.size) λC=>
  match BB P ol.toArray A C as ol.toArray.size 0 [] [] s with
  |some b=>JD keep s b
  |none=>none
 else none
def R2{keep:I Nat}{s:St}:∀{e:I Lf}{r},JD keep s e=some r->∀x∈e,∃a∈r,MY keep s x=some a
 |[],_,_,x,d=>by cases d
 |y::l,r,h,x,d=>by
  unfold JD at h;split at h
  ·next a f=>
   split at h
   ·next b k=>
    cases h
    rcases ZY.1 d with rfl|d
    ·exact⟨a,Zl,f⟩
    ·obtain⟨p,q,u⟩:=R2 k x d;exact⟨p,Zg _ q,u⟩
   ·cases h
  ·cases h
def X7{a x:Nat×I (In×cB)}:∀{l:I (Nat×I (In×cB))},x∈Iq a l↔x=a\/x∈l
 |[]=>by simp [Iq]
 |b::l=>by
  unfold Iq;cases cG a.1 b.1 with
  |true=>simp
  |false=>
   simp only[UQ,ZY,X7 (l:=l)];constructor
   ·rintro(h|h|h)
    ·exact .inr (.inl h)
    ·exact .inl h
    ·exact .inr (.inr h)
   ·rintro(h|h|h)
    ·exact .inr (.inl h)
    ·exact .inl h
    ·exact .inr (.inr h)
def X4{x:Nat×I (In×cB)}:∀{l:I (Nat×I (In×cB))},x∈F6 l↔x∈l
 |[]=>by simp [F6]
 |a::l=>by rw[F6,X7,X4 (l:=l),ZY]
def Y1{P:dg}:∀{l:I (Nat×I (In×cB))},hO P (LA l)->∀p∈l,hO P p.2
 |[],_,p,b=>by cases b
 |a::l,h,p,b=>by
  unfold LA at h;rcases ZY.1 b with rfl|b
  ·exact λq d=>h q (aa _ d)
  ·exact Y1 (λq d=>h q (Zw _ d)) p b
def X3{p q:I Nat}{h0:Nat}{h:I ar}:∀(n i j:Nat),(uX p q h0 h n i)[j]?=if j<n then some (match h[ir h0 q (i+j)]? with|some B=>B.aW (ir h0 p)|none=>.gone)else none
 |0,i,j=>by simp [uX]
 |n+1,i,0=>by simp [uX]
 |n+1,i,j+1=>by
  rw[uX,Yt,X3 n (i+1) j];simp only[Nat.add_lt_add_iff_right];rw[show i+1+j=i+(j+1) by omega]
def XI{p q:I Nat}{h0:Nat}{h:I ar}:∀(n i:Nat),(uX p q h0 h n i).length=n
 |0,_=>rfl
 |n+1,i=>by rw[uX,Zi,XI n]
def X2{P:dg}{ops:Array Oper}{N0:Nat}{keep:I Nat}{s:St}{x:Lf}{Δ:I (Nat×AV)}{h':I ar}{ps:I (In×cB)}(h:MY keep s x=some (Δ,h',ps))(hN:N0<=s.h.length)(rY:∀i,(bM s.t i).aN s.h.length=true)
 (hn:x.1.n=s.n) (hp:∃d,x.1.t=d++s.t) (cA:hO P ps):j5 N0 x.1 ⟨s.n,Δ++s.t,h'⟩/\∀p∈x.2.2,hO P p.2:=by
 unfold MY at h;rw[xS,xS]at h;generalize V4 s.h.length x.2.1 [] x.2.1=p at h;generalize Wg s.h.length p p.length s.h.length=q at h;unfold Yr at h;obtain⟨v,he⟩:=fe h;cases he
 rw[Zo]at v;obtain⟨v,u⟩:=v;simp only[Zb,List.mem_range,Zo,Ve,dS]at u;have L:∀i,i<s.h.length->ir s.h.length p i=i:=λi b=>by
   unfold ir;have:cG s.h.length i=false:=by rw[<-VC,dS];omega
   rw[this];rfl
 refine⟨?_,λy F=>Y1 cA y (X4.2 F)⟩;refine j5.aW (ir s.h.length p) (ir s.h.length q) hn (by
  cases CF s.h.length p with
  |true=>rfl
  |false=>exact XI _ _) (λi b=>(u i b).1.1.1) (λi b=>(u i b).1.1.2) (λi b=>(u i b).1.2) (λi b=>(u i b).2) (λi b=>L i (by omega)) (λi _=> ?_) λi b=> ?_
 ·obtain⟨d,M⟩:=hp;have N:∀(f:Nat->AV),(keep.map λk=>(k,f k)).map (·.1)=keep:=λf=>by rw[List.map_map];exact List.map_id _
  show bM ((keep.map λk=>(k,(bM x.1.t k).aW (ir s.h.length p)))++s.t) i=_\/_;rcases Eu (keep.map λk=>(k,(bM x.1.t k).aW (ir s.h.length p))) s.t i with⟨B,H⟩|⟨B,H⟩
  ·rw[N]at B;rw[H,sK (λk=>(bM x.1.t k).aW (ir s.h.length p)),ZL B];exact .inl rfl
  ·rw[N]at B;show _\/bM ((keep.map λk=>(k,(bM x.1.t k).aW (ir s.h.length p)))++s.t) i=_;rw[H];rw[M,Zj,Nat.add_sub_cancel,List.take_left']at v
   ·rw[M];rcases Eu d s.t i with⟨R,W⟩|⟨R,W⟩
    ·right
     obtain⟨y,F,rfl⟩:=W1.1 R;have:=Zb.1 v y F;rw[af]at this;rcases this with this|this
     ·exfalso;obtain⟨k,hk,e⟩:=List.any_eq_true.1 this;rw[Ve]at e;exact B (e▸hk)
     ·generalize bM s.t y.1=z at this;cases z<;>first|rfl|cases this
    ·left
     rw[W,CL (τ:=id) L _ (rY i),LD]
   ·rfl
 ·show(bif CF s.h.length p then x.1.h else uX p q s.h.length x.1.h x.1.h.length 0)[ir s.h.length p i]?=_;cases J:CF s.h.length p with
  |true=>rw[arl J];simp only[V1,id];rw[Zd b,YV,QJ]
  |false=>
  simp only[UQ];rw[X3,ZL (Nat.lt_of_succ_le (u i b).1.1.1),ZJ,(u i b).1.2,Zd b];rfl
def XP{P:dg}{ol:I Oper}{as:I (Nat×cB)}{keep:I Nat}{s:St}{Δ:I (Nat×AV)}{h':I ar}{ps:I (In×cB)}{m N0:Nat}{K:St->Prop}(h:A0 P ol as keep s=some (List.replicate m (Δ,h',ps)))(p:hO P ps)(q:N0<=s.h.length)(u:∀i,(bM s.t i).aN s.h.length=true)(e:HE N0 K)(v:K ⟨s.n,Δ++s.t,h'⟩):
 l8 false P ol.toArray K ol.toArray.size (Array.replicate ol.toArray.size false) s:=by
 unfold A0 at h;obtain⟨z,h⟩:=lF h;rw[xS,xS]at h;split at h
 ·next B F=>
  obtain⟨_,f,H⟩:=XB (s0:=s) e.c z s.t _ 0 (Array.replicate ol.toArray.size false) _ _ s B ⟨by simp,λi=>by
   rw[Nat.zero_testBit,Array.getD_eq_getD_getElem?,Array.getElem?_replicate];split<;>rfl⟩ (λj o N b=>by
   exfalso;rw[Array.getD_eq_getD_getElem?,Array.getElem?_replicate]at b;split at b<;>simp at b) F
  refine H λx d=> ?_;obtain⟨a,k,J⟩:=R2 h x d;rw[List.mem_replicate]at k;obtain⟨_,rfl⟩:=k;obtain⟨L,M⟩:=X2 (P:=P) (ops:=ol.toArray) J q u ((f x d).2.2 (oc.refl _ _)).n ((f x d).2.1 ⟨[],rfl⟩) p;exact⟨M,e _ _ L v⟩
 ·cases h
section
variable {P:dg} {r:U Nat} {N0 id n:Nat} {ol:I Oper} {y:Code} {t:I (Nat×AV)} {h:I ar} {Q Q':Exit->St->Prop}
def rtE(m:Nat)(b:P.follows .mixedOrders=true)(Δ:I (Nat×AV))(h':I ar)(e:∃aB:I (Nat×Ob P),A0 P ol (jV aB) (Δ.map (·.1)) ⟨n,t,h⟩=some (List.replicate m (Δ,h',kf aB)))(k:bQ P r N0 y Q' ⟨n,Δ++t,h'⟩):bQ P r N0 (.region id ol.toArray true) (jk (λs=>bQ P r N0 y Q' s) Q) ⟨n,t,h⟩:=
 let ⟨aB,e⟩:=e
 U0 b λd f=>XP e (qO aB) d f (RR _) ⟨_,j5.refl _ _,k⟩
def rt(m:Nat)(b:P.follows .mixedOrders=true)(aB:I (Nat×Ob P))(Δ:I (Nat×AV))(h':I ar)(e:A0 P ol (jV aB) (Δ.map (·.1)) ⟨n,t,h⟩=some (List.replicate m (Δ,h',kf aB)))(k:bQ P r N0 y Q' ⟨n,Δ++t,h'⟩):bQ P r N0 (.region id ol.toArray true) (jk (λs=>bQ P r N0 y Q' s) Q) ⟨n,t,h⟩:=rtE m b Δ h' ⟨aB,e⟩ k
def rte(m:Nat)(b:P.follows .mixedOrders=true)(aB:I (Nat×Ob P))(Δ:I (Nat×AV))(h':I ar)(e:A0 P ol (jV aB) (Δ.map (·.1)) ⟨n,t,h⟩=some (List.replicate m (Δ,h',kf aB)))(k:Q .normal ⟨n,Δ++t,h'⟩):bQ P r N0 (.region id ol.toArray true) Q ⟨n,t,h⟩:=
 U0 b λd f=>XP e (qO aB) d f (RR _) ⟨_,j5.refl _ _,k⟩
end
def P6{f:AV->AV}(b:∀d,f (.d d)= .d d)(xs:I (I D)):(cg xs).map (·.map f)=cg xs:=by
 unfold cg;rw[List.map_map];refine Yy λc _=> ?_;simp only[Function.comp,List.map_map];exact Yy λd _=>b d
def Jv(xs:I (I D)):(cg xs).length=xs.length:=by unfold cg;rw[Zq]
def QR{xs:I (I D)}{i:Nat}{c:I D}(h:xs[i]?=some c):(cg xs)[i]?=some (c.map .d):=by unfold cg;rw[Zm,h];rfl
def aoi(xs:I (I D))(i:Nat)(c:I D):cg (xs.set i c)=(cg xs).set i (c.map .d):=by unfold cg;rw[List.map_set]
def aom(xs ys:I (I D)):cg (xs++ys)=cg xs++cg ys:=by unfold cg;rw[ZD]
def bq{cs:I AV}{l:I ar}(h:VD l):VD (.cells cs::l):=⟨trivial,h⟩
def aqz{e k n:Nat}{l:I ar}(h:VD l):VD (.front e k n::l):=⟨trivial,h⟩
def fa{b:I (so×D)}{l:I ar}(h:VD l):VD (.map b::l):=⟨trivial,h⟩
def asJ{l:I ar}(h:VD l):VD (.gone::l):=⟨trivial,h⟩
def ar.tf(m:Nat):ar->ar
 | .vec e k cs=>.vec e k cs
 |B=>B.bR m
def ar.CY:ar->ar
 | .vec e k cs=>.vec e k cs
 |B=>B.rX
def ar.B9(m:Nat):ar->Prop
 | .vec _ _ cs=>cs.map (·.map (AV.bR m))=cs/\cs.all (·.all (AV.aN m))=true
 |_=>True
def jy(m:Nat):I ar->Prop
 |[]=>True
 |B::l=>B.B9 m/\jy m l
section
variable {m:Nat} {l:I ar}
def jQ:jy m []:=trivial
def fE{B:ar}(b:B.B9 m)(h:jy m l):jy m (B::l):=⟨b,h⟩
def X1(xs:I (I D)):(cg xs).all (·.all (AV.aN m))=true:=by simp [cg,AV.aN]
def l6{e k:Nat}{xs:I (I D)}(h:jy m l):jy m (.vec e k (cg xs)::l):=⟨⟨P6 (λd=>by simp [AV.bR]) _,X1 _⟩,h⟩
def jy.mem:∀{l:I ar},jy m l->∀B∈l,B.B9 m
 |[],_,B,b=>by cases b
 |_::_,h,B,b=>by
  rcases ZY.1 b with rfl|b
  ·exact h.1
  ·exact jy.mem h.2 B b
end
def anU{m:Nat}{B:ar}(h:B.B9 m):B.tf m=B.bR m:=by
 cases B with
 |vec e k cs=>simp only[ar.tf,ar.bR];rw[h.1]
 |_=>rfl
def asZ{m:Nat}{B:ar}(h:B.B9 m)(b:(B.tf m).vC m=true):(B.bR m).aN m=true:=by
 cases B with
 |vec e k cs=>simp only[ar.bR,ar.aN];rw[h.1];exact h.2
 |_=>exact b
def Yn{G:Gh}{w:Zz}{h:I ar}(hi:cu G w h):cu G w (h.map ar.CY):=by
 have f:∀n,ct (h.map ar.CY) G n=ct h G n:=λn=>by
  unfold ct;rw[Zm];cases h[n]? with
  |none=>rfl
  |some B=>cases B<;>rfl
 have p:=QA hi;refine⟨by rw[Zq];exact hi.len,hi.z,hi.S,λn B b=> ?_,λm n x q u=>hi.inj m n x (by rw[<-f];exact q) (by rw[<-f];exact u),hi.gl⟩;rw[Zm]at b;cases d:h[n]? with
 |none=>rw[d]at b;cases b
 |some B'=>
  rw[d]at b;cases b
  have v:=p.dJ n B'.rX (by rw[Zm,d];rfl);cases B' with
  |vec e k cs=>exact hi.dJ n _ d
  |_=>exact v
def vP(kn:I (Nat×Nat))(n:Nat):Nat->I AV->I AV
 |_,[]=>[]
 |i,x::l=>(bif kn.any (λp=>p.1==n&&p.2==i)then x else x.nrm)::vP kn n (i+1) l
def ar.afj(kn:I (Nat×Nat))(n:Nat):ar->ar
 | .cells cs=>.cells (vP kn n 0 cs)
 |B=>B.CY
def qV(kn:I (Nat×Nat)):Nat->I ar->I ar
 |_,[]=>[]
 |n,B::l=>B.afj kn n::qV kn (n+1) l
def X0(kn:I (Nat×Nat))(n:Nat):∀(j:Nat)(cs:I AV),(vP kn n j cs).length=cs.length
 |_,[]=>rfl
 |j,x::l=>by rw[vP,Zi,X0 kn n (j+1) l,Zi]
def Wz(kn:I (Nat×Nat))(n:Nat):∀(j:Nat)(cs:I AV)(i:Nat)(b:AV),(vP kn n j cs)[i]?=some b->∃c,cs[i]?=some c/\(b=c\/b=c.nrm)
 |_,[],i,b,h=>by simp [vP]at h
 |j,x::l,0,b,h=>by
  simp only[vP,List.getElem?_cons_zero,W2]at h;refine⟨x,rfl,?_⟩;cases d:kn.any (λp=>p.1==n&&p.2==j)with
  |true=>rw[d]at h;exact .inl h.symm
  |false=>rw[d]at h;exact .inr h.symm
 |j,x::l,i+1,b,h=>by
  simp only[vP,Yt]at h;obtain⟨c,e,f⟩:=Wz kn n (j+1) l i b h;exact⟨c,by simpa using e,f⟩
def QN(kn:I (Nat×Nat)):∀(j:Nat)(h:I ar)(i:Nat)(B':ar),(qV kn j h)[i]?=some B'->∃B,h[i]?=some B/\B'=B.afj kn (j+i)
 |_,[],i,B',h=>by simp [qV]at h
 |j,B::l,0,B',h=>by simp only[qV,List.getElem?_cons_zero,W2]at h;exact⟨B,rfl,h.symm⟩
 |j,B::l,i+1,B',h=>by
  simp only[qV,Yt]at h;obtain⟨C,b,d⟩:=QN kn (j+1) l i B' h;exact⟨C,by simpa using b,by rw[d];congr 1;omega⟩
def Wy(kn:I (Nat×Nat)):∀(j:Nat)(h:I ar),(qV kn j h).length=h.length
 |_,[]=>rfl
 |j,B::l=>by rw[qV,Zi,Wy kn (j+1) l,Zi]
def apE{G:Gh}{w:Zz}{h:I ar}(kn:I (Nat×Nat))(hi:cu G w h):cu G w (qV kn 0 h):=by
 have p:∀n x,ct (qV kn 0 h) G n=some x->ct h G n=some x:=λn x J=>by
  obtain⟨d,e,b⟩:=n9 J;obtain⟨B,f,rfl⟩:=QN kn 0 h n d e;rw[eJ f,<-b];cases B<;>rfl
 have f:=Yn hi;refine⟨by rw[Wy];exact hi.len,hi.z,hi.S,λn d e=> ?_,λm n x L M=>hi.inj m n x (p m x L) (p n x M),hi.gl⟩;obtain⟨B,b,rfl⟩:=QN kn 0 h n d e;cases B with
 |cells cs=>
  obtain⟨N,R,W,T,c3,c4,q⟩:=hi.dJ n _ b;refine⟨N,R,W,T,c3,by rw[X0];exact c4,λi u c v hc=> ?_⟩;obtain⟨F,H,k|k⟩:=Wz _ _ _ _ _ _ hc;{rw[k];exact q i u F v H};{rw[k];exact(q i u F v H).nrm}
 |_=>exact f.dJ n _ (by rw[Zm,b];rfl)
def mX(s:St)(live:I Nat)(m:Nat)(ks:I Nat)(kn:I (Nat×Nat)):U St:=bif cG m s.h.length&&(live.all λk=>((bM s.t k).bR m).aN m)&&(((s.h.take m).map (ar.tf m)).all (ar.vC m))then some ⟨s.n,live.map λk=>(k,bif ks.any (·==k)then(bM s.t k).bR m else(bM s.t k).fin m),qV kn 0 ((s.h.take m).map (ar.tf m))⟩else none
def Wx{h:I ar}{m:Nat}(b:jy m (h.take m)):(h.take m).map (ar.tf m)=(h.take m).map (ar.bR m):=Yy λB d=>anU (b.mem B d)
def ZO{h:I ar}{m:Nat}(f:jy m (h.take m))(b:((h.take m).map (ar.tf m)).all (ar.vC m)=true):((h.take m).map (ar.bR m)).all (ar.aN m)=true:=by
 rw[Zb]at b ⊢;intro B k;obtain⟨d,e,rfl⟩:=W1.1 k;exact asZ (f.mem d e) (b _ (W1.2 ⟨d,e,rfl⟩))
section
variable {P:dg} {r:U Nat} {n N0:Nat} {G:Gh} {w:Zz} {a:Act} {s s':St} {Q Q':Exit->St->Prop} {live:I Nat} {m:Nat} {ks:I Nat} {kn:I (Nat×Nat)}
def dx.mX(d:dx G w a s)(f:jy m (s.h.take m))(h:mX s live m ks kn=some s'):dx (G.cut m) w a s':=by
 unfold Go.Proofs.YtnnapanbbbcalaaGreatDoor.mX at h;obtain⟨b,rfl⟩:=fe h;rw[Zo,Zo]at b;have p:=d.mask (live:=live) ⟨dS.1 b.1.1,b.1.2,ZO f b.2⟩;refine⟨d.size,λi=> ?_,by show cu _ _ (qV kn 0 ((s.h.take m).map (ar.tf m)));rw[Wx f];exact apE kn p.inv,d.df⟩;have:=p.tmp i
 change aO _ _ _ (bM (live.map λk=>(k,(bM s.t k).bR m)) i)at this
 rw[sK (λk=>(bM s.t k).bR m)]at this;show aO _ _ _ (bM (live.map λk=>(k,bif ks.any (·==k)then(bM s.t k).bR m else(bM s.t k).fin m)) i);rw[sK (λk=>bif ks.any (·==k)then(bM s.t k).bR m else(bM s.t k).fin m)];split at this
 ·rename_i e
  rw[ZL e];cases ks.any (·==i)with
  |true=>exact this
  |false=>exact this.nrm
 ·rename_i e;rw[ZN e];exact .dead _
def KL{c:Code}{ι:Type}(live:I Nat)(m:Nat)(ks:I Nat)(kn:I (Nat×Nat))(st:ι->St)(b:ι->Prop)(μ:ι->Nat)(d:ι)(k:N0<=m)(h0:jy m (s.h.take m)/\Go.Proofs.YtnnapanbbbcalaaGreatDoor.mX s live m ks kn=some (st d))(B:b d)
 (round:∀i,b i->bQ P r N0 c (jk (λs'=>∃i',(jy m (s'.h.take m)/\Go.Proofs.YtnnapanbbbcalaaGreatDoor.mX s' live m ks kn=some (st i'))/\b i'/\μ i'<μ i) Q) (st i)):bQ P r N0 (.loop c) Q s:=by
 constructor
 intro G w a n F _;refine Wv (λ(i:ι) f w'=>∃G',b i/\cn N0 G w G' w'/\N0<=G'.N/\dx G' w' f (st i)) μ d ⟨G.cut m,B,rC _ _ _ _,k,F.mX h0.1 h0.2⟩ ?_;rintro i f w' ⟨G',H,p,J,L⟩;refine wpIn_mono ((round i H).run G' w' f n L J) λe a1 w1 M=> ?_;obtain⟨G1,s1,q,R,u,v⟩:=M;cases e with
 |normal=>
  obtain⟨i',z,W,h3⟩:=v;exact⟨i',⟨G1.cut m,W,(p.trans q).trans (rC _ _ _ _),k,u.mX z.1 z.2⟩,h3⟩
 |_=>exact⟨G1,s1,p.trans q,R,u,v⟩
def KK{c:Code}(live:I Nat)(m:Nat)(ks:I Nat)(kn:I (Nat×Nat))(b:N0<=m)(h0:jy m (s.h.take m)/\Go.Proofs.YtnnapanbbbcalaaGreatDoor.mX s live m ks kn=some s')(h:bQ P r N0 c Q s'):bQ P r N0 c Q s:=by
 constructor
 intro G w a n d _;exact wpIn_mono (h.run (G.cut m) w a n (d.mX h0.1 h0.2) b) λ_ _ _ e=>e.trans (rC N0 G w m)
def WZ{c y:Code}{ι:Type}(live:I Nat)(m:Nat)(ks:I Nat)(kn:I (Nat×Nat))(st:ι->St)(b:ι->Prop)(d:N0<=m)(f:bQ P r N0 c (jk (λs'=>∃i,(jy m (s'.h.take m)/\Go.Proofs.YtnnapanbbbcalaaGreatDoor.mX s' live m ks kn=some (st i))/\b i) Q) s)(k:∀i,b i->bQ P r N0 y Q' (st i)):bQ P r N0 c (jk (λs=>bQ P r N0 y Q' s) Q) s:=by
 refine f.mono λe s' h=> ?_;cases e with
 |normal=>obtain⟨i,p,q⟩:=h;exact KK live m ks kn d p (k i q)
 |_=>exact h
end
def Ig(P:dg)(b:I ResultVar)(m:Nat)(s:St):U (AV×I ar):=
 match ur P s b with
 |some l=>bif cG m s.h.length&&((lx l).bR m).aN m&&(((s.h.take m).map (ar.tf m)).all (ar.vC m))then some (((lx l).bR m).nrm,((s.h.take m).map (ar.tf m)).map ar.CY)else none
 |none=>none
def Yb(P:dg)(fn:Func)(m:Nat)(R:AV)(H:I ar):Exit->St->Prop
 | .normal,s=>jy m (s.h.take m)/\Ig P fn.results.toList m s=some (R,H)
 | .ret,s=>jy m (s.h.take m)/\Ig P fn.results.toList m s=some (R,H)
 |_,_=>False
def WY{P:dg}{s:St}{fn:Func}{m:Nat}{R:AV}{H:I ar}(h:jy m (s.h.take m)/\Ig P fn.results.toList m s=some (R,H)):tz P fn m (λr h'=>r.nrm=R/\h'.map ar.CY=H) s:=by
 obtain⟨d,h⟩:=h;unfold Ig at h;split at h
 ·next l e=>
  obtain⟨b,f⟩:=fe h;cases f
  simp only[Zo,dS]at b;exact G6 _ _ _ e ⟨b.1.1,b.1.2,ZO d b.2,rfl,by rw[Wx d]⟩
 ·cases h
def xC{P:dg}{s:St}{fn:Func}{m:Nat}{R:AV}{H:I ar}(b:jy m (s.h.take m))(h:Ig P fn.results.toList m s=some (R,H)):Yb P fn m R H .ret s:=⟨b,h⟩
def EP{P:dg}{f:FuncId}{fn:Func}{c:Code}{args:I AV}{h H:I ar}{R:AV}(m:Nat)(d:P.funcs[f]?=some fn)(k:fn.body=some c)(p:(fn.name== "runtime.NumGoroutine")=false)(q:h.length<=m)
 (u:bQ P none h.length c (Yb P fn m R H) {n:=args.length+(fn.ntmps-args.length),t:=nj 0 args,h:=h}):dq P f args h λz h1=>z=R/\h1=H:=by
 have h0:=vU (P:=P) (f:=f) (args:=args) (h:=h) (K:=λr h'=>r.nrm=R/\h'.map ar.CY=H) m d k p q (u.mono λe s b=>by
  cases e with
  |normal=>exact WY b
  |ret=>exact WY b
  |_=>exact b.elim)
 refine⟨h0.1,λG w B F J L=>(h0.2 G w B F J L).mono λe w' M=> ?_⟩;obtain⟨v,N,x,h',rfl,W,hN,eY,hv,rfl,rfl⟩:=M;exact⟨v,N,x.nrm,_,rfl,W,hN,Yn eY,hv.nrm,rfl,rfl⟩
mutual
def AV.sk(b:Nat):AV->I (Nat×Nat×Nat×Nat)
 | .vec n o len L k=>bif n==b then[(o,len,L,k)]else[]
 | .agg cs=>AV.tk b cs
 | .bn cs=>AV.tk b cs
 | .fn _ cs=>AV.tk b cs
 |_=>[]
def AV.tk(b:Nat):I AV->I (Nat×Nat×Nat×Nat)
 |[]=>[]
 |x::l=>x.sk b++AV.tk b l
end
mutual
def AV.mlt(b:Nat)(xs:I (I D)):AV->AV
 | .vec n o len L k=>bif n==b then .d (.sl xs)else .vec n o len L k
 | .eC n i j L k=>bif n==b then .dead else .eC n i j L k
 | .agg cs=>.agg (AV.nH b xs cs)
 | .bn cs=>.bn (AV.nH b xs cs)
 | .fn f cs=>.fn f (AV.nH b xs cs)
 |x=>x
def AV.nH(b:Nat)(xs:I (I D)):I AV->I AV
 |[]=>[]
 |x::l=>x.mlt b xs::AV.nH b xs l
end
mutual
def Vm{b kk:Nat}{xs:I (I D)}:∀x:AV,(∀q∈x.sk b,q=(0,xs.length,xs.length,kk))->x.dD b kk xs=x.mlt b xs
 | .vec n o len L k,h=>by
   unfold AV.dD AV.mlt;unfold AV.sk at h;cases e:n==b with
   |false=>rfl
   |true=>
    rw[e]at h;have:=h _ Zl;cases this
    simp
 | .agg cs,h=>by unfold AV.dD AV.mlt;rw[vE cs (by unfold AV.sk at h;exact h)]
 | .bn cs,h=>by unfold AV.dD AV.mlt;rw[vE cs (by unfold AV.sk at h;exact h)]
 | .fn f cs,h=>by unfold AV.dD AV.mlt;rw[vE cs (by unfold AV.sk at h;exact h)]
 | .eC n i j L k,h=>by unfold AV.dD AV.mlt;rfl
 | .d _,_=>by simp [AV.dD,AV.mlt]
 | .ptr ..,_=>by simp [AV.dD,AV.mlt]
 | .bK ..,_=>by simp [AV.dD,AV.mlt]
 | .own ..,_=>by simp [AV.dD,AV.mlt]
 | .full _,_=>by simp [AV.dD,AV.mlt]
 | .row ..,_=>by simp [AV.dD,AV.mlt]
 | .mp _,_=>by simp [AV.dD,AV.mlt]
 | .cF _,_=>by simp [AV.dD,AV.mlt]
 | .hid _,_=>by simp [AV.dD,AV.mlt]
 | .dead,_=>by simp [AV.dD,AV.mlt]
def vE{b kk:Nat}{xs:I (I D)}:∀l:I AV,(∀q∈AV.tk b l,q=(0,xs.length,xs.length,kk))->AV.rz b kk xs l=AV.nH b xs l
 |[],_=>by simp [AV.rz,AV.nH]
 |x::l,h=>by
  unfold AV.tk at h;unfold AV.rz AV.nH;rw[Vm x λq hq=>h q (aa _ hq),vE l λq hq=>h q (Zw _ hq)]
end
inductive mH(b L kk:Nat)(xs:List (List D)):List ar->List ar->Prop
 |nil:mH b L kk xs [] []
 |cells {cs cM:List AV} {l l':List ar} (c:Nat) (h:AV.tk b cs=List.replicate c (0,L,L,kk)) (e:AV.nH b xs cs=cM) (t:mH b L kk xs l l'):mH b L kk xs (.cells cs::l) (.cells cM::l')
 |zx {e k:Nat} {ys:List (List D)} {l l':List ar} (t:mH b L kk xs l l'):mH b L kk xs (.vec e k (cg ys)::l) (.vec e k (cg ys)::l')
 |row {e k i:Nat} {ys:List (List D)} {cs cM:List AV} {l l':List ar} (c:Nat) (h:AV.tk b cs=List.replicate c (0,L,L,kk)) (e1:AV.nH b xs cs=cM) (t:mH b L kk xs l l'):mH b L kk xs (.vec e k ((cg ys).set i cs)::l) (.vec e k ((cg ys).set i cM)::l')
 |front {e k n:Nat} {l l':List ar} (t:mH b L kk xs l l'):mH b L kk xs (.front e k n::l) (.front e k n::l')
 |map {kv:List (ByteArray×D)} {l l':List ar} (t:mH b L kk xs l l'):mH b L kk xs (.map kv::l) (.map kv::l')
 |gone {l l':List ar} (t:mH b L kk xs l l'):mH b L kk xs (.gone::l) (.gone::l')
def JU{c L b:Nat}{xs:I (I D)}(e:xs.length=L){l:I (Nat×Nat×Nat×Nat)}(h:l=List.replicate c (0,L,L,b)):∀q∈l,q=(0,xs.length,xs.length,b):=λq d=>by
 rw[h,List.mem_replicate]at d;rw[d.2,e]
def mH.eq{b L k:Nat}{xs:I (I D)}(p:xs.length=L){l q:I ar}(h:mH b L k xs l q):q=l.map (ar.lr (AV.dD b k xs)):=by
 have u:∀d,AV.dD b k xs (.d d)= .d d:=λd=>by simp [AV.dD]
 induction h with
 |nil=>rfl
 |cells c h e t f=>rw[ZS,<-f,<-e];simp only[ar.lr];rw[<-uo,vE _ (JU p h)]
 |zx t f=>rw[ZS,<-f];simp only[ar.lr];rw[P6 u]
 |row c h v t f=>rw[ZS,<-f,<-v];simp only[ar.lr];rw[List.map_set,P6 u,<-uo,vE _ (JU p h)]
 |front t f=>rw[ZS,<-f];rfl
 |map t f=>rw[ZS,<-f];rfl
 |gone t f=>rw[ZS,<-f];rfl
def anW{P:dg}{r:U Nat}{N0:Nat}{c:Code}{s:St}{Q:Exit->St->Prop}(live:I Nat)(b:Nat)(xs:I (I D)){e k L:Nat}(h':I ar)(u:Nat)(v:s.h[b]?=some (.vec e k (cg xs)))(z:∀c∈xs,c.all D.wX=true)(d:xs.length=L)
 (B:(live.flatMap λi=>(bM s.t i).sk b)=List.replicate u (0,L,L,k)) (F:mH b L k xs s.h h') (K:bQ P r N0 c Q ⟨s.n,live.map (λi=>(i,(bM s.t i).mlt b xs)),h'.set b .gone⟩):bQ P r N0 c Q s:=by
 constructor
 intro G w a n H f;obtain⟨J,M,N,R⟩:=H.U6 xs v z;refine wpIn_mono (K.run J w a n (R.less rfl (by rw[F.eq d]) λi=> ?_) (by rw[N];exact f)) λ_ _ _ W=>W.trans (M.less f);show bM (live.map (λi=>(i,(bM s.t i).mlt b xs))) i=bM (s.t.map λp=>(p.1,p.2.dD b k xs)) i\/_;rw[sK (λk=>(bM s.t k).mlt b xs),Fg (AV.dD b k xs) (by simp [AV.dD])];split
 ·next hi=>
  left
  refine(Vm _ λq hq=>JU d B q ?_).symm;exact List.mem_flatMap.2 ⟨i,hi,hq⟩
 ·exact .inr rfl
def YH{G:Gh}{w:Zz}{h:I ar}(hi:cu G w h)(e k:Nat):cn G.N G w (G.fV (.slice none 0 0) 0 none) w/\G.N<=(G.fV (.slice none 0 0) 0 none).N/\cu (G.fV (.slice none 0 0) 0 none) w (h++[.vec e k []])/\aO (G.fV (.slice none 0 0) 0 none) w (.slice none 0 0) (.vec h.length 0 0 0 k):=by
 obtain⟨b,d⟩:=Wl (w':=w) hi (.vec e k []) (λ_ _=>rfl) (.slice none 0 0) 0 none ⟨λ_ _=>rfl,Zr _,rfl,rfl,rfl⟩ (λ_ h=>by cases h)
  ⟨by simp [Gh.fV],WJ _,λc f=>absurd f Yp,.inl ⟨by simp [Gh.fV],rfl,none,by simp [Gh.fV]⟩⟩
 refine⟨b,an _,d,.vec _ 0 0 0 k (by rw[hi.len];exact Yu _) ⟨none,0,0,rfl⟩ (WJ _) λ_=>⟨Zr _,⟨none,0,rfl,Zr _,WJ _,Zr _,λh=>absurd h (Yv _)⟩,λ_ _=> ?_⟩⟩;simp [Gh.fV,hi.len]
section
variable {P:dg} {r:U Nat} {N0:Nat} {s:St} {Q:Exit->St->Prop} {c:Code}
def ash(t e k:Nat)(z:bM s.t t= .d (.v (.slice none 0 0)))(h:bQ P r N0 c Q ⟨s.n,(t,.vec s.h.length 0 0 0 k)::s.t,s.h++[.vec e k []]⟩):bQ P r N0 c Q s:=by
 constructor
 intro G w a n b q;obtain⟨p,u,B,F⟩:=YH b.inv e k;have f:=b.tmp t;rw[z]at f;have f:=f.val;have H:dx (G.fV (.slice none 0 0) 0 none) w a ⟨s.n,(t,.vec s.h.length 0 0 0 k)::s.t,s.h++[.vec e k []]⟩:=by
  refine⟨b.size,λi=> ?_,B,b.df.keep p⟩;show aO _ _ _ (bM ((t,.vec s.h.length 0 0 0 k)::s.t) i);rw[mi];split;{next e=>exact e▸f▸F};{exact(b.tmp i).keep p u}
 exact wpIn_mono (h.run _ w a n H (Za q u)) λ_ _ _ J=>J.trans (p.less q)
def ajt(b i e k:Nat){cs:I AV}(z:s.h[b]?=some (.cells cs))(H:cs[i]?=some (.d (.v (.slice none 0 0))))
 (h:bQ P r N0 c Q ⟨s.n,s.t,(s.h++[ar.vec e k []]).set b (ar.cells (cs.set i (AV.vec s.h.length 0 0 0 k)))⟩):bQ P r N0 c Q s:=by
 constructor
 intro G w a n f J;obtain⟨h1,h2,L,T,h3,h4,M⟩:=f.inv.dJ _ _ z;have hi:i<cs.length:=(Zk.1 H).1;have N:L[i]?=some L[i]:=ZH (by omega);have vg:=(M i _ _ N H).val;obtain⟨p,B,a3,a4⟩:=YH f.inv e k;have aS:=(Zk.1 z).1;have cZ:dx (G.fV (.slice none 0 0) 0 none) w a ⟨s.n,s.t,(s.h++[ar.vec e k []]).set b (ar.cells (cs.set i (AV.vec s.h.length 0 0 0 k)))⟩:=by
  refine⟨f.size,λj=>(f.tmp j).keep p B,Xl a3 (by rw[ZW aS];exact z) (by rw[YR]) λgQ T' R j u c F q=> ?_,f.df.keep p⟩;have e1:(G.fV (.slice none 0 0) 0 none).aZ b=G.aZ b:=rfl;rw[e1,h3]at R;cases R
  by_cases W:i=j
  ·subst W;rw[Z1 hi]at q;cases q
   rw[N]at F;cases F
   rw[vg];exact a4
  ·rw[Z3 W]at q;exact(M j u c F q).keep p B
 exact wpIn_mono (h.run _ w a n cZ (Za J B)) λ_ _ _ hn=>hn.trans (p.less J)
def aka(b:Nat)(h:bQ P r N0 c Q ⟨s.n,s.t,s.h.set b .gone⟩):bQ P r N0 c Q s:=by
 constructor
 intro G w a n p v;have f:=p.inv;have u:∀n x,ct (s.h.set b .gone) G n=some x->ct s.h G n=some x:=λn x F=>by
  obtain⟨B,d,q⟩:=n9 F;by_cases e:b=n;{subst e;have k:=(Zk.1 d).1;rw[YR]at k;rw[Z1 k]at d;cases d;cases q};{rw[Z3 e]at d;rw[eJ d];exact q}
 refine h.run G w a n ⟨p.size,p.tmp,⟨by rw[YR];exact f.len,f.z,f.S,λn B d=> ?_,λm n x q H=>f.inj m n x (u m x q) (u n x H),f.gl⟩,p.df⟩ v;by_cases e:b=n;{subst e;have k:=(Zk.1 d).1;rw[YR]at k;rw[Z1 k]at d;cases d;trivial};{rw[Z3 e]at d;exact f.dJ n B d}
end
def x7{α:Type}{f:α->I D}{E:I α}{L:Nat}(h:E.length=L):(cg (E.map f)).length=L:=by rw[Jv,Zq,h]
def Ux{cs:I (I AV)}{z:Int}{L i:Nat}(h:cs.length=L)(h0:0<=z)(h1:z<(L:Int))(b:z.toNat=i):cs.length=L/\0<=z/\z<(L:Int)/\i=0+z.toNat:=⟨h,h0,h1,by rw[b,ZJ]⟩
def aqU{α:Type}{f:α->I D}{E:I α}{L i:Nat}{x:α}(h:E.length=L)(b:E[i]?=some x):(cg (E.map f)).length=L/\(cg (E.map f))[i]?=some ((f x).map .d):=⟨x7 h,QR (by rw[Zm,b];rfl)⟩
def XE{α:Type}{f:α->I D}{E:I α}{L i j:Nat}{x y:α}{zs:I AV}(h:E.length=L)(b:E[i]?=some x)(e:(f y).map AV.d=jM ((f x).map .d) j zs):(cg (E.map f)).length=L/\(cg (E.map f))[i]?=some ((f x).map .d)/\cg ((E.set i y).map f)=(cg (E.map f)).set i (jM ((f x).map .d) j zs):=
 ⟨x7 h,QR (by rw[Zm,b];rfl),by rw[List.map_set,aoi,e]⟩
def Fk{α:Type}{f:α->I D}{E ys:I α}{h:I ar}{k L p b dy:Nat}{y:AV}(q:E.length=L)(u:y.gN=some (ys.map f))(v:∀c∈ys.map f,c.length=k)(F:ys.length=p)(d:L+ys.length=b)(z:b<=maxLen)(B:b*dy<=140737488355328):
 (cg (E.map f)).length=L/\BJ h k y (cg (ys.map f))/\b=L+(cg (ys.map f)).length/\((0+L+(cg (ys.map f)).length<=L/\b=L/\cg ((E++ys).map f)=(cg (E.map f)).take (0+L)++cg (ys.map f)++(cg (E.map f)).drop (0+L+(cg (ys.map f)).length))\/(0=0/\L=L/\b=L+(cg (ys.map f)).length/\cg ((E++ys).map f)=cg (E.map f)++cg (ys.map f)/\b<=maxLen/\b*dy<=140737488355328)):=by
 have e:(cg (ys.map f)).length=ys.length:=by rw[Jv,Zq]
 refine⟨x7 q,.inl ⟨_,u,v,rfl⟩,by rw[e,d],.inr ⟨rfl,rfl,by rw[e,d],by rw[ZD,aom],z,B⟩⟩
def aku{xs:I (I D)}{h:I ar}{k dy:Nat}{y:AV}(b:∀c∈xs,c.length=k)(d:y.gN=some xs)(e:xs.length<=maxLen)(f:xs.length*dy<=140737488355328):
 ([]:I (I D))=[]/\BJ h k y (cg xs)/\cg xs=cg xs/\xs.length=(cg xs).length/\xs.length=(cg xs).length/\xs.length<=maxLen/\xs.length*dy<=140737488355328:=⟨rfl,.inl ⟨xs,d,b,rfl⟩,rfl,(Jv xs).symm,(Jv xs).symm,e,f⟩
def ao3{P:dg}{r:U Nat}{N0:Nat}{c:Code}{s:St}{Q:Exit->St->Prop}(live:I Nat)(b:Nat)(xs ys:I (I D)){e k L:Nat}(h':I ar)(d:Nat)(f:s.h[b]?=some (.vec e k (cg xs)))(p:∀c∈xs,c.all D.wX=true)(q:xs.length=L)(u:ys=xs)
 (v:(live.flatMap λi=>(bM s.t i).sk b)=List.replicate d (0,L,L,k)) (z:mH b L k ys s.h h') (K:bQ P r N0 c Q ⟨s.n,live.map (λi=>(i,(bM s.t i).mlt b ys)),h'.set b .gone⟩):bQ P r N0 c Q s:=by
 subst u;exact anW live b _ h' d f p q v z K
def WX{α:Type}{f:α->I D}(b:∀x,(f x).all D.wX=true)(E:I α):∀c∈E.map f,c.all D.wX=true:=λc d=>by
 obtain⟨x,_,rfl⟩:=W1.1 d;exact b x
def WW{α:Type}{f:α->I D}{E:I α}{L:Nat}(h:E.length=L):(E.map f).length=L:=by rw[Zq,h]
def Qh(o:Oper):Bool:=
 match o.op with
 | .call c=>match c.callee with
   | .value _=>false
   |_=>true
 |_=>true
def KI:cB->Bool
 | .va _=>true
 |_=>false
def VG(o:Oper)(a:cB):Bool:=Oj o||(Qh o&&((vo o||kZ o&& !(cS o==0))|| !KI a))
def HF(o:Oper)(a:cB):Bool:=VG o a||(!BH a&&(!KI a&& !kZ o))
def H5(as:I (Nat×cB)):Nat->I Oper->Bool
 |_,[]=>true
 |j,o::l=>HF o (jN as (3*j+1))&&H5 as (j+1) l
section
variable {P:dg} {ops:Array Oper} {o:Oper} {j:Nat} {as:I (Nat×cB)} {s s1:St} {l:I (In×cB)} {K:St->Prop}
def anq(b:Qh o=true)(h:sw P o K s):Ct P o K s:=by
 unfold Ct;unfold Qh at b;split
 ·next c d=>
  rw[d]at b;split;{next f e=>simp only[e]at b;cases b};{exact h}
 ·exact h
def agR(h:pk P false o j as s=some (s1,l))(B:hO P l)(F:K s1)(b:VG o (jN as (3*j+1))=true):ze true P o K s:=by
 unfold pk at h;simp only[Bool.false_and,UQ]at h;split at h
 ·next x h' i f=>
  have u:OK P i (jN as (3*j+1))->K ((s.wh h').put o.dst x)->ze true P o K s:=λv k=>by
   unfold VG at b;rw[af]at b;unfold Jz at f;split at f
   ·next J e=>
    simp only[Bool.false_and,UQ]at f;split at f
    ·next N R p d=>
     cases f
     rcases b with b|b
     ·exfalso;rw[e]at v;unfold Oj at b;split at b
      ·next c H=>
       split at b
       ·next t z=>
        rw[H]at d;unfold js at d;simp only[z]at d;cases d
       ·next t z=>
        rw[H]at d;unfold js at d;simp only[z]at d;cases d
       ·cases b
      ·cases b
     ·rw[e]at v b;simp only[KI,Wh,Bool.or_false,Zo]at b;cases v with|pr _ L=>exact .inr (.inr (.inl ⟨(by
        have q:=b.2;rw[af,Zo,VJ]at q;exact q.elim (λe=>.inr (by rw[e];rfl)) λe=>.inl ⟨e.1,by rw[e.2];rfl⟩),J,x,h',p,d,L,k⟩))
    ·cases f
   ·rcases b with b|b
    ·exact .inr (.inl ⟨by unfold oJ;rw[b];rfl,x,h',k,λC M=>BL f v M⟩)
    ·rw[Zo]at b;exact .inl (anq b.1 (BL (C:=λx h'=>K ((s.wh h').put o.dst x)) f v k))
  split at h
  ·next y W=>
   obtain⟨m,e,k,q⟩:=Ly h B;cases e
   have:=k (.eq x,.eq y) Zl;cases this with|eq e=>subst e;exact u q F
  ·obtain⟨m,e,k,q⟩:=Ly h B;cases e
   exact u q F
 ·cases h
def aoE{dr v:Bool}{b:Op}{ρ:Operand->AV}{h:I ar}{a:cB}(d:KI a=false):Jz P dr v b ρ h a=xl P b ρ h a:=by
 cases a<;>first|rfl|cases d
def WM(h:pk P false o j as s=some (s1,l))(d:hO P l)(f:K s1)(b:HF o (jN as (3*j+1))=true):ze true P o K s:=by
 unfold HF at b;rw[af]at b;rcases b with b|b
 ·exact agR h d f b
 ·rw[Zo,Zo,VJ,VJ,VJ]at b;obtain⟨k,p,q⟩:=b;have h':pk P true o j as s=some (s1,l):=by
    unfold pk at h ⊢;rw[aoE p]at h ⊢;rw[k];exact h
  have:=Rz (dr:=true) h' d f;rcases this with h|⟨e,_⟩|⟨e,_⟩|h
  ·exact .inl h
  ·cases e
  ·exfalso;rcases e with e|e
   ·rw[q]at e;exact absurd e.1 (by simp)
   ·cases e
  ·exact .inr (.inr (.inr h))
def Yx(h:oM P ops false o j as s=some (s1,l))(u:hO P l)(k:K s1)(H:HF o (jN as (3*j+1))=true):jX ops o s (ze true P o K s) (K (s.put o.dst (.d (.v undef)))):=by
 unfold oM at h;split at h;{next p=>unfold jX;rw[p];exact WM h u k H}
 ·next g f p=>
  obtain⟨L,W,ty,M,after,guard⟩:=o;simp only at p;subst p;split at h
  ·next b N=>
   obtain⟨n,e,J,B⟩:=B8 h u;have q:=OK.JQ (B (_,_) Zl);rw[PS,q];refine⟨λF=> ?_,λF=> ?_⟩;{subst F;simp only[BEq.rfl,V1]at e;exact WM e J k H}
   ·subst F;have:((!f)==f)=false:=by cases f<;>rfl
    rw[this]at e;simp only[UQ]at e;cases e
    exact k
  ·next N=>
   obtain⟨n,e,J,B⟩:=B8 h u;cases e
   have q:=B (_,_) Zl;have R:wE ops g s.t= .d (.v undef):=by
    generalize wE ops g s.t=z at q;cases q;rfl
   rw[PS,R];exact k
  ·cases h
def RT:∀(ol:I Oper)(j:Nat)(s:St)(l:I (In×cB)),pW P ops false ol j as s=some (s1,l)->hO P l->H5 as j ol=true->K s1->xF true P ops ol K s
 |[],_,s,l,h,_,_,d=>by cases h;exact d
 |o::rest,j,s,l,h,f,b,d=>by
  unfold H5 at b;rw[Zo]at b;unfold pW at h;split at h
  ·next k m p=>
   obtain⟨n,e,q,u⟩:=B8 h f;exact Yx (K:=xF true P ops rest K) p u (RT rest (j+1) k n e q b.2 d) b.1
  ·cases h
def WV:∀(ol b:I Oper),uP (b++ol).toArray ((List.range ol.length).map (b.length+·))=ol
 |[],_=>rfl
 |o::l,b=>by
  rw[Zi,List.range_succ_eq_map,ZS,List.map_map];unfold uP;have e:(b++o::l).toArray[b.length+0]?=some o:=by simp
  rw[e];simp only;have d:=WV l (b++[o]);rw[ZP]at d;simp only[List.singleton_append,Zj,Zi,Zc,ZJ]at d
  congr 1
  rw[show(b.length+·)∘Nat.succ=(b.length+1+·)from by funext i;simp only[Function.comp];omega];exact d
def WU(ol:I Oper):uP ol.toArray (List.range ol.length)=ol:=by
 have:=WV ol []
 simpa using this
end
section
variable {P:dg} {r:U Nat} {N0 id n:Nat} {ol:I Oper} {y:Code} {t:I (Nat×AV)} {h:I ar} {Q Q':Exit->St->Prop}
def rle(b:P.follows .mixedOrders=true)(d:Ib true ol.toArray (List.range ol.length)=true)(aB:I (Nat×Ob P))(Δ:I (Nat×AV))(h':I ar)(e:H5 (jV aB) 0 ol=true/\AE P false ol (jV aB) ⟨n,t,h⟩=some (Δ++t,h',kf aB))(k:Q .normal ⟨n,Δ++t,h'⟩):bQ P r N0 (.region id ol.toArray true) Q ⟨n,t,h⟩:=by
 obtain⟨f,e⟩:=e;refine YN (m:=true) (List.range ol.length) b (by simp) d ?_;rw[WU];exact RT ol 0 _ _ (Wc e) (qO aB) f k
end
section
variable {P:dg} {r:U Nat} {N0:Nat} {Q:Exit->St->Prop} {c:Code} {o:Oper} {K:St->Prop}
def Pg{n d:Nat}{t:I (Nat×AV)}{h h':I ar}{x:AV}(f:De P o.op (ev ⟨n,t,h⟩) h=some (x,h'))(k:o.dst=some d)(e:Nat.ble n d=false)(p:K ⟨n,(d,x)::t,h'⟩):pL P o K ⟨n,t,h⟩:=by
 refine .inr (.inr (.inr (.inr (.inl ⟨x,h',f,?_⟩))));have q:d<n:=Nat.lt_of_not_le λb=>by rw[WS b]at e;cases e
 rw[k,tc (s:=St.wh ⟨n,t,h⟩ h') q];exact p
def as4{n d:Nat}{t:I (Nat×AV)}{h h':I ar}{x:AV}{p:Prop}(a:VA)(f:js P o.op (ev ⟨n,t,h⟩) h a=some (x,h',p))(k:p)(q:o.dst=some d)(e:Nat.ble n d=false)(u:K ⟨n,(d,x)::t,h'⟩):pL P o K ⟨n,t,h⟩:=by
 refine .inl ⟨a,x,h',p,f,k,?_⟩;have v:d<n:=Nat.lt_of_not_le λb=>by rw[WS b]at e;cases e
 rw[q,tc (s:=St.wh ⟨n,t,h⟩ h') v];exact u
def aq7{ρ:Operand->AV}{h:I ar}{q:Call}{x y:Operand}{T b:TypeId}{e k m dy:Nat}{kq kn:IntKind}{z:kd}(f:q.callee= .builtin .append)(h1:q.args.toList=[x,y])(p:q.argTypes.toList=[T,b])(B:(ρ x).isNil=true)(F:fO P T=some (e,k))(H:tn P b=some kn)(J:ρ y= .d (.v (.int kq (Int.ofNat m))))(L:jz P e=some z)(M:tu P e=some dy)(N:1<=m)(R:1<=k)(W:z.cells.toList.length=k)(g4:m<=maxLen)(g5:m*dy<=140737488355328):
 De P (.call q) ρ h=some (.vec h.length 0 m m k,h++[.vec e k (List.replicate m (z.cells.toList.map λu=>.d (.v u)))]):=by
 unfold De;simp only[f,h1,p,F,H,J,L,M,B,dS.2 N,dS.2 R,dS.2 g4,dS.2 g5,W,Ys,Bool.and_self,V1]
def alh{n t e k L:Nat}{ts:I (Nat×AV)}{cs:I (I AV)}(cN:N0=0)(ht:bM ts t= .vec 0 0 0 L k)(hL:cs.length=L)(h:bQ P r N0 c Q ⟨n,[(t,.own 0 [])],[.front e k 0]⟩):bQ P r N0 c Q ⟨n,ts,[.vec e k cs]⟩:=by
 subst cN;constructor
 intro G w a m J hN;have f:=J.inv;have nF:([ar.vec e k cs]:I ar)[0]?=some (.vec e k cs):=rfl;have hGN:G.N=1:=f.len.symm;have hv:=J.tmp t;rw[ht]at hv;obtain⟨CP,⟨A,q,q1,q2,q3,q4,q5⟩,u⟩:=hv.vy f nF hL;obtain⟨b1,b2,b3,b4⟩:=f.dJ 0 _ nF;have Xu:∀(A:U Addr),q<=maxLen->dY G.S w (.slice A 0 q) (.sl []):=λA hc=>.sl A 0 0 q 0 [] (λ_ _=>undef) (λh=>absurd rfl h) (WJ _) hc (λ_ h=>absurd h Yp) (λi j f=>absurd f (Z5 _)) (λi j x d hx=>by simp at hx);obtain⟨p,b⟩:∃p,p={G with sg:=λi=>if i=0 then a.tmps.getD t undef else G.sg i,fl:=λi=>if i=0 then 0 else G.fl i}:=⟨_,rfl⟩;have hE:cn 0 G w p w:=by
  subst b;exact⟨Zr _,λ_ _ h=>h,λ_ _ _=>rfl,λ_ h=>absurd h (Z5 _),λ_ h=>absurd h (Z5 _),iO rfl,λ_ _=>rfl,rfl,rfl,rfl,λ_ _ h=>.inl h⟩
 have v:cu p w [.front e k 0]:=by
  refine⟨by rw[b];exact f.len,by rw[b];exact f.z,by rw[b];exact f.S,λj B M=> ?_,λi j x h1 h2=> ?_,by rw[b];exact f.gl⟩
  ·match j with
   |0=>
    cases M
    refine⟨by rw[b];simp,WJ _,?_⟩;rcases b4 with⟨R,W,A',d3⟩|⟨g,cap,F,R,W,d3,d4,d5,d6,d7,d8,d9⟩
    ·left
     refine⟨by rw[b];exact R,?_⟩;have H:L=0:=by rw[<-hL,W];rfl
     have:=u rfl H.symm;rw[b];exact⟨A',by simp only[if_true];rw[this];exact d3⟩
    ·by_cases H:L=0
     ·have:=u rfl H.symm
      right
      refine⟨g,cap,F,by rw[b];exact R,?_,by rw[b];exact d3,d4,WJ _,d6,d7,λo _=>by rw[b];exact d8 o⟩;rw[b];simp only[if_true];rw[this,W,hL,H]
     ·obtain⟨g',Hw,s1,rfl,s3⟩:=q5 (Nat.pos_of_ne_zero H);rw[W]at s1;cases s1
      right
      have:q=cap:=by omega
      subst this;refine⟨g,q,F,by rw[b];exact R,?_,by rw[b];exact d3,d4,WJ _,d6,d7,λo _=>by rw[b];exact d8 o⟩;rw[b];simp only[if_true];rw[q1,Nat.zero_mul]
   |j+1=>simp at M
  ·have hj:∀i x,ct [ar.front e k 0] p i=some x->i=0:=λi x h=>by
    obtain⟨B,M,_⟩:=n9 h
    match i with
    |0=>rfl
    |i+1=>simp at M
   rw[hj i x h1,hj j x h2]
 refine wpIn_mono (h.run p w a m ⟨J.size,λi=> ?_,v,?_⟩ (WJ _)) λ_ _ _ hn=>hn.trans hE
 ·show aO p w _ (bM [(t,.own 0 [])] i);rw[mi];split
  ·next e=>
   subst e;refine .own 0 [] (by rw[b];show 0<G.N;omega) ?_ (WJ _) (λ_=>by rw[b];simp);rw[q1,b];exact Xu A q3
  ·exact .dead _
 ·have:=J.df;rw[b];exact this
end
end Go.Proofs.YtnnapanbbbcalaaGreatDoor
namespace Go.Proofs.YtnnapanbbbcalaaGreatDoor.MK
open Go.RowKit
set_option linter.unusedVariables false
def ar(w:Zz)(g:Nat)(t:TypeId)(cs:I kd):Prop:=w.heap[g]?=some (.cells cs.toArray t (0,0))
section
variable {w w':Zz} {g:Nat} {t:TypeId} {cs:I kd}
end
section
variable {P:dg} (w:Zz)
end
section
variable {P:dg} {w:Zz}
end
section
variable {S E base:Nat} {w w' w'':Zz}
end
end Go.Proofs.YtnnapanbbbcalaaGreatDoor.MK
namespace Go.Proofs.YtnnapanbbbcalaaGreatDoor
open Go.RowKit
set_option linter.unusedSimpArgs false
set_option linter.unusedVariables false
section
variable {P:dg}
end
end Go.Proofs.YtnnapanbbbcalaaGreatDoor
