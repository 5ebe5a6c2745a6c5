/-
  Part 3 of the proof: AbsRun, AbsFrz, AbsInst, AbsExec, AbsExecV, AbsRange, AbsAny, AbsExec2, AbsExec3, AbsYield, AbsTree, AbsVecX, MemK, AbsVecD.
-/
import Derived.Test.YtnnapanbbbcalaaGreatDoorPe2
import Derived.WalkKit
import Derived.Laws.CopyOwn
import Derived.Deep.AppendLies
import Derived.Lib.AppendZerosOnto
import Derived.Lib.Overlaps
import Derived.Lib.Hide
set_option linter.defProp false
namespace Go.Proofs.YtnnapanbbbcalaaGreatDoor
open Go.RowKit
def ar.vd:ar->Prop
 | .vec _ _ cs=>(∀f,cs.map (AV.iD f)=cs)/\∀m,cs.all (·.all (AV.aN m))=true
 |_=>True
def asV(f:Nat->Nat)(c:I D):AV.iD f (c.map AV.d)=c.map AV.d:=by
 induction c with
 |nil=>simp [AV.iD]
 |cons x c b=>simp only[ZS,AV.iD,AV.aZ,b]
def aoY(xs:I (I D)):(∀f,(cg xs).map (AV.iD f)=cg xs)/\∀m,(cg xs).all (·.all (AV.aN m))=true:=by
 refine⟨λf=> ?_,λm=>by simp [cg,AV.aN]⟩;unfold cg;rw[List.map_map];exact Z8 λc _=>asV f c
def VD:I ar->Prop
 |[]=>True
 |B::l=>B.vd/\VD l
def dJ:VD []:=trivial
def yJ{e k:Nat}{xs:I (I D)}{l:I ar}(h:VD l):VD (.vec e k (cg xs)::l):=⟨aoY xs,h⟩
def VD.mem:∀{l:I ar},VD l->∀B∈l,B.vd
 |[],_,B,b=>by cases b
 |_::_,h,B,b=>by
  rcases Za.1 b with rfl|b
  ·exact h.1
  ·exact VD.mem h.2 B b
def ar.sP(f:Nat->Nat):ar->ar
 | .vec e k cs=>.vec e k cs
 |B=>B.aZ f
def Xi{f:Nat->Nat}{B:ar}(h:B.vd):B.sP f=B.aZ f:=by
 cases B with
 |vec e k cs=>simp only[ar.sP,ar.aZ];rw[h.1 f]
 |_=>rfl
def ak5{f:Nat->Nat}{l:I ar}(h:VD l):l.map (ar.sP f)=l.map (ar.aZ f):=Z8 λB b=>Xi (h.mem B b)
def ar.xA(m:Nat):ar->Bool
 | .vec .. =>true
 |B=>B.aN m
def anE{m:Nat}{B:ar}(h:B.vd)(b:B.xA m=true):B.aN m=true:=by
 cases B with
 |vec e k cs=>exact h.2 m
 |_=>exact b
def ar0{m:Nat}{l:I ar}(h:VD l)(b:l.all (ar.xA m)=true):l.all (ar.aN m)=true:=by
 rw[Zd]at b ⊢;exact λB d=>anE (h.mem B d) (b B d)
def anC{f:Nat->Nat}{l:I ar}(h:VD l):(l.map λB=>some (B.sP f))=l.map λB=>some (B.aZ f):=Z8 λB b=>congrArg some (Xi (h.mem B b))
inductive In
 |none
 |bit (x:AV)
 |eq (x:AV)
 |el (xs:List (List D)) (i:Int)
 |lt (z:Int) (n:Nat)
 |len (xs:List (List D))
 |sub (xs:List (List D)) (lo:Int) (hi:Option Int) (k:Nat)
 |app (xs ys:List (List D)) (len k dy:Nat)
 |nz (b:Int)
 |nn (b:Int)
 |str (b:ByteArray) (lo hi:Int)
 |cat (n:Nat)
 |pr (p:Prop)
 |sd (p:Sd)
 |jE (xs:List (List D))
 |L0 (c:List D) (z:Int) (n:Nat)
 |ch (b:ByteArray) (i:Int)
 |call (f:FuncId) (args:List AV)
 |kH (f:FuncId) (args:List AV) (h:List ar)
 |Ec (c:fY) (args:List AV)
 |pH (f:FuncId) (args:List AV) (h:List ar)
def Rm(P:dg)(c:fY)(args:I AV)(r:AV):Prop:=∃g as,c.app args=some (g,as)/\AFn P g as (·=r)
inductive cB
 |none
 |bit (b:Bool)
 |IY
 |eq (y:AV)
 |el (c:List D)
 |ok
 |nat (n:Nat)
 |list (ys:List (List D))
 |agi (ys:List (List D)) (n:Nat)
 |byte (c:UInt8)
 |bytes (s:ByteArray)
 |one (d:D)
 |va (a:VA)
 |ret (r:AV)
 |Wx (r:AV) (h:List ar)
 |UO (l:List Nat) (fJ:List AV) (H:List ar) (r:AV) (H':List ar)
 |rq (l:List Nat) (fJ:List AV) (H:List ar) (r:AV)
 |ID (l:List Nat) (fJ:List AV) (H:List ar) (r:AV) (H':List ar)
inductive OK(P:Program):In->cB->Prop
 |none {o:cB}:OK P .none o
 |bit {e b:Bool} (h:e=b):OK P (.bit (.d (.v (.bool e)))) (.bit b)
 |IY:OK P (.bit (.d (.v undef))) .IY
 |eq {x y:AV} (h:x=y):OK P (.eq x) (.eq y)
 |el {xs:List (List D)} {i:Int} {c:List D} (h0:0<=i) (h:xs[i.toNat]?=some c):OK P (.el xs i) (.el c)
 |lt {z:Int} {n:Nat} (h0:0<=z) (h:z<n):OK P (.lt z n) .ok
 |len {xs:List (List D)} {n:Nat} (h:xs.length=n):OK P (.len xs) (.nat n)
 |sub {xs ys:List (List D)} {lo hi:Int} {k:Nat} (h0:0<=lo) (h1:lo.toNat<=hi.toNat) (h2:0<=hi) (h3:hi.toNat<=xs.length) (hk:∀c∈xs,c.length=k) (h:(xs.take hi.toNat).drop lo.toNat=ys):OK P (.sub xs lo (some hi) k) (.list ys)
 |Dx {xs ys:List (List D)} {lo:Int} {k:Nat} (h0:0<=lo) (h1:lo.toNat<=xs.length) (hk:∀c∈xs,c.length=k) (h:xs.drop lo.toNat=ys):OK P (.sub xs lo .none k) (.list ys)
 |app {xs ys zs:List (List D)} {len k dy n:Nat} (hl:len=xs.length) (hx:∀c∈xs,c.length=k) (hy:∀c∈ys,c.length=k) (hm:xs.length+ys.length<=maxLen) (hb:(xs.length+ys.length)*dy<=140737488355328) (hz:xs++ys=zs) (hn:xs.length+ys.length=n):OK P (.app xs ys len k dy) (.agi zs n)
 |nz {b:Int} (h:b≠0):OK P (.nz b) .ok
 |nn {b:Int} (h:0<=b):OK P (.nn b) .ok
 |str {b:ByteArray} {lo hi:Int} (h0:0<=lo) (h1:lo.toNat<=hi.toNat) (h2:0<=hi) (h3:hi.toNat<=b.size):OK P (.str b lo hi) .ok
 |ch {b:ByteArray} {i:Int} {c:UInt8} (h0:0<=i) (h:b[i.toNat]?=some c):OK P (.ch b i) (.byte c)
 |cat {n:Nat} (h:n<=maxLen):OK P (.cat n) .ok
 |pr {p:Prop} (a:VA) (h:p):OK P (.pr p) (.va a)
 |sd {p:Sd} {o:cB} (h:p.ok):OK P (.sd p) o
 |jE {xs:List (List D)} {s:ByteArray} (h:∃ns:List Int,xs=ns.map (λn=>[.v (.int .u8 n)])/\s=⟨(ns.map λn=>UInt8.ofNat n.toNat).toArray⟩):OK P (.jE xs) (.bytes s)
 |L0 {c:List D} {z:Int} {n:Nat} {d:D} (h0:0<=z) (h1:z<n) (h:c[z.toNat]?=some d):OK P (.L0 c z n) (.one d)
 |call {f:FuncId} {args:List AV} {r:AV} (h:AFn P f args (·=r)):OK P (.call f args) (.ret r)
 |Ec {c:fY} {args:List AV} {r:AV} (h:Rm P c args r):OK P (.Ec c args) (.ret r)
 |pH {f:FuncId} {nW fJ:List AV} {h H H':List ar} {l:List Nat} {r:AV} (ha:nW=fJ.map (AV.aZ (rn l h.length))) (hd:qQ l=true) (hb:l.map (λj=>h[j]?)=H.map λB=>some (B.aZ (rn l h.length))) (hl:(fJ.all (AV.aN H.length)&&H.all (ar.aN H.length))=true)
  (hc:dt P f fJ H λr1 h1=>r1=r/\h1=H'):OK P (.pH f nW h) (.UO l fJ H r H')
 |Tg {f:FuncId} {nW fJ:List AV} {h H H':List ar} {l:List Nat} {r:AV} (xF:VD H) (hv:VD H') (ha:nW=fJ.map (AV.aZ (rn l h.length))) (hd:qQ l=true) (hb:l.map (λj=>h[j]?)=H.map λB=>some (B.sP (rn l h.length))) (hl:(fJ.all (AV.aN H.length)&&H.all (ar.xA H.length))=true)
  (hc:dt P f fJ H λr1 h1=>r1=r/\h1=H'):OK P (.pH f nW h) (.ID l fJ H r H')
 |rq {f:FuncId} {nW fJ:List AV} {h H:List ar} {l:List Nat} {r:AV} (ha:nW=fJ.map (AV.aZ (rn l 0))) (hd:qQ l=true) (hb:l.map (λj=>h[j]?)=H.map λB=>some (B.aZ (rn l 0))) (hl:(fJ.all (AV.aN H.length)&&H.all (ar.aN H.length)&&r.aN H.length)=true)
    (hc:dt P f fJ H λr1 h1=>r1=r/\h1=H):OK P (.pH f nW h) (.rq l fJ H r)
 |kH {f:FuncId} {args:List AV} {h h':List ar} {r:AV} (hc:dt P f args h λr1 h1=>r1=r/\h1=h'):OK P (.kH f args h) (.Wx r h')
def CA(P:dg)(t:TypeId)(cs:I AV)(off:Nat):U AV:=
 match nE P t,ic P t with
 |some true,some k=>bif cP (off+k) cs.length then some (.agg ((cs.drop off).take k))else none
 |some false,some _=>cs[off]?
 |_,_=>none
def AE(h:I ar)(p:AV):U (I AV×Nat):=
 match p with
 | .ptr n b=>match h[n]? with
   |some (.cells cs)=>some (cs,b)
   |_=>none
 | .bM e i b=>match e[i]? with
   |some c=>some (c.map .d,b)
   |none=>none
 |_=>none
def Wd(x:AV)(i:U Int)(k:Nat)(a:cB):U (AV×In):=
 match x.gX,i,a with
 |some b,some z,.el c=>bif c.length==k then some (.bM [c] 0 0,.el b z)else none
 |_,_,_=>none
def Vy(P:dg)(T:TypeId)(x i:AV)(a:cB):U (AV×In):=
 match fQ P T with
 |some (_,k)=>
  match x with
  | .row n e f _ p=>match i.int? with
    |some z=>bif p==k then some (.ptr n (e+z.toNat*k),.lt z f)else none
    |none=>none
  |x=>Wd x i.int? k a
 |none=>match vW P T,x,i.int? with
  |some (n,_,k),.ptr b e,some z=>some (.ptr b (e+z.toNat*k),.lt z n)
  |some (n,_,k),.bM [c] 0 0,some z=>match a with
   | .one d=>bif k==1 then some (.bM [[d]] 0 0,.L0 c z n)else none
   |_=>none
  |_,_,_=>none
def Vg(P:dg)(T:TypeId)(x:AV)(a:cB):U (AV×In):=
 match x with
 | .d (.v (.string s))=>bif jj P T then some (.d (.v (.int .i64 s.size)),.none)else none
 | .row _ _ b _ _=>bif (fQ P T).isSome then some (.d (.v (.int .i64 b)),.none)else none
 |x=>match x.gX,a with
  |some e,.nat n=>bif (fQ P T).isSome then some (.d (.v (.int .i64 n)),.len e)else none
  |_,_=>none
def oN(l:U Int)(d:Nat):Nat:=match l with|some z=>z.toNat|none=>d
def Il(ρ:Operand->AV):U Operand->U (U Int)
 |none=>some none
 |some y=>match (ρ y).int? with
  |some z=>some (some z)
  |none=>none
def RQ(P:dg)(T:TypeId)(ρ:Operand->AV)(x:AV)(lo hi p:U Operand)(a:cB):U (AV×In):=
 match p with
 |none=>match Il ρ lo,Il ρ hi with
  |some l,some h=>match x with
   | .d (.v (.string b))=>bif jj P T then some (.d (.v (.string (b.extract (oN l 0) (oN h b.size)))),.str b (l.getD 0) (h.getD b.size))else none
   | .ptr n e=>match vW P T,l,h with
     |some (m,_,k),none,none=>bif cP m 4096&& !cP m 0 then some (.row n e m m k,.none)else none
     |_,_,_=>none
   |x=>match x.gX,fQ P T,a with
    |some f,some (_,k),.list q=>some (.d (.sl q),.sub f (l.getD 0) h k)
    |_,_,_=>none
  |_,_=>none
 |some m=>match lo,hi,ρ m with
  |none,some y,.d (.v (.int _ 0))=>match x.gX,fQ P T,ρ y,a with
   |some f,some (_,k),.d (.v (.int _ 0)),.list _=>some (.full [],.sub f 0 (some 0) k)
   |_,_,_,_=>none
  |_,_,_=>none
def Ll(h:I ar)(k:Nat)(x:AV):U (I (I D)):=
 match x with
 | .row n d b _ e=>match h[n]? with
   |some (.cells cs)=>match om ((cs.drop d).take (b*k))with
    |some f=>bif e==k&&cP (d+b*k) cs.length&&((cs.drop d).take (b*k)).all AV.lF then some (pK k b f)else none
    |none=>none
   |_=>none
 |x=>x.gX
def Vv(P:dg)(T:TypeId)(h:I ar)(x y:AV)(a:cB):U (AV×I ar×In):=
 match fQ P T,a with
 |some (e,k),.agi f p=>match jB P e,te P e with
  |some z,some q=>bif cP 1 k&&z.cells.toList.length==k then
   match Ll h k y with
   |some u=>match x with
    | .own n b=>match h[n]? with
      |some (.front F H B)=>bif F==e&&H==k then some (.own n f,h.set n (.front e k p),.app b u B k q)else none
      |_=>none
    | .d (.v (.slice none 0 0))=>some (.own h.length f,h++[.front e k p],.app [] u 0 k q)
    | .full b=>some (.own h.length f,h++[.front e k p],.app b u b.length k q)
    |_=>none
   |none=>none
   else none
  |_,_=>none
 |_,_=>none
def QG(P:dg)(T:TypeId)(ps:I (Nat×AV)):U AV:=
 match Tr P T,jB P T with
 |some places,some z=>match rP places (z.cells.toList.map λu=>.d (.v u)) ps with
  |some cs=>bif (ps.all λp=>p.2.kT)&&z.cells.toList.all Value.oneCell' then some (.agg cs)else none
  |none=>none
 |_,_=>none
def QD(P:dg)(T:TypeId)(len:Nat)(ps:I (Nat×AV)):U AV:=
 match fQ P T with
 |some (e,k)=>match jB P e with
  |some z=>match rP (xr k 0 len) (tZ len (z.cells.toList.map λu=>.d (.v u))) ps with
   |some cs=>match om cs with
    |some b=>bif cP 1 k&&cP (len*k) 16777216&&z.cells.toList.length==k&&z.cells.toList.all Value.oneCell'&&(ps.all λp=>p.2.kT)then some (.full (pK k len b))else none
    |none=>none
   |none=>none
  |none=>none
 |none=>none
def KE(P:dg)(T:TypeId)(e:BinOp)(x y:AV):U (AV×In):=
 match x,y with
 | .d (.v (.int k a)),.d (.v (.int f b))=>
   match Sl e k a b with
   |some v=>bif zH k f then some (.d (.v v),.nz b)else none
   |none=>match VH e k a b with
    |some v=>some (.d (.v v),.nn b)
    |none=>match UB e k a b with
     |some v=>bif zH k f then some (.d (.v v),.none)else none
     |none=>none
 | .d (.v (.string a)),.d (.v (.string b))=>match Wo e a b with
   |some v=>some (.d (.v v),.none)
   |none=>match e with
    | .add=>some (.d (.v (.string (a++b))),.cat (a.size+b.size))
    |_=>none
 | .d (.v (.bool a)),.d (.v (.bool b))=>match Sz e a b with
   |some v=>bif Bg P T then some (.d (.v v),.none)else none
   |none=>none
 | .agg p,.agg q=>match OV P T p q with
   |some b=>match Az e b with
    |some v=>some (.d (.v v),.none)
    |none=>none
   |none=>none
 |_,_=>none
def MW(P:dg)(f p:TypeId)(x:AV)(a:cB):U (AV×In):=
 match x with
 | .d (.v (.int _ n))=>match sq P f,sq P p with
   |some _,some k=>some (.d (.v (.int k (k.wrap n))),.none)
   |_,_=>none
 | .d (.v (.string b))=>bif jj P f&&jj P p then some (.d (.v (.string b)),.none)else none
 |x=>match x.gX,fQ P f,a with
  |some q,some (e,_),.bytes s=>bif I9 P e&&jj P p then some (.d (.v (.string s)),.jE q)else none
  |_,_,_=>none
def NW(P:dg)(T:TypeId)(x:AV)(f:Nat):U AV:=
 match ug P T f,x with
 |some (b,k,true),.agg cs=>bif cP (b+k) cs.length then some (.agg ((cs.drop b).take k))else none
 |some (b,_,false),.agg cs=>cs[b]?
 |_,_=>none
def Og(h:I ar):U AV->U (AV×I ar×In)
 |some x=>some (x,h,.none)
 |none=>none
def DY(h:I ar):U (AV×In)->U (AV×I ar×In)
 |some (x,i)=>some (x,h,i)
 |none=>none
mutual
def AV.nrm:AV->AV
 | .full xs=>.d (.sl xs)
 | .d (.v (.slice none 0 0))=>.d (.sl [])
 | .agg cs=>.agg (AV.zF cs)
 | .bq cs=>.bq (AV.zF cs)
 |x=>x
def AV.zF:I AV->I AV
 |[]=>[]
 |x::l=>x.nrm::AV.zF l
end
def AV.Jt:AV->AV
 | .fn f cs=>match AV.xX cs with
   |some l=>.hid (.fn f l)
   |none=>.fn f cs
 |x=>x
def AV.arg(x:AV):AV:=((x.bQ 0).nrm).Jt
def AV.yC(x:AV):AV:=(x.bQ 0).nrm
def sdI:Sd->In
 | .no=>.none
 |p=>.sd p
def xR:U (AV×I ar×Sd)->U (AV×I ar×In)
 |some (x,h,p)=>some (x,h,sdI p)
 |none=>none
def vM(P:dg)(op:Op)(ρ:Operand->AV)(h:I ar)(a:cB):U (AV×I ar×In):=
 match op with
 | .move x| .assign x=>some (ρ x,h,.none)
 | .pick c x y=>match a with
   | .bit b=>some (bif b then ρ x else ρ y,h,.bit (ρ c))
   |_=>none
 | .alloc e=>match jB P e with
   |some z=>some (.ptr h.length 0,h++[ar.cells (z.cells.toList.map λu=>.d (.v u))],.none)
   |none=>none
 | .box _ x=>bif (ρ x).kT then some (.ptr h.length 0,h++[ar.cells (ρ x).cells],.none)else none
 | .load t p=>match AE h (ρ p)with
   |some (cs,F)=>match CA P t cs F with
    |some x=>some (x,h,.none)
    |none=>none
   |none=>none
 | .store t p x=>match ρ p with
   | .ptr n F=>match h[n]? with
     |some (.cells cs)=>match ic P t with
      |some k=>bif k==(ρ x).cells.length&&(ρ x).kT&&cP (F+(ρ x).cells.length) cs.length then some (.d (.v undef),h.set n (.cells (jK cs F (ρ x).cells)),.none)else none
      |none=>none
     |_=>none
   |_=>none
 | .nilCheck x=>match ρ x with
   | .ptr n F=>some (.ptr n F,h,.none)
   | .bM J i F=>some (.bM J i F,h,.none)
   | .fn f cs=>some (.fn f cs,h,.none)
   |_=>none
 | .fieldAddr S x f=>match ug P S f with
   |some (M,_,_)=>match ρ x with
    | .ptr n F=>some (.ptr n (F+M),h,.none)
    | .bM J i F=>some (.bM J i (F+M),h,.none)
    |_=>none
   |none=>none
 | .field T x f=>Og h (NW P T (ρ x) f)
 | .indexAddr T x i=>DY h (Vy P T (ρ x) (ρ i) a)
 | .index T x i=>match ρ x,(ρ i).int?,a with
   | .d (.v (.string b)),some z,.byte c=>bif jj P T then some (.d (.v (.int .u8 c.toNat)),h,.ch b z)else none
   |_,_,_=>none
 | .build T ps=>Og h (QG P T (ps.toList.map λp=>(p.1,ρ p.2)))
 | .buildSlice T L ps=>Og h (QD P T L (ps.toList.map λp=>(p.1,ρ p.2)))
 | .slice T x lo N R=>DY h (RQ P T ρ (ρ x) lo N R a)
 | .extract x i=>match ρ x with
   | .bq cs=>match cs[i]? with
     |some c=>some (c,h,.none)
     |none=>none
   |_=>none
 | .makeFunc (.func f) first H=>match Tm f (first.toList.map ρ) (H.toList.map ρ)with
   |some x=>some (x,h,.none)
   |none=>none
 | .binOp op T x y _=>DY h (KE P T op (ρ x) (ρ y))
 | .unOp op _ x=>match ρ x with
   | .d (.v u)=>match O6 op u with
     |some v=>some (.d (.v v),h,.none)
     |none=>none
   |_=>none
 | .convert s t x=>DY h (MW P s t (ρ x) a)
 | .call c=>match c.callee with
   | .builtin .len=>match c.args.toList,c.argTypes.toList with
     |[x],[T]=>DY h (Vg P T (ρ x) a)
     |_,_=>none
   | .builtin .append=>match c.args.toList,c.argTypes.toList with
     |[x,y],[T,B]=>bif (fQ P B).isSome then Vv P T h (ρ x) (ρ y) a else none
     |_,_=>none
   | .builtin .max=>match D9 true (c.args.toList.map ρ)with
     |some (k,a)=>some (.d (.v (.int k a)),h,.none)
     |none=>none
   | .builtin .min=>match D9 false (c.args.toList.map ρ)with
     |some (k,a)=>some (.d (.v (.int k a)),h,.none)
     |none=>none
   | .value f=>match ρ f,a with
     | .fn g H,.ret r=>bif ((c.args.toList.map ρ++H).map AV.arg).all (AV.aN 0)&&r.aN 0 then some (r,h,.call g ((c.args.toList.map ρ++H).map AV.arg))else none
     | .fn g H,.Wx r h'=>some (r,h',.kH g (c.args.toList.map ρ++H) h)
     | .fn g H,.UO l _ _ r H'=>some (r.aZ (rn l h.length),iW l (H'.map (ar.aZ (rn l h.length))) h,.pH g ((c.args.toList.map ρ++H).map AV.yC) h)
     | .fn g H,.ID l _ _ r H'=>some (r.aZ (rn l h.length),iW l (H'.map (ar.sP (rn l h.length))) h,.pH g ((c.args.toList.map ρ++H).map AV.yC) h)
     | .fn g H,.rq l _ _ r=>some (r.aZ (rn l 0),h,.pH g ((c.args.toList.map ρ++H).map AV.yC) h)
     | .hid q,.ret r=>bif ((c.args.toList.map ρ).map AV.arg).all (AV.aN 0)&&r.aN 0 then some (r,h,.Ec q ((c.args.toList.map ρ).map AV.arg))else none
     |_,_=>none
   |_=>none
 |op=>xR (rh P op ρ h)
def L6:∀l,AV.zF l=l.map AV.nrm
 |[]=>by simp [AV.zF]
 |x::l=>by simp [AV.zF,L6 l]
def aQ.nrm{G:Gh}{w:Zy}{u:kd}{x:AV}(h:aQ G w u x):aQ G w u x.nrm:=by
 have gL:∀(e:Array kd)(cs:I AV),(∀(i:Nat)(u:kd)(c:AV),e[i]?=some u->cs[i]?=some c->aQ G w u c.nrm)->∀(i:Nat)(u:kd)(c:AV),e[i]?=some u->(AV.zF cs)[i]?=some c->aQ G w u c:=by
  intro e cs F i u c M H;rw[L6,Zs]at H;cases q:cs[i]? with
  |none=>rw[q]at H;cases H
  |some x=>rw[q]at H;cases H;exact F i u x M q
 induction h with
 |agg e cs z _ F=>rw[AV.nrm];exact .agg e _ (by rw[L6,Zu];exact z) (gL e cs F)
 |bq e cs z _ F=>rw[AV.nrm];exact .bq e _ (by rw[L6,Zu];exact z) (gL e cs F)
 |full J N B=>rw[AV.nrm];exact .d N
 | @d u x h=>
   by_cases q:x= .v (.slice none 0 0);{subst q;cases h with|v=>simp only[AV.nrm];exact .d HA}
   ·have:(AV.d x).nrm= .d x:=by
     unfold AV.nrm;split<;>simp_all
    rw[this];exact .d h
 |own n J h N R B=>simp only[AV.nrm];exact .own n J h N R B
 |ptr n p h=>simp only[AV.nrm];exact .ptr n p h
 |bM J i p b o u x q hS M=>simp only[AV.nrm];exact .bM J i p b o u x q hS M
 |row n p len cap k h z hm=>simp only[AV.nrm];exact .row n p len cap k h z hm
 |fn f e cs z h=>simp only[AV.nrm];exact .fn f e cs z h
 |mp n h=>simp only[AV.nrm];exact .mp n h
 |cU n h=>simp only[AV.nrm];exact .cU n h
 |vec n o len L k h W hL B=>simp only[AV.nrm];exact .vec n o len L k h W hL B
 |eH n i j L k h W hL B=>simp only[AV.nrm];exact .eH n i j L k h W hL B
 |hid h h1=>simp only[AV.nrm];exact .hid h h1
 |dead u=>simp only[AV.nrm];exact .dead u
def AV.Le.Jt(x:AV):AV.Le x x.Jt:=λG w u h=>by
 unfold AV.Jt;split
 ·next f cs=>
  split
  ·next l e=>
   have:=h.cap (.fn f l) (by simp only[AV.cap,e]);cases h with|fn=>exact .hid this rfl
  ·exact h
 ·exact h
def AV.Le.arg(x:AV):AV.Le x x.arg:=λ_ _ _ h=>AV.Le.Jt _ _ _ _ (h.bQ 0).nrm
def dt.args{P:dg}{f:FuncId}{as:I AV}{h:I ar}{K:AV->I ar->Prop}(e:dt P f as h K)(bs:I AV)(k:as.length=bs.length)(b:∀(i:Nat)(c d:AV),bs[i]?=some c->as[i]?=some d->AV.Le c d):dt P f bs h K:=
 ⟨e.1,λG w v z B F=>e.2 G w v z (B.trans k.symm) λi u d H p=>by
  have q:i<bs.length:=by rw[<-k];exact(Zo.1 p).1
  exact b i _ d (Ze q) p G w u (F i u _ H (Ze q))⟩
def dt.YP{P:dg}{f:FuncId}{as:I AV}{h:I ar}{K:AV->I ar->Prop}(b:dt P f (as.map AV.arg) h K):dt P f as h K:=
 b.args as (by rw[Zu]) λi c d b e=>by
  rw[Zs,b]at e;cases e;exact AV.Le.arg c
def AV.Le.yC(x:AV):AV.Le x x.yC:=λ_ _ _ h=>(h.bQ 0).nrm
def dt.Pc{P:dg}{f:FuncId}{as:I AV}{h:I ar}{K:AV->I ar->Prop}(b:dt P f (as.map AV.yC) h K):dt P f as h K:=
 b.args as (by rw[Zu]) λi c d b e=>by
  rw[Zs,b]at e;cases e;exact AV.Le.yC c
def Xg(l:I fY):(l.map fY.av).all (AV.aN 0)=true:=by
 rw[Zd];intro x b;obtain⟨c,_,rfl⟩:=UU.1 b;cases c<;>rfl
def Rm.use{P:dg}{q:fY}{args:I AV}{r:AV}{h:I ar}{C:AV->I ar->Prop}(p:Rm P q (args.map AV.arg) r)(v:(args.map AV.arg).all (AV.aN 0)=true)(z:r.aN 0=true)(B:C r h):∃g as,q.app args=some (g,as)/\dt P g as h C:=by
 obtain⟨g,as,e,p⟩:=p;cases q with
 |d x=>simp [fY.app]at e
 |bM c F=>simp [fY.app]at e
 |fn u cs=>
  simp only[fY.app,UW,Prod.mk.injEq]at e;obtain⟨rfl,rfl⟩:=e;refine⟨u,_,rfl,dt.args (p.use (h:=h) (C:=C) (by rw[List.all_append,v,Xg];rfl) z B) _ (by simp) λi c d f b=> ?_⟩;by_cases k:i<args.length;{rw[ZX k]at f;rw[ZX (by simpa using k),Zs,f]at b;cases b;exact AV.Le.arg c};{rw[ZI (by omega)]at f;rw[ZI (by simpa using k),Zu,f]at b;cases b;exact AV.Le.refl c}
 |po u cs=>
  simp only[fY.app,UW,Prod.mk.injEq]at e;obtain⟨rfl,rfl⟩:=e;refine⟨u,_,rfl,dt.args (p.use (h:=h) (C:=C) (by rw[List.all_append,v,Xg];rfl) z B) _ (by simp) λi c d f b=> ?_⟩;by_cases k:i<(cs.map fY.av).length;{rw[ZX k]at f b;rw[f]at b;cases b;exact AV.Le.refl c};{rw[ZI (by omega)]at f b;rw[Zs,f]at b;cases b;exact AV.Le.arg c}
def ff{α:Type}{b:Bool}{x y:α}(h:(bif b then some x else none)=some y):b=true/\x=y:=by
 cases b with
 |true=>exact⟨rfl,Zw h⟩
 |false=>cases h
def lN{α:Type}{b:Bool}{x:U α}{y:α}(h:(bif b then x else none)=some y):b=true/\x=some y:=by
 cases b with
 |true=>exact⟨rfl,h⟩
 |false=>cases h
section
variable {P:dg} {ρ:Operand->AV} {h h':I ar} {a:cB} {i:In} {x:AV} {C:AV->I ar->Prop}
def OK.LF{x:AV}{b:Bool}(h:OK P (.bit x) (.bit b)):x= .d (.v (.bool b)):=by
 cases h with|bit h=>subst h;rfl
def Vc{t:TypeId}{p:AV}{cs:I AV}{off:Nat}{K:AV->Prop}(h1:AE h p=some (cs,off))(b:CA P t cs off=some x)(f:K x):ql P t h p K:=by
 have d:(match nE P t,ic P t with
     |some true,some k=>gN (cP (off+k) cs.length) (K (.agg ((cs.drop off).take k)))
     |some false,some _=>match cs[off]? with
      |some c=>K c
      |none=>False
     |_,_=>False):=by
  unfold CA at b;split at b
  ·next k q u=>
   obtain⟨v,rfl⟩:=ff b;exact cv.2 ⟨v,f⟩
  ·next k q u=>rw[b];exact f
  ·cases b
 unfold ql ur;unfold AE at h1;split at h1
 ·split at h1
  ·next z e=>cases h1;simp only[e];exact d
  ·cases h1
 ·split at h1
  ·next c e=>cases h1;simp only[e];exact d
  ·cases h1
 ·cases h1
def amQ{y:AV}{z:U Int}{k:Nat}(h1:Wd y z k a=some (x,i))(b:OK P i a):∃xs w c,y.gX=some xs/\z=some w/\0<=w/\xs[w.toNat]?=some c/\c.length=k/\x= .bM [c] 0 0:=by
 unfold Wd at h1;split at h1
 ·next xs w c d=>
  obtain⟨e,f⟩:=ff h1;cases f
  cases b with
  |el h0 p=>exact⟨_,_,_,d,rfl,h0,p,by simpa using e,rfl⟩
 ·cases h1
def atn{T:TypeId}{y z:AV}{K:AV->Prop}(h1:Vy P T y z a=some (x,i))(u:OK P i a)(v:K x):vt P T y z K:=by
 unfold Vy at h1;unfold vt;cases J:fQ P T with
 |some p=>
  obtain⟨e,k⟩:=p;simp only[J]at h1 ⊢;cases y with
  |row n B L M k'=>
   simp only at h1 ⊢;split at h1
   ·next w f=>
    obtain⟨N,F⟩:=ff h1;cases F
    cases u with|lt h0 q=>simp only[f];exact cv.2 ⟨N,h0,q,v⟩
   ·cases h1
  |_=>
   obtain⟨xs,w,c,R,W,e3,e4,e5,rfl⟩:=amQ h1 u;simp only[R,W,e4,e5];exact⟨e3,trivial,v⟩
 |none=>
  simp only[J]at h1 ⊢;split at h1
  ·next n e k b B w H f=>
   cases h1
   simp only[H,f];cases u with|lt h0 q=>exact⟨h0,q,v⟩
  ·next n e k c w H f=>
   split at h1
   ·next d=>
    obtain⟨hb,F⟩:=ff h1;cases F;simp only[H,f];cases u with|L0 h0 q h=>exact cv.2 ⟨hb,h0,q,by simp only[List.getElem?_cons_zero,ZQ,h];exact v⟩
   ·cases h1
  ·cases h1
def ano{T:TypeId}{y:AV}{K:Nat->Prop}{C:AV->Prop}(h1:Vg P T y a=some (x,i))(u:OK P i a)(p:C x)(q:∀n:Nat,C (.d (.v (.int .i64 n)))->K n):um P T y K:=by
 unfold Vg at h1;unfold um;split at h1;{obtain⟨f,k⟩:=ff h1;cases k;exact cv.2 ⟨f,q _ p⟩};{obtain⟨f,k⟩:=ff h1;cases k;exact cv.2 ⟨f,q _ p⟩}
 ·next z B=>
  split at h1
  ·next J n F=>
   obtain⟨f,k⟩:=ff h1;cases k;cases u with
   |len H=>
    subst H;split;{next s=>exact absurd rfl (z s)};{next a b c d e=>exact absurd rfl (B a b c d e)};{simp only[F];exact cv.2 ⟨f,q _ p⟩}
  ·cases h1
def akq{y:U Operand}{l:U Int}(h1:Il ρ y=some l):(y=none/\l=none)\/∃o z,y=some o/\l=some z/\(ρ o).int?=some z:=by
 unfold Il at h1;cases y with
 |none=>cases h1;exact .inl ⟨rfl,rfl⟩
 |some o=>
  simp only at h1;split at h1;{next z b=>cases h1;exact .inr ⟨o,z,rfl,rfl,b⟩};{cases h1}
def xJ{y:U Operand}{l:U Int}{d:Nat}{K:Nat->Prop}(h1:Il ρ y=some l)(h0:∀z,l=some z->0<=z)(b:K (oN l d)):ly ρ y d K:=by
 rcases akq h1 with⟨rfl,rfl⟩|⟨o,z,rfl,rfl,e⟩
 ·exact b
 ·simp only[ly,e];exact⟨h0 z rfl,b⟩
def arv{T:TypeId}{y:AV}{lo hi mx:U Operand}{K:AV->Prop}(h1:RQ P T ρ y lo hi mx a=some (x,i))(J:OK P i a)(p:K x):w5 P T ρ y lo hi mx K:=by
 unfold RQ at h1;unfold w5;split at h1
 ·split at h1
  ·next l L M N=>
   split at h1
   ·next b=>
    obtain⟨u,d⟩:=ff h1;cases d;cases J with
    |str h0 v R W=>
     refine cv.2 ⟨u,xJ N (λz e=>by subst e;exact R) ?_⟩;have e1:oN L b.size=(L.getD b.size).toNat:=by cases L<;>simp [oN]
     have B:oN l 0=(l.getD 0).toNat:=by cases l<;>simp [oN]
     rw[e1];refine⟨W,xJ M (λz e=>by subst e;exact h0) ?_⟩;rw[B];rw[e1,B]at p;exact⟨v,p⟩
   ·next n f=>
    split at h1
    ·next m e k F=>
     obtain⟨u,d⟩:=ff h1;cases d;simp only[F];generalize cP m 4096=q at u ⊢;rw[Zr]at u;refine cv.2 ⟨u.1,xJ N (λz e=>by cases e) (cv.2 ⟨dS.2 (Zv _),xJ M (λz e=>by cases e) (cv.2 ⟨?_,?_⟩)⟩)⟩;{rw[Zr];exact⟨dS.2 (Wv _),u.2⟩};{show K (.row n (f+0*k) (m-0) (m-0) k);rw[Nat.zero_mul,Nat.add_zero,Nat.sub_zero];exact p}
    ·cases h1
   ·next ze lO=>
    split at h1
    ·next xs e k ys hx F=>
     cases h1
     dsimp only;split;{next b=>exact absurd rfl (ze b)};{next n f=>exact absurd rfl (lO n f)}
     ·simp only[hx,F];cases L with
      |none=>
       cases J with
       |Dx h0 v H d=>
        refine⟨H,xJ N (λz e=>by cases e) ⟨Zv _,xJ M (λz e=>by subst e;exact h0) ?_⟩⟩;have B:oN l 0=(l.getD 0).toNat:=by cases l<;>simp [oN]
        rw[B];refine⟨v,?_⟩;rw[show oN none xs.length=xs.length from rfl,List.take_length,d];exact p
      |some z=>
       cases J with
       |sub h0 v R W H d=>
        refine⟨H,xJ N (λz e=>by cases e;exact R) ⟨W,xJ M (λz e=>by subst e;exact h0) ?_⟩⟩;have B:oN l 0=(l.getD 0).toNat:=by cases l<;>simp [oN]
        rw[B];refine⟨v,?_⟩;rw[show oN (some z) xs.length=z.toNat from rfl,d];exact p
    ·cases h1
  ·cases h1
 ·split at h1
  ·next m _ _ y' _ hm=>
   split at h1
   ·next xs e k _ _ ys hx F hy=>
    cases h1
    cases J with
    |sub h0 v R W H d=>
     simp only[hx,F];refine⟨H,?_⟩;simp only[ly,hm,hy,AV.int?];refine⟨Int.le_refl _,Wv _,Int.le_refl _,?_,by simpa using p⟩;first|rfl|trivial
   ·cases h1
  ·cases h1
def TJ{k:Nat}{y:AV}{ys:I (I D)}{K:I (I D)->Prop}(h1:Ll h k y=some ys)(q:∀c∈ys,c.length=k)(p:K ys):wG h k y K:=by
 unfold Ll at h1;unfold wG;split at h1
 ·split at h1
  ·next cs e=>
   split at h1
   ·next F u=>
    obtain⟨v,rfl⟩:=ff h1;simp only[e,u];exact cv.2 ⟨v,p⟩
   ·cases h1
  ·cases h1
 ·next z=>
  split;{next n b d f B=>exact absurd rfl (z n b d f B)};{simp only[h1];exact⟨q,p⟩}
def alG{T:TypeId}{y z:AV}(h1:Vv P T h y z a=some (x,h',i))(B:OK P i a)(u:C x h'):xt P T h y z C:=by
 unfold Vv at h1;unfold xt;split at h1
 ·next e k zs n' J=>
  simp only[J];split at h1
  ·next zv dy L M=>
   simp only[L,M];obtain⟨N,h1⟩:=lN h1;refine cv.2 ⟨N,?_⟩;split at h1
   ·next ys F=>
    split at h1
    ·next n xs=>
     split at h1
     ·next e' k' R W=>
      obtain⟨hc,he⟩:=ff h1;cases he;cases B with
      |app H v f b d p q=>
       subst p;subst q;refine TJ F f ?_;simp only[W];exact cv.2 ⟨hc,H,v,b,d,u⟩
     ·cases h1
    ·cases h1
     cases B with
     |app H v f b d p q=>
      subst p;subst q;refine TJ F f ?_;simp only[W2,Zf,ZQ]at u b d ⊢;exact⟨b,d,u⟩
    ·cases h1
     cases B with
     |app H v f b d p q=>
      subst p;subst q;exact TJ F f ⟨v,b,d,u⟩
    ·cases h1
   ·cases h1
  ·cases h1
 ·cases h1
def alq{T:TypeId}{ps:I (Nat×AV)}{K:AV->Prop}(h1:QG P T ps=some x)(b:K x):yU P T ps K:=by
 unfold QG at h1;unfold yU;split at h1
 ·next p z d e=>
  simp only[d,e];split at h1;{next cs f=>obtain⟨k,rfl⟩:=ff h1;simp only[f];exact cv.2 ⟨k,b⟩};{cases h1}
 ·cases h1
def aqv{T:TypeId}{len:Nat}{ps:I (Nat×AV)}{K:AV->Prop}(h1:QD P T len ps=some x)(b:K x):yf P T len ps K:=by
 unfold QD at h1;unfold yf;split at h1
 ·next e k d=>
  simp only[d];split at h1
  ·next z f=>
   simp only[f];split at h1
   ·next cs p=>
    simp only[p];split at h1;{next v q=>obtain⟨u,rfl⟩:=ff h1;simp only[q];exact cv.2 ⟨u,b⟩};{cases h1}
   ·cases h1
  ·cases h1
 ·cases h1
def Xf{T:TypeId}{u:BinOp}{y z:AV}{K:AV->Prop}(h1:KE P T u y z=some (x,i))(q:OK P i a)(d:K x):yx P T u y z K:=by
 unfold KE at h1;unfold yx;split at h1
 ·split at h1
  ·next v e=>
   obtain⟨f,k⟩:=ff h1;cases k;cases q with|nz h0=>simp only[e];exact cv.2 ⟨f,h0,d⟩
  ·next e=>
   simp only[e];split at h1
   ·next v p=>
    cases h1
    cases q with|nn h0=>simp only[p];exact⟨h0,d⟩
   ·next p=>
    simp only[p];split at h1;{next v B=>obtain⟨f,k⟩:=ff h1;cases k;simp only[B];exact cv.2 ⟨f,d⟩};{cases h1}
 ·split at h1
  ·next v e=>cases h1;simp only[e];exact d
  ·next e=>
   simp only[e];split at h1;{cases h1;cases q with|cat h=>exact⟨h,d⟩};{cases h1}
 ·split at h1
  ·next v e=>obtain⟨f,k⟩:=ff h1;cases k;simp only[e];exact cv.2 ⟨f,d⟩
  ·cases h1
 ·split at h1
  ·next b e=>
   simp only[e];split at h1;{next v p=>cases h1;simp only[p];exact d};{cases h1}
  ·cases h1
 ·cases h1
def aii{s t:TypeId}{y:AV}{K:AV->Prop}(h1:MW P s t y a=some (x,i))(u:OK P i a)(b:K x):xZ P s t y K:=by
 unfold MW at h1;unfold xZ;split at h1
 ·split at h1
  ·next d f=>cases h1;simp only[d,f];exact b
  ·cases h1
 ·obtain⟨p,q⟩:=ff h1;cases q;exact cv.2 ⟨p,b⟩
 ·next v z=>
  split at h1
  ·next M e k s' d f=>
   obtain⟨p,q⟩:=ff h1;cases q;cases u with
   |jE h=>
    obtain⟨B,F,H⟩:=h;subst H;split;{next J n=>exact absurd rfl (v J n)};{next L=>exact absurd rfl (z L)};{simp only[d,f];exact cv.2 ⟨p,B,F,b⟩}
  ·cases h1
def YT{T:TypeId}{y:AV}{f:Nat}{K:AV->Prop}(h1:NW P T y f=some x)(b:K x):zq P T y f K:=by
 unfold NW at h1;unfold zq;split at h1;{next e=>obtain⟨d,rfl⟩:=ff h1;simp only[e];exact cv.2 ⟨d,b⟩};{next e=>simp only[e,h1];exact b};{cases h1}
def Tj{y:U AV}(h1:Og h y=some (x,h',i)):y=some x/\h'=h:=by
 cases y with
 |none=>cases h1
 |some y=>cases h1;exact⟨rfl,rfl⟩
def Hv{y:U (AV×In)}(h1:DY h y=some (x,h',i)):y=some (x,i)/\h'=h:=by
 cases y with
 |none=>cases h1
 |some y=>cases h1;exact⟨rfl,rfl⟩
def B6{o:Oper}(h1:vM P o.op ρ h a=some (x,h',i))(J:OK P i a)(d:C x h'):dj P o ρ h C:=by
 obtain⟨dst,op,type,pos,after,guard⟩:=o;simp only at h1;unfold vM at h1;unfold dj;split at h1;{cases h1;exact d};{cases h1;exact d}
 ·next c y z=>
  split at h1
  ·next b=>
   cases h1
   simp only[OK.LF J];cases b<;>simp_all
  ·cases h1
 ·split at h1
  ·next z e=>cases h1;simp only[e];exact d
  ·cases h1
 ·obtain⟨v,L⟩:=ff h1;cases L;exact cv.2 ⟨v,d⟩
 ·split at h1
  ·next cs off e=>
   split at h1;{next y u=>cases h1;exact Vc e u d};{cases h1}
  ·cases h1
 ·split at h1
  ·next n off e=>
   split at h1
   ·next cs u=>
    split at h1;{next k e3=>obtain⟨v,L⟩:=ff h1;cases L;simp only[e,zg,u,e3];exact cv.2 ⟨v,d⟩};{cases h1}
   ·cases h1
  ·cases h1
 ·split at h1
  ·next e=>cases h1;simp only[e];exact d
  ·next e=>cases h1;simp only[e];exact d
  ·next e=>cases h1;simp only[e];exact d
  ·cases h1
 ·split at h1
  ·next e=>
   simp only[e];split at h1;{next u=>cases h1;simp only[u];exact d};{next u=>cases h1;simp only[u];exact d};{cases h1}
  ·cases h1
 ·obtain⟨e,rfl⟩:=Tj h1;exact YT e d
 ·obtain⟨e,rfl⟩:=Hv h1;exact atn e J d
 ·split at h1
  ·next b z c B u=>
   obtain⟨v,L⟩:=ff h1;cases L;cases J with
   |ch h0 F=>simp only[B,u];refine cv.2 ⟨v,h0,?_⟩;simp only[F];exact d
  ·cases h1
 ·obtain⟨e,rfl⟩:=Tj h1;exact alq e d
 ·obtain⟨e,rfl⟩:=Tj h1;exact aqv e d
 ·obtain⟨e,rfl⟩:=Hv h1;exact arv e J d
 ·split at h1
  ·next e=>
   split at h1;{next u=>cases h1;simp only[e,u];exact d};{cases h1}
  ·cases h1
 ·split at h1
  ·next e=>cases h1;simp only[e];exact d
  ·cases h1
 ·obtain⟨e,rfl⟩:=Hv h1;exact Xf e J d
 ·unfold yo;split at h1
  ·next e=>
   split at h1;{next u=>cases h1;simp only[e,u];exact d};{cases h1}
  ·cases h1
 ·obtain⟨e,rfl⟩:=Hv h1;exact aii e J d
 ·next c=>
  split at h1
  ·next F=>
   simp only[F];split at h1;{next B u=>obtain⟨e,rfl⟩:=Hv h1;simp only[B,u];exact ano (C:=λx=>C x _) e J d (λn hn=>hn)};{cases h1}
  ·next F=>
   simp only[F];split at h1;{next B u=>obtain⟨v,h1⟩:=lN h1;simp only[B,u];exact cv.2 ⟨v,alG h1 J d⟩};{cases h1}
  ·next F=>
   simp only[F];split at h1;{next B=>cases h1;simp only[B];exact d};{cases h1}
  ·next F=>
   simp only[F];split at h1;{next B=>cases h1;simp only[B];exact d};{cases h1}
  ·next f F=>
   simp only[F];split at h1
   ·next g W r e=>
    obtain⟨v,L⟩:=ff h1;cases L;simp only[Zr]at v;simp only[e];cases J with|call kH=>exact(kH.use v.1 v.2 d).YP
   ·next g W r h2 e=>
    cases h1
    simp only[e];cases J with|kH kH=>exact kH.mono λr1 h1 ⟨B,u⟩=>by subst B;subst u;exact d
   ·next g W l fJ H r H' e=>
    cases h1
    simp only[e];cases J with|pH N R v M F=>exact(N▸(F.pH R v M).mono λr1 h1 ⟨B,u⟩=>by subst B;subst u;exact d:dt P g _ _ _).Pc
   ·next g W l fJ H r H' e=>
    cases h1
    simp only[e];cases J with|Tg xF hv N R v M F=>exact(N▸(F.pH R (by rw[v,anC xF]) (by rw[Zr]at M ⊢;exact⟨M.1,ar0 xF M.2⟩)).mono λr1 h1 ⟨B,u⟩=>by subst B;subst u;rw[<-ak5 hv];exact d:dt P g _ _ _).Pc
   ·next g W l fJ H r e=>
    cases h1
    simp only[e];cases J with|rq N R v M F=>exact(N▸(by have:=F.rq R v M [];rw[ZV]at this;exact this.mono λr1 h1 ⟨B,u⟩=>by subst B;subst u;exact d):dt P g _ _ _).Pc
   ·next q r e=>
    obtain⟨v,L⟩:=ff h1;cases L;simp only[Zr]at v;simp only[e];cases J with|Ec hq=>exact hq.use v.1 v.2 d
   ·cases h1
  ·cases h1
 ·next op _=>
  unfold xR at h1;split at h1
  ·next y h2 p e=>
   cases h1
   simp only[e];refine⟨?_,d⟩;cases p with
   |no=>trivial
   |lt n=>cases J with|sd h=>exact h
  ·cases h1
end
def jL:I (Nat×cB)->Nat->cB
 |[],_=>.none
 |(k,x)::l,i=>bif k==i then x else jL l i
def xm(i:In)(a:cB)(r:U (St×I (In×cB))):U (St×I (In×cB)):=
 match i with
 | .none=>r
 |i=>match r with
  |some (s,l)=>some (s,(i,a)::l)
  |none=>none
def Cw:cB->Bool
 | .Wx .. | .UO .. | .ID .. =>true
 |_=>false
def BR(o:Oper):cB->Bool
 | .ID [] .. =>cW o==6
 |_=>false
def Fa(P:dg)(dr d:Bool)(b:Op)(ρ:Operand->AV)(h:I ar)(a:cB):U (AV×I ar×In):=
 match a with
 | .va e=>bif dr&& !d then none else match jr P b ρ h e with
   |some (x,h',p)=>some (x,h',.pr p)
   |none=>none
 |a=>vM P b ρ h a
def pe(P:dg)(dr:Bool)(o:Oper)(j:Nat)(as:I (Nat×cB))(s:St):U (St×I (In×cB)):=
 bif dr&&Cw (jL as (3*j+1))&& !BR o (jL as (3*j+1))then none else
 match Fa P dr (kZ o) o.op (ev s) s.h (jL as (3*j+1))with
 |some (x,h',i)=>match jL as (3*j+2)with
  | .eq y=>xm i (jL as (3*j+1)) (some ((s.wh h').put o.dst y,[(.eq x,.eq y)]))
  |_=>xm i (jL as (3*j+1)) (some ((s.wh h').put o.dst x,[]))
 |none=>none
def E8(o:Oper)(s:St):St:=s.put o.dst (.d (.v undef))
def tf(l:I (In×cB)):U (St×I (In×cB))->U (St×I (In×cB))
 |some (s,m)=>some (s,l++m)
 |none=>none
def pf(P:dg)(ops:Array Oper)(dr:Bool)(o:Oper)(j:Nat)(as:I (Nat×cB))(s:St):U (St×I (In×cB)):=
 match o.guard with
 |none=>pe P dr o j as s
 |some (g,d)=>match jL as (3*j)with
  | .bit b=>tf [(.bit (wg ops g s.t),.bit b)] (bif b==d then pe P dr o j as s else some (E8 o s,[]))
  | .IY=>tf [(.bit (wg ops g s.t),.IY)] (some (E8 o s,[]))
  |_=>none
def qd(P:dg)(ops:Array Oper)(dr:Bool):I Oper->Nat->I (Nat×cB)->St->U (St×I (In×cB))
 |[],_,_,s=>some (s,[])
 |o::rest,j,as,s=>match pf P ops dr o j as s with
  |some (s1,l)=>tf l (qd P ops dr rest (j+1) as s1)
  |none=>none
def AllOK(P:dg)(l:I (In×cB)):Prop:=∀p∈l,OK P p.1 p.2
section
variable {P:dg} {ops:Array Oper} {dr:Bool} {o:Oper} {j:Nat} {as:I (Nat×cB)} {s s1:St} {l:I (In×cB)} {K:St->Prop}
def JV{i:In}{a:cB}{r:U (St×I (In×cB))}(h:xm i a r=some (s1,l))(b:AllOK P l):∃m,r=some (s1,m)/\AllOK P m/\OK P i a:=by
 unfold xm at h;split at h;{exact⟨l,h,b,.none⟩}
 ·split at h
  ·next e m=>
   cases h
   exact⟨m,rfl,λp d=>b p (Zg _ d),b (i,a) Zq⟩
  ·cases h
def Cs{r:U (St×I (In×cB))}{m:I (In×cB)}(h:tf m r=some (s1,l))(d:AllOK P l):∃n,r=some (s1,n)/\AllOK P n/\AllOK P m:=by
 unfold tf at h;split at h
 ·next e n=>
  cases h
  exact⟨n,rfl,λp b=>d p (a8 _ b),λp b=>d p (ak _ b)⟩
 ·cases h
def M4(P:dg)(dr:Bool)(o:Oper)(K:St->Prop)(s:St):Prop:=bif dr then Y4 P o K s else qw P o K s
def aiR{x:AV}{h':I ar}{i:In}{a:cB}(h1:vM P o.op (ev s) s.h a=some (x,h',i))(d:OK P i a)(p:Cw a=false)(k:K ((s.wh h').put o.dst x)):Y4 P o K s:=by
 refine .inl ?_;unfold CB;split
 ·next c F=>
  split
  ·next f u=>
   rw[F]at h1;unfold vM at h1;simp only[u]at h1;split at h1
   ·next g J r e=>
    obtain⟨b,v⟩:=ff h1;cases v;simp only[Zr]at b;simp only[e];cases d with
    |call L=>exact⟨_,k,λe=>(L.use b.1 b.2 ⟨rfl,rfl⟩).YP⟩
   ·cases p
   ·cases p
   ·cases p
   ·next g J l fJ H r e=>
    cases h1
    simp only[e];cases d with|rq M N b R u=>exact⟨_,k,λe=>(M▸u.rq N b R e:dt P g _ _ _).Pc⟩
   ·next q r e=>
    obtain⟨b,v⟩:=ff h1;cases v;simp only[Zr]at b;simp only[e];cases d with
    |Ec W=>
     have:=λh=>W.use (h:=h) (C:=λr' h'=>r'=x/\h'=h) b.1 b.2 ⟨rfl,rfl⟩;obtain⟨g,cs,z,_⟩:=this [];refine⟨g,cs,z,x,k,λe=> ?_⟩;obtain⟨g',cM,B,h9⟩:=this (s.h++e);rw[z]at B;cases B
     exact h9
   ·cases h1
  ·exact B6 (C:=λx h'=>K ((s.wh h').put o.dst x)) h1 d k
 ·exact B6 (C:=λx h'=>K ((s.wh h').put o.dst x)) h1 d k
def aiU{o:Oper}{ρ:Operand->AV}{h h':I ar}{e:I AV}{H H':I ar}{r x:AV}{i:In}(d:cW o=6)(b:vM P o.op ρ h (.ID [] e H r H')=some (x,h',i)):h'=h++H'.map (ar.sP (rn [] h.length)):=by
 unfold cW at d;split at d
 all_goals first|(cases d;done)|skip
 next c k=>
  split at d
  all_goals first|(cases d;done)|skip
  next f p=>
   rw[k]at b;unfold vM at b;simp only[p]at b;generalize ρ f=v at b;cases v<;>first|(cases b;rfl)|cases b
def Ud(h:pe P dr o j as s=some (s1,l))(L:AllOK P l)(M:K s1):M4 P dr o K s:=by
 unfold pe at h;cases u:dr&&Cw (jL as (3*j+1))&& !BR o (jL as (3*j+1))with
 |true=>rw[u]at h;cases h
 |false=>
  rw[u]at h;simp only[T6]at h;split at h
  ·next x h' i b=>
   have q:OK P i (jL as (3*j+1))->K ((s.wh h').put o.dst x)->M4 P dr o K s:=λd f=>by
    unfold M4;cases dr with
    |true=>
     unfold Fa at b;split at b
     ·next v e=>
      cases z:kZ o with
      |false=>rw[z]at b;cases b
      |true=>
       rw[z]at b;simp only[W1,Bool.and_false,T6]at b;split at b
       ·next W WD p B=>
        cases b
        rw[e]at d;cases d with|pr _ F=>exact .inr (.inr (.inl ⟨.inl ⟨z,rfl⟩,v,x,h',p,B,F,f⟩))
       ·cases b
     ·by_cases k:BR o (jL as (3*j+1))=true
      ·refine .inr (.inr (.inr ?_));generalize jL as (3*j+1)=a at k d b;unfold BR at k;split at k
       ·next fJ H r H'=>
        have N:cW o=6:=by simpa using k
        have this:h'=s.h++H'.map (ar.sP (rn [] s.h.length)):=aiU N b;refine⟨N,x,H'.map (ar.sP (rn [] s.h.length)),?_,λC R=> ?_⟩;{rw[<-this];exact f};{rw[<-this]at R;exact B6 b d R}
       ·cases k
      ·exact aiR b d (by simpa [k]using u) f
    |false=>
     unfold Fa at b;split at b
     ·next v e=>
      simp only[Bool.false_and,T6]at b;split at b
      ·next W WD p B=>
       cases b
       rw[e]at d;cases d with|pr _ F=>exact .inl ⟨v,x,h',p,B,F,f⟩
      ·cases b
     ·exact .inr (.inr (.inl (B6 (C:=λx h'=>K ((s.wh h').put o.dst x)) b d f)))
   split at h
   ·next y hy=>
    obtain⟨m,e,f,J⟩:=JV h L;cases e
    have:=f (.eq x,.eq y) Zq;cases this with|eq e=>subst e;exact q J M
   ·obtain⟨m,e,f,J⟩:=JV h L;cases e
    exact q J M
  ·cases h
def UF(h:pf P ops dr o j as s=some (s1,l))(u:AllOK P l)(k:K s1):jY ops o s (M4 P dr o K s) (K (s.put o.dst (.d (.v undef)))):=by
 unfold pf at h;split at h;{next p=>unfold jY;rw[p];exact Ud h u k}
 ·next g f p=>
  obtain⟨J,R,W,L,after,guard⟩:=o;simp only at p;subst p;split at h
  ·next b M=>
   obtain⟨n,e,H,B⟩:=Cs h u;have q:=OK.LF (B (_,_) Zq);rw[LX,q];refine⟨λF=> ?_,λF=> ?_⟩;{subst F;simp only[BEq.rfl,Tq]at e;exact Ud e H k}
   ·subst F;have:((!f)==f)=false:=by cases f<;>rfl
    rw[this]at e;simp only[T6]at e;cases e
    exact k
  ·next M=>
   obtain⟨n,e,H,B⟩:=Cs h u;cases e
   have q:=B (_,_) Zq;have N:wg ops g s.t= .d (.v undef):=by
    generalize wg ops g s.t=z at q;cases q;rfl
   rw[LX,N];exact k
  ·cases h
def zi:∀(ol:I Oper)(j:Nat)(s:St)(l:I (In×cB)),qd P ops dr ol j as s=some (s1,l)->AllOK P l->K s1->(bif dr then FY P ops ol K s else uM P ops ol K s)
 |[],_,s,l,h,_,b=>by cases h;cases dr<;>exact b
 |o::rest,j,s,l,h,p,b=>by
  unfold qd at h;split at h
  ·next q m d=>
   obtain⟨n,e,u,f⟩:=Cs h p;have k:=zi rest (j+1) q n e u b;cases dr with
   |true=>exact UF (K:=FY P ops rest K) d f k
   |false=>exact UF (K:=uM P ops rest K) d f k
  ·cases h
def Qy(s:St)(d:U Nat)(x:AV):∃b,(s.put d x).t=b++s.t:=by
 cases d with
 |none=>exact⟨[],rfl⟩
 |some k=>
  by_cases e:k<s.n;{exact⟨[(k,x)],by rw[sY e];rfl⟩};{exact⟨[],by rw[JB e];rfl⟩}
def Qm(h:pf P ops dr o j as s=some (s1,l)):(∃b,s1.t=b++s.t)/\s1.n=s.n:=by
 have k:∀{i a r l},xm i a r=some (s1,l)->∃m,r=some (s1,m):=fun{i a r l} h=>by
  unfold xm at h;split at h;{exact⟨_,h⟩}
  ·split at h
   ·cases h;exact⟨_,rfl⟩
   ·cases h
 have d:∀{m r l},tf m r=some (s1,l)->∃m,r=some (s1,m):=fun{m r l} h=>by
  unfold tf at h;split at h;{cases h;exact⟨_,rfl⟩};{cases h}
 have st:∀l,pe P dr o j as s=some (s1,l)->(∃b,s1.t=b++s.t)/\s1.n=s.n:=λl h=>by
  unfold pe at h;cases f:dr&&Cw (jL as (3*j+1))&& !BR o (jL as (3*j+1))with
  |true=>rw[f]at h;cases h
  |false=>
   rw[f]at h;simp only[T6]at h;split at h;{split at h<;>(obtain⟨m,e⟩:=k h;cases e;exact⟨Qy _ _ _,by rw[sO];rfl⟩)};{cases h}
 unfold pf at h;split at h;{exact st _ h}
 ·split at h
  ·obtain⟨m,e⟩:=d h;revert e;generalize ((_:Bool)==_)=q;intro e;cases q with
   |true=>exact st _ e
   |false=>cases e;exact⟨Qy _ _ _,by unfold E8;rw[sO]⟩
  ·obtain⟨m,e⟩:=d h;cases e;exact⟨Qy _ _ _,by unfold E8;rw[sO]⟩
  ·cases h
def SU:∀(ol:I Oper)(j:Nat)(s:St)(l:I (In×cB)),qd P ops dr ol j as s=some (s1,l)->(∃b,s1.t=b++s.t)/\s1.n=s.n
 |[],_,s,l,h=>by cases h;exact⟨⟨[],rfl⟩,rfl⟩
 |o::rest,j,s,l,h=>by
  unfold qd at h;split at h
  ·next d m f=>
   unfold tf at h;split at h
   ·next B n e=>
    cases h
    obtain⟨⟨k,p⟩,q⟩:=Qm f;obtain⟨⟨u,v⟩,z⟩:=SU rest (j+1) d n e;exact⟨⟨u++k,by rw[v,p,ZR]⟩,z.trans q⟩
   ·cases h
  ·cases h
end
def Xc:AV->Bool
 | .dead=>true
 |_=>false
def tD(P:dg)(dr:Bool)(l:I Oper)(as:I (Nat×cB))(keep:I Nat)(s:St):U (I (Nat×AV)×I ar×I (In×cB)):=
 match qd P l.toArray dr l 0 as s with
 |some (s1,ps)=>bif (s1.t.take (s1.t.length-s.t.length)).all (λp=>keep.any (·==p.1)||Xc (bP s.t p.1))then some (keep.map λk=>(k,bP s1.t k),s1.h,ps)else none
 |none=>none
def IW:∀(a b:I (Nat×AV))(i:Nat),(i∈a.map (·.1)/\bP (a++b) i=bP a i)\/(i ∉ a.map (·.1)/\bP (a++b) i=bP b i)
 |[],b,i=>.inr ⟨by simp,rfl⟩
 |(k,x)::a,b,i=>by
  by_cases e:i=k;{subst e;exact .inl ⟨by simp,by simp [mE]⟩}
  ·rcases IW a b i with⟨d,f⟩|⟨d,f⟩
   ·exact .inl ⟨by simp at d ⊢;exact .inr d,by rw[List.cons_append,mE,ae e,f,mE,ae e]⟩
   ·exact .inr ⟨by simp at d ⊢;exact⟨e,d⟩,by rw[List.cons_append,mE,ae e,f]⟩
section
variable {P:dg} {dr:Bool} {as:I (Nat×cB)} {s s1 s':St} {ps:I (In×cB)} {keep:I Nat} {ol:I Oper} {Δ:I (Nat×AV)} {h':I ar}
def MM(h:tD P dr ol as keep s=some (Δ,h',ps)):∃s1,qd P ol.toArray dr ol 0 as s=some (s1,ps)/\s1.n=s.n/\s1.h=h'/\∀i,bP (Δ++s.t) i=bP s1.t i\/bP (Δ++s.t) i= .dead:=by
 unfold tD at h;split at h
 ·next s1 L u=>
  obtain⟨v,M⟩:=ff h;cases M
  obtain⟨⟨d,B⟩,N⟩:=SU _ _ _ _ u;refine⟨s1,u,N,rfl,λi=> ?_⟩;have F:∀(f:Nat->AV),(keep.map λk=>(k,f k)).map (·.1)=keep:=λf=>by rw[List.map_map];exact List.map_id _
  rcases IW (keep.map λk=>(k,bP s1.t k)) s.t i with⟨b,q⟩|⟨b,q⟩
  ·rw[F]at b;rw[q,tA (λk=>bP s1.t k),ab b];exact .inl rfl
  ·rw[F]at b;rw[q];rw[B,Zk,Nat.add_sub_cancel,List.take_left']at v
   ·rw[B];rcases IW d s.t i with⟨H,J⟩|⟨H,J⟩
    ·right
     obtain⟨p,R,rfl⟩:=UU.1 H;have:=Zd.1 v p R;rw[aq]at this;rcases this with this|this
     ·exfalso;obtain⟨k,W,e⟩:=List.any_eq_true.1 this;rw[Ua]at e;exact b (e▸W)
     ·generalize bP s.t p.1=z at this;cases z<;>first|rfl|cases this
    ·exact .inl J.symm
   ·rfl
 ·cases h
def dx.less{G:Gh}{w:Zy}{a:Act}(b:dx G w a s1)(d:s'.n=s1.n)(f:s'.h=s1.h)(k:∀i,bP s'.t i=bP s1.t i\/bP s'.t i= .dead):dx G w a s':=
 ⟨b.size.trans d.symm,λi=>by
  rcases k i with e|e
  ·rw[e];exact b.tmp i
  ·rw[e];exact .dead _,by rw[f];exact b.inv,b.df⟩
end
structure Ob(P:Program) where
 i:In
 o:cB
 ok:OK P i o
def bT{P:dg}{e:Bool}(h:e=true):Ob P:=⟨_,_,.bit (b:=true) h⟩
def bF{P:dg}{e:Bool}(h:e=false):Ob P:=⟨_,_,.bit (b:=false) h⟩
def uN{P:dg}:Ob P:=⟨_,_,.IY⟩
def cL{P:dg}{f:FuncId}{args:I AV}{r:AV}(h:AFn P f args (·=r)):Ob P:=⟨_,_,.call h⟩
def jZ{P:dg}(l:I (Nat×Ob P)):I (Nat×cB):=l.map λb=>(b.1,b.2.o)
def kC{P:dg}(l:I (Nat×Ob P)):I (In×cB):=l.map λb=>(b.2.i,b.2.o)
def rM{P:dg}(l:I (Nat×Ob P)):AllOK P (kC l):=λp d=>by
 obtain⟨b,_,rfl⟩:=UU.1 d;exact b.2.ok
section
variable {P:dg} {r:U Nat} {N0 id:Nat} {ol:I Oper} {y:Code} {s:St} {Q Q':Exit->St->Prop} {aC:I (Nat×Ob P)} {Δ:I (Nat×AV)} {h':I ar}
def M9{c:Code}{s':St}(b:s'.n=s.n)(d:s'.h=s.h)(e:∀i,bP s'.t i=bP s.t i\/bP s'.t i= .dead)(h:bR P r N0 c Q s'):bR P r N0 c Q s:=
 ⟨λG w a n f k=>h.run G w a n (f.less b d e) k⟩
def Xb(aC:I (Nat×Ob P))(Δ:I (Nat×AV))(h':I ar)(h:tD P false ol (jZ aC) (Δ.map (·.1)) s=some (Δ,h',kC aC))(k:bR P r N0 y Q' ⟨s.n,Δ++s.t,h'⟩):bR P r N0 (.region id ol.toArray false) (je (λs=>bR P r N0 y Q' s) Q) s:=by
 obtain⟨s1,b,d,e,f⟩:=MM h;refine fU ?_;exact zi (dr:=false) ol 0 s _ b (rM aC) (M9 (s:=s1) (s':=⟨s.n,Δ++s.t,h'⟩) d.symm e.symm f k)
def aqN(b:P.follows .mixedOrders=true)(d:sx ol.toArray=true)(aC:I (Nat×Ob P))(Δ:I (Nat×AV))(h':I ar)(h:tD P true ol (jZ aC) (Δ.map (·.1)) s=some (Δ,h',kC aC))(k:bR P r N0 y Q' ⟨s.n,Δ++s.t,h'⟩):bR P r N0 (.region id ol.toArray true) (je (λs=>bR P r N0 y Q' s) Q) s:=by
 obtain⟨s1,e,f,p,q⟩:=MM h;refine P7 b d ?_;exact zi (dr:=true) ol 0 s _ e (rM aC) (M9 (s:=s1) (s':=⟨s.n,Δ++s.t,h'⟩) f.symm p.symm q k)
def yl(P:dg)(dr:Bool)(l:I Oper)(as:I (Nat×cB))(s:St):U (I (Nat×AV)×I ar×I (In×cB)):=
 match qd P l.toArray dr l 0 as s with
 |some (s1,ps)=>some (s1.t,s1.h,ps)
 |none=>none
def Rj{dr:Bool}{as:I (Nat×cB)}{t:I (Nat×AV)}{ps:I (In×cB)}(h:yl P dr ol as s=some (t,h',ps)):qd P ol.toArray dr ol 0 as s=some (⟨s.n,t,h'⟩,ps):=by
 unfold yl at h;split at h
 ·next s1 d b=>
  cases h
  obtain⟨_,e⟩:=SU _ _ _ _ b;rw[b,<-e]
 ·cases h
def ah4(aC:I (Nat×Ob P))(Δ:I (Nat×AV))(h':I ar)(h:yl P false ol (jZ aC) s=some (Δ++s.t,h',kC aC))(k:Q .normal ⟨s.n,Δ++s.t,h'⟩):bR P r N0 (.region id ol.toArray false) Q s:=
 fU (zi (dr:=false) ol 0 s _ (Rj h) (rM aC) k)
def alo(b:P.follows .mixedOrders=true)(d:sx ol.toArray=true)(aC:I (Nat×Ob P))(Δ:I (Nat×AV))(h':I ar)(h:yl P true ol (jZ aC) s=some (Δ++s.t,h',kC aC))(k:Q .normal ⟨s.n,Δ++s.t,h'⟩):bR P r N0 (.region id ol.toArray true) Q s:=
 P7 b d (zi (dr:=true) ol 0 s _ (Rj h) (rM aC) k)
end
def AV.fin(m:Nat)(x:AV):AV:=(x.bQ m).nrm
def ar.rJ:ar->ar
 | .cells cs=>.cells (cs.map AV.nrm)
 | .lp b p as bd cs=>.lp b p as bd (cs.map AV.nrm)
 | .it d cs=>.it d (cs.map AV.nrm)
 | .fM T cs=>.fM T (cs.map AV.nrm)
 | .vec e k cs=>.vec e k (cs.map (·.map AV.nrm))
 |B=>B
def ln(s:St)(live:I Nat)(m:Nat):U St:=bif cP m s.h.length&&(live.all λk=>((bP s.t k).bQ m).aN m)&&(((s.h.take m).map (ar.bQ m)).all (ar.aN m))then some ⟨s.n,live.map λk=>(k,(bP s.t k).fin m),((s.h.take m).map (ar.bQ m)).map ar.rJ⟩else none
def R0{G:Gh}{w:Zy}{h:I ar}(hi:cu G w h):cu G w (h.map ar.rJ):=by
 have fy:∀(n:Nat)(B:ar),(h.map ar.rJ)[n]?=some B->∃B',h[n]?=some B'/\B=B'.rJ:=λn B q=>by
  rw[Zs]at q;cases f:h[n]? with
  |none=>rw[f]at q;cases q
  |some B'=>rw[f]at q;cases q;exact⟨B',rfl,rfl⟩
 have fu:∀n b,cr (h.map ar.rJ) G n=some b->cr h G n=some b:=λn b hb=>by
  obtain⟨B,q,hb⟩:=n9 hb;obtain⟨B',W,rfl⟩:=fy n B q;rw[eG W,<-hb];cases B'<;>rfl
 refine⟨by rw[Zu];exact hi.len,hi.z,hi.S,λn B q=> ?_,λi j b W h2=>hi.inj i j b (fu i b W) (fu j b h2),hi.gl⟩;obtain⟨B',W,rfl⟩:=fy n B q;have v:=hi.dM n B' W;cases B' with
 |gone=>trivial
 |front e k len=>exact v
 |jE e b=>exact v
 |map kv=>exact v
 |jX kv=>exact v
 |vec e k cs=>
  obtain⟨F,H,J,L⟩:=v;refine⟨by rw[Zu];exact F,by rw[Zu];exact H,λc d=> ?_,?_⟩;{obtain⟨x,f,rfl⟩:=UU.1 d;rw[Zu];exact J x f}
  ·rcases L with⟨d1,d2,A,d3⟩|⟨g,cap,cur,d1,d2,d3,d4,d5,d6,d7,d8,d9⟩
   ·exact .inl ⟨d1,by rw[d2];rfl,A,d3⟩
   ·refine .inr ⟨g,cap,cur,d1,by rw[Zu];exact d2,d3,d4,by rw[Zu];exact d5,d6,d7,d8,λi j c x u d f M=> ?_⟩;rw[Zs]at d;cases hy:cs[i]? with
    |none=>rw[hy]at d;cases d
    |some y=>
     rw[hy]at d;cases d
     rw[Zs]at f;cases hw:y[j]? with
     |none=>rw[hw]at f;cases f
     |some z=>rw[hw]at f;cases f;exact(d9 i j y z u hy hw M).nrm
 |cells cs=>
  obtain⟨F,H,N,T,J,L,R⟩:=v;refine⟨F,H,N,T,J,by rw[Zu];exact L,λi u c M d=> ?_⟩;rw[Zs]at d;cases f:cs[i]? with
  |none=>rw[f]at d;cases d
  |some x=>rw[f]at d;cases d;exact(R i u x M f).nrm
 |lp ls p as bd cs=>
  obtain⟨F,H,fn,N,T,J,L,R⟩:=v;refine⟨F,H,fn,N,T,J,by rw[Zu];exact L,λi u c M d=> ?_⟩;rw[Zs]at d;cases f:cs[i]? with
  |none=>rw[f]at d;cases d
  |some x=>rw[f]at d;cases d;exact(R i u x M f).nrm
 |it sn cs=>
  obtain⟨F,H,fn,N,T,J,L,R⟩:=v;refine⟨F,H,fn,N,T,J,by rw[Zu];exact L,λi u c M d=> ?_⟩;rw[Zs]at d;cases f:cs[i]? with
  |none=>rw[f]at d;cases d
  |some x=>rw[f]at d;cases d;exact(R i u x M f).nrm
 |fM T0 cs=>
  obtain⟨F,H,fn,N,T,J,L,R⟩:=v;refine⟨F,H,fn,N,T,J,by rw[Zu];exact L,λi u c M d=> ?_⟩;rw[Zs]at d;cases f:cs[i]? with
  |none=>rw[f]at d;cases d
  |some x=>rw[f]at d;cases d;exact(R i u x M f).nrm
section
variable {P:dg} {r:U Nat} {n N0:Nat} {G:Gh} {w:Zy} {a:Act} {s s':St} {Q Q':Exit->St->Prop} {live:I Nat} {m:Nat}
def aj1(h:ln s live m=some s'):s.Ba live m/\s'.n=s.n/\s'.t=(live.map λk=>(k,(bP s.t k).fin m))/\s'.h=((s.h.take m).map (ar.bQ m)).map ar.rJ:=by
 unfold ln at h;obtain⟨b,rfl⟩:=ff h;rw[Zr,Zr]at b;exact⟨⟨dS.1 b.1.1,b.1.2,b.2⟩,rfl,rfl,rfl⟩
def dx.ln(b:dx G w a s)(h:ln s live m=some s'):dx (G.cut m) w a s':=by
 obtain⟨f,p,q,u⟩:=aj1 h;have e:=b.mask f;refine⟨b.size.trans p.symm,λi=> ?_,by rw[u];exact R0 e.inv,b.df⟩;have:=e.tmp i
 change aQ _ _ _ (bP (live.map λk=>(k,(bP s.t k).bQ m)) i)at this
 rw[tA (λk=>(bP s.t k).bQ m)]at this;rw[q,tA (λk=>(bP s.t k).fin m)];split at this;{rename_i d;rw[ab d];exact this.nrm};{rename_i d;rw[ae d];exact .dead _}
def SI{c:Code}{ι:Type}(live:I Nat)(m:Nat)(st:ι->St)(b:ι->Prop)(μ:ι->Nat)(d:ι)(k:N0<=m)(h0:Go.Proofs.YtnnapanbbbcalaaGreatDoor.ln s live m=some (st d))(z:b d)
 (round:∀i,b i->bR P r N0 c (je (λs'=>∃i',Go.Proofs.YtnnapanbbbcalaaGreatDoor.ln s' live m=some (st i')/\b i'/\μ i'<μ i) Q) (st i)):bR P r N0 (.loop c) Q s:=by
 constructor
 intro G w a n B _;refine WJ (λ(i:ι) f w'=>∃G',b i/\cq N0 G w G' w'/\N0<=G'.N/\dx G' w' f (st i)) μ d ⟨G.cut m,z,qS _ _ _ _,k,B.ln h0⟩ ?_;rintro i f w' ⟨G',F,p,H,J⟩;refine wpIn_mono ((round i F).run G' w' f n J H) λe a1 w1 L=> ?_;obtain⟨G1,s1,q,M,u,v⟩:=L;cases e with
 |normal=>
  obtain⟨i',R,W,h3⟩:=v;exact⟨i',⟨G1.cut m,W,(p.trans q).trans (qS _ _ _ _),k,u.ln R⟩,h3⟩
 |_=>exact⟨G1,s1,p.trans q,M,u,v⟩
def gr{c:Code}(live:I Nat)(m:Nat)(b:N0<=m)(h0:Go.Proofs.YtnnapanbbbcalaaGreatDoor.ln s live m=some s')(h:bR P r N0 c Q s'):bR P r N0 c Q s:=by
 constructor
 intro G w a n d _;exact wpIn_mono (h.run (G.cut m) w a n (d.ln h0) b) λ_ _ _ e=>e.trans (qS N0 G w m)
def qW{c y:Code}{ι:Type}(live:I Nat)(m:Nat)(st:ι->St)(b:ι->Prop)(d:N0<=m)(f:bR P r N0 c (je (λs'=>∃i,Go.Proofs.YtnnapanbbbcalaaGreatDoor.ln s' live m=some (st i)/\b i) Q) s)(k:∀i,b i->bR P r N0 y Q' (st i)):bR P r N0 c (je (λs=>bR P r N0 y Q' s) Q) s:=by
 refine f.mono λe s' h=> ?_;cases e with
 |normal=>obtain⟨i,p,q⟩:=h;exact gr live m d p (k i q)
 |_=>exact h
def ve(P:dg)(s:St):I ResultVar->U (I AV)
 |[]=>some []
 | .tmp t::l=>match ve P s l with
   |some b=>some (bP s.t t::b)
   |none=>none
 | .cell p t::l=>match AE s.h (bP s.t p)with
   |some (cs,d)=>match CA P t cs d,ve P s l with
    |some x,some b=>some (x::b)
    |_,_=>none
   |none=>none
def zo(P:dg)(b:I ResultVar)(s:St):U AV:=
 match ve P s b with
 |some l=>bif ((la l).bQ 0).aN 0 then some ((la l).fin 0)else none
 |none=>none
def l8(P:dg)(fn:Func)(R:AV):Exit->St->Prop
 | .normal,s=>zo P fn.results.toList s=some R
 | .ret,s=>zo P fn.results.toList s=some R
 |_,_=>False
def Ht:∀(l:I ResultVar)(xs:I AV)(C:I AV->Prop),ve P s l=some xs->C xs->oa P s l C
 |[],xs,C,h,b=>by cases h;exact b
 | .tmp t::l,xs,C,h,b=>by
   unfold ve at h;split at h;{next d e=>cases h;exact Ht l d _ e b};{cases h}
 | .cell p t::l,xs,C,h,b=>by
   unfold ve at h;split at h
   ·next cs f e=>
    split at h;{next x d k q=>cases h;exact Vc e k (Ht l d _ q b)};{cases h}
   ·cases h
def XZ{fn:Func}{R:AV}(h:zo P fn.results.toList s=some R):sw P fn 0 (λr h'=>h'=[]/\r.nrm=R) s:=by
 unfold zo at h;split at h
 ·next l e=>
  obtain⟨b,rfl⟩:=ff h;exact Ht _ l _ e ⟨Wv _,b,by simp,by simp,rfl⟩
 ·cases h
def fI{fn:Func}{R:AV}(h:zo P fn.results.toList s=some R):l8 P fn R .ret s:=h
def mU{f:FuncId}{fn:Func}{c:Code}{args:I AV}{R:AV}(d:P.funcs[f]?=some fn)(k:fn.body=some c)(p:(fn.name== "runtime.NumGoroutine")=false)
 (q:bR P none 0 c (l8 P fn R) {n:=args.length+(fn.ntmps-args.length),t:=ng 0 args,h:=[]}):AFn P f args (·=R):=by
 have h:=wo (P:=P) (f:=f) (args:=args) (h:=[]) (K:=λr h'=>h'=[]/\r.nrm=R) 0 d k p (Zv _) (q.mono λe s b=>by
  cases e with
  |normal=>exact XZ b
  |ret=>exact XZ b
  |_=>exact b.elim)
 refine⟨h.1,λG w u z B F=>(h.2 G w u z B F).mono λe w' H=> ?_⟩;obtain⟨v,J,x,h',rfl,L,M,N,W,rfl,rfl⟩:=H;exact⟨v,J,x.nrm,[],rfl,L,M,N,W.nrm,rfl,rfl⟩
end
def ard{P:dg}{r:U Nat}{N0 id:Nat}{ol:I Oper}{y:Code}{s:St}{Q Q':Exit->St->Prop}(Δ:I (Nat×AV))(h':I ar)(h:∃aC:I (Nat×Ob P),tD P false ol (jZ aC) (Δ.map (·.1)) s=some (Δ,h',kC aC))(k:bR P r N0 y Q' ⟨s.n,Δ++s.t,h'⟩):bR P r N0 (.region id ol.toArray false) (je (λs=>bR P r N0 y Q' s) Q) s:=
 let ⟨aC,h⟩:=h;Xb aC Δ h' h k
def dh{α:Type}{c:Bool}{a b:α}(h:c=true):cond c a b=a:=by rw[h];rfl
def ep{α:Type}{c:Bool}{a b:α}(h:c=false):cond c a b=b:=by rw[h];rfl
def bz{α β:Type}{x:U α}{f:α->U β}{b:β}(h:Option.bind x f=some b):∃a,x=some a/\f a=some b:=by
 cases x with
 |none=>cases h
 |some a=>exact⟨a,rfl,h⟩
def eo(b:Bool):b=true\/b=false:=by cases b<;>simp
def cx{b:Bool}(h:b=true):(!b)=false:=by rw[h];rfl
def dq{b:Bool}(h:b=false):(!b)=true:=by rw[h];rfl
def j0{α:Type}{c:Bool}{x:U α}{r:α}(h:(bif c then x else none)=some r):c=true:=by
 cases c with
 |true=>rfl
 |false=>cases h
section
variable {P:dg} {r:U Nat} {N0 id n:Nat} {ol:I Oper} {y:Code} {t:I (Nat×AV)} {h:I ar} {Q Q':Exit->St->Prop}
def rg(aC:I (Nat×Ob P))(Δ:I (Nat×AV))(h':I ar)(e:tD P false ol (jZ aC) (Δ.map (·.1)) ⟨n,t,h⟩=some (Δ,h',kC aC))(k:bR P r N0 y Q' ⟨n,Δ++t,h'⟩):bR P r N0 (.region id ol.toArray false) (je (λs=>bR P r N0 y Q' s) Q) ⟨n,t,h⟩:=Xb aC Δ h' e k
def Cy(aC:I (Nat×Ob P))(Δ:I (Nat×AV))(h':I ar)(k:bR P r N0 y Q' ⟨n,Δ++t,h'⟩)(e:tD P false ol (jZ aC) (Δ.map (·.1)) ⟨n,t,h⟩=some (Δ,h',kC aC):=by kernel_rfl):bR P r N0 (.region id ol.toArray false) (je (λs=>bR P r N0 y Q' s) Q) ⟨n,t,h⟩:=rg aC Δ h' e k
def rd(b:P.follows .mixedOrders=true)(d:sx ol.toArray=true)(aC:I (Nat×Ob P))(Δ:I (Nat×AV))(h':I ar)(e:tD P true ol (jZ aC) (Δ.map (·.1)) ⟨n,t,h⟩=some (Δ,h',kC aC))(k:bR P r N0 y Q' ⟨n,Δ++t,h'⟩):bR P r N0 (.region id ol.toArray true) (je (λs=>bR P r N0 y Q' s) Q) ⟨n,t,h⟩:=aqN b d aC Δ h' e k
def aaR(aC:I (Nat×Ob P))(Δ:I (Nat×AV))(h':I ar)(e:yl P false ol (jZ aC) ⟨n,t,h⟩=some (Δ++t,h',kC aC))(k:Q .normal ⟨n,Δ++t,h'⟩):bR P r N0 (.region id ol.toArray false) Q ⟨n,t,h⟩:=ah4 aC Δ h' e k
def Cm(aC:I (Nat×Ob P))(Δ:I (Nat×AV))(h':I ar)(k:Q .normal ⟨n,Δ++t,h'⟩)(e:yl P false ol (jZ aC) ⟨n,t,h⟩=some (Δ++t,h',kC aC):=by kernel_rfl):bR P r N0 (.region id ol.toArray false) Q ⟨n,t,h⟩:=aaR aC Δ h' e k
def ZL(b:P.follows .mixedOrders=true)(d:sx ol.toArray=true)(aC:I (Nat×Ob P))(Δ:I (Nat×AV))(h':I ar)(e:yl P true ol (jZ aC) ⟨n,t,h⟩=some (Δ++t,h',kC aC))(k:Q .normal ⟨n,Δ++t,h'⟩):bR P r N0 (.region id ol.toArray true) Q ⟨n,t,h⟩:=alo b d aC Δ h' e k
def CN(Δ:I (Nat×AV))(h':I ar)(e:∃aC:I (Nat×Ob P),tD P false ol (jZ aC) (Δ.map (·.1)) ⟨n,t,h⟩=some (Δ,h',kC aC))(k:bR P r N0 y Q' ⟨n,Δ++t,h'⟩):bR P r N0 (.region id ol.toArray false) (je (λs=>bR P r N0 y Q' s) Q) ⟨n,t,h⟩:=ard Δ h' e k
end
def bs(l:I UInt8):so:=⟨l.toArray⟩
def vB(x:D):Prop:=∃(S:Nat->Nat->Prop)(w:Zy)(u:kd),ee S w u x
def LG{xs:I (I D)}(h:vB (.sl xs)):xs.length<=maxLen:=by
 obtain⟨S,w,u,h⟩:=h;obtain⟨A,e,o,f,k,p,_,_,b,d,_⟩:=h.sM;exact Zc b d
def HZ{xs:I (I D)}{i j:Nat}{c:I D}{d:D}(h:vB (.sl xs))(b:xs[i]?=some c)(e:c[j]?=some d):vB d:=by
 obtain⟨S,w,u,h⟩:=h;obtain⟨A,k,o,p,q,v,_,_,z,B,F,H,f⟩:=h.sM;exact⟨S,w,_,f i j c d b e⟩
section
variable {P:dg} {r:U Nat} {n N0:Nat} {s:St} {Q:Exit->St->Prop}
def Aq{c:Code}(k:Nat)(xs:I (I D))(d:(bP s.t k).gX=some xs)(h:vB (.sl xs)->bR P r N0 c Q s):bR P r N0 c Q s:=by
 constructor
 intro G w a n b e;exact(h ⟨_,_,_,(b.tmp k).list d⟩).run G w a n b e
def ara{c:Code}(b i:Nat)(xs:I (I D))(d:((s.h[b]?).bind λB=>match B with| .cells cs=>(cs[i]?).bind AV.gX|_=>none)=some xs)(h:vB (.sl xs)->bR P r N0 c Q s):bR P r N0 c Q s:=by
 constructor
 intro G w a n k p;cases f:s.h[b]? with
 |none=>rw[f]at d;cases d
 |some B=>
  rw[f]at d;cases B with
  |cells cs=>
   simp only[re]at d;obtain⟨_,_,vs,T,_,q,u⟩:=k.inv.dM b _ f;cases e:cs[i]? with
   |none=>rw[e]at d;cases d
   |some x=>
    rw[e]at d;have v:i<vs.size:=by rw[q];exact(Zo.1 e).1
    exact(h ⟨_,_,_,(u i _ x (ZM v) e).list d⟩).run G w a n k p
  |_=>cases d
end
mutual
def AV.ga(b:Nat)(ds:I D):AV->AV
 | .ptr n off=>bif n==b then .bM [ds] 0 off else .ptr n off
 | .agg cs=>.agg (AV.xI b ds cs)
 | .bq cs=>.bq (AV.xI b ds cs)
 | .fn f cs=>.fn f (AV.xI b ds cs)
 |x=>x
def AV.xI(b:Nat)(ds:I D):I AV->I AV
 |[]=>[]
 |x::l=>x.ga b ds::AV.xI b ds l
end
def Iu(b:Nat)(d:I D):∀l,AV.xI b d l=l.map (AV.ga b d)
 |[]=>by simp [AV.xI]
 |x::l=>by simp [AV.xI,Iu b d l]
def ar.ga(b:Nat)(d:I D):ar->ar
 | .cells cs=>.cells (cs.map (AV.ga b d))
 | .lp f p as bd cs=>.lp f p as bd (cs.map (AV.ga b d))
 | .it q cs=>.it q (cs.map (AV.ga b d))
 | .fM T cs=>.fM T (cs.map (AV.ga b d))
 | .vec e k cs=>.vec e k (cs.map (·.map (AV.ga b d)))
 |B=>B
def yY(s:St)(b:Nat):U St:=
 match s.h[b]? with
 |some (.cells cs)=>match om cs with
  |some d=>some ⟨s.n,s.t.map λp=>(p.1,p.2.ga b d),(s.h.map (ar.ga b d)).set b .gone⟩
  |none=>none
 |_=>none
def Ge(f:AV->AV)(b:f .dead= .dead):∀(t:I (Nat×AV))(i:Nat),bP (t.map λp=>(p.1,f p.2)) i=f (bP t i)
 |[],i=>by simp [bP,b]
 |(k,x)::l,i=>by
  simp only[ZS,mE,Ge f b l i];split<;>rfl
def aQ.ga{G G':Gh}{w:Zy}{b:Nat}{M:I D}(hE:cq G.N G w G' w)(hN:G'.N=G.N)(B:∀off,aQ G' w (.pointer (some ⟨G.bg b,off,none⟩)) (.bM [M] 0 off)){u:kd}{x:AV}(h:aQ G w u x):aQ G' w u (x.ga b M):=by
 have keep:∀{u:kd}{x:AV},aQ G w u x->aQ G' w u x:=λh=>h.keep hE (Nat.le_of_eq hN.symm);have R:∀(p:Array kd)(cs:I AV),(∀(i:Nat)(u:kd)(c:AV),p[i]?=some u->cs[i]?=some c->aQ G' w u (c.ga b M))->∀(i:Nat)(u:kd)(c:AV),p[i]?=some u->(AV.xI b M cs)[i]?=some c->aQ G' w u c:=by
  intro p cs q i u c W F;rw[Iu,Zs]at F;cases H:cs[i]? with
  |none=>rw[H]at F;cases F
  |some x=>rw[H]at F;cases F;exact q i u x W H
 induction h with
 |agg p cs v _ q=>rw[AV.ga];exact .agg p _ (by rw[Iu,Zu];exact v) (R p cs q)
 |bq p cs v _ q=>rw[AV.ga];exact .bq p _ (by rw[Iu,Zu];exact v) (R p cs q)
 |fn f p cs v _ q=>rw[AV.ga];exact .fn f p _ (by rw[Iu,Zu];exact v) (R p cs q)
 |ptr n off h=>
  rw[AV.ga,cond_eq_ite];split;{next e=>rw[Ua]at e;subst e;exact B off};{exact keep (.ptr n off h)}
 |own n J h B hle z=>simp only[AV.ga];exact keep (.own n J h B hle z)
 |d h=>simp only[AV.ga];exact keep (.d h)
 |bM J i off b o u x H hS W=>simp only[AV.ga];exact keep (.bM J i off b o u x H hS W)
 |full J B z=>simp only[AV.ga];exact keep (.full J B z)
 |row n off len cap k h v hm=>simp only[AV.ga];exact keep (.row n off len cap k h v hm)
 |mp n h=>simp only[AV.ga];exact keep (.mp n h)
 |cU n h=>simp only[AV.ga];exact keep (.cU n h)
 |vec n o len L k h hs hL z=>simp only[AV.ga];exact keep (.vec n o len L k h hs hL z)
 |eH n i j L k h hs hL z=>simp only[AV.ga];exact keep (.eH n i j L k h hs hL z)
 |hid h h1=>simp only[AV.ga];exact keep (.hid h h1)
 |dead u=>simp only[AV.ga];exact .dead u
def XY:∀(cs:I AV)(b:I D),om cs=some b->cs.length=b.length/\∀(i:Nat)(c:AV)(d:D),cs[i]?=some c->b[i]?=some d->c.yT=some d
 |[],b,h=>by unfold om at h;cases h;exact⟨rfl,λi c d e=>by simp at e⟩
 |x::cs,b,h=>by
  unfold om at h;split at h
  ·next d l k p=>
   cases h
   obtain⟨q,u⟩:=XY cs l p;refine⟨by simp [q],λi c v e f=> ?_⟩
   match i with
   |0=>simp only[List.getElem?_cons_zero,UW]at e f;subst e;subst f;exact k
   |i+1=>exact u i c v (by simpa using e) (by simpa using f)
  ·cases h
def aQ.arq{G:Gh}{w:Zy}{u:kd}{x:AV}{d:D}(h:aQ G w u x)(b:x.yT=some d):ee G.S w u d:=by
 cases h with
 |d h=>cases b;exact h.vZ
 |own n f h e=>cases b;exact e
 |full f e=>cases b;exact e
 |_=>cases b
def dx.yY{G:Gh}{w:Zy}{a:Act}{s s':St}{b:Nat}(F:dx G w a s)(h:yY s b=some s'):∃G',cq G.N G w G' w/\G'.N=G.N/\dx G' w a s':=by
 unfold Go.Proofs.YtnnapanbbbcalaaGreatDoor.yY at h;split at h
 ·next cs hb=>
  split at h
  ·next ds qf=>
   cases h
   obtain⟨z1,z2,vs,T,z3,z4,z5⟩:=F.inv.dM b _ hb;obtain⟨d1,d2⟩:=XY cs ds qf;have R:cr s.h G b=some (G.bg b):=eG hb;obtain⟨S,L⟩:∃S:Nat->Nat->Prop,S=λb' o=>G.S b' o\/(b'=G.bg b/\o<ds.length):=⟨_,rfl⟩;have W:cq G.N G w {G with S:=S} w:=⟨Zv _,λb o h=>by show S b o;rw[L];exact .inl h,λ_ _ _=>rfl,λ_ _=>rfl,λ_ _=>.inl ⟨rfl,rfl⟩,iX rfl,λ_ _=>rfl,rfl,rfl,rfl,λb' o F=>by
    have q:S b' o:=F;rw[L]at q;rcases q with h|⟨rfl,_⟩
    ·exact .inl h
    ·exact .inr z1⟩
   have hp:∀off,aQ {G with S:=S} w (.pointer (some ⟨G.bg b,off,none⟩)) (.bM [ds] 0 off):=λoff=>by
    have:=aQ.bM (G:={G with S:=S}) (w:=w) [ds] 0 off (G.bg b) 0 (λj=>vs.getD j undef) ds rfl (λj hj=> ?_) (λj d hd=> ?_);{rwa [ZQ]at this}
    ·have iB:j<vs.size:=by rw[z4,d1];exact hj
     refine⟨by show S _ _;rw[L];exact .inr ⟨rfl,by rw[ZQ];exact hj⟩,?_⟩;rw[ZQ,cell_of_row w (G.bg b) j vs T (0,0) z3];simp [Array.getD,iB]
    ·have hj:j<ds.length:=(Zo.1 hd).1;have iB:j<vs.size:=by rw[z4,d1];exact hj
     have f:cs[j]?=some cs[j]:=Ze (by rw[d1];exact hj);have hv:=z5 j vs[j] _ (ZM iB) f;have e:vs.getD j undef=vs[j]:=by simp [Array.getD,iB]
     rw[e];exact(hv.arq (d2 j _ d f hd)).keep W.S W.cell
   have hv:∀{u:kd}{x:AV},aQ G w u x->aQ {G with S:=S} w u (x.ga b ds):=λh=>h.ga W rfl hp;have anX:=(Zo.1 hb).1;have fy:∀(n:Nat)(B:ar),((s.h.map (ar.ga b ds)).set b .gone)[n]?=some B->(n=b/\B= .gone)\/(n≠b/\∃B',s.h[n]?=some B'/\B=B'.ga b ds):=λn B hB=>by
    by_cases e:b=n;{subst e;rw[ZC (by rw[Zu];exact anX)]at hB;cases hB;exact .inl ⟨rfl,rfl⟩}
    ·rw[ZD e,Zs]at hB;cases v:s.h[n]? with
     |none=>rw[v]at hB;cases hB
     |some B'=>rw[v]at hB;cases hB;exact .inr ⟨λh=>e h.symm,B',rfl,rfl⟩
   have fu:∀n x,cr ((s.h.map (ar.ga b ds)).set b .gone) {G with S:=S} n=some x->n≠b/\cr s.h G n=some x:=λn x v=>by
    obtain⟨B,hn,v⟩:=n9 v;rcases fy n _ hn with⟨_,e⟩|⟨M,B',H,rfl⟩
    ·subst e;cases v
    ·refine⟨M,?_⟩;rw[eG H,<-v];cases B'<;>rfl
   refine⟨{G with S:=S},W,rfl,F.size,λi=> ?_,⟨by rw[ZJ,Zu];exact F.inv.len,F.inv.z,λb' o h=> ?_,λn B hB=> ?_,λm n x H h2=>F.inv.inj m n x (fu m x H).2 (fu n x h2).2,F.inv.gl.keep W⟩,F.df⟩;{show aQ _ _ _ (bP (s.t.map λp=>(p.1,p.2.ga b ds)) i);rw[Ge (AV.ga b ds) (by simp [AV.ga])];exact hv (F.tmp i)}
   ·have q:S b' o:=h;rw[L]at q;rcases q with h|⟨rfl,_⟩
    ·exact F.inv.S b' o h
    ·exact(ZT.1 z3).1
   ·rcases fy n B hB with⟨rfl,rfl⟩|⟨M,B',H,rfl⟩
    ·trivial
    ·have eO:=F.inv.dM n B' H;cases B' with
     |gone=>trivial
     |map kv=>exact fb.keep (G':={G with S:=S}) (F.inv.lt H) W (Zv _) ⟨rfl,rfl,rfl⟩ (λc f=>⟨rfl,λo kE J=>by
      have q:S c o:=J;rw[L]at q;rcases q with h|⟨e,_⟩
      ·exact kE h
      ·exact M (F.inv.inj n b _ ((eG H).trans f) (by rw[e];exact R))⟩) eO
     |jX kv=>exact fb.keep (G':={G with S:=S}) (F.inv.lt H) W (Zv _) ⟨rfl,rfl,rfl⟩ (λc f=>⟨rfl,λo kE J=>by
      have q:S c o:=J;rw[L]at q;rcases q with h|⟨e,_⟩
      ·exact kE h
      ·exact M (F.inv.inj n b _ ((eG H).trans f) (by rw[e];exact R))⟩) eO
     |front e k len=>exact fb.keep (G':={G with S:=S}) (F.inv.lt H) W (Zv _) ⟨rfl,rfl,rfl⟩ (λc f=>⟨rfl,λo kE J=>by
      have q:S c o:=J;rw[L]at q;rcases q with h|⟨e,_⟩
      ·exact kE h
      ·exact M (F.inv.inj n b _ ((eG H).trans f) (by rw[e];exact R))⟩) eO
     |jE e b2=>exact fb.keep (G':={G with S:=S}) (F.inv.lt H) W (Zv _) ⟨rfl,rfl,rfl⟩ (λc f=>⟨rfl,λo kE J=>by
      have q:S c o:=J;rw[L]at q;rcases q with h|⟨e,_⟩
      ·exact kE h
      ·exact M (F.inv.inj n b _ ((eG H).trans f) (by rw[e];exact R))⟩) eO
     |cells cM=>
      obtain⟨c1,c2,gQ,T',c3,c4,c5⟩:=eO;have mK:cr s.h G n=some (G.bg n):=eG H;refine⟨c1,λo J=> ?_,gQ,T',c3,by rw[Zu];exact c4,λi u c hu f=> ?_⟩
      ·have q:S (G.bg n) o:=J;rw[L]at q;rcases q with h|⟨e,_⟩
       ·exact c2 o h
       ·exact M (F.inv.inj n b _ mK (by rw[e];exact R))
      ·rw[Zs]at f;cases v:cM[i]? with
       |none=>rw[v]at f;cases f
       |some x=>rw[v]at f;cases f;exact hv (c5 i u x hu v)
     |lp ls p as bd cM=>
      obtain⟨c1,c2,fn,gQ,T',c3,c4,c5⟩:=eO;have mK:cr s.h G n=some (G.bg n):=eG H;refine⟨c1,λo J=> ?_,fn,gQ,T',c3,by rw[Zu];exact c4,λi u c hu f=> ?_⟩
      ·have q:S (G.bg n) o:=J;rw[L]at q;rcases q with h|⟨e,_⟩
       ·exact c2 o h
       ·exact M (F.inv.inj n b _ mK (by rw[e];exact R))
      ·rw[Zs]at f;cases v:cM[i]? with
       |none=>rw[v]at f;cases f
       |some x=>rw[v]at f;cases f;exact hv (c5 i u x hu v)
     |it sn cM=>
      obtain⟨c1,c2,fn,gQ,T',c3,c4,c5⟩:=eO;have mK:cr s.h G n=some (G.bg n):=eG H;refine⟨c1,λo J=> ?_,fn,gQ,T',c3,by rw[Zu];exact c4,λi u c hu f=> ?_⟩
      ·have q:S (G.bg n) o:=J;rw[L]at q;rcases q with h|⟨e,_⟩
       ·exact c2 o h
       ·exact M (F.inv.inj n b _ mK (by rw[e];exact R))
      ·rw[Zs]at f;cases v:cM[i]? with
       |none=>rw[v]at f;cases f
       |some x=>rw[v]at f;cases f;exact hv (c5 i u x hu v)
     |fM T0 cM=>
      obtain⟨c1,c2,fn,gQ,T',c3,c4,c5⟩:=eO;have mK:cr s.h G n=some (G.bg n):=eG H;refine⟨c1,λo J=> ?_,fn,gQ,T',c3,by rw[Zu];exact c4,λi u c hu f=> ?_⟩
      ·have q:S (G.bg n) o:=J;rw[L]at q;rcases q with h|⟨e,_⟩
       ·exact c2 o h
       ·exact M (F.inv.inj n b _ mK (by rw[e];exact R))
      ·rw[Zs]at f;cases v:cM[i]? with
       |none=>rw[v]at f;cases f
       |some x=>rw[v]at f;cases f;exact hv (c5 i u x hu v)
     |vec e k cM=>
      obtain⟨c1,c2,c3,c4⟩:=eO;refine⟨by rw[Zu];exact c1,by rw[Zu];exact c2,λc f=> ?_,?_⟩;{obtain⟨x,v,rfl⟩:=UU.1 f;rw[Zu];exact c3 x v}
      ·rcases c4 with⟨d1,d2,A,d3⟩|⟨g,cap,cur,d1,d2,d3,d4,d5,d6,d7,d8,d9⟩
       ·exact .inl ⟨d1,by rw[d2];rfl,A,d3⟩
       ·have mK:cr s.h G n=some g:=(eG H).trans d1;refine .inr ⟨g,cap,cur,d1,by rw[Zu];exact d2,d3,d4,by rw[Zu];exact d5,d6,d7,λo J=> ?_,λi j c x u f v hu=> ?_⟩
        ·have q:S g o:=J;rw[L]at q;rcases q with h|⟨e,_⟩
         ·exact d8 o h
         ·exact M (F.inv.inj n b _ mK (by rw[e];exact R))
        ·rw[Zs]at f;cases hy:cM[i]? with
         |none=>rw[hy]at f;cases f
         |some y=>
          rw[hy]at f;cases f
          rw[Zs]at v;cases hw:y[j]? with
          |none=>rw[hw]at v;cases v
          |some z=>rw[hw]at v;cases v;exact hv (d9 i j y z u hy hw hu)
  ·cases h
 ·cases h
def aln{P:dg}{r:U Nat}{N0:Nat}{c:Code}{s s':St}{Q:Exit->St->Prop}(b:Nat)(e:yY s b=some s')(h:bR P r N0 c Q s'):bR P r N0 c Q s:=by
 constructor
 intro G w a n f d;obtain⟨k,p,q,u⟩:=f.yY e;exact wpIn_mono (h.run k w a n u (by rw[q];exact d)) λ_ _ _ v=>v.trans (p.less d)
def D.xx:D->Bool
 | .v u=>u.oneCell'
 | .sl _=>true
 | .ag _=>false
mutual
def AV.kill(b:Nat):AV->AV
 | .vec n o len L k=>bif n==b then .dead else .vec n o len L k
 | .eH n i j L k=>bif n==b then .dead else .eH n i j L k
 | .agg cs=>.agg (AV.Ny b cs)
 | .bq cs=>.bq (AV.Ny b cs)
 | .fn f cs=>.fn f (AV.Ny b cs)
 |x=>x
def AV.Ny(b:Nat):I AV->I AV
 |[]=>[]
 |x::l=>x.kill b::AV.Ny b l
end
def ar.lf(f:AV->AV):ar->ar
 | .cells cs=>.cells (cs.map f)
 | .lp b p as bd cs=>.lp b p as bd (cs.map f)
 | .it d cs=>.it d (cs.map f)
 | .fM T cs=>.fM T (cs.map f)
 | .vec e k cs=>.vec e k (cs.map (·.map f))
 |B=>B
def aoG{G:Gh}{w:Zy}{h:I ar}(hi:cu G w h){b:Nat}{S:Nat->Nat->Prop}{f:AV->AV}(hE:cq G.N G w {G with S:=S} w)(hS:∀c o,S c o->G.S c o\/cr h G b=some c)(hv:∀{u:kd}{x:AV},aQ G w u x->aQ {G with S:=S} w u (f x)):
 cu {G with S:=S} w ((h.map (ar.lf f)).set b .gone):=by
 have fy:∀(n:Nat)(B:ar),((h.map (ar.lf f)).set b .gone)[n]?=some B->(n=b/\B= .gone)\/(n≠b/\∃B',h[n]?=some B'/\B=B'.lf f):=λn B F=>by
  by_cases e:b=n;{subst e;have aV:=(Zo.1 F).1;rw[ZJ]at aV;rw[ZC aV]at F;cases F;exact .inl ⟨rfl,rfl⟩}
  ·rw[ZD e,Zs]at F;cases q:h[n]? with
   |none=>rw[q]at F;cases F
   |some B'=>rw[q]at F;cases F;exact .inr ⟨λh=>e h.symm,B',rfl,rfl⟩
 have fu:∀n x,cr ((h.map (ar.lf f)).set b .gone) {G with S:=S} n=some x->n≠b/\cr h G n=some x:=λn x q=>by
  obtain⟨B,hn,q⟩:=n9 q;rcases fy n _ hn with⟨_,e⟩|⟨cX,B',v,rfl⟩
  ·subst e;cases q
  ·refine⟨cX,?_⟩;rw[eG v,<-q];cases B'<;>rfl
 refine⟨by rw[ZJ,Zu];exact hi.len,hi.z,λc o hs=> ?_,λn B F=> ?_,λm n x v h2=>hi.inj m n x (fu m x v).2 (fu n x h2).2,hi.gl.keep hE⟩
 ·rcases hS c o hs with v|v
  ·exact hi.S c o v
  ·exact hi.iO v
 ·rcases fy n B F with⟨rfl,rfl⟩|⟨cX,B',v,rfl⟩
  ·trivial
  ·have H:=hi.dM n B' v;have J:∀c,B'.eZ G n=some c->∀o,¬G.S c o->¬S c o:=λc d o kE hq=>by
    rcases hS c o hq with h2|h2
    ·exact kE h2
    ·exact cX (hi.inj n b c ((eG v).trans d) h2)
   cases B' with
   |gone=>trivial
   |map kv=>exact fb.keep (G':={G with S:=S}) (hi.lt v) hE (Zv _) ⟨rfl,rfl,rfl⟩ (λc d=>⟨rfl,J c d⟩) H
   |jX kv=>exact fb.keep (G':={G with S:=S}) (hi.lt v) hE (Zv _) ⟨rfl,rfl,rfl⟩ (λc d=>⟨rfl,J c d⟩) H
   |front e k len=>exact fb.keep (G':={G with S:=S}) (hi.lt v) hE (Zv _) ⟨rfl,rfl,rfl⟩ (λc d=>⟨rfl,J c d⟩) H
   |jE e b2=>exact fb.keep (G':={G with S:=S}) (hi.lt v) hE (Zv _) ⟨rfl,rfl,rfl⟩ (λc d=>⟨rfl,J c d⟩) H
   |cells L=>
    obtain⟨M,R,gQ,T',W,c4,c5⟩:=H;refine⟨M,λo=>J _ rfl o (R o),gQ,T',W,by rw[Zu];exact c4,λi u c hu d=> ?_⟩;rw[Zs]at d;cases q:L[i]? with
    |none=>rw[q]at d;cases d
    |some x=>rw[q]at d;cases d;exact hv (c5 i u x hu q)
   |lp ls p as bd L=>
    obtain⟨M,R,fn,gQ,T',W,c4,c5⟩:=H;refine⟨M,λo=>J _ rfl o (R o),fn,gQ,T',W,by rw[Zu];exact c4,λi u c hu d=> ?_⟩;rw[Zs]at d;cases q:L[i]? with
    |none=>rw[q]at d;cases d
    |some x=>rw[q]at d;cases d;exact hv (c5 i u x hu q)
   |it sn L=>
    obtain⟨M,R,fn,gQ,T',W,c4,c5⟩:=H;refine⟨M,λo=>J _ rfl o (R o),fn,gQ,T',W,by rw[Zu];exact c4,λi u c hu d=> ?_⟩;rw[Zs]at d;cases q:L[i]? with
    |none=>rw[q]at d;cases d
    |some x=>rw[q]at d;cases d;exact hv (c5 i u x hu q)
   |fM T0 L=>
    obtain⟨M,R,fn,gQ,T',W,c4,c5⟩:=H;refine⟨M,λo=>J _ rfl o (R o),fn,gQ,T',W,by rw[Zu];exact c4,λi u c hu d=> ?_⟩;rw[Zs]at d;cases q:L[i]? with
    |none=>rw[q]at d;cases d
    |some x=>rw[q]at d;cases d;exact hv (c5 i u x hu q)
   |vec e k L=>
    obtain⟨M,R,W,c4⟩:=H;refine⟨by rw[Zu];exact M,by rw[Zu];exact R,λc d=> ?_,?_⟩;{obtain⟨x,q,rfl⟩:=UU.1 d;rw[Zu];exact W x q}
    ·rcases c4 with⟨d1,d2,A,d3⟩|⟨g,cap,cur,d1,d2,d3,d4,d5,d6,d7,d8,d9⟩
     ·exact .inl ⟨d1,by rw[d2];rfl,A,d3⟩
     ·refine .inr ⟨g,cap,cur,d1,by rw[Zu];exact d2,d3,d4,by rw[Zu];exact d5,d6,d7,λo=>J g d1 o (d8 o),λi j c x u d q hu=> ?_⟩;rw[Zs]at d;cases hy:L[i]? with
      |none=>rw[hy]at d;cases d
      |some y=>
       rw[hy]at d;cases d
       rw[Zs]at q;cases hw:y[j]? with
       |none=>rw[hw]at q;cases q
       |some z=>rw[hw]at q;cases q;exact hv (d9 i j y z u hy hw hu)
mutual
def AV.dG(b kk:Nat)(xs:I (I D)):AV->AV
 | .vec n o len L k=>bif n==b then(bif L==xs.length&&k==kk then .d (.sl ((xs.drop o).take len))else .dead)else .vec n o len L k
 | .eH n i j L k=>bif n==b then .dead else .eH n i j L k
 | .agg cs=>.agg (AV.rX b kk xs cs)
 | .bq cs=>.bq (AV.rX b kk xs cs)
 | .fn f cs=>.fn f (AV.rX b kk xs cs)
 |x=>x
def AV.rX(b kk:Nat)(xs:I (I D)):I AV->I AV
 |[]=>[]
 |x::l=>x.dG b kk xs::AV.rX b kk xs l
end
def vc(b d:Nat)(xs:I (I D)):∀l,AV.rX b d xs l=l.map (AV.dG b d xs)
 |[]=>by simp [AV.rX]
 |x::l=>by simp [AV.rX,vc b d xs l]
def aQ.dG{G G':Gh}{w:Zy}{b M:Nat}{xs:I (I D)}(hE:cq G.N G w G' w)(hN:G'.N=G.N)(F:∀(u:kd)(o len:Nat),aQ G w u (.vec b o len xs.length M)->ee G'.S w u (.sl ((xs.drop o).take len))){u:kd}{x:AV}(h:aQ G w u x):aQ G' w u (x.dG b M xs):=by
 have keep:∀{u:kd}{x:AV},aQ G w u x->aQ G' w u x:=λh=>h.keep hE (Nat.le_of_eq hN.symm);have gL:∀(p:Array kd)(cs:I AV),(∀(i:Nat)(u:kd)(c:AV),p[i]?=some u->cs[i]?=some c->aQ G' w u (c.dG b M xs))->∀(i:Nat)(u:kd)(c:AV),p[i]?=some u->(AV.rX b M xs cs)[i]?=some c->aQ G' w u c:=by
  intro p cs z i u c hu H;rw[vc,Zs]at H;cases J:cs[i]? with
  |none=>rw[J]at H;cases H
  |some x=>rw[J]at H;cases H;exact z i u x hu J
 induction h with
 |agg p cs B _ z=>rw[AV.dG];exact .agg p _ (by rw[vc,Zu];exact B) (gL p cs z)
 |bq p cs B _ z=>rw[AV.dG];exact .bq p _ (by rw[vc,Zu];exact B) (gL p cs z)
 |fn f p cs B _ z=>rw[AV.dG];exact .fn f p _ (by rw[vc,Zu];exact B) (gL p cs z)
 |vec n o len L k h R W v=>
  rw[AV.dG,cond_eq_ite];split
  ·next e=>
   have e:n=b:=by simpa using e
   subst e;rw[cond_eq_ite];split
   ·next e2=>
    rw[Zr,Ua,Ua]at e2;obtain⟨rfl,rfl⟩:=e2;exact .d (F _ o len (.vec n o len _ _ h R W v))
   ·exact .dead _
  ·exact keep (.vec n o len L k h R W v)
 |eH n i j L k h R W v=>
  rw[AV.dG,cond_eq_ite];split;{exact .dead _};{exact keep (.eH n i j L k h R W v)}
 |ptr n q h=>simp only[AV.dG];exact keep (.ptr n q h)
 |own n xs h F hle v=>simp only[AV.dG];exact keep (.own n xs h F hle v)
 |d h=>simp only[AV.dG];exact keep (.d h)
 |bM xs i q b o u x J hS hu=>simp only[AV.dG];exact keep (.bM xs i q b o u x J hS hu)
 |full xs F v=>simp only[AV.dG];exact keep (.full xs F v)
 |row n q len cap k h B hm=>simp only[AV.dG];exact keep (.row n q len cap k h B hm)
 |mp n h=>simp only[AV.dG];exact keep (.mp n h)
 |cU n h=>simp only[AV.dG];exact keep (.cU n h)
 |hid h h1=>simp only[AV.dG];exact keep (.hid h h1)
 |dead u=>simp only[AV.dG];exact .dead u
def dx.UX{G:Gh}{w:Zy}{a:Act}{s:St}(H:dx G w a s)(xs:I (I D)){b e k:Nat}(hb:s.h[b]?=some (.vec e k (cg xs)))(jg:∀c∈xs,c.all D.xx=true)
 :∃G',cq G.N G w G' w/\G'.N=G.N/\dx G' w a ⟨s.n,s.t.map λp=>(p.1,p.2.dG b k xs),(s.h.map (ar.lf (AV.dG b k xs))).set b .gone⟩:=by
 obtain⟨L,hL⟩:∃L,xs.length=L:=⟨_,rfl⟩;have qX:(cg xs).length=L:=by unfold cg;rw[Zu];exact hL
 have j7:=HT H.inv hb;have pv:∀d∈xs,d.length=k:=λd F=>by
  have:=j7 (d.map .d) (by unfold cg;exact UU.2 ⟨d,F,rfl⟩)
  rwa [Zu]at this
 obtain⟨S,hS⟩:∃S:Nat->Nat->Prop,S=λc o=>G.S c o\/(cr s.h G b=some c/\o<L*k):=⟨_,rfl⟩;have R:cq G.N G w {G with S:=S} w:=⟨Zv _,λb o h=>by show S b o;rw[hS];exact .inl h,λ_ _ _=>rfl,λ_ _=>rfl,λ_ _=>.inl ⟨rfl,rfl⟩,iX rfl,λ_ _=>rfl,rfl,rfl,rfl,λc o W=>by
  have cZ:S c o:=W;rw[hS]at cZ;rcases cZ with h|⟨h,_⟩
  ·exact .inl h
  ·obtain⟨B,hB,im⟩:=n9 h;exact .inr ((H.inv.dM b B hB).mz im)⟩
 have hpd:∀(u:kd)(o len:Nat),aQ G w u (.vec b o len xs.length k)->ee S w u (.sl ((xs.drop o).take len)):=λu o len xF=>by
  rw[hL]at xF;have nf:=xF.xe H.inv hb qX;obtain⟨Dh,⟨A,cc,q1,q2,q3,q4,q5⟩,_⟩:=nf;generalize hy:(xs.drop o).take len=ys;have rU:ys.length=len:=by rw[<-hy,ao,b9];omega
  rw[q1,<-rU];show ee S w _ _;by_cases hh0:True
  ·skip
   by_cases h0:len=0;{have:ys=[]:=V1 (by omega);subst this;exact .sl A 0 0 cc 0 [] (λ_ _=>undef) (λh=>absurd rfl h) (Wv _) q3 (λ_ h=>absurd h Yx) (λi j J=>absurd J (ZG _)) (λi j x d z=>by simp at z)}
   ·obtain⟨g,cap,s1,rfl,s3⟩:=q5 (by omega);obtain⟨g',Fz,cur,r1,r2,r3,r4,r5,r6,r7,r8,r9⟩:=Gq H.inv hb (λe=>by rw[e]at qX;simp at qX;omega);rw[r2]at s1;cases s1
    have ny:cr s.h G b=some g:=(eG hb).trans r1;have kX:∀i,i<len->ys[i]?=xs[o+i]?:=λi e8=>by rw[<-hy,List.getElem?_take_of_lt e8,List.getElem?_drop]
    have jc:∀i j,i<len->j<k->o*k+i*k+j<cur.size:=λi j J M=>by
     have:=oh (i:=o+i) (k:=k) (L:=(cg xs).length) (j:=j) (by omega) M;rw[YF]at this;have h2:(cg xs).length*k<=cap*k:=XL k (by omega);rw[r7];omega
    have tU:∀(i j:Nat)(x:I D)(d:D),i<len->ys[i]?=some x->x[j]?=some d->aQ G w (cur.getD (o*k+i*k+j) undef) (.d d):=λi j x d J z F=>by
     rw[kX i J]at z;have M:j<k:=by rw[<-pv x (ZY z)];exact(Zo.1 F).1
     refine r9 (o+i) j (x.map .d) (.d d) _ (by unfold cg;rw[Zs,z];rfl) (by rw[Zs,F];rfl) ?_;have hc:=jc i j J M;rw[show(o+i)*k+j=o*k+i*k+j by rw[YF]];simp [Array.getD,hc]
    refine .sl _ g (o*k) cc k ys (λi j=>cur.getD (o*k+i*k+j) undef) (λ_=>rfl) (by omega) q3 (λx z=> ?_) (λi j J M=>⟨?_,?_,?_⟩) (λi j x d z F=> ?_);{rw[<-hy]at z;exact pv x (a7 (List.mem_of_mem_take z))};{rw[hS];refine .inr ⟨ny,?_⟩;have:=oh (i:=o+i) (k:=k) (L:=(cg xs).length) (j:=j) (by omega) M;rw[YF]at this;exact this};{rw[cell_of_row w g _ cur e (0,0) r4];have hc:=jc i j (by omega) M;simp [Array.getD,hc]}
    ·have e8:i<len:=by omega
     obtain⟨x,z⟩:∃x,ys[i]?=some x:=⟨_,Ze J⟩;have DG:=z;rw[kX i e8]at DG;have kG:=ZY DG;obtain⟨d,F⟩:∃d,x[j]?=some d:=⟨_,Ze (by rw[pv x kG];exact M)⟩;refine(tU i j x d e8 z F).lF ?_;have h1:=jg x kG;rw[Zd]at h1;have h2:=h1 d (ZY F);cases d with
     |v u=>exact h2
     |sl l=>rfl
     |ag l=>exact absurd h2 Bool.false_ne_true
    ·have e8:i<len:=by rw[<-rU];exact(Zo.1 z).1
     have:=tU i j x d e8 z F;generalize cur.getD (o*k+i*k+j) undef=q at this;cases this with|d h=>exact h.keep R.S R.cell
  ·exact(hh0 trivial).elim
 have hinv:=aoG (b:=b) (f:=AV.dG b k xs) H.inv R (λc o W=>by rw[hS]at W;exact W.imp id And.left) (λW=>W.dG R rfl hpd);have cZ:dx {G with S:=S} w a ⟨s.n,s.t.map λp=>(p.1,p.2.dG b k xs),(s.h.map (ar.lf (AV.dG b k xs))).set b .gone⟩:=by
  refine⟨H.size,λi=> ?_,hinv,H.df⟩;show aQ _ _ _ (bP (s.t.map λp=>(p.1,p.2.dG b k xs)) i);rw[Ge (AV.dG b k xs) (by simp [AV.dG])];exact(H.tmp i).dG R rfl hpd
 exact⟨_,R,rfl,cZ⟩
def yG(P:dg)(b:I ResultVar)(m:Nat)(s:St):U (AV×I ar):=
 match ve P s b with
 |some l=>bif cP m s.h.length&&((la l).bQ m).aN m&&(((s.h.take m).map (ar.bQ m)).all (ar.aN m))then some (((la l).bQ m).nrm,((s.h.take m).map (ar.bQ m)).map ar.rJ)else none
 |none=>none
def xq(P:dg)(fn:Func)(m:Nat)(R:AV)(H:I ar):Exit->St->Prop
 | .normal,s=>yG P fn.results.toList m s=some (R,H)
 | .ret,s=>yG P fn.results.toList m s=some (R,H)
 |_,_=>False
def XW{P:dg}{s:St}{fn:Func}{m:Nat}{R:AV}{H:I ar}(h:yG P fn.results.toList m s=some (R,H)):sw P fn m (λr h'=>r.nrm=R/\h'.map ar.rJ=H) s:=by
 unfold yG at h;split at h
 ·next l e=>
  obtain⟨b,d⟩:=ff h;cases d
  simp only[Zr,dS]at b;exact Ht _ _ _ e ⟨b.1.1,b.1.2,b.2,rfl,rfl⟩
 ·cases h
def ku{P:dg}{s:St}{fn:Func}{m:Nat}{R:AV}{H:I ar}(h:yG P fn.results.toList m s=some (R,H)):xq P fn m R H .ret s:=h
def tz{P:dg}{f:FuncId}{fn:Func}{c:Code}{args:I AV}{h H:I ar}{R:AV}(m:Nat)(d:P.funcs[f]?=some fn)(k:fn.body=some c)(p:(fn.name== "runtime.NumGoroutine")=false)(q:h.length<=m)
 (u:bR P none h.length c (xq P fn m R H) {n:=args.length+(fn.ntmps-args.length),t:=ng 0 args,h:=h}):dt P f args h λz h1=>z=R/\h1=H:=by
 have h0:=wo (P:=P) (f:=f) (args:=args) (h:=h) (K:=λr h'=>r.nrm=R/\h'.map ar.rJ=H) m d k p q (u.mono λe s b=>by
  cases e with
  |normal=>exact XW b
  |ret=>exact XW b
  |_=>exact b.elim)
 refine⟨h0.1,λG w B F J L=>(h0.2 G w B F J L).mono λe w' M=> ?_⟩;obtain⟨v,N,x,h',rfl,W,hN,e8,hv,rfl,rfl⟩:=M;exact⟨v,N,x.nrm,_,rfl,W,hN,R0 e8,hv.nrm,rfl,rfl⟩
def nh{P:dg}{r:U Nat}{N0:Nat}{c:Code}{s s':St}{Q:Exit->St->Prop}(e:s=s')(h:bR P r N0 c Q s'):bR P r N0 c Q s:=e▸h
def ib{b:Type}:I (so×b)->so->b->b
 |[],_,d=>d
 |(k,v)::l,s,d=>bif bL k==bL s then v else ib l s d
def ni{b:Type}:I (so×b)->so->Bool
 |[],_=>false
 |(k,_)::l,s=>bif bL k==bL s then true else ni l s
def fX(l:I (so×Int)):I (so×D):=l.map λp=>(p.1,.v (.int .i64 p.2))
def BE(l:I (so×Bool)):I (so×D):=l.map λp=>(p.1,.v (.bool p.2))
def XT{b:Type}(f:b->D):∀(l:I (so×b))(s:so)(d:b),mq (l.map λp=>(p.1,f p.2)) s=bif ni l s then some (f (ib l s d))else none
 |[],s,d=>rfl
 |(k,v)::l,s,d=>by
  simp only[ZS,mq,ni,ib];cases bL k==bL s with
  |true=>rfl
  |false=>simp only[T6];exact XT f l s d
def XS{b:Type}:∀(l:I (so×b))(s:so)(d:b),ni l s=false->ib l s d=d
 |[],s,d,_=>rfl
 |(k,v)::l,s,d,h=>by
  unfold ni at h;unfold ib;cases e:bL k==bL s with
  |true=>rw[e]at h;cases h
  |false=>rw[e]at h;simp only[T6];exact XS l s d h
def SK{b:Type}(f:b->D)(F:b->AV)(k:∀x,Kk (f x)=F x)(z:kd)(d0:b)(q:Bb z=F d0)(ok:Bool)(l:I (so×b))(s:so):
 sf ok z (mq (l.map λp=>(p.1,f p.2)) s)=bif ok then .bq [F (ib l s d0),.d (.v (.bool (ni l s)))]else F (ib l s d0):=by
 rw[XT f l s d0];cases e:ni l s with
 |true=>cases ok<;>simp only[sf,Tq,T6,k]
 |false=>rw[XS l s d0 e];cases ok<;>simp only[sf,Tq,T6,q]
def Ft(ok:Bool)(l:I (so×Int))(s:so):sf ok (.int .i64 0) (mq (fX l) s)=bif ok then .bq [.d (.v (.int .i64 (ib l s 0))),.d (.v (.bool (ni l s)))]else .d (.v (.int .i64 (ib l s 0))):=
 SK (λn=>.v (.int .i64 n)) (λn=>.d (.v (.int .i64 n))) (λ_=>rfl) _ 0 rfl ok l s
def amH(ok:Bool)(l:I (so×Bool))(s:so):sf ok (.bool false) (mq (BE l) s)=bif ok then .bq [.d (.v (.bool (ib l s false))),.d (.v (.bool (ni l s)))]else .d (.v (.bool (ib l s false))):=
 SK (λn=>.v (.bool n)) (λn=>.d (.v (.bool n))) (λ_=>rfl) _ false rfl ok l s
def cz{α:Type}(f:α->I D)(l:I (so×α)):I (so×D):=l.map λp=>(p.1,.ag (f p.2))
def ajg{α:Type}(f:α->I D)(z:kd)(d0:α)(b:Bb z= .agg ((f d0).map .d))(ok:Bool)(l:I (so×α))(s:so):
 sf ok z (mq (cz f l) s)=bif ok then .bq [.agg ((f (ib l s d0)).map .d),.d (.v (.bool (ni l s)))]else .agg ((f (ib l s d0)).map .d):=
 SK (λx=>.ag (f x)) (λx=>.agg ((f x).map .d)) (λ_=>rfl) _ d0 b ok l s
def aic{α:Type}{f:α->I D}{l:I (so×α)}(h:Nat.blt l.length 9223372036854775807=true):(Sd.lt (cz f l).length).ok:=by
 unfold cz;rw[Zu];exact Zi h
def Si{l:I (so×Int)}(h:Nat.blt l.length 9223372036854775807=true):(Sd.lt (fX l).length).ok:=by
 unfold fX;rw[Zu];exact Zi h
def asM{l:I (so×Bool)}(h:Nat.blt l.length 9223372036854775807=true):(Sd.lt (BE l).length).ok:=by
 unfold BE;rw[Zu];exact Zi h
def gI(g:Nat):I Int:=((Dq AR g).getD []).map λv=>match v with| .int _ n=>n|_=>0
def are(l:I Int):so:=⟨(l.map λn=>UInt8.ofNat n.toNat).toArray⟩
def ag2{α:Type}{c:Bool}{x y z:α}(h:(bif c then x else y)=z):(c=true/\x=z)\/(c=false/\y=z):=by
 cases c with
 |true=>exact .inl ⟨rfl,h⟩
 |false=>exact .inr ⟨rfl,h⟩
inductive HD
 |same
 |push (B:ar)
 |set (n:Nat) (B:ar)
def HD.app:HD->I ar->I ar
 | .same,h=>h
 | .push B,h=>h++[B]
 | .set n B,h=>h.set n B
def zN:Int->U Nat
 | .ofNat n=>some n
 | .negSucc _=>none
def FK{z:Int}{n:Nat}(h:zN z=some n):0<=z/\z.toNat=n:=by
 cases z with
 |ofNat m=>cases h;exact⟨Int.natCast_nonneg _,rfl⟩
 |negSucc m=>cases h
def vz(ρ:Operand->AV)(d:Nat):U Operand->U Nat
 |none=>some d
 |some y=>match (ρ y).int? with
  |some z=>zN z
  |none=>none
def Fc(k:Nat)(xs:I (I D)):Bool:=xs.all λc=>c.length==k
def Od(P:dg)(T:TypeId)(x i:AV):U AV:=
 match fQ P T with
 |some (_,k)=>match x with
  | .row n f p _ v=>match i.int? with
    |some z=>match zN z with
     |some q=>bif v==k&&cP (q+1) p then some (.ptr n (f+q*k))else none
     |none=>none
    |none=>none
  |x=>match x.gX,i.int? with
   |some u,some z=>match zN z with
    |some q=>match u[q]? with
     |some c=>bif c.length==k then some (.bM [c] 0 0)else none
     |none=>none
    |none=>none
   |_,_=>none
 |none=>match vW P T,x,i.int? with
  |some (n,_,k),.ptr b f,some z=>match zN z with
   |some q=>bif cP (q+1) n then some (.ptr b (f+q*k))else none
   |none=>none
  |some (n,_,k),.bM u e f,some z=>match zN z with
   |some q=>bif k==1&&cP (q+1) n then match u[e]? with
    |some c=>match c[f+q]? with
     |some d=>some (.bM [[d]] 0 0)
     |none=>none
    |none=>none
    else none
   |none=>none
  |_,_,_=>none
def aov{P:dg}{T:TypeId}{x i y:AV}{K:AV->Prop}(h:Od P T x i=some y)(J:K y):vt P T x i K:=by
 unfold Od at h;unfold vt;split at h
 ·next e k L=>
  simp only[L];split at h
  ·next n v N R k'=>
   simp only;split at h
   ·next z W=>
    simp only[W];split at h
    ·next q p=>
     obtain⟨h0,u⟩:=FK p;obtain⟨f,B⟩:=ff h;rw[Zr,dS]at f;refine cv.2 ⟨f.1,h0,by omega,?_⟩;rw[u,B];exact J
    ·cases h
   ·cases h
  ·next x' oy=>
   split at h
   ·next xs z F H=>
    split at h
    ·next q p=>
     obtain⟨h0,u⟩:=FK p;split at h
     ·next c M=>
      obtain⟨f,B⟩:=ff h;simp only[F,H];refine⟨h0,?_⟩;rw[u,M];exact⟨by simpa using f,by rw[B];exact J⟩
     ·cases h
    ·cases h
   ·cases h
 ·next L=>
  simp only[L];split at h
  ·next n e k b v z F H=>
   simp only[F,H];split at h
   ·next q p=>
    obtain⟨h0,u⟩:=FK p;obtain⟨f,B⟩:=ff h;rw[dS]at f;exact⟨h0,by omega,by rw[u,B];exact J⟩
   ·cases h
  ·next n e0 k xs e v z F H=>
   simp only[F,H];split at h
   ·next q p=>
    obtain⟨h0,u⟩:=FK p;obtain⟨f,h⟩:=lN h;rw[Zr,dS]at f;split at h
    ·next c M=>
     split at h
     ·next d ed=>
      cases h
      refine cv.2 ⟨f.1,h0,by omega,?_⟩;rw[M];simp only;rw[u,ed];exact J
     ·cases h
    ·cases h
   ·cases h
  ·cases h
def atx(P:dg)(T:TypeId)(ρ:Operand->AV)(x:AV)(lo hi p:U Operand):U AV:=
 match p with
 |none=>
  match x with
  | .d (.v (.string b))=>match vz ρ b.size hi,vz ρ 0 lo with
    |some h,some l=>bif jj P T&&cP h b.size&&cP l h then some (.d (.v (.string (b.extract l h))))else none
    |_,_=>none
  | .ptr n f=>match vW P T with
    |some (m,_,k)=>match vz ρ m hi,vz ρ 0 lo with
     |some h,some l=>bif cP m 4096&&cP h m&&(cP l h&& !cP m l)then some (.row n (f+l*k) (h-l) (m-l) k)else none
     |_,_=>none
    |none=>none
  |x=>match x.gX,fQ P T with
   |some e,some (_,k)=>match vz ρ e.length hi,vz ρ 0 lo with
    |some h,some l=>bif Fc k e&&cP h e.length&&cP l h then some (.d (.sl ((e.take h).drop l)))else none
    |_,_=>none
   |_,_=>none
 |some m=>match lo,hi with
  |none,some y=>match x.gX,fQ P T with
   |some e,some (_,k)=>match vz ρ 0 (some m),vz ρ 0 (some y)with
    |some c,some h=>bif Fc k e&&cP c e.length&&h==c then some (.full (e.take h))else none
    |_,_=>none
   |_,_=>none
  |_,_=>none
def atE(P:dg)(T:TypeId)(h:I ar)(x y:AV):U (AV×HD):=
 match fQ P T with
 |some (e,k)=>match jB P e,te P e with
  |some z,some p=>match Ll h k y with
   |some b=>bif cP 1 k&&z.cells.toList.length==k&&Fc k b then
    match x with
    | .own n f=>match h[n]? with
      |some (.front u B q)=>bif u==e&&B==k&&q==f.length&&Fc k f&&cP (f.length+b.length) maxLen&&cP ((f.length+b.length)*p) 140737488355328 then some (.own n (f++b),.set n (.front e k (f.length+b.length)))else none
      |_=>none
    | .d (.v (.slice none 0 0))=>bif cP b.length maxLen&&cP (b.length*p) 140737488355328 then some (.own h.length b,.push (.front e k b.length))else none
    | .full f=>bif Fc k f&&cP (f.length+b.length) maxLen&&cP ((f.length+b.length)*p) 140737488355328 then some (.own h.length (f++b),.push (.front e k (f.length+b.length)))else none
    |_=>none
    else none
   |none=>none
  |_,_=>none
 |none=>none
def XP:I (I D)->U (I Int)
 |[]=>some []
 |[.v (.int .u8 n)]::l=>match XP l with
  |some b=>some (n::b)
  |none=>none
 |_=>none
def TS:U (AV×In)->U AV
 |some (x,.none)=>some x
 |some (x,.nz b)=>bif b==0 then none else some x
 |some (x,.nn b)=>match zN b with
  |some _=>some x
  |none=>none
 |some (x,.cat n)=>bif cP n maxLen then some x else none
 |_=>none
def ah2{r:U (AV×In)}{x:AV}(P:dg)(h:TS r=some x):∃i,r=some (x,i)/\OK P i .ok:=by
 unfold TS at h;split at h;{cases h;exact⟨_,rfl,.none⟩}
 ·next b=>
  cases d:b==0 with
  |true=>rw[d]at h;cases h
  |false=>rw[d]at h;cases h;exact⟨_,rfl,.nz (by simpa using d)⟩
 ·next b=>
  split at h;{next e=>cases h;exact⟨_,rfl,.nn (FK e).1⟩};{cases h}
 ·obtain⟨d,f⟩:=ff h;cases f
  exact⟨_,rfl,.cat (dS.1 d)⟩
 ·cases h
def pX(r:U AV):U (AV×HD):=
 match r with
 |some x=>some (x,.same)
 |none=>none
def atB(P:dg)(b f:TypeId)(x:AV):U AV:=
 match MW P b f x .none with
 |some (y,.none)=>some y
 |_=>match x.gX,fQ P b with
  |some k,some (e,_)=>match XP k with
   |some p=>match x with
    | .d (.v _)=>none
    |_=>bif I9 P e&&jj P f then some (.d (.v (.string (are p))))else none
   |none=>none
  |_,_=>none
def nB(P:dg)(B:Op)(ρ:Operand->AV)(h:I ar):U (AV×HD):=
 match B with
 | .move x| .assign x=>some (ρ x,.same)
 | .pick c x y=>match ρ c with
   | .d (.v (.bool b))=>some (bif b then ρ x else ρ y,.same)
   |_=>none
 | .alloc e=>match jB P e with
   |some z=>some (.ptr h.length 0,.push (.cells (z.cells.toList.map λu=>.d (.v u))))
   |none=>none
 | .box _ x=>bif (ρ x).kT then some (.ptr h.length 0,.push (.cells (ρ x).cells))else none
 | .load t p=>match AE h (ρ p)with
   |some (cs,q)=>pX (CA P t cs q)
   |none=>none
 | .store t p x=>match ρ p with
   | .ptr n q=>match h[n]? with
     |some (.cells cs)=>match ic P t with
      |some k=>bif k==(ρ x).cells.length&&(ρ x).kT&&cP (q+(ρ x).cells.length) cs.length then some (.d (.v undef),.set n (.cells (jK cs q (ρ x).cells)))else none
      |none=>none
     |_=>none
   |_=>none
 | .nilCheck x=>match ρ x with
   | .ptr n q=>some (.ptr n q,.same)
   | .bM F i q=>some (.bM F i q,.same)
   | .fn f cs=>some (.fn f cs,.same)
   |_=>none
 | .fieldAddr S x f=>match ug P S f with
   |some (J,_,_)=>match ρ x with
    | .ptr n q=>some (.ptr n (q+J),.same)
    | .bM F i q=>some (.bM F i (q+J),.same)
    |_=>none
   |none=>none
 | .field T x f=>pX (NW P T (ρ x) f)
 | .indexAddr T x i=>pX (Od P T (ρ x) (ρ i))
 | .extract x i=>match ρ x with
   | .bq cs=>match cs[i]? with
     |some c=>some (c,.same)
     |none=>none
   |_=>none
 | .makeFunc (.func f) first L=>match first.toList with
   |[]=>some (.fn f (L.toList.map ρ),.same)
   |_=>none
 | .binOp B T x y _=>pX (TS (KE P T B (ρ x) (ρ y)))
 | .unOp B _ x=>match ρ x with
   | .d (.v u)=>match O6 B u with
     |some v=>some (.d (.v v),.same)
     |none=>none
   |_=>none
 | .call c=>match c.callee with
   | .builtin .len=>match c.args.toList,c.argTypes.toList with
     |[x],[T]=>match ρ x with
      | .d (.v (.string s))=>bif jj P T then some (.d (.v (.int .i64 s.size)),.same)else none
      | .row _ _ H _ _=>bif (fQ P T).isSome then some (.d (.v (.int .i64 H)),.same)else none
      |x=>match x.gX with
       |some F=>bif (fQ P T).isSome then some (.d (.v (.int .i64 F.length)),.same)else none
       |none=>none
     |_,_=>none
   |_=>none
 |_=>none
def Mx{r:U AV}{x:AV}{d:HD}(h:pX r=some (x,d)):r=some x/\d= .same:=by
 unfold pX at h;split at h;{cases h;exact⟨rfl,rfl⟩};{cases h}
def Xe{P:dg}{o:Oper}{ρ:Operand->AV}{h:I ar}{x:AV}{d:HD}{C:AV->I ar->Prop}(h1:nB P o.op ρ h=some (x,d))(f:C x (d.app h)):dj P o ρ h C:=by
 obtain⟨F,op,type,H,after,guard⟩:=o;simp only at h1;unfold nB at h1;unfold dj;split at h1;{cases h1;exact f};{cases h1;exact f}
 ·next c y z=>
  split at h1
  ·next b e=>
   cases h1
   simp only[e];cases b with
   |true=>exact⟨λ_=>f,λh=>Bool.noConfusion h⟩
   |false=>exact⟨λh=>Bool.noConfusion h,λ_=>f⟩
  ·cases h1
 ·split at h1
  ·next z e=>cases h1;simp only[e];exact f
  ·cases h1
 ·obtain⟨q,u⟩:=ff h1;cases u;exact cv.2 ⟨q,f⟩
 ·split at h1
  ·next cs v e=>
   obtain⟨p,rfl⟩:=Mx h1;exact Vc e p f
  ·cases h1
 ·split at h1
  ·next n v e=>
   split at h1
   ·next cs p=>
    split at h1;{next k J=>obtain⟨q,u⟩:=ff h1;cases u;simp only[e,zg,p,J];exact cv.2 ⟨q,f⟩};{cases h1}
   ·cases h1
  ·cases h1
 ·split at h1
  ·next e=>cases h1;simp only[e];exact f
  ·next e=>cases h1;simp only[e];exact f
  ·next e=>cases h1;simp only[e];exact f
  ·cases h1
 ·split at h1
  ·next e=>
   simp only[e];split at h1;{next p=>cases h1;simp only[p];exact f};{next p=>cases h1;simp only[p];exact f};{cases h1}
  ·cases h1
 ·obtain⟨e,rfl⟩:=Mx h1;exact YT e f
 ·obtain⟨e,rfl⟩:=Mx h1;exact aov e f
 ·split at h1
  ·next e=>
   split at h1;{next p=>cases h1;simp only[e,p];exact f};{cases h1}
  ·cases h1
 ·split at h1
  ·next e=>cases h1;simp only[e];exact f
  ·cases h1
 ·obtain⟨e,rfl⟩:=Mx h1;obtain⟨i,p,L⟩:=ah2 P e;exact Xf p L f
 ·unfold yo;split at h1
  ·next e=>
   split at h1;{next p=>cases h1;simp only[e,p];exact f};{cases h1}
  ·cases h1
 ·next c=>
  split at h1
  ·next M=>
   simp only[M];split at h1
   ·next y T N p=>
    simp only[N,p];unfold um;split at h1;{next s e=>obtain⟨q,u⟩:=ff h1;cases u;simp only[e];exact cv.2 ⟨q,f⟩};{next e=>obtain⟨q,u⟩:=ff h1;cases u;simp only[e];exact cv.2 ⟨q,f⟩}
    ·next R W=>
     split at h1
     ·next xs e=>
      obtain⟨q,u⟩:=ff h1;cases u;split;{next s B=>exact absurd B (R s)};{next B=>exact absurd B (W _ _ _ _ _)};{simp only[e];exact cv.2 ⟨q,f⟩}
     ·cases h1
   ·cases h1
  ·cases h1
 ·cases h1
def dV(n:Nat)(t:I (Nat×AV)):I AV:=(List.range n).map (bP t)
def apd{n:Nat}{t:I (Nat×AV)}{i:Nat}{c:AV}(h:(dV n t)[i]?=some c):bP t i=c:=by
 unfold dV at h;rw[Zs]at h;by_cases b:i<n;{rw[List.getElem?_range b]at h;exact Zw h};{rw[Z9 (by simpa using b)]at h;cases h}
def RK(P:dg)(N0:Nat)(Q:Exit->St->Prop)(s:St):LS->Prop
 | .ready=>Q .normal s
 | .done c=>bR P none N0 c Q s
 | .busy=>False
def amq{P:dg}{N0:Nat}{s:St}{Q:Exit->St->Prop}{g:Operand}{p:Nat}{assign body:Code}{gf:FuncId}{dD:I AV}(hg:ev s g= .fn gf dD)
 (k:dt P gf (.cU s.h.length::dD) (s.h++[.lp .ready p assign body (dV s.n s.t)]) λ_ h'=>∃(H:LS)(p1:Nat)(uE uy:Code)(x8:I AV),h'[s.h.length]?=some (.lp H p1 uE uy x8)/\RK P N0 Q ⟨s.n,s.t,h'.set s.h.length .gone⟩ H):
 bR P none N0 (.rangeFunc g #[p] assign body) Q s:=by
 constructor
 intro G w a n d W;have hv:=d.ev g;rw[hg]at hv;obtain⟨q,ea,hl,hr⟩:∃q:Array kd,a.eval g= .func (.func gf) #[] q/\q.size=dD.length/\∀(i:Nat)(u:kd)(c:AV),q[i]?=some u->dD[i]?=some c->aQ G w u c:=by
  generalize a.eval g=u at hv;cases hv with|fn _ vs _ hl hr=>exact⟨vs,rfl,hl,hr⟩
 obtain⟨Fo,kH⟩:=k;refine wpIn_rangeFunc (F:=WF none) ?_;intro fn _;obtain⟨EC,J⟩:=ass d.inv;obtain⟨G0,l5⟩:∃G0:Gh,G0={G with Z:=λb=>G.Z b\/b=w.heap.size}:=⟨_,rfl⟩;obtain⟨w0,sE⟩:∃w0,w0=w.alloc (.deferred (some [])):=⟨_,rfl⟩;rw[<-l5,<-sE]at EC J;have cJ:G0.N=G.N:=by rw[l5]
 have iV:w0.heap.size=w.heap.size+1:=by rw[sE];simp
 obtain⟨L,zB,Sm⟩:=alx J fn a.tmps w.heap.size p assign body (dV s.n s.t) (by simp [dV,d.size]) λi u c f k=>by
  have h9:=d.tmp i;rw[apd k]at h9;have e:a.tmps.getD i undef=u:=by
   have aV:=(ZT.1 f).1;rw[ZM aV]at f;simp [Array.getD,aV];exact Zw f
  rw[e]at h9;exact h9.keep EC (Nat.le_of_eq cJ.symm)
 obtain⟨w1,s8⟩:∃w1,w1=w0.alloc (.loop {state:= .ready,pending:=none,fn:=fn,tmps:=a.tmps,params:= #[p],assign:=assign,body:=body,defers:=w.heap.size}):=⟨_,rfl⟩;obtain⟨G1,Rh⟩:∃G1:Gh,G1=G0.dA w0.heap.size:=⟨_,rfl⟩;rw[<-s8,<-Rh]at L zB Sm;have gU:G1.N=G.N+1:=by rw[Rh,<-cJ];rfl
 have amb:G1.bg s.h.length=w.heap.size+1:=by rw[Rh,d.inv.len,<-cJ];simp [Gh.dA,iV]
 rw[iV]at Sm;have M:cq G.N G w G1 w1:=EC.trans (L.less (Nat.le_of_eq cJ.symm));refine⟨w.heap.size+1,[{target:= .collected w.heap.size,args:= #[]}],w1,{target:= .fn (.func gf) q,args:= #[.func (.yield (w.heap.size+1)) #[] #[]]},w1,gf, #[.func (.yield (w.heap.size+1)) #[] #[]]++q,w1,?_,?_,λ_ _=>trivial,?_,λh=>(by simp [WF,Fence.wide]at h),?_⟩;{rw[s8,sE];exact run_enterLoop_outer _ _ _ _ _};{simp only[resolve,ea];simp [Deferred.ofValue,go_sem]};{simp [invoke,Qv Fo]}
 have hK:=kH G1 w1 (#[.func (.yield (w.heap.size+1)) #[] #[]]++q) zB (by simp [hl];omega) (λi u c f k=>by
  match i with
  |0=>
   rw[Array.getElem?_append_left (by simp)]at f;simp at f k;subst f;subst k;exact Sm
  |i+1=>
   rw[Array.getElem?_append_right (by simp)]at f;simp at f k;exact(hr i u c f k).keep M (by rw[gU];exact ba _))
 refine CallsIn.mono (F:=WF none) (callsIn_wide (n:=n-1).2 hK) ?_;rintro e w2 ⟨v,G2,r,h',rfl,kD,hN2,P8,_,H,p1,uE,uy,x8,hk,TH⟩;have Ct:s.h.length<G1.N:=by rw[d.inv.len,gU];exact Z0 _
 have JH:G2.bg s.h.length=w.heap.size+1:=(kD.bg _ Ct).trans amb;obtain⟨_,fn2,tm2,D2,g3,g4,g5,XC⟩:=KB P8 hk;rw[JH]at g3;have hEa:cq G.N G w G2 w2:=M.trans (kD.less (by rw[gU];exact ba _));have Of:G.N<=G2.N:=by rw[gU]at hN2;omega
 obtain⟨B,ny⟩:∃B:Obj,B= .loop {state:= .exhausted,pending:=H.pd,fn:=fn2,tmps:=tm2,params:= #[p1],assign:=uE,body:=uy,defers:=D2}:=⟨_,rfl⟩;obtain⟨zE,zI⟩:=ao3 P8 hk B;rw[JH]at zE zI;have FT:cq G.N G w G2 (w2.putObj (w.heap.size+1) B):=hEa.trans (zE.less Of);have hM:=d.inv.gl.2;have CV:G0.Z w.heap.size:=by rw[l5];exact .inr rfl
 have Z3:G2.Z w.heap.size:=kD.Z.1.1 _ (L.Z.1.1 _ CV);have hDh:(w2.putObj (w.heap.size+1) B).heap[w.heap.size]?=some (.deferred (some [])):=by
  rw[zE.old _ Z3,kD.old _ (L.Z.1.1 _ CV),L.old _ CV,sE];exact World.alloc_heap_new w _
 have cZ:dx G2 (w2.putObj (w.heap.size+1) B) {a with defers:=[{target:= .collected w.heap.size,args:= #[]}]++a.defers} ⟨s.n,s.t,h'.set s.h.length .gone⟩:=by
  refine⟨d.size,λi=>(d.tmp i).keep FT Of,zI,?_⟩;obtain⟨l,l1,l2,l3⟩:=d.df.keep FT;obtain⟨l',l1',R,l3'⟩:=d.df;have qX:l=l':=by
   rw[l2]at R;have aob:∀(x y:I Nat),x.map (λD=>({target:= .collected D,args:= #[]}:Deferred))=y.map (λD=>{target:= .collected D,args:= #[]})->x=y:=by
     intro x
     induction x with
     |nil=>intro y h;cases y with
      |nil=>rfl
      |cons b y=>simp at h
     |cons a x ih=>intro y h;cases y with
      |nil=>simp at h
      |cons b y=>simp at h;rw[h.1,ih y (by simpa using h.2)]
   exact aob _ _ R
  refine⟨w.heap.size::l,?_,by rw[ZS,<-l2];rfl,λD hD=> ?_⟩;{rw[List.nodup_cons];exact⟨λh=>Z4 _ (d.inv.z _ (l3' _ (qX▸h)).2.1),l1⟩}
  ·rcases Za.1 hD with rfl|hD
   ·exact⟨by rw[FT.Z.2];exact hM,Z3,hDh⟩
   ·exact l3 D hD
 subst ny;have GZ:=λhb=>run_endLoop (P:=P) g3 hb;cases H with
 |busy=>exact TH.elim
 |ready=>
  refine⟨_,_,GZ (by simp [LS.st]),?_⟩;exact⟨G2,_,FT.less W,Zc W Of,cZ,TH⟩
 |done c=>
  refine⟨_,_,GZ (by simp [LS.st]),?_⟩;refine wpIn_mono (TH.run G2 _ _ n (cZ) (Zc W Of)) λ_ _ _ hn=> ?_;exact hn.trans (FT.less W)
set_option linter.unusedSimpArgs false
set_option linter.unusedVariables false
mutual
def Pe:∀x:AV,x.aZ id=x
 | .agg cs=>by rw[AV.aZ,uI cs]
 | .bq cs=>by rw[AV.aZ,uI cs]
 | .fn f cs=>by rw[AV.aZ,uI cs]
 | .own .. =>by simp [AV.aZ]
 | .d _=>by simp [AV.aZ]
 | .ptr .. =>by simp [AV.aZ]
 | .bM .. =>by simp [AV.aZ]
 | .full _=>by simp [AV.aZ]
 | .row .. =>by simp [AV.aZ]
 | .mp _=>by simp [AV.aZ]
 | .cU _=>by simp [AV.aZ]
 | .vec .. =>by simp [AV.aZ]
 | .eH .. =>by simp [AV.aZ]
 | .hid _=>by simp [AV.aZ]
 | .dead=>by simp [AV.aZ]
def uI:∀l:I AV,AV.iD id l=l
 |[]=>by simp [AV.iD]
 |x::l=>by rw[AV.iD,Pe x,uI l]
end
def V3(B:ar):B.aZ id=B:=by
 cases B with
 |cells cs=>simp only[ar.aZ,uI]
 |lp b p as d cs=>simp only[ar.aZ,uI]
 |it f cs=>simp only[ar.aZ,uI]
 |fM q cs=>simp only[ar.aZ,uI]
 |vec e k cs=>simp only[ar.aZ];congr 1;exact(Z8 λx _=>uI x).trans (List.map_id _)
 |_=>rfl
def aQ.low{G:Gh}{w:Zy}{u:kd}{x:AV}(h:aQ G w u x):x.aN G.N=true:=by
 have lt:∀{n:Nat},n<G.N->(!cP G.N n)=true:=fun{n} B=>by
  rw[UA,<-Uq,dS];omega
 have p:∀(b:Array kd)(cs:I AV),b.size=cs.length->(∀(i:Nat)(u:kd)(c:AV),b[i]?=some u->cs[i]?=some c->c.aN G.N=true)->AV.lA G.N cs=true:=λb cs d h=>by
  rw[oH,Zd];intro c v;obtain⟨i,z,rfl⟩:=aj.1 v;exact h i b[i] _ (ZM (by omega)) (Ze z)
 induction h with
 |agg b cs d _ e=>rw[AV.aN];exact p b cs d e
 |bq b cs d _ e=>rw[AV.aN];exact p b cs d e
 |fn f b cs d _ e=>rw[AV.aN];exact p b cs d e
 |ptr n q h=>rw[AV.aN];exact lt h
 |own n F h=>rw[AV.aN];exact lt h
 |row n q len cap k h=>rw[AV.aN];exact lt h
 |mp n h=>rw[AV.aN];exact lt h
 |cU n h=>rw[AV.aN];exact lt h
 |vec n o len L k h=>rw[AV.aN];exact lt h
 |eH n i j L k h=>rw[AV.aN];exact lt h
 |_=>simp [AV.aN]
def jU(N0:Nat)(s s':St):Prop:=∀(G:Gh)(w:Zy)(a:Act),N0<=G.N->dx G w a s->∃G',cq N0 G w G' w/\N0<=G'.N/\dx G' w a s'
def jU.refl(N0:Nat)(s:St):jU N0 s s:=λG _ _ b d=>⟨G,cq.refl _ _ _,b,d⟩
def jU.trans{N0:Nat}{s1 b s3:St}(h:jU N0 s1 b)(k:jU N0 b s3):jU N0 s1 s3:=λG w a d e=>by
 obtain⟨f,p,q,u⟩:=h G w a d e;obtain⟨v,z,B,F⟩:=k f w a q u;exact⟨v,p.trans z,B,F⟩
def jU.of_eq{N0:Nat}{s s':St}(h:kt s s'):jU N0 s s':=λG _ _ d b=>
 ⟨G,cq.refl _ _ _,d,b.size.trans h.n,λi=>by rw[<-h.t i];exact b.tmp i,by rw[<-h.h];exact b.inv,b.df⟩
def jU.aZ{N0:Nat}{s s':St}(σ τ:Nat->Nat)(hn:s.n=s'.n)(k:s'.h.length=s.h.length)(aV:∀i,i<s.h.length->σ i<s.h.length)(L:∀i,i<s.h.length->τ i<s.h.length)
 (q:∀i,i<s.h.length->τ (σ i)=i) (M:∀i,i<s.h.length->σ (τ i)=i) (Mk:∀i,i<N0->σ i=i)
 (ht:∀i,(bP s.t i).aN s.h.length=true->bP s'.t i=(bP s.t i).aZ σ\/bP s'.t i= .dead) (hh:∀i,i<s.h.length->s'.h[σ i]?=(s.h[i]?).map (ar.aZ σ)):jU N0 s s':=λG w a hN f=>by
 have hl:s.h.length=G.N:=f.inv.len;rw[hl]at aV L q M hh k ht;have R:∀i,i<N0->τ i=i:=λi hi=>by
  have d:=q i (by omega);rw[Mk i hi]at d;exact d
 let G':Gh:={G with bg:=λn=>G.bg (τ n),sg:=λn=>G.sg (τ n),ow:=λn=>G.ow (τ n),fl:=λn=>G.fl (τ n)}
 have W:sN σ G G':=⟨aV,λn h=>by show G.bg (τ (σ n))=_;rw[q n h],λn h=>by show G.sg (τ (σ n))=_;rw[q n h],λn h=>by show G.fl (τ (σ n))=_;rw[q n h],λn h=>by show G.ow (τ (σ n))=_;rw[q n h],λ_ _=>Iff.rfl⟩;have hE:cq N0 G w G' w:=⟨Zv _,λ_ _ h=>h,λ_ _ _=>rfl,λn h=>by show G.bg (τ n)=_;rw[R n h],λn h=>.inl ⟨by show G.fl (τ n)=_;rw[R n h],by show G.sg (τ n)=_;rw[R n h]⟩,iX rfl,λ_ _=>rfl,rfl,rfl,rfl,λ_ _ h=>.inl h⟩;have fy:∀(n:Nat)(B:ar),s'.h[n]?=some B->∃m B0,m<G.N/\σ m=n/\s.h[m]?=some B0/\B=B0.aZ σ:=λn B u=>by
  have v:n<G.N:=by have:=(Zo.1 u).1;omega
  have d:=hh (τ n) (L n v);rw[M n v,u]at d;cases h2:s.h[τ n]? with
  |none=>rw[h2]at d;cases d
  |some B0=>rw[h2]at d;cases d;exact⟨τ n,B0,L n v,M n v,h2,rfl⟩
 have fu:∀(n b:Nat),cr s'.h G' n=some b->∃m,m<G.N/\σ m=n/\cr s.h G m=some b:=λn b p=>by
  obtain⟨B,u,p⟩:=n9 p;obtain⟨m,B0,F,H,J,rfl⟩:=fy n B u;subst H;rw[V5 W F]at p;exact⟨m,F,rfl,by rw[eG J];exact p⟩
 refine⟨G',hE,hN,f.size.trans hn,λi=> ?_,⟨k,f.inv.z,f.inv.S,λn B u=> ?_,λm n b hm v=> ?_,f.inv.gl.keep hE⟩,f.df.keep hE⟩
 ·have hv:=f.tmp i;rcases ht i hv.low with e|e
  ·rw[e];exact hv.aZ W
  ·rw[e];exact .dead _
 ·obtain⟨m,B0,F,H,J,rfl⟩:=fy n B u;subst H;have p:=f.inv.dM m B0 J;exact fb.aZ W F (λb d=>p.mz d) p
 ·obtain⟨m',F,H,J⟩:=fu m b hm;obtain⟨n',j1,j2,j3⟩:=fu n b v;have:=f.inv.inj m' n' b J j3;rw[<-H,<-j2,this]
def j9(h0:Nat)(p:I Nat)(i:Nat):Nat:=bif cP h0 i then p.getD (i-h0) i else i
structure oJ(ks:List Nat)(s0 s:St):Prop where
 n:s.n=s0.n
 t:∀d,d ∉ ks->bP s.t d=bP s0.t d
def oJ.refl(ks:I Nat)(s:St):oJ ks s s:=⟨rfl,λ_ _=>rfl⟩
def oJ.put{ks:I Nat}{s0 s:St}(h:oJ ks s0 s)(h1:I ar){d:U Nat}(x:AV)(f:∀k,d=some k->k∈ks):oJ ks s0 ((s.wh h1).put d x):=
 ⟨by rw[sO];exact h.n,λi b=>by
  rw[uX,ae];{exact h.t i b}
  ·rintro⟨e,_⟩;exact b (f i e)⟩
def ES(N0:Nat)(K:St->Prop):Prop:=∀s s',jU N0 s s'->K s'->K s
def ES.c{N0:Nat}{K:St->Prop}(h:ES N0 K):tn K:=λs s' e b=>h s' s (jU.of_eq e.symm) b
def V8{P:dg}{r:U Nat}{N0:Nat}{s:St}{Q:Exit->St->Prop}{m:Bool}{id:Nat}{ops:Array Oper}(f:P.follows .mixedOrders=true)
 (h:N0<=s.h.length->(∀i,(bP s.t i).aN s.h.length=true)->me m P ops (λs1=>∃b,jU N0 s1 b/\Q .normal b) ops.size (Array.replicate ops.size false) s):bR P r N0 (.region id ops true) Q s:=by
 constructor
 intro G w a n d e;obtain⟨k,p⟩:=d.drew;refine wpIn_region_any f ?_;have q:=d.inv.len;refine Jm (G:=G) (w:=w) (N0:=N0) (K:=λs1=>∃b,jU N0 s1 b/\Q .normal b) (λu w' v=> ?_) ops.size _ G _ a s (k.less e) e p (h (by omega) λi=>by rw[q];exact(d.tmp i).low);obtain⟨z,s',B,F,H,b,J,L⟩:=v;obtain⟨M,N,R,W⟩:=J z w' u F H;exact⟨M,b,B.trans N,R,W,L⟩
def Qt{N0:Nat}(Q:St->Prop):ES N0 (λs1=>∃b,jU N0 s1 b/\Q b):=λ_ _ h ⟨b,d,e⟩=>⟨b,h.trans d,e⟩
def AK(f:Nat->Bool):Nat->Nat
 |0=>0
 |n+1=>bif f n then AK f n|||(1<<<n)else AK f n
def FF(f:Nat->Bool):∀(n j:Nat),Nat.testBit (AK f n) j=(decide (j<n)&&f j)
 |0,j=>by simp [AK]
 |n+1,j=>by
  unfold AK;have b:=FF f n j;cases d:f n with
  |true=>
   simp only[Tq,Nat.testBit_or,b,Nat.one_shiftLeft,Nat.testBit_two_pow];by_cases e:n=j;{subst e;simp [d]}
   ·have:decide (j<n+1)=decide (j<n):=by simp;omega
    rw[this];simp [e]
  |false=>
   simp only[T6,b];by_cases e:n=j;{subst e;simp [d]}
   ·have:decide (j<n+1)=decide (j<n):=by simp;omega
    rw[this]
def fN{α:Type}(n:Nat)(f:Nat->α):α:=Nat.casesOn (Nat.succ n) (f 0) f
def Ch{α:Type}(n:Nat)(f:Nat->α):fN n f=f n:=rfl
def fL{α:Type}:I Nat->(I Nat->α)->α
 |[],f=>f []
 |n::l,f=>fN n λn=>fL l λl=>f (n::l)
def Au{α:Type}:∀(l:I Nat)(f:I Nat->α),fL l f=f l
 |[],_=>rfl
 |n::l,f=>by rw[fL,Ch,Au l]
section
variable (ops:Array Oper)
def C5(o:Oper)(n j:Nat):Bool:=o.after.any λe=>Region.binds .any e&&(e.on==j||(j==n&&cP n e.on))
def N2(k:Nat):Nat:=match ops[k]? with
 |some o=>AK (C5 o ops.size) (ops.size+1)
 |none=>1<<<ops.size
def U7(m:Bool)(M:Array Nat)(k j:Nat):Bool:= !(j==k)&&(!((M.getD j 0).testBit k)&&match ops[k]?,ops[j]? with
 |some b,some d=> !(b.apart ops d&&Bq m b d)
 |_,_=>true)
def wc(m:Bool)(M:Array Nat)(k:Nat):Nat:=AK (U7 ops m M k) ops.size
def qg:Nat->Nat->I Nat
 |_,0=>[]
 |k,n+1=>N2 ops k::qg (k+1) n
def lH(m:Bool)(M:Array Nat):Nat->Nat->I Nat
 |_,0=>[]
 |k,n+1=>wc ops m M k::lH m M (k+1) n
end
def qN:I Nat->Nat->Nat->I Nat
 |[],_,_=>[]
 |a::A,L,k=>bif !(Nat.testBit L k)&&(L&&&a==a)then k::qN A L (k+1)else qN A L (k+1)
def yi(C:I Nat)(L:Nat):I Nat->U Nat
 |[]=>none
 |k::r=>bif (C.getD k 0)|||L==L then some k else yi C L r
section
variable (ops:Array Oper) (st:Oper->St->U St) (h0:Nat) (ks A C:I Nat)
def pQ:I Oper->I Nat
 |[]=>[]
 |o::l=>match o.dst with
  |some d=>d::pQ l
  |none=>pQ l
end
def N4:∀{l:I Oper}{o:Oper},o∈l->∀d,o.dst=some d->d∈pQ l
 |[],_,h,_,_=>by cases h
 |a::l,o,h,d,b=>by
  unfold pQ;rcases Za.1 h with rfl|h
  ·rw[b];simp
  ·split
   ·exact Zg _ (N4 h d b)
   ·exact N4 h d b
def Hb(ops:Array Oper):∀(n k i:Nat),(qg ops k n)[i]?=if i<n then some (N2 ops (k+i))else none
 |0,k,i=>by simp [qg]
 |n+1,k,0=>by simp [qg]
 |n+1,k,i+1=>by rw[qg,Z2,Hb ops n (k+1) i];simp only[Nat.add_lt_add_iff_right];rw[show k+1+i=k+(i+1) by omega]
def T5(ops:Array Oper)(m:Bool)(M:Array Nat):∀(n k i:Nat),(lH ops m M k n)[i]?=if i<n then some (wc ops m M (k+i))else none
 |0,k,i=>by simp [lH]
 |n+1,k,0=>by simp [lH]
 |n+1,k,i+1=>by rw[lH,Z2,T5 ops m M n (k+1) i];simp only[Nat.add_lt_add_iff_right];rw[show k+1+i=k+(i+1) by omega]
def JF{L:Nat}:∀(A:I Nat)(k i:Nat),i∈qN A L k↔k<=i/\Nat.testBit L i=false/\∃a,A[i-k]?=some a/\L&&&a=a
 |[],k,i=>by simp [qN]
 |a::A,k,i=>by
  have v:=JF (L:=L) A (k+1) i;unfold qN;have u:i∈qN A L (k+1)↔k<i/\Nat.testBit L i=false/\∃b,(a::A)[i-k]?=some b/\L&&&b=b:=by
   rw[v];constructor;{rintro⟨e,d,b,f,p⟩;refine⟨e,d,b,?_,p⟩;rw[show i-k=(i-(k+1))+1 by omega,Z2];exact f};{rintro⟨e,d,b,f,p⟩;refine⟨e,d,b,?_,p⟩;rw[show i-k=(i-(k+1))+1 by omega,Z2]at f;exact f}
  cases q:(!(Nat.testBit L k)&&(L&&&a==a))with
  |true=>
   simp only[Tq,Za,u];simp only[Zr,UA,Ua]at q;constructor
   ·rintro(rfl|⟨e,d⟩)
    ·exact⟨Zv _,q.1,a,by simp,q.2⟩
    ·exact⟨by omega,d⟩
   ·rintro⟨e,d⟩;rcases Nat.lt_or_eq_of_le e with h|h
    ·exact .inr ⟨h,d⟩
    ·exact .inl h.symm
  |false=>
   simp only[T6,u];constructor;{rintro⟨e,d⟩;exact⟨by omega,d⟩}
   ·rintro⟨e,d,b,f,p⟩;rcases Nat.lt_or_eq_of_le e with h|h
    ·exact⟨h,d,b,f,p⟩
    ·subst h;simp at f;subst f;rw[d]at q;simp at q;exact absurd p q
def G8{C:I Nat}{L:Nat}:∀{r:I Nat}{k:Nat},yi C L r=some k->k∈r/\(C.getD k 0)|||L=L
 |[],k,h=>by cases h
 |a::r,k,h=>by
  unfold yi at h;cases b:((C.getD a 0)|||L==L)with
  |true=>rw[b]at h;cases h;exact⟨by simp,by simpa using b⟩
  |false=>rw[b]at h;have:=G8 h;exact⟨Zg _ this.1,this.2⟩
structure LM(ops:Array Oper)(L:Nat)(listed:Array Bool):Prop where
 sz:listed.size=ops.size
 b:∀i,Nat.testBit L i=listed.getD i false
def LM.set{ops:Array Oper}{L:Nat}{listed:Array Bool}(h:LM ops L listed){k:Nat}(d:k<ops.size):LM ops (L|||(1<<<k)) (listed.setIfInBounds k true):=by
 refine⟨by simp [h.sz],λi=> ?_⟩;rw[Nat.testBit_or,Nat.one_shiftLeft,Nat.testBit_two_pow,h.b i];by_cases e:k=i
 ·subst e;have:k<listed.size:=by rw[h.sz];exact d
  simp [this]
 ·rw[getD_set_ne false e];simp [e]
def LM.ready{ops:Array Oper}{L:Nat}{listed:Array Bool}(h:LM ops L listed)(i:Nat):i∈Region.ready .any ops listed↔i∈qN (qg ops 0 ops.size) L 0:=by
 rw[mem_ready,JF];simp only[Wv,true_and,Nat.sub_zero,Hb,ZQ];have N:∀j,ops.size<=j->Nat.testBit L j=false:=λj f=>by
   rw[h.b,Array.getD_eq_getD_getElem?,Array.getElem?_eq_none (by rw[h.sz];exact f)];rfl
 constructor
 ·rintro⟨v,o,p,z⟩;have q:=(ZT.1 p).1;have B:listed.getD i false=false:=by
   have F:i<listed.size:=by rw[h.sz];exact q
   simpa [F]using v
  refine⟨by rw[h.b];exact B,_,by rw[ab q],?_⟩;apply Nat.eq_of_testBit_eq;intro j;rw[Nat.testBit_and];unfold N2;rw[p];simp only[FF];cases d:(decide (j<ops.size+1)&&C5 o ops.size j)with
  |false=>simp
  |true=>
   simp only[Bool.and_true];rw[Zr]at d;have d:=d.2;unfold C5 at d;rw[Array.any_eq_true']at d;obtain⟨e,H,d⟩:=d;simp only[Zr,aq,Ua,dS]at d;have J:=z e H d.1;have:e.on<ops.size:=by
    rcases Nat.lt_or_ge e.on ops.size with k|k
    ·exact k
    ·have:=N e.on k;rw[h.b]at this;rw[this]at J;cases J
   rcases d.2 with f|⟨_,f⟩
   ·rw[<-f,h.b];exact J
   ·omega
 ·rintro⟨v,a,M,z⟩;split at M
  ·next q=>
   cases M
   have p:ops[i]?=some ops[i]:=ZM q;refine⟨?_,ops[i],p,λe H W=> ?_⟩
   ·rw[h.b]at v;have F:i<listed.size:=by rw[h.sz];exact q
    simpa [F]using v
   ·have R:∀j,j<ops.size+1->C5 ops[i] ops.size j=true->Nat.testBit L j=true:=λj f hf=>by
     have:=congrArg (λn=>Nat.testBit n j) z;simp only[Nat.testBit_and]at this;unfold N2 at this;rw[p]at this;simp only[FF]at this;rw[hf]at this
     simpa [f]using this
    have u:∀j,(e.on==j||(j==ops.size&&cP ops.size e.on))=true->C5 ops[i] ops.size j=true:=λj f=>by
     unfold C5;rw[Array.any_eq_true'];exact⟨e,H,by rw[W,f];rfl⟩
    rcases Nat.lt_or_ge e.on ops.size with k|k
    ·rw[<-h.b];exact R e.on (by omega) (u _ (by simp))
    ·have:=R ops.size (by omega) (u _ (by simp [dS.2 k]));rw[N _ (Zv _)]at this;cases this
  ·cases M
section
variable {P:dg} {ops:Array Oper} {st:Oper->St->U St} {h0:Nat} {m:Bool} {N0:Nat} {K:St->Prop} {s0:St}
end
inductive aaQ
 |n
 |r
 |x (id:Nat)
def Rs{α:Type}(n:Nat)(f:Nat->α):α:=Nat.casesOn (Nat.succ n) (f 0) f
def asY{α:Type}(n:Nat)(f:Nat->α):Rs n f=f n:=rfl
def AV.force{α:Type}(x:AV)(f:AV->α):α:=
 match x with
 | .d (.v (.int k (.ofNat n)))=>Rs n λn=>f (.d (.v (.int k (.ofNat n))))
 | .d (.v (.bool b))=>bif b then f (.d (.v (.bool true)))else f (.d (.v (.bool false)))
 |x=>f x
def AV.force_eq{α:Type}(x:AV)(f:AV->α):x.force f=f x:=by
 unfold AV.force;split;{rw[asY]};{next b=>cases b<;>rfl};{rfl}
def Kl{α:Type}:I ar->(I ar->α)->α
 |[],f=>f []
 |b::l,f=>Kl l λr=>f (b::r)
def XO{α:Type}:∀(l:I ar)(f:I ar->α),Kl l f=f l
 |[],_=>rfl
 |b::l,f=>by rw[Kl,XO l]
abbrev Wm:=Bool->Nat->Code->St->U (aaQ×St)
abbrev Ug:=FuncId->I AV->U (U AV)
def fixS:U (U AV)->Bool
 |some none=>true
 |_=>false
mutual
def AV.ady:AV->I Nat
 | .fn _ cs=>AV.RN cs
 |_=>[]
def AV.RN:I AV->I Nat
 |[]=>[]
 | .ptr n _::l=>n::AV.RN l
 |x::l=>x.ady++AV.RN l
end
def Lx:I Nat->AV->I ar->U (AV×I ar)
 |[],r,h=>some (r,h)
 |b::l,r,h=>match h[b]? with
  |some (.cells cs)=>match om cs with
   |some d=>Lx l (r.ga b d) ((h.map (ar.ga b d)).set b .gone)
   |none=>none
  |_=>none
def XN:AV->U D
 | .d x=>some x
 |_=>none
def O3:I AV->U (I D)
 |[]=>some []
 |x::l=>match XN x,O3 l with
  |some d,some r=>some (d::r)
  |_,_=>none
def Oa:I (I AV)->U (I (I D))
 |[]=>some []
 |x::l=>match O3 x,Oa l with
  |some d,some r=>some (d::r)
  |_,_=>none
mutual
def AV.ab5:AV->Bool
 | .vec .. =>true
 | .agg cs=>AV.My cs
 | .bq cs=>AV.My cs
 | .fn _ cs=>AV.My cs
 |_=>false
def AV.My:I AV->Bool
 |[]=>false
 |x::l=>x.ab5||AV.My l
end
def vJ:I Nat->AV->I ar->AV×I ar
 |[],r,h=>(r,h)
 |b::l,r,h=>match h[b]? with
  |some (.vec _ k cs)=>match Oa cs with
   |some d=>bif d.all (λc=>c.all D.xx)then(r.dG b k d).force λr=>Kl ((h.map (ar.lf (AV.dG b k d))).set b .gone) λh=>vJ l r h else vJ l r h
   |none=>vJ l r h
  |_=>vJ l r h
def an4(h:I ar):I Nat:=(List.range h.length).reverse++(List.range h.length).reverse
def Np(r:AV)(h:I ar):U AV:=
 match Lx r.ady r h with
 |some (r,_)=>some (r.bQ 0)
 |none=>none
def XM(r:AV)(h:I ar):U AV:=
 bif r.ab5 then(match vJ (an4 h) r h with|(r,h)=>Np r h)else Np r h
section
variable (run:Wm) (P:dg) (XQ:Ug)
def cw(lo:Nat)(f:FuncId)(args:I AV)(h:I ar):U (AV×I ar):=
 match P.funcs[f]? with
 |some b=>match b.body with
  |some c=>Rs (args.length+(b.ntmps-args.length)) λn=>match run true lo c ⟨n,ng 0 args,h⟩with
   |some (.x _,_)=>none
   |some (_,s)=>match ve P s b.results.toList with
    |some l=>some (la l,s.h)
    |none=>none
   |none=>none
  |none=>none
 |none=>none
end
section
variable {run:Wm} {P:dg} {XQ:Ug} {lo:Nat} {s s':St}
end
mutual
def AU(m:Nat):∀x:AV,x.aN m=true->x.bQ m=x
 | .own n xs,h=>by
   rw[AV.aN]at h;rw[AV.bQ];cases e:cP m n with
   |true=>rw[e]at h;cases h
   |false=>rfl
 | .agg cs,h=>by rw[AV.aN]at h;rw[AV.bQ,Pa m cs h]
 | .bq cs,h=>by rw[AV.aN]at h;rw[AV.bQ,Pa m cs h]
 | .fn f cs,h=>by rw[AV.aN]at h;rw[AV.bQ,Pa m cs h]
 | .d _,_=>by simp only[AV.bQ]
 | .ptr ..,_=>by simp only[AV.bQ]
 | .bM ..,_=>by simp only[AV.bQ]
 | .full _,_=>by simp only[AV.bQ]
 | .row ..,_=>by simp only[AV.bQ]
 | .mp _,_=>by simp only[AV.bQ]
 | .cU _,_=>by simp only[AV.bQ]
 | .vec ..,_=>by simp only[AV.bQ]
 | .eH ..,_=>by simp only[AV.bQ]
 | .hid _,_=>by simp only[AV.bQ]
 | .dead,_=>by simp only[AV.bQ]
def Pa(m:Nat):∀l:I AV,AV.lA m l=true->AV.rH m l=l
 |[],_=>by simp [AV.rH]
 |x::l,h=>by
  rw[AV.lA,Zr]at h;rw[AV.rH,AU m x h.1,Pa m l h.2]
end
def akM{m:Nat}{B:ar}(h:B.aN m=true):B.bQ m=B:=by
 cases B with
 |cells cs=>
  simp only[ar.aN,Zd]at h;simp only[ar.bQ]
  congr 1
  exact(Z8 λx d=>AU m x (h x d)).trans (List.map_id _)
 |lp v p as z cs=>
  simp only[ar.aN,Zd]at h;simp only[ar.bQ]
  congr 1
  exact(Z8 λx d=>AU m x (h x d)).trans (List.map_id _)
 |it F cs=>
  simp only[ar.aN,Zd]at h;simp only[ar.bQ]
  congr 1
  exact(Z8 λx d=>AU m x (h x d)).trans (List.map_id _)
 |fM H cs=>
  simp only[ar.aN,Zd]at h;simp only[ar.bQ]
  congr 1
  exact(Z8 λx d=>AU m x (h x d)).trans (List.map_id _)
 |vec e k cs=>
  simp only[ar.aN,Zd]at h;simp only[ar.bQ]
  congr 1
  exact(Z8 λx d=>(Z8 λy f=>AU m y (h x d y f)).trans (List.map_id _)).trans (List.map_id _)
 |front e k q=>rfl
 |jE e b=>rfl
 |map u=>rfl
 |jX u=>rfl
 |gone=>rfl
def Tf{m:Nat}{h:I ar}(e:h.all (ar.aN m)=true):h.map (ar.bQ m)=h:=
 (Z8 λB b=>akM (Zd.1 e B b)).trans (List.map_id _)
section
variable {P:dg} {r:U Nat} {n N0:Nat} {G:Gh} {w:Zy} {a:Act} {s:St} {o:Oper} {Q:Exit->St->Prop}
end
def dt.cut{P:dg}{f:FuncId}{args:I AV}{h h':I ar}{r:AV}(m:Nat)(d:dt P f args h λb h1=>b=r/\h1=h')(h1:h.length<=m)(p:m<=h'.length)(q:(((h'.take m).map (ar.bQ m)).all (ar.aN m))=true)(u:(r.bQ m).aN m=true):
 dt P f args h λb h1=>b=r.bQ m/\h1=(h'.take m).map (ar.bQ m):=by
 refine⟨d.1,λG w z k B F=>(d.2 G w z k B F).mono λe w' H=> ?_⟩;obtain⟨v,G',_,_,rfl,J,M,L,Wb,rfl,rfl⟩:=H;exact⟨v,G'.cut m,_,_,rfl,J.trans (qS _ _ _ _),by rw[<-k.len];exact h1,Sq L p q,(Wb.bQ m).cut u,rfl,rfl⟩
section
variable {run:Wm} {P:dg} {XQ:Ug} {lo:Nat} {s s':St}
def dt.Y3{f:FuncId}{args:I AV}{h0 h h2:I ar}{r b:AV}{tl:I (Nat×AV)}(k:dt P f args h0 λd h1=>d=r/\h1=h)
 (u:∀(G:Gh)(w:Zy)(a:Act),dx G w a ⟨1,[(0,r)],h⟩->∃G',cq G.N G w G' w/\G'.N=G.N/\dx G' w a ⟨1,(0,b)::tl,h2⟩):dt P f args h0 λd h1=>d=b/\h1=h2:=by
 refine⟨k.1,λG w z B F H=>(k.2 G w z B F H).mono λe w' J=> ?_⟩;obtain⟨v,G',_,_,rfl,L,p,M,R,rfl,rfl⟩:=J;obtain⟨W,e1,e2,q⟩:=u G' w' {tmps:= #[v],defers:=[]} ⟨rfl,λi=>by
  show aQ G' w' _ (bP [(0,_)] i);rw[mE];split;{next ei=>subst ei;exact R}
  ·exact .dead _,M,tI.nil _ _⟩
 exact⟨v,W,b,h2,rfl,L.trans (e1.less p),by rw[e2];exact p,q.inv,q.tmp 0,rfl,rfl⟩
def Zh{f:FuncId}{args:I AV}{h0:I ar}:∀(l:I Nat){h d:I ar}{r k:AV},(dt P f args h0 λp h1=>p=r/\h1=h)->Lx l r h=some (k,d)->dt P f args h0 λp h1=>p=k/\h1=d
 |[],h,d,r,k,q,e=>by cases e;exact q
 |b::l,h,d,r,k,q,e=>by
  unfold Lx at e;split at e
  ·next cs u=>
   split at e
   ·next B v=>
    refine Zh l (dt.Y3 (tl:=[]) q λG w a z=> ?_) e;refine z.yY (b:=b) ?_;simp only[Go.Proofs.YtnnapanbbbcalaaGreatDoor.yY,u,v];rfl
   ·cases e
  ·cases e
def XK:∀{l:I AV}{b:I D},O3 l=some b->l=b.map AV.d
 |[],b,h=>by cases h;rfl
 |x::l,b,h=>by
  unfold O3 at h;split at h
  ·next d r e f=>
   cases h
   rw[XK f];cases x<;>simp [XN]at e
   subst e;rfl
  ·cases h
def Zz:∀{l:I (I AV)}{xs:I (I D)},Oa l=some xs->l=cg xs
 |[],xs,h=>by cases h;rfl
 |x::l,xs,h=>by
  unfold Oa at h;split at h;{next d r b e=>cases h;rw[Zz e,XK b];rfl};{cases h}
def FV{f:FuncId}{args:I AV}{h0:I ar}:∀(l:I Nat){h:I ar}{r:AV},(dt P f args h0 λp h1=>p=r/\h1=h)->dt P f args h0 λp h1=>p=(vJ l r h).1/\h1=(vJ l r h).2
 |[],h,r,d=>d
 |b::l,h,r,d=>by
  unfold vJ;split
  ·next e k cs q=>
   split
   ·next u v=>
    rw[AV.force_eq,XO,cond_eq_ite];split
    ·next h1=>
     refine FV l (dt.Y3 (tl:=[]) d λG w a z=> ?_);have B:=Zz v;exact z.UX u (by show h[b]?=_;rw[q,B]) (λc d=>Zd.1 h1 c d)
    ·exact FV l d
   ·exact FV l d
  ·exact FV l d
def QK{f:FuncId}{args:I AV}{h:I ar}{r k:AV}(b:dt P f args [] λd h1=>d=r/\h1=h)(e:XM r h=some k)(q:k.aN 0=true):AFn P f args (·=k):=by
 have u:∀{r:AV}{h:I ar},(dt P f args [] λd h1=>d=r/\h1=h)->(r.bQ 0).aN 0=true->AFn P f args (·=r.bQ 0):=λb q=>
  (b.cut 0 (Zv _) (Wv _) (by simp) q).mono λd h1 ⟨v,z⟩=>⟨by simpa using z,v⟩
 have p:∀{r:AV}{h:I ar},(dt P f args [] λd h1=>d=r/\h1=h)->Np r h=some k->AFn P f args (·=k):=λb e=>by
  unfold Np at e;split at e
  ·next F H B=>
   cases e
   exact u (Zh _ b B) q
  ·cases e
 unfold XM at e;rcases ag2 e with⟨_,e⟩|⟨_,e⟩
 ·exact p (FV _ b) e
 ·exact p b e
end
def Yd:∀(H' H e:I ar),H'.length=H.length->iW (List.range H.length) H' (H++e)=H'++e:=by
 intro H' H e q;have p:∀(n:Nat)(a b B r:I ar),b.length=n->B.length=n->iW ((List.range n).map (a.length+·)) B (a++(b++r))=a++(B++r):=by
  intro n
  induction n with
  |zero=>intro a b B r d f;rw[List.length_eq_zero_iff.1 d,List.length_eq_zero_iff.1 f];simp [iW]
  |succ n u=>
   intro a b B r d f;cases b with
   |nil=>simp at d
   |cons v b=>
    cases B with
    |nil=>simp at f
    |cons k B=>
     rw[List.range_succ_eq_map,ZS,List.map_map,iW];have z:(a++(v::b++r)).set (a.length+0) k=(a++[k])++(b++r):=by
       rw[Nat.add_zero,List.set_append_right _ _ (Zv _),Nat.sub_self];simp
     have F:(λx=>a.length+x)∘Nat.succ=λx=>(a++[k]).length+x:=by
      funext x
      simp only[Function.comp_apply,Zk,Zl,Zf];omega
     rw[z,F,u (a++[k]) b B r (by simpa using d) (by simpa using f)];simp
 have:=p H.length [] H H' e rfl q
 simpa using this
def MC{P:dg}{k:Nat}{x:AV}{H:I ar}{C:Bool->I ar->Prop}(q:YS P k x H C)(e:I ar)(N:H.all (ar.aN H.length)=true)(R:x.aN H.length=true)
 (hC:∀b h',C b h'->h'.length=H.length/\h'.all (ar.aN H.length)=true):YS P k x (H++e) λb h'=>∃H',C b H'/\h'=H'++e:=by
 intro G w v r n hi hv;have f:∀i,i<H.length->rn (List.range H.length) (H++e).length i=i:=λi h=>A9 (List.range H.length) _ i i (by rw[List.getElem?_range h]);have J1:∀y:AV,y.aN H.length=true->y.aZ (rn (List.range H.length) (H++e).length)=y:=λy q=>(D0 (τ:=id) f y q).trans (Pe y);have W:∀B:ar,B.aN H.length=true->B.aZ (rn (List.range H.length) (H++e).length)=B:=λB u=>(Wz (τ:=id) f B u).trans (V3 B);obtain⟨G0,z,uG,F,Qr⟩:=Xn (H:=H) (l:=List.range H.length) (h:=H++e) List.nodup_range (λj hj=>by have:=List.mem_range.1 hj;simp;omega) (λi j J=>by
  obtain⟨L,rfl⟩:i<H.length/\j=i:=by
   have d:=(Zo.1 J).1;rw[List.length_range]at d;rw[List.getElem?_range d]at J;exact⟨d,(Zw J).symm⟩
  rw[ZX L,Ze L,a6,W _ (Zd.1 N _ (List.getElem_mem L))]) (by simp) N hi
 obtain⟨M,p,as,bd,fn,tm,D,d,h2⟩:=q G0 w v r n uG (aQ.uA F (by rw[J1 x R];exact hv) x rfl (by rw[z];exact R));have iA:k<H.length:=z▸M;have ie:G.bg k=G0.bg k:=by
  have:=F.bg k M
  rwa [f k iA]at this
 refine⟨by have:=F.lt k M;rwa [f k iA]at this,p,as,bd,fn,tm,D,by rw[ie];exact d,?_⟩;rw[ie];refine h2.mono λe1 w' hp=> ?_;obtain⟨b,G1,H',rfl,hE,gU,lv,hc⟩:=hp;rw[z]at hE gU;obtain⟨G2,a1,a2,a3,_⟩:=Qr G1 w' H' hE gU lv;obtain⟨c1,c2⟩:=hC b H' hc;refine⟨b,G2,H'++e,rfl,a1,a2,?_,H',hc,rfl⟩;have hm:H'.map (ar.aZ (rn (List.range H.length) (H++e).length))=H':=(Z8 λB u=>W B (Zd.1 c2 B u)).trans (List.map_id _);rw[hm,Yd H' H e c1]at a3;exact a3
def mN(P:dg)(k:Nat):I AV->(Bool->I ar->Prop)->I ar->Prop
 |[],C,h=>C true h
 |x::l,C,h=>YS P k x h λb d=>(d.length=h.length/\d.all (ar.aN h.length)=true)/\bif b then mN P k l C d else C false d
def XI{P:dg}{k:Nat}:∀(l:I AV){C e:Bool->I ar->Prop}{h:I ar},(∀b h1,C b h1->e b h1)->mN P k l C h->mN P k l e h
 |[],_,_,_,d,f=>d _ _ f
 |x::l,C,e,h,d,f=>YS.mono f λb h1 ⟨q,p⟩=>⟨q,by
  cases b with
  |true=>exact XI l d p
  |false=>exact d _ _ p⟩
def Xw{P:dg}{k:Nat}:∀(l d:I AV){C:Bool->I ar->Prop}{h:I ar},mN P k (l++d) C h->mN P k l (λb h1=>bif b then mN P k d C h1 else C false h1) h
 |[],_,_,_,e=>e
 |x::l,d,C,h,e=>YS.mono e λb h1 ⟨p,f⟩=>⟨p,by
  cases b with
  |true=>exact Xw l d f
  |false=>exact f⟩
def qD(h h1:I ar):Prop:=h1.length=h.length/\h1.all (ar.aN h.length)=true
def Bn(P:dg)(gf:FuncId)(dD:I AV)(xs:I AV):Prop:=∀(k:Nat)(h:I ar)(C:Bool->I ar->Prop),h.all (ar.aN h.length)=true->k<h.length->mN P k xs C h->dt P gf (.cU k::dD) h λ_ d=>∃b,C b d
def XF(P:dg)(T:TypeId):I AV:=match jB P T with|some z=>z.cells.toList.map λu=>.d (.v u)|none=>[]
section
variable {P:dg} {r:U Nat} {N0:Nat} {Q:Exit->St->Prop} {ops:Array Oper} {o o1 o2 o3 o4 o5:Oper} {s:St} {K:St->Prop} {id:Nat}
def cp{rest:I Oper}(b:o.guard=none)(h:qw P o (uM P ops rest K) s):uM P ops (o::rest) K s:=by
 unfold uM jY;rw[b];exact h
def By{n d:Nat}{t:I (Nat×AV)}{h h':I ar}{x:AV}{b:HD}(k:nB P o.op (ev ⟨n,t,h⟩) h=some (x,b))(p:o.dst=some d)(f:Nat.ble n d=false)(q:b.app h=h')(u:K ⟨n,(d,x)::t,h'⟩):qw P o K ⟨n,t,h⟩:=by
 refine .inr (.inr (.inl (Xe k ?_)));show K ((St.wh ⟨n,t,h⟩ (b.app h)).put o.dst x);rw[p,q];have v:d<n:=Nat.lt_of_not_le λe=>by rw[WX e]at f;cases f
 rw[sY (s:=St.wh ⟨n,t,h⟩ h') v];exact u
def c9{n d:Nat}{t:I (Nat×AV)}{h:I ar}{x:AV}(b:nB P o.op (ev ⟨n,t,h⟩) h=some (x,.same))(e:o.dst=some d)(f:Nat.ble n d=false)(k:K ⟨n,(d,x)::t,h⟩):qw P o K ⟨n,t,h⟩:=By b e f rfl k
def AJ{n d:Nat}{t:I (Nat×AV)}{h:I ar}{x:AV}(e:o.dst=some d)(f:Nat.ble n d=false)(k:K ⟨n,(d,x)::t,h⟩)(b:nB P o.op (ev ⟨n,t,h⟩) h=some (x,.same):=by kernel_rfl):qw P o K ⟨n,t,h⟩:=c9 b e f k
def Qo{n:Nat}{t:I (Nat×AV)}{h h':I ar}{x:AV}{b:HD}(d:nB P o.op (ev ⟨n,t,h⟩) h=some (x,b))(e:o.dst=none)(f:b.app h=h')(k:K ⟨n,t,h'⟩):qw P o K ⟨n,t,h⟩:=by
 refine .inr (.inr (.inl (Xe d ?_)));show K ((St.wh ⟨n,t,h⟩ (b.app h)).put o.dst x);rw[e,f];exact k
def ahR{h l:I ar}{i off:Nat}{cs:I AV}(hi:l[i]?=some (.cells cs)):AE (h++l) (.ptr (h.length+i) off)=some (cs,off):=by
 unfold AE;simp only;rw[ZI (Yu _ _),Nat.add_sub_cancel_left,hi]
def yt{ρ:Operand->AV}{h l:I ar}{T:TypeId}{p:Operand}{i off:Nat}{cs:I AV}{x:AV}(b:ρ p= .ptr (h.length+i) off)(hi:l[i]?=some (.cells cs))(d:CA P T cs off=some x):nB P (.load T p) ρ (h++l)=some (x,.same):=by
 unfold nB;simp only[b,ahR hi,d,pX]
def XE{ρ:Operand->AV}{h l:I ar}{T:TypeId}{y:Operand}{v:AV}(b:ρ y=v)(d:v.kT=true):nB P (.box T y) ρ (h++l)=some (.ptr (h.length+l.length) 0,.push (.cells v.cells)):=by
 subst b;unfold nB;simp only[d,Tq,Zk]
def Qs{ρ:Operand->AV}{h l:I ar}{T:TypeId}(b:(jB P T).isSome=true):nB P (.alloc T) ρ (h++l)=some (.ptr (h.length+l.length) 0,.push (.cells (XF P T))):=by
 unfold nB XF;cases e:jB P T with
 |none=>rw[e]at b;cases b
 |some z=>simp only[e,Zk]
def EU{h l:I ar}{B:ar}:(HD.push B).app (h++l)=h++(l++[B]):=by simp [HD.app]
def TV{ρ:Operand->AV}{h l:I ar}{T:TypeId}{p y:Operand}{i off k:Nat}{cs:I AV}{v:AV}(b:ρ p= .ptr (h.length+i) off)(hi:l[i]?=some (.cells cs))(e:ic P T=some k)(f:ρ y=v)(q:(k==v.cells.length&&v.kT&&cP (off+v.cells.length) cs.length)=true){cM:I AV}(u:jK cs off v.cells=cM):
 nB P (.store T p y) ρ (h++l)=some (.d (.v undef),.set (h.length+i) (.cells cM)):=by
 subst f u;unfold nB;simp only[b,e];rw[ZI (Yu _ _),Nat.add_sub_cancel_left,hi];simp only[q,Tq]
def TX{ρ:Operand->AV}{h:I ar}{T:TypeId}{a i:Operand}{xs:I (I D)}{q e k:Nat}{c:I D}(b:ρ a= .d (.sl xs))(hi:ρ i= .d (.v (.int .i64 (Int.ofNat q))))(f:fQ P T=some (e,k))(p:xs[q]?=some c)(u:(c.length==k)=true):nB P (.indexAddr T a i) ρ h=some (.bM [c] 0 0,.same):=by
 unfold nB;simp only[b,hi];unfold Od;simp only[f,AV.gX,AV.int?,zN,p,u,Tq,pX]
def QQ{h l:I ar}{B:ar}{i:Nat}:(HD.set (h.length+i) B).app (h++l)=h++l.set i B:=by
 simp only[HD.app];rw[List.set_append_right _ _ (Yu _ _),Nat.add_sub_cancel_left]
def Mw{n d:Nat}{t:I (Nat×AV)}{h:I ar}{T:TypeId}{x y:Operand}{p:TypeId}{xs:I (I D)}{q:TypeId×Nat}(f:o.op= .binOp .eql T x y p)(k:(ev ⟨n,t,h⟩ x).gX=some xs)(u:ev ⟨n,t,h⟩ y= .d (.v (.slice none 0 0)))(z:fQ P T=some q)(B:o.dst=some d)(e:Nat.ble n d=false)
 (h1:xs=[]->K ⟨n,(d,.d (.v (.bool true)))::t,h⟩) (F:K ⟨n,(d,.d (.v (.bool false)))::t,h⟩):qw P o K ⟨n,t,h⟩:=by
 refine .inr (.inl ?_);have H:d<n:=Nat.lt_of_not_le λb=>by rw[WX b]at e;cases e
 unfold IM;simp only[f,k,u,z,Az,B,sY (s:=⟨n,t,h⟩) H];exact⟨h1,F⟩
def CJ{n d k:Nat}{t:I (Nat×AV)}{h:I ar}{c:Call}{f:Operand}{x:AV}(q:o.op= .call c)(u:c.callee= .value f)(z:ev ⟨n,t,h⟩ f= .cU k)(B:c.args.toList.map (ev ⟨n,t,h⟩)=[x])(F:o.dst=some d)(p:Nat.ble n d=false)
 (H:YS P k x h λb h'=>K ⟨n,(d,.d (.v (.bool b)))::t,h'⟩):qw P o K ⟨n,t,h⟩:=by
 refine .inr (.inr (.inr (.inl ?_)));unfold Kb;simp only[q,u,z,B];refine H.mono λb h' J=> ?_;have L:d<n:=Nat.lt_of_not_le λe=>by rw[WX e]at p;cases p
 rw[F,sY (s:=St.wh ⟨n,t,h⟩ h') L];exact J
def Hl{n:Nat}{t:I (Nat×AV)}{h:I ar}{c:Call}{f:Operand}{g:FuncId}{dD:I AV}(b:o.op= .call c)(d:c.callee= .value f)(e:ev ⟨n,t,h⟩ f= .fn g dD)
 (k:dt P g (c.args.toList.map (ev ⟨n,t,h⟩)++dD) h λx h'=>K ((St.wh ⟨n,t,h⟩ h').put o.dst x)):qw P o K ⟨n,t,h⟩:=by
 refine .inr (.inr (.inl ?_));unfold tC dj;simp only[b,d,e];exact k
end
def asi{P:dg}{f:FuncId}{args:I AV}{H:I ar}{K:AV->I ar->Prop}(N:dt P f args H K)(e:I ar)(q:H.all (ar.aN H.length)=true)(u:args.all (AV.aN H.length)=true)
 (R:∀r h',K r h'->h'.length=H.length/\h'.all (ar.aN H.length)=true/\r.aN H.length=true):dt P f args (H++e) λr h'=>∃H',K r H'/\h'=H'++e:=by
 have v:∀i,i<H.length->rn (List.range H.length) (H++e).length i=i:=λi h=>A9 (List.range H.length) _ i i (by rw[List.getElem?_range h]);have z:∀y:AV,y.aN H.length=true->y.aZ (rn (List.range H.length) (H++e).length)=y:=λy W=>(D0 (τ:=id) v y W).trans (Pe y);have F:∀B:ar,B.aN H.length=true->B.aZ (rn (List.range H.length) (H++e).length)=B:=λB b=>(Wz (τ:=id) v B b).trans (V3 B);have:=N.afC (l:=List.range H.length) (h:=H++e) List.nodup_range (λj hj=>by have:=List.mem_range.1 hj;simp;omega) (λi j d=>by
  obtain⟨k,rfl⟩:i<H.length/\j=i:=by
   have p:=(Zo.1 d).1;rw[List.length_range]at p;rw[List.getElem?_range p]at d;exact⟨p,(Zw d).symm⟩
  rw[ZX k,Ze k,a6,F _ (Zd.1 q _ (List.getElem_mem k))]) (by simp) u q
 have ea:args.map (AV.aZ (rn (List.range H.length) (H++e).length))=args:=(Z8 λx hx=>z x (Zd.1 u x hx)).trans (List.map_id _);rw[ea]at this;refine this.mono λr' h' ⟨r,H',J,L,M⟩=> ?_;obtain⟨c1,c2,c3⟩:=R r H' J;have hm:H'.map (ar.aZ (rn (List.range H.length) (H++e).length))=H':=(Z8 λB b=>F B (Zd.1 c2 B b)).trans (List.map_id _);rw[hm,Yd H' H e c1]at M;rw[z r c3]at L;exact⟨H',by rw[L];exact J,M⟩
def ap5{h:I ar}{p:AV}{K K':I AV->Nat->Prop}(d:∀cs off,K cs off->K' cs off)(b:ur h p K):ur h p K':=by
 unfold ur at b ⊢;split at b
 ·next n off=>
  split at b;{next cs e=>(try simp only[e]);exact d _ _ b};{exact b.elim}
 ·next f i off=>
  split at b;{next cs e=>(try simp only[e]);exact d _ _ b};{exact b.elim}
 ·exact b.elim
def arI{P:dg}{T:TypeId}{h:I ar}{p:AV}{K K':AV->Prop}(f:∀x,K x->K' x)(q:ql P T h p K):ql P T h p K':=
 ap5 (λcs u b=>by
  split at b
  ·next k d e=>
   try simp only[d,e]
   exact cv.2 ⟨(cv.1 b).1,f _ (cv.1 b).2⟩
  ·next k d e=>
   try simp only[d,e]
   split at b;{next c v=>(try simp only[v]);exact f _ b};{exact b.elim}
  ·exact b.elim) q
def anm{P:dg}{fn:Func}{n:Nat}{t:I (Nat×AV)}{H l:I ar}{K:AV->I ar->Prop}(q:H.all (ar.aN H.length)=true)(v:oa P ⟨n,t,H++l⟩ fn.results.toList λd=>((la d).bQ H.length).aN H.length=true/\K ((la d).bQ H.length) H):sw P fn H.length K ⟨n,t,H++l⟩:=by
 have z:(((H++l).take H.length).map (ar.bQ H.length))=H:=by rw[List.take_left];exact Tf q
 unfold sw;show oa P ⟨n,t,H++l⟩ fn.results.toList λd=>H.length<=(H++l).length/\_;simp only[z];have f:∀(b:I ResultVar){C C':I AV->Prop},(∀x,C x->C' x)->oa P ⟨n,t,H++l⟩ b C->oa P ⟨n,t,H++l⟩ b C':=by
  intro b
  induction b with
  |nil=>intro C C' e h;exact e _ h
  |cons x b u=>
   intro C C' e h;cases x with
   |tmp t=>exact u (λy k=>e _ k) h
   |cell p t=>exact arI (λx h=>u (λy k=>e _ k) h) h
 exact f _ (λd ⟨B,F⟩=>⟨by simp,B,q,F⟩) v
def BZ{n:Nat}{t:I (Nat×AV)}{H l:I ar}(live:I Nat)(b:H.all (ar.aN H.length)=true):(⟨n,t,H++l⟩:St).mask live H.length=⟨n,live.map λk=>(k,(bP t k).bQ H.length),H⟩:=by
 unfold St.mask;rw[show((H++l).take H.length).map (ar.bQ H.length)=H by rw[List.take_left];exact Tf b]
def A1{n:Nat}{t:I (Nat×AV)}{H l:I ar}(live:I Nat)(b:H.all (ar.aN H.length)=true)(d:(live.all λk=>((bP t k).bQ H.length).aN H.length)=true):(⟨n,t,H++l⟩:St).Ba live H.length:=
 ⟨by simp,d,by rw[show((H++l).take H.length).map (ar.bQ H.length)=H by rw[List.take_left];exact Tf b];exact b⟩
def MN{n:Nat}{t:I (Nat×AV)}{H:I ar}(live:I Nat)(b:H.all (ar.aN H.length)=true):(⟨n,t,H⟩:St).mask live H.length=⟨n,live.map λk=>(k,(bP t k).bQ H.length),H⟩:=by
 have:=BZ (n:=n) (t:=t) (l:=[]) live b
 rwa [ZV]at this
def JL{n:Nat}{t:I (Nat×AV)}{H:I ar}(live:I Nat)(b:H.all (ar.aN H.length)=true)(d:(live.all λk=>((bP t k).bQ H.length).aN H.length)=true):(⟨n,t,H⟩:St).Ba live H.length:=by
 have:=A1 (n:=n) (t:=t) (l:=[]) live b d
 rwa [ZV]at this
def Cq{k m:Nat}(h:k<m):((AV.cU k).bQ m).aN m=true:=by simp [AV.bQ,AV.aN,cP];omega
structure vY(s:St)(m:Nat)(s':St):Prop where
 cut:∀{G:Gh}{w:World}{a:Act},dx G w a s->dx (G.cut m) w a s'
def vY.S{s s':St}{live:I Nat}{m:Nat}(h:ln s live m=some s'):vY s m s':=⟨λb=>b.ln h⟩
def ajN{P:dg}{r:U Nat}{N0 m:Nat}{c:Code}{s:St}{R b:Exit->St->Prop}(f:N0<=m)(h:bR P r N0 c R s)(k:∀e d,R e d->∃s',vY d m s'/\b e s'):bR P r N0 c b s:=by
 constructor
 intro G w a n p q;refine wpIn_mono (h.run G w a n p q) λe J L u=> ?_;obtain⟨G1,s1,v,_,z,B⟩:=u;obtain⟨s',F,H⟩:=k e s1 B;exact⟨G1.cut m,s',v.trans (qS _ _ _ _),f,F.cut z,H⟩
def GI(m:Nat)(n:Nat)(T:I (Nat×AV))(LP:ar)(next:I ar->Prop)(Q:Exit->St->Prop)(e:Exit)(s:St):Prop:=
 ∃b,b.length=m/\b.all (ar.aN (m+1))=true/\vY s (m+1) ⟨s.n,[],b++[LP]⟩/\match e with
  | .normal=>next b
  | .ret=>Q .ret ⟨n,T,b++[.gone]⟩
  | .exit i=>Q (.exit i) ⟨n,T,b++[.gone]⟩
  |_=>False
def Ak{P:dg}{N0 n m:Nat}{T:I (Nat×AV)}{H:I ar}{Q:Exit->St->Prop}{g:Operand}{p:Nat}{as f:Code}{gf:FuncId}{dD:I AV}(hg:ev ⟨n,T,H⟩ g= .fn gf dD){α:Type}{enc:α->AV}{xs:I α}(hI:Bn P gf dD (xs.map enc))
 {ι:Type} (q:ι->I ar) (d:ι->I α->Prop) (u:ι) (h0:H=q u) (uG:d u xs) (J:∀i,(q i).length=m) (lE:∀i,(q i).all (ar.aN (m+1))=true) (hT:(dV n T).all (AV.aN (m+1))=true) (hp:Nat.ble n p=false)
 (round:∀i x l,d i (x::l)->∀(W:Nat)(a b:Code),bR P (some W) (m+1) as (je (λs1=>∃k e,k.length=m/\s1.h=k++ .lp .ready p a b (dV n T)::e/\
  bR P (some W) (m+1) f (GI m n T (.lp .busy p a b (dV n T)) (λcZ=>∃i',cZ=q i'/\d i' l) Q) ⟨s1.n,s1.t,k++ .lp .busy p a b (dV n T)::e⟩) (λ_ _=>False)) ⟨n,(p,enc x)::ng 0 (dV n T),q i++[.lp .ready p a b (dV n T)]⟩)
 (done:∀i,d i []->Q .normal ⟨n,T,q i++[.gone]⟩):bR P none N0 (.rangeFunc g #[p] as f) Q ⟨n,T,H⟩:=by
 subst h0;have L:(q u).length=m:=J u;have M:(dV n T).length=n:=by simp [dV]
 have ue:∀v,(ar.lp v p as f (dV n T)).aN (m+1)=true:=λv=>hT;refine amq hg ?_;show dt P gf (.cU (q u).length::dD) (q u++[.lp .ready p as f (dV n T)]) _;have NA:∀(k:I ar)(B B':ar),k.length=m->(k++[B]).set m B'=k++[B']:=λk B B' h=>by
  rw[List.set_append_right _ _ (Nat.le_of_eq h),h,Nat.sub_self];rfl
 have fy:∀(k:I ar)(B:ar)(e:I ar),k.length=m->(k++B::e)[m]?=some B:=λk B e h=>by
  rw[ZI (Nat.le_of_eq h),h,Nat.sub_self];rfl
 have seq:∀(l:I α)(i:ι),d i l->mN P m (l.map enc) (λb h1=>∃(k:I ar)(v:LS),k.length=m/\h1=k++[.lp v p as f (dV n T)]/\RK P N0 Q ⟨n,T,k++[.gone]⟩ v) (q i++[.lp .ready p as f (dV n T)]):=by
  intro l
  induction l with
  |nil=>intro i hi;exact⟨q i,.ready,J i,rfl,done i hi⟩
  |cons x l ih=>
   intro i hi;have N:(q i++[ar.lp .ready p as f (dV n T)]).length=m+1:=by simp [J i]
   refine ars ⟨p,as,f,dV n T,fy _ _ [] (J i),?_,λW=> ?_⟩;{rw[M];exact Nat.lt_of_not_le λhle=>by rw[WX hle]at hp;cases hp}
   ·rw[N,M];refine(round i x l hi W as f).mono λe s1 fR=> ?_;cases e with
    |normal=>
     obtain⟨k,e',F,k2,k3⟩:=fR;refine⟨p,as,f,dV n T,by rw[k2];exact fy _ _ _ F,?_⟩;have hse:s1.h.set m (.lp .busy p as f (dV n T))=k++ .lp .busy p as f (dV n T)::e':=by
      rw[k2,List.set_append_right _ _ (Nat.le_of_eq F),F,Nat.sub_self];rfl
     rw[hse];refine ajN (Zv _) k3 λe2 s2 hr=> ?_;obtain⟨yz,z,c5,c3,c4⟩:=hr;refine⟨_,c3,?_⟩;have gJ:∀B,B.aN (m+1)=true->(yz++[B]).all (ar.aN (m+1))=true:=λB hB=>by
       rw[List.all_append,c5];simp [hB]
     have F4:(yz++[ar.lp .busy p as f (dV n T)])[m]?=some (.lp .busy p as f (dV n T)):=fy _ _ [] z;cases e2 with
     |normal=>
      obtain⟨i',rfl,e8⟩:=c4;refine⟨p,as,f,dV n T,F4,?_⟩;simp only[NA _ _ _ z];exact⟨⟨by simp [J],gJ _ (ue _)⟩,ih i' e8⟩
     |ret=>
      refine⟨p,as,f,dV n T,F4,?_⟩;simp only[NA _ _ _ z];exact⟨⟨by simp [z],gJ _ (ue _)⟩,yz,.done .ret,z,rfl,dm c4⟩
     |exit j=>
      refine⟨p,as,f,dV n T,F4,?_⟩;simp only[NA _ _ _ z];exact⟨⟨by simp [z],gJ _ (ue _)⟩,yz,.done (.exit j),z,rfl,ma c4⟩
     |_=>exact c4.elim
    |_=>exact fR.elim
 have R:(q u++[ar.lp .ready p as f (dV n T)]).length=m+1:=by simp [L]
 refine(hI (q u).length _ _ (by rw[R,List.all_append,lE u];simp [ue]) (by rw[R,L];exact Z0 m) (by rw[L];exact seq xs u uG)).mono λ_ h1 hb=> ?_;obtain⟨b,k,v,F,rfl,k2⟩:=hb;refine⟨v,p,as,f,dV n T,?_,?_⟩
 ·show(k++[ar.lp v p as f (dV n T)])[(q u).length]?=_;rw[L];exact fy _ _ [] F
 ·show RK P N0 Q ⟨n,T,(k++[ar.lp v p as f (dV n T)]).set (q u).length .gone⟩ v;rw[L,NA _ _ _ F];exact k2
section
variable {m n:Nat} {T:I (Nat×AV)} {LP:ar} {next:I ar->Prop} {Q:Exit->St->Prop} {s:St}
def BO(b:I ar)(d:b.length=m)(e:b.all (ar.aN (m+1))=true)(f:ln s [] (m+1)=some ⟨s.n,[],b++[LP]⟩)(k:next b):GI m n T LP next Q .normal s:=⟨b,d,e,.S f,k⟩
def HC(b:I ar)(d:b.length=m)(e:b.all (ar.aN (m+1))=true)(f:ln s [] (m+1)=some ⟨s.n,[],b++[LP]⟩)(k:Q .ret ⟨n,T,b++[.gone]⟩):GI m n T LP next Q .ret s:=⟨b,d,e,.S f,k⟩
def aoN{i:Nat}(b:I ar)(d:b.length=m)(e:b.all (ar.aN (m+1))=true)(f:ln s [] (m+1)=some ⟨s.n,[],b++[LP]⟩)(k:Q (.exit i) ⟨n,T,b++[.gone]⟩):GI m n T LP next Q (.exit i) s:=⟨b,d,e,.S f,k⟩
end
abbrev Lf:=St×I Nat×I (Nat×I (In×cB))
def wU(d:Nat->U (I Lf)):I Nat->U (I Lf)
 |[]=>some []
 |k::r=>match d k with
  |some a=>match wU d r with
   |some b=>some (a++b)
   |none=>none
  |none=>none
def BN(P:dg)(ops:Array Oper)(A C:I Nat)(as:I (Nat×cB)):Nat->Nat->I Nat->I (Nat×I (In×cB))->St->U (I Lf)
 |0,L,d,b,s=>match qN A L 0 with
  |[]=>some [(s,d,b)]
  |_=>none
 |f+1,L,d,b,s=>match qN A L 0 with
  |[]=>some [(s,d,b)]
  |e::r=>wU (λk=>match ops[k]? with
     |some o=>match pf P ops true o k as s with
      |some (s1,l)=>fN (L|||(1<<<k)) λL=>BN P ops A C as f L (d++List.replicate (s1.h.length-s.h.length) k) ((k,l)::b) s1
      |none=>none
     |none=>none) (match yi C L (e::r)with
      |some k=>[k]
      |none=>e::r)
def Zp{p:Nat->U (I Lf)}:∀{l:I Nat}{e:I Lf},wU p l=some e->∀k∈l,∃a,p k=some a/\∀x∈a,x∈e
 |[],_,_,k,d=>by cases d
 |j::r,e,h,k,d=>by
  unfold wU at h;split at h
  ·next a q=>
   split at h
   ·next b u=>
    cases h
    rcases Za.1 d with rfl|d
    ·exact⟨a,q,λx f=>ak _ f⟩
    ·obtain⟨v,z,B⟩:=Zp u k d;exact⟨v,z,λx f=>a8 _ (B x f)⟩
   ·cases h
  ·cases h
section
variable {P:dg} {ops:Array Oper} {as:I (Nat×cB)} {K:St->Prop} {s0:St}
def anb{o:Oper}{j:Nat}{dr:Bool}{s s1:St}{l:I (In×cB)}(h:pf P ops dr o j as s=some (s1,l))(f:o∈ops.toList)(k:oJ (pQ ops.toList) s0 s):oJ (pQ ops.toList) s0 s1:=by
 have z:∀{i a r l},xm i a r=some (s1,l)->∃m,r=some (s1,m):=fun{i a r l} h=>by
  unfold xm at h;split at h;{exact⟨_,h⟩}
  ·split at h
   ·cases h;exact⟨_,rfl⟩
   ·cases h
 have p:∀{m r l},tf m r=some (s1,l)->∃m,r=some (s1,m):=fun{m r l} h=>by
  unfold tf at h;split at h;{cases h;exact⟨_,rfl⟩};{cases h}
 have b:oJ (pQ ops.toList) s0 (E8 o s):=k.put s.h (.d (.v undef)) (N4 f);have st:∀l,pe P dr o j as s=some (s1,l)->oJ (pQ ops.toList) s0 s1:=λl h=>by
  unfold pe at h;cases u:dr&&Cw (jL as (3*j+1))&& !BR o (jL as (3*j+1))with
  |true=>rw[u]at h;cases h
  |false=>
   rw[u]at h;simp only[T6]at h;split at h;{split at h<;>(obtain⟨m,e⟩:=z h;cases e;exact k.put _ _ (N4 f))};{cases h}
 unfold pf at h;split at h;{exact st _ h}
 ·split at h
  ·obtain⟨m,e⟩:=p h;revert e;generalize ((_:Bool)==_)=q;intro e;cases q with
   |true=>exact st _ e
   |false=>cases e;exact b
  ·obtain⟨m,e⟩:=p h;cases e;exact b
  ·cases h
def XB(hK:tn K)(hM:pL (Region.before ops) ops=true)(t0:I (Nat×AV)):
 ∀(f L:Nat)(listed:Array Bool)(al:I Nat)(B:I (Nat×I (In×cB)))(s:St)(H:I Lf),LM ops L listed->Dn ops listed->BN P ops (qg ops 0 ops.size) (lH ops false (Region.before ops) 0 ops.size) as f L al B s=some H->
  (∃x,x∈H)/\(∀x∈H,(∀p∈B,p∈x.2.2)/\((∃q,s.t=q++t0)->∃q,x.1.t=q++t0)/\(oJ (pQ ops.toList) s0 s->oJ (pQ ops.toList) s0 x.1))/\((∀x∈H,(∀p∈x.2.2,AllOK P p.2)/\K x.1)->me false P ops K f listed s)
 |0,L,listed,al,B,s,H,M,hD,h=>by
  unfold BN at h;split at h
  ·next R=>
   cases h
   refine⟨⟨_,Zq⟩,λx d=> ?_,λv=>⟨?_,(v _ Zq).2⟩⟩;{rw[af]at d;subst d;exact⟨λ_ h=>h,λh=>h,λh=>h⟩};{rw[List.eq_nil_iff_forall_not_mem];intro i hi;have:=(M.ready i).1 hi;rw[R]at this;cases this}
  ·cases h
 |f+1,L,listed,al,B,s,H,M,hD,h=>by
  have mem:∀{k:Nat}{o:Oper},ops[k]?=some o->o∈ops.toList:=λF=>Array.mem_toList_iff.2 (Array.mem_of_getElem? F);unfold BN at h;split at h
  ·next R=>
   cases h
   refine⟨⟨_,Zq⟩,λx d=> ?_,λv=>⟨λ_=>(v _ Zq).2,λi hi=> ?_⟩⟩;{rw[af]at d;subst d;exact⟨λ_ h=>h,λh=>h,λh=>h⟩};{have:=(M.ready i).1 hi;rw[R]at this;cases this}
  ·next k0 r R=>
   generalize hgo:(λk:Nat=>(match ops[k]? with
    |some o=>match pf P ops true o k as s with
     |some (s1,l)=>fN (L|||(1<<<k)) λL=>BN P ops (qg ops 0 ops.size) (lH ops false (Region.before ops) 0 ops.size) as f L (al++List.replicate (s1.h.length-s.h.length) k) ((k,l)::B) s1
     |none=>none
    |none=>none:U (I Lf)))=go at h
   have N:∀k a,k∈Region.ready .any ops listed->go k=some a->∃o s1 l,ops[k]?=some o/\pf P ops true o k as s=some (s1,l)/\(∃x,x∈a)/\(∀x∈a,(∀p∈(k,l)::B,p∈x.2.2)/\((∃q,s.t=q++t0)->∃q,x.1.t=q++t0)/\(oJ (pQ ops.toList) s0 s->oJ (pQ ops.toList) s0 x.1))/\
       ((∀x∈a,(∀p∈x.2.2,AllOK P p.2)/\K x.1)->∃y u,nP false P ops o s y u/\me false P ops K f (listed.setIfInBounds k true) ((s.wh u).put o.dst y)):=λk a w6 W=>by
    rw[<-hgo]at W;simp only at W;split at W
    ·next o F=>
     split at W
     ·next s1 l hg=>
      rw[Ch]at W;obtain⟨u,z,h3⟩:=XB hK hM t0 f _ _ _ _ s1 a (M.set (ZT.1 F).1) (hD.set w6) W;refine⟨o,s1,l,F,hg,u,λx d=>⟨(z x d).1,fun⟨q,hp⟩=> ?_,λhB=>(z x d).2.2 (anb hg (mem F) hB)⟩,λv=> ?_⟩;{obtain⟨⟨p1,J⟩,_⟩:=Qm hg;exact(z x d).2.1 ⟨p1++q,by rw[J,hp,ZR]⟩}
      ·obtain⟨x,d⟩:=u;have hl:AllOK P l:=(v x d).1 (k,l) ((z x d).1 _ Zq);have h4:=UF (K:=(·=s1)) hg hl rfl;have h5:=h3 v;have:∃y u,nP false P ops o s y u/\(s.wh u).put o.dst y=s1:=by
        rcases MR h4 with⟨g,hd⟩|⟨g,hd⟩
        ·obtain⟨y,u,z,h3⟩:=OX hd;exact⟨y,u,.inl ⟨g,z⟩,h3⟩
        ·exact⟨_,s.h,.inr ⟨g,rfl,rfl⟩,hd⟩
       obtain⟨y,hh,q1,rfl⟩:=this;exact⟨y,hh,q1,h5⟩
     ·cases W
    ·cases W
   cases hf:yi (lH ops false (Region.before ops) 0 ops.size) L (k0::r)with
   |some k=>
    rw[hf]at h;obtain⟨kV,Ax⟩:=G8 hf;have w6:k∈Region.ready .any ops listed:=(M.ready k).2 (by rw[R];exact kV);unfold wU at h;split at h
    ·next a J=>
     unfold wU at h;simp only[ZV]at h;cases h
     obtain⟨o,s1,l,F,hg,u,z,h3⟩:=N k _ w6 J;refine⟨u,λx d=>⟨λp hp=>(z x d).1 p (Zg _ hp),(z x d).2⟩,λv=> ?_⟩;obtain⟨y,hh,q1,q2⟩:=h3 v;refine J9 hK hM F f listed s hD (λj oj hj cX rC ua=> ?_) w6 q1 q2;have Hi:=(ZT.1 hj).1;have qb:=(ZT.1 F).1;have T8:Nat.testBit L j=false:=by
      rw[M.b];have iB:j<listed.size:=by rw[M.sz];exact Hi
      simpa [iB]using rC
     have o0:Nat.testBit (wc ops false (Region.before ops) k) j=false:=by
      rw[<-Uq];intro hc;have h5:(lH ops false (Region.before ops) 0 ops.size).getD k 0=wc ops false (Region.before ops) k:=by
        rw[List.getD_eq_getElem?_getD,T5,ab qb,ZQ];rfl
      rw[h5]at Ax;have:=congrArg (λn=>Nat.testBit n j) Ax;simp only[Nat.testBit_or,hc,T8]at this;cases this
     unfold wc at o0;rw[FF]at o0;unfold U7 at o0;rw[ua,F,hj]at o0;simp [Hi,cX]at o0;exact o0
    ·cases h
   |none=>
    rw[hf]at h;have ab1:=Zp h;have BL:k0∈Region.ready .any ops listed:=(M.ready k0).2 (by rw[R];simp);have back:∀(l:I Nat)(H:I Lf),wU go l=some H->∀x∈H,∃k∈l,∃a,go k=some a/\x∈a:=by
      intro l
      induction l with
      |nil=>intro H h x d;cases h;cases d
      |cons j r ih=>
       intro H h x d;unfold wU at h;split at h
       ·next a J=>
        split at h
        ·next b e2=>
         cases h
         rcases ZN.1 d with d|d
         ·exact⟨j,Zq,a,J,d⟩
         ·obtain⟨k,v,a',u,z⟩:=ih b e2 x d;exact⟨k,Zg _ v,a',u,z⟩
        ·cases h
       ·cases h
    refine⟨?_,λx d=> ?_,λv=>⟨λe=>(by rw[e]at BL;cases BL),λi hi oi Kp=> ?_⟩⟩;{obtain⟨a,J,u⟩:=ab1 k0 Zq;obtain⟨o,s1,l,F,hg,⟨x,d⟩,_⟩:=N k0 a BL J;exact⟨x,u x d⟩};{obtain⟨k,v,a,J,Yb⟩:=back _ _ h x d;obtain⟨o,s1,l,F,hg,u,z,h3⟩:=N k a ((M.ready k).2 (by rw[R];exact v)) J;exact⟨λp hp=>(z x Yb).1 p (Zg _ hp),(z x Yb).2⟩}
    ·have e8:i∈k0::r:=by rw[<-R];exact(M.ready i).1 hi
     obtain⟨a,J,u⟩:=ab1 i e8;obtain⟨o,s1,l,F,hg,_,_,h3⟩:=N i a hi J;rw[F]at Kp;cases Kp;exact h3 λx d=>v x (u x d)
end
def Qz(k:Nat):I Nat->Nat
 |[]=>0
 |j::l=>bif cP (j+1) k then Qz k l+1 else Qz k l
def Ty(k:Nat):I Nat->Nat
 |[]=>0
 |j::l=>bif j==k then Ty k l+1 else Ty k l
def Sc(h0:Nat)(b:I Nat):I Nat->I Nat->I Nat
 |_,[]=>[]
 |pre,k::l=>fN (h0+Qz k b+Ty k pre) λq=>q::Sc h0 b (k::pre) l
def XA(q:Nat):I Nat->Nat->Nat
 |[],i=>i
 |x::l,i=>bif x==q then i else XA q l (i+1)
def RZ(h0:Nat)(p:I Nat):Nat->Nat->I Nat
 |0,_=>[]
 |n+1,q=>fN (XA q p h0) λi=>i::RZ h0 p n (q+1)
def GN(a:Nat×I (In×cB)):I (Nat×I (In×cB))->I (Nat×I (In×cB))
 |[]=>[a]
 |b::l=>bif cP a.1 b.1 then a::b::l else b::GN a l
def IA:I (Nat×I (In×cB))->I (Nat×I (In×cB))
 |[]=>[]
 |a::l=>GN a (IA l)
def Mz:I (Nat×I (In×cB))->I (In×cB)
 |[]=>[]
 |a::l=>a.2++Mz l
def tV(p q:I Nat)(h0:Nat)(h:I ar):Nat->Nat->I ar
 |0,_=>[]
 |n+1,i=>(match h[j9 h0 q i]? with|some B=>B.aZ (j9 h0 p)|none=>.gone)::tV p q h0 h n (i+1)
def Da(h0:Nat)(p:I Nat):Bool:=(List.range p.length).all λi=>p.getD i 0==h0+i
def aiV{h0:Nat}{p:I Nat}(h:Da h0 p=true):j9 h0 p=id:=by
 funext i
 unfold j9;cases e:cP h0 i with
 |false=>rfl
 |true=>
  rw[dS]at e;simp only[Tq,id];by_cases b:i-h0<p.length;{unfold Da at h;rw[Zd]at h;have:=h (i-h0) (List.mem_range.2 b);rw[Ua,List.getD_eq_getElem?_getD,Ze b]at this;rw[List.getD_eq_getElem?_getD,Ze b];simp only[Option.getD_some]at this ⊢;omega};{rw[List.getD_eq_getElem?_getD,Z9 (by omega)];rfl}
def X9(keep:I Nat)(s:St)(x:Lf)(p q:I Nat):U (I (Nat×AV)×I ar×I (In×cB)):=bif (x.1.t.take (x.1.t.length-s.t.length)).all (λp=>keep.any (·==p.1)||Xc (bP s.t p.1))&&(List.range x.1.h.length).all (λi=>cP (j9 s.h.length p i+1) x.1.h.length&&cP (j9 s.h.length q i+1) x.1.h.length&&j9 s.h.length q (j9 s.h.length p i)==i&&j9 s.h.length p (j9 s.h.length q i)==i)then some (keep.map λk=>(k,(bP x.1.t k).aZ (j9 s.h.length p)),bif Da s.h.length p then x.1.h else tV p q s.h.length x.1.h x.1.h.length 0,Mz (IA x.2.2))else none
def LK(keep:I Nat)(s:St)(x:Lf):U (I (Nat×AV)×I ar×I (In×cB)):=fL (Sc s.h.length x.2.1 [] x.2.1) λp=>fL (RZ s.h.length p p.length s.h.length) λq=>X9 keep s x p q
def JI(keep:I Nat)(s:St):I Lf->U (I (I (Nat×AV)×I ar×I (In×cB)))
 |[]=>some []
 |x::l=>match LK keep s x with
  |some a=>match JI keep s l with
   |some b=>some (a::b)
   |none=>none
  |none=>none
def DR(P:dg)(ol:I Oper)(as:I (Nat×cB))(keep:I Nat)(s:St):U (I (I (Nat×AV)×I ar×I (In×cB))):=
 bif pL (Region.before ol.toArray) ol.toArray then fL (qg ol.toArray 0 ol.toArray.size) λA=>fL (lH ol.toArray false (Region.before ol.toArray) 0 ol.toArray.size) λC=>
  match BN P ol.toArray A C as ol.toArray.size 0 [] [] s with
  |some b=>JI keep s b
  |none=>none
 else none
def SN{keep:I Nat}{s:St}:∀{e:I Lf}{r},JI keep s e=some r->∀x∈e,∃a∈r,LK keep s x=some a
 |[],_,_,x,d=>by cases d
 |y::l,r,h,x,d=>by
  unfold JI at h;split at h
  ·next a f=>
   split at h
   ·next b k=>
    cases h
    rcases Za.1 d with rfl|d
    ·exact⟨a,Zq,f⟩
    ·obtain⟨p,q,u⟩:=SN k x d;exact⟨p,Zg _ q,u⟩
   ·cases h
  ·cases h
def X8{a x:Nat×I (In×cB)}:∀{l:I (Nat×I (In×cB))},x∈GN a l↔x=a\/x∈l
 |[]=>by simp [GN]
 |b::l=>by
  unfold GN;cases cP a.1 b.1 with
  |true=>simp
  |false=>
   simp only[T6,Za,X8 (l:=l)];constructor
   ·rintro(h|h|h)
    ·exact .inr (.inl h)
    ·exact .inl h
    ·exact .inr (.inr h)
   ·rintro(h|h|h)
    ·exact .inr (.inl h)
    ·exact .inl h
    ·exact .inr (.inr h)
def X7{x:Nat×I (In×cB)}:∀{l:I (Nat×I (In×cB))},x∈IA l↔x∈l
 |[]=>by simp [IA]
 |a::l=>by rw[IA,X8,X7 (l:=l),Za]
def X6{P:dg}:∀{l:I (Nat×I (In×cB))},AllOK P (Mz l)->∀p∈l,AllOK P p.2
 |[],_,p,b=>by cases b
 |a::l,h,p,b=>by
  unfold Mz at h;rcases Za.1 b with rfl|b
  ·exact λq d=>h q (ak _ d)
  ·exact X6 (λq d=>h q (a8 _ d)) p b
def X5{p q:I Nat}{h0:Nat}{h:I ar}:∀(n i j:Nat),(tV p q h0 h n i)[j]?=if j<n then some (match h[j9 h0 q (i+j)]? with|some B=>B.aZ (j9 h0 p)|none=>.gone)else none
 |0,i,j=>by simp [tV]
 |n+1,i,0=>by simp [tV]
 |n+1,i,j+1=>by
  rw[tV,Z2,X5 n (i+1) j];simp only[Nat.add_lt_add_iff_right];rw[show i+1+j=i+(j+1) by omega]
def YC{p q:I Nat}{h0:Nat}{h:I ar}:∀(n i:Nat),(tV p q h0 h n i).length=n
 |0,_=>rfl
 |n+1,i=>by rw[tV,Zl,YC n]
def Y5{P:dg}{ops:Array Oper}{N0:Nat}{keep:I Nat}{s:St}{x:Lf}{Δ:I (Nat×AV)}{h':I ar}{ps:I (In×cB)}(h:LK keep s x=some (Δ,h',ps))(hN:N0<=s.h.length)(qO:∀i,(bP s.t i).aN s.h.length=true)
 (hn:x.1.n=s.n) (hp:∃d,x.1.t=d++s.t) (cy:AllOK P ps):jU N0 x.1 ⟨s.n,Δ++s.t,h'⟩/\∀p∈x.2.2,AllOK P p.2:=by
 unfold LK at h;rw[Au,Au]at h;generalize Sc s.h.length x.2.1 [] x.2.1=p at h;generalize RZ s.h.length p p.length s.h.length=q at h;unfold X9 at h;obtain⟨v,he⟩:=ff h;cases he
 rw[Zr]at v;obtain⟨v,u⟩:=v;simp only[Zd,List.mem_range,Zr,Ua,dS]at u;have L:∀i,i<s.h.length->j9 s.h.length p i=i:=λi b=>by
   unfold j9;have:cP s.h.length i=false:=by rw[<-Uq,dS];omega
   rw[this];rfl
 refine⟨?_,λy F=>X6 cy y (X7.2 F)⟩;refine jU.aZ (j9 s.h.length p) (j9 s.h.length q) hn (by
  cases Da s.h.length p with
  |true=>rfl
  |false=>exact YC _ _) (λi b=>(u i b).1.1.1) (λi b=>(u i b).1.1.2) (λi b=>(u i b).1.2) (λi b=>(u i b).2) (λi b=>L i (by omega)) (λi _=> ?_) λi b=> ?_
 ·obtain⟨d,M⟩:=hp;have N:∀(f:Nat->AV),(keep.map λk=>(k,f k)).map (·.1)=keep:=λf=>by rw[List.map_map];exact List.map_id _
  show bP ((keep.map λk=>(k,(bP x.1.t k).aZ (j9 s.h.length p)))++s.t) i=_\/_;rcases IW (keep.map λk=>(k,(bP x.1.t k).aZ (j9 s.h.length p))) s.t i with⟨B,H⟩|⟨B,H⟩
  ·rw[N]at B;rw[H,tA (λk=>(bP x.1.t k).aZ (j9 s.h.length p)),ab B];exact .inl rfl
  ·rw[N]at B;show _\/bP ((keep.map λk=>(k,(bP x.1.t k).aZ (j9 s.h.length p)))++s.t) i=_;rw[H];rw[M,Zk,Nat.add_sub_cancel,List.take_left']at v
   ·rw[M];rcases IW d s.t i with⟨R,W⟩|⟨R,W⟩
    ·right
     obtain⟨y,F,rfl⟩:=UU.1 R;have:=Zd.1 v y F;rw[aq]at this;rcases this with this|this
     ·exfalso;obtain⟨k,hk,e⟩:=List.any_eq_true.1 this;rw[Ua]at e;exact B (e▸hk)
     ·generalize bP s.t y.1=z at this;cases z<;>first|rfl|cases this
    ·left
     rw[W,D0 (τ:=id) L _ (qO i),Pe]
   ·rfl
 ·show(bif Da s.h.length p then x.1.h else tV p q s.h.length x.1.h x.1.h.length 0)[j9 s.h.length p i]?=_;cases J:Da s.h.length p with
  |true=>rw[aiV J];simp only[Tq,id];rw[Ze b,a6,V3]
  |false=>
  simp only[T6];rw[X5,ab (Nat.lt_of_succ_le (u i b).1.1.1),ZQ,(u i b).1.2,Ze b];rfl
def X4{P:dg}{ol:I Oper}{as:I (Nat×cB)}{keep:I Nat}{s:St}{Δ:I (Nat×AV)}{h':I ar}{ps:I (In×cB)}{m N0:Nat}{K:St->Prop}(h:DR P ol as keep s=some (List.replicate m (Δ,h',ps)))(p:AllOK P ps)(q:N0<=s.h.length)(u:∀i,(bP s.t i).aN s.h.length=true)(e:ES N0 K)(v:K ⟨s.n,Δ++s.t,h'⟩):
 me false P ol.toArray K ol.toArray.size (Array.replicate ol.toArray.size false) s:=by
 unfold DR at h;obtain⟨z,h⟩:=lN h;rw[Au,Au]at h;split at h
 ·next B F=>
  obtain⟨_,f,H⟩:=XB (s0:=s) e.c z s.t _ 0 (Array.replicate ol.toArray.size false) _ _ s B ⟨by simp,λi=>by
   rw[Nat.zero_testBit,Array.getD_eq_getD_getElem?,Array.getElem?_replicate];split<;>rfl⟩ (λj o N b=>by
   exfalso;rw[Array.getD_eq_getD_getElem?,Array.getElem?_replicate]at b;split at b<;>simp at b) F
  refine H λx d=> ?_;obtain⟨a,k,J⟩:=SN h x d;rw[List.mem_replicate]at k;obtain⟨_,rfl⟩:=k;obtain⟨L,M⟩:=Y5 (P:=P) (ops:=ol.toArray) J q u ((f x d).2.2 (oJ.refl _ _)).n ((f x d).2.1 ⟨[],rfl⟩) p;exact⟨M,e _ _ L v⟩
 ·cases h
section
variable {P:dg} {r:U Nat} {N0 id n:Nat} {ol:I Oper} {y:Code} {t:I (Nat×AV)} {h:I ar} {Q Q':Exit->St->Prop}
def rtE(m:Nat)(b:P.follows .mixedOrders=true)(Δ:I (Nat×AV))(h':I ar)(e:∃aC:I (Nat×Ob P),DR P ol (jZ aC) (Δ.map (·.1)) ⟨n,t,h⟩=some (List.replicate m (Δ,h',kC aC)))(k:bR P r N0 y Q' ⟨n,Δ++t,h'⟩):bR P r N0 (.region id ol.toArray true) (je (λs=>bR P r N0 y Q' s) Q) ⟨n,t,h⟩:=
 let ⟨aC,e⟩:=e
 V8 b λd f=>X4 e (rM aC) d f (Qt _) ⟨_,jU.refl _ _,k⟩
def rt(m:Nat)(b:P.follows .mixedOrders=true)(aC:I (Nat×Ob P))(Δ:I (Nat×AV))(h':I ar)(e:DR P ol (jZ aC) (Δ.map (·.1)) ⟨n,t,h⟩=some (List.replicate m (Δ,h',kC aC)))(k:bR P r N0 y Q' ⟨n,Δ++t,h'⟩):bR P r N0 (.region id ol.toArray true) (je (λs=>bR P r N0 y Q' s) Q) ⟨n,t,h⟩:=rtE m b Δ h' ⟨aC,e⟩ k
def rte(m:Nat)(b:P.follows .mixedOrders=true)(aC:I (Nat×Ob P))(Δ:I (Nat×AV))(h':I ar)(e:DR P ol (jZ aC) (Δ.map (·.1)) ⟨n,t,h⟩=some (List.replicate m (Δ,h',kC aC)))(k:Q .normal ⟨n,Δ++t,h'⟩):bR P r N0 (.region id ol.toArray true) Q ⟨n,t,h⟩:=
 V8 b λd f=>X4 e (rM aC) d f (Qt _) ⟨_,jU.refl _ _,k⟩
end
def Qg{f:AV->AV}(b:∀d,f (.d d)= .d d)(xs:I (I D)):(cg xs).map (·.map f)=cg xs:=by
 unfold cg;rw[List.map_map];refine Z8 λc _=> ?_;simp only[Function.comp,List.map_map];exact Z8 λd _=>b d
def Ii(xs:I (I D)):(cg xs).length=xs.length:=by unfold cg;rw[Zu]
def VY{xs:I (I D)}{i:Nat}{c:I D}(h:xs[i]?=some c):(cg xs)[i]?=some (c.map .d):=by unfold cg;rw[Zs,h];rfl
def aoi(xs:I (I D))(i:Nat)(c:I D):cg (xs.set i c)=(cg xs).set i (c.map .d):=by unfold cg;rw[List.map_set]
def akV(xs ys:I (I D)):cg (xs++ys)=cg xs++cg ys:=by unfold cg;rw[aa]
def bu{cs:I AV}{l:I ar}(h:VD l):VD (.cells cs::l):=⟨trivial,h⟩
def amm{e k n:Nat}{l:I ar}(h:VD l):VD (.front e k n::l):=⟨trivial,h⟩
def fe{b:I (so×D)}{l:I ar}(h:VD l):VD (.map b::l):=⟨trivial,h⟩
def aq1{l:I ar}(h:VD l):VD (.gone::l):=⟨trivial,h⟩
def ar.sJ(m:Nat):ar->ar
 | .vec e k cs=>.vec e k cs
 |B=>B.bQ m
def ar.CY:ar->ar
 | .vec e k cs=>.vec e k cs
 |B=>B.rJ
def ar.CO(m:Nat):ar->Prop
 | .vec _ _ cs=>cs.map (·.map (AV.bQ m))=cs/\cs.all (·.all (AV.aN m))=true
 |_=>True
def jI(m:Nat):I ar->Prop
 |[]=>True
 |B::l=>B.CO m/\jI m l
section
variable {m:Nat} {l:I ar}
def jP:jI m []:=trivial
def fE{B:ar}(b:B.CO m)(h:jI m l):jI m (B::l):=⟨b,h⟩
def X3(xs:I (I D)):(cg xs).all (·.all (AV.aN m))=true:=by simp [cg,AV.aN]
def lW{e k:Nat}{xs:I (I D)}(h:jI m l):jI m (.vec e k (cg xs)::l):=⟨⟨Qg (λd=>by simp [AV.bQ]) _,X3 _⟩,h⟩
def jI.mem:∀{l:I ar},jI m l->∀B∈l,B.CO m
 |[],_,B,b=>by cases b
 |_::_,h,B,b=>by
  rcases Za.1 b with rfl|b
  ·exact h.1
  ·exact jI.mem h.2 B b
end
def ale{m:Nat}{B:ar}(h:B.CO m):B.sJ m=B.bQ m:=by
 cases B with
 |vec e k cs=>simp only[ar.sJ,ar.bQ];rw[h.1]
 |_=>rfl
def aqU{m:Nat}{B:ar}(h:B.CO m)(b:(B.sJ m).xA m=true):(B.bQ m).aN m=true:=by
 cases B with
 |vec e k cs=>simp only[ar.bQ,ar.aN];rw[h.1];exact h.2
 |_=>exact b
def XJ{G:Gh}{w:Zy}{h:I ar}(hi:cu G w h):cu G w (h.map ar.CY):=by
 have f:∀n,cr (h.map ar.CY) G n=cr h G n:=λn=>by
  unfold cr;rw[Zs];cases h[n]? with
  |none=>rfl
  |some B=>cases B<;>rfl
 have p:=R0 hi;refine⟨by rw[Zu];exact hi.len,hi.z,hi.S,λn B b=> ?_,λm n x q u=>hi.inj m n x (by rw[<-f];exact q) (by rw[<-f];exact u),hi.gl⟩;rw[Zs]at b;cases d:h[n]? with
 |none=>rw[d]at b;cases b
 |some B'=>
  rw[d]at b;cases b
  have v:=p.dM n B'.rJ (by rw[Zs,d];rfl);cases B' with
  |vec e k cs=>exact hi.dM n _ d
  |_=>exact v
def wj(kn:I (Nat×Nat))(n:Nat):Nat->I AV->I AV
 |_,[]=>[]
 |i,x::l=>(bif kn.any (λp=>p.1==n&&p.2==i)then x else x.nrm)::wj kn n (i+1) l
def ar.adz(kn:I (Nat×Nat))(n:Nat):ar->ar
 | .cells cs=>.cells (wj kn n 0 cs)
 |B=>B.CY
def rT(kn:I (Nat×Nat)):Nat->I ar->I ar
 |_,[]=>[]
 |n,B::l=>B.adz kn n::rT kn (n+1) l
def X2(kn:I (Nat×Nat))(n:Nat):∀(j:Nat)(cs:I AV),(wj kn n j cs).length=cs.length
 |_,[]=>rfl
 |j,x::l=>by rw[wj,Zl,X2 kn n (j+1) l,Zl]
def Yf(kn:I (Nat×Nat))(n:Nat):∀(j:Nat)(cs:I AV)(i:Nat)(b:AV),(wj kn n j cs)[i]?=some b->∃c,cs[i]?=some c/\(b=c\/b=c.nrm)
 |_,[],i,b,h=>by simp [wj]at h
 |j,x::l,0,b,h=>by
  simp only[wj,List.getElem?_cons_zero,UW]at h;refine⟨x,rfl,?_⟩;cases d:kn.any (λp=>p.1==n&&p.2==j)with
  |true=>rw[d]at h;exact .inl h.symm
  |false=>rw[d]at h;exact .inr h.symm
 |j,x::l,i+1,b,h=>by
  simp only[wj,Z2]at h;obtain⟨c,e,f⟩:=Yf kn n (j+1) l i b h;exact⟨c,by simpa using e,f⟩
def RR(kn:I (Nat×Nat)):∀(j:Nat)(h:I ar)(i:Nat)(B':ar),(rT kn j h)[i]?=some B'->∃B,h[i]?=some B/\B'=B.adz kn (j+i)
 |_,[],i,B',h=>by simp [rT]at h
 |j,B::l,0,B',h=>by simp only[rT,List.getElem?_cons_zero,UW]at h;exact⟨B,rfl,h.symm⟩
 |j,B::l,i+1,B',h=>by
  simp only[rT,Z2]at h;obtain⟨C,b,d⟩:=RR kn (j+1) l i B' h;exact⟨C,by simpa using b,by rw[d];congr 1;omega⟩
def X1(kn:I (Nat×Nat)):∀(j:Nat)(h:I ar),(rT kn j h).length=h.length
 |_,[]=>rfl
 |j,B::l=>by rw[rT,Zl,X1 kn (j+1) l,Zl]
def arR{G:Gh}{w:Zy}{h:I ar}(kn:I (Nat×Nat))(hi:cu G w h):cu G w (rT kn 0 h):=by
 have p:∀n x,cr (rT kn 0 h) G n=some x->cr h G n=some x:=λn x J=>by
  obtain⟨d,e,b⟩:=n9 J;obtain⟨B,f,rfl⟩:=RR kn 0 h n d e;rw[eG f,<-b];cases B<;>rfl
 have f:=XJ hi;refine⟨by rw[X1];exact hi.len,hi.z,hi.S,λn d e=> ?_,λm n x L M=>hi.inj m n x (p m x L) (p n x M),hi.gl⟩;obtain⟨B,b,rfl⟩:=RR kn 0 h n d e;cases B with
 |cells cs=>
  obtain⟨N,R,W,T,c3,c4,q⟩:=hi.dM n _ b;refine⟨N,R,W,T,c3,by rw[X2];exact c4,λi u c v hc=> ?_⟩;obtain⟨F,H,k|k⟩:=Yf _ _ _ _ _ _ hc;{rw[k];exact q i u F v H};{rw[k];exact(q i u F v H).nrm}
 |_=>exact f.dM n _ (by rw[Zs,b];rfl)
def nc(s:St)(live:I Nat)(m:Nat)(ks:I Nat)(kn:I (Nat×Nat)):U St:=bif cP m s.h.length&&(live.all λk=>((bP s.t k).bQ m).aN m)&&(((s.h.take m).map (ar.sJ m)).all (ar.xA m))then some ⟨s.n,live.map λk=>(k,bif ks.any (·==k)then(bP s.t k).bQ m else(bP s.t k).fin m),rT kn 0 ((s.h.take m).map (ar.sJ m))⟩else none
def X0{h:I ar}{m:Nat}(b:jI m (h.take m)):(h.take m).map (ar.sJ m)=(h.take m).map (ar.bQ m):=Z8 λB d=>ale (b.mem B d)
def ZF{h:I ar}{m:Nat}(f:jI m (h.take m))(b:((h.take m).map (ar.sJ m)).all (ar.xA m)=true):((h.take m).map (ar.bQ m)).all (ar.aN m)=true:=by
 rw[Zd]at b ⊢;intro B k;obtain⟨d,e,rfl⟩:=UU.1 k;exact aqU (f.mem d e) (b _ (UU.2 ⟨d,e,rfl⟩))
section
variable {P:dg} {r:U Nat} {n N0:Nat} {G:Gh} {w:Zy} {a:Act} {s s':St} {Q Q':Exit->St->Prop} {live:I Nat} {m:Nat} {ks:I Nat} {kn:I (Nat×Nat)}
def dx.nc(d:dx G w a s)(f:jI m (s.h.take m))(h:nc s live m ks kn=some s'):dx (G.cut m) w a s':=by
 unfold Go.Proofs.YtnnapanbbbcalaaGreatDoor.nc at h;obtain⟨b,rfl⟩:=ff h;rw[Zr,Zr]at b;have p:=d.mask (live:=live) ⟨dS.1 b.1.1,b.1.2,ZF f b.2⟩;refine⟨d.size,λi=> ?_,by show cu _ _ (rT kn 0 ((s.h.take m).map (ar.sJ m)));rw[X0 f];exact arR kn p.inv,d.df⟩;have:=p.tmp i
 change aQ _ _ _ (bP (live.map λk=>(k,(bP s.t k).bQ m)) i)at this
 rw[tA (λk=>(bP s.t k).bQ m)]at this;show aQ _ _ _ (bP (live.map λk=>(k,bif ks.any (·==k)then(bP s.t k).bQ m else(bP s.t k).fin m)) i);rw[tA (λk=>bif ks.any (·==k)then(bP s.t k).bQ m else(bP s.t k).fin m)];split at this
 ·rename_i e
  rw[ab e];cases ks.any (·==i)with
  |true=>exact this
  |false=>exact this.nrm
 ·rename_i e;rw[ae e];exact .dead _
def Kr{c:Code}{ι:Type}(live:I Nat)(m:Nat)(ks:I Nat)(kn:I (Nat×Nat))(st:ι->St)(b:ι->Prop)(μ:ι->Nat)(d:ι)(k:N0<=m)(h0:jI m (s.h.take m)/\Go.Proofs.YtnnapanbbbcalaaGreatDoor.nc s live m ks kn=some (st d))(B:b d)
 (round:∀i,b i->bR P r N0 c (je (λs'=>∃i',(jI m (s'.h.take m)/\Go.Proofs.YtnnapanbbbcalaaGreatDoor.nc s' live m ks kn=some (st i'))/\b i'/\μ i'<μ i) Q) (st i)):bR P r N0 (.loop c) Q s:=by
 constructor
 intro G w a n F _;refine WJ (λ(i:ι) f w'=>∃G',b i/\cq N0 G w G' w'/\N0<=G'.N/\dx G' w' f (st i)) μ d ⟨G.cut m,B,qS _ _ _ _,k,F.nc h0.1 h0.2⟩ ?_;rintro i f w' ⟨G',H,p,J,L⟩;refine wpIn_mono ((round i H).run G' w' f n L J) λe a1 w1 M=> ?_;obtain⟨G1,s1,q,R,u,v⟩:=M;cases e with
 |normal=>
  obtain⟨i',z,W,h3⟩:=v;exact⟨i',⟨G1.cut m,W,(p.trans q).trans (qS _ _ _ _),k,u.nc z.1 z.2⟩,h3⟩
 |_=>exact⟨G1,s1,p.trans q,R,u,v⟩
def Kf{c:Code}(live:I Nat)(m:Nat)(ks:I Nat)(kn:I (Nat×Nat))(b:N0<=m)(h0:jI m (s.h.take m)/\Go.Proofs.YtnnapanbbbcalaaGreatDoor.nc s live m ks kn=some s')(h:bR P r N0 c Q s'):bR P r N0 c Q s:=by
 constructor
 intro G w a n d _;exact wpIn_mono (h.run (G.cut m) w a n (d.nc h0.1 h0.2) b) λ_ _ _ e=>e.trans (qS N0 G w m)
def WZ{c y:Code}{ι:Type}(live:I Nat)(m:Nat)(ks:I Nat)(kn:I (Nat×Nat))(st:ι->St)(b:ι->Prop)(d:N0<=m)(f:bR P r N0 c (je (λs'=>∃i,(jI m (s'.h.take m)/\Go.Proofs.YtnnapanbbbcalaaGreatDoor.nc s' live m ks kn=some (st i))/\b i) Q) s)(k:∀i,b i->bR P r N0 y Q' (st i)):bR P r N0 c (je (λs=>bR P r N0 y Q' s) Q) s:=by
 refine f.mono λe s' h=> ?_;cases e with
 |normal=>obtain⟨i,p,q⟩:=h;exact Kf live m ks kn d p (k i q)
 |_=>exact h
end
def Ji(P:dg)(b:I ResultVar)(m:Nat)(s:St):U (AV×I ar):=
 match ve P s b with
 |some l=>bif cP m s.h.length&&((la l).bQ m).aN m&&(((s.h.take m).map (ar.sJ m)).all (ar.xA m))then some (((la l).bQ m).nrm,((s.h.take m).map (ar.sJ m)).map ar.CY)else none
 |none=>none
def WY(P:dg)(fn:Func)(m:Nat)(R:AV)(H:I ar):Exit->St->Prop
 | .normal,s=>jI m (s.h.take m)/\Ji P fn.results.toList m s=some (R,H)
 | .ret,s=>jI m (s.h.take m)/\Ji P fn.results.toList m s=some (R,H)
 |_,_=>False
def WW{P:dg}{s:St}{fn:Func}{m:Nat}{R:AV}{H:I ar}(h:jI m (s.h.take m)/\Ji P fn.results.toList m s=some (R,H)):sw P fn m (λr h'=>r.nrm=R/\h'.map ar.CY=H) s:=by
 obtain⟨d,h⟩:=h;unfold Ji at h;split at h
 ·next l e=>
  obtain⟨b,f⟩:=ff h;cases f
  simp only[Zr,dS]at b;exact Ht _ _ _ e ⟨b.1.1,b.1.2,ZF d b.2,rfl,by rw[X0 d]⟩
 ·cases h
def xp{P:dg}{s:St}{fn:Func}{m:Nat}{R:AV}{H:I ar}(b:jI m (s.h.take m))(h:Ji P fn.results.toList m s=some (R,H)):WY P fn m R H .ret s:=⟨b,h⟩
def Jp{P:dg}{f:FuncId}{fn:Func}{c:Code}{args:I AV}{h H:I ar}{R:AV}(m:Nat)(d:P.funcs[f]?=some fn)(k:fn.body=some c)(p:(fn.name== "runtime.NumGoroutine")=false)(q:h.length<=m)
 (u:bR P none h.length c (WY P fn m R H) {n:=args.length+(fn.ntmps-args.length),t:=ng 0 args,h:=h}):dt P f args h λz h1=>z=R/\h1=H:=by
 have h0:=wo (P:=P) (f:=f) (args:=args) (h:=h) (K:=λr h'=>r.nrm=R/\h'.map ar.CY=H) m d k p q (u.mono λe s b=>by
  cases e with
  |normal=>exact WW b
  |ret=>exact WW b
  |_=>exact b.elim)
 refine⟨h0.1,λG w B F J L=>(h0.2 G w B F J L).mono λe w' M=> ?_⟩;obtain⟨v,N,x,h',rfl,W,hN,e8,hv,rfl,rfl⟩:=M;exact⟨v,N,x.nrm,_,rfl,W,hN,XJ e8,hv.nrm,rfl,rfl⟩
mutual
def AV.sr(b:Nat):AV->I (Nat×Nat×Nat×Nat)
 | .vec n o len L k=>bif n==b then[(o,len,L,k)]else[]
 | .agg cs=>AV.s9 b cs
 | .bq cs=>AV.s9 b cs
 | .fn _ cs=>AV.s9 b cs
 |_=>[]
def AV.s9(b:Nat):I AV->I (Nat×Nat×Nat×Nat)
 |[]=>[]
 |x::l=>x.sr b++AV.s9 b l
end
mutual
def AV.mlt(b:Nat)(xs:I (I D)):AV->AV
 | .vec n o len L k=>bif n==b then .d (.sl xs)else .vec n o len L k
 | .eH n i j L k=>bif n==b then .dead else .eH n i j L k
 | .agg cs=>.agg (AV.nU b xs cs)
 | .bq cs=>.bq (AV.nU b xs cs)
 | .fn f cs=>.fn f (AV.nU b xs cs)
 |x=>x
def AV.nU(b:Nat)(xs:I (I D)):I AV->I AV
 |[]=>[]
 |x::l=>x.mlt b xs::AV.nU b xs l
end
mutual
def V4{b kk:Nat}{xs:I (I D)}:∀x:AV,(∀q∈x.sr b,q=(0,xs.length,xs.length,kk))->x.dG b kk xs=x.mlt b xs
 | .vec n o len L k,h=>by
   unfold AV.dG AV.mlt;unfold AV.sr at h;cases e:n==b with
   |false=>rfl
   |true=>
    rw[e]at h;have:=h _ Zq;cases this
    simp
 | .agg cs,h=>by unfold AV.dG AV.mlt;rw[xo cs (by unfold AV.sr at h;exact h)]
 | .bq cs,h=>by unfold AV.dG AV.mlt;rw[xo cs (by unfold AV.sr at h;exact h)]
 | .fn f cs,h=>by unfold AV.dG AV.mlt;rw[xo cs (by unfold AV.sr at h;exact h)]
 | .eH n i j L k,h=>by unfold AV.dG AV.mlt;rfl
 | .d _,_=>by simp [AV.dG,AV.mlt]
 | .ptr ..,_=>by simp [AV.dG,AV.mlt]
 | .bM ..,_=>by simp [AV.dG,AV.mlt]
 | .own ..,_=>by simp [AV.dG,AV.mlt]
 | .full _,_=>by simp [AV.dG,AV.mlt]
 | .row ..,_=>by simp [AV.dG,AV.mlt]
 | .mp _,_=>by simp [AV.dG,AV.mlt]
 | .cU _,_=>by simp [AV.dG,AV.mlt]
 | .hid _,_=>by simp [AV.dG,AV.mlt]
 | .dead,_=>by simp [AV.dG,AV.mlt]
def xo{b kk:Nat}{xs:I (I D)}:∀l:I AV,(∀q∈AV.s9 b l,q=(0,xs.length,xs.length,kk))->AV.rX b kk xs l=AV.nU b xs l
 |[],_=>by simp [AV.rX,AV.nU]
 |x::l,h=>by
  unfold AV.s9 at h;unfold AV.rX AV.nU;rw[V4 x λq hq=>h q (ak _ hq),xo l λq hq=>h q (a8 _ hq)]
end
inductive mD(b L kk:Nat)(xs:List (List D)):List ar->List ar->Prop
 |nil:mD b L kk xs [] []
 |cells {cs cM:List AV} {l l':List ar} (c:Nat) (h:AV.s9 b cs=List.replicate c (0,L,L,kk)) (e:AV.nU b xs cs=cM) (t:mD b L kk xs l l'):mD b L kk xs (.cells cs::l) (.cells cM::l')
 |Ay {e k:Nat} {ys:List (List D)} {l l':List ar} (t:mD b L kk xs l l'):mD b L kk xs (.vec e k (cg ys)::l) (.vec e k (cg ys)::l')
 |row {e k i:Nat} {ys:List (List D)} {cs cM:List AV} {l l':List ar} (c:Nat) (h:AV.s9 b cs=List.replicate c (0,L,L,kk)) (e1:AV.nU b xs cs=cM) (t:mD b L kk xs l l'):mD b L kk xs (.vec e k ((cg ys).set i cs)::l) (.vec e k ((cg ys).set i cM)::l')
 |front {e k n:Nat} {l l':List ar} (t:mD b L kk xs l l'):mD b L kk xs (.front e k n::l) (.front e k n::l')
 |map {kv:List (ByteArray×D)} {l l':List ar} (t:mD b L kk xs l l'):mD b L kk xs (.map kv::l) (.map kv::l')
 |gone {l l':List ar} (t:mD b L kk xs l l'):mD b L kk xs (.gone::l) (.gone::l')
def JM{c L b:Nat}{xs:I (I D)}(e:xs.length=L){l:I (Nat×Nat×Nat×Nat)}(h:l=List.replicate c (0,L,L,b)):∀q∈l,q=(0,xs.length,xs.length,b):=λq d=>by
 rw[h,List.mem_replicate]at d;rw[d.2,e]
def mD.eq{b L k:Nat}{xs:I (I D)}(p:xs.length=L){l q:I ar}(h:mD b L k xs l q):q=l.map (ar.lf (AV.dG b k xs)):=by
 have u:∀d,AV.dG b k xs (.d d)= .d d:=λd=>by simp [AV.dG]
 induction h with
 |nil=>rfl
 |cells c h e t f=>rw[ZS,<-f,<-e];simp only[ar.lf];rw[<-vc,xo _ (JM p h)]
 |Ay t f=>rw[ZS,<-f];simp only[ar.lf];rw[Qg u]
 |row c h v t f=>rw[ZS,<-f,<-v];simp only[ar.lf];rw[List.map_set,Qg u,<-vc,xo _ (JM p h)]
 |front t f=>rw[ZS,<-f];rfl
 |map t f=>rw[ZS,<-f];rfl
 |gone t f=>rw[ZS,<-f];rfl
def asd{P:dg}{r:U Nat}{N0:Nat}{c:Code}{s:St}{Q:Exit->St->Prop}(live:I Nat)(b:Nat)(xs:I (I D)){e k L:Nat}(h':I ar)(u:Nat)(v:s.h[b]?=some (.vec e k (cg xs)))(z:∀c∈xs,c.all D.xx=true)(d:xs.length=L)
 (B:(live.flatMap λi=>(bP s.t i).sr b)=List.replicate u (0,L,L,k)) (F:mD b L k xs s.h h') (K:bR P r N0 c Q ⟨s.n,live.map (λi=>(i,(bP s.t i).mlt b xs)),h'.set b .gone⟩):bR P r N0 c Q s:=by
 constructor
 intro G w a n H f;obtain⟨J,M,N,R⟩:=H.UX xs v z;refine wpIn_mono (K.run J w a n (R.less rfl (by rw[F.eq d]) λi=> ?_) (by rw[N];exact f)) λ_ _ _ W=>W.trans (M.less f);show bP (live.map (λi=>(i,(bP s.t i).mlt b xs))) i=bP (s.t.map λp=>(p.1,p.2.dG b k xs)) i\/_;rw[tA (λk=>(bP s.t k).mlt b xs),Ge (AV.dG b k xs) (by simp [AV.dG])];split
 ·next hi=>
  left
  refine(V4 _ λq hq=>JM d B q ?_).symm;exact List.mem_flatMap.2 ⟨i,hi,hq⟩
 ·exact .inr rfl
def WU{G:Gh}{w:Zy}{h:I ar}(hi:cu G w h)(e k:Nat):cq G.N G w (G.fV (.slice none 0 0) 0 none) w/\G.N<=(G.fV (.slice none 0 0) 0 none).N/\cu (G.fV (.slice none 0 0) 0 none) w (h++[.vec e k []])/\aQ (G.fV (.slice none 0 0) 0 none) w (.slice none 0 0) (.vec h.length 0 0 0 k):=by
 obtain⟨b,d⟩:=QL (w':=w) hi (.vec e k []) (λ_ _=>rfl) (.slice none 0 0) 0 none ⟨λ_ _=>rfl,Zv _,rfl,rfl,rfl⟩ (λ_ h=>by cases h)
  ⟨by simp [Gh.fV],Wv _,λc f=>absurd f Yx,.inl ⟨by simp [Gh.fV],rfl,none,by simp [Gh.fV]⟩⟩
 refine⟨b,ba _,d,.vec _ 0 0 0 k (by rw[hi.len];exact Z0 _) ⟨none,0,0,rfl⟩ (Wv _) λ_=>⟨Zv _,⟨none,0,rfl,Zv _,Wv _,Zv _,λh=>absurd h (Z4 _)⟩,λ_ _=> ?_⟩⟩;simp [Gh.fV,hi.len]
section
variable {P:dg} {r:U Nat} {N0:Nat} {s:St} {Q:Exit->St->Prop} {c:Code}
def aq6(t e k:Nat)(z:bP s.t t= .d (.v (.slice none 0 0)))(h:bR P r N0 c Q ⟨s.n,(t,.vec s.h.length 0 0 0 k)::s.t,s.h++[.vec e k []]⟩):bR P r N0 c Q s:=by
 constructor
 intro G w a n b q;obtain⟨p,u,B,F⟩:=WU b.inv e k;have f:=b.tmp t;rw[z]at f;have f:=f.val;have H:dx (G.fV (.slice none 0 0) 0 none) w a ⟨s.n,(t,.vec s.h.length 0 0 0 k)::s.t,s.h++[.vec e k []]⟩:=by
  refine⟨b.size,λi=> ?_,B,b.df.keep p⟩;show aQ _ _ _ (bP ((t,.vec s.h.length 0 0 0 k)::s.t) i);rw[mE];split;{next e=>exact e▸f▸F};{exact(b.tmp i).keep p u}
 exact wpIn_mono (h.run _ w a n H (Zc q u)) λ_ _ _ J=>J.trans (p.less q)
def anf(b i e k:Nat){cs:I AV}(z:s.h[b]?=some (.cells cs))(H:cs[i]?=some (.d (.v (.slice none 0 0))))
 (h:bR P r N0 c Q ⟨s.n,s.t,(s.h++[ar.vec e k []]).set b (ar.cells (cs.set i (AV.vec s.h.length 0 0 0 k)))⟩):bR P r N0 c Q s:=by
 constructor
 intro G w a n f J;obtain⟨h1,h2,L,T,h3,h4,M⟩:=f.inv.dM _ _ z;have hi:i<cs.length:=(Zo.1 H).1;have N:L[i]?=some L[i]:=ZM (by omega);have tU:=(M i _ _ N H).val;obtain⟨p,B,a3,a4⟩:=WU f.inv e k;have aV:=(Zo.1 z).1;have cZ:dx (G.fV (.slice none 0 0) 0 none) w a ⟨s.n,s.t,(s.h++[ar.vec e k []]).set b (ar.cells (cs.set i (AV.vec s.h.length 0 0 0 k)))⟩:=by
  refine⟨f.size,λj=>(f.tmp j).keep p B,Xu a3 (by rw[ZX aV];exact z) (by rw[ZJ]) λgQ T' R j u c F q=> ?_,f.df.keep p⟩;have e1:(G.fV (.slice none 0 0) 0 none).bg b=G.bg b:=rfl;rw[e1,h3]at R;cases R
  by_cases W:i=j
  ·subst W;rw[ZC hi]at q;cases q
   rw[N]at F;cases F
   rw[tU];exact a4
  ·rw[ZD W]at q;exact(M j u c F q).keep p B
 exact wpIn_mono (h.run _ w a n cZ (Zc J B)) λ_ _ _ hn=>hn.trans (p.less J)
def apW(b:Nat)(h:bR P r N0 c Q ⟨s.n,s.t,s.h.set b .gone⟩):bR P r N0 c Q s:=by
 constructor
 intro G w a n p v;have f:=p.inv;have u:∀n x,cr (s.h.set b .gone) G n=some x->cr s.h G n=some x:=λn x F=>by
  obtain⟨B,d,q⟩:=n9 F;by_cases e:b=n;{subst e;have k:=(Zo.1 d).1;rw[ZJ]at k;rw[ZC k]at d;cases d;cases q};{rw[ZD e]at d;rw[eG d];exact q}
 refine h.run G w a n ⟨p.size,p.tmp,⟨by rw[ZJ];exact f.len,f.z,f.S,λn B d=> ?_,λm n x q H=>f.inj m n x (u m x q) (u n x H),f.gl⟩,p.df⟩ v;by_cases e:b=n;{subst e;have k:=(Zo.1 d).1;rw[ZJ]at k;rw[ZC k]at d;cases d;trivial};{rw[ZD e]at d;exact f.dM n B d}
end
def yk{α:Type}{f:α->I D}{E:I α}{L:Nat}(h:E.length=L):(cg (E.map f)).length=L:=by rw[Ii,Zu,h]
def TT{cs:I (I AV)}{z:Int}{L i:Nat}(h:cs.length=L)(h0:0<=z)(h1:z<(L:Int))(b:z.toNat=i):cs.length=L/\0<=z/\z<(L:Int)/\i=0+z.toNat:=⟨h,h0,h1,by rw[b,ZQ]⟩
def ark{α:Type}{f:α->I D}{E:I α}{L i:Nat}{x:α}(h:E.length=L)(b:E[i]?=some x):(cg (E.map f)).length=L/\(cg (E.map f))[i]?=some ((f x).map .d):=⟨yk h,VY (by rw[Zs,b];rfl)⟩
def Yi{α:Type}{f:α->I D}{E:I α}{L i j:Nat}{x y:α}{zs:I AV}(h:E.length=L)(b:E[i]?=some x)(e:(f y).map AV.d=jK ((f x).map .d) j zs):(cg (E.map f)).length=L/\(cg (E.map f))[i]?=some ((f x).map .d)/\cg ((E.set i y).map f)=(cg (E.map f)).set i (jK ((f x).map .d) j zs):=
 ⟨yk h,VY (by rw[Zs,b];rfl),by rw[List.map_set,aoi,e]⟩
def GA{α:Type}{f:α->I D}{E ys:I α}{h:I ar}{k L p b dy:Nat}{y:AV}(q:E.length=L)(u:y.gX=some (ys.map f))(v:∀c∈ys.map f,c.length=k)(F:ys.length=p)(d:L+ys.length=b)(z:b<=maxLen)(B:b*dy<=140737488355328):
 (cg (E.map f)).length=L/\BY h k y (cg (ys.map f))/\b=L+(cg (ys.map f)).length/\((0+L+(cg (ys.map f)).length<=L/\b=L/\cg ((E++ys).map f)=(cg (E.map f)).take (0+L)++cg (ys.map f)++(cg (E.map f)).drop (0+L+(cg (ys.map f)).length))\/(0=0/\L=L/\b=L+(cg (ys.map f)).length/\cg ((E++ys).map f)=cg (E.map f)++cg (ys.map f)/\b<=maxLen/\b*dy<=140737488355328)):=by
 have e:(cg (ys.map f)).length=ys.length:=by rw[Ii,Zu]
 refine⟨yk q,.inl ⟨_,u,v,rfl⟩,by rw[e,d],.inr ⟨rfl,rfl,by rw[e,d],by rw[aa,akV],z,B⟩⟩
def arl{xs:I (I D)}{h:I ar}{k dy:Nat}{y:AV}(b:∀c∈xs,c.length=k)(d:y.gX=some xs)(e:xs.length<=maxLen)(f:xs.length*dy<=140737488355328):
 ([]:I (I D))=[]/\BY h k y (cg xs)/\cg xs=cg xs/\xs.length=(cg xs).length/\xs.length=(cg xs).length/\xs.length<=maxLen/\xs.length*dy<=140737488355328:=⟨rfl,.inl ⟨xs,d,b,rfl⟩,rfl,(Ii xs).symm,(Ii xs).symm,e,f⟩
def akm{P:dg}{r:U Nat}{N0:Nat}{c:Code}{s:St}{Q:Exit->St->Prop}(live:I Nat)(b:Nat)(xs ys:I (I D)){e k L:Nat}(h':I ar)(d:Nat)(f:s.h[b]?=some (.vec e k (cg xs)))(p:∀c∈xs,c.all D.xx=true)(q:xs.length=L)(u:ys=xs)
 (v:(live.flatMap λi=>(bP s.t i).sr b)=List.replicate d (0,L,L,k)) (z:mD b L k ys s.h h') (K:bR P r N0 c Q ⟨s.n,live.map (λi=>(i,(bP s.t i).mlt b ys)),h'.set b .gone⟩):bR P r N0 c Q s:=by
 subst u;exact asd live b _ h' d f p q v z K
def WT{α:Type}{f:α->I D}(b:∀x,(f x).all D.xx=true)(E:I α):∀c∈E.map f,c.all D.xx=true:=λc d=>by
 obtain⟨x,_,rfl⟩:=UU.1 d;exact b x
def WS{α:Type}{f:α->I D}{E:I α}{L:Nat}(h:E.length=L):(E.map f).length=L:=by rw[Zu,h]
def Ul(o:Oper):Bool:=
 match o.op with
 | .call c=>match c.callee with
   | .value _=>false
   |_=>true
 |_=>true
def Me:cB->Bool
 | .va _=>true
 |_=>false
def Uz(o:Oper)(a:cB):Bool:=U4 o||(Ul o&&((vx o||kZ o&& !(cW o==0))|| !Me a))
def EA(o:Oper)(a:cB):Bool:=Uz o a||(!Cw a&&(!Me a&& !kZ o))
def Ir(as:I (Nat×cB)):Nat->I Oper->Bool
 |_,[]=>true
 |j,o::l=>EA o (jL as (3*j+1))&&Ir as (j+1) l
section
variable {P:dg} {ops:Array Oper} {o:Oper} {j:Nat} {as:I (Nat×cB)} {s s1:St} {l:I (In×cB)} {K:St->Prop}
def aoc(b:Ul o=true)(h:tC P o K s):CB P o K s:=by
 unfold CB;unfold Ul at b;split
 ·next c d=>
  rw[d]at b;split;{next f e=>simp only[e]at b;cases b};{exact h}
 ·exact h
def anl(h:pe P false o j as s=some (s1,l))(B:AllOK P l)(F:K s1)(b:Uz o (jL as (3*j+1))=true):Af true P o K s:=by
 unfold pe at h;simp only[Bool.false_and,T6]at h;split at h
 ·next x h' i f=>
  have u:OK P i (jL as (3*j+1))->K ((s.wh h').put o.dst x)->Af true P o K s:=λv k=>by
   unfold Uz at b;rw[aq]at b;unfold Fa at f;split at f
   ·next J e=>
    simp only[Bool.false_and,T6]at f;split at f
    ·next N R p d=>
     cases f
     rcases b with b|b
     ·exfalso;rw[e]at v;unfold U4 at b;split at b
      ·next c H=>
       split at b
       ·next t z=>
        rw[H]at d;unfold jr at d;simp only[z]at d;cases d
       ·next t z=>
        rw[H]at d;unfold jr at d;simp only[z]at d;cases d
       ·cases b
      ·cases b
     ·rw[e]at v b;simp only[Me,W1,Bool.or_false,Zr]at b;cases v with|pr _ L=>exact .inr (.inr (.inl ⟨(by
        have q:=b.2;rw[aq,Zr,UA]at q;exact q.elim (λe=>.inr (by rw[e];rfl)) λe=>.inl ⟨e.1,by rw[e.2];rfl⟩),J,x,h',p,d,L,k⟩))
    ·cases f
   ·rcases b with b|b
    ·exact .inr (.inl ⟨by unfold oO;rw[b];rfl,x,h',k,λC M=>B6 f v M⟩)
    ·rw[Zr]at b;exact .inl (aoc b.1 (B6 (C:=λx h'=>K ((s.wh h').put o.dst x)) f v k))
  split at h
  ·next y W=>
   obtain⟨m,e,k,q⟩:=JV h B;cases e
   have:=k (.eq x,.eq y) Zq;cases this with|eq e=>subst e;exact u q F
  ·obtain⟨m,e,k,q⟩:=JV h B;cases e
   exact u q F
 ·cases h
def aqg{dr v:Bool}{b:Op}{ρ:Operand->AV}{h:I ar}{a:cB}(d:Me a=false):Fa P dr v b ρ h a=vM P b ρ h a:=by
 cases a<;>first|rfl|cases d
def Yh(h:pe P false o j as s=some (s1,l))(d:AllOK P l)(f:K s1)(b:EA o (jL as (3*j+1))=true):Af true P o K s:=by
 unfold EA at b;rw[aq]at b;rcases b with b|b
 ·exact anl h d f b
 ·rw[Zr,Zr,UA,UA,UA]at b;obtain⟨k,p,q⟩:=b;have h':pe P true o j as s=some (s1,l):=by
    unfold pe at h ⊢;rw[aqg p]at h ⊢;rw[k];exact h
  have:=Ud (dr:=true) h' d f;rcases this with h|⟨e,_⟩|⟨e,_⟩|h
  ·exact .inl h
  ·cases e
  ·exfalso;rcases e with e|e
   ·rw[q]at e;exact absurd e.1 (by simp)
   ·cases e
  ·exact .inr (.inr (.inr h))
def W9(h:pf P ops false o j as s=some (s1,l))(u:AllOK P l)(k:K s1)(H:EA o (jL as (3*j+1))=true):jY ops o s (Af true P o K s) (K (s.put o.dst (.d (.v undef)))):=by
 unfold pf at h;split at h;{next p=>unfold jY;rw[p];exact Yh h u k H}
 ·next g f p=>
  obtain⟨L,W,ty,M,after,guard⟩:=o;simp only at p;subst p;split at h
  ·next b N=>
   obtain⟨n,e,J,B⟩:=Cs h u;have q:=OK.LF (B (_,_) Zq);rw[LX,q];refine⟨λF=> ?_,λF=> ?_⟩;{subst F;simp only[BEq.rfl,Tq]at e;exact Yh e J k H}
   ·subst F;have:((!f)==f)=false:=by cases f<;>rfl
    rw[this]at e;simp only[T6]at e;cases e
    exact k
  ·next N=>
   obtain⟨n,e,J,B⟩:=Cs h u;cases e
   have q:=B (_,_) Zq;have R:wg ops g s.t= .d (.v undef):=by
    generalize wg ops g s.t=z at q;cases q;rfl
   rw[LX,R];exact k
  ·cases h
def Wn:∀(ol:I Oper)(j:Nat)(s:St)(l:I (In×cB)),qd P ops false ol j as s=some (s1,l)->AllOK P l->Ir as j ol=true->K s1->vE true P ops ol K s
 |[],_,s,l,h,_,_,d=>by cases h;exact d
 |o::rest,j,s,l,h,f,b,d=>by
  unfold Ir at b;rw[Zr]at b;unfold qd at h;split at h
  ·next k m p=>
   obtain⟨n,e,q,u⟩:=Cs h f;exact W9 (K:=vE true P ops rest K) p u (Wn rest (j+1) k n e q b.2 d) b.1
  ·cases h
def YX:∀(ol b:I Oper),uq (b++ol).toArray ((List.range ol.length).map (b.length+·))=ol
 |[],_=>rfl
 |o::l,b=>by
  rw[Zl,List.range_succ_eq_map,ZS,List.map_map];unfold uq;have e:(b++o::l).toArray[b.length+0]?=some o:=by simp
  rw[e];simp only;have d:=YX l (b++[o]);rw[ZR]at d;simp only[List.singleton_append,Zk,Zl,Zf,ZQ]at d
  congr 1
  rw[show(b.length+·)∘Nat.succ=(b.length+1+·)from by funext i;simp only[Function.comp];omega];exact d
def W8(ol:I Oper):uq ol.toArray (List.range ol.length)=ol:=by
 have:=YX ol []
 simpa using this
end
section
variable {P:dg} {r:U Nat} {N0 id n:Nat} {ol:I Oper} {y:Code} {t:I (Nat×AV)} {h:I ar} {Q Q':Exit->St->Prop}
def rle(b:P.follows .mixedOrders=true)(d:HS true ol.toArray (List.range ol.length)=true)(aC:I (Nat×Ob P))(Δ:I (Nat×AV))(h':I ar)(e:Ir (jZ aC) 0 ol=true/\yl P false ol (jZ aC) ⟨n,t,h⟩=some (Δ++t,h',kC aC))(k:Q .normal ⟨n,Δ++t,h'⟩):bR P r N0 (.region id ol.toArray true) Q ⟨n,t,h⟩:=by
 obtain⟨f,e⟩:=e;refine Zj (m:=true) (List.range ol.length) b (by simp) d ?_;rw[W8];exact Wn ol 0 _ _ (Rj e) (rM aC) f k
end
section
variable {P:dg} {r:U Nat} {N0:Nat} {Q:Exit->St->Prop} {c:Code} {o:Oper} {K:St->Prop}
def Ox{n d:Nat}{t:I (Nat×AV)}{h h':I ar}{x:AV}(f:Di P o.op (ev ⟨n,t,h⟩) h=some (x,h'))(k:o.dst=some d)(e:Nat.ble n d=false)(p:K ⟨n,(d,x)::t,h'⟩):qw P o K ⟨n,t,h⟩:=by
 refine .inr (.inr (.inr (.inr (.inl ⟨x,h',f,?_⟩))));have q:d<n:=Nat.lt_of_not_le λb=>by rw[WX b]at e;cases e
 rw[k,sY (s:=St.wh ⟨n,t,h⟩ h') q];exact p
def arK{n d:Nat}{t:I (Nat×AV)}{h h':I ar}{x:AV}{p:Prop}(a:VA)(f:jr P o.op (ev ⟨n,t,h⟩) h a=some (x,h',p))(k:p)(q:o.dst=some d)(e:Nat.ble n d=false)(u:K ⟨n,(d,x)::t,h'⟩):qw P o K ⟨n,t,h⟩:=by
 refine .inl ⟨a,x,h',p,f,k,?_⟩;have v:d<n:=Nat.lt_of_not_le λb=>by rw[WX b]at e;cases e
 rw[q,sY (s:=St.wh ⟨n,t,h⟩ h') v];exact u
def apN{ρ:Operand->AV}{h:I ar}{q:Call}{x y:Operand}{T b:TypeId}{e k m dy:Nat}{kq kn:IntKind}{z:kd}(f:q.callee= .builtin .append)(h1:q.args.toList=[x,y])(p:q.argTypes.toList=[T,b])(B:(ρ x).isNil=true)(F:fQ P T=some (e,k))(H:sq P b=some kn)(J:ρ y= .d (.v (.int kq (Int.ofNat m))))(L:jB P e=some z)(M:te P e=some dy)(N:1<=m)(R:1<=k)(W:z.cells.toList.length=k)(g4:m<=maxLen)(g5:m*dy<=140737488355328):
 Di P (.call q) ρ h=some (.vec h.length 0 m m k,h++[.vec e k (List.replicate m (z.cells.toList.map λu=>.d (.v u)))]):=by
 unfold Di;simp only[f,h1,p,F,H,J,L,M,B,dS.2 N,dS.2 R,dS.2 g4,dS.2 g5,W,Z7,Bool.and_self,Tq]
def amr{n t e k L:Nat}{ts:I (Nat×AV)}{cs:I (I AV)}(cJ:N0=0)(ht:bP ts t= .vec 0 0 0 L k)(W:cs.length=L)(h:bR P r N0 c Q ⟨n,[(t,.own 0 [])],[.front e k 0]⟩):bR P r N0 c Q ⟨n,ts,[.vec e k cs]⟩:=by
 subst cJ;constructor
 intro G w a m F hN;have f:=F.inv;have nO:([ar.vec e k cs]:I ar)[0]?=some (.vec e k cs):=rfl;have hGN:G.N=1:=f.len.symm;have hv:=F.tmp t;rw[ht]at hv;obtain⟨Dh,⟨A,q,q1,q2,q3,q4,q5⟩,XG⟩:=hv.xe f nO W;obtain⟨b1,b2,b3,b4⟩:=f.dM 0 _ nO;have XX:∀(A:U Addr),q<=maxLen->ee G.S w (.slice A 0 q) (.sl []):=λA hc=>.sl A 0 0 q 0 [] (λ_ _=>undef) (λh=>absurd rfl h) (Wv _) hc (λ_ h=>absurd h Yx) (λi j f=>absurd f (ZG _)) (λi j x d hx=>by simp at hx);obtain⟨p,b⟩:∃p,p={G with sg:=λi=>if i=0 then a.tmps.getD t undef else G.sg i,fl:=λi=>if i=0 then 0 else G.fl i}:=⟨_,rfl⟩;have hE:cq 0 G w p w:=by
  subst b;exact⟨Zv _,λ_ _ h=>h,λ_ _ _=>rfl,λ_ h=>absurd h (ZG _),λ_ h=>absurd h (ZG _),iX rfl,λ_ _=>rfl,rfl,rfl,rfl,λ_ _ h=>.inl h⟩
 have u:cu p w [.front e k 0]:=by
  refine⟨by rw[b];exact f.len,by rw[b];exact f.z,by rw[b];exact f.S,λj B H=> ?_,λi j x h1 h2=> ?_,by rw[b];exact f.gl⟩
  ·match j with
   |0=>
    cases H
    refine⟨by rw[b];simp,Wv _,?_⟩;rcases b4 with⟨J,M,A',R⟩|⟨g,cap,v,J,M,R,d4,d5,d6,d7,d8,d9⟩
    ·left
     refine⟨by rw[b];exact J,?_⟩;have Aw:L=0:=by rw[<-W,M];rfl
     have:=XG rfl Aw.symm;rw[b];exact⟨A',by simp only[if_true];rw[this];exact R⟩
    ·by_cases Aw:L=0
     ·have:=XG rfl Aw.symm
      right
      refine⟨g,cap,v,by rw[b];exact J,?_,by rw[b];exact R,d4,Wv _,d6,d7,λo _=>by rw[b];exact d8 o⟩;rw[b];simp only[if_true];rw[this,M,W,Aw]
     ·obtain⟨g',Fz,s1,rfl,s3⟩:=q5 (Nat.pos_of_ne_zero Aw);rw[M]at s1;cases s1
      right
      have:q=cap:=by omega
      subst this;refine⟨g,q,v,by rw[b];exact J,?_,by rw[b];exact R,d4,Wv _,d6,d7,λo _=>by rw[b];exact d8 o⟩;rw[b];simp only[if_true];rw[q1,Nat.zero_mul]
   |j+1=>simp at H
  ·have hj:∀i x,cr [ar.front e k 0] p i=some x->i=0:=λi x h=>by
    obtain⟨B,H,_⟩:=n9 h
    match i with
    |0=>rfl
    |i+1=>simp at H
   rw[hj i x h1,hj j x h2]
 refine wpIn_mono (h.run p w a m ⟨F.size,λi=> ?_,u,?_⟩ (Wv _)) λ_ _ _ hn=>hn.trans hE
 ·show aQ p w _ (bP [(t,.own 0 [])] i);rw[mE];split
  ·next e=>
   subst e;refine .own 0 [] (by rw[b];show 0<G.N;omega) ?_ (Wv _) (λ_=>by rw[b];simp);rw[q1,b];exact XX A q3
  ·exact .dead _
 ·have:=F.df;rw[b];exact this
end
end Go.Proofs.YtnnapanbbbcalaaGreatDoor
namespace Go.Proofs.YtnnapanbbbcalaaGreatDoor.MK
open Go.RowKit
set_option linter.unusedVariables false
def ar(w:Zy)(g:Nat)(t:TypeId)(cs:I kd):Prop:=w.heap[g]?=some (.cells cs.toArray t (0,0))
section
variable {w w':Zy} {g:Nat} {t:TypeId} {cs:I kd}
end
section
variable {P:dg} (w:Zy)
end
section
variable {P:dg} {w:Zy}
end
section
variable {S E base:Nat} {w w' w'':Zy}
end
end Go.Proofs.YtnnapanbbbcalaaGreatDoor.MK
namespace Go.Proofs.YtnnapanbbbcalaaGreatDoor
open Go.RowKit
set_option linter.unusedSimpArgs false
set_option linter.unusedVariables false
section
variable {P:dg}
end
end Go.Proofs.YtnnapanbbbcalaaGreatDoor
