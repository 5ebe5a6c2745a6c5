/-
  Part 3 of the proof: AbsRun, AbsFrz, AbsInst, AbsExec, AbsExecV, AbsRange, AbsAny, AbsExec2, AbsExec3, AbsYield, AbsTree, AbsVecX, MemK, AbsVecD.
-/
import Derived.Test.YtnnapanbbbcalaaGreatDoorPr2
import Derived.WalkKit
import Derived.Laws.CopyOwn
import Derived.Deep.AppendLies
import Derived.Lib.AppendZerosOnto
import Derived.Lib.Overlaps
import Derived.Lib.Hide
namespace Go.Proofs.YtnnapanbbbcalaaGreatDoor
open Go.RowKit
def ao.vd:ao->Prop
 | .vec _ _ cs=>(∀f,cs.map (AV.gh f)=cs)/\∀m,cs.all (·.all (AV.aC m))=true
 |_=>True
theorem adw(f:Nat->Nat)(c:ak4 D):AV.gh f (c.map AV.d)=c.map AV.d:=by
 induction c with
 |nil=>simp [AV.gh]
 |cons x c ih=>simp only[akF,AV.gh,AV.aH,ih]
theorem ah6(xs:ak4 (ak4 D)):(∀f,(ck xs).map (AV.gh f)=ck xs)/\∀m,(ck xs).all (·.all (AV.aC m))=true:=by
 refine⟨λf=> ?_,λm=>by simp [ck,AV.aC]⟩;unfold ck;rw[List.map_map];exact akL λc _=>adw f c
def VD:ak4 ao->Prop
 |[]=>True
 |B::l=>B.vd/\VD l
theorem dm:VD []:=trivial
theorem tV{e k:Nat}{xs:ak4 (ak4 D)}{l:ak4 ao}(h:VD l):VD (.vec e k (ck xs)::l):=⟨ah6 xs,h⟩
theorem VD.mem:∀{l:ak4 ao},VD l->∀B∈l,B.vd
 |[],_,B,hB=>by cases hB
 |_::_,h,B,hB=>by
  rcases akK.1 hB with rfl|hB
  ·exact h.1
  ·exact VD.mem h.2 B hB
def ao.pI(f:Nat->Nat):ao->ao
 | .vec e k cs=> .vec e k cs
 |B=>B.aH f
theorem Ww{f:Nat->Nat}{B:ao}(h:B.vd):B.pI f=B.aH f:=by
 cases B with
 |vec e k cs=>simp only[ao.pI,ao.aH];rw[h.1 f]
 |_=>rfl
theorem agL{f:Nat->Nat}{l:ak4 ao}(h:VD l):l.map (ao.pI f)=l.map (ao.aH f):=akL λB hB=>Ww (h.mem B hB)
def ao.sK(m:Nat):ao->Bool
 | .vec .. =>true
 |B=>B.aC m
theorem abA{m:Nat}{B:ao}(h:B.vd)(hl:B.sK m=true):B.aC m=true:=by
 cases B with
 |vec e k cs=>exact h.2 m
 |_=>exact hl
theorem agx{m:Nat}{l:ak4 ao}(h:VD l)(hl:l.all (ao.sK m)=true):l.all (ao.aC m)=true:=by
 rw[akG]at hl ⊢;exact λB hB=>abA (h.mem B hB) (hl B hB)
theorem adl{f:Nat->Nat}{l:ak4 ao}(h:VD l):(l.map λB=>some (B.pI f))=l.map λB=>some (B.aH f):=akL λB hB=>congrArg some (Ww (h.mem B hB))
inductive In
 |none
 |bit (x:AV)
 |eq (x:AV)
 |el (xs:List (List D)) (i:Int)
 |lt (z:Int) (n:Nat)
 |len (xs:List (List D))
 |sub (xs:List (List D)) (lo:Int) (hi:Option Int) (k:Nat)
 |app (xs ys:List (List D)) (len k de:Nat)
 |nz (b:Int)
 |nn (b:Int)
 |str (b:ByteArray) (lo hi:Int)
 |cat (n:Nat)
 |pr (p:Prop)
 |sd (p:Sd)
 |byt (xs:List (List D))
 |I4 (c:List D) (z:Int) (n:Nat)
 |ch (b:ByteArray) (i:Int)
 |call (f:FuncId) (args:List AV)
 |ji (f:FuncId) (args:List AV) (h:List ao)
 |DA (c:fp) (args:List AV)
 |mK (f:FuncId) (args:List AV) (h:List ao)
def OM(P:ak7)(c:fp)(args:ak4 AV)(r:AV):Prop:=∃g as,c.app args=some (g,as)/\fX P g as (·=r)
inductive cb
 |none
 |bit (b:Bool)
 |Db
 |eq (y:AV)
 |el (c:List D)
 |ok
 |nat (n:Nat)
 |list (ys:List (List D))
 |Px (ys:List (List D)) (n:Nat)
 |byte (c:UInt8)
 |bytes (s:ByteArray)
 |one (d:D)
 |va (a:VA)
 |ret (r:AV)
 |Mp (r:AV) (h:List ao)
 |L8 (l:List Nat) (eX:List AV) (H:List ao) (r:AV) (H':List ao)
 |rq (l:List Nat) (eX:List AV) (H:List ao) (r:AV)
 |A6 (l:List Nat) (eX:List AV) (H:List ao) (r:AV) (H':List ao)
inductive OK(P:Program):In->cb->Prop
 |none {o:cb}:OK P .none o
 |bit {e b:Bool} (h:e=b):OK P (.bit (.d (.v (.bool e)))) (.bit b)
 |Db:OK P (.bit (.d (.v undef))) .Db
 |eq {x y:AV} (h:x=y):OK P (.eq x) (.eq y)
 |el {xs:List (List D)} {i:Int} {c:List D} (h0:0<=i) (h:xs[i.toNat]?=some c):OK P (.el xs i) (.el c)
 |lt {z:Int} {n:Nat} (h0:0<=z) (h:z<n):OK P (.lt z n) .ok
 |len {xs:List (List D)} {n:Nat} (h:xs.length=n):OK P (.len xs) (.nat n)
 |sub {xs ys:List (List D)} {lo hi:Int} {k:Nat} (h0:0<=lo) (J:lo.toNat<=hi.toNat) (h2:0<=hi) (h3:hi.toNat<=xs.length) (hk:∀c∈xs,c.length=k) (h:(xs.take hi.toNat).drop lo.toNat=ys):OK P (.sub xs lo (some hi) k) (.list ys)
 |RS {xs ys:List (List D)} {lo:Int} {k:Nat} (h0:0<=lo) (J:lo.toNat<=xs.length) (hk:∀c∈xs,c.length=k) (h:xs.drop lo.toNat=ys):OK P (.sub xs lo .none k) (.list ys)
 |app {xs ys zs:List (List D)} {len k de n:Nat} (hl:len=xs.length) (hx:∀c∈xs,c.length=k) (hy:∀c∈ys,c.length=k) (hm:xs.length+ys.length<=maxLen) (hb:(xs.length+ys.length)*de<=140737488355328) (hz:xs++ys=zs) (hn:xs.length+ys.length=n):OK P (.app xs ys len k de) (.Px zs n)
 |nz {b:Int} (h:b≠0):OK P (.nz b) .ok
 |nn {b:Int} (h:0<=b):OK P (.nn b) .ok
 |str {b:ByteArray} {lo hi:Int} (h0:0<=lo) (J:lo.toNat<=hi.toNat) (h2:0<=hi) (h3:hi.toNat<=b.size):OK P (.str b lo hi) .ok
 |ch {b:ByteArray} {i:Int} {c:UInt8} (h0:0<=i) (h:b[i.toNat]?=some c):OK P (.ch b i) (.byte c)
 |cat {n:Nat} (h:n<=maxLen):OK P (.cat n) .ok
 |pr {p:Prop} (a:VA) (h:p):OK P (.pr p) (.va a)
 |sd {p:Sd} {o:cb} (h:p.ok):OK P (.sd p) o
 |byt {xs:List (List D)} {s:ByteArray} (h:∃ns:List Int,xs=ns.map (λn=>[.v (.int .u8 n)])/\s=⟨(ns.map λn=>UInt8.ofNat n.toNat).toArray⟩):OK P (.byt xs) (.bytes s)
 |I4 {c:List D} {z:Int} {n:Nat} {d:D} (h0:0<=z) (J:z<n) (h:c[z.toNat]?=some d):OK P (.I4 c z n) (.one d)
 |call {f:FuncId} {args:List AV} {r:AV} (h:fX P f args (·=r)):OK P (.call f args) (.ret r)
 |DA {c:fp} {args:List AV} {r:AV} (h:OM P c args r):OK P (.DA c args) (.ret r)
 |mK {f:FuncId} {lN eX:List AV} {h H H':List ao} {l:List Nat} {r:AV} (ha:lN=eX.map (AV.aH (rn l h.length))) (hd:om l=true) (hb:l.map (λj=>h[j]?)=H.map λB=>some (B.aH (rn l h.length))) (hl:(eX.all (AV.aC H.length)&&H.all (ao.aC H.length))=true)
  (hc:cZ P f eX H λr1 J=>r1=r/\J=H'):OK P (.mK f lN h) (.L8 l eX H r H')
 |Nh {f:FuncId} {lN eX:List AV} {h H H':List ao} {l:List Nat} {r:AV} (tw:VD H) (hv:VD H') (ha:lN=eX.map (AV.aH (rn l h.length))) (hd:om l=true) (hb:l.map (λj=>h[j]?)=H.map λB=>some (B.pI (rn l h.length))) (hl:(eX.all (AV.aC H.length)&&H.all (ao.sK H.length))=true)
  (hc:cZ P f eX H λr1 J=>r1=r/\J=H'):OK P (.mK f lN h) (.A6 l eX H r H')
 |rq {f:FuncId} {lN eX:List AV} {h H:List ao} {l:List Nat} {r:AV} (ha:lN=eX.map (AV.aH (rn l 0))) (hd:om l=true) (hb:l.map (λj=>h[j]?)=H.map λB=>some (B.aH (rn l 0))) (hl:(eX.all (AV.aC H.length)&&H.all (ao.aC H.length)&&r.aC H.length)=true)
    (hc:cZ P f eX H λr1 J=>r1=r/\J=H):OK P (.mK f lN h) (.rq l eX H r)
 |ji {f:FuncId} {args:List AV} {h h':List ao} {r:AV} (hc:cZ P f args h λr1 J=>r1=r/\J=h'):OK P (.ji f args h) (.Mp r h')
def xx(P:ak7)(t:TypeId)(cs:ak4 AV)(off:Nat):ak6 AV:=
 match lK P t,gj P t with
 |some true,some k=>bif ct (off+k) cs.length then some (.agg ((cs.drop off).take k))else none
 |some false,some _=>cs[off]?
 |_,_=>none
def vH(h:ak4 ao)(p:AV):ak6 (ak4 AV×Nat):=
 match p with
 | .ptr n off=>match h[n]? with
   |some (.cells cs)=>some (cs,off)
   |_=>none
 | .bn xs i off=>match xs[i]? with
   |some c=>some (c.map .d,off)
   |none=>none
 |_=>none
def Oo(x:AV)(i:ak6 Int)(k:Nat)(a:cb):ak6 (AV×In):=
 match x.fF,i,a with
 |some xs,some z, .el c=>bif c.length==k then some (.bn [c] 0 0, .el xs z)else none
 |_,_,_=>none
def NN(P:ak7)(T:TypeId)(x i:AV)(a:cb):ak6 (AV×In):=
 match eS P T with
 |some (_,k)=>
  match x with
  | .row n off len _ k'=>match i.int? with
    |some z=>bif k'==k then some (.ptr n (off+z.toNat*k), .lt z len)else none
    |none=>none
  |x=>Oo x i.int? k a
 |none=>match sE P T,x,i.int? with
  |some (n,_,k), .ptr b off,some z=>some (.ptr b (off+z.toNat*k), .lt z n)
  |some (n,_,k), .bn [c] 0 0,some z=>match a with
   | .one d=>bif k==1 then some (.bn [[d]] 0 0, .I4 c z n)else none
   |_=>none
  |_,_,_=>none
def Jz(P:ak7)(T:TypeId)(x:AV)(a:cb):ak6 (AV×In):=
 match x with
 | .d (.v (.string s))=>bif gZ P T then some (.d (.v (.int .i64 s.size)), .none)else none
 | .row _ _ len _ _=>bif (eS P T).isSome then some (.d (.v (.int .i64 len)), .none)else none
 |x=>match x.fF,a with
  |some xs, .nat n=>bif (eS P T).isSome then some (.d (.v (.int .i64 n)), .len xs)else none
  |_,_=>none
def oN(l:ak6 Int)(d:Nat):Nat:=match l with|some z=>z.toNat|none=>d
def Du(ρ:Operand->AV):ak6 Operand->ak6 (ak6 Int)
 |none=>some none
 |some y=>match (ρ y).int? with
  |some z=>some (some z)
  |none=>none
def LW(P:ak7)(T:TypeId)(ρ:Operand->AV)(x:AV)(lo hi mx:ak6 Operand)(a:cb):ak6 (AV×In):=
 match mx with
 |none=>match Du ρ lo,Du ρ hi with
  |some l,some h=>match x with
   | .d (.v (.string b))=>bif gZ P T then some (.d (.v (.string (b.extract (oN l 0) (oN h b.size)))), .str b (l.getD 0) (h.getD b.size))else none
   | .ptr n off=>match sE P T,l,h with
     |some (m,_,k),none,none=>bif ct m 4096&& !ct m 0 then some (.row n off m m k, .none)else none
     |_,_,_=>none
   |x=>match x.fF,eS P T,a with
    |some xs,some (_,k), .list ys=>some (.d (.sl ys), .sub xs (l.getD 0) h k)
    |_,_,_=>none
  |_,_=>none
 |some m=>match lo,hi,ρ m with
  |none,some y, .d (.v (.int _ 0))=>match x.fF,eS P T,ρ y,a with
   |some xs,some (_,k), .d (.v (.int _ 0)), .list _=>some (.full [], .sub xs 0 (some 0) k)
   |_,_,_,_=>none
  |_,_,_=>none
def H8(h:ak4 ao)(k:Nat)(x:AV):ak6 (ak4 (ak4 D)):=
 match x with
 | .row n off len _ k'=>match h[n]? with
   |some (.cells cs)=>match mr ((cs.drop off).take (len*k))with
    |some ds=>bif k'==k&&ct (off+len*k) cs.length&&((cs.drop off).take (len*k)).all AV.jR then some (nf k len ds)else none
    |none=>none
   |_=>none
 |x=>x.fF
def Nc(P:ak7)(T:TypeId)(h:ak4 ao)(x y:AV)(a:cb):ak6 (AV×ak4 ao×In):=
 match eS P T,a with
 |some (e,k), .Px zs n'=>match iw P e,px P e with
  |some z,some de=>bif ct 1 k&&z.cells.toList.length==k then
   match H8 h k y with
   |some ys=>match x with
    | .own n xs=>match h[n]? with
      |some (.front e' k' len)=>bif e'==e&&k'==k then some (.own n zs,h.set n (.front e k n'), .app xs ys len k de)else none
      |_=>none
    | .d (.v (.slice none 0 0))=>some (.own h.length zs,h++[.front e k n'], .app [] ys 0 k de)
    | .full xs=>some (.own h.length zs,h++[.front e k n'], .app xs ys xs.length k de)
    |_=>none
   |none=>none
   else none
  |_,_=>none
 |_,_=>none
def NI(P:ak7)(T:TypeId)(ps:ak4 (Nat×AV)):ak6 AV:=
 match KK P T,iw P T with
 |some places,some z=>match o6 places (z.cells.toList.map λu=> .d (.v u)) ps with
  |some cs=>bif (ps.all λp=>p.2.jl)&&z.cells.toList.all Value.oneCell' then some (.agg cs)else none
  |none=>none
 |_,_=>none
def KL(P:ak7)(T:TypeId)(len:Nat)(ps:ak4 (Nat×AV)):ak6 AV:=
 match eS P T with
 |some (e,k)=>match iw P e with
  |some z=>match o6 (rT k 0 len) (qY len (z.cells.toList.map λu=> .d (.v u))) ps with
   |some cs=>match mr cs with
    |some ds=>bif ct 1 k&&ct (len*k) 16777216&&z.cells.toList.length==k&&z.cells.toList.all Value.oneCell'&&(ps.all λp=>p.2.jl)then some (.full (nf k len ds))else none
    |none=>none
   |none=>none
  |none=>none
 |none=>none
def FK(P:ak7)(T:TypeId)(op:BinOp)(x y:AV):ak6 (AV×In):=
 match x,y with
 | .d (.v (.int k a)), .d (.v (.int k' b))=>
   match Oa op k a b with
   |some v=>bif wj k k' then some (.d (.v v), .nz b)else none
   |none=>match MP op k a b with
    |some v=>some (.d (.v v), .nn b)
    |none=>match Oz op k a b with
     |some v=>bif wj k k' then some (.d (.v v), .none)else none
     |none=>none
 | .d (.v (.string a)), .d (.v (.string b))=>match L4 op a b with
   |some v=>some (.d (.v v), .none)
   |none=>match op with
    | .add=>some (.d (.v (.string (a++b))), .cat (a.size+b.size))
    |_=>none
 | .d (.v (.bool a)), .d (.v (.bool b))=>match Kw op a b with
   |some v=>bif zg P T then some (.d (.v v), .none)else none
   |none=>none
 | .agg xs, .agg ys=>match Ip P T xs ys with
   |some b=>match wi op b with
    |some v=>some (.d (.v v), .none)
    |none=>none
   |none=>none
 |_,_=>none
def Ge(P:ak7)(src dst:TypeId)(x:AV)(a:cb):ak6 (AV×In):=
 match x with
 | .d (.v (.int _ n))=>match pn P src,pn P dst with
   |some _,some k=>some (.d (.v (.int k (k.wrap n))), .none)
   |_,_=>none
 | .d (.v (.string b))=>bif gZ P src&&gZ P dst then some (.d (.v (.string b)), .none)else none
 |x=>match x.fF,eS P src,a with
  |some xs,some (e,_), .bytes s=>bif BP P e&&gZ P dst then some (.d (.v (.string s)), .byt xs)else none
  |_,_,_=>none
def Ih(P:ak7)(T:TypeId)(x:AV)(f:Nat):ak6 AV:=
 match qU P T f,x with
 |some (off,k,true), .agg cs=>bif ct (off+k) cs.length then some (.agg ((cs.drop off).take k))else none
 |some (off,_,false), .agg cs=>cs[off]?
 |_,_=>none
def Ec(h:ak4 ao):ak6 AV->ak6 (AV×ak4 ao×In)
 |some x=>some (x,h, .none)
 |none=>none
def zQ(h:ak4 ao):ak6 (AV×In)->ak6 (AV×ak4 ao×In)
 |some (x,i)=>some (x,h,i)
 |none=>none
mutual
def AV.nrm:AV->AV
 | .full xs=> .d (.sl xs)
 | .d (.v (.slice none 0 0))=> .d (.sl [])
 | .agg cs=> .agg (AV.vt cs)
 | .aW cs=> .aW (AV.vt cs)
 |x=>x
def AV.vt:ak4 AV->ak4 AV
 |[]=>[]
 |x::l=>x.nrm::AV.vt l
end
def AV.A8:AV->AV
 | .fn f cs=>match AV.vG cs with
   |some l=> .hid (.fn f l)
   |none=> .fn f cs
 |x=>x
def AV.arg(x:AV):AV:=((x.bz 0).nrm).A8
def AV.uV(x:AV):AV:=(x.bz 0).nrm
def sdI:Sd->In
 | .no=> .none
 |p=> .sd p
def xR:ak6 (AV×ak4 ao×Sd)->ak6 (AV×ak4 ao×In)
 |some (x,h,p)=>some (x,h,sdI p)
 |none=>none
def tH(P:ak7)(op:Op)(ρ:Operand->AV)(h:ak4 ao)(a:cb):ak6 (AV×ak4 ao×In):=
 match op with
 | .move x| .assign x=>some (ρ x,h, .none)
 | .pick c x y=>match a with
   | .bit b=>some (bif b then ρ x else ρ y,h, .bit (ρ c))
   |_=>none
 | .alloc e=>match iw P e with
   |some z=>some (.ptr h.length 0,h++[ao.cells (z.cells.toList.map λu=> .d (.v u))], .none)
   |none=>none
 | .box _ x=>bif (ρ x).jl then some (.ptr h.length 0,h++[ao.cells (ρ x).cells], .none)else none
 | .load t p=>match vH h (ρ p)with
   |some (cs,off)=>match xx P t cs off with
    |some x=>some (x,h, .none)
    |none=>none
   |none=>none
 | .store t p x=>match ρ p with
   | .ptr n off=>match h[n]? with
     |some (.cells cs)=>match gj P t with
      |some k=>bif k==(ρ x).cells.length&&(ρ x).jl&&ct (off+(ρ x).cells.length) cs.length then some (.d (.v undef),h.set n (.cells (iz cs off (ρ x).cells)), .none)else none
      |none=>none
     |_=>none
   |_=>none
 | .nilCheck x=>match ρ x with
   | .ptr n off=>some (.ptr n off,h, .none)
   | .bn xs i off=>some (.bn xs i off,h, .none)
   | .fn f cs=>some (.fn f cs,h, .none)
   |_=>none
 | .fieldAddr S x f=>match qU P S f with
   |some (fo,_,_)=>match ρ x with
    | .ptr n off=>some (.ptr n (off+fo),h, .none)
    | .bn xs i off=>some (.bn xs i (off+fo),h, .none)
    |_=>none
   |none=>none
 | .field T x f=>Ec h (Ih P T (ρ x) f)
 | .indexAddr T x i=>zQ h (NN P T (ρ x) (ρ i) a)
 | .index T x i=>match ρ x,(ρ i).int?,a with
   | .d (.v (.string b)),some z, .byte c=>bif gZ P T then some (.d (.v (.int .u8 c.toNat)),h, .ch b z)else none
   |_,_,_=>none
 | .build T ps=>Ec h (NI P T (ps.toList.map λp=>(p.1,ρ p.2)))
 | .buildSlice T len ps=>Ec h (KL P T len (ps.toList.map λp=>(p.1,ρ p.2)))
 | .slice T x lo hi mx=>zQ h (LW P T ρ (ρ x) lo hi mx a)
 | .extract x i=>match ρ x with
   | .aW cs=>match cs[i]? with
     |some c=>some (c,h, .none)
     |none=>none
   |_=>none
 | .makeFunc (.func f) first di=>match LR f (first.toList.map ρ) (di.toList.map ρ)with
   |some x=>some (x,h, .none)
   |none=>none
 | .binOp op T x y _=>zQ h (FK P T op (ρ x) (ρ y))
 | .unOp op _ x=>match ρ x with
   | .d (.v u)=>match II op u with
     |some v=>some (.d (.v v),h, .none)
     |none=>none
   |_=>none
 | .convert s t x=>zQ h (Ge P s t (ρ x) a)
 | .call c=>match c.callee with
   | .builtin .len=>match c.args.toList,c.argTypes.toList with
     |[x],[T]=>zQ h (Jz P T (ρ x) a)
     |_,_=>none
   | .builtin .append=>match c.args.toList,c.argTypes.toList with
     |[x,y],[T,U]=>bif (eS P U).isSome then Nc P T h (ρ x) (ρ y) a else none
     |_,_=>none
   | .builtin .max=>match Ab true (c.args.toList.map ρ)with
     |some (k,a)=>some (.d (.v (.int k a)),h, .none)
     |none=>none
   | .builtin .min=>match Ab false (c.args.toList.map ρ)with
     |some (k,a)=>some (.d (.v (.int k a)),h, .none)
     |none=>none
   | .value f=>match ρ f,a with
     | .fn g di, .ret r=>bif ((c.args.toList.map ρ++di).map AV.arg).all (AV.aC 0)&&r.aC 0 then some (r,h, .call g ((c.args.toList.map ρ++di).map AV.arg))else none
     | .fn g di, .Mp r h'=>some (r,h', .ji g (c.args.toList.map ρ++di) h)
     | .fn g di, .L8 l _ _ r H'=>some (r.aH (rn l h.length),gU l (H'.map (ao.aH (rn l h.length))) h, .mK g ((c.args.toList.map ρ++di).map AV.uV) h)
     | .fn g di, .A6 l _ _ r H'=>some (r.aH (rn l h.length),gU l (H'.map (ao.pI (rn l h.length))) h, .mK g ((c.args.toList.map ρ++di).map AV.uV) h)
     | .fn g di, .rq l _ _ r=>some (r.aH (rn l 0),h, .mK g ((c.args.toList.map ρ++di).map AV.uV) h)
     | .hid q, .ret r=>bif ((c.args.toList.map ρ).map AV.arg).all (AV.aC 0)&&r.aC 0 then some (r,h, .DA q ((c.args.toList.map ρ).map AV.arg))else none
     |_,_=>none
   |_=>none
 |op=>xR (oc P op ρ h)
theorem Eg:∀l,AV.vt l=l.map AV.nrm
 |[]=>by simp [AV.vt]
 |x::l=>by simp [AV.vt,Eg l]
theorem aD.nrm{G:Gh}{w:ak9}{u:ak8}{x:AV}(h:aD G w u x):aD G w u x.nrm:=by
 have fG:∀(vs:Array ak8)(cs:ak4 AV),(∀(i:Nat)(u:ak8)(c:AV),vs[i]?=some u->cs[i]?=some c->aD G w u c.nrm)->∀(i:Nat)(u:ak8)(c:AV),vs[i]?=some u->(AV.vt cs)[i]?=some c->aD G w u c:=by
  intro vs cs ih i u c hu hc;rw[Eg,akn]at hc;cases hx:cs[i]? with
  |none=>rw[hx]at hc;cases hc
  |some x=>rw[hx]at hc;cases hc;exact ih i u x hu hx
 induction h with
 |agg vs cs hl _ ih=>rw[AV.nrm];exact .agg vs _ (by rw[Eg,akl];exact hl) (fG vs cs ih)
 |aW vs cs hl _ ih=>rw[AV.nrm];exact .aW vs _ (by rw[Eg,akl];exact hl) (fG vs cs ih)
 |full xs hp hf=>rw[AV.nrm];exact .d hp
 | @d u x h=>
   by_cases hx:x= .v (.slice none 0 0)
   ·subst hx;cases h with|v=>simp only[AV.nrm];exact .d DS
   ·have:(AV.d x).nrm= .d x:=by
     unfold AV.nrm;split<;>simp_all
    rw[this];exact .d h
 |own n xs h hp hle hf=>simp only[AV.nrm];exact .own n xs h hp hle hf
 |ptr n off h=>simp only[AV.nrm];exact .ptr n off h
 |bn xs i off b o u x hx hS hu=>simp only[AV.nrm];exact .bn xs i off b o u x hx hS hu
 |row n off len cap k h hl hm=>simp only[AV.nrm];exact .row n off len cap k h hl hm
 |fn f vs cs hl h=>simp only[AV.nrm];exact .fn f vs cs hl h
 |mp n h=>simp only[AV.nrm];exact .mp n h
 |cp n h=>simp only[AV.nrm];exact .cp n h
 |vec n o len L k h hs hL hf=>simp only[AV.nrm];exact .vec n o len L k h hs hL hf
 |dF n i j L k h hs hL hf=>simp only[AV.nrm];exact .dF n i j L k h hs hL hf
 |hid h J=>simp only[AV.nrm];exact .hid h J
 |dead u=>simp only[AV.nrm];exact .dead u
theorem AV.Le.A8(x:AV):AV.Le x x.A8:=λG w u h=>by
 unfold AV.A8;split
 ·next f cs=>
  split
  ·next l e=>
   have:=h.cap (.fn f l) (by simp only[AV.cap,e]);cases h with|fn=>exact .hid this rfl
  ·exact h
 ·exact h
theorem AV.Le.arg(x:AV):AV.Le x x.arg:=λ_ _ _ h=>AV.Le.A8 _ _ _ _ (h.bz 0).nrm
theorem cZ.args{P:ak7}{f:FuncId}{as:ak4 AV}{h:ak4 ao}{K:AV->ak4 ao->Prop}(hc:cZ P f as h K)(bs:ak4 AV)(hl:as.length=bs.length)(hle:∀(i:Nat)(c d:AV),bs[i]?=some c->as[i]?=some d->AV.Le c d):cZ P f bs h K:=
 ⟨hc.1,λG w vs hi hs hr=>hc.2 G w vs hi (hs.trans hl.symm) λi u d hu hd=>by
  have aL:i<bs.length:=by rw[<-hl];exact(akg.1 hd).1
  exact hle i _ d (akk aL) hd G w u (hr i u _ hu (akk aL))⟩
theorem cZ.TQ{P:ak7}{f:FuncId}{as:ak4 AV}{h:ak4 ao}{K:AV->ak4 ao->Prop}(hc:cZ P f (as.map AV.arg) h K):cZ P f as h K:=
 hc.args as (by rw[akl]) λi c d hc hd=>by
  rw[akn,hc]at hd;cases hd;exact AV.Le.arg c
theorem AV.Le.uV(x:AV):AV.Le x x.uV:=λ_ _ _ h=>(h.bz 0).nrm
theorem cZ.El{P:ak7}{f:FuncId}{as:ak4 AV}{h:ak4 ao}{K:AV->ak4 ao->Prop}(hc:cZ P f (as.map AV.uV) h K):cZ P f as h K:=
 hc.args as (by rw[akl]) λi c d hc hd=>by
  rw[akn,hc]at hd;cases hd;exact AV.Le.uV c
theorem U7(l:ak4 fp):(l.map fp.av).all (AV.aC 0)=true:=by
 rw[akG];intro x hx;obtain⟨c,_,rfl⟩:=List.mem_map.1 hx;cases c<;>rfl
theorem OM.use{P:ak7}{q:fp}{args:ak4 AV}{r:AV}{h:ak4 ao}{C:AV->ak4 ao->Prop}(hc:OM P q (args.map AV.arg) r)(ha:(args.map AV.arg).all (AV.aC 0)=true)(hr:r.aC 0=true)(hC:C r h):∃g as,q.app args=some (g,as)/\cZ P g as h C:=by
 obtain⟨g,as,e,hc⟩:=hc;cases q with
 |d x=>simp [fp.app]at e
 |bn c off=>simp [fp.app]at e
 |fn g' cs=>
  simp only[fp.app,Option.some.injEq,Prod.mk.injEq]at e;obtain⟨rfl,rfl⟩:=e;refine⟨g',_,rfl,cZ.args (hc.use (h:=h) (C:=C) (by rw[List.all_append,ha,U7];rfl) hr hC) _ (by simp) λi c d J h2=> ?_⟩;by_cases hi:i<args.length
  ·rw[akq hi]at J;rw[akq (by simpa using hi),akn,J]at h2;cases h2;exact AV.Le.arg c
  ·rw[akw (by omega)]at J;rw[akw (by simpa using hi),akl,J]at h2;cases h2;exact AV.Le.refl c
 |m7 g' cs=>
  simp only[fp.app,Option.some.injEq,Prod.mk.injEq]at e;obtain⟨rfl,rfl⟩:=e;refine⟨g',_,rfl,cZ.args (hc.use (h:=h) (C:=C) (by rw[List.all_append,ha,U7];rfl) hr hC) _ (by simp) λi c d J h2=> ?_⟩;by_cases hi:i<(cs.map fp.av).length
  ·rw[akq hi]at J h2;rw[J]at h2;cases h2;exact AV.Le.refl c
  ·rw[akw (by omega)]at J h2;rw[akn,J]at h2;cases h2;exact AV.Le.arg c
theorem eB{α:Type}{b:Bool}{x y:α}(h:(bif b then some x else none)=some y):b=true/\x=y:=by
 cases b with
 |true=>exact⟨rfl,akz h⟩
 |false=>cases h
theorem j7{α:Type}{b:Bool}{x:ak6 α}{y:α}(h:(bif b then x else none)=some y):b=true/\x=some y:=by
 cases b with
 |true=>exact⟨rfl,h⟩
 |false=>cases h
section
variable {P:ak7} {ρ:Operand->AV} {h h':ak4 ao} {a:cb} {i:In} {x:AV} {C:AV->ak4 ao->Prop}
theorem OK.FB{x:AV}{b:Bool}(h:OK P (.bit x) (.bit b)):x= .d (.v (.bool b)):=by
 cases h with|bit h=>subst h;rfl
theorem Ns{t:TypeId}{p:AV}{cs:ak4 AV}{off:Nat}{K:AV->Prop}(J:vH h p=some (cs,off))(h2:xx P t cs off=some x)(hK:K x):nx P t h p K:=by
 have key:(match lK P t,gj P t with
     |some true,some k=>gy (ct (off+k) cs.length) (K (.agg ((cs.drop off).take k)))
     |some false,some _=>match cs[off]? with
      |some c=>K c
      |none=>False
     |_,_=>False):=by
  unfold xx at h2;split at h2
  ·next k e1 e2=>
   obtain⟨h3,rfl⟩:=eB h2;exact bV.2 ⟨h3,hK⟩
  ·next k e1 e2=>rw[h2];exact hK
  ·cases h2
 unfold nx rN;unfold vH at J;split at J
 ·split at J
  ·next cD e=>cases J;simp only[e];exact key
  ·cases J
 ·split at J
  ·next c e=>cases J;simp only[e];exact key
  ·cases J
 ·cases J
theorem ajj{y:AV}{z:ak6 Int}{k:Nat}(J:Oo y z k a=some (x,i))(ca:OK P i a):∃xs w c,y.fF=some xs/\z=some w/\0<=w/\xs[w.toNat]?=some c/\c.length=k/\x= .bn [c] 0 0:=by
 unfold Oo at J;split at J
 ·next xs w c hx=>
  obtain⟨hk,he⟩:=eB J;cases he
  cases ca with
  |el h0 hc=>exact⟨_,_,_,hx,rfl,h0,hc,by simpa using hk,rfl⟩
 ·cases J
theorem adx{T:TypeId}{y z:AV}{K:AV->Prop}(J:NN P T y z a=some (x,i))(ca:OK P i a)(hK:K x):rJ P T y z K:=by
 unfold NN at J;unfold rJ;cases hT:eS P T with
 |some p=>
  obtain⟨e,k⟩:=p;simp only[hT]at J ⊢;cases y with
  |row n off len cap k'=>
   simp only at J ⊢;split at J
   ·next w hw=>
    obtain⟨hk,he⟩:=eB J;cases he
    cases ca with|lt h0 hl=>simp only[hw];exact bV.2 ⟨hk,h0,hl,hK⟩
   ·cases J
  |_=>
   obtain⟨xs,w,c,e1,e2,e3,e4,e5,rfl⟩:=ajj J ca;simp only[e1,e2,e4,e5];exact⟨e3,trivial,hK⟩
 |none=>
  simp only[hT]at J ⊢;split at J
  ·next n e k b off w hA hw=>
   cases J
   simp only[hA,hw];cases ca with|lt h0 hl=>exact⟨h0,hl,hK⟩
  ·next n e k c w hA hw=>
   split at J
   ·next d=>
    obtain⟨hb,he⟩:=eB J;cases he;simp only[hA,hw];cases ca with|I4 h0 hl h=>exact bV.2 ⟨hb,h0,hl,by simp only[List.getElem?_cons_zero,akA,h];exact hK⟩
   ·cases J
  ·cases J
theorem abM{T:TypeId}{y:AV}{K:Nat->Prop}{C:AV->Prop}(J:Jz P T y a=some (x,i))(ca:OK P i a)(hK:C x)(hc:∀n:Nat,C (.d (.v (.int .i64 n)))->K n):qw P T y K:=by
 unfold Jz at J;unfold qw;split at J
 ·obtain⟨hb,he⟩:=eB J;cases he;exact bV.2 ⟨hb,hc _ hK⟩
 ·obtain⟨hb,he⟩:=eB J;cases he;exact bV.2 ⟨hb,hc _ hK⟩
 ·next n1 n2=>
  split at J
  ·next xs n hx=>
   obtain⟨hb,he⟩:=eB J;cases he;cases ca with
   |len hl=>
    subst hl;split
    ·next s=>exact absurd rfl (n1 s)
    ·next a b c d e=>exact absurd rfl (n2 a b c d e)
    ·simp only[hx];exact bV.2 ⟨hb,hc _ hK⟩
  ·cases J
theorem adk{y:ak6 Operand}{l:ak6 Int}(J:Du ρ y=some l):(y=none/\l=none)\/∃o z,y=some o/\l=some z/\(ρ o).int?=some z:=by
 unfold Du at J;cases y with
 |none=>cases J;exact .inl ⟨rfl,rfl⟩
 |some o=>
  simp only at J;split at J
  ·next z hz=>cases J;exact .inr ⟨o,z,rfl,rfl,hz⟩
  ·cases J
theorem sP{y:ak6 Operand}{l:ak6 Int}{d:Nat}{K:Nat->Prop}(J:Du ρ y=some l)(h0:∀z,l=some z->0<=z)(hK:K (oN l d)):jF ρ y d K:=by
 rcases adk J with⟨rfl,rfl⟩|⟨o,z,rfl,rfl,hz⟩
 ·exact hK
 ·simp only[jF,hz];exact⟨h0 z rfl,hK⟩
theorem ajH{T:TypeId}{y:AV}{lo hi mx:ak6 Operand}{K:AV->Prop}(J:LW P T ρ y lo hi mx a=some (x,i))(ca:OK P i a)(hK:K x):tA P T ρ y lo hi mx K:=by
 unfold LW at J;unfold tA;split at J
 ·split at J
  ·next l hh hl qa=>
   split at J
   ·next b=>
    obtain⟨hb,he⟩:=eB J;cases he;cases ca with
    |str h0 h2 h3 h4=>
     refine bV.2 ⟨hb,sP qa (λz e=>by subst e;exact h3) ?_⟩;have e1:oN hh b.size=(hh.getD b.size).toNat:=by cases hh<;>simp [oN]
     have e2:oN l 0=(l.getD 0).toNat:=by cases l<;>simp [oN]
     rw[e1];refine⟨h4,sP hl (λz e=>by subst e;exact h0) ?_⟩;rw[e2];rw[e1,e2]at hK;exact⟨h2,hK⟩
   ·next n off=>
    split at J
    ·next m e k hT=>
     obtain⟨hb,he⟩:=eB J;cases he;simp only[hT];generalize ct m 4096=q at hb ⊢;rw[aki]at hb;refine bV.2 ⟨hb.1,sP qa (λz e=>by cases e) (bV.2 ⟨dy.2 (akr _),sP hl (λz e=>by cases e) (bV.2 ⟨?_,?_⟩)⟩)⟩
     ·rw[aki];exact⟨dy.2 (Nat.zero_le _),hb.2⟩
     ·show K (.row n (off+0*k) (m-0) (m-0) k);rw[Nat.zero_mul,Nat.add_zero,Nat.sub_zero];exact hK
    ·cases J
   ·next vn jY=>
    split at J
    ·next xs e k ys hx hT=>
     cases J
     dsimp only;split
     ·next b=>exact absurd rfl (vn b)
     ·next n off=>exact absurd rfl (jY n off)
     ·simp only[hx,hT];cases hh with
      |none=>
       cases ca with
       |RS h0 h2 hk he=>
        refine⟨hk,sP qa (λz e=>by cases e) ⟨akr _,sP hl (λz e=>by subst e;exact h0) ?_⟩⟩;have e2:oN l 0=(l.getD 0).toNat:=by cases l<;>simp [oN]
        rw[e2];refine⟨h2,?_⟩;rw[show oN none xs.length=xs.length from rfl,List.take_length,he];exact hK
      |some z=>
       cases ca with
       |sub h0 h2 h3 h4 hk he=>
        refine⟨hk,sP qa (λz e=>by cases e;exact h3) ⟨h4,sP hl (λz e=>by subst e;exact h0) ?_⟩⟩;have e2:oN l 0=(l.getD 0).toNat:=by cases l<;>simp [oN]
        rw[e2];refine⟨h2,?_⟩;rw[show oN (some z) xs.length=z.toNat from rfl,he];exact hK
    ·cases J
  ·cases J
 ·split at J
  ·next m _ _ y' _ hm=>
   split at J
   ·next xs e k _ _ ys hx hT hy=>
    cases J
    cases ca with
    |sub h0 h2 h3 h4 hk he=>
     simp only[hx,hT];refine⟨hk,?_⟩;simp only[jF,hm,hy,AV.int?];refine⟨Int.le_refl _,Nat.zero_le _,Int.le_refl _,?_,by simpa using hK⟩;first|rfl|trivial
   ·cases J
  ·cases J
theorem Mo{k:Nat}{y:AV}{ys:ak4 (ak4 D)}{K:ak4 (ak4 D)->Prop}(J:H8 h k y=some ys)(hy:∀c∈ys,c.length=k)(hK:K ys):sr h k y K:=by
 unfold H8 at J;unfold sr;split at J
 ·split at J
  ·next cs e=>
   split at J
   ·next ds e2=>
    obtain⟨hb,rfl⟩:=eB J;simp only[e,e2];exact bV.2 ⟨hb,hK⟩
   ·cases J
  ·cases J
 ·next hn=>
  split
  ·next n off len cap k'=>exact absurd rfl (hn n off len cap k')
  ·simp only[J];exact⟨hy,hK⟩
theorem aaW{T:TypeId}{y z:AV}(J:Nc P T h y z a=some (x,h',i))(ca:OK P i a)(hC:C x h'):sD P T h y z C:=by
 unfold Nc at J;unfold sD;split at J
 ·next e k zs n' hT=>
  simp only[hT];split at J
  ·next zv de hz n8=>
   simp only[hz,n8];obtain⟨hb,J⟩:=j7 J;refine bV.2 ⟨hb,?_⟩;split at J
   ·next ys jo=>
    split at J
    ·next n xs=>
     split at J
     ·next e' k' len hn=>
      obtain⟨hc,he⟩:=eB J;cases he;cases ca with
      |app hl hx hy hm mq je DJ=>
       subst je;subst DJ;refine Mo jo hy ?_;simp only[hn];exact bV.2 ⟨hc,hl,hx,hm,mq,hC⟩
     ·cases J
    ·cases J
     cases ca with
     |app hl hx hy hm mq je DJ=>
      subst je;subst DJ;refine Mo jo hy ?_;simp only[List.nil_append,aks,akA]at hC hm mq ⊢;exact⟨hm,mq,hC⟩
    ·cases J
     cases ca with
     |app hl hx hy hm mq je DJ=>
      subst je;subst DJ;exact Mo jo hy ⟨hx,hm,mq,hC⟩
    ·cases J
   ·cases J
  ·cases J
 ·cases J
theorem aa9{T:TypeId}{ps:ak4 (Nat×AV)}{K:AV->Prop}(J:NI P T ps=some x)(hK:K x):vf P T ps K:=by
 unfold NI at J;unfold vf;split at J
 ·next pl z e1 e2=>
  simp only[e1,e2];split at J
  ·next cs e3=>obtain⟨hb,rfl⟩:=eB J;simp only[e3];exact bV.2 ⟨hb,hK⟩
  ·cases J
 ·cases J
theorem aev{T:TypeId}{len:Nat}{ps:ak4 (Nat×AV)}{K:AV->Prop}(J:KL P T len ps=some x)(hK:K x):uL P T len ps K:=by
 unfold KL at J;unfold uL;split at J
 ·next e k hT=>
  simp only[hT];split at J
  ·next z hz=>
   simp only[hz];split at J
   ·next cs gw=>
    simp only[gw];split at J
    ·next ds qj=>obtain⟨hb,rfl⟩:=eB J;simp only[qj];exact bV.2 ⟨hb,hK⟩
    ·cases J
   ·cases J
  ·cases J
 ·cases J
theorem Vh{T:TypeId}{op:BinOp}{y z:AV}{K:AV->Prop}(J:FK P T op y z=some (x,i))(ca:OK P i a)(hK:K x):vN P T op y z K:=by
 unfold FK at J;unfold vN;split at J
 ·split at J
  ·next v e=>
   obtain⟨hb,he⟩:=eB J;cases he;cases ca with|nz h0=>simp only[e];exact bV.2 ⟨hb,h0,hK⟩
  ·next e=>
   simp only[e];split at J
   ·next v e2=>
    cases J
    cases ca with|nn h0=>simp only[e2];exact⟨h0,hK⟩
   ·next e2=>
    simp only[e2];split at J
    ·next v e3=>obtain⟨hb,he⟩:=eB J;cases he;simp only[e3];exact bV.2 ⟨hb,hK⟩
    ·cases J
 ·split at J
  ·next v e=>cases J;simp only[e];exact hK
  ·next e=>
   simp only[e];split at J
   ·cases J;cases ca with|cat h=>exact⟨h,hK⟩
   ·cases J
 ·split at J
  ·next v e=>obtain⟨hb,he⟩:=eB J;cases he;simp only[e];exact bV.2 ⟨hb,hK⟩
  ·cases J
 ·split at J
  ·next b e=>
   simp only[e];split at J
   ·next v e2=>cases J;simp only[e2];exact hK
   ·cases J
  ·cases J
 ·cases J
theorem ai0{s t:TypeId}{y:AV}{K:AV->Prop}(J:Ge P s t y a=some (x,i))(ca:OK P i a)(hK:K x):vJ P s t y K:=by
 unfold Ge at J;unfold vJ;split at J
 ·split at J
  ·next e1 e2=>cases J;simp only[e1,e2];exact hK
  ·cases J
 ·obtain⟨hb,he⟩:=eB J;cases he;exact bV.2 ⟨hb,hK⟩
 ·next h8 h9=>
  split at J
  ·next xs e k s' e1 e2=>
   obtain⟨hb,he⟩:=eB J;cases he;cases ca with
   |byt h=>
    obtain⟨ns,k1,k2⟩:=h;subst k2;split
    ·next k' n=>exact absurd rfl (h8 k' n)
    ·next b'=>exact absurd rfl (h9 b')
    ·simp only[e1,e2];exact bV.2 ⟨hb,ns,k1,hK⟩
  ·cases J
theorem Qz{T:TypeId}{y:AV}{f:Nat}{K:AV->Prop}(J:Ih P T y f=some x)(hK:K x):uu P T y f K:=by
 unfold Ih at J;unfold uu;split at J
 ·next e=>obtain⟨hb,rfl⟩:=eB J;simp only[e];exact bV.2 ⟨hb,hK⟩
 ·next e=>simp only[e,J];exact hK
 ·cases J
theorem Ju{y:ak6 AV}(J:Ec h y=some (x,h',i)):y=some x/\h'=h:=by
 cases y with
 |none=>cases J
 |some y=>cases J;exact⟨rfl,rfl⟩
theorem AN{y:ak6 (AV×In)}(J:zQ h y=some (x,h',i)):y=some (x,i)/\h'=h:=by
 cases y with
 |none=>cases J
 |some y=>cases J;exact⟨rfl,rfl⟩
theorem x9{o:Oper}(J:tH P o.op ρ h a=some (x,h',i))(ca:OK P i a)(hC:C x h'):cT P o ρ h C:=by
 obtain⟨dst,op,type,pos,after,guard⟩:=o;simp only at J;unfold tH at J;unfold cT;split at J
 ·cases J;exact hC
 ·cases J;exact hC
 ·next c y z=>
  split at J
  ·next b=>
   cases J
   simp only[OK.FB ca];cases b<;>simp_all
  ·cases J
 ·split at J
  ·next z e=>cases J;simp only[e];exact hC
  ·cases J
 ·obtain⟨hb,he⟩:=eB J;cases he;exact bV.2 ⟨hb,hC⟩
 ·split at J
  ·next cs off e=>
   split at J
   ·next y e2=>cases J;exact Ns e e2 hC
   ·cases J
  ·cases J
 ·split at J
  ·next n off e=>
   split at J
   ·next cs e2=>
    split at J
    ·next k e3=>obtain⟨hb,he⟩:=eB J;cases he;simp only[e,wG,e2,e3];exact bV.2 ⟨hb,hC⟩
    ·cases J
   ·cases J
  ·cases J
 ·split at J
  ·next e=>cases J;simp only[e];exact hC
  ·next e=>cases J;simp only[e];exact hC
  ·next e=>cases J;simp only[e];exact hC
  ·cases J
 ·split at J
  ·next e=>
   simp only[e];split at J
   ·next e2=>cases J;simp only[e2];exact hC
   ·next e2=>cases J;simp only[e2];exact hC
   ·cases J
  ·cases J
 ·obtain⟨e,rfl⟩:=Ju J;exact Qz e hC
 ·obtain⟨e,rfl⟩:=AN J;exact adx e ca hC
 ·split at J
  ·next b z c e1 e2=>
   obtain⟨hb,he⟩:=eB J;cases he;cases ca with
   |ch h0 hc=>simp only[e1,e2];refine bV.2 ⟨hb,h0,?_⟩;simp only[hc];exact hC
  ·cases J
 ·obtain⟨e,rfl⟩:=Ju J;exact aa9 e hC
 ·obtain⟨e,rfl⟩:=Ju J;exact aev e hC
 ·obtain⟨e,rfl⟩:=AN J;exact ajH e ca hC
 ·split at J
  ·next e=>
   split at J
   ·next e2=>cases J;simp only[e,e2];exact hC
   ·cases J
  ·cases J
 ·split at J
  ·next e=>cases J;simp only[e];exact hC
  ·cases J
 ·obtain⟨e,rfl⟩:=AN J;exact Vh e ca hC
 ·unfold vD;split at J
  ·next e=>
   split at J
   ·next e2=>cases J;simp only[e,e2];exact hC
   ·cases J
  ·cases J
 ·obtain⟨e,rfl⟩:=AN J;exact ai0 e ca hC
 ·next c=>
  split at J
  ·next hc=>
   simp only[hc];split at J
   ·next e1 e2=>obtain⟨e,rfl⟩:=AN J;simp only[e1,e2];exact abM (C:=λx=>C x _) e ca hC (λn hn=>hn)
   ·cases J
  ·next hc=>
   simp only[hc];split at J
   ·next e1 e2=>obtain⟨hb,J⟩:=j7 J;simp only[e1,e2];exact bV.2 ⟨hb,aaW J ca hC⟩
   ·cases J
  ·next hc=>
   simp only[hc];split at J
   ·next e1=>cases J;simp only[e1];exact hC
   ·cases J
  ·next hc=>
   simp only[hc];split at J
   ·next e1=>cases J;simp only[e1];exact hC
   ·cases J
  ·next f hc=>
   simp only[hc];split at J
   ·next g di r e=>
    obtain⟨hb,he⟩:=eB J;cases he;simp only[aki]at hb;simp only[e];cases ca with|call ji=>exact(ji.use hb.1 hb.2 hC).TQ
   ·next g di r h2 e=>
    cases J
    simp only[e];cases ca with|ji ji=>exact ji.mono λr1 J ⟨e1,e2⟩=>by subst e1;subst e2;exact hC
   ·next g di l eX H r H' e=>
    cases J
    simp only[e];cases ca with|mK ha hd hb hl hc=>exact(ha▸(hc.mK hd hb hl).mono λr1 J ⟨e1,e2⟩=>by subst e1;subst e2;exact hC:cZ P g _ _ _).El
   ·next g di l eX H r H' e=>
    cases J
    simp only[e];cases ca with|Nh tw hv ha hd hb hl hc=>exact(ha▸(hc.mK hd (by rw[hb,adl tw]) (by rw[aki]at hl ⊢;exact⟨hl.1,agx tw hl.2⟩)).mono λr1 J ⟨e1,e2⟩=>by subst e1;subst e2;rw[<-agL hv];exact hC:cZ P g _ _ _).El
   ·next g di l eX H r e=>
    cases J
    simp only[e];cases ca with|rq ha hd hb hl hc=>exact(ha▸(by have:=hc.rq hd hb hl [];rw[akB]at this;exact this.mono λr1 J ⟨e1,e2⟩=>by subst e1;subst e2;exact hC):cZ P g _ _ _).El
   ·next q r e=>
    obtain⟨hb,he⟩:=eB J;cases he;simp only[aki]at hb;simp only[e];cases ca with|DA hq=>exact hq.use hb.1 hb.2 hC
   ·cases J
  ·cases J
 ·next op _=>
  unfold xR at J;split at J
  ·next y h2 p e=>
   cases J
   simp only[e];refine⟨?_,hC⟩;cases p with
   |no=>trivial
   |lt n=>cases ca with|sd h=>exact h
  ·cases J
end
def iy:ak4 (Nat×cb)->Nat->cb
 |[],_=> .none
 |(k,x)::l,i=>bif k==i then x else iy l i
def sR(i:In)(a:cb)(r:ak6 (St×ak4 (In×cb))):ak6 (St×ak4 (In×cb)):=
 match i with
 | .none=>r
 |i=>match r with
  |some (s,l)=>some (s,(i,a)::l)
  |none=>none
def xH:cb->Bool
 | .Mp .. | .L8 .. | .A6 .. =>true
 |_=>false
def yc(o:Oper):cb->Bool
 | .A6 [] .. =>cy o==6
 |_=>false
def Ac(P:ak7)(dr vk:Bool)(op:Op)(ρ:Operand->AV)(h:ak4 ao)(a:cb):ak6 (AV×ak4 ao×In):=
 match a with
 | .va va=>bif dr&& !vk then none else match ia P op ρ h va with
   |some (x,h',p)=>some (x,h', .pr p)
   |none=>none
 |a=>tH P op ρ h a
def mJ(P:ak7)(dr:Bool)(o:Oper)(j:Nat)(as:ak4 (Nat×cb))(s:St):ak6 (St×ak4 (In×cb)):=
 bif dr&&xH (iy as (3*j+1))&& !yc o (iy as (3*j+1))then none else
 match Ac P dr (ju o) o.op (ev s) s.h (iy as (3*j+1))with
 |some (x,h',i)=>match iy as (3*j+2)with
  | .eq y=>sR i (iy as (3*j+1)) (some ((s.wh h').put o.dst y,[(.eq x, .eq y)]))
  |_=>sR i (iy as (3*j+1)) (some ((s.wh h').put o.dst x,[]))
 |none=>none
def Bc(o:Oper)(s:St):St:=s.put o.dst (.d (.v undef))
def pK(l:ak4 (In×cb)):ak6 (St×ak4 (In×cb))->ak6 (St×ak4 (In×cb))
 |some (s,m)=>some (s,l++m)
 |none=>none
def mY(P:ak7)(ops:Array Oper)(dr:Bool)(o:Oper)(j:Nat)(as:ak4 (Nat×cb))(s:St):ak6 (St×ak4 (In×cb)):=
 match o.guard with
 |none=>mJ P dr o j as s
 |some (g,want)=>match iy as (3*j)with
  | .bit b=>pK [(.bit (tJ ops g s.t), .bit b)] (bif b==want then mJ P dr o j as s else some (Bc o s,[]))
  | .Db=>pK [(.bit (tJ ops g s.t), .Db)] (some (Bc o s,[]))
  |_=>none
def nW(P:ak7)(ops:Array Oper)(dr:Bool):ak4 Oper->Nat->ak4 (Nat×cb)->St->ak6 (St×ak4 (In×cb))
 |[],_,_,s=>some (s,[])
 |o::rest,j,as,s=>match mY P ops dr o j as s with
  |some (s1,l)=>pK l (nW P ops dr rest (j+1) as s1)
  |none=>none
def fY(P:ak7)(l:ak4 (In×cb)):Prop:=∀p∈l,OK P p.1 p.2
section
variable {P:ak7} {ops:Array Oper} {dr:Bool} {o:Oper} {j:Nat} {as:ak4 (Nat×cb)} {s s1:St} {l:ak4 (In×cb)} {K:St->Prop}
theorem Ei{i:In}{a:cb}{r:ak6 (St×ak4 (In×cb))}(h:sR i a r=some (s1,l))(ca:fY P l):∃m,r=some (s1,m)/\fY P m/\OK P i a:=by
 unfold sR at h;split at h
 ·exact⟨l,h,ca, .none⟩
 ·split at h
  ·next s2 m=>
   cases h
   exact⟨m,rfl,λp hp=>ca p (akp _ hp),ca (i,a) akm⟩
  ·cases h
theorem yS{r:ak6 (St×ak4 (In×cb))}{m:ak4 (In×cb)}(h:pK m r=some (s1,l))(ca:fY P l):∃n,r=some (s1,n)/\fY P n/\fY P m:=by
 unfold pK at h;split at h
 ·next s2 n=>
  cases h
  exact⟨n,rfl,λp hp=>ca p (List.mem_append_right _ hp),λp hp=>ca p (List.mem_append_left _ hp)⟩
 ·cases h
def F9(P:ak7)(dr:Bool)(o:Oper)(K:St->Prop)(s:St):Prop:=bif dr then Q2 P o K s else nP P o K s
theorem ajQ{x:AV}{h':ak4 ao}{i:In}{a:cb}(J:tH P o.op (ev s) s.h a=some (x,h',i))(ca:OK P i a)(hh:xH a=false)(hK:K ((s.wh h').put o.dst x)):Q2 P o K s:=by
 refine .inl ?_;unfold yQ;split
 ·next c gX=>
  split
  ·next f hc=>
   rw[gX]at J;unfold tH at J;simp only[hc]at J;split at J
   ·next g di r e=>
    obtain⟨hb,he⟩:=eB J;cases he;simp only[aki]at hb;simp only[e];cases ca with
    |call ji=>exact⟨_,hK,λe=>(ji.use hb.1 hb.2 ⟨rfl,rfl⟩).TQ⟩
   ·cases hh
   ·cases hh
   ·cases hh
   ·next g di l eX H r e=>
    cases J
    simp only[e];cases ca with|rq ha hd hb hl hc=>exact⟨_,hK,λe=>(ha▸hc.rq hd hb hl e:cZ P g _ _ _).El⟩
   ·next q r e=>
    obtain⟨hb,he⟩:=eB J;cases he;simp only[aki]at hb;simp only[e];cases ca with
    |DA hq=>
     have:=λh=>hq.use (h:=h) (C:=λr' h'=>r'=x/\h'=h) hb.1 hb.2 ⟨rfl,rfl⟩;obtain⟨g,cs,e1,_⟩:=this [];refine⟨g,cs,e1,x,hK,λe=> ?_⟩;obtain⟨g',cD,e2,h9⟩:=this (s.h++e);rw[e1]at e2;cases e2
     exact h9
   ·cases J
  ·exact x9 (C:=λx h'=>K ((s.wh h').put o.dst x)) J ca hK
 ·exact x9 (C:=λx h'=>K ((s.wh h').put o.dst x)) J ca hK
theorem ahF{o:Oper}{ρ:Operand->AV}{h h':ak4 ao}{eX:ak4 AV}{H H':ak4 ao}{r x:AV}{i:In}(hk:cy o=6)(hr:tH P o.op ρ h (.A6 [] eX H r H')=some (x,h',i)):h'=h++H'.map (ao.pI (rn [] h.length)):=by
 unfold cy at hk;split at hk
 all_goals first|(cases hk;done)|skip
 next c gX=>
  split at hk
  all_goals first|(cases hk;done)|skip
  next f hc=>
   rw[gX]at hr;unfold tH at hr;simp only[hc]at hr;generalize ρ f=v at hr;cases v<;>first|(cases hr;rfl)|cases hr
theorem JW(h:mJ P dr o j as s=some (s1,l))(ca:fY P l)(hK:K s1):F9 P dr o K s:=by
 unfold mJ at h;cases hd:dr&&xH (iy as (3*j+1))&& !yc o (iy as (3*j+1))with
 |true=>rw[hd]at h;cases h
 |false=>
  rw[hd]at h;simp only[cond_false]at h;split at h
  ·next x h' i hr=>
   have fin:OK P i (iy as (3*j+1))->K ((s.wh h').put o.dst x)->F9 P dr o K s:=λJ h2=>by
    unfold F9;cases dr with
    |true=>
     unfold Ac at hr;split at hr
     ·next va e=>
      cases hv:ju o with
      |false=>rw[hv]at hr;cases hr
      |true=>
       rw[hv]at hr;simp only[Bool.not_true,Bool.and_false,cond_false]at hr;split at hr
       ·next x2 Jw p e2=>
        cases hr
        rw[e]at J;cases J with|pr _ hp=>exact .inr (.inr (.inl ⟨.inl ⟨hv,rfl⟩,va,x,h',p,e2,hp,h2⟩))
       ·cases hr
     ·by_cases hx:yc o (iy as (3*j+1))=true
      ·refine .inr (.inr (.inr ?_));generalize iy as (3*j+1)=a at hx J hr;unfold yc at hx;split at hx
       ·next eX H r H'=>
        have A2:cy o=6:=by simpa using hx
        have this:h'=s.h++H'.map (ao.pI (rn [] s.h.length)):=ahF A2 hr;refine⟨A2,x,H'.map (ao.pI (rn [] s.h.length)),?_,λC hC=> ?_⟩
        ·rw[<-this];exact h2
        ·rw[<-this]at hC;exact x9 hr J hC
       ·cases hx
      ·exact ajQ hr J (by simpa [hx]using hd) h2
    |false=>
     unfold Ac at hr;split at hr
     ·next va e=>
      simp only[Bool.false_and,cond_false]at hr;split at hr
      ·next x2 Jw p e2=>
       cases hr
       rw[e]at J;cases J with|pr _ hp=>exact .inl ⟨va,x,h',p,e2,hp,h2⟩
      ·cases hr
     ·exact .inr (.inr (.inl (x9 (C:=λx h'=>K ((s.wh h').put o.dst x)) hr J h2)))
   split at h
   ·next y hy=>
    obtain⟨m,e,h2,h3⟩:=Ei h ca;cases e
    have:=h2 (.eq x, .eq y) akm;cases this with|eq e=>subst e;exact fin h3 hK
   ·obtain⟨m,e,h2,h3⟩:=Ei h ca;cases e
    exact fin h3 hK
  ·cases h
theorem K5(h:mY P ops dr o j as s=some (s1,l))(ca:fY P l)(hK:K s1):iB ops o s (F9 P dr o K s) (K (s.put o.dst (.d (.v undef)))):=by
 unfold mY at h;split at h
 ·next hg=>unfold iB;rw[hg];exact JW h ca hK
 ·next g want hg=>
  obtain⟨dst,op,ty,pos,after,guard⟩:=o;simp only at hg;subst hg;split at h
  ·next b hb=>
   obtain⟨n,e,h2,h3⟩:=yS h ca;have h4:=OK.FB (h3 (_,_) akm);rw[Gi,h4];refine⟨λe2=> ?_,λe2=> ?_⟩
   ·subst e2;simp only[BEq.rfl,cond_true]at e;exact JW e h2 hK
   ·subst e2;have:((!want)==want)=false:=by cases want<;>rfl
    rw[this]at e;simp only[cond_false]at e;cases e
    exact hK
  ·next hb=>
   obtain⟨n,e,h2,h3⟩:=yS h ca;cases e
   have h4:=h3 (_,_) akm;have h5:tJ ops g s.t= .d (.v undef):=by
    generalize tJ ops g s.t=z at h4;cases h4;rfl
   rw[Gi,h5];exact hK
  ·cases h
theorem uo:∀(ol:ak4 Oper)(j:Nat)(s:St)(l:ak4 (In×cb)),nW P ops dr ol j as s=some (s1,l)->fY P l->K s1->(bif dr then Aw P ops ol K s else rG P ops ol K s)
 |[],_,s,l,h,_,hK=>by cases h;cases dr<;>exact hK
 |o::rest,j,s,l,h,ca,hK=>by
  unfold nW at h;split at h
  ·next s2 m hg=>
   obtain⟨n,e,h2,h3⟩:=yS h ca;have ih:=uo rest (j+1) s2 n e h2 hK;cases dr with
   |true=>exact K5 (K:=Aw P ops rest K) hg h3 ih
   |false=>exact K5 (K:=rG P ops rest K) hg h3 ih
  ·cases h
theorem Mk(s:St)(d:ak6 Nat)(x:AV):∃pre,(s.put d x).t=pre++s.t:=by
 cases d with
 |none=>exact⟨[],rfl⟩
 |some k=>
  by_cases hk:k<s.n
  ·exact⟨[(k,x)],by rw[qd hk];rfl⟩
  ·exact⟨[],by rw[Ca hk];rfl⟩
theorem Oc(h:mY P ops dr o j as s=some (s1,l)):(∃pre,s1.t=pre++s.t)/\s1.n=s.n:=by
 have cI:∀{i a r l},sR i a r=some (s1,l)->∃m,r=some (s1,m):=fun{i a r l} h=>by
  unfold sR at h;split at h
  ·exact⟨_,h⟩
  ·split at h
   ·cases h;exact⟨_,rfl⟩
   ·cases h
 have cR:∀{m r l},pK m r=some (s1,l)->∃m,r=some (s1,m):=fun{m r l} h=>by
  unfold pK at h;split at h
  ·cases h;exact⟨_,rfl⟩
  ·cases h
 have st:∀l,mJ P dr o j as s=some (s1,l)->(∃pre,s1.t=pre++s.t)/\s1.n=s.n:=λl h=>by
  unfold mJ at h;cases hd:dr&&xH (iy as (3*j+1))&& !yc o (iy as (3*j+1))with
  |true=>rw[hd]at h;cases h
  |false=>
   rw[hd]at h;simp only[cond_false]at h;split at h
   ·split at h<;>(obtain⟨m,e⟩:=cI h;cases e;exact⟨Mk _ _ _,by rw[pY];rfl⟩)
   ·cases h
 unfold mY at h;split at h
 ·exact st _ h
 ·split at h
  ·obtain⟨m,e⟩:=cR h;revert e;generalize ((_:Bool)==_)=q;intro e;cases q with
   |true=>exact st _ e
   |false=>cases e;exact⟨Mk _ _ _,by unfold Bc;rw[pY]⟩
  ·obtain⟨m,e⟩:=cR h;cases e;exact⟨Mk _ _ _,by unfold Bc;rw[pY]⟩
  ·cases h
theorem Kl:∀(ol:ak4 Oper)(j:Nat)(s:St)(l:ak4 (In×cb)),nW P ops dr ol j as s=some (s1,l)->(∃pre,s1.t=pre++s.t)/\s1.n=s.n
 |[],_,s,l,h=>by cases h;exact⟨⟨[],rfl⟩,rfl⟩
 |o::rest,j,s,l,h=>by
  unfold nW at h;split at h
  ·next s2 m hg=>
   unfold pK at h;split at h
   ·next s3 n e=>
    cases h
    obtain⟨⟨p1,e1⟩,n1⟩:=Oc hg;obtain⟨⟨p2,e2⟩,n2⟩:=Kl rest (j+1) s2 n e;exact⟨⟨p2++p1,by rw[e2,e1,akx]⟩,n2.trans n1⟩
   ·cases h
  ·cases h
end
def PD:AV->Bool
 | .dead=>true
 |_=>false
def qc(P:ak7)(dr:Bool)(l:ak4 Oper)(as:ak4 (Nat×cb))(keep:ak4 Nat)(s:St):ak6 (ak4 (Nat×AV)×ak4 ao×ak4 (In×cb)):=
 match nW P l.toArray dr l 0 as s with
 |some (s1,ps)=>bif (s1.t.take (s1.t.length-s.t.length)).all (λp=>keep.any (·==p.1)||PD (bw s.t p.1))then some (keep.map λk=>(k,bw s1.t k),s1.h,ps)else none
 |none=>none
theorem CT:∀(a b:ak4 (Nat×AV))(i:Nat),(i∈a.map (·.1)/\bw (a++b) i=bw a i)\/(i ∉ a.map (·.1)/\bw (a++b) i=bw b i)
 |[],b,i=> .inr ⟨by simp,rfl⟩
 |(k,x)::a,b,i=>by
  by_cases e:i=k
  ·subst e;exact .inl ⟨by simp,by simp [kO]⟩
  ·rcases CT a b i with⟨J,h2⟩|⟨J,h2⟩
   ·exact .inl ⟨by simp at J ⊢;exact .inr J,by rw[List.cons_append,kO,if_neg e,h2,kO,if_neg e]⟩
   ·exact .inr ⟨by simp at J ⊢;exact⟨e,J⟩,by rw[List.cons_append,kO,if_neg e,h2]⟩
section
variable {P:ak7} {dr:Bool} {as:ak4 (Nat×cb)} {s s1 s':St} {ps:ak4 (In×cb)} {keep:ak4 Nat} {ol:ak4 Oper} {Δ:ak4 (Nat×AV)} {h':ak4 ao}
theorem Es(h:qc P dr ol as keep s=some (Δ,h',ps)):∃s1,nW P ol.toArray dr ol 0 as s=some (s1,ps)/\s1.n=s.n/\s1.h=h'/\∀i,bw (Δ++s.t) i=bw s1.t i\/bw (Δ++s.t) i= .dead:=by
 unfold qc at h;split at h
 ·next s1 ps' hr=>
  obtain⟨hb,he⟩:=eB h;cases he
  obtain⟨⟨pre,e1⟩,n1⟩:=Kl _ _ _ _ hr;refine⟨s1,hr,n1,rfl,λi=> ?_⟩;have By:∀(f:Nat->AV),(keep.map λk=>(k,f k)).map (·.1)=keep:=λf=>by rw[List.map_map];exact List.map_id _
  rcases CT (keep.map λk=>(k,bw s1.t k)) s.t i with⟨J,h2⟩|⟨J,h2⟩
  ·rw[By]at J;rw[h2,qC (λk=>bw s1.t k),if_pos J];exact .inl rfl
  ·rw[By]at J;rw[h2];rw[e1,akh,Nat.add_sub_cancel,List.take_left']at hb
   ·rw[e1];rcases CT pre s.t i with⟨h3,h4⟩|⟨h3,h4⟩
    ·right
     obtain⟨p,hp,rfl⟩:=List.mem_map.1 h3;have:=akG.1 hb p hp;rw[Bool.or_eq_true]at this;rcases this with this|this
     ·exfalso;obtain⟨k,hk,e⟩:=List.any_eq_true.1 this;rw[beq_iff_eq]at e;exact J (e▸hk)
     ·generalize bw s.t p.1=z at this;cases z<;>first|rfl|cases this
    ·exact .inl h4.symm
   ·rfl
 ·cases h
theorem db.less{G:Gh}{w:ak9}{a:Act}(hs:db G w a s1)(hn:s'.n=s1.n)(hh:s'.h=s1.h)(ht:∀i,bw s'.t i=bw s1.t i\/bw s'.t i= .dead):db G w a s':=
 ⟨hs.size.trans hn.symm,λi=>by
  rcases ht i with e|e
  ·rw[e];exact hs.tmp i
  ·rw[e];exact .dead _,by rw[hh];exact hs.inv,hs.df⟩
end
structure Ob(P:Program) where
 i:In
 o:cb
 ok:OK P i o
def bT{P:ak7}{e:Bool}(h:e=true):Ob P:=⟨_,_, .bit (b:=true) h⟩
def bF{P:ak7}{e:Bool}(h:e=false):Ob P:=⟨_,_, .bit (b:=false) h⟩
def uN{P:ak7}:Ob P:=⟨_,_, .Db⟩
def cL{P:ak7}{f:FuncId}{args:ak4 AV}{r:AV}(h:fX P f args (·=r)):Ob P:=⟨_,_, .call h⟩
def iA{P:ak7}(l:ak4 (Nat×Ob P)):ak4 (Nat×cb):=l.map λb=>(b.1,b.2.o)
def iN{P:ak7}(l:ak4 (Nat×Ob P)):ak4 (In×cb):=l.map λb=>(b.2.i,b.2.o)
theorem oS{P:ak7}(l:ak4 (Nat×Ob P)):fY P (iN l):=λp hp=>by
 obtain⟨b,_,rfl⟩:=List.mem_map.1 hp;exact b.2.ok
section
variable {P:ak7} {r:ak6 Nat} {N0 id:Nat} {ol:ak4 Oper} {y:Code} {s:St} {Q Q':Exit->St->Prop} {az:ak4 (Nat×Ob P)} {Δ:ak4 (Nat×AV)} {h':ak4 ao}
theorem EB{c:Code}{s':St}(hn:s'.n=s.n)(hh:s'.h=s.h)(ht:∀i,bw s'.t i=bw s.t i\/bw s'.t i= .dead)(h:bD P r N0 c Q s'):bD P r N0 c Q s:=
 ⟨λG w a n hs hN=>h.run G w a n (hs.less hn hh ht) hN⟩
theorem RV(az:ak4 (Nat×Ob P))(Δ:ak4 (Nat×AV))(h':ak4 ao)(h:qc P false ol (iA az) (Δ.map (·.1)) s=some (Δ,h',iN az))(k:bD P r N0 y Q' ⟨s.n,Δ++s.t,h'⟩):bD P r N0 (.region id ol.toArray false) (hO (λs=>bD P r N0 y Q' s) Q) s:=by
 obtain⟨s1,J,h2,h3,h4⟩:=Es h;refine e7 ?_;exact uo (dr:=false) ol 0 s _ J (oS az) (EB (s:=s1) (s':=⟨s.n,Δ++s.t,h'⟩) h2.symm h3.symm h4 k)
theorem agO(hm:P.follows .mixedOrders=true)(hl:qk ol.toArray=true)(az:ak4 (Nat×Ob P))(Δ:ak4 (Nat×AV))(h':ak4 ao)(h:qc P true ol (iA az) (Δ.map (·.1)) s=some (Δ,h',iN az))(k:bD P r N0 y Q' ⟨s.n,Δ++s.t,h'⟩):bD P r N0 (.region id ol.toArray true) (hO (λs=>bD P r N0 y Q' s) Q) s:=by
 obtain⟨s1,J,h2,h3,h4⟩:=Es h;refine HS hm hl ?_;exact uo (dr:=true) ol 0 s _ J (oS az) (EB (s:=s1) (s':=⟨s.n,Δ++s.t,h'⟩) h2.symm h3.symm h4 k)
def wE(P:ak7)(dr:Bool)(l:ak4 Oper)(as:ak4 (Nat×cb))(s:St):ak6 (ak4 (Nat×AV)×ak4 ao×ak4 (In×cb)):=
 match nW P l.toArray dr l 0 as s with
 |some (s1,ps)=>some (s1.t,s1.h,ps)
 |none=>none
theorem MC{dr:Bool}{as:ak4 (Nat×cb)}{t:ak4 (Nat×AV)}{ps:ak4 (In×cb)}(h:wE P dr ol as s=some (t,h',ps)):nW P ol.toArray dr ol 0 as s=some (⟨s.n,t,h'⟩,ps):=by
 unfold wE at h;split at h
 ·next s1 ps' hr=>
  cases h
  obtain⟨_,n1⟩:=Kl _ _ _ _ hr;rw[hr,<-n1]
 ·cases h
theorem aiz(az:ak4 (Nat×Ob P))(Δ:ak4 (Nat×AV))(h':ak4 ao)(h:wE P false ol (iA az) s=some (Δ++s.t,h',iN az))(k:Q .normal ⟨s.n,Δ++s.t,h'⟩):bD P r N0 (.region id ol.toArray false) Q s:=
 e7 (uo (dr:=false) ol 0 s _ (MC h) (oS az) k)
theorem af8(hm:P.follows .mixedOrders=true)(hl:qk ol.toArray=true)(az:ak4 (Nat×Ob P))(Δ:ak4 (Nat×AV))(h':ak4 ao)(h:wE P true ol (iA az) s=some (Δ++s.t,h',iN az))(k:Q .normal ⟨s.n,Δ++s.t,h'⟩):bD P r N0 (.region id ol.toArray true) Q s:=
 HS hm hl (uo (dr:=true) ol 0 s _ (MC h) (oS az) k)
end
def AV.fin(m:Nat)(x:AV):AV:=(x.bz m).nrm
def ao.pc:ao->ao
 | .cells cs=> .cells (cs.map AV.nrm)
 | .lp ls p as bd cs=> .lp ls p as bd (cs.map AV.nrm)
 | .it sn cs=> .it sn (cs.map AV.nrm)
 | .eO T cs=> .eO T (cs.map AV.nrm)
 | .vec e k cs=> .vec e k (cs.map (·.map AV.nrm))
 |B=>B
def jE(s:St)(live:ak4 Nat)(m:Nat):ak6 St:=
 bif ct m s.h.length&&(live.all λk=>((bw s.t k).bz m).aC m)&&(((s.h.take m).map (ao.bz m)).all (ao.aC m))then some ⟨s.n,live.map λk=>(k,(bw s.t k).fin m),((s.h.take m).map (ao.bz m)).map ao.pc⟩else none
theorem JF{G:Gh}{w:ak9}{h:ak4 ao}(hi:bU G w h):bU G w (h.map ao.pc):=by
 have fz:∀(n:Nat)(B:ao),(h.map ao.pc)[n]?=some B->∃B',h[n]?=some B'/\B=B'.pc:=λn B hB=>by
  rw[akn]at hB;cases hx:h[n]? with
  |none=>rw[hx]at hB;cases hB
  |some B'=>rw[hx]at hB;cases hB;exact⟨B',rfl,rfl⟩
 have eF:∀n b,bR (h.map ao.pc) G n=some b->bR h G n=some b:=λn b hb=>by
  obtain⟨B,hB,hb⟩:=l9 hb;obtain⟨B',J,rfl⟩:=fz n B hB;rw[dM J,<-hb];cases B'<;>rfl
 refine⟨by rw[akl];exact hi.len,hi.z,hi.S,λn B hB=> ?_,λi j b J h2=>hi.inj i j b (eF i b J) (eF j b h2),hi.gl⟩;obtain⟨B',J,rfl⟩:=fz n B hB;have dR:=hi.dn n B' J;cases B' with
 |gone=>trivial
 |front e k len=>exact dR
 |byt e b=>exact dR
 |map kv=>exact dR
 |ie kv=>exact dR
 |vec e k cs=>
  obtain⟨c1,c2,c3,c4⟩:=dR;refine⟨by rw[akl];exact c1,by rw[akl];exact c2,λc hc=> ?_,?_⟩
  ·obtain⟨x,hx,rfl⟩:=List.mem_map.1 hc;rw[akl];exact c3 x hx
  ·rcases c4 with⟨d1,d2,A,d3⟩|⟨g,cap,cur,d1,d2,d3,d4,d5,d6,d7,d8,d9⟩
   ·exact .inl ⟨d1,by rw[d2];rfl,A,d3⟩
   ·refine .inr ⟨g,cap,cur,d1,by rw[akl];exact d2,d3,d4,by rw[akl];exact d5,d6,d7,d8,λi j c x u hc hx hu=> ?_⟩;rw[akn]at hc;cases hy:cs[i]? with
    |none=>rw[hy]at hc;cases hc
    |some y=>
     rw[hy]at hc;cases hc
     rw[akn]at hx;cases hw:y[j]? with
     |none=>rw[hw]at hx;cases hx
     |some z=>rw[hw]at hx;cases hx;exact(d9 i j y z u hy hw hu).nrm
 |cells cs=>
  obtain⟨c1,c2,vs,T,c3,c4,c5⟩:=dR;refine⟨c1,c2,vs,T,c3,by rw[akl];exact c4,λi u c hu hc=> ?_⟩;rw[akn]at hc;cases hx:cs[i]? with
  |none=>rw[hx]at hc;cases hc
  |some x=>rw[hx]at hc;cases hc;exact(c5 i u x hu hx).nrm
 |lp ls p as bd cs=>
  obtain⟨c1,c2,fn,vs,T,c3,c4,c5⟩:=dR;refine⟨c1,c2,fn,vs,T,c3,by rw[akl];exact c4,λi u c hu hc=> ?_⟩;rw[akn]at hc;cases hx:cs[i]? with
  |none=>rw[hx]at hc;cases hc
  |some x=>rw[hx]at hc;cases hc;exact(c5 i u x hu hx).nrm
 |it sn cs=>
  obtain⟨c1,c2,fn,vs,T,c3,c4,c5⟩:=dR;refine⟨c1,c2,fn,vs,T,c3,by rw[akl];exact c4,λi u c hu hc=> ?_⟩;rw[akn]at hc;cases hx:cs[i]? with
  |none=>rw[hx]at hc;cases hc
  |some x=>rw[hx]at hc;cases hc;exact(c5 i u x hu hx).nrm
 |eO T0 cs=>
  obtain⟨c1,c2,fn,vs,T,c3,c4,c5⟩:=dR;refine⟨c1,c2,fn,vs,T,c3,by rw[akl];exact c4,λi u c hu hc=> ?_⟩;rw[akn]at hc;cases hx:cs[i]? with
  |none=>rw[hx]at hc;cases hc
  |some x=>rw[hx]at hc;cases hc;exact(c5 i u x hu hx).nrm
section
variable {P:ak7} {r:ak6 Nat} {n N0:Nat} {G:Gh} {w:ak9} {a:Act} {s s':St} {Q Q':Exit->St->Prop} {live:ak4 Nat} {m:Nat}
theorem abL(h:jE s live m=some s'):s.zw live m/\s'.n=s.n/\s'.t=(live.map λk=>(k,(bw s.t k).fin m))/\s'.h=((s.h.take m).map (ao.bz m)).map ao.pc:=by
 unfold jE at h;obtain⟨hb,rfl⟩:=eB h;rw[aki,aki]at hb;exact⟨⟨dy.1 hb.1.1,hb.1.2,hb.2⟩,rfl,rfl,rfl⟩
theorem db.jE(hs:db G w a s)(h:jE s live m=some s'):db (G.cut m) w a s':=by
 obtain⟨J,h2,h3,h4⟩:=abL h;have hm:=hs.mask J;refine⟨hs.size.trans h2.symm,λi=> ?_,by rw[h4];exact JF hm.inv,hs.df⟩;have:=hm.tmp i
 change aD _ _ _ (bw (live.map λk=>(k,(bw s.t k).bz m)) i)at this
 rw[qC (λk=>(bw s.t k).bz m)]at this;rw[h3,qC (λk=>(bw s.t k).fin m)];split at this
 ·rename_i hi;rw[if_pos hi];exact this.nrm
 ·rename_i hi;rw[if_neg hi];exact .dead _
theorem LG{c:Code}{ι:Type}(live:ak4 Nat)(m:Nat)(st:ι->St)(I:ι->Prop)(μ:ι->Nat)(i0:ι)(hm:N0<=m)(h0:Go.Proofs.YtnnapanbbbcalaaGreatDoor.jE s live m=some (st i0))(hI:I i0)
 (round:∀i,I i->bD P r N0 c (hO (λs'=>∃i',Go.Proofs.YtnnapanbbbcalaaGreatDoor.jE s' live m=some (st i')/\I i'/\μ i'<μ i) Q) (st i)):bD P r N0 (.loop c) Q s:=by
 constructor
 intro G w a n hs _;refine Po (λ(i:ι) a' w'=>∃G',I i/\bP N0 G w G' w'/\N0<=G'.N/\db G' w' a' (st i)) μ i0 ⟨G.cut m,hI,ov _ _ _ _,hm,hs.jE h0⟩ ?_;rintro i a' w' ⟨G',hi,hE,hN,cM⟩;refine wpIn_mono ((round i hi).run G' w' a' n cM hN) λe a1 w1 hn=> ?_;obtain⟨G1,s1,hX,fK,eY,hq⟩:=hn;cases e with
 |normal=>
  obtain⟨i',J,h2,h3⟩:=hq;exact⟨i',⟨G1.cut m,h2,(hE.trans hX).trans (ov _ _ _ _),hm,eY.jE J⟩,h3⟩
 |_=>exact⟨G1,s1,hE.trans hX,fK,eY,hq⟩
theorem fA{c:Code}(live:ak4 Nat)(m:Nat)(hm:N0<=m)(h0:Go.Proofs.YtnnapanbbbcalaaGreatDoor.jE s live m=some s')(h:bD P r N0 c Q s'):bD P r N0 c Q s:=by
 constructor
 intro G w a n hs _;exact wpIn_mono (h.run (G.cut m) w a n (hs.jE h0) hm) λ_ _ _ hn=>hn.trans (ov N0 G w m)
theorem o9{c y:Code}{ι:Type}(live:ak4 Nat)(m:Nat)(st:ι->St)(I:ι->Prop)(hm:N0<=m)(hc:bD P r N0 c (hO (λs'=>∃i,Go.Proofs.YtnnapanbbbcalaaGreatDoor.jE s' live m=some (st i)/\I i) Q) s)(hy:∀i,I i->bD P r N0 y Q' (st i)):bD P r N0 c (hO (λs=>bD P r N0 y Q' s) Q) s:=by
 refine hc.mono λe s' h=> ?_;cases e with
 |normal=>obtain⟨i,J,h2⟩:=h;exact fA live m hm J (hy i h2)
 |_=>exact h
def qF(P:ak7)(s:St):ak4 ResultVar->ak6 (ak4 AV)
 |[]=>some []
 | .tmp t::l=>match qF P s l with
   |some xs=>some (bw s.t t::xs)
   |none=>none
 | .cell p t::l=>match vH s.h (bw s.t p)with
   |some (cs,off)=>match xx P t cs off,qF P s l with
    |some x,some xs=>some (x::xs)
    |_,_=>none
   |none=>none
def wF(P:ak7)(rs:ak4 ResultVar)(s:St):ak6 AV:=
 match qF P s rs with
 |some l=>bif ((jG l).bz 0).aC 0 then some ((jG l).fin 0)else none
 |none=>none
def kA(P:ak7)(fn:Func)(R:AV):Exit->St->Prop
 | .normal,s=>wF P fn.results.toList s=some R
 | .ret,s=>wF P fn.results.toList s=some R
 |_,_=>False
theorem CW:∀(l:ak4 ResultVar)(xs:ak4 AV)(C:ak4 AV->Prop),qF P s l=some xs->C xs->mj P s l C
 |[],xs,C,h,hC=>by cases h;exact hC
 | .tmp t::l,xs,C,h,hC=>by
   unfold qF at h;split at h
   ·next ys e=>cases h;exact CW l ys _ e hC
   ·cases h
 | .cell p t::l,xs,C,h,hC=>by
   unfold qF at h;split at h
   ·next cs off e=>
    split at h
    ·next x ys e1 e2=>cases h;exact Ns e e1 (CW l ys _ e2 hC)
    ·cases h
   ·cases h
theorem X0{fn:Func}{R:AV}(h:wF P fn.results.toList s=some R):qg P fn 0 (λr h'=>h'=[]/\r.nrm=R) s:=by
 unfold wF at h;split at h
 ·next l e=>
  obtain⟨hb,rfl⟩:=eB h;exact CW _ l _ e ⟨Nat.zero_le _,hb,by simp,by simp,rfl⟩
 ·cases h
theorem fa{fn:Func}{R:AV}(h:wF P fn.results.toList s=some R):kA P fn R .ret s:=h
theorem lU{f:FuncId}{fn:Func}{c:Code}{args:ak4 AV}{R:AV}(hf:P.funcs[f]?=some fn)(hb:fn.body=some c)(hn:(fn.name== "runtime.NumGoroutine")=false)
 (hw:bD P none 0 c (kA P fn R) {n:=args.length+(fn.ntmps-args.length),t:=lx 0 args,h:=[]}):fX P f args (·=R):=by
 have h:=tq (P:=P) (f:=f) (args:=args) (h:=[]) (K:=λr h'=>h'=[]/\r.nrm=R) 0 hf hb hn (akr _) (hw.mono λe s hq=>by
  cases e with
  |normal=>exact X0 hq
  |ret=>exact X0 hq
  |_=>exact hq.elim)
 refine⟨h.1,λG w vs hi hl hr=>(h.2 G w vs hi hl hr).mono λe w' hp=> ?_⟩;obtain⟨v,G',x,h',rfl,hE,hN,dY,hv,rfl,rfl⟩:=hp;exact⟨v,G',x.nrm,[],rfl,hE,hN,dY,hv.nrm,rfl,rfl⟩
theorem ake{c:Code}(b i:Nat)(xs:ak4 (ak4 D))(hx:((s.h[b]?).bind λB=>match B with| .cells cs=>(cs[i]?).bind AV.fF|_=>none)=some xs)(h:xs.length<=maxLen->bD P r N0 c Q s):bD P r N0 c Q s:=by
 constructor
 intro G w a n hs hN;cases hb:s.h[b]? with
 |none=>rw[hb]at hx;cases hx
 |some B=>
  rw[hb]at hx;cases B with
  |cells cs=>
   simp only[akf]at hx;obtain⟨_,_,vs,T,_,hl,hr⟩:=hs.inv.dn b _ hb;cases hc:cs[i]? with
   |none=>rw[hc]at hx;cases hx
   |some x=>
    rw[hc]at hx;have aL:i<vs.size:=by rw[hl];exact(akg.1 hc).1
    obtain⟨A,b',o,c',k',us,_,_,J,h2,_⟩:=((hr i _ x (akC aL) hc).list hx).oY;exact(h (aky J h2)).run G w a n hs hN
  |_=>cases hx
end
theorem aby{P:ak7}{r:ak6 Nat}{N0 id:Nat}{ol:ak4 Oper}{y:Code}{s:St}{Q Q':Exit->St->Prop}(Δ:ak4 (Nat×AV))(h':ak4 ao)(h:∃az:ak4 (Nat×Ob P),qc P false ol (iA az) (Δ.map (·.1)) s=some (Δ,h',iN az))(k:bD P r N0 y Q' ⟨s.n,Δ++s.t,h'⟩):bD P r N0 (.region id ol.toArray false) (hO (λs=>bD P r N0 y Q' s) Q) s:=
 let ⟨az,h⟩:=h;RV az Δ h' h k
theorem dc{α:Type}{c:Bool}{a b:α}(h:c=true):cond c a b=a:=by rw[h];rfl
theorem dG{α:Type}{c:Bool}{a b:α}(h:c=false):cond c a b=b:=by rw[h];rfl
theorem bg{α β:Type}{x:ak6 α}{f:α->ak6 β}{b:β}(h:Option.bind x f=some b):∃a,x=some a/\f a=some b:=by
 cases x with
 |none=>cases h
 |some a=>exact⟨a,rfl,h⟩
theorem dC(b:Bool):b=true\/b=false:=by cases b<;>simp
theorem cH{b:Bool}(h:b=true):(!b)=false:=by rw[h];rfl
theorem dq{b:Bool}(h:b=false):(!b)=true:=by rw[h];rfl
theorem my{α:Type}{c:Bool}{x:ak6 α}{r:α}(h:(bif c then x else none)=some r):c=true:=by
 cases c with
 |true=>rfl
 |false=>cases h
section
variable {P:ak7} {r:ak6 Nat} {N0 id n:Nat} {ol:ak4 Oper} {y:Code} {t:ak4 (Nat×AV)} {h:ak4 ao} {Q Q':Exit->St->Prop}
theorem rg(az:ak4 (Nat×Ob P))(Δ:ak4 (Nat×AV))(h':ak4 ao)(e:qc P false ol (iA az) (Δ.map (·.1)) ⟨n,t,h⟩=some (Δ,h',iN az))(k:bD P r N0 y Q' ⟨n,Δ++t,h'⟩):bD P r N0 (.region id ol.toArray false) (hO (λs=>bD P r N0 y Q' s) Q) ⟨n,t,h⟩:=RV az Δ h' e k
theorem rd(hm:P.follows .mixedOrders=true)(hl:qk ol.toArray=true)(az:ak4 (Nat×Ob P))(Δ:ak4 (Nat×AV))(h':ak4 ao)(e:qc P true ol (iA az) (Δ.map (·.1)) ⟨n,t,h⟩=some (Δ,h',iN az))(k:bD P r N0 y Q' ⟨n,Δ++t,h'⟩):bD P r N0 (.region id ol.toArray true) (hO (λs=>bD P r N0 y Q' s) Q) ⟨n,t,h⟩:=agO hm hl az Δ h' e k
theorem re(az:ak4 (Nat×Ob P))(Δ:ak4 (Nat×AV))(h':ak4 ao)(e:wE P false ol (iA az) ⟨n,t,h⟩=some (Δ++t,h',iN az))(k:Q .normal ⟨n,Δ++t,h'⟩):bD P r N0 (.region id ol.toArray false) Q ⟨n,t,h⟩:=aiz az Δ h' e k
theorem V6(hm:P.follows .mixedOrders=true)(hl:qk ol.toArray=true)(az:ak4 (Nat×Ob P))(Δ:ak4 (Nat×AV))(h':ak4 ao)(e:wE P true ol (iA az) ⟨n,t,h⟩=some (Δ++t,h',iN az))(k:Q .normal ⟨n,Δ++t,h'⟩):bD P r N0 (.region id ol.toArray true) Q ⟨n,t,h⟩:=af8 hm hl az Δ h' e k
theorem yB(Δ:ak4 (Nat×AV))(h':ak4 ao)(e:∃az:ak4 (Nat×Ob P),qc P false ol (iA az) (Δ.map (·.1)) ⟨n,t,h⟩=some (Δ,h',iN az))(k:bD P r N0 y Q' ⟨n,Δ++t,h'⟩):bD P r N0 (.region id ol.toArray false) (hO (λs=>bD P r N0 y Q' s) Q) ⟨n,t,h⟩:=aby Δ h' e k
end
def bs(l:ak4 UInt8):ak5:=⟨l.toArray⟩
def rV(x:D):Prop:=∃(S:Nat->Nat->Prop)(w:ak9)(u:ak8),dz S w u x
theorem Hl{xs:ak4 (ak4 D)}(h:rV (.sl xs)):xs.length<=maxLen:=by
 obtain⟨S,w,u,h⟩:=h;obtain⟨A,b',o,c',k',us,_,_,J,h2,_⟩:=h.oY;exact aky J h2
theorem Hp{xs:ak4 (ak4 D)}{i j:Nat}{c:ak4 D}{d:D}(h:rV (.sl xs))(hc:xs[i]?=some c)(hd:c[j]?=some d):rV d:=by
 obtain⟨S,w,u,h⟩:=h;obtain⟨A,b',o,c',k',us,_,_,J,h2,h3,h4,h5⟩:=h.oY;exact⟨S,w,_,h5 i j c d hc hd⟩
section
variable {P:ak7} {r:ak6 Nat} {n N0:Nat} {s:St} {Q:Exit->St->Prop}
theorem uc{c:Code}(k:Nat)(xs:ak4 (ak4 D))(hx:(bw s.t k).fF=some xs)(h:rV (.sl xs)->bD P r N0 c Q s):bD P r N0 c Q s:=by
 constructor
 intro G w a n hs hN;exact(h ⟨_,_,_,(hs.tmp k).list hx⟩).run G w a n hs hN
theorem Ym{c:Code}(b i:Nat)(xs:ak4 (ak4 D))(hx:((s.h[b]?).bind λB=>match B with| .cells cs=>(cs[i]?).bind AV.fF|_=>none)=some xs)(h:rV (.sl xs)->bD P r N0 c Q s):bD P r N0 c Q s:=by
 constructor
 intro G w a n hs hN;cases hb:s.h[b]? with
 |none=>rw[hb]at hx;cases hx
 |some B=>
  rw[hb]at hx;cases B with
  |cells cs=>
   simp only[akf]at hx;obtain⟨_,_,vs,T,_,hl,hr⟩:=hs.inv.dn b _ hb;cases hc:cs[i]? with
   |none=>rw[hc]at hx;cases hx
   |some x=>
    rw[hc]at hx;have aL:i<vs.size:=by rw[hl];exact(akg.1 hc).1
    exact(h ⟨_,_,_,(hr i _ x (akC aL) hc).list hx⟩).run G w a n hs hN
  |_=>cases hx
end
end Go.Proofs.YtnnapanbbbcalaaGreatDoor
namespace Go.Proofs.YtnnapanbbbcalaaGreatDoor
open Go.RowKit
mutual
def AV.fg(b:Nat)(ds:ak4 D):AV->AV
 | .ptr n off=>bif n==b then .bn [ds] 0 off else .ptr n off
 | .agg cs=> .agg (AV.sT b ds cs)
 | .aW cs=> .aW (AV.sT b ds cs)
 | .fn f cs=> .fn f (AV.sT b ds cs)
 |x=>x
def AV.sT(b:Nat)(ds:ak4 D):ak4 AV->ak4 AV
 |[]=>[]
 |x::l=>x.fg b ds::AV.sT b ds l
end
theorem CU(b:Nat)(ds:ak4 D):∀l,AV.sT b ds l=l.map (AV.fg b ds)
 |[]=>by simp [AV.sT]
 |x::l=>by simp [AV.sT,CU b ds l]
def ao.fg(b:Nat)(ds:ak4 D):ao->ao
 | .cells cs=> .cells (cs.map (AV.fg b ds))
 | .lp ls p as bd cs=> .lp ls p as bd (cs.map (AV.fg b ds))
 | .it sn cs=> .it sn (cs.map (AV.fg b ds))
 | .eO T cs=> .eO T (cs.map (AV.fg b ds))
 | .vec e k cs=> .vec e k (cs.map (·.map (AV.fg b ds)))
 |B=>B
def vr(s:St)(b:Nat):ak6 St:=
 match s.h[b]? with
 |some (.cells cs)=>match mr cs with
  |some ds=>some ⟨s.n,s.t.map λp=>(p.1,p.2.fg b ds),(s.h.map (ao.fg b ds)).set b .gone⟩
  |none=>none
 |_=>none
theorem Iq(f:AV->AV)(hf:f .dead= .dead):∀(t:ak4 (Nat×AV))(i:Nat),bw (t.map λp=>(p.1,f p.2)) i=f (bw t i)
 |[],i=>by simp [bw,hf]
 |(k,x)::l,i=>by
  simp only[akF,kO,Iq f hf l i];split<;>rfl
theorem aD.fg{G G':Gh}{w:ak9}{b:Nat}{ds:ak4 D}(hE:bP G.N G w G' w)(hN:G'.N=G.N)(hp:∀off,aD G' w (.pointer (some ⟨G.aM b,off,none⟩)) (.bn [ds] 0 off)){u:ak8}{x:AV}(h:aD G w u x):aD G' w u (x.fg b ds):=by
 have keep:∀{u:ak8}{x:AV},aD G w u x->aD G' w u x:=λh=>h.keep hE (Nat.le_of_eq hN.symm);have fG:∀(vs:Array ak8)(cs:ak4 AV),(∀(i:Nat)(u:ak8)(c:AV),vs[i]?=some u->cs[i]?=some c->aD G' w u (c.fg b ds))->∀(i:Nat)(u:ak8)(c:AV),vs[i]?=some u->(AV.sT b ds cs)[i]?=some c->aD G' w u c:=by
  intro vs cs ih i u c hu hc;rw[CU,akn]at hc;cases hx:cs[i]? with
  |none=>rw[hx]at hc;cases hc
  |some x=>rw[hx]at hc;cases hc;exact ih i u x hu hx
 induction h with
 |agg vs cs hl _ ih=>rw[AV.fg];exact .agg vs _ (by rw[CU,akl];exact hl) (fG vs cs ih)
 |aW vs cs hl _ ih=>rw[AV.fg];exact .aW vs _ (by rw[CU,akl];exact hl) (fG vs cs ih)
 |fn f vs cs hl _ ih=>rw[AV.fg];exact .fn f vs _ (by rw[CU,akl];exact hl) (fG vs cs ih)
 |ptr n off h=>
  rw[AV.fg,cond_eq_ite];split
  ·next e=>rw[beq_iff_eq]at e;subst e;exact hp off
  ·exact keep (.ptr n off h)
 |own n xs h hp hle hf=>simp only[AV.fg];exact keep (.own n xs h hp hle hf)
 |d h=>simp only[AV.fg];exact keep (.d h)
 |bn xs i off b o u x hx hS hu=>simp only[AV.fg];exact keep (.bn xs i off b o u x hx hS hu)
 |full xs hp hf=>simp only[AV.fg];exact keep (.full xs hp hf)
 |row n off len cap k h hl hm=>simp only[AV.fg];exact keep (.row n off len cap k h hl hm)
 |mp n h=>simp only[AV.fg];exact keep (.mp n h)
 |cp n h=>simp only[AV.fg];exact keep (.cp n h)
 |vec n o len L k h hs hL hf=>simp only[AV.fg];exact keep (.vec n o len L k h hs hL hf)
 |dF n i j L k h hs hL hf=>simp only[AV.fg];exact keep (.dF n i j L k h hs hL hf)
 |hid h J=>simp only[AV.fg];exact keep (.hid h J)
 |dead u=>simp only[AV.fg];exact .dead u
theorem Qd:∀(cs:ak4 AV)(ds:ak4 D),mr cs=some ds->cs.length=ds.length/\∀(i:Nat)(c:AV)(d:D),cs[i]?=some c->ds[i]?=some d->c.vy=some d
 |[],ds,h=>by unfold mr at h;cases h;exact⟨rfl,λi c d hc=>by simp at hc⟩
 |x::cs,ds,h=>by
  unfold mr at h;split at h
  ·next d l e1 e2=>
   cases h
   obtain⟨J,h2⟩:=Qd cs l e2;refine⟨by simp [J],λi c d' hc hd=> ?_⟩
   match i with
   |0=>simp only[List.getElem?_cons_zero,Option.some.injEq]at hc hd;subst hc;subst hd;exact e1
   |i+1=>exact h2 i c d' (by simpa using hc) (by simpa using hd)
  ·cases h
theorem aD.abz{G:Gh}{w:ak9}{u:ak8}{x:AV}{d:D}(h:aD G w u x)(hd:x.vy=some d):dz G.S w u d:=by
 cases h with
 |d h=>cases hd;exact h.sx
 |own n xs h hp=>cases hd;exact hp
 |full xs hp=>cases hd;exact hp
 |_=>cases hd
theorem db.vr{G:Gh}{w:ak9}{a:Act}{s s':St}{b:Nat}(hs:db G w a s)(h:vr s b=some s'):∃G',bP G.N G w G' w/\G'.N=G.N/\db G' w a s':=by
 unfold Go.Proofs.YtnnapanbbbcalaaGreatDoor.vr at h;split at h
 ·next cs hb=>
  split at h
  ·next ds qj=>
   cases h
   obtain⟨z1,z2,vs,T,z3,z4,z5⟩:=hs.inv.dn b _ hb;obtain⟨d1,d2⟩:=Qd cs ds qj;have l5:bR s.h G b=some (G.aM b):=dM hb;obtain⟨S,hS⟩:∃S:Nat->Nat->Prop,S=λb' o=>G.S b' o\/(b'=G.aM b/\o<ds.length):=⟨_,rfl⟩;have hE:bP G.N G w {G with S:=S} w:=⟨akr _,λb o h=>by show S b o;rw[hS];exact .inl h,λ_ _ _=>rfl,λ_ _=>rfl,λ_ _=> .inl ⟨rfl,rfl⟩,gQ rfl,λ_ _=>rfl,rfl,rfl,rfl,λb' o hs=>by
    have cM:S b' o:=hs;rw[hS]at cM;rcases cM with h|⟨rfl,_⟩
    ·exact .inl h
    ·exact .inr z1⟩
   have hp:∀off,aD {G with S:=S} w (.pointer (some ⟨G.aM b,off,none⟩)) (.bn [ds] 0 off):=λoff=>by
    have:=aD.bn (G:={G with S:=S}) (w:=w) [ds] 0 off (G.aM b) 0 (λj=>vs.getD j undef) ds rfl (λj hj=> ?_) (λj d hd=> ?_)
    ·rwa [akA]at this
    ·have iC:j<vs.size:=by rw[z4,d1];exact hj
     refine⟨by show S _ _;rw[hS];exact .inr ⟨rfl,by rw[akA];exact hj⟩,?_⟩;rw[akA,cell_of_row w (G.aM b) j vs T (0,0) z3];simp [Array.getD,iC]
    ·have hj:j<ds.length:=(akg.1 hd).1;have iC:j<vs.size:=by rw[z4,d1];exact hj
     have hc:cs[j]?=some cs[j]:=akk (by rw[d1];exact hj);have hv:=z5 j vs[j] _ (akC iC) hc;have e:vs.getD j undef=vs[j]:=by simp [Array.getD,iC]
     rw[e];exact(hv.abz (d2 j _ d hc hd)).keep hE.S hE.cell
   have hv:∀{u:ak8}{x:AV},aD G w u x->aD {G with S:=S} w u (x.fg b ds):=λh=>h.fg hE rfl hp;have afj:=(akg.1 hb).1;have fz:∀(n:Nat)(B:ao),((s.h.map (ao.fg b ds)).set b .gone)[n]?=some B->(n=b/\B= .gone)\/(n≠b/\∃B',s.h[n]?=some B'/\B=B'.fg b ds):=λn B hB=>by
    by_cases e:b=n
    ·subst e;rw[akJ (by rw[akl];exact afj)]at hB;cases hB;exact .inl ⟨rfl,rfl⟩
    ·rw[akO e,akn]at hB;cases hx:s.h[n]? with
     |none=>rw[hx]at hB;cases hB
     |some B'=>rw[hx]at hB;cases hB;exact .inr ⟨λh=>e h.symm,B',rfl,rfl⟩
   have eF:∀n x,bR ((s.h.map (ao.fg b ds)).set b .gone) {G with S:=S} n=some x->n≠b/\bR s.h G n=some x:=λn x hx=>by
    obtain⟨B,hn,hx⟩:=l9 hx;rcases fz n _ hn with⟨_,e⟩|⟨cN,B',J,rfl⟩
    ·subst e;cases hx
    ·refine⟨cN,?_⟩;rw[dM J,<-hx];cases B'<;>rfl
   refine⟨{G with S:=S},hE,rfl,hs.size,λi=> ?_,⟨by rw[List.length_set,akl];exact hs.inv.len,hs.inv.z,λb' o h=> ?_,λn B hB=> ?_,λm n x J h2=>hs.inv.inj m n x (eF m x J).2 (eF n x h2).2,hs.inv.gl.keep hE⟩,hs.df⟩
   ·show aD _ _ _ (bw (s.t.map λp=>(p.1,p.2.fg b ds)) i);rw[Iq (AV.fg b ds) (by simp [AV.fg])];exact hv (hs.tmp i)
   ·have cM:S b' o:=h;rw[hS]at cM;rcases cM with h|⟨rfl,_⟩
    ·exact hs.inv.S b' o h
    ·exact(akv.1 z3).1
   ·rcases fz n B hB with⟨rfl,rfl⟩|⟨cN,B',J,rfl⟩
    ·trivial
    ·have dR:=hs.inv.dn n B' J;cases B' with
     |gone=>trivial
     |map kv=>exact er.keep (G':={G with S:=S}) (hs.inv.lt J) hE (akr _) ⟨rfl,rfl,rfl⟩ (λc hc=>⟨rfl,λo jy hq=>by
      have cM:S c o:=hq;rw[hS]at cM;rcases cM with h|⟨e,_⟩
      ·exact jy h
      ·exact cN (hs.inv.inj n b _ ((dM J).trans hc) (by rw[e];exact l5))⟩) dR
     |ie kv=>exact er.keep (G':={G with S:=S}) (hs.inv.lt J) hE (akr _) ⟨rfl,rfl,rfl⟩ (λc hc=>⟨rfl,λo jy hq=>by
      have cM:S c o:=hq;rw[hS]at cM;rcases cM with h|⟨e,_⟩
      ·exact jy h
      ·exact cN (hs.inv.inj n b _ ((dM J).trans hc) (by rw[e];exact l5))⟩) dR
     |front e k len=>exact er.keep (G':={G with S:=S}) (hs.inv.lt J) hE (akr _) ⟨rfl,rfl,rfl⟩ (λc hc=>⟨rfl,λo jy hq=>by
      have cM:S c o:=hq;rw[hS]at cM;rcases cM with h|⟨e,_⟩
      ·exact jy h
      ·exact cN (hs.inv.inj n b _ ((dM J).trans hc) (by rw[e];exact l5))⟩) dR
     |byt e b2=>exact er.keep (G':={G with S:=S}) (hs.inv.lt J) hE (akr _) ⟨rfl,rfl,rfl⟩ (λc hc=>⟨rfl,λo jy hq=>by
      have cM:S c o:=hq;rw[hS]at cM;rcases cM with h|⟨e,_⟩
      ·exact jy h
      ·exact cN (hs.inv.inj n b _ ((dM J).trans hc) (by rw[e];exact l5))⟩) dR
     |cells cD=>
      obtain⟨c1,c2,fJ,T',c3,c4,c5⟩:=dR;have lr:bR s.h G n=some (G.aM n):=dM J;refine⟨c1,λo hq=> ?_,fJ,T',c3,by rw[akl];exact c4,λi u c hu hc=> ?_⟩
      ·have cM:S (G.aM n) o:=hq;rw[hS]at cM;rcases cM with h|⟨e,_⟩
       ·exact c2 o h
       ·exact cN (hs.inv.inj n b _ lr (by rw[e];exact l5))
      ·rw[akn]at hc;cases hx:cD[i]? with
       |none=>rw[hx]at hc;cases hc
       |some x=>rw[hx]at hc;cases hc;exact hv (c5 i u x hu hx)
     |lp ls p as bd cD=>
      obtain⟨c1,c2,fn,fJ,T',c3,c4,c5⟩:=dR;have lr:bR s.h G n=some (G.aM n):=dM J;refine⟨c1,λo hq=> ?_,fn,fJ,T',c3,by rw[akl];exact c4,λi u c hu hc=> ?_⟩
      ·have cM:S (G.aM n) o:=hq;rw[hS]at cM;rcases cM with h|⟨e,_⟩
       ·exact c2 o h
       ·exact cN (hs.inv.inj n b _ lr (by rw[e];exact l5))
      ·rw[akn]at hc;cases hx:cD[i]? with
       |none=>rw[hx]at hc;cases hc
       |some x=>rw[hx]at hc;cases hc;exact hv (c5 i u x hu hx)
     |it sn cD=>
      obtain⟨c1,c2,fn,fJ,T',c3,c4,c5⟩:=dR;have lr:bR s.h G n=some (G.aM n):=dM J;refine⟨c1,λo hq=> ?_,fn,fJ,T',c3,by rw[akl];exact c4,λi u c hu hc=> ?_⟩
      ·have cM:S (G.aM n) o:=hq;rw[hS]at cM;rcases cM with h|⟨e,_⟩
       ·exact c2 o h
       ·exact cN (hs.inv.inj n b _ lr (by rw[e];exact l5))
      ·rw[akn]at hc;cases hx:cD[i]? with
       |none=>rw[hx]at hc;cases hc
       |some x=>rw[hx]at hc;cases hc;exact hv (c5 i u x hu hx)
     |eO T0 cD=>
      obtain⟨c1,c2,fn,fJ,T',c3,c4,c5⟩:=dR;have lr:bR s.h G n=some (G.aM n):=dM J;refine⟨c1,λo hq=> ?_,fn,fJ,T',c3,by rw[akl];exact c4,λi u c hu hc=> ?_⟩
      ·have cM:S (G.aM n) o:=hq;rw[hS]at cM;rcases cM with h|⟨e,_⟩
       ·exact c2 o h
       ·exact cN (hs.inv.inj n b _ lr (by rw[e];exact l5))
      ·rw[akn]at hc;cases hx:cD[i]? with
       |none=>rw[hx]at hc;cases hc
       |some x=>rw[hx]at hc;cases hc;exact hv (c5 i u x hu hx)
     |vec e k cD=>
      obtain⟨c1,c2,c3,c4⟩:=dR;refine⟨by rw[akl];exact c1,by rw[akl];exact c2,λc hc=> ?_,?_⟩
      ·obtain⟨x,hx,rfl⟩:=List.mem_map.1 hc;rw[akl];exact c3 x hx
      ·rcases c4 with⟨d1,d2,A,d3⟩|⟨g,cap,cur,d1,d2,d3,d4,d5,d6,d7,d8,d9⟩
       ·exact .inl ⟨d1,by rw[d2];rfl,A,d3⟩
       ·have lr:bR s.h G n=some g:=(dM J).trans d1;refine .inr ⟨g,cap,cur,d1,by rw[akl];exact d2,d3,d4,by rw[akl];exact d5,d6,d7,λo hq=> ?_,λi j c x u hc hx hu=> ?_⟩
        ·have cM:S g o:=hq;rw[hS]at cM;rcases cM with h|⟨e,_⟩
         ·exact d8 o h
         ·exact cN (hs.inv.inj n b _ lr (by rw[e];exact l5))
        ·rw[akn]at hc;cases hy:cD[i]? with
         |none=>rw[hy]at hc;cases hc
         |some y=>
          rw[hy]at hc;cases hc
          rw[akn]at hx;cases hw:y[j]? with
          |none=>rw[hw]at hx;cases hx
          |some z=>rw[hw]at hx;cases hx;exact hv (d9 i j y z u hy hw hu)
  ·cases h
 ·cases h
theorem acv{P:ak7}{r:ak6 Nat}{N0:Nat}{c:Code}{s s':St}{Q:Exit->St->Prop}(b:Nat)(e:vr s b=some s')(h:bD P r N0 c Q s'):bD P r N0 c Q s:=by
 constructor
 intro G w a n hs hN;obtain⟨G',hE,EM,cM⟩:=hs.vr e;exact wpIn_mono (h.run G' w a n cM (by rw[EM];exact hN)) λ_ _ _ hn=>hn.trans (hE.less hN)
def D.wJ:D->Bool
 | .v u=>u.oneCell'
 | .sl _=>true
 | .ag _=>false
mutual
def AV.kill(b:Nat):AV->AV
 | .vec n o len L k=>bif n==b then .dead else .vec n o len L k
 | .dF n i j L k=>bif n==b then .dead else .dF n i j L k
 | .agg cs=> .agg (AV.FL b cs)
 | .aW cs=> .aW (AV.FL b cs)
 | .fn f cs=> .fn f (AV.FL b cs)
 |x=>x
def AV.FL(b:Nat):ak4 AV->ak4 AV
 |[]=>[]
 |x::l=>x.kill b::AV.FL b l
end
def ao.k9(f:AV->AV):ao->ao
 | .cells cs=> .cells (cs.map f)
 | .lp ls p as bd cs=> .lp ls p as bd (cs.map f)
 | .it sn cs=> .it sn (cs.map f)
 | .eO T cs=> .eO T (cs.map f)
 | .vec e k cs=> .vec e k (cs.map (·.map f))
 |B=>B
theorem ahs{G:Gh}{w:ak9}{h:ak4 ao}(hi:bU G w h){b:Nat}{S:Nat->Nat->Prop}{f:AV->AV}(hE:bP G.N G w {G with S:=S} w)(hS:∀c o,S c o->G.S c o\/bR h G b=some c)(hv:∀{u:ak8}{x:AV},aD G w u x->aD {G with S:=S} w u (f x)):
 bU {G with S:=S} w ((h.map (ao.k9 f)).set b .gone):=by
 have fz:∀(n:Nat)(B:ao),((h.map (ao.k9 f)).set b .gone)[n]?=some B->(n=b/\B= .gone)\/(n≠b/\∃B',h[n]?=some B'/\B=B'.k9 f):=λn B hB=>by
  by_cases e:b=n
  ·subst e;have aL:=(akg.1 hB).1;rw[List.length_set]at aL;rw[akJ aL]at hB;cases hB;exact .inl ⟨rfl,rfl⟩
  ·rw[akO e,akn]at hB;cases hx:h[n]? with
   |none=>rw[hx]at hB;cases hB
   |some B'=>rw[hx]at hB;cases hB;exact .inr ⟨λh=>e h.symm,B',rfl,rfl⟩
 have eF:∀n x,bR ((h.map (ao.k9 f)).set b .gone) {G with S:=S} n=some x->n≠b/\bR h G n=some x:=λn x hx=>by
  obtain⟨B,hn,hx⟩:=l9 hx;rcases fz n _ hn with⟨_,e⟩|⟨cN,B',J,rfl⟩
  ·subst e;cases hx
  ·refine⟨cN,?_⟩;rw[dM J,<-hx];cases B'<;>rfl
 refine⟨by rw[List.length_set,akl];exact hi.len,hi.z,λc o hs=> ?_,λn B hB=> ?_,λm n x J h2=>hi.inj m n x (eF m x J).2 (eF n x h2).2,hi.gl.keep hE⟩
 ·rcases hS c o hs with J|J
  ·exact hi.S c o J
  ·exact hi.gW J
 ·rcases fz n B hB with⟨rfl,rfl⟩|⟨cN,B',J,rfl⟩
  ·trivial
  ·have dR:=hi.dn n B' J;have fk:∀c,B'.dZ G n=some c->∀o,¬G.S c o->¬S c o:=λc hc o jy hq=>by
    rcases hS c o hq with h2|h2
    ·exact jy h2
    ·exact cN (hi.inj n b c ((dM J).trans hc) h2)
   cases B' with
   |gone=>trivial
   |map kv=>exact er.keep (G':={G with S:=S}) (hi.lt J) hE (akr _) ⟨rfl,rfl,rfl⟩ (λc hc=>⟨rfl,fk c hc⟩) dR
   |ie kv=>exact er.keep (G':={G with S:=S}) (hi.lt J) hE (akr _) ⟨rfl,rfl,rfl⟩ (λc hc=>⟨rfl,fk c hc⟩) dR
   |front e k len=>exact er.keep (G':={G with S:=S}) (hi.lt J) hE (akr _) ⟨rfl,rfl,rfl⟩ (λc hc=>⟨rfl,fk c hc⟩) dR
   |byt e b2=>exact er.keep (G':={G with S:=S}) (hi.lt J) hE (akr _) ⟨rfl,rfl,rfl⟩ (λc hc=>⟨rfl,fk c hc⟩) dR
   |cells cD=>
    obtain⟨c1,c2,fJ,T',c3,c4,c5⟩:=dR;refine⟨c1,λo=>fk _ rfl o (c2 o),fJ,T',c3,by rw[akl];exact c4,λi u c hu hc=> ?_⟩;rw[akn]at hc;cases hx:cD[i]? with
    |none=>rw[hx]at hc;cases hc
    |some x=>rw[hx]at hc;cases hc;exact hv (c5 i u x hu hx)
   |lp ls p as bd cD=>
    obtain⟨c1,c2,fn,fJ,T',c3,c4,c5⟩:=dR;refine⟨c1,λo=>fk _ rfl o (c2 o),fn,fJ,T',c3,by rw[akl];exact c4,λi u c hu hc=> ?_⟩;rw[akn]at hc;cases hx:cD[i]? with
    |none=>rw[hx]at hc;cases hc
    |some x=>rw[hx]at hc;cases hc;exact hv (c5 i u x hu hx)
   |it sn cD=>
    obtain⟨c1,c2,fn,fJ,T',c3,c4,c5⟩:=dR;refine⟨c1,λo=>fk _ rfl o (c2 o),fn,fJ,T',c3,by rw[akl];exact c4,λi u c hu hc=> ?_⟩;rw[akn]at hc;cases hx:cD[i]? with
    |none=>rw[hx]at hc;cases hc
    |some x=>rw[hx]at hc;cases hc;exact hv (c5 i u x hu hx)
   |eO T0 cD=>
    obtain⟨c1,c2,fn,fJ,T',c3,c4,c5⟩:=dR;refine⟨c1,λo=>fk _ rfl o (c2 o),fn,fJ,T',c3,by rw[akl];exact c4,λi u c hu hc=> ?_⟩;rw[akn]at hc;cases hx:cD[i]? with
    |none=>rw[hx]at hc;cases hc
    |some x=>rw[hx]at hc;cases hc;exact hv (c5 i u x hu hx)
   |vec e k cD=>
    obtain⟨c1,c2,c3,c4⟩:=dR;refine⟨by rw[akl];exact c1,by rw[akl];exact c2,λc hc=> ?_,?_⟩
    ·obtain⟨x,hx,rfl⟩:=List.mem_map.1 hc;rw[akl];exact c3 x hx
    ·rcases c4 with⟨d1,d2,A,d3⟩|⟨g,cap,cur,d1,d2,d3,d4,d5,d6,d7,d8,d9⟩
     ·exact .inl ⟨d1,by rw[d2];rfl,A,d3⟩
     ·refine .inr ⟨g,cap,cur,d1,by rw[akl];exact d2,d3,d4,by rw[akl];exact d5,d6,d7,λo=>fk g d1 o (d8 o),λi j c x u hc hx hu=> ?_⟩;rw[akn]at hc;cases hy:cD[i]? with
      |none=>rw[hy]at hc;cases hc
      |some y=>
       rw[hy]at hc;cases hc
       rw[akn]at hx;cases hw:y[j]? with
       |none=>rw[hw]at hx;cases hx
       |some z=>rw[hw]at hx;cases hx;exact hv (d9 i j y z u hy hw hu)
mutual
def AV.dB(b kk:Nat)(xs:ak4 (ak4 D)):AV->AV
 | .vec n o len L k=>bif n==b then(bif L==xs.length&&k==kk then .d (.sl ((xs.drop o).take len))else .dead)else .vec n o len L k
 | .dF n i j L k=>bif n==b then .dead else .dF n i j L k
 | .agg cs=> .agg (AV.oe b kk xs cs)
 | .aW cs=> .aW (AV.oe b kk xs cs)
 | .fn f cs=> .fn f (AV.oe b kk xs cs)
 |x=>x
def AV.oe(b kk:Nat)(xs:ak4 (ak4 D)):ak4 AV->ak4 AV
 |[]=>[]
 |x::l=>x.dB b kk xs::AV.oe b kk xs l
end
theorem uz(b kk:Nat)(xs:ak4 (ak4 D)):∀l,AV.oe b kk xs l=l.map (AV.dB b kk xs)
 |[]=>by simp [AV.oe]
 |x::l=>by simp [AV.oe,uz b kk xs l]
theorem aD.dB{G G':Gh}{w:ak9}{b kk:Nat}{xs:ak4 (ak4 D)}(hE:bP G.N G w G' w)(hN:G'.N=G.N)(hp:∀(u:ak8)(o len:Nat),aD G w u (.vec b o len xs.length kk)->dz G'.S w u (.sl ((xs.drop o).take len))){u:ak8}{x:AV}(h:aD G w u x):aD G' w u (x.dB b kk xs):=by
 have keep:∀{u:ak8}{x:AV},aD G w u x->aD G' w u x:=λh=>h.keep hE (Nat.le_of_eq hN.symm);have fG:∀(vs:Array ak8)(cs:ak4 AV),(∀(i:Nat)(u:ak8)(c:AV),vs[i]?=some u->cs[i]?=some c->aD G' w u (c.dB b kk xs))->∀(i:Nat)(u:ak8)(c:AV),vs[i]?=some u->(AV.oe b kk xs cs)[i]?=some c->aD G' w u c:=by
  intro vs cs ih i u c hu hc;rw[uz,akn]at hc;cases hx:cs[i]? with
  |none=>rw[hx]at hc;cases hc
  |some x=>rw[hx]at hc;cases hc;exact ih i u x hu hx
 induction h with
 |agg vs cs hl _ ih=>rw[AV.dB];exact .agg vs _ (by rw[uz,akl];exact hl) (fG vs cs ih)
 |aW vs cs hl _ ih=>rw[AV.dB];exact .aW vs _ (by rw[uz,akl];exact hl) (fG vs cs ih)
 |fn f vs cs hl _ ih=>rw[AV.dB];exact .fn f vs _ (by rw[uz,akl];exact hl) (fG vs cs ih)
 |vec n o len L k h hs hL hf=>
  rw[AV.dB,cond_eq_ite];split
  ·next e=>
   have e:n=b:=by simpa using e
   subst e;rw[cond_eq_ite];split
   ·next e2=>
    rw[aki,beq_iff_eq,beq_iff_eq]at e2;obtain⟨rfl,rfl⟩:=e2;exact .d (hp _ o len (.vec n o len _ _ h hs hL hf))
   ·exact .dead _
  ·exact keep (.vec n o len L k h hs hL hf)
 |dF n i j L k h hs hL hf=>
  rw[AV.dB,cond_eq_ite];split
  ·exact .dead _
  ·exact keep (.dF n i j L k h hs hL hf)
 |ptr n off h=>simp only[AV.dB];exact keep (.ptr n off h)
 |own n xs h hp hle hf=>simp only[AV.dB];exact keep (.own n xs h hp hle hf)
 |d h=>simp only[AV.dB];exact keep (.d h)
 |bn xs i off b o u x hx hS hu=>simp only[AV.dB];exact keep (.bn xs i off b o u x hx hS hu)
 |full xs hp hf=>simp only[AV.dB];exact keep (.full xs hp hf)
 |row n off len cap k h hl hm=>simp only[AV.dB];exact keep (.row n off len cap k h hl hm)
 |mp n h=>simp only[AV.dB];exact keep (.mp n h)
 |cp n h=>simp only[AV.dB];exact keep (.cp n h)
 |hid h J=>simp only[AV.dB];exact keep (.hid h J)
 |dead u=>simp only[AV.dB];exact .dead u
theorem db.Sq{G:Gh}{w:ak9}{a:Act}{s:St}(hs:db G w a s)(xs:ak4 (ak4 D)){b e k:Nat}(hb:s.h[b]?=some (.vec e k (ck xs)))(iU:∀c∈xs,c.all D.wJ=true)
 :∃G',bP G.N G w G' w/\G'.N=G.N/\db G' w a ⟨s.n,s.t.map λp=>(p.1,p.2.dB b k xs),(s.h.map (ao.k9 (AV.dB b k xs))).set b .gone⟩:=by
 obtain⟨L,hL⟩:∃L,xs.length=L:=⟨_,rfl⟩;have oV:(ck xs).length=L:=by unfold ck;rw[akl];exact hL
 have iX:=Cf hs.inv hb;have m5:∀d∈xs,d.length=k:=λd hd=>by
  have:=iX (d.map .d) (by unfold ck;exact List.mem_map.2 ⟨d,hd,rfl⟩)
  rwa [akl]at this
 obtain⟨S,hS⟩:∃S:Nat->Nat->Prop,S=λc o=>G.S c o\/(bR s.h G b=some c/\o<L*k):=⟨_,rfl⟩;have hE:bP G.N G w {G with S:=S} w:=⟨akr _,λb o h=>by show S b o;rw[hS];exact .inl h,λ_ _ _=>rfl,λ_ _=>rfl,λ_ _=> .inl ⟨rfl,rfl⟩,gQ rfl,λ_ _=>rfl,rfl,rfl,rfl,λc o hq=>by
  have cM:S c o:=hq;rw[hS]at cM;rcases cM with h|⟨h,_⟩
  ·exact .inl h
  ·obtain⟨B,hB,gV⟩:=l9 h;exact .inr ((hs.inv.dn b B hB).kH gV)⟩
 have SU:∀(u:ak8)(o len:Nat),aD G w u (.vec b o len xs.length k)->dz S w u (.sl ((xs.drop o).take len)):=λu o len tw=>by
  rw[hL]at tw;have ln:=tw.rY hs.inv hb oV;obtain⟨xZ,⟨A,cc,q1,q2,q3,q4,q5⟩,_⟩:=ln;generalize hy:(xs.drop o).take len=ys;have oh:ys.length=len:=by rw[<-hy,List.length_take,List.length_drop];omega
  rw[q1,<-oh];show dz S w _ _;by_cases hh0:True
  ·skip
   by_cases h0:len=0
   ·have:ys=[]:=List.eq_nil_of_length_eq_zero (by omega);subst this;exact .sl A 0 0 cc 0 [] (λ_ _=>undef) (λh=>absurd rfl h) (Nat.zero_le _) q3 (λ_ h=>absurd h akW) (λi j hi=>absurd hi (akI _)) (λi j x d hx=>by simp at hx)
   ·obtain⟨g,cap,s1,rfl,s3⟩:=q5 (by omega);obtain⟨g',Bb,cur,r1,r2,r3,r4,r5,r6,r7,r8,r9⟩:=CF hs.inv hb (λe=>by rw[e]at oV;simp at oV;omega);rw[r2]at s1;cases s1
    have l5:bR s.h G b=some g:=(dM hb).trans r1;have jo:∀i,i<len->ys[i]?=xs[o+i]?:=λi dY=>by rw[<-hy,List.getElem?_take_of_lt dY,List.getElem?_drop]
    have hJ:∀i j,i<len->j<k->o*k+i*k+j<cur.size:=λi j hi hj=>by
     have:=ma (i:=o+i) (k:=k) (L:=(ck xs).length) (j:=j) (by omega) hj;rw[Nat.add_mul]at this;have h2:(ck xs).length*k<=cap*k:=Nat.mul_le_mul_right k (by omega);rw[r7];omega
    have ry:∀(i j:Nat)(x:ak4 D)(d:D),i<len->ys[i]?=some x->x[j]?=some d->aD G w (cur.getD (o*k+i*k+j) undef) (.d d):=λi j x d hi hx hd=>by
     rw[jo i hi]at hx;have hj:j<k:=by rw[<-m5 x (akt hx)];exact(akg.1 hd).1
     refine r9 (o+i) j (x.map .d) (.d d) _ (by unfold ck;rw[akn,hx];rfl) (by rw[akn,hd];rfl) ?_;have hc:=hJ i j hi hj;rw[show(o+i)*k+j=o*k+i*k+j by rw[Nat.add_mul]];simp [Array.getD,hc]
    refine .sl _ g (o*k) cc k ys (λi j=>cur.getD (o*k+i*k+j) undef) (λ_=>rfl) (by omega) q3 (λx hx=> ?_) (λi j hi hj=>⟨?_,?_,?_⟩) (λi j x d hx hd=> ?_)
    ·rw[<-hy]at hx;exact m5 x (List.mem_of_mem_drop (List.mem_of_mem_take hx))
    ·rw[hS];refine .inr ⟨l5,?_⟩;have:=ma (i:=o+i) (k:=k) (L:=(ck xs).length) (j:=j) (by omega) hj;rw[Nat.add_mul]at this;exact this
    ·rw[cell_of_row w g _ cur e (0,0) r4];have hc:=hJ i j (by omega) hj;simp [Array.getD,hc]
    ·have dY:i<len:=by omega
     obtain⟨x,hx⟩:∃x,ys[i]?=some x:=⟨_,akk hi⟩;have zp:=hx;rw[jo i dY]at zp;have jO:=akt zp;obtain⟨d,hd⟩:∃d,x[j]?=some d:=⟨_,akk (by rw[m5 x jO];exact hj)⟩;refine(ry i j x d dY hx hd).jR ?_;have J:=iU x jO;rw[akG]at J;have h2:=J d (akt hd);cases d with
     |v u=>exact h2
     |sl l=>rfl
     |ag l=>exact absurd h2 Bool.false_ne_true
    ·have dY:i<len:=by rw[<-oh];exact(akg.1 hx).1
     have:=ry i j x d dY hx hd;generalize cur.getD (o*k+i*k+j) undef=q at this;cases this with|d h=>exact h.keep hE.S hE.cell
  ·exact(hh0 trivial).elim
 have hinv:=ahs (b:=b) (f:=AV.dB b k xs) hs.inv hE (λc o hq=>by rw[hS]at hq;exact hq.imp id And.left) (λhq=>hq.dB hE rfl SU);have cM:db {G with S:=S} w a ⟨s.n,s.t.map λp=>(p.1,p.2.dB b k xs),(s.h.map (ao.k9 (AV.dB b k xs))).set b .gone⟩:=by
  refine⟨hs.size,λi=> ?_,hinv,hs.df⟩;show aD _ _ _ (bw (s.t.map λp=>(p.1,p.2.dB b k xs)) i);rw[Iq (AV.dB b k xs) (by simp [AV.dB])];exact(hs.tmp i).dB hE rfl SU
 exact⟨_,hE,rfl,cM⟩
def vu(P:ak7)(rs:ak4 ResultVar)(m:Nat)(s:St):ak6 (AV×ak4 ao):=
 match qF P s rs with
 |some l=>bif ct m s.h.length&&((jG l).bz m).aC m&&(((s.h.take m).map (ao.bz m)).all (ao.aC m))then some (((jG l).bz m).nrm,((s.h.take m).map (ao.bz m)).map ao.pc)else none
 |none=>none
def tB(P:ak7)(fn:Func)(m:Nat)(R:AV)(H:ak4 ao):Exit->St->Prop
 | .normal,s=>vu P fn.results.toList m s=some (R,H)
 | .ret,s=>vu P fn.results.toList m s=some (R,H)
 |_,_=>False
theorem S0{P:ak7}{s:St}{fn:Func}{m:Nat}{R:AV}{H:ak4 ao}(h:vu P fn.results.toList m s=some (R,H)):qg P fn m (λr h'=>r.nrm=R/\h'.map ao.pc=H) s:=by
 unfold vu at h;split at h
 ·next l e=>
  obtain⟨hb,he⟩:=eB h;cases he
  simp only[aki,dy]at hb;exact CW _ _ _ e ⟨hb.1.1,hb.1.2,hb.2,rfl,rfl⟩
 ·cases h
theorem iT{P:ak7}{s:St}{fn:Func}{m:Nat}{R:AV}{H:ak4 ao}(h:vu P fn.results.toList m s=some (R,H)):tB P fn m R H .ret s:=h
theorem pj{P:ak7}{f:FuncId}{fn:Func}{c:Code}{args:ak4 AV}{h H:ak4 ao}{R:AV}(m:Nat)(hf:P.funcs[f]?=some fn)(hb:fn.body=some c)(hn:(fn.name== "runtime.NumGoroutine")=false)(hm:h.length<=m)
 (hw:bD P none h.length c (tB P fn m R H) {n:=args.length+(fn.ntmps-args.length),t:=lx 0 args,h:=h}):cZ P f args h λr1 J=>r1=R/\J=H:=by
 have h0:=tq (P:=P) (f:=f) (args:=args) (h:=h) (K:=λr h'=>r.nrm=R/\h'.map ao.pc=H) m hf hb hn hm (hw.mono λe s hq=>by
  cases e with
  |normal=>exact S0 hq
  |ret=>exact S0 hq
  |_=>exact hq.elim)
 refine⟨h0.1,λG w vs hi hl hr=>(h0.2 G w vs hi hl hr).mono λe w' hp=> ?_⟩;obtain⟨v,G',x,h',rfl,hE,hN,dY,hv,rfl,rfl⟩:=hp;exact⟨v,G',x.nrm,_,rfl,hE,hN,JF dY,hv.nrm,rfl,rfl⟩
theorem lG{P:ak7}{r:ak6 Nat}{N0:Nat}{c:Code}{s s':St}{Q:Exit->St->Prop}(e:s=s')(h:bD P r N0 c Q s'):bD P r N0 c Q s:=e▸h
def gv{V:Type}:ak4 (ak5×V)->ak5->V->V
 |[],_,d=>d
 |(k,v)::l,s,d=>bif bL k==bL s then v else gv l s d
def oy{V:Type}:ak4 (ak5×V)->ak5->Bool
 |[],_=>false
 |(k,_)::l,s=>bif bL k==bL s then true else oy l s
def fc(l:ak4 (ak5×Int)):ak4 (ak5×D):=l.map λp=>(p.1, .v (.int .i64 p.2))
def zO(l:ak4 (ak5×Bool)):ak4 (ak5×D):=l.map λp=>(p.1, .v (.bool p.2))
theorem Qn{V:Type}(f:V->D):∀(l:ak4 (ak5×V))(s:ak5)(d:V),kE (l.map λp=>(p.1,f p.2)) s=bif oy l s then some (f (gv l s d))else none
 |[],s,d=>rfl
 |(k,v)::l,s,d=>by
  simp only[akF,kE,oy,gv];cases bL k==bL s with
  |true=>rfl
  |false=>simp only[cond_false];exact Qn f l s d
theorem Vw{V:Type}:∀(l:ak4 (ak5×V))(s:ak5)(d:V),oy l s=false->gv l s d=d
 |[],s,d,_=>rfl
 |(k,v)::l,s,d,h=>by
  unfold oy at h;unfold gv;cases e:bL k==bL s with
  |true=>rw[e]at h;cases h
  |false=>rw[e]at h;simp only[cond_false];exact Vw l s d h
theorem Pj{V:Type}(f:V->D)(F:V->AV)(hF:∀x,DU (f x)=F x)(z:ak8)(d0:V)(hz:xX z=F d0)(ok:Bool)(l:ak4 (ak5×V))(s:ak5):
 pN ok z (kE (l.map λp=>(p.1,f p.2)) s)=bif ok then .aW [F (gv l s d0), .d (.v (.bool (oy l s)))]else F (gv l s d0):=by
 rw[Qn f l s d0];cases e:oy l s with
 |true=>cases ok<;>simp only[pN,cond_true,cond_false,hF]
 |false=>rw[Vw l s d0 e];cases ok<;>simp only[pN,cond_true,cond_false,hz]
theorem Ds(ok:Bool)(l:ak4 (ak5×Int))(s:ak5):pN ok (.int .i64 0) (kE (fc l) s)=bif ok then .aW [.d (.v (.int .i64 (gv l s 0))), .d (.v (.bool (oy l s)))]else .d (.v (.int .i64 (gv l s 0))):=
 Pj (λn=> .v (.int .i64 n)) (λn=> .d (.v (.int .i64 n))) (λ_=>rfl) _ 0 rfl ok l s
theorem acI(ok:Bool)(l:ak4 (ak5×Bool))(s:ak5):pN ok (.bool false) (kE (zO l) s)=bif ok then .aW [.d (.v (.bool (gv l s false))), .d (.v (.bool (oy l s)))]else .d (.v (.bool (gv l s false))):=
 Pj (λn=> .v (.bool n)) (λn=> .d (.v (.bool n))) (λ_=>rfl) _ false rfl ok l s
def bY{α:Type}(f:α->ak4 D)(l:ak4 (ak5×α)):ak4 (ak5×D):=l.map λp=>(p.1, .ag (f p.2))
theorem adX{α:Type}(f:α->ak4 D)(z:ak8)(d0:α)(hz:xX z= .agg ((f d0).map .d))(ok:Bool)(l:ak4 (ak5×α))(s:ak5):
 pN ok z (kE (bY f l) s)=bif ok then .aW [.agg ((f (gv l s d0)).map .d), .d (.v (.bool (oy l s)))]else .agg ((f (gv l s d0)).map .d):=
 Pj (λx=> .ag (f x)) (λx=> .agg ((f x).map .d)) (λ_=>rfl) _ d0 hz ok l s
theorem aaZ{α:Type}{f:α->ak4 D}{l:ak4 (ak5×α)}(h:Nat.blt l.length 9223372036854775807=true):(Sd.lt (bY f l).length).ok:=by
 unfold bY;rw[akl];exact ako h
theorem J5{l:ak4 (ak5×Int)}(h:Nat.blt l.length 9223372036854775807=true):(Sd.lt (fc l).length).ok:=by
 unfold fc;rw[akl];exact ako h
theorem aah{l:ak4 (ak5×Bool)}(h:Nat.blt l.length 9223372036854775807=true):(Sd.lt (zO l).length).ok:=by
 unfold zO;rw[akl];exact ako h
def gI(g:Nat):ak4 Int:=((xw w8 g).getD []).map λv=>match v with| .int _ n=>n|_=>0
def abc(l:ak4 Int):ak5:=⟨(l.map λn=>UInt8.ofNat n.toNat).toArray⟩
theorem acO{α:Type}{c:Bool}{x y z:α}(h:(bif c then x else y)=z):(c=true/\x=z)\/(c=false/\y=z):=by
 cases c with
 |true=>exact .inl ⟨rfl,h⟩
 |false=>exact .inr ⟨rfl,h⟩
inductive HD
 |same
 |push (B:ao)
 |set (n:Nat) (B:ao)
def HD.app:HD->ak4 ao->ak4 ao
 | .same,h=>h
 | .push B,h=>h++[B]
 | .set n B,h=>h.set n B
def zN:Int->ak6 Nat
 | .ofNat n=>some n
 | .negSucc _=>none
theorem B7{z:Int}{n:Nat}(h:zN z=some n):0<=z/\z.toNat=n:=by
 cases z with
 |ofNat m=>cases h;exact⟨Int.natCast_nonneg _,rfl⟩
 |negSucc m=>cases h
def sc(ρ:Operand->AV)(d:Nat):ak6 Operand->ak6 Nat
 |none=>some d
 |some y=>match (ρ y).int? with
  |some z=>zN z
  |none=>none
def BT(k:Nat)(xs:ak4 (ak4 D)):Bool:=xs.all λc=>c.length==k
def E1(P:ak7)(T:TypeId)(x i:AV):ak6 AV:=
 match eS P T with
 |some (_,k)=>match x with
  | .row n off len _ k'=>match i.int? with
    |some z=>match zN z with
     |some q=>bif k'==k&&ct (q+1) len then some (.ptr n (off+q*k))else none
     |none=>none
    |none=>none
  |x=>match x.fF,i.int? with
   |some xs,some z=>match zN z with
    |some q=>match xs[q]? with
     |some c=>bif c.length==k then some (.bn [c] 0 0)else none
     |none=>none
    |none=>none
   |_,_=>none
 |none=>match sE P T,x,i.int? with
  |some (n,_,k), .ptr b off,some z=>match zN z with
   |some q=>bif ct (q+1) n then some (.ptr b (off+q*k))else none
   |none=>none
  |some (n,_,k), .bn xs e off,some z=>match zN z with
   |some q=>bif k==1&&ct (q+1) n then match xs[e]? with
    |some c=>match c[off+q]? with
     |some d=>some (.bn [[d]] 0 0)
     |none=>none
    |none=>none
    else none
   |none=>none
  |_,_,_=>none
theorem ag0{P:ak7}{T:TypeId}{x i y:AV}{K:AV->Prop}(h:E1 P T x i=some y)(hK:K y):rJ P T x i K:=by
 unfold E1 at h;unfold rJ;split at h
 ·next e k eT=>
  simp only[eT];split at h
  ·next n off len cap k'=>
   simp only;split at h
   ·next z ez=>
    simp only[ez];split at h
    ·next q eq=>
     obtain⟨h0,J⟩:=B7 eq;obtain⟨hb,he⟩:=eB h;rw[aki,dy]at hb;refine bV.2 ⟨hb.1,h0,by omega,?_⟩;rw[J,he];exact hK
    ·cases h
   ·cases h
  ·next x' nG=>
   split at h
   ·next xs z e1 e2=>
    split at h
    ·next q eq=>
     obtain⟨h0,J⟩:=B7 eq;split at h
     ·next c ec=>
      obtain⟨hb,he⟩:=eB h;simp only[e1,e2];refine⟨h0,?_⟩;rw[J,ec];exact⟨by simpa using hb,by rw[he];exact hK⟩
     ·cases h
    ·cases h
   ·cases h
 ·next eT=>
  simp only[eT];split at h
  ·next n e k b off z e1 e2=>
   simp only[e1,e2];split at h
   ·next q eq=>
    obtain⟨h0,J⟩:=B7 eq;obtain⟨hb,he⟩:=eB h;rw[dy]at hb;exact⟨h0,by omega,by rw[J,he];exact hK⟩
   ·cases h
  ·next n e0 k xs e off z e1 e2=>
   simp only[e1,e2];split at h
   ·next q eq=>
    obtain⟨h0,J⟩:=B7 eq;obtain⟨hb,h⟩:=j7 h;rw[aki,dy]at hb;split at h
    ·next c ec=>
     split at h
     ·next d ed=>
      cases h
      refine bV.2 ⟨hb.1,h0,by omega,?_⟩;rw[ec];simp only;rw[J,ed];exact hK
     ·cases h
    ·cases h
   ·cases h
  ·cases h
def aj4(P:ak7)(T:TypeId)(ρ:Operand->AV)(x:AV)(lo hi mx:ak6 Operand):ak6 AV:=
 match mx with
 |none=>
  match x with
  | .d (.v (.string b))=>match sc ρ b.size hi,sc ρ 0 lo with
    |some h,some l=>bif gZ P T&&ct h b.size&&ct l h then some (.d (.v (.string (b.extract l h))))else none
    |_,_=>none
  | .ptr n off=>match sE P T with
    |some (m,_,k)=>match sc ρ m hi,sc ρ 0 lo with
     |some h,some l=>bif ct m 4096&&ct h m&&(ct l h&& !ct m l)then some (.row n (off+l*k) (h-l) (m-l) k)else none
     |_,_=>none
    |none=>none
  |x=>match x.fF,eS P T with
   |some xs,some (_,k)=>match sc ρ xs.length hi,sc ρ 0 lo with
    |some h,some l=>bif BT k xs&&ct h xs.length&&ct l h then some (.d (.sl ((xs.take h).drop l)))else none
    |_,_=>none
   |_,_=>none
 |some m=>match lo,hi with
  |none,some y=>match x.fF,eS P T with
   |some xs,some (_,k)=>match sc ρ 0 (some m),sc ρ 0 (some y)with
    |some c,some h=>bif BT k xs&&ct c xs.length&&h==c then some (.full (xs.take h))else none
    |_,_=>none
   |_,_=>none
  |_,_=>none
def aj3(P:ak7)(T:TypeId)(h:ak4 ao)(x y:AV):ak6 (AV×HD):=
 match eS P T with
 |some (e,k)=>match iw P e,px P e with
  |some z,some de=>match H8 h k y with
   |some ys=>bif ct 1 k&&z.cells.toList.length==k&&BT k ys then
    match x with
    | .own n xs=>match h[n]? with
      |some (.front e' k' len)=>bif e'==e&&k'==k&&len==xs.length&&BT k xs&&ct (xs.length+ys.length) maxLen&&ct ((xs.length+ys.length)*de) 140737488355328 then some (.own n (xs++ys), .set n (.front e k (xs.length+ys.length)))else none
      |_=>none
    | .d (.v (.slice none 0 0))=>bif ct ys.length maxLen&&ct (ys.length*de) 140737488355328 then some (.own h.length ys, .push (.front e k ys.length))else none
    | .full xs=>bif BT k xs&&ct (xs.length+ys.length) maxLen&&ct ((xs.length+ys.length)*de) 140737488355328 then some (.own h.length (xs++ys), .push (.front e k (xs.length+ys.length)))else none
    |_=>none
    else none
   |none=>none
  |_,_=>none
 |none=>none
def W6:ak4 (ak4 D)->ak6 (ak4 Int)
 |[]=>some []
 |[.v (.int .u8 n)]::l=>match W6 l with
  |some ns=>some (n::ns)
  |none=>none
 |_=>none
def Kk:ak6 (AV×In)->ak6 AV
 |some (x, .none)=>some x
 |some (x, .nz b)=>bif b==0 then none else some x
 |some (x, .nn b)=>match zN b with
  |some _=>some x
  |none=>none
 |some (x, .cat n)=>bif ct n maxLen then some x else none
 |_=>none
theorem agt{r:ak6 (AV×In)}{x:AV}(P:ak7)(h:Kk r=some x):∃i,r=some (x,i)/\OK P i .ok:=by
 unfold Kk at h;split at h
 ·cases h;exact⟨_,rfl, .none⟩
 ·next b=>
  cases hb:b==0 with
  |true=>rw[hb]at h;cases h
  |false=>rw[hb]at h;cases h;exact⟨_,rfl, .nz (by simpa using hb)⟩
 ·next b=>
  split at h
  ·next e=>cases h;exact⟨_,rfl, .nn (B7 e).1⟩
  ·cases h
 ·obtain⟨hb,he⟩:=eB h;cases he
  exact⟨_,rfl, .cat (dy.1 hb)⟩
 ·cases h
def pX(r:ak6 AV):ak6 (AV×HD):=
 match r with
 |some x=>some (x, .same)
 |none=>none
def aj9(P:ak7)(src dst:TypeId)(x:AV):ak6 AV:=
 match Ge P src dst x .none with
 |some (y, .none)=>some y
 |_=>match x.fF,eS P src with
  |some xs,some (e,_)=>match W6 xs with
   |some ns=>match x with
    | .d (.v _)=>none
    |_=>bif BP P e&&gZ P dst then some (.d (.v (.string (abc ns))))else none
   |none=>none
  |_,_=>none
def lF(P:ak7)(op:Op)(ρ:Operand->AV)(h:ak4 ao):ak6 (AV×HD):=
 match op with
 | .move x| .assign x=>some (ρ x, .same)
 | .pick c x y=>match ρ c with
   | .d (.v (.bool b))=>some (bif b then ρ x else ρ y, .same)
   |_=>none
 | .alloc e=>match iw P e with
   |some z=>some (.ptr h.length 0, .push (.cells (z.cells.toList.map λu=> .d (.v u))))
   |none=>none
 | .box _ x=>bif (ρ x).jl then some (.ptr h.length 0, .push (.cells (ρ x).cells))else none
 | .load t p=>match vH h (ρ p)with
   |some (cs,off)=>pX (xx P t cs off)
   |none=>none
 | .store t p x=>match ρ p with
   | .ptr n off=>match h[n]? with
     |some (.cells cs)=>match gj P t with
      |some k=>bif k==(ρ x).cells.length&&(ρ x).jl&&ct (off+(ρ x).cells.length) cs.length then some (.d (.v undef), .set n (.cells (iz cs off (ρ x).cells)))else none
      |none=>none
     |_=>none
   |_=>none
 | .nilCheck x=>match ρ x with
   | .ptr n off=>some (.ptr n off, .same)
   | .bn xs i off=>some (.bn xs i off, .same)
   | .fn f cs=>some (.fn f cs, .same)
   |_=>none
 | .fieldAddr S x f=>match qU P S f with
   |some (fo,_,_)=>match ρ x with
    | .ptr n off=>some (.ptr n (off+fo), .same)
    | .bn xs i off=>some (.bn xs i (off+fo), .same)
    |_=>none
   |none=>none
 | .field T x f=>pX (Ih P T (ρ x) f)
 | .indexAddr T x i=>pX (E1 P T (ρ x) (ρ i))
 | .extract x i=>match ρ x with
   | .aW cs=>match cs[i]? with
     |some c=>some (c, .same)
     |none=>none
   |_=>none
 | .makeFunc (.func f) first di=>match first.toList with
   |[]=>some (.fn f (di.toList.map ρ), .same)
   |_=>none
 | .binOp op T x y _=>pX (Kk (FK P T op (ρ x) (ρ y)))
 | .unOp op _ x=>match ρ x with
   | .d (.v u)=>match II op u with
     |some v=>some (.d (.v v), .same)
     |none=>none
   |_=>none
 | .call c=>match c.callee with
   | .builtin .len=>match c.args.toList,c.argTypes.toList with
     |[x],[T]=>match ρ x with
      | .d (.v (.string s))=>bif gZ P T then some (.d (.v (.int .i64 s.size)), .same)else none
      | .row _ _ len _ _=>bif (eS P T).isSome then some (.d (.v (.int .i64 len)), .same)else none
      |x=>match x.fF with
       |some xs=>bif (eS P T).isSome then some (.d (.v (.int .i64 xs.length)), .same)else none
       |none=>none
     |_,_=>none
   |_=>none
 |_=>none
theorem Jc{r:ak6 AV}{x:AV}{d:HD}(h:pX r=some (x,d)):r=some x/\d= .same:=by
 unfold pX at h;split at h
 ·cases h;exact⟨rfl,rfl⟩
 ·cases h
theorem Rg{P:ak7}{o:Oper}{ρ:Operand->AV}{h:ak4 ao}{x:AV}{d:HD}{C:AV->ak4 ao->Prop}(J:lF P o.op ρ h=some (x,d))(hC:C x (d.app h)):cT P o ρ h C:=by
 obtain⟨dst,op,type,pos,after,guard⟩:=o;simp only at J;unfold lF at J;unfold cT;split at J
 ·cases J;exact hC
 ·cases J;exact hC
 ·next c y z=>
  split at J
  ·next b e=>
   cases J
   simp only[e];cases b with
   |true=>exact⟨λ_=>hC,λh=>Bool.noConfusion h⟩
   |false=>exact⟨λh=>Bool.noConfusion h,λ_=>hC⟩
  ·cases J
 ·split at J
  ·next z e=>cases J;simp only[e];exact hC
  ·cases J
 ·obtain⟨hb,he⟩:=eB J;cases he;exact bV.2 ⟨hb,hC⟩
 ·split at J
  ·next cs off e=>
   obtain⟨e2,rfl⟩:=Jc J;exact Ns e e2 hC
  ·cases J
 ·split at J
  ·next n off e=>
   split at J
   ·next cs e2=>
    split at J
    ·next k e3=>obtain⟨hb,he⟩:=eB J;cases he;simp only[e,wG,e2,e3];exact bV.2 ⟨hb,hC⟩
    ·cases J
   ·cases J
  ·cases J
 ·split at J
  ·next e=>cases J;simp only[e];exact hC
  ·next e=>cases J;simp only[e];exact hC
  ·next e=>cases J;simp only[e];exact hC
  ·cases J
 ·split at J
  ·next e=>
   simp only[e];split at J
   ·next e2=>cases J;simp only[e2];exact hC
   ·next e2=>cases J;simp only[e2];exact hC
   ·cases J
  ·cases J
 ·obtain⟨e,rfl⟩:=Jc J;exact Qz e hC
 ·obtain⟨e,rfl⟩:=Jc J;exact ag0 e hC
 ·split at J
  ·next e=>
   split at J
   ·next e2=>cases J;simp only[e,e2];exact hC
   ·cases J
  ·cases J
 ·split at J
  ·next e=>cases J;simp only[e];exact hC
  ·cases J
 ·obtain⟨e,rfl⟩:=Jc J;obtain⟨i,e2,ca⟩:=agt P e;exact Vh e2 ca hC
 ·unfold vD;split at J
  ·next e=>
   split at J
   ·next e2=>cases J;simp only[e,e2];exact hC
   ·cases J
  ·cases J
 ·next c=>
  split at J
  ·next hc=>
   simp only[hc];split at J
   ·next y T e1 e2=>
    simp only[e1,e2];unfold qw;split at J
    ·next s e=>obtain⟨hb,he⟩:=eB J;cases he;simp only[e];exact bV.2 ⟨hb,hC⟩
    ·next e=>obtain⟨hb,he⟩:=eB J;cases he;simp only[e];exact bV.2 ⟨hb,hC⟩
    ·next n1 n2=>
     split at J
     ·next xs e=>
      obtain⟨hb,he⟩:=eB J;cases he;split
      ·next s e'=>exact absurd e' (n1 s)
      ·next e'=>exact absurd e' (n2 _ _ _ _ _)
      ·simp only[e];exact bV.2 ⟨hb,hC⟩
     ·cases J
   ·cases J
  ·cases J
 ·cases J
def dx(n:Nat)(t:ak4 (Nat×AV)):ak4 AV:=(List.range n).map (bw t)
theorem Yo{n:Nat}{t:ak4 (Nat×AV)}{i:Nat}{c:AV}(h:(dx n t)[i]?=some c):bw t i=c:=by
 unfold dx at h;rw[akn]at h;by_cases hi:i<n
 ·rw[List.getElem?_range hi]at h;exact akz h
 ·rw[akM (by simpa using hi)]at h;cases h
def KE(P:ak7)(N0:Nat)(Q:Exit->St->Prop)(s:St):LS->Prop
 | .ready=>Q .normal s
 | .done c=>bD P none N0 c Q s
 | .busy=>False
theorem afX{P:ak7}{N0:Nat}{s:St}{Q:Exit->St->Prop}{g:Operand}{p:Nat}{assign body:Code}{gf:FuncId}{di:ak4 AV}(hg:ev s g= .fn gf di)
 (hc:cZ P gf (.cp s.h.length::di) (s.h++[.lp .ready p assign body (dx s.n s.t)]) λ_ h'=>∃(ls:LS)(p1:Nat)(rC qR:Code)(vc:ak4 AV),h'[s.h.length]?=some (.lp ls p1 rC qR vc)/\KE P N0 Q ⟨s.n,s.t,h'.set s.h.length .gone⟩ ls):
 bD P none N0 (.rangeFunc g #[p] assign body) Q s:=by
 constructor
 intro G w a n hs hN;have hv:=hs.ev g;rw[hg]at hv;obtain⟨lb,ea,hl,hr⟩:∃lb:Array ak8,a.eval g= .func (.func gf) #[] lb/\lb.size=di.length/\∀(i:Nat)(u:ak8)(c:AV),lb[i]?=some u->di[i]?=some c->aD G w u c:=by
  generalize a.eval g=u at hv;cases hv with|fn _ vs _ hl hr=>exact⟨vs,rfl,hl,hr⟩
 obtain⟨CS,ji⟩:=hc;refine wpIn_rangeFunc (F:=WF none) ?_;intro fn _;obtain⟨Ap,Wm⟩:=aaM hs.inv;obtain⟨G0,kf⟩:∃G0:Gh,G0={G with Z:=λb=>G.Z b\/b=w.heap.size}:=⟨_,rfl⟩;obtain⟨w0,pv⟩:∃w0,w0=w.alloc (.deferred (some [])):=⟨_,rfl⟩;rw[<-kf,<-pv]at Ap Wm;have cw:G0.N=G.N:=by rw[kf]
 have ic:w0.heap.size=w.heap.size+1:=by rw[pv];simp
 obtain⟨hX,wD,OL⟩:=aiv Wm fn a.tmps w.heap.size p assign body (dx s.n s.t) (by simp [dx,hs.size]) λi u c hu hc=>by
  have h9:=hs.tmp i;rw[Yo hc]at h9;have e:a.tmps.getD i undef=u:=by
   have aL:=(akv.1 hu).1;rw[akC aL]at hu;simp [Array.getD,aL];exact akz hu
  rw[e]at h9;exact h9.keep Ap (Nat.le_of_eq cw.symm)
 obtain⟨w1,ye⟩:∃w1,w1=w0.alloc (.loop {state:= .ready,pending:=none,fn:=fn,tmps:=a.tmps,params:= #[p],assign:=assign,body:=body,defers:=w.heap.size}):=⟨_,rfl⟩;obtain⟨G1,J3⟩:∃G1:Gh,G1=G0.dg w0.heap.size:=⟨_,rfl⟩;rw[<-ye,<-J3]at hX wD OL;have fK:G1.N=G.N+1:=by rw[J3,<-cw];rfl
 have aa7:G1.aM s.h.length=w.heap.size+1:=by rw[J3,hs.inv.len,<-cw];simp [Gh.dg,ic]
 rw[ic]at OL;have Us:bP G.N G w G1 w1:=Ap.trans (hX.less (Nat.le_of_eq cw.symm));refine⟨w.heap.size+1,[{target:= .collected w.heap.size,args:= #[]}],w1,{target:= .fn (.func gf) lb,args:= #[.func (.yield (w.heap.size+1)) #[] #[]]},w1,gf, #[.func (.yield (w.heap.size+1)) #[] #[]]++lb,w1,?_,?_,λ_ _=>trivial,?_,λh=>(by simp [WF,Fence.wide]at h),?_⟩
 ·rw[ye,pv];exact run_enterLoop_outer _ _ _ _ _
 ·simp only[resolve,ea];simp [Deferred.ofValue,go_sem]
 ·simp [invoke,OF CS]
 have hK:=ji G1 w1 (#[.func (.yield (w.heap.size+1)) #[] #[]]++lb) wD (by simp [hl];omega) (λi u c hu hc=>by
  match i with
  |0=>
   rw[Array.getElem?_append_left (by simp)]at hu;simp at hu hc;subst hu;subst hc;exact OL
  |i+1=>
   rw[Array.getElem?_append_right (by simp)]at hu;simp at hu hc;exact(hr i u c hu hc).keep Us (by rw[fK];exact Nat.le_succ _))
 refine CallsIn.mono (F:=WF none) (callsIn_wide (n:=n-1).2 hK) ?_;rintro e w2 ⟨v,G2,r,h',rfl,ja,hN2,EK,_,ls,p1,rC,qR,vc,hk,M5⟩;have zJ:s.h.length<G1.N:=by rw[hs.inv.len,fK];exact ak2 _
 have Bx:G2.aM s.h.length=w.heap.size+1:=(ja.aM _ zJ).trans aa7;obtain⟨_,fn2,ZM,D2,g3,g4,g5,TI⟩:=EF EK hk;rw[Bx]at g3;have hEa:bP G.N G w G2 w2:=Us.trans (ja.less (by rw[fK];exact Nat.le_succ _));have Hr:G.N<=G2.N:=by rw[fK]at hN2;omega
 obtain⟨ob,l5⟩:∃ob:Obj,ob= .loop {state:= .exhausted,pending:=ls.pd,fn:=fn2,tmps:=ZM,params:= #[p1],assign:=rC,body:=qR,defers:=D2}:=⟨_,rfl⟩;obtain⟨zE,zI⟩:=aeL EK hk ob;rw[Bx]at zE zI;have Dh:bP G.N G w G2 (w2.putObj (w.heap.size+1) ob):=hEa.trans (zE.less Hr);have hM:=hs.inv.gl.2;have zG:G0.Z w.heap.size:=by rw[kf];exact .inr rfl
 have PF:G2.Z w.heap.size:=ja.Z.1.1 _ (hX.Z.1.1 _ zG);have hDh:(w2.putObj (w.heap.size+1) ob).heap[w.heap.size]?=some (.deferred (some [])):=by
  rw[zE.old _ PF,ja.old _ (hX.Z.1.1 _ zG),hX.old _ zG,pv];exact World.alloc_heap_new w _
 have cM:db G2 (w2.putObj (w.heap.size+1) ob) {a with defers:=[{target:= .collected w.heap.size,args:= #[]}]++a.defers} ⟨s.n,s.t,h'.set s.h.length .gone⟩:=by
  refine⟨hs.size,λi=>(hs.tmp i).keep Dh Hr,zI,?_⟩;obtain⟨l,l1,l2,l3⟩:=hs.df.keep Dh;obtain⟨l',l1',Rs,Zu⟩:=hs.df;have oV:l=l':=by
   rw[l2]at Rs;have aaU:∀(x y:ak4 Nat),x.map (λD=>({target:= .collected D,args:= #[]}:Deferred))=y.map (λD=>{target:= .collected D,args:= #[]})->x=y:=by
     intro x
     induction x with
     |nil=>intro y h;cases y with
      |nil=>rfl
      |cons b y=>simp at h
     |cons a x ih=>intro y h;cases y with
      |nil=>simp at h
      |cons b y=>simp at h;rw[h.1,ih y (by simpa using h.2)]
   exact aaU _ _ Rs
  refine⟨w.heap.size::l,?_,by rw[akF,<-l2];rfl,λD hD=> ?_⟩
  ·rw[List.nodup_cons];exact⟨λh=>akU _ (hs.inv.z _ (Zu _ (oV▸h)).2.1),l1⟩
  ·rcases akK.1 hD with rfl|hD
   ·exact⟨by rw[Dh.Z.2];exact hM,PF,hDh⟩
   ·exact l3 D hD
 subst l5;have DC:=λhb=>run_endLoop (P:=P) g3 hb;cases ls with
 |busy=>exact M5.elim
 |ready=>
  refine⟨_,_,DC (by simp [LS.st]),?_⟩;exact⟨G2,_,Dh.less hN,aky hN Hr,cM,M5⟩
 |done c=>
  refine⟨_,_,DC (by simp [LS.st]),?_⟩;refine wpIn_mono (M5.run G2 _ _ n (cM) (aky hN Hr)) λ_ _ _ hn=> ?_;exact hn.trans (Dh.less hN)
set_option linter.unusedSimpArgs false
set_option linter.unusedVariables false
mutual
theorem FO:∀x:AV,x.aH id=x
 | .agg cs=>by rw[AV.aH,qt cs]
 | .aW cs=>by rw[AV.aH,qt cs]
 | .fn f cs=>by rw[AV.aH,qt cs]
 | .own .. =>by simp [AV.aH]
 | .d _=>by simp [AV.aH]
 | .ptr .. =>by simp [AV.aH]
 | .bn .. =>by simp [AV.aH]
 | .full _=>by simp [AV.aH]
 | .row .. =>by simp [AV.aH]
 | .mp _=>by simp [AV.aH]
 | .cp _=>by simp [AV.aH]
 | .vec .. =>by simp [AV.aH]
 | .dF .. =>by simp [AV.aH]
 | .hid _=>by simp [AV.aH]
 | .dead=>by simp [AV.aH]
theorem qt:∀l:ak4 AV,AV.gh id l=l
 |[]=>by simp [AV.gh]
 |x::l=>by rw[AV.gh,FO x,qt l]
end
theorem JE(B:ao):B.aH id=B:=by
 cases B with
 |cells cs=>simp only[ao.aH,qt]
 |lp ls p as bd cs=>simp only[ao.aH,qt]
 |it sn cs=>simp only[ao.aH,qt]
 |eO T0 cs=>simp only[ao.aH,qt]
 |vec e k cs=>simp only[ao.aH];congr 1;exact(akL λx _=>qt x).trans (List.map_id _)
 |_=>rfl
theorem aD.low{G:Gh}{w:ak9}{u:ak8}{x:AV}(h:aD G w u x):x.aC G.N=true:=by
 have lt:∀{n:Nat},n<G.N->(!ct G.N n)=true:=fun{n} hn=>by
  rw[Bool.not_eq_true',<-Bool.not_eq_true,dy];omega
 have fG:∀(vs:Array ak8)(cs:ak4 AV),vs.size=cs.length->(∀(i:Nat)(u:ak8)(c:AV),vs[i]?=some u->cs[i]?=some c->c.aC G.N=true)->AV.jU G.N cs=true:=λvs cs hl h=>by
  rw[mm,akG];intro c hc;obtain⟨i,hi,rfl⟩:=List.mem_iff_getElem.1 hc;exact h i vs[i] _ (akC (by omega)) (akk hi)
 induction h with
 |agg vs cs hl _ ih=>rw[AV.aC];exact fG vs cs hl ih
 |aW vs cs hl _ ih=>rw[AV.aC];exact fG vs cs hl ih
 |fn f vs cs hl _ ih=>rw[AV.aC];exact fG vs cs hl ih
 |ptr n off h=>rw[AV.aC];exact lt h
 |own n xs h=>rw[AV.aC];exact lt h
 |row n off len cap k h=>rw[AV.aC];exact lt h
 |mp n h=>rw[AV.aC];exact lt h
 |cp n h=>rw[AV.aC];exact lt h
 |vec n o len L k h=>rw[AV.aC];exact lt h
 |dF n i j L k h=>rw[AV.aC];exact lt h
 |_=>simp [AV.aC]
def iL(N0:Nat)(s s':St):Prop:=∀(G:Gh)(w:ak9)(a:Act),N0<=G.N->db G w a s->∃G',bP N0 G w G' w/\N0<=G'.N/\db G' w a s'
theorem iL.refl(N0:Nat)(s:St):iL N0 s s:=λG _ _ hN hs=>⟨G,bP.refl _ _ _,hN,hs⟩
theorem iL.trans{N0:Nat}{s1 s2 s3:St}(h:iL N0 s1 s2)(k:iL N0 s2 s3):iL N0 s1 s3:=λG w a hN hs=>by
 obtain⟨G1,e1,n1,J⟩:=h G w a hN hs;obtain⟨G2,e2,n2,h2⟩:=k G1 w a n1 J;exact⟨G2,e1.trans e2,n2,h2⟩
theorem iL.of_eq{N0:Nat}{s s':St}(h:iV s s'):iL N0 s s':=λG _ _ hN hs=>
 ⟨G,bP.refl _ _ _,hN,hs.size.trans h.n,λi=>by rw[<-h.t i];exact hs.tmp i,by rw[<-h.h];exact hs.inv,hs.df⟩
theorem iL.aH{N0:Nat}{s s':St}(σ τ:Nat->Nat)(hn:s.n=s'.n)(hlen:s'.h.length=s.h.length)(aL:∀i,i<s.h.length->σ i<s.h.length)(hτ:∀i,i<s.h.length->τ i<s.h.length)
 (sN:∀i,i<s.h.length->τ (σ i)=i) (kT:∀i,i<s.h.length->σ (τ i)=i) (I5:∀i,i<N0->σ i=i)
 (ht:∀i,(bw s.t i).aC s.h.length=true->bw s'.t i=(bw s.t i).aH σ\/bw s'.t i= .dead) (hh:∀i,i<s.h.length->s'.h[σ i]?=(s.h[i]?).map (ao.aH σ)):iL N0 s s':=λG w a hN hs=>by
 have hl:s.h.length=G.N:=hs.inv.len;rw[hl]at aL hτ sN kT hh hlen ht;have LA:∀i,i<N0->τ i=i:=λi hi=>by
  have J:=sN i (by omega);rw[I5 i hi]at J;exact J
 let G':Gh:={G with aM:=λn=>G.aM (τ n),sg:=λn=>G.sg (τ n),ow:=λn=>G.ow (τ n),fl:=λn=>G.fl (τ n)}
 have hR:pG σ G G':=⟨aL,λn h=>by show G.aM (τ (σ n))=_;rw[sN n h],λn h=>by show G.sg (τ (σ n))=_;rw[sN n h],λn h=>by show G.fl (τ (σ n))=_;rw[sN n h],λn h=>by show G.ow (τ (σ n))=_;rw[sN n h],λ_ _=>Iff.rfl⟩;have hE:bP N0 G w G' w:=⟨akr _,λ_ _ h=>h,λ_ _ _=>rfl,λn h=>by show G.aM (τ n)=_;rw[LA n h],λn h=> .inl ⟨by show G.fl (τ n)=_;rw[LA n h],by show G.sg (τ n)=_;rw[LA n h]⟩,gQ rfl,λ_ _=>rfl,rfl,rfl,rfl,λ_ _ h=> .inl h⟩;have fz:∀(n:Nat)(B:ao),s'.h[n]?=some B->∃m B0,m<G.N/\σ m=n/\s.h[m]?=some B0/\B=B0.aH σ:=λn B hB=>by
  have eZ:n<G.N:=by have:=(akg.1 hB).1;omega
  have J:=hh (τ n) (hτ n eZ);rw[kT n eZ,hB]at J;cases h2:s.h[τ n]? with
  |none=>rw[h2]at J;cases J
  |some B0=>rw[h2]at J;cases J;exact⟨τ n,B0,hτ n eZ,kT n eZ,h2,rfl⟩
 have eF:∀(n b:Nat),bR s'.h G' n=some b->∃m,m<G.N/\σ m=n/\bR s.h G m=some b:=λn b hb=>by
  obtain⟨B,hB,hb⟩:=l9 hb;obtain⟨m,B0,k1,k2,k3,rfl⟩:=fz n B hB;subst k2;rw[K9 hR k1]at hb;exact⟨m,k1,rfl,by rw[dM k3];exact hb⟩
 refine⟨G',hE,hN,hs.size.trans hn,λi=> ?_,⟨hlen,hs.inv.z,hs.inv.S,λn B hB=> ?_,λm n b hm eZ=> ?_,hs.inv.gl.keep hE⟩,hs.df.keep hE⟩
 ·have hv:=hs.tmp i;rcases ht i hv.low with e|e
  ·rw[e];exact hv.aH hR
  ·rw[e];exact .dead _
 ·obtain⟨m,B0,k1,k2,k3,rfl⟩:=fz n B hB;subst k2;have hb:=hs.inv.dn m B0 k3;exact er.aH hR k1 (λb J=>hb.kH J) hb
 ·obtain⟨m',k1,k2,k3⟩:=eF m b hm;obtain⟨n',j1,j2,j3⟩:=eF n b eZ;have:=hs.inv.inj m' n' b k3 j3;rw[<-k2,<-j2,this]
def Mv:ak8->ak8->Bool
 | .bool a, .bool b=>a==b
 | .int k a, .int l b=>decide (k=l)&&decide (a=b)
 | .string a, .string b=>bL a==bL b
 | .pointer none, .pointer none=>true
 | .slice none a b, .slice none c d=>a==c&&b==d
 | .map none, .map none=>true
 | .nilFunc, .nilFunc=>true
 | .nilIface, .nilIface=>true
 | .tuple a, .tuple b=>a.size==0&&b.size==0
 |_,_=>false
theorem ad3{u v:ak8}(h:Mv u v=true):u=v:=by
 unfold Mv at h;split at h
 ·rw[beq_iff_eq]at h;subst h;rfl
 ·rw[aki,decide_eq_true_eq,decide_eq_true_eq]at h;obtain⟨J,h2⟩:=h;subst J;subst h2;rfl
 ·rw[beq_iff_eq]at h;rw[Sn h]
 ·rfl
 ·rw[aki,beq_iff_eq,beq_iff_eq]at h;obtain⟨J,h2⟩:=h;subst J;subst h2;rfl
 ·rfl
 ·rfl
 ·rfl
 ·rw[aki,beq_iff_eq,beq_iff_eq]at h;rw[Array.eq_empty_of_size_eq_zero h.1,Array.eq_empty_of_size_eq_zero h.2]
 ·cases h
mutual
def D.mW:D->D->Bool
 | .v a, .v b=>Mv a b
 | .sl xs, .sl ys=>D.qZ xs ys
 | .ag xs, .ag ys=>D.uj xs ys
 |_,_=>false
def D.qZ:ak4 (ak4 D)->ak4 (ak4 D)->Bool
 |[],[]=>true
 |x::xs,y::ys=>D.uj x y&&D.qZ xs ys
 |_,_=>false
def D.uj:ak4 D->ak4 D->Bool
 |[],[]=>true
 |x::xs,y::ys=>D.mW x y&&D.uj xs ys
 |_,_=>false
end
mutual
theorem D.Ta:∀x y:D,D.mW x y=true->x=y
 | .v a, .v b,h=>by rw[D.mW]at h;rw[ad3 h]
 | .sl xs, .sl ys,h=>by rw[D.mW]at h;rw[D.Dy xs ys h]
 | .v _, .sl _,h=>by simp [D.mW]at h
 | .sl _, .v _,h=>by simp [D.mW]at h
 | .ag xs, .ag ys,h=>by rw[D.mW]at h;rw[D.NZ xs ys h]
 | .v _, .ag _,h=>by simp [D.mW]at h
 | .ag _, .v _,h=>by simp [D.mW]at h
 | .sl _, .ag _,h=>by simp [D.mW]at h
 | .ag _, .sl _,h=>by simp [D.mW]at h
theorem D.Dy:∀x y:ak4 (ak4 D),D.qZ x y=true->x=y
 |[],[],_=>rfl
 |x::xs,y::ys,h=>by rw[D.qZ,aki]at h;rw[D.NZ x y h.1,D.Dy xs ys h.2]
 |[],_::_,h=>by simp [D.qZ]at h
 |_::_,[],h=>by simp [D.qZ]at h
theorem D.NZ:∀x y:ak4 D,D.uj x y=true->x=y
 |[],[],_=>rfl
 |x::xs,y::ys,h=>by rw[D.uj,aki]at h;rw[D.Ta x y h.1,D.NZ xs ys h.2]
 |[],_::_,h=>by simp [D.uj]at h
 |_::_,[],h=>by simp [D.uj]at h
end
mutual
def AV.fV(σ:Nat->Nat):AV->AV->Bool
 | .d x,y=>(match y with| .d y=>D.mW x y|_=>false)
 | .agg a,y=>(match y with| .agg b=>AV.o8 σ a b|_=>false)
 | .aW a,y=>(match y with| .aW b=>AV.o8 σ a b|_=>false)
 | .fn f a,y=>(match y with| .fn g b=>f==g&&AV.o8 σ a b|_=>false)
 | .ptr n o,y=>(match y with| .ptr m p=>σ n==m&&o==p|_=>false)
 | .bn xs i o,y=>(match y with| .bn ys j p=>D.qZ xs ys&&(i==j&&o==p)|_=>false)
 | .own n xs,y=>(match y with| .own m ys=>σ n==m&&D.qZ xs ys|_=>false)
 | .full xs,y=>(match y with| .full ys=>D.qZ xs ys|_=>false)
 | .row n i1 i2 i3 i4,y=>(match y with| .row m j1 j2 j3 j4=>σ n==m&&(i1==j1&&(i2==j2&&(i3==j3&&i4==j4)))|_=>false)
 | .mp n,y=>(match y with| .mp m=>σ n==m|_=>false)
 | .cp n,y=>(match y with| .cp m=>σ n==m|_=>false)
 | .vec n i1 i2 i3 i4,y=>(match y with| .vec m j1 j2 j3 j4=>σ n==m&&(i1==j1&&(i2==j2&&(i3==j3&&i4==j4)))|_=>false)
 | .dF n i1 i2 i3 i4,y=>(match y with| .dF m j1 j2 j3 j4=>σ n==m&&(i1==j1&&(i2==j2&&(i3==j3&&i4==j4)))|_=>false)
 | .dead,y=>(match y with| .dead=>true|_=>false)
 | .hid _,_=>false
def AV.o8(σ:Nat->Nat):ak4 AV->ak4 AV->Bool
 |[],y=>(match y with|[]=>true|_=>false)
 |x::xs,l=>(match l with|y::ys=>AV.fV σ x y&&AV.o8 σ xs ys|_=>false)
end
mutual
theorem AV.ajb(σ:Nat->Nat):∀x y:AV,AV.fV σ x y=true->y=x.aH σ
 | .d x,y,h=>by
   cases y with
   |d y=>simp only[AV.fV,aki,beq_iff_eq]at h;rw[AV.aH,D.Ta _ _ h]
   |_=>simp [AV.fV]at h
 | .agg a,y,h=>by
   cases y with
   |agg b=>simp only[AV.fV,aki,beq_iff_eq]at h;rw[AV.aH,AV.HR σ _ _ h]
   |_=>simp [AV.fV]at h
 | .aW a,y,h=>by
   cases y with
   |aW b=>simp only[AV.fV,aki,beq_iff_eq]at h;rw[AV.aH,AV.HR σ _ _ h]
   |_=>simp [AV.fV]at h
 | .fn f a,y,h=>by
   cases y with
   |fn g b=>simp only[AV.fV,aki,beq_iff_eq]at h;rw[AV.aH,AV.HR σ _ _ h.2,h.1]
   |_=>simp [AV.fV]at h
 | .ptr n o,y,h=>by
   cases y with
   |ptr m p=>simp only[AV.fV,aki,beq_iff_eq]at h;rw[AV.aH,h.1,h.2]
   |_=>simp [AV.fV]at h
 | .bn xs i o,y,h=>by
   cases y with
   |bn ys j p=>simp only[AV.fV,aki,beq_iff_eq]at h;rw[AV.aH,D.Dy _ _ h.1,h.2.1,h.2.2]
   |_=>simp [AV.fV]at h
 | .own n xs,y,h=>by
   cases y with
   |own m ys=>simp only[AV.fV,aki,beq_iff_eq]at h;rw[AV.aH,D.Dy _ _ h.2,h.1]
   |_=>simp [AV.fV]at h
 | .full xs,y,h=>by
   cases y with
   |full ys=>simp only[AV.fV,aki,beq_iff_eq]at h;rw[AV.aH,D.Dy _ _ h]
   |_=>simp [AV.fV]at h
 | .row n i1 i2 i3 i4,y,h=>by
   cases y with
   |row m j1 j2 j3 j4=>simp only[AV.fV,aki,beq_iff_eq]at h;rw[AV.aH,h.1,h.2.1,h.2.2.1,h.2.2.2.1,h.2.2.2.2]
   |_=>simp [AV.fV]at h
 | .vec n i1 i2 i3 i4,y,h=>by
   cases y with
   |vec m j1 j2 j3 j4=>simp only[AV.fV,aki,beq_iff_eq]at h;rw[AV.aH,h.1,h.2.1,h.2.2.1,h.2.2.2.1,h.2.2.2.2]
   |_=>simp [AV.fV]at h
 | .dF n i1 i2 i3 i4,y,h=>by
   cases y with
   |dF m j1 j2 j3 j4=>simp only[AV.fV,aki,beq_iff_eq]at h;rw[AV.aH,h.1,h.2.1,h.2.2.1,h.2.2.2.1,h.2.2.2.2]
   |_=>simp [AV.fV]at h
 | .mp n,y,h=>by
   cases y with
   |mp m=>simp only[AV.fV,aki,beq_iff_eq]at h;rw[AV.aH,h]
   |_=>simp [AV.fV]at h
 | .cp n,y,h=>by
   cases y with
   |cp m=>simp only[AV.fV,aki,beq_iff_eq]at h;rw[AV.aH,h]
   |_=>simp [AV.fV]at h
 | .dead,y,h=>by
   cases y with
   |dead=>rw[AV.aH]
   |_=>simp [AV.fV]at h
 | .hid _,y,h=>by simp [AV.fV]at h
theorem AV.HR(σ:Nat->Nat):∀x y:ak4 AV,AV.o8 σ x y=true->y=AV.gh σ x
 |[],y,h=>by
  cases y with
  |nil=>rw[AV.gh]
  |cons=>simp [AV.o8]at h
 |x::xs,l,h=>by
  cases l with
  |nil=>simp [AV.o8]at h
  |cons y ys=>simp only[AV.o8,aki]at h;rw[AV.gh,AV.ajb σ _ _ h.1,AV.HR σ _ _ h.2]
end
def RX:ak4 (ak5×D)->ak4 (ak5×D)->Bool
 |[],[]=>true
 |(k,d)::l,(k',d')::l'=>bL k==bL k'&&D.mW d d'&&RX l l'
 |_,_=>false
def RP(σ:Nat->Nat):ak4 (ak4 AV)->ak4 (ak4 AV)->Bool
 |[],[]=>true
 |x::xs,y::ys=>AV.o8 σ x y&&RP σ xs ys
 |_,_=>false
def ao.fV(σ:Nat->Nat):ao->ao->Bool
 | .cells a,y=>(match y with| .cells b=>AV.o8 σ a b|_=>false)
 | .front e k l,y=>(match y with| .front e' k' l'=>e==e'&&(k==k'&&l==l')|_=>false)
 | .byt _ _,_=>false
 | .vec e k cs,y=>(match y with| .vec e' k' ds=>e==e'&&(k==k'&&RP σ cs ds)|_=>false)
 | .map kv,y=>(match y with| .map YP=>RX kv YP|_=>false)
 | .ie _,_=>false
 | .it sn cs,y=>(match y with| .it sn' ds=>sn==sn'&&AV.o8 σ cs ds|_=>false)
 | .eO _ _,_=>false
 | .gone,y=>(match y with| .gone=>true|_=>false)
 | .lp ..,_=>false
def gk(h0:Nat)(p:ak4 Nat)(i:Nat):Nat:=bif ct h0 i then p.getD (i-h0) i else i
def yp(ts xk:ak4 (Nat×AV))(ks:ak4 Nat)(i:Nat):Nat:=
 match ks with
 |[]=>i
 |d::ks=>match bw ts d,bw xk d with
  | .ptr n _, .ptr m _=>bif n==i then m else yp ts xk ks i
  | .own n _, .own m _=>bif n==i then m else yp ts xk ks i
  | .vec n _ _ _ _, .vec m _ _ _ _=>bif n==i then m else yp ts xk ks i
  | .mp n, .mp m=>bif n==i then m else yp ts xk ks i
  |_,_=>yp ts xk ks i
def mkP(s s':St)(ks:ak4 Nat)(h0:Nat):Nat->ak4 Nat
 |0=>[]
 |k+1=>yp s.t s'.t ks h0::mkP s s' ks (h0+1) k
def akb(h0:Nat)(ks:ak4 Nat)(s s':St)(p q:ak4 Nat):Bool:=
 (s'.h.length==s.h.length)&&(((List.range s.h.length).all λi=>ct (gk h0 p i+1) s.h.length&&ct (gk h0 q i+1) s.h.length&&gk h0 q (gk h0 p i)==i&&gk h0 p (gk h0 q i)==i)&&(ks.all (λd=>AV.fV (gk h0 p) (bw s.t d) (bw s'.t d))&&
  ((List.range s.h.length).all λi=>match s.h[i]?,s'.h[gk h0 p i]? with
    |some B,some B'=>ao.fV (gk h0 p) B B'
    |_,_=>false)))
structure l7(ks:List Nat)(s0 s:St):Prop where
 n:s.n=s0.n
 t:∀d,d ∉ ks->bw s.t d=bw s0.t d
theorem l7.refl(ks:ak4 Nat)(s:St):l7 ks s s:=⟨rfl,λ_ _=>rfl⟩
theorem l7.put{ks:ak4 Nat}{s0 s:St}(h:l7 ks s0 s)(J:ak4 ao){d:ak6 Nat}(x:AV)(hd:∀k,d=some k->k∈ks):l7 ks s0 ((s.wh J).put d x):=
 ⟨by rw[pY];exact h.n,λi hi=>by
  rw[qT,if_neg]
  ·exact h.t i hi
  ·rintro⟨e,_⟩;exact hi (hd i e)⟩
def CC(N0:Nat)(K:St->Prop):Prop:=∀s s',iL N0 s s'->K s'->K s
theorem CC.c{N0:Nat}{K:St->Prop}(h:CC N0 K):qh K:=λs s' e hk=>h s' s (iL.of_eq e.symm) hk
theorem Pd{P:ak7}{r:ak6 Nat}{N0:Nat}{s:St}{Q:Exit->St->Prop}{m:Bool}{id:Nat}{ops:Array Oper}(hm:P.follows .mixedOrders=true)
 (h:N0<=s.h.length->(∀i,(bw s.t i).aC s.h.length=true)->ku m P ops (λs1=>∃s2,iL N0 s1 s2/\Q .normal s2) ops.size (Array.replicate ops.size false) s):bD P r N0 (.region id ops true) Q s:=by
 constructor
 intro G w a n hs hN;obtain⟨d1,d2⟩:=hs.drew;refine wpIn_region_any hm ?_;have hl:=hs.inv.len;refine Cb (G:=G) (w:=w) (N0:=N0) (K:=λs1=>∃s2,iL N0 s1 s2/\Q .normal s2) (λa' w' hn=> ?_) ops.size _ G _ a s (d1.less hN) hN d2 (h (by omega) λi=>by rw[hl];exact(hs.tmp i).low);obtain⟨G',s',x1,x2,x3,s2,e0,x4⟩:=hn;obtain⟨G2,y1,y2,y3⟩:=e0 G' w' a' x2 x3;exact⟨G2,s2,x1.trans y1,y2,y3,x4⟩
theorem Lh{N0:Nat}(Q:St->Prop):CC N0 (λs1=>∃s2,iL N0 s1 s2/\Q s2):=λ_ _ h ⟨s2,J,h2⟩=>⟨s2,h.trans J,h2⟩
def wH(f:Nat->Bool):Nat->Nat
 |0=>0
 |n+1=>bif f n then wH f n|||(1<<<n)else wH f n
theorem Bg(f:Nat->Bool):∀(n j:Nat),Nat.testBit (wH f n) j=(decide (j<n)&&f j)
 |0,j=>by simp [wH]
 |n+1,j=>by
  unfold wH;have ih:=Bg f n j;cases hf:f n with
  |true=>
   simp only[cond_true,Nat.testBit_or,ih,Nat.one_shiftLeft,Nat.testBit_two_pow];by_cases e:n=j
   ·subst e;simp [hf]
   ·have:decide (j<n+1)=decide (j<n):=by simp;omega
    rw[this];simp [e]
  |false=>
   simp only[cond_false,ih];by_cases e:n=j
   ·subst e;simp [hf]
   ·have:decide (j<n+1)=decide (j<n):=by simp;omega
    rw[this]
def fN{α:Type}(n:Nat)(f:Nat->α):α:=Nat.casesOn (Nat.succ n) (f 0) f
theorem xp{α:Type}(n:Nat)(f:Nat->α):fN n f=f n:=rfl
def fL{α:Type}:ak4 Nat->(ak4 Nat->α)->α
 |[],f=>f []
 |n::l,f=>fN n λn=>fL l λl=>f (n::l)
theorem wc{α:Type}:∀(l:ak4 Nat)(f:ak4 Nat->α),fL l f=f l
 |[],_=>rfl
 |n::l,f=>by rw[fL,xp,wc l]
section
variable (ops:Array Oper)
def xe(o:Oper)(n j:Nat):Bool:=o.after.any λe=>Region.binds .any e&&(e.on==j||(j==n&&ct n e.on))
def IP(k:Nat):Nat:=match ops[k]? with
 |some o=>wH (xe o ops.size) (ops.size+1)
 |none=>1<<<ops.size
def Oj(m:Bool)(M:Array Nat)(k j:Nat):Bool:= !(j==k)&&(!((M.getD j 0).testBit k)&&match ops[k]?,ops[j]? with
 |some oi,some oj=> !(oi.apart ops oj&&yU m oi oj)
 |_,_=>true)
def td(m:Bool)(M:Array Nat)(k:Nat):Nat:=wH (Oj ops m M k) ops.size
def nV:Nat->Nat->ak4 Nat
 |_,0=>[]
 |k,n+1=>IP ops k::nV (k+1) n
def jT(m:Bool)(M:Array Nat):Nat->Nat->ak4 Nat
 |_,0=>[]
 |k,n+1=>td ops m M k::jT m M (k+1) n
end
def oT:ak4 Nat->Nat->Nat->ak4 Nat
 |[],_,_=>[]
 |a::A,L,k=>bif !(Nat.testBit L k)&&(L&&&a==a)then k::oT A L (k+1)else oT A L (k+1)
def vZ(C:ak4 Nat)(L:Nat):ak4 Nat->ak6 Nat
 |[]=>none
 |k::r=>bif (C.getD k 0)|||L==L then some k else vZ C L r
section
variable (ops:Array Oper) (st:Oper->St->ak6 St) (h0:Nat) (ks A C:ak4 Nat)
def nk:ak4 Oper->ak4 Nat
 |[]=>[]
 |o::l=>match o.dst with
  |some d=>d::nk l
  |none=>nk l
end
theorem Gm:∀{l:ak4 Oper}{o:Oper},o∈l->∀d,o.dst=some d->d∈nk l
 |[],_,h,_,_=>by cases h
 |a::l,o,h,d,hd=>by
  unfold nk;rcases akK.1 h with rfl|h
  ·rw[hd];simp
  ·split
   ·exact akp _ (Gm h d hd)
   ·exact Gm h d hd
theorem Bw(ops:Array Oper):∀(n k i:Nat),(nV ops k n)[i]?=if i<n then some (IP ops (k+i))else none
 |0,k,i=>by simp [nV]
 |n+1,k,0=>by simp [nV]
 |n+1,k,i+1=>by rw[nV,akR,Bw ops n (k+1) i];simp only[Nat.add_lt_add_iff_right];rw[show k+1+i=k+(i+1) by omega]
theorem MF(ops:Array Oper)(m:Bool)(M:Array Nat):∀(n k i:Nat),(jT ops m M k n)[i]?=if i<n then some (td ops m M (k+i))else none
 |0,k,i=>by simp [jT]
 |n+1,k,0=>by simp [jT]
 |n+1,k,i+1=>by rw[jT,akR,MF ops m M n (k+1) i];simp only[Nat.add_lt_add_iff_right];rw[show k+1+i=k+(i+1) by omega]
theorem CX{L:Nat}:∀(A:ak4 Nat)(k i:Nat),i∈oT A L k↔k<=i/\Nat.testBit L i=false/\∃a,A[i-k]?=some a/\L&&&a=a
 |[],k,i=>by simp [oT]
 |a::A,k,i=>by
  have ih:=CX (L:=L) A (k+1) i;unfold oT;have key:i∈oT A L (k+1)↔k<i/\Nat.testBit L i=false/\∃b,(a::A)[i-k]?=some b/\L&&&b=b:=by
   rw[ih];constructor
   ·rintro⟨J,h2,b,h3,h4⟩;refine⟨J,h2,b,?_,h4⟩;rw[show i-k=(i-(k+1))+1 by omega,akR];exact h3
   ·rintro⟨J,h2,b,h3,h4⟩;refine⟨J,h2,b,?_,h4⟩;rw[show i-k=(i-(k+1))+1 by omega,akR]at h3;exact h3
  cases hb:(!(Nat.testBit L k)&&(L&&&a==a))with
  |true=>
   simp only[cond_true,akK,key];simp only[aki,Bool.not_eq_true',beq_iff_eq]at hb;constructor
   ·rintro(rfl|⟨J,h2⟩)
    ·exact⟨akr _,hb.1,a,by simp,hb.2⟩
    ·exact⟨by omega,h2⟩
   ·rintro⟨J,h2⟩;rcases Nat.lt_or_eq_of_le J with h|h
    ·exact .inr ⟨h,h2⟩
    ·exact .inl h.symm
  |false=>
   simp only[cond_false,key];constructor
   ·rintro⟨J,h2⟩;exact⟨by omega,h2⟩
   ·rintro⟨J,h2,b,h3,h4⟩;rcases Nat.lt_or_eq_of_le J with h|h
    ·exact⟨h,h2,b,h3,h4⟩
    ·subst h;simp at h3;subst h3;rw[h2]at hb;simp at hb;exact absurd h4 hb
theorem Dj{C:ak4 Nat}{L:Nat}:∀{r:ak4 Nat}{k:Nat},vZ C L r=some k->k∈r/\(C.getD k 0)|||L=L
 |[],k,h=>by cases h
 |a::r,k,h=>by
  unfold vZ at h;cases hb:((C.getD a 0)|||L==L)with
  |true=>rw[hb]at h;cases h;exact⟨by simp,by simpa using hb⟩
  |false=>rw[hb]at h;have:=Dj h;exact⟨akp _ this.1,this.2⟩
structure LM(ops:Array Oper)(L:Nat)(listed:Array Bool):Prop where
 sz:listed.size=ops.size
 b:∀i,Nat.testBit L i=listed.getD i false
theorem LM.set{ops:Array Oper}{L:Nat}{listed:Array Bool}(h:LM ops L listed){k:Nat}(hk:k<ops.size):LM ops (L|||(1<<<k)) (listed.setIfInBounds k true):=by
 refine⟨by simp [h.sz],λi=> ?_⟩;rw[Nat.testBit_or,Nat.one_shiftLeft,Nat.testBit_two_pow,h.b i];by_cases e:k=i
 ·subst e;have:k<listed.size:=by rw[h.sz];exact hk
  simp [this]
 ·rw[getD_set_ne false e];simp [e]
theorem LM.ready{ops:Array Oper}{L:Nat}{listed:Array Bool}(h:LM ops L listed)(i:Nat):i∈Region.ready .any ops listed↔i∈oT (nV ops 0 ops.size) L 0:=by
 rw[mem_ready,CX];simp only[Nat.zero_le,true_and,Nat.sub_zero,Bw,akA];have Rw:∀j,ops.size<=j->Nat.testBit L j=false:=λj hj=>by
   rw[h.b,Array.getD_eq_getD_getElem?,Array.getElem?_eq_none (by rw[h.sz];exact hj)];rfl
 constructor
 ·rintro⟨J,o,ho,h2⟩;have hi:=(akv.1 ho).1;have hgd:listed.getD i false=false:=by
   have dY:i<listed.size:=by rw[h.sz];exact hi
   simpa [dY]using J
  refine⟨by rw[h.b];exact hgd,_,by rw[if_pos hi],?_⟩;apply Nat.eq_of_testBit_eq;intro j;rw[Nat.testBit_and];unfold IP;rw[ho];simp only[Bg];cases hb:(decide (j<ops.size+1)&&xe o ops.size j)with
  |false=>simp
  |true=>
   simp only[Bool.and_true];rw[aki]at hb;have hb:=hb.2;unfold xe at hb;rw[Array.any_eq_true']at hb;obtain⟨e,he,hb⟩:=hb;simp only[aki,Bool.or_eq_true,beq_iff_eq,dy]at hb;have h3:=h2 e he hb.1;have:e.on<ops.size:=by
    rcases Nat.lt_or_ge e.on ops.size with hl|hl
    ·exact hl
    ·have:=Rw e.on hl;rw[h.b]at this;rw[this]at h3;cases h3
   rcases hb.2 with hj|⟨_,hj⟩
   ·rw[<-hj,h.b];exact h3
   ·omega
 ·rintro⟨J,a,ha,h2⟩;split at ha
  ·next hi=>
   cases ha
   have ho:ops[i]?=some ops[i]:=akC hi;refine⟨?_,ops[i],ho,λe he JH=> ?_⟩
   ·rw[h.b]at J;have dY:i<listed.size:=by rw[h.sz];exact hi
    simpa [dY]using J
   ·have kg:∀j,j<ops.size+1->xe ops[i] ops.size j=true->Nat.testBit L j=true:=λj hj hf=>by
     have:=congrArg (λn=>Nat.testBit n j) h2;simp only[Nat.testBit_and]at this;unfold IP at this;rw[ho]at this;simp only[Bg]at this;rw[hf]at this
     simpa [hj]using this
    have PT:∀j,(e.on==j||(j==ops.size&&ct ops.size e.on))=true->xe ops[i] ops.size j=true:=λj hj=>by
     unfold xe;rw[Array.any_eq_true'];exact⟨e,he,by rw[JH,hj];rfl⟩
    rcases Nat.lt_or_ge e.on ops.size with hl|hl
    ·rw[<-h.b];exact kg e.on (by omega) (PT _ (by simp))
    ·have:=kg ops.size (by omega) (PT _ (by simp [dy.2 hl]));rw[Rw _ (akr _)]at this;cases this
  ·cases ha
section
variable {P:ak7} {ops:Array Oper} {st:Oper->St->ak6 St} {h0:Nat} {m:Bool} {N0:Nat} {K:St->Prop} {s0:St}
end
end Go.Proofs.YtnnapanbbbcalaaGreatDoor
namespace Go.Proofs.YtnnapanbbbcalaaGreatDoor
open Go.RowKit
inductive Ex
 |n
 |r
 |x (id:Nat)
def L7{α:Type}(n:Nat)(f:Nat->α):α:=Nat.casesOn (Nat.succ n) (f 0) f
theorem ZY{α:Type}(n:Nat)(f:Nat->α):L7 n f=f n:=rfl
def AV.force{α:Type}(x:AV)(f:AV->α):α:=
 match x with
 | .d (.v (.int k (.ofNat n)))=>L7 n λn=>f (.d (.v (.int k (.ofNat n))))
 | .d (.v (.bool b))=>bif b then f (.d (.v (.bool true)))else f (.d (.v (.bool false)))
 |x=>f x
theorem AV.force_eq{α:Type}(x:AV)(f:AV->α):x.force f=f x:=by
 unfold AV.force;split
 ·rw[ZY]
 ·next b=>cases b<;>rfl
 ·rfl
def GS{α:Type}:ak4 ao->(ak4 ao->α)->α
 |[],f=>f []
 |b::l,f=>GS l λr=>f (b::r)
theorem Ya{α:Type}:∀(l:ak4 ao)(f:ak4 ao->α),GS l f=f l
 |[],_=>rfl
 |b::l,f=>by rw[GS,Ya l]
abbrev Oh:=Bool->Nat->Code->St->ak6 (Ex×St)
abbrev ND:=FuncId->ak4 AV->ak6 (ak6 AV)
def aka:ak6 (ak6 AV)->Bool
 |some none=>true
 |_=>false
mutual
def AV.Sp:AV->ak4 Nat
 | .fn _ cs=>AV.KZ cs
 |_=>[]
def AV.KZ:ak4 AV->ak4 Nat
 |[]=>[]
 | .ptr n _::l=>n::AV.KZ l
 |x::l=>x.Sp++AV.KZ l
end
def H0:ak4 Nat->AV->ak4 ao->ak6 (AV×ak4 ao)
 |[],r,h=>some (r,h)
 |b::l,r,h=>match h[b]? with
  |some (.cells cs)=>match mr cs with
   |some ds=>H0 l (r.fg b ds) ((h.map (ao.fg b ds)).set b .gone)
   |none=>none
  |_=>none
def Vz:AV->ak6 D
 | .d x=>some x
 |_=>none
def FA:ak4 AV->ak6 (ak4 D)
 |[]=>some []
 |x::l=>match Vz x,FA l with
  |some d,some r=>some (d::r)
  |_,_=>none
def HV:ak4 (ak4 AV)->ak6 (ak4 (ak4 D))
 |[]=>some []
 |x::l=>match FA x,HV l with
  |some d,some r=>some (d::r)
  |_,_=>none
mutual
def AV.X2:AV->Bool
 | .vec .. =>true
 | .agg cs=>AV.DW cs
 | .aW cs=>AV.DW cs
 | .fn _ cs=>AV.DW cs
 |_=>false
def AV.DW:ak4 AV->Bool
 |[]=>false
 |x::l=>x.X2||AV.DW l
end
def sA:ak4 Nat->AV->ak4 ao->AV×ak4 ao
 |[],r,h=>(r,h)
 |b::l,r,h=>match h[b]? with
  |some (.vec _ k cs)=>match HV cs with
   |some xs=>bif xs.all (λc=>c.all D.wJ)then(r.dB b k xs).force λr=>GS ((h.map (ao.k9 (AV.dB b k xs))).set b .gone) λh=>sA l r h else sA l r h
   |none=>sA l r h
  |_=>sA l r h
def abW(h:ak4 ao):ak4 Nat:=(List.range h.length).reverse++(List.range h.length).reverse
def IZ(r:AV)(h:ak4 ao):ak6 AV:=
 match H0 r.Sp r h with
 |some (r,_)=>some (r.bz 0)
 |none=>none
def TR(r:AV)(h:ak4 ao):ak6 AV:=
 bif r.X2 then(match sA (abW h) r h with|(r,h)=>IZ r h)else IZ r h
section
variable (run:Oh) (P:ak7) (SQ:ND)
def cP(lo:Nat)(f:FuncId)(args:ak4 AV)(h:ak4 ao):ak6 (AV×ak4 ao):=
 match P.funcs[f]? with
 |some fn=>match fn.body with
  |some c=>L7 (args.length+(fn.ntmps-args.length)) λn=>match run true lo c ⟨n,lx 0 args,h⟩with
   |some (.x _,_)=>none
   |some (_,s)=>match qF P s fn.results.toList with
    |some l=>some (jG l,s.h)
    |none=>none
   |none=>none
  |none=>none
 |none=>none
end
section
variable {run:Oh} {P:ak7} {SQ:ND} {lo:Nat} {s s':St}
end
mutual
theorem zV(m:Nat):∀x:AV,x.aC m=true->x.bz m=x
 | .own n xs,h=>by
   rw[AV.aC]at h;rw[AV.bz];cases e:ct m n with
   |true=>rw[e]at h;cases h
   |false=>rfl
 | .agg cs,h=>by rw[AV.aC]at h;rw[AV.bz,Hx m cs h]
 | .aW cs,h=>by rw[AV.aC]at h;rw[AV.bz,Hx m cs h]
 | .fn f cs,h=>by rw[AV.aC]at h;rw[AV.bz,Hx m cs h]
 | .d _,_=>by simp only[AV.bz]
 | .ptr ..,_=>by simp only[AV.bz]
 | .bn ..,_=>by simp only[AV.bz]
 | .full _,_=>by simp only[AV.bz]
 | .row ..,_=>by simp only[AV.bz]
 | .mp _,_=>by simp only[AV.bz]
 | .cp _,_=>by simp only[AV.bz]
 | .vec ..,_=>by simp only[AV.bz]
 | .dF ..,_=>by simp only[AV.bz]
 | .hid _,_=>by simp only[AV.bz]
 | .dead,_=>by simp only[AV.bz]
theorem Hx(m:Nat):∀l:ak4 AV,AV.jU m l=true->AV.pg m l=l
 |[],_=>by simp [AV.pg]
 |x::l,h=>by
  rw[AV.jU,aki]at h;rw[AV.pg,zV m x h.1,Hx m l h.2]
end
theorem aeF{m:Nat}{B:ao}(h:B.aC m=true):B.bz m=B:=by
 cases B with
 |cells cs=>
  simp only[ao.aC,akG]at h;simp only[ao.bz]
  congr 1
  exact(akL λx hx=>zV m x (h x hx)).trans (List.map_id _)
 |lp ls p as bd cs=>
  simp only[ao.aC,akG]at h;simp only[ao.bz]
  congr 1
  exact(akL λx hx=>zV m x (h x hx)).trans (List.map_id _)
 |it sn cs=>
  simp only[ao.aC,akG]at h;simp only[ao.bz]
  congr 1
  exact(akL λx hx=>zV m x (h x hx)).trans (List.map_id _)
 |eO T0 cs=>
  simp only[ao.aC,akG]at h;simp only[ao.bz]
  congr 1
  exact(akL λx hx=>zV m x (h x hx)).trans (List.map_id _)
 |vec e k cs=>
  simp only[ao.aC,akG]at h;simp only[ao.bz]
  congr 1
  exact(akL λx hx=>(akL λy hy=>zV m y (h x hx y hy)).trans (List.map_id _)).trans (List.map_id _)
 |front e k len=>rfl
 |byt e b=>rfl
 |map kv=>rfl
 |ie kv=>rfl
 |gone=>rfl
theorem Lo{m:Nat}{h:ak4 ao}(e:h.all (ao.aC m)=true):h.map (ao.bz m)=h:=
 (akL λB hB=>aeF (akG.1 e B hB)).trans (List.map_id _)
end Go.Proofs.YtnnapanbbbcalaaGreatDoor
namespace Go.Proofs.YtnnapanbbbcalaaGreatDoor
open Go.RowKit
section
variable {P:ak7} {r:ak6 Nat} {n N0:Nat} {G:Gh} {w:ak9} {a:Act} {s:St} {o:Oper} {Q:Exit->St->Prop}
end
theorem cZ.cut{P:ak7}{f:FuncId}{args:ak4 AV}{h h':ak4 ao}{r:AV}(m:Nat)(hc:cZ P f args h λr1 J=>r1=r/\J=h')(J:h.length<=m)(h2:m<=h'.length)(hb:(((h'.take m).map (ao.bz m)).all (ao.aC m))=true)(hr:(r.bz m).aC m=true):
 cZ P f args h λr1 J=>r1=r.bz m/\J=(h'.take m).map (ao.bz m):=by
 refine⟨hc.1,λG w vs hi hl hv=>(hc.2 G w vs hi hl hv).mono λe w' hp=> ?_⟩;obtain⟨v,G',_,_,rfl,hE,hN,dY,Oy,rfl,rfl⟩:=hp;exact⟨v,G'.cut m,_,_,rfl,hE.trans (ov _ _ _ _),by rw[<-hi.len];exact J,MT dY h2 hb,(Oy.bz m).cut hr,rfl,rfl⟩
section
variable {run:Oh} {P:ak7} {SQ:ND} {lo:Nat} {s s':St}
theorem cZ.XG{f:FuncId}{args:ak4 AV}{h0 h h2:ak4 ao}{r r2:AV}{tl:ak4 (Nat×AV)}(hc:cZ P f args h0 λr1 J=>r1=r/\J=h)
 (hT:∀(G:Gh)(w:ak9)(a:Act),db G w a ⟨1,[(0,r)],h⟩->∃G',bP G.N G w G' w/\G'.N=G.N/\db G' w a ⟨1,(0,r2)::tl,h2⟩):cZ P f args h0 λr1 J=>r1=r2/\J=h2:=by
 refine⟨hc.1,λG w vs hi hl hv=>(hc.2 G w vs hi hl hv).mono λe w' hp=> ?_⟩;obtain⟨v,G',_,_,rfl,hE,hN,dY,Oy,rfl,rfl⟩:=hp;obtain⟨G2,e1,e2,e3⟩:=hT G' w' {tmps:= #[v],defers:=[]} ⟨rfl,λi=>by
  show aD G' w' _ (bw [(0,_)] i);rw[kO];split
  ·next ei=>subst ei;exact Oy
  ·exact .dead _,dY,qn.nil _ _⟩
 exact⟨v,G2,r2,h2,rfl,hE.trans (e1.less hN),by rw[e2];exact hN,e3.inv,e3.tmp 0,rfl,rfl⟩
theorem Yf{f:FuncId}{args:ak4 AV}{h0:ak4 ao}:∀(l:ak4 Nat){h h2:ak4 ao}{r r2:AV},(cZ P f args h0 λr1 J=>r1=r/\J=h)->H0 l r h=some (r2,h2)->cZ P f args h0 λr1 J=>r1=r2/\J=h2
 |[],h,h2,r,r2,hc,e=>by cases e;exact hc
 |b::l,h,h2,r,r2,hc,e=>by
  unfold H0 at e;split at e
  ·next cs e1=>
   split at e
   ·next ds e2=>
    refine Yf l (cZ.XG (tl:=[]) hc λG w a hs=> ?_) e;refine hs.vr (b:=b) ?_;simp only[Go.Proofs.YtnnapanbbbcalaaGreatDoor.vr,e1,e2];rfl
   ·cases e
  ·cases e
theorem Xy:∀{l:ak4 AV}{ds:ak4 D},FA l=some ds->l=ds.map AV.d
 |[],ds,h=>by cases h;rfl
 |x::l,ds,h=>by
  unfold FA at h;split at h
  ·next d r e1 e2=>
   cases h
   rw[Xy e2];cases x<;>simp [Vz]at e1
   subst e1;rfl
  ·cases h
theorem X8:∀{l:ak4 (ak4 AV)}{xs:ak4 (ak4 D)},HV l=some xs->l=ck xs
 |[],xs,h=>by cases h;rfl
 |x::l,xs,h=>by
  unfold HV at h;split at h
  ·next d r e1 e2=>cases h;rw[X8 e2,Xy e1];rfl
  ·cases h
theorem Av{f:FuncId}{args:ak4 AV}{h0:ak4 ao}:∀(l:ak4 Nat){h:ak4 ao}{r:AV},(cZ P f args h0 λr1 J=>r1=r/\J=h)->cZ P f args h0 λr1 J=>r1=(sA l r h).1/\J=(sA l r h).2
 |[],h,r,hc=>hc
 |b::l,h,r,hc=>by
  unfold sA;split
  ·next e k cs e1=>
   split
   ·next xs e2=>
    rw[AV.force_eq,Ya,cond_eq_ite];split
    ·next J=>
     refine Av l (cZ.XG (tl:=[]) hc λG w a hs=> ?_);have e3:=X8 e2;exact hs.Sq xs (by show h[b]?=_;rw[e1,e3]) (λc hc=>akG.1 J c hc)
    ·exact Av l hc
   ·exact Av l hc
  ·exact Av l hc
theorem Lx{f:FuncId}{args:ak4 AV}{h:ak4 ao}{r r2:AV}(hc:cZ P f args [] λr1 J=>r1=r/\J=h)(e:TR r h=some r2)(hb:r2.aC 0=true):fX P f args (·=r2):=by
 have fin:∀{r:AV}{h:ak4 ao},(cZ P f args [] λr1 J=>r1=r/\J=h)->(r.bz 0).aC 0=true->fX P f args (·=r.bz 0):=λhc hb=>
  (hc.cut 0 (akr _) (Nat.zero_le _) (by simp) hb).mono λr1 J ⟨k1,k2⟩=>⟨by simpa using k2,k1⟩
 have gen:∀{r:AV}{h:ak4 ao},(cZ P f args [] λr1 J=>r1=r/\J=h)->IZ r h=some r2->fX P f args (·=r2):=λhc e=>by
  unfold IZ at e;split at e
  ·next r3 h3 e1=>
   cases e
   exact fin (Yf _ hc e1) hb
  ·cases e
 unfold TR at e;rcases acO e with⟨_,e⟩|⟨_,e⟩
 ·exact gen (Av _ hc) e
 ·exact gen hc e
end
theorem Qj:∀(H' H e:ak4 ao),H'.length=H.length->gU (List.range H.length) H' (H++e)=H'++e:=by
 intro H' H e hl;have gen:∀(n:Nat)(a b B r:ak4 ao),b.length=n->B.length=n->gU ((List.range n).map (a.length+·)) B (a++(b++r))=a++(B++r):=by
  intro n
  induction n with
  |zero=>intro a b B r hb hB;rw[List.length_eq_zero_iff.1 hb,List.length_eq_zero_iff.1 hB];simp [gU]
  |succ n ih=>
   intro a b B r hb hB;cases b with
   |nil=>simp at hb
   |cons b0 b=>
    cases B with
    |nil=>simp at hB
    |cons B0 B=>
     rw[List.range_succ_eq_map,akF,List.map_map,gU];have e1:(a++(b0::b++r)).set (a.length+0) B0=(a++[B0])++(b++r):=by
       rw[Nat.add_zero,List.set_append_right _ _ (akr _),Nat.sub_self];simp
     have e2:(λx=>a.length+x)∘Nat.succ=λx=>(a++[B0]).length+x:=by
      funext x
      simp only[Function.comp_apply,akh,akj,aks];omega
     rw[e1,e2,ih (a++[B0]) b B r (by simpa using hb) (by simpa using hB)];simp
 have:=gen H.length [] H H' e rfl hl
 simpa using this
theorem GB{P:ak7}{k:Nat}{x:AV}{H:ak4 ao}{C:Bool->ak4 ao->Prop}(hy:YS P k x H C)(e:ak4 ao)(hb:H.all (ao.aC H.length)=true)(hx:x.aC H.length=true)
 (hC:∀b h',C b h'->h'.length=H.length/\h'.all (ao.aC H.length)=true):YS P k x (H++e) λb h'=>∃H',C b H'/\h'=H'++e:=by
 intro G w v r n hi hv;have wm:∀i,i<H.length->rn (List.range H.length) (H++e).length i=i:=λi h=>wP (List.range H.length) _ i i (by rw[List.getElem?_range h]);have HM:∀y:AV,y.aC H.length=true->y.aH (rn (List.range H.length) (H++e).length)=y:=λy hy=>(wM (τ:=id) wm y hy).trans (FO y);have DH:∀B:ao,B.aC H.length=true->B.aH (rn (List.range H.length) (H++e).length)=B:=λB hB=>(NK (τ:=id) wm B hB).trans (JE B);obtain⟨G0,cw,rF,qE,KQ⟩:=Q8 (H:=H) (l:=List.range H.length) (h:=H++e) List.nodup_range (λj hj=>by have:=List.mem_range.1 hj;simp;omega) (λi j pk=>by
  obtain⟨aL,rfl⟩:i<H.length/\j=i:=by
   have J:=(akg.1 pk).1;rw[List.length_range]at J;rw[List.getElem?_range J]at pk;exact⟨J,(akz pk).symm⟩
  rw[akq aL,akk aL,Option.map_some,DH _ (akG.1 hb _ (List.getElem_mem aL))]) (by simp) hb hi
 obtain⟨hk,p,as,bd,fn,tm,D,J,h2⟩:=hy G0 w v r n rF (aD.rp qE (by rw[HM x hx];exact hv) x rfl (by rw[cw];exact hx));have iP:k<H.length:=cw▸hk;have gi:G.aM k=G0.aM k:=by
  have:=qE.aM k hk
  rwa [wm k iP]at this
 refine⟨by have:=qE.lt k hk;rwa [wm k iP]at this,p,as,bd,fn,tm,D,by rw[gi];exact J,?_⟩;rw[gi];refine h2.mono λe1 w' hp=> ?_;obtain⟨b,G1,H',rfl,hE,fK,jC,hc⟩:=hp;rw[cw]at hE fK;obtain⟨G2,a1,a2,a3,_⟩:=KQ G1 w' H' hE fK jC;obtain⟨c1,c2⟩:=hC b H' hc;refine⟨b,G2,H'++e,rfl,a1,a2,?_,H',hc,rfl⟩;have hm:H'.map (ao.aH (rn (List.range H.length) (H++e).length))=H':=(akL λB hB=>DH B (akG.1 c2 B hB)).trans (List.map_id _);rw[hm,Qj H' H e c1]at a3;exact a3
def kX(P:ak7)(k:Nat):ak4 AV->(Bool->ak4 ao->Prop)->ak4 ao->Prop
 |[],C,h=>C true h
 |x::l,C,h=>YS P k x h λb J=>(J.length=h.length/\J.all (ao.aC h.length)=true)/\bif b then kX P k l C J else C false J
theorem Ui{P:ak7}{k:Nat}:∀(l:ak4 AV){C C':Bool->ak4 ao->Prop}{h:ak4 ao},(∀b J,C b J->C' b J)->kX P k l C h->kX P k l C' h
 |[],_,_,_,hc,hs=>hc _ _ hs
 |x::l,C,C',h,hc,hs=>YS.mono hs λb J ⟨h2,h3⟩=>⟨h2,by
  cases b with
  |true=>exact Ui l hc h3
  |false=>exact hc _ _ h3⟩
theorem Sg{P:ak7}{k:Nat}:∀(l l':ak4 AV){C:Bool->ak4 ao->Prop}{h:ak4 ao},kX P k (l++l') C h->kX P k l (λb J=>bif b then kX P k l' C J else C false J) h
 |[],_,_,_,hs=>hs
 |x::l,l',C,h,hs=>YS.mono hs λb J ⟨h2,h3⟩=>⟨h2,by
  cases b with
  |true=>exact Sg l l' h3
  |false=>exact h3⟩
def nB(h J:ak4 ao):Prop:=J.length=h.length/\J.all (ao.aC h.length)=true
def wT(P:ak7)(gf:FuncId)(di:ak4 AV)(xs:ak4 AV):Prop:=
 ∀(k:Nat)(h:ak4 ao)(C:Bool->ak4 ao->Prop),h.all (ao.aC h.length)=true->k<h.length->kX P k xs C h->cZ P gf (.cp k::di) h λ_ J=>∃b,C b J
def S2(P:ak7)(T:TypeId):ak4 AV:=match iw P T with|some z=>z.cells.toList.map λu=> .d (.v u)|none=>[]
section
variable {P:ak7} {r:ak6 Nat} {N0:Nat} {Q:Exit->St->Prop} {ops:Array Oper} {o o1 o2 o3 o4 o5:Oper} {s:St} {K:St->Prop} {id:Nat}
theorem bQ{rest:ak4 Oper}(hg:o.guard=none)(h:nP P o (rG P ops rest K) s):rG P ops (o::rest) K s:=by
 unfold rG iB;rw[hg];exact h
theorem xr{n d:Nat}{t:ak4 (Nat×AV)}{h h':ak4 ao}{x:AV}{hd:HD}(hx:lF P o.op (ev ⟨n,t,h⟩) h=some (x,hd))(jH:o.dst=some d)(hn:Nat.ble n d=false)(he:hd.app h=h')(hK:K ⟨n,(d,x)::t,h'⟩):nP P o K ⟨n,t,h⟩:=by
 refine .inr (.inr (.inl (Rg hx ?_)));show K ((St.wh ⟨n,t,h⟩ (hd.app h)).put o.dst x);rw[jH,he];have aL:d<n:=Nat.lt_of_not_le λhle=>by rw[Nat.ble_eq_true_of_le hle]at hn;cases hn
 rw[qd (s:=St.wh ⟨n,t,h⟩ h') aL];exact hK
theorem cG{n d:Nat}{t:ak4 (Nat×AV)}{h:ak4 ao}{x:AV}(hx:lF P o.op (ev ⟨n,t,h⟩) h=some (x, .same))(jH:o.dst=some d)(hn:Nat.ble n d=false)(hK:K ⟨n,(d,x)::t,h⟩):nP P o K ⟨n,t,h⟩:=xr hx jH hn rfl hK
theorem Ly{n:Nat}{t:ak4 (Nat×AV)}{h h':ak4 ao}{x:AV}{hd:HD}(hx:lF P o.op (ev ⟨n,t,h⟩) h=some (x,hd))(jH:o.dst=none)(he:hd.app h=h')(hK:K ⟨n,t,h'⟩):nP P o K ⟨n,t,h⟩:=by
 refine .inr (.inr (.inl (Rg hx ?_)));show K ((St.wh ⟨n,t,h⟩ (hd.app h)).put o.dst x);rw[jH,he];exact hK
theorem aeM{h l:ak4 ao}{i off:Nat}{cs:ak4 AV}(hi:l[i]?=some (.cells cs)):vH (h++l) (.ptr (h.length+i) off)=some (cs,off):=by
 unfold vH;simp only;rw[akw (akV _ _),Nat.add_sub_cancel_left,hi]
theorem um{ρ:Operand->AV}{h l:ak4 ao}{T:TypeId}{p:Operand}{i off:Nat}{cs:ak4 AV}{x:AV}(hp:ρ p= .ptr (h.length+i) off)(hi:l[i]?=some (.cells cs))(hl:xx P T cs off=some x):lF P (.load T p) ρ (h++l)=some (x, .same):=by
 unfold lF;simp only[hp,aeM hi,hl,pX]
theorem Xe{ρ:Operand->AV}{h l:ak4 ao}{T:TypeId}{y:Operand}{v:AV}(hv:ρ y=v)(hb:v.jl=true):lF P (.box T y) ρ (h++l)=some (.ptr (h.length+l.length) 0, .push (.cells v.cells)):=by
 subst hv;unfold lF;simp only[hb,cond_true,akh]
theorem Ms{ρ:Operand->AV}{h l:ak4 ao}{T:TypeId}(hz:(iw P T).isSome=true):lF P (.alloc T) ρ (h++l)=some (.ptr (h.length+l.length) 0, .push (.cells (S2 P T))):=by
 unfold lF S2;cases e:iw P T with
 |none=>rw[e]at hz;cases hz
 |some z=>simp only[e,akh]
theorem DG{h l:ak4 ao}{B:ao}:(HD.push B).app (h++l)=h++(l++[B]):=by simp [HD.app]
theorem Pg{ρ:Operand->AV}{h l:ak4 ao}{T:TypeId}{p y:Operand}{i off k:Nat}{cs:ak4 AV}{v:AV}(hp:ρ p= .ptr (h.length+i) off)(hi:l[i]?=some (.cells cs))(hk:gj P T=some k)(hv:ρ y=v)(hb:(k==v.cells.length&&v.jl&&ct (off+v.cells.length) cs.length)=true){cD:ak4 AV}(gw:iz cs off v.cells=cD):
 lF P (.store T p y) ρ (h++l)=some (.d (.v undef), .set (h.length+i) (.cells cD)):=by
 subst hv gw;unfold lF;simp only[hp,hk];rw[akw (akV _ _),Nat.add_sub_cancel_left,hi];simp only[hb,cond_true]
theorem LJ{ρ:Operand->AV}{h:ak4 ao}{T:TypeId}{a i:Operand}{xs:ak4 (ak4 D)}{q e k:Nat}{c:ak4 D}(hx:ρ a= .d (.sl xs))(hi:ρ i= .d (.v (.int .i64 (Int.ofNat q))))(hT:eS P T=some (e,k))(hc:xs[q]?=some c)(hk:(c.length==k)=true):lF P (.indexAddr T a i) ρ h=some (.bn [c] 0 0, .same):=by
 unfold lF;simp only[hx,hi];unfold E1;simp only[hT,AV.fF,AV.int?,zN,hc,hk,cond_true,pX]
theorem K8{h l:ak4 ao}{B:ao}{i:Nat}:(HD.set (h.length+i) B).app (h++l)=h++l.set i B:=by
 simp only[HD.app];rw[List.set_append_right _ _ (akV _ _),Nat.add_sub_cancel_left]
theorem I6{n d:Nat}{t:ak4 (Nat×AV)}{h:ak4 ao}{T:TypeId}{x y:Operand}{p:TypeId}{xs:ak4 (ak4 D)}{q:TypeId×Nat}(ho:o.op= .binOp .eql T x y p)(hx:(ev ⟨n,t,h⟩ x).fF=some xs)(hy:ev ⟨n,t,h⟩ y= .d (.v (.slice none 0 0)))(hT:eS P T=some q)(jH:o.dst=some d)(hn:Nat.ble n d=false)
 (J:xs=[]->K ⟨n,(d, .d (.v (.bool true)))::t,h⟩) (h2:K ⟨n,(d, .d (.v (.bool false)))::t,h⟩):nP P o K ⟨n,t,h⟩:=by
 refine .inr (.inl ?_);have aL:d<n:=Nat.lt_of_not_le λhle=>by rw[Nat.ble_eq_true_of_le hle]at hn;cases hn
 unfold B6;simp only[ho,hx,hy,hT,wi,jH,qd (s:=⟨n,t,h⟩) aL];exact⟨J,h2⟩
theorem yu{n d k:Nat}{t:ak4 (Nat×AV)}{h:ak4 ao}{c:Call}{f:Operand}{x:AV}(ho:o.op= .call c)(hc:c.callee= .value f)(hf:ev ⟨n,t,h⟩ f= .cp k)(hx:c.args.toList.map (ev ⟨n,t,h⟩)=[x])(jH:o.dst=some d)(hn:Nat.ble n d=false)
 (hy:YS P k x h λb h'=>K ⟨n,(d, .d (.v (.bool b)))::t,h'⟩):nP P o K ⟨n,t,h⟩:=by
 refine .inr (.inr (.inr (.inl ?_)));unfold Hu;simp only[ho,hc,hf,hx];refine hy.mono λb h' hK=> ?_;have aL:d<n:=Nat.lt_of_not_le λhle=>by rw[Nat.ble_eq_true_of_le hle]at hn;cases hn
 rw[jH,qd (s:=St.wh ⟨n,t,h⟩ h') aL];exact hK
theorem Az{n:Nat}{t:ak4 (Nat×AV)}{h:ak4 ao}{c:Call}{f:Operand}{g:FuncId}{di:ak4 AV}(ho:o.op= .call c)(hc:c.callee= .value f)(hf:ev ⟨n,t,h⟩ f= .fn g di)
 (hA:cZ P g (c.args.toList.map (ev ⟨n,t,h⟩)++di) h λx h'=>K ((St.wh ⟨n,t,h⟩ h').put o.dst x)):nP P o K ⟨n,t,h⟩:=by
 refine .inr (.inr (.inl ?_));unfold pZ cT;simp only[ho,hc,hf];exact hA
end
theorem Ze{P:ak7}{f:FuncId}{args:ak4 AV}{H:ak4 ao}{K:AV->ak4 ao->Prop}(hc:cZ P f args H K)(e:ak4 ao)(hb:H.all (ao.aC H.length)=true)(ha:args.all (AV.aC H.length)=true)
 (hK:∀r h',K r h'->h'.length=H.length/\h'.all (ao.aC H.length)=true/\r.aC H.length=true):cZ P f args (H++e) λr h'=>∃H',K r H'/\h'=H'++e:=by
 have wm:∀i,i<H.length->rn (List.range H.length) (H++e).length i=i:=λi h=>wP (List.range H.length) _ i i (by rw[List.getElem?_range h]);have HM:∀y:AV,y.aC H.length=true->y.aH (rn (List.range H.length) (H++e).length)=y:=λy hy=>(wM (τ:=id) wm y hy).trans (FO y);have DH:∀B:ao,B.aC H.length=true->B.aH (rn (List.range H.length) (H++e).length)=B:=λB hB=>(NK (τ:=id) wm B hB).trans (JE B);have:=hc.Xi (l:=List.range H.length) (h:=H++e) List.nodup_range (λj hj=>by have:=List.mem_range.1 hj;simp;omega) (λi j pk=>by
  obtain⟨aL,rfl⟩:i<H.length/\j=i:=by
   have J:=(akg.1 pk).1;rw[List.length_range]at J;rw[List.getElem?_range J]at pk;exact⟨J,(akz pk).symm⟩
  rw[akq aL,akk aL,Option.map_some,DH _ (akG.1 hb _ (List.getElem_mem aL))]) (by simp) ha hb
 have ea:args.map (AV.aH (rn (List.range H.length) (H++e).length))=args:=(akL λx hx=>HM x (akG.1 ha x hx)).trans (List.map_id _);rw[ea]at this;refine this.mono λr' h' ⟨r,H',k1,k2,k3⟩=> ?_;obtain⟨c1,c2,c3⟩:=hK r H' k1;have hm:H'.map (ao.aH (rn (List.range H.length) (H++e).length))=H':=(akL λB hB=>DH B (akG.1 c2 B hB)).trans (List.map_id _);rw[hm,Qj H' H e c1]at k3;rw[HM r c3]at k2;exact⟨H',by rw[k2];exact k1,k3⟩
theorem ahN{h:ak4 ao}{p:AV}{K K':ak4 AV->Nat->Prop}(hk:∀cs off,K cs off->K' cs off)(hp:rN h p K):rN h p K':=by
 unfold rN at hp ⊢;split at hp
 ·next n off=>
  split at hp
  ·next cs e=>(try simp only[e]);exact hk _ _ hp
  ·exact hp.elim
 ·next xs i off=>
  split at hp
  ·next cs e=>(try simp only[e]);exact hk _ _ hp
  ·exact hp.elim
 ·exact hp.elim
theorem Zq{P:ak7}{T:TypeId}{h:ak4 ao}{p:AV}{K K':AV->Prop}(hk:∀x,K x->K' x)(hp:nx P T h p K):nx P T h p K':=
 ahN (λcs off hc=>by
  split at hc
  ·next k e1 e2=>
   try simp only[e1,e2]
   exact bV.2 ⟨(bV.1 hc).1,hk _ (bV.1 hc).2⟩
  ·next k e1 e2=>
   try simp only[e1,e2]
   split at hc
   ·next c e3=>(try simp only[e3]);exact hk _ hc
   ·exact hc.elim
  ·exact hc.elim) hp
theorem ajF{P:ak7}{fn:Func}{n:Nat}{t:ak4 (Nat×AV)}{H l:ak4 ao}{K:AV->ak4 ao->Prop}(hb:H.all (ao.aC H.length)=true)(hr:mj P ⟨n,t,H++l⟩ fn.results.toList λrs=>((jG rs).bz H.length).aC H.length=true/\K ((jG rs).bz H.length) H):qg P fn H.length K ⟨n,t,H++l⟩:=by
 have ht:(((H++l).take H.length).map (ao.bz H.length))=H:=by rw[List.take_left];exact Lo hb
 unfold qg;show mj P ⟨n,t,H++l⟩ fn.results.toList λrs=>H.length<=(H++l).length/\_;simp only[ht];have gen:∀(rv:ak4 ResultVar){C C':ak4 AV->Prop},(∀x,C x->C' x)->mj P ⟨n,t,H++l⟩ rv C->mj P ⟨n,t,H++l⟩ rv C':=by
  intro rv
  induction rv with
  |nil=>intro C C' hc h;exact hc _ h
  |cons x rv ih=>
   intro C C' hc h;cases x with
   |tmp t=>exact ih (λy hy=>hc _ hy) h
   |cell p t=>exact Zq (λx h=>ih (λy hy=>hc _ hy) h) h
 exact gen _ (λrs ⟨J,h2⟩=>⟨by simp,J,hb,h2⟩) hr
theorem zZ{n:Nat}{t:ak4 (Nat×AV)}{H l:ak4 ao}(live:ak4 Nat)(hb:H.all (ao.aC H.length)=true):(⟨n,t,H++l⟩:St).mask live H.length=⟨n,live.map λk=>(k,(bw t k).bz H.length),H⟩:=by
 unfold St.mask;rw[show((H++l).take H.length).map (ao.bz H.length)=H by rw[List.take_left];exact Lo hb]
theorem xT{n:Nat}{t:ak4 (Nat×AV)}{H l:ak4 ao}(live:ak4 Nat)(hb:H.all (ao.aC H.length)=true)(hl:(live.all λk=>((bw t k).bz H.length).aC H.length)=true):(⟨n,t,H++l⟩:St).zw live H.length:=
 ⟨by simp,hl,by rw[show((H++l).take H.length).map (ao.bz H.length)=H by rw[List.take_left];exact Lo hb];exact hb⟩
theorem IV{n:Nat}{t:ak4 (Nat×AV)}{H:ak4 ao}(live:ak4 Nat)(hb:H.all (ao.aC H.length)=true):(⟨n,t,H⟩:St).mask live H.length=⟨n,live.map λk=>(k,(bw t k).bz H.length),H⟩:=by
 have:=zZ (n:=n) (t:=t) (l:=[]) live hb
 rwa [akB]at this
theorem Jn{n:Nat}{t:ak4 (Nat×AV)}{H:ak4 ao}(live:ak4 Nat)(hb:H.all (ao.aC H.length)=true)(hl:(live.all λk=>((bw t k).bz H.length).aC H.length)=true):(⟨n,t,H⟩:St).zw live H.length:=by
 have:=xT (n:=n) (t:=t) (l:=[]) live hb hl
 rwa [akB]at this
theorem xn{k m:Nat}(h:k<m):((AV.cp k).bz m).aC m=true:=by simp [AV.bz,AV.aC,ct];omega
structure su(s:St)(m:Nat)(s':St):Prop where
 cut:∀{G:Gh}{w:World}{a:Act},db G w a s->db (G.cut m) w a s'
theorem su.S{s s':St}{live:ak4 Nat}{m:Nat}(h:jE s live m=some s'):su s m s':=⟨λhs=>hs.jE h⟩
theorem ahq{P:ak7}{r:ak6 Nat}{N0 m:Nat}{c:Code}{s:St}{R R':Exit->St->Prop}(hm:N0<=m)(h:bD P r N0 c R s)(hR:∀e s2,R e s2->∃s',su s2 m s'/\R' e s'):bD P r N0 c R' s:=by
 constructor
 intro G w a n hs hN;refine wpIn_mono (h.run G w a n hs hN) λe a1 w1 hn=> ?_;obtain⟨G1,s1,hE,_,eY,hq⟩:=hn;obtain⟨s',k1,k2⟩:=hR e s1 hq;exact⟨G1.cut m,s',hE.trans (ov _ _ _ _),hm,k1.cut eY,k2⟩
def C2(m:Nat)(n:Nat)(T:ak4 (Nat×AV))(LP:ao)(next:ak4 ao->Prop)(Q:Exit->St->Prop)(e:Exit)(s:St):Prop:=
 ∃hs,hs.length=m/\hs.all (ao.aC (m+1))=true/\su s (m+1) ⟨s.n,[],hs++[LP]⟩/\match e with
  | .normal=>next hs
  | .ret=>Q .ret ⟨n,T,hs++[.gone]⟩
  | .exit i=>Q (.exit i) ⟨n,T,hs++[.gone]⟩
  |_=>False
theorem vj{P:ak7}{N0 n m:Nat}{T:ak4 (Nat×AV)}{H:ak4 ao}{Q:Exit->St->Prop}{g:Operand}{p:Nat}{as bd:Code}{gf:FuncId}{di:ak4 AV}(hg:ev ⟨n,T,H⟩ g= .fn gf di){α:Type}{enc:α->AV}{xs:ak4 α}(hI:wT P gf di (xs.map enc))
 {ι:Type} (Hs:ι->ak4 ao) (I:ι->ak4 α->Prop) (i0:ι) (h0:H=Hs i0) (rF:I i0 xs) (hl:∀i,(Hs i).length=m) (jL:∀i,(Hs i).all (ao.aC (m+1))=true) (hT:(dx n T).all (AV.aC (m+1))=true) (hp:Nat.ble n p=false)
 (round:∀i x l,I i (x::l)->∀(rr:Nat)(a b:Code),bD P (some rr) (m+1) as (hO (λs1=>∃hs e,hs.length=m/\s1.h=hs++ .lp .ready p a b (dx n T)::e/\
  bD P (some rr) (m+1) bd (C2 m n T (.lp .busy p a b (dx n T)) (λcM=>∃i',cM=Hs i'/\I i' l) Q) ⟨s1.n,s1.t,hs++ .lp .busy p a b (dx n T)::e⟩) (λ_ _=>False)) ⟨n,(p,enc x)::lx 0 (dx n T),Hs i++[.lp .ready p a b (dx n T)]⟩)
 (done:∀i,I i []->Q .normal ⟨n,T,Hs i++[.gone]⟩):bD P none N0 (.rangeFunc g #[p] as bd) Q ⟨n,T,H⟩:=by
 subst h0;have hm:(Hs i0).length=m:=hl i0;have V2:(dx n T).length=n:=by simp [dx]
 have GQ:∀ls,(ao.lp ls p as bd (dx n T)).aC (m+1)=true:=λls=>hT;refine afX hg ?_;show cZ P gf (.cp (Hs i0).length::di) (Hs i0++[.lp .ready p as bd (dx n T)]) _;have Ey:∀(hs:ak4 ao)(B B':ao),hs.length=m->(hs++[B]).set m B'=hs++[B']:=λhs B B' h=>by
  rw[List.set_append_right _ _ (Nat.le_of_eq h),h,Nat.sub_self];rfl
 have fz:∀(hs:ak4 ao)(B:ao)(e:ak4 ao),hs.length=m->(hs++B::e)[m]?=some B:=λhs B e h=>by
  rw[akw (Nat.le_of_eq h),h,Nat.sub_self];rfl
 have seq:∀(l:ak4 α)(i:ι),I i l->kX P m (l.map enc) (λb J=>∃(hs:ak4 ao)(ls:LS),hs.length=m/\J=hs++[.lp ls p as bd (dx n T)]/\KE P N0 Q ⟨n,T,hs++[.gone]⟩ ls) (Hs i++[.lp .ready p as bd (dx n T)]):=by
  intro l
  induction l with
  |nil=>intro i hi;exact⟨Hs i, .ready,hl i,rfl,done i hi⟩
  |cons x l ih=>
   intro i hi;have hlen:(Hs i++[ao.lp .ready p as bd (dx n T)]).length=m+1:=by simp [hl i]
   refine aed ⟨p,as,bd,dx n T,fz _ _ [] (hl i),?_,λrr=> ?_⟩
   ·rw[V2];exact Nat.lt_of_not_le λhle=>by rw[Nat.ble_eq_true_of_le hle]at hp;cases hp
   ·rw[hlen,V2];refine(round i x l hi rr as bd).mono λe s1 eY=> ?_;cases e with
    |normal=>
     obtain⟨hs,e',k1,k2,k3⟩:=eY;refine⟨p,as,bd,dx n T,by rw[k2];exact fz _ _ _ k1,?_⟩;have hse:s1.h.set m (.lp .busy p as bd (dx n T))=hs++ .lp .busy p as bd (dx n T)::e':=by
      rw[k2,List.set_append_right _ _ (Nat.le_of_eq k1),k1,Nat.sub_self];rfl
     rw[hse];refine ahq (akr _) k3 λe2 s2 hr=> ?_;obtain⟨zj,c2,c5,c3,c4⟩:=hr;refine⟨_,c3,?_⟩;have fD:∀B,B.aC (m+1)=true->(zj++[B]).all (ao.aC (m+1))=true:=λB hB=>by
       rw[List.all_append,c5];simp [hB]
     have Bu:(zj++[ao.lp .busy p as bd (dx n T)])[m]?=some (.lp .busy p as bd (dx n T)):=fz _ _ [] c2;cases e2 with
     |normal=>
      obtain⟨i',rfl,dY⟩:=c4;refine⟨p,as,bd,dx n T,Bu,?_⟩;simp only[Ey _ _ _ c2];exact⟨⟨by simp [hl],fD _ (GQ _)⟩,ih i' dY⟩
     |ret=>
      refine⟨p,as,bd,dx n T,Bu,?_⟩;simp only[Ey _ _ _ c2];exact⟨⟨by simp [c2],fD _ (GQ _)⟩,zj, .done .ret,c2,rfl,cV c4⟩
     |exit j=>
      refine⟨p,as,bd,dx n T,Bu,?_⟩;simp only[Ey _ _ _ c2];exact⟨⟨by simp [c2],fD _ (GQ _)⟩,zj, .done (.exit j),c2,rfl,kR c4⟩
     |_=>exact c4.elim
    |_=>exact eY.elim
 have RE:(Hs i0++[ao.lp .ready p as bd (dx n T)]).length=m+1:=by simp [hm]
 refine(hI (Hs i0).length _ _ (by rw[RE,List.all_append,jL i0];simp [GQ]) (by rw[RE,hm];exact ak2 m) (by rw[hm];exact seq xs i0 rF)).mono λ_ J hb=> ?_;obtain⟨b,hs,ls,k1,rfl,k2⟩:=hb;refine⟨ls,p,as,bd,dx n T,?_,?_⟩
 ·show(hs++[ao.lp ls p as bd (dx n T)])[(Hs i0).length]?=_;rw[hm];exact fz _ _ [] k1
 ·show KE P N0 Q ⟨n,T,(hs++[ao.lp ls p as bd (dx n T)]).set (Hs i0).length .gone⟩ ls;rw[hm,Ey _ _ _ k1];exact k2
section
variable {m n:Nat} {T:ak4 (Nat×AV)} {LP:ao} {next:ak4 ao->Prop} {Q:Exit->St->Prop} {s:St}
theorem zd(hs:ak4 ao)(hl:hs.length=m)(hb:hs.all (ao.aC (m+1))=true)(hc:jE s [] (m+1)=some ⟨s.n,[],hs++[LP]⟩)(hn:next hs):C2 m n T LP next Q .normal s:=⟨hs,hl,hb, .S hc,hn⟩
theorem Bn(hs:ak4 ao)(hl:hs.length=m)(hb:hs.all (ao.aC (m+1))=true)(hc:jE s [] (m+1)=some ⟨s.n,[],hs++[LP]⟩)(hq:Q .ret ⟨n,T,hs++[.gone]⟩):C2 m n T LP next Q .ret s:=⟨hs,hl,hb, .S hc,hq⟩
theorem ahp{i:Nat}(hs:ak4 ao)(hl:hs.length=m)(hb:hs.all (ao.aC (m+1))=true)(hc:jE s [] (m+1)=some ⟨s.n,[],hs++[LP]⟩)(hq:Q (.exit i) ⟨n,T,hs++[.gone]⟩):C2 m n T LP next Q (.exit i) s:=⟨hs,hl,hb, .S hc,hq⟩
end
set_option linter.unusedSimpArgs false
set_option linter.unusedVariables false
abbrev Lf:=St×ak4 Nat×ak4 (Nat×ak4 (In×cb))
def tG(go:Nat->ak6 (ak4 Lf)):ak4 Nat->ak6 (ak4 Lf)
 |[]=>some []
 |k::r=>match go k with
  |some a=>match tG go r with
   |some b=>some (a++b)
   |none=>none
  |none=>none
def yx(P:ak7)(ops:Array Oper)(A C:ak4 Nat)(as:ak4 (Nat×cb)):Nat->Nat->ak4 Nat->ak4 (Nat×ak4 (In×cb))->St->ak6 (ak4 Lf)
 |0,L,al,acc,s=>match oT A L 0 with
  |[]=>some [(s,al,acc)]
  |_=>none
 |f+1,L,al,acc,s=>match oT A L 0 with
  |[]=>some [(s,al,acc)]
  |k0::r=>tG (λk=>match ops[k]? with
     |some o=>match mY P ops true o k as s with
      |some (s1,l)=>fN (L|||(1<<<k)) λL=>yx P ops A C as f L (al++List.replicate (s1.h.length-s.h.length) k) ((k,l)::acc) s1
      |none=>none
     |none=>none) (match vZ C L (k0::r)with
      |some k=>[k]
      |none=>k0::r)
theorem XK{go:Nat->ak6 (ak4 Lf)}:∀{l:ak4 Nat}{ls:ak4 Lf},tG go l=some ls->∀k∈l,∃a,go k=some a/\∀x∈a,x∈ls
 |[],_,_,k,hk=>by cases hk
 |j::r,ls,h,k,hk=>by
  unfold tG at h;split at h
  ·next a e1=>
   split at h
   ·next b e2=>
    cases h
    rcases akK.1 hk with rfl|hk
    ·exact⟨a,e1,λx hx=>List.mem_append_left _ hx⟩
    ·obtain⟨a',e3,h3⟩:=XK e2 k hk;exact⟨a',e3,λx hx=>List.mem_append_right _ (h3 x hx)⟩
   ·cases h
  ·cases h
section
variable {P:ak7} {ops:Array Oper} {as:ak4 (Nat×cb)} {K:St->Prop} {s0:St}
theorem Z1{o:Oper}{j:Nat}{dr:Bool}{s s1:St}{l:ak4 (In×cb)}(h:mY P ops dr o j as s=some (s1,l))(ho:o∈ops.toList)(hB:l7 (nk ops.toList) s0 s):l7 (nk ops.toList) s0 s1:=by
 have cI:∀{i a r l},sR i a r=some (s1,l)->∃m,r=some (s1,m):=fun{i a r l} h=>by
  unfold sR at h;split at h
  ·exact⟨_,h⟩
  ·split at h
   ·cases h;exact⟨_,rfl⟩
   ·cases h
 have cR:∀{m r l},pK m r=some (s1,l)->∃m,r=some (s1,m):=fun{m r l} h=>by
  unfold pK at h;split at h
  ·cases h;exact⟨_,rfl⟩
  ·cases h
 have TX:l7 (nk ops.toList) s0 (Bc o s):=hB.put s.h (.d (.v undef)) (Gm ho);have st:∀l,mJ P dr o j as s=some (s1,l)->l7 (nk ops.toList) s0 s1:=λl h=>by
  unfold mJ at h;cases hd:dr&&xH (iy as (3*j+1))&& !yc o (iy as (3*j+1))with
  |true=>rw[hd]at h;cases h
  |false=>
   rw[hd]at h;simp only[cond_false]at h;split at h
   ·split at h<;>(obtain⟨m,e⟩:=cI h;cases e;exact hB.put _ _ (Gm ho))
   ·cases h
 unfold mY at h;split at h
 ·exact st _ h
 ·split at h
  ·obtain⟨m,e⟩:=cR h;revert e;generalize ((_:Bool)==_)=q;intro e;cases q with
   |true=>exact st _ e
   |false=>cases e;exact TX
  ·obtain⟨m,e⟩:=cR h;cases e;exact TX
  ·cases h
theorem RO(hK:qh K)(hM:ny (Region.before ops) ops=true)(t0:ak4 (Nat×AV)):
 ∀(fuel L:Nat)(listed:Array Bool)(al:ak4 Nat)(acc:ak4 (Nat×ak4 (In×cb)))(s:St)(ls:ak4 Lf),LM ops L listed->Dn ops listed->yx P ops (nV ops 0 ops.size) (jT ops false (Region.before ops) 0 ops.size) as fuel L al acc s=some ls->
  (∃x,x∈ls)/\(∀x∈ls,(∀p∈acc,p∈x.2.2)/\((∃pre,s.t=pre++t0)->∃pre,x.1.t=pre++t0)/\(l7 (nk ops.toList) s0 s->l7 (nk ops.toList) s0 x.1))/\((∀x∈ls,(∀p∈x.2.2,fY P p.2)/\K x.1)->ku false P ops K fuel listed s)
 |0,L,listed,al,acc,s,ls,hL,hD,h=>by
  unfold yx at h;split at h
  ·next hr=>
   cases h
   refine⟨⟨_,akm⟩,λx hx=> ?_,λhk=>⟨?_,(hk _ akm).2⟩⟩
   ·rw[List.mem_singleton]at hx;subst hx;exact⟨λ_ h=>h,λh=>h,λh=>h⟩
   ·rw[List.eq_nil_iff_forall_not_mem];intro i hi;have:=(hL.ready i).1 hi;rw[hr]at this;cases this
  ·cases h
 |fuel+1,L,listed,al,acc,s,ls,hL,hD,h=>by
  have mem:∀{k:Nat}{o:Oper},ops[k]?=some o->o∈ops.toList:=λho=>Array.mem_toList_iff.2 (Array.mem_of_getElem? ho);unfold yx at h;split at h
  ·next hr=>
   cases h
   refine⟨⟨_,akm⟩,λx hx=> ?_,λhk=>⟨λ_=>(hk _ akm).2,λi hi=> ?_⟩⟩
   ·rw[List.mem_singleton]at hx;subst hx;exact⟨λ_ h=>h,λh=>h,λh=>h⟩
   ·have:=(hL.ready i).1 hi;rw[hr]at this;cases this
  ·next k0 r hr=>
   generalize hgo:(λk:Nat=>(match ops[k]? with
    |some o=>match mY P ops true o k as s with
     |some (s1,l)=>fN (L|||(1<<<k)) λL=>yx P ops (nV ops 0 ops.size) (jT ops false (Region.before ops) 0 ops.size) as fuel L (al++List.replicate (s1.h.length-s.h.length) k) ((k,l)::acc) s1
     |none=>none
    |none=>none:ak6 (ak4 Lf)))=go at h
   have one:∀k a,k∈Region.ready .any ops listed->go k=some a->∃o s1 l,ops[k]?=some o/\mY P ops true o k as s=some (s1,l)/\(∃x,x∈a)/\(∀x∈a,(∀p∈(k,l)::acc,p∈x.2.2)/\((∃pre,s.t=pre++t0)->∃pre,x.1.t=pre++t0)/\(l7 (nk ops.toList) s0 s->l7 (nk ops.toList) s0 x.1))/\
       ((∀x∈a,(∀p∈x.2.2,fY P p.2)/\K x.1)->∃y J,lR false P ops o s y J/\ku false P ops K fuel (listed.setIfInBounds k true) ((s.wh J).put o.dst y)):=λk a th tF=>by
    rw[<-hgo]at tF;simp only at tF;split at tF
    ·next o ho=>
     split at tF
     ·next s1 l hg=>
      rw[xp]at tF;obtain⟨J,h2,h3⟩:=RO hK hM t0 fuel _ _ _ _ s1 a (hL.set (akv.1 ho).1) (hD.set th) tF;refine⟨o,s1,l,ho,hg,J,λx hx=>⟨(h2 x hx).1,fun⟨pre,hp⟩=> ?_,λhB=>(h2 x hx).2.2 (Z1 hg (mem ho) hB)⟩,λhk=> ?_⟩
      ·obtain⟨⟨p1,e1⟩,_⟩:=Oc hg;exact(h2 x hx).2.1 ⟨p1++pre,by rw[e1,hp,akx]⟩
      ·obtain⟨x,hx⟩:=J;have hl:fY P l:=(hk x hx).1 (k,l) ((h2 x hx).1 _ akm);have h4:=K5 (K:=(·=s1)) hg hl rfl;have h5:=h3 hk;have:∃y J,lR false P ops o s y J/\(s.wh J).put o.dst y=s1:=by
        rcases Hw h4 with⟨g,hd⟩|⟨g,hd⟩
        ·obtain⟨y,J,h2,h3⟩:=HZ hd;exact⟨y,J, .inl ⟨g,h2⟩,h3⟩
        ·exact⟨_,s.h, .inr ⟨g,rfl,rfl⟩,hd⟩
       obtain⟨y,hh,q1,rfl⟩:=this;exact⟨y,hh,q1,h5⟩
     ·cases tF
    ·cases tF
   cases hf:vZ (jT ops false (Region.before ops) 0 ops.size) L (k0::r)with
   |some k=>
    rw[hf]at h;obtain⟨kN,tP⟩:=Dj hf;have th:k∈Region.ready .any ops listed:=(hL.ready k).2 (by rw[hr];exact kN);unfold tG at h;split at h
    ·next a e1=>
     unfold tG at h;simp only[akB]at h;cases h
     obtain⟨o,s1,l,ho,hg,J,h2,h3⟩:=one k _ th e1;refine⟨J,λx hx=>⟨λp hp=>(h2 x hx).1 p (akp _ hp),(h2 x hx).2⟩,λhk=> ?_⟩;obtain⟨y,hh,q1,q2⟩:=h3 hk;refine EW hK hM ho fuel listed s hD (λj oj hj cN oB qI=> ?_) th q1 q2;have An:=(akv.1 hj).1;have nF:=(akv.1 ho).1;have JC:Nat.testBit L j=false:=by
      rw[hL.b];have iC:j<listed.size:=by rw[hL.sz];exact An
      simpa [iC]using oB
     have m6:Nat.testBit (td ops false (Region.before ops) k) j=false:=by
      rw[<-Bool.not_eq_true];intro hc;have h5:(jT ops false (Region.before ops) 0 ops.size).getD k 0=td ops false (Region.before ops) k:=by
        rw[List.getD_eq_getElem?_getD,MF,if_pos nF,akA];rfl
      rw[h5]at tP;have:=congrArg (λn=>Nat.testBit n j) tP;simp only[Nat.testBit_or,hc,JC]at this;cases this
     unfold td at m6;rw[Bg]at m6;unfold Oj at m6;rw[qI,ho,hj]at m6;simp [An,cN]at m6;exact m6
    ·cases h
   |none=>
    rw[hf]at h;have Wj:=XK h;have yF:k0∈Region.ready .any ops listed:=(hL.ready k0).2 (by rw[hr];simp);have back:∀(l:ak4 Nat)(ls:ak4 Lf),tG go l=some ls->∀x∈ls,∃k∈l,∃a,go k=some a/\x∈a:=by
      intro l
      induction l with
      |nil=>intro ls h x hx;cases h;cases hx
      |cons j r ih=>
       intro ls h x hx;unfold tG at h;split at h
       ·next a e1=>
        split at h
        ·next b e2=>
         cases h
         rcases akS.1 hx with hx|hx
         ·exact⟨j,akm,a,e1,hx⟩
         ·obtain⟨k,hk,a',J,h2⟩:=ih b e2 x hx;exact⟨k,akp _ hk,a',J,h2⟩
        ·cases h
       ·cases h
    refine⟨?_,λx hx=> ?_,λhk=>⟨λe=>(by rw[e]at yF;cases yF),λi hi oi Hb=> ?_⟩⟩
    ·obtain⟨a,e1,J⟩:=Wj k0 akm;obtain⟨o,s1,l,ho,hg,⟨x,hx⟩,_⟩:=one k0 a yF e1;exact⟨x,J x hx⟩
    ·obtain⟨k,hk,a,e1,P2⟩:=back _ _ h x hx;obtain⟨o,s1,l,ho,hg,J,h2,h3⟩:=one k a ((hL.ready k).2 (by rw[hr];exact hk)) e1;exact⟨λp hp=>(h2 x P2).1 p (akp _ hp),(h2 x P2).2⟩
    ·have dY:i∈k0::r:=by rw[<-hr];exact(hL.ready i).1 hi
     obtain⟨a,e1,J⟩:=Wj i dY;obtain⟨o,s1,l,ho,hg,_,_,h3⟩:=one i a hi e1;rw[ho]at Hb;cases Hb;exact h3 λx hx=>hk x (J x hx)
end
def Mb(k:Nat):ak4 Nat->Nat
 |[]=>0
 |j::l=>bif ct (j+1) k then Mb k l+1 else Mb k l
def Kt(k:Nat):ak4 Nat->Nat
 |[]=>0
 |j::l=>bif j==k then Kt k l+1 else Kt k l
def N4(h0:Nat)(all:ak4 Nat):ak4 Nat->ak4 Nat->ak4 Nat
 |_,[]=>[]
 |pre,k::l=>fN (h0+Mb k all+Kt k pre) λq=>q::N4 h0 all (k::pre) l
def SX(q:Nat):ak4 Nat->Nat->Nat
 |[],i=>i
 |x::l,i=>bif x==q then i else SX q l (i+1)
def OW(h0:Nat)(p:ak4 Nat):Nat->Nat->ak4 Nat
 |0,_=>[]
 |n+1,q=>fN (SX q p h0) λi=>i::OW h0 p n (q+1)
def CB(a:Nat×ak4 (In×cb)):ak4 (Nat×ak4 (In×cb))->ak4 (Nat×ak4 (In×cb))
 |[]=>[a]
 |b::l=>bif ct a.1 b.1 then a::b::l else b::CB a l
def AM:ak4 (Nat×ak4 (In×cb))->ak4 (Nat×ak4 (In×cb))
 |[]=>[]
 |a::l=>CB a (AM l)
def Hv:ak4 (Nat×ak4 (In×cb))->ak4 (In×cb)
 |[]=>[]
 |a::l=>a.2++Hv l
def rK(p q:ak4 Nat)(h0:Nat)(h:ak4 ao):Nat->Nat->ak4 ao
 |0,_=>[]
 |n+1,i=>(match h[gk h0 q i]? with|some B=>B.aH (gk h0 p)|none=> .gone)::rK p q h0 h n (i+1)
def yq(h0:Nat)(p:ak4 Nat):Bool:=(List.range p.length).all λi=>p.getD i 0==h0+i
theorem agX{h0:Nat}{p:ak4 Nat}(h:yq h0 p=true):gk h0 p=id:=by
 funext i
 unfold gk;cases e:ct h0 i with
 |false=>rfl
 |true=>
  rw[dy]at e;simp only[cond_true,id];by_cases hi:i-h0<p.length
  ·unfold yq at h;rw[akG]at h;have:=h (i-h0) (List.mem_range.2 hi);rw[beq_iff_eq,List.getD_eq_getElem?_getD,akk hi]at this;rw[List.getD_eq_getElem?_getD,akk hi];simp only[Option.getD_some]at this ⊢;omega
  ·rw[List.getD_eq_getElem?_getD,akM (by omega)];rfl
def Yb(keep:ak4 Nat)(s:St)(x:Lf)(p q:ak4 Nat):ak6 (ak4 (Nat×AV)×ak4 ao×ak4 (In×cb)):=
 bif (x.1.t.take (x.1.t.length-s.t.length)).all (λp=>keep.any (·==p.1)||PD (bw s.t p.1))&&(List.range x.1.h.length).all (λi=>ct (gk s.h.length p i+1) x.1.h.length&&ct (gk s.h.length q i+1) x.1.h.length&&gk s.h.length q (gk s.h.length p i)==i&&gk s.h.length p (gk s.h.length q i)==i)
 then some (keep.map λk=>(k,(bw x.1.t k).aH (gk s.h.length p)),bif yq s.h.length p then x.1.h else rK p q s.h.length x.1.h x.1.h.length 0,Hv (AM x.2.2))else none
def He(keep:ak4 Nat)(s:St)(x:Lf):ak6 (ak4 (Nat×AV)×ak4 ao×ak4 (In×cb)):=
 fL (N4 s.h.length x.2.1 [] x.2.1) λp=>fL (OW s.h.length p p.length s.h.length) λq=>Yb keep s x p q
def DT(keep:ak4 Nat)(s:St):ak4 Lf->ak6 (ak4 (ak4 (Nat×AV)×ak4 ao×ak4 (In×cb)))
 |[]=>some []
 |x::l=>match He keep s x with
  |some a=>match DT keep s l with
   |some b=>some (a::b)
   |none=>none
  |none=>none
def wY(P:ak7)(ol:ak4 Oper)(as:ak4 (Nat×cb))(keep:ak4 Nat)(s:St):ak6 (ak4 (ak4 (Nat×AV)×ak4 ao×ak4 (In×cb))):=
 bif ny (Region.before ol.toArray) ol.toArray then fL (nV ol.toArray 0 ol.toArray.size) λA=>fL (jT ol.toArray false (Region.before ol.toArray) 0 ol.toArray.size) λC=>
  match yx P ol.toArray A C as ol.toArray.size 0 [] [] s with
  |some ls=>DT keep s ls
  |none=>none
 else none
theorem KR{keep:ak4 Nat}{s:St}:∀{ls:ak4 Lf}{r},DT keep s ls=some r->∀x∈ls,∃a∈r,He keep s x=some a
 |[],_,_,x,hx=>by cases hx
 |y::l,r,h,x,hx=>by
  unfold DT at h;split at h
  ·next a e1=>
   split at h
   ·next b e2=>
    cases h
    rcases akK.1 hx with rfl|hx
    ·exact⟨a,akm,e1⟩
    ·obtain⟨a',J,h2⟩:=KR e2 x hx;exact⟨a',akp _ J,h2⟩
   ·cases h
  ·cases h
theorem PX{a x:Nat×ak4 (In×cb)}:∀{l:ak4 (Nat×ak4 (In×cb))},x∈CB a l↔x=a\/x∈l
 |[]=>by simp [CB]
 |b::l=>by
  unfold CB;cases ct a.1 b.1 with
  |true=>simp
  |false=>
   simp only[cond_false,akK,PX (l:=l)];constructor
   ·rintro(h|h|h)
    ·exact .inr (.inl h)
    ·exact .inl h
    ·exact .inr (.inr h)
   ·rintro(h|h|h)
    ·exact .inr (.inl h)
    ·exact .inl h
    ·exact .inr (.inr h)
theorem R5{x:Nat×ak4 (In×cb)}:∀{l:ak4 (Nat×ak4 (In×cb))},x∈AM l↔x∈l
 |[]=>by simp [AM]
 |a::l=>by rw[AM,PX,R5 (l:=l),akK]
theorem R9{P:ak7}:∀{l:ak4 (Nat×ak4 (In×cb))},fY P (Hv l)->∀p∈l,fY P p.2
 |[],_,p,hp=>by cases hp
 |a::l,h,p,hp=>by
  unfold Hv at h;rcases akK.1 hp with rfl|hp
  ·exact λq hq=>h q (List.mem_append_left _ hq)
  ·exact R9 (λq hq=>h q (List.mem_append_right _ hq)) p hp
theorem TK{p q:ak4 Nat}{h0:Nat}{h:ak4 ao}:∀(n i j:Nat),(rK p q h0 h n i)[j]?=if j<n then some (match h[gk h0 q (i+j)]? with|some B=>B.aH (gk h0 p)|none=> .gone)else none
 |0,i,j=>by simp [rK]
 |n+1,i,0=>by simp [rK]
 |n+1,i,j+1=>by
  rw[rK,akR,TK n (i+1) j];simp only[Nat.add_lt_add_iff_right];rw[show i+1+j=i+(j+1) by omega]
theorem Qv{p q:ak4 Nat}{h0:Nat}{h:ak4 ao}:∀(n i:Nat),(rK p q h0 h n i).length=n
 |0,_=>rfl
 |n+1,i=>by rw[rK,akj,Qv n]
theorem Sb{P:ak7}{ops:Array Oper}{N0:Nat}{keep:ak4 Nat}{s:St}{x:Lf}{Δ:ak4 (Nat×AV)}{h':ak4 ao}{ps:ak4 (In×cb)}(h:He keep s x=some (Δ,h',ps))(hN:N0<=s.h.length)(pe:∀i,(bw s.t i).aC s.h.length=true)
 (hn:x.1.n=s.n) (hp:∃pre,x.1.t=pre++s.t) (ca:fY P ps):iL N0 x.1 ⟨s.n,Δ++s.t,h'⟩/\∀p∈x.2.2,fY P p.2:=by
 unfold He at h;rw[wc,wc]at h;generalize N4 s.h.length x.2.1 [] x.2.1=p at h;generalize OW s.h.length p p.length s.h.length=q at h;unfold Yb at h;obtain⟨hb,he⟩:=eB h;cases he
 rw[aki]at hb;obtain⟨hb,hc⟩:=hb;simp only[akG,List.mem_range,aki,beq_iff_eq,dy]at hc;have I5:∀i,i<s.h.length->gk s.h.length p i=i:=λi hi=>by
   unfold gk;have:ct s.h.length i=false:=by rw[<-Bool.not_eq_true,dy];omega
   rw[this];rfl
 refine⟨?_,λy hy=>R9 ca y (R5.2 hy)⟩;refine iL.aH (gk s.h.length p) (gk s.h.length q) hn (by
  cases yq s.h.length p with
  |true=>rfl
  |false=>exact Qv _ _) (λi hi=>(hc i hi).1.1.1) (λi hi=>(hc i hi).1.1.2) (λi hi=>(hc i hi).1.2) (λi hi=>(hc i hi).2) (λi hi=>I5 i (by omega)) (λi _=> ?_) λi hi=> ?_
 ·obtain⟨pre,e1⟩:=hp;have By:∀(f:Nat->AV),(keep.map λk=>(k,f k)).map (·.1)=keep:=λf=>by rw[List.map_map];exact List.map_id _
  show bw ((keep.map λk=>(k,(bw x.1.t k).aH (gk s.h.length p)))++s.t) i=_\/_;rcases CT (keep.map λk=>(k,(bw x.1.t k).aH (gk s.h.length p))) s.t i with⟨J,h2⟩|⟨J,h2⟩
  ·rw[By]at J;rw[h2,qC (λk=>(bw x.1.t k).aH (gk s.h.length p)),if_pos J];exact .inl rfl
  ·rw[By]at J;show _\/bw ((keep.map λk=>(k,(bw x.1.t k).aH (gk s.h.length p)))++s.t) i=_;rw[h2];rw[e1,akh,Nat.add_sub_cancel,List.take_left']at hb
   ·rw[e1];rcases CT pre s.t i with⟨h3,h4⟩|⟨h3,h4⟩
    ·right
     obtain⟨y,hy,rfl⟩:=List.mem_map.1 h3;have:=akG.1 hb y hy;rw[Bool.or_eq_true]at this;rcases this with this|this
     ·exfalso;obtain⟨k,hk,e⟩:=List.any_eq_true.1 this;rw[beq_iff_eq]at e;exact J (e▸hk)
     ·generalize bw s.t y.1=z at this;cases z<;>first|rfl|cases this
    ·left
     rw[h4,wM (τ:=id) I5 _ (pe i),FO]
   ·rfl
 ·show(bif yq s.h.length p then x.1.h else rK p q s.h.length x.1.h x.1.h.length 0)[gk s.h.length p i]?=_;cases hid:yq s.h.length p with
  |true=>rw[agX hid];simp only[cond_true,id];rw[akk hi,Option.map_some,JE]
  |false=>
  simp only[cond_false];rw[TK,if_pos (Nat.lt_of_succ_le (hc i hi).1.1.1),akA,(hc i hi).1.2,akk hi];rfl
theorem Q6{P:ak7}{ol:ak4 Oper}{as:ak4 (Nat×cb)}{keep:ak4 Nat}{s:St}{Δ:ak4 (Nat×AV)}{h':ak4 ao}{ps:ak4 (In×cb)}{m N0:Nat}{K:St->Prop}(h:wY P ol as keep s=some (List.replicate m (Δ,h',ps)))(ca:fY P ps)(hN:N0<=s.h.length)(pe:∀i,(bw s.t i).aC s.h.length=true)(hK:CC N0 K)(hk:K ⟨s.n,Δ++s.t,h'⟩):
 ku false P ol.toArray K ol.toArray.size (Array.replicate ol.toArray.size false) s:=by
 unfold wY at h;obtain⟨hM,h⟩:=j7 h;rw[wc,wc]at h;split at h
 ·next ls e1=>
  obtain⟨_,h2,h3⟩:=RO (s0:=s) hK.c hM s.t _ 0 (Array.replicate ol.toArray.size false) _ _ s ls ⟨by simp,λi=>by
   rw[Nat.zero_testBit,Array.getD_eq_getD_getElem?,Array.getElem?_replicate];split<;>rfl⟩ (λj o ho hj=>by
   exfalso;rw[Array.getD_eq_getD_getElem?]at hj;rw[Array.getElem?_replicate]at hj;split at hj<;>simp at hj) e1
  refine h3 λx hx=> ?_;obtain⟨a,ha,e2⟩:=KR h x hx;rw[List.mem_replicate]at ha;obtain⟨_,rfl⟩:=ha;obtain⟨k1,k2⟩:=Sb (P:=P) (ops:=ol.toArray) e2 hN pe ((h2 x hx).2.2 (l7.refl _ _)).n ((h2 x hx).2.1 ⟨[],rfl⟩) ca;exact⟨k2,hK _ _ k1 hk⟩
 ·cases h
section
variable {P:ak7} {r:ak6 Nat} {N0 id n:Nat} {ol:ak4 Oper} {y:Code} {t:ak4 (Nat×AV)} {h:ak4 ao} {Q Q':Exit->St->Prop}
theorem rtE(m:Nat)(hm:P.follows .mixedOrders=true)(Δ:ak4 (Nat×AV))(h':ak4 ao)(e:∃az:ak4 (Nat×Ob P),wY P ol (iA az) (Δ.map (·.1)) ⟨n,t,h⟩=some (List.replicate m (Δ,h',iN az)))(k:bD P r N0 y Q' ⟨n,Δ++t,h'⟩):bD P r N0 (.region id ol.toArray true) (hO (λs=>bD P r N0 y Q' s) Q) ⟨n,t,h⟩:=
 let ⟨az,e⟩:=e
 Pd hm λhN pe=>Q6 e (oS az) hN pe (Lh _) ⟨_,iL.refl _ _,k⟩
theorem rt(m:Nat)(hm:P.follows .mixedOrders=true)(az:ak4 (Nat×Ob P))(Δ:ak4 (Nat×AV))(h':ak4 ao)(e:wY P ol (iA az) (Δ.map (·.1)) ⟨n,t,h⟩=some (List.replicate m (Δ,h',iN az)))(k:bD P r N0 y Q' ⟨n,Δ++t,h'⟩):bD P r N0 (.region id ol.toArray true) (hO (λs=>bD P r N0 y Q' s) Q) ⟨n,t,h⟩:=rtE m hm Δ h' ⟨az,e⟩ k
theorem rte(m:Nat)(hm:P.follows .mixedOrders=true)(az:ak4 (Nat×Ob P))(Δ:ak4 (Nat×AV))(h':ak4 ao)(e:wY P ol (iA az) (Δ.map (·.1)) ⟨n,t,h⟩=some (List.replicate m (Δ,h',iN az)))(k:Q .normal ⟨n,Δ++t,h'⟩):bD P r N0 (.region id ol.toArray true) Q ⟨n,t,h⟩:=
 Pd hm λhN pe=>Q6 e (oS az) hN pe (Lh _) ⟨_,iL.refl _ _,k⟩
end
theorem Yh{f:AV->AV}(hf:∀d,f (.d d)= .d d)(xs:ak4 (ak4 D)):(ck xs).map (·.map f)=ck xs:=by
 unfold ck;rw[List.map_map];refine akL λc _=> ?_;simp only[Function.comp,List.map_map];exact akL λd _=>hf d
theorem DE(xs:ak4 (ak4 D)):(ck xs).length=xs.length:=by unfold ck;rw[akl]
theorem KC{xs:ak4 (ak4 D)}{i:Nat}{c:ak4 D}(h:xs[i]?=some c):(ck xs)[i]?=some (c.map .d):=by unfold ck;rw[akn,h];rfl
theorem acR(xs:ak4 (ak4 D))(i:Nat)(c:ak4 D):ck (xs.set i c)=(ck xs).set i (c.map .d):=by unfold ck;rw[List.map_set]
theorem ab2(xs ys:ak4 (ak4 D)):ck (xs++ys)=ck xs++ck ys:=by unfold ck;rw[List.map_append]
theorem aS{cs:ak4 AV}{l:ak4 ao}(h:VD l):VD (.cells cs::l):=⟨trivial,h⟩
theorem abb{e k n:Nat}{l:ak4 ao}(h:VD l):VD (.front e k n::l):=⟨trivial,h⟩
theorem eu{kv:ak4 (ak5×D)}{l:ak4 ao}(h:VD l):VD (.map kv::l):=⟨trivial,h⟩
theorem ajC{l:ak4 ao}(h:VD l):VD (.gone::l):=⟨trivial,h⟩
def ao.pJ(m:Nat):ao->ao
 | .vec e k cs=> .vec e k cs
 |B=>B.bz m
def ao.xa:ao->ao
 | .vec e k cs=> .vec e k cs
 |B=>B.pc
def ao.zk(m:Nat):ao->Prop
 | .vec _ _ cs=>cs.map (·.map (AV.bz m))=cs/\cs.all (·.all (AV.aC m))=true
 |_=>True
def iI(m:Nat):ak4 ao->Prop
 |[]=>True
 |B::l=>B.zk m/\iI m l
section
variable {m:Nat} {l:ak4 ao}
theorem jr:iI m []:=trivial
theorem eM{B:ao}(hB:B.zk m)(h:iI m l):iI m (B::l):=⟨hB,h⟩
theorem RR(xs:ak4 (ak4 D)):(ck xs).all (·.all (AV.aC m))=true:=by simp [ck,AV.aC]
theorem kS{e k:Nat}{xs:ak4 (ak4 D)}(h:iI m l):iI m (.vec e k (ck xs)::l):=⟨⟨Yh (λd=>by simp [AV.bz]) _,RR _⟩,h⟩
theorem iI.mem:∀{l:ak4 ao},iI m l->∀B∈l,B.zk m
 |[],_,B,hB=>by cases hB
 |_::_,h,B,hB=>by
  rcases akK.1 hB with rfl|hB
  ·exact h.1
  ·exact iI.mem h.2 B hB
end
theorem afH{m:Nat}{B:ao}(h:B.zk m):B.pJ m=B.bz m:=by
 cases B with
 |vec e k cs=>simp only[ao.pJ,ao.bz];rw[h.1]
 |_=>rfl
theorem aeB{m:Nat}{B:ao}(h:B.zk m)(hl:(B.pJ m).sK m=true):(B.bz m).aC m=true:=by
 cases B with
 |vec e k cs=>simp only[ao.bz,ao.aC];rw[h.1];exact h.2
 |_=>exact hl
theorem Sz{G:Gh}{w:ak9}{h:ak4 ao}(hi:bU G w h):bU G w (h.map ao.xa):=by
 have eF:∀n,bR (h.map ao.xa) G n=bR h G n:=λn=>by
  unfold bR;rw[akn];cases h[n]? with
  |none=>rfl
  |some B=>cases B<;>rfl
 have h2:=JF hi;refine⟨by rw[akl];exact hi.len,hi.z,hi.S,λn B hB=> ?_,λm n x hm hn=>hi.inj m n x (by rw[<-eF];exact hm) (by rw[<-eF];exact hn),hi.gl⟩;rw[akn]at hB;cases J:h[n]? with
 |none=>rw[J]at hB;cases hB
 |some B'=>
  rw[J]at hB;cases hB
  have h3:=h2.dn n B'.pc (by rw[akn,J];rfl);cases B' with
  |vec e k cs=>exact hi.dn n _ J
  |_=>exact h3
def sy(kn:ak4 (Nat×Nat))(n:Nat):Nat->ak4 AV->ak4 AV
 |_,[]=>[]
 |i,x::l=>(bif kn.any (λp=>p.1==n&&p.2==i)then x else x.nrm)::sy kn n (i+1) l
def ao.Tv(kn:ak4 (Nat×Nat))(n:Nat):ao->ao
 | .cells cs=> .cells (sy kn n 0 cs)
 |B=>B.xa
def o0(kn:ak4 (Nat×Nat)):Nat->ak4 ao->ak4 ao
 |_,[]=>[]
 |n,B::l=>B.Tv kn n::o0 kn (n+1) l
theorem S8(kn:ak4 (Nat×Nat))(n:Nat):∀(j:Nat)(cs:ak4 AV),(sy kn n j cs).length=cs.length
 |_,[]=>rfl
 |j,x::l=>by rw[sy,akj,S8 kn n (j+1) l,akj]
theorem SJ(kn:ak4 (Nat×Nat))(n:Nat):∀(j:Nat)(cs:ak4 AV)(i:Nat)(c':AV),(sy kn n j cs)[i]?=some c'->∃c,cs[i]?=some c/\(c'=c\/c'=c.nrm)
 |_,[],i,c',h=>by simp [sy]at h
 |j,x::l,0,c',h=>by
  simp only[sy,List.getElem?_cons_zero,Option.some.injEq]at h;refine⟨x,rfl,?_⟩;cases hk:kn.any (λp=>p.1==n&&p.2==j)with
  |true=>rw[hk]at h;exact .inl h.symm
  |false=>rw[hk]at h;exact .inr h.symm
 |j,x::l,i+1,c',h=>by
  simp only[sy,akR]at h;obtain⟨c,J,h2⟩:=SJ kn n (j+1) l i c' h;exact⟨c,by simpa using J,h2⟩
theorem LN(kn:ak4 (Nat×Nat)):∀(j:Nat)(h:ak4 ao)(i:Nat)(B':ao),(o0 kn j h)[i]?=some B'->∃B,h[i]?=some B/\B'=B.Tv kn (j+i)
 |_,[],i,B',h=>by simp [o0]at h
 |j,B::l,0,B',h=>by simp only[o0,List.getElem?_cons_zero,Option.some.injEq]at h;exact⟨B,rfl,h.symm⟩
 |j,B::l,i+1,B',h=>by
  simp only[o0,akR]at h;obtain⟨C,J,h2⟩:=LN kn (j+1) l i B' h;exact⟨C,by simpa using J,by rw[h2];congr 1;omega⟩
theorem Rx(kn:ak4 (Nat×Nat)):∀(j:Nat)(h:ak4 ao),(o0 kn j h).length=h.length
 |_,[]=>rfl
 |j,B::l=>by rw[o0,akj,Rx kn (j+1) l,akj]
theorem ZT{G:Gh}{w:ak9}{h:ak4 ao}(kn:ak4 (Nat×Nat))(hi:bU G w h):bU G w (o0 kn 0 h):=by
 have eF:∀n x,bR (o0 kn 0 h) G n=some x->bR h G n=some x:=λn x hx=>by
  obtain⟨B',hB,J⟩:=l9 hx;obtain⟨B,h2,rfl⟩:=LN kn 0 h n B' hB;rw[dM h2,<-J];cases B<;>rfl
 have h2:=Sz hi;refine⟨by rw[Rx];exact hi.len,hi.z,hi.S,λn B' hB=> ?_,λm n x hm hn=>hi.inj m n x (eF m x hm) (eF n x hn),hi.gl⟩;obtain⟨B,J,rfl⟩:=LN kn 0 h n B' hB;cases B with
 |cells cs=>
  obtain⟨c1,c2,vs,T,c3,c4,c5⟩:=hi.dn n _ J;refine⟨c1,c2,vs,T,c3,by rw[S8];exact c4,λi u c hu hc=> ?_⟩;obtain⟨c0,h3,h4|h4⟩:=SJ _ _ _ _ _ _ hc
  ·rw[h4];exact c5 i u c0 hu h3
  ·rw[h4];exact(c5 i u c0 hu h3).nrm
 |_=>exact h2.dn n _ (by rw[akn,J];rfl)
def lQ(s:St)(live:ak4 Nat)(m:Nat)(ks:ak4 Nat)(kn:ak4 (Nat×Nat)):ak6 St:=
 bif ct m s.h.length&&(live.all λk=>((bw s.t k).bz m).aC m)&&(((s.h.take m).map (ao.pJ m)).all (ao.sK m))then some ⟨s.n,live.map λk=>(k,bif ks.any (·==k)then(bw s.t k).bz m else(bw s.t k).fin m),o0 kn 0 ((s.h.take m).map (ao.pJ m))⟩else none
theorem WZ{h:ak4 ao}{m:Nat}(hd:iI m (h.take m)):(h.take m).map (ao.pJ m)=(h.take m).map (ao.bz m):=akL λB hB=>afH (hd.mem B hB)
theorem Xl{h:ak4 ao}{m:Nat}(hd:iI m (h.take m))(hl:((h.take m).map (ao.pJ m)).all (ao.sK m)=true):((h.take m).map (ao.bz m)).all (ao.aC m)=true:=by
 rw[akG]at hl ⊢;intro B hB;obtain⟨B',J,rfl⟩:=List.mem_map.1 hB;exact aeB (hd.mem B' J) (hl _ (List.mem_map.2 ⟨B',J,rfl⟩))
section
variable {P:ak7} {r:ak6 Nat} {n N0:Nat} {G:Gh} {w:ak9} {a:Act} {s s':St} {Q Q':Exit->St->Prop} {live:ak4 Nat} {m:Nat} {ks:ak4 Nat} {kn:ak4 (Nat×Nat)}
theorem db.lQ(hs:db G w a s)(hd:iI m (s.h.take m))(h:lQ s live m ks kn=some s'):db (G.cut m) w a s':=by
 unfold Go.Proofs.YtnnapanbbbcalaaGreatDoor.lQ at h;obtain⟨hb,rfl⟩:=eB h;rw[aki,aki]at hb;have hm:=hs.mask (live:=live) ⟨dy.1 hb.1.1,hb.1.2,Xl hd hb.2⟩;refine⟨hs.size,λi=> ?_,by show bU _ _ (o0 kn 0 ((s.h.take m).map (ao.pJ m)));rw[WZ hd];exact ZT kn hm.inv,hs.df⟩;have:=hm.tmp i
 change aD _ _ _ (bw (live.map λk=>(k,(bw s.t k).bz m)) i)at this
 rw[qC (λk=>(bw s.t k).bz m)]at this;show aD _ _ _ (bw (live.map λk=>(k,bif ks.any (·==k)then(bw s.t k).bz m else(bw s.t k).fin m)) i);rw[qC (λk=>bif ks.any (·==k)then(bw s.t k).bz m else(bw s.t k).fin m)];split at this
 ·rename_i hi
  rw[if_pos hi];cases ks.any (·==i)with
  |true=>exact this
  |false=>exact this.nrm
 ·rename_i hi;rw[if_neg hi];exact .dead _
theorem LQ{c:Code}{ι:Type}(live:ak4 Nat)(m:Nat)(ks:ak4 Nat)(kn:ak4 (Nat×Nat))(st:ι->St)(I:ι->Prop)(μ:ι->Nat)(i0:ι)(hm:N0<=m)(h0:iI m (s.h.take m)/\Go.Proofs.YtnnapanbbbcalaaGreatDoor.lQ s live m ks kn=some (st i0))(hI:I i0)
 (round:∀i,I i->bD P r N0 c (hO (λs'=>∃i',(iI m (s'.h.take m)/\Go.Proofs.YtnnapanbbbcalaaGreatDoor.lQ s' live m ks kn=some (st i'))/\I i'/\μ i'<μ i) Q) (st i)):bD P r N0 (.loop c) Q s:=by
 constructor
 intro G w a n hs _;refine Po (λ(i:ι) a' w'=>∃G',I i/\bP N0 G w G' w'/\N0<=G'.N/\db G' w' a' (st i)) μ i0 ⟨G.cut m,hI,ov _ _ _ _,hm,hs.lQ h0.1 h0.2⟩ ?_;rintro i a' w' ⟨G',hi,hE,hN,cM⟩;refine wpIn_mono ((round i hi).run G' w' a' n cM hN) λe a1 w1 hn=> ?_;obtain⟨G1,s1,hX,fK,eY,hq⟩:=hn;cases e with
 |normal=>
  obtain⟨i',J,h2,h3⟩:=hq;exact⟨i',⟨G1.cut m,h2,(hE.trans hX).trans (ov _ _ _ _),hm,eY.lQ J.1 J.2⟩,h3⟩
 |_=>exact⟨G1,s1,hE.trans hX,fK,eY,hq⟩
theorem E6{c:Code}(live:ak4 Nat)(m:Nat)(ks:ak4 Nat)(kn:ak4 (Nat×Nat))(hm:N0<=m)(h0:iI m (s.h.take m)/\Go.Proofs.YtnnapanbbbcalaaGreatDoor.lQ s live m ks kn=some s')(h:bD P r N0 c Q s'):bD P r N0 c Q s:=by
 constructor
 intro G w a n hs _;exact wpIn_mono (h.run (G.cut m) w a n (hs.lQ h0.1 h0.2) hm) λ_ _ _ hn=>hn.trans (ov N0 G w m)
theorem abk{c y:Code}{ι:Type}(live:ak4 Nat)(m:Nat)(ks:ak4 Nat)(kn:ak4 (Nat×Nat))(st:ι->St)(I:ι->Prop)(hm:N0<=m)(hc:bD P r N0 c (hO (λs'=>∃i,(iI m (s'.h.take m)/\Go.Proofs.YtnnapanbbbcalaaGreatDoor.lQ s' live m ks kn=some (st i))/\I i) Q) s)(hy:∀i,I i->bD P r N0 y Q' (st i)):bD P r N0 c (hO (λs=>bD P r N0 y Q' s) Q) s:=by
 refine hc.mono λe s' h=> ?_;cases e with
 |normal=>obtain⟨i,J,h2⟩:=h;exact E6 live m ks kn hm J (hy i h2)
 |_=>exact h
end
def Cz(P:ak7)(rs:ak4 ResultVar)(m:Nat)(s:St):ak6 (AV×ak4 ao):=
 match qF P s rs with
 |some l=>bif ct m s.h.length&&((jG l).bz m).aC m&&(((s.h.take m).map (ao.pJ m)).all (ao.sK m))then some (((jG l).bz m).nrm,((s.h.take m).map (ao.pJ m)).map ao.xa)else none
 |none=>none
def Tc(P:ak7)(fn:Func)(m:Nat)(R:AV)(H:ak4 ao):Exit->St->Prop
 | .normal,s=>iI m (s.h.take m)/\Cz P fn.results.toList m s=some (R,H)
 | .ret,s=>iI m (s.h.take m)/\Cz P fn.results.toList m s=some (R,H)
 |_,_=>False
theorem TJ{P:ak7}{s:St}{fn:Func}{m:Nat}{R:AV}{H:ak4 ao}(h:iI m (s.h.take m)/\Cz P fn.results.toList m s=some (R,H)):qg P fn m (λr h'=>r.nrm=R/\h'.map ao.xa=H) s:=by
 obtain⟨hd,h⟩:=h;unfold Cz at h;split at h
 ·next l e=>
  obtain⟨hb,he⟩:=eB h;cases he
  simp only[aki,dy]at hb;exact CW _ _ _ e ⟨hb.1.1,hb.1.2,Xl hd hb.2,rfl,by rw[WZ hd]⟩
 ·cases h
theorem tu{P:ak7}{s:St}{fn:Func}{m:Nat}{R:AV}{H:ak4 ao}(hd:iI m (s.h.take m))(h:Cz P fn.results.toList m s=some (R,H)):Tc P fn m R H .ret s:=⟨hd,h⟩
theorem AR{P:ak7}{f:FuncId}{fn:Func}{c:Code}{args:ak4 AV}{h H:ak4 ao}{R:AV}(m:Nat)(hf:P.funcs[f]?=some fn)(hb:fn.body=some c)(hn:(fn.name== "runtime.NumGoroutine")=false)(hm:h.length<=m)
 (hw:bD P none h.length c (Tc P fn m R H) {n:=args.length+(fn.ntmps-args.length),t:=lx 0 args,h:=h}):cZ P f args h λr1 J=>r1=R/\J=H:=by
 have h0:=tq (P:=P) (f:=f) (args:=args) (h:=h) (K:=λr h'=>r.nrm=R/\h'.map ao.xa=H) m hf hb hn hm (hw.mono λe s hq=>by
  cases e with
  |normal=>exact TJ hq
  |ret=>exact TJ hq
  |_=>exact hq.elim)
 refine⟨h0.1,λG w vs hi hl hr=>(h0.2 G w vs hi hl hr).mono λe w' hp=> ?_⟩;obtain⟨v,G',x,h',rfl,hE,hN,dY,hv,rfl,rfl⟩:=hp;exact⟨v,G',x.nrm,_,rfl,hE,hN,Sz dY,hv.nrm,rfl,rfl⟩
mutual
def AV.sI(b:Nat):AV->ak4 (Nat×Nat×Nat×Nat)
 | .vec n o len L k=>bif n==b then[(o,len,L,k)]else[]
 | .agg cs=>AV.sb b cs
 | .aW cs=>AV.sb b cs
 | .fn _ cs=>AV.sb b cs
 |_=>[]
def AV.sb(b:Nat):ak4 AV->ak4 (Nat×Nat×Nat×Nat)
 |[]=>[]
 |x::l=>x.sI b++AV.sb b l
end
mutual
def AV.mlt(b:Nat)(xs:ak4 (ak4 D)):AV->AV
 | .vec n o len L k=>bif n==b then .d (.sl xs)else .vec n o len L k
 | .dF n i j L k=>bif n==b then .dead else .dF n i j L k
 | .agg cs=> .agg (AV.nc b xs cs)
 | .aW cs=> .aW (AV.nc b xs cs)
 | .fn f cs=> .fn f (AV.nc b xs cs)
 |x=>x
def AV.nc(b:Nat)(xs:ak4 (ak4 D)):ak4 AV->ak4 AV
 |[]=>[]
 |x::l=>x.mlt b xs::AV.nc b xs l
end
mutual
theorem UJ{b kk:Nat}{xs:ak4 (ak4 D)}:∀x:AV,(∀q∈x.sI b,q=(0,xs.length,xs.length,kk))->x.dB b kk xs=x.mlt b xs
 | .vec n o len L k,h=>by
   unfold AV.dB AV.mlt;unfold AV.sI at h;cases e:n==b with
   |false=>rfl
   |true=>
    rw[e]at h;have:=h _ akm;cases this
    simp
 | .agg cs,h=>by unfold AV.dB AV.mlt;rw[x6 cs (by unfold AV.sI at h;exact h)]
 | .aW cs,h=>by unfold AV.dB AV.mlt;rw[x6 cs (by unfold AV.sI at h;exact h)]
 | .fn f cs,h=>by unfold AV.dB AV.mlt;rw[x6 cs (by unfold AV.sI at h;exact h)]
 | .dF n i j L k,h=>by unfold AV.dB AV.mlt;rfl
 | .d _,_=>by simp [AV.dB,AV.mlt]
 | .ptr ..,_=>by simp [AV.dB,AV.mlt]
 | .bn ..,_=>by simp [AV.dB,AV.mlt]
 | .own ..,_=>by simp [AV.dB,AV.mlt]
 | .full _,_=>by simp [AV.dB,AV.mlt]
 | .row ..,_=>by simp [AV.dB,AV.mlt]
 | .mp _,_=>by simp [AV.dB,AV.mlt]
 | .cp _,_=>by simp [AV.dB,AV.mlt]
 | .hid _,_=>by simp [AV.dB,AV.mlt]
 | .dead,_=>by simp [AV.dB,AV.mlt]
theorem x6{b kk:Nat}{xs:ak4 (ak4 D)}:∀l:ak4 AV,(∀q∈AV.sb b l,q=(0,xs.length,xs.length,kk))->AV.oe b kk xs l=AV.nc b xs l
 |[],_=>by simp [AV.oe,AV.nc]
 |x::l,h=>by
  unfold AV.sb at h;unfold AV.oe AV.nc;rw[UJ x λq hq=>h q (List.mem_append_left _ hq),x6 l λq hq=>h q (List.mem_append_right _ hq)]
end
theorem adf{c L kk:Nat}{xs:ak4 (ak4 D)}(hL:xs.length=L){l:ak4 (Nat×Nat×Nat×Nat)}(h:l=List.replicate c (0,L,L,kk)):∀q∈l,q=(0,xs.length,xs.length,kk):=λq hq=>by
 rw[h,List.mem_replicate]at hq;rw[hq.2,hL]
theorem VV{G:Gh}{w:ak9}{h:ak4 ao}(hi:bU G w h)(e k:Nat):bP G.N G w (G.fb (.slice none 0 0) 0 none) w/\G.N<=(G.fb (.slice none 0 0) 0 none).N/\bU (G.fb (.slice none 0 0) 0 none) w (h++[.vec e k []])/\aD (G.fb (.slice none 0 0) 0 none) w (.slice none 0 0) (.vec h.length 0 0 0 k):=by
 obtain⟨a1,a2⟩:=Pf (w':=w) hi (.vec e k []) (λ_ _=>rfl) (.slice none 0 0) 0 none ⟨λ_ _=>rfl,akr _,rfl,rfl,rfl⟩ (λ_ h=>by cases h)
  ⟨by simp [Gh.fb],Nat.zero_le _,λc hc=>absurd hc akW, .inl ⟨by simp [Gh.fb],rfl,none,by simp [Gh.fb]⟩⟩
 refine⟨a1,Nat.le_succ _,a2, .vec _ 0 0 0 k (by rw[hi.len];exact ak2 _) ⟨none,0,0,rfl⟩ (Nat.zero_le _) λ_=>⟨akr _,⟨none,0,rfl,akr _,Nat.zero_le _,akr _,λh=>absurd h (akU _)⟩,λ_ _=> ?_⟩⟩;simp [Gh.fb,hi.len]
section
variable {P:ak7} {r:ak6 Nat} {N0:Nat} {s:St} {Q:Exit->St->Prop} {c:Code}
theorem aiN(t e k:Nat)(hx:bw s.t t= .d (.v (.slice none 0 0)))(h:bD P r N0 c Q ⟨s.n,(t, .vec s.h.length 0 0 0 k)::s.t,s.h++[.vec e k []]⟩):bD P r N0 c Q s:=by
 constructor
 intro G w a n hs hN;obtain⟨a1,a2,a3,a4⟩:=VV hs.inv e k;have hv:=hs.tmp t;rw[hx]at hv;have hv:=hv.val;have cM:db (G.fb (.slice none 0 0) 0 none) w a ⟨s.n,(t, .vec s.h.length 0 0 0 k)::s.t,s.h++[.vec e k []]⟩:=by
  refine⟨hs.size,λi=> ?_,a3,hs.df.keep a1⟩;show aD _ _ _ (bw ((t, .vec s.h.length 0 0 0 k)::s.t) i);rw[kO];split
  ·next e=>exact e▸hv▸a4
  ·exact(hs.tmp i).keep a1 a2
 exact wpIn_mono (h.run _ w a n cM (aky hN a2)) λ_ _ _ hn=>hn.trans (a1.less hN)
theorem ag7(b i e k:Nat){cs:ak4 AV}(hb:s.h[b]?=some (.cells cs))(hx:cs[i]?=some (.d (.v (.slice none 0 0))))
 (h:bD P r N0 c Q ⟨s.n,s.t,(s.h++[ao.vec e k []]).set b (ao.cells (cs.set i (AV.vec s.h.length 0 0 0 k)))⟩):bD P r N0 c Q s:=by
 constructor
 intro G w a n hs hN;obtain⟨J,h2,vs,T,h3,h4,h5⟩:=hs.inv.dn _ _ hb;have hi:i<cs.length:=(akg.1 hx).1;have hv:vs[i]?=some vs[i]:=akC (by omega);have ry:=(h5 i _ _ hv hx).val;obtain⟨a1,a2,a3,a4⟩:=VV hs.inv e k;have aL:=(akg.1 hb).1;have cM:db (G.fb (.slice none 0 0) 0 none) w a ⟨s.n,s.t,(s.h++[ao.vec e k []]).set b (ao.cells (cs.set i (AV.vec s.h.length 0 0 0 k)))⟩:=by
  refine⟨hs.size,λj=>(hs.tmp j).keep a1 a2,Vc a3 (by rw[akq aL];exact hb) (by rw[List.length_set]) λfJ T' AH j u c hu hc=> ?_,hs.df.keep a1⟩;have e1:(G.fb (.slice none 0 0) 0 none).aM b=G.aM b:=rfl;rw[e1,h3]at AH;cases AH
  by_cases e2:i=j
  ·subst e2;rw[akJ hi]at hc;cases hc
   rw[hv]at hu;cases hu
   rw[ry];exact a4
  ·rw[akO e2]at hc;exact(h5 j u c hu hc).keep a1 a2
 exact wpIn_mono (h.run _ w a n cM (aky hN a2)) λ_ _ _ hn=>hn.trans (a1.less hN)
theorem acA(b:Nat)(h:bD P r N0 c Q ⟨s.n,s.t,s.h.set b .gone⟩):bD P r N0 c Q s:=by
 constructor
 intro G w a n hs hN;have hi:=hs.inv;have eF:∀n x,bR (s.h.set b .gone) G n=some x->bR s.h G n=some x:=λn x hx=>by
  obtain⟨B,hB,J⟩:=l9 hx;by_cases e:b=n
  ·subst e;have aL:=(akg.1 hB).1;rw[List.length_set]at aL;rw[akJ aL]at hB;cases hB;cases J
  ·rw[akO e]at hB;rw[dM hB];exact J
 refine h.run G w a n ⟨hs.size,hs.tmp,⟨by rw[List.length_set];exact hi.len,hi.z,hi.S,λn B hB=> ?_,λm n x J h2=>hi.inj m n x (eF m x J) (eF n x h2),hi.gl⟩,hs.df⟩ hN;by_cases e:b=n
 ·subst e;have aL:=(akg.1 hB).1;rw[List.length_set]at aL;rw[akJ aL]at hB;cases hB;trivial
 ·rw[akO e]at hB;exact hi.dn n B hB
end
theorem zo{α:Type}{f:α->ak4 D}{E:ak4 α}{L:Nat}(h:E.length=L):(ck (E.map f)).length=L:=by rw[DE,akl,h]
theorem SN{cs:ak4 (ak4 AV)}{z:Int}{L i:Nat}(h:cs.length=L)(h0:0<=z)(J:z<(L:Int))(h2:z.toNat=i):cs.length=L/\0<=z/\z<(L:Int)/\i=0+z.toNat:=⟨h,h0,J,by rw[h2,akA]⟩
theorem aee{α:Type}{f:α->ak4 D}{E:ak4 α}{L i:Nat}{x:α}(h:E.length=L)(hx:E[i]?=some x):(ck (E.map f)).length=L/\(ck (E.map f))[i]?=some ((f x).map .d):=⟨zo h,KC (by rw[akn,hx];rfl)⟩
theorem ahc{α:Type}{f:α->ak4 D}{E:ak4 α}{L i j:Nat}{x y:α}{zs:ak4 AV}(h:E.length=L)(hx:E[i]?=some x)(hy:(f y).map AV.d=iz ((f x).map .d) j zs):(ck (E.map f)).length=L/\(ck (E.map f))[i]?=some ((f x).map .d)/\ck ((E.set i y).map f)=(ck (E.map f)).set i (iz ((f x).map .d) j zs):=
 ⟨zo h,KC (by rw[akn,hx];rfl),by rw[List.map_set,acR,hy]⟩
theorem HY{α:Type}{f:α->ak4 D}{E ys:ak4 α}{h:ak4 ao}{k L gN L' de:Nat}{y:AV}(hE:E.length=L)(hy:y.fF=some (ys.map f))(hk:∀c∈ys.map f,c.length=k)(hn:ys.length=gN)(hL:L+ys.length=L')(hm:L'<=maxLen)(hb:L'*de<=140737488355328):
 (ck (E.map f)).length=L/\xz h k y (ck (ys.map f))/\L'=L+(ck (ys.map f)).length/\((0+L+(ck (ys.map f)).length<=L/\L'=L/\ck ((E++ys).map f)=(ck (E.map f)).take (0+L)++ck (ys.map f)++(ck (E.map f)).drop (0+L+(ck (ys.map f)).length))\/(0=0/\L=L/\L'=L+(ck (ys.map f)).length/\ck ((E++ys).map f)=ck (E.map f)++ck (ys.map f)/\L'<=maxLen/\L'*de<=140737488355328)):=by
 have hl:(ck (ys.map f)).length=ys.length:=by rw[DE,akl]
 refine⟨zo hE, .inl ⟨_,hy,hk,rfl⟩,by rw[hl,hL], .inr ⟨rfl,rfl,by rw[hl,hL],by rw[List.map_append,ab2],hm,hb⟩⟩
theorem ah2{xs:ak4 (ak4 D)}{h:ak4 ao}{k de:Nat}{y:AV}(hk:∀c∈xs,c.length=k)(hy:y.fF=some xs)(hm:xs.length<=maxLen)(hb:xs.length*de<=140737488355328):
 ([]:ak4 (ak4 D))=[]/\xz h k y (ck xs)/\ck xs=ck xs/\xs.length=(ck xs).length/\xs.length=(ck xs).length/\xs.length<=maxLen/\xs.length*de<=140737488355328:=⟨rfl, .inl ⟨xs,hy,hk,rfl⟩,rfl,(DE xs).symm,(DE xs).symm,hm,hb⟩
theorem ae6{α:Type}{f:α->ak4 D}(hf:∀x,(f x).all D.wJ=true)(E:ak4 α):∀c∈E.map f,c.all D.wJ=true:=λc hc=>by
 obtain⟨x,_,rfl⟩:=List.mem_map.1 hc;exact hf x
theorem acj{α:Type}{f:α->ak4 D}{E:ak4 α}{L:Nat}(h:E.length=L):(E.map f).length=L:=by rw[akl,h]
def Ma(o:Oper):Bool:=
 match o.op with
 | .call c=>match c.callee with
   | .value _=>false
   |_=>true
 |_=>true
def EZ:cb->Bool
 | .va _=>true
 |_=>false
def L5(o:Oper)(a:cb):Bool:=Iz o||(Ma o&&((rQ o||ju o&& !(cy o==0))|| !EZ a))
def CJ(o:Oper)(a:cb):Bool:=L5 o a||(!xH a&&(!EZ a&& !ju o))
def Cx(as:ak4 (Nat×cb)):Nat->ak4 Oper->Bool
 |_,[]=>true
 |j,o::l=>CJ o (iy as (3*j+1))&&Cx as (j+1) l
section
variable {P:ak7} {ops:Array Oper} {o:Oper} {j:Nat} {as:ak4 (Nat×cb)} {s s1:St} {l:ak4 (In×cb)} {K:St->Prop}
theorem afm(hn:Ma o=true)(h:pZ P o K s):yQ P o K s:=by
 unfold yQ;unfold Ma at hn;split
 ·next c gX=>
  rw[gX]at hn;split
  ·next f hc=>simp only[hc]at hn;cases hn
  ·exact h
 ·exact h
theorem ajh(h:mJ P false o j as s=some (s1,l))(ca:fY P l)(hK:K s1)(hL:L5 o (iy as (3*j+1))=true):uY true P o K s:=by
 unfold mJ at h;simp only[Bool.false_and,cond_false]at h;split at h
 ·next x h' i hr=>
  have fin:OK P i (iy as (3*j+1))->K ((s.wh h').put o.dst x)->uY true P o K s:=λJ h2=>by
   unfold L5 at hL;rw[Bool.or_eq_true]at hL;unfold Ac at hr;split at hr
   ·next va e=>
    simp only[Bool.false_and,cond_false]at hr;split at hr
    ·next x2 Jw p e2=>
     cases hr
     rcases hL with hL|hL
     ·exfalso;rw[e]at J;unfold Iz at hL;split at hL
      ·next c gX=>
       split at hL
       ·next t hc=>
        rw[gX]at e2;unfold ia at e2;simp only[hc]at e2;cases e2
       ·next t hc=>
        rw[gX]at e2;unfold ia at e2;simp only[hc]at e2;cases e2
       ·cases hL
      ·cases hL
     ·rw[e]at J hL;simp only[EZ,Bool.not_true,Bool.or_false,aki]at hL;cases J with|pr _ hp=>exact .inr (.inr (.inl ⟨(by
        have h3:=hL.2;rw[Bool.or_eq_true,aki,Bool.not_eq_true']at h3;exact h3.elim (λe=> .inr (by rw[e];rfl)) λe=> .inl ⟨e.1,by rw[e.2];rfl⟩),va,x,h',p,e2,hp,h2⟩))
    ·cases hr
   ·rcases hL with hL|hL
    ·exact .inr (.inl ⟨by unfold mB;rw[hL];rfl,x,h',h2,λC hC=>x9 hr J hC⟩)
    ·rw[aki]at hL;exact .inl (afm hL.1 (x9 (C:=λx h'=>K ((s.wh h').put o.dst x)) hr J h2))
  split at h
  ·next y hy=>
   obtain⟨m,e,h2,h3⟩:=Ei h ca;cases e
   have:=h2 (.eq x, .eq y) akm;cases this with|eq e=>subst e;exact fin h3 hK
  ·obtain⟨m,e,h2,h3⟩:=Ei h ca;cases e
   exact fin h3 hK
 ·cases h
theorem aiq{dr v:Bool}{op:Op}{ρ:Operand->AV}{h:ak4 ao}{a:cb}(hv:EZ a=false):Ac P dr v op ρ h a=tH P op ρ h a:=by
 cases a<;>first|rfl|cases hv
theorem VK(h:mJ P false o j as s=some (s1,l))(ca:fY P l)(hK:K s1)(hL:CJ o (iy as (3*j+1))=true):uY true P o K s:=by
 unfold CJ at hL;rw[Bool.or_eq_true]at hL;rcases hL with hL|hL
 ·exact ajh h ca hK hL
 ·rw[aki,aki,Bool.not_eq_true',Bool.not_eq_true',Bool.not_eq_true']at hL;obtain⟨J,h2,h3⟩:=hL;have h':mJ P true o j as s=some (s1,l):=by
    unfold mJ at h ⊢;rw[aiq h2]at h ⊢;rw[J];exact h
  have:=JW (dr:=true) h' ca hK;rcases this with h|⟨e,_⟩|⟨e,_⟩|h
  ·exact .inl h
  ·cases e
  ·exfalso;rcases e with e|e
   ·rw[h3]at e;exact absurd e.1 (by simp)
   ·cases e
  ·exact .inr (.inr (.inr h))
theorem Tr(h:mY P ops false o j as s=some (s1,l))(ca:fY P l)(hK:K s1)(hL:CJ o (iy as (3*j+1))=true):iB ops o s (uY true P o K s) (K (s.put o.dst (.d (.v undef)))):=by
 unfold mY at h;split at h
 ·next hg=>unfold iB;rw[hg];exact VK h ca hK hL
 ·next g want hg=>
  obtain⟨dst,op,ty,pos,after,guard⟩:=o;simp only at hg;subst hg;split at h
  ·next b hb=>
   obtain⟨n,e,h2,h3⟩:=yS h ca;have h4:=OK.FB (h3 (_,_) akm);rw[Gi,h4];refine⟨λe2=> ?_,λe2=> ?_⟩
   ·subst e2;simp only[BEq.rfl,cond_true]at e;exact VK e h2 hK hL
   ·subst e2;have:((!want)==want)=false:=by cases want<;>rfl
    rw[this]at e;simp only[cond_false]at e;cases e
    exact hK
  ·next hb=>
   obtain⟨n,e,h2,h3⟩:=yS h ca;cases e
   have h4:=h3 (_,_) akm;have h5:tJ ops g s.t= .d (.v undef):=by
    generalize tJ ops g s.t=z at h4;cases h4;rfl
   rw[Gi,h5];exact hK
  ·cases h
theorem OB:∀(ol:ak4 Oper)(j:Nat)(s:St)(l:ak4 (In×cb)),nW P ops false ol j as s=some (s1,l)->fY P l->Cx as j ol=true->K s1->ta true P ops ol K s
 |[],_,s,l,h,_,_,hK=>by cases h;exact hK
 |o::rest,j,s,l,h,ca,hL,hK=>by
  unfold Cx at hL;rw[aki]at hL;unfold nW at h;split at h
  ·next s2 m hg=>
   obtain⟨n,e,h2,h3⟩:=yS h ca;exact Tr (K:=ta true P ops rest K) hg h3 (OB rest (j+1) s2 n e h2 hL.2 hK) hL.1
  ·cases h
theorem TS:∀(ol pre:ak4 Oper),qM (pre++ol).toArray ((List.range ol.length).map (pre.length+·))=ol
 |[],_=>rfl
 |o::l,pre=>by
  rw[akj,List.range_succ_eq_map,akF,List.map_map];unfold qM;have J:(pre++o::l).toArray[pre.length+0]?=some o:=by simp
  rw[J];simp only;have h2:=TS l (pre++[o]);rw[akx]at h2;simp only[List.singleton_append,akh,akj,aks,akA]at h2
  congr 1
  rw[show(pre.length+·)∘Nat.succ=(pre.length+1+·)from by funext i;simp only[Function.comp];omega];exact h2
theorem Rc(ol:ak4 Oper):qM ol.toArray (List.range ol.length)=ol:=by
 have:=TS ol []
 simpa using this
end
section
variable {P:ak7} {r:ak6 Nat} {N0 id n:Nat} {ol:ak4 Oper} {y:Code} {t:ak4 (Nat×AV)} {h:ak4 ao} {Q Q':Exit->St->Prop}
theorem rle(hm:P.follows .mixedOrders=true)(hl:A9 true ol.toArray (List.range ol.length)=true)(az:ak4 (Nat×Ob P))(Δ:ak4 (Nat×AV))(h':ak4 ao)(e:Cx (iA az) 0 ol=true/\wE P false ol (iA az) ⟨n,t,h⟩=some (Δ++t,h',iN az))(k:Q .normal ⟨n,Δ++t,h'⟩):bD P r N0 (.region id ol.toArray true) Q ⟨n,t,h⟩:=by
 obtain⟨e0,e⟩:=e;refine SZ (m:=true) (List.range ol.length) hm (by simp) hl ?_;rw[Rc];exact OB ol 0 _ _ (MC e) (oS az) e0 k
end
section
variable {P:ak7} {r:ak6 Nat} {N0:Nat} {Q:Exit->St->Prop} {c:Code} {o:Oper} {K:St->Prop}
theorem Fh{n d:Nat}{t:ak4 (Nat×AV)}{h h':ak4 ao}{x:AV}(hx:zc P o.op (ev ⟨n,t,h⟩) h=some (x,h'))(hd:o.dst=some d)(hn:Nat.ble n d=false)(hK:K ⟨n,(d,x)::t,h'⟩):nP P o K ⟨n,t,h⟩:=by
 refine .inr (.inr (.inr (.inr (.inl ⟨x,h',hx,?_⟩))));have aL:d<n:=Nat.lt_of_not_le λhle=>by rw[Nat.ble_eq_true_of_le hle]at hn;cases hn
 rw[hd,qd (s:=St.wh ⟨n,t,h⟩ h') aL];exact hK
theorem ajd{n d:Nat}{t:ak4 (Nat×AV)}{h h':ak4 ao}{x:AV}{p:Prop}(a:VA)(hx:ia P o.op (ev ⟨n,t,h⟩) h a=some (x,h',p))(hp:p)(hd:o.dst=some d)(hn:Nat.ble n d=false)(hK:K ⟨n,(d,x)::t,h'⟩):nP P o K ⟨n,t,h⟩:=by
 refine .inl ⟨a,x,h',p,hx,hp,?_⟩;have aL:d<n:=Nat.lt_of_not_le λhle=>by rw[Nat.ble_eq_true_of_le hle]at hn;cases hn
 rw[hd,qd (s:=St.wh ⟨n,t,h⟩ h') aL];exact hK
theorem ajO{ρ:Operand->AV}{h:ak4 ao}{q:Call}{x y:Operand}{T U:TypeId}{e k m de:Nat}{kq kn:IntKind}{z:ak8}(hc:q.callee= .builtin .append)(J:q.args.toList=[x,y])(h2:q.argTypes.toList=[T,U])(hx:(ρ x).isNil=true)(hT:eS P T=some (e,k))(hU:pn P U=some kn)(hy:ρ y= .d (.v (.int kq (Int.ofNat m))))(hz:iw P e=some z)(hb:px P e=some de)(g1:1<=m)(g2:1<=k)(g3:z.cells.toList.length=k)(g4:m<=maxLen)(g5:m*de<=140737488355328):
 zc P (.call q) ρ h=some (.vec h.length 0 m m k,h++[.vec e k (List.replicate m (z.cells.toList.map λu=> .d (.v u)))]):=by
 unfold zc;simp only[hc,J,h2,hT,hU,hy,hz,hb,hx,dy.2 g1,dy.2 g2,dy.2 g4,dy.2 g5,g3,akZ,Bool.and_self,cond_true]
theorem aac{n t e k L:Nat}{ts:ak4 (Nat×AV)}{cs:ak4 (ak4 AV)}(cw:N0=0)(ht:bw ts t= .vec 0 0 0 L k)(hL:cs.length=L)(h:bD P r N0 c Q ⟨n,[(t, .own 0 [])],[.front e k 0]⟩):bD P r N0 c Q ⟨n,ts,[.vec e k cs]⟩:=by
 subst cw;constructor
 intro G w a m hs hN;have hi:=hs.inv;have mh:([ao.vec e k cs]:ak4 ao)[0]?=some (.vec e k cs):=rfl;have hGN:G.N=1:=hi.len.symm;have hv:=hs.tmp t;rw[ht]at hv;obtain⟨xZ,⟨A,cc,q1,q2,q3,q4,q5⟩,QP⟩:=hv.rY hi mh hL;obtain⟨b1,b2,b3,b4⟩:=hi.dn 0 _ mh;have hp0:∀(A:ak6 Addr),cc<=maxLen->dz G.S w (.slice A 0 cc) (.sl []):=λA hc=> .sl A 0 0 cc 0 [] (λ_ _=>undef) (λh=>absurd rfl h) (Nat.zero_le _) hc (λ_ h=>absurd h akW) (λi j hi=>absurd hi (akI _)) (λi j x d hx=>by simp at hx);obtain⟨G',gn⟩:∃G',G'={G with sg:=λi=>if i=0 then a.tmps.getD t undef else G.sg i,fl:=λi=>if i=0 then 0 else G.fl i}:=⟨_,rfl⟩;have hE:bP 0 G w G' w:=by
  subst gn;exact⟨akr _,λ_ _ h=>h,λ_ _ _=>rfl,λ_ h=>absurd h (akI _),λ_ h=>absurd h (akI _),gQ rfl,λ_ _=>rfl,rfl,rfl,rfl,λ_ _ h=> .inl h⟩
 have hinv:bU G' w [.front e k 0]:=by
  refine⟨by rw[gn];exact hi.len,by rw[gn];exact hi.z,by rw[gn];exact hi.S,λj B hB=> ?_,λi j x J h2=> ?_,by rw[gn];exact hi.gl⟩
  ·match j with
   |0=>
    cases hB
    refine⟨by rw[gn];simp,Nat.zero_le _,?_⟩;rcases b4 with⟨d1,d2,A',d3⟩|⟨g,cap,cur,d1,d2,d3,d4,d5,d6,d7,d8,d9⟩
    ·left
     refine⟨by rw[gn];exact d1,?_⟩;have tW:L=0:=by rw[<-hL,d2];rfl
     have:=QP rfl tW.symm;rw[gn];exact⟨A',by simp only[if_true];rw[this];exact d3⟩
    ·by_cases tW:L=0
     ·have:=QP rfl tW.symm
      right
      refine⟨g,cap,cur,by rw[gn];exact d1,?_,by rw[gn];exact d3,d4,Nat.zero_le _,d6,d7,λo _=>by rw[gn];exact d8 o⟩;rw[gn];simp only[if_true];rw[this,d2,hL,tW]
     ·obtain⟨g',Bb,s1,rfl,s3⟩:=q5 (Nat.pos_of_ne_zero tW);rw[d2]at s1;cases s1
      right
      have:cc=cap:=by omega
      subst this;refine⟨g,cc,cur,by rw[gn];exact d1,?_,by rw[gn];exact d3,d4,Nat.zero_le _,d6,d7,λo _=>by rw[gn];exact d8 o⟩;rw[gn];simp only[if_true];rw[q1,Nat.zero_mul]
   |j+1=>simp at hB
  ·have hj:∀i x,bR [ao.front e k 0] G' i=some x->i=0:=λi x h=>by
    obtain⟨B,hB,_⟩:=l9 h
    match i with
    |0=>rfl
    |i+1=>simp at hB
   rw[hj i x J,hj j x h2]
 refine wpIn_mono (h.run G' w a m ⟨hs.size,λi=> ?_,hinv,?_⟩ (Nat.zero_le _)) λ_ _ _ hn=>hn.trans hE
 ·show aD G' w _ (bw [(t, .own 0 [])] i);rw[kO];split
  ·next e=>
   subst e;refine .own 0 [] (by rw[gn];show 0<G.N;omega) ?_ (Nat.zero_le _) (λ_=>by rw[gn];simp);rw[q1,gn];exact hp0 A q3
  ·exact .dead _
 ·have:=hs.df;rw[gn];exact this
end
end Go.Proofs.YtnnapanbbbcalaaGreatDoor
namespace Go.Proofs.YtnnapanbbbcalaaGreatDoor.MK
open Go.RowKit
set_option linter.unusedVariables false
def ao(w:ak9)(g:Nat)(t:TypeId)(cs:ak4 ak8):Prop:=w.heap[g]?=some (.cells cs.toArray t (0,0))
section
variable {w w':ak9} {g:Nat} {t:TypeId} {cs:ak4 ak8}
end
section
variable {P:ak7} (w:ak9)
end
section
variable {P:ak7} {w:ak9}
end
section
variable {S E base:Nat} {w w' w'':ak9}
end
end Go.Proofs.YtnnapanbbbcalaaGreatDoor.MK
namespace Go.Proofs.YtnnapanbbbcalaaGreatDoor
open Go.RowKit
set_option linter.unusedSimpArgs false
set_option linter.unusedVariables false
section
variable {P:ak7}
end
end Go.Proofs.YtnnapanbbbcalaaGreatDoor
