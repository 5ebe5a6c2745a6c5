/-
  Part 3 of the proof: AbsRun, AbsFrz, AbsInst, AbsExec, AbsExecV, AbsRange, AbsAny, AbsExec2, AbsExec3, AbsYield, AbsTree, AbsVecX, MemK, AbsVecD.
-/
import Derived.Test.YtfdhojiehjfghaaGreatDoorPs2
import Derived.WalkKit
import Derived.Laws.CopyOwn
import Derived.Deep.AppendLies
import Derived.Lib.AppendZerosOnto
import Derived.Lib.Overlaps
import Derived.Lib.Hide
namespace Go.Proofs.YtfdhojiehjfghaaGreatDoor
open Go.RowKit
def ao.vd:ao->Prop
 | .vec _ _ cs=>(∀f,cs.map (AV.fp f)=cs)/\∀m,cs.all (·.all (AV.aH m))=true
 |_=>True
theorem ajo(f:Nat->Nat)(c:anD D):AV.fp f (c.map AV.d)=c.map AV.d:=by
 induction c with
 |nil=>simp [AV.fp]
 |cons x c ih=>simp only[anc,AV.fp,AV.aG,ih]
theorem acF(xs:anD (anD D)):(∀f,(bG xs).map (AV.fp f)=bG xs)/\∀m,(bG xs).all (·.all (AV.aH m))=true:=by
 refine⟨λf=> ?_,λm=>by simp [bG,AV.aH]⟩;unfold bG;rw[List.map_map];exact anj λc _=>ajo f c
def VD:anD ao->Prop
 |[]=>True
 |B::l=>B.vd/\VD l
theorem eC:VD []:=trivial
theorem Ls{e k:Nat}{xs:anD (anD D)}{l:anD ao}(h:VD l):VD (.vec e k (bG xs)::l):=⟨acF xs,h⟩
theorem VD.mem:∀{l:anD ao},VD l->∀B∈l,B.vd
 |[],_,B,hB=>by cases hB
 |_::_,h,B,hB=>by
  rcases ani.1 hB with rfl|hB
  ·exact h.1
  ·exact VD.mem h.2 B hB
def ao.ra(f:Nat->Nat):ao->ao
 | .vec e k cs=> .vec e k cs
 |B=>B.aG f
theorem RT{f:Nat->Nat}{B:ao}(h:B.vd):B.ra f=B.aG f:=by
 cases B with
 |vec e k cs=>simp only[ao.ra,ao.aG];rw[h.1 f]
 |_=>rfl
theorem alV{f:Nat->Nat}{l:anD ao}(h:VD l):l.map (ao.ra f)=l.map (ao.aG f):=anj λB hB=>RT (h.mem B hB)
def ao.uu(m:Nat):ao->Bool
 | .vec .. =>true
 |B=>B.aH m
theorem alR{m:Nat}{B:ao}(h:B.vd)(hl:B.uu m=true):B.aH m=true:=by
 cases B with
 |vec e k cs=>exact h.2 m
 |_=>exact hl
theorem akO{m:Nat}{l:anD ao}(h:VD l)(hl:l.all (ao.uu m)=true):l.all (ao.aH m)=true:=by
 rw[ane]at hl ⊢;exact λB hB=>alR (h.mem B hB) (hl B hB)
theorem aeH{f:Nat->Nat}{l:anD ao}(h:VD l):(l.map λB=>some (B.ra f))=l.map λB=>some (B.aG f):=anj λB hB=>congrArg some (RT (h.mem B hB))
inductive In
 |none
 |bit (x:AV)
 |eq (x:AV)
 |el (xs:List (List D)) (i:Int)
 |lt (z:Int) (n:Nat)
 |len (xs:List (List D))
 |sub (xs:List (List D)) (lo:Int) (hi:Option Int) (k:Nat)
 |app (xs ys:List (List D)) (len k cr:Nat)
 |nz (b:Int)
 |nn (b:Int)
 |str (b:ByteArray) (lo hi:Int)
 |cat (n:Nat)
 |pr (p:Prop)
 |sd (p:Sd)
 |byt (xs:List (List D))
 |IM (c:List D) (z:Int) (n:Nat)
 |ch (b:ByteArray) (i:Int)
 |call (f:FuncId) (args:List AV)
 |jC (f:FuncId) (args:List AV) (h:List ao)
 |Ep (c:ep) (args:List AV)
 |nv (f:FuncId) (args:List AV) (h:List ao)
def Oi(P:anG)(c:ep)(args:anD AV)(r:AV):Prop:=∃g as,c.app args=some (g,as)/\gn P g as (·=r)
inductive bB
 |none
 |bit (b:Bool)
 |B8
 |eq (y:AV)
 |el (c:List D)
 |ok
 |nat (n:Nat)
 |list (ys:List (List D))
 |Xe (ys:List (List D)) (n:Nat)
 |byte (c:UInt8)
 |bytes (s:ByteArray)
 |one (d:D)
 |va (a:VA)
 |ret (r:AV)
 |Lw (r:AV) (h:List ao)
 |Lx (l:List Nat) (dN:List AV) (H:List ao) (r:AV) (H':List ao)
 |rq (l:List Nat) (dN:List AV) (H:List ao) (r:AV)
 |De (l:List Nat) (dN:List AV) (H:List ao) (r:AV) (H':List ao)
inductive OK(P:Program):In->bB->Prop
 |none {o:bB}:OK P .none o
 |bit {e b:Bool} (h:e=b):OK P (.bit (.d (.v (.bool e)))) (.bit b)
 |B8:OK P (.bit (.d (.v undef))) .B8
 |eq {x y:AV} (h:x=y):OK P (.eq x) (.eq y)
 |el {xs:List (List D)} {i:Int} {c:List D} (h0:0<=i) (h:xs[i.toNat]?=some c):OK P (.el xs i) (.el c)
 |lt {z:Int} {n:Nat} (h0:0<=z) (h:z<n):OK P (.lt z n) .ok
 |len {xs:List (List D)} {n:Nat} (h:xs.length=n):OK P (.len xs) (.nat n)
 |sub {xs ys:List (List D)} {lo hi:Int} {k:Nat} (h0:0<=lo) (h1:lo.toNat<=hi.toNat) (h2:0<=hi) (h3:hi.toNat<=xs.length) (hk:∀c∈xs,c.length=k) (h:(xs.take hi.toNat).drop lo.toNat=ys):OK P (.sub xs lo (some hi) k) (.list ys)
 |BH {xs ys:List (List D)} {lo:Int} {k:Nat} (h0:0<=lo) (h1:lo.toNat<=xs.length) (hk:∀c∈xs,c.length=k) (h:xs.drop lo.toNat=ys):OK P (.sub xs lo .none k) (.list ys)
 |app {xs ys zs:List (List D)} {len k cr n:Nat} (hl:len=xs.length) (hx:∀c∈xs,c.length=k) (hy:∀c∈ys,c.length=k) (hm:xs.length+ys.length<=maxLen) (hb:(xs.length+ys.length)*cr<=140737488355328) (hz:xs++ys=zs) (hn:xs.length+ys.length=n):OK P (.app xs ys len k cr) (.Xe zs n)
 |nz {b:Int} (h:b≠0):OK P (.nz b) .ok
 |nn {b:Int} (h:0<=b):OK P (.nn b) .ok
 |str {b:ByteArray} {lo hi:Int} (h0:0<=lo) (h1:lo.toNat<=hi.toNat) (h2:0<=hi) (h3:hi.toNat<=b.size):OK P (.str b lo hi) .ok
 |ch {b:ByteArray} {i:Int} {c:UInt8} (h0:0<=i) (h:b[i.toNat]?=some c):OK P (.ch b i) (.byte c)
 |cat {n:Nat} (h:n<=maxLen):OK P (.cat n) .ok
 |pr {p:Prop} (a:VA) (h:p):OK P (.pr p) (.va a)
 |sd {p:Sd} {o:bB} (h:p.ok):OK P (.sd p) o
 |byt {xs:List (List D)} {s:ByteArray} (h:∃ns:List Int,xs=ns.map (λn=>[.v (.int .u8 n)])/\s=⟨(ns.map λn=>UInt8.ofNat n.toNat).toArray⟩):OK P (.byt xs) (.bytes s)
 |IM {c:List D} {z:Int} {n:Nat} {d:D} (h0:0<=z) (h1:z<n) (h:c[z.toNat]?=some d):OK P (.IM c z n) (.one d)
 |call {f:FuncId} {args:List AV} {r:AV} (h:gn P f args (·=r)):OK P (.call f args) (.ret r)
 |Ep {c:ep} {args:List AV} {r:AV} (h:Oi P c args r):OK P (.Ep c args) (.ret r)
 |nv {f:FuncId} {mB dN:List AV} {h H H':List ao} {l:List Nat} {r:AV} (ha:mB=dN.map (AV.aG (rn l h.length))) (hd:ph l=true) (hb:l.map (λj=>h[j]?)=H.map λB=>some (B.aG (rn l h.length))) (hl:(dN.all (AV.aH H.length)&&H.all (ao.aH H.length))=true)
  (hc:cp P f dN H λr1 h1=>r1=r/\h1=H'):OK P (.nv f mB h) (.Lx l dN H r H')
 |S0 {f:FuncId} {mB dN:List AV} {h H H':List ao} {l:List Nat} {r:AV} (rh:VD H) (hv:VD H') (ha:mB=dN.map (AV.aG (rn l h.length))) (hd:ph l=true) (hb:l.map (λj=>h[j]?)=H.map λB=>some (B.ra (rn l h.length))) (hl:(dN.all (AV.aH H.length)&&H.all (ao.uu H.length))=true)
  (hc:cp P f dN H λr1 h1=>r1=r/\h1=H'):OK P (.nv f mB h) (.De l dN H r H')
 |rq {f:FuncId} {mB dN:List AV} {h H:List ao} {l:List Nat} {r:AV} (ha:mB=dN.map (AV.aG (rn l 0))) (hd:ph l=true) (hb:l.map (λj=>h[j]?)=H.map λB=>some (B.aG (rn l 0))) (hl:(dN.all (AV.aH H.length)&&H.all (ao.aH H.length)&&r.aH H.length)=true)
    (hc:cp P f dN H λr1 h1=>r1=r/\h1=H):OK P (.nv f mB h) (.rq l dN H r)
 |jC {f:FuncId} {args:List AV} {h h':List ao} {r:AV} (hc:cp P f args h λr1 h1=>r1=r/\h1=h'):OK P (.jC f args h) (.Lw r h')
def yG(P:anG)(t:TypeId)(cs:anD AV)(off:Nat):anF AV:=
 match lV P t,fz P t with
 |some true,some k=>bif bS (off+k) cs.length then some (.agg ((cs.drop off).take k))else none
 |some false,some _=>cs[off]?
 |_,_=>none
def xf(h:anD ao)(p:AV):anF (anD AV×Nat):=
 match p with
 | .ptr n off=>match h[n]? with
   |some (.cells cs)=>some (cs,off)
   |_=>none
 | .ba xs i off=>match xs[i]? with
   |some c=>some (c.map .d,off)
   |none=>none
 |_=>none
def Qe(x:AV)(i:anF Int)(k:Nat)(a:bB):anF (AV×In):=
 match x.eY,i,a with
 |some xs,some z, .el c=>bif c.length==k then some (.ba [c] 0 0, .el xs z)else none
 |_,_,_=>none
def LG(P:anG)(T:TypeId)(x i:AV)(a:bB):anF (AV×In):=
 match dQ P T with
 |some (_,k)=>
  match x with
  | .row n off len _ k'=>match i.int? with
    |some z=>bif k'==k then some (.ptr n (off+z.toNat*k), .lt z len)else none
    |none=>none
  |x=>Qe x i.int? k a
 |none=>match tW P T,x,i.int? with
  |some (n,_,k), .ptr b off,some z=>some (.ptr b (off+z.toNat*k), .lt z n)
  |some (n,_,k), .ba [c] 0 0,some z=>match a with
   | .one d=>bif k==1 then some (.ba [[d]] 0 0, .IM c z n)else none
   |_=>none
  |_,_,_=>none
def P6(P:anG)(T:TypeId)(x:AV)(a:bB):anF (AV×In):=
 match x with
 | .d (.v (.string s))=>bif gC P T then some (.d (.v (.int .i64 s.size)), .none)else none
 | .row _ _ len _ _=>bif (dQ P T).isSome then some (.d (.v (.int .i64 len)), .none)else none
 |x=>match x.eY,a with
  |some xs, .nat n=>bif (dQ P T).isSome then some (.d (.v (.int .i64 n)), .len xs)else none
  |_,_=>none
def oN(l:anF Int)(d:Nat):Nat:=match l with|some z=>z.toNat|none=>d
def Cu(ρ:Operand->AV):anF Operand->anF (anF Int)
 |none=>some none
 |some y=>match (ρ y).int? with
  |some z=>some (some z)
  |none=>none
def Q0(P:anG)(T:TypeId)(ρ:Operand->AV)(x:AV)(lo hi mx:anF Operand)(a:bB):anF (AV×In):=
 match mx with
 |none=>match Cu ρ lo,Cu ρ hi with
  |some l,some h=>match x with
   | .d (.v (.string b))=>bif gC P T then some (.d (.v (.string (b.extract (oN l 0) (oN h b.size)))), .str b (l.getD 0) (h.getD b.size))else none
   | .ptr n off=>match tW P T,l,h with
     |some (m,_,k),none,none=>bif bS m 4096&& !bS m 0 then some (.row n off m m k, .none)else none
     |_,_,_=>none
   |x=>match x.eY,dQ P T,a with
    |some xs,some (_,k), .list ys=>some (.d (.sl ys), .sub xs (l.getD 0) h k)
    |_,_,_=>none
  |_,_=>none
 |some m=>match lo,hi,ρ m with
  |none,some y, .d (.v (.int _ 0))=>match x.eY,dQ P T,ρ y,a with
   |some xs,some (_,k), .d (.v (.int _ 0)), .list _=>some (.full [], .sub xs 0 (some 0) k)
   |_,_,_,_=>none
  |_,_,_=>none
def JO(h:anD ao)(k:Nat)(x:AV):anF (anD (anD D)):=
 match x with
 | .row n off len _ k'=>match h[n]? with
   |some (.cells cs)=>match mJ ((cs.drop off).take (len*k))with
    |some ds=>bif k'==k&&bS (off+len*k) cs.length&&((cs.drop off).take (len*k)).all AV.jV then some (nP k len ds)else none
    |none=>none
   |_=>none
 |x=>x.eY
def OB(P:anG)(T:TypeId)(h:anD ao)(x y:AV)(a:bB):anF (AV×anD ao×In):=
 match dQ P T,a with
 |some (e,k), .Xe zs n'=>match iE P e,sM P e with
  |some z,some cr=>bif bS 1 k&&z.cells.toList.length==k then
   match JO h k y with
   |some ys=>match x with
    | .own n xs=>match h[n]? with
      |some (.front e' k' len)=>bif e'==e&&k'==k then some (.own n zs,h.set n (.front e k n'), .app xs ys len k cr)else none
      |_=>none
    | .d (.v (.slice none 0 0))=>some (.own h.length zs,h++[.front e k n'], .app [] ys 0 k cr)
    | .full xs=>some (.own h.length zs,h++[.front e k n'], .app xs ys xs.length k cr)
    |_=>none
   |none=>none
   else none
  |_,_=>none
 |_,_=>none
def Ng(P:anG)(T:TypeId)(ps:anD (Nat×AV)):anF AV:=
 match Qx P T,iE P T with
 |some places,some z=>match oM places (z.cells.toList.map λu=> .d (.v u)) ps with
  |some cs=>bif (ps.all λp=>p.2.iX)&&z.cells.toList.all Value.oneCell' then some (.agg cs)else none
  |none=>none
 |_,_=>none
def KU(P:anG)(T:TypeId)(len:Nat)(ps:anD (Nat×AV)):anF AV:=
 match dQ P T with
 |some (e,k)=>match iE P e with
  |some z=>match oM (vp k 0 len) (sH len (z.cells.toList.map λu=> .d (.v u))) ps with
   |some cs=>match mJ cs with
    |some ds=>bif bS 1 k&&bS (len*k) 16777216&&z.cells.toList.length==k&&z.cells.toList.all Value.oneCell'&&(ps.all λp=>p.2.iX)then some (.full (nP k len ds))else none
    |none=>none
   |none=>none
  |none=>none
 |none=>none
def F8(P:anG)(T:TypeId)(op:BinOp)(x y:AV):anF (AV×In):=
 match x,y with
 | .d (.v (.int k a)), .d (.v (.int k' b))=>
   match O9 op k a b with
   |some v=>bif xx k k' then some (.d (.v v), .nz b)else none
   |none=>match MO op k a b with
    |some v=>some (.d (.v v), .nn b)
    |none=>match QC op k a b with
     |some v=>bif xx k k' then some (.d (.v v), .none)else none
     |none=>none
 | .d (.v (.string a)), .d (.v (.string b))=>match QI op a b with
   |some v=>some (.d (.v v), .none)
   |none=>match op with
    | .add=>some (.d (.v (.string (a++b))), .cat (a.size+b.size))
    |_=>none
 | .d (.v (.bool a)), .d (.v (.bool b))=>match LU op a b with
   |some v=>bif Af P T then some (.d (.v v), .none)else none
   |none=>none
 | .agg xs, .agg ys=>match Ju P T xs ys with
   |some b=>match xw op b with
    |some v=>some (.d (.v v), .none)
    |none=>none
   |none=>none
 |_,_=>none
def GY(P:anG)(src dst:TypeId)(x:AV)(a:bB):anF (AV×In):=
 match x with
 | .d (.v (.int _ n))=>match sf P src,sf P dst with
   |some _,some k=>some (.d (.v (.int k (k.wrap n))), .none)
   |_,_=>none
 | .d (.v (.string b))=>bif gC P src&&gC P dst then some (.d (.v (.string b)), .none)else none
 |x=>match x.eY,dQ P src,a with
  |some xs,some (e,_), .bytes s=>bif BC P e&&gC P dst then some (.d (.v (.string s)), .byt xs)else none
  |_,_,_=>none
def FG(P:anG)(T:TypeId)(x:AV)(f:Nat):anF AV:=
 match sL P T f,x with
 |some (off,k,true), .agg cs=>bif bS (off+k) cs.length then some (.agg ((cs.drop off).take k))else none
 |some (off,_,false), .agg cs=>cs[off]?
 |_,_=>none
def H6(h:anD ao):anF AV->anF (AV×anD ao×In)
 |some x=>some (x,h, .none)
 |none=>none
def zf(h:anD ao):anF (AV×In)->anF (AV×anD ao×In)
 |some (x,i)=>some (x,h,i)
 |none=>none
mutual
def AV.nrm:AV->AV
 | .full xs=> .d (.sl xs)
 | .d (.v (.slice none 0 0))=> .d (.sl [])
 | .agg cs=> .agg (AV.vY cs)
 | .aQ cs=> .aQ (AV.vY cs)
 |x=>x
def AV.vY:anD AV->anD AV
 |[]=>[]
 |x::l=>x.nrm::AV.vY l
end
def AV.Fl:AV->AV
 | .fn f cs=>match AV.xr cs with
   |some l=> .hid (.fn f l)
   |none=> .fn f cs
 |x=>x
def AV.arg(x:AV):AV:=((x.aV 0).nrm).Fl
def AV.lE(x:AV):AV:=(x.aV 0).nrm
def sdI:Sd->In
 | .no=> .none
 |p=> .sd p
def xR:anF (AV×anD ao×Sd)->anF (AV×anD ao×In)
 |some (x,h,p)=>some (x,h,sdI p)
 |none=>none
def uG(P:anG)(op:Op)(ρ:Operand->AV)(h:anD ao)(a:bB):anF (AV×anD ao×In):=
 match op with
 | .move x| .assign x=>some (ρ x,h, .none)
 | .pick c x y=>match a with
   | .bit b=>some (bif b then ρ x else ρ y,h, .bit (ρ c))
   |_=>none
 | .alloc e=>match iE P e with
   |some z=>some (.ptr h.length 0,h++[ao.cells (z.cells.toList.map λu=> .d (.v u))], .none)
   |none=>none
 | .box _ x=>bif (ρ x).iX then some (.ptr h.length 0,h++[ao.cells (ρ x).cells], .none)else none
 | .load t p=>match xf h (ρ p)with
   |some (cs,off)=>match yG P t cs off with
    |some x=>some (x,h, .none)
    |none=>none
   |none=>none
 | .store t p x=>match ρ p with
   | .ptr n off=>match h[n]? with
     |some (.cells cs)=>match fz P t with
      |some k=>bif k==(ρ x).cells.length&&(ρ x).iX&&bS (off+(ρ x).cells.length) cs.length then some (.d (.v undef),h.set n (.cells (gM cs off (ρ x).cells)), .none)else none
      |none=>none
     |_=>none
   |_=>none
 | .nilCheck x=>match ρ x with
   | .ptr n off=>some (.ptr n off,h, .none)
   | .ba xs i off=>some (.ba xs i off,h, .none)
   | .fn f cs=>some (.fn f cs,h, .none)
   |_=>none
 | .fieldAddr S x f=>match sL P S f with
   |some (fo,_,_)=>match ρ x with
    | .ptr n off=>some (.ptr n (off+fo),h, .none)
    | .ba xs i off=>some (.ba xs i (off+fo),h, .none)
    |_=>none
   |none=>none
 | .field T x f=>H6 h (FG P T (ρ x) f)
 | .indexAddr T x i=>zf h (LG P T (ρ x) (ρ i) a)
 | .index T x i=>match ρ x,(ρ i).int?,a with
   | .d (.v (.string b)),some z, .byte c=>bif gC P T then some (.d (.v (.int .u8 c.toNat)),h, .ch b z)else none
   |_,_,_=>none
 | .build T ps=>H6 h (Ng P T (ps.toList.map λp=>(p.1,ρ p.2)))
 | .buildSlice T len ps=>H6 h (KU P T len (ps.toList.map λp=>(p.1,ρ p.2)))
 | .slice T x lo hi mx=>zf h (Q0 P T ρ (ρ x) lo hi mx a)
 | .extract x i=>match ρ x with
   | .aQ cs=>match cs[i]? with
     |some c=>some (c,h, .none)
     |none=>none
   |_=>none
 | .makeFunc (.func f) first cN=>match Nd f (first.toList.map ρ) (cN.toList.map ρ)with
   |some x=>some (x,h, .none)
   |none=>none
 | .binOp op T x y _=>zf h (F8 P T op (ρ x) (ρ y))
 | .unOp op _ x=>match ρ x with
   | .d (.v u)=>match IF op u with
     |some v=>some (.d (.v v),h, .none)
     |none=>none
   |_=>none
 | .convert s t x=>zf h (GY P s t (ρ x) a)
 | .call c=>match c.callee with
   | .builtin .len=>match c.args.toList,c.argTypes.toList with
     |[x],[T]=>zf h (P6 P T (ρ x) a)
     |_,_=>none
   | .builtin .append=>match c.args.toList,c.argTypes.toList with
     |[x,y],[T,U]=>bif (dQ P U).isSome then OB P T h (ρ x) (ρ y) a else none
     |_,_=>none
   | .builtin .max=>match A1 true (c.args.toList.map ρ)with
     |some (k,a)=>some (.d (.v (.int k a)),h, .none)
     |none=>none
   | .builtin .min=>match A1 false (c.args.toList.map ρ)with
     |some (k,a)=>some (.d (.v (.int k a)),h, .none)
     |none=>none
   | .value f=>match ρ f,a with
     | .fn g cN, .ret r=>bif ((c.args.toList.map ρ++cN).map AV.arg).all (AV.aH 0)&&r.aH 0 then some (r,h, .call g ((c.args.toList.map ρ++cN).map AV.arg))else none
     | .fn g cN, .Lw r h'=>some (r,h', .jC g (c.args.toList.map ρ++cN) h)
     | .fn g cN, .Lx l _ _ r H'=>some (r.aG (rn l h.length),gw l (H'.map (ao.aG (rn l h.length))) h, .nv g ((c.args.toList.map ρ++cN).map AV.lE) h)
     | .fn g cN, .De l _ _ r H'=>some (r.aG (rn l h.length),gw l (H'.map (ao.ra (rn l h.length))) h, .nv g ((c.args.toList.map ρ++cN).map AV.lE) h)
     | .fn g cN, .rq l _ _ r=>some (r.aG (rn l 0),h, .nv g ((c.args.toList.map ρ++cN).map AV.lE) h)
     | .hid q, .ret r=>bif ((c.args.toList.map ρ).map AV.arg).all (AV.aH 0)&&r.aH 0 then some (r,h, .Ep q ((c.args.toList.map ρ).map AV.arg))else none
     |_,_=>none
   |_=>none
 |op=>xR (p5 P op ρ h)
theorem JP:∀l,AV.vY l=l.map AV.nrm
 |[]=>by simp [AV.vY]
 |x::l=>by simp [AV.vY,JP l]
theorem aE.nrm{G:Gh}{w:anI}{u:anH}{x:AV}(h:aE G w u x):aE G w u x.nrm:=by
 have fR:∀(vs:Array anH)(cs:anD AV),(∀(i:Nat)(u:anH)(c:AV),vs[i]?=some u->cs[i]?=some c->aE G w u c.nrm)->∀(i:Nat)(u:anH)(c:AV),vs[i]?=some u->(AV.vY cs)[i]?=some c->aE G w u c:=by
  intro vs cs ih i u c hu hc;rw[JP,amU]at hc;cases hx:cs[i]? with
  |none=>rw[hx]at hc;cases hc
  |some x=>rw[hx]at hc;cases hc;exact ih i u x hu hx
 induction h with
 |agg vs cs hl _ ih=>rw[AV.nrm];exact .agg vs _ (by rw[JP,amS];exact hl) (fR vs cs ih)
 |aQ vs cs hl _ ih=>rw[AV.nrm];exact .aQ vs _ (by rw[JP,amS];exact hl) (fR vs cs ih)
 |full xs hp hf=>rw[AV.nrm];exact .d hp
 | @d u x h=>
   by_cases hx:x= .v (.slice none 0 0)
   ·subst hx;cases h with|v=>simp only[AV.nrm];exact .d FX
   ·have:(AV.d x).nrm= .d x:=by
     unfold AV.nrm;split<;>simp_all
    rw[this];exact .d h
 |own n xs h hp hle hf=>simp only[AV.nrm];exact .own n xs h hp hle hf
 |ptr n off h=>simp only[AV.nrm];exact .ptr n off h
 |ba xs i off b o u x hx hS hu=>simp only[AV.nrm];exact .ba xs i off b o u x hx hS hu
 |row n off len cap k h hl hm=>simp only[AV.nrm];exact .row n off len cap k h hl hm
 |fn f vs cs hl h=>simp only[AV.nrm];exact .fn f vs cs hl h
 |mp n h=>simp only[AV.nrm];exact .mp n h
 |cF n h=>simp only[AV.nrm];exact .cF n h
 |vec n o len L k h hs hL hf=>simp only[AV.nrm];exact .vec n o len L k h hs hL hf
 |db n i j L k h hs hL hf=>simp only[AV.nrm];exact .db n i j L k h hs hL hf
 |hid h h1=>simp only[AV.nrm];exact .hid h h1
 |dead u=>simp only[AV.nrm];exact .dead u
theorem AV.Le.Fl(x:AV):AV.Le x x.Fl:=λG w u h=>by
 unfold AV.Fl;split
 ·next f cs=>
  split
  ·next l e=>
   have:=h.cap (.fn f l) (by simp only[AV.cap,e]);cases h with|fn=>exact .hid this rfl
  ·exact h
 ·exact h
theorem AV.Le.arg(x:AV):AV.Le x x.arg:=λ_ _ _ h=>AV.Le.Fl _ _ _ _ (h.aV 0).nrm
theorem cp.args{P:anG}{f:FuncId}{as:anD AV}{h:anD ao}{K:AV->anD ao->Prop}(hc:cp P f as h K)(bs:anD AV)(hl:as.length=bs.length)(hle:∀(i:Nat)(c d:AV),bs[i]?=some c->as[i]?=some d->AV.Le c d):cp P f bs h K:=
 ⟨hc.1,λG w vs hi hs hr=>hc.2 G w vs hi (hs.trans hl.symm) λi u d hu hd=>by
  have aJ:i<bs.length:=by rw[<-hl];exact(amN.1 hd).1
  exact hle i _ d (amR aJ) hd G w u (hr i u _ hu (amR aJ))⟩
theorem cp.V3{P:anG}{f:FuncId}{as:anD AV}{h:anD ao}{K:AV->anD ao->Prop}(hc:cp P f (as.map AV.arg) h K):cp P f as h K:=
 hc.args as (by rw[amS]) λi c d hc hd=>by
  rw[amU,hc]at hd;cases hd;exact AV.Le.arg c
theorem AV.Le.lE(x:AV):AV.Le x x.lE:=λ_ _ _ h=>(h.aV 0).nrm
theorem cp.GR{P:anG}{f:FuncId}{as:anD AV}{h:anD ao}{K:AV->anD ao->Prop}(hc:cp P f (as.map AV.lE) h K):cp P f as h K:=
 hc.args as (by rw[amS]) λi c d hc hd=>by
  rw[amU,hc]at hd;cases hd;exact AV.Le.lE c
theorem W5(l:anD ep):(l.map ep.av).all (AV.aH 0)=true:=by
 rw[ane];intro x hx;obtain⟨c,_,rfl⟩:=List.mem_map.1 hx;cases c<;>rfl
theorem Oi.use{P:anG}{q:ep}{args:anD AV}{r:AV}{h:anD ao}{C:AV->anD ao->Prop}(hc:Oi P q (args.map AV.arg) r)(ha:(args.map AV.arg).all (AV.aH 0)=true)(hr:r.aH 0=true)(hC:C r h):∃g as,q.app args=some (g,as)/\cp P g as h C:=by
 obtain⟨g,as,e,hc⟩:=hc;cases q with
 |d x=>simp [ep.app]at e
 |ba c off=>simp [ep.app]at e
 |fn g' cs=>
  simp only[ep.app,Option.some.injEq,Prod.mk.injEq]at e;obtain⟨rfl,rfl⟩:=e;refine⟨g',_,rfl,cp.args (hc.use (h:=h) (C:=C) (by rw[List.all_append,ha,W5];rfl) hr hC) _ (by simp) λi c d h1 h2=> ?_⟩;by_cases hi:i<args.length
  ·rw[amX hi]at h1;rw[amX (by simpa using hi),amU,h1]at h2;cases h2;exact AV.Le.arg c
  ·rw[am3 (by omega)]at h1;rw[am3 (by simpa using hi),amS,h1]at h2;cases h2;exact AV.Le.refl c
 |nt g' cs=>
  simp only[ep.app,Option.some.injEq,Prod.mk.injEq]at e;obtain⟨rfl,rfl⟩:=e;refine⟨g',_,rfl,cp.args (hc.use (h:=h) (C:=C) (by rw[List.all_append,ha,W5];rfl) hr hC) _ (by simp) λi c d h1 h2=> ?_⟩;by_cases hi:i<(cs.map ep.av).length
  ·rw[amX hi]at h1 h2;rw[h1]at h2;cases h2;exact AV.Le.refl c
  ·rw[am3 (by omega)]at h1 h2;rw[amU,h1]at h2;cases h2;exact AV.Le.arg c
theorem dF{α:Type}{b:Bool}{x y:α}(h:(bif b then some x else none)=some y):b=true/\x=y:=by
 cases b with
 |true=>exact⟨rfl,am6 h⟩
 |false=>cases h
theorem kF{α:Type}{b:Bool}{x:anF α}{y:α}(h:(bif b then x else none)=some y):b=true/\x=some y:=by
 cases b with
 |true=>exact⟨rfl,h⟩
 |false=>cases h
section
variable {P:anG} {ρ:Operand->AV} {h h':anD ao} {a:bB} {i:In} {x:AV} {C:AV->anD ao->Prop}
theorem OK.HK{x:AV}{b:Bool}(h:OK P (.bit x) (.bit b)):x= .d (.v (.bool b)):=by
 cases h with|bit h=>subst h;rfl
theorem Mt{t:TypeId}{p:AV}{cs:anD AV}{off:Nat}{K:AV->Prop}(h1:xf h p=some (cs,off))(h2:yG P t cs off=some x)(hK:K x):oG P t h p K:=by
 have key:(match lV P t,fz P t with
     |some true,some k=>eQ (bS (off+k) cs.length) (K (.agg ((cs.drop off).take k)))
     |some false,some _=>match cs[off]? with
      |some c=>K c
      |none=>False
     |_,_=>False):=by
  unfold yG at h2;split at h2
  ·next k e1 e2=>
   obtain⟨h3,rfl⟩:=dF h2;exact bw.2 ⟨h3,hK⟩
  ·next k e1 e2=>rw[h2];exact hK
  ·cases h2
 unfold oG sa;unfold xf at h1;split at h1
 ·split at h1
  ·next bV e=>cases h1;simp only[e];exact key
  ·cases h1
 ·split at h1
  ·next c e=>cases h1;simp only[e];exact key
  ·cases h1
 ·cases h1
theorem aii{y:AV}{z:anF Int}{k:Nat}(h1:Qe y z k a=some (x,i))(bA:OK P i a):∃xs w c,y.eY=some xs/\z=some w/\0<=w/\xs[w.toNat]?=some c/\c.length=k/\x= .ba [c] 0 0:=by
 unfold Qe at h1;split at h1
 ·next xs w c hx=>
  obtain⟨hk,he⟩:=dF h1;cases he
  cases bA with
  |el h0 hc=>exact⟨_,_,_,hx,rfl,h0,hc,by simpa using hk,rfl⟩
 ·cases h1
theorem afz{T:TypeId}{y z:AV}{K:AV->Prop}(h1:LG P T y z a=some (x,i))(bA:OK P i a)(hK:K x):sq P T y z K:=by
 unfold LG at h1;unfold sq;cases hT:dQ P T with
 |some p=>
  obtain⟨e,k⟩:=p;simp only[hT]at h1 ⊢;cases y with
  |row n off len cap k'=>
   simp only at h1 ⊢;split at h1
   ·next w hw=>
    obtain⟨hk,he⟩:=dF h1;cases he
    cases bA with|lt h0 hl=>simp only[hw];exact bw.2 ⟨hk,h0,hl,hK⟩
   ·cases h1
  |_=>
   obtain⟨xs,w,c,e1,e2,e3,e4,e5,rfl⟩:=aii h1 bA;simp only[e1,e2,e4,e5];exact⟨e3,trivial,hK⟩
 |none=>
  simp only[hT]at h1 ⊢;split at h1
  ·next n e k b off w hA hw=>
   cases h1
   simp only[hA,hw];cases bA with|lt h0 hl=>exact⟨h0,hl,hK⟩
  ·next n e k c w hA hw=>
   split at h1
   ·next d=>
    obtain⟨hb,he⟩:=dF h1;cases he;simp only[hA,hw];cases bA with|IM h0 hl h=>exact bw.2 ⟨hb,h0,hl,by simp only[List.getElem?_cons_zero,am7,h];exact hK⟩
   ·cases h1
  ·cases h1
theorem aj9{T:TypeId}{y:AV}{K:Nat->Prop}{C:AV->Prop}(h1:P6 P T y a=some (x,i))(bA:OK P i a)(hK:C x)(hc:∀n:Nat,C (.d (.v (.int .i64 n)))->K n):s8 P T y K:=by
 unfold P6 at h1;unfold s8;split at h1
 ·obtain⟨hb,he⟩:=dF h1;cases he;exact bw.2 ⟨hb,hc _ hK⟩
 ·obtain⟨hb,he⟩:=dF h1;cases he;exact bw.2 ⟨hb,hc _ hK⟩
 ·next n1 n2=>
  split at h1
  ·next xs n hx=>
   obtain⟨hb,he⟩:=dF h1;cases he;cases bA with
   |len hl=>
    subst hl;split
    ·next s=>exact absurd rfl (n1 s)
    ·next a b c d e=>exact absurd rfl (n2 a b c d e)
    ·simp only[hx];exact bw.2 ⟨hb,hc _ hK⟩
  ·cases h1
theorem akZ{y:anF Operand}{l:anF Int}(h1:Cu ρ y=some l):(y=none/\l=none)\/∃o z,y=some o/\l=some z/\(ρ o).int?=some z:=by
 unfold Cu at h1;cases y with
 |none=>cases h1;exact .inl ⟨rfl,rfl⟩
 |some o=>
  simp only at h1;split at h1
  ·next z hz=>cases h1;exact .inr ⟨o,z,rfl,rfl,hz⟩
  ·cases h1
theorem tz{y:anF Operand}{l:anF Int}{d:Nat}{K:Nat->Prop}(h1:Cu ρ y=some l)(h0:∀z,l=some z->0<=z)(hK:K (oN l d)):ju ρ y d K:=by
 rcases akZ h1 with⟨rfl,rfl⟩|⟨o,z,rfl,rfl,hz⟩
 ·exact hK
 ·simp only[ju,hz];exact⟨h0 z rfl,hK⟩
theorem acB{T:TypeId}{y:AV}{lo hi mx:anF Operand}{K:AV->Prop}(h1:Q0 P T ρ y lo hi mx a=some (x,i))(bA:OK P i a)(hK:K x):uL P T ρ y lo hi mx K:=by
 unfold Q0 at h1;unfold uL;split at h1
 ·split at h1
  ·next l hh hl qc=>
   split at h1
   ·next b=>
    obtain⟨hb,he⟩:=dF h1;cases he;cases bA with
    |str h0 h2 h3 h4=>
     refine bw.2 ⟨hb,tz qc (λz e=>by subst e;exact h3) ?_⟩;have e1:oN hh b.size=(hh.getD b.size).toNat:=by cases hh<;>simp [oN]
     have e2:oN l 0=(l.getD 0).toNat:=by cases l<;>simp [oN]
     rw[e1];refine⟨h4,tz hl (λz e=>by subst e;exact h0) ?_⟩;rw[e2];rw[e1,e2]at hK;exact⟨h2,hK⟩
   ·next n off=>
    split at h1
    ·next m e k hT=>
     obtain⟨hb,he⟩:=dF h1;cases he;simp only[hT];generalize bS m 4096=q at hb ⊢;rw[amP]at hb;refine bw.2 ⟨hb.1,tz qc (λz e=>by cases e) (bw.2 ⟨dy.2 (amY _),tz hl (λz e=>by cases e) (bw.2 ⟨?_,?_⟩)⟩)⟩
     ·rw[amP];exact⟨dy.2 (Nat.zero_le _),hb.2⟩
     ·show K (.row n (off+0*k) (m-0) (m-0) k);rw[Nat.zero_mul,Nat.add_zero,Nat.sub_zero];exact hK
    ·cases h1
   ·next DN kD=>
    split at h1
    ·next xs e k ys hx hT=>
     cases h1
     dsimp only;split
     ·next b=>exact absurd rfl (DN b)
     ·next n off=>exact absurd rfl (kD n off)
     ·simp only[hx,hT];cases hh with
      |none=>
       cases bA with
       |BH h0 h2 hk he=>
        refine⟨hk,tz qc (λz e=>by cases e) ⟨amY _,tz hl (λz e=>by subst e;exact h0) ?_⟩⟩;have e2:oN l 0=(l.getD 0).toNat:=by cases l<;>simp [oN]
        rw[e2];refine⟨h2,?_⟩;rw[show oN none xs.length=xs.length from rfl,List.take_length,he];exact hK
      |some z=>
       cases bA with
       |sub h0 h2 h3 h4 hk he=>
        refine⟨hk,tz qc (λz e=>by cases e;exact h3) ⟨h4,tz hl (λz e=>by subst e;exact h0) ?_⟩⟩;have e2:oN l 0=(l.getD 0).toNat:=by cases l<;>simp [oN]
        rw[e2];refine⟨h2,?_⟩;rw[show oN (some z) xs.length=z.toNat from rfl,he];exact hK
    ·cases h1
  ·cases h1
 ·split at h1
  ·next m _ _ y' _ hm=>
   split at h1
   ·next xs e k _ _ ys hx hT hy=>
    cases h1
    cases bA with
    |sub h0 h2 h3 h4 hk he=>
     simp only[hx,hT];refine⟨hk,?_⟩;simp only[ju,hm,hy,AV.int?];refine⟨Int.le_refl _,Nat.zero_le _,Int.le_refl _,?_,by simpa using hK⟩;first|rfl|trivial
   ·cases h1
  ·cases h1
theorem OA{k:Nat}{y:AV}{ys:anD (anD D)}{K:anD (anD D)->Prop}(h1:JO h k y=some ys)(hy:∀c∈ys,c.length=k)(hK:K ys):uR h k y K:=by
 unfold JO at h1;unfold uR;split at h1
 ·split at h1
  ·next cs e=>
   split at h1
   ·next ds e2=>
    obtain⟨hb,rfl⟩:=dF h1;simp only[e,e2];exact bw.2 ⟨hb,hK⟩
   ·cases h1
  ·cases h1
 ·next hn=>
  split
  ·next n off len cap k'=>exact absurd rfl (hn n off len cap k')
  ·simp only[h1];exact⟨hy,hK⟩
theorem alo{T:TypeId}{y z:AV}(h1:OB P T h y z a=some (x,h',i))(bA:OK P i a)(hC:C x h'):uQ P T h y z C:=by
 unfold OB at h1;unfold uQ;split at h1
 ·next e k zs n' hT=>
  simp only[hT];split at h1
  ·next zv cr hz pH=>
   simp only[hz,pH];obtain⟨hb,h1⟩:=kF h1;refine bw.2 ⟨hb,?_⟩;split at h1
   ·next ys kX=>
    split at h1
    ·next n xs=>
     split at h1
     ·next e' k' len hn=>
      obtain⟨hc,he⟩:=dF h1;cases he;cases bA with
      |app hl hx hy hm mw jg Dt=>
       subst jg;subst Dt;refine OA kX hy ?_;simp only[hn];exact bw.2 ⟨hc,hl,hx,hm,mw,hC⟩
     ·cases h1
    ·cases h1
     cases bA with
     |app hl hx hy hm mw jg Dt=>
      subst jg;subst Dt;refine OA kX hy ?_;simp only[List.nil_append,amZ,am7]at hC hm mw ⊢;exact⟨hm,mw,hC⟩
    ·cases h1
     cases bA with
     |app hl hx hy hm mw jg Dt=>
      subst jg;subst Dt;exact OA kX hy ⟨hx,hm,mw,hC⟩
    ·cases h1
   ·cases h1
  ·cases h1
 ·cases h1
theorem alM{T:TypeId}{ps:anD (Nat×AV)}{K:AV->Prop}(h1:Ng P T ps=some x)(hK:K x):wH P T ps K:=by
 unfold Ng at h1;unfold wH;split at h1
 ·next pl z e1 e2=>
  simp only[e1,e2];split at h1
  ·next cs e3=>obtain⟨hb,rfl⟩:=dF h1;simp only[e3];exact bw.2 ⟨hb,hK⟩
  ·cases h1
 ·cases h1
theorem ab6{T:TypeId}{len:Nat}{ps:anD (Nat×AV)}{K:AV->Prop}(h1:KU P T len ps=some x)(hK:K x):vz P T len ps K:=by
 unfold KU at h1;unfold vz;split at h1
 ·next e k hT=>
  simp only[hT];split at h1
  ·next z hz=>
   simp only[hz];split at h1
   ·next cs fZ=>
    simp only[fZ];split at h1
    ·next ds qD=>obtain⟨hb,rfl⟩:=dF h1;simp only[qD];exact bw.2 ⟨hb,hK⟩
    ·cases h1
   ·cases h1
  ·cases h1
 ·cases h1
theorem Vf{T:TypeId}{op:BinOp}{y z:AV}{K:AV->Prop}(h1:F8 P T op y z=some (x,i))(bA:OK P i a)(hK:K x):wi P T op y z K:=by
 unfold F8 at h1;unfold wi;split at h1
 ·split at h1
  ·next v e=>
   obtain⟨hb,he⟩:=dF h1;cases he;cases bA with|nz h0=>simp only[e];exact bw.2 ⟨hb,h0,hK⟩
  ·next e=>
   simp only[e];split at h1
   ·next v e2=>
    cases h1
    cases bA with|nn h0=>simp only[e2];exact⟨h0,hK⟩
   ·next e2=>
    simp only[e2];split at h1
    ·next v e3=>obtain⟨hb,he⟩:=dF h1;cases he;simp only[e3];exact bw.2 ⟨hb,hK⟩
    ·cases h1
 ·split at h1
  ·next v e=>cases h1;simp only[e];exact hK
  ·next e=>
   simp only[e];split at h1
   ·cases h1;cases bA with|cat h=>exact⟨h,hK⟩
   ·cases h1
 ·split at h1
  ·next v e=>obtain⟨hb,he⟩:=dF h1;cases he;simp only[e];exact bw.2 ⟨hb,hK⟩
  ·cases h1
 ·split at h1
  ·next b e=>
   simp only[e];split at h1
   ·next v e2=>cases h1;simp only[e2];exact hK
   ·cases h1
  ·cases h1
 ·cases h1
theorem aiZ{s t:TypeId}{y:AV}{K:AV->Prop}(h1:GY P s t y a=some (x,i))(bA:OK P i a)(hK:K x):w8 P s t y K:=by
 unfold GY at h1;unfold w8;split at h1
 ·split at h1
  ·next e1 e2=>cases h1;simp only[e1,e2];exact hK
  ·cases h1
 ·obtain⟨hb,he⟩:=dF h1;cases he;exact bw.2 ⟨hb,hK⟩
 ·next h8 h9=>
  split at h1
  ·next xs e k s' e1 e2=>
   obtain⟨hb,he⟩:=dF h1;cases he;cases bA with
   |byt h=>
    obtain⟨ns,k1,k2⟩:=h;subst k2;split
    ·next k' n=>exact absurd rfl (h8 k' n)
    ·next b'=>exact absurd rfl (h9 b')
    ·simp only[e1,e2];exact bw.2 ⟨hb,ns,k1,hK⟩
  ·cases h1
theorem VG{T:TypeId}{y:AV}{f:Nat}{K:AV->Prop}(h1:FG P T y f=some x)(hK:K x):x8 P T y f K:=by
 unfold FG at h1;unfold x8;split at h1
 ·next e=>obtain⟨hb,rfl⟩:=dF h1;simp only[e];exact bw.2 ⟨hb,hK⟩
 ·next e=>simp only[e,h1];exact hK
 ·cases h1
theorem Nr{y:anF AV}(h1:H6 h y=some (x,h',i)):y=some x/\h'=h:=by
 cases y with
 |none=>cases h1
 |some y=>cases h1;exact⟨rfl,rfl⟩
theorem Fm{y:anF (AV×In)}(h1:zf h y=some (x,h',i)):y=some (x,i)/\h'=h:=by
 cases y with
 |none=>cases h1
 |some y=>cases h1;exact⟨rfl,rfl⟩
theorem zS{o:Oper}(h1:uG P o.op ρ h a=some (x,h',i))(bA:OK P i a)(hC:C x h'):cg P o ρ h C:=by
 obtain⟨dst,op,type,pos,after,guard⟩:=o;simp only at h1;unfold uG at h1;unfold cg;split at h1
 ·cases h1;exact hC
 ·cases h1;exact hC
 ·next c y z=>
  split at h1
  ·next b=>
   cases h1
   simp only[OK.HK bA];cases b<;>simp_all
  ·cases h1
 ·split at h1
  ·next z e=>cases h1;simp only[e];exact hC
  ·cases h1
 ·obtain⟨hb,he⟩:=dF h1;cases he;exact bw.2 ⟨hb,hC⟩
 ·split at h1
  ·next cs off e=>
   split at h1
   ·next y e2=>cases h1;exact Mt e e2 hC
   ·cases h1
  ·cases h1
 ·split at h1
  ·next n off e=>
   split at h1
   ·next cs e2=>
    split at h1
    ·next k e3=>obtain⟨hb,he⟩:=dF h1;cases he;simp only[e,xv,e2,e3];exact bw.2 ⟨hb,hC⟩
    ·cases h1
   ·cases h1
  ·cases h1
 ·split at h1
  ·next e=>cases h1;simp only[e];exact hC
  ·next e=>cases h1;simp only[e];exact hC
  ·next e=>cases h1;simp only[e];exact hC
  ·cases h1
 ·split at h1
  ·next e=>
   simp only[e];split at h1
   ·next e2=>cases h1;simp only[e2];exact hC
   ·next e2=>cases h1;simp only[e2];exact hC
   ·cases h1
  ·cases h1
 ·obtain⟨e,rfl⟩:=Nr h1;exact VG e hC
 ·obtain⟨e,rfl⟩:=Fm h1;exact afz e bA hC
 ·split at h1
  ·next b z c e1 e2=>
   obtain⟨hb,he⟩:=dF h1;cases he;cases bA with
   |ch h0 hc=>simp only[e1,e2];refine bw.2 ⟨hb,h0,?_⟩;simp only[hc];exact hC
  ·cases h1
 ·obtain⟨e,rfl⟩:=Nr h1;exact alM e hC
 ·obtain⟨e,rfl⟩:=Nr h1;exact ab6 e hC
 ·obtain⟨e,rfl⟩:=Fm h1;exact acB e bA hC
 ·split at h1
  ·next e=>
   split at h1
   ·next e2=>cases h1;simp only[e,e2];exact hC
   ·cases h1
  ·cases h1
 ·split at h1
  ·next e=>cases h1;simp only[e];exact hC
  ·cases h1
 ·obtain⟨e,rfl⟩:=Fm h1;exact Vf e bA hC
 ·unfold xz;split at h1
  ·next e=>
   split at h1
   ·next e2=>cases h1;simp only[e,e2];exact hC
   ·cases h1
  ·cases h1
 ·obtain⟨e,rfl⟩:=Fm h1;exact aiZ e bA hC
 ·next c=>
  split at h1
  ·next hc=>
   simp only[hc];split at h1
   ·next e1 e2=>obtain⟨e,rfl⟩:=Fm h1;simp only[e1,e2];exact aj9 (C:=λx=>C x _) e bA hC (λn hn=>hn)
   ·cases h1
  ·next hc=>
   simp only[hc];split at h1
   ·next e1 e2=>obtain⟨hb,h1⟩:=kF h1;simp only[e1,e2];exact bw.2 ⟨hb,alo h1 bA hC⟩
   ·cases h1
  ·next hc=>
   simp only[hc];split at h1
   ·next e1=>cases h1;simp only[e1];exact hC
   ·cases h1
  ·next hc=>
   simp only[hc];split at h1
   ·next e1=>cases h1;simp only[e1];exact hC
   ·cases h1
  ·next f hc=>
   simp only[hc];split at h1
   ·next g cN r e=>
    obtain⟨hb,he⟩:=dF h1;cases he;simp only[amP]at hb;simp only[e];cases bA with|call jC=>exact(jC.use hb.1 hb.2 hC).V3
   ·next g cN r h2 e=>
    cases h1
    simp only[e];cases bA with|jC jC=>exact jC.mono λr1 h1 ⟨e1,e2⟩=>by subst e1;subst e2;exact hC
   ·next g cN l dN H r H' e=>
    cases h1
    simp only[e];cases bA with|nv ha hd hb hl hc=>exact(ha▸(hc.nv hd hb hl).mono λr1 h1 ⟨e1,e2⟩=>by subst e1;subst e2;exact hC:cp P g _ _ _).GR
   ·next g cN l dN H r H' e=>
    cases h1
    simp only[e];cases bA with|S0 rh hv ha hd hb hl hc=>exact(ha▸(hc.nv hd (by rw[hb,aeH rh]) (by rw[amP]at hl ⊢;exact⟨hl.1,akO rh hl.2⟩)).mono λr1 h1 ⟨e1,e2⟩=>by subst e1;subst e2;rw[<-alV hv];exact hC:cp P g _ _ _).GR
   ·next g cN l dN H r e=>
    cases h1
    simp only[e];cases bA with|rq ha hd hb hl hc=>exact(ha▸(by have:=hc.rq hd hb hl [];rw[am8]at this;exact this.mono λr1 h1 ⟨e1,e2⟩=>by subst e1;subst e2;exact hC):cp P g _ _ _).GR
   ·next q r e=>
    obtain⟨hb,he⟩:=dF h1;cases he;simp only[amP]at hb;simp only[e];cases bA with|Ep hq=>exact hq.use hb.1 hb.2 hC
   ·cases h1
  ·cases h1
 ·next op _=>
  unfold xR at h1;split at h1
  ·next y h2 p e=>
   cases h1
   simp only[e];refine⟨?_,hC⟩;cases p with
   |no=>trivial
   |lt n=>cases bA with|sd h=>exact h
  ·cases h1
end
def ij:anD (Nat×bB)->Nat->bB
 |[],_=> .none
 |(k,x)::l,i=>bif k==i then x else ij l i
def um(i:In)(a:bB)(r:anF (St×anD (In×bB))):anF (St×anD (In×bB)):=
 match i with
 | .none=>r
 |i=>match r with
  |some (s,l)=>some (s,(i,a)::l)
  |none=>none
def zu:bB->Bool
 | .Lw .. | .Lx .. | .De .. =>true
 |_=>false
def y5(o:Oper):bB->Bool
 | .De [] .. =>bQ o==6
 |_=>false
def DC(P:anG)(dr vk:Bool)(op:Op)(ρ:Operand->AV)(h:anD ao)(a:bB):anF (AV×anD ao×In):=
 match a with
 | .va va=>bif dr&& !vk then none else match hY P op ρ h va with
   |some (x,h',p)=>some (x,h', .pr p)
   |none=>none
 |a=>uG P op ρ h a
def ny(P:anG)(dr:Bool)(o:Oper)(j:Nat)(as:anD (Nat×bB))(s:St):anF (St×anD (In×bB)):=
 bif dr&&zu (ij as (3*j+1))&& !y5 o (ij as (3*j+1))then none else
 match DC P dr (jk o) o.op (ev s) s.h (ij as (3*j+1))with
 |some (x,h',i)=>match ij as (3*j+2)with
  | .eq y=>um i (ij as (3*j+1)) (some ((s.wh h').put o.dst y,[(.eq x, .eq y)]))
  |_=>um i (ij as (3*j+1)) (some ((s.wh h').put o.dst x,[]))
 |none=>none
def Bb(o:Oper)(s:St):St:=s.put o.dst (.d (.v undef))
def qX(l:anD (In×bB)):anF (St×anD (In×bB))->anF (St×anD (In×bB))
 |some (s,m)=>some (s,l++m)
 |none=>none
def nc(P:anG)(ops:Array Oper)(dr:Bool)(o:Oper)(j:Nat)(as:anD (Nat×bB))(s:St):anF (St×anD (In×bB)):=
 match o.guard with
 |none=>ny P dr o j as s
 |some (g,want)=>match ij as (3*j)with
  | .bit b=>qX [(.bit (tL ops g s.t), .bit b)] (bif b==want then ny P dr o j as s else some (Bb o s,[]))
  | .B8=>qX [(.bit (tL ops g s.t), .B8)] (some (Bb o s,[]))
  |_=>none
def nW(P:anG)(ops:Array Oper)(dr:Bool):anD Oper->Nat->anD (Nat×bB)->St->anF (St×anD (In×bB))
 |[],_,_,s=>some (s,[])
 |o::rest,j,as,s=>match nc P ops dr o j as s with
  |some (s1,l)=>qX l (nW P ops dr rest (j+1) as s1)
  |none=>none
def fA(P:anG)(l:anD (In×bB)):Prop:=∀p∈l,OK P p.1 p.2
section
variable {P:anG} {ops:Array Oper} {dr:Bool} {o:Oper} {j:Nat} {as:anD (Nat×bB)} {s s1:St} {l:anD (In×bB)} {K:St->Prop}
theorem JD{i:In}{a:bB}{r:anF (St×anD (In×bB))}(h:um i a r=some (s1,l))(bA:fA P l):∃m,r=some (s1,m)/\fA P m/\OK P i a:=by
 unfold um at h;split at h
 ·exact⟨l,h,bA, .none⟩
 ·split at h
  ·next s2 m=>
   cases h
   exact⟨m,rfl,λp hp=>bA p (amW _ hp),bA (i,a) amT⟩
  ·cases h
theorem yD{r:anF (St×anD (In×bB))}{m:anD (In×bB)}(h:qX m r=some (s1,l))(bA:fA P l):∃n,r=some (s1,n)/\fA P n/\fA P m:=by
 unfold qX at h;split at h
 ·next s2 n=>
  cases h
  exact⟨n,rfl,λp hp=>bA p (List.mem_append_right _ hp),λp hp=>bA p (List.mem_append_left _ hp)⟩
 ·cases h
def GQ(P:anG)(dr:Bool)(o:Oper)(K:St->Prop)(s:St):Prop:=bif dr then Xl P o K s else rf P o K s
theorem ah4{x:AV}{h':anD ao}{i:In}{a:bB}(h1:uG P o.op (ev s) s.h a=some (x,h',i))(bA:OK P i a)(hh:zu a=false)(hK:K ((s.wh h').put o.dst x)):Xl P o K s:=by
 refine .inl ?_;unfold ze;split
 ·next c eO=>
  split
  ·next f hc=>
   rw[eO]at h1;unfold uG at h1;simp only[hc]at h1;split at h1
   ·next g cN r e=>
    obtain⟨hb,he⟩:=dF h1;cases he;simp only[amP]at hb;simp only[e];cases bA with
    |call jC=>exact⟨_,hK,λe=>(jC.use hb.1 hb.2 ⟨rfl,rfl⟩).V3⟩
   ·cases hh
   ·cases hh
   ·cases hh
   ·next g cN l dN H r e=>
    cases h1
    simp only[e];cases bA with|rq ha hd hb hl hc=>exact⟨_,hK,λe=>(ha▸hc.rq hd hb hl e:cp P g _ _ _).GR⟩
   ·next q r e=>
    obtain⟨hb,he⟩:=dF h1;cases he;simp only[amP]at hb;simp only[e];cases bA with
    |Ep hq=>
     have:=λh=>hq.use (h:=h) (C:=λr' h'=>r'=x/\h'=h) hb.1 hb.2 ⟨rfl,rfl⟩;obtain⟨g,cs,e1,_⟩:=this [];refine⟨g,cs,e1,x,hK,λe=> ?_⟩;obtain⟨g',bV,e2,h9⟩:=this (s.h++e);rw[e1]at e2;cases e2
     exact h9
   ·cases h1
  ·exact zS (C:=λx h'=>K ((s.wh h').put o.dst x)) h1 bA hK
 ·exact zS (C:=λx h'=>K ((s.wh h').put o.dst x)) h1 bA hK
theorem af1{o:Oper}{ρ:Operand->AV}{h h':anD ao}{dN:anD AV}{H H':anD ao}{r x:AV}{i:In}(hk:bQ o=6)(hr:uG P o.op ρ h (.De [] dN H r H')=some (x,h',i)):h'=h++H'.map (ao.ra (rn [] h.length)):=by
 unfold bQ at hk;split at hk
 all_goals first|(cases hk;done)|skip
 next c eO=>
  split at hk
  all_goals first|(cases hk;done)|skip
  next f hc=>
   rw[eO]at hr;unfold uG at hr;simp only[hc]at hr;generalize ρ f=v at hr;cases v<;>first|(cases hr;rfl)|cases hr
theorem MY(h:ny P dr o j as s=some (s1,l))(bA:fA P l)(hK:K s1):GQ P dr o K s:=by
 unfold ny at h;cases hd:dr&&zu (ij as (3*j+1))&& !y5 o (ij as (3*j+1))with
 |true=>rw[hd]at h;cases h
 |false=>
  rw[hd]at h;simp only[cond_false]at h;split at h
  ·next x h' i hr=>
   have fin:OK P i (ij as (3*j+1))->K ((s.wh h').put o.dst x)->GQ P dr o K s:=λh1 h2=>by
    unfold GQ;cases dr with
    |true=>
     unfold DC at hr;split at hr
     ·next va e=>
      cases hv:jk o with
      |false=>rw[hv]at hr;cases hr
      |true=>
       rw[hv]at hr;simp only[Bool.not_true,Bool.and_false,cond_false]at hr;split at hr
       ·next x2 Wq p e2=>
        cases hr
        rw[e]at h1;cases h1 with|pr _ hp=>exact .inr (.inr (.inl ⟨.inl ⟨hv,rfl⟩,va,x,h',p,e2,hp,h2⟩))
       ·cases hr
     ·by_cases hx:y5 o (ij as (3*j+1))=true
      ·refine .inr (.inr (.inr ?_));generalize ij as (3*j+1)=a at hx h1 hr;unfold y5 at hx;split at hx
       ·next dN H r H'=>
        have BG:bQ o=6:=by simpa using hx
        have this:h'=s.h++H'.map (ao.ra (rn [] s.h.length)):=af1 BG hr;refine⟨BG,x,H'.map (ao.ra (rn [] s.h.length)),?_,λC hC=> ?_⟩
        ·rw[<-this];exact h2
        ·rw[<-this]at hC;exact zS hr h1 hC
       ·cases hx
      ·exact ah4 hr h1 (by simpa [hx]using hd) h2
    |false=>
     unfold DC at hr;split at hr
     ·next va e=>
      simp only[Bool.false_and,cond_false]at hr;split at hr
      ·next x2 Wq p e2=>
       cases hr
       rw[e]at h1;cases h1 with|pr _ hp=>exact .inl ⟨va,x,h',p,e2,hp,h2⟩
      ·cases hr
     ·exact .inr (.inr (.inl (zS (C:=λx h'=>K ((s.wh h').put o.dst x)) hr h1 h2)))
   split at h
   ·next y hy=>
    obtain⟨m,e,h2,h3⟩:=JD h bA;cases e
    have:=h2 (.eq x, .eq y) amT;cases this with|eq e=>subst e;exact fin h3 hK
   ·obtain⟨m,e,h2,h3⟩:=JD h bA;cases e
    exact fin h3 hK
  ·cases h
theorem ON(h:nc P ops dr o j as s=some (s1,l))(bA:fA P l)(hK:K s1):iG ops o s (GQ P dr o K s) (K (s.put o.dst (.d (.v undef)))):=by
 unfold nc at h;split at h
 ·next hg=>unfold iG;rw[hg];exact MY h bA hK
 ·next g want hg=>
  obtain⟨dst,op,ty,pos,after,guard⟩:=o;simp only at hg;subst hg;split at h
  ·next b hb=>
   obtain⟨n,e,h2,h3⟩:=yD h bA;have h4:=OK.HK (h3 (_,_) amT);rw[Gx,h4];refine⟨λe2=> ?_,λe2=> ?_⟩
   ·subst e2;simp only[BEq.rfl,cond_true]at e;exact MY e h2 hK
   ·subst e2;have:((!want)==want)=false:=by cases want<;>rfl
    rw[this]at e;simp only[cond_false]at e;cases e
    exact hK
  ·next hb=>
   obtain⟨n,e,h2,h3⟩:=yD h bA;cases e
   have h4:=h3 (_,_) amT;have h5:tL ops g s.t= .d (.v undef):=by
    generalize tL ops g s.t=z at h4;cases h4;rfl
   rw[Gx,h5];exact hK
  ·cases h
theorem AH:∀(ol:anD Oper)(j:Nat)(s:St)(l:anD (In×bB)),nW P ops dr ol j as s=some (s1,l)->fA P l->K s1->(bif dr then Ci P ops ol K s else sS P ops ol K s)
 |[],_,s,l,h,_,hK=>by cases h;cases dr<;>exact hK
 |o::rest,j,s,l,h,bA,hK=>by
  unfold nW at h;split at h
  ·next s2 m hg=>
   obtain⟨n,e,h2,h3⟩:=yD h bA;have ih:=AH rest (j+1) s2 n e h2 hK;cases dr with
   |true=>exact ON (K:=Ci P ops rest K) hg h3 ih
   |false=>exact ON (K:=sS P ops rest K) hg h3 ih
  ·cases h
theorem M3(s:St)(d:anF Nat)(x:AV):∃pre,(s.put d x).t=pre++s.t:=by
 cases d with
 |none=>exact⟨[],rfl⟩
 |some k=>
  by_cases hk:k<s.n
  ·exact⟨[(k,x)],by rw[ur hk];rfl⟩
  ·exact⟨[],by rw[Bx hk];rfl⟩
theorem Nn(h:nc P ops dr o j as s=some (s1,l)):(∃pre,s1.t=pre++s.t)/\s1.n=s.n:=by
 have cI:∀{i a r l},um i a r=some (s1,l)->∃m,r=some (s1,m):=fun{i a r l} h=>by
  unfold um at h;split at h
  ·exact⟨_,h⟩
  ·split at h
   ·cases h;exact⟨_,rfl⟩
   ·cases h
 have cR:∀{m r l},qX m r=some (s1,l)->∃m,r=some (s1,m):=fun{m r l} h=>by
  unfold qX at h;split at h
  ·cases h;exact⟨_,rfl⟩
  ·cases h
 have st:∀l,ny P dr o j as s=some (s1,l)->(∃pre,s1.t=pre++s.t)/\s1.n=s.n:=λl h=>by
  unfold ny at h;cases hd:dr&&zu (ij as (3*j+1))&& !y5 o (ij as (3*j+1))with
  |true=>rw[hd]at h;cases h
  |false=>
   rw[hd]at h;simp only[cond_false]at h;split at h
   ·split at h<;>(obtain⟨m,e⟩:=cI h;cases e;exact⟨M3 _ _ _,by rw[qR];rfl⟩)
   ·cases h
 unfold nc at h;split at h
 ·exact st _ h
 ·split at h
  ·obtain⟨m,e⟩:=cR h;revert e;generalize ((_:Bool)==_)=q;intro e;cases q with
   |true=>exact st _ e
   |false=>cases e;exact⟨M3 _ _ _,by unfold Bb;rw[qR]⟩
  ·obtain⟨m,e⟩:=cR h;cases e;exact⟨M3 _ _ _,by unfold Bb;rw[qR]⟩
  ·cases h
theorem ME:∀(ol:anD Oper)(j:Nat)(s:St)(l:anD (In×bB)),nW P ops dr ol j as s=some (s1,l)->(∃pre,s1.t=pre++s.t)/\s1.n=s.n
 |[],_,s,l,h=>by cases h;exact⟨⟨[],rfl⟩,rfl⟩
 |o::rest,j,s,l,h=>by
  unfold nW at h;split at h
  ·next s2 m hg=>
   unfold qX at h;split at h
   ·next s3 n e=>
    cases h
    obtain⟨⟨p1,e1⟩,n1⟩:=Nn hg;obtain⟨⟨p2,e2⟩,n2⟩:=ME rest (j+1) s2 n e;exact⟨⟨p2++p1,by rw[e2,e1,am4]⟩,n2.trans n1⟩
   ·cases h
  ·cases h
end
def Yo:AV->Bool
 | .dead=>true
 |_=>false
def rm(P:anG)(dr:Bool)(l:anD Oper)(as:anD (Nat×bB))(keep:anD Nat)(s:St):anF (anD (Nat×AV)×anD ao×anD (In×bB)):=
 match nW P l.toArray dr l 0 as s with
 |some (s1,ps)=>bif (s1.t.take (s1.t.length-s.t.length)).all (λp=>keep.any (·==p.1)||Yo (aY s.t p.1))then some (keep.map λk=>(k,aY s1.t k),s1.h,ps)else none
 |none=>none
theorem BK:∀(a b:anD (Nat×AV))(i:Nat),(i∈a.map (·.1)/\aY (a++b) i=aY a i)\/(i ∉ a.map (·.1)/\aY (a++b) i=aY b i)
 |[],b,i=> .inr ⟨by simp,rfl⟩
 |(k,x)::a,b,i=>by
  by_cases e:i=k
  ·subst e;exact .inl ⟨by simp,by simp [nh]⟩
  ·rcases BK a b i with⟨h1,h2⟩|⟨h1,h2⟩
   ·exact .inl ⟨by simp at h1 ⊢;exact .inr h1,by rw[List.cons_append,nh,if_neg e,h2,nh,if_neg e]⟩
   ·exact .inr ⟨by simp at h1 ⊢;exact⟨e,h1⟩,by rw[List.cons_append,nh,if_neg e,h2]⟩
section
variable {P:anG} {dr:Bool} {as:anD (Nat×bB)} {s s1 s':St} {ps:anD (In×bB)} {keep:anD Nat} {ol:anD Oper} {Δ:anD (Nat×AV)} {h':anD ao}
theorem IW(h:rm P dr ol as keep s=some (Δ,h',ps)):∃s1,nW P ol.toArray dr ol 0 as s=some (s1,ps)/\s1.n=s.n/\s1.h=h'/\∀i,aY (Δ++s.t) i=aY s1.t i\/aY (Δ++s.t) i= .dead:=by
 unfold rm at h;split at h
 ·next s1 ps' hr=>
  obtain⟨hb,he⟩:=dF h;cases he
  obtain⟨⟨pre,e1⟩,n1⟩:=ME _ _ _ _ hr;refine⟨s1,hr,n1,rfl,λi=> ?_⟩;have Ft:∀(f:Nat->AV),(keep.map λk=>(k,f k)).map (·.1)=keep:=λf=>by rw[List.map_map];exact List.map_id _
  rcases BK (keep.map λk=>(k,aY s1.t k)) s.t i with⟨h1,h2⟩|⟨h1,h2⟩
  ·rw[Ft]at h1;rw[h2,sb (λk=>aY s1.t k),if_pos h1];exact .inl rfl
  ·rw[Ft]at h1;rw[h2];rw[e1,amO,Nat.add_sub_cancel,List.take_left']at hb
   ·rw[e1];rcases BK pre s.t i with⟨h3,h4⟩|⟨h3,h4⟩
    ·right
     obtain⟨p,hp,rfl⟩:=List.mem_map.1 h3;have:=ane.1 hb p hp;rw[Bool.or_eq_true]at this;rcases this with this|this
     ·exfalso;obtain⟨k,hk,e⟩:=List.any_eq_true.1 this;rw[beq_iff_eq]at e;exact h1 (e▸hk)
     ·generalize aY s.t p.1=z at this;cases z<;>first|rfl|cases this
    ·exact .inl h4.symm
   ·rfl
 ·cases h
theorem cx.less{G:Gh}{w:anI}{a:Act}(hs:cx G w a s1)(hn:s'.n=s1.n)(hh:s'.h=s1.h)(ht:∀i,aY s'.t i=aY s1.t i\/aY s'.t i= .dead):cx G w a s':=
 ⟨hs.size.trans hn.symm,λi=>by
  rcases ht i with e|e
  ·rw[e];exact hs.tmp i
  ·rw[e];exact .dead _,by rw[hh];exact hs.inv,hs.df⟩
end
structure Ob(P:Program) where
 i:In
 o:bB
 ok:OK P i o
def bT{P:anG}{e:Bool}(h:e=true):Ob P:=⟨_,_, .bit (b:=true) h⟩
def bF{P:anG}{e:Bool}(h:e=false):Ob P:=⟨_,_, .bit (b:=false) h⟩
def uN{P:anG}:Ob P:=⟨_,_, .B8⟩
def cL{P:anG}{f:FuncId}{args:anD AV}{r:AV}(h:gn P f args (·=r)):Ob P:=⟨_,_, .call h⟩
def iD{P:anG}(l:anD (Nat×Ob P)):anD (Nat×bB):=l.map λb=>(b.1,b.2.o)
def iS{P:anG}(l:anD (Nat×Ob P)):anD (In×bB):=l.map λb=>(b.2.i,b.2.o)
theorem ru{P:anG}(l:anD (Nat×Ob P)):fA P (iS l):=λp hp=>by
 obtain⟨b,_,rfl⟩:=List.mem_map.1 hp;exact b.2.ok
section
variable {P:anG} {r:anF Nat} {N0 id:Nat} {ol:anD Oper} {y:Code} {s:St} {Q Q':Exit->St->Prop} {az:anD (Nat×Ob P)} {Δ:anD (Nat×AV)} {h':anD ao}
theorem Ha{c:Code}{s':St}(hn:s'.n=s.n)(hh:s'.h=s.h)(ht:∀i,aY s'.t i=aY s.t i\/aY s'.t i= .dead)(h:bj P r N0 c Q s'):bj P r N0 c Q s:=
 ⟨λG w a n hs hN=>h.run G w a n (hs.less hn hh ht) hN⟩
theorem VN(az:anD (Nat×Ob P))(Δ:anD (Nat×AV))(h':anD ao)(h:rm P false ol (iD az) (Δ.map (·.1)) s=some (Δ,h',iS az))(k:bj P r N0 y Q' ⟨s.n,Δ++s.t,h'⟩):bj P r N0 (.region id ol.toArray false) (ig (λs=>bj P r N0 y Q' s) Q) s:=by
 obtain⟨s1,h1,h2,h3,h4⟩:=IW h;refine fQ ?_;exact AH (dr:=false) ol 0 s _ h1 (ru az) (Ha (s:=s1) (s':=⟨s.n,Δ++s.t,h'⟩) h2.symm h3.symm h4 k)
theorem acW(hm:P.follows .mixedOrders=true)(hl:vf ol.toArray=true)(az:anD (Nat×Ob P))(Δ:anD (Nat×AV))(h':anD ao)(h:rm P true ol (iD az) (Δ.map (·.1)) s=some (Δ,h',iS az))(k:bj P r N0 y Q' ⟨s.n,Δ++s.t,h'⟩):bj P r N0 (.region id ol.toArray true) (ig (λs=>bj P r N0 y Q' s) Q) s:=by
 obtain⟨s1,h1,h2,h3,h4⟩:=IW h;refine NU hm hl ?_;exact AH (dr:=true) ol 0 s _ h1 (ru az) (Ha (s:=s1) (s':=⟨s.n,Δ++s.t,h'⟩) h2.symm h3.symm h4 k)
def C5(P:anG)(dr:Bool)(l:anD Oper)(as:anD (Nat×bB))(s:St):anF (anD (Nat×AV)×anD ao×anD (In×bB)):=
 match nW P l.toArray dr l 0 as s with
 |some (s1,ps)=>some (s1.t,s1.h,ps)
 |none=>none
theorem Xs{dr:Bool}{as:anD (Nat×bB)}{t:anD (Nat×AV)}{ps:anD (In×bB)}(h:C5 P dr ol as s=some (t,h',ps)):nW P ol.toArray dr ol 0 as s=some (⟨s.n,t,h'⟩,ps):=by
 unfold C5 at h;split at h
 ·next s1 ps' hr=>
  cases h
  obtain⟨_,n1⟩:=ME _ _ _ _ hr;rw[hr,<-n1]
 ·cases h
theorem afF(az:anD (Nat×Ob P))(Δ:anD (Nat×AV))(h':anD ao)(h:C5 P false ol (iD az) s=some (Δ++s.t,h',iS az))(k:Q .normal ⟨s.n,Δ++s.t,h'⟩):bj P r N0 (.region id ol.toArray false) Q s:=
 fQ (AH (dr:=false) ol 0 s _ (Xs h) (ru az) k)
end
def AV.fin(m:Nat)(x:AV):AV:=(x.aV m).nrm
def ao.py:ao->ao
 | .cells cs=> .cells (cs.map AV.nrm)
 | .lp ls p as bd cs=> .lp ls p as bd (cs.map AV.nrm)
 | .it sn cs=> .it sn (cs.map AV.nrm)
 | .dM T cs=> .dM T (cs.map AV.nrm)
 | .vec e k cs=> .vec e k (cs.map (·.map AV.nrm))
 |B=>B
def jA(s:St)(live:anD Nat)(m:Nat):anF St:=
 bif bS m s.h.length&&(live.all λk=>((aY s.t k).aV m).aH m)&&(((s.h.take m).map (ao.aV m)).all (ao.aH m))then some ⟨s.n,live.map λk=>(k,(aY s.t k).fin m),((s.h.take m).map (ao.aV m)).map ao.py⟩else none
theorem QK{G:Gh}{w:anI}{h:anD ao}(hi:bC G w h):bC G w (h.map ao.py):=by
 have dW:∀(n:Nat)(B:ao),(h.map ao.py)[n]?=some B->∃B',h[n]?=some B'/\B=B'.py:=λn B hB=>by
  rw[amU]at hB;cases hx:h[n]? with
  |none=>rw[hx]at hB;cases hB
  |some B'=>rw[hx]at hB;cases hB;exact⟨B',rfl,rfl⟩
 have dP:∀n b,bz (h.map ao.py) G n=some b->bz h G n=some b:=λn b hb=>by
  obtain⟨B,hB,hb⟩:=oB hb;obtain⟨B',h1,rfl⟩:=dW n B hB;rw[di h1,<-hb];cases B'<;>rfl
 refine⟨by rw[amS];exact hi.len,hi.z,hi.S,λn B hB=> ?_,λi j b h1 h2=>hi.inj i j b (dP i b h1) (dP j b h2),hi.gl⟩;obtain⟨B',h1,rfl⟩:=dW n B hB;have dk:=hi.cT n B' h1;cases B' with
 |gone=>trivial
 |front e k len=>exact dk
 |byt e b=>exact dk
 |map kv=>exact dk
 |iI kv=>exact dk
 |vec e k cs=>
  obtain⟨c1,c2,c3,c4⟩:=dk;refine⟨by rw[amS];exact c1,by rw[amS];exact c2,λc hc=> ?_,?_⟩
  ·obtain⟨x,hx,rfl⟩:=List.mem_map.1 hc;rw[amS];exact c3 x hx
  ·rcases c4 with⟨d1,d2,A,d3⟩|⟨g,cap,cur,d1,d2,d3,d4,d5,d6,d7,d8,d9⟩
   ·exact .inl ⟨d1,by rw[d2];rfl,A,d3⟩
   ·refine .inr ⟨g,cap,cur,d1,by rw[amS];exact d2,d3,d4,by rw[amS];exact d5,d6,d7,d8,λi j c x u hc hx hu=> ?_⟩;rw[amU]at hc;cases hy:cs[i]? with
    |none=>rw[hy]at hc;cases hc
    |some y=>
     rw[hy]at hc;cases hc
     rw[amU]at hx;cases hw:y[j]? with
     |none=>rw[hw]at hx;cases hx
     |some z=>rw[hw]at hx;cases hx;exact(d9 i j y z u hy hw hu).nrm
 |cells cs=>
  obtain⟨c1,c2,vs,T,c3,c4,c5⟩:=dk;refine⟨c1,c2,vs,T,c3,by rw[amS];exact c4,λi u c hu hc=> ?_⟩;rw[amU]at hc;cases hx:cs[i]? with
  |none=>rw[hx]at hc;cases hc
  |some x=>rw[hx]at hc;cases hc;exact(c5 i u x hu hx).nrm
 |lp ls p as bd cs=>
  obtain⟨c1,c2,fn,vs,T,c3,c4,c5⟩:=dk;refine⟨c1,c2,fn,vs,T,c3,by rw[amS];exact c4,λi u c hu hc=> ?_⟩;rw[amU]at hc;cases hx:cs[i]? with
  |none=>rw[hx]at hc;cases hc
  |some x=>rw[hx]at hc;cases hc;exact(c5 i u x hu hx).nrm
 |it sn cs=>
  obtain⟨c1,c2,fn,vs,T,c3,c4,c5⟩:=dk;refine⟨c1,c2,fn,vs,T,c3,by rw[amS];exact c4,λi u c hu hc=> ?_⟩;rw[amU]at hc;cases hx:cs[i]? with
  |none=>rw[hx]at hc;cases hc
  |some x=>rw[hx]at hc;cases hc;exact(c5 i u x hu hx).nrm
 |dM T0 cs=>
  obtain⟨c1,c2,fn,vs,T,c3,c4,c5⟩:=dk;refine⟨c1,c2,fn,vs,T,c3,by rw[amS];exact c4,λi u c hu hc=> ?_⟩;rw[amU]at hc;cases hx:cs[i]? with
  |none=>rw[hx]at hc;cases hc
  |some x=>rw[hx]at hc;cases hc;exact(c5 i u x hu hx).nrm
section
variable {P:anG} {r:anF Nat} {n N0:Nat} {G:Gh} {w:anI} {a:Act} {s s':St} {Q Q':Exit->St->Prop} {live:anD Nat} {m:Nat}
theorem aeo(h:jA s live m=some s'):s.zk live m/\s'.n=s.n/\s'.t=(live.map λk=>(k,(aY s.t k).fin m))/\s'.h=((s.h.take m).map (ao.aV m)).map ao.py:=by
 unfold jA at h;obtain⟨hb,rfl⟩:=dF h;rw[amP,amP]at hb;exact⟨⟨dy.1 hb.1.1,hb.1.2,hb.2⟩,rfl,rfl,rfl⟩
theorem cx.jA(hs:cx G w a s)(h:jA s live m=some s'):cx (G.cut m) w a s':=by
 obtain⟨h1,h2,h3,h4⟩:=aeo h;have hm:=hs.mask h1;refine⟨hs.size.trans h2.symm,λi=> ?_,by rw[h4];exact QK hm.inv,hs.df⟩;have:=hm.tmp i
 change aE _ _ _ (aY (live.map λk=>(k,(aY s.t k).aV m)) i)at this
 rw[sb (λk=>(aY s.t k).aV m)]at this;rw[h3,sb (λk=>(aY s.t k).fin m)];split at this
 ·rename_i hi;rw[if_pos hi];exact this.nrm
 ·rename_i hi;rw[if_neg hi];exact .dead _
theorem TT{c:Code}{ι:Type}(live:anD Nat)(m:Nat)(st:ι->St)(I:ι->Prop)(μ:ι->Nat)(i0:ι)(hm:N0<=m)(h0:Go.Proofs.YtfdhojiehjfghaaGreatDoor.jA s live m=some (st i0))(hI:I i0)
 (round:∀i,I i->bj P r N0 c (ig (λs'=>∃i',Go.Proofs.YtfdhojiehjfghaaGreatDoor.jA s' live m=some (st i')/\I i'/\μ i'<μ i) Q) (st i)):bj P r N0 (.loop c) Q s:=by
 constructor
 intro G w a n hs _;refine RB (λ(i:ι) a' w'=>∃G',I i/\bx N0 G w G' w'/\N0<=G'.N/\cx G' w' a' (st i)) μ i0 ⟨G.cut m,hI,pV _ _ _ _,hm,hs.jA h0⟩ ?_;rintro i a' w' ⟨G',hi,hE,hN,bP⟩;refine wpIn_mono ((round i hi).run G' w' a' n bP hN) λe a1 w1 hn=> ?_;obtain⟨G1,s1,iA,ga,eG,hq⟩:=hn;cases e with
 |normal=>
  obtain⟨i',h1,h2,h3⟩:=hq;exact⟨i',⟨G1.cut m,h2,(hE.trans iA).trans (pV _ _ _ _),hm,eG.jA h1⟩,h3⟩
 |_=>exact⟨G1,s1,hE.trans iA,ga,eG,hq⟩
theorem jZ{c:Code}(live:anD Nat)(m:Nat)(hm:N0<=m)(h0:Go.Proofs.YtfdhojiehjfghaaGreatDoor.jA s live m=some s')(h:bj P r N0 c Q s'):bj P r N0 c Q s:=by
 constructor
 intro G w a n hs _;exact wpIn_mono (h.run (G.cut m) w a n (hs.jA h0) hm) λ_ _ _ hn=>hn.trans (pV N0 G w m)
theorem M5{c y:Code}{ι:Type}(live:anD Nat)(m:Nat)(st:ι->St)(I:ι->Prop)(hm:N0<=m)(hc:bj P r N0 c (ig (λs'=>∃i,Go.Proofs.YtfdhojiehjfghaaGreatDoor.jA s' live m=some (st i)/\I i) Q) s)(hy:∀i,I i->bj P r N0 y Q' (st i)):bj P r N0 c (ig (λs=>bj P r N0 y Q' s) Q) s:=by
 refine hc.mono λe s' h=> ?_;cases e with
 |normal=>obtain⟨i,h1,h2⟩:=h;exact jZ live m hm h1 (hy i h2)
 |_=>exact h
def sK(P:anG)(s:St):anD ResultVar->anF (anD AV)
 |[]=>some []
 | .tmp t::l=>match sK P s l with
   |some xs=>some (aY s.t t::xs)
   |none=>none
 | .cell p t::l=>match xf s.h (aY s.t p)with
   |some (cs,off)=>match yG P t cs off,sK P s l with
    |some x,some xs=>some (x::xs)
    |_,_=>none
   |none=>none
def xM(P:anG)(rs:anD ResultVar)(s:St):anF AV:=
 match sK P s rs with
 |some l=>bif ((jt l).aV 0).aH 0 then some ((jt l).fin 0)else none
 |none=>none
def j9(P:anG)(fn:Func)(R:AV):Exit->St->Prop
 | .normal,s=>xM P fn.results.toList s=some R
 | .ret,s=>xM P fn.results.toList s=some R
 |_,_=>False
theorem Es:∀(l:anD ResultVar)(xs:anD AV)(C:anD AV->Prop),sK P s l=some xs->C xs->mo P s l C
 |[],xs,C,h,hC=>by cases h;exact hC
 | .tmp t::l,xs,C,h,hC=>by
   unfold sK at h;split at h
   ·next ys e=>cases h;exact Es l ys _ e hC
   ·cases h
 | .cell p t::l,xs,C,h,hC=>by
   unfold sK at h;split at h
   ·next cs off e=>
    split at h
    ·next x ys e1 e2=>cases h;exact Mt e e1 (Es l ys _ e2 hC)
    ·cases h
   ·cases h
theorem XT{fn:Func}{R:AV}(h:xM P fn.results.toList s=some R):qG P fn 0 (λr h'=>h'=[]/\r.nrm=R) s:=by
 unfold xM at h;split at h
 ·next l e=>
  obtain⟨hb,rfl⟩:=dF h;exact Es _ l _ e ⟨Nat.zero_le _,hb,by simp,by simp,rfl⟩
 ·cases h
theorem jI{fn:Func}{R:AV}(h:xM P fn.results.toList s=some R):j9 P fn R .ret s:=h
theorem Ar{f:FuncId}{fn:Func}{c:Code}{args:anD AV}{R:AV}(hf:P.funcs[f]?=some fn)(hb:fn.body=some c)(hn:(fn.name== "runtime.NumGoroutine")=false)
 (hw:bj P none 0 c (j9 P fn R) {n:=args.length+(fn.ntmps-args.length),t:=lk 0 args,h:=[]}):gn P f args (·=R):=by
 have h:=Ax (P:=P) (f:=f) (args:=args) (h:=[]) (K:=λr h'=>h'=[]/\r.nrm=R) 0 hf hb hn (amY _) (hw.mono λe s hq=>by
  cases e with
  |normal=>exact XT hq
  |ret=>exact XT hq
  |_=>exact hq.elim)
 refine⟨h.1,λG w vs hi hl hr=>(h.2 G w vs hi hl hr).mono λe w' hp=> ?_⟩;obtain⟨v,G',x,h',rfl,hE,hN,dx,hv,rfl,rfl⟩:=hp;exact⟨v,G',x.nrm,[],rfl,hE,hN,dx,hv.nrm,rfl,rfl⟩
theorem amG{c:Code}(b i:Nat)(xs:anD (anD D))(hx:((s.h[b]?).bind λB=>match B with| .cells cs=>(cs[i]?).bind AV.eY|_=>none)=some xs)(h:xs.length<=maxLen->bj P r N0 c Q s):bj P r N0 c Q s:=by
 constructor
 intro G w a n hs hN;cases hb:s.h[b]? with
 |none=>rw[hb]at hx;cases hx
 |some B=>
  rw[hb]at hx;cases B with
  |cells cs=>
   simp only[amM]at hx;obtain⟨_,_,vs,T,_,hl,hr⟩:=hs.inv.cT b _ hb;cases hc:cs[i]? with
   |none=>rw[hc]at hx;cases hx
   |some x=>
    rw[hc]at hx;have aJ:i<vs.size:=by rw[hl];exact(amN.1 hc).1
    obtain⟨A,b',o,c',k',us,_,_,h1,h2,_⟩:=((hr i _ x (am9 aJ) hc).list hx).pK;exact(h (am5 h1 h2)).run G w a n hs hN
  |_=>cases hx
end
theorem aas{P:anG}{r:anF Nat}{N0 id:Nat}{ol:anD Oper}{y:Code}{s:St}{Q Q':Exit->St->Prop}(Δ:anD (Nat×AV))(h':anD ao)(h:∃az:anD (Nat×Ob P),rm P false ol (iD az) (Δ.map (·.1)) s=some (Δ,h',iS az))(k:bj P r N0 y Q' ⟨s.n,Δ++s.t,h'⟩):bj P r N0 (.region id ol.toArray false) (ig (λs=>bj P r N0 y Q' s) Q) s:=
 let ⟨az,h⟩:=h;VN az Δ h' h k
theorem gg{α:Type}{c:Bool}{a b:α}(h:c=true):cond c a b=a:=by rw[h];rfl
theorem gu{α:Type}{c:Bool}{a b:α}(h:c=false):cond c a b=b:=by rw[h];rfl
theorem b8{α β:Type}{x:anF α}{f:α->anF β}{b:β}(h:Option.bind x f=some b):∃a,x=some a/\f a=some b:=by
 cases x with
 |none=>cases h
 |some a=>exact⟨a,rfl,h⟩
theorem gq(b:Bool):b=true\/b=false:=by cases b<;>simp
theorem du{b:Bool}(h:b=true):(!b)=false:=by rw[h];rfl
theorem dD{b:Bool}(h:b=false):(!b)=true:=by rw[h];rfl
theorem aaV{α:Type}{c:Bool}{x:anF α}{r:α}(h:(bif c then x else none)=some r):c=true:=by
 cases c with
 |true=>rfl
 |false=>cases h
section
variable {P:anG} {r:anF Nat} {N0 id n:Nat} {ol:anD Oper} {y:Code} {t:anD (Nat×AV)} {h:anD ao} {Q Q':Exit->St->Prop}
theorem rg(az:anD (Nat×Ob P))(Δ:anD (Nat×AV))(h':anD ao)(e:rm P false ol (iD az) (Δ.map (·.1)) ⟨n,t,h⟩=some (Δ,h',iS az))(k:bj P r N0 y Q' ⟨n,Δ++t,h'⟩):bj P r N0 (.region id ol.toArray false) (ig (λs=>bj P r N0 y Q' s) Q) ⟨n,t,h⟩:=VN az Δ h' e k
theorem rd(hm:P.follows .mixedOrders=true)(hl:vf ol.toArray=true)(az:anD (Nat×Ob P))(Δ:anD (Nat×AV))(h':anD ao)(e:rm P true ol (iD az) (Δ.map (·.1)) ⟨n,t,h⟩=some (Δ,h',iS az))(k:bj P r N0 y Q' ⟨n,Δ++t,h'⟩):bj P r N0 (.region id ol.toArray true) (ig (λs=>bj P r N0 y Q' s) Q) ⟨n,t,h⟩:=acW hm hl az Δ h' e k
theorem re(az:anD (Nat×Ob P))(Δ:anD (Nat×AV))(h':anD ao)(e:C5 P false ol (iD az) ⟨n,t,h⟩=some (Δ++t,h',iS az))(k:Q .normal ⟨n,Δ++t,h'⟩):bj P r N0 (.region id ol.toArray false) Q ⟨n,t,h⟩:=afF az Δ h' e k
theorem L6(Δ:anD (Nat×AV))(h':anD ao)(e:∃az:anD (Nat×Ob P),rm P false ol (iD az) (Δ.map (·.1)) ⟨n,t,h⟩=some (Δ,h',iS az))(k:bj P r N0 y Q' ⟨n,Δ++t,h'⟩):bj P r N0 (.region id ol.toArray false) (ig (λs=>bj P r N0 y Q' s) Q) ⟨n,t,h⟩:=aas Δ h' e k
end
def bs(l:anD UInt8):anE:=⟨l.toArray⟩
def tG(x:D):Prop:=∃(S:Nat->Nat->Prop)(w:anI)(u:anH),cX S w u x
theorem Ht{xs:anD (anD D)}(h:tG (.sl xs)):xs.length<=maxLen:=by
 obtain⟨S,w,u,h⟩:=h;obtain⟨A,b',o,c',k',us,_,_,h1,h2,_⟩:=h.pK;exact am5 h1 h2
theorem aaI{xs:anD (anD D)}{i j:Nat}{c:anD D}{d:D}(h:tG (.sl xs))(hc:xs[i]?=some c)(hd:c[j]?=some d):tG d:=by
 obtain⟨S,w,u,h⟩:=h;obtain⟨A,b',o,c',k',us,_,_,h1,h2,h3,h4,h5⟩:=h.pK;exact⟨S,w,_,h5 i j c d hc hd⟩
section
variable {P:anG} {r:anF Nat} {n N0:Nat} {s:St} {Q:Exit->St->Prop}
theorem EE{c:Code}(k:Nat)(xs:anD (anD D))(hx:(aY s.t k).eY=some xs)(h:tG (.sl xs)->bj P r N0 c Q s):bj P r N0 c Q s:=by
 constructor
 intro G w a n hs hN;exact(h ⟨_,_,_,(hs.tmp k).list hx⟩).run G w a n hs hN
theorem afr{c:Code}(b i:Nat)(xs:anD (anD D))(hx:((s.h[b]?).bind λB=>match B with| .cells cs=>(cs[i]?).bind AV.eY|_=>none)=some xs)(h:tG (.sl xs)->bj P r N0 c Q s):bj P r N0 c Q s:=by
 constructor
 intro G w a n hs hN;cases hb:s.h[b]? with
 |none=>rw[hb]at hx;cases hx
 |some B=>
  rw[hb]at hx;cases B with
  |cells cs=>
   simp only[amM]at hx;obtain⟨_,_,vs,T,_,hl,hr⟩:=hs.inv.cT b _ hb;cases hc:cs[i]? with
   |none=>rw[hc]at hx;cases hx
   |some x=>
    rw[hc]at hx;have aJ:i<vs.size:=by rw[hl];exact(amN.1 hc).1
    exact(h ⟨_,_,_,(hr i _ x (am9 aJ) hc).list hx⟩).run G w a n hs hN
  |_=>cases hx
end
end Go.Proofs.YtfdhojiehjfghaaGreatDoor
namespace Go.Proofs.YtfdhojiehjfghaaGreatDoor
open Go.RowKit
mutual
def AV.eB(b:Nat)(ds:anD D):AV->AV
 | .ptr n off=>bif n==b then .ba [ds] 0 off else .ptr n off
 | .agg cs=> .agg (AV.uw b ds cs)
 | .aQ cs=> .aQ (AV.uw b ds cs)
 | .fn f cs=> .fn f (AV.uw b ds cs)
 |x=>x
def AV.uw(b:Nat)(ds:anD D):anD AV->anD AV
 |[]=>[]
 |x::l=>x.eB b ds::AV.uw b ds l
end
theorem Cb(b:Nat)(ds:anD D):∀l,AV.uw b ds l=l.map (AV.eB b ds)
 |[]=>by simp [AV.uw]
 |x::l=>by simp [AV.uw,Cb b ds l]
def ao.eB(b:Nat)(ds:anD D):ao->ao
 | .cells cs=> .cells (cs.map (AV.eB b ds))
 | .lp ls p as bd cs=> .lp ls p as bd (cs.map (AV.eB b ds))
 | .it sn cs=> .it sn (cs.map (AV.eB b ds))
 | .dM T cs=> .dM T (cs.map (AV.eB b ds))
 | .vec e k cs=> .vec e k (cs.map (·.map (AV.eB b ds)))
 |B=>B
def A6(s:St)(b:Nat):anF St:=
 match s.h[b]? with
 |some (.cells cs)=>match mJ cs with
  |some ds=>some ⟨s.n,s.t.map λp=>(p.1,p.2.eB b ds),(s.h.map (ao.eB b ds)).set b .gone⟩
  |none=>none
 |_=>none
theorem IV(f:AV->AV)(hf:f .dead= .dead):∀(t:anD (Nat×AV))(i:Nat),aY (t.map λp=>(p.1,f p.2)) i=f (aY t i)
 |[],i=>by simp [aY,hf]
 |(k,x)::l,i=>by
  simp only[anc,nh,IV f hf l i];split<;>rfl
theorem aE.eB{G G':Gh}{w:anI}{b:Nat}{ds:anD D}(hE:bx G.N G w G' w)(hN:G'.N=G.N)(hp:∀off,aE G' w (.pointer (some ⟨G.aI b,off,none⟩)) (.ba [ds] 0 off)){u:anH}{x:AV}(h:aE G w u x):aE G' w u (x.eB b ds):=by
 have keep:∀{u:anH}{x:AV},aE G w u x->aE G' w u x:=λh=>h.keep hE (Nat.le_of_eq hN.symm);have fR:∀(vs:Array anH)(cs:anD AV),(∀(i:Nat)(u:anH)(c:AV),vs[i]?=some u->cs[i]?=some c->aE G' w u (c.eB b ds))->∀(i:Nat)(u:anH)(c:AV),vs[i]?=some u->(AV.uw b ds cs)[i]?=some c->aE G' w u c:=by
  intro vs cs ih i u c hu hc;rw[Cb,amU]at hc;cases hx:cs[i]? with
  |none=>rw[hx]at hc;cases hc
  |some x=>rw[hx]at hc;cases hc;exact ih i u x hu hx
 induction h with
 |agg vs cs hl _ ih=>rw[AV.eB];exact .agg vs _ (by rw[Cb,amS];exact hl) (fR vs cs ih)
 |aQ vs cs hl _ ih=>rw[AV.eB];exact .aQ vs _ (by rw[Cb,amS];exact hl) (fR vs cs ih)
 |fn f vs cs hl _ ih=>rw[AV.eB];exact .fn f vs _ (by rw[Cb,amS];exact hl) (fR vs cs ih)
 |ptr n off h=>
  rw[AV.eB,cond_eq_ite];split
  ·next e=>rw[beq_iff_eq]at e;subst e;exact hp off
  ·exact keep (.ptr n off h)
 |own n xs h hp hle hf=>simp only[AV.eB];exact keep (.own n xs h hp hle hf)
 |d h=>simp only[AV.eB];exact keep (.d h)
 |ba xs i off b o u x hx hS hu=>simp only[AV.eB];exact keep (.ba xs i off b o u x hx hS hu)
 |full xs hp hf=>simp only[AV.eB];exact keep (.full xs hp hf)
 |row n off len cap k h hl hm=>simp only[AV.eB];exact keep (.row n off len cap k h hl hm)
 |mp n h=>simp only[AV.eB];exact keep (.mp n h)
 |cF n h=>simp only[AV.eB];exact keep (.cF n h)
 |vec n o len L k h hs hL hf=>simp only[AV.eB];exact keep (.vec n o len L k h hs hL hf)
 |db n i j L k h hs hL hf=>simp only[AV.eB];exact keep (.db n i j L k h hs hL hf)
 |hid h h1=>simp only[AV.eB];exact keep (.hid h h1)
 |dead u=>simp only[AV.eB];exact .dead u
theorem WW:∀(cs:anD AV)(ds:anD D),mJ cs=some ds->cs.length=ds.length/\∀(i:Nat)(c:AV)(d:D),cs[i]?=some c->ds[i]?=some d->c.xm=some d
 |[],ds,h=>by unfold mJ at h;cases h;exact⟨rfl,λi c d hc=>by simp at hc⟩
 |x::cs,ds,h=>by
  unfold mJ at h;split at h
  ·next d l e1 e2=>
   cases h
   obtain⟨h1,h2⟩:=WW cs l e2;refine⟨by simp [h1],λi c d' hc hd=> ?_⟩
   match i with
   |0=>simp only[List.getElem?_cons_zero,Option.some.injEq]at hc hd;subst hc;subst hd;exact e1
   |i+1=>exact h2 i c d' (by simpa using hc) (by simpa using hd)
  ·cases h
theorem aE.aeq{G:Gh}{w:anI}{u:anH}{x:AV}{d:D}(h:aE G w u x)(hd:x.xm=some d):cX G.S w u d:=by
 cases h with
 |d h=>cases hd;exact h.vn
 |own n xs h hp=>cases hd;exact hp
 |full xs hp=>cases hd;exact hp
 |_=>cases hd
theorem cx.A6{G:Gh}{w:anI}{a:Act}{s s':St}{b:Nat}(hs:cx G w a s)(h:A6 s b=some s'):∃G',bx G.N G w G' w/\G'.N=G.N/\cx G' w a s':=by
 unfold Go.Proofs.YtfdhojiehjfghaaGreatDoor.A6 at h;split at h
 ·next cs hb=>
  split at h
  ·next ds qD=>
   cases h
   obtain⟨z1,z2,vs,T,z3,z4,z5⟩:=hs.inv.cT b _ hb;obtain⟨d1,d2⟩:=WW cs ds qD;have lS:bz s.h G b=some (G.aI b):=di hb;obtain⟨S,hS⟩:∃S:Nat->Nat->Prop,S=λb' o=>G.S b' o\/(b'=G.aI b/\o<ds.length):=⟨_,rfl⟩;have hE:bx G.N G w {G with S:=S} w:=⟨amY _,λb o h=>by show S b o;rw[hS];exact .inl h,λ_ _ _=>rfl,λ_ _=>rfl,λ_ _=> .inl ⟨rfl,rfl⟩,gV rfl,λ_ _=>rfl,rfl,rfl,rfl,λb' o hs=>by
    have bP:S b' o:=hs;rw[hS]at bP;rcases bP with h|⟨rfl,_⟩
    ·exact .inl h
    ·exact .inr z1⟩
   have hp:∀off,aE {G with S:=S} w (.pointer (some ⟨G.aI b,off,none⟩)) (.ba [ds] 0 off):=λoff=>by
    have:=aE.ba (G:={G with S:=S}) (w:=w) [ds] 0 off (G.aI b) 0 (λj=>vs.getD j undef) ds rfl (λj hj=> ?_) (λj d hd=> ?_)
    ·rwa [am7]at this
    ·have iy:j<vs.size:=by rw[z4,d1];exact hj
     refine⟨by show S _ _;rw[hS];exact .inr ⟨rfl,by rw[am7];exact hj⟩,?_⟩;rw[am7,cell_of_row w (G.aI b) j vs T (0,0) z3];simp [Array.getD,iy]
    ·have hj:j<ds.length:=(amN.1 hd).1;have iy:j<vs.size:=by rw[z4,d1];exact hj
     have hc:cs[j]?=some cs[j]:=amR (by rw[d1];exact hj);have hv:=z5 j vs[j] _ (am9 iy) hc;have e:vs.getD j undef=vs[j]:=by simp [Array.getD,iy]
     rw[e];exact(hv.aeq (d2 j _ d hc hd)).keep hE.S hE.cell
   have hv:∀{u:anH}{x:AV},aE G w u x->aE {G with S:=S} w u (x.eB b ds):=λh=>h.eB hE rfl hp;have afO:=(amN.1 hb).1;have dW:∀(n:Nat)(B:ao),((s.h.map (ao.eB b ds)).set b .gone)[n]?=some B->(n=b/\B= .gone)\/(n≠b/\∃B',s.h[n]?=some B'/\B=B'.eB b ds):=λn B hB=>by
    by_cases e:b=n
    ·subst e;rw[anh (by rw[amS];exact afO)]at hB;cases hB;exact .inl ⟨rfl,rfl⟩
    ·rw[anm e,amU]at hB;cases hx:s.h[n]? with
     |none=>rw[hx]at hB;cases hB
     |some B'=>rw[hx]at hB;cases hB;exact .inr ⟨λh=>e h.symm,B',rfl,rfl⟩
   have dP:∀n x,bz ((s.h.map (ao.eB b ds)).set b .gone) {G with S:=S} n=some x->n≠b/\bz s.h G n=some x:=λn x hx=>by
    obtain⟨B,hn,hx⟩:=oB hx;rcases dW n _ hn with⟨_,e⟩|⟨ck,B',h1,rfl⟩
    ·subst e;cases hx
    ·refine⟨ck,?_⟩;rw[di h1,<-hx];cases B'<;>rfl
   refine⟨{G with S:=S},hE,rfl,hs.size,λi=> ?_,⟨by rw[List.length_set,amS];exact hs.inv.len,hs.inv.z,λb' o h=> ?_,λn B hB=> ?_,λm n x h1 h2=>hs.inv.inj m n x (dP m x h1).2 (dP n x h2).2,hs.inv.gl.keep hE⟩,hs.df⟩
   ·show aE _ _ _ (aY (s.t.map λp=>(p.1,p.2.eB b ds)) i);rw[IV (AV.eB b ds) (by simp [AV.eB])];exact hv (hs.tmp i)
   ·have bP:S b' o:=h;rw[hS]at bP;rcases bP with h|⟨rfl,_⟩
    ·exact hs.inv.S b' o h
    ·exact(am2.1 z3).1
   ·rcases dW n B hB with⟨rfl,rfl⟩|⟨ck,B',h1,rfl⟩
    ·trivial
    ·have dk:=hs.inv.cT n B' h1;cases B' with
     |gone=>trivial
     |map kv=>exact dB.keep (G':={G with S:=S}) (hs.inv.lt h1) hE (amY _) ⟨rfl,rfl,rfl⟩ (λc hc=>⟨rfl,λo ji hq=>by
      have bP:S c o:=hq;rw[hS]at bP;rcases bP with h|⟨e,_⟩
      ·exact ji h
      ·exact ck (hs.inv.inj n b _ ((di h1).trans hc) (by rw[e];exact lS))⟩) dk
     |iI kv=>exact dB.keep (G':={G with S:=S}) (hs.inv.lt h1) hE (amY _) ⟨rfl,rfl,rfl⟩ (λc hc=>⟨rfl,λo ji hq=>by
      have bP:S c o:=hq;rw[hS]at bP;rcases bP with h|⟨e,_⟩
      ·exact ji h
      ·exact ck (hs.inv.inj n b _ ((di h1).trans hc) (by rw[e];exact lS))⟩) dk
     |front e k len=>exact dB.keep (G':={G with S:=S}) (hs.inv.lt h1) hE (amY _) ⟨rfl,rfl,rfl⟩ (λc hc=>⟨rfl,λo ji hq=>by
      have bP:S c o:=hq;rw[hS]at bP;rcases bP with h|⟨e,_⟩
      ·exact ji h
      ·exact ck (hs.inv.inj n b _ ((di h1).trans hc) (by rw[e];exact lS))⟩) dk
     |byt e b2=>exact dB.keep (G':={G with S:=S}) (hs.inv.lt h1) hE (amY _) ⟨rfl,rfl,rfl⟩ (λc hc=>⟨rfl,λo ji hq=>by
      have bP:S c o:=hq;rw[hS]at bP;rcases bP with h|⟨e,_⟩
      ·exact ji h
      ·exact ck (hs.inv.inj n b _ ((di h1).trans hc) (by rw[e];exact lS))⟩) dk
     |cells bV=>
      obtain⟨c1,c2,fu,T',c3,c4,c5⟩:=dk;have k8:bz s.h G n=some (G.aI n):=di h1;refine⟨c1,λo hq=> ?_,fu,T',c3,by rw[amS];exact c4,λi u c hu hc=> ?_⟩
      ·have bP:S (G.aI n) o:=hq;rw[hS]at bP;rcases bP with h|⟨e,_⟩
       ·exact c2 o h
       ·exact ck (hs.inv.inj n b _ k8 (by rw[e];exact lS))
      ·rw[amU]at hc;cases hx:bV[i]? with
       |none=>rw[hx]at hc;cases hc
       |some x=>rw[hx]at hc;cases hc;exact hv (c5 i u x hu hx)
     |lp ls p as bd bV=>
      obtain⟨c1,c2,fn,fu,T',c3,c4,c5⟩:=dk;have k8:bz s.h G n=some (G.aI n):=di h1;refine⟨c1,λo hq=> ?_,fn,fu,T',c3,by rw[amS];exact c4,λi u c hu hc=> ?_⟩
      ·have bP:S (G.aI n) o:=hq;rw[hS]at bP;rcases bP with h|⟨e,_⟩
       ·exact c2 o h
       ·exact ck (hs.inv.inj n b _ k8 (by rw[e];exact lS))
      ·rw[amU]at hc;cases hx:bV[i]? with
       |none=>rw[hx]at hc;cases hc
       |some x=>rw[hx]at hc;cases hc;exact hv (c5 i u x hu hx)
     |it sn bV=>
      obtain⟨c1,c2,fn,fu,T',c3,c4,c5⟩:=dk;have k8:bz s.h G n=some (G.aI n):=di h1;refine⟨c1,λo hq=> ?_,fn,fu,T',c3,by rw[amS];exact c4,λi u c hu hc=> ?_⟩
      ·have bP:S (G.aI n) o:=hq;rw[hS]at bP;rcases bP with h|⟨e,_⟩
       ·exact c2 o h
       ·exact ck (hs.inv.inj n b _ k8 (by rw[e];exact lS))
      ·rw[amU]at hc;cases hx:bV[i]? with
       |none=>rw[hx]at hc;cases hc
       |some x=>rw[hx]at hc;cases hc;exact hv (c5 i u x hu hx)
     |dM T0 bV=>
      obtain⟨c1,c2,fn,fu,T',c3,c4,c5⟩:=dk;have k8:bz s.h G n=some (G.aI n):=di h1;refine⟨c1,λo hq=> ?_,fn,fu,T',c3,by rw[amS];exact c4,λi u c hu hc=> ?_⟩
      ·have bP:S (G.aI n) o:=hq;rw[hS]at bP;rcases bP with h|⟨e,_⟩
       ·exact c2 o h
       ·exact ck (hs.inv.inj n b _ k8 (by rw[e];exact lS))
      ·rw[amU]at hc;cases hx:bV[i]? with
       |none=>rw[hx]at hc;cases hc
       |some x=>rw[hx]at hc;cases hc;exact hv (c5 i u x hu hx)
     |vec e k bV=>
      obtain⟨c1,c2,c3,c4⟩:=dk;refine⟨by rw[amS];exact c1,by rw[amS];exact c2,λc hc=> ?_,?_⟩
      ·obtain⟨x,hx,rfl⟩:=List.mem_map.1 hc;rw[amS];exact c3 x hx
      ·rcases c4 with⟨d1,d2,A,d3⟩|⟨g,cap,cur,d1,d2,d3,d4,d5,d6,d7,d8,d9⟩
       ·exact .inl ⟨d1,by rw[d2];rfl,A,d3⟩
       ·have k8:bz s.h G n=some g:=(di h1).trans d1;refine .inr ⟨g,cap,cur,d1,by rw[amS];exact d2,d3,d4,by rw[amS];exact d5,d6,d7,λo hq=> ?_,λi j c x u hc hx hu=> ?_⟩
        ·have bP:S g o:=hq;rw[hS]at bP;rcases bP with h|⟨e,_⟩
         ·exact d8 o h
         ·exact ck (hs.inv.inj n b _ k8 (by rw[e];exact lS))
        ·rw[amU]at hc;cases hy:bV[i]? with
         |none=>rw[hy]at hc;cases hc
         |some y=>
          rw[hy]at hc;cases hc
          rw[amU]at hx;cases hw:y[j]? with
          |none=>rw[hw]at hx;cases hx
          |some z=>rw[hw]at hx;cases hx;exact hv (d9 i j y z u hy hw hu)
  ·cases h
 ·cases h
def D.zA:D->Bool
 | .v u=>u.oneCell'
 | .sl _=>true
 | .ag _=>false
mutual
def AV.kill(b:Nat):AV->AV
 | .vec n o len L k=>bif n==b then .dead else .vec n o len L k
 | .db n i j L k=>bif n==b then .dead else .db n i j L k
 | .agg cs=> .agg (AV.J9 b cs)
 | .aQ cs=> .aQ (AV.J9 b cs)
 | .fn f cs=> .fn f (AV.J9 b cs)
 |x=>x
def AV.J9(b:Nat):anD AV->anD AV
 |[]=>[]
 |x::l=>x.kill b::AV.J9 b l
end
def ao.lC(f:AV->AV):ao->ao
 | .cells cs=> .cells (cs.map f)
 | .lp ls p as bd cs=> .lp ls p as bd (cs.map f)
 | .it sn cs=> .it sn (cs.map f)
 | .dM T cs=> .dM T (cs.map f)
 | .vec e k cs=> .vec e k (cs.map (·.map f))
 |B=>B
theorem akQ{G:Gh}{w:anI}{h:anD ao}(hi:bC G w h){b:Nat}{S:Nat->Nat->Prop}{f:AV->AV}(hE:bx G.N G w {G with S:=S} w)(hS:∀c o,S c o->G.S c o\/bz h G b=some c)(hv:∀{u:anH}{x:AV},aE G w u x->aE {G with S:=S} w u (f x)):
 bC {G with S:=S} w ((h.map (ao.lC f)).set b .gone):=by
 have dW:∀(n:Nat)(B:ao),((h.map (ao.lC f)).set b .gone)[n]?=some B->(n=b/\B= .gone)\/(n≠b/\∃B',h[n]?=some B'/\B=B'.lC f):=λn B hB=>by
  by_cases e:b=n
  ·subst e;have aJ:=(amN.1 hB).1;rw[List.length_set]at aJ;rw[anh aJ]at hB;cases hB;exact .inl ⟨rfl,rfl⟩
  ·rw[anm e,amU]at hB;cases hx:h[n]? with
   |none=>rw[hx]at hB;cases hB
   |some B'=>rw[hx]at hB;cases hB;exact .inr ⟨λh=>e h.symm,B',rfl,rfl⟩
 have dP:∀n x,bz ((h.map (ao.lC f)).set b .gone) {G with S:=S} n=some x->n≠b/\bz h G n=some x:=λn x hx=>by
  obtain⟨B,hn,hx⟩:=oB hx;rcases dW n _ hn with⟨_,e⟩|⟨ck,B',h1,rfl⟩
  ·subst e;cases hx
  ·refine⟨ck,?_⟩;rw[di h1,<-hx];cases B'<;>rfl
 refine⟨by rw[List.length_set,amS];exact hi.len,hi.z,λc o hs=> ?_,λn B hB=> ?_,λm n x h1 h2=>hi.inj m n x (dP m x h1).2 (dP n x h2).2,hi.gl.keep hE⟩
 ·rcases hS c o hs with h1|h1
  ·exact hi.S c o h1
  ·exact hi.gr h1
 ·rcases dW n B hB with⟨rfl,rfl⟩|⟨ck,B',h1,rfl⟩
  ·trivial
  ·have dk:=hi.cT n B' h1;have fk:∀c,B'.dw G n=some c->∀o,¬G.S c o->¬S c o:=λc hc o ji hq=>by
    rcases hS c o hq with h2|h2
    ·exact ji h2
    ·exact ck (hi.inj n b c ((di h1).trans hc) h2)
   cases B' with
   |gone=>trivial
   |map kv=>exact dB.keep (G':={G with S:=S}) (hi.lt h1) hE (amY _) ⟨rfl,rfl,rfl⟩ (λc hc=>⟨rfl,fk c hc⟩) dk
   |iI kv=>exact dB.keep (G':={G with S:=S}) (hi.lt h1) hE (amY _) ⟨rfl,rfl,rfl⟩ (λc hc=>⟨rfl,fk c hc⟩) dk
   |front e k len=>exact dB.keep (G':={G with S:=S}) (hi.lt h1) hE (amY _) ⟨rfl,rfl,rfl⟩ (λc hc=>⟨rfl,fk c hc⟩) dk
   |byt e b2=>exact dB.keep (G':={G with S:=S}) (hi.lt h1) hE (amY _) ⟨rfl,rfl,rfl⟩ (λc hc=>⟨rfl,fk c hc⟩) dk
   |cells bV=>
    obtain⟨c1,c2,fu,T',c3,c4,c5⟩:=dk;refine⟨c1,λo=>fk _ rfl o (c2 o),fu,T',c3,by rw[amS];exact c4,λi u c hu hc=> ?_⟩;rw[amU]at hc;cases hx:bV[i]? with
    |none=>rw[hx]at hc;cases hc
    |some x=>rw[hx]at hc;cases hc;exact hv (c5 i u x hu hx)
   |lp ls p as bd bV=>
    obtain⟨c1,c2,fn,fu,T',c3,c4,c5⟩:=dk;refine⟨c1,λo=>fk _ rfl o (c2 o),fn,fu,T',c3,by rw[amS];exact c4,λi u c hu hc=> ?_⟩;rw[amU]at hc;cases hx:bV[i]? with
    |none=>rw[hx]at hc;cases hc
    |some x=>rw[hx]at hc;cases hc;exact hv (c5 i u x hu hx)
   |it sn bV=>
    obtain⟨c1,c2,fn,fu,T',c3,c4,c5⟩:=dk;refine⟨c1,λo=>fk _ rfl o (c2 o),fn,fu,T',c3,by rw[amS];exact c4,λi u c hu hc=> ?_⟩;rw[amU]at hc;cases hx:bV[i]? with
    |none=>rw[hx]at hc;cases hc
    |some x=>rw[hx]at hc;cases hc;exact hv (c5 i u x hu hx)
   |dM T0 bV=>
    obtain⟨c1,c2,fn,fu,T',c3,c4,c5⟩:=dk;refine⟨c1,λo=>fk _ rfl o (c2 o),fn,fu,T',c3,by rw[amS];exact c4,λi u c hu hc=> ?_⟩;rw[amU]at hc;cases hx:bV[i]? with
    |none=>rw[hx]at hc;cases hc
    |some x=>rw[hx]at hc;cases hc;exact hv (c5 i u x hu hx)
   |vec e k bV=>
    obtain⟨c1,c2,c3,c4⟩:=dk;refine⟨by rw[amS];exact c1,by rw[amS];exact c2,λc hc=> ?_,?_⟩
    ·obtain⟨x,hx,rfl⟩:=List.mem_map.1 hc;rw[amS];exact c3 x hx
    ·rcases c4 with⟨d1,d2,A,d3⟩|⟨g,cap,cur,d1,d2,d3,d4,d5,d6,d7,d8,d9⟩
     ·exact .inl ⟨d1,by rw[d2];rfl,A,d3⟩
     ·refine .inr ⟨g,cap,cur,d1,by rw[amS];exact d2,d3,d4,by rw[amS];exact d5,d6,d7,λo=>fk g d1 o (d8 o),λi j c x u hc hx hu=> ?_⟩;rw[amU]at hc;cases hy:bV[i]? with
      |none=>rw[hy]at hc;cases hc
      |some y=>
       rw[hy]at hc;cases hc
       rw[amU]at hx;cases hw:y[j]? with
       |none=>rw[hw]at hx;cases hx
       |some z=>rw[hw]at hx;cases hx;exact hv (d9 i j y z u hy hw hu)
mutual
def AV.cG(b kk:Nat)(xs:anD (anD D)):AV->AV
 | .vec n o len L k=>bif n==b then(bif L==xs.length&&k==kk then .d (.sl ((xs.drop o).take len))else .dead)else .vec n o len L k
 | .db n i j L k=>bif n==b then .dead else .db n i j L k
 | .agg cs=> .agg (AV.oK b kk xs cs)
 | .aQ cs=> .aQ (AV.oK b kk xs cs)
 | .fn f cs=> .fn f (AV.oK b kk xs cs)
 |x=>x
def AV.oK(b kk:Nat)(xs:anD (anD D)):anD AV->anD AV
 |[]=>[]
 |x::l=>x.cG b kk xs::AV.oK b kk xs l
end
theorem sk(b kk:Nat)(xs:anD (anD D)):∀l,AV.oK b kk xs l=l.map (AV.cG b kk xs)
 |[]=>by simp [AV.oK]
 |x::l=>by simp [AV.oK,sk b kk xs l]
theorem aE.cG{G G':Gh}{w:anI}{b kk:Nat}{xs:anD (anD D)}(hE:bx G.N G w G' w)(hN:G'.N=G.N)(hp:∀(u:anH)(o len:Nat),aE G w u (.vec b o len xs.length kk)->cX G'.S w u (.sl ((xs.drop o).take len))){u:anH}{x:AV}(h:aE G w u x):aE G' w u (x.cG b kk xs):=by
 have keep:∀{u:anH}{x:AV},aE G w u x->aE G' w u x:=λh=>h.keep hE (Nat.le_of_eq hN.symm);have fR:∀(vs:Array anH)(cs:anD AV),(∀(i:Nat)(u:anH)(c:AV),vs[i]?=some u->cs[i]?=some c->aE G' w u (c.cG b kk xs))->∀(i:Nat)(u:anH)(c:AV),vs[i]?=some u->(AV.oK b kk xs cs)[i]?=some c->aE G' w u c:=by
  intro vs cs ih i u c hu hc;rw[sk,amU]at hc;cases hx:cs[i]? with
  |none=>rw[hx]at hc;cases hc
  |some x=>rw[hx]at hc;cases hc;exact ih i u x hu hx
 induction h with
 |agg vs cs hl _ ih=>rw[AV.cG];exact .agg vs _ (by rw[sk,amS];exact hl) (fR vs cs ih)
 |aQ vs cs hl _ ih=>rw[AV.cG];exact .aQ vs _ (by rw[sk,amS];exact hl) (fR vs cs ih)
 |fn f vs cs hl _ ih=>rw[AV.cG];exact .fn f vs _ (by rw[sk,amS];exact hl) (fR vs cs ih)
 |vec n o len L k h hs hL hf=>
  rw[AV.cG,cond_eq_ite];split
  ·next e=>
   have e:n=b:=by simpa using e
   subst e;rw[cond_eq_ite];split
   ·next e2=>
    rw[amP,beq_iff_eq,beq_iff_eq]at e2;obtain⟨rfl,rfl⟩:=e2;exact .d (hp _ o len (.vec n o len _ _ h hs hL hf))
   ·exact .dead _
  ·exact keep (.vec n o len L k h hs hL hf)
 |db n i j L k h hs hL hf=>
  rw[AV.cG,cond_eq_ite];split
  ·exact .dead _
  ·exact keep (.db n i j L k h hs hL hf)
 |ptr n off h=>simp only[AV.cG];exact keep (.ptr n off h)
 |own n xs h hp hle hf=>simp only[AV.cG];exact keep (.own n xs h hp hle hf)
 |d h=>simp only[AV.cG];exact keep (.d h)
 |ba xs i off b o u x hx hS hu=>simp only[AV.cG];exact keep (.ba xs i off b o u x hx hS hu)
 |full xs hp hf=>simp only[AV.cG];exact keep (.full xs hp hf)
 |row n off len cap k h hl hm=>simp only[AV.cG];exact keep (.row n off len cap k h hl hm)
 |mp n h=>simp only[AV.cG];exact keep (.mp n h)
 |cF n h=>simp only[AV.cG];exact keep (.cF n h)
 |hid h h1=>simp only[AV.cG];exact keep (.hid h h1)
 |dead u=>simp only[AV.cG];exact .dead u
theorem cx.Yu{G:Gh}{w:anI}{a:Act}{s:St}(hs:cx G w a s)(xs:anD (anD D)){b e k:Nat}(hb:s.h[b]?=some (.vec e k (bG xs)))(iO:∀c∈xs,c.all D.zA=true)
 :∃G',bx G.N G w G' w/\G'.N=G.N/\cx G' w a ⟨s.n,s.t.map λp=>(p.1,p.2.cG b k xs),(s.h.map (ao.lC (AV.cG b k xs))).set b .gone⟩:=by
 obtain⟨L,hL⟩:∃L,xs.length=L:=⟨_,rfl⟩;have EC:(bG xs).length=L:=by unfold bG;rw[amS];exact hL
 have iR:=B6 hs.inv hb;have nI:∀d∈xs,d.length=k:=λd hd=>by
  have:=iR (d.map .d) (by unfold bG;exact List.mem_map.2 ⟨d,hd,rfl⟩)
  rwa [amS]at this
 obtain⟨S,hS⟩:∃S:Nat->Nat->Prop,S=λc o=>G.S c o\/(bz s.h G b=some c/\o<L*k):=⟨_,rfl⟩;have hE:bx G.N G w {G with S:=S} w:=⟨amY _,λb o h=>by show S b o;rw[hS];exact .inl h,λ_ _ _=>rfl,λ_ _=>rfl,λ_ _=> .inl ⟨rfl,rfl⟩,gV rfl,λ_ _=>rfl,rfl,rfl,rfl,λc o hq=>by
  have bP:S c o:=hq;rw[hS]at bP;rcases bP with h|⟨h,_⟩
  ·exact .inl h
  ·obtain⟨B,hB,eI⟩:=oB h;exact .inr ((hs.inv.cT b B hB).kW eI)⟩
 have Tl:∀(u:anH)(o len:Nat),aE G w u (.vec b o len xs.length k)->cX S w u (.sl ((xs.drop o).take len)):=λu o len rh=>by
  rw[hL]at rh;have lh:=rh.y4 hs.inv hb EC;obtain⟨Il,⟨A,cc,q1,q2,q3,q4,q5⟩,_⟩:=lh;generalize hy:(xs.drop o).take len=ys;have wZ:ys.length=len:=by rw[<-hy,List.length_take,List.length_drop];omega
  rw[q1,<-wZ];show cX S w _ _;by_cases hh0:True
  ·skip
   by_cases h0:len=0
   ·have:ys=[]:=List.eq_nil_of_length_eq_zero (by omega);subst this;exact .sl A 0 0 cc 0 [] (λ_ _=>undef) (λh=>absurd rfl h) (Nat.zero_le _) q3 (λ_ h=>absurd h anu) (λi j hi=>absurd hi (ang _)) (λi j x d hx=>by simp at hx)
   ·obtain⟨g,cap,s1,rfl,s3⟩:=q5 (by omega);obtain⟨g',KW,cur,r1,r2,r3,r4,r5,r6,r7,r8,r9⟩:=HM hs.inv hb (λe=>by rw[e]at EC;simp at EC;omega);rw[r2]at s1;cases s1
    have lS:bz s.h G b=some g:=(di hb).trans r1;have kX:∀i,i<len->ys[i]?=xs[o+i]?:=λi dx=>by rw[<-hy,List.getElem?_take_of_lt dx,List.getElem?_drop]
    have ie:∀i j,i<len->j<k->o*k+i*k+j<cur.size:=λi j hi hj=>by
     have:=m3 (i:=o+i) (k:=k) (L:=(bG xs).length) (j:=j) (by omega) hj;rw[Nat.add_mul]at this;have h2:(bG xs).length*k<=cap*k:=Nat.mul_le_mul_right k (by omega);rw[r7];omega
    have mr:∀(i j:Nat)(x:anD D)(d:D),i<len->ys[i]?=some x->x[j]?=some d->aE G w (cur.getD (o*k+i*k+j) undef) (.d d):=λi j x d hi hx hd=>by
     rw[kX i hi]at hx;have hj:j<k:=by rw[<-nI x (am0 hx)];exact(amN.1 hd).1
     refine r9 (o+i) j (x.map .d) (.d d) _ (by unfold bG;rw[amU,hx];rfl) (by rw[amU,hd];rfl) ?_;have hc:=ie i j hi hj;rw[show(o+i)*k+j=o*k+i*k+j by rw[Nat.add_mul]];simp [Array.getD,hc]
    refine .sl _ g (o*k) cc k ys (λi j=>cur.getD (o*k+i*k+j) undef) (λ_=>rfl) (by omega) q3 (λx hx=> ?_) (λi j hi hj=>⟨?_,?_,?_⟩) (λi j x d hx hd=> ?_)
    ·rw[<-hy]at hx;exact nI x (List.mem_of_mem_drop (List.mem_of_mem_take hx))
    ·rw[hS];refine .inr ⟨lS,?_⟩;have:=m3 (i:=o+i) (k:=k) (L:=(bG xs).length) (j:=j) (by omega) hj;rw[Nat.add_mul]at this;exact this
    ·rw[cell_of_row w g _ cur e (0,0) r4];have hc:=ie i j (by omega) hj;simp [Array.getD,hc]
    ·have dx:i<len:=by omega
     obtain⟨x,hx⟩:∃x,ys[i]?=some x:=⟨_,amR hi⟩;have tM:=hx;rw[kX i dx]at tM;have mN:=am0 tM;obtain⟨d,hd⟩:∃d,x[j]?=some d:=⟨_,amR (by rw[nI x mN];exact hj)⟩;refine(mr i j x d dx hx hd).jV ?_;have h1:=iO x mN;rw[ane]at h1;have h2:=h1 d (am0 hd);cases d with
     |v u=>exact h2
     |sl l=>rfl
     |ag l=>exact absurd h2 Bool.false_ne_true
    ·have dx:i<len:=by rw[<-wZ];exact(amN.1 hx).1
     have:=mr i j x d dx hx hd;generalize cur.getD (o*k+i*k+j) undef=q at this;cases this with|d h=>exact h.keep hE.S hE.cell
  ·exact(hh0 trivial).elim
 have hinv:=akQ (b:=b) (f:=AV.cG b k xs) hs.inv hE (λc o hq=>by rw[hS]at hq;exact hq.imp id And.left) (λhq=>hq.cG hE rfl Tl);have bP:cx {G with S:=S} w a ⟨s.n,s.t.map λp=>(p.1,p.2.cG b k xs),(s.h.map (ao.lC (AV.cG b k xs))).set b .gone⟩:=by
  refine⟨hs.size,λi=> ?_,hinv,hs.df⟩;show aE _ _ _ (aY (s.t.map λp=>(p.1,p.2.cG b k xs)) i);rw[IV (AV.cG b k xs) (by simp [AV.cG])];exact(hs.tmp i).cG hE rfl Tl
 exact⟨_,hE,rfl,bP⟩
def xH(P:anG)(rs:anD ResultVar)(m:Nat)(s:St):anF (AV×anD ao):=
 match sK P s rs with
 |some l=>bif bS m s.h.length&&((jt l).aV m).aH m&&(((s.h.take m).map (ao.aV m)).all (ao.aH m))then some (((jt l).aV m).nrm,((s.h.take m).map (ao.aV m)).map ao.py)else none
 |none=>none
def vo(P:anG)(fn:Func)(m:Nat)(R:AV)(H:anD ao):Exit->St->Prop
 | .normal,s=>xH P fn.results.toList m s=some (R,H)
 | .ret,s=>xH P fn.results.toList m s=some (R,H)
 |_,_=>False
theorem XS{P:anG}{s:St}{fn:Func}{m:Nat}{R:AV}{H:anD ao}(h:xH P fn.results.toList m s=some (R,H)):qG P fn m (λr h'=>r.nrm=R/\h'.map ao.py=H) s:=by
 unfold xH at h;split at h
 ·next l e=>
  obtain⟨hb,he⟩:=dF h;cases he
  simp only[amP,dy]at hb;exact Es _ _ _ e ⟨hb.1.1,hb.1.2,hb.2,rfl,rfl⟩
 ·cases h
theorem m5{P:anG}{s:St}{fn:Func}{m:Nat}{R:AV}{H:anD ao}(h:xH P fn.results.toList m s=some (R,H)):vo P fn m R H .ret s:=h
theorem zD{P:anG}{f:FuncId}{fn:Func}{c:Code}{args:anD AV}{h H:anD ao}{R:AV}(m:Nat)(hf:P.funcs[f]?=some fn)(hb:fn.body=some c)(hn:(fn.name== "runtime.NumGoroutine")=false)(hm:h.length<=m)
 (hw:bj P none h.length c (vo P fn m R H) {n:=args.length+(fn.ntmps-args.length),t:=lk 0 args,h:=h}):cp P f args h λr1 h1=>r1=R/\h1=H:=by
 have h0:=Ax (P:=P) (f:=f) (args:=args) (h:=h) (K:=λr h'=>r.nrm=R/\h'.map ao.py=H) m hf hb hn hm (hw.mono λe s hq=>by
  cases e with
  |normal=>exact XS hq
  |ret=>exact XS hq
  |_=>exact hq.elim)
 refine⟨h0.1,λG w vs hi hl hr=>(h0.2 G w vs hi hl hr).mono λe w' hp=> ?_⟩;obtain⟨v,G',x,h',rfl,hE,hN,dx,hv,rfl,rfl⟩:=hp;exact⟨v,G',x.nrm,_,rfl,hE,hN,QK dx,hv.nrm,rfl,rfl⟩
theorem w9{P:anG}{r:anF Nat}{N0:Nat}{c:Code}{s s':St}{Q:Exit->St->Prop}(e:s=s')(h:bj P r N0 c Q s'):bj P r N0 c Q s:=e▸h
def nk{V:Type}:anD (anE×V)->anE->V->V
 |[],_,d=>d
 |(k,v)::l,s,d=>bif bL k==bL s then v else nk l s d
def mO{V:Type}:anD (anE×V)->anE->Bool
 |[],_=>false
 |(k,_)::l,s=>bif bL k==bL s then true else mO l s
theorem U8{V:Type}(f:V->D):∀(l:anD (anE×V))(s:anE)(d:V),lQ (l.map λp=>(p.1,f p.2)) s=bif mO l s then some (f (nk l s d))else none
 |[],s,d=>rfl
 |(k,v)::l,s,d=>by
  simp only[anc,lQ,mO,nk];cases bL k==bL s with
  |true=>rfl
  |false=>simp only[cond_false];exact U8 f l s d
theorem U9{V:Type}:∀(l:anD (anE×V))(s:anE)(d:V),mO l s=false->nk l s d=d
 |[],s,d,_=>rfl
 |(k,v)::l,s,d,h=>by
  unfold mO at h;unfold nk;cases e:bL k==bL s with
  |true=>rw[e]at h;cases h
  |false=>rw[e]at h;simp only[cond_false];exact U9 l s d h
theorem aiB{V:Type}(f:V->D)(F:V->AV)(hF:∀x,FM (f x)=F x)(z:anH)(d0:V)(hz:y9 z=F d0)(ok:Bool)(l:anD (anE×V))(s:anE):
 ua ok z (lQ (l.map λp=>(p.1,f p.2)) s)=bif ok then .aQ [F (nk l s d0), .d (.v (.bool (mO l s)))]else F (nk l s d0):=by
 rw[U8 f l s d0];cases e:mO l s with
 |true=>cases ok<;>simp only[ua,cond_true,cond_false,hF]
 |false=>rw[U9 l s d0 e];cases ok<;>simp only[ua,cond_true,cond_false,hz]
def bU{α:Type}(f:α->anD D)(l:anD (anE×α)):anD (anE×D):=l.map λp=>(p.1, .ag (f p.2))
theorem ahh{α:Type}(f:α->anD D)(z:anH)(d0:α)(hz:y9 z= .agg ((f d0).map .d))(ok:Bool)(l:anD (anE×α))(s:anE):
 ua ok z (lQ (bU f l) s)=bif ok then .aQ [.agg ((f (nk l s d0)).map .d), .d (.v (.bool (mO l s)))]else .agg ((f (nk l s d0)).map .d):=
 aiB (λx=> .ag (f x)) (λx=> .agg ((f x).map .d)) (λ_=>rfl) _ d0 hz ok l s
theorem afU{α:Type}{f:α->anD D}{l:anD (anE×α)}(h:Nat.blt l.length 9223372036854775807=true):(Sd.lt (bU f l).length).ok:=by
 unfold bU;rw[amS];exact amV h
def gI(g:Nat):anD Int:=((Aa zn g).getD []).map λv=>match v with| .int _ n=>n|_=>0
def aho(l:anD Int):anE:=⟨(l.map λn=>UInt8.ofNat n.toNat).toArray⟩
theorem al8{α:Type}{c:Bool}{x y z:α}(h:(bif c then x else y)=z):(c=true/\x=z)\/(c=false/\y=z):=by
 cases c with
 |true=>exact .inl ⟨rfl,h⟩
 |false=>exact .inr ⟨rfl,h⟩
inductive HD
 |same
 |push (B:ao)
 |set (n:Nat) (B:ao)
def HD.app:HD->anD ao->anD ao
 | .same,h=>h
 | .push B,h=>h++[B]
 | .set n B,h=>h.set n B
def zN:Int->anF Nat
 | .ofNat n=>some n
 | .negSucc _=>none
theorem E3{z:Int}{n:Nat}(h:zN z=some n):0<=z/\z.toNat=n:=by
 cases z with
 |ofNat m=>cases h;exact⟨Int.natCast_nonneg _,rfl⟩
 |negSucc m=>cases h
def vi(ρ:Operand->AV)(d:Nat):anF Operand->anF Nat
 |none=>some d
 |some y=>match (ρ y).int? with
  |some z=>zN z
  |none=>none
def DS(k:Nat)(xs:anD (anD D)):Bool:=xs.all λc=>c.length==k
def IB(P:anG)(T:TypeId)(x i:AV):anF AV:=
 match dQ P T with
 |some (_,k)=>match x with
  | .row n off len _ k'=>match i.int? with
    |some z=>match zN z with
     |some q=>bif k'==k&&bS (q+1) len then some (.ptr n (off+q*k))else none
     |none=>none
    |none=>none
  |x=>match x.eY,i.int? with
   |some xs,some z=>match zN z with
    |some q=>match xs[q]? with
     |some c=>bif c.length==k then some (.ba [c] 0 0)else none
     |none=>none
    |none=>none
   |_,_=>none
 |none=>match tW P T,x,i.int? with
  |some (n,_,k), .ptr b off,some z=>match zN z with
   |some q=>bif bS (q+1) n then some (.ptr b (off+q*k))else none
   |none=>none
  |some (n,_,k), .ba xs e off,some z=>match zN z with
   |some q=>bif k==1&&bS (q+1) n then match xs[e]? with
    |some c=>match c[off+q]? with
     |some d=>some (.ba [[d]] 0 0)
     |none=>none
    |none=>none
    else none
   |none=>none
  |_,_,_=>none
theorem ag9{P:anG}{T:TypeId}{x i y:AV}{K:AV->Prop}(h:IB P T x i=some y)(hK:K y):sq P T x i K:=by
 unfold IB at h;unfold sq;split at h
 ·next e k eT=>
  simp only[eT];split at h
  ·next n off len cap k'=>
   simp only;split at h
   ·next z ez=>
    simp only[ez];split at h
    ·next q eq=>
     obtain⟨h0,h1⟩:=E3 eq;obtain⟨hb,he⟩:=dF h;rw[amP,dy]at hb;refine bw.2 ⟨hb.1,h0,by omega,?_⟩;rw[h1,he];exact hK
    ·cases h
   ·cases h
  ·next x' ou=>
   split at h
   ·next xs z e1 e2=>
    split at h
    ·next q eq=>
     obtain⟨h0,h1⟩:=E3 eq;split at h
     ·next c ec=>
      obtain⟨hb,he⟩:=dF h;simp only[e1,e2];refine⟨h0,?_⟩;rw[h1,ec];exact⟨by simpa using hb,by rw[he];exact hK⟩
     ·cases h
    ·cases h
   ·cases h
 ·next eT=>
  simp only[eT];split at h
  ·next n e k b off z e1 e2=>
   simp only[e1,e2];split at h
   ·next q eq=>
    obtain⟨h0,h1⟩:=E3 eq;obtain⟨hb,he⟩:=dF h;rw[dy]at hb;exact⟨h0,by omega,by rw[h1,he];exact hK⟩
   ·cases h
  ·next n e0 k xs e off z e1 e2=>
   simp only[e1,e2];split at h
   ·next q eq=>
    obtain⟨h0,h1⟩:=E3 eq;obtain⟨hb,h⟩:=kF h;rw[amP,dy]at hb;split at h
    ·next c ec=>
     split at h
     ·next d ed=>
      cases h
      refine bw.2 ⟨hb.1,h0,by omega,?_⟩;rw[ec];simp only;rw[h1,ed];exact hK
     ·cases h
    ·cases h
   ·cases h
  ·cases h
def amv(P:anG)(T:TypeId)(ρ:Operand->AV)(x:AV)(lo hi mx:anF Operand):anF AV:=
 match mx with
 |none=>
  match x with
  | .d (.v (.string b))=>match vi ρ b.size hi,vi ρ 0 lo with
    |some h,some l=>bif gC P T&&bS h b.size&&bS l h then some (.d (.v (.string (b.extract l h))))else none
    |_,_=>none
  | .ptr n off=>match tW P T with
    |some (m,_,k)=>match vi ρ m hi,vi ρ 0 lo with
     |some h,some l=>bif bS m 4096&&bS h m&&(bS l h&& !bS m l)then some (.row n (off+l*k) (h-l) (m-l) k)else none
     |_,_=>none
    |none=>none
  |x=>match x.eY,dQ P T with
   |some xs,some (_,k)=>match vi ρ xs.length hi,vi ρ 0 lo with
    |some h,some l=>bif DS k xs&&bS h xs.length&&bS l h then some (.d (.sl ((xs.take h).drop l)))else none
    |_,_=>none
   |_,_=>none
 |some m=>match lo,hi with
  |none,some y=>match x.eY,dQ P T with
   |some xs,some (_,k)=>match vi ρ 0 (some m),vi ρ 0 (some y)with
    |some c,some h=>bif DS k xs&&bS c xs.length&&h==c then some (.full (xs.take h))else none
    |_,_=>none
   |_,_=>none
  |_,_=>none
def amF(P:anG)(T:TypeId)(h:anD ao)(x y:AV):anF (AV×HD):=
 match dQ P T with
 |some (e,k)=>match iE P e,sM P e with
  |some z,some cr=>match JO h k y with
   |some ys=>bif bS 1 k&&z.cells.toList.length==k&&DS k ys then
    match x with
    | .own n xs=>match h[n]? with
      |some (.front e' k' len)=>bif e'==e&&k'==k&&len==xs.length&&DS k xs&&bS (xs.length+ys.length) maxLen&&bS ((xs.length+ys.length)*cr) 140737488355328 then some (.own n (xs++ys), .set n (.front e k (xs.length+ys.length)))else none
      |_=>none
    | .d (.v (.slice none 0 0))=>bif bS ys.length maxLen&&bS (ys.length*cr) 140737488355328 then some (.own h.length ys, .push (.front e k ys.length))else none
    | .full xs=>bif DS k xs&&bS (xs.length+ys.length) maxLen&&bS ((xs.length+ys.length)*cr) 140737488355328 then some (.own h.length (xs++ys), .push (.front e k (xs.length+ys.length)))else none
    |_=>none
    else none
   |none=>none
  |_,_=>none
 |none=>none
def To:anD (anD D)->anF (anD Int)
 |[]=>some []
 |[.v (.int .u8 n)]::l=>match To l with
  |some ns=>some (n::ns)
  |none=>none
 |_=>none
def Ln:anF (AV×In)->anF AV
 |some (x, .none)=>some x
 |some (x, .nz b)=>bif b==0 then none else some x
 |some (x, .nn b)=>match zN b with
  |some _=>some x
  |none=>none
 |some (x, .cat n)=>bif bS n maxLen then some x else none
 |_=>none
theorem alu{r:anF (AV×In)}{x:AV}(P:anG)(h:Ln r=some x):∃i,r=some (x,i)/\OK P i .ok:=by
 unfold Ln at h;split at h
 ·cases h;exact⟨_,rfl, .none⟩
 ·next b=>
  cases hb:b==0 with
  |true=>rw[hb]at h;cases h
  |false=>rw[hb]at h;cases h;exact⟨_,rfl, .nz (by simpa using hb)⟩
 ·next b=>
  split at h
  ·next e=>cases h;exact⟨_,rfl, .nn (E3 e).1⟩
  ·cases h
 ·obtain⟨hb,he⟩:=dF h;cases he
  exact⟨_,rfl, .cat (dy.1 hb)⟩
 ·cases h
def pX(r:anF AV):anF (AV×HD):=
 match r with
 |some x=>some (x, .same)
 |none=>none
def amL(P:anG)(src dst:TypeId)(x:AV):anF AV:=
 match GY P src dst x .none with
 |some (y, .none)=>some y
 |_=>match x.eY,dQ P src with
  |some xs,some (e,_)=>match To xs with
   |some ns=>match x with
    | .d (.v _)=>none
    |_=>bif BC P e&&gC P dst then some (.d (.v (.string (aho ns))))else none
   |none=>none
  |_,_=>none
def lZ(P:anG)(op:Op)(ρ:Operand->AV)(h:anD ao):anF (AV×HD):=
 match op with
 | .move x| .assign x=>some (ρ x, .same)
 | .pick c x y=>match ρ c with
   | .d (.v (.bool b))=>some (bif b then ρ x else ρ y, .same)
   |_=>none
 | .alloc e=>match iE P e with
   |some z=>some (.ptr h.length 0, .push (.cells (z.cells.toList.map λu=> .d (.v u))))
   |none=>none
 | .box _ x=>bif (ρ x).iX then some (.ptr h.length 0, .push (.cells (ρ x).cells))else none
 | .load t p=>match xf h (ρ p)with
   |some (cs,off)=>pX (yG P t cs off)
   |none=>none
 | .store t p x=>match ρ p with
   | .ptr n off=>match h[n]? with
     |some (.cells cs)=>match fz P t with
      |some k=>bif k==(ρ x).cells.length&&(ρ x).iX&&bS (off+(ρ x).cells.length) cs.length then some (.d (.v undef), .set n (.cells (gM cs off (ρ x).cells)))else none
      |none=>none
     |_=>none
   |_=>none
 | .nilCheck x=>match ρ x with
   | .ptr n off=>some (.ptr n off, .same)
   | .ba xs i off=>some (.ba xs i off, .same)
   | .fn f cs=>some (.fn f cs, .same)
   |_=>none
 | .fieldAddr S x f=>match sL P S f with
   |some (fo,_,_)=>match ρ x with
    | .ptr n off=>some (.ptr n (off+fo), .same)
    | .ba xs i off=>some (.ba xs i (off+fo), .same)
    |_=>none
   |none=>none
 | .field T x f=>pX (FG P T (ρ x) f)
 | .indexAddr T x i=>pX (IB P T (ρ x) (ρ i))
 | .extract x i=>match ρ x with
   | .aQ cs=>match cs[i]? with
     |some c=>some (c, .same)
     |none=>none
   |_=>none
 | .makeFunc (.func f) first cN=>match first.toList with
   |[]=>some (.fn f (cN.toList.map ρ), .same)
   |_=>none
 | .binOp op T x y _=>pX (Ln (F8 P T op (ρ x) (ρ y)))
 | .unOp op _ x=>match ρ x with
   | .d (.v u)=>match IF op u with
     |some v=>some (.d (.v v), .same)
     |none=>none
   |_=>none
 | .call c=>match c.callee with
   | .builtin .len=>match c.args.toList,c.argTypes.toList with
     |[x],[T]=>match ρ x with
      | .d (.v (.string s))=>bif gC P T then some (.d (.v (.int .i64 s.size)), .same)else none
      | .row _ _ len _ _=>bif (dQ P T).isSome then some (.d (.v (.int .i64 len)), .same)else none
      |x=>match x.eY with
       |some xs=>bif (dQ P T).isSome then some (.d (.v (.int .i64 xs.length)), .same)else none
       |none=>none
     |_,_=>none
   |_=>none
 |_=>none
theorem J6{r:anF AV}{x:AV}{d:HD}(h:pX r=some (x,d)):r=some x/\d= .same:=by
 unfold pX at h;split at h
 ·cases h;exact⟨rfl,rfl⟩
 ·cases h
theorem W2{P:anG}{o:Oper}{ρ:Operand->AV}{h:anD ao}{x:AV}{d:HD}{C:AV->anD ao->Prop}(h1:lZ P o.op ρ h=some (x,d))(hC:C x (d.app h)):cg P o ρ h C:=by
 obtain⟨dst,op,type,pos,after,guard⟩:=o;simp only at h1;unfold lZ at h1;unfold cg;split at h1
 ·cases h1;exact hC
 ·cases h1;exact hC
 ·next c y z=>
  split at h1
  ·next b e=>
   cases h1
   simp only[e];cases b with
   |true=>exact⟨λ_=>hC,λh=>Bool.noConfusion h⟩
   |false=>exact⟨λh=>Bool.noConfusion h,λ_=>hC⟩
  ·cases h1
 ·split at h1
  ·next z e=>cases h1;simp only[e];exact hC
  ·cases h1
 ·obtain⟨hb,he⟩:=dF h1;cases he;exact bw.2 ⟨hb,hC⟩
 ·split at h1
  ·next cs off e=>
   obtain⟨e2,rfl⟩:=J6 h1;exact Mt e e2 hC
  ·cases h1
 ·split at h1
  ·next n off e=>
   split at h1
   ·next cs e2=>
    split at h1
    ·next k e3=>obtain⟨hb,he⟩:=dF h1;cases he;simp only[e,xv,e2,e3];exact bw.2 ⟨hb,hC⟩
    ·cases h1
   ·cases h1
  ·cases h1
 ·split at h1
  ·next e=>cases h1;simp only[e];exact hC
  ·next e=>cases h1;simp only[e];exact hC
  ·next e=>cases h1;simp only[e];exact hC
  ·cases h1
 ·split at h1
  ·next e=>
   simp only[e];split at h1
   ·next e2=>cases h1;simp only[e2];exact hC
   ·next e2=>cases h1;simp only[e2];exact hC
   ·cases h1
  ·cases h1
 ·obtain⟨e,rfl⟩:=J6 h1;exact VG e hC
 ·obtain⟨e,rfl⟩:=J6 h1;exact ag9 e hC
 ·split at h1
  ·next e=>
   split at h1
   ·next e2=>cases h1;simp only[e,e2];exact hC
   ·cases h1
  ·cases h1
 ·split at h1
  ·next e=>cases h1;simp only[e];exact hC
  ·cases h1
 ·obtain⟨e,rfl⟩:=J6 h1;obtain⟨i,e2,bA⟩:=alu P e;exact Vf e2 bA hC
 ·unfold xz;split at h1
  ·next e=>
   split at h1
   ·next e2=>cases h1;simp only[e,e2];exact hC
   ·cases h1
  ·cases h1
 ·next c=>
  split at h1
  ·next hc=>
   simp only[hc];split at h1
   ·next y T e1 e2=>
    simp only[e1,e2];unfold s8;split at h1
    ·next s e=>obtain⟨hb,he⟩:=dF h1;cases he;simp only[e];exact bw.2 ⟨hb,hC⟩
    ·next e=>obtain⟨hb,he⟩:=dF h1;cases he;simp only[e];exact bw.2 ⟨hb,hC⟩
    ·next n1 n2=>
     split at h1
     ·next xs e=>
      obtain⟨hb,he⟩:=dF h1;cases he;split
      ·next s e'=>exact absurd e' (n1 s)
      ·next e'=>exact absurd e' (n2 _ _ _ _ _)
      ·simp only[e];exact bw.2 ⟨hb,hC⟩
     ·cases h1
   ·cases h1
  ·cases h1
 ·cases h1
def dH(n:Nat)(t:anD (Nat×AV)):anD AV:=(List.range n).map (aY t)
theorem acV{n:Nat}{t:anD (Nat×AV)}{i:Nat}{c:AV}(h:(dH n t)[i]?=some c):aY t i=c:=by
 unfold dH at h;rw[amU]at h;by_cases hi:i<n
 ·rw[List.getElem?_range hi]at h;exact am6 h
 ·rw[ank (by simpa using hi)]at h;cases h
def Rs(P:anG)(N0:Nat)(Q:Exit->St->Prop)(s:St):LS->Prop
 | .ready=>Q .normal s
 | .done c=>bj P none N0 c Q s
 | .busy=>False
theorem agv{P:anG}{N0:Nat}{s:St}{Q:Exit->St->Prop}{g:Operand}{p:Nat}{assign body:Code}{gf:FuncId}{cN:anD AV}(hg:ev s g= .fn gf cN)
 (hc:cp P gf (.cF s.h.length::cN) (s.h++[.lp .ready p assign body (dH s.n s.t)]) λ_ h'=>∃(ls:LS)(p1:Nat)(sI s5:Code)(xC:anD AV),h'[s.h.length]?=some (.lp ls p1 sI s5 xC)/\Rs P N0 Q ⟨s.n,s.t,h'.set s.h.length .gone⟩ ls):
 bj P none N0 (.rangeFunc g #[p] assign body) Q s:=by
 constructor
 intro G w a n hs hN;have hv:=hs.ev g;rw[hg]at hv;obtain⟨lb,ea,hl,hr⟩:∃lb:Array anH,a.eval g= .func (.func gf) #[] lb/\lb.size=cN.length/\∀(i:Nat)(u:anH)(c:AV),lb[i]?=some u->cN[i]?=some c->aE G w u c:=by
  generalize a.eval g=u at hv;cases hv with|fn _ vs _ hl hr=>exact⟨vs,rfl,hl,hr⟩
 obtain⟨Fa,jC⟩:=hc;refine wpIn_rangeFunc (F:=WF none) ?_;intro fn _;obtain⟨DG,UW⟩:=aib hs.inv;obtain⟨G0,kp⟩:∃G0:Gh,G0={G with Z:=λb=>G.Z b\/b=w.heap.size}:=⟨_,rfl⟩;obtain⟨w0,qp⟩:∃w0,w0=w.alloc (.deferred (some [])):=⟨_,rfl⟩;rw[<-kp,<-qp]at DG UW;have bW:G0.N=G.N:=by rw[kp]
 have iq:w0.heap.size=w.heap.size+1:=by rw[qp];simp
 obtain⟨iA,wL,QW⟩:=ajL UW fn a.tmps w.heap.size p assign body (dH s.n s.t) (by simp [dH,hs.size]) λi u c hu hc=>by
  have h9:=hs.tmp i;rw[acV hc]at h9;have e:a.tmps.getD i undef=u:=by
   have aJ:=(am2.1 hu).1;rw[am9 aJ]at hu;simp [Array.getD,aJ];exact am6 hu
  rw[e]at h9;exact h9.keep DG (Nat.le_of_eq bW.symm)
 obtain⟨w1,FI⟩:∃w1,w1=w0.alloc (.loop {state:= .ready,pending:=none,fn:=fn,tmps:=a.tmps,params:= #[p],assign:=assign,body:=body,defers:=w.heap.size}):=⟨_,rfl⟩;obtain⟨G1,Q5⟩:∃G1:Gh,G1=G0.cv w0.heap.size:=⟨_,rfl⟩;rw[<-FI,<-Q5]at iA wL QW;have ga:G1.N=G.N+1:=by rw[Q5,<-bW];rfl
 have aeT:G1.aI s.h.length=w.heap.size+1:=by rw[Q5,hs.inv.len,<-bW];simp [Gh.cv,iq]
 rw[iq]at QW;have Y3:bx G.N G w G1 w1:=DG.trans (iA.less (Nat.le_of_eq bW.symm));refine⟨w.heap.size+1,[{target:= .collected w.heap.size,args:= #[]}],w1,{target:= .fn (.func gf) lb,args:= #[.func (.yield (w.heap.size+1)) #[] #[]]},w1,gf, #[.func (.yield (w.heap.size+1)) #[] #[]]++lb,w1,?_,?_,λ_ _=>trivial,?_,λh=>(by simp [WF,Fence.wide]at h),?_⟩
 ·rw[FI,qp];exact run_enterLoop_outer _ _ _ _ _
 ·simp only[resolve,ea];simp [Deferred.ofValue,go_sem]
 ·simp [invoke,PA Fa]
 have hK:=jC G1 w1 (#[.func (.yield (w.heap.size+1)) #[] #[]]++lb) wL (by simp [hl];omega) (λi u c hu hc=>by
  match i with
  |0=>
   rw[Array.getElem?_append_left (by simp)]at hu;simp at hu hc;subst hu;subst hc;exact QW
  |i+1=>
   rw[Array.getElem?_append_right (by simp)]at hu;simp at hu hc;exact(hr i u c hu hc).keep Y3 (by rw[ga];exact Nat.le_succ _))
 refine CallsIn.mono (F:=WF none) (callsIn_wide (n:=n-1).2 hK) ?_;rintro e w2 ⟨v,G2,r,h',rfl,iP,hN2,HA,_,ls,p1,sI,s5,xC,hk,Px⟩;have yL:s.h.length<G1.N:=by rw[hs.inv.len,ga];exact anB _
 have C4:G2.aI s.h.length=w.heap.size+1:=(iP.aI _ yL).trans aeT;obtain⟨_,fn2,tm2,D2,g3,g4,g5,XP⟩:=HS HA hk;rw[C4]at g3;have hEa:bx G.N G w G2 w2:=Y3.trans (iP.less (by rw[ga];exact Nat.le_succ _));have Gs:G.N<=G2.N:=by rw[ga]at hN2;omega
 obtain⟨ob,lS⟩:∃ob:Obj,ob= .loop {state:= .exhausted,pending:=ls.pd,fn:=fn2,tmps:=tm2,params:= #[p1],assign:=sI,body:=s5,defers:=D2}:=⟨_,rfl⟩;obtain⟨zE,zI⟩:=akN HA hk ob;rw[C4]at zE zI;have A8:bx G.N G w G2 (w2.putObj (w.heap.size+1) ob):=hEa.trans (zE.less Gs);have hM:=hs.inv.gl.2;have zQ:G0.Z w.heap.size:=by rw[kp];exact .inr rfl
 have Sa:G2.Z w.heap.size:=iP.Z.1.1 _ (iA.Z.1.1 _ zQ);have hDh:(w2.putObj (w.heap.size+1) ob).heap[w.heap.size]?=some (.deferred (some [])):=by
  rw[zE.old _ Sa,iP.old _ (iA.Z.1.1 _ zQ),iA.old _ zQ,qp];exact World.alloc_heap_new w _
 have bP:cx G2 (w2.putObj (w.heap.size+1) ob) {a with defers:=[{target:= .collected w.heap.size,args:= #[]}]++a.defers} ⟨s.n,s.t,h'.set s.h.length .gone⟩:=by
  refine⟨hs.size,λi=>(hs.tmp i).keep A8 Gs,zI,?_⟩;obtain⟨l,l1,l2,l3⟩:=hs.df.keep A8;obtain⟨l',l1',WQ,l3'⟩:=hs.df;have EC:l=l':=by
   rw[l2]at WQ;have alN:∀(x y:anD Nat),x.map (λD=>({target:= .collected D,args:= #[]}:Deferred))=y.map (λD=>{target:= .collected D,args:= #[]})->x=y:=by
     intro x
     induction x with
     |nil=>intro y h;cases y with
      |nil=>rfl
      |cons b y=>simp at h
     |cons a x ih=>intro y h;cases y with
      |nil=>simp at h
      |cons b y=>simp at h;rw[h.1,ih y (by simpa using h.2)]
   exact alN _ _ WQ
  refine⟨w.heap.size::l,?_,by rw[anc,<-l2];rfl,λD hD=> ?_⟩
  ·rw[List.nodup_cons];exact⟨λh=>ans _ (hs.inv.z _ (l3' _ (EC▸h)).2.1),l1⟩
  ·rcases ani.1 hD with rfl|hD
   ·exact⟨by rw[A8.Z.2];exact hM,Sa,hDh⟩
   ·exact l3 D hD
 subst lS;have Cw:=λhb=>run_endLoop (P:=P) g3 hb;cases ls with
 |busy=>exact Px.elim
 |ready=>
  refine⟨_,_,Cw (by simp [LS.st]),?_⟩;exact⟨G2,_,A8.less hN,am5 hN Gs,bP,Px⟩
 |done c=>
  refine⟨_,_,Cw (by simp [LS.st]),?_⟩;refine wpIn_mono (Px.run G2 _ _ n (bP) (am5 hN Gs)) λ_ _ _ hn=> ?_;exact hn.trans (A8.less hN)
set_option linter.unusedSimpArgs false
set_option linter.unusedVariables false
mutual
theorem Cx:∀x:AV,x.aG id=x
 | .agg cs=>by rw[AV.aG,rS cs]
 | .aQ cs=>by rw[AV.aG,rS cs]
 | .fn f cs=>by rw[AV.aG,rS cs]
 | .own .. =>by simp [AV.aG]
 | .d _=>by simp [AV.aG]
 | .ptr .. =>by simp [AV.aG]
 | .ba .. =>by simp [AV.aG]
 | .full _=>by simp [AV.aG]
 | .row .. =>by simp [AV.aG]
 | .mp _=>by simp [AV.aG]
 | .cF _=>by simp [AV.aG]
 | .vec .. =>by simp [AV.aG]
 | .db .. =>by simp [AV.aG]
 | .hid _=>by simp [AV.aG]
 | .dead=>by simp [AV.aG]
theorem rS:∀l:anD AV,AV.fp id l=l
 |[]=>by simp [AV.fp]
 |x::l=>by rw[AV.fp,Cx x,rS l]
end
theorem PC(B:ao):B.aG id=B:=by
 cases B with
 |cells cs=>simp only[ao.aG,rS]
 |lp ls p as bd cs=>simp only[ao.aG,rS]
 |it sn cs=>simp only[ao.aG,rS]
 |dM T0 cs=>simp only[ao.aG,rS]
 |vec e k cs=>simp only[ao.aG];congr 1;exact(anj λx _=>rS x).trans (List.map_id _)
 |_=>rfl
theorem aE.low{G:Gh}{w:anI}{u:anH}{x:AV}(h:aE G w u x):x.aH G.N=true:=by
 have lt:∀{n:Nat},n<G.N->(!bS G.N n)=true:=fun{n} hn=>by
  rw[Bool.not_eq_true',<-Bool.not_eq_true,dy];omega
 have fR:∀(vs:Array anH)(cs:anD AV),vs.size=cs.length->(∀(i:Nat)(u:anH)(c:AV),vs[i]?=some u->cs[i]?=some c->c.aH G.N=true)->AV.ni G.N cs=true:=λvs cs hl h=>by
  rw[mM,ane];intro c hc;obtain⟨i,hi,rfl⟩:=List.mem_iff_getElem.1 hc;exact h i vs[i] _ (am9 (by omega)) (amR hi)
 induction h with
 |agg vs cs hl _ ih=>rw[AV.aH];exact fR vs cs hl ih
 |aQ vs cs hl _ ih=>rw[AV.aH];exact fR vs cs hl ih
 |fn f vs cs hl _ ih=>rw[AV.aH];exact fR vs cs hl ih
 |ptr n off h=>rw[AV.aH];exact lt h
 |own n xs h=>rw[AV.aH];exact lt h
 |row n off len cap k h=>rw[AV.aH];exact lt h
 |mp n h=>rw[AV.aH];exact lt h
 |cF n h=>rw[AV.aH];exact lt h
 |vec n o len L k h=>rw[AV.aH];exact lt h
 |db n i j L k h=>rw[AV.aH];exact lt h
 |_=>simp [AV.aH]
def iN(N0:Nat)(s s':St):Prop:=∀(G:Gh)(w:anI)(a:Act),N0<=G.N->cx G w a s->∃G',bx N0 G w G' w/\N0<=G'.N/\cx G' w a s'
theorem iN.refl(N0:Nat)(s:St):iN N0 s s:=λG _ _ hN hs=>⟨G,bx.refl _ _ _,hN,hs⟩
theorem iN.trans{N0:Nat}{s1 s2 s3:St}(h:iN N0 s1 s2)(k:iN N0 s2 s3):iN N0 s1 s3:=λG w a hN hs=>by
 obtain⟨G1,e1,n1,h1⟩:=h G w a hN hs;obtain⟨G2,e2,n2,h2⟩:=k G1 w a n1 h1;exact⟨G2,e1.trans e2,n2,h2⟩
theorem iN.of_eq{N0:Nat}{s s':St}(h:iT s s'):iN N0 s s':=λG _ _ hN hs=>
 ⟨G,bx.refl _ _ _,hN,hs.size.trans h.n,λi=>by rw[<-h.t i];exact hs.tmp i,by rw[<-h.h];exact hs.inv,hs.df⟩
theorem iN.aG{N0:Nat}{s s':St}(σ τ:Nat->Nat)(hn:s.n=s'.n)(hlen:s'.h.length=s.h.length)(aJ:∀i,i<s.h.length->σ i<s.h.length)(hτ:∀i,i<s.h.length->τ i<s.h.length)
 (vt:∀i,i<s.h.length->τ (σ i)=i) (jn:∀i,i<s.h.length->σ (τ i)=i) (x7:∀i,i<N0->σ i=i)
 (ht:∀i,(aY s.t i).aH s.h.length=true->aY s'.t i=(aY s.t i).aG σ\/aY s'.t i= .dead) (hh:∀i,i<s.h.length->s'.h[σ i]?=(s.h[i]?).map (ao.aG σ)):iN N0 s s':=λG w a hN hs=>by
 have hl:s.h.length=G.N:=hs.inv.len;rw[hl]at aJ hτ vt jn hh hlen ht;have PG:∀i,i<N0->τ i=i:=λi hi=>by
  have h1:=vt i (by omega);rw[x7 i hi]at h1;exact h1
 let G':Gh:={G with aI:=λn=>G.aI (τ n),sg:=λn=>G.sg (τ n),ow:=λn=>G.ow (τ n),fl:=λn=>G.fl (τ n)}
 have hR:qz σ G G':=⟨aJ,λn h=>by show G.aI (τ (σ n))=_;rw[vt n h],λn h=>by show G.sg (τ (σ n))=_;rw[vt n h],λn h=>by show G.fl (τ (σ n))=_;rw[vt n h],λn h=>by show G.ow (τ (σ n))=_;rw[vt n h],λ_ _=>Iff.rfl⟩;have hE:bx N0 G w G' w:=⟨amY _,λ_ _ h=>h,λ_ _ _=>rfl,λn h=>by show G.aI (τ n)=_;rw[PG n h],λn h=> .inl ⟨by show G.fl (τ n)=_;rw[PG n h],by show G.sg (τ n)=_;rw[PG n h]⟩,gV rfl,λ_ _=>rfl,rfl,rfl,rfl,λ_ _ h=> .inl h⟩;have dW:∀(n:Nat)(B:ao),s'.h[n]?=some B->∃m B0,m<G.N/\σ m=n/\s.h[m]?=some B0/\B=B0.aG σ:=λn B hB=>by
  have dL:n<G.N:=by have:=(amN.1 hB).1;omega
  have h1:=hh (τ n) (hτ n dL);rw[jn n dL,hB]at h1;cases h2:s.h[τ n]? with
  |none=>rw[h2]at h1;cases h1
  |some B0=>rw[h2]at h1;cases h1;exact⟨τ n,B0,hτ n dL,jn n dL,h2,rfl⟩
 have dP:∀(n b:Nat),bz s'.h G' n=some b->∃m,m<G.N/\σ m=n/\bz s.h G m=some b:=λn b hb=>by
  obtain⟨B,hB,hb⟩:=oB hb;obtain⟨m,B0,k1,k2,k3,rfl⟩:=dW n B hB;subst k2;rw[OG hR k1]at hb;exact⟨m,k1,rfl,by rw[di k3];exact hb⟩
 refine⟨G',hE,hN,hs.size.trans hn,λi=> ?_,⟨hlen,hs.inv.z,hs.inv.S,λn B hB=> ?_,λm n b hm dL=> ?_,hs.inv.gl.keep hE⟩,hs.df.keep hE⟩
 ·have hv:=hs.tmp i;rcases ht i hv.low with e|e
  ·rw[e];exact hv.aG hR
  ·rw[e];exact .dead _
 ·obtain⟨m,B0,k1,k2,k3,rfl⟩:=dW n B hB;subst k2;have hb:=hs.inv.cT m B0 k3;exact dB.aG hR k1 (λb h1=>hb.kW h1) hb
 ·obtain⟨m',k1,k2,k3⟩:=dP m b hm;obtain⟨n',j1,j2,j3⟩:=dP n b dL;have:=hs.inv.inj m' n' b k3 j3;rw[<-k2,<-j2,this]
def M7:anH->anH->Bool
 | .bool a, .bool b=>a==b
 | .int k a, .int l b=>decide (k=l)&&decide (a=b)
 | .string a, .string b=>bL a==bL b
 | .pointer none, .pointer none=>true
 | .slice none a b, .slice none c d=>a==c&&b==d
 | .map none, .map none=>true
 | .nilFunc, .nilFunc=>true
 | .nilIface, .nilIface=>true
 | .tuple a, .tuple b=>a.size==0&&b.size==0
 |_,_=>false
theorem adn{u v:anH}(h:M7 u v=true):u=v:=by
 unfold M7 at h;split at h
 ·rw[beq_iff_eq]at h;subst h;rfl
 ·rw[amP,decide_eq_true_eq,decide_eq_true_eq]at h;obtain⟨h1,h2⟩:=h;subst h1;subst h2;rfl
 ·rw[beq_iff_eq]at h;rw[KV h]
 ·rfl
 ·rw[amP,beq_iff_eq,beq_iff_eq]at h;obtain⟨h1,h2⟩:=h;subst h1;subst h2;rfl
 ·rfl
 ·rfl
 ·rfl
 ·rw[amP,beq_iff_eq,beq_iff_eq]at h;rw[Array.eq_empty_of_size_eq_zero h.1,Array.eq_empty_of_size_eq_zero h.2]
 ·cases h
mutual
def D.nq:D->D->Bool
 | .v a, .v b=>M7 a b
 | .sl xs, .sl ys=>D.sB xs ys
 | .ag xs, .ag ys=>D.fK xs ys
 |_,_=>false
def D.sB:anD (anD D)->anD (anD D)->Bool
 |[],[]=>true
 |x::xs,y::ys=>D.fK x y&&D.sB xs ys
 |_,_=>false
def D.fK:anD D->anD D->Bool
 |[],[]=>true
 |x::xs,y::ys=>D.nq x y&&D.fK xs ys
 |_,_=>false
end
mutual
theorem D.Ou:∀x y:D,D.nq x y=true->x=y
 | .v a, .v b,h=>by rw[D.nq]at h;rw[adn h]
 | .sl xs, .sl ys,h=>by rw[D.nq]at h;rw[D.E5 xs ys h]
 | .v _, .sl _,h=>by simp [D.nq]at h
 | .sl _, .v _,h=>by simp [D.nq]at h
 | .ag xs, .ag ys,h=>by rw[D.nq]at h;rw[D.QE xs ys h]
 | .v _, .ag _,h=>by simp [D.nq]at h
 | .ag _, .v _,h=>by simp [D.nq]at h
 | .sl _, .ag _,h=>by simp [D.nq]at h
 | .ag _, .sl _,h=>by simp [D.nq]at h
theorem D.E5:∀x y:anD (anD D),D.sB x y=true->x=y
 |[],[],_=>rfl
 |x::xs,y::ys,h=>by rw[D.sB,amP]at h;rw[D.QE x y h.1,D.E5 xs ys h.2]
 |[],_::_,h=>by simp [D.sB]at h
 |_::_,[],h=>by simp [D.sB]at h
theorem D.QE:∀x y:anD D,D.fK x y=true->x=y
 |[],[],_=>rfl
 |x::xs,y::ys,h=>by rw[D.fK,amP]at h;rw[D.Ou x y h.1,D.QE xs ys h.2]
 |[],_::_,h=>by simp [D.fK]at h
 |_::_,[],h=>by simp [D.fK]at h
end
mutual
def AV.eZ(σ:Nat->Nat):AV->AV->Bool
 | .d x,y=>(match y with| .d y=>D.nq x y|_=>false)
 | .agg a,y=>(match y with| .agg b=>AV.oY σ a b|_=>false)
 | .aQ a,y=>(match y with| .aQ b=>AV.oY σ a b|_=>false)
 | .fn f a,y=>(match y with| .fn g b=>f==g&&AV.oY σ a b|_=>false)
 | .ptr n o,y=>(match y with| .ptr m p=>σ n==m&&o==p|_=>false)
 | .ba xs i o,y=>(match y with| .ba ys j p=>D.sB xs ys&&(i==j&&o==p)|_=>false)
 | .own n xs,y=>(match y with| .own m ys=>σ n==m&&D.sB xs ys|_=>false)
 | .full xs,y=>(match y with| .full ys=>D.sB xs ys|_=>false)
 | .row n i1 i2 i3 i4,y=>(match y with| .row m j1 j2 j3 j4=>σ n==m&&(i1==j1&&(i2==j2&&(i3==j3&&i4==j4)))|_=>false)
 | .mp n,y=>(match y with| .mp m=>σ n==m|_=>false)
 | .cF n,y=>(match y with| .cF m=>σ n==m|_=>false)
 | .vec n i1 i2 i3 i4,y=>(match y with| .vec m j1 j2 j3 j4=>σ n==m&&(i1==j1&&(i2==j2&&(i3==j3&&i4==j4)))|_=>false)
 | .db n i1 i2 i3 i4,y=>(match y with| .db m j1 j2 j3 j4=>σ n==m&&(i1==j1&&(i2==j2&&(i3==j3&&i4==j4)))|_=>false)
 | .dead,y=>(match y with| .dead=>true|_=>false)
 | .hid _,_=>false
def AV.oY(σ:Nat->Nat):anD AV->anD AV->Bool
 |[],y=>(match y with|[]=>true|_=>false)
 |x::xs,l=>(match l with|y::ys=>AV.eZ σ x y&&AV.oY σ xs ys|_=>false)
end
mutual
theorem AV.Iu(σ:Nat->Nat):∀x y:AV,AV.eZ σ x y=true->y=x.aG σ
 | .d x,y,h=>by
   cases y with
   |d y=>simp only[AV.eZ,amP,beq_iff_eq]at h;rw[AV.aG,D.Ou _ _ h]
   |_=>simp [AV.eZ]at h
 | .agg a,y,h=>by
   cases y with
   |agg b=>simp only[AV.eZ,amP,beq_iff_eq]at h;rw[AV.aG,AV.wQ σ _ _ h]
   |_=>simp [AV.eZ]at h
 | .aQ a,y,h=>by
   cases y with
   |aQ b=>simp only[AV.eZ,amP,beq_iff_eq]at h;rw[AV.aG,AV.wQ σ _ _ h]
   |_=>simp [AV.eZ]at h
 | .fn f a,y,h=>by
   cases y with
   |fn g b=>simp only[AV.eZ,amP,beq_iff_eq]at h;rw[AV.aG,AV.wQ σ _ _ h.2,h.1]
   |_=>simp [AV.eZ]at h
 | .ptr n o,y,h=>by
   cases y with
   |ptr m p=>simp only[AV.eZ,amP,beq_iff_eq]at h;rw[AV.aG,h.1,h.2]
   |_=>simp [AV.eZ]at h
 | .ba xs i o,y,h=>by
   cases y with
   |ba ys j p=>simp only[AV.eZ,amP,beq_iff_eq]at h;rw[AV.aG,D.E5 _ _ h.1,h.2.1,h.2.2]
   |_=>simp [AV.eZ]at h
 | .own n xs,y,h=>by
   cases y with
   |own m ys=>simp only[AV.eZ,amP,beq_iff_eq]at h;rw[AV.aG,D.E5 _ _ h.2,h.1]
   |_=>simp [AV.eZ]at h
 | .full xs,y,h=>by
   cases y with
   |full ys=>simp only[AV.eZ,amP,beq_iff_eq]at h;rw[AV.aG,D.E5 _ _ h]
   |_=>simp [AV.eZ]at h
 | .row n i1 i2 i3 i4,y,h=>by
   cases y with
   |row m j1 j2 j3 j4=>simp only[AV.eZ,amP,beq_iff_eq]at h;rw[AV.aG,h.1,h.2.1,h.2.2.1,h.2.2.2.1,h.2.2.2.2]
   |_=>simp [AV.eZ]at h
 | .vec n i1 i2 i3 i4,y,h=>by
   cases y with
   |vec m j1 j2 j3 j4=>simp only[AV.eZ,amP,beq_iff_eq]at h;rw[AV.aG,h.1,h.2.1,h.2.2.1,h.2.2.2.1,h.2.2.2.2]
   |_=>simp [AV.eZ]at h
 | .db n i1 i2 i3 i4,y,h=>by
   cases y with
   |db m j1 j2 j3 j4=>simp only[AV.eZ,amP,beq_iff_eq]at h;rw[AV.aG,h.1,h.2.1,h.2.2.1,h.2.2.2.1,h.2.2.2.2]
   |_=>simp [AV.eZ]at h
 | .mp n,y,h=>by
   cases y with
   |mp m=>simp only[AV.eZ,amP,beq_iff_eq]at h;rw[AV.aG,h]
   |_=>simp [AV.eZ]at h
 | .cF n,y,h=>by
   cases y with
   |cF m=>simp only[AV.eZ,amP,beq_iff_eq]at h;rw[AV.aG,h]
   |_=>simp [AV.eZ]at h
 | .dead,y,h=>by
   cases y with
   |dead=>rw[AV.aG]
   |_=>simp [AV.eZ]at h
 | .hid _,y,h=>by simp [AV.eZ]at h
theorem AV.wQ(σ:Nat->Nat):∀x y:anD AV,AV.oY σ x y=true->y=AV.fp σ x
 |[],y,h=>by
  cases y with
  |nil=>rw[AV.fp]
  |cons=>simp [AV.oY]at h
 |x::xs,l,h=>by
  cases l with
  |nil=>simp [AV.oY]at h
  |cons y ys=>simp only[AV.oY,amP]at h;rw[AV.fp,AV.Iu σ _ _ h.1,AV.wQ σ _ _ h.2]
end
def zC:anD (anE×D)->anD (anE×D)->Bool
 |[],[]=>true
 |(k,d)::l,(k',d')::l'=>bL k==bL k'&&D.nq d d'&&zC l l'
 |_,_=>false
theorem Y9:∀x y,zC x y=true->x=y
 |[],[],_=>rfl
 |(k,d)::l,(k',d')::l',h=>by
  rw[zC,amP,amP]at h;rw[KV (beq_iff_eq.1 h.1.1),D.Ou _ _ h.1.2,Y9 l l' h.2]
 |[],_::_,h=>by simp [zC]at h
 |_::_,[],h=>by simp [zC]at h
def AE(σ:Nat->Nat):anD (anD AV)->anD (anD AV)->Bool
 |[],[]=>true
 |x::xs,y::ys=>AV.oY σ x y&&AE σ xs ys
 |_,_=>false
theorem W7(σ:Nat->Nat):∀x y,AE σ x y=true->y=x.map (AV.fp σ)
 |[],[],_=>rfl
 |x::xs,y::ys,h=>by
  rw[AE,amP]at h;rw[anc,AV.wQ σ x y h.1,W7 σ xs ys h.2]
 |[],_::_,h=>by simp [AE]at h
 |_::_,[],h=>by simp [AE]at h
def ao.eZ(σ:Nat->Nat):ao->ao->Bool
 | .cells a,y=>(match y with| .cells b=>AV.oY σ a b|_=>false)
 | .front e k l,y=>(match y with| .front e' k' l'=>e==e'&&(k==k'&&l==l')|_=>false)
 | .byt _ _,_=>false
 | .vec e k cs,y=>(match y with| .vec e' k' ds=>e==e'&&(k==k'&&AE σ cs ds)|_=>false)
 | .map kv,y=>(match y with| .map dT=>zC kv dT|_=>false)
 | .iI _,_=>false
 | .it sn cs,y=>(match y with| .it sn' ds=>sn==sn'&&AV.oY σ cs ds|_=>false)
 | .dM _ _,_=>false
 | .gone,y=>(match y with| .gone=>true|_=>false)
 | .lp ..,_=>false
theorem ao.Iu(σ:Nat->Nat)(x y:ao)(h:ao.eZ σ x y=true):y=x.aG σ:=by
 cases x<;>cases y<;>simp only[ao.eZ,amP,beq_iff_eq,Bool.false_eq_true]at h
 ·rw[ao.aG,AV.wQ σ _ _ h]
 ·rw[ao.aG,h.1,h.2.1,h.2.2]
 ·rw[ao.aG,h.1,h.2.1,W7 σ _ _ h.2.2]
 ·rw[ao.aG,Y9 _ _ h]
 ·rw[ao.aG,h.1,AV.wQ σ _ _ h.2]
 ·rfl
def eV(h0:Nat)(p:anD Nat)(i:Nat):Nat:=bif bS h0 i then p.getD (i-h0) i else i
def Av(ts yl:anD (Nat×AV))(ks:anD Nat)(i:Nat):Nat:=
 match ks with
 |[]=>i
 |d::ks=>match aY ts d,aY yl d with
  | .ptr n _, .ptr m _=>bif n==i then m else Av ts yl ks i
  | .own n _, .own m _=>bif n==i then m else Av ts yl ks i
  | .vec n _ _ _ _, .vec m _ _ _ _=>bif n==i then m else Av ts yl ks i
  | .mp n, .mp m=>bif n==i then m else Av ts yl ks i
  |_,_=>Av ts yl ks i
def C6(s s':St)(ks:anD Nat)(h0:Nat):Nat->anD Nat
 |0=>[]
 |k+1=>Av s.t s'.t ks h0::C6 s s' ks (h0+1) k
def Vp(h0:Nat)(ks:anD Nat)(s s':St)(p q:anD Nat):Bool:=
 (s'.h.length==s.h.length)&&(((List.range s.h.length).all λi=>bS (eV h0 p i+1) s.h.length&&bS (eV h0 q i+1) s.h.length&&eV h0 q (eV h0 p i)==i&&eV h0 p (eV h0 q i)==i)&&(ks.all (λd=>AV.eZ (eV h0 p) (aY s.t d) (aY s'.t d))&&
  ((List.range s.h.length).all λi=>match s.h[i]?,s'.h[eV h0 p i]? with
    |some B,some B'=>ao.eZ (eV h0 p) B B'
    |_,_=>false)))
def RP(h0:Nat)(ks:anD Nat)(s s':St):Bool:=Vp h0 ks s s' (C6 s s' ks h0 (s.h.length-h0)) (C6 s' s ks h0 (s.h.length-h0))
structure ln(ks:List Nat)(s0 s:St):Prop where
 n:s.n=s0.n
 t:∀d,d ∉ ks->aY s.t d=aY s0.t d
theorem ln.refl(ks:anD Nat)(s:St):ln ks s s:=⟨rfl,λ_ _=>rfl⟩
theorem ln.put{ks:anD Nat}{s0 s:St}(h:ln ks s0 s)(h1:anD ao){d:anF Nat}(x:AV)(hd:∀k,d=some k->k∈ks):ln ks s0 ((s.wh h1).put d x):=
 ⟨by rw[qR];exact h.n,λi hi=>by
  rw[sx,if_neg]
  ·exact h.t i hi
  ·rintro⟨e,_⟩;exact hi (hd i e)⟩
theorem amx{N0 h0:Nat}{ks:anD Nat}{s0 s s':St}(hN:N0<=h0)(ng:∀i,(aY s0.t i).aH h0=true)(hb:ln ks s0 s)(eI:ln ks s0 s')(h:RP h0 ks s s'=true):iN N0 s s':=by
 unfold RP at h;generalize C6 s s' ks h0 (s.h.length-h0)=p at h;generalize C6 s' s ks h0 (s.h.length-h0)=q at h;unfold Vp at h;simp only[amP,beq_iff_eq,ane,List.mem_range,dy]at h;obtain⟨h1,h2,h3,h4⟩:=h;have x7:∀i,i<h0->eV h0 p i=i:=λi hi=>by
  unfold eV;have:bS h0 i=false:=by rw[<-Bool.not_eq_true,dy];omega
  rw[this];rfl
 refine iN.aG (eV h0 p) (eV h0 q) (hb.n.trans eI.n.symm) h1 (λi hi=>(h2 i hi).1.1.1) (λi hi=>(h2 i hi).1.1.2) (λi hi=>(h2 i hi).1.2) (λi hi=>(h2 i hi).2) (λi hi=>x7 i (by omega)) (λi _=> ?_) λi hi=> ?_
 ·left
  by_cases hk:i∈ks
  ·exact AV.Iu _ _ _ (h3 i hk)
  ·rw[hb.t i hk,eI.t i hk,xQ (τ:=id) x7 _ (ng i),Cx]
 ·have h5:=h4 i hi;split at h5
  ·next B B' e1 e2=>rw[e1,e2,ao.Iu _ _ _ h5];rfl
  ·cases h5
def BJ(N0:Nat)(K:St->Prop):Prop:=∀s s',iN N0 s s'->K s'->K s
theorem BJ.c{N0:Nat}{K:St->Prop}(h:BJ N0 K):q6 K:=λs s' e hk=>h s' s (iN.of_eq e.symm) hk
theorem Om{P:anG}{r:anF Nat}{N0:Nat}{s:St}{Q:Exit->St->Prop}{m:Bool}{id:Nat}{ops:Array Oper}(hm:P.follows .mixedOrders=true)
 (h:N0<=s.h.length->(∀i,(aY s.t i).aH s.h.length=true)->j6 m P ops (λs1=>∃s2,iN N0 s1 s2/\Q .normal s2) ops.size (Array.replicate ops.size false) s):bj P r N0 (.region id ops true) Q s:=by
 constructor
 intro G w a n hs hN;obtain⟨d1,d2⟩:=hs.drew;refine wpIn_region_any hm ?_;have hl:=hs.inv.len;refine E7 (G:=G) (w:=w) (N0:=N0) (K:=λs1=>∃s2,iN N0 s1 s2/\Q .normal s2) (λa' w' hn=> ?_) ops.size _ G _ a s (d1.less hN) hN d2 (h (by omega) λi=>by rw[hl];exact(hs.tmp i).low);obtain⟨G',s',x1,x2,x3,s2,e0,x4⟩:=hn;obtain⟨G2,y1,y2,y3⟩:=e0 G' w' a' x2 x3;exact⟨G2,s2,x1.trans y1,y2,y3,x4⟩
theorem Rp{N0:Nat}(Q:St->Prop):BJ N0 (λs1=>∃s2,iN N0 s1 s2/\Q s2):=λ_ _ h ⟨s2,h1,h2⟩=>⟨s2,h.trans h1,h2⟩
def yf(f:Nat->Bool):Nat->Nat
 |0=>0
 |n+1=>bif f n then yf f n|||(1<<<n)else yf f n
theorem A7(f:Nat->Bool):∀(n j:Nat),Nat.testBit (yf f n) j=(decide (j<n)&&f j)
 |0,j=>by simp [yf]
 |n+1,j=>by
  unfold yf;have ih:=A7 f n j;cases hf:f n with
  |true=>
   simp only[cond_true,Nat.testBit_or,ih,Nat.one_shiftLeft,Nat.testBit_two_pow];by_cases e:n=j
   ·subst e;simp [hf]
   ·have:decide (j<n+1)=decide (j<n):=by simp;omega
    rw[this];simp [e]
  |false=>
   simp only[cond_false,ih];by_cases e:n=j
   ·subst e;simp [hf]
   ·have:decide (j<n+1)=decide (j<n):=by simp;omega
    rw[this]
def fN{α:Type}(n:Nat)(f:Nat->α):α:=Nat.casesOn (Nat.succ n) (f 0) f
theorem zX{α:Type}(n:Nat)(f:Nat->α):fN n f=f n:=rfl
def fL{α:Type}:anD Nat->(anD Nat->α)->α
 |[],f=>f []
 |n::l,f=>fN n λn=>fL l λl=>f (n::l)
theorem xG{α:Type}:∀(l:anD Nat)(f:anD Nat->α),fL l f=f l
 |[],_=>rfl
 |n::l,f=>by rw[fL,zX,xG l]
section
variable (ops:Array Oper)
def yi(o:Oper)(n j:Nat):Bool:=o.after.any λe=>Region.binds .any e&&(e.on==j||(j==n&&bS n e.on))
def HZ(k:Nat):Nat:=match ops[k]? with
 |some o=>yf (yi o ops.size) (ops.size+1)
 |none=>1<<<ops.size
def NC(m:Bool)(M:Array Nat)(k j:Nat):Bool:= !(j==k)&&(!((M.getD j 0).testBit k)&&match ops[k]?,ops[j]? with
 |some oi,some oj=> !(oi.apart ops oj&&zq m oi oj)
 |_,_=>true)
def uM(m:Bool)(M:Array Nat)(k:Nat):Nat:=yf (NC ops m M k) ops.size
def og:Nat->Nat->anD Nat
 |_,0=>[]
 |k,n+1=>HZ ops k::og (k+1) n
def jQ(m:Bool)(M:Array Nat):Nat->Nat->anD Nat
 |_,0=>[]
 |k,n+1=>uM ops m M k::jQ m M (k+1) n
end
def oI:anD Nat->Nat->Nat->anD Nat
 |[],_,_=>[]
 |a::A,L,k=>bif !(Nat.testBit L k)&&(L&&&a==a)then k::oI A L (k+1)else oI A L (k+1)
def w7(C:anD Nat)(L:Nat):anD Nat->anF Nat
 |[]=>none
 |k::r=>bif (C.getD k 0)|||L==L then some k else w7 C L r
section
variable (ops:Array Oper) (st:Oper->St->anF St) (h0:Nat) (ks A C:anD Nat)
def nU:anD Oper->anD Nat
 |[]=>[]
 |o::l=>match o.dst with
  |some d=>d::nU l
  |none=>nU l
end
theorem FJ:∀{l:anD Oper}{o:Oper},o∈l->∀d,o.dst=some d->d∈nU l
 |[],_,h,_,_=>by cases h
 |a::l,o,h,d,hd=>by
  unfold nU;rcases ani.1 h with rfl|h
  ·rw[hd];simp
  ·split
   ·exact amW _ (FJ h d hd)
   ·exact FJ h d hd
theorem Dy(ops:Array Oper):∀(n k i:Nat),(og ops k n)[i]?=if i<n then some (HZ ops (k+i))else none
 |0,k,i=>by simp [og]
 |n+1,k,0=>by simp [og]
 |n+1,k,i+1=>by rw[og,anp,Dy ops n (k+1) i];simp only[Nat.add_lt_add_iff_right];rw[show k+1+i=k+(i+1) by omega]
theorem NI(ops:Array Oper)(m:Bool)(M:Array Nat):∀(n k i:Nat),(jQ ops m M k n)[i]?=if i<n then some (uM ops m M (k+i))else none
 |0,k,i=>by simp [jQ]
 |n+1,k,0=>by simp [jQ]
 |n+1,k,i+1=>by rw[jQ,anp,NI ops m M n (k+1) i];simp only[Nat.add_lt_add_iff_right];rw[show k+1+i=k+(i+1) by omega]
theorem Cf{L:Nat}:∀(A:anD Nat)(k i:Nat),i∈oI A L k↔k<=i/\Nat.testBit L i=false/\∃a,A[i-k]?=some a/\L&&&a=a
 |[],k,i=>by simp [oI]
 |a::A,k,i=>by
  have ih:=Cf (L:=L) A (k+1) i;unfold oI;have key:i∈oI A L (k+1)↔k<i/\Nat.testBit L i=false/\∃b,(a::A)[i-k]?=some b/\L&&&b=b:=by
   rw[ih];constructor
   ·rintro⟨h1,h2,b,h3,h4⟩;refine⟨h1,h2,b,?_,h4⟩;rw[show i-k=(i-(k+1))+1 by omega,anp];exact h3
   ·rintro⟨h1,h2,b,h3,h4⟩;refine⟨h1,h2,b,?_,h4⟩;rw[show i-k=(i-(k+1))+1 by omega,anp]at h3;exact h3
  cases hb:(!(Nat.testBit L k)&&(L&&&a==a))with
  |true=>
   simp only[cond_true,ani,key];simp only[amP,Bool.not_eq_true',beq_iff_eq]at hb;constructor
   ·rintro(rfl|⟨h1,h2⟩)
    ·exact⟨amY _,hb.1,a,by simp,hb.2⟩
    ·exact⟨by omega,h2⟩
   ·rintro⟨h1,h2⟩;rcases Nat.lt_or_eq_of_le h1 with h|h
    ·exact .inr ⟨h,h2⟩
    ·exact .inl h.symm
  |false=>
   simp only[cond_false,key];constructor
   ·rintro⟨h1,h2⟩;exact⟨by omega,h2⟩
   ·rintro⟨h1,h2,b,h3,h4⟩;rcases Nat.lt_or_eq_of_le h1 with h|h
    ·exact⟨h,h2,b,h3,h4⟩
    ·subst h;simp at h3;subst h3;rw[h2]at hb;simp at hb;exact absurd h4 hb
theorem Fb{C:anD Nat}{L:Nat}:∀{r:anD Nat}{k:Nat},w7 C L r=some k->k∈r/\(C.getD k 0)|||L=L
 |[],k,h=>by cases h
 |a::r,k,h=>by
  unfold w7 at h;cases hb:((C.getD a 0)|||L==L)with
  |true=>rw[hb]at h;cases h;exact⟨by simp,by simpa using hb⟩
  |false=>rw[hb]at h;have:=Fb h;exact⟨amW _ this.1,this.2⟩
structure LM(ops:Array Oper)(L:Nat)(listed:Array Bool):Prop where
 sz:listed.size=ops.size
 b:∀i,Nat.testBit L i=listed.getD i false
theorem LM.set{ops:Array Oper}{L:Nat}{listed:Array Bool}(h:LM ops L listed){k:Nat}(hk:k<ops.size):LM ops (L|||(1<<<k)) (listed.setIfInBounds k true):=by
 refine⟨by simp [h.sz],λi=> ?_⟩;rw[Nat.testBit_or,Nat.one_shiftLeft,Nat.testBit_two_pow,h.b i];by_cases e:k=i
 ·subst e;have:k<listed.size:=by rw[h.sz];exact hk
  simp [this]
 ·rw[getD_set_ne false e];simp [e]
theorem LM.ready{ops:Array Oper}{L:Nat}{listed:Array Bool}(h:LM ops L listed)(i:Nat):i∈Region.ready .any ops listed↔i∈oI (og ops 0 ops.size) L 0:=by
 rw[mem_ready,Cf];simp only[Nat.zero_le,true_and,Nat.sub_zero,Dy,am7];have SC:∀j,ops.size<=j->Nat.testBit L j=false:=λj hj=>by
   rw[h.b,Array.getD_eq_getD_getElem?,Array.getElem?_eq_none (by rw[h.sz];exact hj)];rfl
 constructor
 ·rintro⟨h1,o,ho,h2⟩;have hi:=(am2.1 ho).1;have hgd:listed.getD i false=false:=by
   have dx:i<listed.size:=by rw[h.sz];exact hi
   simpa [dx]using h1
  refine⟨by rw[h.b];exact hgd,_,by rw[if_pos hi],?_⟩;apply Nat.eq_of_testBit_eq;intro j;rw[Nat.testBit_and];unfold HZ;rw[ho];simp only[A7];cases hb:(decide (j<ops.size+1)&&yi o ops.size j)with
  |false=>simp
  |true=>
   simp only[Bool.and_true];rw[amP]at hb;have hb:=hb.2;unfold yi at hb;rw[Array.any_eq_true']at hb;obtain⟨e,he,hb⟩:=hb;simp only[amP,Bool.or_eq_true,beq_iff_eq,dy]at hb;have h3:=h2 e he hb.1;have:e.on<ops.size:=by
    rcases Nat.lt_or_ge e.on ops.size with hl|hl
    ·exact hl
    ·have:=SC e.on hl;rw[h.b]at this;rw[this]at h3;cases h3
   rcases hb.2 with hj|⟨_,hj⟩
   ·rw[<-hj,h.b];exact h3
   ·omega
 ·rintro⟨h1,a,ha,h2⟩;split at ha
  ·next hi=>
   cases ha
   have ho:ops[i]?=some ops[i]:=am9 hi;refine⟨?_,ops[i],ho,λe he AM=> ?_⟩
   ·rw[h.b]at h1;have dx:i<listed.size:=by rw[h.sz];exact hi
    simpa [dx]using h1
   ·have l4:∀j,j<ops.size+1->yi ops[i] ops.size j=true->Nat.testBit L j=true:=λj hj hf=>by
     have:=congrArg (λn=>Nat.testBit n j) h2;simp only[Nat.testBit_and]at this;unfold HZ at this;rw[ho]at this;simp only[A7]at this;rw[hf]at this
     simpa [hj]using this
    have XR:∀j,(e.on==j||(j==ops.size&&bS ops.size e.on))=true->yi ops[i] ops.size j=true:=λj hj=>by
     unfold yi;rw[Array.any_eq_true'];exact⟨e,he,by rw[AM,hj];rfl⟩
    rcases Nat.lt_or_ge e.on ops.size with hl|hl
    ·rw[<-h.b];exact l4 e.on (by omega) (XR _ (by simp))
    ·have:=l4 ops.size (by omega) (XR _ (by simp [dy.2 hl]));rw[SC _ (amY _)]at this;cases this
  ·cases ha
section
variable {P:anG} {ops:Array Oper} {st:Oper->St->anF St} {h0:Nat} {m:Bool} {N0:Nat} {K:St->Prop} {s0:St}
end
end Go.Proofs.YtfdhojiehjfghaaGreatDoor
namespace Go.Proofs.YtfdhojiehjfghaaGreatDoor
open Go.RowKit
inductive Ex
 |n
 |r
 |x (id:Nat)
def NW{α:Type}(n:Nat)(f:Nat->α):α:=Nat.casesOn (Nat.succ n) (f 0) f
theorem akF{α:Type}(n:Nat)(f:Nat->α):NW n f=f n:=rfl
def AV.force{α:Type}(x:AV)(f:AV->α):α:=
 match x with
 | .d (.v (.int k (.ofNat n)))=>NW n λn=>f (.d (.v (.int k (.ofNat n))))
 | .d (.v (.bool b))=>bif b then f (.d (.v (.bool true)))else f (.d (.v (.bool false)))
 |x=>f x
theorem AV.force_eq{α:Type}(x:AV)(f:AV->α):x.force f=f x:=by
 unfold AV.force;split
 ·rw[akF]
 ·next b=>cases b<;>rfl
 ·rfl
def JZ{α:Type}:anD ao->(anD ao->α)->α
 |[],f=>f []
 |b::l,f=>JZ l λr=>f (b::r)
theorem XX{α:Type}:∀(l:anD ao)(f:anD ao->α),JZ l f=f l
 |[],_=>rfl
 |b::l,f=>by rw[JZ,XX l]
abbrev M0:=Bool->Nat->Code->St->anF (Ex×St)
abbrev OW:=FuncId->anD AV->anF (anF AV)
def ams:anF (anF AV)->Bool
 |some none=>true
 |_=>false
mutual
def AV.YO:AV->anD Nat
 | .fn _ cs=>AV.Pq cs
 |_=>[]
def AV.Pq:anD AV->anD Nat
 |[]=>[]
 | .ptr n _::l=>n::AV.Pq l
 |x::l=>x.YO++AV.Pq l
end
def JF:anD Nat->AV->anD ao->anF (AV×anD ao)
 |[],r,h=>some (r,h)
 |b::l,r,h=>match h[b]? with
  |some (.cells cs)=>match mJ cs with
   |some ds=>JF l (r.eB b ds) ((h.map (ao.eB b ds)).set b .gone)
   |none=>none
  |_=>none
def Y7:AV->anF D
 | .d x=>some x
 |_=>none
def Jh:anD AV->anF (anD D)
 |[]=>some []
 |x::l=>match Y7 x,Jh l with
  |some d,some r=>some (d::r)
  |_,_=>none
def HF:anD (anD AV)->anF (anD (anD D))
 |[]=>some []
 |x::l=>match Jh x,HF l with
  |some d,some r=>some (d::r)
  |_,_=>none
mutual
def AV.UB:AV->Bool
 | .vec .. =>true
 | .agg cs=>AV.HJ cs
 | .aQ cs=>AV.HJ cs
 | .fn _ cs=>AV.HJ cs
 |_=>false
def AV.HJ:anD AV->Bool
 |[]=>false
 |x::l=>x.UB||AV.HJ l
end
def tv:anD Nat->AV->anD ao->AV×anD ao
 |[],r,h=>(r,h)
 |b::l,r,h=>match h[b]? with
  |some (.vec _ k cs)=>match HF cs with
   |some xs=>bif xs.all (λc=>c.all D.zA)then(r.cG b k xs).force λr=>JZ ((h.map (ao.lC (AV.cG b k xs))).set b .gone) λh=>tv l r h else tv l r h
   |none=>tv l r h
  |_=>tv l r h
def alf(h:anD ao):anD Nat:=(List.range h.length).reverse++(List.range h.length).reverse
def Jg(r:AV)(h:anD ao):anF AV:=
 match JF r.YO r h with
 |some (r,_)=>some (r.aV 0)
 |none=>none
def Sc(r:AV)(h:anD ao):anF AV:=
 bif r.UB then(match tv (alf h) r h with|(r,h)=>Jg r h)else Jg r h
section
variable (run:M0) (P:anG) (Xb:OW)
def ak4(lo:Nat)(f:FuncId)(args:anD AV)(h:anD ao):anF (AV×anD ao):=
 match P.funcs[f]? with
 |some fn=>match fn.body with
  |some c=>NW (args.length+(fn.ntmps-args.length)) λn=>match run true lo c ⟨n,lk 0 args,h⟩with
   |some (.x _,_)=>none
   |some (_,s)=>match sK P s fn.results.toList with
    |some l=>some (jt l,s.h)
    |none=>none
   |none=>none
  |none=>none
 |none=>none
end
section
variable {run:M0} {P:anG} {Xb:OW} {lo:Nat} {s s':St}
end
mutual
theorem pub_low(m:Nat):∀x:AV,x.aH m=true->x.aV m=x
 | .own n xs,h=>by
   rw[AV.aH]at h;rw[AV.aV];cases e:bS m n with
   |true=>rw[e]at h;cases h
   |false=>rfl
 | .agg cs,h=>by rw[AV.aH]at h;rw[AV.aV,GH m cs h]
 | .aQ cs,h=>by rw[AV.aH]at h;rw[AV.aV,GH m cs h]
 | .fn f cs,h=>by rw[AV.aH]at h;rw[AV.aV,GH m cs h]
 | .d _,_=>by simp only[AV.aV]
 | .ptr ..,_=>by simp only[AV.aV]
 | .ba ..,_=>by simp only[AV.aV]
 | .full _,_=>by simp only[AV.aV]
 | .row ..,_=>by simp only[AV.aV]
 | .mp _,_=>by simp only[AV.aV]
 | .cF _,_=>by simp only[AV.aV]
 | .vec ..,_=>by simp only[AV.aV]
 | .db ..,_=>by simp only[AV.aV]
 | .hid _,_=>by simp only[AV.aV]
 | .dead,_=>by simp only[AV.aV]
theorem GH(m:Nat):∀l:anD AV,AV.ni m l=true->AV.px m l=l
 |[],_=>by simp [AV.px]
 |x::l,h=>by
  rw[AV.ni,amP]at h;rw[AV.px,pub_low m x h.1,GH m l h.2]
end
theorem amk{m:Nat}{B:ao}(h:B.aH m=true):B.aV m=B:=by
 cases B with
 |cells cs=>
  simp only[ao.aH,ane]at h;simp only[ao.aV]
  congr 1
  exact(anj λx hx=>pub_low m x (h x hx)).trans (List.map_id _)
 |lp ls p as bd cs=>
  simp only[ao.aH,ane]at h;simp only[ao.aV]
  congr 1
  exact(anj λx hx=>pub_low m x (h x hx)).trans (List.map_id _)
 |it sn cs=>
  simp only[ao.aH,ane]at h;simp only[ao.aV]
  congr 1
  exact(anj λx hx=>pub_low m x (h x hx)).trans (List.map_id _)
 |dM T0 cs=>
  simp only[ao.aH,ane]at h;simp only[ao.aV]
  congr 1
  exact(anj λx hx=>pub_low m x (h x hx)).trans (List.map_id _)
 |vec e k cs=>
  simp only[ao.aH,ane]at h;simp only[ao.aV]
  congr 1
  exact(anj λx hx=>(anj λy hy=>pub_low m y (h x hx y hy)).trans (List.map_id _)).trans (List.map_id _)
 |front e k len=>rfl
 |byt e b=>rfl
 |map kv=>rfl
 |iI kv=>rfl
 |gone=>rfl
theorem Ol{m:Nat}{h:anD ao}(e:h.all (ao.aH m)=true):h.map (ao.aV m)=h:=
 (anj λB hB=>amk (ane.1 e B hB)).trans (List.map_id _)
end Go.Proofs.YtfdhojiehjfghaaGreatDoor
namespace Go.Proofs.YtfdhojiehjfghaaGreatDoor
open Go.RowKit
section
variable {P:anG} {r:anF Nat} {n N0:Nat} {G:Gh} {w:anI} {a:Act} {s:St} {o:Oper} {Q:Exit->St->Prop}
end
theorem cp.cut{P:anG}{f:FuncId}{args:anD AV}{h h':anD ao}{r:AV}(m:Nat)(hc:cp P f args h λr1 h1=>r1=r/\h1=h')(h1:h.length<=m)(h2:m<=h'.length)(hb:(((h'.take m).map (ao.aV m)).all (ao.aH m))=true)(hr:(r.aV m).aH m=true):
 cp P f args h λr1 h1=>r1=r.aV m/\h1=(h'.take m).map (ao.aV m):=by
 refine⟨hc.1,λG w vs hi hl hv=>(hc.2 G w vs hi hl hv).mono λe w' hp=> ?_⟩;obtain⟨v,G',_,_,rfl,hE,hN,dx,PD,rfl,rfl⟩:=hp;exact⟨v,G'.cut m,_,_,rfl,hE.trans (pV _ _ _ _),by rw[<-hi.len];exact h1,NP dx h2 hb,(PD.aV m).cut hr,rfl,rfl⟩
section
variable {run:M0} {P:anG} {Xb:OW} {lo:Nat} {s s':St}
theorem cp.X0{f:FuncId}{args:anD AV}{h0 h h2:anD ao}{r r2:AV}{tl:anD (Nat×AV)}(hc:cp P f args h0 λr1 h1=>r1=r/\h1=h)
 (hT:∀(G:Gh)(w:anI)(a:Act),cx G w a ⟨1,[(0,r)],h⟩->∃G',bx G.N G w G' w/\G'.N=G.N/\cx G' w a ⟨1,(0,r2)::tl,h2⟩):cp P f args h0 λr1 h1=>r1=r2/\h1=h2:=by
 refine⟨hc.1,λG w vs hi hl hv=>(hc.2 G w vs hi hl hv).mono λe w' hp=> ?_⟩;obtain⟨v,G',_,_,rfl,hE,hN,dx,PD,rfl,rfl⟩:=hp;obtain⟨G2,e1,e2,e3⟩:=hT G' w' {tmps:= #[v],defers:=[]} ⟨rfl,λi=>by
  show aE G' w' _ (aY [(0,_)] i);rw[nh];split
  ·next ei=>subst ei;exact PD
  ·exact .dead _,dx,rB.nil _ _⟩
 exact⟨v,G2,r2,h2,rfl,hE.trans (e1.less hN),by rw[e2];exact hN,e3.inv,e3.tmp 0,rfl,rfl⟩
theorem Uk{f:FuncId}{args:anD AV}{h0:anD ao}:∀(l:anD Nat){h h2:anD ao}{r r2:AV},(cp P f args h0 λr1 h1=>r1=r/\h1=h)->JF l r h=some (r2,h2)->cp P f args h0 λr1 h1=>r1=r2/\h1=h2
 |[],h,h2,r,r2,hc,e=>by cases e;exact hc
 |b::l,h,h2,r,r2,hc,e=>by
  unfold JF at e;split at e
  ·next cs e1=>
   split at e
   ·next ds e2=>
    refine Uk l (cp.X0 (tl:=[]) hc λG w a hs=> ?_) e;refine hs.A6 (b:=b) ?_;simp only[Go.Proofs.YtfdhojiehjfghaaGreatDoor.A6,e1,e2];rfl
   ·cases e
  ·cases e
theorem Ti:∀{l:anD AV}{ds:anD D},Jh l=some ds->l=ds.map AV.d
 |[],ds,h=>by cases h;rfl
 |x::l,ds,h=>by
  unfold Jh at h;split at h
  ·next d r e1 e2=>
   cases h
   rw[Ti e2];cases x<;>simp [Y7]at e1
   subst e1;rfl
  ·cases h
theorem YR:∀{l:anD (anD AV)}{xs:anD (anD D)},HF l=some xs->l=bG xs
 |[],xs,h=>by cases h;rfl
 |x::l,xs,h=>by
  unfold HF at h;split at h
  ·next d r e1 e2=>cases h;rw[YR e2,Ti e1];rfl
  ·cases h
theorem CF{f:FuncId}{args:anD AV}{h0:anD ao}:∀(l:anD Nat){h:anD ao}{r:AV},(cp P f args h0 λr1 h1=>r1=r/\h1=h)->cp P f args h0 λr1 h1=>r1=(tv l r h).1/\h1=(tv l r h).2
 |[],h,r,hc=>hc
 |b::l,h,r,hc=>by
  unfold tv;split
  ·next e k cs e1=>
   split
   ·next xs e2=>
    rw[AV.force_eq,XX,cond_eq_ite];split
    ·next h1=>
     refine CF l (cp.X0 (tl:=[]) hc λG w a hs=> ?_);have e3:=YR e2;exact hs.Yu xs (by show h[b]?=_;rw[e1,e3]) (λc hc=>ane.1 h1 c hc)
    ·exact CF l hc
   ·exact CF l hc
  ·exact CF l hc
theorem RO{f:FuncId}{args:anD AV}{h:anD ao}{r r2:AV}(hc:cp P f args [] λr1 h1=>r1=r/\h1=h)(e:Sc r h=some r2)(hb:r2.aH 0=true):gn P f args (·=r2):=by
 have fin:∀{r:AV}{h:anD ao},(cp P f args [] λr1 h1=>r1=r/\h1=h)->(r.aV 0).aH 0=true->gn P f args (·=r.aV 0):=λhc hb=>
  (hc.cut 0 (amY _) (Nat.zero_le _) (by simp) hb).mono λr1 h1 ⟨k1,k2⟩=>⟨by simpa using k2,k1⟩
 have gen:∀{r:AV}{h:anD ao},(cp P f args [] λr1 h1=>r1=r/\h1=h)->Jg r h=some r2->gn P f args (·=r2):=λhc e=>by
  unfold Jg at e;split at e
  ·next r3 h3 e1=>
   cases e
   exact fin (Uk _ hc e1) hb
  ·cases e
 unfold Sc at e;rcases al8 e with⟨_,e⟩|⟨_,e⟩
 ·exact gen (CF _ hc) e
 ·exact gen hc e
end
theorem Tq:∀(H' H e:anD ao),H'.length=H.length->gw (List.range H.length) H' (H++e)=H'++e:=by
 intro H' H e hl;have gen:∀(n:Nat)(a b B r:anD ao),b.length=n->B.length=n->gw ((List.range n).map (a.length+·)) B (a++(b++r))=a++(B++r):=by
  intro n
  induction n with
  |zero=>intro a b B r hb hB;rw[List.length_eq_zero_iff.1 hb,List.length_eq_zero_iff.1 hB];simp [gw]
  |succ n ih=>
   intro a b B r hb hB;cases b with
   |nil=>simp at hb
   |cons b0 b=>
    cases B with
    |nil=>simp at hB
    |cons B0 B=>
     rw[List.range_succ_eq_map,anc,List.map_map,gw];have e1:(a++(b0::b++r)).set (a.length+0) B0=(a++[B0])++(b++r):=by
       rw[Nat.add_zero,List.set_append_right _ _ (amY _),Nat.sub_self];simp
     have e2:(λx=>a.length+x)∘Nat.succ=λx=>(a++[B0]).length+x:=by
      funext x
      simp only[Function.comp_apply,amO,amQ,amZ];omega
     rw[e1,e2,ih (a++[B0]) b B r (by simpa using hb) (by simpa using hB)];simp
 have:=gen H.length [] H H' e rfl hl
 simpa using this
theorem LH{P:anG}{k:Nat}{x:AV}{H:anD ao}{C:Bool->anD ao->Prop}(hy:YS P k x H C)(e:anD ao)(hb:H.all (ao.aH H.length)=true)(hx:x.aH H.length=true)
 (hC:∀b h',C b h'->h'.length=H.length/\h'.all (ao.aH H.length)=true):YS P k x (H++e) λb h'=>∃H',C b H'/\h'=H'++e:=by
 intro G w v r n hi hv;have vZ:∀i,i<H.length->rn (List.range H.length) (H++e).length i=i:=λi h=>zG (List.range H.length) _ i i (by rw[List.getElem?_range h]);have Gn:∀y:AV,y.aH H.length=true->y.aG (rn (List.range H.length) (H++e).length)=y:=λy hy=>(xQ (τ:=id) vZ y hy).trans (Cx y);have EL:∀B:ao,B.aH H.length=true->B.aG (rn (List.range H.length) (H++e).length)=B:=λB hB=>(La (τ:=id) vZ B hB).trans (PC B);obtain⟨G0,bW,tf,rK,Pu⟩:=Ty (H:=H) (l:=List.range H.length) (h:=H++e) List.nodup_range (λj hj=>by have:=List.mem_range.1 hj;simp;omega) (λi j qv=>by
  obtain⟨aJ,rfl⟩:i<H.length/\j=i:=by
   have h1:=(amN.1 qv).1;rw[List.length_range]at h1;rw[List.getElem?_range h1]at qv;exact⟨h1,(am6 qv).symm⟩
  rw[amX aJ,amR aJ,Option.map_some,EL _ (ane.1 hb _ (List.getElem_mem aJ))]) (by simp) hb hi
 obtain⟨hk,p,as,bd,fn,tm,D,h1,h2⟩:=hy G0 w v r n tf (aE.sw rK (by rw[Gn x hx];exact hv) x rfl (by rw[bW];exact hx));have eW:k<H.length:=bW▸hk;have fy:G.aI k=G0.aI k:=by
  have:=rK.aI k hk
  rwa [vZ k eW]at this
 refine⟨by have:=rK.lt k hk;rwa [vZ k eW]at this,p,as,bd,fn,tm,D,by rw[fy];exact h1,?_⟩;rw[fy];refine h2.mono λe1 w' hp=> ?_;obtain⟨b,G1,H',rfl,hE,ga,jx,hc⟩:=hp;rw[bW]at hE ga;obtain⟨G2,a1,a2,a3,_⟩:=Pu G1 w' H' hE ga jx;obtain⟨c1,c2⟩:=hC b H' hc;refine⟨b,G2,H'++e,rfl,a1,a2,?_,H',hc,rfl⟩;have hm:H'.map (ao.aG (rn (List.range H.length) (H++e).length))=H':=(anj λB hB=>EL B (ane.1 c2 B hB)).trans (List.map_id _);rw[hm,Tq H' H e c1]at a3;exact a3
def mZ(P:anG)(k:Nat):anD AV->(Bool->anD ao->Prop)->anD ao->Prop
 |[],C,h=>C true h
 |x::l,C,h=>YS P k x h λb h1=>(h1.length=h.length/\h1.all (ao.aH h.length)=true)/\bif b then mZ P k l C h1 else C false h1
theorem RR{P:anG}{k:Nat}:∀(l:anD AV){C C':Bool->anD ao->Prop}{h:anD ao},(∀b h1,C b h1->C' b h1)->mZ P k l C h->mZ P k l C' h
 |[],_,_,_,hc,hs=>hc _ _ hs
 |x::l,C,C',h,hc,hs=>YS.mono hs λb h1 ⟨h2,h3⟩=>⟨h2,by
  cases b with
  |true=>exact RR l hc h3
  |false=>exact hc _ _ h3⟩
theorem Si{P:anG}{k:Nat}:∀(l l':anD AV){C:Bool->anD ao->Prop}{h:anD ao},mZ P k (l++l') C h->mZ P k l (λb h1=>bif b then mZ P k l' C h1 else C false h1) h
 |[],_,_,_,hs=>hs
 |x::l,l',C,h,hs=>YS.mono hs λb h1 ⟨h2,h3⟩=>⟨h2,by
  cases b with
  |true=>exact Si l l' h3
  |false=>exact h3⟩
def vb(h h1:anD ao):Prop:=h1.length=h.length/\h1.all (ao.aH h.length)=true
def Mw(P:anG)(gf:FuncId)(cN:anD AV)(xs:anD AV):Prop:=
 ∀(k:Nat)(h:anD ao)(C:Bool->anD ao->Prop),h.all (ao.aH h.length)=true->k<h.length->mZ P k xs C h->cp P gf (.cF k::cN) h λ_ h1=>∃b,C b h1
def TK(P:anG)(T:TypeId):anD AV:=match iE P T with|some z=>z.cells.toList.map λu=> .d (.v u)|none=>[]
section
variable {P:anG} {r:anF Nat} {N0:Nat} {Q:Exit->St->Prop} {ops:Array Oper} {o o1 o2 o3 o4 o5:Oper} {s:St} {K:St->Prop} {id:Nat}
theorem cy{rest:anD Oper}(hg:o.guard=none)(h:rf P o (sS P ops rest K) s):sS P ops (o::rest) K s:=by
 unfold sS iG;rw[hg];exact h
theorem Ej{n d:Nat}{t:anD (Nat×AV)}{h h':anD ao}{x:AV}{hd:HD}(hx:lZ P o.op (ev ⟨n,t,h⟩) h=some (x,hd))(jB:o.dst=some d)(hn:Nat.ble n d=false)(he:hd.app h=h')(hK:K ⟨n,(d,x)::t,h'⟩):rf P o K ⟨n,t,h⟩:=by
 refine .inr (.inr (.inl (W2 hx ?_)));show K ((St.wh ⟨n,t,h⟩ (hd.app h)).put o.dst x);rw[jB,he];have aJ:d<n:=Nat.lt_of_not_le λhle=>by rw[Nat.ble_eq_true_of_le hle]at hn;cases hn
 rw[ur (s:=St.wh ⟨n,t,h⟩ h') aJ];exact hK
theorem dp{n d:Nat}{t:anD (Nat×AV)}{h:anD ao}{x:AV}(hx:lZ P o.op (ev ⟨n,t,h⟩) h=some (x, .same))(jB:o.dst=some d)(hn:Nat.ble n d=false)(hK:K ⟨n,(d,x)::t,h⟩):rf P o K ⟨n,t,h⟩:=Ej hx jB hn rfl hK
theorem Ll{n:Nat}{t:anD (Nat×AV)}{h h':anD ao}{x:AV}{hd:HD}(hx:lZ P o.op (ev ⟨n,t,h⟩) h=some (x,hd))(jB:o.dst=none)(he:hd.app h=h')(hK:K ⟨n,t,h'⟩):rf P o K ⟨n,t,h⟩:=by
 refine .inr (.inr (.inl (W2 hx ?_)));show K ((St.wh ⟨n,t,h⟩ (hd.app h)).put o.dst x);rw[jB,he];exact hK
theorem acn{h l:anD ao}{i off:Nat}{cs:anD AV}(hi:l[i]?=some (.cells cs)):xf (h++l) (.ptr (h.length+i) off)=some (cs,off):=by
 unfold xf;simp only;rw[am3 (ant _ _),Nat.add_sub_cancel_left,hi]
theorem yk{ρ:Operand->AV}{h l:anD ao}{T:TypeId}{p:Operand}{i off:Nat}{cs:anD AV}{x:AV}(hp:ρ p= .ptr (h.length+i) off)(hi:l[i]?=some (.cells cs))(hl:yG P T cs off=some x):lZ P (.load T p) ρ (h++l)=some (x, .same):=by
 unfold lZ;simp only[hp,acn hi,hl,pX]
theorem akT{ρ:Operand->AV}{h l:anD ao}{T:TypeId}{y:Operand}{v:AV}(hv:ρ y=v)(hb:v.iX=true):lZ P (.box T y) ρ (h++l)=some (.ptr (h.length+l.length) 0, .push (.cells v.cells)):=by
 subst hv;unfold lZ;simp only[hb,cond_true,amO]
theorem OI{ρ:Operand->AV}{h l:anD ao}{T:TypeId}(hz:(iE P T).isSome=true):lZ P (.alloc T) ρ (h++l)=some (.ptr (h.length+l.length) 0, .push (.cells (TK P T))):=by
 unfold lZ TK;cases e:iE P T with
 |none=>rw[e]at hz;cases hz
 |some z=>simp only[e,amO]
theorem Hf{h l:anD ao}{B:ao}:(HD.push B).app (h++l)=h++(l++[B]):=by simp [HD.app]
theorem MC{ρ:Operand->AV}{h l:anD ao}{T:TypeId}{p y:Operand}{i off k:Nat}{cs:anD AV}{v:AV}(hp:ρ p= .ptr (h.length+i) off)(hi:l[i]?=some (.cells cs))(hk:fz P T=some k)(hv:ρ y=v)(hb:(k==v.cells.length&&v.iX&&bS (off+v.cells.length) cs.length)=true){bV:anD AV}(fZ:gM cs off v.cells=bV):
 lZ P (.store T p y) ρ (h++l)=some (.d (.v undef), .set (h.length+i) (.cells bV)):=by
 subst hv fZ;unfold lZ;simp only[hp,hk];rw[am3 (ant _ _),Nat.add_sub_cancel_left,hi];simp only[hb,cond_true]
theorem OY{ρ:Operand->AV}{h:anD ao}{T:TypeId}{a i:Operand}{xs:anD (anD D)}{q e k:Nat}{c:anD D}(hx:ρ a= .d (.sl xs))(hi:ρ i= .d (.v (.int .i64 (Int.ofNat q))))(hT:dQ P T=some (e,k))(hc:xs[q]?=some c)(hk:(c.length==k)=true):lZ P (.indexAddr T a i) ρ h=some (.ba [c] 0 0, .same):=by
 unfold lZ;simp only[hx,hi];unfold IB;simp only[hT,AV.eY,AV.int?,zN,hc,hk,cond_true,pX]
theorem Lp{h l:anD ao}{B:ao}{i:Nat}:(HD.set (h.length+i) B).app (h++l)=h++l.set i B:=by
 simp only[HD.app];rw[List.set_append_right _ _ (ant _ _),Nat.add_sub_cancel_left]
theorem JE{n d:Nat}{t:anD (Nat×AV)}{h:anD ao}{T:TypeId}{x y:Operand}{p:TypeId}{xs:anD (anD D)}{q:TypeId×Nat}(ho:o.op= .binOp .eql T x y p)(hx:(ev ⟨n,t,h⟩ x).eY=some xs)(hy:ev ⟨n,t,h⟩ y= .d (.v (.slice none 0 0)))(hT:dQ P T=some q)(jB:o.dst=some d)(hn:Nat.ble n d=false)
 (h1:xs=[]->K ⟨n,(d, .d (.v (.bool true)))::t,h⟩) (h2:K ⟨n,(d, .d (.v (.bool false)))::t,h⟩):rf P o K ⟨n,t,h⟩:=by
 refine .inr (.inl ?_);have aJ:d<n:=Nat.lt_of_not_le λhle=>by rw[Nat.ble_eq_true_of_le hle]at hn;cases hn
 unfold Fs;simp only[ho,hx,hy,hT,xw,jB,ur (s:=⟨n,t,h⟩) aJ];exact⟨h1,h2⟩
theorem Jr{n d k:Nat}{t:anD (Nat×AV)}{h:anD ao}{c:Call}{f:Operand}{x:AV}(ho:o.op= .call c)(hc:c.callee= .value f)(hf:ev ⟨n,t,h⟩ f= .cF k)(hx:c.args.toList.map (ev ⟨n,t,h⟩)=[x])(jB:o.dst=some d)(hn:Nat.ble n d=false)
 (hy:YS P k x h λb h'=>K ⟨n,(d, .d (.v (.bool b)))::t,h'⟩):rf P o K ⟨n,t,h⟩:=by
 refine .inr (.inr (.inr (.inl ?_)));unfold H9;simp only[ho,hc,hf,hx];refine hy.mono λb h' hK=> ?_;have aJ:d<n:=Nat.lt_of_not_le λhle=>by rw[Nat.ble_eq_true_of_le hle]at hn;cases hn
 rw[jB,ur (s:=St.wh ⟨n,t,h⟩ h') aJ];exact hK
theorem Ui{n:Nat}{t:anD (Nat×AV)}{h:anD ao}{c:Call}{f:Operand}{g:FuncId}{cN:anD AV}(ho:o.op= .call c)(hc:c.callee= .value f)(hf:ev ⟨n,t,h⟩ f= .fn g cN)
 (hA:cp P g (c.args.toList.map (ev ⟨n,t,h⟩)++cN) h λx h'=>K ((St.wh ⟨n,t,h⟩ h').put o.dst x)):rf P o K ⟨n,t,h⟩:=by
 refine .inr (.inr (.inl ?_));unfold qC cg;simp only[ho,hc,hf];exact hA
end
theorem aiI{P:anG}{f:FuncId}{args:anD AV}{H:anD ao}{K:AV->anD ao->Prop}(hc:cp P f args H K)(e:anD ao)(hb:H.all (ao.aH H.length)=true)(ha:args.all (AV.aH H.length)=true)
 (hK:∀r h',K r h'->h'.length=H.length/\h'.all (ao.aH H.length)=true/\r.aH H.length=true):cp P f args (H++e) λr h'=>∃H',K r H'/\h'=H'++e:=by
 have vZ:∀i,i<H.length->rn (List.range H.length) (H++e).length i=i:=λi h=>zG (List.range H.length) _ i i (by rw[List.getElem?_range h]);have Gn:∀y:AV,y.aH H.length=true->y.aG (rn (List.range H.length) (H++e).length)=y:=λy hy=>(xQ (τ:=id) vZ y hy).trans (Cx y);have EL:∀B:ao,B.aH H.length=true->B.aG (rn (List.range H.length) (H++e).length)=B:=λB hB=>(La (τ:=id) vZ B hB).trans (PC B);have:=hc.VO (l:=List.range H.length) (h:=H++e) List.nodup_range (λj hj=>by have:=List.mem_range.1 hj;simp;omega) (λi j qv=>by
  obtain⟨aJ,rfl⟩:i<H.length/\j=i:=by
   have h1:=(amN.1 qv).1;rw[List.length_range]at h1;rw[List.getElem?_range h1]at qv;exact⟨h1,(am6 qv).symm⟩
  rw[amX aJ,amR aJ,Option.map_some,EL _ (ane.1 hb _ (List.getElem_mem aJ))]) (by simp) ha hb
 have ea:args.map (AV.aG (rn (List.range H.length) (H++e).length))=args:=(anj λx hx=>Gn x (ane.1 ha x hx)).trans (List.map_id _);rw[ea]at this;refine this.mono λr' h' ⟨r,H',k1,k2,k3⟩=> ?_;obtain⟨c1,c2,c3⟩:=hK r H' k1;have hm:H'.map (ao.aG (rn (List.range H.length) (H++e).length))=H':=(anj λB hB=>EL B (ane.1 c2 B hB)).trans (List.map_id _);rw[hm,Tq H' H e c1]at k3;rw[Gn r c3]at k2;exact⟨H',by rw[k2];exact k1,k3⟩
theorem ac0{h:anD ao}{p:AV}{K K':anD AV->Nat->Prop}(hk:∀cs off,K cs off->K' cs off)(hp:sa h p K):sa h p K':=by
 unfold sa at hp ⊢;split at hp
 ·next n off=>
  split at hp
  ·next cs e=>(try simp only[e]);exact hk _ _ hp
  ·exact hp.elim
 ·next xs i off=>
  split at hp
  ·next cs e=>(try simp only[e]);exact hk _ _ hp
  ·exact hp.elim
 ·exact hp.elim
theorem ain{P:anG}{T:TypeId}{h:anD ao}{p:AV}{K K':AV->Prop}(hk:∀x,K x->K' x)(hp:oG P T h p K):oG P T h p K':=
 ac0 (λcs off hc=>by
  split at hc
  ·next k e1 e2=>
   try simp only[e1,e2]
   exact bw.2 ⟨(bw.1 hc).1,hk _ (bw.1 hc).2⟩
  ·next k e1 e2=>
   try simp only[e1,e2]
   split at hc
   ·next c e3=>(try simp only[e3]);exact hk _ hc
   ·exact hc.elim
  ·exact hc.elim) hp
theorem Z9{P:anG}{fn:Func}{n:Nat}{t:anD (Nat×AV)}{H l:anD ao}{K:AV->anD ao->Prop}(hb:H.all (ao.aH H.length)=true)(hr:mo P ⟨n,t,H++l⟩ fn.results.toList λrs=>((jt rs).aV H.length).aH H.length=true/\K ((jt rs).aV H.length) H):qG P fn H.length K ⟨n,t,H++l⟩:=by
 have ht:(((H++l).take H.length).map (ao.aV H.length))=H:=by rw[List.take_left];exact Ol hb
 unfold qG;show mo P ⟨n,t,H++l⟩ fn.results.toList λrs=>H.length<=(H++l).length/\_;simp only[ht];have gen:∀(rv:anD ResultVar){C C':anD AV->Prop},(∀x,C x->C' x)->mo P ⟨n,t,H++l⟩ rv C->mo P ⟨n,t,H++l⟩ rv C':=by
  intro rv
  induction rv with
  |nil=>intro C C' hc h;exact hc _ h
  |cons x rv ih=>
   intro C C' hc h;cases x with
   |tmp t=>exact ih (λy hy=>hc _ hy) h
   |cell p t=>exact ain (λx h=>ih (λy hy=>hc _ hy) h) h
 exact gen _ (λrs ⟨h1,h2⟩=>⟨by simp,h1,hb,h2⟩) hr
theorem BN{n:Nat}{t:anD (Nat×AV)}{H l:anD ao}(live:anD Nat)(hb:H.all (ao.aH H.length)=true):(⟨n,t,H++l⟩:St).mask live H.length=⟨n,live.map λk=>(k,(aY t k).aV H.length),H⟩:=by
 unfold St.mask;rw[show((H++l).take H.length).map (ao.aV H.length)=H by rw[List.take_left];exact Ol hb]
theorem DH{n:Nat}{t:anD (Nat×AV)}{H l:anD ao}(live:anD Nat)(hb:H.all (ao.aH H.length)=true)(hl:(live.all λk=>((aY t k).aV H.length).aH H.length)=true):(⟨n,t,H++l⟩:St).zk live H.length:=
 ⟨by simp,hl,by rw[show((H++l).take H.length).map (ao.aV H.length)=H by rw[List.take_left];exact Ol hb];exact hb⟩
theorem Zi{n:Nat}{t:anD (Nat×AV)}{H:anD ao}(live:anD Nat)(hb:H.all (ao.aH H.length)=true):(⟨n,t,H⟩:St).mask live H.length=⟨n,live.map λk=>(k,(aY t k).aV H.length),H⟩:=by
 have:=BN (n:=n) (t:=t) (l:=[]) live hb
 rwa [am8]at this
theorem Ul{n:Nat}{t:anD (Nat×AV)}{H:anD ao}(live:anD Nat)(hb:H.all (ao.aH H.length)=true)(hl:(live.all λk=>((aY t k).aV H.length).aH H.length)=true):(⟨n,t,H⟩:St).zk live H.length:=by
 have:=DH (n:=n) (t:=t) (l:=[]) live hb hl
 rwa [am8]at this
theorem IP{k m:Nat}(h:k<m):((AV.cF k).aV m).aH m=true:=by simp [AV.aV,AV.aH,bS];omega
structure J8(s:St)(m:Nat)(s':St):Prop where
 cut:∀{G:Gh}{w:World}{a:Act},cx G w a s->cx (G.cut m) w a s'
theorem J8.S{s s':St}{live:anD Nat}{m:Nat}(h:jA s live m=some s'):J8 s m s':=⟨λhs=>hs.jA h⟩
theorem ad7{P:anG}{r:anF Nat}{N0 m:Nat}{c:Code}{s:St}{R R':Exit->St->Prop}(hm:N0<=m)(h:bj P r N0 c R s)(hR:∀e s2,R e s2->∃s',J8 s2 m s'/\R' e s'):bj P r N0 c R' s:=by
 constructor
 intro G w a n hs hN;refine wpIn_mono (h.run G w a n hs hN) λe a1 w1 hn=> ?_;obtain⟨G1,s1,hE,_,eG,hq⟩:=hn;obtain⟨s',k1,k2⟩:=hR e s1 hq;exact⟨G1.cut m,s',hE.trans (pV _ _ _ _),hm,k1.cut eG,k2⟩
def I8(m:Nat)(n:Nat)(T:anD (Nat×AV))(LP:ao)(next:anD ao->Prop)(Q:Exit->St->Prop)(e:Exit)(s:St):Prop:=
 ∃hs,hs.length=m/\hs.all (ao.aH (m+1))=true/\J8 s (m+1) ⟨s.n,[],hs++[LP]⟩/\match e with
  | .normal=>next hs
  | .ret=>Q .ret ⟨n,T,hs++[.gone]⟩
  | .exit i=>Q (.exit i) ⟨n,T,hs++[.gone]⟩
  |_=>False
theorem OH{P:anG}{N0 n m:Nat}{T:anD (Nat×AV)}{H:anD ao}{Q:Exit->St->Prop}{g:Operand}{p:Nat}{as bd:Code}{gf:FuncId}{cN:anD AV}(hg:ev ⟨n,T,H⟩ g= .fn gf cN){α:Type}{enc:α->AV}{xs:anD α}(hI:Mw P gf cN (xs.map enc))
 {ι:Type} (Hs:ι->anD ao) (I:ι->anD α->Prop) (i0:ι) (h0:H=Hs i0) (tf:I i0 xs) (hl:∀i,(Hs i).length=m) (pG:∀i,(Hs i).all (ao.aH (m+1))=true) (hT:(dH n T).all (AV.aH (m+1))=true) (hp:Nat.ble n p=false)
 (round:∀i x l,I i (x::l)->∀(rr:Nat)(a b:Code),bj P (some rr) (m+1) as (ig (λs1=>∃hs e,hs.length=m/\s1.h=hs++ .lp .ready p a b (dH n T)::e/\
  bj P (some rr) (m+1) bd (I8 m n T (.lp .busy p a b (dH n T)) (λbP=>∃i',bP=Hs i'/\I i' l) Q) ⟨s1.n,s1.t,hs++ .lp .busy p a b (dH n T)::e⟩) (λ_ _=>False)) ⟨n,(p,enc x)::lk 0 (dH n T),Hs i++[.lp .ready p a b (dH n T)]⟩)
 (done:∀i,I i []->Q .normal ⟨n,T,Hs i++[.gone]⟩):bj P none N0 (.rangeFunc g #[p] as bd) Q ⟨n,T,H⟩:=by
 subst h0;have hm:(Hs i0).length=m:=hl i0;have Wp:(dH n T).length=n:=by simp [dH]
 have FV:∀ls,(ao.lp ls p as bd (dH n T)).aH (m+1)=true:=λls=>hT;refine agv hg ?_;show cp P gf (.cF (Hs i0).length::cN) (Hs i0++[.lp .ready p as bd (dH n T)]) _;have FO:∀(hs:anD ao)(B B':ao),hs.length=m->(hs++[B]).set m B'=hs++[B']:=λhs B B' h=>by
  rw[List.set_append_right _ _ (Nat.le_of_eq h),h,Nat.sub_self];rfl
 have dW:∀(hs:anD ao)(B:ao)(e:anD ao),hs.length=m->(hs++B::e)[m]?=some B:=λhs B e h=>by
  rw[am3 (Nat.le_of_eq h),h,Nat.sub_self];rfl
 have seq:∀(l:anD α)(i:ι),I i l->mZ P m (l.map enc) (λb h1=>∃(hs:anD ao)(ls:LS),hs.length=m/\h1=hs++[.lp ls p as bd (dH n T)]/\Rs P N0 Q ⟨n,T,hs++[.gone]⟩ ls) (Hs i++[.lp .ready p as bd (dH n T)]):=by
  intro l
  induction l with
  |nil=>intro i hi;exact⟨Hs i, .ready,hl i,rfl,done i hi⟩
  |cons x l ih=>
   intro i hi;have hlen:(Hs i++[ao.lp .ready p as bd (dH n T)]).length=m+1:=by simp [hl i]
   refine ZM ⟨p,as,bd,dH n T,dW _ _ [] (hl i),?_,λrr=> ?_⟩
   ·rw[Wp];exact Nat.lt_of_not_le λhle=>by rw[Nat.ble_eq_true_of_le hle]at hp;cases hp
   ·rw[hlen,Wp];refine(round i x l hi rr as bd).mono λe s1 eG=> ?_;cases e with
    |normal=>
     obtain⟨hs,e',k1,k2,k3⟩:=eG;refine⟨p,as,bd,dH n T,by rw[k2];exact dW _ _ _ k1,?_⟩;have hse:s1.h.set m (.lp .busy p as bd (dH n T))=hs++ .lp .busy p as bd (dH n T)::e':=by
      rw[k2,List.set_append_right _ _ (Nat.le_of_eq k1),k1,Nat.sub_self];rfl
     rw[hse];refine ad7 (amY _) k3 λe2 s2 hr=> ?_;obtain⟨vD,c2,c5,c3,c4⟩:=hr;refine⟨_,c3,?_⟩;have eR:∀B,B.aH (m+1)=true->(vD++[B]).all (ao.aH (m+1))=true:=λB hB=>by
       rw[List.all_append,c5];simp [hB]
     have DB:(vD++[ao.lp .busy p as bd (dH n T)])[m]?=some (.lp .busy p as bd (dH n T)):=dW _ _ [] c2;cases e2 with
     |normal=>
      obtain⟨i',rfl,dx⟩:=c4;refine⟨p,as,bd,dH n T,DB,?_⟩;simp only[FO _ _ _ c2];exact⟨⟨by simp [hl],eR _ (FV _)⟩,ih i' dx⟩
     |ret=>
      refine⟨p,as,bd,dH n T,DB,?_⟩;simp only[FO _ _ _ c2];exact⟨⟨by simp [c2],eR _ (FV _)⟩,vD, .done .ret,c2,rfl,dz c4⟩
     |exit j=>
      refine⟨p,as,bd,dH n T,DB,?_⟩;simp only[FO _ _ _ c2];exact⟨⟨by simp [c2],eR _ (FV _)⟩,vD, .done (.exit j),c2,rfl,x9 c4⟩
     |_=>exact c4.elim
    |_=>exact eG.elim
 have S2:(Hs i0++[ao.lp .ready p as bd (dH n T)]).length=m+1:=by simp [hm]
 refine(hI (Hs i0).length _ _ (by rw[S2,List.all_append,pG i0];simp [FV]) (by rw[S2,hm];exact anB m) (by rw[hm];exact seq xs i0 tf)).mono λ_ h1 hb=> ?_;obtain⟨b,hs,ls,k1,rfl,k2⟩:=hb;refine⟨ls,p,as,bd,dH n T,?_,?_⟩
 ·show(hs++[ao.lp ls p as bd (dH n T)])[(Hs i0).length]?=_;rw[hm];exact dW _ _ [] k1
 ·show Rs P N0 Q ⟨n,T,(hs++[ao.lp ls p as bd (dH n T)]).set (Hs i0).length .gone⟩ ls;rw[hm,FO _ _ _ k1];exact k2
section
variable {m n:Nat} {T:anD (Nat×AV)} {LP:ao} {next:anD ao->Prop} {Q:Exit->St->Prop} {s:St}
theorem KY(hs:anD ao)(hl:hs.length=m)(hb:hs.all (ao.aH (m+1))=true)(hc:jA s [] (m+1)=some ⟨s.n,[],hs++[LP]⟩)(hn:next hs):I8 m n T LP next Q .normal s:=⟨hs,hl,hb, .S hc,hn⟩
theorem XF(hs:anD ao)(hl:hs.length=m)(hb:hs.all (ao.aH (m+1))=true)(hc:jA s [] (m+1)=some ⟨s.n,[],hs++[LP]⟩)(hq:Q .ret ⟨n,T,hs++[.gone]⟩):I8 m n T LP next Q .ret s:=⟨hs,hl,hb, .S hc,hq⟩
theorem al1{i:Nat}(hs:anD ao)(hl:hs.length=m)(hb:hs.all (ao.aH (m+1))=true)(hc:jA s [] (m+1)=some ⟨s.n,[],hs++[LP]⟩)(hq:Q (.exit i) ⟨n,T,hs++[.gone]⟩):I8 m n T LP next Q (.exit i) s:=⟨hs,hl,hb, .S hc,hq⟩
end
set_option linter.unusedSimpArgs false
set_option linter.unusedVariables false
abbrev Lf:=St×anD Nat×anD (Nat×anD (In×bB))
def uT(go:Nat->anF (anD Lf)):anD Nat->anF (anD Lf)
 |[]=>some []
 |k::r=>match go k with
  |some a=>match uT go r with
   |some b=>some (a++b)
   |none=>none
  |none=>none
def yo(P:anG)(ops:Array Oper)(A C:anD Nat)(as:anD (Nat×bB)):Nat->Nat->anD Nat->anD (Nat×anD (In×bB))->St->anF (anD Lf)
 |0,L,al,acc,s=>match oI A L 0 with
  |[]=>some [(s,al,acc)]
  |_=>none
 |f+1,L,al,acc,s=>match oI A L 0 with
  |[]=>some [(s,al,acc)]
  |k0::r=>uT (λk=>match ops[k]? with
     |some o=>match nc P ops true o k as s with
      |some (s1,l)=>fN (L|||(1<<<k)) λL=>yo P ops A C as f L (al++List.replicate (s1.h.length-s.h.length) k) ((k,l)::acc) s1
      |none=>none
     |none=>none) (match w7 C L (k0::r)with
      |some k=>[k]
      |none=>k0::r)
theorem Yg{go:Nat->anF (anD Lf)}:∀{l:anD Nat}{ls:anD Lf},uT go l=some ls->∀k∈l,∃a,go k=some a/\∀x∈a,x∈ls
 |[],_,_,k,hk=>by cases hk
 |j::r,ls,h,k,hk=>by
  unfold uT at h;split at h
  ·next a e1=>
   split at h
   ·next b e2=>
    cases h
    rcases ani.1 hk with rfl|hk
    ·exact⟨a,e1,λx hx=>List.mem_append_left _ hx⟩
    ·obtain⟨a',e3,h3⟩:=Yg e2 k hk;exact⟨a',e3,λx hx=>List.mem_append_right _ (h3 x hx)⟩
   ·cases h
  ·cases h
section
variable {P:anG} {ops:Array Oper} {as:anD (Nat×bB)} {K:St->Prop} {s0:St}
theorem akR{o:Oper}{j:Nat}{dr:Bool}{s s1:St}{l:anD (In×bB)}(h:nc P ops dr o j as s=some (s1,l))(ho:o∈ops.toList)(hB:ln (nU ops.toList) s0 s):ln (nU ops.toList) s0 s1:=by
 have cI:∀{i a r l},um i a r=some (s1,l)->∃m,r=some (s1,m):=fun{i a r l} h=>by
  unfold um at h;split at h
  ·exact⟨_,h⟩
  ·split at h
   ·cases h;exact⟨_,rfl⟩
   ·cases h
 have cR:∀{m r l},qX m r=some (s1,l)->∃m,r=some (s1,m):=fun{m r l} h=>by
  unfold qX at h;split at h
  ·cases h;exact⟨_,rfl⟩
  ·cases h
 have Zn:ln (nU ops.toList) s0 (Bb o s):=hB.put s.h (.d (.v undef)) (FJ ho);have st:∀l,ny P dr o j as s=some (s1,l)->ln (nU ops.toList) s0 s1:=λl h=>by
  unfold ny at h;cases hd:dr&&zu (ij as (3*j+1))&& !y5 o (ij as (3*j+1))with
  |true=>rw[hd]at h;cases h
  |false=>
   rw[hd]at h;simp only[cond_false]at h;split at h
   ·split at h<;>(obtain⟨m,e⟩:=cI h;cases e;exact hB.put _ _ (FJ ho))
   ·cases h
 unfold nc at h;split at h
 ·exact st _ h
 ·split at h
  ·obtain⟨m,e⟩:=cR h;revert e;generalize ((_:Bool)==_)=q;intro e;cases q with
   |true=>exact st _ e
   |false=>cases e;exact Zn
  ·obtain⟨m,e⟩:=cR h;cases e;exact Zn
  ·cases h
theorem YW(hK:q6 K)(hM:n9 (Region.before ops) ops=true)(t0:anD (Nat×AV)):
 ∀(fuel L:Nat)(listed:Array Bool)(al:anD Nat)(acc:anD (Nat×anD (In×bB)))(s:St)(ls:anD Lf),LM ops L listed->Dn ops listed->yo P ops (og ops 0 ops.size) (jQ ops false (Region.before ops) 0 ops.size) as fuel L al acc s=some ls->
  (∃x,x∈ls)/\(∀x∈ls,(∀p∈acc,p∈x.2.2)/\((∃pre,s.t=pre++t0)->∃pre,x.1.t=pre++t0)/\(ln (nU ops.toList) s0 s->ln (nU ops.toList) s0 x.1))/\((∀x∈ls,(∀p∈x.2.2,fA P p.2)/\K x.1)->j6 false P ops K fuel listed s)
 |0,L,listed,al,acc,s,ls,hL,hD,h=>by
  unfold yo at h;split at h
  ·next hr=>
   cases h
   refine⟨⟨_,amT⟩,λx hx=> ?_,λhk=>⟨?_,(hk _ amT).2⟩⟩
   ·rw[List.mem_singleton]at hx;subst hx;exact⟨λ_ h=>h,λh=>h,λh=>h⟩
   ·rw[List.eq_nil_iff_forall_not_mem];intro i hi;have:=(hL.ready i).1 hi;rw[hr]at this;cases this
  ·cases h
 |fuel+1,L,listed,al,acc,s,ls,hL,hD,h=>by
  have mem:∀{k:Nat}{o:Oper},ops[k]?=some o->o∈ops.toList:=λho=>Array.mem_toList_iff.2 (Array.mem_of_getElem? ho);unfold yo at h;split at h
  ·next hr=>
   cases h
   refine⟨⟨_,amT⟩,λx hx=> ?_,λhk=>⟨λ_=>(hk _ amT).2,λi hi=> ?_⟩⟩
   ·rw[List.mem_singleton]at hx;subst hx;exact⟨λ_ h=>h,λh=>h,λh=>h⟩
   ·have:=(hL.ready i).1 hi;rw[hr]at this;cases this
  ·next k0 r hr=>
   generalize hgo:(λk:Nat=>(match ops[k]? with
    |some o=>match nc P ops true o k as s with
     |some (s1,l)=>fN (L|||(1<<<k)) λL=>yo P ops (og ops 0 ops.size) (jQ ops false (Region.before ops) 0 ops.size) as fuel L (al++List.replicate (s1.h.length-s.h.length) k) ((k,l)::acc) s1
     |none=>none
    |none=>none:anF (anD Lf)))=go at h
   have one:∀k a,k∈Region.ready .any ops listed->go k=some a->∃o s1 l,ops[k]?=some o/\nc P ops true o k as s=some (s1,l)/\(∃x,x∈a)/\(∀x∈a,(∀p∈(k,l)::acc,p∈x.2.2)/\((∃pre,s.t=pre++t0)->∃pre,x.1.t=pre++t0)/\(ln (nU ops.toList) s0 s->ln (nU ops.toList) s0 x.1))/\
       ((∀x∈a,(∀p∈x.2.2,fA P p.2)/\K x.1)->∃y h1,l5 false P ops o s y h1/\j6 false P ops K fuel (listed.setIfInBounds k true) ((s.wh h1).put o.dst y)):=λk a ub uV=>by
    rw[<-hgo]at uV;simp only at uV;split at uV
    ·next o ho=>
     split at uV
     ·next s1 l hg=>
      rw[zX]at uV;obtain⟨h1,h2,h3⟩:=YW hK hM t0 fuel _ _ _ _ s1 a (hL.set (am2.1 ho).1) (hD.set ub) uV;refine⟨o,s1,l,ho,hg,h1,λx hx=>⟨(h2 x hx).1,fun⟨pre,hp⟩=> ?_,λhB=>(h2 x hx).2.2 (akR hg (mem ho) hB)⟩,λhk=> ?_⟩
      ·obtain⟨⟨p1,e1⟩,_⟩:=Nn hg;exact(h2 x hx).2.1 ⟨p1++pre,by rw[e1,hp,am4]⟩
      ·obtain⟨x,hx⟩:=h1;have hl:fA P l:=(hk x hx).1 (k,l) ((h2 x hx).1 _ amT);have h4:=ON (K:=(·=s1)) hg hl rfl;have h5:=h3 hk;have:∃y h1,l5 false P ops o s y h1/\(s.wh h1).put o.dst y=s1:=by
        rcases Jl h4 with⟨g,hd⟩|⟨g,hd⟩
        ·obtain⟨y,h1,h2,h3⟩:=Hi hd;exact⟨y,h1, .inl ⟨g,h2⟩,h3⟩
        ·exact⟨_,s.h, .inr ⟨g,rfl,rfl⟩,hd⟩
       obtain⟨y,hh,q1,rfl⟩:=this;exact⟨y,hh,q1,h5⟩
     ·cases uV
    ·cases uV
   cases hf:w7 (jQ ops false (Region.before ops) 0 ops.size) L (k0::r)with
   |some k=>
    rw[hf]at h;obtain⟨jc,ry⟩:=Fb hf;have ub:k∈Region.ready .any ops listed:=(hL.ready k).2 (by rw[hr];exact jc);unfold uT at h;split at h
    ·next a e1=>
     unfold uT at h;simp only[am8]at h;cases h
     obtain⟨o,s1,l,ho,hg,h1,h2,h3⟩:=one k _ ub e1;refine⟨h1,λx hx=>⟨λp hp=>(h2 x hx).1 p (amW _ hp),(h2 x hx).2⟩,λhk=> ?_⟩;obtain⟨y,hh,q1,q2⟩:=h3 hk;refine GC hK hM ho fuel listed s hD (λj oj hj ck o8 rH=> ?_) ub q1 q2;have Dg:=(am2.1 hj).1;have n5:=(am2.1 ho).1;have My:Nat.testBit L j=false:=by
      rw[hL.b];have iy:j<listed.size:=by rw[hL.sz];exact Dg
      simpa [iy]using o8
     have nE:Nat.testBit (uM ops false (Region.before ops) k) j=false:=by
      rw[<-Bool.not_eq_true];intro hc;have h5:(jQ ops false (Region.before ops) 0 ops.size).getD k 0=uM ops false (Region.before ops) k:=by
        rw[List.getD_eq_getElem?_getD,NI,if_pos n5,am7];rfl
      rw[h5]at ry;have:=congrArg (λn=>Nat.testBit n j) ry;simp only[Nat.testBit_or,hc,My]at this;cases this
     unfold uM at nE;rw[A7]at nE;unfold NC at nE;rw[rH,ho,hj]at nE;simp [Dg,ck]at nE;exact nE
    ·cases h
   |none=>
    rw[hf]at h;have We:=Yg h;have yI:k0∈Region.ready .any ops listed:=(hL.ready k0).2 (by rw[hr];simp);have back:∀(l:anD Nat)(ls:anD Lf),uT go l=some ls->∀x∈ls,∃k∈l,∃a,go k=some a/\x∈a:=by
      intro l
      induction l with
      |nil=>intro ls h x hx;cases h;cases hx
      |cons j r ih=>
       intro ls h x hx;unfold uT at h;split at h
       ·next a e1=>
        split at h
        ·next b e2=>
         cases h
         rcases anq.1 hx with hx|hx
         ·exact⟨j,amT,a,e1,hx⟩
         ·obtain⟨k,hk,a',h1,h2⟩:=ih b e2 x hx;exact⟨k,amW _ hk,a',h1,h2⟩
        ·cases h
       ·cases h
    refine⟨?_,λx hx=> ?_,λhk=>⟨λe=>(by rw[e]at yI;cases yI),λi hi oi Jb=> ?_⟩⟩
    ·obtain⟨a,e1,h1⟩:=We k0 amT;obtain⟨o,s1,l,ho,hg,⟨x,hx⟩,_⟩:=one k0 a yI e1;exact⟨x,h1 x hx⟩
    ·obtain⟨k,hk,a,e1,Ws⟩:=back _ _ h x hx;obtain⟨o,s1,l,ho,hg,h1,h2,h3⟩:=one k a ((hL.ready k).2 (by rw[hr];exact hk)) e1;exact⟨λp hp=>(h2 x Ws).1 p (amW _ hp),(h2 x Ws).2⟩
    ·have dx:i∈k0::r:=by rw[<-hr];exact(hL.ready i).1 hi
     obtain⟨a,e1,h1⟩:=We i dx;obtain⟨o,s1,l,ho,hg,_,_,h3⟩:=one i a hi e1;rw[ho]at Jb;cases Jb;exact h3 λx hx=>hk x (h1 x hx)
end
def Qn(k:Nat):anD Nat->Nat
 |[]=>0
 |j::l=>bif bS (j+1) k then Qn k l+1 else Qn k l
def MU(k:Nat):anD Nat->Nat
 |[]=>0
 |j::l=>bif j==k then MU k l+1 else MU k l
def Mh(h0:Nat)(all:anD Nat):anD Nat->anD Nat->anD Nat
 |_,[]=>[]
 |pre,k::l=>fN (h0+Qn k all+MU k pre) λq=>q::Mh h0 all (k::pre) l
def Xh(q:Nat):anD Nat->Nat->Nat
 |[],i=>i
 |x::l,i=>bif x==q then i else Xh q l (i+1)
def QV(h0:Nat)(p:anD Nat):Nat->Nat->anD Nat
 |0,_=>[]
 |n+1,q=>fN (Xh q p h0) λi=>i::QV h0 p n (q+1)
def Fk(a:Nat×anD (In×bB)):anD (Nat×anD (In×bB))->anD (Nat×anD (In×bB))
 |[]=>[a]
 |b::l=>bif bS a.1 b.1 then a::b::l else b::Fk a l
def Cm:anD (Nat×anD (In×bB))->anD (Nat×anD (In×bB))
 |[]=>[]
 |a::l=>Fk a (Cm l)
def Jv:anD (Nat×anD (In×bB))->anD (In×bB)
 |[]=>[]
 |a::l=>a.2++Jv l
def rU(p q:anD Nat)(h0:Nat)(h:anD ao):Nat->Nat->anD ao
 |0,_=>[]
 |n+1,i=>(match h[eV h0 q i]? with|some B=>B.aG (eV h0 p)|none=> .gone)::rU p q h0 h n (i+1)
def y8(h0:Nat)(p:anD Nat):Bool:=(List.range p.length).all λi=>p.getD i 0==h0+i
theorem ahJ{h0:Nat}{p:anD Nat}(h:y8 h0 p=true):eV h0 p=id:=by
 funext i
 unfold eV;cases e:bS h0 i with
 |false=>rfl
 |true=>
  rw[dy]at e;simp only[cond_true,id];by_cases hi:i-h0<p.length
  ·unfold y8 at h;rw[ane]at h;have:=h (i-h0) (List.mem_range.2 hi);rw[beq_iff_eq,List.getD_eq_getElem?_getD,amR hi]at this;rw[List.getD_eq_getElem?_getD,amR hi];simp only[Option.getD_some]at this ⊢;omega
  ·rw[List.getD_eq_getElem?_getD,ank (by omega)];rfl
def UR(keep:anD Nat)(s:St)(x:Lf)(p q:anD Nat):anF (anD (Nat×AV)×anD ao×anD (In×bB)):=
 bif (x.1.t.take (x.1.t.length-s.t.length)).all (λp=>keep.any (·==p.1)||Yo (aY s.t p.1))&&(List.range x.1.h.length).all (λi=>bS (eV s.h.length p i+1) x.1.h.length&&bS (eV s.h.length q i+1) x.1.h.length&&eV s.h.length q (eV s.h.length p i)==i&&eV s.h.length p (eV s.h.length q i)==i)
 then some (keep.map λk=>(k,(aY x.1.t k).aG (eV s.h.length p)),bif y8 s.h.length p then x.1.h else rU p q s.h.length x.1.h x.1.h.length 0,Jv (Cm x.2.2))else none
def I3(keep:anD Nat)(s:St)(x:Lf):anF (anD (Nat×AV)×anD ao×anD (In×bB)):=
 fL (Mh s.h.length x.2.1 [] x.2.1) λp=>fL (QV s.h.length p p.length s.h.length) λq=>UR keep s x p q
def FA(keep:anD Nat)(s:St):anD Lf->anF (anD (anD (Nat×AV)×anD ao×anD (In×bB)))
 |[]=>some []
 |x::l=>match I3 keep s x with
  |some a=>match FA keep s l with
   |some b=>some (a::b)
   |none=>none
  |none=>none
def yF(P:anG)(ol:anD Oper)(as:anD (Nat×bB))(keep:anD Nat)(s:St):anF (anD (anD (Nat×AV)×anD ao×anD (In×bB))):=
 bif n9 (Region.before ol.toArray) ol.toArray then fL (og ol.toArray 0 ol.toArray.size) λA=>fL (jQ ol.toArray false (Region.before ol.toArray) 0 ol.toArray.size) λC=>
  match yo P ol.toArray A C as ol.toArray.size 0 [] [] s with
  |some ls=>FA keep s ls
  |none=>none
 else none
theorem MN{keep:anD Nat}{s:St}:∀{ls:anD Lf}{r},FA keep s ls=some r->∀x∈ls,∃a∈r,I3 keep s x=some a
 |[],_,_,x,hx=>by cases hx
 |y::l,r,h,x,hx=>by
  unfold FA at h;split at h
  ·next a e1=>
   split at h
   ·next b e2=>
    cases h
    rcases ani.1 hx with rfl|hx
    ·exact⟨a,amT,e1⟩
    ·obtain⟨a',h1,h2⟩:=MN e2 x hx;exact⟨a',amW _ h1,h2⟩
   ·cases h
  ·cases h
theorem TD{a x:Nat×anD (In×bB)}:∀{l:anD (Nat×anD (In×bB))},x∈Fk a l↔x=a\/x∈l
 |[]=>by simp [Fk]
 |b::l=>by
  unfold Fk;cases bS a.1 b.1 with
  |true=>simp
  |false=>
   simp only[cond_false,ani,TD (l:=l)];constructor
   ·rintro(h|h|h)
    ·exact .inr (.inl h)
    ·exact .inl h
    ·exact .inr (.inr h)
   ·rintro(h|h|h)
    ·exact .inr (.inl h)
    ·exact .inl h
    ·exact .inr (.inr h)
theorem Vb{x:Nat×anD (In×bB)}:∀{l:anD (Nat×anD (In×bB))},x∈Cm l↔x∈l
 |[]=>by simp [Cm]
 |a::l=>by rw[Cm,TD,Vb (l:=l),ani]
theorem UP{P:anG}:∀{l:anD (Nat×anD (In×bB))},fA P (Jv l)->∀p∈l,fA P p.2
 |[],_,p,hp=>by cases hp
 |a::l,h,p,hp=>by
  unfold Jv at h;rcases ani.1 hp with rfl|hp
  ·exact λq hq=>h q (List.mem_append_left _ hq)
  ·exact UP (λq hq=>h q (List.mem_append_right _ hq)) p hp
theorem Ss{p q:anD Nat}{h0:Nat}{h:anD ao}:∀(n i j:Nat),(rU p q h0 h n i)[j]?=if j<n then some (match h[eV h0 q (i+j)]? with|some B=>B.aG (eV h0 p)|none=> .gone)else none
 |0,i,j=>by simp [rU]
 |n+1,i,0=>by simp [rU]
 |n+1,i,j+1=>by
  rw[rU,anp,Ss n (i+1) j];simp only[Nat.add_lt_add_iff_right];rw[show i+1+j=i+(j+1) by omega]
theorem Y5{p q:anD Nat}{h0:Nat}{h:anD ao}:∀(n i:Nat),(rU p q h0 h n i).length=n
 |0,_=>rfl
 |n+1,i=>by rw[rU,amQ,Y5 n]
theorem Zh{P:anG}{ops:Array Oper}{N0:Nat}{keep:anD Nat}{s:St}{x:Lf}{Δ:anD (Nat×AV)}{h':anD ao}{ps:anD (In×bB)}(h:I3 keep s x=some (Δ,h',ps))(hN:N0<=s.h.length)(ng:∀i,(aY s.t i).aH s.h.length=true)
 (hn:x.1.n=s.n) (hp:∃pre,x.1.t=pre++s.t) (bA:fA P ps):iN N0 x.1 ⟨s.n,Δ++s.t,h'⟩/\∀p∈x.2.2,fA P p.2:=by
 unfold I3 at h;rw[xG,xG]at h;generalize Mh s.h.length x.2.1 [] x.2.1=p at h;generalize QV s.h.length p p.length s.h.length=q at h;unfold UR at h;obtain⟨hb,he⟩:=dF h;cases he
 rw[amP]at hb;obtain⟨hb,hc⟩:=hb;simp only[ane,List.mem_range,amP,beq_iff_eq,dy]at hc;have x7:∀i,i<s.h.length->eV s.h.length p i=i:=λi hi=>by
   unfold eV;have:bS s.h.length i=false:=by rw[<-Bool.not_eq_true,dy];omega
   rw[this];rfl
 refine⟨?_,λy hy=>UP bA y (Vb.2 hy)⟩;refine iN.aG (eV s.h.length p) (eV s.h.length q) hn (by
  cases y8 s.h.length p with
  |true=>rfl
  |false=>exact Y5 _ _) (λi hi=>(hc i hi).1.1.1) (λi hi=>(hc i hi).1.1.2) (λi hi=>(hc i hi).1.2) (λi hi=>(hc i hi).2) (λi hi=>x7 i (by omega)) (λi _=> ?_) λi hi=> ?_
 ·obtain⟨pre,e1⟩:=hp;have Ft:∀(f:Nat->AV),(keep.map λk=>(k,f k)).map (·.1)=keep:=λf=>by rw[List.map_map];exact List.map_id _
  show aY ((keep.map λk=>(k,(aY x.1.t k).aG (eV s.h.length p)))++s.t) i=_\/_;rcases BK (keep.map λk=>(k,(aY x.1.t k).aG (eV s.h.length p))) s.t i with⟨h1,h2⟩|⟨h1,h2⟩
  ·rw[Ft]at h1;rw[h2,sb (λk=>(aY x.1.t k).aG (eV s.h.length p)),if_pos h1];exact .inl rfl
  ·rw[Ft]at h1;show _\/aY ((keep.map λk=>(k,(aY x.1.t k).aG (eV s.h.length p)))++s.t) i=_;rw[h2];rw[e1,amO,Nat.add_sub_cancel,List.take_left']at hb
   ·rw[e1];rcases BK pre s.t i with⟨h3,h4⟩|⟨h3,h4⟩
    ·right
     obtain⟨y,hy,rfl⟩:=List.mem_map.1 h3;have:=ane.1 hb y hy;rw[Bool.or_eq_true]at this;rcases this with this|this
     ·exfalso;obtain⟨k,hk,e⟩:=List.any_eq_true.1 this;rw[beq_iff_eq]at e;exact h1 (e▸hk)
     ·generalize aY s.t y.1=z at this;cases z<;>first|rfl|cases this
    ·left
     rw[h4,xQ (τ:=id) x7 _ (ng i),Cx]
   ·rfl
 ·show(bif y8 s.h.length p then x.1.h else rU p q s.h.length x.1.h x.1.h.length 0)[eV s.h.length p i]?=_;cases hid:y8 s.h.length p with
  |true=>rw[ahJ hid];simp only[cond_true,id];rw[amR hi,Option.map_some,PC]
  |false=>
  simp only[cond_false];rw[Ss,if_pos (Nat.lt_of_succ_le (hc i hi).1.1.1),am7,(hc i hi).1.2,amR hi];rfl
theorem XD{P:anG}{ol:anD Oper}{as:anD (Nat×bB)}{keep:anD Nat}{s:St}{Δ:anD (Nat×AV)}{h':anD ao}{ps:anD (In×bB)}{m N0:Nat}{K:St->Prop}(h:yF P ol as keep s=some (List.replicate m (Δ,h',ps)))(bA:fA P ps)(hN:N0<=s.h.length)(ng:∀i,(aY s.t i).aH s.h.length=true)(hK:BJ N0 K)(hk:K ⟨s.n,Δ++s.t,h'⟩):
 j6 false P ol.toArray K ol.toArray.size (Array.replicate ol.toArray.size false) s:=by
 unfold yF at h;obtain⟨hM,h⟩:=kF h;rw[xG,xG]at h;split at h
 ·next ls e1=>
  obtain⟨_,h2,h3⟩:=YW (s0:=s) hK.c hM s.t _ 0 (Array.replicate ol.toArray.size false) _ _ s ls ⟨by simp,λi=>by
   rw[Nat.zero_testBit,Array.getD_eq_getD_getElem?,Array.getElem?_replicate];split<;>rfl⟩ (λj o ho hj=>by
   exfalso;rw[Array.getD_eq_getD_getElem?]at hj;rw[Array.getElem?_replicate]at hj;split at hj<;>simp at hj) e1
  refine h3 λx hx=> ?_;obtain⟨a,ha,e2⟩:=MN h x hx;rw[List.mem_replicate]at ha;obtain⟨_,rfl⟩:=ha;obtain⟨k1,k2⟩:=Zh (P:=P) (ops:=ol.toArray) e2 hN ng ((h2 x hx).2.2 (ln.refl _ _)).n ((h2 x hx).2.1 ⟨[],rfl⟩) bA;exact⟨k2,hK _ _ k1 hk⟩
 ·cases h
section
variable {P:anG} {r:anF Nat} {N0 id n:Nat} {ol:anD Oper} {y:Code} {t:anD (Nat×AV)} {h:anD ao} {Q Q':Exit->St->Prop}
theorem rtE(m:Nat)(hm:P.follows .mixedOrders=true)(Δ:anD (Nat×AV))(h':anD ao)(e:∃az:anD (Nat×Ob P),yF P ol (iD az) (Δ.map (·.1)) ⟨n,t,h⟩=some (List.replicate m (Δ,h',iS az)))(k:bj P r N0 y Q' ⟨n,Δ++t,h'⟩):bj P r N0 (.region id ol.toArray true) (ig (λs=>bj P r N0 y Q' s) Q) ⟨n,t,h⟩:=
 let ⟨az,e⟩:=e
 Om hm λhN ng=>XD e (ru az) hN ng (Rp _) ⟨_,iN.refl _ _,k⟩
theorem rt(m:Nat)(hm:P.follows .mixedOrders=true)(az:anD (Nat×Ob P))(Δ:anD (Nat×AV))(h':anD ao)(e:yF P ol (iD az) (Δ.map (·.1)) ⟨n,t,h⟩=some (List.replicate m (Δ,h',iS az)))(k:bj P r N0 y Q' ⟨n,Δ++t,h'⟩):bj P r N0 (.region id ol.toArray true) (ig (λs=>bj P r N0 y Q' s) Q) ⟨n,t,h⟩:=rtE m hm Δ h' ⟨az,e⟩ k
theorem rte(m:Nat)(hm:P.follows .mixedOrders=true)(az:anD (Nat×Ob P))(Δ:anD (Nat×AV))(h':anD ao)(e:yF P ol (iD az) (Δ.map (·.1)) ⟨n,t,h⟩=some (List.replicate m (Δ,h',iS az)))(k:Q .normal ⟨n,Δ++t,h'⟩):bj P r N0 (.region id ol.toArray true) Q ⟨n,t,h⟩:=
 Om hm λhN ng=>XD e (ru az) hN ng (Rp _) ⟨_,iN.refl _ _,k⟩
end
theorem Fz{f:AV->AV}(hf:∀d,f (.d d)= .d d)(xs:anD (anD D)):(bG xs).map (·.map f)=bG xs:=by
 unfold bG;rw[List.map_map];refine anj λc _=> ?_;simp only[Function.comp,List.map_map];exact anj λd _=>hf d
theorem JI(xs:anD (anD D)):(bG xs).length=xs.length:=by unfold bG;rw[amS]
theorem YA{xs:anD (anD D)}{i:Nat}{c:anD D}(h:xs[i]?=some c):(bG xs)[i]?=some (c.map .d):=by unfold bG;rw[amU,h];rfl
theorem Vz(xs:anD (anD D))(i:Nat)(c:anD D):bG (xs.set i c)=(bG xs).set i (c.map .d):=by unfold bG;rw[List.map_set]
theorem bO{cs:anD AV}{l:anD ao}(h:VD l):VD (.cells cs::l):=⟨trivial,h⟩
theorem gp{kv:anD (anE×D)}{l:anD ao}(h:VD l):VD (.map kv::l):=⟨trivial,h⟩
def ao.qS(m:Nat):ao->ao
 | .vec e k cs=> .vec e k cs
 |B=>B.aV m
def ao.Ap:ao->ao
 | .vec e k cs=> .vec e k cs
 |B=>B.py
def ao.Az(m:Nat):ao->Prop
 | .vec _ _ cs=>cs.map (·.map (AV.aV m))=cs/\cs.all (·.all (AV.aH m))=true
 |_=>True
def VDm(m:Nat):anD ao->Prop
 |[]=>True
 |B::l=>B.Az m/\VDm m l
section
variable {m:Nat} {l:anD ao}
theorem pf:VDm m []:=trivial
theorem qH{B:ao}(hB:B.Az m)(h:VDm m l):VDm m (B::l):=⟨hB,h⟩
theorem YJ(xs:anD (anD D)):(bG xs).all (·.all (AV.aH m))=true:=by simp [bG,AV.aH]
theorem vX{e k:Nat}{xs:anD (anD D)}(h:VDm m l):VDm m (.vec e k (bG xs)::l):=⟨⟨Fz (λd=>by simp [AV.aV]) _,YJ _⟩,h⟩
theorem vmR{e k i:Nat}{xs:anD (anD D)}{r:anD AV}(h1:r.map (AV.aV m)=r)(h2:r.all (AV.aH m)=true)(h:VDm m l):VDm m (.vec e k ((bG xs).set i r)::l):=by
 refine⟨⟨by rw[List.map_set,Fz (λd=>by simp [AV.aV]),h1],?_⟩,h⟩;rw[ane];intro c hc;rcases List.mem_or_eq_of_mem_set hc with hc|rfl
 ·exact ane.1 (YJ (m:=m) xs) c hc
 ·exact h2
theorem VDm.mem:∀{l:anD ao},VDm m l->∀B∈l,B.Az m
 |[],_,B,hB=>by cases hB
 |_::_,h,B,hB=>by
  rcases ani.1 hB with rfl|hB
  ·exact h.1
  ·exact VDm.mem h.2 B hB
end
theorem ai8{m:Nat}{B:ao}(h:B.Az m):B.qS m=B.aV m:=by
 cases B with
 |vec e k cs=>simp only[ao.qS,ao.aV];rw[h.1]
 |_=>rfl
theorem ajK{m:Nat}{B:ao}(h:B.Az m)(hl:(B.qS m).uu m=true):(B.aV m).aH m=true:=by
 cases B with
 |vec e k cs=>simp only[ao.aV,ao.aH];rw[h.1];exact h.2
 |_=>exact hl
theorem Wh{G:Gh}{w:anI}{h:anD ao}(hi:bC G w h):bC G w (h.map ao.Ap):=by
 have dP:∀n,bz (h.map ao.Ap) G n=bz h G n:=λn=>by
  unfold bz;rw[amU];cases h[n]? with
  |none=>rfl
  |some B=>cases B<;>rfl
 have h2:=QK hi;refine⟨by rw[amS];exact hi.len,hi.z,hi.S,λn B hB=> ?_,λm n x hm hn=>hi.inj m n x (by rw[<-dP];exact hm) (by rw[<-dP];exact hn),hi.gl⟩;rw[amU]at hB;cases h1:h[n]? with
 |none=>rw[h1]at hB;cases hB
 |some B'=>
  rw[h1]at hB;cases hB
  have h3:=h2.cT n B'.py (by rw[amU,h1];rfl);cases B' with
  |vec e k cs=>exact hi.cT n _ h1
  |_=>exact h3
def uP(kn:anD (Nat×Nat))(n:Nat):Nat->anD AV->anD AV
 |_,[]=>[]
 |i,x::l=>(bif kn.any (λp=>p.1==n&&p.2==i)then x else x.nrm)::uP kn n (i+1) l
def ao.Yc(kn:anD (Nat×Nat))(n:Nat):ao->ao
 | .cells cs=> .cells (uP kn n 0 cs)
 |B=>B.Ap
def pn(kn:anD (Nat×Nat)):Nat->anD ao->anD ao
 |_,[]=>[]
 |n,B::l=>B.Yc kn n::pn kn (n+1) l
theorem RU(kn:anD (Nat×Nat))(n:Nat):∀(j:Nat)(cs:anD AV),(uP kn n j cs).length=cs.length
 |_,[]=>rfl
 |j,x::l=>by rw[uP,amQ,RU kn n (j+1) l,amQ]
theorem S5(kn:anD (Nat×Nat))(n:Nat):∀(j:Nat)(cs:anD AV)(i:Nat)(c':AV),(uP kn n j cs)[i]?=some c'->∃c,cs[i]?=some c/\(c'=c\/c'=c.nrm)
 |_,[],i,c',h=>by simp [uP]at h
 |j,x::l,0,c',h=>by
  simp only[uP,List.getElem?_cons_zero,Option.some.injEq]at h;refine⟨x,rfl,?_⟩;cases hk:kn.any (λp=>p.1==n&&p.2==j)with
  |true=>rw[hk]at h;exact .inl h.symm
  |false=>rw[hk]at h;exact .inr h.symm
 |j,x::l,i+1,c',h=>by
  simp only[uP,anp]at h;obtain⟨c,h1,h2⟩:=S5 kn n (j+1) l i c' h;exact⟨c,by simpa using h1,h2⟩
theorem LL(kn:anD (Nat×Nat)):∀(j:Nat)(h:anD ao)(i:Nat)(B':ao),(pn kn j h)[i]?=some B'->∃B,h[i]?=some B/\B'=B.Yc kn (j+i)
 |_,[],i,B',h=>by simp [pn]at h
 |j,B::l,0,B',h=>by simp only[pn,List.getElem?_cons_zero,Option.some.injEq]at h;exact⟨B,rfl,h.symm⟩
 |j,B::l,i+1,B',h=>by
  simp only[pn,anp]at h;obtain⟨C,h1,h2⟩:=LL kn (j+1) l i B' h;exact⟨C,by simpa using h1,by rw[h2];congr 1;omega⟩
theorem Ut(kn:anD (Nat×Nat)):∀(j:Nat)(h:anD ao),(pn kn j h).length=h.length
 |_,[]=>rfl
 |j,B::l=>by rw[pn,amQ,Ut kn (j+1) l,amQ]
theorem alg{G:Gh}{w:anI}{h:anD ao}(kn:anD (Nat×Nat))(hi:bC G w h):bC G w (pn kn 0 h):=by
 have dP:∀n x,bz (pn kn 0 h) G n=some x->bz h G n=some x:=λn x hx=>by
  obtain⟨B',hB,h1⟩:=oB hx;obtain⟨B,h2,rfl⟩:=LL kn 0 h n B' hB;rw[di h2,<-h1];cases B<;>rfl
 have h2:=Wh hi;refine⟨by rw[Ut];exact hi.len,hi.z,hi.S,λn B' hB=> ?_,λm n x hm hn=>hi.inj m n x (dP m x hm) (dP n x hn),hi.gl⟩;obtain⟨B,h1,rfl⟩:=LL kn 0 h n B' hB;cases B with
 |cells cs=>
  obtain⟨c1,c2,vs,T,c3,c4,c5⟩:=hi.cT n _ h1;refine⟨c1,c2,vs,T,c3,by rw[RU];exact c4,λi u c hu hc=> ?_⟩;obtain⟨c0,h3,h4|h4⟩:=S5 _ _ _ _ _ _ hc
  ·rw[h4];exact c5 i u c0 hu h3
  ·rw[h4];exact(c5 i u c0 hu h3).nrm
 |_=>exact h2.cT n _ (by rw[amU,h1];rfl)
def mv(s:St)(live:anD Nat)(m:Nat)(ks:anD Nat)(kn:anD (Nat×Nat)):anF St:=
 bif bS m s.h.length&&(live.all λk=>((aY s.t k).aV m).aH m)&&(((s.h.take m).map (ao.qS m)).all (ao.uu m))then some ⟨s.n,live.map λk=>(k,bif ks.any (·==k)then(aY s.t k).aV m else(aY s.t k).fin m),pn kn 0 ((s.h.take m).map (ao.qS m))⟩else none
theorem SU{h:anD ao}{m:Nat}(hd:VDm m (h.take m)):(h.take m).map (ao.qS m)=(h.take m).map (ao.aV m):=anj λB hB=>ai8 (hd.mem B hB)
theorem Ta{h:anD ao}{m:Nat}(hd:VDm m (h.take m))(hl:((h.take m).map (ao.qS m)).all (ao.uu m)=true):((h.take m).map (ao.aV m)).all (ao.aH m)=true:=by
 rw[ane]at hl ⊢;intro B hB;obtain⟨B',h1,rfl⟩:=List.mem_map.1 hB;exact ajK (hd.mem B' h1) (hl _ (List.mem_map.2 ⟨B',h1,rfl⟩))
section
variable {P:anG} {r:anF Nat} {n N0:Nat} {G:Gh} {w:anI} {a:Act} {s s':St} {Q Q':Exit->St->Prop} {live:anD Nat} {m:Nat} {ks:anD Nat} {kn:anD (Nat×Nat)}
theorem cx.mv(hs:cx G w a s)(hd:VDm m (s.h.take m))(h:mv s live m ks kn=some s'):cx (G.cut m) w a s':=by
 unfold Go.Proofs.YtfdhojiehjfghaaGreatDoor.mv at h;obtain⟨hb,rfl⟩:=dF h;rw[amP,amP]at hb;have hm:=hs.mask (live:=live) ⟨dy.1 hb.1.1,hb.1.2,Ta hd hb.2⟩;refine⟨hs.size,λi=> ?_,by show bC _ _ (pn kn 0 ((s.h.take m).map (ao.qS m)));rw[SU hd];exact alg kn hm.inv,hs.df⟩;have:=hm.tmp i
 change aE _ _ _ (aY (live.map λk=>(k,(aY s.t k).aV m)) i)at this
 rw[sb (λk=>(aY s.t k).aV m)]at this;show aE _ _ _ (aY (live.map λk=>(k,bif ks.any (·==k)then(aY s.t k).aV m else(aY s.t k).fin m)) i);rw[sb (λk=>bif ks.any (·==k)then(aY s.t k).aV m else(aY s.t k).fin m)];split at this
 ·rename_i hi
  rw[if_pos hi];cases ks.any (·==i)with
  |true=>exact this
  |false=>exact this.nrm
 ·rename_i hi;rw[if_neg hi];exact .dead _
theorem ajq{c:Code}{ι:Type}(live:anD Nat)(m:Nat)(ks:anD Nat)(kn:anD (Nat×Nat))(st:ι->St)(I:ι->Prop)(μ:ι->Nat)(i0:ι)(hm:N0<=m)(h0:VDm m (s.h.take m)/\Go.Proofs.YtfdhojiehjfghaaGreatDoor.mv s live m ks kn=some (st i0))(hI:I i0)
 (round:∀i,I i->bj P r N0 c (ig (λs'=>∃i',(VDm m (s'.h.take m)/\Go.Proofs.YtfdhojiehjfghaaGreatDoor.mv s' live m ks kn=some (st i'))/\I i'/\μ i'<μ i) Q) (st i)):bj P r N0 (.loop c) Q s:=by
 constructor
 intro G w a n hs _;refine RB (λ(i:ι) a' w'=>∃G',I i/\bx N0 G w G' w'/\N0<=G'.N/\cx G' w' a' (st i)) μ i0 ⟨G.cut m,hI,pV _ _ _ _,hm,hs.mv h0.1 h0.2⟩ ?_;rintro i a' w' ⟨G',hi,hE,hN,bP⟩;refine wpIn_mono ((round i hi).run G' w' a' n bP hN) λe a1 w1 hn=> ?_;obtain⟨G1,s1,iA,ga,eG,hq⟩:=hn;cases e with
 |normal=>
  obtain⟨i',h1,h2,h3⟩:=hq;exact⟨i',⟨G1.cut m,h2,(hE.trans iA).trans (pV _ _ _ _),hm,eG.mv h1.1 h1.2⟩,h3⟩
 |_=>exact⟨G1,s1,hE.trans iA,ga,eG,hq⟩
theorem aeD{c:Code}(live:anD Nat)(m:Nat)(ks:anD Nat)(kn:anD (Nat×Nat))(hm:N0<=m)(h0:VDm m (s.h.take m)/\Go.Proofs.YtfdhojiehjfghaaGreatDoor.mv s live m ks kn=some s')(h:bj P r N0 c Q s'):bj P r N0 c Q s:=by
 constructor
 intro G w a n hs _;exact wpIn_mono (h.run (G.cut m) w a n (hs.mv h0.1 h0.2) hm) λ_ _ _ hn=>hn.trans (pV N0 G w m)
theorem agM{c y:Code}{ι:Type}(live:anD Nat)(m:Nat)(ks:anD Nat)(kn:anD (Nat×Nat))(st:ι->St)(I:ι->Prop)(hm:N0<=m)(hc:bj P r N0 c (ig (λs'=>∃i,(VDm m (s'.h.take m)/\Go.Proofs.YtfdhojiehjfghaaGreatDoor.mv s' live m ks kn=some (st i))/\I i) Q) s)(hy:∀i,I i->bj P r N0 y Q' (st i)):bj P r N0 c (ig (λs=>bj P r N0 y Q' s) Q) s:=by
 refine hc.mono λe s' h=> ?_;cases e with
 |normal=>obtain⟨i,h1,h2⟩:=h;exact aeD live m ks kn hm h1 (hy i h2)
 |_=>exact h
end
def CW(P:anG)(rs:anD ResultVar)(m:Nat)(s:St):anF (AV×anD ao):=
 match sK P s rs with
 |some l=>bif bS m s.h.length&&((jt l).aV m).aH m&&(((s.h.take m).map (ao.qS m)).all (ao.uu m))then some (((jt l).aV m).nrm,((s.h.take m).map (ao.qS m)).map ao.Ap)else none
 |none=>none
def YB(P:anG)(fn:Func)(m:Nat)(R:AV)(H:anD ao):Exit->St->Prop
 | .normal,s=>VDm m (s.h.take m)/\CW P fn.results.toList m s=some (R,H)
 | .ret,s=>VDm m (s.h.take m)/\CW P fn.results.toList m s=some (R,H)
 |_,_=>False
theorem WK{P:anG}{s:St}{fn:Func}{m:Nat}{R:AV}{H:anD ao}(h:VDm m (s.h.take m)/\CW P fn.results.toList m s=some (R,H)):qG P fn m (λr h'=>r.nrm=R/\h'.map ao.Ap=H) s:=by
 obtain⟨hd,h⟩:=h;unfold CW at h;split at h
 ·next l e=>
  obtain⟨hb,he⟩:=dF h;cases he
  simp only[amP,dy]at hb;exact Es _ _ _ e ⟨hb.1.1,hb.1.2,Ta hd hb.2,rfl,by rw[SU hd]⟩
 ·cases h
theorem uo{P:anG}{s:St}{fn:Func}{m:Nat}{R:AV}{H:anD ao}(hd:VDm m (s.h.take m))(h:CW P fn.results.toList m s=some (R,H)):YB P fn m R H .ret s:=⟨hd,h⟩
theorem DA{P:anG}{f:FuncId}{fn:Func}{c:Code}{args:anD AV}{h H:anD ao}{R:AV}(m:Nat)(hf:P.funcs[f]?=some fn)(hb:fn.body=some c)(hn:(fn.name== "runtime.NumGoroutine")=false)(hm:h.length<=m)
 (hw:bj P none h.length c (YB P fn m R H) {n:=args.length+(fn.ntmps-args.length),t:=lk 0 args,h:=h}):cp P f args h λr1 h1=>r1=R/\h1=H:=by
 have h0:=Ax (P:=P) (f:=f) (args:=args) (h:=h) (K:=λr h'=>r.nrm=R/\h'.map ao.Ap=H) m hf hb hn hm (hw.mono λe s hq=>by
  cases e with
  |normal=>exact WK hq
  |ret=>exact WK hq
  |_=>exact hq.elim)
 refine⟨h0.1,λG w vs hi hl hr=>(h0.2 G w vs hi hl hr).mono λe w' hp=> ?_⟩;obtain⟨v,G',x,h',rfl,hE,hN,dx,hv,rfl,rfl⟩:=hp;exact⟨v,G',x.nrm,_,rfl,hE,hN,Wh dx,hv.nrm,rfl,rfl⟩
mutual
def AV.tR(b:Nat):AV->anD (Nat×Nat×Nat×Nat)
 | .vec n o len L k=>bif n==b then[(o,len,L,k)]else[]
 | .agg cs=>AV.qO b cs
 | .aQ cs=>AV.qO b cs
 | .fn _ cs=>AV.qO b cs
 |_=>[]
def AV.qO(b:Nat):anD AV->anD (Nat×Nat×Nat×Nat)
 |[]=>[]
 |x::l=>x.tR b++AV.qO b l
end
mutual
def AV.mlt(b:Nat)(xs:anD (anD D)):AV->AV
 | .vec n o len L k=>bif n==b then .d (.sl xs)else .vec n o len L k
 | .db n i j L k=>bif n==b then .dead else .db n i j L k
 | .agg cs=> .agg (AV.lL b xs cs)
 | .aQ cs=> .aQ (AV.lL b xs cs)
 | .fn f cs=> .fn f (AV.lL b xs cs)
 |x=>x
def AV.lL(b:Nat)(xs:anD (anD D)):anD AV->anD AV
 |[]=>[]
 |x::l=>x.mlt b xs::AV.lL b xs l
end
mutual
theorem Zl{b kk:Nat}{xs:anD (anD D)}:∀x:AV,(∀q∈x.tR b,q=(0,xs.length,xs.length,kk))->x.cG b kk xs=x.mlt b xs
 | .vec n o len L k,h=>by
   unfold AV.cG AV.mlt;unfold AV.tR at h;cases e:n==b with
   |false=>rfl
   |true=>
    rw[e]at h;have:=h _ amT;cases this
    simp
 | .agg cs,h=>by unfold AV.cG AV.mlt;rw[uU cs (by unfold AV.tR at h;exact h)]
 | .aQ cs,h=>by unfold AV.cG AV.mlt;rw[uU cs (by unfold AV.tR at h;exact h)]
 | .fn f cs,h=>by unfold AV.cG AV.mlt;rw[uU cs (by unfold AV.tR at h;exact h)]
 | .db n i j L k,h=>by unfold AV.cG AV.mlt;rfl
 | .d _,_=>by simp [AV.cG,AV.mlt]
 | .ptr ..,_=>by simp [AV.cG,AV.mlt]
 | .ba ..,_=>by simp [AV.cG,AV.mlt]
 | .own ..,_=>by simp [AV.cG,AV.mlt]
 | .full _,_=>by simp [AV.cG,AV.mlt]
 | .row ..,_=>by simp [AV.cG,AV.mlt]
 | .mp _,_=>by simp [AV.cG,AV.mlt]
 | .cF _,_=>by simp [AV.cG,AV.mlt]
 | .hid _,_=>by simp [AV.cG,AV.mlt]
 | .dead,_=>by simp [AV.cG,AV.mlt]
theorem uU{b kk:Nat}{xs:anD (anD D)}:∀l:anD AV,(∀q∈AV.qO b l,q=(0,xs.length,xs.length,kk))->AV.oK b kk xs l=AV.lL b xs l
 |[],_=>by simp [AV.oK,AV.lL]
 |x::l,h=>by
  unfold AV.qO at h;unfold AV.oK AV.lL;rw[Zl x λq hq=>h q (List.mem_append_left _ hq),uU l λq hq=>h q (List.mem_append_right _ hq)]
end
theorem LZ{c L kk:Nat}{xs:anD (anD D)}(hL:xs.length=L){l:anD (Nat×Nat×Nat×Nat)}(h:l=List.replicate c (0,L,L,kk)):∀q∈l,q=(0,xs.length,xs.length,kk):=λq hq=>by
 rw[h,List.mem_replicate]at hq;rw[hq.2,hL]
theorem ajC{G:Gh}{w:anI}{h:anD ao}(hi:bC G w h)(e k:Nat):bx G.N G w (G.ej (.slice none 0 0) 0 none) w/\G.N<=(G.ej (.slice none 0 0) 0 none).N/\bC (G.ej (.slice none 0 0) 0 none) w (h++[.vec e k []])/\aE (G.ej (.slice none 0 0) 0 none) w (.slice none 0 0) (.vec h.length 0 0 0 k):=by
 obtain⟨a1,a2⟩:=KZ (w':=w) hi (.vec e k []) (λ_ _=>rfl) (.slice none 0 0) 0 none ⟨λ_ _=>rfl,amY _,rfl,rfl,rfl⟩ (λ_ h=>by cases h)
  ⟨by simp [Gh.ej],Nat.zero_le _,λc hc=>absurd hc anu, .inl ⟨by simp [Gh.ej],rfl,none,by simp [Gh.ej]⟩⟩
 refine⟨a1,Nat.le_succ _,a2, .vec _ 0 0 0 k (by rw[hi.len];exact anB _) ⟨none,0,0,rfl⟩ (Nat.zero_le _) λ_=>⟨amY _,⟨none,0,rfl,amY _,Nat.zero_le _,amY _,λh=>absurd h (ans _)⟩,λ_ _=> ?_⟩⟩;simp [Gh.ej,hi.len]
section
variable {P:anG} {r:anF Nat} {N0:Nat} {s:St} {Q:Exit->St->Prop} {c:Code}
theorem NM(t e k:Nat)(hx:aY s.t t= .d (.v (.slice none 0 0)))(h:bj P r N0 c Q ⟨s.n,(t, .vec s.h.length 0 0 0 k)::s.t,s.h++[.vec e k []]⟩):bj P r N0 c Q s:=by
 constructor
 intro G w a n hs hN;obtain⟨a1,a2,a3,a4⟩:=ajC hs.inv e k;have hv:=hs.tmp t;rw[hx]at hv;have hv:=hv.val;have bP:cx (G.ej (.slice none 0 0) 0 none) w a ⟨s.n,(t, .vec s.h.length 0 0 0 k)::s.t,s.h++[.vec e k []]⟩:=by
  refine⟨hs.size,λi=> ?_,a3,hs.df.keep a1⟩;show aE _ _ _ (aY ((t, .vec s.h.length 0 0 0 k)::s.t) i);rw[nh];split
  ·next e=>exact e▸hv▸a4
  ·exact(hs.tmp i).keep a1 a2
 exact wpIn_mono (h.run _ w a n bP (am5 hN a2)) λ_ _ _ hn=>hn.trans (a1.less hN)
end
theorem qd{α:Type}{f:α->anD D}{E:anD α}{L:Nat}(h:E.length=L):(bG (E.map f)).length=L:=by rw[JI,amS,h]
theorem Al{cs:anD (anD AV)}{z:Int}{L i:Nat}(h:cs.length=L)(h0:0<=z)(h1:z<(L:Int))(h2:z.toNat=i):cs.length=L/\0<=z/\z<(L:Int)/\i=0+z.toNat:=⟨h,h0,h1,by rw[h2,am7]⟩
theorem IT{α:Type}{f:α->anD D}{E:anD α}{L i j:Nat}{x y:α}{zs:anD AV}(h:E.length=L)(hx:E[i]?=some x)(hy:(f y).map AV.d=gM ((f x).map .d) j zs):(bG (E.map f)).length=L/\(bG (E.map f))[i]?=some ((f x).map .d)/\bG ((E.set i y).map f)=(bG (E.map f)).set i (gM ((f x).map .d) j zs):=
 ⟨qd h,YA (by rw[amU,hx];rfl),by rw[List.map_set,Vz,hy]⟩
theorem Lm{xs:anD (anD D)}{h:anD ao}{k cr:Nat}{y:AV}(hk:∀c∈xs,c.length=k)(hy:y.eY=some xs)(hm:xs.length<=maxLen)(hb:xs.length*cr<=140737488355328):
 ([]:anD (anD D))=[]/\yR h k y (bG xs)/\bG xs=bG xs/\xs.length=(bG xs).length/\xs.length=(bG xs).length/\xs.length<=maxLen/\xs.length*cr<=140737488355328:=⟨rfl, .inl ⟨xs,hy,hk,rfl⟩,rfl,(JI xs).symm,(JI xs).symm,hm,hb⟩
theorem afB{α:Type}{f:α->anD D}{E:anD α}{L i:Nat}{x:α}(r:anD AV)(h:E.length=L)(hx:E[i]?=some x):((bG (E.map f)).set i r).length=L/\((bG (E.map f)).set i r)[i]?=some r:=
 ⟨by rw[List.length_set];exact qd h,by rw[anh (by rw[qd rfl];exact(amN.1 hx).1)]⟩
theorem akL{α:Type}{f:α->anD D}{E:anD α}{L i:Nat}{r:anD AV}(h:E.length=L):((bG (E.map f)).set i r).length=L:=by rw[List.length_set];exact qd h
theorem alC{α:Type}{f:α->anD D}{E:anD α}{L i j:Nat}{x:α}{zs r:anD AV}(h:E.length=L)(hx:E[i]?=some x)(hy:r=gM ((f x).map .d) j zs):(bG (E.map f)).length=L/\(bG (E.map f))[i]?=some ((f x).map .d)/\(bG (E.map f)).set i r=(bG (E.map f)).set i (gM ((f x).map .d) j zs):=
 ⟨qd h,YA (by rw[amU,hx];rfl),by rw[hy]⟩
theorem aef{α:Type}{f:α->anD D}{E:anD α}{i:Nat}{y:α}{r:anD AV}(hy:(f y).map AV.d=r):(bG (E.map f)).set i r=bG ((E.set i y).map f):=by rw[<-hy,List.map_set,Vz]
theorem GX{α:Type}{f:α->anD D}(hf:∀x,(f x).all D.zA=true)(E:anD α):∀c∈E.map f,c.all D.zA=true:=λc hc=>by
 obtain⟨x,_,rfl⟩:=List.mem_map.1 hc;exact hf x
theorem Ki{α:Type}{f:α->anD D}{E:anD α}{L:Nat}(h:E.length=L):(E.map f).length=L:=by rw[amS,h]
theorem SY{α:Type}{E:anD α}{i:Nat}{x y:α}(h:E[i]?=some x):(E.set i y)[i]?=some y:=by
 rw[anh (amN.1 h).1]
def Ru(o:Oper):Bool:=
 match o.op with
 | .call c=>match c.callee with
   | .value _=>false
   |_=>true
 |_=>true
def FK:bB->Bool
 | .va _=>true
 |_=>false
def Qw(o:Oper)(a:bB):Bool:=GS o||(Ru o&&((tp o||jk o&& !(bQ o==0))|| !FK a))
def Cn(o:Oper)(a:bB):Bool:=Qw o a||(!zu a&&(!FK a&& !jk o))
def BQ(as:anD (Nat×bB)):Nat->anD Oper->Bool
 |_,[]=>true
 |j,o::l=>Cn o (ij as (3*j+1))&&BQ as (j+1) l
section
variable {P:anG} {ops:Array Oper} {o:Oper} {j:Nat} {as:anD (Nat×bB)} {s s1:St} {l:anD (In×bB)} {K:St->Prop}
theorem aks(hn:Ru o=true)(h:qC P o K s):ze P o K s:=by
 unfold ze;unfold Ru at hn;split
 ·next c eO=>
  rw[eO]at hn;split
  ·next f hc=>simp only[hc]at hn;cases hn
  ·exact h
 ·exact h
theorem abx(h:ny P false o j as s=some (s1,l))(bA:fA P l)(hK:K s1)(hL:Qw o (ij as (3*j+1))=true):wq true P o K s:=by
 unfold ny at h;simp only[Bool.false_and,cond_false]at h;split at h
 ·next x h' i hr=>
  have fin:OK P i (ij as (3*j+1))->K ((s.wh h').put o.dst x)->wq true P o K s:=λh1 h2=>by
   unfold Qw at hL;rw[Bool.or_eq_true]at hL;unfold DC at hr;split at hr
   ·next va e=>
    simp only[Bool.false_and,cond_false]at hr;split at hr
    ·next x2 Wq p e2=>
     cases hr
     rcases hL with hL|hL
     ·exfalso;rw[e]at h1;unfold GS at hL;split at hL
      ·next c eO=>
       split at hL
       ·next t hc=>
        rw[eO]at e2;unfold hY at e2;simp only[hc]at e2;cases e2
       ·next t hc=>
        rw[eO]at e2;unfold hY at e2;simp only[hc]at e2;cases e2
       ·cases hL
      ·cases hL
     ·rw[e]at h1 hL;simp only[FK,Bool.not_true,Bool.or_false,amP]at hL;cases h1 with|pr _ hp=>exact .inr (.inr (.inl ⟨(by
        have h3:=hL.2;rw[Bool.or_eq_true,amP,Bool.not_eq_true']at h3;exact h3.elim (λe=> .inr (by rw[e];rfl)) λe=> .inl ⟨e.1,by rw[e.2];rfl⟩),va,x,h',p,e2,hp,h2⟩))
    ·cases hr
   ·rcases hL with hL|hL
    ·exact .inr (.inl ⟨by unfold m6;rw[hL];rfl,x,h',h2,λC hC=>zS hr h1 hC⟩)
    ·rw[amP]at hL;exact .inl (aks hL.1 (zS (C:=λx h'=>K ((s.wh h').put o.dst x)) hr h1 h2))
  split at h
  ·next y hy=>
   obtain⟨m,e,h2,h3⟩:=JD h bA;cases e
   have:=h2 (.eq x, .eq y) amT;cases this with|eq e=>subst e;exact fin h3 hK
  ·obtain⟨m,e,h2,h3⟩:=JD h bA;cases e
   exact fin h3 hK
 ·cases h
theorem ajS{dr v:Bool}{op:Op}{ρ:Operand->AV}{h:anD ao}{a:bB}(hv:FK a=false):DC P dr v op ρ h a=uG P op ρ h a:=by
 cases a<;>first|rfl|cases hv
theorem Vg(h:ny P false o j as s=some (s1,l))(bA:fA P l)(hK:K s1)(hL:Cn o (ij as (3*j+1))=true):wq true P o K s:=by
 unfold Cn at hL;rw[Bool.or_eq_true]at hL;rcases hL with hL|hL
 ·exact abx h bA hK hL
 ·rw[amP,amP,Bool.not_eq_true',Bool.not_eq_true',Bool.not_eq_true']at hL;obtain⟨h1,h2,h3⟩:=hL;have h':ny P true o j as s=some (s1,l):=by
    unfold ny at h ⊢;rw[ajS h2]at h ⊢;rw[h1];exact h
  have:=MY (dr:=true) h' bA hK;rcases this with h|⟨e,_⟩|⟨e,_⟩|h
  ·exact .inl h
  ·cases e
  ·exfalso;rcases e with e|e
   ·rw[h3]at e;exact absurd e.1 (by simp)
   ·cases e
  ·exact .inr (.inr (.inr h))
theorem SV(h:nc P ops false o j as s=some (s1,l))(bA:fA P l)(hK:K s1)(hL:Cn o (ij as (3*j+1))=true):iG ops o s (wq true P o K s) (K (s.put o.dst (.d (.v undef)))):=by
 unfold nc at h;split at h
 ·next hg=>unfold iG;rw[hg];exact Vg h bA hK hL
 ·next g want hg=>
  obtain⟨dst,op,ty,pos,after,guard⟩:=o;simp only at hg;subst hg;split at h
  ·next b hb=>
   obtain⟨n,e,h2,h3⟩:=yD h bA;have h4:=OK.HK (h3 (_,_) amT);rw[Gx,h4];refine⟨λe2=> ?_,λe2=> ?_⟩
   ·subst e2;simp only[BEq.rfl,cond_true]at e;exact Vg e h2 hK hL
   ·subst e2;have:((!want)==want)=false:=by cases want<;>rfl
    rw[this]at e;simp only[cond_false]at e;cases e
    exact hK
  ·next hb=>
   obtain⟨n,e,h2,h3⟩:=yD h bA;cases e
   have h4:=h3 (_,_) amT;have h5:tL ops g s.t= .d (.v undef):=by
    generalize tL ops g s.t=z at h4;cases h4;rfl
   rw[Gx,h5];exact hK
  ·cases h
theorem QZ:∀(ol:anD Oper)(j:Nat)(s:St)(l:anD (In×bB)),nW P ops false ol j as s=some (s1,l)->fA P l->BQ as j ol=true->K s1->uI true P ops ol K s
 |[],_,s,l,h,_,_,hK=>by cases h;exact hK
 |o::rest,j,s,l,h,bA,hL,hK=>by
  unfold BQ at hL;rw[amP]at hL;unfold nW at h;split at h
  ·next s2 m hg=>
   obtain⟨n,e,h2,h3⟩:=yD h bA;exact SV (K:=uI true P ops rest K) hg h3 (QZ rest (j+1) s2 n e h2 hL.2 hK) hL.1
  ·cases h
theorem Vy:∀(ol pre:anD Oper),tg (pre++ol).toArray ((List.range ol.length).map (pre.length+·))=ol
 |[],_=>rfl
 |o::l,pre=>by
  rw[amQ,List.range_succ_eq_map,anc,List.map_map];unfold tg;have h1:(pre++o::l).toArray[pre.length+0]?=some o:=by simp
  rw[h1];simp only;have h2:=Vy l (pre++[o]);rw[am4]at h2;simp only[List.singleton_append,amO,amQ,amZ,am7]at h2
  congr 1
  rw[show(pre.length+·)∘Nat.succ=(pre.length+1+·)from by funext i;simp only[Function.comp];omega];exact h2
theorem T8(ol:anD Oper):tg ol.toArray (List.range ol.length)=ol:=by
 have:=Vy ol []
 simpa using this
end
section
variable {P:anG} {r:anF Nat} {N0 id n:Nat} {ol:anD Oper} {y:Code} {t:anD (Nat×AV)} {h:anD ao} {Q Q':Exit->St->Prop}
theorem rle(hm:P.follows .mixedOrders=true)(hl:Cp true ol.toArray (List.range ol.length)=true)(az:anD (Nat×Ob P))(Δ:anD (Nat×AV))(h':anD ao)(e:BQ (iD az) 0 ol=true/\C5 P false ol (iD az) ⟨n,t,h⟩=some (Δ++t,h',iS az))(k:Q .normal ⟨n,Δ++t,h'⟩):bj P r N0 (.region id ol.toArray true) Q ⟨n,t,h⟩:=by
 obtain⟨e0,e⟩:=e;refine TM (m:=true) (List.range ol.length) hm (by simp) hl ?_;rw[T8];exact QZ ol 0 _ _ (Xs e) (ru az) e0 k
end
section
variable {P:anG} {r:anF Nat} {N0:Nat} {Q:Exit->St->Prop} {c:Code} {o:Oper} {K:St->Prop}
end
end Go.Proofs.YtfdhojiehjfghaaGreatDoor
namespace Go.Proofs.YtfdhojiehjfghaaGreatDoor.MK
open Go.RowKit
set_option linter.unusedVariables false
def ao(w:anI)(g:Nat)(t:TypeId)(cs:anD anH):Prop:=w.heap[g]?=some (.cells cs.toArray t (0,0))
section
variable {w w':anI} {g:Nat} {t:TypeId} {cs:anD anH}
end
section
variable {P:anG} (w:anI)
end
section
variable {P:anG} {w:anI}
end
section
variable {S E base:Nat} {w w' w'':anI}
end
end Go.Proofs.YtfdhojiehjfghaaGreatDoor.MK
namespace Go.Proofs.YtfdhojiehjfghaaGreatDoor
open Go.RowKit
set_option linter.unusedSimpArgs false
set_option linter.unusedVariables false
section
variable {P:anG}
end
end Go.Proofs.YtfdhojiehjfghaaGreatDoor
