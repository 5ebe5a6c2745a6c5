/-
  Part 3 of the proof: AbsRun, AbsFrz, AbsInst, AbsExec, AbsExecV, AbsRange, AbsAny, AbsExec2, AbsExec3, AbsYield, AbsTree, AbsVecX, MemK, AbsVecD.
-/
import Derived.Test.YtnnapanbbbcalaaGreatDoorPp2
import Derived.WalkKit
import Derived.Laws.CopyOwn
import Derived.Deep.AppendLies
import Derived.Lib.AppendZerosOnto
import Derived.Lib.Overlaps
import Derived.Lib.Hide
namespace Go.Proofs.YtnnapanbbbcalaaGreatDoor
open Go.RowKit
def aq.vd:aq->Prop
 | .vec _ _ cs=>(∀f,cs.map (AV.gp f)=cs)/\∀m,cs.all (·.all (AV.aG m))=true
 |_=>True
theorem aem(f:Nat->Nat)(c:amT D):AV.gp f (c.map AV.d)=c.map AV.d:=by
 induction c with
 |nil=>simp [AV.gp]
 |cons x c ih=>simp only[amu,AV.gp,AV.aL,ih]
theorem abP(xs:amT (amT D)):(∀f,(cg xs).map (AV.gp f)=cg xs)/\∀m,(cg xs).all (·.all (AV.aG m))=true:=by
 refine⟨λf=> ?_,λm=>by simp [cg,AV.aG]⟩;unfold cg;rw[List.map_map];exact amA λc _=>aem f c
def VD:amT aq->Prop
 |[]=>True
 |B::l=>B.vd/\VD l
theorem c6:VD []:=trivial
theorem xO{e k:Nat}{xs:amT (amT D)}{l:amT aq}(h:VD l):VD (.vec e k (cg xs)::l):=⟨abP xs,h⟩
theorem VD.mem:∀{l:amT aq},VD l->∀B∈l,B.vd
 |[],_,B,hB=>by cases hB
 |_::_,h,B,hB=>by
  rcases amz.1 hB with rfl|hB
  ·exact h.1
  ·exact VD.mem h.2 B hB
def aq.qJ(f:Nat->Nat):aq->aq
 | .vec e k cs=> .vec e k cs
 |B=>B.aL f
theorem VY{f:Nat->Nat}{B:aq}(h:B.vd):B.qJ f=B.aL f:=by
 cases B with
 |vec e k cs=>simp only[aq.qJ,aq.aL];rw[h.1 f]
 |_=>rfl
theorem aae{f:Nat->Nat}{l:amT aq}(h:VD l):l.map (aq.qJ f)=l.map (aq.aL f):=amA λB hB=>VY (h.mem B hB)
def aq.uW(m:Nat):aq->Bool
 | .vec .. =>true
 |B=>B.aG m
theorem akW{m:Nat}{B:aq}(h:B.vd)(hl:B.uW m=true):B.aG m=true:=by
 cases B with
 |vec e k cs=>exact h.2 m
 |_=>exact hl
theorem af1{m:Nat}{l:amT aq}(h:VD l)(hl:l.all (aq.uW m)=true):l.all (aq.aG m)=true:=by
 rw[amv]at hl ⊢;exact λB hB=>akW (h.mem B hB) (hl B hB)
theorem agT{f:Nat->Nat}{l:amT aq}(h:VD l):(l.map λB=>some (B.qJ f))=l.map λB=>some (B.aL f):=amA λB hB=>congrArg some (VY (h.mem B hB))
inductive In
 |none
 |bit (x:AV)
 |eq (x:AV)
 |el (xs:List (List D)) (i:Int)
 |lt (z:Int) (n:Nat)
 |len (xs:List (List D))
 |sub (xs:List (List D)) (lo:Int) (hi:Option Int) (k:Nat)
 |app (xs ys:List (List D)) (len k dd:Nat)
 |nz (b:Int)
 |nn (b:Int)
 |str (b:ByteArray) (lo hi:Int)
 |cat (n:Nat)
 |pr (p:Prop)
 |sd (p:Sd)
 |iy (xs:List (List D))
 |Fq (c:List D) (z:Int) (n:Nat)
 |ch (b:ByteArray) (i:Int)
 |call (f:FuncId) (args:List AV)
 |jB (f:FuncId) (args:List AV) (h:List aq)
 |Dl (c:fp) (args:List AV)
 |nx (f:FuncId) (args:List AV) (h:List aq)
def Pg(P:amW)(c:fp)(args:amT AV)(r:AV):Prop:=∃g as,c.app args=some (g,as)/\ga P g as (·=r)
inductive bX
 |none
 |bit (b:Bool)
 |B7
 |eq (y:AV)
 |el (c:List D)
 |ok
 |nat (n:Nat)
 |list (ys:List (List D))
 |XF (ys:List (List D)) (n:Nat)
 |byte (c:UInt8)
 |bytes (s:ByteArray)
 |one (d:D)
 |va (a:VA)
 |ret (r:AV)
 |MN (r:AV) (h:List aq)
 |M1 (l:List Nat) (e6:List AV) (H:List aq) (r:AV) (H':List aq)
 |rq (l:List Nat) (e6:List AV) (H:List aq) (r:AV)
 |DA (l:List Nat) (e6:List AV) (H:List aq) (r:AV) (H':List aq)
inductive OK(P:Program):In->bX->Prop
 |none {o:bX}:OK P .none o
 |bit {e b:Bool} (h:e=b):OK P (.bit (.d (.v (.bool e)))) (.bit b)
 |B7:OK P (.bit (.d (.v undef))) .B7
 |eq {x y:AV} (h:x=y):OK P (.eq x) (.eq y)
 |el {xs:List (List D)} {i:Int} {c:List D} (h0:0<=i) (h:xs[i.toNat]?=some c):OK P (.el xs i) (.el c)
 |lt {z:Int} {n:Nat} (h0:0<=z) (h:z<n):OK P (.lt z n) .ok
 |len {xs:List (List D)} {n:Nat} (h:xs.length=n):OK P (.len xs) (.nat n)
 |sub {xs ys:List (List D)} {lo hi:Int} {k:Nat} (h0:0<=lo) (h1:lo.toNat<=hi.toNat) (h2:0<=hi) (h3:hi.toNat<=xs.length) (hk:∀c∈xs,c.length=k) (h:(xs.take hi.toNat).drop lo.toNat=ys):OK P (.sub xs lo (some hi) k) (.list ys)
 |TZ {xs ys:List (List D)} {lo:Int} {k:Nat} (h0:0<=lo) (h1:lo.toNat<=xs.length) (hk:∀c∈xs,c.length=k) (h:xs.drop lo.toNat=ys):OK P (.sub xs lo .none k) (.list ys)
 |app {xs ys zs:List (List D)} {len k dd n:Nat} (hl:len=xs.length) (hx:∀c∈xs,c.length=k) (hy:∀c∈ys,c.length=k) (hm:xs.length+ys.length<=maxLen) (hb:(xs.length+ys.length)*dd<=140737488355328) (hz:xs++ys=zs) (hn:xs.length+ys.length=n):OK P (.app xs ys len k dd) (.XF zs n)
 |nz {b:Int} (h:b≠0):OK P (.nz b) .ok
 |nn {b:Int} (h:0<=b):OK P (.nn b) .ok
 |str {b:ByteArray} {lo hi:Int} (h0:0<=lo) (h1:lo.toNat<=hi.toNat) (h2:0<=hi) (h3:hi.toNat<=b.size):OK P (.str b lo hi) .ok
 |ch {b:ByteArray} {i:Int} {c:UInt8} (h0:0<=i) (h:b[i.toNat]?=some c):OK P (.ch b i) (.byte c)
 |cat {n:Nat} (h:n<=maxLen):OK P (.cat n) .ok
 |pr {p:Prop} (a:VA) (h:p):OK P (.pr p) (.va a)
 |sd {p:Sd} {o:bX} (h:p.ok):OK P (.sd p) o
 |iy {xs:List (List D)} {s:ByteArray} (h:∃ns:List Int,xs=ns.map (λn=>[.v (.int .u8 n)])/\s=⟨(ns.map λn=>UInt8.ofNat n.toNat).toArray⟩):OK P (.iy xs) (.bytes s)
 |Fq {c:List D} {z:Int} {n:Nat} {d:D} (h0:0<=z) (h1:z<n) (h:c[z.toNat]?=some d):OK P (.Fq c z n) (.one d)
 |call {f:FuncId} {args:List AV} {r:AV} (h:ga P f args (·=r)):OK P (.call f args) (.ret r)
 |Dl {c:fp} {args:List AV} {r:AV} (h:Pg P c args r):OK P (.Dl c args) (.ret r)
 |nx {f:FuncId} {mi e6:List AV} {h H H':List aq} {l:List Nat} {r:AV} (ha:mi=e6.map (AV.aL (rn l h.length))) (hd:o9 l=true) (hb:l.map (λj=>h[j]?)=H.map λB=>some (B.aL (rn l h.length))) (hl:(e6.all (AV.aG H.length)&&H.all (aq.aG H.length))=true)
  (hc:cZ P f e6 H λr1 h1=>r1=r/\h1=H'):OK P (.nx f mi h) (.M1 l e6 H r H')
 |MB {f:FuncId} {mi e6:List AV} {h H H':List aq} {l:List Nat} {r:AV} (tR:VD H) (hv:VD H') (ha:mi=e6.map (AV.aL (rn l h.length))) (hd:o9 l=true) (hb:l.map (λj=>h[j]?)=H.map λB=>some (B.qJ (rn l h.length))) (hl:(e6.all (AV.aG H.length)&&H.all (aq.uW H.length))=true)
  (hc:cZ P f e6 H λr1 h1=>r1=r/\h1=H'):OK P (.nx f mi h) (.DA l e6 H r H')
 |rq {f:FuncId} {mi e6:List AV} {h H:List aq} {l:List Nat} {r:AV} (ha:mi=e6.map (AV.aL (rn l 0))) (hd:o9 l=true) (hb:l.map (λj=>h[j]?)=H.map λB=>some (B.aL (rn l 0))) (hl:(e6.all (AV.aG H.length)&&H.all (aq.aG H.length)&&r.aG H.length)=true)
    (hc:cZ P f e6 H λr1 h1=>r1=r/\h1=H):OK P (.nx f mi h) (.rq l e6 H r)
 |jB {f:FuncId} {args:List AV} {h h':List aq} {r:AV} (hc:cZ P f args h λr1 h1=>r1=r/\h1=h'):OK P (.jB f args h) (.MN r h')
def Ab(P:amW)(t:TypeId)(cs:amT AV)(off:Nat):amV AV:=
 match lZ P t,gu P t with
 |some true,some k=>bif cq (off+k) cs.length then some (.agg ((cs.drop off).take k))else none
 |some false,some _=>cs[off]?
 |_,_=>none
def wO(h:amT aq)(p:AV):amV (amT AV×Nat):=
 match p with
 | .ptr n off=>match h[n]? with
   |some (.cells cs)=>some (cs,off)
   |_=>none
 | .bp xs i off=>match xs[i]? with
   |some c=>some (c.map .d,off)
   |none=>none
 |_=>none
def Oy(x:AV)(i:amV Int)(k:Nat)(a:bX):amV (AV×In):=
 match x.fE,i,a with
 |some xs,some z, .el c=>bif c.length==k then some (.bp [c] 0 0, .el xs z)else none
 |_,_,_=>none
def OI(P:amW)(T:TypeId)(x i:AV)(a:bX):amV (AV×In):=
 match eX P T with
 |some (_,k)=>
  match x with
  | .row n off len _ k'=>match i.int? with
    |some z=>bif k'==k then some (.ptr n (off+z.toNat*k), .lt z len)else none
    |none=>none
  |x=>Oy x i.int? k a
 |none=>match uA P T,x,i.int? with
  |some (n,_,k), .ptr b off,some z=>some (.ptr b (off+z.toNat*k), .lt z n)
  |some (n,_,k), .bp [c] 0 0,some z=>match a with
   | .one d=>bif k==1 then some (.bp [[d]] 0 0, .Fq c z n)else none
   |_=>none
  |_,_,_=>none
def P6(P:amW)(T:TypeId)(x:AV)(a:bX):amV (AV×In):=
 match x with
 | .d (.v (.string s))=>bif ia P T then some (.d (.v (.int .i64 s.size)), .none)else none
 | .row _ _ len _ _=>bif (eX P T).isSome then some (.d (.v (.int .i64 len)), .none)else none
 |x=>match x.fE,a with
  |some xs, .nat n=>bif (eX P T).isSome then some (.d (.v (.int .i64 n)), .len xs)else none
  |_,_=>none
def oN(l:amV Int)(d:Nat):Nat:=match l with|some z=>z.toNat|none=>d
def CY(ρ:Operand->AV):amV Operand->amV (amV Int)
 |none=>some none
 |some y=>match (ρ y).int? with
  |some z=>some (some z)
  |none=>none
def Ks(P:amW)(T:TypeId)(ρ:Operand->AV)(x:AV)(lo hi mx:amV Operand)(a:bX):amV (AV×In):=
 match mx with
 |none=>match CY ρ lo,CY ρ hi with
  |some l,some h=>match x with
   | .d (.v (.string b))=>bif ia P T then some (.d (.v (.string (b.extract (oN l 0) (oN h b.size)))), .str b (l.getD 0) (h.getD b.size))else none
   | .ptr n off=>match uA P T,l,h with
     |some (m,_,k),none,none=>bif cq m 4096&& !cq m 0 then some (.row n off m m k, .none)else none
     |_,_,_=>none
   |x=>match x.fE,eX P T,a with
    |some xs,some (_,k), .list ys=>some (.d (.sl ys), .sub xs (l.getD 0) h k)
    |_,_,_=>none
  |_,_=>none
 |some m=>match lo,hi,ρ m with
  |none,some y, .d (.v (.int _ 0))=>match x.fE,eX P T,ρ y,a with
   |some xs,some (_,k), .d (.v (.int _ 0)), .list _=>some (.full [], .sub xs 0 (some 0) k)
   |_,_,_,_=>none
  |_,_,_=>none
def FR(h:amT aq)(k:Nat)(x:AV):amV (amT (amT D)):=
 match x with
 | .row n off len _ k'=>match h[n]? with
   |some (.cells cs)=>match mM ((cs.drop off).take (len*k))with
    |some ds=>bif k'==k&&cq (off+len*k) cs.length&&((cs.drop off).take (len*k)).all AV.kD then some (nN k len ds)else none
    |none=>none
   |_=>none
 |x=>x.fE
def Lw(P:amW)(T:TypeId)(h:amT aq)(x y:AV)(a:bX):amV (AV×amT aq×In):=
 match eX P T,a with
 |some (e,k), .XF zs n'=>match iz P e,qk P e with
  |some z,some dd=>bif cq 1 k&&z.cells.toList.length==k then
   match FR h k y with
   |some ys=>match x with
    | .own n xs=>match h[n]? with
      |some (.front e' k' len)=>bif e'==e&&k'==k then some (.own n zs,h.set n (.front e k n'), .app xs ys len k dd)else none
      |_=>none
    | .d (.v (.slice none 0 0))=>some (.own h.length zs,h++[.front e k n'], .app [] ys 0 k dd)
    | .full xs=>some (.own h.length zs,h++[.front e k n'], .app xs ys xs.length k dd)
    |_=>none
   |none=>none
   else none
  |_,_=>none
 |_,_=>none
def Qq(P:amW)(T:TypeId)(ps:amT (Nat×AV)):amV AV:=
 match Kr P T,iz P T with
 |some places,some z=>match pY places (z.cells.toList.map λu=> .d (.v u)) ps with
  |some cs=>bif (ps.all λp=>p.2.jz)&&z.cells.toList.all Value.oneCell' then some (.agg cs)else none
  |none=>none
 |_,_=>none
def Lh(P:amW)(T:TypeId)(len:Nat)(ps:amT (Nat×AV)):amV AV:=
 match eX P T with
 |some (e,k)=>match iz P e with
  |some z=>match pY (tE k 0 len) (sx len (z.cells.toList.map λu=> .d (.v u))) ps with
   |some cs=>match mM cs with
    |some ds=>bif cq 1 k&&cq (len*k) 16777216&&z.cells.toList.length==k&&z.cells.toList.all Value.oneCell'&&(ps.all λp=>p.2.jz)then some (.full (nN k len ds))else none
    |none=>none
   |none=>none
  |none=>none
 |none=>none
def H8(P:amW)(T:TypeId)(op:BinOp)(x y:AV):amV (AV×In):=
 match x,y with
 | .d (.v (.int k a)), .d (.v (.int k' b))=>
   match KG op k a b with
   |some v=>bif wG k k' then some (.d (.v v), .nz b)else none
   |none=>match Qb op k a b with
    |some v=>some (.d (.v v), .nn b)
    |none=>match MJ op k a b with
     |some v=>bif wG k k' then some (.d (.v v), .none)else none
     |none=>none
 | .d (.v (.string a)), .d (.v (.string b))=>match Pf op a b with
   |some v=>some (.d (.v v), .none)
   |none=>match op with
    | .add=>some (.d (.v (.string (a++b))), .cat (a.size+b.size))
    |_=>none
 | .d (.v (.bool a)), .d (.v (.bool b))=>match Mc op a b with
   |some v=>bif Ag P T then some (.d (.v v), .none)else none
   |none=>none
 | .agg xs, .agg ys=>match JO P T xs ys with
   |some b=>match vp op b with
    |some v=>some (.d (.v v), .none)
    |none=>none
   |none=>none
 |_,_=>none
def FD(P:amW)(src dst:TypeId)(x:AV)(a:bX):amV (AV×In):=
 match x with
 | .d (.v (.int _ n))=>match qZ P src,qZ P dst with
   |some _,some k=>some (.d (.v (.int k (k.wrap n))), .none)
   |_,_=>none
 | .d (.v (.string b))=>bif ia P src&&ia P dst then some (.d (.v (.string b)), .none)else none
 |x=>match x.fE,eX P src,a with
  |some xs,some (e,_), .bytes s=>bif EC P e&&ia P dst then some (.d (.v (.string s)), .iy xs)else none
  |_,_,_=>none
def Ib(P:amW)(T:TypeId)(x:AV)(f:Nat):amV AV:=
 match rU P T f,x with
 |some (off,k,true), .agg cs=>bif cq (off+k) cs.length then some (.agg ((cs.drop off).take k))else none
 |some (off,_,false), .agg cs=>cs[off]?
 |_,_=>none
def F9(h:amT aq):amV AV->amV (AV×amT aq×In)
 |some x=>some (x,h, .none)
 |none=>none
def yX(h:amT aq):amV (AV×In)->amV (AV×amT aq×In)
 |some (x,i)=>some (x,h,i)
 |none=>none
mutual
def AV.nrm:AV->AV
 | .full xs=> .d (.sl xs)
 | .d (.v (.slice none 0 0))=> .d (.sl [])
 | .agg cs=> .agg (AV.wW cs)
 | .aY cs=> .aY (AV.wW cs)
 |x=>x
def AV.wW:amT AV->amT AV
 |[]=>[]
 |x::l=>x.nrm::AV.wW l
end
def AV.DU:AV->AV
 | .fn f cs=>match AV.wP cs with
   |some l=> .hid (.fn f l)
   |none=> .fn f cs
 |x=>x
def AV.arg(x:AV):AV:=((x.bz 0).nrm).DU
def AV.vf(x:AV):AV:=(x.bz 0).nrm
def sdI:Sd->In
 | .no=> .none
 |p=> .sd p
def xR:amV (AV×amT aq×Sd)->amV (AV×amT aq×In)
 |some (x,h,p)=>some (x,h,sdI p)
 |none=>none
def uF(P:amW)(op:Op)(ρ:Operand->AV)(h:amT aq)(a:bX):amV (AV×amT aq×In):=
 match op with
 | .move x| .assign x=>some (ρ x,h, .none)
 | .pick c x y=>match a with
   | .bit b=>some (bif b then ρ x else ρ y,h, .bit (ρ c))
   |_=>none
 | .alloc e=>match iz P e with
   |some z=>some (.ptr h.length 0,h++[aq.cells (z.cells.toList.map λu=> .d (.v u))], .none)
   |none=>none
 | .box _ x=>bif (ρ x).jz then some (.ptr h.length 0,h++[aq.cells (ρ x).cells], .none)else none
 | .load t p=>match wO h (ρ p)with
   |some (cs,off)=>match Ab P t cs off with
    |some x=>some (x,h, .none)
    |none=>none
   |none=>none
 | .store t p x=>match ρ p with
   | .ptr n off=>match h[n]? with
     |some (.cells cs)=>match gu P t with
      |some k=>bif k==(ρ x).cells.length&&(ρ x).jz&&cq (off+(ρ x).cells.length) cs.length then some (.d (.v undef),h.set n (.cells (iM cs off (ρ x).cells)), .none)else none
      |none=>none
     |_=>none
   |_=>none
 | .nilCheck x=>match ρ x with
   | .ptr n off=>some (.ptr n off,h, .none)
   | .bp xs i off=>some (.bp xs i off,h, .none)
   | .fn f cs=>some (.fn f cs,h, .none)
   |_=>none
 | .fieldAddr S x f=>match rU P S f with
   |some (fo,_,_)=>match ρ x with
    | .ptr n off=>some (.ptr n (off+fo),h, .none)
    | .bp xs i off=>some (.bp xs i (off+fo),h, .none)
    |_=>none
   |none=>none
 | .field T x f=>F9 h (Ib P T (ρ x) f)
 | .indexAddr T x i=>yX h (OI P T (ρ x) (ρ i) a)
 | .index T x i=>match ρ x,(ρ i).int?,a with
   | .d (.v (.string b)),some z, .byte c=>bif ia P T then some (.d (.v (.int .u8 c.toNat)),h, .ch b z)else none
   |_,_,_=>none
 | .build T ps=>F9 h (Qq P T (ps.toList.map λp=>(p.1,ρ p.2)))
 | .buildSlice T len ps=>F9 h (Lh P T len (ps.toList.map λp=>(p.1,ρ p.2)))
 | .slice T x lo hi mx=>yX h (Ks P T ρ (ρ x) lo hi mx a)
 | .extract x i=>match ρ x with
   | .aY cs=>match cs[i]? with
     |some c=>some (c,h, .none)
     |none=>none
   |_=>none
 | .makeFunc (.func f) first dg=>match PG f (first.toList.map ρ) (dg.toList.map ρ)with
   |some x=>some (x,h, .none)
   |none=>none
 | .binOp op T x y _=>yX h (H8 P T op (ρ x) (ρ y))
 | .unOp op _ x=>match ρ x with
   | .d (.v u)=>match Jx op u with
     |some v=>some (.d (.v v),h, .none)
     |none=>none
   |_=>none
 | .convert s t x=>yX h (FD P s t (ρ x) a)
 | .call c=>match c.callee with
   | .builtin .len=>match c.args.toList,c.argTypes.toList with
     |[x],[T]=>yX h (P6 P T (ρ x) a)
     |_,_=>none
   | .builtin .append=>match c.args.toList,c.argTypes.toList with
     |[x,y],[T,U]=>bif (eX P U).isSome then Lw P T h (ρ x) (ρ y) a else none
     |_,_=>none
   | .builtin .max=>match Bm true (c.args.toList.map ρ)with
     |some (k,a)=>some (.d (.v (.int k a)),h, .none)
     |none=>none
   | .builtin .min=>match Bm false (c.args.toList.map ρ)with
     |some (k,a)=>some (.d (.v (.int k a)),h, .none)
     |none=>none
   | .value f=>match ρ f,a with
     | .fn g dg, .ret r=>bif ((c.args.toList.map ρ++dg).map AV.arg).all (AV.aG 0)&&r.aG 0 then some (r,h, .call g ((c.args.toList.map ρ++dg).map AV.arg))else none
     | .fn g dg, .MN r h'=>some (r,h', .jB g (c.args.toList.map ρ++dg) h)
     | .fn g dg, .M1 l _ _ r H'=>some (r.aL (rn l h.length),hX l (H'.map (aq.aL (rn l h.length))) h, .nx g ((c.args.toList.map ρ++dg).map AV.vf) h)
     | .fn g dg, .DA l _ _ r H'=>some (r.aL (rn l h.length),hX l (H'.map (aq.qJ (rn l h.length))) h, .nx g ((c.args.toList.map ρ++dg).map AV.vf) h)
     | .fn g dg, .rq l _ _ r=>some (r.aL (rn l 0),h, .nx g ((c.args.toList.map ρ++dg).map AV.vf) h)
     | .hid q, .ret r=>bif ((c.args.toList.map ρ).map AV.arg).all (AV.aG 0)&&r.aG 0 then some (r,h, .Dl q ((c.args.toList.map ρ).map AV.arg))else none
     |_,_=>none
   |_=>none
 |op=>xR (pJ P op ρ h)
theorem Ji:∀l,AV.wW l=l.map AV.nrm
 |[]=>by simp [AV.wW]
 |x::l=>by simp [AV.wW,Ji l]
theorem aH.nrm{G:Gh}{w:amY}{u:amX}{x:AV}(h:aH G w u x):aH G w u x.nrm:=by
 have fK:∀(vs:Array amX)(cs:amT AV),(∀(i:Nat)(u:amX)(c:AV),vs[i]?=some u->cs[i]?=some c->aH G w u c.nrm)->∀(i:Nat)(u:amX)(c:AV),vs[i]?=some u->(AV.wW cs)[i]?=some c->aH G w u c:=by
  intro vs cs ih i u c hu hc;rw[Ji,amc]at hc;cases hx:cs[i]? with
  |none=>rw[hx]at hc;cases hc
  |some x=>rw[hx]at hc;cases hc;exact ih i u x hu hx
 induction h with
 |agg vs cs hl _ ih=>rw[AV.nrm];exact .agg vs _ (by rw[Ji,ama];exact hl) (fK vs cs ih)
 |aY vs cs hl _ ih=>rw[AV.nrm];exact .aY vs _ (by rw[Ji,ama];exact hl) (fK vs cs ih)
 |full xs hp hf=>rw[AV.nrm];exact .d hp
 | @d u x h=>
   by_cases hx:x= .v (.slice none 0 0)
   ·subst hx;cases h with|v=>simp only[AV.nrm];exact .d Ci
   ·have:(AV.d x).nrm= .d x:=by
     unfold AV.nrm;split<;>simp_all
    rw[this];exact .d h
 |own n xs h hp hle hf=>simp only[AV.nrm];exact .own n xs h hp hle hf
 |ptr n off h=>simp only[AV.nrm];exact .ptr n off h
 |bp xs i off b o u x hx hS hu=>simp only[AV.nrm];exact .bp xs i off b o u x hx hS hu
 |row n off len cap k h hl hm=>simp only[AV.nrm];exact .row n off len cap k h hl hm
 |fn f vs cs hl h=>simp only[AV.nrm];exact .fn f vs cs hl h
 |mp n h=>simp only[AV.nrm];exact .mp n h
 |cp n h=>simp only[AV.nrm];exact .cp n h
 |vec n o len L k h hs hL hf=>simp only[AV.nrm];exact .vec n o len L k h hs hL hf
 |dD n i j L k h hs hL hf=>simp only[AV.nrm];exact .dD n i j L k h hs hL hf
 |hid h h1=>simp only[AV.nrm];exact .hid h h1
 |dead u=>simp only[AV.nrm];exact .dead u
theorem AV.Le.DU(x:AV):AV.Le x x.DU:=λG w u h=>by
 unfold AV.DU;split
 ·next f cs=>
  split
  ·next l e=>
   have:=h.cap (.fn f l) (by simp only[AV.cap,e]);cases h with|fn=>exact .hid this rfl
  ·exact h
 ·exact h
theorem AV.Le.arg(x:AV):AV.Le x x.arg:=λ_ _ _ h=>AV.Le.DU _ _ _ _ (h.bz 0).nrm
theorem cZ.args{P:amW}{f:FuncId}{as:amT AV}{h:amT aq}{K:AV->amT aq->Prop}(hc:cZ P f as h K)(bs:amT AV)(hl:as.length=bs.length)(hle:∀(i:Nat)(c d:AV),bs[i]?=some c->as[i]?=some d->AV.Le c d):cZ P f bs h K:=
 ⟨hc.1,λG w vs hi hs hr=>hc.2 G w vs hi (hs.trans hl.symm) λi u d hu hd=>by
  have aN:i<bs.length:=by rw[<-hl];exact(al5.1 hd).1
  exact hle i _ d (al9 aN) hd G w u (hr i u _ hu (al9 aN))⟩
theorem cZ.Zm{P:amW}{f:FuncId}{as:amT AV}{h:amT aq}{K:AV->amT aq->Prop}(hc:cZ P f (as.map AV.arg) h K):cZ P f as h K:=
 hc.args as (by rw[ama]) λi c d hc hd=>by
  rw[amc,hc]at hd;cases hd;exact AV.Le.arg c
theorem AV.Le.vf(x:AV):AV.Le x x.vf:=λ_ _ _ h=>(h.bz 0).nrm
theorem cZ.Ja{P:amW}{f:FuncId}{as:amT AV}{h:amT aq}{K:AV->amT aq->Prop}(hc:cZ P f (as.map AV.vf) h K):cZ P f as h K:=
 hc.args as (by rw[ama]) λi c d hc hd=>by
  rw[amc,hc]at hd;cases hd;exact AV.Le.vf c
theorem Xe(l:amT fp):(l.map fp.av).all (AV.aG 0)=true:=by
 rw[amv];intro x hx;obtain⟨c,_,rfl⟩:=List.mem_map.1 hx;cases c<;>rfl
theorem Pg.use{P:amW}{q:fp}{args:amT AV}{r:AV}{h:amT aq}{C:AV->amT aq->Prop}(hc:Pg P q (args.map AV.arg) r)(ha:(args.map AV.arg).all (AV.aG 0)=true)(hr:r.aG 0=true)(hC:C r h):∃g as,q.app args=some (g,as)/\cZ P g as h C:=by
 obtain⟨g,as,e,hc⟩:=hc;cases q with
 |d x=>simp [fp.app]at e
 |bp c off=>simp [fp.app]at e
 |fn g' cs=>
  simp only[fp.app,Option.some.injEq,Prod.mk.injEq]at e;obtain⟨rfl,rfl⟩:=e;refine⟨g',_,rfl,cZ.args (hc.use (h:=h) (C:=C) (by rw[List.all_append,ha,Xe];rfl) hr hC) _ (by simp) λi c d h1 h2=> ?_⟩;by_cases hi:i<args.length
  ·rw[amf hi]at h1;rw[amf (by simpa using hi),amc,h1]at h2;cases h2;exact AV.Le.arg c
  ·rw[aml (by omega)]at h1;rw[aml (by simpa using hi),ama,h1]at h2;cases h2;exact AV.Le.refl c
 |nA g' cs=>
  simp only[fp.app,Option.some.injEq,Prod.mk.injEq]at e;obtain⟨rfl,rfl⟩:=e;refine⟨g',_,rfl,cZ.args (hc.use (h:=h) (C:=C) (by rw[List.all_append,ha,Xe];rfl) hr hC) _ (by simp) λi c d h1 h2=> ?_⟩;by_cases hi:i<(cs.map fp.av).length
  ·rw[amf hi]at h1 h2;rw[h1]at h2;cases h2;exact AV.Le.refl c
  ·rw[aml (by omega)]at h1 h2;rw[amc,h1]at h2;cases h2;exact AV.Le.arg c
theorem eu{α:Type}{b:Bool}{x y:α}(h:(bif b then some x else none)=some y):b=true/\x=y:=by
 cases b with
 |true=>exact⟨rfl,amo h⟩
 |false=>cases h
theorem kR{α:Type}{b:Bool}{x:amV α}{y:α}(h:(bif b then x else none)=some y):b=true/\x=some y:=by
 cases b with
 |true=>exact⟨rfl,h⟩
 |false=>cases h
section
variable {P:amW} {ρ:Operand->AV} {h h':amT aq} {a:bX} {i:In} {x:AV} {C:AV->amT aq->Prop}
theorem OK.GM{x:AV}{b:Bool}(h:OK P (.bit x) (.bit b)):x= .d (.v (.bool b)):=by
 cases h with|bit h=>subst h;rfl
theorem Pv{t:TypeId}{p:AV}{cs:amT AV}{off:Nat}{K:AV->Prop}(h1:wO h p=some (cs,off))(h2:Ab P t cs off=some x)(hK:K x):n8 P t h p K:=by
 have key:(match lZ P t,gu P t with
     |some true,some k=>fO (cq (off+k) cs.length) (K (.agg ((cs.drop off).take k)))
     |some false,some _=>match cs[off]? with
      |some c=>K c
      |none=>False
     |_,_=>False):=by
  unfold Ab at h2;split at h2
  ·next k e1 e2=>
   obtain⟨h3,rfl⟩:=eu h2;exact bV.2 ⟨h3,hK⟩
  ·next k e1 e2=>rw[h2];exact hK
  ·cases h2
 unfold n8 sR;unfold wO at h1;split at h1
 ·split at h1
  ·next cD e=>cases h1;simp only[e];exact key
  ·cases h1
 ·split at h1
  ·next c e=>cases h1;simp only[e];exact key
  ·cases h1
 ·cases h1
theorem ahz{y:AV}{z:amV Int}{k:Nat}(h1:Oy y z k a=some (x,i))(bW:OK P i a):∃xs w c,y.fE=some xs/\z=some w/\0<=w/\xs[w.toNat]?=some c/\c.length=k/\x= .bp [c] 0 0:=by
 unfold Oy at h1;split at h1
 ·next xs w c hx=>
  obtain⟨hk,he⟩:=eu h1;cases he
  cases bW with
  |el h0 hc=>exact⟨_,_,_,hx,rfl,h0,hc,by simpa using hk,rfl⟩
 ·cases h1
theorem af2{T:TypeId}{y z:AV}{K:AV->Prop}(h1:OI P T y z a=some (x,i))(bW:OK P i a)(hK:K x):rZ P T y z K:=by
 unfold OI at h1;unfold rZ;cases hT:eX P T with
 |some p=>
  obtain⟨e,k⟩:=p;simp only[hT]at h1 ⊢;cases y with
  |row n off len cap k'=>
   simp only at h1 ⊢;split at h1
   ·next w hw=>
    obtain⟨hk,he⟩:=eu h1;cases he
    cases bW with|lt h0 hl=>simp only[hw];exact bV.2 ⟨hk,h0,hl,hK⟩
   ·cases h1
  |_=>
   obtain⟨xs,w,c,e1,e2,e3,e4,e5,rfl⟩:=ahz h1 bW;simp only[e1,e2,e4,e5];exact⟨e3,trivial,hK⟩
 |none=>
  simp only[hT]at h1 ⊢;split at h1
  ·next n e k b off w hA hw=>
   cases h1
   simp only[hA,hw];cases bW with|lt h0 hl=>exact⟨h0,hl,hK⟩
  ·next n e k c w hA hw=>
   split at h1
   ·next d=>
    obtain⟨hb,he⟩:=eu h1;cases he;simp only[hA,hw];cases bW with|Fq h0 hl h=>exact bV.2 ⟨hb,h0,hl,by simp only[List.getElem?_cons_zero,amp,h];exact hK⟩
   ·cases h1
  ·cases h1
theorem abo{T:TypeId}{y:AV}{K:Nat->Prop}{C:AV->Prop}(h1:P6 P T y a=some (x,i))(bW:OK P i a)(hK:C x)(hc:∀n:Nat,C (.d (.v (.int .i64 n)))->K n):rJ P T y K:=by
 unfold P6 at h1;unfold rJ;split at h1
 ·obtain⟨hb,he⟩:=eu h1;cases he;exact bV.2 ⟨hb,hc _ hK⟩
 ·obtain⟨hb,he⟩:=eu h1;cases he;exact bV.2 ⟨hb,hc _ hK⟩
 ·next n1 n2=>
  split at h1
  ·next xs n hx=>
   obtain⟨hb,he⟩:=eu h1;cases he;cases bW with
   |len hl=>
    subst hl;split
    ·next s=>exact absurd rfl (n1 s)
    ·next a b c d e=>exact absurd rfl (n2 a b c d e)
    ·simp only[hx];exact bV.2 ⟨hb,hc _ hK⟩
  ·cases h1
theorem aeE{y:amV Operand}{l:amV Int}(h1:CY ρ y=some l):(y=none/\l=none)\/∃o z,y=some o/\l=some z/\(ρ o).int?=some z:=by
 unfold CY at h1;cases y with
 |none=>cases h1;exact .inl ⟨rfl,rfl⟩
 |some o=>
  simp only at h1;split at h1
  ·next z hz=>cases h1;exact .inr ⟨o,z,rfl,rfl,hz⟩
  ·cases h1
theorem tH{y:amV Operand}{l:amV Int}{d:Nat}{K:Nat->Prop}(h1:CY ρ y=some l)(h0:∀z,l=some z->0<=z)(hK:K (oN l d)):jS ρ y d K:=by
 rcases aeE h1 with⟨rfl,rfl⟩|⟨o,z,rfl,rfl,hz⟩
 ·exact hK
 ·simp only[jS,hz];exact⟨h0 z rfl,hK⟩
theorem aeA{T:TypeId}{y:AV}{lo hi mx:amV Operand}{K:AV->Prop}(h1:Ks P T ρ y lo hi mx a=some (x,i))(bW:OK P i a)(hK:K x):ug P T ρ y lo hi mx K:=by
 unfold Ks at h1;unfold ug;split at h1
 ·split at h1
  ·next l hh hl qI=>
   split at h1
   ·next b=>
    obtain⟨hb,he⟩:=eu h1;cases he;cases bW with
    |str h0 h2 h3 h4=>
     refine bV.2 ⟨hb,tH qI (λz e=>by subst e;exact h3) ?_⟩;have e1:oN hh b.size=(hh.getD b.size).toNat:=by cases hh<;>simp [oN]
     have e2:oN l 0=(l.getD 0).toNat:=by cases l<;>simp [oN]
     rw[e1];refine⟨h4,tH hl (λz e=>by subst e;exact h0) ?_⟩;rw[e2];rw[e1,e2]at hK;exact⟨h2,hK⟩
   ·next n off=>
    split at h1
    ·next m e k hT=>
     obtain⟨hb,he⟩:=eu h1;cases he;simp only[hT];generalize cq m 4096=q at hb ⊢;rw[al7]at hb;refine bV.2 ⟨hb.1,tH qI (λz e=>by cases e) (bV.2 ⟨dq.2 (amg _),tH hl (λz e=>by cases e) (bV.2 ⟨?_,?_⟩)⟩)⟩
     ·rw[al7];exact⟨dq.2 (Nat.zero_le _),hb.2⟩
     ·show K (.row n (off+0*k) (m-0) (m-0) k);rw[Nat.zero_mul,Nat.add_zero,Nat.sub_zero];exact hK
    ·cases h1
   ·next wC ku=>
    split at h1
    ·next xs e k ys hx hT=>
     cases h1
     dsimp only;split
     ·next b=>exact absurd rfl (wC b)
     ·next n off=>exact absurd rfl (ku n off)
     ·simp only[hx,hT];cases hh with
      |none=>
       cases bW with
       |TZ h0 h2 hk he=>
        refine⟨hk,tH qI (λz e=>by cases e) ⟨amg _,tH hl (λz e=>by subst e;exact h0) ?_⟩⟩;have e2:oN l 0=(l.getD 0).toNat:=by cases l<;>simp [oN]
        rw[e2];refine⟨h2,?_⟩;rw[show oN none xs.length=xs.length from rfl,List.take_length,he];exact hK
      |some z=>
       cases bW with
       |sub h0 h2 h3 h4 hk he=>
        refine⟨hk,tH qI (λz e=>by cases e;exact h3) ⟨h4,tH hl (λz e=>by subst e;exact h0) ?_⟩⟩;have e2:oN l 0=(l.getD 0).toNat:=by cases l<;>simp [oN]
        rw[e2];refine⟨h2,?_⟩;rw[show oN (some z) xs.length=z.toNat from rfl,he];exact hK
    ·cases h1
  ·cases h1
 ·split at h1
  ·next m _ _ y' _ hm=>
   split at h1
   ·next xs e k _ _ ys hx hT hy=>
    cases h1
    cases bW with
    |sub h0 h2 h3 h4 hk he=>
     simp only[hx,hT];refine⟨hk,?_⟩;simp only[jS,hm,hy,AV.int?];refine⟨Int.le_refl _,Nat.zero_le _,Int.le_refl _,?_,by simpa using hK⟩;first|rfl|trivial
   ·cases h1
  ·cases h1
theorem ME{k:Nat}{y:AV}{ys:amT (amT D)}{K:amT (amT D)->Prop}(h1:FR h k y=some ys)(hy:∀c∈ys,c.length=k)(hK:K ys):tB h k y K:=by
 unfold FR at h1;unfold tB;split at h1
 ·split at h1
  ·next cs e=>
   split at h1
   ·next ds e2=>
    obtain⟨hb,rfl⟩:=eu h1;simp only[e,e2];exact bV.2 ⟨hb,hK⟩
   ·cases h1
  ·cases h1
 ·next hn=>
  split
  ·next n off len cap k'=>exact absurd rfl (hn n off len cap k')
  ·simp only[h1];exact⟨hy,hK⟩
theorem alA{T:TypeId}{y z:AV}(h1:Lw P T h y z a=some (x,h',i))(bW:OK P i a)(hC:C x h'):uo P T h y z C:=by
 unfold Lw at h1;unfold uo;split at h1
 ·next e k zs n' hT=>
  simp only[hT];split at h1
  ·next zv dd hz pW=>
   simp only[hz,pW];obtain⟨hb,h1⟩:=kR h1;refine bV.2 ⟨hb,?_⟩;split at h1
   ·next ys jy=>
    split at h1
    ·next n xs=>
     split at h1
     ·next e' k' len hn=>
      obtain⟨hc,he⟩:=eu h1;cases he;cases bW with
      |app hl hx hy hm lM jE B4=>
       subst jE;subst B4;refine ME jy hy ?_;simp only[hn];exact bV.2 ⟨hc,hl,hx,hm,lM,hC⟩
     ·cases h1
    ·cases h1
     cases bW with
     |app hl hx hy hm lM jE B4=>
      subst jE;subst B4;refine ME jy hy ?_;simp only[List.nil_append,amh,amp]at hC hm lM ⊢;exact⟨hm,lM,hC⟩
    ·cases h1
     cases bW with
     |app hl hx hy hm lM jE B4=>
      subst jE;subst B4;exact ME jy hy ⟨hx,hm,lM,hC⟩
    ·cases h1
   ·cases h1
  ·cases h1
 ·cases h1
theorem ahG{T:TypeId}{ps:amT (Nat×AV)}{K:AV->Prop}(h1:Qq P T ps=some x)(hK:K x):wc P T ps K:=by
 unfold Qq at h1;unfold wc;split at h1
 ·next pl z e1 e2=>
  simp only[e1,e2];split at h1
  ·next cs e3=>obtain⟨hb,rfl⟩:=eu h1;simp only[e3];exact bV.2 ⟨hb,hK⟩
  ·cases h1
 ·cases h1
theorem ah9{T:TypeId}{len:Nat}{ps:amT (Nat×AV)}{K:AV->Prop}(h1:Lh P T len ps=some x)(hK:K x):vU P T len ps K:=by
 unfold Lh at h1;unfold vU;split at h1
 ·next e k hT=>
  simp only[hT];split at h1
  ·next z hz=>
   simp only[hz];split at h1
   ·next cs gO=>
    simp only[gO];split at h1
    ·next ds qY=>obtain⟨hb,rfl⟩:=eu h1;simp only[qY];exact bV.2 ⟨hb,hK⟩
    ·cases h1
   ·cases h1
  ·cases h1
 ·cases h1
theorem Wp{T:TypeId}{op:BinOp}{y z:AV}{K:AV->Prop}(h1:H8 P T op y z=some (x,i))(bW:OK P i a)(hK:K x):wX P T op y z K:=by
 unfold H8 at h1;unfold wX;split at h1
 ·split at h1
  ·next v e=>
   obtain⟨hb,he⟩:=eu h1;cases he;cases bW with|nz h0=>simp only[e];exact bV.2 ⟨hb,h0,hK⟩
  ·next e=>
   simp only[e];split at h1
   ·next v e2=>
    cases h1
    cases bW with|nn h0=>simp only[e2];exact⟨h0,hK⟩
   ·next e2=>
    simp only[e2];split at h1
    ·next v e3=>obtain⟨hb,he⟩:=eu h1;cases he;simp only[e3];exact bV.2 ⟨hb,hK⟩
    ·cases h1
 ·split at h1
  ·next v e=>cases h1;simp only[e];exact hK
  ·next e=>
   simp only[e];split at h1
   ·cases h1;cases bW with|cat h=>exact⟨h,hK⟩
   ·cases h1
 ·split at h1
  ·next v e=>obtain⟨hb,he⟩:=eu h1;cases he;simp only[e];exact bV.2 ⟨hb,hK⟩
  ·cases h1
 ·split at h1
  ·next b e=>
   simp only[e];split at h1
   ·next v e2=>cases h1;simp only[e2];exact hK
   ·cases h1
  ·cases h1
 ·cases h1
theorem ZY{s t:TypeId}{y:AV}{K:AV->Prop}(h1:FD P s t y a=some (x,i))(bW:OK P i a)(hK:K x):wB P s t y K:=by
 unfold FD at h1;unfold wB;split at h1
 ·split at h1
  ·next e1 e2=>cases h1;simp only[e1,e2];exact hK
  ·cases h1
 ·obtain⟨hb,he⟩:=eu h1;cases he;exact bV.2 ⟨hb,hK⟩
 ·next h8 h9=>
  split at h1
  ·next xs e k s' e1 e2=>
   obtain⟨hb,he⟩:=eu h1;cases he;cases bW with
   |iy h=>
    obtain⟨ns,k1,k2⟩:=h;subst k2;split
    ·next k' n=>exact absurd rfl (h8 k' n)
    ·next b'=>exact absurd rfl (h9 b')
    ·simp only[e1,e2];exact bV.2 ⟨hb,ns,k1,hK⟩
  ·cases h1
theorem WM{T:TypeId}{y:AV}{f:Nat}{K:AV->Prop}(h1:Ib P T y f=some x)(hK:K x):vr P T y f K:=by
 unfold Ib at h1;unfold vr;split at h1
 ·next e=>obtain⟨hb,rfl⟩:=eu h1;simp only[e];exact bV.2 ⟨hb,hK⟩
 ·next e=>simp only[e,h1];exact hK
 ·cases h1
theorem Nh{y:amV AV}(h1:F9 h y=some (x,h',i)):y=some x/\h'=h:=by
 cases y with
 |none=>cases h1
 |some y=>cases h1;exact⟨rfl,rfl⟩
theorem CQ{y:amV (AV×In)}(h1:yX h y=some (x,h',i)):y=some (x,i)/\h'=h:=by
 cases y with
 |none=>cases h1
 |some y=>cases h1;exact⟨rfl,rfl⟩
theorem x9{o:Oper}(h1:uF P o.op ρ h a=some (x,h',i))(bW:OK P i a)(hC:C x h'):cW P o ρ h C:=by
 obtain⟨dst,op,type,pos,after,guard⟩:=o;simp only at h1;unfold uF at h1;unfold cW;split at h1
 ·cases h1;exact hC
 ·cases h1;exact hC
 ·next c y z=>
  split at h1
  ·next b=>
   cases h1
   simp only[OK.GM bW];cases b<;>simp_all
  ·cases h1
 ·split at h1
  ·next z e=>cases h1;simp only[e];exact hC
  ·cases h1
 ·obtain⟨hb,he⟩:=eu h1;cases he;exact bV.2 ⟨hb,hC⟩
 ·split at h1
  ·next cs off e=>
   split at h1
   ·next y e2=>cases h1;exact Pv e e2 hC
   ·cases h1
  ·cases h1
 ·split at h1
  ·next n off e=>
   split at h1
   ·next cs e2=>
    split at h1
    ·next k e3=>obtain⟨hb,he⟩:=eu h1;cases he;simp only[e,xq,e2,e3];exact bV.2 ⟨hb,hC⟩
    ·cases h1
   ·cases h1
  ·cases h1
 ·split at h1
  ·next e=>cases h1;simp only[e];exact hC
  ·next e=>cases h1;simp only[e];exact hC
  ·next e=>cases h1;simp only[e];exact hC
  ·cases h1
 ·split at h1
  ·next e=>
   simp only[e];split at h1
   ·next e2=>cases h1;simp only[e2];exact hC
   ·next e2=>cases h1;simp only[e2];exact hC
   ·cases h1
  ·cases h1
 ·obtain⟨e,rfl⟩:=Nh h1;exact WM e hC
 ·obtain⟨e,rfl⟩:=CQ h1;exact af2 e bW hC
 ·split at h1
  ·next b z c e1 e2=>
   obtain⟨hb,he⟩:=eu h1;cases he;cases bW with
   |ch h0 hc=>simp only[e1,e2];refine bV.2 ⟨hb,h0,?_⟩;simp only[hc];exact hC
  ·cases h1
 ·obtain⟨e,rfl⟩:=Nh h1;exact ahG e hC
 ·obtain⟨e,rfl⟩:=Nh h1;exact ah9 e hC
 ·obtain⟨e,rfl⟩:=CQ h1;exact aeA e bW hC
 ·split at h1
  ·next e=>
   split at h1
   ·next e2=>cases h1;simp only[e,e2];exact hC
   ·cases h1
  ·cases h1
 ·split at h1
  ·next e=>cases h1;simp only[e];exact hC
  ·cases h1
 ·obtain⟨e,rfl⟩:=CQ h1;exact Wp e bW hC
 ·unfold xe;split at h1
  ·next e=>
   split at h1
   ·next e2=>cases h1;simp only[e,e2];exact hC
   ·cases h1
  ·cases h1
 ·obtain⟨e,rfl⟩:=CQ h1;exact ZY e bW hC
 ·next c=>
  split at h1
  ·next hc=>
   simp only[hc];split at h1
   ·next e1 e2=>obtain⟨e,rfl⟩:=CQ h1;simp only[e1,e2];exact abo (C:=λx=>C x _) e bW hC (λn hn=>hn)
   ·cases h1
  ·next hc=>
   simp only[hc];split at h1
   ·next e1 e2=>obtain⟨hb,h1⟩:=kR h1;simp only[e1,e2];exact bV.2 ⟨hb,alA h1 bW hC⟩
   ·cases h1
  ·next hc=>
   simp only[hc];split at h1
   ·next e1=>cases h1;simp only[e1];exact hC
   ·cases h1
  ·next hc=>
   simp only[hc];split at h1
   ·next e1=>cases h1;simp only[e1];exact hC
   ·cases h1
  ·next f hc=>
   simp only[hc];split at h1
   ·next g dg r e=>
    obtain⟨hb,he⟩:=eu h1;cases he;simp only[al7]at hb;simp only[e];cases bW with|call jB=>exact(jB.use hb.1 hb.2 hC).Zm
   ·next g dg r h2 e=>
    cases h1
    simp only[e];cases bW with|jB jB=>exact jB.mono λr1 h1 ⟨e1,e2⟩=>by subst e1;subst e2;exact hC
   ·next g dg l e6 H r H' e=>
    cases h1
    simp only[e];cases bW with|nx ha hd hb hl hc=>exact(ha▸(hc.nx hd hb hl).mono λr1 h1 ⟨e1,e2⟩=>by subst e1;subst e2;exact hC:cZ P g _ _ _).Ja
   ·next g dg l e6 H r H' e=>
    cases h1
    simp only[e];cases bW with|MB tR hv ha hd hb hl hc=>exact(ha▸(hc.nx hd (by rw[hb,agT tR]) (by rw[al7]at hl ⊢;exact⟨hl.1,af1 tR hl.2⟩)).mono λr1 h1 ⟨e1,e2⟩=>by subst e1;subst e2;rw[<-aae hv];exact hC:cZ P g _ _ _).Ja
   ·next g dg l e6 H r e=>
    cases h1
    simp only[e];cases bW with|rq ha hd hb hl hc=>exact(ha▸(by have:=hc.rq hd hb hl [];rw[amq]at this;exact this.mono λr1 h1 ⟨e1,e2⟩=>by subst e1;subst e2;exact hC):cZ P g _ _ _).Ja
   ·next q r e=>
    obtain⟨hb,he⟩:=eu h1;cases he;simp only[al7]at hb;simp only[e];cases bW with|Dl hq=>exact hq.use hb.1 hb.2 hC
   ·cases h1
  ·cases h1
 ·next op _=>
  unfold xR at h1;split at h1
  ·next y h2 p e=>
   cases h1
   simp only[e];refine⟨?_,hC⟩;cases p with
   |no=>trivial
   |lt n=>cases bW with|sd h=>exact h
  ·cases h1
end
def iL:amT (Nat×bX)->Nat->bX
 |[],_=> .none
 |(k,x)::l,i=>bif k==i then x else iL l i
def tG(i:In)(a:bX)(r:amV (St×amT (In×bX))):amV (St×amT (In×bX)):=
 match i with
 | .none=>r
 |i=>match r with
  |some (s,l)=>some (s,(i,a)::l)
  |none=>none
def zH:bX->Bool
 | .MN .. | .M1 .. | .DA .. =>true
 |_=>false
def yp(o:Oper):bX->Bool
 | .DA [] .. =>cz o==6
 |_=>false
def Di(P:amW)(dr vk:Bool)(op:Op)(ρ:Operand->AV)(h:amT aq)(a:bX):amV (AV×amT aq×In):=
 match a with
 | .va va=>bif dr&& !vk then none else match im P op ρ h va with
   |some (x,h',p)=>some (x,h', .pr p)
   |none=>none
 |a=>uF P op ρ h a
def ni(P:amW)(dr:Bool)(o:Oper)(j:Nat)(as:amT (Nat×bX))(s:St):amV (St×amT (In×bX)):=
 bif dr&&zH (iL as (3*j+1))&& !yp o (iL as (3*j+1))then none else
 match Di P dr (jH o) o.op (ev s) s.h (iL as (3*j+1))with
 |some (x,h',i)=>match iL as (3*j+2)with
  | .eq y=>tG i (iL as (3*j+1)) (some ((s.wh h').put o.dst y,[(.eq x, .eq y)]))
  |_=>tG i (iL as (3*j+1)) (some ((s.wh h').put o.dst x,[]))
 |none=>none
def DQ(o:Oper)(s:St):St:=s.put o.dst (.d (.v undef))
def qz(l:amT (In×bX)):amV (St×amT (In×bX))->amV (St×amT (In×bX))
 |some (s,m)=>some (s,l++m)
 |none=>none
def nM(P:amW)(ops:Array Oper)(dr:Bool)(o:Oper)(j:Nat)(as:amT (Nat×bX))(s:St):amV (St×amT (In×bX)):=
 match o.guard with
 |none=>ni P dr o j as s
 |some (g,want)=>match iL as (3*j)with
  | .bit b=>qz [(.bit (ue ops g s.t), .bit b)] (bif b==want then ni P dr o j as s else some (DQ o s,[]))
  | .B7=>qz [(.bit (ue ops g s.t), .B7)] (some (DQ o s,[]))
  |_=>none
def oC(P:amW)(ops:Array Oper)(dr:Bool):amT Oper->Nat->amT (Nat×bX)->St->amV (St×amT (In×bX))
 |[],_,_,s=>some (s,[])
 |o::rest,j,as,s=>match nM P ops dr o j as s with
  |some (s1,l)=>qz l (oC P ops dr rest (j+1) as s1)
  |none=>none
def gi(P:amW)(l:amT (In×bX)):Prop:=∀p∈l,OK P p.1 p.2
section
variable {P:amW} {ops:Array Oper} {dr:Bool} {o:Oper} {j:Nat} {as:amT (Nat×bX)} {s s1:St} {l:amT (In×bX)} {K:St->Prop}
theorem ID{i:In}{a:bX}{r:amV (St×amT (In×bX))}(h:tG i a r=some (s1,l))(bW:gi P l):∃m,r=some (s1,m)/\gi P m/\OK P i a:=by
 unfold tG at h;split at h
 ·exact⟨l,h,bW, .none⟩
 ·split at h
  ·next s2 m=>
   cases h
   exact⟨m,rfl,λp hp=>bW p (ame _ hp),bW (i,a) amb⟩
  ·cases h
theorem Aj{r:amV (St×amT (In×bX))}{m:amT (In×bX)}(h:qz m r=some (s1,l))(bW:gi P l):∃n,r=some (s1,n)/\gi P n/\gi P m:=by
 unfold qz at h;split at h
 ·next s2 n=>
  cases h
  exact⟨n,rfl,λp hp=>bW p (List.mem_append_right _ hp),λp hp=>bW p (List.mem_append_left _ hp)⟩
 ·cases h
def FY(P:amW)(dr:Bool)(o:Oper)(K:St->Prop)(s:St):Prop:=bif dr then SH P o K s else oz P o K s
theorem afW{x:AV}{h':amT aq}{i:In}{a:bX}(h1:uF P o.op (ev s) s.h a=some (x,h',i))(bW:OK P i a)(hh:zH a=false)(hK:K ((s.wh h').put o.dst x)):SH P o K s:=by
 refine .inl ?_;unfold A7;split
 ·next c iP=>
  split
  ·next f hc=>
   rw[iP]at h1;unfold uF at h1;simp only[hc]at h1;split at h1
   ·next g dg r e=>
    obtain⟨hb,he⟩:=eu h1;cases he;simp only[al7]at hb;simp only[e];cases bW with
    |call jB=>exact⟨_,hK,λe=>(jB.use hb.1 hb.2 ⟨rfl,rfl⟩).Zm⟩
   ·cases hh
   ·cases hh
   ·cases hh
   ·next g dg l e6 H r e=>
    cases h1
    simp only[e];cases bW with|rq ha hd hb hl hc=>exact⟨_,hK,λe=>(ha▸hc.rq hd hb hl e:cZ P g _ _ _).Ja⟩
   ·next q r e=>
    obtain⟨hb,he⟩:=eu h1;cases he;simp only[al7]at hb;simp only[e];cases bW with
    |Dl hq=>
     have:=λh=>hq.use (h:=h) (C:=λr' h'=>r'=x/\h'=h) hb.1 hb.2 ⟨rfl,rfl⟩;obtain⟨g,cs,e1,_⟩:=this [];refine⟨g,cs,e1,x,hK,λe=> ?_⟩;obtain⟨g',cD,e2,h9⟩:=this (s.h++e);rw[e1]at e2;cases e2
     exact h9
   ·cases h1
  ·exact x9 (C:=λx h'=>K ((s.wh h').put o.dst x)) h1 bW hK
 ·exact x9 (C:=λx h'=>K ((s.wh h').put o.dst x)) h1 bW hK
theorem ai0{o:Oper}{ρ:Operand->AV}{h h':amT aq}{e6:amT AV}{H H':amT aq}{r x:AV}{i:In}(hk:cz o=6)(hr:uF P o.op ρ h (.DA [] e6 H r H')=some (x,h',i)):h'=h++H'.map (aq.qJ (rn [] h.length)):=by
 unfold cz at hk;split at hk
 all_goals first|(cases hk;done)|skip
 next c iP=>
  split at hk
  all_goals first|(cases hk;done)|skip
  next f hc=>
   rw[iP]at hr;unfold uF at hr;simp only[hc]at hr;generalize ρ f=v at hr;cases v<;>first|(cases hr;rfl)|cases hr
theorem N7(h:ni P dr o j as s=some (s1,l))(bW:gi P l)(hK:K s1):FY P dr o K s:=by
 unfold ni at h;cases hd:dr&&zH (iL as (3*j+1))&& !yp o (iL as (3*j+1))with
 |true=>rw[hd]at h;cases h
 |false=>
  rw[hd]at h;simp only[cond_false]at h;split at h
  ·next x h' i hr=>
   have fin:OK P i (iL as (3*j+1))->K ((s.wh h').put o.dst x)->FY P dr o K s:=λh1 h2=>by
    unfold FY;cases dr with
    |true=>
     unfold Di at hr;split at hr
     ·next va e=>
      cases hv:jH o with
      |false=>rw[hv]at hr;cases hr
      |true=>
       rw[hv]at hr;simp only[Bool.not_true,Bool.and_false,cond_false]at hr;split at hr
       ·next x2 LJ p e2=>
        cases hr
        rw[e]at h1;cases h1 with|pr _ hp=>exact .inr (.inr (.inl ⟨.inl ⟨hv,rfl⟩,va,x,h',p,e2,hp,h2⟩))
       ·cases hr
     ·by_cases hx:yp o (iL as (3*j+1))=true
      ·refine .inr (.inr (.inr ?_));generalize iL as (3*j+1)=a at hx h1 hr;unfold yp at hx;split at hx
       ·next e6 H r H'=>
        have Ef:cz o=6:=by simpa using hx
        have this:h'=s.h++H'.map (aq.qJ (rn [] s.h.length)):=ai0 Ef hr;refine⟨Ef,x,H'.map (aq.qJ (rn [] s.h.length)),?_,λC hC=> ?_⟩
        ·rw[<-this];exact h2
        ·rw[<-this]at hC;exact x9 hr h1 hC
       ·cases hx
      ·exact afW hr h1 (by simpa [hx]using hd) h2
    |false=>
     unfold Di at hr;split at hr
     ·next va e=>
      simp only[Bool.false_and,cond_false]at hr;split at hr
      ·next x2 LJ p e2=>
       cases hr
       rw[e]at h1;cases h1 with|pr _ hp=>exact .inl ⟨va,x,h',p,e2,hp,h2⟩
      ·cases hr
     ·exact .inr (.inr (.inl (x9 (C:=λx h'=>K ((s.wh h').put o.dst x)) hr h1 h2)))
   split at h
   ·next y hy=>
    obtain⟨m,e,h2,h3⟩:=ID h bW;cases e
    have:=h2 (.eq x, .eq y) amb;cases this with|eq e=>subst e;exact fin h3 hK
   ·obtain⟨m,e,h2,h3⟩:=ID h bW;cases e
    exact fin h3 hK
  ·cases h
theorem Qt(h:nM P ops dr o j as s=some (s1,l))(bW:gi P l)(hK:K s1):iT ops o s (FY P dr o K s) (K (s.put o.dst (.d (.v undef)))):=by
 unfold nM at h;split at h
 ·next hg=>unfold iT;rw[hg];exact N7 h bW hK
 ·next g want hg=>
  obtain⟨dst,op,ty,pos,after,guard⟩:=o;simp only at hg;subst hg;split at h
  ·next b hb=>
   obtain⟨n,e,h2,h3⟩:=Aj h bW;have h4:=OK.GM (h3 (_,_) amb);rw[Jz,h4];refine⟨λe2=> ?_,λe2=> ?_⟩
   ·subst e2;simp only[BEq.rfl,cond_true]at e;exact N7 e h2 hK
   ·subst e2;have:((!want)==want)=false:=by cases want<;>rfl
    rw[this]at e;simp only[cond_false]at e;cases e
    exact hK
  ·next hb=>
   obtain⟨n,e,h2,h3⟩:=Aj h bW;cases e
   have h4:=h3 (_,_) amb;have h5:ue ops g s.t= .d (.v undef):=by
    generalize ue ops g s.t=z at h4;cases h4;rfl
   rw[Jz,h5];exact hK
  ·cases h
theorem vh:∀(ol:amT Oper)(j:Nat)(s:St)(l:amT (In×bX)),oC P ops dr ol j as s=some (s1,l)->gi P l->K s1->(bif dr then EO P ops ol K s else sH P ops ol K s)
 |[],_,s,l,h,_,hK=>by cases h;cases dr<;>exact hK
 |o::rest,j,s,l,h,bW,hK=>by
  unfold oC at h;split at h
  ·next s2 m hg=>
   obtain⟨n,e,h2,h3⟩:=Aj h bW;have ih:=vh rest (j+1) s2 n e h2 hK;cases dr with
   |true=>exact Qt (K:=EO P ops rest K) hg h3 ih
   |false=>exact Qt (K:=sH P ops rest K) hg h3 ih
  ·cases h
theorem Oz(s:St)(d:amV Nat)(x:AV):∃pre,(s.put d x).t=pre++s.t:=by
 cases d with
 |none=>exact⟨[],rfl⟩
 |some k=>
  by_cases hk:k<s.n
  ·exact⟨[(k,x)],by rw[qd hk];rfl⟩
  ·exact⟨[],by rw[CE hk];rfl⟩
theorem ND(h:nM P ops dr o j as s=some (s1,l)):(∃pre,s1.t=pre++s.t)/\s1.n=s.n:=by
 have cI:∀{i a r l},tG i a r=some (s1,l)->∃m,r=some (s1,m):=fun{i a r l} h=>by
  unfold tG at h;split at h
  ·exact⟨_,h⟩
  ·split at h
   ·cases h;exact⟨_,rfl⟩
   ·cases h
 have cR:∀{m r l},qz m r=some (s1,l)->∃m,r=some (s1,m):=fun{m r l} h=>by
  unfold qz at h;split at h
  ·cases h;exact⟨_,rfl⟩
  ·cases h
 have st:∀l,ni P dr o j as s=some (s1,l)->(∃pre,s1.t=pre++s.t)/\s1.n=s.n:=λl h=>by
  unfold ni at h;cases hd:dr&&zH (iL as (3*j+1))&& !yp o (iL as (3*j+1))with
  |true=>rw[hd]at h;cases h
  |false=>
   rw[hd]at h;simp only[cond_false]at h;split at h
   ·split at h<;>(obtain⟨m,e⟩:=cI h;cases e;exact⟨Oz _ _ _,by rw[qR];rfl⟩)
   ·cases h
 unfold nM at h;split at h
 ·exact st _ h
 ·split at h
  ·obtain⟨m,e⟩:=cR h;revert e;generalize ((_:Bool)==_)=q;intro e;cases q with
   |true=>exact st _ e
   |false=>cases e;exact⟨Oz _ _ _,by unfold DQ;rw[qR]⟩
  ·obtain⟨m,e⟩:=cR h;cases e;exact⟨Oz _ _ _,by unfold DQ;rw[qR]⟩
  ·cases h
theorem PH:∀(ol:amT Oper)(j:Nat)(s:St)(l:amT (In×bX)),oC P ops dr ol j as s=some (s1,l)->(∃pre,s1.t=pre++s.t)/\s1.n=s.n
 |[],_,s,l,h=>by cases h;exact⟨⟨[],rfl⟩,rfl⟩
 |o::rest,j,s,l,h=>by
  unfold oC at h;split at h
  ·next s2 m hg=>
   unfold qz at h;split at h
   ·next s3 n e=>
    cases h
    obtain⟨⟨p1,e1⟩,n1⟩:=ND hg;obtain⟨⟨p2,e2⟩,n2⟩:=PH rest (j+1) s2 n e;exact⟨⟨p2++p1,by rw[e2,e1,amm]⟩,n2.trans n1⟩
   ·cases h
  ·cases h
end
def Rz:AV->Bool
 | .dead=>true
 |_=>false
def qy(P:amW)(dr:Bool)(l:amT Oper)(as:amT (Nat×bX))(keep:amT Nat)(s:St):amV (amT (Nat×AV)×amT aq×amT (In×bX)):=
 match oC P l.toArray dr l 0 as s with
 |some (s1,ps)=>bif (s1.t.take (s1.t.length-s.t.length)).all (λp=>keep.any (·==p.1)||Rz (bq s.t p.1))then some (keep.map λk=>(k,bq s1.t k),s1.h,ps)else none
 |none=>none
theorem Dx:∀(a b:amT (Nat×AV))(i:Nat),(i∈a.map (·.1)/\bq (a++b) i=bq a i)\/(i ∉ a.map (·.1)/\bq (a++b) i=bq b i)
 |[],b,i=> .inr ⟨by simp,rfl⟩
 |(k,x)::a,b,i=>by
  by_cases e:i=k
  ·subst e;exact .inl ⟨by simp,by simp [kZ]⟩
  ·rcases Dx a b i with⟨h1,h2⟩|⟨h1,h2⟩
   ·exact .inl ⟨by simp at h1 ⊢;exact .inr h1,by rw[List.cons_append,kZ,if_neg e,h2,kZ,if_neg e]⟩
   ·exact .inr ⟨by simp at h1 ⊢;exact⟨e,h1⟩,by rw[List.cons_append,kZ,if_neg e,h2]⟩
section
variable {P:amW} {dr:Bool} {as:amT (Nat×bX)} {s s1 s':St} {ps:amT (In×bX)} {keep:amT Nat} {ol:amT Oper} {Δ:amT (Nat×AV)} {h':amT aq}
theorem F3(h:qy P dr ol as keep s=some (Δ,h',ps)):∃s1,oC P ol.toArray dr ol 0 as s=some (s1,ps)/\s1.n=s.n/\s1.h=h'/\∀i,bq (Δ++s.t) i=bq s1.t i\/bq (Δ++s.t) i= .dead:=by
 unfold qy at h;split at h
 ·next s1 ps' hr=>
  obtain⟨hb,he⟩:=eu h;cases he
  obtain⟨⟨pre,e1⟩,n1⟩:=PH _ _ _ _ hr;refine⟨s1,hr,n1,rfl,λi=> ?_⟩;have BO:∀(f:Nat->AV),(keep.map λk=>(k,f k)).map (·.1)=keep:=λf=>by rw[List.map_map];exact List.map_id _
  rcases Dx (keep.map λk=>(k,bq s1.t k)) s.t i with⟨h1,h2⟩|⟨h1,h2⟩
  ·rw[BO]at h1;rw[h2,rp (λk=>bq s1.t k),if_pos h1];exact .inl rfl
  ·rw[BO]at h1;rw[h2];rw[e1,al6,Nat.add_sub_cancel,List.take_left']at hb
   ·rw[e1];rcases Dx pre s.t i with⟨h3,h4⟩|⟨h3,h4⟩
    ·right
     obtain⟨p,hp,rfl⟩:=List.mem_map.1 h3;have:=amv.1 hb p hp;rw[Bool.or_eq_true]at this;rcases this with this|this
     ·exfalso;obtain⟨k,hk,e⟩:=List.any_eq_true.1 this;rw[beq_iff_eq]at e;exact h1 (e▸hk)
     ·generalize bq s.t p.1=z at this;cases z<;>first|rfl|cases this
    ·exact .inl h4.symm
   ·rfl
 ·cases h
theorem c8.less{G:Gh}{w:amY}{a:Act}(hs:c8 G w a s1)(hn:s'.n=s1.n)(hh:s'.h=s1.h)(ht:∀i,bq s'.t i=bq s1.t i\/bq s'.t i= .dead):c8 G w a s':=
 ⟨hs.size.trans hn.symm,λi=>by
  rcases ht i with e|e
  ·rw[e];exact hs.tmp i
  ·rw[e];exact .dead _,by rw[hh];exact hs.inv,hs.df⟩
end
structure Ob(P:Program) where
 i:In
 o:bX
 ok:OK P i o
def bT{P:amW}{e:Bool}(h:e=true):Ob P:=⟨_,_, .bit (b:=true) h⟩
def bF{P:amW}{e:Bool}(h:e=false):Ob P:=⟨_,_, .bit (b:=false) h⟩
def uN{P:amW}:Ob P:=⟨_,_, .B7⟩
def cL{P:amW}{f:FuncId}{args:amT AV}{r:AV}(h:ga P f args (·=r)):Ob P:=⟨_,_, .call h⟩
def iV{P:amW}(l:amT (Nat×Ob P)):amT (Nat×bX):=l.map λb=>(b.1,b.2.o)
def js{P:amW}(l:amT (Nat×Ob P)):amT (In×bX):=l.map λb=>(b.2.i,b.2.o)
theorem qb{P:amW}(l:amT (Nat×Ob P)):gi P (js l):=λp hp=>by
 obtain⟨b,_,rfl⟩:=List.mem_map.1 hp;exact b.2.ok
section
variable {P:amW} {r:amV Nat} {N0 id:Nat} {ol:amT Oper} {y:Code} {s:St} {Q Q':Exit->St->Prop} {aA:amT (Nat×Ob P)} {Δ:amT (Nat×AV)} {h':amT aq}
theorem Gn{c:Code}{s':St}(hn:s'.n=s.n)(hh:s'.h=s.h)(ht:∀i,bq s'.t i=bq s.t i\/bq s'.t i= .dead)(h:bB P r N0 c Q s'):bB P r N0 c Q s:=
 ⟨λG w a n hs hN=>h.run G w a n (hs.less hn hh ht) hN⟩
theorem Rg(aA:amT (Nat×Ob P))(Δ:amT (Nat×AV))(h':amT aq)(h:qy P false ol (iV aA) (Δ.map (·.1)) s=some (Δ,h',js aA))(k:bB P r N0 y Q' ⟨s.n,Δ++s.t,h'⟩):bB P r N0 (.region id ol.toArray false) (ig (λs=>bB P r N0 y Q' s) Q) s:=by
 obtain⟨s1,h1,h2,h3,h4⟩:=F3 h;refine e9 ?_;exact vh (dr:=false) ol 0 s _ h1 (qb aA) (Gn (s:=s1) (s':=⟨s.n,Δ++s.t,h'⟩) h2.symm h3.symm h4 k)
theorem adJ(hm:P.follows .mixedOrders=true)(hl:qO ol.toArray=true)(aA:amT (Nat×Ob P))(Δ:amT (Nat×AV))(h':amT aq)(h:qy P true ol (iV aA) (Δ.map (·.1)) s=some (Δ,h',js aA))(k:bB P r N0 y Q' ⟨s.n,Δ++s.t,h'⟩):bB P r N0 (.region id ol.toArray true) (ig (λs=>bB P r N0 y Q' s) Q) s:=by
 obtain⟨s1,h1,h2,h3,h4⟩:=F3 h;refine GF hm hl ?_;exact vh (dr:=true) ol 0 s _ h1 (qb aA) (Gn (s:=s1) (s':=⟨s.n,Δ++s.t,h'⟩) h2.symm h3.symm h4 k)
def vq(P:amW)(dr:Bool)(l:amT Oper)(as:amT (Nat×bX))(s:St):amV (amT (Nat×AV)×amT aq×amT (In×bX)):=
 match oC P l.toArray dr l 0 as s with
 |some (s1,ps)=>some (s1.t,s1.h,ps)
 |none=>none
theorem K3{dr:Bool}{as:amT (Nat×bX)}{t:amT (Nat×AV)}{ps:amT (In×bX)}(h:vq P dr ol as s=some (t,h',ps)):oC P ol.toArray dr ol 0 as s=some (⟨s.n,t,h'⟩,ps):=by
 unfold vq at h;split at h
 ·next s1 ps' hr=>
  cases h
  obtain⟨_,n1⟩:=PH _ _ _ _ hr;rw[hr,<-n1]
 ·cases h
theorem ai6(aA:amT (Nat×Ob P))(Δ:amT (Nat×AV))(h':amT aq)(h:vq P false ol (iV aA) s=some (Δ++s.t,h',js aA))(k:Q .normal ⟨s.n,Δ++s.t,h'⟩):bB P r N0 (.region id ol.toArray false) Q s:=
 e9 (vh (dr:=false) ol 0 s _ (K3 h) (qb aA) k)
theorem ahB(hm:P.follows .mixedOrders=true)(hl:qO ol.toArray=true)(aA:amT (Nat×Ob P))(Δ:amT (Nat×AV))(h':amT aq)(h:vq P true ol (iV aA) s=some (Δ++s.t,h',js aA))(k:Q .normal ⟨s.n,Δ++s.t,h'⟩):bB P r N0 (.region id ol.toArray true) Q s:=
 GF hm hl (vh (dr:=true) ol 0 s _ (K3 h) (qb aA) k)
end
def AV.fin(m:Nat)(x:AV):AV:=(x.bz m).nrm
def aq.pN:aq->aq
 | .cells cs=> .cells (cs.map AV.nrm)
 | .lp ls p as bd cs=> .lp ls p as bd (cs.map AV.nrm)
 | .it sn cs=> .it sn (cs.map AV.nrm)
 | .eR T cs=> .eR T (cs.map AV.nrm)
 | .vec e k cs=> .vec e k (cs.map (·.map AV.nrm))
 |B=>B
def jU(s:St)(live:amT Nat)(m:Nat):amV St:=
 bif cq m s.h.length&&(live.all λk=>((bq s.t k).bz m).aG m)&&(((s.h.take m).map (aq.bz m)).all (aq.aG m))then some ⟨s.n,live.map λk=>(k,(bq s.t k).fin m),((s.h.take m).map (aq.bz m)).map aq.pN⟩else none
theorem P1{G:Gh}{w:amY}{h:amT aq}(hi:bU G w h):bU G w (h.map aq.pN):=by
 have eG:∀(n:Nat)(B:aq),(h.map aq.pN)[n]?=some B->∃B',h[n]?=some B'/\B=B'.pN:=λn B hB=>by
  rw[amc]at hB;cases hx:h[n]? with
  |none=>rw[hx]at hB;cases hB
  |some B'=>rw[hx]at hB;cases hB;exact⟨B',rfl,rfl⟩
 have eF:∀n b,bR (h.map aq.pN) G n=some b->bR h G n=some b:=λn b hb=>by
  obtain⟨B,hB,hb⟩:=m3 hb;obtain⟨B',h1,rfl⟩:=eG n B hB;rw[dJ h1,<-hb];cases B'<;>rfl
 refine⟨by rw[ama];exact hi.len,hi.z,hi.S,λn B hB=> ?_,λi j b h1 h2=>hi.inj i j b (eF i b h1) (eF j b h2),hi.gl⟩;obtain⟨B',h1,rfl⟩:=eG n B hB;have dN:=hi.dk n B' h1;cases B' with
 |gone=>trivial
 |front e k len=>exact dN
 |iy e b=>exact dN
 |map kv=>exact dN
 |iC kv=>exact dN
 |vec e k cs=>
  obtain⟨c1,c2,c3,c4⟩:=dN;refine⟨by rw[ama];exact c1,by rw[ama];exact c2,λc hc=> ?_,?_⟩
  ·obtain⟨x,hx,rfl⟩:=List.mem_map.1 hc;rw[ama];exact c3 x hx
  ·rcases c4 with⟨d1,d2,A,d3⟩|⟨g,cap,cur,d1,d2,d3,d4,d5,d6,d7,d8,d9⟩
   ·exact .inl ⟨d1,by rw[d2];rfl,A,d3⟩
   ·refine .inr ⟨g,cap,cur,d1,by rw[ama];exact d2,d3,d4,by rw[ama];exact d5,d6,d7,d8,λi j c x u hc hx hu=> ?_⟩;rw[amc]at hc;cases hy:cs[i]? with
    |none=>rw[hy]at hc;cases hc
    |some y=>
     rw[hy]at hc;cases hc
     rw[amc]at hx;cases hw:y[j]? with
     |none=>rw[hw]at hx;cases hx
     |some z=>rw[hw]at hx;cases hx;exact(d9 i j y z u hy hw hu).nrm
 |cells cs=>
  obtain⟨c1,c2,vs,T,c3,c4,c5⟩:=dN;refine⟨c1,c2,vs,T,c3,by rw[ama];exact c4,λi u c hu hc=> ?_⟩;rw[amc]at hc;cases hx:cs[i]? with
  |none=>rw[hx]at hc;cases hc
  |some x=>rw[hx]at hc;cases hc;exact(c5 i u x hu hx).nrm
 |lp ls p as bd cs=>
  obtain⟨c1,c2,fn,vs,T,c3,c4,c5⟩:=dN;refine⟨c1,c2,fn,vs,T,c3,by rw[ama];exact c4,λi u c hu hc=> ?_⟩;rw[amc]at hc;cases hx:cs[i]? with
  |none=>rw[hx]at hc;cases hc
  |some x=>rw[hx]at hc;cases hc;exact(c5 i u x hu hx).nrm
 |it sn cs=>
  obtain⟨c1,c2,fn,vs,T,c3,c4,c5⟩:=dN;refine⟨c1,c2,fn,vs,T,c3,by rw[ama];exact c4,λi u c hu hc=> ?_⟩;rw[amc]at hc;cases hx:cs[i]? with
  |none=>rw[hx]at hc;cases hc
  |some x=>rw[hx]at hc;cases hc;exact(c5 i u x hu hx).nrm
 |eR T0 cs=>
  obtain⟨c1,c2,fn,vs,T,c3,c4,c5⟩:=dN;refine⟨c1,c2,fn,vs,T,c3,by rw[ama];exact c4,λi u c hu hc=> ?_⟩;rw[amc]at hc;cases hx:cs[i]? with
  |none=>rw[hx]at hc;cases hc
  |some x=>rw[hx]at hc;cases hc;exact(c5 i u x hu hx).nrm
section
variable {P:amW} {r:amV Nat} {n N0:Nat} {G:Gh} {w:amY} {a:Act} {s s':St} {Q Q':Exit->St->Prop} {live:amT Nat} {m:Nat}
theorem ahD(h:jU s live m=some s'):s.A3 live m/\s'.n=s.n/\s'.t=(live.map λk=>(k,(bq s.t k).fin m))/\s'.h=((s.h.take m).map (aq.bz m)).map aq.pN:=by
 unfold jU at h;obtain⟨hb,rfl⟩:=eu h;rw[al7,al7]at hb;exact⟨⟨dq.1 hb.1.1,hb.1.2,hb.2⟩,rfl,rfl,rfl⟩
theorem c8.jU(hs:c8 G w a s)(h:jU s live m=some s'):c8 (G.cut m) w a s':=by
 obtain⟨h1,h2,h3,h4⟩:=ahD h;have hm:=hs.mask h1;refine⟨hs.size.trans h2.symm,λi=> ?_,by rw[h4];exact P1 hm.inv,hs.df⟩;have:=hm.tmp i
 change aH _ _ _ (bq (live.map λk=>(k,(bq s.t k).bz m)) i)at this
 rw[rp (λk=>(bq s.t k).bz m)]at this;rw[h3,rp (λk=>(bq s.t k).fin m)];split at this
 ·rename_i hi;rw[if_pos hi];exact this.nrm
 ·rename_i hi;rw[if_neg hi];exact .dead _
theorem MH{c:Code}{ι:Type}(live:amT Nat)(m:Nat)(st:ι->St)(I:ι->Prop)(μ:ι->Nat)(i0:ι)(hm:N0<=m)(h0:Go.Proofs.YtnnapanbbbcalaaGreatDoor.jU s live m=some (st i0))(hI:I i0)
 (round:∀i,I i->bB P r N0 c (ig (λs'=>∃i',Go.Proofs.YtnnapanbbbcalaaGreatDoor.jU s' live m=some (st i')/\I i'/\μ i'<μ i) Q) (st i)):bB P r N0 (.loop c) Q s:=by
 constructor
 intro G w a n hs _;refine QC (λ(i:ι) a' w'=>∃G',I i/\bN N0 G w G' w'/\N0<=G'.N/\c8 G' w' a' (st i)) μ i0 ⟨G.cut m,hI,pE _ _ _ _,hm,hs.jU h0⟩ ?_;rintro i a' w' ⟨G',hi,hE,hN,cM⟩;refine wpIn_mono ((round i hi).run G' w' a' n cM hN) λe a1 w1 hn=> ?_;obtain⟨G1,s1,ie,fU,eV,hq⟩:=hn;cases e with
 |normal=>
  obtain⟨i',h1,h2,h3⟩:=hq;exact⟨i',⟨G1.cut m,h2,(hE.trans ie).trans (pE _ _ _ _),hm,eV.jU h1⟩,h3⟩
 |_=>exact⟨G1,s1,hE.trans ie,fU,eV,hq⟩
theorem ft{c:Code}(live:amT Nat)(m:Nat)(hm:N0<=m)(h0:Go.Proofs.YtnnapanbbbcalaaGreatDoor.jU s live m=some s')(h:bB P r N0 c Q s'):bB P r N0 c Q s:=by
 constructor
 intro G w a n hs _;exact wpIn_mono (h.run (G.cut m) w a n (hs.jU h0) hm) λ_ _ _ hn=>hn.trans (pE N0 G w m)
theorem pe{c y:Code}{ι:Type}(live:amT Nat)(m:Nat)(st:ι->St)(I:ι->Prop)(hm:N0<=m)(hc:bB P r N0 c (ig (λs'=>∃i,Go.Proofs.YtnnapanbbbcalaaGreatDoor.jU s' live m=some (st i)/\I i) Q) s)(hy:∀i,I i->bB P r N0 y Q' (st i)):bB P r N0 c (ig (λs=>bB P r N0 y Q' s) Q) s:=by
 refine hc.mono λe s' h=> ?_;cases e with
 |normal=>obtain⟨i,h1,h2⟩:=h;exact ft live m hm h1 (hy i h2)
 |_=>exact h
def rR(P:amW)(s:St):amT ResultVar->amV (amT AV)
 |[]=>some []
 | .tmp t::l=>match rR P s l with
   |some xs=>some (bq s.t t::xs)
   |none=>none
 | .cell p t::l=>match wO s.h (bq s.t p)with
   |some (cs,off)=>match Ab P t cs off,rR P s l with
    |some x,some xs=>some (x::xs)
    |_,_=>none
   |none=>none
def vx(P:amW)(rs:amT ResultVar)(s:St):amV AV:=
 match rR P s rs with
 |some l=>bif ((jO l).bz 0).aG 0 then some ((jO l).fin 0)else none
 |none=>none
def kK(P:amW)(fn:Func)(R:AV):Exit->St->Prop
 | .normal,s=>vx P fn.results.toList s=some R
 | .ret,s=>vx P fn.results.toList s=some R
 |_,_=>False
theorem CP:∀(l:amT ResultVar)(xs:amT AV)(C:amT AV->Prop),rR P s l=some xs->C xs->mU P s l C
 |[],xs,C,h,hC=>by cases h;exact hC
 | .tmp t::l,xs,C,h,hC=>by
   unfold rR at h;split at h
   ·next ys e=>cases h;exact CP l ys _ e hC
   ·cases h
 | .cell p t::l,xs,C,h,hC=>by
   unfold rR at h;split at h
   ·next cs off e=>
    split at h
    ·next x ys e1 e2=>cases h;exact Pv e e1 (CP l ys _ e2 hC)
    ·cases h
   ·cases h
theorem X4{fn:Func}{R:AV}(h:vx P fn.results.toList s=some R):qe P fn 0 (λr h'=>h'=[]/\r.nrm=R) s:=by
 unfold vx at h;split at h
 ·next l e=>
  obtain⟨hb,rfl⟩:=eu h;exact CP _ l _ e ⟨Nat.zero_le _,hb,by simp,by simp,rfl⟩
 ·cases h
theorem eJ{fn:Func}{R:AV}(h:vx P fn.results.toList s=some R):kK P fn R .ret s:=h
theorem lO{f:FuncId}{fn:Func}{c:Code}{args:amT AV}{R:AV}(hf:P.funcs[f]?=some fn)(hb:fn.body=some c)(hn:(fn.name== "runtime.NumGoroutine")=false)
 (hw:bB P none 0 c (kK P fn R) {n:=args.length+(fn.ntmps-args.length),t:=lK 0 args,h:=[]}):ga P f args (·=R):=by
 have h:=tD (P:=P) (f:=f) (args:=args) (h:=[]) (K:=λr h'=>h'=[]/\r.nrm=R) 0 hf hb hn (amg _) (hw.mono λe s hq=>by
  cases e with
  |normal=>exact X4 hq
  |ret=>exact X4 hq
  |_=>exact hq.elim)
 refine⟨h.1,λG w vs hi hl hr=>(h.2 G w vs hi hl hr).mono λe w' hp=> ?_⟩;obtain⟨v,G',x,h',rfl,hE,hN,dY,hv,rfl,rfl⟩:=hp;exact⟨v,G',x.nrm,[],rfl,hE,hN,dY,hv.nrm,rfl,rfl⟩
theorem alX{c:Code}(b i:Nat)(xs:amT (amT D))(hx:((s.h[b]?).bind λB=>match B with| .cells cs=>(cs[i]?).bind AV.fE|_=>none)=some xs)(h:xs.length<=maxLen->bB P r N0 c Q s):bB P r N0 c Q s:=by
 constructor
 intro G w a n hs hN;cases hb:s.h[b]? with
 |none=>rw[hb]at hx;cases hx
 |some B=>
  rw[hb]at hx;cases B with
  |cells cs=>
   simp only[al4]at hx;obtain⟨_,_,vs,T,_,hl,hr⟩:=hs.inv.dk b _ hb;cases hc:cs[i]? with
   |none=>rw[hc]at hx;cases hx
   |some x=>
    rw[hc]at hx;have aN:i<vs.size:=by rw[hl];exact(al5.1 hc).1
    obtain⟨A,b',o,c',k',us,_,_,h1,h2,_⟩:=((hr i _ x (amr aN) hc).list hx).oP;exact(h (amn h1 h2)).run G w a n hs hN
  |_=>cases hx
end
theorem ahC{P:amW}{r:amV Nat}{N0 id:Nat}{ol:amT Oper}{y:Code}{s:St}{Q Q':Exit->St->Prop}(Δ:amT (Nat×AV))(h':amT aq)(h:∃aA:amT (Nat×Ob P),qy P false ol (iV aA) (Δ.map (·.1)) s=some (Δ,h',js aA))(k:bB P r N0 y Q' ⟨s.n,Δ++s.t,h'⟩):bB P r N0 (.region id ol.toArray false) (ig (λs=>bB P r N0 y Q' s) Q) s:=
 let ⟨aA,h⟩:=h;Rg aA Δ h' h k
theorem c7{α:Type}{c:Bool}{a b:α}(h:c=true):cond c a b=a:=by rw[h];rfl
theorem du{α:Type}{c:Bool}{a b:α}(h:c=false):cond c a b=b:=by rw[h];rfl
theorem bm{α β:Type}{x:amV α}{f:α->amV β}{b:β}(h:Option.bind x f=some b):∃a,x=some a/\f a=some b:=by
 cases x with
 |none=>cases h
 |some a=>exact⟨a,rfl,h⟩
theorem dw(b:Bool):b=true\/b=false:=by cases b<;>simp
theorem cH{b:Bool}(h:b=true):(!b)=false:=by rw[h];rfl
theorem dj{b:Bool}(h:b=false):(!b)=true:=by rw[h];rfl
theorem mI{α:Type}{c:Bool}{x:amV α}{r:α}(h:(bif c then x else none)=some r):c=true:=by
 cases c with
 |true=>rfl
 |false=>cases h
section
variable {P:amW} {r:amV Nat} {N0 id n:Nat} {ol:amT Oper} {y:Code} {t:amT (Nat×AV)} {h:amT aq} {Q Q':Exit->St->Prop}
theorem rg(aA:amT (Nat×Ob P))(Δ:amT (Nat×AV))(h':amT aq)(e:qy P false ol (iV aA) (Δ.map (·.1)) ⟨n,t,h⟩=some (Δ,h',js aA))(k:bB P r N0 y Q' ⟨n,Δ++t,h'⟩):bB P r N0 (.region id ol.toArray false) (ig (λs=>bB P r N0 y Q' s) Q) ⟨n,t,h⟩:=Rg aA Δ h' e k
theorem rd(hm:P.follows .mixedOrders=true)(hl:qO ol.toArray=true)(aA:amT (Nat×Ob P))(Δ:amT (Nat×AV))(h':amT aq)(e:qy P true ol (iV aA) (Δ.map (·.1)) ⟨n,t,h⟩=some (Δ,h',js aA))(k:bB P r N0 y Q' ⟨n,Δ++t,h'⟩):bB P r N0 (.region id ol.toArray true) (ig (λs=>bB P r N0 y Q' s) Q) ⟨n,t,h⟩:=adJ hm hl aA Δ h' e k
theorem re(aA:amT (Nat×Ob P))(Δ:amT (Nat×AV))(h':amT aq)(e:vq P false ol (iV aA) ⟨n,t,h⟩=some (Δ++t,h',js aA))(k:Q .normal ⟨n,Δ++t,h'⟩):bB P r N0 (.region id ol.toArray false) Q ⟨n,t,h⟩:=ai6 aA Δ h' e k
theorem Zg(hm:P.follows .mixedOrders=true)(hl:qO ol.toArray=true)(aA:amT (Nat×Ob P))(Δ:amT (Nat×AV))(h':amT aq)(e:vq P true ol (iV aA) ⟨n,t,h⟩=some (Δ++t,h',js aA))(k:Q .normal ⟨n,Δ++t,h'⟩):bB P r N0 (.region id ol.toArray true) Q ⟨n,t,h⟩:=ahB hm hl aA Δ h' e k
theorem A8(Δ:amT (Nat×AV))(h':amT aq)(e:∃aA:amT (Nat×Ob P),qy P false ol (iV aA) (Δ.map (·.1)) ⟨n,t,h⟩=some (Δ,h',js aA))(k:bB P r N0 y Q' ⟨n,Δ++t,h'⟩):bB P r N0 (.region id ol.toArray false) (ig (λs=>bB P r N0 y Q' s) Q) ⟨n,t,h⟩:=ahC Δ h' e k
end
def bs(l:amT UInt8):amU:=⟨l.toArray⟩
def uC(x:D):Prop:=∃(S:Nat->Nat->Prop)(w:amY)(u:amX),dy S w u x
theorem HR{xs:amT (amT D)}(h:uC (.sl xs)):xs.length<=maxLen:=by
 obtain⟨S,w,u,h⟩:=h;obtain⟨A,b',o,c',k',us,_,_,h1,h2,_⟩:=h.oP;exact amn h1 h2
theorem R7{xs:amT (amT D)}{i j:Nat}{c:amT D}{d:D}(h:uC (.sl xs))(hc:xs[i]?=some c)(hd:c[j]?=some d):uC d:=by
 obtain⟨S,w,u,h⟩:=h;obtain⟨A,b',o,c',k',us,_,_,h1,h2,h3,h4,h5⟩:=h.oP;exact⟨S,w,_,h5 i j c d hc hd⟩
section
variable {P:amW} {r:amV Nat} {n N0:Nat} {s:St} {Q:Exit->St->Prop}
theorem wI{c:Code}(k:Nat)(xs:amT (amT D))(hx:(bq s.t k).fE=some xs)(h:uC (.sl xs)->bB P r N0 c Q s):bB P r N0 c Q s:=by
 constructor
 intro G w a n hs hN;exact(h ⟨_,_,_,(hs.tmp k).list hx⟩).run G w a n hs hN
theorem acw{c:Code}(b i:Nat)(xs:amT (amT D))(hx:((s.h[b]?).bind λB=>match B with| .cells cs=>(cs[i]?).bind AV.fE|_=>none)=some xs)(h:uC (.sl xs)->bB P r N0 c Q s):bB P r N0 c Q s:=by
 constructor
 intro G w a n hs hN;cases hb:s.h[b]? with
 |none=>rw[hb]at hx;cases hx
 |some B=>
  rw[hb]at hx;cases B with
  |cells cs=>
   simp only[al4]at hx;obtain⟨_,_,vs,T,_,hl,hr⟩:=hs.inv.dk b _ hb;cases hc:cs[i]? with
   |none=>rw[hc]at hx;cases hx
   |some x=>
    rw[hc]at hx;have aN:i<vs.size:=by rw[hl];exact(al5.1 hc).1
    exact(h ⟨_,_,_,(hr i _ x (amr aN) hc).list hx⟩).run G w a n hs hN
  |_=>cases hx
end
end Go.Proofs.YtnnapanbbbcalaaGreatDoor
namespace Go.Proofs.YtnnapanbbbcalaaGreatDoor
open Go.RowKit
mutual
def AV.fq(b:Nat)(ds:amT D):AV->AV
 | .ptr n off=>bif n==b then .bp [ds] 0 off else .ptr n off
 | .agg cs=> .agg (AV.uK b ds cs)
 | .aY cs=> .aY (AV.uK b ds cs)
 | .fn f cs=> .fn f (AV.uK b ds cs)
 |x=>x
def AV.uK(b:Nat)(ds:amT D):amT AV->amT AV
 |[]=>[]
 |x::l=>x.fq b ds::AV.uK b ds l
end
theorem By(b:Nat)(ds:amT D):∀l,AV.uK b ds l=l.map (AV.fq b ds)
 |[]=>by simp [AV.uK]
 |x::l=>by simp [AV.uK,By b ds l]
def aq.fq(b:Nat)(ds:amT D):aq->aq
 | .cells cs=> .cells (cs.map (AV.fq b ds))
 | .lp ls p as bd cs=> .lp ls p as bd (cs.map (AV.fq b ds))
 | .it sn cs=> .it sn (cs.map (AV.fq b ds))
 | .eR T cs=> .eR T (cs.map (AV.fq b ds))
 | .vec e k cs=> .vec e k (cs.map (·.map (AV.fq b ds)))
 |B=>B
def vM(s:St)(b:Nat):amV St:=
 match s.h[b]? with
 |some (.cells cs)=>match mM cs with
  |some ds=>some ⟨s.n,s.t.map λp=>(p.1,p.2.fq b ds),(s.h.map (aq.fq b ds)).set b .gone⟩
  |none=>none
 |_=>none
theorem JT(f:AV->AV)(hf:f .dead= .dead):∀(t:amT (Nat×AV))(i:Nat),bq (t.map λp=>(p.1,f p.2)) i=f (bq t i)
 |[],i=>by simp [bq,hf]
 |(k,x)::l,i=>by
  simp only[amu,kZ,JT f hf l i];split<;>rfl
theorem aH.fq{G G':Gh}{w:amY}{b:Nat}{ds:amT D}(hE:bN G.N G w G' w)(hN:G'.N=G.N)(hp:∀off,aH G' w (.pointer (some ⟨G.aR b,off,none⟩)) (.bp [ds] 0 off)){u:amX}{x:AV}(h:aH G w u x):aH G' w u (x.fq b ds):=by
 have keep:∀{u:amX}{x:AV},aH G w u x->aH G' w u x:=λh=>h.keep hE (Nat.le_of_eq hN.symm);have fK:∀(vs:Array amX)(cs:amT AV),(∀(i:Nat)(u:amX)(c:AV),vs[i]?=some u->cs[i]?=some c->aH G' w u (c.fq b ds))->∀(i:Nat)(u:amX)(c:AV),vs[i]?=some u->(AV.uK b ds cs)[i]?=some c->aH G' w u c:=by
  intro vs cs ih i u c hu hc;rw[By,amc]at hc;cases hx:cs[i]? with
  |none=>rw[hx]at hc;cases hc
  |some x=>rw[hx]at hc;cases hc;exact ih i u x hu hx
 induction h with
 |agg vs cs hl _ ih=>rw[AV.fq];exact .agg vs _ (by rw[By,ama];exact hl) (fK vs cs ih)
 |aY vs cs hl _ ih=>rw[AV.fq];exact .aY vs _ (by rw[By,ama];exact hl) (fK vs cs ih)
 |fn f vs cs hl _ ih=>rw[AV.fq];exact .fn f vs _ (by rw[By,ama];exact hl) (fK vs cs ih)
 |ptr n off h=>
  rw[AV.fq,cond_eq_ite];split
  ·next e=>rw[beq_iff_eq]at e;subst e;exact hp off
  ·exact keep (.ptr n off h)
 |own n xs h hp hle hf=>simp only[AV.fq];exact keep (.own n xs h hp hle hf)
 |d h=>simp only[AV.fq];exact keep (.d h)
 |bp xs i off b o u x hx hS hu=>simp only[AV.fq];exact keep (.bp xs i off b o u x hx hS hu)
 |full xs hp hf=>simp only[AV.fq];exact keep (.full xs hp hf)
 |row n off len cap k h hl hm=>simp only[AV.fq];exact keep (.row n off len cap k h hl hm)
 |mp n h=>simp only[AV.fq];exact keep (.mp n h)
 |cp n h=>simp only[AV.fq];exact keep (.cp n h)
 |vec n o len L k h hs hL hf=>simp only[AV.fq];exact keep (.vec n o len L k h hs hL hf)
 |dD n i j L k h hs hL hf=>simp only[AV.fq];exact keep (.dD n i j L k h hs hL hf)
 |hid h h1=>simp only[AV.fq];exact keep (.hid h h1)
 |dead u=>simp only[AV.fq];exact .dead u
theorem XO:∀(cs:amT AV)(ds:amT D),mM cs=some ds->cs.length=ds.length/\∀(i:Nat)(c:AV)(d:D),cs[i]?=some c->ds[i]?=some d->c.wx=some d
 |[],ds,h=>by unfold mM at h;cases h;exact⟨rfl,λi c d hc=>by simp at hc⟩
 |x::cs,ds,h=>by
  unfold mM at h;split at h
  ·next d l e1 e2=>
   cases h
   obtain⟨h1,h2⟩:=XO cs l e2;refine⟨by simp [h1],λi c d' hc hd=> ?_⟩
   match i with
   |0=>simp only[List.getElem?_cons_zero,Option.some.injEq]at hc hd;subst hc;subst hd;exact e1
   |i+1=>exact h2 i c d' (by simpa using hc) (by simpa using hd)
  ·cases h
theorem aH.ajk{G:Gh}{w:amY}{u:amX}{x:AV}{d:D}(h:aH G w u x)(hd:x.wx=some d):dy G.S w u d:=by
 cases h with
 |d h=>cases hd;exact h.tI
 |own n xs h hp=>cases hd;exact hp
 |full xs hp=>cases hd;exact hp
 |_=>cases hd
theorem c8.vM{G:Gh}{w:amY}{a:Act}{s s':St}{b:Nat}(hs:c8 G w a s)(h:vM s b=some s'):∃G',bN G.N G w G' w/\G'.N=G.N/\c8 G' w a s':=by
 unfold Go.Proofs.YtnnapanbbbcalaaGreatDoor.vM at h;split at h
 ·next cs hb=>
  split at h
  ·next ds qY=>
   cases h
   obtain⟨z1,z2,vs,T,z3,z4,z5⟩:=hs.inv.dk b _ hb;obtain⟨d1,d2⟩:=XO cs ds qY;have me:bR s.h G b=some (G.aR b):=dJ hb;obtain⟨S,hS⟩:∃S:Nat->Nat->Prop,S=λb' o=>G.S b' o\/(b'=G.aR b/\o<ds.length):=⟨_,rfl⟩;have hE:bN G.N G w {G with S:=S} w:=⟨amg _,λb o h=>by show S b o;rw[hS];exact .inl h,λ_ _ _=>rfl,λ_ _=>rfl,λ_ _=> .inl ⟨rfl,rfl⟩,hY rfl,λ_ _=>rfl,rfl,rfl,rfl,λb' o hs=>by
    have cM:S b' o:=hs;rw[hS]at cM;rcases cM with h|⟨rfl,_⟩
    ·exact .inl h
    ·exact .inr z1⟩
   have hp:∀off,aH {G with S:=S} w (.pointer (some ⟨G.aR b,off,none⟩)) (.bp [ds] 0 off):=λoff=>by
    have:=aH.bp (G:={G with S:=S}) (w:=w) [ds] 0 off (G.aR b) 0 (λj=>vs.getD j undef) ds rfl (λj hj=> ?_) (λj d hd=> ?_)
    ·rwa [amp]at this
    ·have iQ:j<vs.size:=by rw[z4,d1];exact hj
     refine⟨by show S _ _;rw[hS];exact .inr ⟨rfl,by rw[amp];exact hj⟩,?_⟩;rw[amp,cell_of_row w (G.aR b) j vs T (0,0) z3];simp [Array.getD,iQ]
    ·have hj:j<ds.length:=(al5.1 hd).1;have iQ:j<vs.size:=by rw[z4,d1];exact hj
     have hc:cs[j]?=some cs[j]:=al9 (by rw[d1];exact hj);have hv:=z5 j vs[j] _ (amr iQ) hc;have e:vs.getD j undef=vs[j]:=by simp [Array.getD,iQ]
     rw[e];exact(hv.ajk (d2 j _ d hc hd)).keep hE.S hE.cell
   have hv:∀{u:amX}{x:AV},aH G w u x->aH {G with S:=S} w u (x.fq b ds):=λh=>h.fq hE rfl hp;have alj:=(al5.1 hb).1;have eG:∀(n:Nat)(B:aq),((s.h.map (aq.fq b ds)).set b .gone)[n]?=some B->(n=b/\B= .gone)\/(n≠b/\∃B',s.h[n]?=some B'/\B=B'.fq b ds):=λn B hB=>by
    by_cases e:b=n
    ·subst e;rw[amy (by rw[ama];exact alj)]at hB;cases hB;exact .inl ⟨rfl,rfl⟩
    ·rw[amD e,amc]at hB;cases hx:s.h[n]? with
     |none=>rw[hx]at hB;cases hB
     |some B'=>rw[hx]at hB;cases hB;exact .inr ⟨λh=>e h.symm,B',rfl,rfl⟩
   have eF:∀n x,bR ((s.h.map (aq.fq b ds)).set b .gone) {G with S:=S} n=some x->n≠b/\bR s.h G n=some x:=λn x hx=>by
    obtain⟨B,hn,hx⟩:=m3 hx;rcases eG n _ hn with⟨_,e⟩|⟨cQ,B',h1,rfl⟩
    ·subst e;cases hx
    ·refine⟨cQ,?_⟩;rw[dJ h1,<-hx];cases B'<;>rfl
   refine⟨{G with S:=S},hE,rfl,hs.size,λi=> ?_,⟨by rw[List.length_set,ama];exact hs.inv.len,hs.inv.z,λb' o h=> ?_,λn B hB=> ?_,λm n x h1 h2=>hs.inv.inj m n x (eF m x h1).2 (eF n x h2).2,hs.inv.gl.keep hE⟩,hs.df⟩
   ·show aH _ _ _ (bq (s.t.map λp=>(p.1,p.2.fq b ds)) i);rw[JT (AV.fq b ds) (by simp [AV.fq])];exact hv (hs.tmp i)
   ·have cM:S b' o:=h;rw[hS]at cM;rcases cM with h|⟨rfl,_⟩
    ·exact hs.inv.S b' o h
    ·exact(amk.1 z3).1
   ·rcases eG n B hB with⟨rfl,rfl⟩|⟨cQ,B',h1,rfl⟩
    ·trivial
    ·have dN:=hs.inv.dk n B' h1;cases B' with
     |gone=>trivial
     |map kv=>exact ep.keep (G':={G with S:=S}) (hs.inv.lt h1) hE (amg _) ⟨rfl,rfl,rfl⟩ (λc hc=>⟨rfl,λo jw hq=>by
      have cM:S c o:=hq;rw[hS]at cM;rcases cM with h|⟨e,_⟩
      ·exact jw h
      ·exact cQ (hs.inv.inj n b _ ((dJ h1).trans hc) (by rw[e];exact me))⟩) dN
     |iC kv=>exact ep.keep (G':={G with S:=S}) (hs.inv.lt h1) hE (amg _) ⟨rfl,rfl,rfl⟩ (λc hc=>⟨rfl,λo jw hq=>by
      have cM:S c o:=hq;rw[hS]at cM;rcases cM with h|⟨e,_⟩
      ·exact jw h
      ·exact cQ (hs.inv.inj n b _ ((dJ h1).trans hc) (by rw[e];exact me))⟩) dN
     |front e k len=>exact ep.keep (G':={G with S:=S}) (hs.inv.lt h1) hE (amg _) ⟨rfl,rfl,rfl⟩ (λc hc=>⟨rfl,λo jw hq=>by
      have cM:S c o:=hq;rw[hS]at cM;rcases cM with h|⟨e,_⟩
      ·exact jw h
      ·exact cQ (hs.inv.inj n b _ ((dJ h1).trans hc) (by rw[e];exact me))⟩) dN
     |iy e b2=>exact ep.keep (G':={G with S:=S}) (hs.inv.lt h1) hE (amg _) ⟨rfl,rfl,rfl⟩ (λc hc=>⟨rfl,λo jw hq=>by
      have cM:S c o:=hq;rw[hS]at cM;rcases cM with h|⟨e,_⟩
      ·exact jw h
      ·exact cQ (hs.inv.inj n b _ ((dJ h1).trans hc) (by rw[e];exact me))⟩) dN
     |cells cD=>
      obtain⟨c1,c2,fR,T',c3,c4,c5⟩:=dN;have lF:bR s.h G n=some (G.aR n):=dJ h1;refine⟨c1,λo hq=> ?_,fR,T',c3,by rw[ama];exact c4,λi u c hu hc=> ?_⟩
      ·have cM:S (G.aR n) o:=hq;rw[hS]at cM;rcases cM with h|⟨e,_⟩
       ·exact c2 o h
       ·exact cQ (hs.inv.inj n b _ lF (by rw[e];exact me))
      ·rw[amc]at hc;cases hx:cD[i]? with
       |none=>rw[hx]at hc;cases hc
       |some x=>rw[hx]at hc;cases hc;exact hv (c5 i u x hu hx)
     |lp ls p as bd cD=>
      obtain⟨c1,c2,fn,fR,T',c3,c4,c5⟩:=dN;have lF:bR s.h G n=some (G.aR n):=dJ h1;refine⟨c1,λo hq=> ?_,fn,fR,T',c3,by rw[ama];exact c4,λi u c hu hc=> ?_⟩
      ·have cM:S (G.aR n) o:=hq;rw[hS]at cM;rcases cM with h|⟨e,_⟩
       ·exact c2 o h
       ·exact cQ (hs.inv.inj n b _ lF (by rw[e];exact me))
      ·rw[amc]at hc;cases hx:cD[i]? with
       |none=>rw[hx]at hc;cases hc
       |some x=>rw[hx]at hc;cases hc;exact hv (c5 i u x hu hx)
     |it sn cD=>
      obtain⟨c1,c2,fn,fR,T',c3,c4,c5⟩:=dN;have lF:bR s.h G n=some (G.aR n):=dJ h1;refine⟨c1,λo hq=> ?_,fn,fR,T',c3,by rw[ama];exact c4,λi u c hu hc=> ?_⟩
      ·have cM:S (G.aR n) o:=hq;rw[hS]at cM;rcases cM with h|⟨e,_⟩
       ·exact c2 o h
       ·exact cQ (hs.inv.inj n b _ lF (by rw[e];exact me))
      ·rw[amc]at hc;cases hx:cD[i]? with
       |none=>rw[hx]at hc;cases hc
       |some x=>rw[hx]at hc;cases hc;exact hv (c5 i u x hu hx)
     |eR T0 cD=>
      obtain⟨c1,c2,fn,fR,T',c3,c4,c5⟩:=dN;have lF:bR s.h G n=some (G.aR n):=dJ h1;refine⟨c1,λo hq=> ?_,fn,fR,T',c3,by rw[ama];exact c4,λi u c hu hc=> ?_⟩
      ·have cM:S (G.aR n) o:=hq;rw[hS]at cM;rcases cM with h|⟨e,_⟩
       ·exact c2 o h
       ·exact cQ (hs.inv.inj n b _ lF (by rw[e];exact me))
      ·rw[amc]at hc;cases hx:cD[i]? with
       |none=>rw[hx]at hc;cases hc
       |some x=>rw[hx]at hc;cases hc;exact hv (c5 i u x hu hx)
     |vec e k cD=>
      obtain⟨c1,c2,c3,c4⟩:=dN;refine⟨by rw[ama];exact c1,by rw[ama];exact c2,λc hc=> ?_,?_⟩
      ·obtain⟨x,hx,rfl⟩:=List.mem_map.1 hc;rw[ama];exact c3 x hx
      ·rcases c4 with⟨d1,d2,A,d3⟩|⟨g,cap,cur,d1,d2,d3,d4,d5,d6,d7,d8,d9⟩
       ·exact .inl ⟨d1,by rw[d2];rfl,A,d3⟩
       ·have lF:bR s.h G n=some g:=(dJ h1).trans d1;refine .inr ⟨g,cap,cur,d1,by rw[ama];exact d2,d3,d4,by rw[ama];exact d5,d6,d7,λo hq=> ?_,λi j c x u hc hx hu=> ?_⟩
        ·have cM:S g o:=hq;rw[hS]at cM;rcases cM with h|⟨e,_⟩
         ·exact d8 o h
         ·exact cQ (hs.inv.inj n b _ lF (by rw[e];exact me))
        ·rw[amc]at hc;cases hy:cD[i]? with
         |none=>rw[hy]at hc;cases hc
         |some y=>
          rw[hy]at hc;cases hc
          rw[amc]at hx;cases hw:y[j]? with
          |none=>rw[hw]at hx;cases hx
          |some z=>rw[hw]at hx;cases hx;exact hv (d9 i j y z u hy hw hu)
  ·cases h
 ·cases h
theorem ZR{P:amW}{r:amV Nat}{N0:Nat}{c:Code}{s s':St}{Q:Exit->St->Prop}(b:Nat)(e:vM s b=some s')(h:bB P r N0 c Q s'):bB P r N0 c Q s:=by
 constructor
 intro G w a n hs hN;obtain⟨G',hE,kJ,cM⟩:=hs.vM e;exact wpIn_mono (h.run G' w a n cM (by rw[kJ];exact hN)) λ_ _ _ hn=>hn.trans (hE.less hN)
def D.Ay:D->Bool
 | .v u=>u.oneCell'
 | .sl _=>true
 | .ag _=>false
mutual
def AV.kill(b:Nat):AV->AV
 | .vec n o len L k=>bif n==b then .dead else .vec n o len L k
 | .dD n i j L k=>bif n==b then .dead else .dD n i j L k
 | .agg cs=> .agg (AV.I6 b cs)
 | .aY cs=> .aY (AV.I6 b cs)
 | .fn f cs=> .fn f (AV.I6 b cs)
 |x=>x
def AV.I6(b:Nat):amT AV->amT AV
 |[]=>[]
 |x::l=>x.kill b::AV.I6 b l
end
def aq.lE(f:AV->AV):aq->aq
 | .cells cs=> .cells (cs.map f)
 | .lp ls p as bd cs=> .lp ls p as bd (cs.map f)
 | .it sn cs=> .it sn (cs.map f)
 | .eR T cs=> .eR T (cs.map f)
 | .vec e k cs=> .vec e k (cs.map (·.map f))
 |B=>B
theorem aii{G:Gh}{w:amY}{h:amT aq}(hi:bU G w h){b:Nat}{S:Nat->Nat->Prop}{f:AV->AV}(hE:bN G.N G w {G with S:=S} w)(hS:∀c o,S c o->G.S c o\/bR h G b=some c)(hv:∀{u:amX}{x:AV},aH G w u x->aH {G with S:=S} w u (f x)):
 bU {G with S:=S} w ((h.map (aq.lE f)).set b .gone):=by
 have eG:∀(n:Nat)(B:aq),((h.map (aq.lE f)).set b .gone)[n]?=some B->(n=b/\B= .gone)\/(n≠b/\∃B',h[n]?=some B'/\B=B'.lE f):=λn B hB=>by
  by_cases e:b=n
  ·subst e;have aN:=(al5.1 hB).1;rw[List.length_set]at aN;rw[amy aN]at hB;cases hB;exact .inl ⟨rfl,rfl⟩
  ·rw[amD e,amc]at hB;cases hx:h[n]? with
   |none=>rw[hx]at hB;cases hB
   |some B'=>rw[hx]at hB;cases hB;exact .inr ⟨λh=>e h.symm,B',rfl,rfl⟩
 have eF:∀n x,bR ((h.map (aq.lE f)).set b .gone) {G with S:=S} n=some x->n≠b/\bR h G n=some x:=λn x hx=>by
  obtain⟨B,hn,hx⟩:=m3 hx;rcases eG n _ hn with⟨_,e⟩|⟨cQ,B',h1,rfl⟩
  ·subst e;cases hx
  ·refine⟨cQ,?_⟩;rw[dJ h1,<-hx];cases B'<;>rfl
 refine⟨by rw[List.length_set,ama];exact hi.len,hi.z,λc o hs=> ?_,λn B hB=> ?_,λm n x h1 h2=>hi.inj m n x (eF m x h1).2 (eF n x h2).2,hi.gl.keep hE⟩
 ·rcases hS c o hs with h1|h1
  ·exact hi.S c o h1
  ·exact hi.ownlt h1
 ·rcases eG n B hB with⟨rfl,rfl⟩|⟨cQ,B',h1,rfl⟩
  ·trivial
  ·have dN:=hi.dk n B' h1;have fQ:∀c,B'.dV G n=some c->∀o,¬G.S c o->¬S c o:=λc hc o jw hq=>by
    rcases hS c o hq with h2|h2
    ·exact jw h2
    ·exact cQ (hi.inj n b c ((dJ h1).trans hc) h2)
   cases B' with
   |gone=>trivial
   |map kv=>exact ep.keep (G':={G with S:=S}) (hi.lt h1) hE (amg _) ⟨rfl,rfl,rfl⟩ (λc hc=>⟨rfl,fQ c hc⟩) dN
   |iC kv=>exact ep.keep (G':={G with S:=S}) (hi.lt h1) hE (amg _) ⟨rfl,rfl,rfl⟩ (λc hc=>⟨rfl,fQ c hc⟩) dN
   |front e k len=>exact ep.keep (G':={G with S:=S}) (hi.lt h1) hE (amg _) ⟨rfl,rfl,rfl⟩ (λc hc=>⟨rfl,fQ c hc⟩) dN
   |iy e b2=>exact ep.keep (G':={G with S:=S}) (hi.lt h1) hE (amg _) ⟨rfl,rfl,rfl⟩ (λc hc=>⟨rfl,fQ c hc⟩) dN
   |cells cD=>
    obtain⟨c1,c2,fR,T',c3,c4,c5⟩:=dN;refine⟨c1,λo=>fQ _ rfl o (c2 o),fR,T',c3,by rw[ama];exact c4,λi u c hu hc=> ?_⟩;rw[amc]at hc;cases hx:cD[i]? with
    |none=>rw[hx]at hc;cases hc
    |some x=>rw[hx]at hc;cases hc;exact hv (c5 i u x hu hx)
   |lp ls p as bd cD=>
    obtain⟨c1,c2,fn,fR,T',c3,c4,c5⟩:=dN;refine⟨c1,λo=>fQ _ rfl o (c2 o),fn,fR,T',c3,by rw[ama];exact c4,λi u c hu hc=> ?_⟩;rw[amc]at hc;cases hx:cD[i]? with
    |none=>rw[hx]at hc;cases hc
    |some x=>rw[hx]at hc;cases hc;exact hv (c5 i u x hu hx)
   |it sn cD=>
    obtain⟨c1,c2,fn,fR,T',c3,c4,c5⟩:=dN;refine⟨c1,λo=>fQ _ rfl o (c2 o),fn,fR,T',c3,by rw[ama];exact c4,λi u c hu hc=> ?_⟩;rw[amc]at hc;cases hx:cD[i]? with
    |none=>rw[hx]at hc;cases hc
    |some x=>rw[hx]at hc;cases hc;exact hv (c5 i u x hu hx)
   |eR T0 cD=>
    obtain⟨c1,c2,fn,fR,T',c3,c4,c5⟩:=dN;refine⟨c1,λo=>fQ _ rfl o (c2 o),fn,fR,T',c3,by rw[ama];exact c4,λi u c hu hc=> ?_⟩;rw[amc]at hc;cases hx:cD[i]? with
    |none=>rw[hx]at hc;cases hc
    |some x=>rw[hx]at hc;cases hc;exact hv (c5 i u x hu hx)
   |vec e k cD=>
    obtain⟨c1,c2,c3,c4⟩:=dN;refine⟨by rw[ama];exact c1,by rw[ama];exact c2,λc hc=> ?_,?_⟩
    ·obtain⟨x,hx,rfl⟩:=List.mem_map.1 hc;rw[ama];exact c3 x hx
    ·rcases c4 with⟨d1,d2,A,d3⟩|⟨g,cap,cur,d1,d2,d3,d4,d5,d6,d7,d8,d9⟩
     ·exact .inl ⟨d1,by rw[d2];rfl,A,d3⟩
     ·refine .inr ⟨g,cap,cur,d1,by rw[ama];exact d2,d3,d4,by rw[ama];exact d5,d6,d7,λo=>fQ g d1 o (d8 o),λi j c x u hc hx hu=> ?_⟩;rw[amc]at hc;cases hy:cD[i]? with
      |none=>rw[hy]at hc;cases hc
      |some y=>
       rw[hy]at hc;cases hc
       rw[amc]at hx;cases hw:y[j]? with
       |none=>rw[hw]at hx;cases hx
       |some z=>rw[hw]at hx;cases hx;exact hv (d9 i j y z u hy hw hu)
mutual
def AV.dz(b kk:Nat)(xs:amT (amT D)):AV->AV
 | .vec n o len L k=>bif n==b then(bif L==xs.length&&k==kk then .d (.sl ((xs.drop o).take len))else .dead)else .vec n o len L k
 | .dD n i j L k=>bif n==b then .dead else .dD n i j L k
 | .agg cs=> .agg (AV.pR b kk xs cs)
 | .aY cs=> .aY (AV.pR b kk xs cs)
 | .fn f cs=> .fn f (AV.pR b kk xs cs)
 |x=>x
def AV.pR(b kk:Nat)(xs:amT (amT D)):amT AV->amT AV
 |[]=>[]
 |x::l=>x.dz b kk xs::AV.pR b kk xs l
end
theorem vg(b kk:Nat)(xs:amT (amT D)):∀l,AV.pR b kk xs l=l.map (AV.dz b kk xs)
 |[]=>by simp [AV.pR]
 |x::l=>by simp [AV.pR,vg b kk xs l]
theorem aH.dz{G G':Gh}{w:amY}{b kk:Nat}{xs:amT (amT D)}(hE:bN G.N G w G' w)(hN:G'.N=G.N)(hp:∀(u:amX)(o len:Nat),aH G w u (.vec b o len xs.length kk)->dy G'.S w u (.sl ((xs.drop o).take len))){u:amX}{x:AV}(h:aH G w u x):aH G' w u (x.dz b kk xs):=by
 have keep:∀{u:amX}{x:AV},aH G w u x->aH G' w u x:=λh=>h.keep hE (Nat.le_of_eq hN.symm);have fK:∀(vs:Array amX)(cs:amT AV),(∀(i:Nat)(u:amX)(c:AV),vs[i]?=some u->cs[i]?=some c->aH G' w u (c.dz b kk xs))->∀(i:Nat)(u:amX)(c:AV),vs[i]?=some u->(AV.pR b kk xs cs)[i]?=some c->aH G' w u c:=by
  intro vs cs ih i u c hu hc;rw[vg,amc]at hc;cases hx:cs[i]? with
  |none=>rw[hx]at hc;cases hc
  |some x=>rw[hx]at hc;cases hc;exact ih i u x hu hx
 induction h with
 |agg vs cs hl _ ih=>rw[AV.dz];exact .agg vs _ (by rw[vg,ama];exact hl) (fK vs cs ih)
 |aY vs cs hl _ ih=>rw[AV.dz];exact .aY vs _ (by rw[vg,ama];exact hl) (fK vs cs ih)
 |fn f vs cs hl _ ih=>rw[AV.dz];exact .fn f vs _ (by rw[vg,ama];exact hl) (fK vs cs ih)
 |vec n o len L k h hs hL hf=>
  rw[AV.dz,cond_eq_ite];split
  ·next e=>
   have e:n=b:=by simpa using e
   subst e;rw[cond_eq_ite];split
   ·next e2=>
    rw[al7,beq_iff_eq,beq_iff_eq]at e2;obtain⟨rfl,rfl⟩:=e2;exact .d (hp _ o len (.vec n o len _ _ h hs hL hf))
   ·exact .dead _
  ·exact keep (.vec n o len L k h hs hL hf)
 |dD n i j L k h hs hL hf=>
  rw[AV.dz,cond_eq_ite];split
  ·exact .dead _
  ·exact keep (.dD n i j L k h hs hL hf)
 |ptr n off h=>simp only[AV.dz];exact keep (.ptr n off h)
 |own n xs h hp hle hf=>simp only[AV.dz];exact keep (.own n xs h hp hle hf)
 |d h=>simp only[AV.dz];exact keep (.d h)
 |bp xs i off b o u x hx hS hu=>simp only[AV.dz];exact keep (.bp xs i off b o u x hx hS hu)
 |full xs hp hf=>simp only[AV.dz];exact keep (.full xs hp hf)
 |row n off len cap k h hl hm=>simp only[AV.dz];exact keep (.row n off len cap k h hl hm)
 |mp n h=>simp only[AV.dz];exact keep (.mp n h)
 |cp n h=>simp only[AV.dz];exact keep (.cp n h)
 |hid h h1=>simp only[AV.dz];exact keep (.hid h h1)
 |dead u=>simp only[AV.dz];exact .dead u
theorem c8.Zk{G:Gh}{w:amY}{a:Act}{s:St}(hs:c8 G w a s)(xs:amT (amT D)){b e k:Nat}(hb:s.h[b]?=some (.vec e k (cg xs)))(jn:∀c∈xs,c.all D.Ay=true)
 :∃G',bN G.N G w G' w/\G'.N=G.N/\c8 G' w a ⟨s.n,s.t.map λp=>(p.1,p.2.dz b k xs),(s.h.map (aq.lE (AV.dz b k xs))).set b .gone⟩:=by
 obtain⟨L,hL⟩:∃L,xs.length=L:=⟨_,rfl⟩;have oW:(cg xs).length=L:=by unfold cg;rw[ama];exact hL
 have jc:=EZ hs.inv hb;have nI:∀d∈xs,d.length=k:=λd hd=>by
  have:=jc (d.map .d) (by unfold cg;exact List.mem_map.2 ⟨d,hd,rfl⟩)
  rwa [ama]at this
 obtain⟨S,hS⟩:∃S:Nat->Nat->Prop,S=λc o=>G.S c o\/(bR s.h G b=some c/\o<L*k):=⟨_,rfl⟩;have hE:bN G.N G w {G with S:=S} w:=⟨amg _,λb o h=>by show S b o;rw[hS];exact .inl h,λ_ _ _=>rfl,λ_ _=>rfl,λ_ _=> .inl ⟨rfl,rfl⟩,hY rfl,λ_ _=>rfl,rfl,rfl,rfl,λc o hq=>by
  have cM:S c o:=hq;rw[hS]at cM;rcases cM with h|⟨h,_⟩
  ·exact .inl h
  ·obtain⟨B,hB,gC⟩:=m3 h;exact .inr ((hs.inv.dk b B hB).lr gC)⟩
 have Zn:∀(u:amX)(o len:Nat),aH G w u (.vec b o len xs.length k)->dy S w u (.sl ((xs.drop o).take len)):=λu o len tR=>by
  rw[hL]at tR;have lz:=tR.tP hs.inv hb oW;obtain⟨yO,⟨A,cc,q1,q2,q3,q4,q5⟩,_⟩:=lz;generalize hy:(xs.drop o).take len=ys;have pk:ys.length=len:=by rw[<-hy,List.length_take,List.length_drop];omega
  rw[q1,<-pk];show dy S w _ _;by_cases hh0:True
  ·skip
   by_cases h0:len=0
   ·have:ys=[]:=List.eq_nil_of_length_eq_zero (by omega);subst this;exact .sl A 0 0 cc 0 [] (λ_ _=>undef) (λh=>absurd rfl h) (Nat.zero_le _) q3 (λ_ h=>absurd h amL) (λi j hi=>absurd hi (amx _)) (λi j x d hx=>by simp at hx)
   ·obtain⟨g,cap,s1,rfl,s3⟩:=q5 (by omega);obtain⟨g',DF,cur,r1,r2,r3,r4,r5,r6,r7,r8,r9⟩:=EK hs.inv hb (λe=>by rw[e]at oW;simp at oW;omega);rw[r2]at s1;cases s1
    have me:bR s.h G b=some g:=(dJ hb).trans r1;have jy:∀i,i<len->ys[i]?=xs[o+i]?:=λi dY=>by rw[<-hy,List.getElem?_take_of_lt dY,List.getElem?_drop]
    have ik:∀i j,i<len->j<k->o*k+i*k+j<cur.size:=λi j hi hj=>by
     have:=mL (i:=o+i) (k:=k) (L:=(cg xs).length) (j:=j) (by omega) hj;rw[Nat.add_mul]at this;have h2:(cg xs).length*k<=cap*k:=Nat.mul_le_mul_right k (by omega);rw[r7];omega
    have sQ:∀(i j:Nat)(x:amT D)(d:D),i<len->ys[i]?=some x->x[j]?=some d->aH G w (cur.getD (o*k+i*k+j) undef) (.d d):=λi j x d hi hx hd=>by
     rw[jy i hi]at hx;have hj:j<k:=by rw[<-nI x (ami hx)];exact(al5.1 hd).1
     refine r9 (o+i) j (x.map .d) (.d d) _ (by unfold cg;rw[amc,hx];rfl) (by rw[amc,hd];rfl) ?_;have hc:=ik i j hi hj;rw[show(o+i)*k+j=o*k+i*k+j by rw[Nat.add_mul]];simp [Array.getD,hc]
    refine .sl _ g (o*k) cc k ys (λi j=>cur.getD (o*k+i*k+j) undef) (λ_=>rfl) (by omega) q3 (λx hx=> ?_) (λi j hi hj=>⟨?_,?_,?_⟩) (λi j x d hx hd=> ?_)
    ·rw[<-hy]at hx;exact nI x (List.mem_of_mem_drop (List.mem_of_mem_take hx))
    ·rw[hS];refine .inr ⟨me,?_⟩;have:=mL (i:=o+i) (k:=k) (L:=(cg xs).length) (j:=j) (by omega) hj;rw[Nat.add_mul]at this;exact this
    ·rw[cell_of_row w g _ cur e (0,0) r4];have hc:=ik i j (by omega) hj;simp [Array.getD,hc]
    ·have dY:i<len:=by omega
     obtain⟨x,hx⟩:∃x,ys[i]?=some x:=⟨_,al9 hi⟩;have AG:=hx;rw[jy i dY]at AG;have mK:=ami AG;obtain⟨d,hd⟩:∃d,x[j]?=some d:=⟨_,al9 (by rw[nI x mK];exact hj)⟩;refine(sQ i j x d dY hx hd).kD ?_;have h1:=jn x mK;rw[amv]at h1;have h2:=h1 d (ami hd);cases d with
     |v u=>exact h2
     |sl l=>rfl
     |ag l=>exact absurd h2 Bool.false_ne_true
    ·have dY:i<len:=by rw[<-pk];exact(al5.1 hx).1
     have:=sQ i j x d dY hx hd;generalize cur.getD (o*k+i*k+j) undef=q at this;cases this with|d h=>exact h.keep hE.S hE.cell
  ·exact(hh0 trivial).elim
 have hinv:=aii (b:=b) (f:=AV.dz b k xs) hs.inv hE (λc o hq=>by rw[hS]at hq;exact hq.imp id And.left) (λhq=>hq.dz hE rfl Zn);have cM:c8 {G with S:=S} w a ⟨s.n,s.t.map λp=>(p.1,p.2.dz b k xs),(s.h.map (aq.lE (AV.dz b k xs))).set b .gone⟩:=by
  refine⟨hs.size,λi=> ?_,hinv,hs.df⟩;show aH _ _ _ (bq (s.t.map λp=>(p.1,p.2.dz b k xs)) i);rw[JT (AV.dz b k xs) (by simp [AV.dz])];exact(hs.tmp i).dz hE rfl Zn
 exact⟨_,hE,rfl,cM⟩
def w8(P:amW)(rs:amT ResultVar)(m:Nat)(s:St):amV (AV×amT aq):=
 match rR P s rs with
 |some l=>bif cq m s.h.length&&((jO l).bz m).aG m&&(((s.h.take m).map (aq.bz m)).all (aq.aG m))then some (((jO l).bz m).nrm,((s.h.take m).map (aq.bz m)).map aq.pN)else none
 |none=>none
def s8(P:amW)(fn:Func)(m:Nat)(R:AV)(H:amT aq):Exit->St->Prop
 | .normal,s=>w8 P fn.results.toList m s=some (R,H)
 | .ret,s=>w8 P fn.results.toList m s=some (R,H)
 |_,_=>False
theorem XY{P:amW}{s:St}{fn:Func}{m:Nat}{R:AV}{H:amT aq}(h:w8 P fn.results.toList m s=some (R,H)):qe P fn m (λr h'=>r.nrm=R/\h'.map aq.pN=H) s:=by
 unfold w8 at h;split at h
 ·next l e=>
  obtain⟨hb,he⟩:=eu h;cases he
  simp only[al7,dq]at hb;exact CP _ _ _ e ⟨hb.1.1,hb.1.2,hb.2,rfl,rfl⟩
 ·cases h
theorem jj{P:amW}{s:St}{fn:Func}{m:Nat}{R:AV}{H:amT aq}(h:w8 P fn.results.toList m s=some (R,H)):s8 P fn m R H .ret s:=h
theorem qn{P:amW}{f:FuncId}{fn:Func}{c:Code}{args:amT AV}{h H:amT aq}{R:AV}(m:Nat)(hf:P.funcs[f]?=some fn)(hb:fn.body=some c)(hn:(fn.name== "runtime.NumGoroutine")=false)(hm:h.length<=m)
 (hw:bB P none h.length c (s8 P fn m R H) {n:=args.length+(fn.ntmps-args.length),t:=lK 0 args,h:=h}):cZ P f args h λr1 h1=>r1=R/\h1=H:=by
 have h0:=tD (P:=P) (f:=f) (args:=args) (h:=h) (K:=λr h'=>r.nrm=R/\h'.map aq.pN=H) m hf hb hn hm (hw.mono λe s hq=>by
  cases e with
  |normal=>exact XY hq
  |ret=>exact XY hq
  |_=>exact hq.elim)
 refine⟨h0.1,λG w vs hi hl hr=>(h0.2 G w vs hi hl hr).mono λe w' hp=> ?_⟩;obtain⟨v,G',x,h',rfl,hE,hN,dY,hv,rfl,rfl⟩:=hp;exact⟨v,G',x.nrm,_,rfl,hE,hN,P1 dY,hv.nrm,rfl,rfl⟩
theorem mq{P:amW}{r:amV Nat}{N0:Nat}{c:Code}{s s':St}{Q:Exit->St->Prop}(e:s=s')(h:bB P r N0 c Q s'):bB P r N0 c Q s:=e▸h
def iU{V:Type}:amT (amU×V)->amU->V->V
 |[],_,d=>d
 |(k,v)::l,s,d=>bif bL k==bL s then v else iU l s d
def lA{V:Type}:amT (amU×V)->amU->Bool
 |[],_=>false
 |(k,_)::l,s=>bif bL k==bL s then true else lA l s
def ff(l:amT (amU×Int)):amT (amU×D):=l.map λp=>(p.1, .v (.int .i64 p.2))
def xU(l:amT (amU×Bool)):amT (amU×D):=l.map λp=>(p.1, .v (.bool p.2))
theorem VX{V:Type}(f:V->D):∀(l:amT (amU×V))(s:amU)(d:V),ld (l.map λp=>(p.1,f p.2)) s=bif lA l s then some (f (iU l s d))else none
 |[],s,d=>rfl
 |(k,v)::l,s,d=>by
  simp only[amu,ld,lA,iU];cases bL k==bL s with
  |true=>rfl
  |false=>simp only[cond_false];exact VX f l s d
theorem Xr{V:Type}:∀(l:amT (amU×V))(s:amU)(d:V),lA l s=false->iU l s d=d
 |[],s,d,_=>rfl
 |(k,v)::l,s,d,h=>by
  unfold lA at h;unfold iU;cases e:bL k==bL s with
  |true=>rw[e]at h;cases h
  |false=>rw[e]at h;simp only[cond_false];exact Xr l s d h
theorem KS{V:Type}(f:V->D)(F:V->AV)(hF:∀x,GI (f x)=F x)(z:amX)(d0:V)(hz:AH z=F d0)(ok:Bool)(l:amT (amU×V))(s:amU):
 qB ok z (ld (l.map λp=>(p.1,f p.2)) s)=bif ok then .aY [F (iU l s d0), .d (.v (.bool (lA l s)))]else F (iU l s d0):=by
 rw[VX f l s d0];cases e:lA l s with
 |true=>cases ok<;>simp only[qB,cond_true,cond_false,hF]
 |false=>rw[Xr l s d0 e];cases ok<;>simp only[qB,cond_true,cond_false,hz]
theorem Dd(ok:Bool)(l:amT (amU×Int))(s:amU):qB ok (.int .i64 0) (ld (ff l) s)=bif ok then .aY [.d (.v (.int .i64 (iU l s 0))), .d (.v (.bool (lA l s)))]else .d (.v (.int .i64 (iU l s 0))):=
 KS (λn=> .v (.int .i64 n)) (λn=> .d (.v (.int .i64 n))) (λ_=>rfl) _ 0 rfl ok l s
theorem aed(ok:Bool)(l:amT (amU×Bool))(s:amU):qB ok (.bool false) (ld (xU l) s)=bif ok then .aY [.d (.v (.bool (iU l s false))), .d (.v (.bool (lA l s)))]else .d (.v (.bool (iU l s false))):=
 KS (λn=> .v (.bool n)) (λn=> .d (.v (.bool n))) (λ_=>rfl) _ false rfl ok l s
def bP{α:Type}(f:α->amT D)(l:amT (amU×α)):amT (amU×D):=l.map λp=>(p.1, .ag (f p.2))
theorem aiB{α:Type}(f:α->amT D)(z:amX)(d0:α)(hz:AH z= .agg ((f d0).map .d))(ok:Bool)(l:amT (amU×α))(s:amU):
 qB ok z (ld (bP f l) s)=bif ok then .aY [.agg ((f (iU l s d0)).map .d), .d (.v (.bool (lA l s)))]else .agg ((f (iU l s d0)).map .d):=
 KS (λx=> .ag (f x)) (λx=> .agg ((f x).map .d)) (λ_=>rfl) _ d0 hz ok l s
theorem aet{α:Type}{f:α->amT D}{l:amT (amU×α)}(h:Nat.blt l.length 9223372036854775807=true):(Sd.lt (bP f l).length).ok:=by
 unfold bP;rw[ama];exact amd h
theorem PK{l:amT (amU×Int)}(h:Nat.blt l.length 9223372036854775807=true):(Sd.lt (ff l).length).ok:=by
 unfold ff;rw[ama];exact amd h
theorem abn{l:amT (amU×Bool)}(h:Nat.blt l.length 9223372036854775807=true):(Sd.lt (xU l).length).ok:=by
 unfold xU;rw[ama];exact amd h
def gI(g:Nat):amT Int:=((A4 xW g).getD []).map λv=>match v with| .int _ n=>n|_=>0
def agH(l:amT Int):amU:=⟨(l.map λn=>UInt8.ofNat n.toNat).toArray⟩
theorem ajz{α:Type}{c:Bool}{x y z:α}(h:(bif c then x else y)=z):(c=true/\x=z)\/(c=false/\y=z):=by
 cases c with
 |true=>exact .inl ⟨rfl,h⟩
 |false=>exact .inr ⟨rfl,h⟩
inductive HD
 |same
 |push (B:aq)
 |set (n:Nat) (B:aq)
def HD.app:HD->amT aq->amT aq
 | .same,h=>h
 | .push B,h=>h++[B]
 | .set n B,h=>h.set n B
def zN:Int->amV Nat
 | .ofNat n=>some n
 | .negSucc _=>none
theorem BY{z:Int}{n:Nat}(h:zN z=some n):0<=z/\z.toNat=n:=by
 cases z with
 |ofNat m=>cases h;exact⟨Int.natCast_nonneg _,rfl⟩
 |negSucc m=>cases h
def tL(ρ:Operand->AV)(d:Nat):amV Operand->amV Nat
 |none=>some d
 |some y=>match (ρ y).int? with
  |some z=>zN z
  |none=>none
def Bw(k:Nat)(xs:amT (amT D)):Bool:=xs.all λc=>c.length==k
def HJ(P:amW)(T:TypeId)(x i:AV):amV AV:=
 match eX P T with
 |some (_,k)=>match x with
  | .row n off len _ k'=>match i.int? with
    |some z=>match zN z with
     |some q=>bif k'==k&&cq (q+1) len then some (.ptr n (off+q*k))else none
     |none=>none
    |none=>none
  |x=>match x.fE,i.int? with
   |some xs,some z=>match zN z with
    |some q=>match xs[q]? with
     |some c=>bif c.length==k then some (.bp [c] 0 0)else none
     |none=>none
    |none=>none
   |_,_=>none
 |none=>match uA P T,x,i.int? with
  |some (n,_,k), .ptr b off,some z=>match zN z with
   |some q=>bif cq (q+1) n then some (.ptr b (off+q*k))else none
   |none=>none
  |some (n,_,k), .bp xs e off,some z=>match zN z with
   |some q=>bif k==1&&cq (q+1) n then match xs[e]? with
    |some c=>match c[off+q]? with
     |some d=>some (.bp [[d]] 0 0)
     |none=>none
    |none=>none
    else none
   |none=>none
  |_,_,_=>none
theorem ag7{P:amW}{T:TypeId}{x i y:AV}{K:AV->Prop}(h:HJ P T x i=some y)(hK:K y):rZ P T x i K:=by
 unfold HJ at h;unfold rZ;split at h
 ·next e k eT=>
  simp only[eT];split at h
  ·next n off len cap k'=>
   simp only;split at h
   ·next z ez=>
    simp only[ez];split at h
    ·next q eq=>
     obtain⟨h0,h1⟩:=BY eq;obtain⟨hb,he⟩:=eu h;rw[al7,dq]at hb;refine bV.2 ⟨hb.1,h0,by omega,?_⟩;rw[h1,he];exact hK
    ·cases h
   ·cases h
  ·next x' ox=>
   split at h
   ·next xs z e1 e2=>
    split at h
    ·next q eq=>
     obtain⟨h0,h1⟩:=BY eq;split at h
     ·next c ec=>
      obtain⟨hb,he⟩:=eu h;simp only[e1,e2];refine⟨h0,?_⟩;rw[h1,ec];exact⟨by simpa using hb,by rw[he];exact hK⟩
     ·cases h
    ·cases h
   ·cases h
 ·next eT=>
  simp only[eT];split at h
  ·next n e k b off z e1 e2=>
   simp only[e1,e2];split at h
   ·next q eq=>
    obtain⟨h0,h1⟩:=BY eq;obtain⟨hb,he⟩:=eu h;rw[dq]at hb;exact⟨h0,by omega,by rw[h1,he];exact hK⟩
   ·cases h
  ·next n e0 k xs e off z e1 e2=>
   simp only[e1,e2];split at h
   ·next q eq=>
    obtain⟨h0,h1⟩:=BY eq;obtain⟨hb,h⟩:=kR h;rw[al7,dq]at hb;split at h
    ·next c ec=>
     split at h
     ·next d ed=>
      cases h
      refine bV.2 ⟨hb.1,h0,by omega,?_⟩;rw[ec];simp only;rw[h1,ed];exact hK
     ·cases h
    ·cases h
   ·cases h
  ·cases h
def al0(P:amW)(T:TypeId)(ρ:Operand->AV)(x:AV)(lo hi mx:amV Operand):amV AV:=
 match mx with
 |none=>
  match x with
  | .d (.v (.string b))=>match tL ρ b.size hi,tL ρ 0 lo with
    |some h,some l=>bif ia P T&&cq h b.size&&cq l h then some (.d (.v (.string (b.extract l h))))else none
    |_,_=>none
  | .ptr n off=>match uA P T with
    |some (m,_,k)=>match tL ρ m hi,tL ρ 0 lo with
     |some h,some l=>bif cq m 4096&&cq h m&&(cq l h&& !cq m l)then some (.row n (off+l*k) (h-l) (m-l) k)else none
     |_,_=>none
    |none=>none
  |x=>match x.fE,eX P T with
   |some xs,some (_,k)=>match tL ρ xs.length hi,tL ρ 0 lo with
    |some h,some l=>bif Bw k xs&&cq h xs.length&&cq l h then some (.d (.sl ((xs.take h).drop l)))else none
    |_,_=>none
   |_,_=>none
 |some m=>match lo,hi with
  |none,some y=>match x.fE,eX P T with
   |some xs,some (_,k)=>match tL ρ 0 (some m),tL ρ 0 (some y)with
    |some c,some h=>bif Bw k xs&&cq c xs.length&&h==c then some (.full (xs.take h))else none
    |_,_=>none
   |_,_=>none
  |_,_=>none
def alU(P:amW)(T:TypeId)(h:amT aq)(x y:AV):amV (AV×HD):=
 match eX P T with
 |some (e,k)=>match iz P e,qk P e with
  |some z,some dd=>match FR h k y with
   |some ys=>bif cq 1 k&&z.cells.toList.length==k&&Bw k ys then
    match x with
    | .own n xs=>match h[n]? with
      |some (.front e' k' len)=>bif e'==e&&k'==k&&len==xs.length&&Bw k xs&&cq (xs.length+ys.length) maxLen&&cq ((xs.length+ys.length)*dd) 140737488355328 then some (.own n (xs++ys), .set n (.front e k (xs.length+ys.length)))else none
      |_=>none
    | .d (.v (.slice none 0 0))=>bif cq ys.length maxLen&&cq (ys.length*dd) 140737488355328 then some (.own h.length ys, .push (.front e k ys.length))else none
    | .full xs=>bif Bw k xs&&cq (xs.length+ys.length) maxLen&&cq ((xs.length+ys.length)*dd) 140737488355328 then some (.own h.length (xs++ys), .push (.front e k (xs.length+ys.length)))else none
    |_=>none
    else none
   |none=>none
  |_,_=>none
 |none=>none
def Rp:amT (amT D)->amV (amT Int)
 |[]=>some []
 |[.v (.int .u8 n)]::l=>match Rp l with
  |some ns=>some (n::ns)
  |none=>none
 |_=>none
def L9:amV (AV×In)->amV AV
 |some (x, .none)=>some x
 |some (x, .nz b)=>bif b==0 then none else some x
 |some (x, .nn b)=>match zN b with
  |some _=>some x
  |none=>none
 |some (x, .cat n)=>bif cq n maxLen then some x else none
 |_=>none
theorem ZE{r:amV (AV×In)}{x:AV}(P:amW)(h:L9 r=some x):∃i,r=some (x,i)/\OK P i .ok:=by
 unfold L9 at h;split at h
 ·cases h;exact⟨_,rfl, .none⟩
 ·next b=>
  cases hb:b==0 with
  |true=>rw[hb]at h;cases h
  |false=>rw[hb]at h;cases h;exact⟨_,rfl, .nz (by simpa using hb)⟩
 ·next b=>
  split at h
  ·next e=>cases h;exact⟨_,rfl, .nn (BY e).1⟩
  ·cases h
 ·obtain⟨hb,he⟩:=eu h;cases he
  exact⟨_,rfl, .cat (dq.1 hb)⟩
 ·cases h
def pX(r:amV AV):amV (AV×HD):=
 match r with
 |some x=>some (x, .same)
 |none=>none
def al1(P:amW)(src dst:TypeId)(x:AV):amV AV:=
 match FD P src dst x .none with
 |some (y, .none)=>some y
 |_=>match x.fE,eX P src with
  |some xs,some (e,_)=>match Rp xs with
   |some ns=>match x with
    | .d (.v _)=>none
    |_=>bif EC P e&&ia P dst then some (.d (.v (.string (agH ns))))else none
   |none=>none
  |_,_=>none
def l5(P:amW)(op:Op)(ρ:Operand->AV)(h:amT aq):amV (AV×HD):=
 match op with
 | .move x| .assign x=>some (ρ x, .same)
 | .pick c x y=>match ρ c with
   | .d (.v (.bool b))=>some (bif b then ρ x else ρ y, .same)
   |_=>none
 | .alloc e=>match iz P e with
   |some z=>some (.ptr h.length 0, .push (.cells (z.cells.toList.map λu=> .d (.v u))))
   |none=>none
 | .box _ x=>bif (ρ x).jz then some (.ptr h.length 0, .push (.cells (ρ x).cells))else none
 | .load t p=>match wO h (ρ p)with
   |some (cs,off)=>pX (Ab P t cs off)
   |none=>none
 | .store t p x=>match ρ p with
   | .ptr n off=>match h[n]? with
     |some (.cells cs)=>match gu P t with
      |some k=>bif k==(ρ x).cells.length&&(ρ x).jz&&cq (off+(ρ x).cells.length) cs.length then some (.d (.v undef), .set n (.cells (iM cs off (ρ x).cells)))else none
      |none=>none
     |_=>none
   |_=>none
 | .nilCheck x=>match ρ x with
   | .ptr n off=>some (.ptr n off, .same)
   | .bp xs i off=>some (.bp xs i off, .same)
   | .fn f cs=>some (.fn f cs, .same)
   |_=>none
 | .fieldAddr S x f=>match rU P S f with
   |some (fo,_,_)=>match ρ x with
    | .ptr n off=>some (.ptr n (off+fo), .same)
    | .bp xs i off=>some (.bp xs i (off+fo), .same)
    |_=>none
   |none=>none
 | .field T x f=>pX (Ib P T (ρ x) f)
 | .indexAddr T x i=>pX (HJ P T (ρ x) (ρ i))
 | .extract x i=>match ρ x with
   | .aY cs=>match cs[i]? with
     |some c=>some (c, .same)
     |none=>none
   |_=>none
 | .makeFunc (.func f) first dg=>match first.toList with
   |[]=>some (.fn f (dg.toList.map ρ), .same)
   |_=>none
 | .binOp op T x y _=>pX (L9 (H8 P T op (ρ x) (ρ y)))
 | .unOp op _ x=>match ρ x with
   | .d (.v u)=>match Jx op u with
     |some v=>some (.d (.v v), .same)
     |none=>none
   |_=>none
 | .call c=>match c.callee with
   | .builtin .len=>match c.args.toList,c.argTypes.toList with
     |[x],[T]=>match ρ x with
      | .d (.v (.string s))=>bif ia P T then some (.d (.v (.int .i64 s.size)), .same)else none
      | .row _ _ len _ _=>bif (eX P T).isSome then some (.d (.v (.int .i64 len)), .same)else none
      |x=>match x.fE with
       |some xs=>bif (eX P T).isSome then some (.d (.v (.int .i64 xs.length)), .same)else none
       |none=>none
     |_,_=>none
   |_=>none
 |_=>none
theorem Hg{r:amV AV}{x:AV}{d:HD}(h:pX r=some (x,d)):r=some x/\d= .same:=by
 unfold pX at h;split at h
 ·cases h;exact⟨rfl,rfl⟩
 ·cases h
theorem Zv{P:amW}{o:Oper}{ρ:Operand->AV}{h:amT aq}{x:AV}{d:HD}{C:AV->amT aq->Prop}(h1:l5 P o.op ρ h=some (x,d))(hC:C x (d.app h)):cW P o ρ h C:=by
 obtain⟨dst,op,type,pos,after,guard⟩:=o;simp only at h1;unfold l5 at h1;unfold cW;split at h1
 ·cases h1;exact hC
 ·cases h1;exact hC
 ·next c y z=>
  split at h1
  ·next b e=>
   cases h1
   simp only[e];cases b with
   |true=>exact⟨λ_=>hC,λh=>Bool.noConfusion h⟩
   |false=>exact⟨λh=>Bool.noConfusion h,λ_=>hC⟩
  ·cases h1
 ·split at h1
  ·next z e=>cases h1;simp only[e];exact hC
  ·cases h1
 ·obtain⟨hb,he⟩:=eu h1;cases he;exact bV.2 ⟨hb,hC⟩
 ·split at h1
  ·next cs off e=>
   obtain⟨e2,rfl⟩:=Hg h1;exact Pv e e2 hC
  ·cases h1
 ·split at h1
  ·next n off e=>
   split at h1
   ·next cs e2=>
    split at h1
    ·next k e3=>obtain⟨hb,he⟩:=eu h1;cases he;simp only[e,xq,e2,e3];exact bV.2 ⟨hb,hC⟩
    ·cases h1
   ·cases h1
  ·cases h1
 ·split at h1
  ·next e=>cases h1;simp only[e];exact hC
  ·next e=>cases h1;simp only[e];exact hC
  ·next e=>cases h1;simp only[e];exact hC
  ·cases h1
 ·split at h1
  ·next e=>
   simp only[e];split at h1
   ·next e2=>cases h1;simp only[e2];exact hC
   ·next e2=>cases h1;simp only[e2];exact hC
   ·cases h1
  ·cases h1
 ·obtain⟨e,rfl⟩:=Hg h1;exact WM e hC
 ·obtain⟨e,rfl⟩:=Hg h1;exact ag7 e hC
 ·split at h1
  ·next e=>
   split at h1
   ·next e2=>cases h1;simp only[e,e2];exact hC
   ·cases h1
  ·cases h1
 ·split at h1
  ·next e=>cases h1;simp only[e];exact hC
  ·cases h1
 ·obtain⟨e,rfl⟩:=Hg h1;obtain⟨i,e2,bW⟩:=ZE P e;exact Wp e2 bW hC
 ·unfold xe;split at h1
  ·next e=>
   split at h1
   ·next e2=>cases h1;simp only[e,e2];exact hC
   ·cases h1
  ·cases h1
 ·next c=>
  split at h1
  ·next hc=>
   simp only[hc];split at h1
   ·next y T e1 e2=>
    simp only[e1,e2];unfold rJ;split at h1
    ·next s e=>obtain⟨hb,he⟩:=eu h1;cases he;simp only[e];exact bV.2 ⟨hb,hC⟩
    ·next e=>obtain⟨hb,he⟩:=eu h1;cases he;simp only[e];exact bV.2 ⟨hb,hC⟩
    ·next n1 n2=>
     split at h1
     ·next xs e=>
      obtain⟨hb,he⟩:=eu h1;cases he;split
      ·next s e'=>exact absurd e' (n1 s)
      ·next e'=>exact absurd e' (n2 _ _ _ _ _)
      ·simp only[e];exact bV.2 ⟨hb,hC⟩
     ·cases h1
   ·cases h1
  ·cases h1
 ·cases h1
def dt(n:Nat)(t:amT (Nat×AV)):amT AV:=(List.range n).map (bq t)
theorem acU{n:Nat}{t:amT (Nat×AV)}{i:Nat}{c:AV}(h:(dt n t)[i]?=some c):bq t i=c:=by
 unfold dt at h;rw[amc]at h;by_cases hi:i<n
 ·rw[List.getElem?_range hi]at h;exact amo h
 ·rw[amB (by simpa using hi)]at h;cases h
def Nc(P:amW)(N0:Nat)(Q:Exit->St->Prop)(s:St):LS->Prop
 | .ready=>Q .normal s
 | .done c=>bB P none N0 c Q s
 | .busy=>False
theorem ai1{P:amW}{N0:Nat}{s:St}{Q:Exit->St->Prop}{g:Operand}{p:Nat}{assign body:Code}{gf:FuncId}{dg:amT AV}(hg:ev s g= .fn gf dg)
 (hc:cZ P gf (.cp s.h.length::dg) (s.h++[.lp .ready p assign body (dt s.n s.t)]) λ_ h'=>∃(ls:LS)(p1:Nat)(rD sc:Code)(vo:amT AV),h'[s.h.length]?=some (.lp ls p1 rD sc vo)/\Nc P N0 Q ⟨s.n,s.t,h'.set s.h.length .gone⟩ ls):
 bB P none N0 (.rangeFunc g #[p] assign body) Q s:=by
 constructor
 intro G w a n hs hN;have hv:=hs.ev g;rw[hg]at hv;obtain⟨lb,ea,hl,hr⟩:∃lb:Array amX,a.eval g= .func (.func gf) #[] lb/\lb.size=dg.length/\∀(i:Nat)(u:amX)(c:AV),lb[i]?=some u->dg[i]?=some c->aH G w u c:=by
  generalize a.eval g=u at hv;cases hv with|fn _ vs _ hl hr=>exact⟨vs,rfl,hl,hr⟩
 obtain⟨EP,jB⟩:=hc;refine wpIn_rangeFunc (F:=WF none) ?_;intro fn _;obtain⟨Bu,SV⟩:=alH hs.inv;obtain⟨G0,kS⟩:∃G0:Gh,G0={G with Z:=λb=>G.Z b\/b=w.heap.size}:=⟨_,rfl⟩;obtain⟨w0,qG⟩:∃w0,w0=w.alloc (.deferred (some [])):=⟨_,rfl⟩;rw[<-kS,<-qG]at Bu SV;have cv:G0.N=G.N:=by rw[kS]
 have hsz:w0.heap.size=w.heap.size+1:=by rw[qG];simp
 obtain⟨ie,vN,ON⟩:=aag SV fn a.tmps w.heap.size p assign body (dt s.n s.t) (by simp [dt,hs.size]) λi u c hu hc=>by
  have h9:=hs.tmp i;rw[acU hc]at h9;have e:a.tmps.getD i undef=u:=by
   have aN:=(amk.1 hu).1;rw[amr aN]at hu;simp [Array.getD,aN];exact amo hu
  rw[e]at h9;exact h9.keep Bu (Nat.le_of_eq cv.symm)
 obtain⟨w1,Ah⟩:∃w1,w1=w0.alloc (.loop {state:= .ready,pending:=none,fn:=fn,tmps:=a.tmps,params:= #[p],assign:=assign,body:=body,defers:=w.heap.size}):=⟨_,rfl⟩;obtain⟨G1,Ni⟩:∃G1:Gh,G1=G0.de w0.heap.size:=⟨_,rfl⟩;rw[<-Ah,<-Ni]at ie vN ON;have fU:G1.N=G.N+1:=by rw[Ni,<-cv];rfl
 have adi:G1.aR s.h.length=w.heap.size+1:=by rw[Ni,hs.inv.len,<-cv];simp [Gh.de,hsz]
 rw[hsz]at ON;have Wj:bN G.N G w G1 w1:=Bu.trans (ie.less (Nat.le_of_eq cv.symm));refine⟨w.heap.size+1,[{target:= .collected w.heap.size,args:= #[]}],w1,{target:= .fn (.func gf) lb,args:= #[.func (.yield (w.heap.size+1)) #[] #[]]},w1,gf, #[.func (.yield (w.heap.size+1)) #[] #[]]++lb,w1,?_,?_,λ_ _=>trivial,?_,λh=>(by simp [WF,Fence.wide]at h),?_⟩
 ·rw[Ah,qG];exact run_enterLoop_outer _ _ _ _ _
 ·simp only[resolve,ea];simp [Deferred.ofValue,go_sem]
 ·simp [invoke,Km EP]
 have hK:=jB G1 w1 (#[.func (.yield (w.heap.size+1)) #[] #[]]++lb) vN (by simp [hl];omega) (λi u c hu hc=>by
  match i with
  |0=>
   rw[Array.getElem?_append_left (by simp)]at hu;simp at hu hc;subst hu;subst hc;exact ON
  |i+1=>
   rw[Array.getElem?_append_right (by simp)]at hu;simp at hu hc;exact(hr i u c hu hc).keep Wj (by rw[fU];exact Nat.le_succ _))
 refine CallsIn.mono (F:=WF none) (callsIn_wide (n:=n-1).2 hK) ?_;rintro e w2 ⟨v,G2,r,h',rfl,jo,hN2,FB,_,ls,p1,rD,sc,vo,hk,Og⟩;have yD:s.h.length<G1.N:=by rw[hs.inv.len,fU];exact amR _
 have Cu:G2.aR s.h.length=w.heap.size+1:=(jo.aR _ yD).trans adi;obtain⟨_,fn2,tm2,D2,g3,g4,g5,Vv⟩:=IU FB hk;rw[Cu]at g3;have Z7:bN G.N G w G2 w2:=Wj.trans (jo.less (by rw[fU];exact Nat.le_succ _));have H7:G.N<=G2.N:=by rw[fU]at hN2;omega
 obtain⟨ob,me⟩:∃ob:Obj,ob= .loop {state:= .exhausted,pending:=ls.pd,fn:=fn2,tmps:=tm2,params:= #[p1],assign:=rD,body:=sc,defers:=D2}:=⟨_,rfl⟩;obtain⟨zE,zI⟩:=aaa FB hk ob;rw[Cu]at zE zI;have Cr:bN G.N G w G2 (w2.putObj (w.heap.size+1) ob):=Z7.trans (zE.less H7);have hM:=hs.inv.gl.2;have A2:G0.Z w.heap.size:=by rw[kS];exact .inr rfl
 have UU:G2.Z w.heap.size:=jo.Z.1.1 _ (ie.Z.1.1 _ A2);have hDh:(w2.putObj (w.heap.size+1) ob).heap[w.heap.size]?=some (.deferred (some [])):=by
  rw[zE.old _ UU,jo.old _ (ie.Z.1.1 _ A2),ie.old _ A2,qG];exact World.alloc_heap_new w _
 have cM:c8 G2 (w2.putObj (w.heap.size+1) ob) {a with defers:=[{target:= .collected w.heap.size,args:= #[]}]++a.defers} ⟨s.n,s.t,h'.set s.h.length .gone⟩:=by
  refine⟨hs.size,λi=>(hs.tmp i).keep Cr H7,zI,?_⟩;obtain⟨l,l1,l2,l3⟩:=hs.df.keep Cr;obtain⟨l',l1',RX,l3'⟩:=hs.df;have oW:l=l':=by
   rw[l2]at RX;have Z8:∀(x y:amT Nat),x.map (λD=>({target:= .collected D,args:= #[]}:Deferred))=y.map (λD=>{target:= .collected D,args:= #[]})->x=y:=by
     intro x
     induction x with
     |nil=>intro y h;cases y with
      |nil=>rfl
      |cons b y=>simp at h
     |cons a x ih=>intro y h;cases y with
      |nil=>simp at h
      |cons b y=>simp at h;rw[h.1,ih y (by simpa using h.2)]
   exact Z8 _ _ RX
  refine⟨w.heap.size::l,?_,by rw[amu,<-l2];rfl,λD hD=> ?_⟩
  ·rw[List.nodup_cons];exact⟨λh=>amJ _ (hs.inv.z _ (l3' _ (oW▸h)).2.1),l1⟩
  ·rcases amz.1 hD with rfl|hD
   ·exact⟨by rw[Cr.Z.2];exact hM,UU,hDh⟩
   ·exact l3 D hD
 subst me;have DY:=λhb=>run_endLoop (P:=P) g3 hb;cases ls with
 |busy=>exact Og.elim
 |ready=>
  refine⟨_,_,DY (by simp [LS.st]),?_⟩;exact⟨G2,_,Cr.less hN,amn hN H7,cM,Og⟩
 |done c=>
  refine⟨_,_,DY (by simp [LS.st]),?_⟩;refine wpIn_mono (Og.run G2 _ _ n (cM) (amn hN H7)) λ_ _ _ hn=> ?_;exact hn.trans (Cr.less hN)
set_option linter.unusedSimpArgs false
set_option linter.unusedVariables false
mutual
theorem JG:∀x:AV,x.aL id=x
 | .agg cs=>by rw[AV.aL,sa cs]
 | .aY cs=>by rw[AV.aL,sa cs]
 | .fn f cs=>by rw[AV.aL,sa cs]
 | .own .. =>by simp [AV.aL]
 | .d _=>by simp [AV.aL]
 | .ptr .. =>by simp [AV.aL]
 | .bp .. =>by simp [AV.aL]
 | .full _=>by simp [AV.aL]
 | .row .. =>by simp [AV.aL]
 | .mp _=>by simp [AV.aL]
 | .cp _=>by simp [AV.aL]
 | .vec .. =>by simp [AV.aL]
 | .dD .. =>by simp [AV.aL]
 | .hid _=>by simp [AV.aL]
 | .dead=>by simp [AV.aL]
theorem sa:∀l:amT AV,AV.gp id l=l
 |[]=>by simp [AV.gp]
 |x::l=>by rw[AV.gp,JG x,sa l]
end
theorem LV(B:aq):B.aL id=B:=by
 cases B with
 |cells cs=>simp only[aq.aL,sa]
 |lp ls p as bd cs=>simp only[aq.aL,sa]
 |it sn cs=>simp only[aq.aL,sa]
 |eR T0 cs=>simp only[aq.aL,sa]
 |vec e k cs=>simp only[aq.aL];congr 1;exact(amA λx _=>sa x).trans (List.map_id _)
 |_=>rfl
theorem aH.low{G:Gh}{w:amY}{u:amX}{x:AV}(h:aH G w u x):x.aG G.N=true:=by
 have lt:∀{n:Nat},n<G.N->(!cq G.N n)=true:=fun{n} hn=>by
  rw[Bool.not_eq_true',<-Bool.not_eq_true,dq];omega
 have fK:∀(vs:Array amX)(cs:amT AV),vs.size=cs.length->(∀(i:Nat)(u:amX)(c:AV),vs[i]?=some u->cs[i]?=some c->c.aG G.N=true)->AV.ky G.N cs=true:=λvs cs hl h=>by
  rw[mW,amv];intro c hc;obtain⟨i,hi,rfl⟩:=List.mem_iff_getElem.1 hc;exact h i vs[i] _ (amr (by omega)) (al9 hi)
 induction h with
 |agg vs cs hl _ ih=>rw[AV.aG];exact fK vs cs hl ih
 |aY vs cs hl _ ih=>rw[AV.aG];exact fK vs cs hl ih
 |fn f vs cs hl _ ih=>rw[AV.aG];exact fK vs cs hl ih
 |ptr n off h=>rw[AV.aG];exact lt h
 |own n xs h=>rw[AV.aG];exact lt h
 |row n off len cap k h=>rw[AV.aG];exact lt h
 |mp n h=>rw[AV.aG];exact lt h
 |cp n h=>rw[AV.aG];exact lt h
 |vec n o len L k h=>rw[AV.aG];exact lt h
 |dD n i j L k h=>rw[AV.aG];exact lt h
 |_=>simp [AV.aG]
def iX(N0:Nat)(s s':St):Prop:=∀(G:Gh)(w:amY)(a:Act),N0<=G.N->c8 G w a s->∃G',bN N0 G w G' w/\N0<=G'.N/\c8 G' w a s'
theorem iX.refl(N0:Nat)(s:St):iX N0 s s:=λG _ _ hN hs=>⟨G,bN.refl _ _ _,hN,hs⟩
theorem iX.trans{N0:Nat}{s1 s2 s3:St}(h:iX N0 s1 s2)(k:iX N0 s2 s3):iX N0 s1 s3:=λG w a hN hs=>by
 obtain⟨G1,e1,n1,h1⟩:=h G w a hN hs;obtain⟨G2,e2,n2,h2⟩:=k G1 w a n1 h1;exact⟨G2,e1.trans e2,n2,h2⟩
theorem iX.of_eq{N0:Nat}{s s':St}(h:jh s s'):iX N0 s s':=λG _ _ hN hs=>
 ⟨G,bN.refl _ _ _,hN,hs.size.trans h.n,λi=>by rw[<-h.t i];exact hs.tmp i,by rw[<-h.h];exact hs.inv,hs.df⟩
theorem iX.aL{N0:Nat}{s s':St}(σ τ:Nat->Nat)(hn:s.n=s'.n)(hlen:s'.h.length=s.h.length)(aN:∀i,i<s.h.length->σ i<s.h.length)(hτ:∀i,i<s.h.length->τ i<s.h.length)
 (tp:∀i,i<s.h.length->τ (σ i)=i) (lT:∀i,i<s.h.length->σ (τ i)=i) (IF:∀i,i<N0->σ i=i)
 (ht:∀i,(bq s.t i).aG s.h.length=true->bq s'.t i=(bq s.t i).aL σ\/bq s'.t i= .dead) (hh:∀i,i<s.h.length->s'.h[σ i]?=(s.h[i]?).map (aq.aL σ)):iX N0 s s':=λG w a hN hs=>by
 have hl:s.h.length=G.N:=hs.inv.len;rw[hl]at aN hτ tp lT hh hlen ht;have OF:∀i,i<N0->τ i=i:=λi hi=>by
  have h1:=tp i (by omega);rw[IF i hi]at h1;exact h1
 let G':Gh:={G with aR:=λn=>G.aR (τ n),sg:=λn=>G.sg (τ n),ow:=λn=>G.ow (τ n),fl:=λn=>G.fl (τ n)}
 have hR:qu σ G G':=⟨aN,λn h=>by show G.aR (τ (σ n))=_;rw[tp n h],λn h=>by show G.sg (τ (σ n))=_;rw[tp n h],λn h=>by show G.fl (τ (σ n))=_;rw[tp n h],λn h=>by show G.ow (τ (σ n))=_;rw[tp n h],λ_ _=>Iff.rfl⟩;have hE:bN N0 G w G' w:=⟨amg _,λ_ _ h=>h,λ_ _ _=>rfl,λn h=>by show G.aR (τ n)=_;rw[OF n h],λn h=> .inl ⟨by show G.fl (τ n)=_;rw[OF n h],by show G.sg (τ n)=_;rw[OF n h]⟩,hY rfl,λ_ _=>rfl,rfl,rfl,rfl,λ_ _ h=> .inl h⟩;have eG:∀(n:Nat)(B:aq),s'.h[n]?=some B->∃m B0,m<G.N/\σ m=n/\s.h[m]?=some B0/\B=B0.aL σ:=λn B hB=>by
  have eW:n<G.N:=by have:=(al5.1 hB).1;omega
  have h1:=hh (τ n) (hτ n eW);rw[lT n eW,hB]at h1;cases h2:s.h[τ n]? with
  |none=>rw[h2]at h1;cases h1
  |some B0=>rw[h2]at h1;cases h1;exact⟨τ n,B0,hτ n eW,lT n eW,h2,rfl⟩
 have eF:∀(n b:Nat),bR s'.h G' n=some b->∃m,m<G.N/\σ m=n/\bR s.h G m=some b:=λn b hb=>by
  obtain⟨B,hB,hb⟩:=m3 hb;obtain⟨m,B0,k1,k2,k3,rfl⟩:=eG n B hB;subst k2;rw[PT hR k1]at hb;exact⟨m,k1,rfl,by rw[dJ k3];exact hb⟩
 refine⟨G',hE,hN,hs.size.trans hn,λi=> ?_,⟨hlen,hs.inv.z,hs.inv.S,λn B hB=> ?_,λm n b hm eW=> ?_,hs.inv.gl.keep hE⟩,hs.df.keep hE⟩
 ·have hv:=hs.tmp i;rcases ht i hv.low with e|e
  ·rw[e];exact hv.aL hR
  ·rw[e];exact .dead _
 ·obtain⟨m,B0,k1,k2,k3,rfl⟩:=eG n B hB;subst k2;have hb:=hs.inv.dk m B0 k3;exact ep.aL hR k1 (λb h1=>hb.lr h1) hb
 ·obtain⟨m',k1,k2,k3⟩:=eF m b hm;obtain⟨n',j1,j2,j3⟩:=eF n b eW;have:=hs.inv.inj m' n' b k3 j3;rw[<-k2,<-j2,this]
def PF:amX->amX->Bool
 | .bool a, .bool b=>a==b
 | .int k a, .int l b=>decide (k=l)&&decide (a=b)
 | .string a, .string b=>bL a==bL b
 | .pointer none, .pointer none=>true
 | .slice none a b, .slice none c d=>a==c&&b==d
 | .map none, .map none=>true
 | .nilFunc, .nilFunc=>true
 | .nilIface, .nilIface=>true
 | .tuple a, .tuple b=>a.size==0&&b.size==0
 |_,_=>false
theorem ZH{u v:amX}(h:PF u v=true):u=v:=by
 unfold PF at h;split at h
 ·rw[beq_iff_eq]at h;subst h;rfl
 ·rw[al7,decide_eq_true_eq,decide_eq_true_eq]at h;obtain⟨h1,h2⟩:=h;subst h1;subst h2;rfl
 ·rw[beq_iff_eq]at h;rw[Vg h]
 ·rfl
 ·rw[al7,beq_iff_eq,beq_iff_eq]at h;obtain⟨h1,h2⟩:=h;subst h1;subst h2;rfl
 ·rfl
 ·rfl
 ·rfl
 ·rw[al7,beq_iff_eq,beq_iff_eq]at h;rw[Array.eq_empty_of_size_eq_zero h.1,Array.eq_empty_of_size_eq_zero h.2]
 ·cases h
mutual
def D.nq:D->D->Bool
 | .v a, .v b=>PF a b
 | .sl xs, .sl ys=>D.sT xs ys
 | .ag xs, .ag ys=>D.vJ xs ys
 |_,_=>false
def D.sT:amT (amT D)->amT (amT D)->Bool
 |[],[]=>true
 |x::xs,y::ys=>D.vJ x y&&D.sT xs ys
 |_,_=>false
def D.vJ:amT D->amT D->Bool
 |[],[]=>true
 |x::xs,y::ys=>D.nq x y&&D.vJ xs ys
 |_,_=>false
end
mutual
theorem D.X5:∀x y:D,D.nq x y=true->x=y
 | .v a, .v b,h=>by rw[D.nq]at h;rw[ZH h]
 | .sl xs, .sl ys,h=>by rw[D.nq]at h;rw[D.BQ xs ys h]
 | .v _, .sl _,h=>by simp [D.nq]at h
 | .sl _, .v _,h=>by simp [D.nq]at h
 | .ag xs, .ag ys,h=>by rw[D.nq]at h;rw[D.LH xs ys h]
 | .v _, .ag _,h=>by simp [D.nq]at h
 | .ag _, .v _,h=>by simp [D.nq]at h
 | .sl _, .ag _,h=>by simp [D.nq]at h
 | .ag _, .sl _,h=>by simp [D.nq]at h
theorem D.BQ:∀x y:amT (amT D),D.sT x y=true->x=y
 |[],[],_=>rfl
 |x::xs,y::ys,h=>by rw[D.sT,al7]at h;rw[D.LH x y h.1,D.BQ xs ys h.2]
 |[],_::_,h=>by simp [D.sT]at h
 |_::_,[],h=>by simp [D.sT]at h
theorem D.LH:∀x y:amT D,D.vJ x y=true->x=y
 |[],[],_=>rfl
 |x::xs,y::ys,h=>by rw[D.vJ,al7]at h;rw[D.X5 x y h.1,D.LH xs ys h.2]
 |[],_::_,h=>by simp [D.vJ]at h
 |_::_,[],h=>by simp [D.vJ]at h
end
mutual
def AV.fX(σ:Nat->Nat):AV->AV->Bool
 | .d x,y=>(match y with| .d y=>D.nq x y|_=>false)
 | .agg a,y=>(match y with| .agg b=>AV.pg σ a b|_=>false)
 | .aY a,y=>(match y with| .aY b=>AV.pg σ a b|_=>false)
 | .fn f a,y=>(match y with| .fn g b=>f==g&&AV.pg σ a b|_=>false)
 | .ptr n o,y=>(match y with| .ptr m p=>σ n==m&&o==p|_=>false)
 | .bp xs i o,y=>(match y with| .bp ys j p=>D.sT xs ys&&(i==j&&o==p)|_=>false)
 | .own n xs,y=>(match y with| .own m ys=>σ n==m&&D.sT xs ys|_=>false)
 | .full xs,y=>(match y with| .full ys=>D.sT xs ys|_=>false)
 | .row n i1 i2 i3 i4,y=>(match y with| .row m j1 j2 j3 j4=>σ n==m&&(i1==j1&&(i2==j2&&(i3==j3&&i4==j4)))|_=>false)
 | .mp n,y=>(match y with| .mp m=>σ n==m|_=>false)
 | .cp n,y=>(match y with| .cp m=>σ n==m|_=>false)
 | .vec n i1 i2 i3 i4,y=>(match y with| .vec m j1 j2 j3 j4=>σ n==m&&(i1==j1&&(i2==j2&&(i3==j3&&i4==j4)))|_=>false)
 | .dD n i1 i2 i3 i4,y=>(match y with| .dD m j1 j2 j3 j4=>σ n==m&&(i1==j1&&(i2==j2&&(i3==j3&&i4==j4)))|_=>false)
 | .dead,y=>(match y with| .dead=>true|_=>false)
 | .hid _,_=>false
def AV.pg(σ:Nat->Nat):amT AV->amT AV->Bool
 |[],y=>(match y with|[]=>true|_=>false)
 |x::xs,l=>(match l with|y::ys=>AV.fX σ x y&&AV.pg σ xs ys|_=>false)
end
mutual
theorem AV.adH(σ:Nat->Nat):∀x y:AV,AV.fX σ x y=true->y=x.aL σ
 | .d x,y,h=>by
   cases y with
   |d y=>simp only[AV.fX,al7,beq_iff_eq]at h;rw[AV.aL,D.X5 _ _ h]
   |_=>simp [AV.fX]at h
 | .agg a,y,h=>by
   cases y with
   |agg b=>simp only[AV.fX,al7,beq_iff_eq]at h;rw[AV.aL,AV.G7 σ _ _ h]
   |_=>simp [AV.fX]at h
 | .aY a,y,h=>by
   cases y with
   |aY b=>simp only[AV.fX,al7,beq_iff_eq]at h;rw[AV.aL,AV.G7 σ _ _ h]
   |_=>simp [AV.fX]at h
 | .fn f a,y,h=>by
   cases y with
   |fn g b=>simp only[AV.fX,al7,beq_iff_eq]at h;rw[AV.aL,AV.G7 σ _ _ h.2,h.1]
   |_=>simp [AV.fX]at h
 | .ptr n o,y,h=>by
   cases y with
   |ptr m p=>simp only[AV.fX,al7,beq_iff_eq]at h;rw[AV.aL,h.1,h.2]
   |_=>simp [AV.fX]at h
 | .bp xs i o,y,h=>by
   cases y with
   |bp ys j p=>simp only[AV.fX,al7,beq_iff_eq]at h;rw[AV.aL,D.BQ _ _ h.1,h.2.1,h.2.2]
   |_=>simp [AV.fX]at h
 | .own n xs,y,h=>by
   cases y with
   |own m ys=>simp only[AV.fX,al7,beq_iff_eq]at h;rw[AV.aL,D.BQ _ _ h.2,h.1]
   |_=>simp [AV.fX]at h
 | .full xs,y,h=>by
   cases y with
   |full ys=>simp only[AV.fX,al7,beq_iff_eq]at h;rw[AV.aL,D.BQ _ _ h]
   |_=>simp [AV.fX]at h
 | .row n i1 i2 i3 i4,y,h=>by
   cases y with
   |row m j1 j2 j3 j4=>simp only[AV.fX,al7,beq_iff_eq]at h;rw[AV.aL,h.1,h.2.1,h.2.2.1,h.2.2.2.1,h.2.2.2.2]
   |_=>simp [AV.fX]at h
 | .vec n i1 i2 i3 i4,y,h=>by
   cases y with
   |vec m j1 j2 j3 j4=>simp only[AV.fX,al7,beq_iff_eq]at h;rw[AV.aL,h.1,h.2.1,h.2.2.1,h.2.2.2.1,h.2.2.2.2]
   |_=>simp [AV.fX]at h
 | .dD n i1 i2 i3 i4,y,h=>by
   cases y with
   |dD m j1 j2 j3 j4=>simp only[AV.fX,al7,beq_iff_eq]at h;rw[AV.aL,h.1,h.2.1,h.2.2.1,h.2.2.2.1,h.2.2.2.2]
   |_=>simp [AV.fX]at h
 | .mp n,y,h=>by
   cases y with
   |mp m=>simp only[AV.fX,al7,beq_iff_eq]at h;rw[AV.aL,h]
   |_=>simp [AV.fX]at h
 | .cp n,y,h=>by
   cases y with
   |cp m=>simp only[AV.fX,al7,beq_iff_eq]at h;rw[AV.aL,h]
   |_=>simp [AV.fX]at h
 | .dead,y,h=>by
   cases y with
   |dead=>rw[AV.aL]
   |_=>simp [AV.fX]at h
 | .hid _,y,h=>by simp [AV.fX]at h
theorem AV.G7(σ:Nat->Nat):∀x y:amT AV,AV.pg σ x y=true->y=AV.gp σ x
 |[],y,h=>by
  cases y with
  |nil=>rw[AV.gp]
  |cons=>simp [AV.pg]at h
 |x::xs,l,h=>by
  cases l with
  |nil=>simp [AV.pg]at h
  |cons y ys=>simp only[AV.pg,al7]at h;rw[AV.gp,AV.adH σ _ _ h.1,AV.G7 σ _ _ h.2]
end
def R6:amT (amU×D)->amT (amU×D)->Bool
 |[],[]=>true
 |(k,d)::l,(k',d')::l'=>bL k==bL k'&&D.nq d d'&&R6 l l'
 |_,_=>false
def Sf(σ:Nat->Nat):amT (amT AV)->amT (amT AV)->Bool
 |[],[]=>true
 |x::xs,y::ys=>AV.pg σ x y&&Sf σ xs ys
 |_,_=>false
def aq.fX(σ:Nat->Nat):aq->aq->Bool
 | .cells a,y=>(match y with| .cells b=>AV.pg σ a b|_=>false)
 | .front e k l,y=>(match y with| .front e' k' l'=>e==e'&&(k==k'&&l==l')|_=>false)
 | .iy _ _,_=>false
 | .vec e k cs,y=>(match y with| .vec e' k' ds=>e==e'&&(k==k'&&Sf σ cs ds)|_=>false)
 | .map kv,y=>(match y with| .map e8=>R6 kv e8|_=>false)
 | .iC _,_=>false
 | .it sn cs,y=>(match y with| .it sn' ds=>sn==sn'&&AV.pg σ cs ds|_=>false)
 | .eR _ _,_=>false
 | .gone,y=>(match y with| .gone=>true|_=>false)
 | .lp ..,_=>false
def gx(h0:Nat)(p:amT Nat)(i:Nat):Nat:=bif cq h0 i then p.getD (i-h0) i else i
def x7(ts ye:amT (Nat×AV))(ks:amT Nat)(i:Nat):Nat:=
 match ks with
 |[]=>i
 |d::ks=>match bq ts d,bq ye d with
  | .ptr n _, .ptr m _=>bif n==i then m else x7 ts ye ks i
  | .own n _, .own m _=>bif n==i then m else x7 ts ye ks i
  | .vec n _ _ _ _, .vec m _ _ _ _=>bif n==i then m else x7 ts ye ks i
  | .mp n, .mp m=>bif n==i then m else x7 ts ye ks i
  |_,_=>x7 ts ye ks i
def mkP(s s':St)(ks:amT Nat)(h0:Nat):Nat->amT Nat
 |0=>[]
 |k+1=>x7 s.t s'.t ks h0::mkP s s' ks (h0+1) k
def alV(h0:Nat)(ks:amT Nat)(s s':St)(p q:amT Nat):Bool:=
 (s'.h.length==s.h.length)&&(((List.range s.h.length).all λi=>cq (gx h0 p i+1) s.h.length&&cq (gx h0 q i+1) s.h.length&&gx h0 q (gx h0 p i)==i&&gx h0 p (gx h0 q i)==i)&&(ks.all (λd=>AV.fX (gx h0 p) (bq s.t d) (bq s'.t d))&&
  ((List.range s.h.length).all λi=>match s.h[i]?,s'.h[gx h0 p i]? with
    |some B,some B'=>aq.fX (gx h0 p) B B'
    |_,_=>false)))
structure mY(ks:List Nat)(s0 s:St):Prop where
 n:s.n=s0.n
 t:∀d,d ∉ ks->bq s.t d=bq s0.t d
theorem mY.refl(ks:amT Nat)(s:St):mY ks s s:=⟨rfl,λ_ _=>rfl⟩
theorem mY.put{ks:amT Nat}{s0 s:St}(h:mY ks s0 s)(h1:amT aq){d:amV Nat}(x:AV)(hd:∀k,d=some k->k∈ks):mY ks s0 ((s.wh h1).put d x):=
 ⟨by rw[qR];exact h.n,λi hi=>by
  rw[sS,if_neg]
  ·exact h.t i hi
  ·rintro⟨e,_⟩;exact hi (hd i e)⟩
def Dw(N0:Nat)(K:St->Prop):Prop:=∀s s',iX N0 s s'->K s'->K s
theorem Dw.c{N0:Nat}{K:St->Prop}(h:Dw N0 K):qS K:=λs s' e hk=>h s' s (iX.of_eq e.symm) hk
theorem Po{P:amW}{r:amV Nat}{N0:Nat}{s:St}{Q:Exit->St->Prop}{m:Bool}{id:Nat}{ops:Array Oper}(hm:P.follows .mixedOrders=true)
 (h:N0<=s.h.length->(∀i,(bq s.t i).aG s.h.length=true)->kH m P ops (λs1=>∃s2,iX N0 s1 s2/\Q .normal s2) ops.size (Array.replicate ops.size false) s):bB P r N0 (.region id ops true) Q s:=by
 constructor
 intro G w a n hs hN;obtain⟨d1,d2⟩:=hs.drew;refine wpIn_region_any hm ?_;have hl:=hs.inv.len;refine Ff (G:=G) (w:=w) (N0:=N0) (K:=λs1=>∃s2,iX N0 s1 s2/\Q .normal s2) (λa' w' hn=> ?_) ops.size _ G _ a s (d1.less hN) hN d2 (h (by omega) λi=>by rw[hl];exact(hs.tmp i).low);obtain⟨G',s',x1,x2,x3,s2,e0,x4⟩:=hn;obtain⟨G2,y1,y2,y3⟩:=e0 G' w' a' x2 x3;exact⟨G2,s2,x1.trans y1,y2,y3,x4⟩
theorem Qz{N0:Nat}(Q:St->Prop):Dw N0 (λs1=>∃s2,iX N0 s1 s2/\Q s2):=λ_ _ h ⟨s2,h1,h2⟩=>⟨s2,h.trans h1,h2⟩
def xP(f:Nat->Bool):Nat->Nat
 |0=>0
 |n+1=>bif f n then xP f n|||(1<<<n)else xP f n
theorem Ea(f:Nat->Bool):∀(n j:Nat),Nat.testBit (xP f n) j=(decide (j<n)&&f j)
 |0,j=>by simp [xP]
 |n+1,j=>by
  unfold xP;have ih:=Ea f n j;cases hf:f n with
  |true=>
   simp only[cond_true,Nat.testBit_or,ih,Nat.one_shiftLeft,Nat.testBit_two_pow];by_cases e:n=j
   ·subst e;simp [hf]
   ·have:decide (j<n+1)=decide (j<n):=by simp;omega
    rw[this];simp [e]
  |false=>
   simp only[cond_false,ih];by_cases e:n=j
   ·subst e;simp [hf]
   ·have:decide (j<n+1)=decide (j<n):=by simp;omega
    rw[this]
def fN{α:Type}(n:Nat)(f:Nat->α):α:=Nat.casesOn (Nat.succ n) (f 0) f
theorem yT{α:Type}(n:Nat)(f:Nat->α):fN n f=f n:=rfl
def fL{α:Type}:amT Nat->(amT Nat->α)->α
 |[],f=>f []
 |n::l,f=>fN n λn=>fL l λl=>f (n::l)
theorem vK{α:Type}:∀(l:amT Nat)(f:amT Nat->α),fL l f=f l
 |[],_=>rfl
 |n::l,f=>by rw[fL,yT,vK l]
section
variable (ops:Array Oper)
def Am(o:Oper)(n j:Nat):Bool:=o.after.any λe=>Region.binds .any e&&(e.on==j||(j==n&&cq n e.on))
def GQ(k:Nat):Nat:=match ops[k]? with
 |some o=>xP (Am o ops.size) (ops.size+1)
 |none=>1<<<ops.size
def Qy(m:Bool)(M:Array Nat)(k j:Nat):Bool:= !(j==k)&&(!((M.getD j 0).testBit k)&&match ops[k]?,ops[j]? with
 |some oi,some oj=> !(oi.apart ops oj&&zD m oi oj)
 |_,_=>true)
def tv(m:Bool)(M:Array Nat)(k:Nat):Nat:=xP (Qy ops m M k) ops.size
def nO:Nat->Nat->amT Nat
 |_,0=>[]
 |k,n+1=>GQ ops k::nO (k+1) n
def kf(m:Bool)(M:Array Nat):Nat->Nat->amT Nat
 |_,0=>[]
 |k,n+1=>tv ops m M k::kf m M (k+1) n
end
def pP:amT Nat->Nat->Nat->amT Nat
 |[],_,_=>[]
 |a::A,L,k=>bif !(Nat.testBit L k)&&(L&&&a==a)then k::pP A L (k+1)else pP A L (k+1)
def wV(C:amT Nat)(L:Nat):amT Nat->amV Nat
 |[]=>none
 |k::r=>bif (C.getD k 0)|||L==L then some k else wV C L r
section
variable (ops:Array Oper) (st:Oper->St->amV St) (h0:Nat) (ks A C:amT Nat)
def n7:amT Oper->amT Nat
 |[]=>[]
 |o::l=>match o.dst with
  |some d=>d::n7 l
  |none=>n7 l
end
theorem FX:∀{l:amT Oper}{o:Oper},o∈l->∀d,o.dst=some d->d∈n7 l
 |[],_,h,_,_=>by cases h
 |a::l,o,h,d,hd=>by
  unfold n7;rcases amz.1 h with rfl|h
  ·rw[hd];simp
  ·split
   ·exact ame _ (FX h d hd)
   ·exact FX h d hd
theorem Bq(ops:Array Oper):∀(n k i:Nat),(nO ops k n)[i]?=if i<n then some (GQ ops (k+i))else none
 |0,k,i=>by simp [nO]
 |n+1,k,0=>by simp [nO]
 |n+1,k,i+1=>by rw[nO,amG,Bq ops n (k+1) i];simp only[Nat.add_lt_add_iff_right];rw[show k+1+i=k+(i+1) by omega]
theorem LQ(ops:Array Oper)(m:Bool)(M:Array Nat):∀(n k i:Nat),(kf ops m M k n)[i]?=if i<n then some (tv ops m M (k+i))else none
 |0,k,i=>by simp [kf]
 |n+1,k,0=>by simp [kf]
 |n+1,k,i+1=>by rw[kf,amG,LQ ops m M n (k+1) i];simp only[Nat.add_lt_add_iff_right];rw[show k+1+i=k+(i+1) by omega]
theorem C5{L:Nat}:∀(A:amT Nat)(k i:Nat),i∈pP A L k↔k<=i/\Nat.testBit L i=false/\∃a,A[i-k]?=some a/\L&&&a=a
 |[],k,i=>by simp [pP]
 |a::A,k,i=>by
  have ih:=C5 (L:=L) A (k+1) i;unfold pP;have key:i∈pP A L (k+1)↔k<i/\Nat.testBit L i=false/\∃b,(a::A)[i-k]?=some b/\L&&&b=b:=by
   rw[ih];constructor
   ·rintro⟨h1,h2,b,h3,h4⟩;refine⟨h1,h2,b,?_,h4⟩;rw[show i-k=(i-(k+1))+1 by omega,amG];exact h3
   ·rintro⟨h1,h2,b,h3,h4⟩;refine⟨h1,h2,b,?_,h4⟩;rw[show i-k=(i-(k+1))+1 by omega,amG]at h3;exact h3
  cases hb:(!(Nat.testBit L k)&&(L&&&a==a))with
  |true=>
   simp only[cond_true,amz,key];simp only[al7,Bool.not_eq_true',beq_iff_eq]at hb;constructor
   ·rintro(rfl|⟨h1,h2⟩)
    ·exact⟨amg _,hb.1,a,by simp,hb.2⟩
    ·exact⟨by omega,h2⟩
   ·rintro⟨h1,h2⟩;rcases Nat.lt_or_eq_of_le h1 with h|h
    ·exact .inr ⟨h,h2⟩
    ·exact .inl h.symm
  |false=>
   simp only[cond_false,key];constructor
   ·rintro⟨h1,h2⟩;exact⟨by omega,h2⟩
   ·rintro⟨h1,h2,b,h3,h4⟩;rcases Nat.lt_or_eq_of_le h1 with h|h
    ·exact⟨h,h2,b,h3,h4⟩
    ·subst h;simp at h3;subst h3;rw[h2]at hb;simp at hb;exact absurd h4 hb
theorem Ez{C:amT Nat}{L:Nat}:∀{r:amT Nat}{k:Nat},wV C L r=some k->k∈r/\(C.getD k 0)|||L=L
 |[],k,h=>by cases h
 |a::r,k,h=>by
  unfold wV at h;cases hb:((C.getD a 0)|||L==L)with
  |true=>rw[hb]at h;cases h;exact⟨by simp,by simpa using hb⟩
  |false=>rw[hb]at h;have:=Ez h;exact⟨ame _ this.1,this.2⟩
structure LM(ops:Array Oper)(L:Nat)(listed:Array Bool):Prop where
 sz:listed.size=ops.size
 b:∀i,Nat.testBit L i=listed.getD i false
theorem LM.set{ops:Array Oper}{L:Nat}{listed:Array Bool}(h:LM ops L listed){k:Nat}(hk:k<ops.size):LM ops (L|||(1<<<k)) (listed.setIfInBounds k true):=by
 refine⟨by simp [h.sz],λi=> ?_⟩;rw[Nat.testBit_or,Nat.one_shiftLeft,Nat.testBit_two_pow,h.b i];by_cases e:k=i
 ·subst e;have:k<listed.size:=by rw[h.sz];exact hk
  simp [this]
 ·rw[getD_set_ne false e];simp [e]
theorem LM.ready{ops:Array Oper}{L:Nat}{listed:Array Bool}(h:LM ops L listed)(i:Nat):i∈Region.ready .any ops listed↔i∈pP (nO ops 0 ops.size) L 0:=by
 rw[mem_ready,C5];simp only[Nat.zero_le,true_and,Nat.sub_zero,Bq,amp];have To:∀j,ops.size<=j->Nat.testBit L j=false:=λj hj=>by
   rw[h.b,Array.getD_eq_getD_getElem?,Array.getElem?_eq_none (by rw[h.sz];exact hj)];rfl
 constructor
 ·rintro⟨h1,o,ho,h2⟩;have hi:=(amk.1 ho).1;have hgd:listed.getD i false=false:=by
   have dY:i<listed.size:=by rw[h.sz];exact hi
   simpa [dY]using h1
  refine⟨by rw[h.b];exact hgd,_,by rw[if_pos hi],?_⟩;apply Nat.eq_of_testBit_eq;intro j;rw[Nat.testBit_and];unfold GQ;rw[ho];simp only[Ea];cases hb:(decide (j<ops.size+1)&&Am o ops.size j)with
  |false=>simp
  |true=>
   simp only[Bool.and_true];rw[al7]at hb;have hb:=hb.2;unfold Am at hb;rw[Array.any_eq_true']at hb;obtain⟨e,he,hb⟩:=hb;simp only[al7,Bool.or_eq_true,beq_iff_eq,dq]at hb;have h3:=h2 e he hb.1;have:e.on<ops.size:=by
    rcases Nat.lt_or_ge e.on ops.size with hl|hl
    ·exact hl
    ·have:=To e.on hl;rw[h.b]at this;rw[this]at h3;cases h3
   rcases hb.2 with hj|⟨_,hj⟩
   ·rw[<-hj,h.b];exact h3
   ·omega
 ·rintro⟨h1,a,ha,h2⟩;split at ha
  ·next hi=>
   cases ha
   have ho:ops[i]?=some ops[i]:=amr hi;refine⟨?_,ops[i],ho,λe he qm=> ?_⟩
   ·rw[h.b]at h1;have dY:i<listed.size:=by rw[h.sz];exact hi
    simpa [dY]using h1
   ·have kr:∀j,j<ops.size+1->Am ops[i] ops.size j=true->Nat.testBit L j=true:=λj hj hf=>by
     have:=congrArg (λn=>Nat.testBit n j) h2;simp only[Nat.testBit_and]at this;unfold GQ at this;rw[ho]at this;simp only[Ea]at this;rw[hf]at this
     simpa [hj]using this
    have Xz:∀j,(e.on==j||(j==ops.size&&cq ops.size e.on))=true->Am ops[i] ops.size j=true:=λj hj=>by
     unfold Am;rw[Array.any_eq_true'];exact⟨e,he,by rw[qm,hj];rfl⟩
    rcases Nat.lt_or_ge e.on ops.size with hl|hl
    ·rw[<-h.b];exact kr e.on (by omega) (Xz _ (by simp))
    ·have:=kr ops.size (by omega) (Xz _ (by simp [dq.2 hl]));rw[To _ (amg _)]at this;cases this
  ·cases ha
section
variable {P:amW} {ops:Array Oper} {st:Oper->St->amV St} {h0:Nat} {m:Bool} {N0:Nat} {K:St->Prop} {s0:St}
end
end Go.Proofs.YtnnapanbbbcalaaGreatDoor
namespace Go.Proofs.YtnnapanbbbcalaaGreatDoor
open Go.RowKit
inductive Ex
 |n
 |r
 |x (id:Nat)
def M3{α:Type}(n:Nat)(f:Nat->α):α:=Nat.casesOn (Nat.succ n) (f 0) f
theorem acH{α:Type}(n:Nat)(f:Nat->α):M3 n f=f n:=rfl
def AV.force{α:Type}(x:AV)(f:AV->α):α:=
 match x with
 | .d (.v (.int k (.ofNat n)))=>M3 n λn=>f (.d (.v (.int k (.ofNat n))))
 | .d (.v (.bool b))=>bif b then f (.d (.v (.bool true)))else f (.d (.v (.bool false)))
 |x=>f x
theorem AV.force_eq{α:Type}(x:AV)(f:AV->α):x.force f=f x:=by
 unfold AV.force;split
 ·rw[acH]
 ·next b=>cases b<;>rfl
 ·rfl
def JH{α:Type}:amT aq->(amT aq->α)->α
 |[],f=>f []
 |b::l,f=>JH l λr=>f (b::r)
theorem SK{α:Type}:∀(l:amT aq)(f:amT aq->α),JH l f=f l
 |[],_=>rfl
 |b::l,f=>by rw[JH,SK l]
abbrev Pw:=Bool->Nat->Code->St->amV (Ex×St)
abbrev Mr:=FuncId->amT AV->amV (amV AV)
def alT:amV (amV AV)->Bool
 |some none=>true
 |_=>false
mutual
def AV.Xp:AV->amT Nat
 | .fn _ cs=>AV.KV cs
 |_=>[]
def AV.KV:amT AV->amT Nat
 |[]=>[]
 | .ptr n _::l=>n::AV.KV l
 |x::l=>x.Xp++AV.KV l
end
def G5:amT Nat->AV->amT aq->amV (AV×amT aq)
 |[],r,h=>some (r,h)
 |b::l,r,h=>match h[b]? with
  |some (.cells cs)=>match mM cs with
   |some ds=>G5 l (r.fq b ds) ((h.map (aq.fq b ds)).set b .gone)
   |none=>none
  |_=>none
def RZ:AV->amV D
 | .d x=>some x
 |_=>none
def I4:amT AV->amV (amT D)
 |[]=>some []
 |x::l=>match RZ x,I4 l with
  |some d,some r=>some (d::r)
  |_,_=>none
def Jw:amT (amT AV)->amV (amT (amT D))
 |[]=>some []
 |x::l=>match I4 x,Jw l with
  |some d,some r=>some (d::r)
  |_,_=>none
mutual
def AV.Vx:AV->Bool
 | .vec .. =>true
 | .agg cs=>AV.I5 cs
 | .aY cs=>AV.I5 cs
 | .fn _ cs=>AV.I5 cs
 |_=>false
def AV.I5:amT AV->Bool
 |[]=>false
 |x::l=>x.Vx||AV.I5 l
end
def tC:amT Nat->AV->amT aq->AV×amT aq
 |[],r,h=>(r,h)
 |b::l,r,h=>match h[b]? with
  |some (.vec _ k cs)=>match Jw cs with
   |some xs=>bif xs.all (λc=>c.all D.Ay)then(r.dz b k xs).force λr=>JH ((h.map (aq.lE (AV.dz b k xs))).set b .gone) λh=>tC l r h else tC l r h
   |none=>tC l r h
  |_=>tC l r h
def akF(h:amT aq):amT Nat:=(List.range h.length).reverse++(List.range h.length).reverse
def J5(r:AV)(h:amT aq):amV AV:=
 match G5 r.Xp r h with
 |some (r,_)=>some (r.bz 0)
 |none=>none
def V1(r:AV)(h:amT aq):amV AV:=
 bif r.Vx then(match tC (akF h) r h with|(r,h)=>J5 r h)else J5 r h
section
variable (run:Pw) (P:amW) (Xi:Mr)
def dF(lo:Nat)(f:FuncId)(args:amT AV)(h:amT aq):amV (AV×amT aq):=
 match P.funcs[f]? with
 |some fn=>match fn.body with
  |some c=>M3 (args.length+(fn.ntmps-args.length)) λn=>match run true lo c ⟨n,lK 0 args,h⟩with
   |some (.x _,_)=>none
   |some (_,s)=>match rR P s fn.results.toList with
    |some l=>some (jO l,s.h)
    |none=>none
   |none=>none
  |none=>none
 |none=>none
end
section
variable {run:Pw} {P:amW} {Xi:Mr} {lo:Nat} {s s':St}
end
mutual
theorem AS(m:Nat):∀x:AV,x.aG m=true->x.bz m=x
 | .own n xs,h=>by
   rw[AV.aG]at h;rw[AV.bz];cases e:cq m n with
   |true=>rw[e]at h;cases h
   |false=>rfl
 | .agg cs,h=>by rw[AV.aG]at h;rw[AV.bz,FZ m cs h]
 | .aY cs,h=>by rw[AV.aG]at h;rw[AV.bz,FZ m cs h]
 | .fn f cs,h=>by rw[AV.aG]at h;rw[AV.bz,FZ m cs h]
 | .d _,_=>by simp only[AV.bz]
 | .ptr ..,_=>by simp only[AV.bz]
 | .bp ..,_=>by simp only[AV.bz]
 | .full _,_=>by simp only[AV.bz]
 | .row ..,_=>by simp only[AV.bz]
 | .mp _,_=>by simp only[AV.bz]
 | .cp _,_=>by simp only[AV.bz]
 | .vec ..,_=>by simp only[AV.bz]
 | .dD ..,_=>by simp only[AV.bz]
 | .hid _,_=>by simp only[AV.bz]
 | .dead,_=>by simp only[AV.bz]
theorem FZ(m:Nat):∀l:amT AV,AV.ky m l=true->AV.pH m l=l
 |[],_=>by simp [AV.pH]
 |x::l,h=>by
  rw[AV.ky,al7]at h;rw[AV.pH,AS m x h.1,FZ m l h.2]
end
theorem aeo{m:Nat}{B:aq}(h:B.aG m=true):B.bz m=B:=by
 cases B with
 |cells cs=>
  simp only[aq.aG,amv]at h;simp only[aq.bz]
  congr 1
  exact(amA λx hx=>AS m x (h x hx)).trans (List.map_id _)
 |lp ls p as bd cs=>
  simp only[aq.aG,amv]at h;simp only[aq.bz]
  congr 1
  exact(amA λx hx=>AS m x (h x hx)).trans (List.map_id _)
 |it sn cs=>
  simp only[aq.aG,amv]at h;simp only[aq.bz]
  congr 1
  exact(amA λx hx=>AS m x (h x hx)).trans (List.map_id _)
 |eR T0 cs=>
  simp only[aq.aG,amv]at h;simp only[aq.bz]
  congr 1
  exact(amA λx hx=>AS m x (h x hx)).trans (List.map_id _)
 |vec e k cs=>
  simp only[aq.aG,amv]at h;simp only[aq.bz]
  congr 1
  exact(amA λx hx=>(amA λy hy=>AS m y (h x hx y hy)).trans (List.map_id _)).trans (List.map_id _)
 |front e k len=>rfl
 |iy e b=>rfl
 |map kv=>rfl
 |iC kv=>rfl
 |gone=>rfl
theorem Qp{m:Nat}{h:amT aq}(e:h.all (aq.aG m)=true):h.map (aq.bz m)=h:=
 (amA λB hB=>aeo (amv.1 e B hB)).trans (List.map_id _)
end Go.Proofs.YtnnapanbbbcalaaGreatDoor
namespace Go.Proofs.YtnnapanbbbcalaaGreatDoor
open Go.RowKit
section
variable {P:amW} {r:amV Nat} {n N0:Nat} {G:Gh} {w:amY} {a:Act} {s:St} {o:Oper} {Q:Exit->St->Prop}
end
theorem cZ.cut{P:amW}{f:FuncId}{args:amT AV}{h h':amT aq}{r:AV}(m:Nat)(hc:cZ P f args h λr1 h1=>r1=r/\h1=h')(h1:h.length<=m)(h2:m<=h'.length)(hb:(((h'.take m).map (aq.bz m)).all (aq.aG m))=true)(hr:(r.bz m).aG m=true):
 cZ P f args h λr1 h1=>r1=r.bz m/\h1=(h'.take m).map (aq.bz m):=by
 refine⟨hc.1,λG w vs hi hl hv=>(hc.2 G w vs hi hl hv).mono λe w' hp=> ?_⟩;obtain⟨v,G',_,_,rfl,hE,hN,dY,Nf,rfl,rfl⟩:=hp;exact⟨v,G'.cut m,_,_,rfl,hE.trans (pE _ _ _ _),by rw[<-hi.len];exact h1,MV dY h2 hb,(Nf.bz m).cut hr,rfl,rfl⟩
section
variable {run:Pw} {P:amW} {Xi:Mr} {lo:Nat} {s s':St}
theorem cZ.VB{f:FuncId}{args:amT AV}{h0 h h2:amT aq}{r r2:AV}{tl:amT (Nat×AV)}(hc:cZ P f args h0 λr1 h1=>r1=r/\h1=h)
 (hT:∀(G:Gh)(w:amY)(a:Act),c8 G w a ⟨1,[(0,r)],h⟩->∃G',bN G.N G w G' w/\G'.N=G.N/\c8 G' w a ⟨1,(0,r2)::tl,h2⟩):cZ P f args h0 λr1 h1=>r1=r2/\h1=h2:=by
 refine⟨hc.1,λG w vs hi hl hv=>(hc.2 G w vs hi hl hv).mono λe w' hp=> ?_⟩;obtain⟨v,G',_,_,rfl,hE,hN,dY,Nf,rfl,rfl⟩:=hp;obtain⟨G2,e1,e2,e3⟩:=hT G' w' {tmps:= #[v],defers:=[]} ⟨rfl,λi=>by
  show aH G' w' _ (bq [(0,_)] i);rw[kZ];split
  ·next ei=>subst ei;exact Nf
  ·exact .dead _,dY,rb.nil _ _⟩
 exact⟨v,G2,r2,h2,rfl,hE.trans (e1.less hN),by rw[e2];exact hN,e3.inv,e3.tmp 0,rfl,rfl⟩
theorem Tz{f:FuncId}{args:amT AV}{h0:amT aq}:∀(l:amT Nat){h h2:amT aq}{r r2:AV},(cZ P f args h0 λr1 h1=>r1=r/\h1=h)->G5 l r h=some (r2,h2)->cZ P f args h0 λr1 h1=>r1=r2/\h1=h2
 |[],h,h2,r,r2,hc,e=>by cases e;exact hc
 |b::l,h,h2,r,r2,hc,e=>by
  unfold G5 at e;split at e
  ·next cs e1=>
   split at e
   ·next ds e2=>
    refine Tz l (cZ.VB (tl:=[]) hc λG w a hs=> ?_) e;refine hs.vM (b:=b) ?_;simp only[Go.Proofs.YtnnapanbbbcalaaGreatDoor.vM,e1,e2];rfl
   ·cases e
  ·cases e
theorem Sq:∀{l:amT AV}{ds:amT D},I4 l=some ds->l=ds.map AV.d
 |[],ds,h=>by cases h;rfl
 |x::l,ds,h=>by
  unfold I4 at h;split at h
  ·next d r e1 e2=>
   cases h
   rw[Sq e2];cases x<;>simp [RZ]at e1
   subst e1;rfl
  ·cases h
theorem Rn:∀{l:amT (amT AV)}{xs:amT (amT D)},Jw l=some xs->l=cg xs
 |[],xs,h=>by cases h;rfl
 |x::l,xs,h=>by
  unfold Jw at h;split at h
  ·next d r e1 e2=>cases h;rw[Rn e2,Sq e1];rfl
  ·cases h
theorem Da{f:FuncId}{args:amT AV}{h0:amT aq}:∀(l:amT Nat){h:amT aq}{r:AV},(cZ P f args h0 λr1 h1=>r1=r/\h1=h)->cZ P f args h0 λr1 h1=>r1=(tC l r h).1/\h1=(tC l r h).2
 |[],h,r,hc=>hc
 |b::l,h,r,hc=>by
  unfold tC;split
  ·next e k cs e1=>
   split
   ·next xs e2=>
    rw[AV.force_eq,SK,cond_eq_ite];split
    ·next h1=>
     refine Da l (cZ.VB (tl:=[]) hc λG w a hs=> ?_);have e3:=Rn e2;exact hs.Zk xs (by show h[b]?=_;rw[e1,e3]) (λc hc=>amv.1 h1 c hc)
    ·exact Da l hc
   ·exact Da l hc
  ·exact Da l hc
theorem K5{f:FuncId}{args:amT AV}{h:amT aq}{r r2:AV}(hc:cZ P f args [] λr1 h1=>r1=r/\h1=h)(e:V1 r h=some r2)(hb:r2.aG 0=true):ga P f args (·=r2):=by
 have fin:∀{r:AV}{h:amT aq},(cZ P f args [] λr1 h1=>r1=r/\h1=h)->(r.bz 0).aG 0=true->ga P f args (·=r.bz 0):=λhc hb=>
  (hc.cut 0 (amg _) (Nat.zero_le _) (by simp) hb).mono λr1 h1 ⟨k1,k2⟩=>⟨by simpa using k2,k1⟩
 have gen:∀{r:AV}{h:amT aq},(cZ P f args [] λr1 h1=>r1=r/\h1=h)->J5 r h=some r2->ga P f args (·=r2):=λhc e=>by
  unfold J5 at e;split at e
  ·next r3 h3 e1=>
   cases e
   exact fin (Tz _ hc e1) hb
  ·cases e
 unfold V1 at e;rcases ajz e with⟨_,e⟩|⟨_,e⟩
 ·exact gen (Da _ hc) e
 ·exact gen hc e
end
theorem T6:∀(H' H e:amT aq),H'.length=H.length->hX (List.range H.length) H' (H++e)=H'++e:=by
 intro H' H e hl;have gen:∀(n:Nat)(a b B r:amT aq),b.length=n->B.length=n->hX ((List.range n).map (a.length+·)) B (a++(b++r))=a++(B++r):=by
  intro n
  induction n with
  |zero=>intro a b B r hb hB;rw[List.length_eq_zero_iff.1 hb,List.length_eq_zero_iff.1 hB];simp [hX]
  |succ n ih=>
   intro a b B r hb hB;cases b with
   |nil=>simp at hb
   |cons b0 b=>
    cases B with
    |nil=>simp at hB
    |cons B0 B=>
     rw[List.range_succ_eq_map,amu,List.map_map,hX];have e1:(a++(b0::b++r)).set (a.length+0) B0=(a++[B0])++(b++r):=by
       rw[Nat.add_zero,List.set_append_right _ _ (amg _),Nat.sub_self];simp
     have e2:(λx=>a.length+x)∘Nat.succ=λx=>(a++[B0]).length+x:=by
      funext x
      simp only[Function.comp_apply,al6,al8,amh];omega
     rw[e1,e2,ih (a++[B0]) b B r (by simpa using hb) (by simpa using hB)];simp
 have:=gen H.length [] H H' e rfl hl
 simpa using this
theorem I3{P:amW}{k:Nat}{x:AV}{H:amT aq}{C:Bool->amT aq->Prop}(hy:YS P k x H C)(e:amT aq)(hb:H.all (aq.aG H.length)=true)(hx:x.aG H.length=true)
 (hC:∀b h',C b h'->h'.length=H.length/\h'.all (aq.aG H.length)=true):YS P k x (H++e) λb h'=>∃H',C b H'/\h'=H'++e:=by
 intro G w v r n hi hv;have vc:∀i,i<H.length->rn (List.range H.length) (H++e).length i=i:=λi h=>zh (List.range H.length) _ i i (by rw[List.getElem?_range h]);have Gk:∀y:AV,y.aG H.length=true->y.aL (rn (List.range H.length) (H++e).length)=y:=λy hy=>(yN (τ:=id) vc y hy).trans (JG y);have Cc:∀B:aq,B.aG H.length=true->B.aL (rn (List.range H.length) (H++e).length)=B:=λB hB=>(Mi (τ:=id) vc B hB).trans (LV B);obtain⟨G0,cv,rY,sL,Ph⟩:=Sp (H:=H) (l:=List.range H.length) (h:=H++e) List.nodup_range (λj hj=>by have:=List.mem_range.1 hj;simp;omega) (λi j qj=>by
  obtain⟨aN,rfl⟩:i<H.length/\j=i:=by
   have h1:=(al5.1 qj).1;rw[List.length_range]at h1;rw[List.getElem?_range h1]at qj;exact⟨h1,(amo qj).symm⟩
  rw[amf aN,al9 aN,Option.map_some,Cc _ (amv.1 hb _ (List.getElem_mem aN))]) (by simp) hb hi
 obtain⟨hk,p,as,bd,fn,tm,D,h1,h2⟩:=hy G0 w v r n rY (aH.sP sL (by rw[Gk x hx];exact hv) x rfl (by rw[cv];exact hx));have ic:k<H.length:=cv▸hk;have gr:G.aR k=G0.aR k:=by
  have:=sL.aR k hk
  rwa [vc k ic]at this
 refine⟨by have:=sL.lt k hk;rwa [vc k ic]at this,p,as,bd,fn,tm,D,by rw[gr];exact h1,?_⟩;rw[gr];refine h2.mono λe1 w' hp=> ?_;obtain⟨b,G1,H',rfl,hE,fU,jP,hc⟩:=hp;rw[cv]at hE fU;obtain⟨G2,a1,a2,a3,_⟩:=Ph G1 w' H' hE fU jP;obtain⟨c1,c2⟩:=hC b H' hc;refine⟨b,G2,H'++e,rfl,a1,a2,?_,H',hc,rfl⟩;have hm:H'.map (aq.aL (rn (List.range H.length) (H++e).length))=H':=(amA λB hB=>Cc B (amv.1 c2 B hB)).trans (List.map_id _);rw[hm,T6 H' H e c1]at a3;exact a3
def lG(P:amW)(k:Nat):amT AV->(Bool->amT aq->Prop)->amT aq->Prop
 |[],C,h=>C true h
 |x::l,C,h=>YS P k x h λb h1=>(h1.length=h.length/\h1.all (aq.aG h.length)=true)/\bif b then lG P k l C h1 else C false h1
theorem RS{P:amW}{k:Nat}:∀(l:amT AV){C C':Bool->amT aq->Prop}{h:amT aq},(∀b h1,C b h1->C' b h1)->lG P k l C h->lG P k l C' h
 |[],_,_,_,hc,hs=>hc _ _ hs
 |x::l,C,C',h,hc,hs=>YS.mono hs λb h1 ⟨h2,h3⟩=>⟨h2,by
  cases b with
  |true=>exact RS l hc h3
  |false=>exact hc _ _ h3⟩
theorem RW{P:amW}{k:Nat}:∀(l l':amT AV){C:Bool->amT aq->Prop}{h:amT aq},lG P k (l++l') C h->lG P k l (λb h1=>bif b then lG P k l' C h1 else C false h1) h
 |[],_,_,_,hs=>hs
 |x::l,l',C,h,hs=>YS.mono hs λb h1 ⟨h2,h3⟩=>⟨h2,by
  cases b with
  |true=>exact RW l l' h3
  |false=>exact h3⟩
def ot(h h1:amT aq):Prop:=h1.length=h.length/\h1.all (aq.aG h.length)=true
def yK(P:amW)(gf:FuncId)(dg:amT AV)(xs:amT AV):Prop:=
 ∀(k:Nat)(h:amT aq)(C:Bool->amT aq->Prop),h.all (aq.aG h.length)=true->k<h.length->lG P k xs C h->cZ P gf (.cp k::dg) h λ_ h1=>∃b,C b h1
def W6(P:amW)(T:TypeId):amT AV:=match iz P T with|some z=>z.cells.toList.map λu=> .d (.v u)|none=>[]
section
variable {P:amW} {r:amV Nat} {N0:Nat} {Q:Exit->St->Prop} {ops:Array Oper} {o o1 o2 o3 o4 o5:Oper} {s:St} {K:St->Prop} {id:Nat}
theorem bO{rest:amT Oper}(hg:o.guard=none)(h:oz P o (sH P ops rest K) s):sH P ops (o::rest) K s:=by
 unfold sH iT;rw[hg];exact h
theorem Aa{n d:Nat}{t:amT (Nat×AV)}{h h':amT aq}{x:AV}{hd:HD}(hx:l5 P o.op (ev ⟨n,t,h⟩) h=some (x,hd))(jW:o.dst=some d)(hn:Nat.ble n d=false)(he:hd.app h=h')(hK:K ⟨n,(d,x)::t,h'⟩):oz P o K ⟨n,t,h⟩:=by
 refine .inr (.inr (.inl (Zv hx ?_)));show K ((St.wh ⟨n,t,h⟩ (hd.app h)).put o.dst x);rw[jW,he];have aN:d<n:=Nat.lt_of_not_le λhle=>by rw[Nat.ble_eq_true_of_le hle]at hn;cases hn
 rw[qd (s:=St.wh ⟨n,t,h⟩ h') aN];exact hK
theorem cN{n d:Nat}{t:amT (Nat×AV)}{h:amT aq}{x:AV}(hx:l5 P o.op (ev ⟨n,t,h⟩) h=some (x, .same))(jW:o.dst=some d)(hn:Nat.ble n d=false)(hK:K ⟨n,(d,x)::t,h⟩):oz P o K ⟨n,t,h⟩:=Aa hx jW hn rfl hK
theorem NA{n:Nat}{t:amT (Nat×AV)}{h h':amT aq}{x:AV}{hd:HD}(hx:l5 P o.op (ev ⟨n,t,h⟩) h=some (x,hd))(jW:o.dst=none)(he:hd.app h=h')(hK:K ⟨n,t,h'⟩):oz P o K ⟨n,t,h⟩:=by
 refine .inr (.inr (.inl (Zv hx ?_)));show K ((St.wh ⟨n,t,h⟩ (hd.app h)).put o.dst x);rw[jW,he];exact hK
theorem acb{h l:amT aq}{i off:Nat}{cs:amT AV}(hi:l[i]?=some (.cells cs)):wO (h++l) (.ptr (h.length+i) off)=some (cs,off):=by
 unfold wO;simp only;rw[aml (amK _ _),Nat.add_sub_cancel_left,hi]
theorem wN{ρ:Operand->AV}{h l:amT aq}{T:TypeId}{p:Operand}{i off:Nat}{cs:amT AV}{x:AV}(hp:ρ p= .ptr (h.length+i) off)(hi:l[i]?=some (.cells cs))(hl:Ab P T cs off=some x):l5 P (.load T p) ρ (h++l)=some (x, .same):=by
 unfold l5;simp only[hp,acb hi,hl,pX]
theorem QU{ρ:Operand->AV}{h l:amT aq}{T:TypeId}{y:Operand}{v:AV}(hv:ρ y=v)(hb:v.jz=true):l5 P (.box T y) ρ (h++l)=some (.ptr (h.length+l.length) 0, .push (.cells v.cells)):=by
 subst hv;unfold l5;simp only[hb,cond_true,al6]
theorem M9{ρ:Operand->AV}{h l:amT aq}{T:TypeId}(hz:(iz P T).isSome=true):l5 P (.alloc T) ρ (h++l)=some (.ptr (h.length+l.length) 0, .push (.cells (W6 P T))):=by
 unfold l5 W6;cases e:iz P T with
 |none=>rw[e]at hz;cases hz
 |some z=>simp only[e,al6]
theorem CF{h l:amT aq}{B:aq}:(HD.push B).app (h++l)=h++(l++[B]):=by simp [HD.app]
theorem LI{ρ:Operand->AV}{h l:amT aq}{T:TypeId}{p y:Operand}{i off k:Nat}{cs:amT AV}{v:AV}(hp:ρ p= .ptr (h.length+i) off)(hi:l[i]?=some (.cells cs))(hk:gu P T=some k)(hv:ρ y=v)(hb:(k==v.cells.length&&v.jz&&cq (off+v.cells.length) cs.length)=true){cD:amT AV}(gO:iM cs off v.cells=cD):
 l5 P (.store T p y) ρ (h++l)=some (.d (.v undef), .set (h.length+i) (.cells cD)):=by
 subst hv gO;unfold l5;simp only[hp,hk];rw[aml (amK _ _),Nat.add_sub_cancel_left,hi];simp only[hb,cond_true]
theorem Me{ρ:Operand->AV}{h:amT aq}{T:TypeId}{a i:Operand}{xs:amT (amT D)}{q e k:Nat}{c:amT D}(hx:ρ a= .d (.sl xs))(hi:ρ i= .d (.v (.int .i64 (Int.ofNat q))))(hT:eX P T=some (e,k))(hc:xs[q]?=some c)(hk:(c.length==k)=true):l5 P (.indexAddr T a i) ρ h=some (.bp [c] 0 0, .same):=by
 unfold l5;simp only[hx,hi];unfold HJ;simp only[hT,AV.fE,AV.int?,zN,hc,hk,cond_true,pX]
theorem OE{h l:amT aq}{B:aq}{i:Nat}:(HD.set (h.length+i) B).app (h++l)=h++l.set i B:=by
 simp only[HD.app];rw[List.set_append_right _ _ (amK _ _),Nat.add_sub_cancel_left]
theorem Ge{n d:Nat}{t:amT (Nat×AV)}{h:amT aq}{T:TypeId}{x y:Operand}{p:TypeId}{xs:amT (amT D)}{q:TypeId×Nat}(ho:o.op= .binOp .eql T x y p)(hx:(ev ⟨n,t,h⟩ x).fE=some xs)(hy:ev ⟨n,t,h⟩ y= .d (.v (.slice none 0 0)))(hT:eX P T=some q)(jW:o.dst=some d)(hn:Nat.ble n d=false)
 (h1:xs=[]->K ⟨n,(d, .d (.v (.bool true)))::t,h⟩) (h2:K ⟨n,(d, .d (.v (.bool false)))::t,h⟩):oz P o K ⟨n,t,h⟩:=by
 refine .inr (.inl ?_);have aN:d<n:=Nat.lt_of_not_le λhle=>by rw[Nat.ble_eq_true_of_le hle]at hn;cases hn
 unfold CU;simp only[ho,hx,hy,hT,vp,jW,qd (s:=⟨n,t,h⟩) aN];exact⟨h1,h2⟩
theorem xS{n d k:Nat}{t:amT (Nat×AV)}{h:amT aq}{c:Call}{f:Operand}{x:AV}(ho:o.op= .call c)(hc:c.callee= .value f)(hf:ev ⟨n,t,h⟩ f= .cp k)(hx:c.args.toList.map (ev ⟨n,t,h⟩)=[x])(jW:o.dst=some d)(hn:Nat.ble n d=false)
 (hy:YS P k x h λb h'=>K ⟨n,(d, .d (.v (.bool b)))::t,h'⟩):oz P o K ⟨n,t,h⟩:=by
 refine .inr (.inr (.inr (.inl ?_)));unfold F2;simp only[ho,hc,hf,hx];refine hy.mono λb h' hK=> ?_;have aN:d<n:=Nat.lt_of_not_le λhle=>by rw[Nat.ble_eq_true_of_le hle]at hn;cases hn
 rw[jW,qd (s:=St.wh ⟨n,t,h⟩ h') aN];exact hK
theorem EU{n:Nat}{t:amT (Nat×AV)}{h:amT aq}{c:Call}{f:Operand}{g:FuncId}{dg:amT AV}(ho:o.op= .call c)(hc:c.callee= .value f)(hf:ev ⟨n,t,h⟩ f= .fn g dg)
 (hA:cZ P g (c.args.toList.map (ev ⟨n,t,h⟩)++dg) h λx h'=>K ((St.wh ⟨n,t,h⟩ h').put o.dst x)):oz P o K ⟨n,t,h⟩:=by
 refine .inr (.inr (.inl ?_));unfold qK cW;simp only[ho,hc,hf];exact hA
end
theorem akU{P:amW}{f:FuncId}{args:amT AV}{H:amT aq}{K:AV->amT aq->Prop}(hc:cZ P f args H K)(e:amT aq)(hb:H.all (aq.aG H.length)=true)(ha:args.all (AV.aG H.length)=true)
 (hK:∀r h',K r h'->h'.length=H.length/\h'.all (aq.aG H.length)=true/\r.aG H.length=true):cZ P f args (H++e) λr h'=>∃H',K r H'/\h'=H'++e:=by
 have vc:∀i,i<H.length->rn (List.range H.length) (H++e).length i=i:=λi h=>zh (List.range H.length) _ i i (by rw[List.getElem?_range h]);have Gk:∀y:AV,y.aG H.length=true->y.aL (rn (List.range H.length) (H++e).length)=y:=λy hy=>(yN (τ:=id) vc y hy).trans (JG y);have Cc:∀B:aq,B.aG H.length=true->B.aL (rn (List.range H.length) (H++e).length)=B:=λB hB=>(Mi (τ:=id) vc B hB).trans (LV B);have:=hc.Q0 (l:=List.range H.length) (h:=H++e) List.nodup_range (λj hj=>by have:=List.mem_range.1 hj;simp;omega) (λi j qj=>by
  obtain⟨aN,rfl⟩:i<H.length/\j=i:=by
   have h1:=(al5.1 qj).1;rw[List.length_range]at h1;rw[List.getElem?_range h1]at qj;exact⟨h1,(amo qj).symm⟩
  rw[amf aN,al9 aN,Option.map_some,Cc _ (amv.1 hb _ (List.getElem_mem aN))]) (by simp) ha hb
 have ea:args.map (AV.aL (rn (List.range H.length) (H++e).length))=args:=(amA λx hx=>Gk x (amv.1 ha x hx)).trans (List.map_id _);rw[ea]at this;refine this.mono λr' h' ⟨r,H',k1,k2,k3⟩=> ?_;obtain⟨c1,c2,c3⟩:=hK r H' k1;have hm:H'.map (aq.aL (rn (List.range H.length) (H++e).length))=H':=(amA λB hB=>Cc B (amv.1 c2 B hB)).trans (List.map_id _);rw[hm,T6 H' H e c1]at k3;rw[Gk r c3]at k2;exact⟨H',by rw[k2];exact k1,k3⟩
theorem aeq{h:amT aq}{p:AV}{K K':amT AV->Nat->Prop}(hk:∀cs off,K cs off->K' cs off)(hp:sR h p K):sR h p K':=by
 unfold sR at hp ⊢;split at hp
 ·next n off=>
  split at hp
  ·next cs e=>(try simp only[e]);exact hk _ _ hp
  ·exact hp.elim
 ·next xs i off=>
  split at hp
  ·next cs e=>(try simp only[e]);exact hk _ _ hp
  ·exact hp.elim
 ·exact hp.elim
theorem alC{P:amW}{T:TypeId}{h:amT aq}{p:AV}{K K':AV->Prop}(hk:∀x,K x->K' x)(hp:n8 P T h p K):n8 P T h p K':=
 aeq (λcs off hc=>by
  split at hc
  ·next k e1 e2=>
   try simp only[e1,e2]
   exact bV.2 ⟨(bV.1 hc).1,hk _ (bV.1 hc).2⟩
  ·next k e1 e2=>
   try simp only[e1,e2]
   split at hc
   ·next c e3=>(try simp only[e3]);exact hk _ hc
   ·exact hc.elim
  ·exact hc.elim) hp
theorem air{P:amW}{fn:Func}{n:Nat}{t:amT (Nat×AV)}{H l:amT aq}{K:AV->amT aq->Prop}(hb:H.all (aq.aG H.length)=true)(hr:mU P ⟨n,t,H++l⟩ fn.results.toList λrs=>((jO rs).bz H.length).aG H.length=true/\K ((jO rs).bz H.length) H):qe P fn H.length K ⟨n,t,H++l⟩:=by
 have ht:(((H++l).take H.length).map (aq.bz H.length))=H:=by rw[List.take_left];exact Qp hb
 unfold qe;show mU P ⟨n,t,H++l⟩ fn.results.toList λrs=>H.length<=(H++l).length/\_;simp only[ht];have gen:∀(rv:amT ResultVar){C C':amT AV->Prop},(∀x,C x->C' x)->mU P ⟨n,t,H++l⟩ rv C->mU P ⟨n,t,H++l⟩ rv C':=by
  intro rv
  induction rv with
  |nil=>intro C C' hc h;exact hc _ h
  |cons x rv ih=>
   intro C C' hc h;cases x with
   |tmp t=>exact ih (λy hy=>hc _ hy) h
   |cell p t=>exact alC (λx h=>ih (λy hy=>hc _ hy) h) h
 exact gen _ (λrs ⟨h1,h2⟩=>⟨by simp,h1,hb,h2⟩) hr
theorem yn{n:Nat}{t:amT (Nat×AV)}{H l:amT aq}(live:amT Nat)(hb:H.all (aq.aG H.length)=true):(⟨n,t,H++l⟩:St).mask live H.length=⟨n,live.map λk=>(k,(bq t k).bz H.length),H⟩:=by
 unfold St.mask;rw[show((H++l).take H.length).map (aq.bz H.length)=H by rw[List.take_left];exact Qp hb]
theorem zd{n:Nat}{t:amT (Nat×AV)}{H l:amT aq}(live:amT Nat)(hb:H.all (aq.aG H.length)=true)(hl:(live.all λk=>((bq t k).bz H.length).aG H.length)=true):(⟨n,t,H++l⟩:St).A3 live H.length:=
 ⟨by simp,hl,by rw[show((H++l).take H.length).map (aq.bz H.length)=H by rw[List.take_left];exact Qp hb];exact hb⟩
theorem Fv{n:Nat}{t:amT (Nat×AV)}{H:amT aq}(live:amT Nat)(hb:H.all (aq.aG H.length)=true):(⟨n,t,H⟩:St).mask live H.length=⟨n,live.map λk=>(k,(bq t k).bz H.length),H⟩:=by
 have:=yn (n:=n) (t:=t) (l:=[]) live hb
 rwa [amq]at this
theorem Ih{n:Nat}{t:amT (Nat×AV)}{H:amT aq}(live:amT Nat)(hb:H.all (aq.aG H.length)=true)(hl:(live.all λk=>((bq t k).bz H.length).aG H.length)=true):(⟨n,t,H⟩:St).A3 live H.length:=by
 have:=zd (n:=n) (t:=t) (l:=[]) live hb hl
 rwa [amq]at this
theorem AY{k m:Nat}(h:k<m):((AV.cp k).bz m).aG m=true:=by simp [AV.bz,AV.aG,cq];omega
structure uZ(s:St)(m:Nat)(s':St):Prop where
 cut:∀{G:Gh}{w:World}{a:Act},c8 G w a s->c8 (G.cut m) w a s'
theorem uZ.S{s s':St}{live:amT Nat}{m:Nat}(h:jU s live m=some s'):uZ s m s':=⟨λhs=>hs.jU h⟩
theorem aid{P:amW}{r:amV Nat}{N0 m:Nat}{c:Code}{s:St}{R R':Exit->St->Prop}(hm:N0<=m)(h:bB P r N0 c R s)(hR:∀e s2,R e s2->∃s',uZ s2 m s'/\R' e s'):bB P r N0 c R' s:=by
 constructor
 intro G w a n hs hN;refine wpIn_mono (h.run G w a n hs hN) λe a1 w1 hn=> ?_;obtain⟨G1,s1,hE,_,eV,hq⟩:=hn;obtain⟨s',k1,k2⟩:=hR e s1 hq;exact⟨G1.cut m,s',hE.trans (pE _ _ _ _),hm,k1.cut eV,k2⟩
def CI(m:Nat)(n:Nat)(T:amT (Nat×AV))(LP:aq)(next:amT aq->Prop)(Q:Exit->St->Prop)(e:Exit)(s:St):Prop:=
 ∃hs,hs.length=m/\hs.all (aq.aG (m+1))=true/\uZ s (m+1) ⟨s.n,[],hs++[LP]⟩/\match e with
  | .normal=>next hs
  | .ret=>Q .ret ⟨n,T,hs++[.gone]⟩
  | .exit i=>Q (.exit i) ⟨n,T,hs++[.gone]⟩
  |_=>False
theorem xm{P:amW}{N0 n m:Nat}{T:amT (Nat×AV)}{H:amT aq}{Q:Exit->St->Prop}{g:Operand}{p:Nat}{as bd:Code}{gf:FuncId}{dg:amT AV}(hg:ev ⟨n,T,H⟩ g= .fn gf dg){α:Type}{enc:α->AV}{xs:amT α}(hI:yK P gf dg (xs.map enc))
 {ι:Type} (Hs:ι->amT aq) (I:ι->amT α->Prop) (i0:ι) (h0:H=Hs i0) (rY:I i0 xs) (hl:∀i,(Hs i).length=m) (j5:∀i,(Hs i).all (aq.aG (m+1))=true) (hT:(dt n T).all (AV.aG (m+1))=true) (hp:Nat.ble n p=false)
 (round:∀i x l,I i (x::l)->∀(rr:Nat)(a b:Code),bB P (some rr) (m+1) as (ig (λs1=>∃hs e,hs.length=m/\s1.h=hs++ .lp .ready p a b (dt n T)::e/\
  bB P (some rr) (m+1) bd (CI m n T (.lp .busy p a b (dt n T)) (λcM=>∃i',cM=Hs i'/\I i' l) Q) ⟨s1.n,s1.t,hs++ .lp .busy p a b (dt n T)::e⟩) (λ_ _=>False)) ⟨n,(p,enc x)::lK 0 (dt n T),Hs i++[.lp .ready p a b (dt n T)]⟩)
 (done:∀i,I i []->Q .normal ⟨n,T,Hs i++[.gone]⟩):bB P none N0 (.rangeFunc g #[p] as bd) Q ⟨n,T,H⟩:=by
 subst h0;have hm:(Hs i0).length=m:=hl i0;have SZ:(dt n T).length=n:=by simp [dt]
 have IJ:∀ls,(aq.lp ls p as bd (dt n T)).aG (m+1)=true:=λls=>hT;refine ai1 hg ?_;show cZ P gf (.cp (Hs i0).length::dg) (Hs i0++[.lp .ready p as bd (dt n T)]) _;have JI:∀(hs:amT aq)(B B':aq),hs.length=m->(hs++[B]).set m B'=hs++[B']:=λhs B B' h=>by
  rw[List.set_append_right _ _ (Nat.le_of_eq h),h,Nat.sub_self];rfl
 have eG:∀(hs:amT aq)(B:aq)(e:amT aq),hs.length=m->(hs++B::e)[m]?=some B:=λhs B e h=>by
  rw[aml (Nat.le_of_eq h),h,Nat.sub_self];rfl
 have seq:∀(l:amT α)(i:ι),I i l->lG P m (l.map enc) (λb h1=>∃(hs:amT aq)(ls:LS),hs.length=m/\h1=hs++[.lp ls p as bd (dt n T)]/\Nc P N0 Q ⟨n,T,hs++[.gone]⟩ ls) (Hs i++[.lp .ready p as bd (dt n T)]):=by
  intro l
  induction l with
  |nil=>intro i hi;exact⟨Hs i, .ready,hl i,rfl,done i hi⟩
  |cons x l ih=>
   intro i hi;have hlen:(Hs i++[aq.lp .ready p as bd (dt n T)]).length=m+1:=by simp [hl i]
   refine afA ⟨p,as,bd,dt n T,eG _ _ [] (hl i),?_,λrr=> ?_⟩
   ·rw[SZ];exact Nat.lt_of_not_le λhle=>by rw[Nat.ble_eq_true_of_le hle]at hp;cases hp
   ·rw[hlen,SZ];refine(round i x l hi rr as bd).mono λe s1 eV=> ?_;cases e with
    |normal=>
     obtain⟨hs,e',k1,k2,k3⟩:=eV;refine⟨p,as,bd,dt n T,by rw[k2];exact eG _ _ _ k1,?_⟩;have hse:s1.h.set m (.lp .busy p as bd (dt n T))=hs++ .lp .busy p as bd (dt n T)::e':=by
      rw[k2,List.set_append_right _ _ (Nat.le_of_eq k1),k1,Nat.sub_self];rfl
     rw[hse];refine aid (amg _) k3 λe2 s2 hr=> ?_;obtain⟨xJ,c2,c5,c3,c4⟩:=hr;refine⟨_,c3,?_⟩;have fD:∀B,B.aG (m+1)=true->(xJ++[B]).all (aq.aG (m+1))=true:=λB hB=>by
       rw[List.all_append,c5];simp [hB]
     have Ey:(xJ++[aq.lp .busy p as bd (dt n T)])[m]?=some (.lp .busy p as bd (dt n T)):=eG _ _ [] c2;cases e2 with
     |normal=>
      obtain⟨i',rfl,dY⟩:=c4;refine⟨p,as,bd,dt n T,Ey,?_⟩;simp only[JI _ _ _ c2];exact⟨⟨by simp [hl],fD _ (IJ _)⟩,ih i' dY⟩
     |ret=>
      refine⟨p,as,bd,dt n T,Ey,?_⟩;simp only[JI _ _ _ c2];exact⟨⟨by simp [c2],fD _ (IJ _)⟩,xJ, .done .ret,c2,rfl,cU c4⟩
     |exit j=>
      refine⟨p,as,bd,dt n T,Ey,?_⟩;simp only[JI _ _ _ c2];exact⟨⟨by simp [c2],fD _ (IJ _)⟩,xJ, .done (.exit j),c2,rfl,kW c4⟩
     |_=>exact c4.elim
    |_=>exact eV.elim
 have Vj:(Hs i0++[aq.lp .ready p as bd (dt n T)]).length=m+1:=by simp [hm]
 refine(hI (Hs i0).length _ _ (by rw[Vj,List.all_append,j5 i0];simp [IJ]) (by rw[Vj,hm];exact amR m) (by rw[hm];exact seq xs i0 rY)).mono λ_ h1 hb=> ?_;obtain⟨b,hs,ls,k1,rfl,k2⟩:=hb;refine⟨ls,p,as,bd,dt n T,?_,?_⟩
 ·show(hs++[aq.lp ls p as bd (dt n T)])[(Hs i0).length]?=_;rw[hm];exact eG _ _ [] k1
 ·show Nc P N0 Q ⟨n,T,(hs++[aq.lp ls p as bd (dt n T)]).set (Hs i0).length .gone⟩ ls;rw[hm,JI _ _ _ k1];exact k2
section
variable {m n:Nat} {T:amT (Nat×AV)} {LP:aq} {next:amT aq->Prop} {Q:Exit->St->Prop} {s:St}
theorem yB(hs:amT aq)(hl:hs.length=m)(hb:hs.all (aq.aG (m+1))=true)(hc:jU s [] (m+1)=some ⟨s.n,[],hs++[LP]⟩)(hn:next hs):CI m n T LP next Q .normal s:=⟨hs,hl,hb, .S hc,hn⟩
theorem CN(hs:amT aq)(hl:hs.length=m)(hb:hs.all (aq.aG (m+1))=true)(hc:jU s [] (m+1)=some ⟨s.n,[],hs++[LP]⟩)(hq:Q .ret ⟨n,T,hs++[.gone]⟩):CI m n T LP next Q .ret s:=⟨hs,hl,hb, .S hc,hq⟩
theorem aiy{i:Nat}(hs:amT aq)(hl:hs.length=m)(hb:hs.all (aq.aG (m+1))=true)(hc:jU s [] (m+1)=some ⟨s.n,[],hs++[LP]⟩)(hq:Q (.exit i) ⟨n,T,hs++[.gone]⟩):CI m n T LP next Q (.exit i) s:=⟨hs,hl,hb, .S hc,hq⟩
end
set_option linter.unusedSimpArgs false
set_option linter.unusedVariables false
abbrev Lf:=St×amT Nat×amT (Nat×amT (In×bX))
def uG(go:Nat->amV (amT Lf)):amT Nat->amV (amT Lf)
 |[]=>some []
 |k::r=>match go k with
  |some a=>match uG go r with
   |some b=>some (a++b)
   |none=>none
  |none=>none
def xY(P:amW)(ops:Array Oper)(A C:amT Nat)(as:amT (Nat×bX)):Nat->Nat->amT Nat->amT (Nat×amT (In×bX))->St->amV (amT Lf)
 |0,L,al,acc,s=>match pP A L 0 with
  |[]=>some [(s,al,acc)]
  |_=>none
 |f+1,L,al,acc,s=>match pP A L 0 with
  |[]=>some [(s,al,acc)]
  |k0::r=>uG (λk=>match ops[k]? with
     |some o=>match nM P ops true o k as s with
      |some (s1,l)=>fN (L|||(1<<<k)) λL=>xY P ops A C as f L (al++List.replicate (s1.h.length-s.h.length) k) ((k,l)::acc) s1
      |none=>none
     |none=>none) (match wV C L (k0::r)with
      |some k=>[k]
      |none=>k0::r)
theorem R2{go:Nat->amV (amT Lf)}:∀{l:amT Nat}{ls:amT Lf},uG go l=some ls->∀k∈l,∃a,go k=some a/\∀x∈a,x∈ls
 |[],_,_,k,hk=>by cases hk
 |j::r,ls,h,k,hk=>by
  unfold uG at h;split at h
  ·next a e1=>
   split at h
   ·next b e2=>
    cases h
    rcases amz.1 hk with rfl|hk
    ·exact⟨a,e1,λx hx=>List.mem_append_left _ hx⟩
    ·obtain⟨a',e3,h3⟩:=R2 e2 k hk;exact⟨a',e3,λx hx=>List.mem_append_right _ (h3 x hx)⟩
   ·cases h
  ·cases h
section
variable {P:amW} {ops:Array Oper} {as:amT (Nat×bX)} {K:St->Prop} {s0:St}
theorem afl{o:Oper}{j:Nat}{dr:Bool}{s s1:St}{l:amT (In×bX)}(h:nM P ops dr o j as s=some (s1,l))(ho:o∈ops.toList)(hB:mY (n7 ops.toList) s0 s):mY (n7 ops.toList) s0 s1:=by
 have cI:∀{i a r l},tG i a r=some (s1,l)->∃m,r=some (s1,m):=fun{i a r l} h=>by
  unfold tG at h;split at h
  ·exact⟨_,h⟩
  ·split at h
   ·cases h;exact⟨_,rfl⟩
   ·cases h
 have cR:∀{m r l},qz m r=some (s1,l)->∃m,r=some (s1,m):=fun{m r l} h=>by
  unfold qz at h;split at h
  ·cases h;exact⟨_,rfl⟩
  ·cases h
 have XR:mY (n7 ops.toList) s0 (DQ o s):=hB.put s.h (.d (.v undef)) (FX ho);have st:∀l,ni P dr o j as s=some (s1,l)->mY (n7 ops.toList) s0 s1:=λl h=>by
  unfold ni at h;cases hd:dr&&zH (iL as (3*j+1))&& !yp o (iL as (3*j+1))with
  |true=>rw[hd]at h;cases h
  |false=>
   rw[hd]at h;simp only[cond_false]at h;split at h
   ·split at h<;>(obtain⟨m,e⟩:=cI h;cases e;exact hB.put _ _ (FX ho))
   ·cases h
 unfold nM at h;split at h
 ·exact st _ h
 ·split at h
  ·obtain⟨m,e⟩:=cR h;revert e;generalize ((_:Bool)==_)=q;intro e;cases q with
   |true=>exact st _ e
   |false=>cases e;exact XR
  ·obtain⟨m,e⟩:=cR h;cases e;exact XR
  ·cases h
theorem SP(hK:qS K)(hM:oe (Region.before ops) ops=true)(t0:amT (Nat×AV)):
 ∀(fuel L:Nat)(listed:Array Bool)(al:amT Nat)(acc:amT (Nat×amT (In×bX)))(s:St)(ls:amT Lf),LM ops L listed->Dn ops listed->xY P ops (nO ops 0 ops.size) (kf ops false (Region.before ops) 0 ops.size) as fuel L al acc s=some ls->
  (∃x,x∈ls)/\(∀x∈ls,(∀p∈acc,p∈x.2.2)/\((∃pre,s.t=pre++t0)->∃pre,x.1.t=pre++t0)/\(mY (n7 ops.toList) s0 s->mY (n7 ops.toList) s0 x.1))/\((∀x∈ls,(∀p∈x.2.2,gi P p.2)/\K x.1)->kH false P ops K fuel listed s)
 |0,L,listed,al,acc,s,ls,hL,hD,h=>by
  unfold xY at h;split at h
  ·next hr=>
   cases h
   refine⟨⟨_,amb⟩,λx hx=> ?_,λhk=>⟨?_,(hk _ amb).2⟩⟩
   ·rw[List.mem_singleton]at hx;subst hx;exact⟨λ_ h=>h,λh=>h,λh=>h⟩
   ·rw[List.eq_nil_iff_forall_not_mem];intro i hi;have:=(hL.ready i).1 hi;rw[hr]at this;cases this
  ·cases h
 |fuel+1,L,listed,al,acc,s,ls,hL,hD,h=>by
  have mem:∀{k:Nat}{o:Oper},ops[k]?=some o->o∈ops.toList:=λho=>Array.mem_toList_iff.2 (Array.mem_of_getElem? ho);unfold xY at h;split at h
  ·next hr=>
   cases h
   refine⟨⟨_,amb⟩,λx hx=> ?_,λhk=>⟨λ_=>(hk _ amb).2,λi hi=> ?_⟩⟩
   ·rw[List.mem_singleton]at hx;subst hx;exact⟨λ_ h=>h,λh=>h,λh=>h⟩
   ·have:=(hL.ready i).1 hi;rw[hr]at this;cases this
  ·next k0 r hr=>
   generalize hgo:(λk:Nat=>(match ops[k]? with
    |some o=>match nM P ops true o k as s with
     |some (s1,l)=>fN (L|||(1<<<k)) λL=>xY P ops (nO ops 0 ops.size) (kf ops false (Region.before ops) 0 ops.size) as fuel L (al++List.replicate (s1.h.length-s.h.length) k) ((k,l)::acc) s1
     |none=>none
    |none=>none:amV (amT Lf)))=go at h
   have one:∀k a,k∈Region.ready .any ops listed->go k=some a->∃o s1 l,ops[k]?=some o/\nM P ops true o k as s=some (s1,l)/\(∃x,x∈a)/\(∀x∈a,(∀p∈(k,l)::acc,p∈x.2.2)/\((∃pre,s.t=pre++t0)->∃pre,x.1.t=pre++t0)/\(mY (n7 ops.toList) s0 s->mY (n7 ops.toList) s0 x.1))/\
       ((∀x∈a,(∀p∈x.2.2,gi P p.2)/\K x.1)->∃y h1,mE false P ops o s y h1/\kH false P ops K fuel (listed.setIfInBounds k true) ((s.wh h1).put o.dst y)):=λk a tS tO=>by
    rw[<-hgo]at tO;simp only at tO;split at tO
    ·next o ho=>
     split at tO
     ·next s1 l hg=>
      rw[yT]at tO;obtain⟨h1,h2,h3⟩:=SP hK hM t0 fuel _ _ _ _ s1 a (hL.set (amk.1 ho).1) (hD.set tS) tO;refine⟨o,s1,l,ho,hg,h1,λx hx=>⟨(h2 x hx).1,fun⟨pre,hp⟩=> ?_,λhB=>(h2 x hx).2.2 (afl hg (mem ho) hB)⟩,λhk=> ?_⟩
      ·obtain⟨⟨p1,e1⟩,_⟩:=ND hg;exact(h2 x hx).2.1 ⟨p1++pre,by rw[e1,hp,amm]⟩
      ·obtain⟨x,hx⟩:=h1;have hl:gi P l:=(hk x hx).1 (k,l) ((h2 x hx).1 _ amb);have h4:=Qt (K:=(·=s1)) hg hl rfl;have h5:=h3 hk;have:∃y h1,mE false P ops o s y h1/\(s.wh h1).put o.dst y=s1:=by
        rcases GY h4 with⟨g,hd⟩|⟨g,hd⟩
        ·obtain⟨y,h1,h2,h3⟩:=GP hd;exact⟨y,h1, .inl ⟨g,h2⟩,h3⟩
        ·exact⟨_,s.h, .inr ⟨g,rfl,rfl⟩,hd⟩
       obtain⟨y,hh,q1,rfl⟩:=this;exact⟨y,hh,q1,h5⟩
     ·cases tO
    ·cases tO
   cases hf:wV (kf ops false (Region.before ops) 0 ops.size) L (k0::r)with
   |some k=>
    rw[hf]at h;obtain⟨jI,w9⟩:=Ez hf;have tS:k∈Region.ready .any ops listed:=(hL.ready k).2 (by rw[hr];exact jI);unfold uG at h;split at h
    ·next a e1=>
     unfold uG at h;simp only[amq]at h;cases h
     obtain⟨o,s1,l,ho,hg,h1,h2,h3⟩:=one k _ tS e1;refine⟨h1,λx hx=>⟨λp hp=>(h2 x hx).1 p (ame _ hp),(h2 x hx).2⟩,λhk=> ?_⟩;obtain⟨y,hh,q1,q2⟩:=h3 hk;refine HM hK hM ho fuel listed s hD (λj oj hj cQ oK rN=> ?_) tS q1 q2;have C3:=(amk.1 hj).1;have oa:=(amk.1 ho).1;have ML:Nat.testBit L j=false:=by
      rw[hL.b];have iQ:j<listed.size:=by rw[hL.sz];exact C3
      simpa [iQ]using oK
     have nj:Nat.testBit (tv ops false (Region.before ops) k) j=false:=by
      rw[<-Bool.not_eq_true];intro hc;have h5:(kf ops false (Region.before ops) 0 ops.size).getD k 0=tv ops false (Region.before ops) k:=by
        rw[List.getD_eq_getElem?_getD,LQ,if_pos oa,amp];rfl
      rw[h5]at w9;have:=congrArg (λn=>Nat.testBit n j) w9;simp only[Nat.testBit_or,hc,ML]at this;cases this
     unfold tv at nj;rw[Ea]at nj;unfold Qy at nj;rw[rN,ho,hj]at nj;simp [C3,cQ]at nj;exact nj
    ·cases h
   |none=>
    rw[hf]at h;have VR:=R2 h;have yz:k0∈Region.ready .any ops listed:=(hL.ready k0).2 (by rw[hr];simp);have back:∀(l:amT Nat)(ls:amT Lf),uG go l=some ls->∀x∈ls,∃k∈l,∃a,go k=some a/\x∈a:=by
      intro l
      induction l with
      |nil=>intro ls h x hx;cases h;cases hx
      |cons j r ih=>
       intro ls h x hx;unfold uG at h;split at h
       ·next a e1=>
        split at h
        ·next b e2=>
         cases h
         rcases amH.1 hx with hx|hx
         ·exact⟨j,amb,a,e1,hx⟩
         ·obtain⟨k,hk,a',h1,h2⟩:=ih b e2 x hx;exact⟨k,ame _ hk,a',h1,h2⟩
        ·cases h
       ·cases h
    refine⟨?_,λx hx=> ?_,λhk=>⟨λe=>(by rw[e]at yz;cases yz),λi hi oi HW=> ?_⟩⟩
    ·obtain⟨a,e1,h1⟩:=VR k0 amb;obtain⟨o,s1,l,ho,hg,⟨x,hx⟩,_⟩:=one k0 a yz e1;exact⟨x,h1 x hx⟩
    ·obtain⟨k,hk,a,e1,Yd⟩:=back _ _ h x hx;obtain⟨o,s1,l,ho,hg,h1,h2,h3⟩:=one k a ((hL.ready k).2 (by rw[hr];exact hk)) e1;exact⟨λp hp=>(h2 x Yd).1 p (ame _ hp),(h2 x Yd).2⟩
    ·have dY:i∈k0::r:=by rw[<-hr];exact(hL.ready i).1 hi
     obtain⟨a,e1,h1⟩:=VR i dY;obtain⟨o,s1,l,ho,hg,_,_,h3⟩:=one i a hi e1;rw[ho]at HW;cases HW;exact h3 λx hx=>hk x (h1 x hx)
end
def O2(k:Nat):amT Nat->Nat
 |[]=>0
 |j::l=>bif cq (j+1) k then O2 k l+1 else O2 k l
def Lz(k:Nat):amT Nat->Nat
 |[]=>0
 |j::l=>bif j==k then Lz k l+1 else Lz k l
def Lb(h0:Nat)(all:amT Nat):amT Nat->amT Nat->amT Nat
 |_,[]=>[]
 |pre,k::l=>fN (h0+O2 k all+Lz k pre) λq=>q::Lb h0 all (k::pre) l
def Se(q:Nat):amT Nat->Nat->Nat
 |[],i=>i
 |x::l,i=>bif x==q then i else Se q l (i+1)
def M0(h0:Nat)(p:amT Nat):Nat->Nat->amT Nat
 |0,_=>[]
 |n+1,q=>fN (Se q p h0) λi=>i::M0 h0 p n (q+1)
def Dg(a:Nat×amT (In×bX)):amT (Nat×amT (In×bX))->amT (Nat×amT (In×bX))
 |[]=>[a]
 |b::l=>bif cq a.1 b.1 then a::b::l else b::Dg a l
def Ei:amT (Nat×amT (In×bX))->amT (Nat×amT (In×bX))
 |[]=>[]
 |a::l=>Dg a (Ei l)
def HY:amT (Nat×amT (In×bX))->amT (In×bX)
 |[]=>[]
 |a::l=>a.2++HY l
def ry(p q:amT Nat)(h0:Nat)(h:amT aq):Nat->Nat->amT aq
 |0,_=>[]
 |n+1,i=>(match h[gx h0 q i]? with|some B=>B.aL (gx h0 p)|none=> .gone)::ry p q h0 h n (i+1)
def yj(h0:Nat)(p:amT Nat):Bool:=(List.range p.length).all λi=>p.getD i 0==h0+i
theorem agV{h0:Nat}{p:amT Nat}(h:yj h0 p=true):gx h0 p=id:=by
 funext i
 unfold gx;cases e:cq h0 i with
 |false=>rfl
 |true=>
  rw[dq]at e;simp only[cond_true,id];by_cases hi:i-h0<p.length
  ·unfold yj at h;rw[amv]at h;have:=h (i-h0) (List.mem_range.2 hi);rw[beq_iff_eq,List.getD_eq_getElem?_getD,al9 hi]at this;rw[List.getD_eq_getElem?_getD,al9 hi];simp only[Option.getD_some]at this ⊢;omega
  ·rw[List.getD_eq_getElem?_getD,amB (by omega)];rfl
def SI(keep:amT Nat)(s:St)(x:Lf)(p q:amT Nat):amV (amT (Nat×AV)×amT aq×amT (In×bX)):=
 bif (x.1.t.take (x.1.t.length-s.t.length)).all (λp=>keep.any (·==p.1)||Rz (bq s.t p.1))&&(List.range x.1.h.length).all (λi=>cq (gx s.h.length p i+1) x.1.h.length&&cq (gx s.h.length q i+1) x.1.h.length&&gx s.h.length q (gx s.h.length p i)==i&&gx s.h.length p (gx s.h.length q i)==i)
 then some (keep.map λk=>(k,(bq x.1.t k).aL (gx s.h.length p)),bif yj s.h.length p then x.1.h else ry p q s.h.length x.1.h x.1.h.length 0,HY (Ei x.2.2))else none
def F8(keep:amT Nat)(s:St)(x:Lf):amV (amT (Nat×AV)×amT aq×amT (In×bX)):=
 fL (Lb s.h.length x.2.1 [] x.2.1) λp=>fL (M0 s.h.length p p.length s.h.length) λq=>SI keep s x p q
def Fk(keep:amT Nat)(s:St):amT Lf->amV (amT (amT (Nat×AV)×amT aq×amT (In×bX)))
 |[]=>some []
 |x::l=>match F8 keep s x with
  |some a=>match Fk keep s l with
   |some b=>some (a::b)
   |none=>none
  |none=>none
def yY(P:amW)(ol:amT Oper)(as:amT (Nat×bX))(keep:amT Nat)(s:St):amV (amT (amT (Nat×AV)×amT aq×amT (In×bX))):=
 bif oe (Region.before ol.toArray) ol.toArray then fL (nO ol.toArray 0 ol.toArray.size) λA=>fL (kf ol.toArray false (Region.before ol.toArray) 0 ol.toArray.size) λC=>
  match xY P ol.toArray A C as ol.toArray.size 0 [] [] s with
  |some ls=>Fk keep s ls
  |none=>none
 else none
theorem LN{keep:amT Nat}{s:St}:∀{ls:amT Lf}{r},Fk keep s ls=some r->∀x∈ls,∃a∈r,F8 keep s x=some a
 |[],_,_,x,hx=>by cases hx
 |y::l,r,h,x,hx=>by
  unfold Fk at h;split at h
  ·next a e1=>
   split at h
   ·next b e2=>
    cases h
    rcases amz.1 hx with rfl|hx
    ·exact⟨a,amb,e1⟩
    ·obtain⟨a',h1,h2⟩:=LN e2 x hx;exact⟨a',ame _ h1,h2⟩
   ·cases h
  ·cases h
theorem Rs{a x:Nat×amT (In×bX)}:∀{l:amT (Nat×amT (In×bX))},x∈Dg a l↔x=a\/x∈l
 |[]=>by simp [Dg]
 |b::l=>by
  unfold Dg;cases cq a.1 b.1 with
  |true=>simp
  |false=>
   simp only[cond_false,amz,Rs (l:=l)];constructor
   ·rintro(h|h|h)
    ·exact .inr (.inl h)
    ·exact .inl h
    ·exact .inr (.inr h)
   ·rintro(h|h|h)
    ·exact .inr (.inl h)
    ·exact .inl h
    ·exact .inr (.inr h)
theorem Y3{x:Nat×amT (In×bX)}:∀{l:amT (Nat×amT (In×bX))},x∈Ei l↔x∈l
 |[]=>by simp [Ei]
 |a::l=>by rw[Ei,Rs,Y3 (l:=l),amz]
theorem TS{P:amW}:∀{l:amT (Nat×amT (In×bX))},gi P (HY l)->∀p∈l,gi P p.2
 |[],_,p,hp=>by cases hp
 |a::l,h,p,hp=>by
  unfold HY at h;rcases amz.1 hp with rfl|hp
  ·exact λq hq=>h q (List.mem_append_left _ hq)
  ·exact TS (λq hq=>h q (List.mem_append_right _ hq)) p hp
theorem UD{p q:amT Nat}{h0:Nat}{h:amT aq}:∀(n i j:Nat),(ry p q h0 h n i)[j]?=if j<n then some (match h[gx h0 q (i+j)]? with|some B=>B.aL (gx h0 p)|none=> .gone)else none
 |0,i,j=>by simp [ry]
 |n+1,i,0=>by simp [ry]
 |n+1,i,j+1=>by
  rw[ry,amG,UD n (i+1) j];simp only[Nat.add_lt_add_iff_right];rw[show i+1+j=i+(j+1) by omega]
theorem We{p q:amT Nat}{h0:Nat}{h:amT aq}:∀(n i:Nat),(ry p q h0 h n i).length=n
 |0,_=>rfl
 |n+1,i=>by rw[ry,al8,We n]
theorem SD{P:amW}{ops:Array Oper}{N0:Nat}{keep:amT Nat}{s:St}{x:Lf}{Δ:amT (Nat×AV)}{h':amT aq}{ps:amT (In×bX)}(h:F8 keep s x=some (Δ,h',ps))(hN:N0<=s.h.length)(pO:∀i,(bq s.t i).aG s.h.length=true)
 (hn:x.1.n=s.n) (hp:∃pre,x.1.t=pre++s.t) (bW:gi P ps):iX N0 x.1 ⟨s.n,Δ++s.t,h'⟩/\∀p∈x.2.2,gi P p.2:=by
 unfold F8 at h;rw[vK,vK]at h;generalize Lb s.h.length x.2.1 [] x.2.1=p at h;generalize M0 s.h.length p p.length s.h.length=q at h;unfold SI at h;obtain⟨hb,he⟩:=eu h;cases he
 rw[al7]at hb;obtain⟨hb,hc⟩:=hb;simp only[amv,List.mem_range,al7,beq_iff_eq,dq]at hc;have IF:∀i,i<s.h.length->gx s.h.length p i=i:=λi hi=>by
   unfold gx;have:cq s.h.length i=false:=by rw[<-Bool.not_eq_true,dq];omega
   rw[this];rfl
 refine⟨?_,λy hy=>TS bW y (Y3.2 hy)⟩;refine iX.aL (gx s.h.length p) (gx s.h.length q) hn (by
  cases yj s.h.length p with
  |true=>rfl
  |false=>exact We _ _) (λi hi=>(hc i hi).1.1.1) (λi hi=>(hc i hi).1.1.2) (λi hi=>(hc i hi).1.2) (λi hi=>(hc i hi).2) (λi hi=>IF i (by omega)) (λi _=> ?_) λi hi=> ?_
 ·obtain⟨pre,e1⟩:=hp;have BO:∀(f:Nat->AV),(keep.map λk=>(k,f k)).map (·.1)=keep:=λf=>by rw[List.map_map];exact List.map_id _
  show bq ((keep.map λk=>(k,(bq x.1.t k).aL (gx s.h.length p)))++s.t) i=_\/_;rcases Dx (keep.map λk=>(k,(bq x.1.t k).aL (gx s.h.length p))) s.t i with⟨h1,h2⟩|⟨h1,h2⟩
  ·rw[BO]at h1;rw[h2,rp (λk=>(bq x.1.t k).aL (gx s.h.length p)),if_pos h1];exact .inl rfl
  ·rw[BO]at h1;show _\/bq ((keep.map λk=>(k,(bq x.1.t k).aL (gx s.h.length p)))++s.t) i=_;rw[h2];rw[e1,al6,Nat.add_sub_cancel,List.take_left']at hb
   ·rw[e1];rcases Dx pre s.t i with⟨h3,h4⟩|⟨h3,h4⟩
    ·right
     obtain⟨y,hy,rfl⟩:=List.mem_map.1 h3;have:=amv.1 hb y hy;rw[Bool.or_eq_true]at this;rcases this with this|this
     ·exfalso;obtain⟨k,hk,e⟩:=List.any_eq_true.1 this;rw[beq_iff_eq]at e;exact h1 (e▸hk)
     ·generalize bq s.t y.1=z at this;cases z<;>first|rfl|cases this
    ·left
     rw[h4,yN (τ:=id) IF _ (pO i),JG]
   ·rfl
 ·show(bif yj s.h.length p then x.1.h else ry p q s.h.length x.1.h x.1.h.length 0)[gx s.h.length p i]?=_;cases hid:yj s.h.length p with
  |true=>rw[agV hid];simp only[cond_true,id];rw[al9 hi,Option.map_some,LV]
  |false=>
  simp only[cond_false];rw[UD,if_pos (Nat.lt_of_succ_le (hc i hi).1.1.1),amp,(hc i hi).1.2,al9 hi];rfl
theorem YE{P:amW}{ol:amT Oper}{as:amT (Nat×bX)}{keep:amT Nat}{s:St}{Δ:amT (Nat×AV)}{h':amT aq}{ps:amT (In×bX)}{m N0:Nat}{K:St->Prop}(h:yY P ol as keep s=some (List.replicate m (Δ,h',ps)))(bW:gi P ps)(hN:N0<=s.h.length)(pO:∀i,(bq s.t i).aG s.h.length=true)(hK:Dw N0 K)(hk:K ⟨s.n,Δ++s.t,h'⟩):
 kH false P ol.toArray K ol.toArray.size (Array.replicate ol.toArray.size false) s:=by
 unfold yY at h;obtain⟨hM,h⟩:=kR h;rw[vK,vK]at h;split at h
 ·next ls e1=>
  obtain⟨_,h2,h3⟩:=SP (s0:=s) hK.c hM s.t _ 0 (Array.replicate ol.toArray.size false) _ _ s ls ⟨by simp,λi=>by
   rw[Nat.zero_testBit,Array.getD_eq_getD_getElem?,Array.getElem?_replicate];split<;>rfl⟩ (λj o ho hj=>by
   exfalso;rw[Array.getD_eq_getD_getElem?]at hj;rw[Array.getElem?_replicate]at hj;split at hj<;>simp at hj) e1
  refine h3 λx hx=> ?_;obtain⟨a,ha,e2⟩:=LN h x hx;rw[List.mem_replicate]at ha;obtain⟨_,rfl⟩:=ha;obtain⟨k1,k2⟩:=SD (P:=P) (ops:=ol.toArray) e2 hN pO ((h2 x hx).2.2 (mY.refl _ _)).n ((h2 x hx).2.1 ⟨[],rfl⟩) bW;exact⟨k2,hK _ _ k1 hk⟩
 ·cases h
section
variable {P:amW} {r:amV Nat} {N0 id n:Nat} {ol:amT Oper} {y:Code} {t:amT (Nat×AV)} {h:amT aq} {Q Q':Exit->St->Prop}
theorem rtE(m:Nat)(hm:P.follows .mixedOrders=true)(Δ:amT (Nat×AV))(h':amT aq)(e:∃aA:amT (Nat×Ob P),yY P ol (iV aA) (Δ.map (·.1)) ⟨n,t,h⟩=some (List.replicate m (Δ,h',js aA)))(k:bB P r N0 y Q' ⟨n,Δ++t,h'⟩):bB P r N0 (.region id ol.toArray true) (ig (λs=>bB P r N0 y Q' s) Q) ⟨n,t,h⟩:=
 let ⟨aA,e⟩:=e
 Po hm λhN pO=>YE e (qb aA) hN pO (Qz _) ⟨_,iX.refl _ _,k⟩
theorem rt(m:Nat)(hm:P.follows .mixedOrders=true)(aA:amT (Nat×Ob P))(Δ:amT (Nat×AV))(h':amT aq)(e:yY P ol (iV aA) (Δ.map (·.1)) ⟨n,t,h⟩=some (List.replicate m (Δ,h',js aA)))(k:bB P r N0 y Q' ⟨n,Δ++t,h'⟩):bB P r N0 (.region id ol.toArray true) (ig (λs=>bB P r N0 y Q' s) Q) ⟨n,t,h⟩:=rtE m hm Δ h' ⟨aA,e⟩ k
theorem rte(m:Nat)(hm:P.follows .mixedOrders=true)(aA:amT (Nat×Ob P))(Δ:amT (Nat×AV))(h':amT aq)(e:yY P ol (iV aA) (Δ.map (·.1)) ⟨n,t,h⟩=some (List.replicate m (Δ,h',js aA)))(k:Q .normal ⟨n,Δ++t,h'⟩):bB P r N0 (.region id ol.toArray true) Q ⟨n,t,h⟩:=
 Po hm λhN pO=>YE e (qb aA) hN pO (Qz _) ⟨_,iX.refl _ _,k⟩
end
theorem ZA{f:AV->AV}(hf:∀d,f (.d d)= .d d)(xs:amT (amT D)):(cg xs).map (·.map f)=cg xs:=by
 unfold cg;rw[List.map_map];refine amA λc _=> ?_;simp only[Function.comp,List.map_map];exact amA λd _=>hf d
theorem BG(xs:amT (amT D)):(cg xs).length=xs.length:=by unfold cg;rw[ama]
theorem Pl{xs:amT (amT D)}{i:Nat}{c:amT D}(h:xs[i]?=some c):(cg xs)[i]?=some (c.map .d):=by unfold cg;rw[amc,h];rfl
theorem aaZ(xs:amT (amT D))(i:Nat)(c:amT D):cg (xs.set i c)=(cg xs).set i (c.map .d):=by unfold cg;rw[List.map_set]
theorem aiI(xs ys:amT (amT D)):cg (xs++ys)=cg xs++cg ys:=by unfold cg;rw[List.map_append]
theorem aQ{cs:amT AV}{l:amT aq}(h:VD l):VD (.cells cs::l):=⟨trivial,h⟩
theorem agq{e k n:Nat}{l:amT aq}(h:VD l):VD (.front e k n::l):=⟨trivial,h⟩
theorem dL{kv:amT (amU×D)}{l:amT aq}(h:VD l):VD (.map kv::l):=⟨trivial,h⟩
theorem ad2{l:amT aq}(h:VD l):VD (.gone::l):=⟨trivial,h⟩
def aq.ql(m:Nat):aq->aq
 | .vec e k cs=> .vec e k cs
 |B=>B.bz m
def aq.yd:aq->aq
 | .vec e k cs=> .vec e k cs
 |B=>B.pN
def aq.yV(m:Nat):aq->Prop
 | .vec _ _ cs=>cs.map (·.map (AV.bz m))=cs/\cs.all (·.all (AV.aG m))=true
 |_=>True
def iS(m:Nat):amT aq->Prop
 |[]=>True
 |B::l=>B.yV m/\iS m l
section
variable {m:Nat} {l:amT aq}
theorem jD:iS m []:=trivial
theorem eP{B:aq}(hB:B.yV m)(h:iS m l):iS m (B::l):=⟨hB,h⟩
theorem TL(xs:amT (amT D)):(cg xs).all (·.all (AV.aG m))=true:=by simp [cg,AV.aG]
theorem lC{e k:Nat}{xs:amT (amT D)}(h:iS m l):iS m (.vec e k (cg xs)::l):=⟨⟨ZA (λd=>by simp [AV.bz]) _,TL _⟩,h⟩
theorem iS.mem:∀{l:amT aq},iS m l->∀B∈l,B.yV m
 |[],_,B,hB=>by cases hB
 |_::_,h,B,hB=>by
  rcases amz.1 hB with rfl|hB
  ·exact h.1
  ·exact iS.mem h.2 B hB
end
theorem afD{m:Nat}{B:aq}(h:B.yV m):B.ql m=B.bz m:=by
 cases B with
 |vec e k cs=>simp only[aq.ql,aq.bz];rw[h.1]
 |_=>rfl
theorem ab8{m:Nat}{B:aq}(h:B.yV m)(hl:(B.ql m).uW m=true):(B.bz m).aG m=true:=by
 cases B with
 |vec e k cs=>simp only[aq.bz,aq.aG];rw[h.1];exact h.2
 |_=>exact hl
theorem Ur{G:Gh}{w:amY}{h:amT aq}(hi:bU G w h):bU G w (h.map aq.yd):=by
 have eF:∀n,bR (h.map aq.yd) G n=bR h G n:=λn=>by
  unfold bR;rw[amc];cases h[n]? with
  |none=>rfl
  |some B=>cases B<;>rfl
 have h2:=P1 hi;refine⟨by rw[ama];exact hi.len,hi.z,hi.S,λn B hB=> ?_,λm n x hm hn=>hi.inj m n x (by rw[<-eF];exact hm) (by rw[<-eF];exact hn),hi.gl⟩;rw[amc]at hB;cases h1:h[n]? with
 |none=>rw[h1]at hB;cases hB
 |some B'=>
  rw[h1]at hB;cases hB
  have h3:=h2.dk n B'.pN (by rw[amc,h1];rfl);cases B' with
  |vec e k cs=>exact hi.dk n _ h1
  |_=>exact h3
def uJ(kn:amT (Nat×Nat))(n:Nat):Nat->amT AV->amT AV
 |_,[]=>[]
 |i,x::l=>(bif kn.any (λp=>p.1==n&&p.2==i)then x else x.nrm)::uJ kn n (i+1) l
def aq.Xa(kn:amT (Nat×Nat))(n:Nat):aq->aq
 | .cells cs=> .cells (uJ kn n 0 cs)
 |B=>B.yd
def o8(kn:amT (Nat×Nat)):Nat->amT aq->amT aq
 |_,[]=>[]
 |n,B::l=>B.Xa kn n::o8 kn (n+1) l
theorem S8(kn:amT (Nat×Nat))(n:Nat):∀(j:Nat)(cs:amT AV),(uJ kn n j cs).length=cs.length
 |_,[]=>rfl
 |j,x::l=>by rw[uJ,al8,S8 kn n (j+1) l,al8]
theorem UZ(kn:amT (Nat×Nat))(n:Nat):∀(j:Nat)(cs:amT AV)(i:Nat)(c':AV),(uJ kn n j cs)[i]?=some c'->∃c,cs[i]?=some c/\(c'=c\/c'=c.nrm)
 |_,[],i,c',h=>by simp [uJ]at h
 |j,x::l,0,c',h=>by
  simp only[uJ,List.getElem?_cons_zero,Option.some.injEq]at h;refine⟨x,rfl,?_⟩;cases hk:kn.any (λp=>p.1==n&&p.2==j)with
  |true=>rw[hk]at h;exact .inl h.symm
  |false=>rw[hk]at h;exact .inr h.symm
 |j,x::l,i+1,c',h=>by
  simp only[uJ,amG]at h;obtain⟨c,h1,h2⟩:=UZ kn n (j+1) l i c' h;exact⟨c,by simpa using h1,h2⟩
theorem MR(kn:amT (Nat×Nat)):∀(j:Nat)(h:amT aq)(i:Nat)(B':aq),(o8 kn j h)[i]?=some B'->∃B,h[i]?=some B/\B'=B.Xa kn (j+i)
 |_,[],i,B',h=>by simp [o8]at h
 |j,B::l,0,B',h=>by simp only[o8,List.getElem?_cons_zero,Option.some.injEq]at h;exact⟨B,rfl,h.symm⟩
 |j,B::l,i+1,B',h=>by
  simp only[o8,amG]at h;obtain⟨C,h1,h2⟩:=MR kn (j+1) l i B' h;exact⟨C,by simpa using h1,by rw[h2];congr 1;omega⟩
theorem Tq(kn:amT (Nat×Nat)):∀(j:Nat)(h:amT aq),(o8 kn j h).length=h.length
 |_,[]=>rfl
 |j,B::l=>by rw[o8,al8,Tq kn (j+1) l,al8]
theorem ahk{G:Gh}{w:amY}{h:amT aq}(kn:amT (Nat×Nat))(hi:bU G w h):bU G w (o8 kn 0 h):=by
 have eF:∀n x,bR (o8 kn 0 h) G n=some x->bR h G n=some x:=λn x hx=>by
  obtain⟨B',hB,h1⟩:=m3 hx;obtain⟨B,h2,rfl⟩:=MR kn 0 h n B' hB;rw[dJ h2,<-h1];cases B<;>rfl
 have h2:=Ur hi;refine⟨by rw[Tq];exact hi.len,hi.z,hi.S,λn B' hB=> ?_,λm n x hm hn=>hi.inj m n x (eF m x hm) (eF n x hn),hi.gl⟩;obtain⟨B,h1,rfl⟩:=MR kn 0 h n B' hB;cases B with
 |cells cs=>
  obtain⟨c1,c2,vs,T,c3,c4,c5⟩:=hi.dk n _ h1;refine⟨c1,c2,vs,T,c3,by rw[S8];exact c4,λi u c hu hc=> ?_⟩;obtain⟨c0,h3,h4|h4⟩:=UZ _ _ _ _ _ _ hc
  ·rw[h4];exact c5 i u c0 hu h3
  ·rw[h4];exact(c5 i u c0 hu h3).nrm
 |_=>exact h2.dk n _ (by rw[amc,h1];rfl)
def mw(s:St)(live:amT Nat)(m:Nat)(ks:amT Nat)(kn:amT (Nat×Nat)):amV St:=
 bif cq m s.h.length&&(live.all λk=>((bq s.t k).bz m).aG m)&&(((s.h.take m).map (aq.ql m)).all (aq.uW m))then some ⟨s.n,live.map λk=>(k,bif ks.any (·==k)then(bq s.t k).bz m else(bq s.t k).fin m),o8 kn 0 ((s.h.take m).map (aq.ql m))⟩else none
theorem Sb{h:amT aq}{m:Nat}(hd:iS m (h.take m)):(h.take m).map (aq.ql m)=(h.take m).map (aq.bz m):=amA λB hB=>afD (hd.mem B hB)
theorem VG{h:amT aq}{m:Nat}(hd:iS m (h.take m))(hl:((h.take m).map (aq.ql m)).all (aq.uW m)=true):((h.take m).map (aq.bz m)).all (aq.aG m)=true:=by
 rw[amv]at hl ⊢;intro B hB;obtain⟨B',h1,rfl⟩:=List.mem_map.1 hB;exact ab8 (hd.mem B' h1) (hl _ (List.mem_map.2 ⟨B',h1,rfl⟩))
section
variable {P:amW} {r:amV Nat} {n N0:Nat} {G:Gh} {w:amY} {a:Act} {s s':St} {Q Q':Exit->St->Prop} {live:amT Nat} {m:Nat} {ks:amT Nat} {kn:amT (Nat×Nat)}
theorem c8.mw(hs:c8 G w a s)(hd:iS m (s.h.take m))(h:mw s live m ks kn=some s'):c8 (G.cut m) w a s':=by
 unfold Go.Proofs.YtnnapanbbbcalaaGreatDoor.mw at h;obtain⟨hb,rfl⟩:=eu h;rw[al7,al7]at hb;have hm:=hs.mask (live:=live) ⟨dq.1 hb.1.1,hb.1.2,VG hd hb.2⟩;refine⟨hs.size,λi=> ?_,by show bU _ _ (o8 kn 0 ((s.h.take m).map (aq.ql m)));rw[Sb hd];exact ahk kn hm.inv,hs.df⟩;have:=hm.tmp i
 change aH _ _ _ (bq (live.map λk=>(k,(bq s.t k).bz m)) i)at this
 rw[rp (λk=>(bq s.t k).bz m)]at this;show aH _ _ _ (bq (live.map λk=>(k,bif ks.any (·==k)then(bq s.t k).bz m else(bq s.t k).fin m)) i);rw[rp (λk=>bif ks.any (·==k)then(bq s.t k).bz m else(bq s.t k).fin m)];split at this
 ·rename_i hi
  rw[if_pos hi];cases ks.any (·==i)with
  |true=>exact this
  |false=>exact this.nrm
 ·rename_i hi;rw[if_neg hi];exact .dead _
theorem KK{c:Code}{ι:Type}(live:amT Nat)(m:Nat)(ks:amT Nat)(kn:amT (Nat×Nat))(st:ι->St)(I:ι->Prop)(μ:ι->Nat)(i0:ι)(hm:N0<=m)(h0:iS m (s.h.take m)/\Go.Proofs.YtnnapanbbbcalaaGreatDoor.mw s live m ks kn=some (st i0))(hI:I i0)
 (round:∀i,I i->bB P r N0 c (ig (λs'=>∃i',(iS m (s'.h.take m)/\Go.Proofs.YtnnapanbbbcalaaGreatDoor.mw s' live m ks kn=some (st i'))/\I i'/\μ i'<μ i) Q) (st i)):bB P r N0 (.loop c) Q s:=by
 constructor
 intro G w a n hs _;refine QC (λ(i:ι) a' w'=>∃G',I i/\bN N0 G w G' w'/\N0<=G'.N/\c8 G' w' a' (st i)) μ i0 ⟨G.cut m,hI,pE _ _ _ _,hm,hs.mw h0.1 h0.2⟩ ?_;rintro i a' w' ⟨G',hi,hE,hN,cM⟩;refine wpIn_mono ((round i hi).run G' w' a' n cM hN) λe a1 w1 hn=> ?_;obtain⟨G1,s1,ie,fU,eV,hq⟩:=hn;cases e with
 |normal=>
  obtain⟨i',h1,h2,h3⟩:=hq;exact⟨i',⟨G1.cut m,h2,(hE.trans ie).trans (pE _ _ _ _),hm,eV.mw h1.1 h1.2⟩,h3⟩
 |_=>exact⟨G1,s1,hE.trans ie,fU,eV,hq⟩
theorem JE{c:Code}(live:amT Nat)(m:Nat)(ks:amT Nat)(kn:amT (Nat×Nat))(hm:N0<=m)(h0:iS m (s.h.take m)/\Go.Proofs.YtnnapanbbbcalaaGreatDoor.mw s live m ks kn=some s')(h:bB P r N0 c Q s'):bB P r N0 c Q s:=by
 constructor
 intro G w a n hs _;exact wpIn_mono (h.run (G.cut m) w a n (hs.mw h0.1 h0.2) hm) λ_ _ _ hn=>hn.trans (pE N0 G w m)
theorem ad6{c y:Code}{ι:Type}(live:amT Nat)(m:Nat)(ks:amT Nat)(kn:amT (Nat×Nat))(st:ι->St)(I:ι->Prop)(hm:N0<=m)(hc:bB P r N0 c (ig (λs'=>∃i,(iS m (s'.h.take m)/\Go.Proofs.YtnnapanbbbcalaaGreatDoor.mw s' live m ks kn=some (st i))/\I i) Q) s)(hy:∀i,I i->bB P r N0 y Q' (st i)):bB P r N0 c (ig (λs=>bB P r N0 y Q' s) Q) s:=by
 refine hc.mono λe s' h=> ?_;cases e with
 |normal=>obtain⟨i,h1,h2⟩:=h;exact JE live m ks kn hm h1 (hy i h2)
 |_=>exact h
end
def CM(P:amW)(rs:amT ResultVar)(m:Nat)(s:St):amV (AV×amT aq):=
 match rR P s rs with
 |some l=>bif cq m s.h.length&&((jO l).bz m).aG m&&(((s.h.take m).map (aq.ql m)).all (aq.uW m))then some (((jO l).bz m).nrm,((s.h.take m).map (aq.ql m)).map aq.yd)else none
 |none=>none
def Wx(P:amW)(fn:Func)(m:Nat)(R:AV)(H:amT aq):Exit->St->Prop
 | .normal,s=>iS m (s.h.take m)/\CM P fn.results.toList m s=some (R,H)
 | .ret,s=>iS m (s.h.take m)/\CM P fn.results.toList m s=some (R,H)
 |_,_=>False
theorem SC{P:amW}{s:St}{fn:Func}{m:Nat}{R:AV}{H:amT aq}(h:iS m (s.h.take m)/\CM P fn.results.toList m s=some (R,H)):qe P fn m (λr h'=>r.nrm=R/\h'.map aq.yd=H) s:=by
 obtain⟨hd,h⟩:=h;unfold CM at h;split at h
 ·next l e=>
  obtain⟨hb,he⟩:=eu h;cases he
  simp only[al7,dq]at hb;exact CP _ _ _ e ⟨hb.1.1,hb.1.2,VG hd hb.2,rfl,by rw[Sb hd]⟩
 ·cases h
theorem uh{P:amW}{s:St}{fn:Func}{m:Nat}{R:AV}{H:amT aq}(hd:iS m (s.h.take m))(h:CM P fn.results.toList m s=some (R,H)):Wx P fn m R H .ret s:=⟨hd,h⟩
theorem E1{P:amW}{f:FuncId}{fn:Func}{c:Code}{args:amT AV}{h H:amT aq}{R:AV}(m:Nat)(hf:P.funcs[f]?=some fn)(hb:fn.body=some c)(hn:(fn.name== "runtime.NumGoroutine")=false)(hm:h.length<=m)
 (hw:bB P none h.length c (Wx P fn m R H) {n:=args.length+(fn.ntmps-args.length),t:=lK 0 args,h:=h}):cZ P f args h λr1 h1=>r1=R/\h1=H:=by
 have h0:=tD (P:=P) (f:=f) (args:=args) (h:=h) (K:=λr h'=>r.nrm=R/\h'.map aq.yd=H) m hf hb hn hm (hw.mono λe s hq=>by
  cases e with
  |normal=>exact SC hq
  |ret=>exact SC hq
  |_=>exact hq.elim)
 refine⟨h0.1,λG w vs hi hl hr=>(h0.2 G w vs hi hl hr).mono λe w' hp=> ?_⟩;obtain⟨v,G',x,h',rfl,hE,hN,dY,hv,rfl,rfl⟩:=hp;exact⟨v,G',x.nrm,_,rfl,hE,hN,Ur dY,hv.nrm,rfl,rfl⟩
mutual
def AV.ua(b:Nat):AV->amT (Nat×Nat×Nat×Nat)
 | .vec n o len L k=>bif n==b then[(o,len,L,k)]else[]
 | .agg cs=>AV.tu b cs
 | .aY cs=>AV.tu b cs
 | .fn _ cs=>AV.tu b cs
 |_=>[]
def AV.tu(b:Nat):amT AV->amT (Nat×Nat×Nat×Nat)
 |[]=>[]
 |x::l=>x.ua b++AV.tu b l
end
mutual
def AV.mlt(b:Nat)(xs:amT (amT D)):AV->AV
 | .vec n o len L k=>bif n==b then .d (.sl xs)else .vec n o len L k
 | .dD n i j L k=>bif n==b then .dead else .dD n i j L k
 | .agg cs=> .agg (AV.nE b xs cs)
 | .aY cs=> .aY (AV.nE b xs cs)
 | .fn f cs=> .fn f (AV.nE b xs cs)
 |x=>x
def AV.nE(b:Nat)(xs:amT (amT D)):amT AV->amT AV
 |[]=>[]
 |x::l=>x.mlt b xs::AV.nE b xs l
end
mutual
theorem Ya{b kk:Nat}{xs:amT (amT D)}:∀x:AV,(∀q∈x.ua b,q=(0,xs.length,xs.length,kk))->x.dz b kk xs=x.mlt b xs
 | .vec n o len L k,h=>by
   unfold AV.dz AV.mlt;unfold AV.ua at h;cases e:n==b with
   |false=>rfl
   |true=>
    rw[e]at h;have:=h _ amb;cases this
    simp
 | .agg cs,h=>by unfold AV.dz AV.mlt;rw[yq cs (by unfold AV.ua at h;exact h)]
 | .aY cs,h=>by unfold AV.dz AV.mlt;rw[yq cs (by unfold AV.ua at h;exact h)]
 | .fn f cs,h=>by unfold AV.dz AV.mlt;rw[yq cs (by unfold AV.ua at h;exact h)]
 | .dD n i j L k,h=>by unfold AV.dz AV.mlt;rfl
 | .d _,_=>by simp [AV.dz,AV.mlt]
 | .ptr ..,_=>by simp [AV.dz,AV.mlt]
 | .bp ..,_=>by simp [AV.dz,AV.mlt]
 | .own ..,_=>by simp [AV.dz,AV.mlt]
 | .full _,_=>by simp [AV.dz,AV.mlt]
 | .row ..,_=>by simp [AV.dz,AV.mlt]
 | .mp _,_=>by simp [AV.dz,AV.mlt]
 | .cp _,_=>by simp [AV.dz,AV.mlt]
 | .hid _,_=>by simp [AV.dz,AV.mlt]
 | .dead,_=>by simp [AV.dz,AV.mlt]
theorem yq{b kk:Nat}{xs:amT (amT D)}:∀l:amT AV,(∀q∈AV.tu b l,q=(0,xs.length,xs.length,kk))->AV.pR b kk xs l=AV.nE b xs l
 |[],_=>by simp [AV.pR,AV.nE]
 |x::l,h=>by
  unfold AV.tu at h;unfold AV.pR AV.nE;rw[Ya x λq hq=>h q (List.mem_append_left _ hq),yq l λq hq=>h q (List.mem_append_right _ hq)]
end
theorem aeP{c L kk:Nat}{xs:amT (amT D)}(hL:xs.length=L){l:amT (Nat×Nat×Nat×Nat)}(h:l=List.replicate c (0,L,L,kk)):∀q∈l,q=(0,xs.length,xs.length,kk):=λq hq=>by
 rw[h,List.mem_replicate]at hq;rw[hq.2,hL]
theorem TK{G:Gh}{w:amY}{h:amT aq}(hi:bU G w h)(e k:Nat):bN G.N G w (G.fb (.slice none 0 0) 0 none) w/\G.N<=(G.fb (.slice none 0 0) 0 none).N/\bU (G.fb (.slice none 0 0) 0 none) w (h++[.vec e k []])/\aH (G.fb (.slice none 0 0) 0 none) w (.slice none 0 0) (.vec h.length 0 0 0 k):=by
 obtain⟨a1,a2⟩:=Om (w':=w) hi (.vec e k []) (λ_ _=>rfl) (.slice none 0 0) 0 none ⟨λ_ _=>rfl,amg _,rfl,rfl,rfl⟩ (λ_ h=>by cases h)
  ⟨by simp [Gh.fb],Nat.zero_le _,λc hc=>absurd hc amL, .inl ⟨by simp [Gh.fb],rfl,none,by simp [Gh.fb]⟩⟩
 refine⟨a1,Nat.le_succ _,a2, .vec _ 0 0 0 k (by rw[hi.len];exact amR _) ⟨none,0,0,rfl⟩ (Nat.zero_le _) λ_=>⟨amg _,⟨none,0,rfl,amg _,Nat.zero_le _,amg _,λh=>absurd h (amJ _)⟩,λ_ _=> ?_⟩⟩;simp [Gh.fb,hi.len]
section
variable {P:amW} {r:amV Nat} {N0:Nat} {s:St} {Q:Exit->St->Prop} {c:Code}
theorem afp(t e k:Nat)(hx:bq s.t t= .d (.v (.slice none 0 0)))(h:bB P r N0 c Q ⟨s.n,(t, .vec s.h.length 0 0 0 k)::s.t,s.h++[.vec e k []]⟩):bB P r N0 c Q s:=by
 constructor
 intro G w a n hs hN;obtain⟨a1,a2,a3,a4⟩:=TK hs.inv e k;have hv:=hs.tmp t;rw[hx]at hv;have hv:=hv.val;have cM:c8 (G.fb (.slice none 0 0) 0 none) w a ⟨s.n,(t, .vec s.h.length 0 0 0 k)::s.t,s.h++[.vec e k []]⟩:=by
  refine⟨hs.size,λi=> ?_,a3,hs.df.keep a1⟩;show aH _ _ _ (bq ((t, .vec s.h.length 0 0 0 k)::s.t) i);rw[kZ];split
  ·next e=>exact e▸hv▸a4
  ·exact(hs.tmp i).keep a1 a2
 exact wpIn_mono (h.run _ w a n cM (amn hN a2)) λ_ _ _ hn=>hn.trans (a1.less hN)
theorem afS(b i e k:Nat){cs:amT AV}(hb:s.h[b]?=some (.cells cs))(hx:cs[i]?=some (.d (.v (.slice none 0 0))))
 (h:bB P r N0 c Q ⟨s.n,s.t,(s.h++[aq.vec e k []]).set b (aq.cells (cs.set i (AV.vec s.h.length 0 0 0 k)))⟩):bB P r N0 c Q s:=by
 constructor
 intro G w a n hs hN;obtain⟨h1,h2,vs,T,h3,h4,h5⟩:=hs.inv.dk _ _ hb;have hi:i<cs.length:=(al5.1 hx).1;have hv:vs[i]?=some vs[i]:=amr (by omega);have sQ:=(h5 i _ _ hv hx).val;obtain⟨a1,a2,a3,a4⟩:=TK hs.inv e k;have aN:=(al5.1 hb).1;have cM:c8 (G.fb (.slice none 0 0) 0 none) w a ⟨s.n,s.t,(s.h++[aq.vec e k []]).set b (aq.cells (cs.set i (AV.vec s.h.length 0 0 0 k)))⟩:=by
  refine⟨hs.size,λj=>(hs.tmp j).keep a1 a2,Xs a3 (by rw[amf aN];exact hb) (by rw[List.length_set]) λfR T' DG j u c hu hc=> ?_,hs.df.keep a1⟩;have e1:(G.fb (.slice none 0 0) 0 none).aR b=G.aR b:=rfl;rw[e1,h3]at DG;cases DG
  by_cases e2:i=j
  ·subst e2;rw[amy hi]at hc;cases hc
   rw[hv]at hu;cases hu
   rw[sQ];exact a4
  ·rw[amD e2]at hc;exact(h5 j u c hu hc).keep a1 a2
 exact wpIn_mono (h.run _ w a n cM (amn hN a2)) λ_ _ _ hn=>hn.trans (a1.less hN)
theorem acf(b:Nat)(h:bB P r N0 c Q ⟨s.n,s.t,s.h.set b .gone⟩):bB P r N0 c Q s:=by
 constructor
 intro G w a n hs hN;have hi:=hs.inv;have eF:∀n x,bR (s.h.set b .gone) G n=some x->bR s.h G n=some x:=λn x hx=>by
  obtain⟨B,hB,h1⟩:=m3 hx;by_cases e:b=n
  ·subst e;have aN:=(al5.1 hB).1;rw[List.length_set]at aN;rw[amy aN]at hB;cases hB;cases h1
  ·rw[amD e]at hB;rw[dJ hB];exact h1
 refine h.run G w a n ⟨hs.size,hs.tmp,⟨by rw[List.length_set];exact hi.len,hi.z,hi.S,λn B hB=> ?_,λm n x h1 h2=>hi.inj m n x (eF m x h1) (eF n x h2),hi.gl⟩,hs.df⟩ hN;by_cases e:b=n
 ·subst e;have aN:=(al5.1 hB).1;rw[List.length_set]at aN;rw[amy aN]at hB;cases hB;trivial
 ·rw[amD e]at hB;exact hi.dk n B hB
end
theorem zU{α:Type}{f:α->amT D}{E:amT α}{L:Nat}(h:E.length=L):(cg (E.map f)).length=L:=by rw[BG,ama,h]
theorem SA{cs:amT (amT AV)}{z:Int}{L i:Nat}(h:cs.length=L)(h0:0<=z)(h1:z<(L:Int))(h2:z.toNat=i):cs.length=L/\0<=z/\z<(L:Int)/\i=0+z.toNat:=⟨h,h0,h1,by rw[h2,amp]⟩
theorem ahY{α:Type}{f:α->amT D}{E:amT α}{L i:Nat}{x:α}(h:E.length=L)(hx:E[i]?=some x):(cg (E.map f)).length=L/\(cg (E.map f))[i]?=some ((f x).map .d):=⟨zU h,Pl (by rw[amc,hx];rfl)⟩
theorem acp{α:Type}{f:α->amT D}{E:amT α}{L i j:Nat}{x y:α}{zs:amT AV}(h:E.length=L)(hx:E[i]?=some x)(hy:(f y).map AV.d=iM ((f x).map .d) j zs):(cg (E.map f)).length=L/\(cg (E.map f))[i]?=some ((f x).map .d)/\cg ((E.set i y).map f)=(cg (E.map f)).set i (iM ((f x).map .d) j zs):=
 ⟨zU h,Pl (by rw[amc,hx];rfl),by rw[List.map_set,aaZ,hy]⟩
theorem IS{α:Type}{f:α->amT D}{E ys:amT α}{h:amT aq}{k L gX L' dd:Nat}{y:AV}(hE:E.length=L)(hy:y.fE=some (ys.map f))(hk:∀c∈ys.map f,c.length=k)(hn:ys.length=gX)(hL:L+ys.length=L')(hm:L'<=maxLen)(hb:L'*dd<=140737488355328):
 (cg (E.map f)).length=L/\zu h k y (cg (ys.map f))/\L'=L+(cg (ys.map f)).length/\((0+L+(cg (ys.map f)).length<=L/\L'=L/\cg ((E++ys).map f)=(cg (E.map f)).take (0+L)++cg (ys.map f)++(cg (E.map f)).drop (0+L+(cg (ys.map f)).length))\/(0=0/\L=L/\L'=L+(cg (ys.map f)).length/\cg ((E++ys).map f)=cg (E.map f)++cg (ys.map f)/\L'<=maxLen/\L'*dd<=140737488355328)):=by
 have hl:(cg (ys.map f)).length=ys.length:=by rw[BG,ama]
 refine⟨zU hE, .inl ⟨_,hy,hk,rfl⟩,by rw[hl,hL], .inr ⟨rfl,rfl,by rw[hl,hL],by rw[List.map_append,aiI],hm,hb⟩⟩
theorem adF{xs:amT (amT D)}{h:amT aq}{k dd:Nat}{y:AV}(hk:∀c∈xs,c.length=k)(hy:y.fE=some xs)(hm:xs.length<=maxLen)(hb:xs.length*dd<=140737488355328):
 ([]:amT (amT D))=[]/\zu h k y (cg xs)/\cg xs=cg xs/\xs.length=(cg xs).length/\xs.length=(cg xs).length/\xs.length<=maxLen/\xs.length*dd<=140737488355328:=⟨rfl, .inl ⟨xs,hy,hk,rfl⟩,rfl,(BG xs).symm,(BG xs).symm,hm,hb⟩
theorem akH{α:Type}{f:α->amT D}(hf:∀x,(f x).all D.Ay=true)(E:amT α):∀c∈E.map f,c.all D.Ay=true:=λc hc=>by
 obtain⟨x,_,rfl⟩:=List.mem_map.1 hc;exact hf x
theorem aeW{α:Type}{f:α->amT D}{E:amT α}{L:Nat}(h:E.length=L):(E.map f).length=L:=by rw[ama,h]
def Nd(o:Oper):Bool:=
 match o.op with
 | .call c=>match c.callee with
   | .value _=>false
   |_=>true
 |_=>true
def Hv:bX->Bool
 | .va _=>true
 |_=>false
def Li(o:Oper)(a:bX):Bool:=GV o||(Nd o&&((sY o||jH o&& !(cz o==0))|| !Hv a))
def BT(o:Oper)(a:bX):Bool:=Li o a||(!zH a&&(!Hv a&& !jH o))
def Et(as:amT (Nat×bX)):Nat->amT Oper->Bool
 |_,[]=>true
 |j,o::l=>BT o (iL as (3*j+1))&&Et as (j+1) l
section
variable {P:amW} {ops:Array Oper} {o:Oper} {j:Nat} {as:amT (Nat×bX)} {s s1:St} {l:amT (In×bX)} {K:St->Prop}
theorem abc(hn:Nd o=true)(h:qK P o K s):A7 P o K s:=by
 unfold A7;unfold Nd at hn;split
 ·next c iP=>
  rw[iP]at hn;split
  ·next f hc=>simp only[hc]at hn;cases hn
  ·exact h
 ·exact h
theorem ZV(h:ni P false o j as s=some (s1,l))(bW:gi P l)(hK:K s1)(hL:Li o (iL as (3*j+1))=true):vj true P o K s:=by
 unfold ni at h;simp only[Bool.false_and,cond_false]at h;split at h
 ·next x h' i hr=>
  have fin:OK P i (iL as (3*j+1))->K ((s.wh h').put o.dst x)->vj true P o K s:=λh1 h2=>by
   unfold Li at hL;rw[Bool.or_eq_true]at hL;unfold Di at hr;split at hr
   ·next va e=>
    simp only[Bool.false_and,cond_false]at hr;split at hr
    ·next x2 LJ p e2=>
     cases hr
     rcases hL with hL|hL
     ·exfalso;rw[e]at h1;unfold GV at hL;split at hL
      ·next c iP=>
       split at hL
       ·next t hc=>
        rw[iP]at e2;unfold im at e2;simp only[hc]at e2;cases e2
       ·next t hc=>
        rw[iP]at e2;unfold im at e2;simp only[hc]at e2;cases e2
       ·cases hL
      ·cases hL
     ·rw[e]at h1 hL;simp only[Hv,Bool.not_true,Bool.or_false,al7]at hL;cases h1 with|pr _ hp=>exact .inr (.inr (.inl ⟨(by
        have h3:=hL.2;rw[Bool.or_eq_true,al7,Bool.not_eq_true']at h3;exact h3.elim (λe=> .inr (by rw[e];rfl)) λe=> .inl ⟨e.1,by rw[e.2];rfl⟩),va,x,h',p,e2,hp,h2⟩))
    ·cases hr
   ·rcases hL with hL|hL
    ·exact .inr (.inl ⟨by unfold nf;rw[hL];rfl,x,h',h2,λC hC=>x9 hr h1 hC⟩)
    ·rw[al7]at hL;exact .inl (abc hL.1 (x9 (C:=λx h'=>K ((s.wh h').put o.dst x)) hr h1 h2))
  split at h
  ·next y hy=>
   obtain⟨m,e,h2,h3⟩:=ID h bW;cases e
   have:=h2 (.eq x, .eq y) amb;cases this with|eq e=>subst e;exact fin h3 hK
  ·obtain⟨m,e,h2,h3⟩:=ID h bW;cases e
   exact fin h3 hK
 ·cases h
theorem aeD{dr v:Bool}{op:Op}{ρ:Operand->AV}{h:amT aq}{a:bX}(hv:Hv a=false):Di P dr v op ρ h a=uF P op ρ h a:=by
 cases a<;>first|rfl|cases hv
theorem TQ(h:ni P false o j as s=some (s1,l))(bW:gi P l)(hK:K s1)(hL:BT o (iL as (3*j+1))=true):vj true P o K s:=by
 unfold BT at hL;rw[Bool.or_eq_true]at hL;rcases hL with hL|hL
 ·exact ZV h bW hK hL
 ·rw[al7,al7,Bool.not_eq_true',Bool.not_eq_true',Bool.not_eq_true']at hL;obtain⟨h1,h2,h3⟩:=hL;have h':ni P true o j as s=some (s1,l):=by
    unfold ni at h ⊢;rw[aeD h2]at h ⊢;rw[h1];exact h
  have:=N7 (dr:=true) h' bW hK;rcases this with h|⟨e,_⟩|⟨e,_⟩|h
  ·exact .inl h
  ·cases e
  ·exfalso;rcases e with e|e
   ·rw[h3]at e;exact absurd e.1 (by simp)
   ·cases e
  ·exact .inr (.inr (.inr h))
theorem RI(h:nM P ops false o j as s=some (s1,l))(bW:gi P l)(hK:K s1)(hL:BT o (iL as (3*j+1))=true):iT ops o s (vj true P o K s) (K (s.put o.dst (.d (.v undef)))):=by
 unfold nM at h;split at h
 ·next hg=>unfold iT;rw[hg];exact TQ h bW hK hL
 ·next g want hg=>
  obtain⟨dst,op,ty,pos,after,guard⟩:=o;simp only at hg;subst hg;split at h
  ·next b hb=>
   obtain⟨n,e,h2,h3⟩:=Aj h bW;have h4:=OK.GM (h3 (_,_) amb);rw[Jz,h4];refine⟨λe2=> ?_,λe2=> ?_⟩
   ·subst e2;simp only[BEq.rfl,cond_true]at e;exact TQ e h2 hK hL
   ·subst e2;have:((!want)==want)=false:=by cases want<;>rfl
    rw[this]at e;simp only[cond_false]at e;cases e
    exact hK
  ·next hb=>
   obtain⟨n,e,h2,h3⟩:=Aj h bW;cases e
   have h4:=h3 (_,_) amb;have h5:ue ops g s.t= .d (.v undef):=by
    generalize ue ops g s.t=z at h4;cases h4;rfl
   rw[Jz,h5];exact hK
  ·cases h
theorem NN:∀(ol:amT Oper)(j:Nat)(s:St)(l:amT (In×bX)),oC P ops false ol j as s=some (s1,l)->gi P l->Et as j ol=true->K s1->uS true P ops ol K s
 |[],_,s,l,h,_,_,hK=>by cases h;exact hK
 |o::rest,j,s,l,h,bW,hL,hK=>by
  unfold Et at hL;rw[al7]at hL;unfold oC at h;split at h
  ·next s2 m hg=>
   obtain⟨n,e,h2,h3⟩:=Aj h bW;exact RI (K:=uS true P ops rest K) hg h3 (NN rest (j+1) s2 n e h2 hL.2 hK) hL.1
  ·cases h
theorem WA:∀(ol pre:amT Oper),rC (pre++ol).toArray ((List.range ol.length).map (pre.length+·))=ol
 |[],_=>rfl
 |o::l,pre=>by
  rw[al8,List.range_succ_eq_map,amu,List.map_map];unfold rC;have h1:(pre++o::l).toArray[pre.length+0]?=some o:=by simp
  rw[h1];simp only;have h2:=WA l (pre++[o]);rw[amm]at h2;simp only[List.singleton_append,al6,al8,amh,amp]at h2
  congr 1
  rw[show(pre.length+·)∘Nat.succ=(pre.length+1+·)from by funext i;simp only[Function.comp];omega];exact h2
theorem Ty(ol:amT Oper):rC ol.toArray (List.range ol.length)=ol:=by
 have:=WA ol []
 simpa using this
end
section
variable {P:amW} {r:amV Nat} {N0 id n:Nat} {ol:amT Oper} {y:Code} {t:amT (Nat×AV)} {h:amT aq} {Q Q':Exit->St->Prop}
theorem rle(hm:P.follows .mixedOrders=true)(hl:Eu true ol.toArray (List.range ol.length)=true)(aA:amT (Nat×Ob P))(Δ:amT (Nat×AV))(h':amT aq)(e:Et (iV aA) 0 ol=true/\vq P false ol (iV aA) ⟨n,t,h⟩=some (Δ++t,h',js aA))(k:Q .normal ⟨n,Δ++t,h'⟩):bB P r N0 (.region id ol.toArray true) Q ⟨n,t,h⟩:=by
 obtain⟨e0,e⟩:=e;refine Uk (m:=true) (List.range ol.length) hm (by simp) hl ?_;rw[Ty];exact NN ol 0 _ _ (K3 e) (qb aA) e0 k
end
section
variable {P:amW} {r:amV Nat} {N0:Nat} {Q:Exit->St->Prop} {c:Code} {o:Oper} {K:St->Prop}
theorem Fs{n d:Nat}{t:amT (Nat×AV)}{h h':amT aq}{x:AV}(hx:yE P o.op (ev ⟨n,t,h⟩) h=some (x,h'))(hd:o.dst=some d)(hn:Nat.ble n d=false)(hK:K ⟨n,(d,x)::t,h'⟩):oz P o K ⟨n,t,h⟩:=by
 refine .inr (.inr (.inr (.inr (.inl ⟨x,h',hx,?_⟩))));have aN:d<n:=Nat.lt_of_not_le λhle=>by rw[Nat.ble_eq_true_of_le hle]at hn;cases hn
 rw[hd,qd (s:=St.wh ⟨n,t,h⟩ h') aN];exact hK
theorem ais{n d:Nat}{t:amT (Nat×AV)}{h h':amT aq}{x:AV}{p:Prop}(a:VA)(hx:im P o.op (ev ⟨n,t,h⟩) h a=some (x,h',p))(hp:p)(hd:o.dst=some d)(hn:Nat.ble n d=false)(hK:K ⟨n,(d,x)::t,h'⟩):oz P o K ⟨n,t,h⟩:=by
 refine .inl ⟨a,x,h',p,hx,hp,?_⟩;have aN:d<n:=Nat.lt_of_not_le λhle=>by rw[Nat.ble_eq_true_of_le hle]at hn;cases hn
 rw[hd,qd (s:=St.wh ⟨n,t,h⟩ h') aN];exact hK
theorem aaw{ρ:Operand->AV}{h:amT aq}{q:Call}{x y:Operand}{T U:TypeId}{e k m dd:Nat}{kq kn:IntKind}{z:amX}(hc:q.callee= .builtin .append)(h1:q.args.toList=[x,y])(h2:q.argTypes.toList=[T,U])(hx:(ρ x).isNil=true)(hT:eX P T=some (e,k))(hU:qZ P U=some kn)(hy:ρ y= .d (.v (.int kq (Int.ofNat m))))(hz:iz P e=some z)(hb:qk P e=some dd)(g1:1<=m)(g2:1<=k)(g3:z.cells.toList.length=k)(g4:m<=maxLen)(g5:m*dd<=140737488355328):
 yE P (.call q) ρ h=some (.vec h.length 0 m m k,h++[.vec e k (List.replicate m (z.cells.toList.map λu=> .d (.v u)))]):=by
 unfold yE;simp only[hc,h1,h2,hT,hU,hy,hz,hb,hx,dq.2 g1,dq.2 g2,dq.2 g4,dq.2 g5,g3,amO,Bool.and_self,cond_true]
theorem ahH{n t e k L:Nat}{ts:amT (Nat×AV)}{cs:amT (amT AV)}(cv:N0=0)(ht:bq ts t= .vec 0 0 0 L k)(hL:cs.length=L)(h:bB P r N0 c Q ⟨n,[(t, .own 0 [])],[.front e k 0]⟩):bB P r N0 c Q ⟨n,ts,[.vec e k cs]⟩:=by
 subst cv;constructor
 intro G w a m hs hN;have hi:=hs.inv;have mA:([aq.vec e k cs]:amT aq)[0]?=some (.vec e k cs):=rfl;have hGN:G.N=1:=hi.len.symm;have hv:=hs.tmp t;rw[ht]at hv;obtain⟨yO,⟨A,cc,q1,q2,q3,q4,q5⟩,Rk⟩:=hv.tP hi mA hL;obtain⟨b1,b2,b3,b4⟩:=hi.dk 0 _ mA;have RE:∀(A:amV Addr),cc<=maxLen->dy G.S w (.slice A 0 cc) (.sl []):=λA hc=> .sl A 0 0 cc 0 [] (λ_ _=>undef) (λh=>absurd rfl h) (Nat.zero_le _) hc (λ_ h=>absurd h amL) (λi j hi=>absurd hi (amx _)) (λi j x d hx=>by simp at hx);obtain⟨G',gD⟩:∃G',G'={G with sg:=λi=>if i=0 then a.tmps.getD t undef else G.sg i,fl:=λi=>if i=0 then 0 else G.fl i}:=⟨_,rfl⟩;have hE:bN 0 G w G' w:=by
  subst gD;exact⟨amg _,λ_ _ h=>h,λ_ _ _=>rfl,λ_ h=>absurd h (amx _),λ_ h=>absurd h (amx _),hY rfl,λ_ _=>rfl,rfl,rfl,rfl,λ_ _ h=> .inl h⟩
 have hinv:bU G' w [.front e k 0]:=by
  refine⟨by rw[gD];exact hi.len,by rw[gD];exact hi.z,by rw[gD];exact hi.S,λj B hB=> ?_,λi j x h1 h2=> ?_,by rw[gD];exact hi.gl⟩
  ·match j with
   |0=>
    cases hB
    refine⟨by rw[gD];simp,Nat.zero_le _,?_⟩;rcases b4 with⟨d1,d2,A',d3⟩|⟨g,cap,cur,d1,d2,d3,d4,d5,d6,d7,d8,d9⟩
    ·left
     refine⟨by rw[gD];exact d1,?_⟩;have wH:L=0:=by rw[<-hL,d2];rfl
     have:=Rk rfl wH.symm;rw[gD];exact⟨A',by simp only[if_true];rw[this];exact d3⟩
    ·by_cases wH:L=0
     ·have:=Rk rfl wH.symm
      right
      refine⟨g,cap,cur,by rw[gD];exact d1,?_,by rw[gD];exact d3,d4,Nat.zero_le _,d6,d7,λo _=>by rw[gD];exact d8 o⟩;rw[gD];simp only[if_true];rw[this,d2,hL,wH]
     ·obtain⟨g',DF,s1,rfl,s3⟩:=q5 (Nat.pos_of_ne_zero wH);rw[d2]at s1;cases s1
      right
      have:cc=cap:=by omega
      subst this;refine⟨g,cc,cur,by rw[gD];exact d1,?_,by rw[gD];exact d3,d4,Nat.zero_le _,d6,d7,λo _=>by rw[gD];exact d8 o⟩;rw[gD];simp only[if_true];rw[q1,Nat.zero_mul]
   |j+1=>simp at hB
  ·have hj:∀i x,bR [aq.front e k 0] G' i=some x->i=0:=λi x h=>by
    obtain⟨B,hB,_⟩:=m3 h
    match i with
    |0=>rfl
    |i+1=>simp at hB
   rw[hj i x h1,hj j x h2]
 refine wpIn_mono (h.run G' w a m ⟨hs.size,λi=> ?_,hinv,?_⟩ (Nat.zero_le _)) λ_ _ _ hn=>hn.trans hE
 ·show aH G' w _ (bq [(t, .own 0 [])] i);rw[kZ];split
  ·next e=>
   subst e;refine .own 0 [] (by rw[gD];show 0<G.N;omega) ?_ (Nat.zero_le _) (λ_=>by rw[gD];simp);rw[q1,gD];exact RE A q3
  ·exact .dead _
 ·have:=hs.df;rw[gD];exact this
end
end Go.Proofs.YtnnapanbbbcalaaGreatDoor
namespace Go.Proofs.YtnnapanbbbcalaaGreatDoor.MK
open Go.RowKit
set_option linter.unusedVariables false
def aq(w:amY)(g:Nat)(t:TypeId)(cs:amT amX):Prop:=w.heap[g]?=some (.cells cs.toArray t (0,0))
section
variable {w w':amY} {g:Nat} {t:TypeId} {cs:amT amX}
end
section
variable {P:amW} (w:amY)
end
section
variable {P:amW} {w:amY}
end
section
variable {S E base:Nat} {w w' w'':amY}
end
end Go.Proofs.YtnnapanbbbcalaaGreatDoor.MK
namespace Go.Proofs.YtnnapanbbbcalaaGreatDoor
open Go.RowKit
set_option linter.unusedSimpArgs false
set_option linter.unusedVariables false
section
variable {P:amW}
end
end Go.Proofs.YtnnapanbbbcalaaGreatDoor
