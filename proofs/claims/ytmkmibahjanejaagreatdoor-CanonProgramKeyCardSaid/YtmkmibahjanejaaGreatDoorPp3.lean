/-
  Part 3 of the proof: AbsRun, AbsFrz, AbsInst, AbsExec, AbsExecV, AbsRange, AbsAny, AbsExec2, AbsExec3, AbsYield, AbsTree, AbsVecX, MemK, AbsVecD.
-/
import Derived.Test.YtmkmibahjanejaaGreatDoorPp2
import Derived.WalkKit
import Derived.Laws.CopyOwn
import Derived.Deep.AppendLies
import Derived.Lib.AppendZerosOnto
import Derived.Lib.Overlaps
import Derived.Lib.Hide
namespace Go.Proofs.YtmkmibahjanejaaGreatDoor
open Go.RowKit
def an.vd:an->Prop
 | .vec _ _ cs=>(∀f,cs.map (AV.dR f)=cs)/\∀m,cs.all (·.all (AV.aQ m))=true
 |_=>True
theorem af4(f:Nat->Nat)(c:aqx D):AV.dR f (c.map AV.d)=c.map AV.d:=by
 induction c with
 |nil=>simp [AV.dR]
 |cons x c ih=>simp only[ap8,AV.dR,AV.aL,ih]
theorem akE(xs:aqx (aqx D)):(∀f,(cP xs).map (AV.dR f)=cP xs)/\∀m,(cP xs).all (·.all (AV.aQ m))=true:=by
 refine⟨λf=> ?_,λm=>by simp [cP,AV.aQ]⟩;unfold cP;rw[List.map_map];exact aqe λc _=>af4 f c
def VD:aqx an->Prop
 |[]=>True
 |B::l=>B.vd/\VD l
theorem vdN:VD []:=trivial
theorem vdV{e k:Nat}{xs:aqx (aqx D)}{l:aqx an}(h:VD l):VD (.vec e k (cP xs)::l):=⟨akE xs,h⟩
theorem VD.mem:∀{l:aqx an},VD l->∀B∈l,B.vd
 |[],_,B,hB=>by cases hB
 |_::_,h,B,hB=>by
  rcases aqd.1 hB with rfl|hB
  ·exact h.1
  ·exact VD.mem h.2 B hB
def an.lY(f:Nat->Nat):an->an
 | .vec e k cs=> .vec e k cs
 |B=>B.aL f
theorem abV{f:Nat->Nat}{B:an}(h:B.vd):B.lY f=B.aL f:=by
 cases B with
 |vec e k cs=>simp only[an.lY,an.aL];rw[h.1 f]
 |_=>rfl
theorem akS{f:Nat->Nat}{l:aqx an}(h:VD l):l.map (an.lY f)=l.map (an.aL f):=aqe λB hB=>abV (h.mem B hB)
def an.zT(m:Nat):an->Bool
 | .vec .. =>true
 |B=>B.aQ m
theorem ahC{m:Nat}{B:an}(h:B.vd)(hl:B.zT m=true):B.aQ m=true:=by
 cases B with
 |vec e k cs=>exact h.2 m
 |_=>exact hl
theorem al9{m:Nat}{l:aqx an}(h:VD l)(hl:l.all (an.zT m)=true):l.all (an.aQ m)=true:=by
 rw[ap9]at hl ⊢;exact λB hB=>ahC (h.mem B hB) (hl B hB)
theorem alu{f:Nat->Nat}{l:aqx an}(h:VD l):(l.map λB=>some (B.lY f))=l.map λB=>some (B.aL f):=aqe λB hB=>congrArg some (abV (h.mem B hB))
inductive In
 |none
 |bit (x:AV)
 |eq (x:AV)
 |el (xs:List (List D)) (i:Int)
 |lt (z:Int) (n:Nat)
 |len (xs:List (List D))
 |sub (xs:List (List D)) (lo:Int) (hi:Option Int) (k:Nat)
 |app (xs ys:List (List D)) (len k da:Nat)
 |nz (b:Int)
 |nn (b:Int)
 |str (b:ByteArray) (lo hi:Int)
 |cat (n:Nat)
 |pr (p:Prop)
 |sd (p:Sd)
 |bm (xs:List (List D))
 |Mf (c:List D) (z:Int) (n:Nat)
 |ch (b:ByteArray) (i:Int)
 |call (f:FuncId) (args:List AV)
 |jw (f:FuncId) (args:List AV) (h:List an)
 |tw (c:fp) (args:List AV)
 |oe (f:FuncId) (args:List AV) (h:List an)
def OU(P:aqA)(c:fp)(args:aqx AV)(r:AV):Prop:=∃g as,c.app args=some (g,as)/\ij P g as (·=r)
inductive bY
 |none
 |bit (b:Bool)
 |Eb
 |eq (y:AV)
 |el (c:List D)
 |ok
 |nat (n:Nat)
 |list (ys:List (List D))
 |TE (ys:List (List D)) (n:Nat)
 |byte (c:UInt8)
 |bytes (s:ByteArray)
 |one (d:D)
 |va (a:VA)
 |ret (r:AV)
 |S0 (r:AV) (h:List an)
 |Qs (l:List Nat) (fa:List AV) (H:List an) (r:AV) (H':List an)
 |rq (l:List Nat) (fa:List AV) (H:List an) (r:AV)
 |FD (l:List Nat) (fa:List AV) (H:List an) (r:AV) (H':List an)
inductive OK(P:Program):In->bY->Prop
 |none {o:bY}:OK P .none o
 |bit {e b:Bool} (h:e=b):OK P (.bit (.d (.v (.bool e)))) (.bit b)
 |Eb:OK P (.bit (.d (.v undef))) .Eb
 |eq {x y:AV} (h:x=y):OK P (.eq x) (.eq y)
 |el {xs:List (List D)} {i:Int} {c:List D} (h0:0<=i) (h:xs[i.toNat]?=some c):OK P (.el xs i) (.el c)
 |lt {z:Int} {n:Nat} (h0:0<=z) (h:z<n):OK P (.lt z n) .ok
 |len {xs:List (List D)} {n:Nat} (h:xs.length=n):OK P (.len xs) (.nat n)
 |sub {xs ys:List (List D)} {lo hi:Int} {k:Nat} (h0:0<=lo) (h1:lo.toNat<=hi.toNat) (h2:0<=hi) (h3:hi.toNat<=xs.length) (hk:∀c∈xs,c.length=k) (h:(xs.take hi.toNat).drop lo.toNat=ys):OK P (.sub xs lo (some hi) k) (.list ys)
 |PR {xs ys:List (List D)} {lo:Int} {k:Nat} (h0:0<=lo) (h1:lo.toNat<=xs.length) (hk:∀c∈xs,c.length=k) (h:xs.drop lo.toNat=ys):OK P (.sub xs lo .none k) (.list ys)
 |app {xs ys zs:List (List D)} {len k da n:Nat} (hl:len=xs.length) (hx:∀c∈xs,c.length=k) (hy:∀c∈ys,c.length=k) (hm:xs.length+ys.length<=maxLen) (hb:(xs.length+ys.length)*da<=140737488355328) (hz:xs++ys=zs) (hn:xs.length+ys.length=n):OK P (.app xs ys len k da) (.TE zs n)
 |nz {b:Int} (h:b≠0):OK P (.nz b) .ok
 |nn {b:Int} (h:0<=b):OK P (.nn b) .ok
 |str {b:ByteArray} {lo hi:Int} (h0:0<=lo) (h1:lo.toNat<=hi.toNat) (h2:0<=hi) (h3:hi.toNat<=b.size):OK P (.str b lo hi) .ok
 |ch {b:ByteArray} {i:Int} {c:UInt8} (h0:0<=i) (h:b[i.toNat]?=some c):OK P (.ch b i) (.byte c)
 |cat {n:Nat} (h:n<=maxLen):OK P (.cat n) .ok
 |pr {p:Prop} (a:VA) (h:p):OK P (.pr p) (.va a)
 |sd {p:Sd} {o:bY} (h:p.ok):OK P (.sd p) o
 |bm {xs:List (List D)} {s:ByteArray} (h:∃ns:List Int,xs=ns.map (λn=>[.v (.int .u8 n)])/\s=⟨(ns.map λn=>UInt8.ofNat n.toNat).toArray⟩):OK P (.bm xs) (.bytes s)
 |Mf {c:List D} {z:Int} {n:Nat} {d:D} (h0:0<=z) (h1:z<n) (h:c[z.toNat]?=some d):OK P (.Mf c z n) (.one d)
 |call {f:FuncId} {args:List AV} {r:AV} (h:ij P f args (·=r)):OK P (.call f args) (.ret r)
 |tw {c:fp} {args:List AV} {r:AV} (h:OU P c args r):OK P (.tw c args) (.ret r)
 |oe {f:FuncId} {nI fa:List AV} {h H H':List an} {l:List Nat} {r:AV} (ha:nI=fa.map (AV.aL (rn l h.length))) (hd:qZ l=true) (hb:l.map (λj=>h[j]?)=H.map λB=>some (B.aL (rn l h.length))) (hl:(fa.all (AV.aQ H.length)&&H.all (an.aQ H.length))=true)
  (hc:cF P f fa H λr1 h1=>r1=r/\h1=H'):OK P (.oe f nI h) (.Qs l fa H r H')
 |Yh {f:FuncId} {nI fa:List AV} {h H H':List an} {l:List Nat} {r:AV} (ve:VD H) (hv:VD H') (ha:nI=fa.map (AV.aL (rn l h.length))) (hd:qZ l=true) (hb:l.map (λj=>h[j]?)=H.map λB=>some (B.lY (rn l h.length))) (hl:(fa.all (AV.aQ H.length)&&H.all (an.zT H.length))=true)
  (hc:cF P f fa H λr1 h1=>r1=r/\h1=H'):OK P (.oe f nI h) (.FD l fa H r H')
 |rq {f:FuncId} {nI fa:List AV} {h H:List an} {l:List Nat} {r:AV} (ha:nI=fa.map (AV.aL (rn l 0))) (hd:qZ l=true) (hb:l.map (λj=>h[j]?)=H.map λB=>some (B.aL (rn l 0))) (hl:(fa.all (AV.aQ H.length)&&H.all (an.aQ H.length)&&r.aQ H.length)=true)
    (hc:cF P f fa H λr1 h1=>r1=r/\h1=H):OK P (.oe f nI h) (.rq l fa H r)
 |jw {f:FuncId} {args:List AV} {h h':List an} {r:AV} (hc:cF P f args h λr1 h1=>r1=r/\h1=h'):OK P (.jw f args h) (.S0 r h')
def BF(P:aqA)(t:TypeId)(cs:aqx AV)(off:Nat):aqz AV:=
 match ml P t,fW P t with
 |some true,some k=>bif cn (off+k) cs.length then some (.agg ((cs.drop off).take k))else none
 |some false,some _=>cs[off]?
 |_,_=>none
def yg(h:aqx an)(p:AV):aqz (aqx AV×Nat):=
 match p with
 | .ptr n off=>match h[n]? with
   |some (.cells cs)=>some (cs,off)
   |_=>none
 | .bJ xs i off=>match xs[i]? with
   |some c=>some (c.map .d,off)
   |none=>none
 |_=>none
def O0(x:AV)(i:aqz Int)(k:Nat)(a:bY):aqz (AV×In):=
 match x.fM,i,a with
 |some xs,some z, .el c=>bif c.length==k then some (.bJ [c] 0 0, .el xs z)else none
 |_,_,_=>none
def RF(P:aqA)(T:TypeId)(x i:AV)(a:bY):aqz (AV×In):=
 match eJ P T with
 |some (_,k)=>
  match x with
  | .row n off len _ k'=>match i.int? with
    |some z=>bif k'==k then some (.ptr n (off+z.toNat*k), .lt z len)else none
    |none=>none
  |x=>O0 x i.int? k a
 |none=>match uB P T,x,i.int? with
  |some (n,_,k), .ptr b off,some z=>some (.ptr b (off+z.toNat*k), .lt z n)
  |some (n,_,k), .bJ [c] 0 0,some z=>match a with
   | .one d=>bif k==1 then some (.bJ [[d]] 0 0, .Mf c z n)else none
   |_=>none
  |_,_,_=>none
def Nu(P:aqA)(T:TypeId)(x:AV)(a:bY):aqz (AV×In):=
 match x with
 | .d (.v (.string s))=>bif ia P T then some (.d (.v (.int .i64 s.size)), .none)else none
 | .row _ _ len _ _=>bif (eJ P T).isSome then some (.d (.v (.int .i64 len)), .none)else none
 |x=>match x.fM,a with
  |some xs, .nat n=>bif (eJ P T).isSome then some (.d (.v (.int .i64 n)), .len xs)else none
  |_,_=>none
def oN(l:aqz Int)(d:Nat):Nat:=match l with|some z=>z.toNat|none=>d
def Du(ρ:Operand->AV):aqz Operand->aqz (aqz Int)
 |none=>some none
 |some y=>match (ρ y).int? with
  |some z=>some (some z)
  |none=>none
def Tk(P:aqA)(T:TypeId)(ρ:Operand->AV)(x:AV)(lo hi mx:aqz Operand)(a:bY):aqz (AV×In):=
 match mx with
 |none=>match Du ρ lo,Du ρ hi with
  |some l,some h=>match x with
   | .d (.v (.string b))=>bif ia P T then some (.d (.v (.string (b.extract (oN l 0) (oN h b.size)))), .str b (l.getD 0) (h.getD b.size))else none
   | .ptr n off=>match uB P T,l,h with
     |some (m,_,k),none,none=>bif cn m 4096&& !cn m 0 then some (.row n off m m k, .none)else none
     |_,_,_=>none
   |x=>match x.fM,eJ P T,a with
    |some xs,some (_,k), .list ys=>some (.d (.sl ys), .sub xs (l.getD 0) h k)
    |_,_,_=>none
  |_,_=>none
 |some m=>match lo,hi,ρ m with
  |none,some y, .d (.v (.int _ 0))=>match x.fM,eJ P T,ρ y,a with
   |some xs,some (_,k), .d (.v (.int _ 0)), .list _=>some (.full [], .sub xs 0 (some 0) k)
   |_,_,_,_=>none
  |_,_,_=>none
def Jy(h:aqx an)(k:Nat)(x:AV):aqz (aqx (aqx D)):=
 match x with
 | .row n off len _ k'=>match h[n]? with
   |some (.cells cs)=>match nX ((cs.drop off).take (len*k))with
    |some ds=>bif k'==k&&cn (off+len*k) cs.length&&((cs.drop off).take (len*k)).all AV.kE then some (oI k len ds)else none
    |none=>none
   |_=>none
 |x=>x.fM
def Nx(P:aqA)(T:TypeId)(h:aqx an)(x y:AV)(a:bY):aqz (AV×aqx an×In):=
 match eJ P T,a with
 |some (e,k), .TE zs n'=>match iu P e,qF P e with
  |some z,some da=>bif cn 1 k&&z.cells.toList.length==k then
   match Jy h k y with
   |some ys=>match x with
    | .own n xs=>match h[n]? with
      |some (.front e' k' len)=>bif e'==e&&k'==k then some (.own n zs,h.set n (.front e k n'), .app xs ys len k da)else none
      |_=>none
    | .d (.v (.slice none 0 0))=>some (.own h.length zs,h++[.front e k n'], .app [] ys 0 k da)
    | .full xs=>some (.own h.length zs,h++[.front e k n'], .app xs ys xs.length k da)
    |_=>none
   |none=>none
   else none
  |_,_=>none
 |_,_=>none
def Rl(P:aqA)(T:TypeId)(ps:aqx (Nat×AV)):aqz AV:=
 match NJ P T,iu P T with
 |some places,some z=>match pH places (z.cells.toList.map λu=> .d (.v u)) ps with
  |some cs=>bif (ps.all λp=>p.2.jJ)&&z.cells.toList.all Value.oneCell' then some (.agg cs)else none
  |none=>none
 |_,_=>none
def SZ(P:aqA)(T:TypeId)(len:Nat)(ps:aqx (Nat×AV)):aqz AV:=
 match eJ P T with
 |some (e,k)=>match iu P e with
  |some z=>match pH (vz k 0 len) (tH len (z.cells.toList.map λu=> .d (.v u))) ps with
   |some cs=>match nX cs with
    |some ds=>bif cn 1 k&&cn (len*k) 16777216&&z.cells.toList.length==k&&z.cells.toList.all Value.oneCell'&&(ps.all λp=>p.2.jJ)then some (.full (oI k len ds))else none
    |none=>none
   |none=>none
  |none=>none
 |none=>none
def IL(P:aqA)(T:TypeId)(op:BinOp)(x y:AV):aqz (AV×In):=
 match x,y with
 | .d (.v (.int k a)), .d (.v (.int k' b))=>
   match R3 op k a b with
   |some v=>bif xt k k' then some (.d (.v v), .nz b)else none
   |none=>match RO op k a b with
    |some v=>some (.d (.v v), .nn b)
    |none=>match Q2 op k a b with
     |some v=>bif xt k k' then some (.d (.v v), .none)else none
     |none=>none
 | .d (.v (.string a)), .d (.v (.string b))=>match NQ op a b with
   |some v=>some (.d (.v v), .none)
   |none=>match op with
    | .add=>some (.d (.v (.string (a++b))), .cat (a.size+b.size))
    |_=>none
 | .d (.v (.bool a)), .d (.v (.bool b))=>match P1 op a b with
   |some v=>bif Bk P T then some (.d (.v v), .none)else none
   |none=>none
 | .agg xs, .agg ys=>match Hu P T xs ys with
   |some b=>match yd op b with
    |some v=>some (.d (.v v), .none)
    |none=>none
   |none=>none
 |_,_=>none
def MH(P:aqA)(src dst:TypeId)(x:AV)(a:bY):aqz (AV×In):=
 match x with
 | .d (.v (.int _ n))=>match qR P src,qR P dst with
   |some _,some k=>some (.d (.v (.int k (k.wrap n))), .none)
   |_,_=>none
 | .d (.v (.string b))=>bif ia P src&&ia P dst then some (.d (.v (.string b)), .none)else none
 |x=>match x.fM,eJ P src,a with
  |some xs,some (e,_), .bytes s=>bif CP P e&&ia P dst then some (.d (.v (.string s)), .bm xs)else none
  |_,_,_=>none
def La(P:aqA)(T:TypeId)(x:AV)(f:Nat):aqz AV:=
 match tt P T f,x with
 |some (off,k,true), .agg cs=>bif cn (off+k) cs.length then some (.agg ((cs.drop off).take k))else none
 |some (off,_,false), .agg cs=>cs[off]?
 |_,_=>none
def Im(h:aqx an):aqz AV->aqz (AV×aqx an×In)
 |some x=>some (x,h, .none)
 |none=>none
def As(h:aqx an):aqz (AV×In)->aqz (AV×aqx an×In)
 |some (x,i)=>some (x,h,i)
 |none=>none
mutual
def AV.nrm:AV->AV
 | .full xs=> .d (.sl xs)
 | .d (.v (.slice none 0 0))=> .d (.sl [])
 | .agg cs=> .agg (AV.yS cs)
 | .bz cs=> .bz (AV.yS cs)
 |x=>x
def AV.yS:aqx AV->aqx AV
 |[]=>[]
 |x::l=>x.nrm::AV.yS l
end
def AV.C5:AV->AV
 | .fn f cs=>match AV.x9 cs with
   |some l=> .hid (.fn f l)
   |none=> .fn f cs
 |x=>x
def AV.arg(x:AV):AV:=((x.bw 0).nrm).C5
def AV.xI(x:AV):AV:=(x.bw 0).nrm
def sdI:Sd->In
 | .no=> .none
 |p=> .sd p
def xR:aqz (AV×aqx an×Sd)->aqz (AV×aqx an×In)
 |some (x,h,p)=>some (x,h,sdI p)
 |none=>none
def vU(P:aqA)(op:Op)(ρ:Operand->AV)(h:aqx an)(a:bY):aqz (AV×aqx an×In):=
 match op with
 | .move x| .assign x=>some (ρ x,h, .none)
 | .pick c x y=>match a with
   | .bit b=>some (bif b then ρ x else ρ y,h, .bit (ρ c))
   |_=>none
 | .alloc e=>match iu P e with
   |some z=>some (.ptr h.length 0,h++[an.cells (z.cells.toList.map λu=> .d (.v u))], .none)
   |none=>none
 | .box _ x=>bif (ρ x).jJ then some (.ptr h.length 0,h++[an.cells (ρ x).cells], .none)else none
 | .load t p=>match yg h (ρ p)with
   |some (cs,off)=>match BF P t cs off with
    |some x=>some (x,h, .none)
    |none=>none
   |none=>none
 | .store t p x=>match ρ p with
   | .ptr n off=>match h[n]? with
     |some (.cells cs)=>match fW P t with
      |some k=>bif k==(ρ x).cells.length&&(ρ x).jJ&&cn (off+(ρ x).cells.length) cs.length then some (.d (.v undef),h.set n (.cells (jm cs off (ρ x).cells)), .none)else none
      |none=>none
     |_=>none
   |_=>none
 | .nilCheck x=>match ρ x with
   | .ptr n off=>some (.ptr n off,h, .none)
   | .bJ xs i off=>some (.bJ xs i off,h, .none)
   | .fn f cs=>some (.fn f cs,h, .none)
   |_=>none
 | .fieldAddr S x f=>match tt P S f with
   |some (fo,_,_)=>match ρ x with
    | .ptr n off=>some (.ptr n (off+fo),h, .none)
    | .bJ xs i off=>some (.bJ xs i (off+fo),h, .none)
    |_=>none
   |none=>none
 | .field T x f=>Im h (La P T (ρ x) f)
 | .indexAddr T x i=>As h (RF P T (ρ x) (ρ i) a)
 | .index T x i=>match ρ x,(ρ i).int?,a with
   | .d (.v (.string b)),some z, .byte c=>bif ia P T then some (.d (.v (.int .u8 c.toNat)),h, .ch b z)else none
   |_,_,_=>none
 | .build T ps=>Im h (Rl P T (ps.toList.map λp=>(p.1,ρ p.2)))
 | .buildSlice T len ps=>Im h (SZ P T len (ps.toList.map λp=>(p.1,ρ p.2)))
 | .slice T x lo hi mx=>As h (Tk P T ρ (ρ x) lo hi mx a)
 | .extract x i=>match ρ x with
   | .bz cs=>match cs[i]? with
     |some c=>some (c,h, .none)
     |none=>none
   |_=>none
 | .makeFunc (.func f) first c7=>match Qv f (first.toList.map ρ) (c7.toList.map ρ)with
   |some x=>some (x,h, .none)
   |none=>none
 | .binOp op T x y _=>As h (IL P T op (ρ x) (ρ y))
 | .unOp op _ x=>match ρ x with
   | .d (.v u)=>match Jm op u with
     |some v=>some (.d (.v v),h, .none)
     |none=>none
   |_=>none
 | .convert s t x=>As h (MH P s t (ρ x) a)
 | .call c=>match c.callee with
   | .builtin .len=>match c.args.toList,c.argTypes.toList with
     |[x],[T]=>As h (Nu P T (ρ x) a)
     |_,_=>none
   | .builtin .append=>match c.args.toList,c.argTypes.toList with
     |[x,y],[T,U]=>bif (eJ P U).isSome then Nx P T h (ρ x) (ρ y) a else none
     |_,_=>none
   | .builtin .max=>match BR true (c.args.toList.map ρ)with
     |some (k,a)=>some (.d (.v (.int k a)),h, .none)
     |none=>none
   | .builtin .min=>match BR false (c.args.toList.map ρ)with
     |some (k,a)=>some (.d (.v (.int k a)),h, .none)
     |none=>none
   | .value f=>match ρ f,a with
     | .fn g c7, .ret r=>bif ((c.args.toList.map ρ++c7).map AV.arg).all (AV.aQ 0)&&r.aQ 0 then some (r,h, .call g ((c.args.toList.map ρ++c7).map AV.arg))else none
     | .fn g c7, .S0 r h'=>some (r,h', .jw g (c.args.toList.map ρ++c7) h)
     | .fn g c7, .Qs l _ _ r H'=>some (r.aL (rn l h.length),gZ l (H'.map (an.aL (rn l h.length))) h, .oe g ((c.args.toList.map ρ++c7).map AV.xI) h)
     | .fn g c7, .FD l _ _ r H'=>some (r.aL (rn l h.length),gZ l (H'.map (an.lY (rn l h.length))) h, .oe g ((c.args.toList.map ρ++c7).map AV.xI) h)
     | .fn g c7, .rq l _ _ r=>some (r.aL (rn l 0),h, .oe g ((c.args.toList.map ρ++c7).map AV.xI) h)
     | .hid q, .ret r=>bif ((c.args.toList.map ρ).map AV.arg).all (AV.aQ 0)&&r.aQ 0 then some (r,h, .tw q ((c.args.toList.map ρ).map AV.arg))else none
     |_,_=>none
   |_=>none
 |op=>xR (qd P op ρ h)
theorem Ip:∀l,AV.yS l=l.map AV.nrm
 |[]=>by simp [AV.yS]
 |x::l=>by simp [AV.yS,Ip l]
theorem aD.nrm{G:Gh}{w:aqC}{u:aqB}{x:AV}(h:aD G w u x):aD G w u x.nrm:=by
 have gk:∀(vs:Array aqB)(cs:aqx AV),(∀(i:Nat)(u:aqB)(c:AV),vs[i]?=some u->cs[i]?=some c->aD G w u c.nrm)->∀(i:Nat)(u:aqB)(c:AV),vs[i]?=some u->(AV.yS cs)[i]?=some c->aD G w u c:=by
  intro vs cs ih i u c hu hc;rw[Ip,apQ]at hc;cases hx:cs[i]? with
  |none=>rw[hx]at hc;cases hc
  |some x=>rw[hx]at hc;cases hc;exact ih i u x hu hx
 induction h with
 |agg vs cs hl _ ih=>rw[AV.nrm];exact .agg vs _ (by rw[Ip,apO];exact hl) (gk vs cs ih)
 |bz vs cs hl _ ih=>rw[AV.nrm];exact .bz vs _ (by rw[Ip,apO];exact hl) (gk vs cs ih)
 |full xs hp hf=>rw[AV.nrm];exact .d hp
 | @d u x h=>
   by_cases hx:x= .v (.slice none 0 0)
   ·subst hx;cases h with|v=>simp only[AV.nrm];exact .d Gt
   ·have:(AV.d x).nrm= .d x:=by
     unfold AV.nrm;split<;>simp_all
    rw[this];exact .d h
 |own n xs h hp hle hf=>simp only[AV.nrm];exact .own n xs h hp hle hf
 |ptr n off h=>simp only[AV.nrm];exact .ptr n off h
 |bJ xs i off b o u x hx hS hu=>simp only[AV.nrm];exact .bJ xs i off b o u x hx hS hu
 |row n off len cap k h hl hm=>simp only[AV.nrm];exact .row n off len cap k h hl hm
 |fn f vs cs hl h=>simp only[AV.nrm];exact .fn f vs cs hl h
 |mp n h=>simp only[AV.nrm];exact .mp n h
 |cY n h=>simp only[AV.nrm];exact .cY n h
 |vec n o len L k h hs hL hf=>simp only[AV.nrm];exact .vec n o len L k h hs hL hf
 |dq n i j L k h hs hL hf=>simp only[AV.nrm];exact .dq n i j L k h hs hL hf
 |hid h h1=>simp only[AV.nrm];exact .hid h h1
 |dead u=>simp only[AV.nrm];exact .dead u
theorem AV.Le.C5(x:AV):AV.Le x x.C5:=λG w u h=>by
 unfold AV.C5;split
 ·next f cs=>
  split
  ·next l e=>
   have:=h.cap (.fn f l) (by simp only[AV.cap,e]);cases h with|fn=>exact .hid this rfl
  ·exact h
 ·exact h
theorem AV.Le.arg(x:AV):AV.Le x x.arg:=λ_ _ _ h=>AV.Le.C5 _ _ _ _ (h.bw 0).nrm
theorem cF.args{P:aqA}{f:FuncId}{as:aqx AV}{h:aqx an}{K:AV->aqx an->Prop}(hc:cF P f as h K)(bs:aqx AV)(hl:as.length=bs.length)(hle:∀(i:Nat)(c d:AV),bs[i]?=some c->as[i]?=some d->AV.Le c d):cF P f bs h K:=
 ⟨hc.1,λG w vs hi hs hr=>hc.2 G w vs hi (hs.trans hl.symm) λi u d hu hd=>by
  have aH:i<bs.length:=by rw[<-hl];exact(apJ.1 hd).1
  exact hle i _ d (apN aH) hd G w u (hr i u _ hu (apN aH))⟩
theorem cF.Z0{P:aqA}{f:FuncId}{as:aqx AV}{h:aqx an}{K:AV->aqx an->Prop}(hc:cF P f (as.map AV.arg) h K):cF P f as h K:=
 hc.args as (by rw[apO]) λi c d hc hd=>by
  rw[apQ,hc]at hd;cases hd;exact AV.Le.arg c
theorem AV.Le.xI(x:AV):AV.Le x x.xI:=λ_ _ _ h=>(h.bw 0).nrm
theorem cF.KX{P:aqA}{f:FuncId}{as:aqx AV}{h:aqx an}{K:AV->aqx an->Prop}(hc:cF P f (as.map AV.xI) h K):cF P f as h K:=
 hc.args as (by rw[apO]) λi c d hc hd=>by
  rw[apQ,hc]at hd;cases hd;exact AV.Le.xI c
theorem V9(l:aqx fp):(l.map fp.av).all (AV.aQ 0)=true:=by
 rw[ap9];intro x hx;obtain⟨c,_,rfl⟩:=List.mem_map.1 hx;cases c<;>rfl
theorem OU.use{P:aqA}{q:fp}{args:aqx AV}{r:AV}{h:aqx an}{C:AV->aqx an->Prop}(hc:OU P q (args.map AV.arg) r)(ha:(args.map AV.arg).all (AV.aQ 0)=true)(hr:r.aQ 0=true)(hC:C r h):∃g as,q.app args=some (g,as)/\cF P g as h C:=by
 obtain⟨g,as,e,hc⟩:=hc;cases q with
 |d x=>simp [fp.app]at e
 |bJ c off=>simp [fp.app]at e
 |fn g' cs=>
  simp only[fp.app,Option.some.injEq,Prod.mk.injEq]at e;obtain⟨rfl,rfl⟩:=e;refine⟨g',_,rfl,cF.args (hc.use (h:=h) (C:=C) (by rw[List.all_append,ha,V9];rfl) hr hC) _ (by simp) λi c d h1 h2=> ?_⟩;by_cases hi:i<args.length
  ·rw[apT hi]at h1;rw[apT (by simpa using hi),apQ,h1]at h2;cases h2;exact AV.Le.arg c
  ·rw[apZ (by omega)]at h1;rw[apZ (by simpa using hi),apO,h1]at h2;cases h2;exact AV.Le.refl c
 |dU g' cs=>
  simp only[fp.app,Option.some.injEq,Prod.mk.injEq]at e;obtain⟨rfl,rfl⟩:=e;refine⟨g',_,rfl,cF.args (hc.use (h:=h) (C:=C) (by rw[List.all_append,ha,V9];rfl) hr hC) _ (by simp) λi c d h1 h2=> ?_⟩;by_cases hi:i<(cs.map fp.av).length
  ·rw[apT hi]at h1 h2;rw[h1]at h2;cases h2;exact AV.Le.refl c
  ·rw[apZ (by omega)]at h1 h2;rw[apQ,h1]at h2;cases h2;exact AV.Le.arg c
theorem eH{α:Type}{b:Bool}{x y:α}(h:(bif b then some x else none)=some y):b=true/\x=y:=by
 cases b with
 |true=>exact⟨rfl,ap2 h⟩
 |false=>cases h
theorem nF{α:Type}{b:Bool}{x:aqz α}{y:α}(h:(bif b then x else none)=some y):b=true/\x=some y:=by
 cases b with
 |true=>exact⟨rfl,h⟩
 |false=>cases h
section
variable {P:aqA} {ρ:Operand->AV} {h h':aqx an} {a:bY} {i:In} {x:AV} {C:AV->aqx an->Prop}
theorem OK.Lt{x:AV}{b:Bool}(h:OK P (.bit x) (.bit b)):x= .d (.v (.bool b)):=by
 cases h with|bit h=>subst h;rfl
theorem RQ{t:TypeId}{p:AV}{cs:aqx AV}{off:Nat}{K:AV->Prop}(h1:yg h p=some (cs,off))(h2:BF P t cs off=some x)(hK:K x):oK P t h p K:=by
 have key:(match ml P t,fW P t with
     |some true,some k=>gJ (cn (off+k) cs.length) (K (.agg ((cs.drop off).take k)))
     |some false,some _=>match cs[off]? with
      |some c=>K c
      |none=>False
     |_,_=>False):=by
  unfold BF at h2;split at h2
  ·next k e1 e2=>
   obtain⟨h3,rfl⟩:=eH h2;exact bS.2 ⟨h3,hK⟩
  ·next k e1 e2=>rw[h2];exact hK
  ·cases h2
 unfold oK s8;unfold yg at h1;split at h1
 ·split at h1
  ·next bP e=>cases h1;simp only[e];exact key
  ·cases h1
 ·split at h1
  ·next c e=>cases h1;simp only[e];exact key
  ·cases h1
 ·cases h1
theorem ad0{y:AV}{z:aqz Int}{k:Nat}(h1:O0 y z k a=some (x,i))(bQ:OK P i a):∃xs w c,y.fM=some xs/\z=some w/\0<=w/\xs[w.toNat]?=some c/\c.length=k/\x= .bJ [c] 0 0:=by
 unfold O0 at h1;split at h1
 ·next xs w c hx=>
  obtain⟨hk,he⟩:=eH h1;cases he
  cases bQ with
  |el h0 hc=>exact⟨_,_,_,hx,rfl,h0,hc,by simpa using hk,rfl⟩
 ·cases h1
theorem ae1{T:TypeId}{y z:AV}{K:AV->Prop}(h1:RF P T y z a=some (x,i))(bQ:OK P i a)(hK:K x):tX P T y z K:=by
 unfold RF at h1;unfold tX;cases hT:eJ P T with
 |some p=>
  obtain⟨e,k⟩:=p;simp only[hT]at h1 ⊢;cases y with
  |row n off len cap k'=>
   simp only at h1 ⊢;split at h1
   ·next w hw=>
    obtain⟨hk,he⟩:=eH h1;cases he
    cases bQ with|lt h0 hl=>simp only[hw];exact bS.2 ⟨hk,h0,hl,hK⟩
   ·cases h1
  |_=>
   obtain⟨xs,w,c,e1,e2,e3,e4,e5,rfl⟩:=ad0 h1 bQ;simp only[e1,e2,e4,e5];exact⟨e3,trivial,hK⟩
 |none=>
  simp only[hT]at h1 ⊢;split at h1
  ·next n e k b off w hA hw=>
   cases h1
   simp only[hA,hw];cases bQ with|lt h0 hl=>exact⟨h0,hl,hK⟩
  ·next n e k c w hA hw=>
   split at h1
   ·next d=>
    obtain⟨hb,he⟩:=eH h1;cases he;simp only[hA,hw];cases bQ with|Mf h0 hl h=>exact bS.2 ⟨hb,h0,hl,by simp only[List.getElem?_cons_zero,ap3,h];exact hK⟩
   ·cases h1
  ·cases h1
theorem api{T:TypeId}{y:AV}{K:Nat->Prop}{C:AV->Prop}(h1:Nu P T y a=some (x,i))(bQ:OK P i a)(hK:C x)(hc:∀n:Nat,C (.d (.v (.int .i64 n)))->K n):sH P T y K:=by
 unfold Nu at h1;unfold sH;split at h1
 ·obtain⟨hb,he⟩:=eH h1;cases he;exact bS.2 ⟨hb,hc _ hK⟩
 ·obtain⟨hb,he⟩:=eH h1;cases he;exact bS.2 ⟨hb,hc _ hK⟩
 ·next n1 n2=>
  split at h1
  ·next xs n hx=>
   obtain⟨hb,he⟩:=eH h1;cases he;cases bQ with
   |len hl=>
    subst hl;split
    ·next s=>exact absurd rfl (n1 s)
    ·next a b c d e=>exact absurd rfl (n2 a b c d e)
    ·simp only[hx];exact bS.2 ⟨hb,hc _ hK⟩
  ·cases h1
theorem aia{y:aqz Operand}{l:aqz Int}(h1:Du ρ y=some l):(y=none/\l=none)\/∃o z,y=some o/\l=some z/\(ρ o).int?=some z:=by
 unfold Du at h1;cases y with
 |none=>cases h1;exact .inl ⟨rfl,rfl⟩
 |some o=>
  simp only at h1;split at h1
  ·next z hz=>cases h1;exact .inr ⟨o,z,rfl,rfl,hz⟩
  ·cases h1
theorem wQ{y:aqz Operand}{l:aqz Int}{d:Nat}{K:Nat->Prop}(h1:Du ρ y=some l)(h0:∀z,l=some z->0<=z)(hK:K (oN l d)):j0 ρ y d K:=by
 rcases aia h1 with⟨rfl,rfl⟩|⟨o,z,rfl,rfl,hz⟩
 ·exact hK
 ·simp only[j0,hz];exact⟨h0 z rfl,hK⟩
theorem amB{T:TypeId}{y:AV}{lo hi mx:aqz Operand}{K:AV->Prop}(h1:Tk P T ρ y lo hi mx a=some (x,i))(bQ:OK P i a)(hK:K x):vn P T ρ y lo hi mx K:=by
 unfold Tk at h1;unfold vn;split at h1
 ·split at h1
  ·next l hh hl qD=>
   split at h1
   ·next b=>
    obtain⟨hb,he⟩:=eH h1;cases he;cases bQ with
    |str h0 h2 h3 h4=>
     refine bS.2 ⟨hb,wQ qD (λz e=>by subst e;exact h3) ?_⟩;have e1:oN hh b.size=(hh.getD b.size).toNat:=by cases hh<;>simp [oN]
     have e2:oN l 0=(l.getD 0).toNat:=by cases l<;>simp [oN]
     rw[e1];refine⟨h4,wQ hl (λz e=>by subst e;exact h0) ?_⟩;rw[e2];rw[e1,e2]at hK;exact⟨h2,hK⟩
   ·next n off=>
    split at h1
    ·next m e k hT=>
     obtain⟨hb,he⟩:=eH h1;cases he;simp only[hT];generalize cn m 4096=q at hb ⊢;rw[apL]at hb;refine bS.2 ⟨hb.1,wQ qD (λz e=>by cases e) (bS.2 ⟨dI.2 (apU _),wQ hl (λz e=>by cases e) (bS.2 ⟨?_,?_⟩)⟩)⟩
     ·rw[apL];exact⟨dI.2 (Nat.zero_le _),hb.2⟩
     ·show K (.row n (off+0*k) (m-0) (m-0) k);rw[Nat.zero_mul,Nat.add_zero,Nat.sub_zero];exact hK
    ·cases h1
   ·next vM j6=>
    split at h1
    ·next xs e k ys hx hT=>
     cases h1
     dsimp only;split
     ·next b=>exact absurd rfl (vM b)
     ·next n off=>exact absurd rfl (j6 n off)
     ·simp only[hx,hT];cases hh with
      |none=>
       cases bQ with
       |PR h0 h2 hk he=>
        refine⟨hk,wQ qD (λz e=>by cases e) ⟨apU _,wQ hl (λz e=>by subst e;exact h0) ?_⟩⟩;have e2:oN l 0=(l.getD 0).toNat:=by cases l<;>simp [oN]
        rw[e2];refine⟨h2,?_⟩;rw[show oN none xs.length=xs.length from rfl,List.take_length,he];exact hK
      |some z=>
       cases bQ with
       |sub h0 h2 h3 h4 hk he=>
        refine⟨hk,wQ qD (λz e=>by cases e;exact h3) ⟨h4,wQ hl (λz e=>by subst e;exact h0) ?_⟩⟩;have e2:oN l 0=(l.getD 0).toNat:=by cases l<;>simp [oN]
        rw[e2];refine⟨h2,?_⟩;rw[show oN (some z) xs.length=z.toNat from rfl,he];exact hK
    ·cases h1
  ·cases h1
 ·split at h1
  ·next m _ _ y' _ hm=>
   split at h1
   ·next xs e k _ _ ys hx hT hy=>
    cases h1
    cases bQ with
    |sub h0 h2 h3 h4 hk he=>
     simp only[hx,hT];refine⟨hk,?_⟩;simp only[j0,hm,hy,AV.int?];refine⟨Int.le_refl _,Nat.zero_le _,Int.le_refl _,?_,by simpa using hK⟩;first|rfl|trivial
   ·cases h1
  ·cases h1
theorem Qm{k:Nat}{y:AV}{ys:aqx (aqx D)}{K:aqx (aqx D)->Prop}(h1:Jy h k y=some ys)(hy:∀c∈ys,c.length=k)(hK:K ys):vC h k y K:=by
 unfold Jy at h1;unfold vC;split at h1
 ·split at h1
  ·next cs e=>
   split at h1
   ·next ds e2=>
    obtain⟨hb,rfl⟩:=eH h1;simp only[e,e2];exact bS.2 ⟨hb,hK⟩
   ·cases h1
  ·cases h1
 ·next hn=>
  split
  ·next n off len cap k'=>exact absurd rfl (hn n off len cap k')
  ·simp only[h1];exact⟨hy,hK⟩
theorem ank{T:TypeId}{y z:AV}(h1:Nx P T h y z a=some (x,h',i))(bQ:OK P i a)(hC:C x h'):wj P T h y z C:=by
 unfold Nx at h1;unfold wj;split at h1
 ·next e k zs n' hT=>
  simp only[hT];split at h1
  ·next zv da hz pR=>
   simp only[hz,pR];obtain⟨hb,h1⟩:=nF h1;refine bS.2 ⟨hb,?_⟩;split at h1
   ·next ys lq=>
    split at h1
    ·next n xs=>
     split at h1
     ·next e' k' len hn=>
      obtain⟨hc,he⟩:=eH h1;cases he;cases bQ with
      |app hl hx hy hm nD jq BZ=>
       subst jq;subst BZ;refine Qm lq hy ?_;simp only[hn];exact bS.2 ⟨hc,hl,hx,hm,nD,hC⟩
     ·cases h1
    ·cases h1
     cases bQ with
     |app hl hx hy hm nD jq BZ=>
      subst jq;subst BZ;refine Qm lq hy ?_;simp only[List.nil_append,apV,ap3]at hC hm nD ⊢;exact⟨hm,nD,hC⟩
    ·cases h1
     cases bQ with
     |app hl hx hy hm nD jq BZ=>
      subst jq;subst BZ;exact Qm lq hy ⟨hx,hm,nD,hC⟩
    ·cases h1
   ·cases h1
  ·cases h1
 ·cases h1
theorem apk{T:TypeId}{ps:aqx (Nat×AV)}{K:AV->Prop}(h1:Rl P T ps=some x)(hK:K x):yC P T ps K:=by
 unfold Rl at h1;unfold yC;split at h1
 ·next pl z e1 e2=>
  simp only[e1,e2];split at h1
  ·next cs e3=>obtain⟨hb,rfl⟩:=eH h1;simp only[e3];exact bS.2 ⟨hb,hK⟩
  ·cases h1
 ·cases h1
theorem ak7{T:TypeId}{len:Nat}{ps:aqx (Nat×AV)}{K:AV->Prop}(h1:SZ P T len ps=some x)(hK:K x):yM P T len ps K:=by
 unfold SZ at h1;unfold yM;split at h1
 ·next e k hT=>
  simp only[hT];split at h1
  ·next z hz=>
   simp only[hz];split at h1
   ·next cs gj=>
    simp only[gj];split at h1
    ·next ds tG=>obtain⟨hb,rfl⟩:=eH h1;simp only[tG];exact bS.2 ⟨hb,hK⟩
    ·cases h1
   ·cases h1
  ·cases h1
 ·cases h1
theorem acH{T:TypeId}{op:BinOp}{y z:AV}{K:AV->Prop}(h1:IL P T op y z=some (x,i))(bQ:OK P i a)(hK:K x):x6 P T op y z K:=by
 unfold IL at h1;unfold x6;split at h1
 ·split at h1
  ·next v e=>
   obtain⟨hb,he⟩:=eH h1;cases he;cases bQ with|nz h0=>simp only[e];exact bS.2 ⟨hb,h0,hK⟩
  ·next e=>
   simp only[e];split at h1
   ·next v e2=>
    cases h1
    cases bQ with|nn h0=>simp only[e2];exact⟨h0,hK⟩
   ·next e2=>
    simp only[e2];split at h1
    ·next v e3=>obtain⟨hb,he⟩:=eH h1;cases he;simp only[e3];exact bS.2 ⟨hb,hK⟩
    ·cases h1
 ·split at h1
  ·next v e=>cases h1;simp only[e];exact hK
  ·next e=>
   simp only[e];split at h1
   ·cases h1;cases bQ with|cat h=>exact⟨h,hK⟩
   ·cases h1
 ·split at h1
  ·next v e=>obtain⟨hb,he⟩:=eH h1;cases he;simp only[e];exact bS.2 ⟨hb,hK⟩
  ·cases h1
 ·split at h1
  ·next b e=>
   simp only[e];split at h1
   ·next v e2=>cases h1;simp only[e2];exact hK
   ·cases h1
  ·cases h1
 ·cases h1
theorem aeH{s t:TypeId}{y:AV}{K:AV->Prop}(h1:MH P s t y a=some (x,i))(bQ:OK P i a)(hK:K x):yH P s t y K:=by
 unfold MH at h1;unfold yH;split at h1
 ·split at h1
  ·next e1 e2=>cases h1;simp only[e1,e2];exact hK
  ·cases h1
 ·obtain⟨hb,he⟩:=eH h1;cases he;exact bS.2 ⟨hb,hK⟩
 ·next h8 h9=>
  split at h1
  ·next xs e k s' e1 e2=>
   obtain⟨hb,he⟩:=eH h1;cases he;cases bQ with
   |bm h=>
    obtain⟨ns,k1,k2⟩:=h;subst k2;split
    ·next k' n=>exact absurd rfl (h8 k' n)
    ·next b'=>exact absurd rfl (h9 b')
    ·simp only[e1,e2];exact bS.2 ⟨hb,ns,k1,hK⟩
  ·cases h1
theorem aae{T:TypeId}{y:AV}{f:Nat}{K:AV->Prop}(h1:La P T y f=some x)(hK:K x):xO P T y f K:=by
 unfold La at h1;unfold xO;split at h1
 ·next e=>obtain⟨hb,rfl⟩:=eH h1;simp only[e];exact bS.2 ⟨hb,hK⟩
 ·next e=>simp only[e,h1];exact hK
 ·cases h1
theorem QG{y:aqz AV}(h1:Im h y=some (x,h',i)):y=some x/\h'=h:=by
 cases y with
 |none=>cases h1
 |some y=>cases h1;exact⟨rfl,rfl⟩
theorem Dz{y:aqz (AV×In)}(h1:As h y=some (x,h',i)):y=some (x,i)/\h'=h:=by
 cases y with
 |none=>cases h1
 |some y=>cases h1;exact⟨rfl,rfl⟩
theorem Au{o:Oper}(h1:vU P o.op ρ h a=some (x,h',i))(bQ:OK P i a)(hC:C x h'):cz P o ρ h C:=by
 obtain⟨dst,op,type,pos,after,guard⟩:=o;simp only at h1;unfold vU at h1;unfold cz;split at h1
 ·cases h1;exact hC
 ·cases h1;exact hC
 ·next c y z=>
  split at h1
  ·next b=>
   cases h1
   simp only[OK.Lt bQ];cases b<;>simp_all
  ·cases h1
 ·split at h1
  ·next z e=>cases h1;simp only[e];exact hC
  ·cases h1
 ·obtain⟨hb,he⟩:=eH h1;cases he;exact bS.2 ⟨hb,hC⟩
 ·split at h1
  ·next cs off e=>
   split at h1
   ·next y e2=>cases h1;exact RQ e e2 hC
   ·cases h1
  ·cases h1
 ·split at h1
  ·next n off e=>
   split at h1
   ·next cs e2=>
    split at h1
    ·next k e3=>obtain⟨hb,he⟩:=eH h1;cases he;simp only[e,xJ,e2,e3];exact bS.2 ⟨hb,hC⟩
    ·cases h1
   ·cases h1
  ·cases h1
 ·split at h1
  ·next e=>cases h1;simp only[e];exact hC
  ·next e=>cases h1;simp only[e];exact hC
  ·next e=>cases h1;simp only[e];exact hC
  ·cases h1
 ·split at h1
  ·next e=>
   simp only[e];split at h1
   ·next e2=>cases h1;simp only[e2];exact hC
   ·next e2=>cases h1;simp only[e2];exact hC
   ·cases h1
  ·cases h1
 ·obtain⟨e,rfl⟩:=QG h1;exact aae e hC
 ·obtain⟨e,rfl⟩:=Dz h1;exact ae1 e bQ hC
 ·split at h1
  ·next b z c e1 e2=>
   obtain⟨hb,he⟩:=eH h1;cases he;cases bQ with
   |ch h0 hc=>simp only[e1,e2];refine bS.2 ⟨hb,h0,?_⟩;simp only[hc];exact hC
  ·cases h1
 ·obtain⟨e,rfl⟩:=QG h1;exact apk e hC
 ·obtain⟨e,rfl⟩:=QG h1;exact ak7 e hC
 ·obtain⟨e,rfl⟩:=Dz h1;exact amB e bQ hC
 ·split at h1
  ·next e=>
   split at h1
   ·next e2=>cases h1;simp only[e,e2];exact hC
   ·cases h1
  ·cases h1
 ·split at h1
  ·next e=>cases h1;simp only[e];exact hC
  ·cases h1
 ·obtain⟨e,rfl⟩:=Dz h1;exact acH e bQ hC
 ·unfold xv;split at h1
  ·next e=>
   split at h1
   ·next e2=>cases h1;simp only[e,e2];exact hC
   ·cases h1
  ·cases h1
 ·obtain⟨e,rfl⟩:=Dz h1;exact aeH e bQ hC
 ·next c=>
  split at h1
  ·next hc=>
   simp only[hc];split at h1
   ·next e1 e2=>obtain⟨e,rfl⟩:=Dz h1;simp only[e1,e2];exact api (C:=λx=>C x _) e bQ hC (λn hn=>hn)
   ·cases h1
  ·next hc=>
   simp only[hc];split at h1
   ·next e1 e2=>obtain⟨hb,h1⟩:=nF h1;simp only[e1,e2];exact bS.2 ⟨hb,ank h1 bQ hC⟩
   ·cases h1
  ·next hc=>
   simp only[hc];split at h1
   ·next e1=>cases h1;simp only[e1];exact hC
   ·cases h1
  ·next hc=>
   simp only[hc];split at h1
   ·next e1=>cases h1;simp only[e1];exact hC
   ·cases h1
  ·next f hc=>
   simp only[hc];split at h1
   ·next g c7 r e=>
    obtain⟨hb,he⟩:=eH h1;cases he;simp only[apL]at hb;simp only[e];cases bQ with|call jw=>exact(jw.use hb.1 hb.2 hC).Z0
   ·next g c7 r h2 e=>
    cases h1
    simp only[e];cases bQ with|jw jw=>exact jw.mono λr1 h1 ⟨e1,e2⟩=>by subst e1;subst e2;exact hC
   ·next g c7 l fa H r H' e=>
    cases h1
    simp only[e];cases bQ with|oe ha hd hb hl hc=>exact(ha▸(hc.oe hd hb hl).mono λr1 h1 ⟨e1,e2⟩=>by subst e1;subst e2;exact hC:cF P g _ _ _).KX
   ·next g c7 l fa H r H' e=>
    cases h1
    simp only[e];cases bQ with|Yh ve hv ha hd hb hl hc=>exact(ha▸(hc.oe hd (by rw[hb,alu ve]) (by rw[apL]at hl ⊢;exact⟨hl.1,al9 ve hl.2⟩)).mono λr1 h1 ⟨e1,e2⟩=>by subst e1;subst e2;rw[<-akS hv];exact hC:cF P g _ _ _).KX
   ·next g c7 l fa H r e=>
    cases h1
    simp only[e];cases bQ with|rq ha hd hb hl hc=>exact(ha▸(by have:=hc.rq hd hb hl [];rw[ap4]at this;exact this.mono λr1 h1 ⟨e1,e2⟩=>by subst e1;subst e2;exact hC):cF P g _ _ _).KX
   ·next q r e=>
    obtain⟨hb,he⟩:=eH h1;cases he;simp only[apL]at hb;simp only[e];cases bQ with|tw hq=>exact hq.use hb.1 hb.2 hC
   ·cases h1
  ·cases h1
 ·next op _=>
  unfold xR at h1;split at h1
  ·next y h2 p e=>
   cases h1
   simp only[e];refine⟨?_,hC⟩;cases p with
   |no=>trivial
   |lt n=>cases bQ with|sd h=>exact h
  ·cases h1
end
def iY:aqx (Nat×bY)->Nat->bY
 |[],_=> .none
 |(k,x)::l,i=>bif k==i then x else iY l i
def uL(i:In)(a:bY)(r:aqz (St×aqx (In×bY))):aqz (St×aqx (In×bY)):=
 match i with
 | .none=>r
 |i=>match r with
  |some (s,l)=>some (s,(i,a)::l)
  |none=>none
def BD:bY->Bool
 | .S0 .. | .Qs .. | .FD .. =>true
 |_=>false
def Bo(o:Oper):bY->Bool
 | .FD [] .. =>ck o==6
 |_=>false
def DN(P:aqA)(dr vk:Bool)(op:Op)(ρ:Operand->AV)(h:aqx an)(a:bY):aqz (AV×aqx an×In):=
 match a with
 | .va va=>bif dr&& !vk then none else match iq P op ρ h va with
   |some (x,h',p)=>some (x,h', .pr p)
   |none=>none
 |a=>vU P op ρ h a
def nH(P:aqA)(dr:Bool)(o:Oper)(j:Nat)(as:aqx (Nat×bY))(s:St):aqz (St×aqx (In×bY)):=
 bif dr&&BD (iY as (3*j+1))&& !Bo o (iY as (3*j+1))then none else
 match DN P dr (jv o) o.op (ev s) s.h (iY as (3*j+1))with
 |some (x,h',i)=>match iY as (3*j+2)with
  | .eq y=>uL i (iY as (3*j+1)) (some ((s.wh h').put o.dst y,[(.eq x, .eq y)]))
  |_=>uL i (iY as (3*j+1)) (some ((s.wh h').put o.dst x,[]))
 |none=>none
def C3(o:Oper)(s:St):St:=s.put o.dst (.d (.v undef))
def rh(l:aqx (In×bY)):aqz (St×aqx (In×bY))->aqz (St×aqx (In×bY))
 |some (s,m)=>some (s,l++m)
 |none=>none
def pD(P:aqA)(ops:Array Oper)(dr:Bool)(o:Oper)(j:Nat)(as:aqx (Nat×bY))(s:St):aqz (St×aqx (In×bY)):=
 match o.guard with
 |none=>nH P dr o j as s
 |some (g,want)=>match iY as (3*j)with
  | .bit b=>rh [(.bit (wI ops g s.t), .bit b)] (bif b==want then nH P dr o j as s else some (C3 o s,[]))
  | .Eb=>rh [(.bit (wI ops g s.t), .Eb)] (some (C3 o s,[]))
  |_=>none
def je(P:aqA)(ops:Array Oper)(dr:Bool):aqx Oper->Nat->aqx (Nat×bY)->St->aqz (St×aqx (In×bY))
 |[],_,_,s=>some (s,[])
 |o::rest,j,as,s=>match pD P ops dr o j as s with
  |some (s1,l)=>rh l (je P ops dr rest (j+1) as s1)
  |none=>none
def gC(P:aqA)(l:aqx (In×bY)):Prop:=∀p∈l,OK P p.1 p.2
section
variable {P:aqA} {ops:Array Oper} {dr:Bool} {o:Oper} {j:Nat} {as:aqx (Nat×bY)} {s s1:St} {l:aqx (In×bY)} {K:St->Prop}
theorem Hj{i:In}{a:bY}{r:aqz (St×aqx (In×bY))}(h:uL i a r=some (s1,l))(bQ:gC P l):∃m,r=some (s1,m)/\gC P m/\OK P i a:=by
 unfold uL at h;split at h
 ·exact⟨l,h,bQ, .none⟩
 ·split at h
  ·next s2 m=>
   cases h
   exact⟨m,rfl,λp hp=>bQ p (apS _ hp),bQ (i,a) apP⟩
  ·cases h
theorem vc{r:aqz (St×aqx (In×bY))}{m:aqx (In×bY)}(h:rh m r=some (s1,l))(bQ:gC P l):∃n,r=some (s1,n)/\gC P n/\gC P m:=by
 unfold rh at h;split at h
 ·next s2 n=>
  cases h
  exact⟨n,rfl,λp hp=>bQ p (List.mem_append_right _ hp),λp hp=>bQ p (List.mem_append_left _ hp)⟩
 ·cases h
def Lw(P:aqA)(dr:Bool)(o:Oper)(K:St->Prop)(s:St):Prop:=bif dr then Z2 P o K s else n5 P o K s
theorem aoh{x:AV}{h':aqx an}{i:In}{a:bY}(h1:vU P o.op (ev s) s.h a=some (x,h',i))(bQ:OK P i a)(hh:BD a=false)(hK:K ((s.wh h').put o.dst x)):Z2 P o K s:=by
 refine .inl ?_;unfold Ai;split
 ·next c hop=>
  split
  ·next f hc=>
   rw[hop]at h1;unfold vU at h1;simp only[hc]at h1;split at h1
   ·next g c7 r e=>
    obtain⟨hb,he⟩:=eH h1;cases he;simp only[apL]at hb;simp only[e];cases bQ with
    |call jw=>exact⟨_,hK,λe=>(jw.use hb.1 hb.2 ⟨rfl,rfl⟩).Z0⟩
   ·cases hh
   ·cases hh
   ·cases hh
   ·next g c7 l fa H r e=>
    cases h1
    simp only[e];cases bQ with|rq ha hd hb hl hc=>exact⟨_,hK,λe=>(ha▸hc.rq hd hb hl e:cF P g _ _ _).KX⟩
   ·next q r e=>
    obtain⟨hb,he⟩:=eH h1;cases he;simp only[apL]at hb;simp only[e];cases bQ with
    |tw hq=>
     have:=λh=>hq.use (h:=h) (C:=λr' h'=>r'=x/\h'=h) hb.1 hb.2 ⟨rfl,rfl⟩;obtain⟨g,cs,e1,_⟩:=this [];refine⟨g,cs,e1,x,hK,λe=> ?_⟩;obtain⟨g',bP,e2,h9⟩:=this (s.h++e);rw[e1]at e2;cases e2
     exact h9
   ·cases h1
  ·exact Au (C:=λx h'=>K ((s.wh h').put o.dst x)) h1 bQ hK
 ·exact Au (C:=λx h'=>K ((s.wh h').put o.dst x)) h1 bQ hK
theorem aol{o:Oper}{ρ:Operand->AV}{h h':aqx an}{fa:aqx AV}{H H':aqx an}{r x:AV}{i:In}(hk:ck o=6)(hr:vU P o.op ρ h (.FD [] fa H r H')=some (x,h',i)):h'=h++H'.map (an.lY (rn [] h.length)):=by
 unfold ck at hk;split at hk
 all_goals first|(cases hk;done)|skip
 next c hop=>
  split at hk
  all_goals first|(cases hk;done)|skip
  next f hc=>
   rw[hop]at hr;unfold vU at hr;simp only[hc]at hr;generalize ρ f=v at hr;cases v<;>first|(cases hr;rfl)|cases hr
theorem Oy(h:nH P dr o j as s=some (s1,l))(bQ:gC P l)(hK:K s1):Lw P dr o K s:=by
 unfold nH at h;cases hd:dr&&BD (iY as (3*j+1))&& !Bo o (iY as (3*j+1))with
 |true=>rw[hd]at h;cases h
 |false=>
  rw[hd]at h;simp only[cond_false]at h;split at h
  ·next x h' i hr=>
   have fin:OK P i (iY as (3*j+1))->K ((s.wh h').put o.dst x)->Lw P dr o K s:=λh1 h2=>by
    unfold Lw;cases dr with
    |true=>
     unfold DN at hr;split at hr
     ·next va e=>
      cases hv:jv o with
      |false=>rw[hv]at hr;cases hr
      |true=>
       rw[hv]at hr;simp only[Bool.not_true,Bool.and_false,cond_false]at hr;split at hr
       ·next x2 h2' p e2=>
        cases hr
        rw[e]at h1;cases h1 with|pr _ hp=>exact .inr (.inr (.inl ⟨.inl ⟨hv,rfl⟩,va,x,h',p,e2,hp,h2⟩))
       ·cases hr
     ·by_cases hx:Bo o (iY as (3*j+1))=true
      ·refine .inr (.inr (.inr ?_));generalize iY as (3*j+1)=a at hx h1 hr;unfold Bo at hx;split at hx
       ·next fa H r H'=>
        have Cp:ck o=6:=by simpa using hx
        have this:h'=s.h++H'.map (an.lY (rn [] s.h.length)):=aol Cp hr;refine⟨Cp,x,H'.map (an.lY (rn [] s.h.length)),?_,λC hC=> ?_⟩
        ·rw[<-this];exact h2
        ·rw[<-this]at hC;exact Au hr h1 hC
       ·cases hx
      ·exact aoh hr h1 (by simpa [hx]using hd) h2
    |false=>
     unfold DN at hr;split at hr
     ·next va e=>
      simp only[Bool.false_and,cond_false]at hr;split at hr
      ·next x2 h2' p e2=>
       cases hr
       rw[e]at h1;cases h1 with|pr _ hp=>exact .inl ⟨va,x,h',p,e2,hp,h2⟩
      ·cases hr
     ·exact .inr (.inr (.inl (Au (C:=λx h'=>K ((s.wh h').put o.dst x)) hr h1 h2)))
   split at h
   ·next y hy=>
    obtain⟨m,e,h2,h3⟩:=Hj h bQ;cases e
    have:=h2 (.eq x, .eq y) apP;cases this with|eq e=>subst e;exact fin h3 hK
   ·obtain⟨m,e,h2,h3⟩:=Hj h bQ;cases e
    exact fin h3 hK
  ·cases h
theorem DM(h:pD P ops dr o j as s=some (s1,l))(bQ:gC P l)(hK:K s1):ig ops o s (Lw P dr o K s) (K (s.put o.dst (.d (.v undef)))):=by
 unfold pD at h;split at h
 ·next hg=>unfold ig;rw[hg];exact Oy h bQ hK
 ·next g want hg=>
  obtain⟨dst,op,ty,pos,after,guard⟩:=o;simp only at hg;subst hg;split at h
  ·next b hb=>
   obtain⟨n,e,h2,h3⟩:=vc h bQ;have h4:=OK.Lt (h3 (_,_) apP);rw[MF,h4];refine⟨λe2=> ?_,λe2=> ?_⟩
   ·subst e2;simp only[BEq.rfl,cond_true]at e;exact Oy e h2 hK
   ·subst e2;have:((!want)==want)=false:=by cases want<;>rfl
    rw[this]at e;simp only[cond_false]at e;cases e
    exact hK
  ·next hb=>
   obtain⟨n,e,h2,h3⟩:=vc h bQ;cases e
   have h4:=h3 (_,_) apP;have h5:wI ops g s.t= .d (.v undef):=by
    generalize wI ops g s.t=z at h4;cases h4;rfl
   rw[MF,h5];exact hK
  ·cases h
theorem xT:∀(ol:aqx Oper)(j:Nat)(s:St)(l:aqx (In×bY)),je P ops dr ol j as s=some (s1,l)->gC P l->K s1->(bif dr then FM P ops ol K s else iM P ops ol K s)
 |[],_,s,l,h,_,hK=>by cases h;cases dr<;>exact hK
 |o::rest,j,s,l,h,bQ,hK=>by
  unfold je at h;split at h
  ·next s2 m hg=>
   obtain⟨n,e,h2,h3⟩:=vc h bQ;have ih:=xT rest (j+1) s2 n e h2 hK;cases dr with
   |true=>exact DM (K:=FM P ops rest K) hg h3 ih
   |false=>exact DM (K:=iM P ops rest K) hg h3 ih
  ·cases h
theorem Pg(s:St)(d:aqz Nat)(x:AV):∃pre,(s.put d x).t=pre++s.t:=by
 cases d with
 |none=>exact⟨[],rfl⟩
 |some k=>
  by_cases hk:k<s.n
  ·exact⟨[(k,x)],by rw[rp hk];rfl⟩
  ·exact⟨[],by rw[DR hk];rfl⟩
theorem ZH(h:pD P ops dr o j as s=some (s1,l)):(∃pre,s1.t=pre++s.t)/\s1.n=s.n:=by
 have cI:∀{i a r l},uL i a r=some (s1,l)->∃m,r=some (s1,m):=fun{i a r l} h=>by
  unfold uL at h;split at h
  ·exact⟨_,h⟩
  ·split at h
   ·cases h;exact⟨_,rfl⟩
   ·cases h
 have cR:∀{m r l},rh m r=some (s1,l)->∃m,r=some (s1,m):=fun{m r l} h=>by
  unfold rh at h;split at h
  ·cases h;exact⟨_,rfl⟩
  ·cases h
 have st:∀l,nH P dr o j as s=some (s1,l)->(∃pre,s1.t=pre++s.t)/\s1.n=s.n:=λl h=>by
  unfold nH at h;cases hd:dr&&BD (iY as (3*j+1))&& !Bo o (iY as (3*j+1))with
  |true=>rw[hd]at h;cases h
  |false=>
   rw[hd]at h;simp only[cond_false]at h;split at h
   ·split at h<;>(obtain⟨m,e⟩:=cI h;cases e;exact⟨Pg _ _ _,by rw[qY];rfl⟩)
   ·cases h
 unfold pD at h;split at h
 ·exact st _ h
 ·split at h
  ·obtain⟨m,e⟩:=cR h;revert e;generalize ((_:Bool)==_)=q;intro e;cases q with
   |true=>exact st _ e
   |false=>cases e;exact⟨Pg _ _ _,by unfold C3;rw[qY]⟩
  ·obtain⟨m,e⟩:=cR h;cases e;exact⟨Pg _ _ _,by unfold C3;rw[qY]⟩
  ·cases h
theorem M3:∀(ol:aqx Oper)(j:Nat)(s:St)(l:aqx (In×bY)),je P ops dr ol j as s=some (s1,l)->(∃pre,s1.t=pre++s.t)/\s1.n=s.n
 |[],_,s,l,h=>by cases h;exact⟨⟨[],rfl⟩,rfl⟩
 |o::rest,j,s,l,h=>by
  unfold je at h;split at h
  ·next s2 m hg=>
   unfold rh at h;split at h
   ·next s3 n e=>
    cases h
    obtain⟨⟨p1,e1⟩,n1⟩:=ZH hg;obtain⟨⟨p2,e2⟩,n2⟩:=M3 rest (j+1) s2 n e;exact⟨⟨p2++p1,by rw[e2,e1,ap0]⟩,n2.trans n1⟩
   ·cases h
  ·cases h
end
def TW:AV->Bool
 | .dead=>true
 |_=>false
def oX(P:aqA)(dr:Bool)(l:aqx Oper)(as:aqx (Nat×bY))(aT:aqx Nat)(s:St):aqz (aqx (Nat×AV)×aqx an×aqx (In×bY)):=
 match je P l.toArray dr l 0 as s with
 |some (s1,ps)=>bif (s1.t.take (s1.t.length-s.t.length)).all (λp=>aT.any (·==p.1)||TW (bC s.t p.1))then some (aT.map λk=>(k,bC s1.t k),s1.h,ps)else none
 |none=>none
theorem Fv:∀(a b:aqx (Nat×AV))(i:Nat),(i∈a.map (·.1)/\bC (a++b) i=bC a i)\/(i ∉ a.map (·.1)/\bC (a++b) i=bC b i)
 |[],b,i=> .inr ⟨by simp,rfl⟩
 |(k,x)::a,b,i=>by
  by_cases e:i=k
  ·subst e;exact .inl ⟨by simp,by simp [nq]⟩
  ·rcases Fv a b i with⟨h1,h2⟩|⟨h1,h2⟩
   ·exact .inl ⟨by simp at h1 ⊢;exact .inr h1,by rw[List.cons_append,nq,if_neg e,h2,nq,if_neg e]⟩
   ·exact .inr ⟨by simp at h1 ⊢;exact⟨e,h1⟩,by rw[List.cons_append,nq,if_neg e,h2]⟩
section
variable {P:aqA} {dr:Bool} {as:aqx (Nat×bY)} {s s1 s':St} {ps:aqx (In×bY)} {aT:aqx Nat} {ol:aqx Oper} {Δ:aqx (Nat×AV)} {h':aqx an}
theorem CH(h:oX P dr ol as aT s=some (Δ,h',ps)):∃s1,je P ol.toArray dr ol 0 as s=some (s1,ps)/\s1.n=s.n/\s1.h=h'/\∀i,bC (Δ++s.t) i=bC s1.t i\/bC (Δ++s.t) i= .dead:=by
 unfold oX at h;split at h
 ·next s1 ps' hr=>
  obtain⟨hb,he⟩:=eH h;cases he
  obtain⟨⟨pre,e1⟩,n1⟩:=M3 _ _ _ _ hr;refine⟨s1,hr,n1,rfl,λi=> ?_⟩;have yA:∀(f:Nat->AV),(aT.map λk=>(k,f k)).map (·.1)=aT:=λf=>by rw[List.map_map];exact List.map_id _
  rcases Fv (aT.map λk=>(k,bC s1.t k)) s.t i with⟨h1,h2⟩|⟨h1,h2⟩
  ·rw[yA]at h1;rw[h2,tY (λk=>bC s1.t k),if_pos h1];exact .inl rfl
  ·rw[yA]at h1;rw[h2];rw[e1,apK,Nat.add_sub_cancel,List.take_left']at hb
   ·rw[e1];rcases Fv pre s.t i with⟨h3,h4⟩|⟨h3,h4⟩
    ·right
     obtain⟨p,hp,rfl⟩:=List.mem_map.1 h3;have:=ap9.1 hb p hp;rw[Bool.or_eq_true]at this;rcases this with this|this
     ·exfalso;obtain⟨k,hk,e⟩:=List.any_eq_true.1 this;rw[beq_iff_eq]at e;exact h1 (e▸hk)
     ·generalize bC s.t p.1=z at this;cases z<;>first|rfl|cases this
    ·exact .inl h4.symm
   ·rfl
 ·cases h
theorem cG.less{G:Gh}{w:aqC}{a:Act}(hs:cG G w a s1)(hn:s'.n=s1.n)(hh:s'.h=s1.h)(ht:∀i,bC s'.t i=bC s1.t i\/bC s'.t i= .dead):cG G w a s':=
 ⟨hs.size.trans hn.symm,λi=>by
  rcases ht i with e|e
  ·rw[e];exact hs.tmp i
  ·rw[e];exact .dead _,by rw[hh];exact hs.inv,hs.df⟩
end
structure Ob(P:Program) where
 i:In
 o:bY
 ok:OK P i o
def bT{P:aqA}{e:Bool}(h:e=true):Ob P:=⟨_,_, .bit (b:=true) h⟩
def bF{P:aqA}{e:Bool}(h:e=false):Ob P:=⟨_,_, .bit (b:=false) h⟩
def uN{P:aqA}:Ob P:=⟨_,_, .Eb⟩
def cL{P:aqA}{f:FuncId}{args:aqx AV}{r:AV}(h:ij P f args (·=r)):Ob P:=⟨_,_, .call h⟩
def ja{P:aqA}(l:aqx (Nat×Ob P)):aqx (Nat×bY):=l.map λb=>(b.1,b.2.o)
def jW{P:aqA}(l:aqx (Nat×Ob P)):aqx (In×bY):=l.map λb=>(b.2.i,b.2.o)
theorem qV{P:aqA}(l:aqx (Nat×Ob P)):gC P (jW l):=λp hp=>by
 obtain⟨b,_,rfl⟩:=List.mem_map.1 hp;exact b.2.ok
section
variable {P:aqA} {r:aqz Nat} {N0 id:Nat} {ol:aqx Oper} {y:Code} {s:St} {Q Q':Exit->St->Prop} {ax:aqx (Nat×Ob P)} {Δ:aqx (Nat×AV)} {h':aqx an}
theorem DY{c:Code}{s':St}(hn:s'.n=s.n)(hh:s'.h=s.h)(ht:∀i,bC s'.t i=bC s.t i\/bC s'.t i= .dead)(h:bu P r N0 c Q s'):bu P r N0 c Q s:=
 ⟨λG w a n hs hN=>h.run G w a n (hs.less hn hh ht) hN⟩
theorem ab2(ax:aqx (Nat×Ob P))(Δ:aqx (Nat×AV))(h':aqx an)(h:oX P false ol (ja ax) (Δ.map (·.1)) s=some (Δ,h',jW ax))(k:bu P r N0 y Q' ⟨s.n,Δ++s.t,h'⟩):bu P r N0 (.region id ol.toArray false) (gy (λs=>bu P r N0 y Q' s) Q) s:=by
 obtain⟨s1,h1,h2,h3,h4⟩:=CH h;refine fP ?_;exact xT (dr:=false) ol 0 s _ h1 (qV ax) (DY (s:=s1) (s':=⟨s.n,Δ++s.t,h'⟩) h2.symm h3.symm h4 k)
theorem aja(hm:P.follows .mixedOrders=true)(hl:uC ol.toArray=true)(ax:aqx (Nat×Ob P))(Δ:aqx (Nat×AV))(h':aqx an)(h:oX P true ol (ja ax) (Δ.map (·.1)) s=some (Δ,h',jW ax))(k:bu P r N0 y Q' ⟨s.n,Δ++s.t,h'⟩):bu P r N0 (.region id ol.toArray true) (gy (λs=>bu P r N0 y Q' s) Q) s:=by
 obtain⟨s1,h1,h2,h3,h4⟩:=CH h;refine Sl hm hl ?_;exact xT (dr:=true) ol 0 s _ h1 (qV ax) (DY (s:=s1) (s':=⟨s.n,Δ++s.t,h'⟩) h2.symm h3.symm h4 k)
def E7(P:aqA)(dr:Bool)(l:aqx Oper)(as:aqx (Nat×bY))(s:St):aqz (aqx (Nat×AV)×aqx an×aqx (In×bY)):=
 match je P l.toArray dr l 0 as s with
 |some (s1,ps)=>some (s1.t,s1.h,ps)
 |none=>none
theorem acN{dr:Bool}{as:aqx (Nat×bY)}{t:aqx (Nat×AV)}{ps:aqx (In×bY)}(h:E7 P dr ol as s=some (t,h',ps)):je P ol.toArray dr ol 0 as s=some (⟨s.n,t,h'⟩,ps):=by
 unfold E7 at h;split at h
 ·next s1 ps' hr=>
  cases h
  obtain⟨_,n1⟩:=M3 _ _ _ _ hr;rw[hr,<-n1]
 ·cases h
theorem ann(ax:aqx (Nat×Ob P))(Δ:aqx (Nat×AV))(h':aqx an)(h:E7 P false ol (ja ax) s=some (Δ++s.t,h',jW ax))(k:Q .normal ⟨s.n,Δ++s.t,h'⟩):bu P r N0 (.region id ol.toArray false) Q s:=
 fP (xT (dr:=false) ol 0 s _ (acN h) (qV ax) k)
end
def AV.fin(m:Nat)(x:AV):AV:=(x.bw m).nrm
def an.qw:an->an
 | .cells cs=> .cells (cs.map AV.nrm)
 | .lp ls p as bd cs=> .lp ls p as bd (cs.map AV.nrm)
 | .it sn cs=> .it sn (cs.map AV.nrm)
 | .aV T cs=> .aV T (cs.map AV.nrm)
 | .vec e k cs=> .vec e k (cs.map (·.map AV.nrm))
 |B=>B
def jc(s:St)(live:aqx Nat)(m:Nat):aqz St:=
 bif cn m s.h.length&&(live.all λk=>((bC s.t k).bw m).aQ m)&&(((s.h.take m).map (an.bw m)).all (an.aQ m))then some ⟨s.n,live.map λk=>(k,(bC s.t k).fin m),((s.h.take m).map (an.bw m)).map an.qw⟩else none
theorem Ps{G:Gh}{w:aqC}{h:aqx an}(hi:bD G w h):bD G w (h.map an.qw):=by
 have eC:∀(n:Nat)(B:an),(h.map an.qw)[n]?=some B->∃B',h[n]?=some B'/\B=B'.qw:=λn B hB=>by
  rw[apQ]at hB;cases hx:h[n]? with
  |none=>rw[hx]at hB;cases hB
  |some B'=>rw[hx]at hB;cases hB;exact⟨B',rfl,rfl⟩
 have dS:∀n b,bM (h.map an.qw) G n=some b->bM h G n=some b:=λn b hb=>by
  obtain⟨B,hB,hb⟩:=od hb;obtain⟨B',h1,rfl⟩:=eC n B hB;rw[dc h1,<-hb];cases B'<;>rfl
 refine⟨by rw[apO];exact hi.len,hi.z,hi.S,λn B hB=> ?_,λi j b h1 h2=>hi.inj i j b (dS i b h1) (dS j b h2),hi.gl⟩;obtain⟨B',h1,rfl⟩:=eC n B hB;have dC:=hi.cD n B' h1;cases B' with
 |gone=>trivial
 |front e k len=>exact dC
 |bm e b=>exact dC
 |map kv=>exact dC
 |fV kv=>exact dC
 |vec e k cs=>
  obtain⟨c1,c2,c3,c4⟩:=dC;refine⟨by rw[apO];exact c1,by rw[apO];exact c2,λc hc=> ?_,?_⟩
  ·obtain⟨x,hx,rfl⟩:=List.mem_map.1 hc;rw[apO];exact c3 x hx
  ·rcases c4 with⟨d1,d2,A,d3⟩|⟨g,cap,cur,d1,d2,d3,d4,d5,d6,d7,d8,d9⟩
   ·exact .inl ⟨d1,by rw[d2];rfl,A,d3⟩
   ·refine .inr ⟨g,cap,cur,d1,by rw[apO];exact d2,d3,d4,by rw[apO];exact d5,d6,d7,d8,λi j c x u hc hx hu=> ?_⟩;rw[apQ]at hc;cases hy:cs[i]? with
    |none=>rw[hy]at hc;cases hc
    |some y=>
     rw[hy]at hc;cases hc
     rw[apQ]at hx;cases hw:y[j]? with
     |none=>rw[hw]at hx;cases hx
     |some z=>rw[hw]at hx;cases hx;exact(d9 i j y z u hy hw hu).nrm
 |cells cs=>
  obtain⟨c1,c2,vs,T,c3,c4,c5⟩:=dC;refine⟨c1,c2,vs,T,c3,by rw[apO];exact c4,λi u c hu hc=> ?_⟩;rw[apQ]at hc;cases hx:cs[i]? with
  |none=>rw[hx]at hc;cases hc
  |some x=>rw[hx]at hc;cases hc;exact(c5 i u x hu hx).nrm
 |lp ls p as bd cs=>
  obtain⟨c1,c2,fn,vs,T,c3,c4,c5⟩:=dC;refine⟨c1,c2,fn,vs,T,c3,by rw[apO];exact c4,λi u c hu hc=> ?_⟩;rw[apQ]at hc;cases hx:cs[i]? with
  |none=>rw[hx]at hc;cases hc
  |some x=>rw[hx]at hc;cases hc;exact(c5 i u x hu hx).nrm
 |it sn cs=>
  obtain⟨c1,c2,fn,vs,T,c3,c4,c5⟩:=dC;refine⟨c1,c2,fn,vs,T,c3,by rw[apO];exact c4,λi u c hu hc=> ?_⟩;rw[apQ]at hc;cases hx:cs[i]? with
  |none=>rw[hx]at hc;cases hc
  |some x=>rw[hx]at hc;cases hc;exact(c5 i u x hu hx).nrm
 |aV T0 cs=>
  obtain⟨c1,c2,fn,vs,T,c3,c4,c5⟩:=dC;refine⟨c1,c2,fn,vs,T,c3,by rw[apO];exact c4,λi u c hu hc=> ?_⟩;rw[apQ]at hc;cases hx:cs[i]? with
  |none=>rw[hx]at hc;cases hc
  |some x=>rw[hx]at hc;cases hc;exact(c5 i u x hu hx).nrm
section
variable {P:aqA} {r:aqz Nat} {n N0:Nat} {G:Gh} {w:aqC} {a:Act} {s s':St} {Q Q':Exit->St->Prop} {live:aqx Nat} {m:Nat}
theorem ani(h:jc s live m=some s'):s.zS live m/\s'.n=s.n/\s'.t=(live.map λk=>(k,(bC s.t k).fin m))/\s'.h=((s.h.take m).map (an.bw m)).map an.qw:=by
 unfold jc at h;obtain⟨hb,rfl⟩:=eH h;rw[apL,apL]at hb;exact⟨⟨dI.1 hb.1.1,hb.1.2,hb.2⟩,rfl,rfl,rfl⟩
theorem cG.jc(hs:cG G w a s)(h:jc s live m=some s'):cG (G.cut m) w a s':=by
 obtain⟨h1,h2,h3,h4⟩:=ani h;have hm:=hs.mask h1;refine⟨hs.size.trans h2.symm,λi=> ?_,by rw[h4];exact Ps hm.inv,hs.df⟩;have:=hm.tmp i
 change aD _ _ _ (bC (live.map λk=>(k,(bC s.t k).bw m)) i)at this
 rw[tY (λk=>(bC s.t k).bw m)]at this;rw[h3,tY (λk=>(bC s.t k).fin m)];split at this
 ·rename_i hi;rw[if_pos hi];exact this.nrm
 ·rename_i hi;rw[if_neg hi];exact .dead _
theorem Z9{c:Code}{ι:Type}(live:aqx Nat)(m:Nat)(st:ι->St)(I:ι->Prop)(μ:ι->Nat)(i0:ι)(hm:N0<=m)(h0:Go.Proofs.YtmkmibahjanejaaGreatDoor.jc s live m=some (st i0))(hI:I i0)
 (round:∀i,I i->bu P r N0 c (gy (λs'=>∃i',Go.Proofs.YtmkmibahjanejaaGreatDoor.jc s' live m=some (st i')/\I i'/\μ i'<μ i) Q) (st i)):bu P r N0 (.loop c) Q s:=by
 constructor
 intro G w a n hs _;refine Pd (λ(i:ι) a' w'=>∃G',I i/\bI N0 G w G' w'/\N0<=G'.N/\cG G' w' a' (st i)) μ i0 ⟨G.cut m,hI,qA _ _ _ _,hm,hs.jc h0⟩ ?_;rintro i a' w' ⟨G',hi,hE,hN,ct⟩;refine wpIn_mono ((round i hi).run G' w' a' n ct hN) λe a1 w1 hn=> ?_;obtain⟨G1,s1,ib,gK,fj,hq⟩:=hn;cases e with
 |normal=>
  obtain⟨i',h1,h2,h3⟩:=hq;exact⟨i',⟨G1.cut m,h2,(hE.trans ib).trans (qA _ _ _ _),hm,fj.jc h1⟩,h3⟩
 |_=>exact⟨G1,s1,hE.trans ib,gK,fj,hq⟩
theorem mJ{c:Code}(live:aqx Nat)(m:Nat)(hm:N0<=m)(h0:Go.Proofs.YtmkmibahjanejaaGreatDoor.jc s live m=some s')(h:bu P r N0 c Q s'):bu P r N0 c Q s:=by
 constructor
 intro G w a n hs _;exact wpIn_mono (h.run (G.cut m) w a n (hs.jc h0) hm) λ_ _ _ hn=>hn.trans (qA N0 G w m)
theorem aoC{c y:Code}{ι:Type}(live:aqx Nat)(m:Nat)(st:ι->St)(I:ι->Prop)(hm:N0<=m)(hc:bu P r N0 c (gy (λs'=>∃i,Go.Proofs.YtmkmibahjanejaaGreatDoor.jc s' live m=some (st i)/\I i) Q) s)(hy:∀i,I i->bu P r N0 y Q' (st i)):bu P r N0 c (gy (λs=>bu P r N0 y Q' s) Q) s:=by
 refine hc.mono λe s' h=> ?_;cases e with
 |normal=>obtain⟨i,h1,h2⟩:=h;exact mJ live m hm h1 (hy i h2)
 |_=>exact h
def we(P:aqA)(s:St):aqx ResultVar->aqz (aqx AV)
 |[]=>some []
 | .tmp t::l=>match we P s l with
   |some xs=>some (bC s.t t::xs)
   |none=>none
 | .cell p t::l=>match yg s.h (bC s.t p)with
   |some (cs,off)=>match BF P t cs off,we P s l with
    |some x,some xs=>some (x::xs)
    |_,_=>none
   |none=>none
def wW(P:aqA)(rs:aqx ResultVar)(s:St):aqz AV:=
 match we P s rs with
 |some l=>bif ((kP l).bw 0).aQ 0 then some ((kP l).fin 0)else none
 |none=>none
def kR(P:aqA)(fn:Func)(R:AV):Exit->St->Prop
 | .normal,s=>wW P fn.results.toList s=some R
 | .ret,s=>wW P fn.results.toList s=some R
 |_,_=>False
theorem JH:∀(l:aqx ResultVar)(xs:aqx AV)(C:aqx AV->Prop),we P s l=some xs->C xs->nh P s l C
 |[],xs,C,h,hC=>by cases h;exact hC
 | .tmp t::l,xs,C,h,hC=>by
   unfold we at h;split at h
   ·next ys e=>cases h;exact JH l ys _ e hC
   ·cases h
 | .cell p t::l,xs,C,h,hC=>by
   unfold we at h;split at h
   ·next cs off e=>
    split at h
    ·next x ys e1 e2=>cases h;exact RQ e e1 (JH l ys _ e2 hC)
    ·cases h
   ·cases h
theorem abT{fn:Func}{R:AV}(h:wW P fn.results.toList s=some R):tN P fn 0 (λr h'=>h'=[]/\r.nrm=R) s:=by
 unfold wW at h;split at h
 ·next l e=>
  obtain⟨hb,rfl⟩:=eH h;exact JH _ l _ e ⟨Nat.zero_le _,hb,by simp,by simp,rfl⟩
 ·cases h
theorem mg{fn:Func}{R:AV}(h:wW P fn.results.toList s=some R):kR P fn R .ret s:=h
theorem Ca{f:FuncId}{fn:Func}{c:Code}{args:aqx AV}{R:AV}(hf:P.funcs[f]?=some fn)(hb:fn.body=some c)(hn:(fn.name== "runtime.NumGoroutine")=false)
 (hw:bu P none 0 c (kR P fn R) {n:=args.length+(fn.ntmps-args.length),t:=mA 0 args,h:=[]}):ij P f args (·=R):=by
 have h:=B3 (P:=P) (f:=f) (args:=args) (h:=[]) (K:=λr h'=>h'=[]/\r.nrm=R) 0 hf hb hn (apU _) (hw.mono λe s hq=>by
  cases e with
  |normal=>exact abT hq
  |ret=>exact abT hq
  |_=>exact hq.elim)
 refine⟨h.1,λG w vs hi hl hr=>(h.2 G w vs hi hl hr).mono λe w' hp=> ?_⟩;obtain⟨v,G',x,h',rfl,hE,hN,de,hv,rfl,rfl⟩:=hp;exact⟨v,G',x.nrm,[],rfl,hE,hN,de,hv.nrm,rfl,rfl⟩
theorem apx{c:Code}(b i:Nat)(xs:aqx (aqx D))(hx:((s.h[b]?).bind λB=>match B with| .cells cs=>(cs[i]?).bind AV.fM|_=>none)=some xs)(h:xs.length<=maxLen->bu P r N0 c Q s):bu P r N0 c Q s:=by
 constructor
 intro G w a n hs hN;cases hb:s.h[b]? with
 |none=>rw[hb]at hx;cases hx
 |some B=>
  rw[hb]at hx;cases B with
  |cells cs=>
   simp only[apI]at hx;obtain⟨_,_,vs,T,_,hl,hr⟩:=hs.inv.cD b _ hb;cases hc:cs[i]? with
   |none=>rw[hc]at hx;cases hx
   |some x=>
    rw[hc]at hx;have aH:i<vs.size:=by rw[hl];exact(apJ.1 hc).1
    obtain⟨A,b',o,c',k',us,_,_,h1,h2,_⟩:=((hr i _ x (ap5 aH) hc).list hx).pY;exact(h (ap1 h1 h2)).run G w a n hs hN
  |_=>cases hx
end
theorem aiu{P:aqA}{r:aqz Nat}{N0 id:Nat}{ol:aqx Oper}{y:Code}{s:St}{Q Q':Exit->St->Prop}(Δ:aqx (Nat×AV))(h':aqx an)(h:∃ax:aqx (Nat×Ob P),oX P false ol (ja ax) (Δ.map (·.1)) s=some (Δ,h',jW ax))(k:bu P r N0 y Q' ⟨s.n,Δ++s.t,h'⟩):bu P r N0 (.region id ol.toArray false) (gy (λs=>bu P r N0 y Q' s) Q) s:=
 let ⟨ax,h⟩:=h;ab2 ax Δ h' h k
theorem fU{α:Type}{c:Bool}{a b:α}(h:c=true):cond c a b=a:=by rw[h];rfl
theorem jX{α:Type}{c:Bool}{a b:α}(h:c=false):cond c a b=b:=by rw[h];rfl
theorem dw{α β:Type}{x:aqz α}{f:α->aqz β}{b:β}(h:Option.bind x f=some b):∃a,x=some a/\f a=some b:=by
 cases x with
 |none=>cases h
 |some a=>exact⟨a,rfl,h⟩
theorem jQ(b:Bool):b=true\/b=false:=by cases b<;>simp
theorem cb{b:Bool}(h:b=true):(!b)=false:=by rw[h];rfl
theorem cW{b:Bool}(h:b=false):(!b)=true:=by rw[h];rfl
theorem oB{α:Type}{c:Bool}{x:aqz α}{r:α}(h:(bif c then x else none)=some r):c=true:=by
 cases c with
 |true=>rfl
 |false=>cases h
section
variable {P:aqA} {r:aqz Nat} {N0 id n:Nat} {ol:aqx Oper} {y:Code} {t:aqx (Nat×AV)} {h:aqx an} {Q Q':Exit->St->Prop}
theorem rg(ax:aqx (Nat×Ob P))(Δ:aqx (Nat×AV))(h':aqx an)(e:oX P false ol (ja ax) (Δ.map (·.1)) ⟨n,t,h⟩=some (Δ,h',jW ax))(k:bu P r N0 y Q' ⟨n,Δ++t,h'⟩):bu P r N0 (.region id ol.toArray false) (gy (λs=>bu P r N0 y Q' s) Q) ⟨n,t,h⟩:=ab2 ax Δ h' e k
theorem rd(hm:P.follows .mixedOrders=true)(hl:uC ol.toArray=true)(ax:aqx (Nat×Ob P))(Δ:aqx (Nat×AV))(h':aqx an)(e:oX P true ol (ja ax) (Δ.map (·.1)) ⟨n,t,h⟩=some (Δ,h',jW ax))(k:bu P r N0 y Q' ⟨n,Δ++t,h'⟩):bu P r N0 (.region id ol.toArray true) (gy (λs=>bu P r N0 y Q' s) Q) ⟨n,t,h⟩:=aja hm hl ax Δ h' e k
theorem re(ax:aqx (Nat×Ob P))(Δ:aqx (Nat×AV))(h':aqx an)(e:E7 P false ol (ja ax) ⟨n,t,h⟩=some (Δ++t,h',jW ax))(k:Q .normal ⟨n,Δ++t,h'⟩):bu P r N0 (.region id ol.toArray false) Q ⟨n,t,h⟩:=ann ax Δ h' e k
theorem rgE(Δ:aqx (Nat×AV))(h':aqx an)(e:∃ax:aqx (Nat×Ob P),oX P false ol (ja ax) (Δ.map (·.1)) ⟨n,t,h⟩=some (Δ,h',jW ax))(k:bu P r N0 y Q' ⟨n,Δ++t,h'⟩):bu P r N0 (.region id ol.toArray false) (gy (λs=>bu P r N0 y Q' s) Q) ⟨n,t,h⟩:=aiu Δ h' e k
end
theorem Yi{P:aqA}{ops:Array Oper}{as:aqx (Nat×bY)}{s1:St}:∀(ol:aqx Oper)(j:Nat)(s:St)(l:aqx (In×bY))(K:St->Prop),je P ops false ol j as s=some (s1,l)->gC P l->∀o,(ig ops o s1 (n5 P o K s1) (K (s1.put o.dst (.d (.v undef)))))->iM P ops (ol++[o]) K s
 |[],_,s,l,K,h,_,o,hK=>by cases h;exact hK
 |q::rest,j,s,l,K,h,bQ,o,hK=>by
  unfold je at h;split at h
  ·next s2 m hg=>
   obtain⟨n,e,h2,h3⟩:=vc h bQ;exact DM (dr:=false) (K:=iM P ops (rest++[o]) K) hg h3 (Yi rest (j+1) s2 n K e h2 o hK)
  ·cases h
def bs(l:aqx UInt8):aqy:=⟨l.toArray⟩
def vG(x:D):Prop:=∃(S:Nat->Nat->Prop)(w:aqC)(u:aqB),dn S w u x
theorem JS{xs:aqx (aqx D)}(h:vG (.sl xs)):xs.length<=maxLen:=by
 obtain⟨S,w,u,h⟩:=h;obtain⟨A,b',o,c',k',us,_,_,h1,h2,_⟩:=h.pY;exact ap1 h1 h2
theorem PB{xs:aqx (aqx D)}{i j:Nat}{c:aqx D}{d:D}(h:vG (.sl xs))(hc:xs[i]?=some c)(hd:c[j]?=some d):vG d:=by
 obtain⟨S,w,u,h⟩:=h;obtain⟨A,b',o,c',k',us,_,_,h1,h2,h3,h4,h5⟩:=h.pY;exact⟨S,w,_,h5 i j c d hc hd⟩
section
variable {P:aqA} {r:aqz Nat} {n N0:Nat} {s:St} {Q:Exit->St->Prop}
theorem CM{c:Code}(k:Nat)(xs:aqx (aqx D))(hx:(bC s.t k).fM=some xs)(h:vG (.sl xs)->bu P r N0 c Q s):bu P r N0 c Q s:=by
 constructor
 intro G w a n hs hN;exact(h ⟨_,_,_,(hs.tmp k).list hx⟩).run G w a n hs hN
theorem ajf{c:Code}(b i:Nat)(xs:aqx (aqx D))(hx:((s.h[b]?).bind λB=>match B with| .cells cs=>(cs[i]?).bind AV.fM|_=>none)=some xs)(h:vG (.sl xs)->bu P r N0 c Q s):bu P r N0 c Q s:=by
 constructor
 intro G w a n hs hN;cases hb:s.h[b]? with
 |none=>rw[hb]at hx;cases hx
 |some B=>
  rw[hb]at hx;cases B with
  |cells cs=>
   simp only[apI]at hx;obtain⟨_,_,vs,T,_,hl,hr⟩:=hs.inv.cD b _ hb;cases hc:cs[i]? with
   |none=>rw[hc]at hx;cases hx
   |some x=>
    rw[hc]at hx;have aH:i<vs.size:=by rw[hl];exact(apJ.1 hc).1
    exact(h ⟨_,_,_,(hr i _ x (ap5 aH) hc).list hx⟩).run G w a n hs hN
  |_=>cases hx
end
end Go.Proofs.YtmkmibahjanejaaGreatDoor
namespace Go.Proofs.YtmkmibahjanejaaGreatDoor
open Go.RowKit
mutual
def AV.fg(b:Nat)(ds:aqx D):AV->AV
 | .ptr n off=>bif n==b then .bJ [ds] 0 off else .ptr n off
 | .agg cs=> .agg (AV.uP b ds cs)
 | .bz cs=> .bz (AV.uP b ds cs)
 | .fn f cs=> .fn f (AV.uP b ds cs)
 |x=>x
def AV.uP(b:Nat)(ds:aqx D):aqx AV->aqx AV
 |[]=>[]
 |x::l=>x.fg b ds::AV.uP b ds l
end
theorem Ea(b:Nat)(ds:aqx D):∀l,AV.uP b ds l=l.map (AV.fg b ds)
 |[]=>by simp [AV.uP]
 |x::l=>by simp [AV.uP,Ea b ds l]
def an.fg(b:Nat)(ds:aqx D):an->an
 | .cells cs=> .cells (cs.map (AV.fg b ds))
 | .lp ls p as bd cs=> .lp ls p as bd (cs.map (AV.fg b ds))
 | .it sn cs=> .it sn (cs.map (AV.fg b ds))
 | .aV T cs=> .aV T (cs.map (AV.fg b ds))
 | .vec e k cs=> .vec e k (cs.map (·.map (AV.fg b ds)))
 |B=>B
def Fc(s:St)(b:Nat):aqz St:=
 match s.h[b]? with
 |some (.cells cs)=>match nX cs with
  |some ds=>some ⟨s.n,s.t.map λp=>(p.1,p.2.fg b ds),(s.h.map (an.fg b ds)).set b .gone⟩
  |none=>none
 |_=>none
theorem Hf(f:AV->AV)(hf:f .dead= .dead):∀(t:aqx (Nat×AV))(i:Nat),bC (t.map λp=>(p.1,f p.2)) i=f (bC t i)
 |[],i=>by simp [bC,hf]
 |(k,x)::l,i=>by
  simp only[ap8,nq,Hf f hf l i];split<;>rfl
theorem aD.fg{G G':Gh}{w:aqC}{b:Nat}{ds:aqx D}(hE:bI G.N G w G' w)(hN:G'.N=G.N)(hp:∀off,aD G' w (.pointer (some ⟨G.aI b,off,none⟩)) (.bJ [ds] 0 off)){u:aqB}{x:AV}(h:aD G w u x):aD G' w u (x.fg b ds):=by
 have aT:∀{u:aqB}{x:AV},aD G w u x->aD G' w u x:=λh=>h.aT hE (Nat.le_of_eq hN.symm);have gk:∀(vs:Array aqB)(cs:aqx AV),(∀(i:Nat)(u:aqB)(c:AV),vs[i]?=some u->cs[i]?=some c->aD G' w u (c.fg b ds))->∀(i:Nat)(u:aqB)(c:AV),vs[i]?=some u->(AV.uP b ds cs)[i]?=some c->aD G' w u c:=by
  intro vs cs ih i u c hu hc;rw[Ea,apQ]at hc;cases hx:cs[i]? with
  |none=>rw[hx]at hc;cases hc
  |some x=>rw[hx]at hc;cases hc;exact ih i u x hu hx
 induction h with
 |agg vs cs hl _ ih=>rw[AV.fg];exact .agg vs _ (by rw[Ea,apO];exact hl) (gk vs cs ih)
 |bz vs cs hl _ ih=>rw[AV.fg];exact .bz vs _ (by rw[Ea,apO];exact hl) (gk vs cs ih)
 |fn f vs cs hl _ ih=>rw[AV.fg];exact .fn f vs _ (by rw[Ea,apO];exact hl) (gk vs cs ih)
 |ptr n off h=>
  rw[AV.fg,cond_eq_ite];split
  ·next e=>rw[beq_iff_eq]at e;subst e;exact hp off
  ·exact aT (.ptr n off h)
 |own n xs h hp hle hf=>simp only[AV.fg];exact aT (.own n xs h hp hle hf)
 |d h=>simp only[AV.fg];exact aT (.d h)
 |bJ xs i off b o u x hx hS hu=>simp only[AV.fg];exact aT (.bJ xs i off b o u x hx hS hu)
 |full xs hp hf=>simp only[AV.fg];exact aT (.full xs hp hf)
 |row n off len cap k h hl hm=>simp only[AV.fg];exact aT (.row n off len cap k h hl hm)
 |mp n h=>simp only[AV.fg];exact aT (.mp n h)
 |cY n h=>simp only[AV.fg];exact aT (.cY n h)
 |vec n o len L k h hs hL hf=>simp only[AV.fg];exact aT (.vec n o len L k h hs hL hf)
 |dq n i j L k h hs hL hf=>simp only[AV.fg];exact aT (.dq n i j L k h hs hL hf)
 |hid h h1=>simp only[AV.fg];exact aT (.hid h h1)
 |dead u=>simp only[AV.fg];exact .dead u
theorem Ye:∀(cs:aqx AV)(ds:aqx D),nX cs=some ds->cs.length=ds.length/\∀(i:Nat)(c:AV)(d:D),cs[i]?=some c->ds[i]?=some d->c.yp=some d
 |[],ds,h=>by unfold nX at h;cases h;exact⟨rfl,λi c d hc=>by simp at hc⟩
 |x::cs,ds,h=>by
  unfold nX at h;split at h
  ·next d l e1 e2=>
   cases h
   obtain⟨h1,h2⟩:=Ye cs l e2;refine⟨by simp [h1],λi c d' hc hd=> ?_⟩
   match i with
   |0=>simp only[List.getElem?_cons_zero,Option.some.injEq]at hc hd;subst hc;subst hd;exact e1
   |i+1=>exact h2 i c d' (by simpa using hc) (by simpa using hd)
  ·cases h
theorem aD.ant{G:Gh}{w:aqC}{u:aqB}{x:AV}{d:D}(h:aD G w u x)(hd:x.yp=some d):dn G.S w u d:=by
 cases h with
 |d h=>cases hd;exact h.Ag
 |own n xs h hp=>cases hd;exact hp
 |full xs hp=>cases hd;exact hp
 |_=>cases hd
theorem cG.Fc{G:Gh}{w:aqC}{a:Act}{s s':St}{b:Nat}(hs:cG G w a s)(h:Fc s b=some s'):∃G',bI G.N G w G' w/\G'.N=G.N/\cG G' w a s':=by
 unfold Go.Proofs.YtmkmibahjanejaaGreatDoor.Fc at h;split at h
 ·next cs hb=>
  split at h
  ·next ds tG=>
   cases h
   obtain⟨z1,z2,vs,T,z3,z4,z5⟩:=hs.inv.cD b _ hb;obtain⟨d1,d2⟩:=Ye cs ds tG;have kV:bM s.h G b=some (G.aI b):=dc hb;obtain⟨S,hS⟩:∃S:Nat->Nat->Prop,S=λb' o=>G.S b' o\/(b'=G.aI b/\o<ds.length):=⟨_,rfl⟩;have hE:bI G.N G w {G with S:=S} w:=⟨apU _,λb o h=>by show S b o;rw[hS];exact .inl h,λ_ _ _=>rfl,λ_ _=>rfl,λ_ _=> .inl ⟨rfl,rfl⟩,gp rfl,λ_ _=>rfl,rfl,rfl,rfl,λb' o hs=>by
    have ct:S b' o:=hs;rw[hS]at ct;rcases ct with h|⟨rfl,_⟩
    ·exact .inl h
    ·exact .inr z1⟩
   have hp:∀off,aD {G with S:=S} w (.pointer (some ⟨G.aI b,off,none⟩)) (.bJ [ds] 0 off):=λoff=>by
    have:=aD.bJ (G:={G with S:=S}) (w:=w) [ds] 0 off (G.aI b) 0 (λj=>vs.getD j undef) ds rfl (λj hj=> ?_) (λj d hd=> ?_)
    ·rwa [ap3]at this
    ·have iC:j<vs.size:=by rw[z4,d1];exact hj
     refine⟨by show S _ _;rw[hS];exact .inr ⟨rfl,by rw[ap3];exact hj⟩,?_⟩;rw[ap3,cell_of_row w (G.aI b) j vs T (0,0) z3];simp [Array.getD,iC]
    ·have hj:j<ds.length:=(apJ.1 hd).1;have iC:j<vs.size:=by rw[z4,d1];exact hj
     have hc:cs[j]?=some cs[j]:=apN (by rw[d1];exact hj);have hv:=z5 j vs[j] _ (ap5 iC) hc;have e:vs.getD j undef=vs[j]:=by simp [Array.getD,iC]
     rw[e];exact(hv.ant (d2 j _ d hc hd)).aT hE.S hE.cell
   have hv:∀{u:aqB}{x:AV},aD G w u x->aD {G with S:=S} w u (x.fg b ds):=λh=>h.fg hE rfl hp;have ajz:=(apJ.1 hb).1;have eC:∀(n:Nat)(B:an),((s.h.map (an.fg b ds)).set b .gone)[n]?=some B->(n=b/\B= .gone)\/(n≠b/\∃B',s.h[n]?=some B'/\B=B'.fg b ds):=λn B hB=>by
    by_cases e:b=n
    ·subst e;rw[aqc (by rw[apO];exact ajz)]at hB;cases hB;exact .inl ⟨rfl,rfl⟩
    ·rw[aqh e,apQ]at hB;cases hx:s.h[n]? with
     |none=>rw[hx]at hB;cases hB
     |some B'=>rw[hx]at hB;cases hB;exact .inr ⟨λh=>e h.symm,B',rfl,rfl⟩
   have dS:∀n x,bM ((s.h.map (an.fg b ds)).set b .gone) {G with S:=S} n=some x->n≠b/\bM s.h G n=some x:=λn x hx=>by
    obtain⟨B,hn,hx⟩:=od hx;rcases eC n _ hn with⟨_,e⟩|⟨cy,B',h1,rfl⟩
    ·subst e;cases hx
    ·refine⟨cy,?_⟩;rw[dc h1,<-hx];cases B'<;>rfl
   refine⟨{G with S:=S},hE,rfl,hs.size,λi=> ?_,⟨by rw[List.length_set,apO];exact hs.inv.len,hs.inv.z,λb' o h=> ?_,λn B hB=> ?_,λm n x h1 h2=>hs.inv.inj m n x (dS m x h1).2 (dS n x h2).2,hs.inv.gl.aT hE⟩,hs.df⟩
   ·show aD _ _ _ (bC (s.t.map λp=>(p.1,p.2.fg b ds)) i);rw[Hf (AV.fg b ds) (by simp [AV.fg])];exact hv (hs.tmp i)
   ·have ct:S b' o:=h;rw[hS]at ct;rcases ct with h|⟨rfl,_⟩
    ·exact hs.inv.S b' o h
    ·exact(apY.1 z3).1
   ·rcases eC n B hB with⟨rfl,rfl⟩|⟨cy,B',h1,rfl⟩
    ·trivial
    ·have dC:=hs.inv.cD n B' h1;cases B' with
     |gone=>trivial
     |map kv=>exact dD.aT (G':={G with S:=S}) (hs.inv.lt h1) hE (apU _) ⟨rfl,rfl,rfl⟩ (λc hc=>⟨rfl,λo js hq=>by
      have ct:S c o:=hq;rw[hS]at ct;rcases ct with h|⟨e,_⟩
      ·exact js h
      ·exact cy (hs.inv.inj n b _ ((dc h1).trans hc) (by rw[e];exact kV))⟩) dC
     |fV kv=>exact dD.aT (G':={G with S:=S}) (hs.inv.lt h1) hE (apU _) ⟨rfl,rfl,rfl⟩ (λc hc=>⟨rfl,λo js hq=>by
      have ct:S c o:=hq;rw[hS]at ct;rcases ct with h|⟨e,_⟩
      ·exact js h
      ·exact cy (hs.inv.inj n b _ ((dc h1).trans hc) (by rw[e];exact kV))⟩) dC
     |front e k len=>exact dD.aT (G':={G with S:=S}) (hs.inv.lt h1) hE (apU _) ⟨rfl,rfl,rfl⟩ (λc hc=>⟨rfl,λo js hq=>by
      have ct:S c o:=hq;rw[hS]at ct;rcases ct with h|⟨e,_⟩
      ·exact js h
      ·exact cy (hs.inv.inj n b _ ((dc h1).trans hc) (by rw[e];exact kV))⟩) dC
     |bm e b2=>exact dD.aT (G':={G with S:=S}) (hs.inv.lt h1) hE (apU _) ⟨rfl,rfl,rfl⟩ (λc hc=>⟨rfl,λo js hq=>by
      have ct:S c o:=hq;rw[hS]at ct;rcases ct with h|⟨e,_⟩
      ·exact js h
      ·exact cy (hs.inv.inj n b _ ((dc h1).trans hc) (by rw[e];exact kV))⟩) dC
     |cells bP=>
      obtain⟨c1,c2,ej,T',c3,c4,c5⟩:=dC;have kK:bM s.h G n=some (G.aI n):=dc h1;refine⟨c1,λo hq=> ?_,ej,T',c3,by rw[apO];exact c4,λi u c hu hc=> ?_⟩
      ·have ct:S (G.aI n) o:=hq;rw[hS]at ct;rcases ct with h|⟨e,_⟩
       ·exact c2 o h
       ·exact cy (hs.inv.inj n b _ kK (by rw[e];exact kV))
      ·rw[apQ]at hc;cases hx:bP[i]? with
       |none=>rw[hx]at hc;cases hc
       |some x=>rw[hx]at hc;cases hc;exact hv (c5 i u x hu hx)
     |lp ls p as bd bP=>
      obtain⟨c1,c2,fn,ej,T',c3,c4,c5⟩:=dC;have kK:bM s.h G n=some (G.aI n):=dc h1;refine⟨c1,λo hq=> ?_,fn,ej,T',c3,by rw[apO];exact c4,λi u c hu hc=> ?_⟩
      ·have ct:S (G.aI n) o:=hq;rw[hS]at ct;rcases ct with h|⟨e,_⟩
       ·exact c2 o h
       ·exact cy (hs.inv.inj n b _ kK (by rw[e];exact kV))
      ·rw[apQ]at hc;cases hx:bP[i]? with
       |none=>rw[hx]at hc;cases hc
       |some x=>rw[hx]at hc;cases hc;exact hv (c5 i u x hu hx)
     |it sn bP=>
      obtain⟨c1,c2,fn,ej,T',c3,c4,c5⟩:=dC;have kK:bM s.h G n=some (G.aI n):=dc h1;refine⟨c1,λo hq=> ?_,fn,ej,T',c3,by rw[apO];exact c4,λi u c hu hc=> ?_⟩
      ·have ct:S (G.aI n) o:=hq;rw[hS]at ct;rcases ct with h|⟨e,_⟩
       ·exact c2 o h
       ·exact cy (hs.inv.inj n b _ kK (by rw[e];exact kV))
      ·rw[apQ]at hc;cases hx:bP[i]? with
       |none=>rw[hx]at hc;cases hc
       |some x=>rw[hx]at hc;cases hc;exact hv (c5 i u x hu hx)
     |aV T0 bP=>
      obtain⟨c1,c2,fn,ej,T',c3,c4,c5⟩:=dC;have kK:bM s.h G n=some (G.aI n):=dc h1;refine⟨c1,λo hq=> ?_,fn,ej,T',c3,by rw[apO];exact c4,λi u c hu hc=> ?_⟩
      ·have ct:S (G.aI n) o:=hq;rw[hS]at ct;rcases ct with h|⟨e,_⟩
       ·exact c2 o h
       ·exact cy (hs.inv.inj n b _ kK (by rw[e];exact kV))
      ·rw[apQ]at hc;cases hx:bP[i]? with
       |none=>rw[hx]at hc;cases hc
       |some x=>rw[hx]at hc;cases hc;exact hv (c5 i u x hu hx)
     |vec e k bP=>
      obtain⟨c1,c2,c3,c4⟩:=dC;refine⟨by rw[apO];exact c1,by rw[apO];exact c2,λc hc=> ?_,?_⟩
      ·obtain⟨x,hx,rfl⟩:=List.mem_map.1 hc;rw[apO];exact c3 x hx
      ·rcases c4 with⟨d1,d2,A,d3⟩|⟨g,cap,cur,d1,d2,d3,d4,d5,d6,d7,d8,d9⟩
       ·exact .inl ⟨d1,by rw[d2];rfl,A,d3⟩
       ·have kK:bM s.h G n=some g:=(dc h1).trans d1;refine .inr ⟨g,cap,cur,d1,by rw[apO];exact d2,d3,d4,by rw[apO];exact d5,d6,d7,λo hq=> ?_,λi j c x u hc hx hu=> ?_⟩
        ·have ct:S g o:=hq;rw[hS]at ct;rcases ct with h|⟨e,_⟩
         ·exact d8 o h
         ·exact cy (hs.inv.inj n b _ kK (by rw[e];exact kV))
        ·rw[apQ]at hc;cases hy:bP[i]? with
         |none=>rw[hy]at hc;cases hc
         |some y=>
          rw[hy]at hc;cases hc
          rw[apQ]at hx;cases hw:y[j]? with
          |none=>rw[hw]at hx;cases hx
          |some z=>rw[hw]at hx;cases hx;exact hv (d9 i j y z u hy hw hu)
  ·cases h
 ·cases h
def D.zl:D->Bool
 | .v u=>u.oneCell'
 | .sl _=>true
mutual
def AV.kill(b:Nat):AV->AV
 | .vec n o len L k=>bif n==b then .dead else .vec n o len L k
 | .dq n i j L k=>bif n==b then .dead else .dq n i j L k
 | .agg cs=> .agg (AV.LF b cs)
 | .bz cs=> .bz (AV.LF b cs)
 | .fn f cs=> .fn f (AV.LF b cs)
 |x=>x
def AV.LF(b:Nat):aqx AV->aqx AV
 |[]=>[]
 |x::l=>x.kill b::AV.LF b l
end
def an.qf(f:AV->AV):an->an
 | .cells cs=> .cells (cs.map f)
 | .lp ls p as bd cs=> .lp ls p as bd (cs.map f)
 | .it sn cs=> .it sn (cs.map f)
 | .aV T cs=> .aV T (cs.map f)
 | .vec e k cs=> .vec e k (cs.map (·.map f))
 |B=>B
theorem ae6{G:Gh}{w:aqC}{h:aqx an}(hi:bD G w h){b:Nat}{S:Nat->Nat->Prop}{f:AV->AV}(hE:bI G.N G w {G with S:=S} w)(hS:∀c o,S c o->G.S c o\/bM h G b=some c)(hv:∀{u:aqB}{x:AV},aD G w u x->aD {G with S:=S} w u (f x)):
 bD {G with S:=S} w ((h.map (an.qf f)).set b .gone):=by
 have eC:∀(n:Nat)(B:an),((h.map (an.qf f)).set b .gone)[n]?=some B->(n=b/\B= .gone)\/(n≠b/\∃B',h[n]?=some B'/\B=B'.qf f):=λn B hB=>by
  by_cases e:b=n
  ·subst e;have aH:=(apJ.1 hB).1;rw[List.length_set]at aH;rw[aqc aH]at hB;cases hB;exact .inl ⟨rfl,rfl⟩
  ·rw[aqh e,apQ]at hB;cases hx:h[n]? with
   |none=>rw[hx]at hB;cases hB
   |some B'=>rw[hx]at hB;cases hB;exact .inr ⟨λh=>e h.symm,B',rfl,rfl⟩
 have dS:∀n x,bM ((h.map (an.qf f)).set b .gone) {G with S:=S} n=some x->n≠b/\bM h G n=some x:=λn x hx=>by
  obtain⟨B,hn,hx⟩:=od hx;rcases eC n _ hn with⟨_,e⟩|⟨cy,B',h1,rfl⟩
  ·subst e;cases hx
  ·refine⟨cy,?_⟩;rw[dc h1,<-hx];cases B'<;>rfl
 refine⟨by rw[List.length_set,apO];exact hi.len,hi.z,λc o hs=> ?_,λn B hB=> ?_,λm n x h1 h2=>hi.inj m n x (dS m x h1).2 (dS n x h2).2,hi.gl.aT hE⟩
 ·rcases hS c o hs with h1|h1
  ·exact hi.S c o h1
  ·exact hi.gw h1
 ·rcases eC n B hB with⟨rfl,rfl⟩|⟨cy,B',h1,rfl⟩
  ·trivial
  ·have dC:=hi.cD n B' h1;have fq:∀c,B'.dA G n=some c->∀o,¬G.S c o->¬S c o:=λc hc o js hq=>by
    rcases hS c o hq with h2|h2
    ·exact js h2
    ·exact cy (hi.inj n b c ((dc h1).trans hc) h2)
   cases B' with
   |gone=>trivial
   |map kv=>exact dD.aT (G':={G with S:=S}) (hi.lt h1) hE (apU _) ⟨rfl,rfl,rfl⟩ (λc hc=>⟨rfl,fq c hc⟩) dC
   |fV kv=>exact dD.aT (G':={G with S:=S}) (hi.lt h1) hE (apU _) ⟨rfl,rfl,rfl⟩ (λc hc=>⟨rfl,fq c hc⟩) dC
   |front e k len=>exact dD.aT (G':={G with S:=S}) (hi.lt h1) hE (apU _) ⟨rfl,rfl,rfl⟩ (λc hc=>⟨rfl,fq c hc⟩) dC
   |bm e b2=>exact dD.aT (G':={G with S:=S}) (hi.lt h1) hE (apU _) ⟨rfl,rfl,rfl⟩ (λc hc=>⟨rfl,fq c hc⟩) dC
   |cells bP=>
    obtain⟨c1,c2,ej,T',c3,c4,c5⟩:=dC;refine⟨c1,λo=>fq _ rfl o (c2 o),ej,T',c3,by rw[apO];exact c4,λi u c hu hc=> ?_⟩;rw[apQ]at hc;cases hx:bP[i]? with
    |none=>rw[hx]at hc;cases hc
    |some x=>rw[hx]at hc;cases hc;exact hv (c5 i u x hu hx)
   |lp ls p as bd bP=>
    obtain⟨c1,c2,fn,ej,T',c3,c4,c5⟩:=dC;refine⟨c1,λo=>fq _ rfl o (c2 o),fn,ej,T',c3,by rw[apO];exact c4,λi u c hu hc=> ?_⟩;rw[apQ]at hc;cases hx:bP[i]? with
    |none=>rw[hx]at hc;cases hc
    |some x=>rw[hx]at hc;cases hc;exact hv (c5 i u x hu hx)
   |it sn bP=>
    obtain⟨c1,c2,fn,ej,T',c3,c4,c5⟩:=dC;refine⟨c1,λo=>fq _ rfl o (c2 o),fn,ej,T',c3,by rw[apO];exact c4,λi u c hu hc=> ?_⟩;rw[apQ]at hc;cases hx:bP[i]? with
    |none=>rw[hx]at hc;cases hc
    |some x=>rw[hx]at hc;cases hc;exact hv (c5 i u x hu hx)
   |aV T0 bP=>
    obtain⟨c1,c2,fn,ej,T',c3,c4,c5⟩:=dC;refine⟨c1,λo=>fq _ rfl o (c2 o),fn,ej,T',c3,by rw[apO];exact c4,λi u c hu hc=> ?_⟩;rw[apQ]at hc;cases hx:bP[i]? with
    |none=>rw[hx]at hc;cases hc
    |some x=>rw[hx]at hc;cases hc;exact hv (c5 i u x hu hx)
   |vec e k bP=>
    obtain⟨c1,c2,c3,c4⟩:=dC;refine⟨by rw[apO];exact c1,by rw[apO];exact c2,λc hc=> ?_,?_⟩
    ·obtain⟨x,hx,rfl⟩:=List.mem_map.1 hc;rw[apO];exact c3 x hx
    ·rcases c4 with⟨d1,d2,A,d3⟩|⟨g,cap,cur,d1,d2,d3,d4,d5,d6,d7,d8,d9⟩
     ·exact .inl ⟨d1,by rw[d2];rfl,A,d3⟩
     ·refine .inr ⟨g,cap,cur,d1,by rw[apO];exact d2,d3,d4,by rw[apO];exact d5,d6,d7,λo=>fq g d1 o (d8 o),λi j c x u hc hx hu=> ?_⟩;rw[apQ]at hc;cases hy:bP[i]? with
      |none=>rw[hy]at hc;cases hc
      |some y=>
       rw[hy]at hc;cases hc
       rw[apQ]at hx;cases hw:y[j]? with
       |none=>rw[hw]at hx;cases hx
       |some z=>rw[hw]at hx;cases hx;exact hv (d9 i j y z u hy hw hu)
mutual
def AV.dG(b kk:Nat)(xs:aqx (aqx D)):AV->AV
 | .vec n o len L k=>bif n==b then(bif L==xs.length&&k==kk then .d (.sl ((xs.drop o).take len))else .dead)else .vec n o len L k
 | .dq n i j L k=>bif n==b then .dead else .dq n i j L k
 | .agg cs=> .agg (AV.pZ b kk xs cs)
 | .bz cs=> .bz (AV.pZ b kk xs cs)
 | .fn f cs=> .fn f (AV.pZ b kk xs cs)
 |x=>x
def AV.pZ(b kk:Nat)(xs:aqx (aqx D)):aqx AV->aqx AV
 |[]=>[]
 |x::l=>x.dG b kk xs::AV.pZ b kk xs l
end
theorem yv(b kk:Nat)(xs:aqx (aqx D)):∀l,AV.pZ b kk xs l=l.map (AV.dG b kk xs)
 |[]=>by simp [AV.pZ]
 |x::l=>by simp [AV.pZ,yv b kk xs l]
theorem aD.dG{G G':Gh}{w:aqC}{b kk:Nat}{xs:aqx (aqx D)}(hE:bI G.N G w G' w)(hN:G'.N=G.N)(hp:∀(u:aqB)(o len:Nat),aD G w u (.vec b o len xs.length kk)->dn G'.S w u (.sl ((xs.drop o).take len))){u:aqB}{x:AV}(h:aD G w u x):aD G' w u (x.dG b kk xs):=by
 have aT:∀{u:aqB}{x:AV},aD G w u x->aD G' w u x:=λh=>h.aT hE (Nat.le_of_eq hN.symm);have gk:∀(vs:Array aqB)(cs:aqx AV),(∀(i:Nat)(u:aqB)(c:AV),vs[i]?=some u->cs[i]?=some c->aD G' w u (c.dG b kk xs))->∀(i:Nat)(u:aqB)(c:AV),vs[i]?=some u->(AV.pZ b kk xs cs)[i]?=some c->aD G' w u c:=by
  intro vs cs ih i u c hu hc;rw[yv,apQ]at hc;cases hx:cs[i]? with
  |none=>rw[hx]at hc;cases hc
  |some x=>rw[hx]at hc;cases hc;exact ih i u x hu hx
 induction h with
 |agg vs cs hl _ ih=>rw[AV.dG];exact .agg vs _ (by rw[yv,apO];exact hl) (gk vs cs ih)
 |bz vs cs hl _ ih=>rw[AV.dG];exact .bz vs _ (by rw[yv,apO];exact hl) (gk vs cs ih)
 |fn f vs cs hl _ ih=>rw[AV.dG];exact .fn f vs _ (by rw[yv,apO];exact hl) (gk vs cs ih)
 |vec n o len L k h hs hL hf=>
  rw[AV.dG,cond_eq_ite];split
  ·next e=>
   have e:n=b:=by simpa using e
   subst e;rw[cond_eq_ite];split
   ·next e2=>
    rw[apL,beq_iff_eq,beq_iff_eq]at e2;obtain⟨rfl,rfl⟩:=e2;exact .d (hp _ o len (.vec n o len _ _ h hs hL hf))
   ·exact .dead _
  ·exact aT (.vec n o len L k h hs hL hf)
 |dq n i j L k h hs hL hf=>
  rw[AV.dG,cond_eq_ite];split
  ·exact .dead _
  ·exact aT (.dq n i j L k h hs hL hf)
 |ptr n off h=>simp only[AV.dG];exact aT (.ptr n off h)
 |own n xs h hp hle hf=>simp only[AV.dG];exact aT (.own n xs h hp hle hf)
 |d h=>simp only[AV.dG];exact aT (.d h)
 |bJ xs i off b o u x hx hS hu=>simp only[AV.dG];exact aT (.bJ xs i off b o u x hx hS hu)
 |full xs hp hf=>simp only[AV.dG];exact aT (.full xs hp hf)
 |row n off len cap k h hl hm=>simp only[AV.dG];exact aT (.row n off len cap k h hl hm)
 |mp n h=>simp only[AV.dG];exact aT (.mp n h)
 |cY n h=>simp only[AV.dG];exact aT (.cY n h)
 |hid h h1=>simp only[AV.dG];exact aT (.hid h h1)
 |dead u=>simp only[AV.dG];exact .dead u
theorem cG.T1{G:Gh}{w:aqC}{a:Act}{s:St}(hs:cG G w a s)(xs:aqx (aqx D)){b e k:Nat}(hb:s.h[b]?=some (.vec e k (cP xs)))(jb:∀c∈xs,c.all D.zl=true)
 :∃G',bI G.N G w G' w/\G'.N=G.N/\cG G' w a ⟨s.n,s.t.map λp=>(p.1,p.2.dG b k xs),(s.h.map (an.qf (AV.dG b k xs))).set b .gone⟩:=by
 obtain⟨L,hL⟩:∃L,xs.length=L:=⟨_,rfl⟩;have oW:(cP xs).length=L:=by unfold cP;rw[apO];exact hL
 have ji:=Dh hs.inv hb;have om:∀d∈xs,d.length=k:=λd hd=>by
  have:=ji (d.map .d) (by unfold cP;exact List.mem_map.2 ⟨d,hd,rfl⟩)
  rwa [apO]at this
 obtain⟨S,hS⟩:∃S:Nat->Nat->Prop,S=λc o=>G.S c o\/(bM s.h G b=some c/\o<L*k):=⟨_,rfl⟩;have hE:bI G.N G w {G with S:=S} w:=⟨apU _,λb o h=>by show S b o;rw[hS];exact .inl h,λ_ _ _=>rfl,λ_ _=>rfl,λ_ _=> .inl ⟨rfl,rfl⟩,gp rfl,λ_ _=>rfl,rfl,rfl,rfl,λc o hq=>by
  have ct:S c o:=hq;rw[hS]at ct;rcases ct with h|⟨h,_⟩
  ·exact .inl h
  ·obtain⟨B,hB,fB⟩:=od h;exact .inr ((hs.inv.cD b B hB).kY fB)⟩
 have hpd:∀(u:aqB)(o len:Nat),aD G w u (.vec b o len xs.length k)->dn S w u (.sl ((xs.drop o).take len)):=λu o len ve=>by
  rw[hL]at ve;have lZ:=ve.oY hs.inv hb oW;obtain⟨Bh,⟨A,cc,q1,q2,q3,q4,q5⟩,_⟩:=lZ;generalize hy:(xs.drop o).take len=ys;have xk:ys.length=len:=by rw[<-hy,List.length_take,List.length_drop];omega
  rw[q1,<-xk];show dn S w _ _;by_cases hh0:True
  ·skip
   by_cases h0:len=0
   ·have:ys=[]:=List.eq_nil_of_length_eq_zero (by omega);subst this;exact .sl A 0 0 cc 0 [] (λ_ _=>undef) (λh=>absurd rfl h) (Nat.zero_le _) q3 (λ_ h=>absurd h aqp) (λi j hi=>absurd hi (aqb _)) (λi j x d hx=>by simp at hx)
   ·obtain⟨g,cap,s1,rfl,s3⟩:=q5 (by omega);obtain⟨g',zt,cur,r1,r2,r3,r4,r5,r6,r7,r8,r9⟩:=zJ hs.inv hb (λe=>by rw[e]at oW;simp at oW;omega);rw[r2]at s1;cases s1
    have kV:bM s.h G b=some g:=(dc hb).trans r1;have lq:∀i,i<len->ys[i]?=xs[o+i]?:=λi de=>by rw[<-hy,List.getElem?_take_of_lt de,List.getElem?_drop]
    have gD:∀i j,i<len->j<k->o*k+i*k+j<cur.size:=λi j hi hj=>by
     have:=nf (i:=o+i) (k:=k) (L:=(cP xs).length) (j:=j) (by omega) hj;rw[Nat.add_mul]at this;have h2:(cP xs).length*k<=cap*k:=Nat.mul_le_mul_right k (by omega);rw[r7];omega
    have mi:∀(i j:Nat)(x:aqx D)(d:D),i<len->ys[i]?=some x->x[j]?=some d->aD G w (cur.getD (o*k+i*k+j) undef) (.d d):=λi j x d hi hx hd=>by
     rw[lq i hi]at hx;have hj:j<k:=by rw[<-om x (apW hx)];exact(apJ.1 hd).1
     refine r9 (o+i) j (x.map .d) (.d d) _ (by unfold cP;rw[apQ,hx];rfl) (by rw[apQ,hd];rfl) ?_;have hc:=gD i j hi hj;rw[show(o+i)*k+j=o*k+i*k+j by rw[Nat.add_mul]];simp [Array.getD,hc]
    refine .sl _ g (o*k) cc k ys (λi j=>cur.getD (o*k+i*k+j) undef) (λ_=>rfl) (by omega) q3 (λx hx=> ?_) (λi j hi hj=>⟨?_,?_,?_⟩) (λi j x d hx hd=> ?_)
    ·rw[<-hy]at hx;exact om x (List.mem_of_mem_drop (List.mem_of_mem_take hx))
    ·rw[hS];refine .inr ⟨kV,?_⟩;have:=nf (i:=o+i) (k:=k) (L:=(cP xs).length) (j:=j) (by omega) hj;rw[Nat.add_mul]at this;exact this
    ·rw[cell_of_row w g _ cur e (0,0) r4];have hc:=gD i j (by omega) hj;simp [Array.getD,hc]
    ·have de:i<len:=by omega
     obtain⟨x,hx⟩:∃x,ys[i]?=some x:=⟨_,apN hi⟩;have uV:=hx;rw[lq i de]at uV;have hmem:=apW uV;obtain⟨d,hd⟩:∃d,x[j]?=some d:=⟨_,apN (by rw[om x hmem];exact hj)⟩;refine(mi i j x d de hx hd).kE ?_;have h1:=jb x hmem;rw[ap9]at h1;have h2:=h1 d (apW hd);cases d with
     |v u=>exact h2
     |sl l=>rfl
    ·have de:i<len:=by rw[<-xk];exact(apJ.1 hx).1
     have:=mi i j x d de hx hd;generalize cur.getD (o*k+i*k+j) undef=q at this;cases this with|d h=>exact h.aT hE.S hE.cell
  ·exact(hh0 trivial).elim
 have hinv:=ae6 (b:=b) (f:=AV.dG b k xs) hs.inv hE (λc o hq=>by rw[hS]at hq;exact hq.imp id And.left) (λhq=>hq.dG hE rfl hpd);have ct:cG {G with S:=S} w a ⟨s.n,s.t.map λp=>(p.1,p.2.dG b k xs),(s.h.map (an.qf (AV.dG b k xs))).set b .gone⟩:=by
  refine⟨hs.size,λi=> ?_,hinv,hs.df⟩;show aD _ _ _ (bC (s.t.map λp=>(p.1,p.2.dG b k xs)) i);rw[Hf (AV.dG b k xs) (by simp [AV.dG])];exact(hs.tmp i).dG hE rfl hpd
 exact⟨_,hE,rfl,ct⟩
def wg(P:aqA)(rs:aqx ResultVar)(m:Nat)(s:St):aqz (AV×aqx an):=
 match we P s rs with
 |some l=>bif cn m s.h.length&&((kP l).bw m).aQ m&&(((s.h.take m).map (an.bw m)).all (an.aQ m))then some (((kP l).bw m).nrm,((s.h.take m).map (an.bw m)).map an.qw)else none
 |none=>none
def s7(P:aqA)(fn:Func)(m:Nat)(R:AV)(H:aqx an):Exit->St->Prop
 | .normal,s=>wg P fn.results.toList m s=some (R,H)
 | .ret,s=>wg P fn.results.toList m s=some (R,H)
 |_,_=>False
theorem VK{P:aqA}{s:St}{fn:Func}{m:Nat}{R:AV}{H:aqx an}(h:wg P fn.results.toList m s=some (R,H)):tN P fn m (λr h'=>r.nrm=R/\h'.map an.qw=H) s:=by
 unfold wg at h;split at h
 ·next l e=>
  obtain⟨hb,he⟩:=eH h;cases he
  simp only[apL,dI]at hb;exact JH _ _ _ e ⟨hb.1.1,hb.1.2,hb.2,rfl,rfl⟩
 ·cases h
theorem Fa{P:aqA}{s:St}{fn:Func}{m:Nat}{R:AV}{H:aqx an}(h:wg P fn.results.toList m s=some (R,H)):s7 P fn m R H .ret s:=h
theorem sb{P:aqA}{s:St}{fn:Func}{m:Nat}{R:AV}{H:aqx an}(h:wg P fn.results.toList m s=some (R,H)):s7 P fn m R H .normal s:=h
theorem Ab{P:aqA}{f:FuncId}{fn:Func}{c:Code}{args:aqx AV}{h H:aqx an}{R:AV}(m:Nat)(hf:P.funcs[f]?=some fn)(hb:fn.body=some c)(hn:(fn.name== "runtime.NumGoroutine")=false)(hm:h.length<=m)
 (hw:bu P none h.length c (s7 P fn m R H) {n:=args.length+(fn.ntmps-args.length),t:=mA 0 args,h:=h}):cF P f args h λr1 h1=>r1=R/\h1=H:=by
 have h0:=B3 (P:=P) (f:=f) (args:=args) (h:=h) (K:=λr h'=>r.nrm=R/\h'.map an.qw=H) m hf hb hn hm (hw.mono λe s hq=>by
  cases e with
  |normal=>exact VK hq
  |ret=>exact VK hq
  |_=>exact hq.elim)
 refine⟨h0.1,λG w vs hi hl hr=>(h0.2 G w vs hi hl hr).mono λe w' hp=> ?_⟩;obtain⟨v,G',x,h',rfl,hE,hN,de,hv,rfl,rfl⟩:=hp;exact⟨v,G',x.nrm,_,rfl,hE,hN,Ps de,hv.nrm,rfl,rfl⟩
theorem zw{P:aqA}{r:aqz Nat}{N0:Nat}{c:Code}{s s':St}{Q:Exit->St->Prop}(e:s=s')(h:bu P r N0 c Q s'):bu P r N0 c Q s:=e▸h
def eZ{V:Type}:aqx (aqy×V)->aqy->V->V
 |[],_,d=>d
 |(k,v)::l,s,d=>bif bL k==bL s then v else eZ l s d
def o8{V:Type}:aqx (aqy×V)->aqy->Bool
 |[],_=>false
 |(k,_)::l,s=>bif bL k==bL s then true else o8 l s
def e8(l:aqx (aqy×Int)):aqx (aqy×D):=l.map λp=>(p.1, .v (.int .i64 p.2))
def BO(l:aqx (aqy×Bool)):aqx (aqy×D):=l.map λp=>(p.1, .v (.bool p.2))
def bN(l:aqx (aqy×aqy)):aqx (aqy×D):=l.map λp=>(p.1, .v (.string p.2))
theorem XS{V:Type}(f:V->D):∀(l:aqx (aqy×V))(s:aqy)(d:V),eN (l.map λp=>(p.1,f p.2)) s=bif o8 l s then some (f (eZ l s d))else none
 |[],s,d=>rfl
 |(k,v)::l,s,d=>by
  simp only[ap8,eN,o8,eZ];cases bL k==bL s with
  |true=>rfl
  |false=>simp only[cond_false];exact XS f l s d
theorem VF{V:Type}:∀(l:aqx (aqy×V))(s:aqy)(d:V),o8 l s=false->eZ l s d=d
 |[],s,d,_=>rfl
 |(k,v)::l,s,d,h=>by
  unfold o8 at h;unfold eZ;cases e:bL k==bL s with
  |true=>rw[e]at h;cases h
  |false=>rw[e]at h;simp only[cond_false];exact VF l s d h
theorem RA{V:Type}(f:V->D)(z:aqB)(d0:V)(hz:f d0= .v z)(ok:Bool)(l:aqx (aqy×V))(s:aqy):
 vy ok z (eN (l.map λp=>(p.1,f p.2)) s)=bif ok then .bz [.d (f (eZ l s d0)), .d (.v (.bool (o8 l s)))]else .d (f (eZ l s d0)):=by
 rw[XS f l s d0];cases e:o8 l s with
 |true=>cases ok<;>rfl
 |false=>rw[VF l s d0 e,hz];cases ok<;>rfl
theorem D7(ok:Bool)(l:aqx (aqy×Int))(s:aqy):vy ok (.int .i64 0) (eN (e8 l) s)=bif ok then .bz [.d (.v (.int .i64 (eZ l s 0))), .d (.v (.bool (o8 l s)))]else .d (.v (.int .i64 (eZ l s 0))):=
 RA (λn=> .v (.int .i64 n)) _ 0 rfl ok l s
theorem ac2(ok:Bool)(l:aqx (aqy×Bool))(s:aqy):vy ok (.bool false) (eN (BO l) s)=bif ok then .bz [.d (.v (.bool (eZ l s false))), .d (.v (.bool (o8 l s)))]else .d (.v (.bool (eZ l s false))):=
 RA (λn=> .v (.bool n)) _ false rfl ok l s
theorem LW(ok:Bool)(l:aqx (aqy×aqy))(s:aqy):vy ok (.string (bs [])) (eN (bN l) s)=bif ok then .bz [.d (.v (.string (eZ l s (bs [])))), .d (.v (.bool (o8 l s)))]else .d (.v (.string (eZ l s (bs [])))):=
 RA (λn=> .v (.string n)) _ (bs []) rfl ok l s
theorem Sb{l:aqx (aqy×Int)}(h:Nat.blt l.length 9223372036854775807=true):(Sd.lt (e8 l).length).ok:=by
 unfold e8;rw[apO];exact apR h
theorem ak8{l:aqx (aqy×Bool)}(h:Nat.blt l.length 9223372036854775807=true):(Sd.lt (BO l).length).ok:=by
 unfold BO;rw[apO];exact apR h
theorem Hg{l:aqx (aqy×aqy)}(h:Nat.blt l.length 9223372036854775807=true):(Sd.lt (bN l).length).ok:=by
 unfold bN;rw[apO];exact apR h
theorem aZ{n:Nat}(h:Nat.ble n 9223372036854775807=true):n<=maxLen:=apR h
def gI(g:Nat):aqx Int:=((AN y5 g).getD []).map λv=>match v with| .int _ n=>n|_=>0
def ta(l:aqx Int):aqy:=⟨(l.map λn=>UInt8.ofNat n.toNat).toArray⟩
theorem af9{α:Type}{c:Bool}{x y z:α}(h:(bif c then x else y)=z):(c=true/\x=z)\/(c=false/\y=z):=by
 cases c with
 |true=>exact .inl ⟨rfl,h⟩
 |false=>exact .inr ⟨rfl,h⟩
inductive HD
 |same
 |push (B:an)
 |set (n:Nat) (B:an)
def HD.app:HD->aqx an->aqx an
 | .same,h=>h
 | .push B,h=>h++[B]
 | .set n B,h=>h.set n B
def zN:Int->aqz Nat
 | .ofNat n=>some n
 | .negSucc _=>none
theorem Cs{z:Int}{n:Nat}(h:zN z=some n):0<=z/\z.toNat=n:=by
 cases z with
 |ofNat m=>cases h;exact⟨Int.natCast_nonneg _,rfl⟩
 |negSucc m=>cases h
def uX(ρ:Operand->AV)(d:Nat):aqz Operand->aqz Nat
 |none=>some d
 |some y=>match (ρ y).int? with
  |some z=>zN z
  |none=>none
def Cg(k:Nat)(xs:aqx (aqx D)):Bool:=xs.all λc=>c.length==k
def Jf(P:aqA)(T:TypeId)(x i:AV):aqz AV:=
 match eJ P T with
 |some (_,k)=>match x with
  | .row n off len _ k'=>match i.int? with
    |some z=>match zN z with
     |some q=>bif k'==k&&cn (q+1) len then some (.ptr n (off+q*k))else none
     |none=>none
    |none=>none
  |x=>match x.fM,i.int? with
   |some xs,some z=>match zN z with
    |some q=>match xs[q]? with
     |some c=>bif c.length==k then some (.bJ [c] 0 0)else none
     |none=>none
    |none=>none
   |_,_=>none
 |none=>match uB P T,x,i.int? with
  |some (n,_,k), .ptr b off,some z=>match zN z with
   |some q=>bif cn (q+1) n then some (.ptr b (off+q*k))else none
   |none=>none
  |some (n,_,k), .bJ xs e off,some z=>match zN z with
   |some q=>bif k==1&&cn (q+1) n then match xs[e]? with
    |some c=>match c[off+q]? with
     |some d=>some (.bJ [[d]] 0 0)
     |none=>none
    |none=>none
    else none
   |none=>none
  |_,_,_=>none
theorem ai9{P:aqA}{T:TypeId}{x i y:AV}{K:AV->Prop}(h:Jf P T x i=some y)(hK:K y):tX P T x i K:=by
 unfold Jf at h;unfold tX;split at h
 ·next e k eT=>
  simp only[eT];split at h
  ·next n off len cap k'=>
   simp only;split at h
   ·next z ez=>
    simp only[ez];split at h
    ·next q eq=>
     obtain⟨h0,h1⟩:=Cs eq;obtain⟨hb,he⟩:=eH h;rw[apL,dI]at hb;refine bS.2 ⟨hb.1,h0,by omega,?_⟩;rw[h1,he];exact hK
    ·cases h
   ·cases h
  ·next x' px=>
   split at h
   ·next xs z e1 e2=>
    split at h
    ·next q eq=>
     obtain⟨h0,h1⟩:=Cs eq;split at h
     ·next c ec=>
      obtain⟨hb,he⟩:=eH h;simp only[e1,e2];refine⟨h0,?_⟩;rw[h1,ec];exact⟨by simpa using hb,by rw[he];exact hK⟩
     ·cases h
    ·cases h
   ·cases h
 ·next eT=>
  simp only[eT];split at h
  ·next n e k b off z e1 e2=>
   simp only[e1,e2];split at h
   ·next q eq=>
    obtain⟨h0,h1⟩:=Cs eq;obtain⟨hb,he⟩:=eH h;rw[dI]at hb;exact⟨h0,by omega,by rw[h1,he];exact hK⟩
   ·cases h
  ·next n e0 k xs e off z e1 e2=>
   simp only[e1,e2];split at h
   ·next q eq=>
    obtain⟨h0,h1⟩:=Cs eq;obtain⟨hb,h⟩:=nF h;rw[apL,dI]at hb;split at h
    ·next c ec=>
     split at h
     ·next d ed=>
      cases h
      refine bS.2 ⟨hb.1,h0,by omega,?_⟩;rw[ec];simp only;rw[h1,ed];exact hK
     ·cases h
    ·cases h
   ·cases h
  ·cases h
def apA(P:aqA)(T:TypeId)(ρ:Operand->AV)(x:AV)(lo hi mx:aqz Operand):aqz AV:=
 match mx with
 |none=>
  match x with
  | .d (.v (.string b))=>match uX ρ b.size hi,uX ρ 0 lo with
    |some h,some l=>bif ia P T&&cn h b.size&&cn l h then some (.d (.v (.string (b.extract l h))))else none
    |_,_=>none
  | .ptr n off=>match uB P T with
    |some (m,_,k)=>match uX ρ m hi,uX ρ 0 lo with
     |some h,some l=>bif cn m 4096&&cn h m&&(cn l h&& !cn m l)then some (.row n (off+l*k) (h-l) (m-l) k)else none
     |_,_=>none
    |none=>none
  |x=>match x.fM,eJ P T with
   |some xs,some (_,k)=>match uX ρ xs.length hi,uX ρ 0 lo with
    |some h,some l=>bif Cg k xs&&cn h xs.length&&cn l h then some (.d (.sl ((xs.take h).drop l)))else none
    |_,_=>none
   |_,_=>none
 |some m=>match lo,hi with
  |none,some y=>match x.fM,eJ P T with
   |some xs,some (_,k)=>match uX ρ 0 (some m),uX ρ 0 (some y)with
    |some c,some h=>bif Cg k xs&&cn c xs.length&&h==c then some (.full (xs.take h))else none
    |_,_=>none
   |_,_=>none
  |_,_=>none
def apE(P:aqA)(T:TypeId)(h:aqx an)(x y:AV):aqz (AV×HD):=
 match eJ P T with
 |some (e,k)=>match iu P e,qF P e with
  |some z,some da=>match Jy h k y with
   |some ys=>bif cn 1 k&&z.cells.toList.length==k&&Cg k ys then
    match x with
    | .own n xs=>match h[n]? with
      |some (.front e' k' len)=>bif e'==e&&k'==k&&len==xs.length&&Cg k xs&&cn (xs.length+ys.length) maxLen&&cn ((xs.length+ys.length)*da) 140737488355328 then some (.own n (xs++ys), .set n (.front e k (xs.length+ys.length)))else none
      |_=>none
    | .d (.v (.slice none 0 0))=>bif cn ys.length maxLen&&cn (ys.length*da) 140737488355328 then some (.own h.length ys, .push (.front e k ys.length))else none
    | .full xs=>bif Cg k xs&&cn (xs.length+ys.length) maxLen&&cn ((xs.length+ys.length)*da) 140737488355328 then some (.own h.length (xs++ys), .push (.front e k (xs.length+ys.length)))else none
    |_=>none
    else none
   |none=>none
  |_,_=>none
 |none=>none
def Y8:aqx (aqx D)->aqz (aqx Int)
 |[]=>some []
 |[.v (.int .u8 n)]::l=>match Y8 l with
  |some ns=>some (n::ns)
  |none=>none
 |_=>none
def SB:aqz (AV×In)->aqz AV
 |some (x, .none)=>some x
 |some (x, .nz b)=>bif b==0 then none else some x
 |some (x, .nn b)=>match zN b with
  |some _=>some x
  |none=>none
 |some (x, .cat n)=>bif cn n maxLen then some x else none
 |_=>none
theorem alU{r:aqz (AV×In)}{x:AV}(P:aqA)(h:SB r=some x):∃i,r=some (x,i)/\OK P i .ok:=by
 unfold SB at h;split at h
 ·cases h;exact⟨_,rfl, .none⟩
 ·next b=>
  cases hb:b==0 with
  |true=>rw[hb]at h;cases h
  |false=>rw[hb]at h;cases h;exact⟨_,rfl, .nz (by simpa using hb)⟩
 ·next b=>
  split at h
  ·next e=>cases h;exact⟨_,rfl, .nn (Cs e).1⟩
  ·cases h
 ·obtain⟨hb,he⟩:=eH h;cases he
  exact⟨_,rfl, .cat (dI.1 hb)⟩
 ·cases h
def pX(r:aqz AV):aqz (AV×HD):=
 match r with
 |some x=>some (x, .same)
 |none=>none
def apD(P:aqA)(src dst:TypeId)(x:AV):aqz AV:=
 match MH P src dst x .none with
 |some (y, .none)=>some y
 |_=>match x.fM,eJ P src with
  |some xs,some (e,_)=>match Y8 xs with
   |some ns=>match x with
    | .d (.v _)=>none
    |_=>bif CP P e&&ia P dst then some (.d (.v (.string (ta ns))))else none
   |none=>none
  |_,_=>none
def mF(P:aqA)(op:Op)(ρ:Operand->AV)(h:aqx an):aqz (AV×HD):=
 match op with
 | .move x| .assign x=>some (ρ x, .same)
 | .pick c x y=>match ρ c with
   | .d (.v (.bool b))=>some (bif b then ρ x else ρ y, .same)
   |_=>none
 | .alloc e=>match iu P e with
   |some z=>some (.ptr h.length 0, .push (.cells (z.cells.toList.map λu=> .d (.v u))))
   |none=>none
 | .box _ x=>bif (ρ x).jJ then some (.ptr h.length 0, .push (.cells (ρ x).cells))else none
 | .load t p=>match yg h (ρ p)with
   |some (cs,off)=>pX (BF P t cs off)
   |none=>none
 | .store t p x=>match ρ p with
   | .ptr n off=>match h[n]? with
     |some (.cells cs)=>match fW P t with
      |some k=>bif k==(ρ x).cells.length&&(ρ x).jJ&&cn (off+(ρ x).cells.length) cs.length then some (.d (.v undef), .set n (.cells (jm cs off (ρ x).cells)))else none
      |none=>none
     |_=>none
   |_=>none
 | .nilCheck x=>match ρ x with
   | .ptr n off=>some (.ptr n off, .same)
   | .bJ xs i off=>some (.bJ xs i off, .same)
   | .fn f cs=>some (.fn f cs, .same)
   |_=>none
 | .fieldAddr S x f=>match tt P S f with
   |some (fo,_,_)=>match ρ x with
    | .ptr n off=>some (.ptr n (off+fo), .same)
    | .bJ xs i off=>some (.bJ xs i (off+fo), .same)
    |_=>none
   |none=>none
 | .field T x f=>pX (La P T (ρ x) f)
 | .indexAddr T x i=>pX (Jf P T (ρ x) (ρ i))
 | .extract x i=>match ρ x with
   | .bz cs=>match cs[i]? with
     |some c=>some (c, .same)
     |none=>none
   |_=>none
 | .makeFunc (.func f) first c7=>match first.toList with
   |[]=>some (.fn f (c7.toList.map ρ), .same)
   |_=>none
 | .binOp op T x y _=>pX (SB (IL P T op (ρ x) (ρ y)))
 | .unOp op _ x=>match ρ x with
   | .d (.v u)=>match Jm op u with
     |some v=>some (.d (.v v), .same)
     |none=>none
   |_=>none
 | .call c=>match c.callee with
   | .builtin .len=>match c.args.toList,c.argTypes.toList with
     |[x],[T]=>match ρ x with
      | .d (.v (.string s))=>bif ia P T then some (.d (.v (.int .i64 s.size)), .same)else none
      | .row _ _ len _ _=>bif (eJ P T).isSome then some (.d (.v (.int .i64 len)), .same)else none
      |x=>match x.fM with
       |some xs=>bif (eJ P T).isSome then some (.d (.v (.int .i64 xs.length)), .same)else none
       |none=>none
     |_,_=>none
   |_=>none
 |_=>none
theorem JY{r:aqz AV}{x:AV}{d:HD}(h:pX r=some (x,d)):r=some x/\d= .same:=by
 unfold pX at h;split at h
 ·cases h;exact⟨rfl,rfl⟩
 ·cases h
theorem aaf{P:aqA}{o:Oper}{ρ:Operand->AV}{h:aqx an}{x:AV}{d:HD}{C:AV->aqx an->Prop}(h1:mF P o.op ρ h=some (x,d))(hC:C x (d.app h)):cz P o ρ h C:=by
 obtain⟨dst,op,type,pos,after,guard⟩:=o;simp only at h1;unfold mF at h1;unfold cz;split at h1
 ·cases h1;exact hC
 ·cases h1;exact hC
 ·next c y z=>
  split at h1
  ·next b e=>
   cases h1
   simp only[e];cases b with
   |true=>exact⟨λ_=>hC,λh=>Bool.noConfusion h⟩
   |false=>exact⟨λh=>Bool.noConfusion h,λ_=>hC⟩
  ·cases h1
 ·split at h1
  ·next z e=>cases h1;simp only[e];exact hC
  ·cases h1
 ·obtain⟨hb,he⟩:=eH h1;cases he;exact bS.2 ⟨hb,hC⟩
 ·split at h1
  ·next cs off e=>
   obtain⟨e2,rfl⟩:=JY h1;exact RQ e e2 hC
  ·cases h1
 ·split at h1
  ·next n off e=>
   split at h1
   ·next cs e2=>
    split at h1
    ·next k e3=>obtain⟨hb,he⟩:=eH h1;cases he;simp only[e,xJ,e2,e3];exact bS.2 ⟨hb,hC⟩
    ·cases h1
   ·cases h1
  ·cases h1
 ·split at h1
  ·next e=>cases h1;simp only[e];exact hC
  ·next e=>cases h1;simp only[e];exact hC
  ·next e=>cases h1;simp only[e];exact hC
  ·cases h1
 ·split at h1
  ·next e=>
   simp only[e];split at h1
   ·next e2=>cases h1;simp only[e2];exact hC
   ·next e2=>cases h1;simp only[e2];exact hC
   ·cases h1
  ·cases h1
 ·obtain⟨e,rfl⟩:=JY h1;exact aae e hC
 ·obtain⟨e,rfl⟩:=JY h1;exact ai9 e hC
 ·split at h1
  ·next e=>
   split at h1
   ·next e2=>cases h1;simp only[e,e2];exact hC
   ·cases h1
  ·cases h1
 ·split at h1
  ·next e=>cases h1;simp only[e];exact hC
  ·cases h1
 ·obtain⟨e,rfl⟩:=JY h1;obtain⟨i,e2,bQ⟩:=alU P e;exact acH e2 bQ hC
 ·unfold xv;split at h1
  ·next e=>
   split at h1
   ·next e2=>cases h1;simp only[e,e2];exact hC
   ·cases h1
  ·cases h1
 ·next c=>
  split at h1
  ·next hc=>
   simp only[hc];split at h1
   ·next y T e1 e2=>
    simp only[e1,e2];unfold sH;split at h1
    ·next s e=>obtain⟨hb,he⟩:=eH h1;cases he;simp only[e];exact bS.2 ⟨hb,hC⟩
    ·next e=>obtain⟨hb,he⟩:=eH h1;cases he;simp only[e];exact bS.2 ⟨hb,hC⟩
    ·next n1 n2=>
     split at h1
     ·next xs e=>
      obtain⟨hb,he⟩:=eH h1;cases he;split
      ·next s e'=>exact absurd e' (n1 s)
      ·next e'=>exact absurd e' (n2 _ _ _ _ _)
      ·simp only[e];exact bS.2 ⟨hb,hC⟩
     ·cases h1
   ·cases h1
  ·cases h1
 ·cases h1
def eI(n:Nat)(t:aqx (Nat×AV)):aqx AV:=(List.range n).map (bC t)
theorem ahR{n:Nat}{t:aqx (Nat×AV)}{i:Nat}{c:AV}(h:(eI n t)[i]?=some c):bC t i=c:=by
 unfold eI at h;rw[apQ]at h;by_cases hi:i<n
 ·rw[List.getElem?_range hi]at h;exact ap2 h
 ·rw[aqf (by simpa using hi)]at h;cases h
def QL(P:aqA)(N0:Nat)(Q:Exit->St->Prop)(s:St):LS->Prop
 | .ready=>Q .normal s
 | .done c=>bu P none N0 c Q s
 | .busy=>False
theorem ahf{P:aqA}{N0:Nat}{s:St}{Q:Exit->St->Prop}{g:Operand}{p:Nat}{assign body:Code}{gf:FuncId}{c7:aqx AV}(hg:ev s g= .fn gf c7)
 (hc:cF P gf (.cY s.h.length::c7) (s.h++[.lp .ready p assign body (eI s.n s.t)]) λ_ h'=>∃(ls:LS)(p1:Nat)(tU uw:Code)(xr:aqx AV),h'[s.h.length]?=some (.lp ls p1 tU uw xr)/\QL P N0 Q ⟨s.n,s.t,h'.set s.h.length .gone⟩ ls):
 bu P none N0 (.rangeFunc g #[p] assign body) Q s:=by
 constructor
 intro G w a n hs hN;have hv:=hs.ev g;rw[hg]at hv;obtain⟨lb,ea,hl,hr⟩:∃lb:Array aqB,a.eval g= .func (.func gf) #[] lb/\lb.size=c7.length/\∀(i:Nat)(u:aqB)(c:AV),lb[i]?=some u->c7[i]?=some c->aD G w u c:=by
  generalize a.eval g=u at hv;cases hv with|fn _ vs _ hl hr=>exact⟨vs,rfl,hl,hr⟩
 obtain⟨GO,jw⟩:=hc;refine wpIn_rangeFunc (F:=WF none) ?_;intro fn _;obtain⟨DI,Wj⟩:=agX hs.inv;obtain⟨G0,jd⟩:∃G0:Gh,G0={G with Z:=λb=>G.Z b\/b=w.heap.size}:=⟨_,rfl⟩;obtain⟨w0,ri⟩:∃w0,w0=w.alloc (.deferred (some [])):=⟨_,rfl⟩;rw[<-jd,<-ri]at DI Wj;have cm:G0.N=G.N:=by rw[jd]
 have eY:w0.heap.size=w.heap.size+1:=by rw[ri];simp
 obtain⟨ib,nM,Rk⟩:=amv Wj fn a.tmps w.heap.size p assign body (eI s.n s.t) (by simp [eI,hs.size]) λi u c hu hc=>by
  have h9:=hs.tmp i;rw[ahR hc]at h9;have e:a.tmps.getD i undef=u:=by
   have aH:=(apY.1 hu).1;rw[ap5 aH]at hu;simp [Array.getD,aH];exact ap2 hu
  rw[e]at h9;exact h9.aT DI (Nat.le_of_eq cm.symm)
 obtain⟨w1,LD⟩:∃w1,w1=w0.alloc (.loop {state:= .ready,pending:=none,fn:=fn,tmps:=a.tmps,params:= #[p],assign:=assign,body:=body,defers:=w.heap.size}):=⟨_,rfl⟩;obtain⟨G1,SF⟩:∃G1:Gh,G1=G0.cT w0.heap.size:=⟨_,rfl⟩;rw[<-LD,<-SF]at ib nM Rk;have gK:G1.N=G.N+1:=by rw[SF,<-cm];rfl
 have aox:G1.aI s.h.length=w.heap.size+1:=by rw[SF,hs.inv.len,<-cm];simp [Gh.cT,eY]
 rw[eY]at Rk;have VY:bI G.N G w G1 w1:=DI.trans (ib.less (Nat.le_of_eq cm.symm));refine⟨w.heap.size+1,[{target:= .collected w.heap.size,args:= #[]}],w1,{target:= .fn (.func gf) lb,args:= #[.func (.yield (w.heap.size+1)) #[] #[]]},w1,gf, #[.func (.yield (w.heap.size+1)) #[] #[]]++lb,w1,?_,?_,λ_ _=>trivial,?_,λh=>(by simp [WF,Fence.wide]at h),?_⟩
 ·rw[LD,ri];exact run_enterLoop_outer _ _ _ _ _
 ·simp only[resolve,ea];simp [Deferred.ofValue,go_sem]
 ·simp [invoke,NY GO]
 have hK:=jw G1 w1 (#[.func (.yield (w.heap.size+1)) #[] #[]]++lb) nM (by simp [hl];omega) (λi u c hu hc=>by
  match i with
  |0=>
   rw[Array.getElem?_append_left (by simp)]at hu;simp at hu hc;subst hu;subst hc;exact Rk
  |i+1=>
   rw[Array.getElem?_append_right (by simp)]at hu;simp at hu hc;exact(hr i u c hu hc).aT VY (by rw[gK];exact Nat.le_succ _))
 refine CallsIn.mono (F:=WF none) (callsIn_wide (n:=n-1).2 hK) ?_;rintro e w2 ⟨v,G2,r,h',rfl,gX,Bj,sP,_,ls,p1,tU,uw,xr,hk,S3⟩;have Bu:s.h.length<G1.N:=by rw[hs.inv.len,gK];exact aqv _
 have mG:G2.aI s.h.length=w.heap.size+1:=(gX.aI _ Bu).trans aox;obtain⟨_,fn2,tm2,D2,g3,g4,g5,Xd⟩:=HT sP hk;rw[mG]at g3;have hEa:bI G.N G w G2 w2:=VY.trans (gX.less (by rw[gK];exact Nat.le_succ _));have KQ:G.N<=G2.N:=by rw[gK]at Bj;omega
 obtain⟨ob,kV⟩:∃ob:Obj,ob= .loop {state:= .exhausted,pending:=ls.pd,fn:=fn2,tmps:=tm2,params:= #[p1],assign:=tU,body:=uw,defers:=D2}:=⟨_,rfl⟩;obtain⟨zE,zI⟩:=aki sP hk ob;rw[mG]at zE zI;have EL:bI G.N G w G2 (w2.putObj (w.heap.size+1) ob):=hEa.trans (zE.less KQ);have hM:=hs.inv.gl.2;have Pl:G0.Z w.heap.size:=by rw[jd];exact .inr rfl
 have hDZ:G2.Z w.heap.size:=gX.Z.1.1 _ (ib.Z.1.1 _ Pl);have hDh:(w2.putObj (w.heap.size+1) ob).heap[w.heap.size]?=some (.deferred (some [])):=by
  rw[zE.old _ hDZ,gX.old _ (ib.Z.1.1 _ Pl),ib.old _ Pl,ri];exact World.alloc_heap_new w _
 have ct:cG G2 (w2.putObj (w.heap.size+1) ob) {a with defers:=[{target:= .collected w.heap.size,args:= #[]}]++a.defers} ⟨s.n,s.t,h'.set s.h.length .gone⟩:=by
  refine⟨hs.size,λi=>(hs.tmp i).aT EL KQ,zI,?_⟩;obtain⟨l,l1,l2,l3⟩:=hs.df.aT EL;obtain⟨l',l1',l2',l3'⟩:=hs.df;have oW:l=l':=by
   rw[l2]at l2';have ajs:∀(x y:aqx Nat),x.map (λD=>({target:= .collected D,args:= #[]}:Deferred))=y.map (λD=>{target:= .collected D,args:= #[]})->x=y:=by
     intro x
     induction x with
     |nil=>intro y h;cases y with
      |nil=>rfl
      |cons b y=>simp at h
     |cons a x ih=>intro y h;cases y with
      |nil=>simp at h
      |cons b y=>simp at h;rw[h.1,ih y (by simpa using h.2)]
   exact ajs _ _ l2'
  refine⟨w.heap.size::l,?_,by rw[ap8,<-l2];rfl,λD hD=> ?_⟩
  ·rw[List.nodup_cons];exact⟨λh=>aqn _ (hs.inv.z _ (l3' _ (oW▸h)).2.1),l1⟩
  ·rcases aqd.1 hD with rfl|hD
   ·exact⟨by rw[EL.Z.2];exact hM,hDZ,hDh⟩
   ·exact l3 D hD
 subst kV;have Fj:=λhb=>run_endLoop (P:=P) g3 hb;cases ls with
 |busy=>exact S3.elim
 |ready=>
  refine⟨_,_,Fj (by simp [LS.st]),?_⟩;exact⟨G2,_,EL.less hN,ap1 hN KQ,ct,S3⟩
 |done c=>
  refine⟨_,_,Fj (by simp [LS.st]),?_⟩;refine wpIn_mono (S3.run G2 _ _ n (ct) (ap1 hN KQ)) λ_ _ _ hn=> ?_;exact hn.trans (EL.less hN)
set_option linter.unusedSimpArgs false
set_option linter.unusedVariables false
mutual
theorem CI:∀x:AV,x.aL id=x
 | .agg cs=>by rw[AV.aL,sq cs]
 | .bz cs=>by rw[AV.aL,sq cs]
 | .fn f cs=>by rw[AV.aL,sq cs]
 | .own .. =>by simp [AV.aL]
 | .d _=>by simp [AV.aL]
 | .ptr .. =>by simp [AV.aL]
 | .bJ .. =>by simp [AV.aL]
 | .full _=>by simp [AV.aL]
 | .row .. =>by simp [AV.aL]
 | .mp _=>by simp [AV.aL]
 | .cY _=>by simp [AV.aL]
 | .vec .. =>by simp [AV.aL]
 | .dq .. =>by simp [AV.aL]
 | .hid _=>by simp [AV.aL]
 | .dead=>by simp [AV.aL]
theorem sq:∀l:aqx AV,AV.dR id l=l
 |[]=>by simp [AV.dR]
 |x::l=>by rw[AV.dR,CI x,sq l]
end
theorem Sr(B:an):B.aL id=B:=by
 cases B with
 |cells cs=>simp only[an.aL,sq]
 |lp ls p as bd cs=>simp only[an.aL,sq]
 |it sn cs=>simp only[an.aL,sq]
 |aV T0 cs=>simp only[an.aL,sq]
 |vec e k cs=>simp only[an.aL];congr 1;exact(aqe λx _=>sq x).trans (List.map_id _)
 |_=>rfl
theorem aD.low{G:Gh}{w:aqC}{u:aqB}{x:AV}(h:aD G w u x):x.aQ G.N=true:=by
 have lt:∀{n:Nat},n<G.N->(!cn G.N n)=true:=fun{n} hn=>by
  rw[Bool.not_eq_true',<-Bool.not_eq_true,dI];omega
 have gk:∀(vs:Array aqB)(cs:aqx AV),vs.size=cs.length->(∀(i:Nat)(u:aqB)(c:AV),vs[i]?=some u->cs[i]?=some c->c.aQ G.N=true)->AV.oH G.N cs=true:=λvs cs hl h=>by
  rw[np,ap9];intro c hc;obtain⟨i,hi,rfl⟩:=List.mem_iff_getElem.1 hc;exact h i vs[i] _ (ap5 (by omega)) (apN hi)
 induction h with
 |agg vs cs hl _ ih=>rw[AV.aQ];exact gk vs cs hl ih
 |bz vs cs hl _ ih=>rw[AV.aQ];exact gk vs cs hl ih
 |fn f vs cs hl _ ih=>rw[AV.aQ];exact gk vs cs hl ih
 |ptr n off h=>rw[AV.aQ];exact lt h
 |own n xs h=>rw[AV.aQ];exact lt h
 |row n off len cap k h=>rw[AV.aQ];exact lt h
 |mp n h=>rw[AV.aQ];exact lt h
 |cY n h=>rw[AV.aQ];exact lt h
 |vec n o len L k h=>rw[AV.aQ];exact lt h
 |dq n i j L k h=>rw[AV.aQ];exact lt h
 |_=>simp [AV.aQ]
def jO(N0:Nat)(s s':St):Prop:=∀(G:Gh)(w:aqC)(a:Act),N0<=G.N->cG G w a s->∃G',bI N0 G w G' w/\N0<=G'.N/\cG G' w a s'
theorem jO.refl(N0:Nat)(s:St):jO N0 s s:=λG _ _ hN hs=>⟨G,bI.refl _ _ _,hN,hs⟩
theorem jO.trans{N0:Nat}{s1 s2 s3:St}(h:jO N0 s1 s2)(k:jO N0 s2 s3):jO N0 s1 s3:=λG w a hN hs=>by
 obtain⟨G1,e1,n1,h1⟩:=h G w a hN hs;obtain⟨G2,e2,n2,h2⟩:=k G1 w a n1 h1;exact⟨G2,e1.trans e2,n2,h2⟩
theorem jO.of_eq{N0:Nat}{s s':St}(h:iZ s s'):jO N0 s s':=λG _ _ hN hs=>
 ⟨G,bI.refl _ _ _,hN,hs.size.trans h.n,λi=>by rw[<-h.t i];exact hs.tmp i,by rw[<-h.h];exact hs.inv,hs.df⟩
theorem jO.aL{N0:Nat}{s s':St}(σ τ:Nat->Nat)(hn:s.n=s'.n)(hlen:s'.h.length=s.h.length)(aH:∀i,i<s.h.length->σ i<s.h.length)(hτ:∀i,i<s.h.length->τ i<s.h.length)
 (wm:∀i,i<s.h.length->τ (σ i)=i) (l0:∀i,i<s.h.length->σ (τ i)=i) (yi:∀i,i<N0->σ i=i)
 (ht:∀i,(bC s.t i).aQ s.h.length=true->bC s'.t i=(bC s.t i).aL σ\/bC s'.t i= .dead) (hh:∀i,i<s.h.length->s'.h[σ i]?=(s.h[i]?).map (an.aL σ)):jO N0 s s':=λG w a hN hs=>by
 have hl:s.h.length=G.N:=hs.inv.len;rw[hl]at aH hτ wm l0 hh hlen ht;have QO:∀i,i<N0->τ i=i:=λi hi=>by
  have h1:=wm i (by omega);rw[yi i hi]at h1;exact h1
 let G':Gh:={G with aI:=λn=>G.aI (τ n),sg:=λn=>G.sg (τ n),ow:=λn=>G.ow (τ n),fl:=λn=>G.fl (τ n)}
 have hR:qI σ G G':=⟨aH,λn h=>by show G.aI (τ (σ n))=_;rw[wm n h],λn h=>by show G.sg (τ (σ n))=_;rw[wm n h],λn h=>by show G.fl (τ (σ n))=_;rw[wm n h],λn h=>by show G.ow (τ (σ n))=_;rw[wm n h],λ_ _=>Iff.rfl⟩;have hE:bI N0 G w G' w:=⟨apU _,λ_ _ h=>h,λ_ _ _=>rfl,λn h=>by show G.aI (τ n)=_;rw[QO n h],λn h=> .inl ⟨by show G.fl (τ n)=_;rw[QO n h],by show G.sg (τ n)=_;rw[QO n h]⟩,gp rfl,λ_ _=>rfl,rfl,rfl,rfl,λ_ _ h=> .inl h⟩;have eC:∀(n:Nat)(B:an),s'.h[n]?=some B->∃m B0,m<G.N/\σ m=n/\s.h[m]?=some B0/\B=B0.aL σ:=λn B hB=>by
  have eE:n<G.N:=by have:=(apJ.1 hB).1;omega
  have h1:=hh (τ n) (hτ n eE);rw[l0 n eE,hB]at h1;cases h2:s.h[τ n]? with
  |none=>rw[h2]at h1;cases h1
  |some B0=>rw[h2]at h1;cases h1;exact⟨τ n,B0,hτ n eE,l0 n eE,h2,rfl⟩
 have dS:∀(n b:Nat),bM s'.h G' n=some b->∃m,m<G.N/\σ m=n/\bM s.h G m=some b:=λn b hb=>by
  obtain⟨B,hB,hb⟩:=od hb;obtain⟨m,B0,k1,k2,k3,rfl⟩:=eC n B hB;subst k2;rw[SY hR k1]at hb;exact⟨m,k1,rfl,by rw[dc k3];exact hb⟩
 refine⟨G',hE,hN,hs.size.trans hn,λi=> ?_,⟨hlen,hs.inv.z,hs.inv.S,λn B hB=> ?_,λm n b hm eE=> ?_,hs.inv.gl.aT hE⟩,hs.df.aT hE⟩
 ·have hv:=hs.tmp i;rcases ht i hv.low with e|e
  ·rw[e];exact hv.aL hR
  ·rw[e];exact .dead _
 ·obtain⟨m,B0,k1,k2,k3,rfl⟩:=eC n B hB;subst k2;have hb:=hs.inv.cD m B0 k3;exact dD.aL hR k1 (λb h1=>hb.kY h1) hb
 ·obtain⟨m',k1,k2,k3⟩:=dS m b hm;obtain⟨n',j1,j2,j3⟩:=dS n b eE;have:=hs.inv.inj m' n' b k3 j3;rw[<-k2,<-j2,this]
def Tr:aqB->aqB->Bool
 | .bool a, .bool b=>a==b
 | .int k a, .int l b=>decide (k=l)&&decide (a=b)
 | .string a, .string b=>bL a==bL b
 | .pointer none, .pointer none=>true
 | .slice none a b, .slice none c d=>a==c&&b==d
 | .map none, .map none=>true
 | .nilFunc, .nilFunc=>true
 | .nilIface, .nilIface=>true
 | .tuple a, .tuple b=>a.size==0&&b.size==0
 |_,_=>false
theorem ais{u v:aqB}(h:Tr u v=true):u=v:=by
 unfold Tr at h;split at h
 ·rw[beq_iff_eq]at h;subst h;rfl
 ·rw[apL,decide_eq_true_eq,decide_eq_true_eq]at h;obtain⟨h1,h2⟩:=h;subst h1;subst h2;rfl
 ·rw[beq_iff_eq]at h;rw[iL h]
 ·rfl
 ·rw[apL,beq_iff_eq,beq_iff_eq]at h;obtain⟨h1,h2⟩:=h;subst h1;subst h2;rfl
 ·rfl
 ·rfl
 ·rfl
 ·rw[apL,beq_iff_eq,beq_iff_eq]at h;rw[Array.eq_empty_of_size_eq_zero h.1,Array.eq_empty_of_size_eq_zero h.2]
 ·cases h
mutual
def D.vj:D->D->Bool
 | .v a, .v b=>Tr a b
 | .sl xs, .sl ys=>D.sO xs ys
 |_,_=>false
def D.sO:aqx (aqx D)->aqx (aqx D)->Bool
 |[],[]=>true
 |x::xs,y::ys=>D.Ae x y&&D.sO xs ys
 |_,_=>false
def D.Ae:aqx D->aqx D->Bool
 |[],[]=>true
 |x::xs,y::ys=>D.vj x y&&D.Ae xs ys
 |_,_=>false
end
mutual
theorem D.OC:∀x y:D,D.vj x y=true->x=y
 | .v a, .v b,h=>by rw[D.vj]at h;rw[ais h]
 | .sl xs, .sl ys,h=>by rw[D.vj]at h;rw[D.CU xs ys h]
 | .v _, .sl _,h=>by simp [D.vj]at h
 | .sl _, .v _,h=>by simp [D.vj]at h
theorem D.CU:∀x y:aqx (aqx D),D.sO x y=true->x=y
 |[],[],_=>rfl
 |x::xs,y::ys,h=>by rw[D.sO,apL]at h;rw[D.abg x y h.1,D.CU xs ys h.2]
 |[],_::_,h=>by simp [D.sO]at h
 |_::_,[],h=>by simp [D.sO]at h
theorem D.abg:∀x y:aqx D,D.Ae x y=true->x=y
 |[],[],_=>rfl
 |x::xs,y::ys,h=>by rw[D.Ae,apL]at h;rw[D.OC x y h.1,D.abg xs ys h.2]
 |[],_::_,h=>by simp [D.Ae]at h
 |_::_,[],h=>by simp [D.Ae]at h
end
mutual
def AV.fK(σ:Nat->Nat):AV->AV->Bool
 | .d x,y=>(match y with| .d y=>D.vj x y|_=>false)
 | .agg a,y=>(match y with| .agg b=>AV.qy σ a b|_=>false)
 | .bz a,y=>(match y with| .bz b=>AV.qy σ a b|_=>false)
 | .fn f a,y=>(match y with| .fn g b=>f==g&&AV.qy σ a b|_=>false)
 | .ptr n o,y=>(match y with| .ptr m p=>σ n==m&&o==p|_=>false)
 | .bJ xs i o,y=>(match y with| .bJ ys j p=>D.sO xs ys&&(i==j&&o==p)|_=>false)
 | .own n xs,y=>(match y with| .own m ys=>σ n==m&&D.sO xs ys|_=>false)
 | .full xs,y=>(match y with| .full ys=>D.sO xs ys|_=>false)
 | .row n i1 i2 i3 i4,y=>(match y with| .row m j1 j2 j3 j4=>σ n==m&&(i1==j1&&(i2==j2&&(i3==j3&&i4==j4)))|_=>false)
 | .mp n,y=>(match y with| .mp m=>σ n==m|_=>false)
 | .cY n,y=>(match y with| .cY m=>σ n==m|_=>false)
 | .vec n i1 i2 i3 i4,y=>(match y with| .vec m j1 j2 j3 j4=>σ n==m&&(i1==j1&&(i2==j2&&(i3==j3&&i4==j4)))|_=>false)
 | .dq n i1 i2 i3 i4,y=>(match y with| .dq m j1 j2 j3 j4=>σ n==m&&(i1==j1&&(i2==j2&&(i3==j3&&i4==j4)))|_=>false)
 | .dead,y=>(match y with| .dead=>true|_=>false)
 | .hid _,_=>false
def AV.qy(σ:Nat->Nat):aqx AV->aqx AV->Bool
 |[],y=>(match y with|[]=>true|_=>false)
 |x::xs,l=>(match l with|y::ys=>AV.fK σ x y&&AV.qy σ xs ys|_=>false)
end
mutual
theorem AV.Hn(σ:Nat->Nat):∀x y:AV,AV.fK σ x y=true->y=x.aL σ
 | .d x,y,h=>by
   cases y with
   |d y=>simp only[AV.fK,apL,beq_iff_eq]at h;rw[AV.aL,D.OC _ _ h]
   |_=>simp [AV.fK]at h
 | .agg a,y,h=>by
   cases y with
   |agg b=>simp only[AV.fK,apL,beq_iff_eq]at h;rw[AV.aL,AV.yU σ _ _ h]
   |_=>simp [AV.fK]at h
 | .bz a,y,h=>by
   cases y with
   |bz b=>simp only[AV.fK,apL,beq_iff_eq]at h;rw[AV.aL,AV.yU σ _ _ h]
   |_=>simp [AV.fK]at h
 | .fn f a,y,h=>by
   cases y with
   |fn g b=>simp only[AV.fK,apL,beq_iff_eq]at h;rw[AV.aL,AV.yU σ _ _ h.2,h.1]
   |_=>simp [AV.fK]at h
 | .ptr n o,y,h=>by
   cases y with
   |ptr m p=>simp only[AV.fK,apL,beq_iff_eq]at h;rw[AV.aL,h.1,h.2]
   |_=>simp [AV.fK]at h
 | .bJ xs i o,y,h=>by
   cases y with
   |bJ ys j p=>simp only[AV.fK,apL,beq_iff_eq]at h;rw[AV.aL,D.CU _ _ h.1,h.2.1,h.2.2]
   |_=>simp [AV.fK]at h
 | .own n xs,y,h=>by
   cases y with
   |own m ys=>simp only[AV.fK,apL,beq_iff_eq]at h;rw[AV.aL,D.CU _ _ h.2,h.1]
   |_=>simp [AV.fK]at h
 | .full xs,y,h=>by
   cases y with
   |full ys=>simp only[AV.fK,apL,beq_iff_eq]at h;rw[AV.aL,D.CU _ _ h]
   |_=>simp [AV.fK]at h
 | .row n i1 i2 i3 i4,y,h=>by
   cases y with
   |row m j1 j2 j3 j4=>simp only[AV.fK,apL,beq_iff_eq]at h;rw[AV.aL,h.1,h.2.1,h.2.2.1,h.2.2.2.1,h.2.2.2.2]
   |_=>simp [AV.fK]at h
 | .vec n i1 i2 i3 i4,y,h=>by
   cases y with
   |vec m j1 j2 j3 j4=>simp only[AV.fK,apL,beq_iff_eq]at h;rw[AV.aL,h.1,h.2.1,h.2.2.1,h.2.2.2.1,h.2.2.2.2]
   |_=>simp [AV.fK]at h
 | .dq n i1 i2 i3 i4,y,h=>by
   cases y with
   |dq m j1 j2 j3 j4=>simp only[AV.fK,apL,beq_iff_eq]at h;rw[AV.aL,h.1,h.2.1,h.2.2.1,h.2.2.2.1,h.2.2.2.2]
   |_=>simp [AV.fK]at h
 | .mp n,y,h=>by
   cases y with
   |mp m=>simp only[AV.fK,apL,beq_iff_eq]at h;rw[AV.aL,h]
   |_=>simp [AV.fK]at h
 | .cY n,y,h=>by
   cases y with
   |cY m=>simp only[AV.fK,apL,beq_iff_eq]at h;rw[AV.aL,h]
   |_=>simp [AV.fK]at h
 | .dead,y,h=>by
   cases y with
   |dead=>rw[AV.aL]
   |_=>simp [AV.fK]at h
 | .hid _,y,h=>by simp [AV.fK]at h
theorem AV.yU(σ:Nat->Nat):∀x y:aqx AV,AV.qy σ x y=true->y=AV.dR σ x
 |[],y,h=>by
  cases y with
  |nil=>rw[AV.dR]
  |cons=>simp [AV.qy]at h
 |x::xs,l,h=>by
  cases l with
  |nil=>simp [AV.qy]at h
  |cons y ys=>simp only[AV.qy,apL]at h;rw[AV.dR,AV.Hn σ _ _ h.1,AV.yU σ _ _ h.2]
end
def zF:aqx (aqy×D)->aqx (aqy×D)->Bool
 |[],[]=>true
 |(k,d)::l,(k',d')::l'=>bL k==bL k'&&D.vj d d'&&zF l l'
 |_,_=>false
theorem UU:∀x y,zF x y=true->x=y
 |[],[],_=>rfl
 |(k,d)::l,(k',d')::l',h=>by
  rw[zF,apL,apL]at h;rw[iL (beq_iff_eq.1 h.1.1),D.OC _ _ h.1.2,UU l l' h.2]
 |[],_::_,h=>by simp [zF]at h
 |_::_,[],h=>by simp [zF]at h
def BQ(σ:Nat->Nat):aqx (aqx AV)->aqx (aqx AV)->Bool
 |[],[]=>true
 |x::xs,y::ys=>AV.qy σ x y&&BQ σ xs ys
 |_,_=>false
theorem Xi(σ:Nat->Nat):∀x y,BQ σ x y=true->y=x.map (AV.dR σ)
 |[],[],_=>rfl
 |x::xs,y::ys,h=>by
  rw[BQ,apL]at h;rw[ap8,AV.yU σ x y h.1,Xi σ xs ys h.2]
 |[],_::_,h=>by simp [BQ]at h
 |_::_,[],h=>by simp [BQ]at h
def an.fK(σ:Nat->Nat):an->an->Bool
 | .cells a,y=>(match y with| .cells b=>AV.qy σ a b|_=>false)
 | .front e k l,y=>(match y with| .front e' k' l'=>e==e'&&(k==k'&&l==l')|_=>false)
 | .bm _ _,_=>false
 | .vec e k cs,y=>(match y with| .vec e' k' ds=>e==e'&&(k==k'&&BQ σ cs ds)|_=>false)
 | .map kv,y=>(match y with| .map DJ=>zF kv DJ|_=>false)
 | .fV _,_=>false
 | .it sn cs,y=>(match y with| .it sn' ds=>sn==sn'&&AV.qy σ cs ds|_=>false)
 | .aV _ _,_=>false
 | .gone,y=>(match y with| .gone=>true|_=>false)
 | .lp ..,_=>false
theorem an.Hn(σ:Nat->Nat)(x y:an)(h:an.fK σ x y=true):y=x.aL σ:=by
 cases x<;>cases y<;>simp only[an.fK,apL,beq_iff_eq,Bool.false_eq_true]at h
 ·rw[an.aL,AV.yU σ _ _ h]
 ·rw[an.aL,h.1,h.2.1,h.2.2]
 ·rw[an.aL,h.1,h.2.1,Xi σ _ _ h.2.2]
 ·rw[an.aL,UU _ _ h]
 ·rw[an.aL,h.1,AV.yU σ _ _ h.2]
 ·rfl
def fJ(h0:Nat)(p:aqx Nat)(i:Nat):Nat:=bif cn h0 i then p.getD (i-h0) i else i
def zg(ts Ak:aqx (Nat×AV))(ks:aqx Nat)(i:Nat):Nat:=
 match ks with
 |[]=>i
 |d::ks=>match bC ts d,bC Ak d with
  | .ptr n _, .ptr m _=>bif n==i then m else zg ts Ak ks i
  | .own n _, .own m _=>bif n==i then m else zg ts Ak ks i
  | .vec n _ _ _ _, .vec m _ _ _ _=>bif n==i then m else zg ts Ak ks i
  | .mp n, .mp m=>bif n==i then m else zg ts Ak ks i
  |_,_=>zg ts Ak ks i
def Ge(s s':St)(ks:aqx Nat)(h0:Nat):Nat->aqx Nat
 |0=>[]
 |k+1=>zg s.t s'.t ks h0::Ge s s' ks (h0+1) k
def TN(h0:Nat)(ks:aqx Nat)(s s':St)(p q:aqx Nat):Bool:=
 (s'.h.length==s.h.length)&&(((List.range s.h.length).all λi=>cn (fJ h0 p i+1) s.h.length&&cn (fJ h0 q i+1) s.h.length&&fJ h0 q (fJ h0 p i)==i&&fJ h0 p (fJ h0 q i)==i)&&(ks.all (λd=>AV.fK (fJ h0 p) (bC s.t d) (bC s'.t d))&&
  ((List.range s.h.length).all λi=>match s.h[i]?,s'.h[fJ h0 p i]? with
    |some B,some B'=>an.fK (fJ h0 p) B B'
    |_,_=>false)))
def Wy(h0:Nat)(ks:aqx Nat)(s s':St):Bool:=TN h0 ks s s' (Ge s s' ks h0 (s.h.length-h0)) (Ge s' s ks h0 (s.h.length-h0))
structure lU(ks:List Nat)(s0 s:St):Prop where
 n:s.n=s0.n
 t:∀d,d ∉ ks->bC s.t d=bC s0.t d
theorem lU.refl(ks:aqx Nat)(s:St):lU ks s s:=⟨rfl,λ_ _=>rfl⟩
theorem lU.put{ks:aqx Nat}{s0 s:St}(h:lU ks s0 s)(h1:aqx an){d:aqz Nat}(x:AV)(hd:∀k,d=some k->k∈ks):lU ks s0 ((s.wh h1).put d x):=
 ⟨by rw[qY];exact h.n,λi hi=>by
  rw[tz,if_neg]
  ·exact h.t i hi
  ·rintro⟨e,_⟩;exact hi (hd i e)⟩
theorem apB{N0 h0:Nat}{ks:aqx Nat}{s0 s s':St}(hN:N0<=h0)(xd:∀i,(bC s0.t i).aQ h0=true)(hb:lU ks s0 s)(fB:lU ks s0 s')(h:Wy h0 ks s s'=true):jO N0 s s':=by
 unfold Wy at h;generalize Ge s s' ks h0 (s.h.length-h0)=p at h;generalize Ge s' s ks h0 (s.h.length-h0)=q at h;unfold TN at h;simp only[apL,beq_iff_eq,ap9,List.mem_range,dI]at h;obtain⟨h1,h2,h3,h4⟩:=h;have yi:∀i,i<h0->fJ h0 p i=i:=λi hi=>by
  unfold fJ;have:cn h0 i=false:=by rw[<-Bool.not_eq_true,dI];omega
  rw[this];rfl
 refine jO.aL (fJ h0 p) (fJ h0 q) (hb.n.trans fB.n.symm) h1 (λi hi=>(h2 i hi).1.1.1) (λi hi=>(h2 i hi).1.1.2) (λi hi=>(h2 i hi).1.2) (λi hi=>(h2 i hi).2) (λi hi=>yi i (by omega)) (λi _=> ?_) λi hi=> ?_
 ·left
  by_cases hk:i∈ks
  ·exact AV.Hn _ _ _ (h3 i hk)
  ·rw[hb.t i hk,fB.t i hk,xp (τ:=id) yi _ (xd i),CI]
 ·have h5:=h4 i hi;split at h5
  ·next B B' e1 e2=>rw[e1,e2,an.Hn _ _ _ h5];rfl
  ·cases h5
def JO(N0:Nat)(K:St->Prop):Prop:=∀s s',jO N0 s s'->K s'->K s
theorem JO.c{N0:Nat}{K:St->Prop}(h:JO N0 K):wA K:=λs s' e hk=>h s' s (jO.of_eq e.symm) hk
theorem aoJ{P:aqA}{r:aqz Nat}{N0:Nat}{s:St}{Q:Exit->St->Prop}{m:Bool}{id:Nat}{ops:Array Oper}(hm:P.follows .mixedOrders=true)
 (h:N0<=s.h.length->(∀i,(bC s.t i).aQ s.h.length=true)->oV m P ops (λs1=>∃s2,jO N0 s1 s2/\Q .normal s2) ops.size (Array.replicate ops.size false) s):bu P r N0 (.region id ops true) Q s:=by
 constructor
 intro G w a n hs hN;obtain⟨d1,d2⟩:=hs.drew;refine wpIn_region_any hm ?_;have hl:=hs.inv.len;refine Gc (G:=G) (w:=w) (N0:=N0) (K:=λs1=>∃s2,jO N0 s1 s2/\Q .normal s2) (λa' w' hn=> ?_) ops.size _ G _ a s (d1.less hN) hN d2 (h (by omega) λi=>by rw[hl];exact(hs.tmp i).low);obtain⟨G',s',x1,x2,x3,s2,e0,x4⟩:=hn;obtain⟨G2,y1,y2,y3⟩:=e0 G' w' a' x2 x3;exact⟨G2,s2,x1.trans y1,y2,y3,x4⟩
theorem ai3{N0:Nat}(Q:St->Prop):JO N0 (λs1=>∃s2,jO N0 s1 s2/\Q s2):=λ_ _ h ⟨s2,h1,h2⟩=>⟨s2,h.trans h1,h2⟩
def bits(f:Nat->Bool):Nat->Nat
 |0=>0
 |n+1=>bif f n then bits f n|||(1<<<n)else bits f n
theorem Iq(f:Nat->Bool):∀(n j:Nat),Nat.testBit (bits f n) j=(decide (j<n)&&f j)
 |0,j=>by simp [bits]
 |n+1,j=>by
  unfold bits;have ih:=Iq f n j;cases hf:f n with
  |true=>
   simp only[cond_true,Nat.testBit_or,ih,Nat.one_shiftLeft,Nat.testBit_two_pow];by_cases e:n=j
   ·subst e;simp [hf]
   ·have:decide (j<n+1)=decide (j<n):=by simp;omega
    rw[this];simp [e]
  |false=>
   simp only[cond_false,ih];by_cases e:n=j
   ·subst e;simp [hf]
   ·have:decide (j<n+1)=decide (j<n):=by simp;omega
    rw[this]
def fN{α:Type}(n:Nat)(f:Nat->α):α:=Nat.casesOn (Nat.succ n) (f 0) f
theorem B8{α:Type}(n:Nat)(f:Nat->α):fN n f=f n:=rfl
def fL{α:Type}:aqx Nat->(aqx Nat->α)->α
 |[],f=>f []
 |n::l,f=>fN n λn=>fL l λl=>f (n::l)
theorem Dw{α:Type}:∀(l:aqx Nat)(f:aqx Nat->α),fL l f=f l
 |[],_=>rfl
 |n::l,f=>by rw[fL,B8,Dw l]
section
variable (ops:Array Oper)
def zB(o:Oper)(n j:Nat):Bool:=o.after.any λe=>Region.binds .any e&&(e.on==j||(j==n&&cn n e.on))
def Il(k:Nat):Nat:=match ops[k]? with
 |some o=>bits (zB o ops.size) (ops.size+1)
 |none=>1<<<ops.size
def VZ(m:Bool)(M:Array Nat)(k j:Nat):Bool:= !(j==k)&&(!((M.getD j 0).testBit k)&&match ops[k]?,ops[j]? with
 |some oi,some oj=> !(oi.apart ops oj&&zW m oi oj)
 |_,_=>true)
def Ei(m:Bool)(M:Array Nat)(k:Nat):Nat:=bits (VZ ops m M k) ops.size
def tO:Nat->Nat->aqx Nat
 |_,0=>[]
 |k,n+1=>Il ops k::tO (k+1) n
def rZ(m:Bool)(M:Array Nat):Nat->Nat->aqx Nat
 |_,0=>[]
 |k,n+1=>Ei ops m M k::rZ m M (k+1) n
end
def ui:aqx Nat->Nat->Nat->aqx Nat
 |[],_,_=>[]
 |a::A,L,k=>bif !(Nat.testBit L k)&&(L&&&a==a)then k::ui A L (k+1)else ui A L (k+1)
def EG(C:aqx Nat)(L:Nat):aqx Nat->aqz Nat
 |[]=>none
 |k::r=>bif (C.getD k 0)|||L==L then some k else EG C L r
section
variable (ops:Array Oper) (st:Oper->St->aqz St) (h0:Nat) (ks A C:aqx Nat)
def pa:aqx Oper->aqx Nat
 |[]=>[]
 |o::l=>match o.dst with
  |some d=>d::pa l
  |none=>pa l
end
theorem KI:∀{l:aqx Oper}{o:Oper},o∈l->∀d,o.dst=some d->d∈pa l
 |[],_,h,_,_=>by cases h
 |a::l,o,h,d,hd=>by
  unfold pa;rcases aqd.1 h with rfl|h
  ·rw[hd];simp
  ·split
   ·exact apS _ (KI h d hd)
   ·exact KI h d hd
theorem YM(ops:Array Oper):∀(n k i:Nat),(tO ops k n)[i]?=if i<n then some (Il ops (k+i))else none
 |0,k,i=>by simp [tO]
 |n+1,k,0=>by simp [tO]
 |n+1,k,i+1=>by rw[tO,aqk,YM ops n (k+1) i];simp only[Nat.add_lt_add_iff_right];rw[show k+1+i=k+(i+1) by omega]
theorem VV(ops:Array Oper)(m:Bool)(M:Array Nat):∀(n k i:Nat),(rZ ops m M k n)[i]?=if i<n then some (Ei ops m M (k+i))else none
 |0,k,i=>by simp [rZ]
 |n+1,k,0=>by simp [rZ]
 |n+1,k,i+1=>by rw[rZ,aqk,VV ops m M n (k+1) i];simp only[Nat.add_lt_add_iff_right];rw[show k+1+i=k+(i+1) by omega]
theorem YK{L:Nat}:∀(A:aqx Nat)(k i:Nat),i∈ui A L k↔k<=i/\Nat.testBit L i=false/\∃a,A[i-k]?=some a/\L&&&a=a
 |[],k,i=>by simp [ui]
 |a::A,k,i=>by
  have ih:=YK (L:=L) A (k+1) i;unfold ui;have key:i∈ui A L (k+1)↔k<i/\Nat.testBit L i=false/\∃b,(a::A)[i-k]?=some b/\L&&&b=b:=by
   rw[ih];constructor
   ·rintro⟨h1,h2,b,h3,h4⟩;refine⟨h1,h2,b,?_,h4⟩;rw[show i-k=(i-(k+1))+1 by omega,aqk];exact h3
   ·rintro⟨h1,h2,b,h3,h4⟩;refine⟨h1,h2,b,?_,h4⟩;rw[show i-k=(i-(k+1))+1 by omega,aqk]at h3;exact h3
  cases hb:(!(Nat.testBit L k)&&(L&&&a==a))with
  |true=>
   simp only[cond_true,aqd,key];simp only[apL,Bool.not_eq_true',beq_iff_eq]at hb;constructor
   ·rintro(rfl|⟨h1,h2⟩)
    ·exact⟨apU _,hb.1,a,by simp,hb.2⟩
    ·exact⟨by omega,h2⟩
   ·rintro⟨h1,h2⟩;rcases Nat.lt_or_eq_of_le h1 with h|h
    ·exact .inr ⟨h,h2⟩
    ·exact .inl h.symm
  |false=>
   simp only[cond_false,key];constructor
   ·rintro⟨h1,h2⟩;exact⟨by omega,h2⟩
   ·rintro⟨h1,h2,b,h3,h4⟩;rcases Nat.lt_or_eq_of_le h1 with h|h
    ·exact⟨h,h2,b,h3,h4⟩
    ·subst h;simp at h3;subst h3;rw[h2]at hb;simp at hb;exact absurd h4 hb
theorem aa8{C:aqx Nat}{L:Nat}:∀{r:aqx Nat}{k:Nat},EG C L r=some k->k∈r/\(C.getD k 0)|||L=L
 |[],k,h=>by cases h
 |a::r,k,h=>by
  unfold EG at h;cases hb:((C.getD a 0)|||L==L)with
  |true=>rw[hb]at h;cases h;exact⟨by simp,by simpa using hb⟩
  |false=>rw[hb]at h;have:=aa8 h;exact⟨apS _ this.1,this.2⟩
structure LM(ops:Array Oper)(L:Nat)(listed:Array Bool):Prop where
 sz:listed.size=ops.size
 b:∀i,Nat.testBit L i=listed.getD i false
theorem LM.set{ops:Array Oper}{L:Nat}{listed:Array Bool}(h:LM ops L listed){k:Nat}(hk:k<ops.size):LM ops (L|||(1<<<k)) (listed.setIfInBounds k true):=by
 refine⟨by simp [h.sz],λi=> ?_⟩;rw[Nat.testBit_or,Nat.one_shiftLeft,Nat.testBit_two_pow,h.b i];by_cases e:k=i
 ·subst e;have:k<listed.size:=by rw[h.sz];exact hk
  simp [this]
 ·rw[getD_set_ne false e];simp [e]
theorem LM.ready{ops:Array Oper}{L:Nat}{listed:Array Bool}(h:LM ops L listed)(i:Nat):i∈Region.ready .any ops listed↔i∈ui (tO ops 0 ops.size) L 0:=by
 rw[mem_ready,YK];simp only[Nat.zero_le,true_and,Nat.sub_zero,YM,ap3];have abd:∀j,ops.size<=j->Nat.testBit L j=false:=λj hj=>by
   rw[h.b,Array.getD_eq_getD_getElem?,Array.getElem?_eq_none (by rw[h.sz];exact hj)];rfl
 constructor
 ·rintro⟨h1,o,ho,h2⟩;have hi:=(apY.1 ho).1;have SA:listed.getD i false=false:=by
   have de:i<listed.size:=by rw[h.sz];exact hi
   simpa [de]using h1
  refine⟨by rw[h.b];exact SA,_,by rw[if_pos hi],?_⟩;apply Nat.eq_of_testBit_eq;intro j;rw[Nat.testBit_and];unfold Il;rw[ho];simp only[Iq];cases hb:(decide (j<ops.size+1)&&zB o ops.size j)with
  |false=>simp
  |true=>
   simp only[Bool.and_true];rw[apL]at hb;have hb:=hb.2;unfold zB at hb;rw[Array.any_eq_true']at hb;obtain⟨e,he,hb⟩:=hb;simp only[apL,Bool.or_eq_true,beq_iff_eq,dI]at hb;have h3:=h2 e he hb.1;have:e.on<ops.size:=by
    rcases Nat.lt_or_ge e.on ops.size with hl|hl
    ·exact hl
    ·have:=abd e.on hl;rw[h.b]at this;rw[this]at h3;cases h3
   rcases hb.2 with hj|⟨_,hj⟩
   ·rw[<-hj,h.b];exact h3
   ·omega
 ·rintro⟨h1,a,ha,h2⟩;split at ha
  ·next hi=>
   cases ha
   have ho:ops[i]?=some ops[i]:=ap5 hi;refine⟨?_,ops[i],ho,λe he SD=> ?_⟩
   ·rw[h.b]at h1;have de:i<listed.size:=by rw[h.sz];exact hi
    simpa [de]using h1
   ·have jR:∀j,j<ops.size+1->zB ops[i] ops.size j=true->Nat.testBit L j=true:=λj hj hf=>by
     have:=congrArg (λn=>Nat.testBit n j) h2;simp only[Nat.testBit_and]at this;unfold Il at this;rw[ho]at this;simp only[Iq]at this;rw[hf]at this
     simpa [hj]using this
    have ZW:∀j,(e.on==j||(j==ops.size&&cn ops.size e.on))=true->zB ops[i] ops.size j=true:=λj hj=>by
     unfold zB;rw[Array.any_eq_true'];exact⟨e,he,by rw[SD,hj];rfl⟩
    rcases Nat.lt_or_ge e.on ops.size with hl|hl
    ·rw[<-h.b];exact jR e.on (by omega) (ZW _ (by simp))
    ·have:=jR ops.size (by omega) (ZW _ (by simp [dI.2 hl]));rw[abd _ (apU _)]at this;cases this
  ·cases ha
section
variable {P:aqA} {ops:Array Oper} {st:Oper->St->aqz St} {h0:Nat} {m:Bool} {N0:Nat} {K:St->Prop} {s0:St}
end
end Go.Proofs.YtmkmibahjanejaaGreatDoor
namespace Go.Proofs.YtmkmibahjanejaaGreatDoor
open Go.RowKit
inductive Ex
 |n
 |r
 |x (id:Nat)
def SS{α:Type}(n:Nat)(f:Nat->α):α:=Nat.casesOn (Nat.succ n) (f 0) f
theorem aoL{α:Type}(n:Nat)(f:Nat->α):SS n f=f n:=rfl
def AV.force{α:Type}(x:AV)(f:AV->α):α:=
 match x with
 | .d (.v (.int k (.ofNat n)))=>SS n λn=>f (.d (.v (.int k (.ofNat n))))
 | .d (.v (.bool b))=>bif b then f (.d (.v (.bool true)))else f (.d (.v (.bool false)))
 |x=>f x
theorem AV.force_eq{α:Type}(x:AV)(f:AV->α):x.force f=f x:=by
 unfold AV.force;split
 ·rw[aoL]
 ·next b=>cases b<;>rfl
 ·rfl
def K6{α:Type}:aqx an->(aqx an->α)->α
 |[],f=>f []
 |b::l,f=>K6 l λr=>f (b::r)
theorem Vn{α:Type}:∀(l:aqx an)(f:aqx an->α),K6 l f=f l
 |[],_=>rfl
 |b::l,f=>by rw[K6,Vn l]
abbrev RM:=Bool->Nat->Code->St->aqz (Ex×St)
abbrev NB:=FuncId->aqx AV->aqz (aqz AV)
def apC:aqz (aqz AV)->Bool
 |some none=>true
 |_=>false
mutual
def AV.Um:AV->aqx Nat
 | .fn _ cs=>AV.Tj cs
 |_=>[]
def AV.Tj:aqx AV->aqx Nat
 |[]=>[]
 | .ptr n _::l=>n::AV.Tj l
 |x::l=>x.Um++AV.Tj l
end
def HK:aqx Nat->AV->aqx an->aqz (AV×aqx an)
 |[],r,h=>some (r,h)
 |b::l,r,h=>match h[b]? with
  |some (.cells cs)=>match nX cs with
   |some ds=>HK l (r.fg b ds) ((h.map (an.fg b ds)).set b .gone)
   |none=>none
  |_=>none
def Ue:AV->aqz D
 | .d x=>some x
 |_=>none
def Hz:aqx AV->aqz (aqx D)
 |[]=>some []
 |x::l=>match Ue x,Hz l with
  |some d,some r=>some (d::r)
  |_,_=>none
def Hq:aqx (aqx AV)->aqz (aqx (aqx D))
 |[]=>some []
 |x::l=>match Hz x,Hq l with
  |some d,some r=>some (d::r)
  |_,_=>none
mutual
def AV.Vo:AV->Bool
 | .vec .. =>true
 | .agg cs=>AV.JZ cs
 | .bz cs=>AV.JZ cs
 | .fn _ cs=>AV.JZ cs
 |_=>false
def AV.JZ:aqx AV->Bool
 |[]=>false
 |x::l=>x.Vo||AV.JZ l
end
def wM:aqx Nat->AV->aqx an->AV×aqx an
 |[],r,h=>(r,h)
 |b::l,r,h=>match h[b]? with
  |some (.vec _ k cs)=>match Hq cs with
   |some xs=>bif xs.all (λc=>c.all D.zl)then(r.dG b k xs).force λr=>K6 ((h.map (an.qf (AV.dG b k xs))).set b .gone) λh=>wM l r h else wM l r h
   |none=>wM l r h
  |_=>wM l r h
def adU(h:aqx an):aqx Nat:=(List.range h.length).reverse++(List.range h.length).reverse
def J2(r:AV)(h:aqx an):aqz AV:=
 match HK r.Um r h with
 |some (r,_)=>some (r.bw 0)
 |none=>none
def aaC(r:AV)(h:aqx an):aqz AV:=
 bif r.Vo then(match wM (adU h) r h with|(r,h)=>J2 r h)else J2 r h
section
variable (run:RM) (P:aqA) (UD:NB)
def cg(lo:Nat)(f:FuncId)(args:aqx AV)(h:aqx an):aqz (AV×aqx an):=
 match P.funcs[f]? with
 |some fn=>match fn.body with
  |some c=>SS (args.length+(fn.ntmps-args.length)) λn=>match run true lo c ⟨n,mA 0 args,h⟩with
   |some (.x _,_)=>none
   |some (_,s)=>match we P s fn.results.toList with
    |some l=>some (kP l,s.h)
    |none=>none
   |none=>none
  |none=>none
 |none=>none
end
section
variable {run:RM} {P:aqA} {UD:NB} {lo:Nat} {s s':St}
end
mutual
theorem A0(m:Nat):∀x:AV,x.aQ m=true->x.bw m=x
 | .own n xs,h=>by
   rw[AV.aQ]at h;rw[AV.bw];cases e:cn m n with
   |true=>rw[e]at h;cases h
   |false=>rfl
 | .agg cs,h=>by rw[AV.aQ]at h;rw[AV.bw,Jr m cs h]
 | .bz cs,h=>by rw[AV.aQ]at h;rw[AV.bw,Jr m cs h]
 | .fn f cs,h=>by rw[AV.aQ]at h;rw[AV.bw,Jr m cs h]
 | .d _,_=>by simp only[AV.bw]
 | .ptr ..,_=>by simp only[AV.bw]
 | .bJ ..,_=>by simp only[AV.bw]
 | .full _,_=>by simp only[AV.bw]
 | .row ..,_=>by simp only[AV.bw]
 | .mp _,_=>by simp only[AV.bw]
 | .cY _,_=>by simp only[AV.bw]
 | .vec ..,_=>by simp only[AV.bw]
 | .dq ..,_=>by simp only[AV.bw]
 | .hid _,_=>by simp only[AV.bw]
 | .dead,_=>by simp only[AV.bw]
theorem Jr(m:Nat):∀l:aqx AV,AV.oH m l=true->AV.p7 m l=l
 |[],_=>by simp [AV.p7]
 |x::l,h=>by
  rw[AV.oH,apL]at h;rw[AV.p7,A0 m x h.1,Jr m l h.2]
end
theorem akh{m:Nat}{B:an}(h:B.aQ m=true):B.bw m=B:=by
 cases B with
 |cells cs=>
  simp only[an.aQ,ap9]at h;simp only[an.bw]
  congr 1
  exact(aqe λx hx=>A0 m x (h x hx)).trans (List.map_id _)
 |lp ls p as bd cs=>
  simp only[an.aQ,ap9]at h;simp only[an.bw]
  congr 1
  exact(aqe λx hx=>A0 m x (h x hx)).trans (List.map_id _)
 |it sn cs=>
  simp only[an.aQ,ap9]at h;simp only[an.bw]
  congr 1
  exact(aqe λx hx=>A0 m x (h x hx)).trans (List.map_id _)
 |aV T0 cs=>
  simp only[an.aQ,ap9]at h;simp only[an.bw]
  congr 1
  exact(aqe λx hx=>A0 m x (h x hx)).trans (List.map_id _)
 |vec e k cs=>
  simp only[an.aQ,ap9]at h;simp only[an.bw]
  congr 1
  exact(aqe λx hx=>(aqe λy hy=>A0 m y (h x hx y hy)).trans (List.map_id _)).trans (List.map_id _)
 |front e k len=>rfl
 |bm e b=>rfl
 |map kv=>rfl
 |fV kv=>rfl
 |gone=>rfl
theorem OF{m:Nat}{h:aqx an}(e:h.all (an.aQ m)=true):h.map (an.bw m)=h:=
 (aqe λB hB=>akh (ap9.1 e B hB)).trans (List.map_id _)
end Go.Proofs.YtmkmibahjanejaaGreatDoor
namespace Go.Proofs.YtmkmibahjanejaaGreatDoor
open Go.RowKit
section
variable {P:aqA} {r:aqz Nat} {n N0:Nat} {G:Gh} {w:aqC} {a:Act} {s:St} {o:Oper} {Q:Exit->St->Prop}
end
theorem cF.cut{P:aqA}{f:FuncId}{args:aqx AV}{h h':aqx an}{r:AV}(m:Nat)(hc:cF P f args h λr1 h1=>r1=r/\h1=h')(h1:h.length<=m)(h2:m<=h'.length)(hb:(((h'.take m).map (an.bw m)).all (an.aQ m))=true)(hr:(r.bw m).aQ m=true):
 cF P f args h λr1 h1=>r1=r.bw m/\h1=(h'.take m).map (an.bw m):=by
 refine⟨hc.1,λG w vs hi hl hv=>(hc.2 G w vs hi hl hv).mono λe w' hp=> ?_⟩;obtain⟨v,G',_,_,rfl,hE,hN,de,M6,rfl,rfl⟩:=hp;exact⟨v,G'.cut m,_,_,rfl,hE.trans (qA _ _ _ _),by rw[<-hi.len];exact h1,Th de h2 hb,(M6.bw m).cut hr,rfl,rfl⟩
section
variable {run:RM} {P:aqA} {UD:NB} {lo:Nat} {s s':St}
theorem cF.chg{f:FuncId}{args:aqx AV}{h0 h h2:aqx an}{r r2:AV}{tl:aqx (Nat×AV)}(hc:cF P f args h0 λr1 h1=>r1=r/\h1=h)
 (hT:∀(G:Gh)(w:aqC)(a:Act),cG G w a ⟨1,[(0,r)],h⟩->∃G',bI G.N G w G' w/\G'.N=G.N/\cG G' w a ⟨1,(0,r2)::tl,h2⟩):cF P f args h0 λr1 h1=>r1=r2/\h1=h2:=by
 refine⟨hc.1,λG w vs hi hl hv=>(hc.2 G w vs hi hl hv).mono λe w' hp=> ?_⟩;obtain⟨v,G',_,_,rfl,hE,hN,de,M6,rfl,rfl⟩:=hp;obtain⟨G2,e1,e2,e3⟩:=hT G' w' {tmps:= #[v],defers:=[]} ⟨rfl,λi=>by
  show aD G' w' _ (bC [(0,_)] i);rw[nq];split
  ·next ei=>subst ei;exact M6
  ·exact .dead _,de,se.nil _ _⟩
 exact⟨v,G2,r2,h2,rfl,hE.trans (e1.less hN),by rw[e2];exact hN,e3.inv,e3.tmp 0,rfl,rfl⟩
theorem T3{f:FuncId}{args:aqx AV}{h0:aqx an}:∀(l:aqx Nat){h h2:aqx an}{r r2:AV},(cF P f args h0 λr1 h1=>r1=r/\h1=h)->HK l r h=some (r2,h2)->cF P f args h0 λr1 h1=>r1=r2/\h1=h2
 |[],h,h2,r,r2,hc,e=>by cases e;exact hc
 |b::l,h,h2,r,r2,hc,e=>by
  unfold HK at e;split at e
  ·next cs e1=>
   split at e
   ·next ds e2=>
    refine T3 l (cF.chg (tl:=[]) hc λG w a hs=> ?_) e;refine hs.Fc (b:=b) ?_;simp only[Go.Proofs.YtmkmibahjanejaaGreatDoor.Fc,e1,e2];rfl
   ·cases e
  ·cases e
theorem Yg:∀{l:aqx AV}{ds:aqx D},Hz l=some ds->l=ds.map AV.d
 |[],ds,h=>by cases h;rfl
 |x::l,ds,h=>by
  unfold Hz at h;split at h
  ·next d r e1 e2=>
   cases h
   rw[Yg e2];cases x<;>simp [Ue]at e1
   subst e1;rfl
  ·cases h
theorem Uf:∀{l:aqx (aqx AV)}{xs:aqx (aqx D)},Hq l=some xs->l=cP xs
 |[],xs,h=>by cases h;rfl
 |x::l,xs,h=>by
  unfold Hq at h;split at h
  ·next d r e1 e2=>cases h;rw[Uf e2,Yg e1];rfl
  ·cases h
theorem Dd{f:FuncId}{args:aqx AV}{h0:aqx an}:∀(l:aqx Nat){h:aqx an}{r:AV},(cF P f args h0 λr1 h1=>r1=r/\h1=h)->cF P f args h0 λr1 h1=>r1=(wM l r h).1/\h1=(wM l r h).2
 |[],h,r,hc=>hc
 |b::l,h,r,hc=>by
  unfold wM;split
  ·next e k cs e1=>
   split
   ·next xs e2=>
    rw[AV.force_eq,Vn,cond_eq_ite];split
    ·next h1=>
     refine Dd l (cF.chg (tl:=[]) hc λG w a hs=> ?_);have e3:=Uf e2;exact hs.T1 xs (by show h[b]?=_;rw[e1,e3]) (λc hc=>ap9.1 h1 c hc)
    ·exact Dd l hc
   ·exact Dd l hc
  ·exact Dd l hc
theorem YA{f:FuncId}{args:aqx AV}{h:aqx an}{r r2:AV}(hc:cF P f args [] λr1 h1=>r1=r/\h1=h)(e:aaC r h=some r2)(hb:r2.aQ 0=true):ij P f args (·=r2):=by
 have fin:∀{r:AV}{h:aqx an},(cF P f args [] λr1 h1=>r1=r/\h1=h)->(r.bw 0).aQ 0=true->ij P f args (·=r.bw 0):=λhc hb=>
  (hc.cut 0 (apU _) (Nat.zero_le _) (by simp) hb).mono λr1 h1 ⟨k1,k2⟩=>⟨by simpa using k2,k1⟩
 have gen:∀{r:AV}{h:aqx an},(cF P f args [] λr1 h1=>r1=r/\h1=h)->J2 r h=some r2->ij P f args (·=r2):=λhc e=>by
  unfold J2 at e;split at e
  ·next r3 h3 e1=>
   cases e
   exact fin (T3 _ hc e1) hb
  ·cases e
 unfold aaC at e;rcases af9 e with⟨_,e⟩|⟨_,e⟩
 ·exact gen (Dd _ hc) e
 ·exact gen hc e
end
theorem abc:∀(H' H e:aqx an),H'.length=H.length->gZ (List.range H.length) H' (H++e)=H'++e:=by
 intro H' H e hl;have gen:∀(n:Nat)(a b B r:aqx an),b.length=n->B.length=n->gZ ((List.range n).map (a.length+·)) B (a++(b++r))=a++(B++r):=by
  intro n
  induction n with
  |zero=>intro a b B r hb hB;rw[List.length_eq_zero_iff.1 hb,List.length_eq_zero_iff.1 hB];simp [gZ]
  |succ n ih=>
   intro a b B r hb hB;cases b with
   |nil=>simp at hb
   |cons b0 b=>
    cases B with
    |nil=>simp at hB
    |cons B0 B=>
     rw[List.range_succ_eq_map,ap8,List.map_map,gZ];have e1:(a++(b0::b++r)).set (a.length+0) B0=(a++[B0])++(b++r):=by
       rw[Nat.add_zero,List.set_append_right _ _ (apU _),Nat.sub_self];simp
     have e2:(λx=>a.length+x)∘Nat.succ=λx=>(a++[B0]).length+x:=by
      funext x
      simp only[Function.comp_apply,apK,apM,apV];omega
     rw[e1,e2,ih (a++[B0]) b B r (by simpa using hb) (by simpa using hB)];simp
 have:=gen H.length [] H H' e rfl hl
 simpa using this
theorem Q1{P:aqA}{k:Nat}{x:AV}{H:aqx an}{C:Bool->aqx an->Prop}(hy:YS P k x H C)(e:aqx an)(hb:H.all (an.aQ H.length)=true)(hx:x.aQ H.length=true)
 (hC:∀b h',C b h'->h'.length=H.length/\h'.all (an.aQ H.length)=true):YS P k x (H++e) λb h'=>∃H',C b H'/\h'=H'++e:=by
 intro G w v r n hi hv;have xa:∀i,i<H.length->rn (List.range H.length) (H++e).length i=i:=λi h=>Ah (List.range H.length) _ i i (by rw[List.getElem?_range h]);have HU:∀y:AV,y.aQ H.length=true->y.aL (rn (List.range H.length) (H++e).length)=y:=λy hy=>(xp (τ:=id) xa y hy).trans (CI y);have Gu:∀B:an,B.aQ H.length=true->B.aL (rn (List.range H.length) (H++e).length)=B:=λB hB=>(RW (τ:=id) xa B hB).trans (Sr B);obtain⟨G0,cm,uv,uz,M0⟩:=Yc (H:=H) (l:=List.range H.length) (h:=H++e) List.nodup_range (λj hj=>by have:=List.mem_range.1 hj;simp;omega) (λi j og=>by
  obtain⟨aH,rfl⟩:i<H.length/\j=i:=by
   have h1:=(apJ.1 og).1;rw[List.length_range]at h1;rw[List.getElem?_range h1]at og;exact⟨h1,(ap2 og).symm⟩
  rw[apT aH,apN aH,Option.map_some,Gu _ (ap9.1 hb _ (List.getElem_mem aH))]) (by simp) hb hi
 obtain⟨hk,p,as,bd,fn,tm,D,h1,h2⟩:=hy G0 w v r n uv (aD.tJ uz (by rw[HU x hx];exact hv) x rfl (by rw[cm];exact hx));have lA:k<H.length:=cm▸hk;have fY:G.aI k=G0.aI k:=by
  have:=uz.aI k hk
  rwa [xa k lA]at this
 refine⟨by have:=uz.lt k hk;rwa [xa k lA]at this,p,as,bd,fn,tm,D,by rw[fY];exact h1,?_⟩;rw[fY];refine h2.mono λe1 w' hp=> ?_;obtain⟨b,G1,H',rfl,hE,gK,jT,hc⟩:=hp;rw[cm]at hE gK;obtain⟨G2,a1,a2,a3,_⟩:=M0 G1 w' H' hE gK jT;obtain⟨c1,c2⟩:=hC b H' hc;refine⟨b,G2,H'++e,rfl,a1,a2,?_,H',hc,rfl⟩;have hm:H'.map (an.aL (rn (List.range H.length) (H++e).length))=H':=(aqe λB hB=>Gu B (ap9.1 c2 B hB)).trans (List.map_id _);rw[hm,abc H' H e c1]at a3;exact a3
def mU(P:aqA)(k:Nat):aqx AV->(Bool->aqx an->Prop)->aqx an->Prop
 |[],C,h=>C true h
 |x::l,C,h=>YS P k x h λb h1=>(h1.length=h.length/\h1.all (an.aQ h.length)=true)/\bif b then mU P k l C h1 else C false h1
theorem WA{P:aqA}{k:Nat}:∀(l:aqx AV){C C':Bool->aqx an->Prop}{h:aqx an},(∀b h1,C b h1->C' b h1)->mU P k l C h->mU P k l C' h
 |[],_,_,_,hc,hs=>hc _ _ hs
 |x::l,C,C',h,hc,hs=>YS.mono hs λb h1 ⟨h2,h3⟩=>⟨h2,by
  cases b with
  |true=>exact WA l hc h3
  |false=>exact hc _ _ h3⟩
theorem Y2{P:aqA}{k:Nat}:∀(l l':aqx AV){C:Bool->aqx an->Prop}{h:aqx an},mU P k (l++l') C h->mU P k l (λb h1=>bif b then mU P k l' C h1 else C false h1) h
 |[],_,_,_,hs=>hs
 |x::l,l',C,h,hs=>YS.mono hs λb h1 ⟨h2,h3⟩=>⟨h2,by
  cases b with
  |true=>exact Y2 l l' h3
  |false=>exact h3⟩
def vw(h h1:aqx an):Prop:=h1.length=h.length/\h1.all (an.aQ h.length)=true
def N9(P:aqA)(gf:FuncId)(c7:aqx AV)(xs:aqx AV):Prop:=
 ∀(k:Nat)(h:aqx an)(C:Bool->aqx an->Prop),h.all (an.aQ h.length)=true->k<h.length->mU P k xs C h->cF P gf (.cY k::c7) h λ_ h1=>∃b,C b h1
def ZT(P:aqA)(T:TypeId):aqx AV:=match iu P T with|some z=>z.cells.toList.map λu=> .d (.v u)|none=>[]
section
variable {P:aqA} {r:aqz Nat} {N0:Nat} {Q:Exit->St->Prop} {ops:Array Oper} {o o1 o2 o3 o4 o5:Oper} {s:St} {K:St->Prop} {id:Nat}
theorem cx{rest:aqx Oper}(hg:o.guard=none)(h:n5 P o (iM P ops rest K) s):iM P ops (o::rest) K s:=by
 unfold iM ig;rw[hg];exact h
theorem Eo{n d:Nat}{t:aqx (Nat×AV)}{h h':aqx an}{x:AV}{hd:HD}(hx:mF P o.op (ev ⟨n,t,h⟩) h=some (x,hd))(gz:o.dst=some d)(hn:Nat.ble n d=false)(he:hd.app h=h')(hK:K ⟨n,(d,x)::t,h'⟩):n5 P o K ⟨n,t,h⟩:=by
 refine .inr (.inr (.inl (aaf hx ?_)));show K ((St.wh ⟨n,t,h⟩ (hd.app h)).put o.dst x);rw[gz,he];have aH:d<n:=Nat.lt_of_not_le λhle=>by rw[Nat.ble_eq_true_of_le hle]at hn;cases hn
 rw[rp (s:=St.wh ⟨n,t,h⟩ h') aH];exact hK
theorem c9{n d:Nat}{t:aqx (Nat×AV)}{h:aqx an}{x:AV}(hx:mF P o.op (ev ⟨n,t,h⟩) h=some (x, .same))(gz:o.dst=some d)(hn:Nat.ble n d=false)(hK:K ⟨n,(d,x)::t,h⟩):n5 P o K ⟨n,t,h⟩:=Eo hx gz hn rfl hK
theorem Rp{n:Nat}{t:aqx (Nat×AV)}{h h':aqx an}{x:AV}{hd:HD}(hx:mF P o.op (ev ⟨n,t,h⟩) h=some (x,hd))(gz:o.dst=none)(he:hd.app h=h')(hK:K ⟨n,t,h'⟩):n5 P o K ⟨n,t,h⟩:=by
 refine .inr (.inr (.inl (aaf hx ?_)));show K ((St.wh ⟨n,t,h⟩ (hd.app h)).put o.dst x);rw[gz,he];exact hK
theorem ahM{h l:aqx an}{i off:Nat}{cs:aqx AV}(hi:l[i]?=some (.cells cs)):yg (h++l) (.ptr (h.length+i) off)=some (cs,off):=by
 unfold yg;simp only;rw[apZ (aqo _ _),Nat.add_sub_cancel_left,hi]
theorem Aw{ρ:Operand->AV}{h l:aqx an}{T:TypeId}{p:Operand}{i off:Nat}{cs:aqx AV}{x:AV}(hp:ρ p= .ptr (h.length+i) off)(hi:l[i]?=some (.cells cs))(hl:BF P T cs off=some x):mF P (.load T p) ρ (h++l)=some (x, .same):=by
 unfold mF;simp only[hp,ahM hi,hl,pX]
theorem ami{ρ:Operand->AV}{h l:aqx an}{T:TypeId}{y:Operand}{v:AV}(hv:ρ y=v)(hb:v.jJ=true):mF P (.box T y) ρ (h++l)=some (.ptr (h.length+l.length) 0, .push (.cells v.cells)):=by
 subst hv;unfold mF;simp only[hb,cond_true,apK]
theorem Ng{ρ:Operand->AV}{h l:aqx an}{T:TypeId}(hz:(iu P T).isSome=true):mF P (.alloc T) ρ (h++l)=some (.ptr (h.length+l.length) 0, .push (.cells (ZT P T))):=by
 unfold mF ZT;cases e:iu P T with
 |none=>rw[e]at hz;cases hz
 |some z=>simp only[e,apK]
theorem JK{h l:aqx an}{B:an}:(HD.push B).app (h++l)=h++(l++[B]):=by simp [HD.app]
theorem NS{ρ:Operand->AV}{h l:aqx an}{T:TypeId}{p y:Operand}{i off k:Nat}{cs:aqx AV}{v:AV}(hp:ρ p= .ptr (h.length+i) off)(hi:l[i]?=some (.cells cs))(hk:fW P T=some k)(hv:ρ y=v)(hb:(k==v.cells.length&&v.jJ&&cn (off+v.cells.length) cs.length)=true){bP:aqx AV}(gj:jm cs off v.cells=bP):
 mF P (.store T p y) ρ (h++l)=some (.d (.v undef), .set (h.length+i) (.cells bP)):=by
 subst hv gj;unfold mF;simp only[hp,hk];rw[apZ (aqo _ _),Nat.add_sub_cancel_left,hi];simp only[hb,cond_true]
theorem SQ{ρ:Operand->AV}{h:aqx an}{T:TypeId}{a i:Operand}{xs:aqx (aqx D)}{q e k:Nat}{c:aqx D}(hx:ρ a= .d (.sl xs))(hi:ρ i= .d (.v (.int .i64 (Int.ofNat q))))(hT:eJ P T=some (e,k))(hc:xs[q]?=some c)(hk:(c.length==k)=true):mF P (.indexAddr T a i) ρ h=some (.bJ [c] 0 0, .same):=by
 unfold mF;simp only[hx,hi];unfold Jf;simp only[hT,AV.fM,AV.int?,zN,hc,hk,cond_true,pX]
theorem Oa{h l:aqx an}{B:an}{i:Nat}:(HD.set (h.length+i) B).app (h++l)=h++l.set i B:=by
 simp only[HD.app];rw[List.set_append_right _ _ (aqo _ _),Nat.add_sub_cancel_left]
theorem afY{n d:Nat}{t:aqx (Nat×AV)}{h:aqx an}{T:TypeId}{x y:Operand}{p:TypeId}{xs:aqx (aqx D)}{q:TypeId×Nat}(ho:o.op= .binOp .eql T x y p)(hx:(ev ⟨n,t,h⟩ x).fM=some xs)(hy:ev ⟨n,t,h⟩ y= .d (.v (.slice none 0 0)))(hT:eJ P T=some q)(gz:o.dst=some d)(hn:Nat.ble n d=false)
 (h1:xs=[]->K ⟨n,(d, .d (.v (.bool true)))::t,h⟩) (h2:K ⟨n,(d, .d (.v (.bool false)))::t,h⟩):n5 P o K ⟨n,t,h⟩:=by
 refine .inr (.inl ?_);have aH:d<n:=Nat.lt_of_not_le λhle=>by rw[Nat.ble_eq_true_of_le hle]at hn;cases hn
 unfold FE;simp only[ho,hx,hy,hT,yd,gz,rp (s:=⟨n,t,h⟩) aH];exact⟨h1,h2⟩
theorem Hr{n d k:Nat}{t:aqx (Nat×AV)}{h:aqx an}{c:Call}{f:Operand}{x:AV}(ho:o.op= .call c)(hc:c.callee= .value f)(hf:ev ⟨n,t,h⟩ f= .cY k)(hx:c.args.toList.map (ev ⟨n,t,h⟩)=[x])(gz:o.dst=some d)(hn:Nat.ble n d=false)
 (hy:YS P k x h λb h'=>K ⟨n,(d, .d (.v (.bool b)))::t,h'⟩):n5 P o K ⟨n,t,h⟩:=by
 refine .inr (.inr (.inr (.inl ?_)));unfold I8;simp only[ho,hc,hf,hx];refine hy.mono λb h' hK=> ?_;have aH:d<n:=Nat.lt_of_not_le λhle=>by rw[Nat.ble_eq_true_of_le hle]at hn;cases hn
 rw[gz,rp (s:=St.wh ⟨n,t,h⟩ h') aH];exact hK
theorem UB{n:Nat}{t:aqx (Nat×AV)}{h:aqx an}{c:Call}{f:Operand}{g:FuncId}{c7:aqx AV}(ho:o.op= .call c)(hc:c.callee= .value f)(hf:ev ⟨n,t,h⟩ f= .fn g c7)
 (hA:cF P g (c.args.toList.map (ev ⟨n,t,h⟩)++c7) h λx h'=>K ((St.wh ⟨n,t,h⟩ h').put o.dst x)):n5 P o K ⟨n,t,h⟩:=by
 refine .inr (.inr (.inl ?_));unfold qG cz;simp only[ho,hc,hf];exact hA
end
theorem acW{P:aqA}{f:FuncId}{args:aqx AV}{H:aqx an}{K:AV->aqx an->Prop}(hc:cF P f args H K)(e:aqx an)(hb:H.all (an.aQ H.length)=true)(ha:args.all (AV.aQ H.length)=true)
 (hK:∀r h',K r h'->h'.length=H.length/\h'.all (an.aQ H.length)=true/\r.aQ H.length=true):cF P f args (H++e) λr h'=>∃H',K r H'/\h'=H'++e:=by
 have xa:∀i,i<H.length->rn (List.range H.length) (H++e).length i=i:=λi h=>Ah (List.range H.length) _ i i (by rw[List.getElem?_range h]);have HU:∀y:AV,y.aQ H.length=true->y.aL (rn (List.range H.length) (H++e).length)=y:=λy hy=>(xp (τ:=id) xa y hy).trans (CI y);have Gu:∀B:an,B.aQ H.length=true->B.aL (rn (List.range H.length) (H++e).length)=B:=λB hB=>(RW (τ:=id) xa B hB).trans (Sr B);have:=hc.ZA (l:=List.range H.length) (h:=H++e) List.nodup_range (λj hj=>by have:=List.mem_range.1 hj;simp;omega) (λi j og=>by
  obtain⟨aH,rfl⟩:i<H.length/\j=i:=by
   have h1:=(apJ.1 og).1;rw[List.length_range]at h1;rw[List.getElem?_range h1]at og;exact⟨h1,(ap2 og).symm⟩
  rw[apT aH,apN aH,Option.map_some,Gu _ (ap9.1 hb _ (List.getElem_mem aH))]) (by simp) ha hb
 have ea:args.map (AV.aL (rn (List.range H.length) (H++e).length))=args:=(aqe λx hx=>HU x (ap9.1 ha x hx)).trans (List.map_id _);rw[ea]at this;refine this.mono λr' h' ⟨r,H',k1,k2,k3⟩=> ?_;obtain⟨c1,c2,c3⟩:=hK r H' k1;have hm:H'.map (an.aL (rn (List.range H.length) (H++e).length))=H':=(aqe λB hB=>Gu B (ap9.1 c2 B hB)).trans (List.map_id _);rw[hm,abc H' H e c1]at k3;rw[HU r c3]at k2;exact⟨H',by rw[k2];exact k1,k3⟩
theorem aiy{h:aqx an}{p:AV}{K K':aqx AV->Nat->Prop}(hk:∀cs off,K cs off->K' cs off)(hp:s8 h p K):s8 h p K':=by
 unfold s8 at hp ⊢;split at hp
 ·next n off=>
  split at hp
  ·next cs e=>(try simp only[e]);exact hk _ _ hp
  ·exact hp.elim
 ·next xs i off=>
  split at hp
  ·next cs e=>(try simp only[e]);exact hk _ _ hp
  ·exact hp.elim
 ·exact hp.elim
theorem adR{P:aqA}{T:TypeId}{h:aqx an}{p:AV}{K K':AV->Prop}(hk:∀x,K x->K' x)(hp:oK P T h p K):oK P T h p K':=
 aiy (λcs off hc=>by
  split at hc
  ·next k e1 e2=>
   try simp only[e1,e2]
   exact bS.2 ⟨(bS.1 hc).1,hk _ (bS.1 hc).2⟩
  ·next k e1 e2=>
   try simp only[e1,e2]
   split at hc
   ·next c e3=>(try simp only[e3]);exact hk _ hc
   ·exact hc.elim
  ·exact hc.elim) hp
theorem aiA{P:aqA}{fn:Func}{n:Nat}{t:aqx (Nat×AV)}{H l:aqx an}{K:AV->aqx an->Prop}(hb:H.all (an.aQ H.length)=true)(hr:nh P ⟨n,t,H++l⟩ fn.results.toList λrs=>((kP rs).bw H.length).aQ H.length=true/\K ((kP rs).bw H.length) H):tN P fn H.length K ⟨n,t,H++l⟩:=by
 have ht:(((H++l).take H.length).map (an.bw H.length))=H:=by rw[List.take_left];exact OF hb
 unfold tN;show nh P ⟨n,t,H++l⟩ fn.results.toList λrs=>H.length<=(H++l).length/\_;simp only[ht];have gen:∀(rv:aqx ResultVar){C C':aqx AV->Prop},(∀x,C x->C' x)->nh P ⟨n,t,H++l⟩ rv C->nh P ⟨n,t,H++l⟩ rv C':=by
  intro rv
  induction rv with
  |nil=>intro C C' hc h;exact hc _ h
  |cons x rv ih=>
   intro C C' hc h;cases x with
   |tmp t=>exact ih (λy hy=>hc _ hy) h
   |cell p t=>exact adR (λx h=>ih (λy hy=>hc _ hy) h) h
 exact gen _ (λrs ⟨h1,h2⟩=>⟨by simp,h1,hb,h2⟩) hr
theorem EX{n:Nat}{t:aqx (Nat×AV)}{H l:aqx an}(live:aqx Nat)(hb:H.all (an.aQ H.length)=true):(⟨n,t,H++l⟩:St).mask live H.length=⟨n,live.map λk=>(k,(bC t k).bw H.length),H⟩:=by
 unfold St.mask;rw[show((H++l).take H.length).map (an.bw H.length)=H by rw[List.take_left];exact OF hb]
theorem DU{n:Nat}{t:aqx (Nat×AV)}{H l:aqx an}(live:aqx Nat)(hb:H.all (an.aQ H.length)=true)(hl:(live.all λk=>((bC t k).bw H.length).aQ H.length)=true):(⟨n,t,H++l⟩:St).zS live H.length:=
 ⟨by simp,hl,by rw[show((H++l).take H.length).map (an.bw H.length)=H by rw[List.take_left];exact OF hb];exact hb⟩
theorem YZ{n:Nat}{t:aqx (Nat×AV)}{H:aqx an}(live:aqx Nat)(hb:H.all (an.aQ H.length)=true):(⟨n,t,H⟩:St).mask live H.length=⟨n,live.map λk=>(k,(bC t k).bw H.length),H⟩:=by
 have:=EX (n:=n) (t:=t) (l:=[]) live hb
 rwa [ap4]at this
theorem aaz{n:Nat}{t:aqx (Nat×AV)}{H:aqx an}(live:aqx Nat)(hb:H.all (an.aQ H.length)=true)(hl:(live.all λk=>((bC t k).bw H.length).aQ H.length)=true):(⟨n,t,H⟩:St).zS live H.length:=by
 have:=DU (n:=n) (t:=t) (l:=[]) live hb hl
 rwa [ap4]at this
theorem MG{k m:Nat}(h:k<m):((AV.cY k).bw m).aQ m=true:=by simp [AV.bw,AV.aQ,cn];omega
structure Mg(s:St)(m:Nat)(s':St):Prop where
 cut:∀{G:Gh}{w:World}{a:Act},cG G w a s->cG (G.cut m) w a s'
theorem Mg.S{s s':St}{live:aqx Nat}{m:Nat}(h:jc s live m=some s'):Mg s m s':=⟨λhs=>hs.jc h⟩
theorem agf{P:aqA}{r:aqz Nat}{N0 m:Nat}{c:Code}{s:St}{R R':Exit->St->Prop}(hm:N0<=m)(h:bu P r N0 c R s)(hR:∀e s2,R e s2->∃s',Mg s2 m s'/\R' e s'):bu P r N0 c R' s:=by
 constructor
 intro G w a n hs hN;refine wpIn_mono (h.run G w a n hs hN) λe a1 w1 hn=> ?_;obtain⟨G1,s1,hE,_,fj,hq⟩:=hn;obtain⟨s',k1,k2⟩:=hR e s1 hq;exact⟨G1.cut m,s',hE.trans (qA _ _ _ _),hm,k1.cut fj,k2⟩
def HO(m:Nat)(n:Nat)(T:aqx (Nat×AV))(LP:an)(next:aqx an->Prop)(Q:Exit->St->Prop)(e:Exit)(s:St):Prop:=
 ∃hs,hs.length=m/\hs.all (an.aQ (m+1))=true/\Mg s (m+1) ⟨s.n,[],hs++[LP]⟩/\match e with
  | .normal=>next hs
  | .ret=>Q .ret ⟨n,T,hs++[.gone]⟩
  | .exit i=>Q (.exit i) ⟨n,T,hs++[.gone]⟩
  |_=>False
theorem SE{P:aqA}{N0 n m:Nat}{T:aqx (Nat×AV)}{H:aqx an}{Q:Exit->St->Prop}{g:Operand}{p:Nat}{as bd:Code}{gf:FuncId}{c7:aqx AV}(hg:ev ⟨n,T,H⟩ g= .fn gf c7){α:Type}{enc:α->AV}{xs:aqx α}(hI:N9 P gf c7 (xs.map enc))
 {ι:Type} (Hs:ι->aqx an) (I:ι->aqx α->Prop) (i0:ι) (h0:H=Hs i0) (uv:I i0 xs) (hl:∀i,(Hs i).length=m) (qx:∀i,(Hs i).all (an.aQ (m+1))=true) (hT:(eI n T).all (AV.aQ (m+1))=true) (hp:Nat.ble n p=false)
 (round:∀i x l,I i (x::l)->∀(rr:Nat)(a b:Code),bu P (some rr) (m+1) as (gy (λs1=>∃hs e,hs.length=m/\s1.h=hs++ .lp .ready p a b (eI n T)::e/\
  bu P (some rr) (m+1) bd (HO m n T (.lp .busy p a b (eI n T)) (λct=>∃i',ct=Hs i'/\I i' l) Q) ⟨s1.n,s1.t,hs++ .lp .busy p a b (eI n T)::e⟩) (λ_ _=>False)) ⟨n,(p,enc x)::mA 0 (eI n T),Hs i++[.lp .ready p a b (eI n T)]⟩)
 (done:∀i,I i []->Q .normal ⟨n,T,Hs i++[.gone]⟩):bu P none N0 (.rangeFunc g #[p] as bd) Q ⟨n,T,H⟩:=by
 subst h0;have hm:(Hs i0).length=m:=hl i0;have hnl:(eI n T).length=n:=by simp [eI]
 have Is:∀ls,(an.lp ls p as bd (eI n T)).aQ (m+1)=true:=λls=>hT;refine ahf hg ?_;show cF P gf (.cY (Hs i0).length::c7) (Hs i0++[.lp .ready p as bd (eI n T)]) _;have J7:∀(hs:aqx an)(B B':an),hs.length=m->(hs++[B]).set m B'=hs++[B']:=λhs B B' h=>by
  rw[List.set_append_right _ _ (Nat.le_of_eq h),h,Nat.sub_self];rfl
 have eC:∀(hs:aqx an)(B:an)(e:aqx an),hs.length=m->(hs++B::e)[m]?=some B:=λhs B e h=>by
  rw[apZ (Nat.le_of_eq h),h,Nat.sub_self];rfl
 have seq:∀(l:aqx α)(i:ι),I i l->mU P m (l.map enc) (λb h1=>∃(hs:aqx an)(ls:LS),hs.length=m/\h1=hs++[.lp ls p as bd (eI n T)]/\QL P N0 Q ⟨n,T,hs++[.gone]⟩ ls) (Hs i++[.lp .ready p as bd (eI n T)]):=by
  intro l
  induction l with
  |nil=>intro i hi;exact⟨Hs i, .ready,hl i,rfl,done i hi⟩
  |cons x l ih=>
   intro i hi;have hlen:(Hs i++[an.lp .ready p as bd (eI n T)]).length=m+1:=by simp [hl i]
   refine anv ⟨p,as,bd,eI n T,eC _ _ [] (hl i),?_,λrr=> ?_⟩
   ·rw[hnl];exact Nat.lt_of_not_le λhle=>by rw[Nat.ble_eq_true_of_le hle]at hp;cases hp
   ·rw[hlen,hnl];refine(round i x l hi rr as bd).mono λe s1 fj=> ?_;cases e with
    |normal=>
     obtain⟨hs,e',k1,k2,k3⟩:=fj;refine⟨p,as,bd,eI n T,by rw[k2];exact eC _ _ _ k1,?_⟩;have hse:s1.h.set m (.lp .busy p as bd (eI n T))=hs++ .lp .busy p as bd (eI n T)::e':=by
      rw[k2,List.set_append_right _ _ (Nat.le_of_eq k1),k1,Nat.sub_self];rfl
     rw[hse];refine agf (apU _) k3 λe2 s2 hr=> ?_;obtain⟨Ax,c2,c5,c3,c4⟩:=hr;refine⟨_,c3,?_⟩;have eW:∀B,B.aQ (m+1)=true->(Ax++[B]).all (an.aQ (m+1))=true:=λB hB=>by
       rw[List.all_append,c5];simp [hB]
     have EO:(Ax++[an.lp .busy p as bd (eI n T)])[m]?=some (.lp .busy p as bd (eI n T)):=eC _ _ [] c2;cases e2 with
     |normal=>
      obtain⟨i',rfl,de⟩:=c4;refine⟨p,as,bd,eI n T,EO,?_⟩;simp only[J7 _ _ _ c2];exact⟨⟨by simp [hl],eW _ (Is _)⟩,ih i' de⟩
     |ret=>
      refine⟨p,as,bd,eI n T,EO,?_⟩;simp only[J7 _ _ _ c2];exact⟨⟨by simp [c2],eW _ (Is _)⟩,Ax, .done .ret,c2,rfl,gN c4⟩
     |exit j=>
      refine⟨p,as,bd,eI n T,EO,?_⟩;simp only[J7 _ _ _ c2];exact⟨⟨by simp [c2],eW _ (Is _)⟩,Ax, .done (.exit j),c2,rfl,wJ c4⟩
     |_=>exact c4.elim
    |_=>exact fj.elim
 have aaM:(Hs i0++[an.lp .ready p as bd (eI n T)]).length=m+1:=by simp [hm]
 refine(hI (Hs i0).length _ _ (by rw[aaM,List.all_append,qx i0];simp [Is]) (by rw[aaM,hm];exact aqv m) (by rw[hm];exact seq xs i0 uv)).mono λ_ h1 hb=> ?_;obtain⟨b,hs,ls,k1,rfl,k2⟩:=hb;refine⟨ls,p,as,bd,eI n T,?_,?_⟩
 ·show(hs++[an.lp ls p as bd (eI n T)])[(Hs i0).length]?=_;rw[hm];exact eC _ _ [] k1
 ·show QL P N0 Q ⟨n,T,(hs++[an.lp ls p as bd (eI n T)]).set (Hs i0).length .gone⟩ ls;rw[hm,J7 _ _ _ k1];exact k2
section
variable {m n:Nat} {T:aqx (Nat×AV)} {LP:an} {next:aqx an->Prop} {Q:Exit->St->Prop} {s:St}
theorem Nw(hs:aqx an)(hl:hs.length=m)(hb:hs.all (an.aQ (m+1))=true)(hc:jc s [] (m+1)=some ⟨s.n,[],hs++[LP]⟩)(hn:next hs):HO m n T LP next Q .normal s:=⟨hs,hl,hb, .S hc,hn⟩
theorem Y0(hs:aqx an)(hl:hs.length=m)(hb:hs.all (an.aQ (m+1))=true)(hc:jc s [] (m+1)=some ⟨s.n,[],hs++[LP]⟩)(hq:Q .ret ⟨n,T,hs++[.gone]⟩):HO m n T LP next Q .ret s:=⟨hs,hl,hb, .S hc,hq⟩
theorem aiT{i:Nat}(hs:aqx an)(hl:hs.length=m)(hb:hs.all (an.aQ (m+1))=true)(hc:jc s [] (m+1)=some ⟨s.n,[],hs++[LP]⟩)(hq:Q (.exit i) ⟨n,T,hs++[.gone]⟩):HO m n T LP next Q (.exit i) s:=⟨hs,hl,hb, .S hc,hq⟩
end
set_option linter.unusedSimpArgs false
set_option linter.unusedVariables false
abbrev Lf:=St×aqx Nat×aqx (Nat×aqx (In×bY))
def vI(go:Nat->aqz (aqx Lf)):aqx Nat->aqz (aqx Lf)
 |[]=>some []
 |k::r=>match go k with
  |some a=>match vI go r with
   |some b=>some (a++b)
   |none=>none
  |none=>none
def An(P:aqA)(ops:Array Oper)(A C:aqx Nat)(as:aqx (Nat×bY)):Nat->Nat->aqx Nat->aqx (Nat×aqx (In×bY))->St->aqz (aqx Lf)
 |0,L,al,acc,s=>match ui A L 0 with
  |[]=>some [(s,al,acc)]
  |_=>none
 |f+1,L,al,acc,s=>match ui A L 0 with
  |[]=>some [(s,al,acc)]
  |k0::r=>vI (λk=>match ops[k]? with
     |some o=>match pD P ops true o k as s with
      |some (s1,l)=>fN (L|||(1<<<k)) λL=>An P ops A C as f L (al++List.replicate (s1.h.length-s.h.length) k) ((k,l)::acc) s1
      |none=>none
     |none=>none) (match EG C L (k0::r)with
      |some k=>[k]
      |none=>k0::r)
theorem Zm{go:Nat->aqz (aqx Lf)}:∀{l:aqx Nat}{ls:aqx Lf},vI go l=some ls->∀k∈l,∃a,go k=some a/\∀x∈a,x∈ls
 |[],_,_,k,hk=>by cases hk
 |j::r,ls,h,k,hk=>by
  unfold vI at h;split at h
  ·next a e1=>
   split at h
   ·next b e2=>
    cases h
    rcases aqd.1 hk with rfl|hk
    ·exact⟨a,e1,λx hx=>List.mem_append_left _ hx⟩
    ·obtain⟨a',e3,h3⟩:=Zm e2 k hk;exact⟨a',e3,λx hx=>List.mem_append_right _ (h3 x hx)⟩
   ·cases h
  ·cases h
section
variable {P:aqA} {ops:Array Oper} {as:aqx (Nat×bY)} {K:St->Prop} {s0:St}
theorem agV{o:Oper}{j:Nat}{dr:Bool}{s s1:St}{l:aqx (In×bY)}(h:pD P ops dr o j as s=some (s1,l))(ho:o∈ops.toList)(hB:lU (pa ops.toList) s0 s):lU (pa ops.toList) s0 s1:=by
 have cI:∀{i a r l},uL i a r=some (s1,l)->∃m,r=some (s1,m):=fun{i a r l} h=>by
  unfold uL at h;split at h
  ·exact⟨_,h⟩
  ·split at h
   ·cases h;exact⟨_,rfl⟩
   ·cases h
 have cR:∀{m r l},rh m r=some (s1,l)->∃m,r=some (s1,m):=fun{m r l} h=>by
  unfold rh at h;split at h
  ·cases h;exact⟨_,rfl⟩
  ·cases h
 have hsk:lU (pa ops.toList) s0 (C3 o s):=hB.put s.h (.d (.v undef)) (KI ho);have st:∀l,nH P dr o j as s=some (s1,l)->lU (pa ops.toList) s0 s1:=λl h=>by
  unfold nH at h;cases hd:dr&&BD (iY as (3*j+1))&& !Bo o (iY as (3*j+1))with
  |true=>rw[hd]at h;cases h
  |false=>
   rw[hd]at h;simp only[cond_false]at h;split at h
   ·split at h<;>(obtain⟨m,e⟩:=cI h;cases e;exact hB.put _ _ (KI ho))
   ·cases h
 unfold pD at h;split at h
 ·exact st _ h
 ·split at h
  ·obtain⟨m,e⟩:=cR h;revert e;generalize ((_:Bool)==_)=q;intro e;cases q with
   |true=>exact st _ e
   |false=>cases e;exact hsk
  ·obtain⟨m,e⟩:=cR h;cases e;exact hsk
  ·cases h
theorem ZL(hK:wA K)(hM:sA (Region.before ops) ops=true)(t0:aqx (Nat×AV)):
 ∀(fuel L:Nat)(listed:Array Bool)(al:aqx Nat)(acc:aqx (Nat×aqx (In×bY)))(s:St)(ls:aqx Lf),LM ops L listed->Dn ops listed->An P ops (tO ops 0 ops.size) (rZ ops false (Region.before ops) 0 ops.size) as fuel L al acc s=some ls->
  (∃x,x∈ls)/\(∀x∈ls,(∀p∈acc,p∈x.2.2)/\((∃pre,s.t=pre++t0)->∃pre,x.1.t=pre++t0)/\(lU (pa ops.toList) s0 s->lU (pa ops.toList) s0 x.1))/\((∀x∈ls,(∀p∈x.2.2,gC P p.2)/\K x.1)->oV false P ops K fuel listed s)
 |0,L,listed,al,acc,s,ls,hL,hD,h=>by
  unfold An at h;split at h
  ·next hr=>
   cases h
   refine⟨⟨_,apP⟩,λx hx=> ?_,λhk=>⟨?_,(hk _ apP).2⟩⟩
   ·rw[List.mem_singleton]at hx;subst hx;exact⟨λ_ h=>h,λh=>h,λh=>h⟩
   ·rw[List.eq_nil_iff_forall_not_mem];intro i hi;have:=(hL.ready i).1 hi;rw[hr]at this;cases this
  ·cases h
 |fuel+1,L,listed,al,acc,s,ls,hL,hD,h=>by
  have mem:∀{k:Nat}{o:Oper},ops[k]?=some o->o∈ops.toList:=λho=>Array.mem_toList_iff.2 (Array.mem_of_getElem? ho);unfold An at h;split at h
  ·next hr=>
   cases h
   refine⟨⟨_,apP⟩,λx hx=> ?_,λhk=>⟨λ_=>(hk _ apP).2,λi hi=> ?_⟩⟩
   ·rw[List.mem_singleton]at hx;subst hx;exact⟨λ_ h=>h,λh=>h,λh=>h⟩
   ·have:=(hL.ready i).1 hi;rw[hr]at this;cases this
  ·next k0 r hr=>
   generalize hgo:(λk:Nat=>(match ops[k]? with
    |some o=>match pD P ops true o k as s with
     |some (s1,l)=>fN (L|||(1<<<k)) λL=>An P ops (tO ops 0 ops.size) (rZ ops false (Region.before ops) 0 ops.size) as fuel L (al++List.replicate (s1.h.length-s.h.length) k) ((k,l)::acc) s1
     |none=>none
    |none=>none:aqz (aqx Lf)))=go at h
   have one:∀k a,k∈Region.ready .any ops listed->go k=some a->∃o s1 l,ops[k]?=some o/\pD P ops true o k as s=some (s1,l)/\(∃x,x∈a)/\(∀x∈a,(∀p∈(k,l)::acc,p∈x.2.2)/\((∃pre,s.t=pre++t0)->∃pre,x.1.t=pre++t0)/\(lU (pa ops.toList) s0 s->lU (pa ops.toList) s0 x.1))/\
       ((∀x∈a,(∀p∈x.2.2,gC P p.2)/\K x.1)->∃y h1,nJ false P ops o s y h1/\oV false P ops K fuel (listed.setIfInBounds k true) ((s.wh h1).put o.dst y)):=λk a HN vS=>by
    rw[<-hgo]at vS;simp only at vS;split at vS
    ·next o ho=>
     split at vS
     ·next s1 l hg=>
      rw[B8]at vS;obtain⟨h1,h2,h3⟩:=ZL hK hM t0 fuel _ _ _ _ s1 a (hL.set (apY.1 ho).1) (hD.set HN) vS;refine⟨o,s1,l,ho,hg,h1,λx hx=>⟨(h2 x hx).1,fun⟨pre,hp⟩=> ?_,λhB=>(h2 x hx).2.2 (agV hg (mem ho) hB)⟩,λhk=> ?_⟩
      ·obtain⟨⟨p1,e1⟩,_⟩:=ZH hg;exact(h2 x hx).2.1 ⟨p1++pre,by rw[e1,hp,ap0]⟩
      ·obtain⟨x,hx⟩:=h1;have hl:gC P l:=(hk x hx).1 (k,l) ((h2 x hx).1 _ apP);have h4:=DM (K:=(·=s1)) hg hl rfl;have h5:=h3 hk;have:∃y h1,nJ false P ops o s y h1/\(s.wh h1).put o.dst y=s1:=by
        rcases RE h4 with⟨g,hd⟩|⟨g,hd⟩
        ·obtain⟨y,h1,h2,h3⟩:=Po hd;exact⟨y,h1, .inl ⟨g,h2⟩,h3⟩
        ·exact⟨_,s.h, .inr ⟨g,rfl,rfl⟩,hd⟩
       obtain⟨y,hh,q1,rfl⟩:=this;exact⟨y,hh,q1,h5⟩
     ·cases vS
    ·cases vS
   cases hf:EG (rZ ops false (Region.before ops) 0 ops.size) L (k0::r)with
   |some k=>
    rw[hf]at h;obtain⟨wo,Li⟩:=aa8 hf;have HN:k∈Region.ready .any ops listed:=(hL.ready k).2 (by rw[hr];exact wo);unfold vI at h;split at h
    ·next a e1=>
     unfold vI at h;simp only[ap4]at h;cases h
     obtain⟨o,s1,l,ho,hg,h1,h2,h3⟩:=one k _ HN e1;refine⟨h1,λx hx=>⟨λp hp=>(h2 x hx).1 p (apS _ hp),(h2 x hx).2⟩,λhk=> ?_⟩;obtain⟨y,hh,q1,q2⟩:=h3 hk;refine Ox hK hM ho fuel listed s hD (λj oj hj cy tq yl=> ?_) HN q1 q2;have H5:=(apY.1 hj).1;have F6:=(apY.1 ho).1;have amU:Nat.testBit L j=false:=by
      rw[hL.b];have iC:j<listed.size:=by rw[hL.sz];exact H5
      simpa [iC]using tq
     have AQ:Nat.testBit (Ei ops false (Region.before ops) k) j=false:=by
      rw[<-Bool.not_eq_true];intro hc;have h5:(rZ ops false (Region.before ops) 0 ops.size).getD k 0=Ei ops false (Region.before ops) k:=by
        rw[List.getD_eq_getElem?_getD,VV,if_pos F6,ap3];rfl
      rw[h5]at Li;have:=congrArg (λn=>Nat.testBit n j) Li;simp only[Nat.testBit_or,hc,amU]at this;cases this
     unfold Ei at AQ;rw[Iq]at AQ;unfold VZ at AQ;rw[yl,ho,hj]at AQ;simp [H5,cy]at AQ;exact AQ
    ·cases h
   |none=>
    rw[hf]at h;have acE:=Zm h;have Ck:k0∈Region.ready .any ops listed:=(hL.ready k0).2 (by rw[hr];simp);have back:∀(l:aqx Nat)(ls:aqx Lf),vI go l=some ls->∀x∈ls,∃k∈l,∃a,go k=some a/\x∈a:=by
      intro l
      induction l with
      |nil=>intro ls h x hx;cases h;cases hx
      |cons j r ih=>
       intro ls h x hx;unfold vI at h;split at h
       ·next a e1=>
        split at h
        ·next b e2=>
         cases h
         rcases aql.1 hx with hx|hx
         ·exact⟨j,apP,a,e1,hx⟩
         ·obtain⟨k,hk,a',h1,h2⟩:=ih b e2 x hx;exact⟨k,apS _ hk,a',h1,h2⟩
        ·cases h
       ·cases h
    refine⟨?_,λx hx=> ?_,λhk=>⟨λe=>(by rw[e]at Ck;cases Ck),λi hi oi Zf=> ?_⟩⟩
    ·obtain⟨a,e1,h1⟩:=acE k0 apP;obtain⟨o,s1,l,ho,hg,⟨x,hx⟩,_⟩:=one k0 a Ck e1;exact⟨x,h1 x hx⟩
    ·obtain⟨k,hk,a,e1,hxa⟩:=back _ _ h x hx;obtain⟨o,s1,l,ho,hg,h1,h2,h3⟩:=one k a ((hL.ready k).2 (by rw[hr];exact hk)) e1;exact⟨λp hp=>(h2 x hxa).1 p (apS _ hp),(h2 x hxa).2⟩
    ·have de:i∈k0::r:=by rw[<-hr];exact(hL.ready i).1 hi
     obtain⟨a,e1,h1⟩:=acE i de;obtain⟨o,s1,l,ho,hg,_,_,h3⟩:=one i a hi e1;rw[ho]at Zf;cases Zf;exact h3 λx hx=>hk x (h1 x hx)
end
def Tt(k:Nat):aqx Nat->Nat
 |[]=>0
 |j::l=>bif cn (j+1) k then Tt k l+1 else Tt k l
def PZ(k:Nat):aqx Nat->Nat
 |[]=>0
 |j::l=>bif j==k then PZ k l+1 else PZ k l
def S9(h0:Nat)(all:aqx Nat):aqx Nat->aqx Nat->aqx Nat
 |_,[]=>[]
 |pre,k::l=>fN (h0+Tt k all+PZ k pre) λq=>q::S9 h0 all (k::pre) l
def T7(q:Nat):aqx Nat->Nat->Nat
 |[],i=>i
 |x::l,i=>bif x==q then i else T7 q l (i+1)
def SI(h0:Nat)(p:aqx Nat):Nat->Nat->aqx Nat
 |0,_=>[]
 |n+1,q=>fN (T7 q p h0) λi=>i::SI h0 p n (q+1)
def DV(a:Nat×aqx (In×bY)):aqx (Nat×aqx (In×bY))->aqx (Nat×aqx (In×bY))
 |[]=>[a]
 |b::l=>bif cn a.1 b.1 then a::b::l else b::DV a l
def F7:aqx (Nat×aqx (In×bY))->aqx (Nat×aqx (In×bY))
 |[]=>[]
 |a::l=>DV a (F7 l)
def ML:aqx (Nat×aqx (In×bY))->aqx (In×bY)
 |[]=>[]
 |a::l=>a.2++ML l
def ud(p q:aqx Nat)(h0:Nat)(h:aqx an):Nat->Nat->aqx an
 |0,_=>[]
 |n+1,i=>(match h[fJ h0 q i]? with|some B=>B.aL (fJ h0 p)|none=> .gone)::ud p q h0 h n (i+1)
def zU(h0:Nat)(p:aqx Nat):Bool:=(List.range p.length).all λi=>p.getD i 0==h0+i
theorem amw{h0:Nat}{p:aqx Nat}(h:zU h0 p=true):fJ h0 p=id:=by
 funext i
 unfold fJ;cases e:cn h0 i with
 |false=>rfl
 |true=>
  rw[dI]at e;simp only[cond_true,id];by_cases hi:i-h0<p.length
  ·unfold zU at h;rw[ap9]at h;have:=h (i-h0) (List.mem_range.2 hi);rw[beq_iff_eq,List.getD_eq_getElem?_getD,apN hi]at this;rw[List.getD_eq_getElem?_getD,apN hi];simp only[Option.getD_some]at this ⊢;omega
  ·rw[List.getD_eq_getElem?_getD,aqf (by omega)];rfl
def aaP(aT:aqx Nat)(s:St)(x:Lf)(p q:aqx Nat):aqz (aqx (Nat×AV)×aqx an×aqx (In×bY)):=
 bif (x.1.t.take (x.1.t.length-s.t.length)).all (λp=>aT.any (·==p.1)||TW (bC s.t p.1))&&(List.range x.1.h.length).all (λi=>cn (fJ s.h.length p i+1) x.1.h.length&&cn (fJ s.h.length q i+1) x.1.h.length&&fJ s.h.length q (fJ s.h.length p i)==i&&fJ s.h.length p (fJ s.h.length q i)==i)
 then some (aT.map λk=>(k,(bC x.1.t k).aL (fJ s.h.length p)),bif zU s.h.length p then x.1.h else ud p q s.h.length x.1.h x.1.h.length 0,ML (F7 x.2.2))else none
def My(aT:aqx Nat)(s:St)(x:Lf):aqz (aqx (Nat×AV)×aqx an×aqx (In×bY)):=
 fL (S9 s.h.length x.2.1 [] x.2.1) λp=>fL (SI s.h.length p p.length s.h.length) λq=>aaP aT s x p q
def MV(aT:aqx Nat)(s:St):aqx Lf->aqz (aqx (aqx (Nat×AV)×aqx an×aqx (In×bY)))
 |[]=>some []
 |x::l=>match My aT s x with
  |some a=>match MV aT s l with
   |some b=>some (a::b)
   |none=>none
  |none=>none
def Kn(P:aqA)(ol:aqx Oper)(as:aqx (Nat×bY))(aT:aqx Nat)(s:St):aqz (aqx (aqx (Nat×AV)×aqx an×aqx (In×bY))):=
 bif sA (Region.before ol.toArray) ol.toArray then fL (tO ol.toArray 0 ol.toArray.size) λA=>fL (rZ ol.toArray false (Region.before ol.toArray) 0 ol.toArray.size) λC=>
  match An P ol.toArray A C as ol.toArray.size 0 [] [] s with
  |some ls=>MV aT s ls
  |none=>none
 else none
theorem ab3{aT:aqx Nat}{s:St}:∀{ls:aqx Lf}{r},MV aT s ls=some r->∀x∈ls,∃a∈r,My aT s x=some a
 |[],_,_,x,hx=>by cases hx
 |y::l,r,h,x,hx=>by
  unfold MV at h;split at h
  ·next a e1=>
   split at h
   ·next b e2=>
    cases h
    rcases aqd.1 hx with rfl|hx
    ·exact⟨a,apP,e1⟩
    ·obtain⟨a',h1,h2⟩:=ab3 e2 x hx;exact⟨a',apS _ h1,h2⟩
   ·cases h
  ·cases h
theorem abS{a x:Nat×aqx (In×bY)}:∀{l:aqx (Nat×aqx (In×bY))},x∈DV a l↔x=a\/x∈l
 |[]=>by simp [DV]
 |b::l=>by
  unfold DV;cases cn a.1 b.1 with
  |true=>simp
  |false=>
   simp only[cond_false,aqd,abS (l:=l)];constructor
   ·rintro(h|h|h)
    ·exact .inr (.inl h)
    ·exact .inl h
    ·exact .inr (.inr h)
   ·rintro(h|h|h)
    ·exact .inr (.inl h)
    ·exact .inl h
    ·exact .inr (.inr h)
theorem Y1{x:Nat×aqx (In×bY)}:∀{l:aqx (Nat×aqx (In×bY))},x∈F7 l↔x∈l
 |[]=>by simp [F7]
 |a::l=>by rw[F7,abS,Y1 (l:=l),aqd]
theorem Uv{P:aqA}:∀{l:aqx (Nat×aqx (In×bY))},gC P (ML l)->∀p∈l,gC P p.2
 |[],_,p,hp=>by cases hp
 |a::l,h,p,hp=>by
  unfold ML at h;rcases aqd.1 hp with rfl|hp
  ·exact λq hq=>h q (List.mem_append_left _ hq)
  ·exact Uv (λq hq=>h q (List.mem_append_right _ hq)) p hp
theorem XH{p q:aqx Nat}{h0:Nat}{h:aqx an}:∀(n i j:Nat),(ud p q h0 h n i)[j]?=if j<n then some (match h[fJ h0 q (i+j)]? with|some B=>B.aL (fJ h0 p)|none=> .gone)else none
 |0,i,j=>by simp [ud]
 |n+1,i,0=>by simp [ud]
 |n+1,i,j+1=>by
  rw[ud,aqk,XH n (i+1) j];simp only[Nat.add_lt_add_iff_right];rw[show i+1+j=i+(j+1) by omega]
theorem Zi{p q:aqx Nat}{h0:Nat}{h:aqx an}:∀(n i:Nat),(ud p q h0 h n i).length=n
 |0,_=>rfl
 |n+1,i=>by rw[ud,apM,Zi n]
theorem aph{P:aqA}{ops:Array Oper}{N0:Nat}{aT:aqx Nat}{s:St}{x:Lf}{Δ:aqx (Nat×AV)}{h':aqx an}{ps:aqx (In×bY)}(h:My aT s x=some (Δ,h',ps))(hN:N0<=s.h.length)(xd:∀i,(bC s.t i).aQ s.h.length=true)
 (hn:x.1.n=s.n) (hp:∃pre,x.1.t=pre++s.t) (bQ:gC P ps):jO N0 x.1 ⟨s.n,Δ++s.t,h'⟩/\∀p∈x.2.2,gC P p.2:=by
 unfold My at h;rw[Dw,Dw]at h;generalize S9 s.h.length x.2.1 [] x.2.1=p at h;generalize SI s.h.length p p.length s.h.length=q at h;unfold aaP at h;obtain⟨hb,he⟩:=eH h;cases he
 rw[apL]at hb;obtain⟨hb,hc⟩:=hb;simp only[ap9,List.mem_range,apL,beq_iff_eq,dI]at hc;have yi:∀i,i<s.h.length->fJ s.h.length p i=i:=λi hi=>by
   unfold fJ;have:cn s.h.length i=false:=by rw[<-Bool.not_eq_true,dI];omega
   rw[this];rfl
 refine⟨?_,λy hy=>Uv bQ y (Y1.2 hy)⟩;refine jO.aL (fJ s.h.length p) (fJ s.h.length q) hn (by
  cases zU s.h.length p with
  |true=>rfl
  |false=>exact Zi _ _) (λi hi=>(hc i hi).1.1.1) (λi hi=>(hc i hi).1.1.2) (λi hi=>(hc i hi).1.2) (λi hi=>(hc i hi).2) (λi hi=>yi i (by omega)) (λi _=> ?_) λi hi=> ?_
 ·obtain⟨pre,e1⟩:=hp;have yA:∀(f:Nat->AV),(aT.map λk=>(k,f k)).map (·.1)=aT:=λf=>by rw[List.map_map];exact List.map_id _
  show bC ((aT.map λk=>(k,(bC x.1.t k).aL (fJ s.h.length p)))++s.t) i=_\/_;rcases Fv (aT.map λk=>(k,(bC x.1.t k).aL (fJ s.h.length p))) s.t i with⟨h1,h2⟩|⟨h1,h2⟩
  ·rw[yA]at h1;rw[h2,tY (λk=>(bC x.1.t k).aL (fJ s.h.length p)),if_pos h1];exact .inl rfl
  ·rw[yA]at h1;show _\/bC ((aT.map λk=>(k,(bC x.1.t k).aL (fJ s.h.length p)))++s.t) i=_;rw[h2];rw[e1,apK,Nat.add_sub_cancel,List.take_left']at hb
   ·rw[e1];rcases Fv pre s.t i with⟨h3,h4⟩|⟨h3,h4⟩
    ·right
     obtain⟨y,hy,rfl⟩:=List.mem_map.1 h3;have:=ap9.1 hb y hy;rw[Bool.or_eq_true]at this;rcases this with this|this
     ·exfalso;obtain⟨k,hk,e⟩:=List.any_eq_true.1 this;rw[beq_iff_eq]at e;exact h1 (e▸hk)
     ·generalize bC s.t y.1=z at this;cases z<;>first|rfl|cases this
    ·left
     rw[h4,xp (τ:=id) yi _ (xd i),CI]
   ·rfl
 ·show(bif zU s.h.length p then x.1.h else ud p q s.h.length x.1.h x.1.h.length 0)[fJ s.h.length p i]?=_;cases hid:zU s.h.length p with
  |true=>rw[amw hid];simp only[cond_true,id];rw[apN hi,Option.map_some,Sr]
  |false=>
  simp only[cond_false];rw[XH,if_pos (Nat.lt_of_succ_le (hc i hi).1.1.1),ap3,(hc i hi).1.2,apN hi];rfl
theorem ao4{P:aqA}{ol:aqx Oper}{as:aqx (Nat×bY)}{aT:aqx Nat}{s:St}{Δ:aqx (Nat×AV)}{h':aqx an}{ps:aqx (In×bY)}{m N0:Nat}{K:St->Prop}(h:Kn P ol as aT s=some (List.replicate m (Δ,h',ps)))(bQ:gC P ps)(hN:N0<=s.h.length)(xd:∀i,(bC s.t i).aQ s.h.length=true)(hK:JO N0 K)(hk:K ⟨s.n,Δ++s.t,h'⟩):
 oV false P ol.toArray K ol.toArray.size (Array.replicate ol.toArray.size false) s:=by
 unfold Kn at h;obtain⟨hM,h⟩:=nF h;rw[Dw,Dw]at h;split at h
 ·next ls e1=>
  obtain⟨_,h2,h3⟩:=ZL (s0:=s) hK.c hM s.t _ 0 (Array.replicate ol.toArray.size false) _ _ s ls ⟨by simp,λi=>by
   rw[Nat.zero_testBit,Array.getD_eq_getD_getElem?,Array.getElem?_replicate];split<;>rfl⟩ (λj o ho hj=>by
   exfalso;rw[Array.getD_eq_getD_getElem?]at hj;rw[Array.getElem?_replicate]at hj;split at hj<;>simp at hj) e1
  refine h3 λx hx=> ?_;obtain⟨a,ha,e2⟩:=ab3 h x hx;rw[List.mem_replicate]at ha;obtain⟨_,rfl⟩:=ha;obtain⟨k1,k2⟩:=aph (P:=P) (ops:=ol.toArray) e2 hN xd ((h2 x hx).2.2 (lU.refl _ _)).n ((h2 x hx).2.1 ⟨[],rfl⟩) bQ;exact⟨k2,hK _ _ k1 hk⟩
 ·cases h
section
variable {P:aqA} {r:aqz Nat} {N0 id n:Nat} {ol:aqx Oper} {y:Code} {t:aqx (Nat×AV)} {h:aqx an} {Q Q':Exit->St->Prop}
theorem rte(m:Nat)(hm:P.follows .mixedOrders=true)(ax:aqx (Nat×Ob P))(Δ:aqx (Nat×AV))(h':aqx an)(e:Kn P ol (ja ax) (Δ.map (·.1)) ⟨n,t,h⟩=some (List.replicate m (Δ,h',jW ax)))(k:Q .normal ⟨n,Δ++t,h'⟩):bu P r N0 (.region id ol.toArray true) Q ⟨n,t,h⟩:=
 aoJ hm λhN xd=>ao4 e (qV ax) hN xd (ai3 _) ⟨_,jO.refl _ _,k⟩
end
theorem Tw{f:AV->AV}(hf:∀d,f (.d d)= .d d)(xs:aqx (aqx D)):(cP xs).map (·.map f)=cP xs:=by
 unfold cP;rw[List.map_map];refine aqe λc _=> ?_;simp only[Function.comp,List.map_map];exact aqe λd _=>hf d
theorem GJ(xs:aqx (aqx D)):(cP xs).length=xs.length:=by unfold cP;rw[apO]
theorem ajD{xs:aqx (aqx D)}{i:Nat}{c:aqx D}(h:xs[i]?=some c):(cP xs)[i]?=some (c.map .d):=by unfold cP;rw[apQ,h];rfl
theorem alr(xs ys:aqx (aqx D)):cP (xs++ys)=cP xs++cP ys:=by unfold cP;rw[List.map_append]
def an.wF(m:Nat):an->an
 | .vec e k cs=> .vec e k cs
 |B=>B.bw m
def an.Nq:an->an
 | .vec e k cs=> .vec e k cs
 |B=>B.qw
def an.Bn(m:Nat):an->Prop
 | .vec _ _ cs=>cs.map (·.map (AV.bw m))=cs/\cs.all (·.all (AV.aQ m))=true
 |_=>True
def kd(m:Nat):aqx an->Prop
 |[]=>True
 |B::l=>B.Bn m/\kd m l
section
variable {m:Nat} {l:aqx an}
theorem NO:kd m []:=trivial
theorem oS{B:an}(hB:B.Bn m)(h:kd m l):kd m (B::l):=⟨hB,h⟩
theorem ajF(xs:aqx (aqx D)):(cP xs).all (·.all (AV.aQ m))=true:=by simp [cP,AV.aQ]
theorem vmV{e k:Nat}{xs:aqx (aqx D)}(h:kd m l):kd m (.vec e k (cP xs)::l):=⟨⟨Tw (λd=>by simp [AV.bw]) _,ajF _⟩,h⟩
theorem kd.mem:∀{l:aqx an},kd m l->∀B∈l,B.Bn m
 |[],_,B,hB=>by cases hB
 |_::_,h,B,hB=>by
  rcases aqd.1 hB with rfl|hB
  ·exact h.1
  ·exact kd.mem h.2 B hB
end
theorem afj{m:Nat}{B:an}(h:B.Bn m):B.wF m=B.bw m:=by
 cases B with
 |vec e k cs=>simp only[an.wF,an.bw];rw[h.1]
 |_=>rfl
theorem akv{m:Nat}{B:an}(h:B.Bn m)(hl:(B.wF m).zT m=true):(B.bw m).aQ m=true:=by
 cases B with
 |vec e k cs=>simp only[an.bw,an.aQ];rw[h.1];exact h.2
 |_=>exact hl
theorem ae3{G:Gh}{w:aqC}{h:aqx an}(hi:bD G w h):bD G w (h.map an.Nq):=by
 have dS:∀n,bM (h.map an.Nq) G n=bM h G n:=λn=>by
  unfold bM;rw[apQ];cases h[n]? with
  |none=>rfl
  |some B=>cases B<;>rfl
 have h2:=Ps hi;refine⟨by rw[apO];exact hi.len,hi.z,hi.S,λn B hB=> ?_,λm n x hm hn=>hi.inj m n x (by rw[<-dS];exact hm) (by rw[<-dS];exact hn),hi.gl⟩;rw[apQ]at hB;cases h1:h[n]? with
 |none=>rw[h1]at hB;cases hB
 |some B'=>
  rw[h1]at hB;cases hB
  have h3:=h2.cD n B'.qw (by rw[apQ,h1];rfl);cases B' with
  |vec e k cs=>exact hi.cD n _ h1
  |_=>exact h3
def wc(kn:aqx (Nat×Nat))(n:Nat):Nat->aqx AV->aqx AV
 |_,[]=>[]
 |i,x::l=>(bif kn.any (λp=>p.1==n&&p.2==i)then x else x.nrm)::wc kn n (i+1) l
def an.acb(kn:aqx (Nat×Nat))(n:Nat):an->an
 | .cells cs=> .cells (wc kn n 0 cs)
 |B=>B.Nq
def pF(kn:aqx (Nat×Nat)):Nat->aqx an->aqx an
 |_,[]=>[]
 |n,B::l=>B.acb kn n::pF kn (n+1) l
theorem UI(kn:aqx (Nat×Nat))(n:Nat):∀(j:Nat)(cs:aqx AV),(wc kn n j cs).length=cs.length
 |_,[]=>rfl
 |j,x::l=>by rw[wc,apM,UI kn n (j+1) l,apM]
theorem Vw(kn:aqx (Nat×Nat))(n:Nat):∀(j:Nat)(cs:aqx AV)(i:Nat)(c':AV),(wc kn n j cs)[i]?=some c'->∃c,cs[i]?=some c/\(c'=c\/c'=c.nrm)
 |_,[],i,c',h=>by simp [wc]at h
 |j,x::l,0,c',h=>by
  simp only[wc,List.getElem?_cons_zero,Option.some.injEq]at h;refine⟨x,rfl,?_⟩;cases hk:kn.any (λp=>p.1==n&&p.2==j)with
  |true=>rw[hk]at h;exact .inl h.symm
  |false=>rw[hk]at h;exact .inr h.symm
 |j,x::l,i+1,c',h=>by
  simp only[wc,aqk]at h;obtain⟨c,h1,h2⟩:=Vw kn n (j+1) l i c' h;exact⟨c,by simpa using h1,h2⟩
theorem Pf(kn:aqx (Nat×Nat)):∀(j:Nat)(h:aqx an)(i:Nat)(B':an),(pF kn j h)[i]?=some B'->∃B,h[i]?=some B/\B'=B.acb kn (j+i)
 |_,[],i,B',h=>by simp [pF]at h
 |j,B::l,0,B',h=>by simp only[pF,List.getElem?_cons_zero,Option.some.injEq]at h;exact⟨B,rfl,h.symm⟩
 |j,B::l,i+1,B',h=>by
  simp only[pF,aqk]at h;obtain⟨C,h1,h2⟩:=Pf kn (j+1) l i B' h;exact⟨C,by simpa using h1,by rw[h2];congr 1;omega⟩
theorem abL(kn:aqx (Nat×Nat)):∀(j:Nat)(h:aqx an),(pF kn j h).length=h.length
 |_,[]=>rfl
 |j,B::l=>by rw[pF,apM,abL kn (j+1) l,apM]
theorem ahg{G:Gh}{w:aqC}{h:aqx an}(kn:aqx (Nat×Nat))(hi:bD G w h):bD G w (pF kn 0 h):=by
 have dS:∀n x,bM (pF kn 0 h) G n=some x->bM h G n=some x:=λn x hx=>by
  obtain⟨B',hB,h1⟩:=od hx;obtain⟨B,h2,rfl⟩:=Pf kn 0 h n B' hB;rw[dc h2,<-h1];cases B<;>rfl
 have h2:=ae3 hi;refine⟨by rw[abL];exact hi.len,hi.z,hi.S,λn B' hB=> ?_,λm n x hm hn=>hi.inj m n x (dS m x hm) (dS n x hn),hi.gl⟩;obtain⟨B,h1,rfl⟩:=Pf kn 0 h n B' hB;cases B with
 |cells cs=>
  obtain⟨c1,c2,vs,T,c3,c4,c5⟩:=hi.cD n _ h1;refine⟨c1,c2,vs,T,c3,by rw[UI];exact c4,λi u c hu hc=> ?_⟩;obtain⟨c0,h3,h4|h4⟩:=Vw _ _ _ _ _ _ hc
  ·rw[h4];exact c5 i u c0 hu h3
  ·rw[h4];exact(c5 i u c0 hu h3).nrm
 |_=>exact h2.cD n _ (by rw[apQ,h1];rfl)
def ni(s:St)(live:aqx Nat)(m:Nat)(ks:aqx Nat)(kn:aqx (Nat×Nat)):aqz St:=
 bif cn m s.h.length&&(live.all λk=>((bC s.t k).bw m).aQ m)&&(((s.h.take m).map (an.wF m)).all (an.zT m))then some ⟨s.n,live.map λk=>(k,bif ks.any (·==k)then(bC s.t k).bw m else(bC s.t k).fin m),pF kn 0 ((s.h.take m).map (an.wF m))⟩else none
theorem adp{h:aqx an}{m:Nat}(hd:kd m (h.take m)):(h.take m).map (an.wF m)=(h.take m).map (an.bw m):=aqe λB hB=>afj (hd.mem B hB)
theorem ads{h:aqx an}{m:Nat}(hd:kd m (h.take m))(hl:((h.take m).map (an.wF m)).all (an.zT m)=true):((h.take m).map (an.bw m)).all (an.aQ m)=true:=by
 rw[ap9]at hl ⊢;intro B hB;obtain⟨B',h1,rfl⟩:=List.mem_map.1 hB;exact akv (hd.mem B' h1) (hl _ (List.mem_map.2 ⟨B',h1,rfl⟩))
section
variable {P:aqA} {r:aqz Nat} {n N0:Nat} {G:Gh} {w:aqC} {a:Act} {s s':St} {Q Q':Exit->St->Prop} {live:aqx Nat} {m:Nat} {ks:aqx Nat} {kn:aqx (Nat×Nat)}
theorem cG.ni(hs:cG G w a s)(hd:kd m (s.h.take m))(h:ni s live m ks kn=some s'):cG (G.cut m) w a s':=by
 unfold Go.Proofs.YtmkmibahjanejaaGreatDoor.ni at h;obtain⟨hb,rfl⟩:=eH h;rw[apL,apL]at hb;have hm:=hs.mask (live:=live) ⟨dI.1 hb.1.1,hb.1.2,ads hd hb.2⟩;refine⟨hs.size,λi=> ?_,by show bD _ _ (pF kn 0 ((s.h.take m).map (an.wF m)));rw[adp hd];exact ahg kn hm.inv,hs.df⟩;have:=hm.tmp i
 change aD _ _ _ (bC (live.map λk=>(k,(bC s.t k).bw m)) i)at this
 rw[tY (λk=>(bC s.t k).bw m)]at this;show aD _ _ _ (bC (live.map λk=>(k,bif ks.any (·==k)then(bC s.t k).bw m else(bC s.t k).fin m)) i);rw[tY (λk=>bif ks.any (·==k)then(bC s.t k).bw m else(bC s.t k).fin m)];split at this
 ·rename_i hi
  rw[if_pos hi];cases ks.any (·==i)with
  |true=>exact this
  |false=>exact this.nrm
 ·rename_i hi;rw[if_neg hi];exact .dead _
theorem aa0{c:Code}{ι:Type}(live:aqx Nat)(m:Nat)(ks:aqx Nat)(kn:aqx (Nat×Nat))(st:ι->St)(I:ι->Prop)(μ:ι->Nat)(i0:ι)(hm:N0<=m)(h0:kd m (s.h.take m)/\Go.Proofs.YtmkmibahjanejaaGreatDoor.ni s live m ks kn=some (st i0))(hI:I i0)
 (round:∀i,I i->bu P r N0 c (gy (λs'=>∃i',(kd m (s'.h.take m)/\Go.Proofs.YtmkmibahjanejaaGreatDoor.ni s' live m ks kn=some (st i'))/\I i'/\μ i'<μ i) Q) (st i)):bu P r N0 (.loop c) Q s:=by
 constructor
 intro G w a n hs _;refine Pd (λ(i:ι) a' w'=>∃G',I i/\bI N0 G w G' w'/\N0<=G'.N/\cG G' w' a' (st i)) μ i0 ⟨G.cut m,hI,qA _ _ _ _,hm,hs.ni h0.1 h0.2⟩ ?_;rintro i a' w' ⟨G',hi,hE,hN,ct⟩;refine wpIn_mono ((round i hi).run G' w' a' n ct hN) λe a1 w1 hn=> ?_;obtain⟨G1,s1,ib,gK,fj,hq⟩:=hn;cases e with
 |normal=>
  obtain⟨i',h1,h2,h3⟩:=hq;exact⟨i',⟨G1.cut m,h2,(hE.trans ib).trans (qA _ _ _ _),hm,fj.ni h1.1 h1.2⟩,h3⟩
 |_=>exact⟨G1,s1,hE.trans ib,gK,fj,hq⟩
theorem ahj{c:Code}(live:aqx Nat)(m:Nat)(ks:aqx Nat)(kn:aqx (Nat×Nat))(hm:N0<=m)(h0:kd m (s.h.take m)/\Go.Proofs.YtmkmibahjanejaaGreatDoor.ni s live m ks kn=some s')(h:bu P r N0 c Q s'):bu P r N0 c Q s:=by
 constructor
 intro G w a n hs _;exact wpIn_mono (h.run (G.cut m) w a n (hs.ni h0.1 h0.2) hm) λ_ _ _ hn=>hn.trans (qA N0 G w m)
theorem apo{c y:Code}{ι:Type}(live:aqx Nat)(m:Nat)(ks:aqx Nat)(kn:aqx (Nat×Nat))(st:ι->St)(I:ι->Prop)(hm:N0<=m)(hc:bu P r N0 c (gy (λs'=>∃i,(kd m (s'.h.take m)/\Go.Proofs.YtmkmibahjanejaaGreatDoor.ni s' live m ks kn=some (st i))/\I i) Q) s)(hy:∀i,I i->bu P r N0 y Q' (st i)):bu P r N0 c (gy (λs=>bu P r N0 y Q' s) Q) s:=by
 refine hc.mono λe s' h=> ?_;cases e with
 |normal=>obtain⟨i,h1,h2⟩:=h;exact ahj live m ks kn hm h1 (hy i h2)
 |_=>exact h
end
mutual
def AV.uG(b:Nat):AV->aqx (Nat×Nat×Nat×Nat)
 | .vec n o len L k=>bif n==b then[(o,len,L,k)]else[]
 | .agg cs=>AV.uE b cs
 | .bz cs=>AV.uE b cs
 | .fn _ cs=>AV.uE b cs
 |_=>[]
def AV.uE(b:Nat):aqx AV->aqx (Nat×Nat×Nat×Nat)
 |[]=>[]
 |x::l=>x.uG b++AV.uE b l
end
mutual
def AV.mlt(b:Nat)(xs:aqx (aqx D)):AV->AV
 | .vec n o len L k=>bif n==b then .d (.sl xs)else .vec n o len L k
 | .dq n i j L k=>bif n==b then .dead else .dq n i j L k
 | .agg cs=> .agg (AV.uu b xs cs)
 | .bz cs=> .bz (AV.uu b xs cs)
 | .fn f cs=> .fn f (AV.uu b xs cs)
 |x=>x
def AV.uu(b:Nat)(xs:aqx (aqx D)):aqx AV->aqx AV
 |[]=>[]
 |x::l=>x.mlt b xs::AV.uu b xs l
end
mutual
theorem acM{b kk:Nat}{xs:aqx (aqx D)}:∀x:AV,(∀q∈x.uG b,q=(0,xs.length,xs.length,kk))->x.dG b kk xs=x.mlt b xs
 | .vec n o len L k,h=>by
   unfold AV.dG AV.mlt;unfold AV.uG at h;cases e:n==b with
   |false=>rfl
   |true=>
    rw[e]at h;have:=h _ apP;cases this
    simp
 | .agg cs,h=>by unfold AV.dG AV.mlt;rw[AY cs (by unfold AV.uG at h;exact h)]
 | .bz cs,h=>by unfold AV.dG AV.mlt;rw[AY cs (by unfold AV.uG at h;exact h)]
 | .fn f cs,h=>by unfold AV.dG AV.mlt;rw[AY cs (by unfold AV.uG at h;exact h)]
 | .dq n i j L k,h=>by unfold AV.dG AV.mlt;rfl
 | .d _,_=>by simp [AV.dG,AV.mlt]
 | .ptr ..,_=>by simp [AV.dG,AV.mlt]
 | .bJ ..,_=>by simp [AV.dG,AV.mlt]
 | .own ..,_=>by simp [AV.dG,AV.mlt]
 | .full _,_=>by simp [AV.dG,AV.mlt]
 | .row ..,_=>by simp [AV.dG,AV.mlt]
 | .mp _,_=>by simp [AV.dG,AV.mlt]
 | .cY _,_=>by simp [AV.dG,AV.mlt]
 | .hid _,_=>by simp [AV.dG,AV.mlt]
 | .dead,_=>by simp [AV.dG,AV.mlt]
theorem AY{b kk:Nat}{xs:aqx (aqx D)}:∀l:aqx AV,(∀q∈AV.uE b l,q=(0,xs.length,xs.length,kk))->AV.pZ b kk xs l=AV.uu b xs l
 |[],_=>by simp [AV.pZ,AV.uu]
 |x::l,h=>by
  unfold AV.uE at h;unfold AV.pZ AV.uu;rw[acM x λq hq=>h q (List.mem_append_left _ hq),AY l λq hq=>h q (List.mem_append_right _ hq)]
end
inductive ly(b L kk:Nat)(xs:List (List D)):List an->List an->Prop
 |nil:ly b L kk xs [] []
 |cells {cs bP:List AV} {l l':List an} (c:Nat) (h:AV.uE b cs=List.replicate c (0,L,L,kk)) (e:AV.uu b xs cs=bP) (t:ly b L kk xs l l'):ly b L kk xs (.cells cs::l) (.cells bP::l')
 |HI {e k:Nat} {ys:List (List D)} {l l':List an} (t:ly b L kk xs l l'):ly b L kk xs (.vec e k (cP ys)::l) (.vec e k (cP ys)::l')
 |row {e k i:Nat} {ys:List (List D)} {cs bP:List AV} {l l':List an} (c:Nat) (h:AV.uE b cs=List.replicate c (0,L,L,kk)) (e1:AV.uu b xs cs=bP) (t:ly b L kk xs l l'):ly b L kk xs (.vec e k ((cP ys).set i cs)::l) (.vec e k ((cP ys).set i bP)::l')
 |front {e k n:Nat} {l l':List an} (t:ly b L kk xs l l'):ly b L kk xs (.front e k n::l) (.front e k n::l')
 |map {kv:List (ByteArray×D)} {l l':List an} (t:ly b L kk xs l l'):ly b L kk xs (.map kv::l) (.map kv::l')
 |gone {l l':List an} (t:ly b L kk xs l l'):ly b L kk xs (.gone::l) (.gone::l')
theorem R2{c L kk:Nat}{xs:aqx (aqx D)}(hL:xs.length=L){l:aqx (Nat×Nat×Nat×Nat)}(h:l=List.replicate c (0,L,L,kk)):∀q∈l,q=(0,xs.length,xs.length,kk):=λq hq=>by
 rw[h,List.mem_replicate]at hq;rw[hq.2,hL]
theorem ly.eq{b L kk:Nat}{xs:aqx (aqx D)}(hL:xs.length=L){l l':aqx an}(h:ly b L kk xs l l'):l'=l.map (an.qf (AV.dG b kk xs)):=by
 have hd:∀d,AV.dG b kk xs (.d d)= .d d:=λd=>by simp [AV.dG]
 induction h with
 |nil=>rfl
 |cells c h e t ih=>rw[ap8,<-ih,<-e];simp only[an.qf];rw[<-yv,AY _ (R2 hL h)]
 |HI t ih=>rw[ap8,<-ih];simp only[an.qf];rw[Tw hd]
 |row c h e1 t ih=>rw[ap8,<-ih,<-e1];simp only[an.qf];rw[List.map_set,Tw hd,<-yv,AY _ (R2 hL h)]
 |front t ih=>rw[ap8,<-ih];rfl
 |map t ih=>rw[ap8,<-ih];rfl
 |gone t ih=>rw[ap8,<-ih];rfl
theorem ajP{P:aqA}{r:aqz Nat}{N0:Nat}{c:Code}{s:St}{Q:Exit->St->Prop}(live:aqx Nat)(b:Nat)(xs:aqx (aqx D)){e k L:Nat}(h':aqx an)(c1:Nat)(hb:s.h[b]?=some (.vec e k (cP xs)))(jb:∀c∈xs,c.all D.zl=true)(hL:xs.length=L)
 (ho:(live.flatMap λi=>(bC s.t i).uG b)=List.replicate c1 (0,L,L,k)) (hh:ly b L k xs s.h h') (K:bu P r N0 c Q ⟨s.n,live.map (λi=>(i,(bC s.t i).mlt b xs)),h'.set b .gone⟩):bu P r N0 c Q s:=by
 constructor
 intro G w a n hs hN;obtain⟨G',hE,e1,ct⟩:=hs.T1 xs hb jb;refine wpIn_mono (K.run G' w a n (ct.less rfl (by rw[hh.eq hL]) λi=> ?_) (by rw[e1];exact hN)) λ_ _ _ hn=>hn.trans (hE.less hN);show bC (live.map (λi=>(i,(bC s.t i).mlt b xs))) i=bC (s.t.map λp=>(p.1,p.2.dG b k xs)) i\/_;rw[tY (λk=>(bC s.t k).mlt b xs),Hf (AV.dG b k xs) (by simp [AV.dG])];split
 ·next hi=>
  left
  refine(acM _ λq hq=>R2 hL ho q ?_).symm;exact List.mem_flatMap.2 ⟨i,hi,hq⟩
 ·exact .inr rfl
theorem Vg{G:Gh}{w:aqC}{h:aqx an}(hi:bD G w h)(e k:Nat):bI G.N G w (G.dZ (.slice none 0 0) 0 none) w/\G.N<=(G.dZ (.slice none 0 0) 0 none).N/\bD (G.dZ (.slice none 0 0) 0 none) w (h++[.vec e k []])/\aD (G.dZ (.slice none 0 0) 0 none) w (.slice none 0 0) (.vec h.length 0 0 0 k):=by
 obtain⟨a1,a2⟩:=NT (w':=w) hi (.vec e k []) (λ_ _=>rfl) (.slice none 0 0) 0 none ⟨λ_ _=>rfl,apU _,rfl,rfl,rfl⟩ (λ_ h=>by cases h)
  ⟨by simp [Gh.dZ],Nat.zero_le _,λc hc=>absurd hc aqp, .inl ⟨by simp [Gh.dZ],rfl,none,by simp [Gh.dZ]⟩⟩
 refine⟨a1,Nat.le_succ _,a2, .vec _ 0 0 0 k (by rw[hi.len];exact aqv _) ⟨none,0,0,rfl⟩ (Nat.zero_le _) λ_=>⟨apU _,⟨none,0,rfl,apU _,Nat.zero_le _,apU _,λh=>absurd h (aqn _)⟩,λ_ _=> ?_⟩⟩;simp [Gh.dZ,hi.len]
section
variable {P:aqA} {r:aqz Nat} {N0:Nat} {s:St} {Q:Exit->St->Prop} {c:Code}
theorem an2(b i e k:Nat){cs:aqx AV}(hb:s.h[b]?=some (.cells cs))(hx:cs[i]?=some (.d (.v (.slice none 0 0))))
 (h:bu P r N0 c Q ⟨s.n,s.t,(s.h++[an.vec e k []]).set b (an.cells (cs.set i (AV.vec s.h.length 0 0 0 k)))⟩):bu P r N0 c Q s:=by
 constructor
 intro G w a n hs hN;obtain⟨h1,h2,vs,T,h3,h4,h5⟩:=hs.inv.cD _ _ hb;have hi:i<cs.length:=(apJ.1 hx).1;have hv:vs[i]?=some vs[i]:=ap5 (by omega);have mi:=(h5 i _ _ hv hx).val;obtain⟨a1,a2,a3,a4⟩:=Vg hs.inv e k;have aH:=(apJ.1 hb).1;have ct:cG (G.dZ (.slice none 0 0) 0 none) w a ⟨s.n,s.t,(s.h++[an.vec e k []]).set b (an.cells (cs.set i (AV.vec s.h.length 0 0 0 k)))⟩:=by
  refine⟨hs.size,λj=>(hs.tmp j).aT a1 a2,Ss a3 (by rw[apT aH];exact hb) (by rw[List.length_set]) λej T' qb j u c hu hc=> ?_,hs.df.aT a1⟩;have e1:(G.dZ (.slice none 0 0) 0 none).aI b=G.aI b:=rfl;rw[e1,h3]at qb;cases qb
  by_cases e2:i=j
  ·subst e2;rw[aqc hi]at hc;cases hc
   rw[hv]at hu;cases hu
   rw[mi];exact a4
  ·rw[aqh e2]at hc;exact(h5 j u c hu hc).aT a1 a2
 exact wpIn_mono (h.run _ w a n ct (ap1 hN a2)) λ_ _ _ hn=>hn.trans (a1.less hN)
end
theorem adt{α:Type}{f:α->aqx D}{E:aqx α}{L:Nat}(h:E.length=L):(cP (E.map f)).length=L:=by rw[GJ,apO,h]
theorem ahA{α:Type}{f:α->aqx D}{E ys:aqx α}{h:aqx an}{k L gS L' da:Nat}{y:AV}(hE:E.length=L)(hy:y.fM=some (ys.map f))(hk:∀c∈ys.map f,c.length=k)(hn:ys.length=gS)(hL:L+ys.length=L')(hm:L'<=maxLen)(hb:L'*da<=140737488355328):
 (cP (E.map f)).length=L/\Cw h k y (cP (ys.map f))/\L'=L+(cP (ys.map f)).length/\((0+L+(cP (ys.map f)).length<=L/\L'=L/\cP ((E++ys).map f)=(cP (E.map f)).take (0+L)++cP (ys.map f)++(cP (E.map f)).drop (0+L+(cP (ys.map f)).length))\/(0=0/\L=L/\L'=L+(cP (ys.map f)).length/\cP ((E++ys).map f)=cP (E.map f)++cP (ys.map f)/\L'<=maxLen/\L'*da<=140737488355328)):=by
 have hl:(cP (ys.map f)).length=ys.length:=by rw[GJ,apO]
 refine⟨adt hE, .inl ⟨_,hy,hk,rfl⟩,by rw[hl,hL], .inr ⟨rfl,rfl,by rw[hl,hL],by rw[List.map_append,alr],hm,hb⟩⟩
theorem aiB{P:aqA}{r:aqz Nat}{N0:Nat}{c:Code}{s:St}{Q:Exit->St->Prop}(live:aqx Nat)(b:Nat)(xs ys:aqx (aqx D)){e k L:Nat}(h':aqx an)(c1:Nat)(hb:s.h[b]?=some (.vec e k (cP xs)))(jb:∀c∈xs,c.all D.zl=true)(hL:xs.length=L)(hy:ys=xs)
 (ho:(live.flatMap λi=>(bC s.t i).uG b)=List.replicate c1 (0,L,L,k)) (hh:ly b L k ys s.h h') (K:bu P r N0 c Q ⟨s.n,live.map (λi=>(i,(bC s.t i).mlt b ys)),h'.set b .gone⟩):bu P r N0 c Q s:=by
 subst hy;exact ajP live b _ h' c1 hb jb hL ho hh K
theorem af7{α:Type}{f:α->aqx D}(hf:∀x,(f x).all D.zl=true)(E:aqx α):∀c∈E.map f,c.all D.zl=true:=λc hc=>by
 obtain⟨x,_,rfl⟩:=List.mem_map.1 hc;exact hf x
theorem aiv{α:Type}{f:α->aqx D}{E:aqx α}{L:Nat}(h:E.length=L):(E.map f).length=L:=by rw[apO,h]
def SO(o:Oper):Bool:=
 match o.op with
 | .call c=>match c.callee with
   | .value _=>false
   |_=>true
 |_=>true
def HB:bY->Bool
 | .va _=>true
 |_=>false
def Pb(o:Oper)(a:bY):Bool:=JX o||(SO o&&((qC o||jv o&& !(ck o==0))|| !HB a))
def Ie(o:Oper)(a:bY):Bool:=Pb o a||(!BD a&&(!HB a&& !jv o))
def yq(as:aqx (Nat×bY)):Nat->aqx Oper->Bool
 |_,[]=>true
 |j,o::l=>Ie o (iY as (3*j+1))&&yq as (j+1) l
section
variable {P:aqA} {ops:Array Oper} {o:Oper} {j:Nat} {as:aqx (Nat×bY)} {s s1:St} {l:aqx (In×bY)} {K:St->Prop}
theorem amV(hn:SO o=true)(h:qG P o K s):Ai P o K s:=by
 unfold Ai;unfold SO at hn;split
 ·next c hop=>
  rw[hop]at hn;split
  ·next f hc=>simp only[hc]at hn;cases hn
  ·exact h
 ·exact h
theorem amj(h:nH P false o j as s=some (s1,l))(bQ:gC P l)(hK:K s1)(hL:Pb o (iY as (3*j+1))=true):yf true P o K s:=by
 unfold nH at h;simp only[Bool.false_and,cond_false]at h;split at h
 ·next x h' i hr=>
  have fin:OK P i (iY as (3*j+1))->K ((s.wh h').put o.dst x)->yf true P o K s:=λh1 h2=>by
   unfold Pb at hL;rw[Bool.or_eq_true]at hL;unfold DN at hr;split at hr
   ·next va e=>
    simp only[Bool.false_and,cond_false]at hr;split at hr
    ·next x2 h2' p e2=>
     cases hr
     rcases hL with hL|hL
     ·exfalso;rw[e]at h1;unfold JX at hL;split at hL
      ·next c hop=>
       split at hL
       ·next t hc=>
        rw[hop]at e2;unfold iq at e2;simp only[hc]at e2;cases e2
       ·next t hc=>
        rw[hop]at e2;unfold iq at e2;simp only[hc]at e2;cases e2
       ·cases hL
      ·cases hL
     ·rw[e]at h1 hL;simp only[HB,Bool.not_true,Bool.or_false,apL]at hL;cases h1 with|pr _ hp=>exact .inr (.inr (.inl ⟨(by
        have h3:=hL.2;rw[Bool.or_eq_true,apL,Bool.not_eq_true']at h3;exact h3.elim (λe=> .inr (by rw[e];rfl)) λe=> .inl ⟨e.1,by rw[e.2];rfl⟩),va,x,h',p,e2,hp,h2⟩))
    ·cases hr
   ·rcases hL with hL|hL
    ·exact .inr (.inl ⟨by unfold nG;rw[hL];rfl,x,h',h2,λC hC=>Au hr h1 hC⟩)
    ·rw[apL]at hL;exact .inl (amV hL.1 (Au (C:=λx h'=>K ((s.wh h').put o.dst x)) hr h1 h2))
  split at h
  ·next y hy=>
   obtain⟨m,e,h2,h3⟩:=Hj h bQ;cases e
   have:=h2 (.eq x, .eq y) apP;cases this with|eq e=>subst e;exact fin h3 hK
  ·obtain⟨m,e,h2,h3⟩:=Hj h bQ;cases e
   exact fin h3 hK
 ·cases h
theorem adP{dr v:Bool}{op:Op}{ρ:Operand->AV}{h:aqx an}{a:bY}(hv:HB a=false):DN P dr v op ρ h a=vU P op ρ h a:=by
 cases a<;>first|rfl|cases hv
theorem Zh(h:nH P false o j as s=some (s1,l))(bQ:gC P l)(hK:K s1)(hL:Ie o (iY as (3*j+1))=true):yf true P o K s:=by
 unfold Ie at hL;rw[Bool.or_eq_true]at hL;rcases hL with hL|hL
 ·exact amj h bQ hK hL
 ·rw[apL,apL,Bool.not_eq_true',Bool.not_eq_true',Bool.not_eq_true']at hL;obtain⟨h1,h2,h3⟩:=hL;have h':nH P true o j as s=some (s1,l):=by
    unfold nH at h ⊢;rw[adP h2]at h ⊢;rw[h1];exact h
  have:=Oy (dr:=true) h' bQ hK;rcases this with h|⟨e,_⟩|⟨e,_⟩|h
  ·exact .inl h
  ·cases e
  ·exfalso;rcases e with e|e
   ·rw[h3]at e;exact absurd e.1 (by simp)
   ·cases e
  ·exact .inr (.inr (.inr h))
theorem ahD(h:pD P ops false o j as s=some (s1,l))(bQ:gC P l)(hK:K s1)(hL:Ie o (iY as (3*j+1))=true):ig ops o s (yf true P o K s) (K (s.put o.dst (.d (.v undef)))):=by
 unfold pD at h;split at h
 ·next hg=>unfold ig;rw[hg];exact Zh h bQ hK hL
 ·next g want hg=>
  obtain⟨dst,op,ty,pos,after,guard⟩:=o;simp only at hg;subst hg;split at h
  ·next b hb=>
   obtain⟨n,e,h2,h3⟩:=vc h bQ;have h4:=OK.Lt (h3 (_,_) apP);rw[MF,h4];refine⟨λe2=> ?_,λe2=> ?_⟩
   ·subst e2;simp only[BEq.rfl,cond_true]at e;exact Zh e h2 hK hL
   ·subst e2;have:((!want)==want)=false:=by cases want<;>rfl
    rw[this]at e;simp only[cond_false]at e;cases e
    exact hK
  ·next hb=>
   obtain⟨n,e,h2,h3⟩:=vc h bQ;cases e
   have h4:=h3 (_,_) apP;have h5:wI ops g s.t= .d (.v undef):=by
    generalize wI ops g s.t=z at h4;cases h4;rfl
   rw[MF,h5];exact hK
  ·cases h
theorem LX:∀(ol:aqx Oper)(j:Nat)(s:St)(l:aqx (In×bY)),je P ops false ol j as s=some (s1,l)->gC P l->yq as j ol=true->K s1->vm true P ops ol K s
 |[],_,s,l,h,_,_,hK=>by cases h;exact hK
 |o::rest,j,s,l,h,bQ,hL,hK=>by
  unfold yq at hL;rw[apL]at hL;unfold je at h;split at h
  ·next s2 m hg=>
   obtain⟨n,e,h2,h3⟩:=vc h bQ;exact ahD (K:=vm true P ops rest K) hg h3 (LX rest (j+1) s2 n e h2 hL.2 hK) hL.1
  ·cases h
theorem Ul:∀(ol pre:aqx Oper),tB (pre++ol).toArray ((List.range ol.length).map (pre.length+·))=ol
 |[],_=>rfl
 |o::l,pre=>by
  rw[apM,List.range_succ_eq_map,ap8,List.map_map];unfold tB;have h1:(pre++o::l).toArray[pre.length+0]?=some o:=by simp
  rw[h1];simp only;have h2:=Ul l (pre++[o]);rw[ap0]at h2;simp only[List.singleton_append,apK,apM,apV,ap3]at h2
  congr 1
  rw[show(pre.length+·)∘Nat.succ=(pre.length+1+·)from by funext i;simp only[Function.comp];omega];exact h2
theorem PC(ol:aqx Oper):tB ol.toArray (List.range ol.length)=ol:=by
 have:=Ul ol []
 simpa using this
end
section
variable {P:aqA} {r:aqz Nat} {N0 id n:Nat} {ol:aqx Oper} {y:Code} {t:aqx (Nat×AV)} {h:aqx an} {Q Q':Exit->St->Prop}
theorem rlE(hm:P.follows .mixedOrders=true)(hl:yI true ol.toArray (List.range ol.length)=true)(Δ:aqx (Nat×AV))(h':aqx an)(e:∃ax:aqx (Nat×Ob P),yq (ja ax) 0 ol=true/\oX P false ol (ja ax) (Δ.map (·.1)) ⟨n,t,h⟩=some (Δ,h',jW ax))(k:bu P r N0 y Q' ⟨n,Δ++t,h'⟩):bu P r N0 (.region id ol.toArray true) (gy (λs=>bu P r N0 y Q' s) Q) ⟨n,t,h⟩:=by
 obtain⟨ax,e0,e⟩:=e;obtain⟨s1,h1,h2,h3,h4⟩:=CH e;refine R8 (m:=true) (List.range ol.length) hm (by simp) hl ?_;rw[PC];exact LX ol 0 _ _ h1 (qV ax) e0 (DY (s:=s1) (s':=⟨n,Δ++t,h'⟩) h2.symm h3.symm h4 k)
theorem rl(hm:P.follows .mixedOrders=true)(hl:yI true ol.toArray (List.range ol.length)=true)(ax:aqx (Nat×Ob P))(Δ:aqx (Nat×AV))(h':aqx an)(e:yq (ja ax) 0 ol=true/\oX P false ol (ja ax) (Δ.map (·.1)) ⟨n,t,h⟩=some (Δ,h',jW ax))(k:bu P r N0 y Q' ⟨n,Δ++t,h'⟩):bu P r N0 (.region id ol.toArray true) (gy (λs=>bu P r N0 y Q' s) Q) ⟨n,t,h⟩:=rlE hm hl Δ h' ⟨ax,e⟩ k
theorem FZ(hm:P.follows .mixedOrders=true)(hl:yI true ol.toArray (List.range ol.length)=true)(ax:aqx (Nat×Ob P))(Δ:aqx (Nat×AV))(h':aqx an)(e:yq (ja ax) 0 ol=true/\E7 P false ol (ja ax) ⟨n,t,h⟩=some (Δ++t,h',jW ax))(k:Q .normal ⟨n,Δ++t,h'⟩):bu P r N0 (.region id ol.toArray true) Q ⟨n,t,h⟩:=by
 obtain⟨e0,e⟩:=e;refine R8 (m:=true) (List.range ol.length) hm (by simp) hl ?_;rw[PC];exact LX ol 0 _ _ (acN e) (qV ax) e0 k
end
section
variable {P:aqA} {r:aqz Nat} {N0:Nat} {Q:Exit->St->Prop} {c:Code} {o:Oper} {K:St->Prop}
theorem L3{n d:Nat}{t:aqx (Nat×AV)}{h h':aqx an}{x:AV}(hx:BK P o.op (ev ⟨n,t,h⟩) h=some (x,h'))(hd:o.dst=some d)(hn:Nat.ble n d=false)(hK:K ⟨n,(d,x)::t,h'⟩):n5 P o K ⟨n,t,h⟩:=by
 refine .inr (.inr (.inr (.inr (.inl ⟨x,h',hx,?_⟩))));have aH:d<n:=Nat.lt_of_not_le λhle=>by rw[Nat.ble_eq_true_of_le hle]at hn;cases hn
 rw[hd,rp (s:=St.wh ⟨n,t,h⟩ h') aH];exact hK
theorem amX{n d:Nat}{t:aqx (Nat×AV)}{h h':aqx an}{x:AV}{p:Prop}(a:VA)(hx:iq P o.op (ev ⟨n,t,h⟩) h a=some (x,h',p))(hp:p)(hd:o.dst=some d)(hn:Nat.ble n d=false)(hK:K ⟨n,(d,x)::t,h'⟩):n5 P o K ⟨n,t,h⟩:=by
 refine .inl ⟨a,x,h',p,hx,hp,?_⟩;have aH:d<n:=Nat.lt_of_not_le λhle=>by rw[Nat.ble_eq_true_of_le hle]at hn;cases hn
 rw[hd,rp (s:=St.wh ⟨n,t,h⟩ h') aH];exact hK
theorem amt{ρ:Operand->AV}{h:aqx an}{q:Call}{x y:Operand}{T U:TypeId}{e k m da:Nat}{kq kn:IntKind}{z:aqB}(hc:q.callee= .builtin .append)(h1:q.args.toList=[x,y])(h2:q.argTypes.toList=[T,U])(hx:(ρ x).isNil=true)(hT:eJ P T=some (e,k))(hU:qR P U=some kn)(hy:ρ y= .d (.v (.int kq (Int.ofNat m))))(hz:iu P e=some z)(hb:qF P e=some da)(g1:1<=m)(g2:1<=k)(g3:z.cells.toList.length=k)(g4:m<=maxLen)(g5:m*da<=140737488355328):
 BK P (.call q) ρ h=some (.vec h.length 0 m m k,h++[.vec e k (List.replicate m (z.cells.toList.map λu=> .d (.v u)))]):=by
 unfold BK;simp only[hc,h1,h2,hT,hU,hy,hz,hb,hx,dI.2 g1,dI.2 g2,dI.2 g4,dI.2 g5,g3,aqs,Bool.and_self,cond_true]
theorem an6{n t e k L:Nat}{ts:aqx (Nat×AV)}{cs:aqx (aqx AV)}(cm:N0=0)(ht:bC ts t= .vec 0 0 0 L k)(hL:cs.length=L)(h:bu P r N0 c Q ⟨n,[(t, .own 0 [])],[.front e k 0]⟩):bu P r N0 c Q ⟨n,ts,[.vec e k cs]⟩:=by
 subst cm;constructor
 intro G w a m hs hN;have hi:=hs.inv;have vJ:([an.vec e k cs]:aqx an)[0]?=some (.vec e k cs):=rfl;have hGN:G.N=1:=hi.len.symm;have hv:=hs.tmp t;rw[ht]at hv;obtain⟨Bh,⟨A,cc,q1,q2,q3,q4,q5⟩,aco⟩:=hv.oY hi vJ hL;obtain⟨b1,b2,b3,b4⟩:=hi.cD 0 _ vJ;have hp0:∀(A:aqz Addr),cc<=maxLen->dn G.S w (.slice A 0 cc) (.sl []):=λA hc=> .sl A 0 0 cc 0 [] (λ_ _=>undef) (λh=>absurd rfl h) (Nat.zero_le _) hc (λ_ h=>absurd h aqp) (λi j hi=>absurd hi (aqb _)) (λi j x d hx=>by simp at hx);obtain⟨G',gi⟩:∃G',G'={G with sg:=λi=>if i=0 then a.tmps.getD t undef else G.sg i,fl:=λi=>if i=0 then 0 else G.fl i}:=⟨_,rfl⟩;have hE:bI 0 G w G' w:=by
  subst gi;exact⟨apU _,λ_ _ h=>h,λ_ _ _=>rfl,λ_ h=>absurd h (aqb _),λ_ h=>absurd h (aqb _),gp rfl,λ_ _=>rfl,rfl,rfl,rfl,λ_ _ h=> .inl h⟩
 have hinv:bD G' w [.front e k 0]:=by
  refine⟨by rw[gi];exact hi.len,by rw[gi];exact hi.z,by rw[gi];exact hi.S,λj B hB=> ?_,λi j x h1 h2=> ?_,by rw[gi];exact hi.gl⟩
  ·match j with
   |0=>
    cases hB
    refine⟨by rw[gi];simp,Nat.zero_le _,?_⟩;rcases b4 with⟨d1,d2,A',d3⟩|⟨g,cap,cur,d1,d2,d3,d4,d5,d6,d7,d8,d9⟩
    ·left
     refine⟨by rw[gi];exact d1,?_⟩;have yo:L=0:=by rw[<-hL,d2];rfl
     have:=aco rfl yo.symm;rw[gi];exact⟨A',by simp only[if_true];rw[this];exact d3⟩
    ·by_cases yo:L=0
     ·have:=aco rfl yo.symm
      right
      refine⟨g,cap,cur,by rw[gi];exact d1,?_,by rw[gi];exact d3,d4,Nat.zero_le _,d6,d7,λo _=>by rw[gi];exact d8 o⟩;rw[gi];simp only[if_true];rw[this,d2,hL,yo]
     ·obtain⟨g',zt,s1,rfl,s3⟩:=q5 (Nat.pos_of_ne_zero yo);rw[d2]at s1;cases s1
      right
      have:cc=cap:=by omega
      subst this;refine⟨g,cc,cur,by rw[gi];exact d1,?_,by rw[gi];exact d3,d4,Nat.zero_le _,d6,d7,λo _=>by rw[gi];exact d8 o⟩;rw[gi];simp only[if_true];rw[q1,Nat.zero_mul]
   |j+1=>simp at hB
  ·have hj:∀i x,bM [an.front e k 0] G' i=some x->i=0:=λi x h=>by
    obtain⟨B,hB,_⟩:=od h
    match i with
    |0=>rfl
    |i+1=>simp at hB
   rw[hj i x h1,hj j x h2]
 refine wpIn_mono (h.run G' w a m ⟨hs.size,λi=> ?_,hinv,?_⟩ (Nat.zero_le _)) λ_ _ _ hn=>hn.trans hE
 ·show aD G' w _ (bC [(t, .own 0 [])] i);rw[nq];split
  ·next e=>
   subst e;refine .own 0 [] (by rw[gi];show 0<G.N;omega) ?_ (Nat.zero_le _) (λ_=>by rw[gi];simp);rw[q1,gi];exact hp0 A q3
  ·exact .dead _
 ·have:=hs.df;rw[gi];exact this
end
end Go.Proofs.YtmkmibahjanejaaGreatDoor
namespace Go.Proofs.YtmkmibahjanejaaGreatDoor.MK
open Go.RowKit
set_option linter.unusedVariables false
def an(w:aqC)(g:Nat)(t:TypeId)(cs:aqx aqB):Prop:=w.heap[g]?=some (.cells cs.toArray t (0,0))
section
variable {w w':aqC} {g:Nat} {t:TypeId} {cs:aqx aqB}
end
section
variable {P:aqA} (w:aqC)
end
section
variable {P:aqA} {w:aqC}
end
section
variable {S E base:Nat} {w w' w'':aqC}
end
end Go.Proofs.YtmkmibahjanejaaGreatDoor.MK
namespace Go.Proofs.YtmkmibahjanejaaGreatDoor
open Go.RowKit
set_option linter.unusedSimpArgs false
set_option linter.unusedVariables false
section
variable {P:aqA}
end
end Go.Proofs.YtmkmibahjanejaaGreatDoor
