/-
  Part 3 of the proof: AbsRun, AbsFrz, AbsInst, AbsExec, AbsExecV, AbsRange, AbsAny, AbsExec2, AbsExec3, AbsYield, AbsTree, AbsVecX, MemK, AbsVecD.
-/
import Derived.Test.YtpeecnpmcbnahaaGreatDoorPr2
import Derived.WalkKit
import Derived.Laws.CopyOwn
import Derived.Deep.AppendLies
import Derived.Lib.AppendZerosOnto
import Derived.Lib.Overlaps
import Derived.Lib.Hide
namespace Go.Proofs.YtpeecnpmcbnahaaGreatDoor
open Go.RowKit
def ao.vd:ao->Prop
 | .vec _ _ cs=>(∀f,cs.map (AV.fR f)=cs)/\∀m,cs.all (·.all (AV.aC m))=true
 |_=>True
theorem ag2(f:Nat->Nat)(c:an3 D):AV.fR f (c.map AV.d)=c.map AV.d:=by
 induction c with
 |nil=>simp [AV.fR]
 |cons x c ih=>simp only[anE,AV.fR,AV.aG,ih]
theorem abn(xs:an3 (an3 D)):(∀f,(bU xs).map (AV.fR f)=bU xs)/\∀m,(bU xs).all (·.all (AV.aC m))=true:=by
 refine⟨λf=> ?_,λm=>by simp [bU,AV.aC]⟩;unfold bU;rw[List.map_map];exact anK λc _=>ag2 f c
def VD:an3 ao->Prop
 |[]=>True
 |B::l=>B.vd/\VD l
theorem cU:VD []:=trivial
theorem x6{e k:Nat}{xs:an3 (an3 D)}{l:an3 ao}(h:VD l):VD (.vec e k (bU xs)::l):=⟨abn xs,h⟩
theorem VD.mem:∀{l:an3 ao},VD l->∀B∈l,B.vd
 |[],_,B,hB=>by cases hB
 |_::_,h,B,hB=>by
  rcases anJ.1 hB with rfl|hB
  ·exact h.1
  ·exact VD.mem h.2 B hB
def ao.rb(f:Nat->Nat):ao->ao
 | .vec e k cs=> .vec e k cs
 |B=>B.aG f
theorem Vz{f:Nat->Nat}{B:ao}(h:B.vd):B.rb f=B.aG f:=by
 cases B with
 |vec e k cs=>simp only[ao.rb,ao.aG];rw[h.1 f]
 |_=>rfl
theorem amH{f:Nat->Nat}{l:an3 ao}(h:VD l):l.map (ao.rb f)=l.map (ao.aG f):=anK λB hB=>Vz (h.mem B hB)
def ao.uw(m:Nat):ao->Bool
 | .vec .. =>true
 |B=>B.aC m
theorem akC{m:Nat}{B:ao}(h:B.vd)(hl:B.uw m=true):B.aC m=true:=by
 cases B with
 |vec e k cs=>exact h.2 m
 |_=>exact hl
theorem agL{m:Nat}{l:an3 ao}(h:VD l)(hl:l.all (ao.uw m)=true):l.all (ao.aC m)=true:=by
 rw[anF]at hl ⊢;exact λB hB=>akC (h.mem B hB) (hl B hB)
theorem ajk{f:Nat->Nat}{l:an3 ao}(h:VD l):(l.map λB=>some (B.rb f))=l.map λB=>some (B.aG f):=anK λB hB=>congrArg some (Vz (h.mem B hB))
inductive In
 |none
 |bit (x:AV)
 |eq (x:AV)
 |el (xs:List (List D)) (i:Int)
 |lt (z:Int) (n:Nat)
 |len (xs:List (List D))
 |sub (xs:List (List D)) (lo:Int) (hi:Option Int) (k:Nat)
 |app (xs ys:List (List D)) (len k cN:Nat)
 |nz (b:Int)
 |nn (b:Int)
 |str (b:ByteArray) (lo hi:Int)
 |cat (n:Nat)
 |pr (p:Prop)
 |sd (p:Sd)
 |ig (xs:List (List D))
 |GB (c:List D) (z:Int) (n:Nat)
 |ch (b:ByteArray) (i:Int)
 |call (f:FuncId) (args:List AV)
 |jP (f:FuncId) (args:List AV) (h:List ao)
 |Fj (c:fj) (args:List AV)
 |np (f:FuncId) (args:List AV) (h:List ao)
def Q3(P:an6)(c:fj)(args:an3 AV)(r:AV):Prop:=∃g as,c.app args=some (g,as)/\fP P g as (·=r)
inductive bQ
 |none
 |bit (b:Bool)
 |BN
 |eq (y:AV)
 |el (c:List D)
 |ok
 |nat (n:Nat)
 |list (ys:List (List D))
 |Sn (ys:List (List D)) (n:Nat)
 |byte (c:UInt8)
 |bytes (s:ByteArray)
 |one (d:D)
 |va (a:VA)
 |ret (r:AV)
 |Q7 (r:AV) (h:List ao)
 |PI (l:List Nat) (eJ:List AV) (H:List ao) (r:AV) (H':List ao)
 |rq (l:List Nat) (eJ:List AV) (H:List ao) (r:AV)
 |Eh (l:List Nat) (eJ:List AV) (H:List ao) (r:AV) (H':List ao)
inductive OK(P:Program):In->bQ->Prop
 |none {o:bQ}:OK P .none o
 |bit {e b:Bool} (h:e=b):OK P (.bit (.d (.v (.bool e)))) (.bit b)
 |BN:OK P (.bit (.d (.v undef))) .BN
 |eq {x y:AV} (h:x=y):OK P (.eq x) (.eq y)
 |el {xs:List (List D)} {i:Int} {c:List D} (h0:0<=i) (h:xs[i.toNat]?=some c):OK P (.el xs i) (.el c)
 |lt {z:Int} {n:Nat} (h0:0<=z) (h:z<n):OK P (.lt z n) .ok
 |len {xs:List (List D)} {n:Nat} (h:xs.length=n):OK P (.len xs) (.nat n)
 |sub {xs ys:List (List D)} {lo hi:Int} {k:Nat} (h0:0<=lo) (J:lo.toNat<=hi.toNat) (h2:0<=hi) (h3:hi.toNat<=xs.length) (hk:∀c∈xs,c.length=k) (h:(xs.take hi.toNat).drop lo.toNat=ys):OK P (.sub xs lo (some hi) k) (.list ys)
 |YN {xs ys:List (List D)} {lo:Int} {k:Nat} (h0:0<=lo) (J:lo.toNat<=xs.length) (hk:∀c∈xs,c.length=k) (h:xs.drop lo.toNat=ys):OK P (.sub xs lo .none k) (.list ys)
 |app {xs ys zs:List (List D)} {len k cN n:Nat} (hl:len=xs.length) (hx:∀c∈xs,c.length=k) (hy:∀c∈ys,c.length=k) (hm:xs.length+ys.length<=maxLen) (hb:(xs.length+ys.length)*cN<=140737488355328) (hz:xs++ys=zs) (hn:xs.length+ys.length=n):OK P (.app xs ys len k cN) (.Sn zs n)
 |nz {b:Int} (h:b≠0):OK P (.nz b) .ok
 |nn {b:Int} (h:0<=b):OK P (.nn b) .ok
 |str {b:ByteArray} {lo hi:Int} (h0:0<=lo) (J:lo.toNat<=hi.toNat) (h2:0<=hi) (h3:hi.toNat<=b.size):OK P (.str b lo hi) .ok
 |ch {b:ByteArray} {i:Int} {c:UInt8} (h0:0<=i) (h:b[i.toNat]?=some c):OK P (.ch b i) (.byte c)
 |cat {n:Nat} (h:n<=maxLen):OK P (.cat n) .ok
 |pr {p:Prop} (a:VA) (h:p):OK P (.pr p) (.va a)
 |sd {p:Sd} {o:bQ} (h:p.ok):OK P (.sd p) o
 |ig {xs:List (List D)} {s:ByteArray} (h:∃ns:List Int,xs=ns.map (λn=>[.v (.int .u8 n)])/\s=⟨(ns.map λn=>UInt8.ofNat n.toNat).toArray⟩):OK P (.ig xs) (.bytes s)
 |GB {c:List D} {z:Int} {n:Nat} {d:D} (h0:0<=z) (J:z<n) (h:c[z.toNat]?=some d):OK P (.GB c z n) (.one d)
 |call {f:FuncId} {args:List AV} {r:AV} (h:fP P f args (·=r)):OK P (.call f args) (.ret r)
 |Fj {c:fj} {args:List AV} {r:AV} (h:Q3 P c args r):OK P (.Fj c args) (.ret r)
 |np {f:FuncId} {mm eJ:List AV} {h H H':List ao} {l:List Nat} {r:AV} (ha:mm=eJ.map (AV.aG (rn l h.length))) (hd:pg l=true) (hb:l.map (λj=>h[j]?)=H.map λB=>some (B.aG (rn l h.length))) (hl:(eJ.all (AV.aC H.length)&&H.all (ao.aC H.length))=true)
  (hc:cF P f eJ H λr1 J=>r1=r/\J=H'):OK P (.np f mm h) (.PI l eJ H r H')
 |Ma {f:FuncId} {mm eJ:List AV} {h H H':List ao} {l:List Nat} {r:AV} (oz:VD H) (hv:VD H') (ha:mm=eJ.map (AV.aG (rn l h.length))) (hd:pg l=true) (hb:l.map (λj=>h[j]?)=H.map λB=>some (B.rb (rn l h.length))) (hl:(eJ.all (AV.aC H.length)&&H.all (ao.uw H.length))=true)
  (hc:cF P f eJ H λr1 J=>r1=r/\J=H'):OK P (.np f mm h) (.Eh l eJ H r H')
 |rq {f:FuncId} {mm eJ:List AV} {h H:List ao} {l:List Nat} {r:AV} (ha:mm=eJ.map (AV.aG (rn l 0))) (hd:pg l=true) (hb:l.map (λj=>h[j]?)=H.map λB=>some (B.aG (rn l 0))) (hl:(eJ.all (AV.aC H.length)&&H.all (ao.aC H.length)&&r.aC H.length)=true)
    (hc:cF P f eJ H λr1 J=>r1=r/\J=H):OK P (.np f mm h) (.rq l eJ H r)
 |jP {f:FuncId} {args:List AV} {h h':List ao} {r:AV} (hc:cF P f args h λr1 J=>r1=r/\J=h'):OK P (.jP f args h) (.Q7 r h')
def Bo(P:an6)(t:TypeId)(cs:an3 AV)(off:Nat):an5 AV:=
 match mr P t,fW P t with
 |some true,some k=>bif cf (off+k) cs.length then some (.agg ((cs.drop off).take k))else none
 |some false,some _=>cs[off]?
 |_,_=>none
def xv(h:an3 ao)(p:AV):an5 (an3 AV×Nat):=
 match p with
 | .ptr n off=>match h[n]? with
   |some (.cells cs)=>some (cs,off)
   |_=>none
 | .bg xs i off=>match xs[i]? with
   |some c=>some (c.map .d,off)
   |none=>none
 |_=>none
def PZ(x:AV)(i:an5 Int)(k:Nat)(a:bQ):an5 (AV×In):=
 match x.fE,i,a with
 |some xs,some z, .el c=>bif c.length==k then some (.bg [c] 0 0, .el xs z)else none
 |_,_,_=>none
def Mz(P:an6)(T:TypeId)(x i:AV)(a:bQ):an5 (AV×In):=
 match eP P T with
 |some (_,k)=>
  match x with
  | .row n off len _ k'=>match i.int? with
    |some z=>bif k'==k then some (.ptr n (off+z.toNat*k), .lt z len)else none
    |none=>none
  |x=>PZ x i.int? k a
 |none=>match td P T,x,i.int? with
  |some (n,_,k), .ptr b off,some z=>some (.ptr b (off+z.toNat*k), .lt z n)
  |some (n,_,k), .bg [c] 0 0,some z=>match a with
   | .one d=>bif k==1 then some (.bg [[d]] 0 0, .GB c z n)else none
   |_=>none
  |_,_,_=>none
def N9(P:an6)(T:TypeId)(x:AV)(a:bQ):an5 (AV×In):=
 match x with
 | .d (.v (.string s))=>bif h1 P T then some (.d (.v (.int .i64 s.size)), .none)else none
 | .row _ _ len _ _=>bif (eP P T).isSome then some (.d (.v (.int .i64 len)), .none)else none
 |x=>match x.fE,a with
  |some xs, .nat n=>bif (eP P T).isSome then some (.d (.v (.int .i64 n)), .len xs)else none
  |_,_=>none
def oN(l:an5 Int)(d:Nat):Nat:=match l with|some z=>z.toNat|none=>d
def DO(ρ:Operand->AV):an5 Operand->an5 (an5 Int)
 |none=>some none
 |some y=>match (ρ y).int? with
  |some z=>some (some z)
  |none=>none
def MR(P:an6)(T:TypeId)(ρ:Operand->AV)(x:AV)(lo hi mx:an5 Operand)(a:bQ):an5 (AV×In):=
 match mx with
 |none=>match DO ρ lo,DO ρ hi with
  |some l,some h=>match x with
   | .d (.v (.string b))=>bif h1 P T then some (.d (.v (.string (b.extract (oN l 0) (oN h b.size)))), .str b (l.getD 0) (h.getD b.size))else none
   | .ptr n off=>match td P T,l,h with
     |some (m,_,k),none,none=>bif cf m 4096&& !cf m 0 then some (.row n off m m k, .none)else none
     |_,_,_=>none
   |x=>match x.fE,eP P T,a with
    |some xs,some (_,k), .list ys=>some (.d (.sl ys), .sub xs (l.getD 0) h k)
    |_,_,_=>none
  |_,_=>none
 |some m=>match lo,hi,ρ m with
  |none,some y, .d (.v (.int _ 0))=>match x.fE,eP P T,ρ y,a with
   |some xs,some (_,k), .d (.v (.int _ 0)), .list _=>some (.full [], .sub xs 0 (some 0) k)
   |_,_,_,_=>none
  |_,_,_=>none
def Lk(h:an3 ao)(k:Nat)(x:AV):an5 (an3 (an3 D)):=
 match x with
 | .row n off len _ k'=>match h[n]? with
   |some (.cells cs)=>match mV ((cs.drop off).take (len*k))with
    |some ds=>bif k'==k&&cf (off+len*k) cs.length&&((cs.drop off).take (len*k)).all AV.ky then some (nR k len ds)else none
    |none=>none
   |_=>none
 |x=>x.fE
def N4(P:an6)(T:TypeId)(h:an3 ao)(x y:AV)(a:bQ):an5 (AV×an3 ao×In):=
 match eP P T,a with
 |some (e,k), .Sn zs n'=>match iJ P e,qw P e with
  |some z,some cN=>bif cf 1 k&&z.cells.toList.length==k then
   match Lk h k y with
   |some ys=>match x with
    | .own n xs=>match h[n]? with
      |some (.front e' k' len)=>bif e'==e&&k'==k then some (.own n zs,h.set n (.front e k n'), .app xs ys len k cN)else none
      |_=>none
    | .d (.v (.slice none 0 0))=>some (.own h.length zs,h++[.front e k n'], .app [] ys 0 k cN)
    | .full xs=>some (.own h.length zs,h++[.front e k n'], .app xs ys xs.length k cN)
    |_=>none
   |none=>none
   else none
  |_,_=>none
 |_,_=>none
def Qg(P:an6)(T:TypeId)(ps:an3 (Nat×AV)):an5 AV:=
 match OQ P T,iJ P T with
 |some places,some z=>match pK places (z.cells.toList.map λu=> .d (.v u)) ps with
  |some cs=>bif (ps.all λp=>p.2.jD)&&z.cells.toList.all Value.oneCell' then some (.agg cs)else none
  |none=>none
 |_,_=>none
def PS(P:an6)(T:TypeId)(len:Nat)(ps:an3 (Nat×AV)):an5 AV:=
 match eP P T with
 |some (e,k)=>match iJ P e with
  |some z=>match pK (ux k 0 len) (sB len (z.cells.toList.map λu=> .d (.v u))) ps with
   |some cs=>match mV cs with
    |some ds=>bif cf 1 k&&cf (len*k) 16777216&&z.cells.toList.length==k&&z.cells.toList.all Value.oneCell'&&(ps.all λp=>p.2.jD)then some (.full (nR k len ds))else none
    |none=>none
   |none=>none
  |none=>none
 |none=>none
def FN(P:an6)(T:TypeId)(op:BinOp)(x y:AV):an5 (AV×In):=
 match x,y with
 | .d (.v (.int k a)), .d (.v (.int k' b))=>
   match Me op k a b with
   |some v=>bif wC k k' then some (.d (.v v), .nz b)else none
   |none=>match P9 op k a b with
    |some v=>some (.d (.v v), .nn b)
    |none=>match Rn op k a b with
     |some v=>bif wC k k' then some (.d (.v v), .none)else none
     |none=>none
 | .d (.v (.string a)), .d (.v (.string b))=>match Qx op a b with
   |some v=>some (.d (.v v), .none)
   |none=>match op with
    | .add=>some (.d (.v (.string (a++b))), .cat (a.size+b.size))
    |_=>none
 | .d (.v (.bool a)), .d (.v (.bool b))=>match LG op a b with
   |some v=>bif Aq P T then some (.d (.v v), .none)else none
   |none=>none
 | .agg xs, .agg ys=>match Jw P T xs ys with
   |some b=>match xJ op b with
    |some v=>some (.d (.v v), .none)
    |none=>none
   |none=>none
 |_,_=>none
def Gf(P:an6)(src dst:TypeId)(x:AV)(a:bQ):an5 (AV×In):=
 match x with
 | .d (.v (.int _ n))=>match qZ P src,qZ P dst with
   |some _,some k=>some (.d (.v (.int k (k.wrap n))), .none)
   |_,_=>none
 | .d (.v (.string b))=>bif h1 P src&&h1 P dst then some (.d (.v (.string b)), .none)else none
 |x=>match x.fE,eP P src,a with
  |some xs,some (e,_), .bytes s=>bif Fl P e&&h1 P dst then some (.d (.v (.string s)), .ig xs)else none
  |_,_,_=>none
def Kv(P:an6)(T:TypeId)(x:AV)(f:Nat):an5 AV:=
 match sy P T f,x with
 |some (off,k,true), .agg cs=>bif cf (off+k) cs.length then some (.agg ((cs.drop off).take k))else none
 |some (off,_,false), .agg cs=>cs[off]?
 |_,_=>none
def Jy(h:an3 ao):an5 AV->an5 (AV×an3 ao×In)
 |some x=>some (x,h, .none)
 |none=>none
def Aj(h:an3 ao):an5 (AV×In)->an5 (AV×an3 ao×In)
 |some (x,i)=>some (x,h,i)
 |none=>none
mutual
def AV.nrm:AV->AV
 | .full xs=> .d (.sl xs)
 | .d (.v (.slice none 0 0))=> .d (.sl [])
 | .agg cs=> .agg (AV.xW cs)
 | .aZ cs=> .aZ (AV.xW cs)
 |x=>x
def AV.xW:an3 AV->an3 AV
 |[]=>[]
 |x::l=>x.nrm::AV.xW l
end
def AV.DY:AV->AV
 | .fn f cs=>match AV.w9 cs with
   |some l=> .hid (.fn f l)
   |none=> .fn f cs
 |x=>x
def AV.arg(x:AV):AV:=((x.bo 0).nrm).DY
def AV.vI(x:AV):AV:=(x.bo 0).nrm
def sdI:Sd->In
 | .no=> .none
 |p=> .sd p
def xR:an5 (AV×an3 ao×Sd)->an5 (AV×an3 ao×In)
 |some (x,h,p)=>some (x,h,sdI p)
 |none=>none
def uL(P:an6)(op:Op)(ρ:Operand->AV)(h:an3 ao)(a:bQ):an5 (AV×an3 ao×In):=
 match op with
 | .move x| .assign x=>some (ρ x,h, .none)
 | .pick c x y=>match a with
   | .bit b=>some (bif b then ρ x else ρ y,h, .bit (ρ c))
   |_=>none
 | .alloc e=>match iJ P e with
   |some z=>some (.ptr h.length 0,h++[ao.cells (z.cells.toList.map λu=> .d (.v u))], .none)
   |none=>none
 | .box _ x=>bif (ρ x).jD then some (.ptr h.length 0,h++[ao.cells (ρ x).cells], .none)else none
 | .load t p=>match xv h (ρ p)with
   |some (cs,off)=>match Bo P t cs off with
    |some x=>some (x,h, .none)
    |none=>none
   |none=>none
 | .store t p x=>match ρ p with
   | .ptr n off=>match h[n]? with
     |some (.cells cs)=>match fW P t with
      |some k=>bif k==(ρ x).cells.length&&(ρ x).jD&&cf (off+(ρ x).cells.length) cs.length then some (.d (.v undef),h.set n (.cells (iP cs off (ρ x).cells)), .none)else none
      |none=>none
     |_=>none
   |_=>none
 | .nilCheck x=>match ρ x with
   | .ptr n off=>some (.ptr n off,h, .none)
   | .bg xs i off=>some (.bg xs i off,h, .none)
   | .fn f cs=>some (.fn f cs,h, .none)
   |_=>none
 | .fieldAddr S x f=>match sy P S f with
   |some (fo,_,_)=>match ρ x with
    | .ptr n off=>some (.ptr n (off+fo),h, .none)
    | .bg xs i off=>some (.bg xs i (off+fo),h, .none)
    |_=>none
   |none=>none
 | .field T x f=>Jy h (Kv P T (ρ x) f)
 | .indexAddr T x i=>Aj h (Mz P T (ρ x) (ρ i) a)
 | .index T x i=>match ρ x,(ρ i).int?,a with
   | .d (.v (.string b)),some z, .byte c=>bif h1 P T then some (.d (.v (.int .u8 c.toNat)),h, .ch b z)else none
   |_,_,_=>none
 | .build T ps=>Jy h (Qg P T (ps.toList.map λp=>(p.1,ρ p.2)))
 | .buildSlice T len ps=>Jy h (PS P T len (ps.toList.map λp=>(p.1,ρ p.2)))
 | .slice T x lo hi mx=>Aj h (MR P T ρ (ρ x) lo hi mx a)
 | .extract x i=>match ρ x with
   | .aZ cs=>match cs[i]? with
     |some c=>some (c,h, .none)
     |none=>none
   |_=>none
 | .makeFunc (.func f) first cT=>match No f (first.toList.map ρ) (cT.toList.map ρ)with
   |some x=>some (x,h, .none)
   |none=>none
 | .binOp op T x y _=>Aj h (FN P T op (ρ x) (ρ y))
 | .unOp op _ x=>match ρ x with
   | .d (.v u)=>match Iv op u with
     |some v=>some (.d (.v v),h, .none)
     |none=>none
   |_=>none
 | .convert s t x=>Aj h (Gf P s t (ρ x) a)
 | .call c=>match c.callee with
   | .builtin .len=>match c.args.toList,c.argTypes.toList with
     |[x],[T]=>Aj h (N9 P T (ρ x) a)
     |_,_=>none
   | .builtin .append=>match c.args.toList,c.argTypes.toList with
     |[x,y],[T,U]=>bif (eP P U).isSome then N4 P T h (ρ x) (ρ y) a else none
     |_,_=>none
   | .builtin .max=>match BD true (c.args.toList.map ρ)with
     |some (k,a)=>some (.d (.v (.int k a)),h, .none)
     |none=>none
   | .builtin .min=>match BD false (c.args.toList.map ρ)with
     |some (k,a)=>some (.d (.v (.int k a)),h, .none)
     |none=>none
   | .value f=>match ρ f,a with
     | .fn g cT, .ret r=>bif ((c.args.toList.map ρ++cT).map AV.arg).all (AV.aC 0)&&r.aC 0 then some (r,h, .call g ((c.args.toList.map ρ++cT).map AV.arg))else none
     | .fn g cT, .Q7 r h'=>some (r,h', .jP g (c.args.toList.map ρ++cT) h)
     | .fn g cT, .PI l _ _ r H'=>some (r.aG (rn l h.length),gQ l (H'.map (ao.aG (rn l h.length))) h, .np g ((c.args.toList.map ρ++cT).map AV.vI) h)
     | .fn g cT, .Eh l _ _ r H'=>some (r.aG (rn l h.length),gQ l (H'.map (ao.rb (rn l h.length))) h, .np g ((c.args.toList.map ρ++cT).map AV.vI) h)
     | .fn g cT, .rq l _ _ r=>some (r.aG (rn l 0),h, .np g ((c.args.toList.map ρ++cT).map AV.vI) h)
     | .hid q, .ret r=>bif ((c.args.toList.map ρ).map AV.arg).all (AV.aC 0)&&r.aC 0 then some (r,h, .Fj q ((c.args.toList.map ρ).map AV.arg))else none
     |_,_=>none
   |_=>none
 |op=>xR (pD P op ρ h)
theorem Ho:∀l,AV.xW l=l.map AV.nrm
 |[]=>by simp [AV.xW]
 |x::l=>by simp [AV.xW,Ho l]
theorem aD.nrm{G:Gh}{w:an8}{u:an7}{x:AV}(h:aD G w u x):aD G w u x.nrm:=by
 have fD:∀(vs:Array an7)(cs:an3 AV),(∀(i:Nat)(u:an7)(c:AV),vs[i]?=some u->cs[i]?=some c->aD G w u c.nrm)->∀(i:Nat)(u:an7)(c:AV),vs[i]?=some u->(AV.xW cs)[i]?=some c->aD G w u c:=by
  intro vs cs ih i u c hu hc;rw[Ho,anl]at hc;cases hx:cs[i]? with
  |none=>rw[hx]at hc;cases hc
  |some x=>rw[hx]at hc;cases hc;exact ih i u x hu hx
 induction h with
 |agg vs cs hl _ ih=>rw[AV.nrm];exact .agg vs _ (by rw[Ho,anj];exact hl) (fD vs cs ih)
 |aZ vs cs hl _ ih=>rw[AV.nrm];exact .aZ vs _ (by rw[Ho,anj];exact hl) (fD vs cs ih)
 |full xs hp hf=>rw[AV.nrm];exact .d hp
 | @d u x h=>
   by_cases hx:x= .v (.slice none 0 0)
   ·subst hx;cases h with|v=>simp only[AV.nrm];exact .d D7
   ·have:(AV.d x).nrm= .d x:=by
     unfold AV.nrm;split<;>simp_all
    rw[this];exact .d h
 |own n xs h hp hle hf=>simp only[AV.nrm];exact .own n xs h hp hle hf
 |ptr n off h=>simp only[AV.nrm];exact .ptr n off h
 |bg xs i off b o u x hx hS hu=>simp only[AV.nrm];exact .bg xs i off b o u x hx hS hu
 |row n off len cap k h hl hm=>simp only[AV.nrm];exact .row n off len cap k h hl hm
 |fn f vs cs hl h=>simp only[AV.nrm];exact .fn f vs cs hl h
 |mp n h=>simp only[AV.nrm];exact .mp n h
 |cg n h=>simp only[AV.nrm];exact .cg n h
 |vec n o len L k h hs hL hf=>simp only[AV.nrm];exact .vec n o len L k h hs hL hf
 |dp n i j L k h hs hL hf=>simp only[AV.nrm];exact .dp n i j L k h hs hL hf
 |hid h J=>simp only[AV.nrm];exact .hid h J
 |dead u=>simp only[AV.nrm];exact .dead u
theorem AV.Le.DY(x:AV):AV.Le x x.DY:=λG w u h=>by
 unfold AV.DY;split
 ·next f cs=>
  split
  ·next l e=>
   have:=h.cap (.fn f l) (by simp only[AV.cap,e]);cases h with|fn=>exact .hid this rfl
  ·exact h
 ·exact h
theorem AV.Le.arg(x:AV):AV.Le x x.arg:=λ_ _ _ h=>AV.Le.DY _ _ _ _ (h.bo 0).nrm
theorem cF.args{P:an6}{f:FuncId}{as:an3 AV}{h:an3 ao}{K:AV->an3 ao->Prop}(hc:cF P f as h K)(bs:an3 AV)(hl:as.length=bs.length)(hle:∀(i:Nat)(c d:AV),bs[i]?=some c->as[i]?=some d->AV.Le c d):cF P f bs h K:=
 ⟨hc.1,λG w vs hi hs hr=>hc.2 G w vs hi (hs.trans hl.symm) λi u d hu hd=>by
  have aI:i<bs.length:=by rw[<-hl];exact(ane.1 hd).1
  exact hle i _ d (ani aI) hd G w u (hr i u _ hu (ani aI))⟩
theorem cF.UQ{P:an6}{f:FuncId}{as:an3 AV}{h:an3 ao}{K:AV->an3 ao->Prop}(hc:cF P f (as.map AV.arg) h K):cF P f as h K:=
 hc.args as (by rw[anj]) λi c d hc hd=>by
  rw[anl,hc]at hd;cases hd;exact AV.Le.arg c
theorem AV.Le.vI(x:AV):AV.Le x x.vI:=λ_ _ _ h=>(h.bo 0).nrm
theorem cF.Jl{P:an6}{f:FuncId}{as:an3 AV}{h:an3 ao}{K:AV->an3 ao->Prop}(hc:cF P f (as.map AV.vI) h K):cF P f as h K:=
 hc.args as (by rw[anj]) λi c d hc hd=>by
  rw[anl,hc]at hd;cases hd;exact AV.Le.vI c
theorem XS(l:an3 fj):(l.map fj.av).all (AV.aC 0)=true:=by
 rw[anF];intro x hx;obtain⟨c,_,rfl⟩:=List.mem_map.1 hx;cases c<;>rfl
theorem Q3.use{P:an6}{q:fj}{args:an3 AV}{r:AV}{h:an3 ao}{C:AV->an3 ao->Prop}(hc:Q3 P q (args.map AV.arg) r)(ha:(args.map AV.arg).all (AV.aC 0)=true)(hr:r.aC 0=true)(hC:C r h):∃g as,q.app args=some (g,as)/\cF P g as h C:=by
 obtain⟨g,as,e,hc⟩:=hc;cases q with
 |d x=>simp [fj.app]at e
 |bg c off=>simp [fj.app]at e
 |fn g' cs=>
  simp only[fj.app,Option.some.injEq,Prod.mk.injEq]at e;obtain⟨rfl,rfl⟩:=e;refine⟨g',_,rfl,cF.args (hc.use (h:=h) (C:=C) (by rw[List.all_append,ha,XS];rfl) hr hC) _ (by simp) λi c d J h2=> ?_⟩;by_cases hi:i<args.length
  ·rw[ano hi]at J;rw[ano (by simpa using hi),anl,J]at h2;cases h2;exact AV.Le.arg c
  ·rw[anu (by omega)]at J;rw[anu (by simpa using hi),anj,J]at h2;cases h2;exact AV.Le.refl c
 |ni g' cs=>
  simp only[fj.app,Option.some.injEq,Prod.mk.injEq]at e;obtain⟨rfl,rfl⟩:=e;refine⟨g',_,rfl,cF.args (hc.use (h:=h) (C:=C) (by rw[List.all_append,ha,XS];rfl) hr hC) _ (by simp) λi c d J h2=> ?_⟩;by_cases hi:i<(cs.map fj.av).length
  ·rw[ano hi]at J h2;rw[J]at h2;cases h2;exact AV.Le.refl c
  ·rw[anu (by omega)]at J h2;rw[anl,J]at h2;cases h2;exact AV.Le.arg c
theorem dT{α:Type}{b:Bool}{x y:α}(h:(bif b then some x else none)=some y):b=true/\x=y:=by
 cases b with
 |true=>exact⟨rfl,anx h⟩
 |false=>cases h
theorem kV{α:Type}{b:Bool}{x:an5 α}{y:α}(h:(bif b then x else none)=some y):b=true/\x=some y:=by
 cases b with
 |true=>exact⟨rfl,h⟩
 |false=>cases h
section
variable {P:an6} {ρ:Operand->AV} {h h':an3 ao} {a:bQ} {i:In} {x:AV} {C:AV->an3 ao->Prop}
theorem OK.J1{x:AV}{b:Bool}(h:OK P (.bit x) (.bit b)):x= .d (.v (.bool b)):=by
 cases h with|bit h=>subst h;rfl
theorem OR{t:TypeId}{p:AV}{cs:an3 AV}{off:Nat}{K:AV->Prop}(J:xv h p=some (cs,off))(h2:Bo P t cs off=some x)(hK:K x):n8 P t h p K:=by
 have key:(match mr P t,fW P t with
     |some true,some k=>fy (cf (off+k) cs.length) (K (.agg ((cs.drop off).take k)))
     |some false,some _=>match cs[off]? with
      |some c=>K c
      |none=>False
     |_,_=>False):=by
  unfold Bo at h2;split at h2
  ·next k e1 e2=>
   obtain⟨h3,rfl⟩:=dT h2;exact bK.2 ⟨h3,hK⟩
  ·next k e1 e2=>rw[h2];exact hK
  ·cases h2
 unfold n8 sq;unfold xv at J;split at J
 ·split at J
  ·next cw e=>cases J;simp only[e];exact key
  ·cases J
 ·split at J
  ·next c e=>cases J;simp only[e];exact key
  ·cases J
 ·cases J
theorem aeG{y:AV}{z:an5 Int}{k:Nat}(J:PZ y z k a=some (x,i))(bN:OK P i a):∃xs w c,y.fE=some xs/\z=some w/\0<=w/\xs[w.toNat]?=some c/\c.length=k/\x= .bg [c] 0 0:=by
 unfold PZ at J;split at J
 ·next xs w c hx=>
  obtain⟨hk,he⟩:=dT J;cases he
  cases bN with
  |el h0 hc=>exact⟨_,_,_,hx,rfl,h0,hc,by simpa using hk,rfl⟩
 ·cases J
theorem ah1{T:TypeId}{y z:AV}{K:AV->Prop}(J:Mz P T y z a=some (x,i))(bN:OK P i a)(hK:K x):sb P T y z K:=by
 unfold Mz at J;unfold sb;cases hT:eP P T with
 |some p=>
  obtain⟨e,k⟩:=p;simp only[hT]at J ⊢;cases y with
  |row n off len cap k'=>
   simp only at J ⊢;split at J
   ·next w hw=>
    obtain⟨hk,he⟩:=dT J;cases he
    cases bN with|lt h0 hl=>simp only[hw];exact bK.2 ⟨hk,h0,hl,hK⟩
   ·cases J
  |_=>
   obtain⟨xs,w,c,e1,e2,e3,e4,e5,rfl⟩:=aeG J bN;simp only[e1,e2,e4,e5];exact⟨e3,trivial,hK⟩
 |none=>
  simp only[hT]at J ⊢;split at J
  ·next n e k b off w hA hw=>
   cases J
   simp only[hA,hw];cases bN with|lt h0 hl=>exact⟨h0,hl,hK⟩
  ·next n e k c w hA hw=>
   split at J
   ·next d=>
    obtain⟨hb,he⟩:=dT J;cases he;simp only[hA,hw];cases bN with|GB h0 hl h=>exact bK.2 ⟨hb,h0,hl,by simp only[List.getElem?_cons_zero,anz,h];exact hK⟩
   ·cases J
  ·cases J
theorem acQ{T:TypeId}{y:AV}{K:Nat->Prop}{C:AV->Prop}(J:N9 P T y a=some (x,i))(bN:OK P i a)(hK:C x)(hc:∀n:Nat,C (.d (.v (.int .i64 n)))->K n):rI P T y K:=by
 unfold N9 at J;unfold rI;split at J
 ·obtain⟨hb,he⟩:=dT J;cases he;exact bK.2 ⟨hb,hc _ hK⟩
 ·obtain⟨hb,he⟩:=dT J;cases he;exact bK.2 ⟨hb,hc _ hK⟩
 ·next n1 n2=>
  split at J
  ·next xs n hx=>
   obtain⟨hb,he⟩:=dT J;cases he;cases bN with
   |len hl=>
    subst hl;split
    ·next s=>exact absurd rfl (n1 s)
    ·next a b c d e=>exact absurd rfl (n2 a b c d e)
    ·simp only[hx];exact bK.2 ⟨hb,hc _ hK⟩
  ·cases J
theorem acU{y:an5 Operand}{l:an5 Int}(J:DO ρ y=some l):(y=none/\l=none)\/∃o z,y=some o/\l=some z/\(ρ o).int?=some z:=by
 unfold DO at J;cases y with
 |none=>cases J;exact .inl ⟨rfl,rfl⟩
 |some o=>
  simp only at J;split at J
  ·next z hz=>cases J;exact .inr ⟨o,z,rfl,rfl,hz⟩
  ·cases J
theorem uf{y:an5 Operand}{l:an5 Int}{d:Nat}{K:Nat->Prop}(J:DO ρ y=some l)(h0:∀z,l=some z->0<=z)(hK:K (oN l d)):jT ρ y d K:=by
 rcases acU J with⟨rfl,rfl⟩|⟨o,z,rfl,rfl,hz⟩
 ·exact hK
 ·simp only[jT,hz];exact⟨h0 z rfl,hK⟩
theorem alF{T:TypeId}{y:AV}{lo hi mx:an5 Operand}{K:AV->Prop}(J:MR P T ρ y lo hi mx a=some (x,i))(bN:OK P i a)(hK:K x):tw P T ρ y lo hi mx K:=by
 unfold MR at J;unfold tw;split at J
 ·split at J
  ·next l hh hl qo=>
   split at J
   ·next b=>
    obtain⟨hb,he⟩:=dT J;cases he;cases bN with
    |str h0 h2 h3 h4=>
     refine bK.2 ⟨hb,uf qo (λz e=>by subst e;exact h3) ?_⟩;have e1:oN hh b.size=(hh.getD b.size).toNat:=by cases hh<;>simp [oN]
     have e2:oN l 0=(l.getD 0).toNat:=by cases l<;>simp [oN]
     rw[e1];refine⟨h4,uf hl (λz e=>by subst e;exact h0) ?_⟩;rw[e2];rw[e1,e2]at hK;exact⟨h2,hK⟩
   ·next n off=>
    split at J
    ·next m e k hT=>
     obtain⟨hb,he⟩:=dT J;cases he;simp only[hT];generalize cf m 4096=q at hb ⊢;rw[ang]at hb;refine bK.2 ⟨hb.1,uf qo (λz e=>by cases e) (bK.2 ⟨c6.2 (anp _),uf hl (λz e=>by cases e) (bK.2 ⟨?_,?_⟩)⟩)⟩
     ·rw[ang];exact⟨c6.2 (Nat.zero_le _),hb.2⟩
     ·show K (.row n (off+0*k) (m-0) (m-0) k);rw[Nat.zero_mul,Nat.add_zero,Nat.sub_zero];exact hK
    ·cases J
   ·next wu ku=>
    split at J
    ·next xs e k ys hx hT=>
     cases J
     dsimp only;split
     ·next b=>exact absurd rfl (wu b)
     ·next n off=>exact absurd rfl (ku n off)
     ·simp only[hx,hT];cases hh with
      |none=>
       cases bN with
       |YN h0 h2 hk he=>
        refine⟨hk,uf qo (λz e=>by cases e) ⟨anp _,uf hl (λz e=>by subst e;exact h0) ?_⟩⟩;have e2:oN l 0=(l.getD 0).toNat:=by cases l<;>simp [oN]
        rw[e2];refine⟨h2,?_⟩;rw[show oN none xs.length=xs.length from rfl,List.take_length,he];exact hK
      |some z=>
       cases bN with
       |sub h0 h2 h3 h4 hk he=>
        refine⟨hk,uf qo (λz e=>by cases e;exact h3) ⟨h4,uf hl (λz e=>by subst e;exact h0) ?_⟩⟩;have e2:oN l 0=(l.getD 0).toNat:=by cases l<;>simp [oN]
        rw[e2];refine⟨h2,?_⟩;rw[show oN (some z) xs.length=z.toNat from rfl,he];exact hK
    ·cases J
  ·cases J
 ·split at J
  ·next m _ _ y' _ hm=>
   split at J
   ·next xs e k _ _ ys hx hT hy=>
    cases J
    cases bN with
    |sub h0 h2 h3 h4 hk he=>
     simp only[hx,hT];refine⟨hk,?_⟩;simp only[jT,hm,hy,AV.int?];refine⟨Int.le_refl _,Nat.zero_le _,Int.le_refl _,?_,by simpa using hK⟩;first|rfl|trivial
   ·cases J
  ·cases J
theorem RI{k:Nat}{y:AV}{ys:an3 (an3 D)}{K:an3 (an3 D)->Prop}(J:Lk h k y=some ys)(hy:∀c∈ys,c.length=k)(hK:K ys):vf h k y K:=by
 unfold Lk at J;unfold vf;split at J
 ·split at J
  ·next cs e=>
   split at J
   ·next ds e2=>
    obtain⟨hb,rfl⟩:=dT J;simp only[e,e2];exact bK.2 ⟨hb,hK⟩
   ·cases J
  ·cases J
 ·next hn=>
  split
  ·next n off len cap k'=>exact absurd rfl (hn n off len cap k')
  ·simp only[J];exact⟨hy,hK⟩
theorem amJ{T:TypeId}{y z:AV}(J:N4 P T h y z a=some (x,h',i))(bN:OK P i a)(hC:C x h'):tU P T h y z C:=by
 unfold N4 at J;unfold tU;split at J
 ·next e k zs n' hT=>
  simp only[hT];split at J
  ·next zv cN hz py=>
   simp only[hz,py];obtain⟨hb,J⟩:=kV J;refine bK.2 ⟨hb,?_⟩;split at J
   ·next ys jO=>
    split at J
    ·next n xs=>
     split at J
     ·next e' k' len hn=>
      obtain⟨hc,he⟩:=dT J;cases he;cases bN with
      |app hl hx hy hm mQ jB Dt=>
       subst jB;subst Dt;refine RI jO hy ?_;simp only[hn];exact bK.2 ⟨hc,hl,hx,hm,mQ,hC⟩
     ·cases J
    ·cases J
     cases bN with
     |app hl hx hy hm mQ jB Dt=>
      subst jB;subst Dt;refine RI jO hy ?_;simp only[List.nil_append,anq,anz]at hC hm mQ ⊢;exact⟨hm,mQ,hC⟩
    ·cases J
     cases bN with
     |app hl hx hy hm mQ jB Dt=>
      subst jB;subst Dt;exact RI jO hy ⟨hx,hm,mQ,hC⟩
    ·cases J
   ·cases J
  ·cases J
 ·cases J
theorem akw{T:TypeId}{ps:an3 (Nat×AV)}{K:AV->Prop}(J:Qg P T ps=some x)(hK:K x):wL P T ps K:=by
 unfold Qg at J;unfold wL;split at J
 ·next pl z e1 e2=>
  simp only[e1,e2];split at J
  ·next cs e3=>obtain⟨hb,rfl⟩:=dT J;simp only[e3];exact bK.2 ⟨hb,hK⟩
  ·cases J
 ·cases J
theorem amt{T:TypeId}{len:Nat}{ps:an3 (Nat×AV)}{K:AV->Prop}(J:PS P T len ps=some x)(hK:K x):w7 P T len ps K:=by
 unfold PS at J;unfold w7;split at J
 ·next e k hT=>
  simp only[hT];split at J
  ·next z hz=>
   simp only[hz];split at J
   ·next cs gx=>
    simp only[gx];split at J
    ·next ds ra=>obtain⟨hb,rfl⟩:=dT J;simp only[ra];exact bK.2 ⟨hb,hK⟩
    ·cases J
   ·cases J
  ·cases J
 ·cases J
theorem Wm{T:TypeId}{op:BinOp}{y z:AV}{K:AV->Prop}(J:FN P T op y z=some (x,i))(bN:OK P i a)(hK:K x):wU P T op y z K:=by
 unfold FN at J;unfold wU;split at J
 ·split at J
  ·next v e=>
   obtain⟨hb,he⟩:=dT J;cases he;cases bN with|nz h0=>simp only[e];exact bK.2 ⟨hb,h0,hK⟩
  ·next e=>
   simp only[e];split at J
   ·next v e2=>
    cases J
    cases bN with|nn h0=>simp only[e2];exact⟨h0,hK⟩
   ·next e2=>
    simp only[e2];split at J
    ·next v e3=>obtain⟨hb,he⟩:=dT J;cases he;simp only[e3];exact bK.2 ⟨hb,hK⟩
    ·cases J
 ·split at J
  ·next v e=>cases J;simp only[e];exact hK
  ·next e=>
   simp only[e];split at J
   ·cases J;cases bN with|cat h=>exact⟨h,hK⟩
   ·cases J
 ·split at J
  ·next v e=>obtain⟨hb,he⟩:=dT J;cases he;simp only[e];exact bK.2 ⟨hb,hK⟩
  ·cases J
 ·split at J
  ·next b e=>
   simp only[e];split at J
   ·next v e2=>cases J;simp only[e2];exact hK
   ·cases J
  ·cases J
 ·cases J
theorem agA{s t:TypeId}{y:AV}{K:AV->Prop}(J:Gf P s t y a=some (x,i))(bN:OK P i a)(hK:K x):xn P s t y K:=by
 unfold Gf at J;unfold xn;split at J
 ·split at J
  ·next e1 e2=>cases J;simp only[e1,e2];exact hK
  ·cases J
 ·obtain⟨hb,he⟩:=dT J;cases he;exact bK.2 ⟨hb,hK⟩
 ·next h8 h9=>
  split at J
  ·next xs e k s' e1 e2=>
   obtain⟨hb,he⟩:=dT J;cases he;cases bN with
   |ig h=>
    obtain⟨ns,k1,k2⟩:=h;subst k2;split
    ·next k' n=>exact absurd rfl (h8 k' n)
    ·next b'=>exact absurd rfl (h9 b')
    ·simp only[e1,e2];exact bK.2 ⟨hb,ns,k1,hK⟩
  ·cases J
theorem Vi{T:TypeId}{y:AV}{f:Nat}{K:AV->Prop}(J:Kv P T y f=some x)(hK:K x):vS P T y f K:=by
 unfold Kv at J;unfold vS;split at J
 ·next e=>obtain⟨hb,rfl⟩:=dT J;simp only[e];exact bK.2 ⟨hb,hK⟩
 ·next e=>simp only[e,J];exact hK
 ·cases J
theorem NC{y:an5 AV}(J:Jy h y=some (x,h',i)):y=some x/\h'=h:=by
 cases y with
 |none=>cases J
 |some y=>cases J;exact⟨rfl,rfl⟩
theorem C6{y:an5 (AV×In)}(J:Aj h y=some (x,h',i)):y=some (x,i)/\h'=h:=by
 cases y with
 |none=>cases J
 |some y=>cases J;exact⟨rfl,rfl⟩
theorem yH{o:Oper}(J:uL P o.op ρ h a=some (x,h',i))(bN:OK P i a)(hC:C x h'):cD P o ρ h C:=by
 obtain⟨dst,op,type,pos,after,guard⟩:=o;simp only at J;unfold uL at J;unfold cD;split at J
 ·cases J;exact hC
 ·cases J;exact hC
 ·next c y z=>
  split at J
  ·next b=>
   cases J
   simp only[OK.J1 bN];cases b<;>simp_all
  ·cases J
 ·split at J
  ·next z e=>cases J;simp only[e];exact hC
  ·cases J
 ·obtain⟨hb,he⟩:=dT J;cases he;exact bK.2 ⟨hb,hC⟩
 ·split at J
  ·next cs off e=>
   split at J
   ·next y e2=>cases J;exact OR e e2 hC
   ·cases J
  ·cases J
 ·split at J
  ·next n off e=>
   split at J
   ·next cs e2=>
    split at J
    ·next k e3=>obtain⟨hb,he⟩:=dT J;cases he;simp only[e,vJ,e2,e3];exact bK.2 ⟨hb,hC⟩
    ·cases J
   ·cases J
  ·cases J
 ·split at J
  ·next e=>cases J;simp only[e];exact hC
  ·next e=>cases J;simp only[e];exact hC
  ·next e=>cases J;simp only[e];exact hC
  ·cases J
 ·split at J
  ·next e=>
   simp only[e];split at J
   ·next e2=>cases J;simp only[e2];exact hC
   ·next e2=>cases J;simp only[e2];exact hC
   ·cases J
  ·cases J
 ·obtain⟨e,rfl⟩:=NC J;exact Vi e hC
 ·obtain⟨e,rfl⟩:=C6 J;exact ah1 e bN hC
 ·split at J
  ·next b z c e1 e2=>
   obtain⟨hb,he⟩:=dT J;cases he;cases bN with
   |ch h0 hc=>simp only[e1,e2];refine bK.2 ⟨hb,h0,?_⟩;simp only[hc];exact hC
  ·cases J
 ·obtain⟨e,rfl⟩:=NC J;exact akw e hC
 ·obtain⟨e,rfl⟩:=NC J;exact amt e hC
 ·obtain⟨e,rfl⟩:=C6 J;exact alF e bN hC
 ·split at J
  ·next e=>
   split at J
   ·next e2=>cases J;simp only[e,e2];exact hC
   ·cases J
  ·cases J
 ·split at J
  ·next e=>cases J;simp only[e];exact hC
  ·cases J
 ·obtain⟨e,rfl⟩:=C6 J;exact Wm e bN hC
 ·unfold vN;split at J
  ·next e=>
   split at J
   ·next e2=>cases J;simp only[e,e2];exact hC
   ·cases J
  ·cases J
 ·obtain⟨e,rfl⟩:=C6 J;exact agA e bN hC
 ·next c=>
  split at J
  ·next hc=>
   simp only[hc];split at J
   ·next e1 e2=>obtain⟨e,rfl⟩:=C6 J;simp only[e1,e2];exact acQ (C:=λx=>C x _) e bN hC (λn hn=>hn)
   ·cases J
  ·next hc=>
   simp only[hc];split at J
   ·next e1 e2=>obtain⟨hb,J⟩:=kV J;simp only[e1,e2];exact bK.2 ⟨hb,amJ J bN hC⟩
   ·cases J
  ·next hc=>
   simp only[hc];split at J
   ·next e1=>cases J;simp only[e1];exact hC
   ·cases J
  ·next hc=>
   simp only[hc];split at J
   ·next e1=>cases J;simp only[e1];exact hC
   ·cases J
  ·next f hc=>
   simp only[hc];split at J
   ·next g cT r e=>
    obtain⟨hb,he⟩:=dT J;cases he;simp only[ang]at hb;simp only[e];cases bN with|call jP=>exact(jP.use hb.1 hb.2 hC).UQ
   ·next g cT r h2 e=>
    cases J
    simp only[e];cases bN with|jP jP=>exact jP.mono λr1 J ⟨e1,e2⟩=>by subst e1;subst e2;exact hC
   ·next g cT l eJ H r H' e=>
    cases J
    simp only[e];cases bN with|np ha hd hb hl hc=>exact(ha▸(hc.np hd hb hl).mono λr1 J ⟨e1,e2⟩=>by subst e1;subst e2;exact hC:cF P g _ _ _).Jl
   ·next g cT l eJ H r H' e=>
    cases J
    simp only[e];cases bN with|Ma oz hv ha hd hb hl hc=>exact(ha▸(hc.np hd (by rw[hb,ajk oz]) (by rw[ang]at hl ⊢;exact⟨hl.1,agL oz hl.2⟩)).mono λr1 J ⟨e1,e2⟩=>by subst e1;subst e2;rw[<-amH hv];exact hC:cF P g _ _ _).Jl
   ·next g cT l eJ H r e=>
    cases J
    simp only[e];cases bN with|rq ha hd hb hl hc=>exact(ha▸(by have:=hc.rq hd hb hl [];rw[anA]at this;exact this.mono λr1 J ⟨e1,e2⟩=>by subst e1;subst e2;exact hC):cF P g _ _ _).Jl
   ·next q r e=>
    obtain⟨hb,he⟩:=dT J;cases he;simp only[ang]at hb;simp only[e];cases bN with|Fj hq=>exact hq.use hb.1 hb.2 hC
   ·cases J
  ·cases J
 ·next op _=>
  unfold xR at J;split at J
  ·next y h2 p e=>
   cases J
   simp only[e];refine⟨?_,hC⟩;cases p with
   |no=>trivial
   |lt n=>cases bN with|sd h=>exact h
  ·cases J
end
def iQ:an3 (Nat×bQ)->Nat->bQ
 |[],_=> .none
 |(k,x)::l,i=>bif k==i then x else iQ l i
def uu(i:In)(a:bQ)(r:an5 (St×an3 (In×bQ))):an5 (St×an3 (In×bQ)):=
 match i with
 | .none=>r
 |i=>match r with
  |some (s,l)=>some (s,(i,a)::l)
  |none=>none
def yL:bQ->Bool
 | .Q7 .. | .PI .. | .Eh .. =>true
 |_=>false
def Ak(o:Oper):bQ->Bool
 | .Eh [] .. =>cm o==6
 |_=>false
def Di(P:an6)(dr vk:Bool)(op:Op)(ρ:Operand->AV)(h:an3 ao)(a:bQ):an5 (AV×an3 ao×In):=
 match a with
 | .va va=>bif dr&& !vk then none else match ij P op ρ h va with
   |some (x,h',p)=>some (x,h', .pr p)
   |none=>none
 |a=>uL P op ρ h a
def nM(P:an6)(dr:Bool)(o:Oper)(j:Nat)(as:an3 (Nat×bQ))(s:St):an5 (St×an3 (In×bQ)):=
 bif dr&&yL (iQ as (3*j+1))&& !Ak o (iQ as (3*j+1))then none else
 match Di P dr (jN o) o.op (ev s) s.h (iQ as (3*j+1))with
 |some (x,h',i)=>match iQ as (3*j+2)with
  | .eq y=>uu i (iQ as (3*j+1)) (some ((s.wh h').put o.dst y,[(.eq x, .eq y)]))
  |_=>uu i (iQ as (3*j+1)) (some ((s.wh h').put o.dst x,[]))
 |none=>none
def Ec(o:Oper)(s:St):St:=s.put o.dst (.d (.v undef))
def rh(l:an3 (In×bQ)):an5 (St×an3 (In×bQ))->an5 (St×an3 (In×bQ))
 |some (s,m)=>some (s,l++m)
 |none=>none
def nj(P:an6)(ops:Array Oper)(dr:Bool)(o:Oper)(j:Nat)(as:an3 (Nat×bQ))(s:St):an5 (St×an3 (In×bQ)):=
 match o.guard with
 |none=>nM P dr o j as s
 |some (g,want)=>match iQ as (3*j)with
  | .bit b=>rh [(.bit (uc ops g s.t), .bit b)] (bif b==want then nM P dr o j as s else some (Ec o s,[]))
  | .BN=>rh [(.bit (uc ops g s.t), .BN)] (some (Ec o s,[]))
  |_=>none
def oM(P:an6)(ops:Array Oper)(dr:Bool):an3 Oper->Nat->an3 (Nat×bQ)->St->an5 (St×an3 (In×bQ))
 |[],_,_,s=>some (s,[])
 |o::rest,j,as,s=>match nj P ops dr o j as s with
  |some (s1,l)=>rh l (oM P ops dr rest (j+1) as s1)
  |none=>none
def fY(P:an6)(l:an3 (In×bQ)):Prop:=∀p∈l,OK P p.1 p.2
section
variable {P:an6} {ops:Array Oper} {dr:Bool} {o:Oper} {j:Nat} {as:an3 (Nat×bQ)} {s s1:St} {l:an3 (In×bQ)} {K:St->Prop}
theorem HB{i:In}{a:bQ}{r:an5 (St×an3 (In×bQ))}(h:uu i a r=some (s1,l))(bN:fY P l):∃m,r=some (s1,m)/\fY P m/\OK P i a:=by
 unfold uu at h;split at h
 ·exact⟨l,h,bN, .none⟩
 ·split at h
  ·next s2 m=>
   cases h
   exact⟨m,rfl,λp hp=>bN p (ann _ hp),bN (i,a) ank⟩
  ·cases h
theorem yj{r:an5 (St×an3 (In×bQ))}{m:an3 (In×bQ)}(h:rh m r=some (s1,l))(bN:fY P l):∃n,r=some (s1,n)/\fY P n/\fY P m:=by
 unfold rh at h;split at h
 ·next s2 n=>
  cases h
  exact⟨n,rfl,λp hp=>bN p (List.mem_append_right _ hp),λp hp=>bN p (List.mem_append_left _ hp)⟩
 ·cases h
def Iq(P:an6)(dr:Bool)(o:Oper)(K:St->Prop)(s:St):Prop:=bif dr then Vq P o K s else n9 P o K s
theorem aiA{x:AV}{h':an3 ao}{i:In}{a:bQ}(J:uL P o.op (ev s) s.h a=some (x,h',i))(bN:OK P i a)(hh:yL a=false)(hK:K ((s.wh h').put o.dst x)):Vq P o K s:=by
 refine .inl ?_;unfold zu;split
 ·next c gV=>
  split
  ·next f hc=>
   rw[gV]at J;unfold uL at J;simp only[hc]at J;split at J
   ·next g cT r e=>
    obtain⟨hb,he⟩:=dT J;cases he;simp only[ang]at hb;simp only[e];cases bN with
    |call jP=>exact⟨_,hK,λe=>(jP.use hb.1 hb.2 ⟨rfl,rfl⟩).UQ⟩
   ·cases hh
   ·cases hh
   ·cases hh
   ·next g cT l eJ H r e=>
    cases J
    simp only[e];cases bN with|rq ha hd hb hl hc=>exact⟨_,hK,λe=>(ha▸hc.rq hd hb hl e:cF P g _ _ _).Jl⟩
   ·next q r e=>
    obtain⟨hb,he⟩:=dT J;cases he;simp only[ang]at hb;simp only[e];cases bN with
    |Fj hq=>
     have:=λh=>hq.use (h:=h) (C:=λr' h'=>r'=x/\h'=h) hb.1 hb.2 ⟨rfl,rfl⟩;obtain⟨g,cs,e1,_⟩:=this [];refine⟨g,cs,e1,x,hK,λe=> ?_⟩;obtain⟨g',cw,e2,h9⟩:=this (s.h++e);rw[e1]at e2;cases e2
     exact h9
   ·cases J
  ·exact yH (C:=λx h'=>K ((s.wh h').put o.dst x)) J bN hK
 ·exact yH (C:=λx h'=>K ((s.wh h').put o.dst x)) J bN hK
theorem agu{o:Oper}{ρ:Operand->AV}{h h':an3 ao}{eJ:an3 AV}{H H':an3 ao}{r x:AV}{i:In}(hk:cm o=6)(hr:uL P o.op ρ h (.Eh [] eJ H r H')=some (x,h',i)):h'=h++H'.map (ao.rb (rn [] h.length)):=by
 unfold cm at hk;split at hk
 all_goals first|(cases hk;done)|skip
 next c gV=>
  split at hk
  all_goals first|(cases hk;done)|skip
  next f hc=>
   rw[gV]at hr;unfold uL at hr;simp only[hc]at hr;generalize ρ f=v at hr;cases v<;>first|(cases hr;rfl)|cases hr
theorem Mq(h:nM P dr o j as s=some (s1,l))(bN:fY P l)(hK:K s1):Iq P dr o K s:=by
 unfold nM at h;cases hd:dr&&yL (iQ as (3*j+1))&& !Ak o (iQ as (3*j+1))with
 |true=>rw[hd]at h;cases h
 |false=>
  rw[hd]at h;simp only[cond_false]at h;split at h
  ·next x h' i hr=>
   have fin:OK P i (iQ as (3*j+1))->K ((s.wh h').put o.dst x)->Iq P dr o K s:=λJ h2=>by
    unfold Iq;cases dr with
    |true=>
     unfold Di at hr;split at hr
     ·next va e=>
      cases hv:jN o with
      |false=>rw[hv]at hr;cases hr
      |true=>
       rw[hv]at hr;simp only[Bool.not_true,Bool.and_false,cond_false]at hr;split at hr
       ·next x2 MP p e2=>
        cases hr
        rw[e]at J;cases J with|pr _ hp=>exact .inr (.inr (.inl ⟨.inl ⟨hv,rfl⟩,va,x,h',p,e2,hp,h2⟩))
       ·cases hr
     ·by_cases hx:Ak o (iQ as (3*j+1))=true
      ·refine .inr (.inr (.inr ?_));generalize iQ as (3*j+1)=a at hx J hr;unfold Ak at hx;split at hx
       ·next eJ H r H'=>
        have CW:cm o=6:=by simpa using hx
        have this:h'=s.h++H'.map (ao.rb (rn [] s.h.length)):=agu CW hr;refine⟨CW,x,H'.map (ao.rb (rn [] s.h.length)),?_,λC hC=> ?_⟩
        ·rw[<-this];exact h2
        ·rw[<-this]at hC;exact yH hr J hC
       ·cases hx
      ·exact aiA hr J (by simpa [hx]using hd) h2
    |false=>
     unfold Di at hr;split at hr
     ·next va e=>
      simp only[Bool.false_and,cond_false]at hr;split at hr
      ·next x2 MP p e2=>
       cases hr
       rw[e]at J;cases J with|pr _ hp=>exact .inl ⟨va,x,h',p,e2,hp,h2⟩
      ·cases hr
     ·exact .inr (.inr (.inl (yH (C:=λx h'=>K ((s.wh h').put o.dst x)) hr J h2)))
   split at h
   ·next y hy=>
    obtain⟨m,e,h2,h3⟩:=HB h bN;cases e
    have:=h2 (.eq x, .eq y) ank;cases this with|eq e=>subst e;exact fin h3 hK
   ·obtain⟨m,e,h2,h3⟩:=HB h bN;cases e
    exact fin h3 hK
  ·cases h
theorem Ml(h:nj P ops dr o j as s=some (s1,l))(bN:fY P l)(hK:K s1):iY ops o s (Iq P dr o K s) (K (s.put o.dst (.d (.v undef)))):=by
 unfold nj at h;split at h
 ·next hg=>unfold iY;rw[hg];exact Mq h bN hK
 ·next g want hg=>
  obtain⟨dst,op,ty,pos,after,guard⟩:=o;simp only at hg;subst hg;split at h
  ·next b hb=>
   obtain⟨n,e,h2,h3⟩:=yj h bN;have h4:=OK.J1 (h3 (_,_) ank);rw[Kl,h4];refine⟨λe2=> ?_,λe2=> ?_⟩
   ·subst e2;simp only[BEq.rfl,cond_true]at e;exact Mq e h2 hK
   ·subst e2;have:((!want)==want)=false:=by cases want<;>rfl
    rw[this]at e;simp only[cond_false]at e;cases e
    exact hK
  ·next hb=>
   obtain⟨n,e,h2,h3⟩:=yj h bN;cases e
   have h4:=h3 (_,_) ank;have h5:uc ops g s.t= .d (.v undef):=by
    generalize uc ops g s.t=z at h4;cases h4;rfl
   rw[Kl,h5];exact hK
  ·cases h
theorem xS:∀(ol:an3 Oper)(j:Nat)(s:St)(l:an3 (In×bQ)),oM P ops dr ol j as s=some (s1,l)->fY P l->K s1->(bif dr then CO P ops ol K s else sE P ops ol K s)
 |[],_,s,l,h,_,hK=>by cases h;cases dr<;>exact hK
 |o::rest,j,s,l,h,bN,hK=>by
  unfold oM at h;split at h
  ·next s2 m hg=>
   obtain⟨n,e,h2,h3⟩:=yj h bN;have ih:=xS rest (j+1) s2 n e h2 hK;cases dr with
   |true=>exact Ml (K:=CO P ops rest K) hg h3 ih
   |false=>exact Ml (K:=sE P ops rest K) hg h3 ih
  ·cases h
theorem Rz(s:St)(d:an5 Nat)(x:AV):∃pre,(s.put d x).t=pre++s.t:=by
 cases d with
 |none=>exact⟨[],rfl⟩
 |some k=>
  by_cases hk:k<s.n
  ·exact⟨[(k,x)],by rw[qQ hk];rfl⟩
  ·exact⟨[],by rw[DF hk];rfl⟩
theorem Ls(h:nj P ops dr o j as s=some (s1,l)):(∃pre,s1.t=pre++s.t)/\s1.n=s.n:=by
 have cI:∀{i a r l},uu i a r=some (s1,l)->∃m,r=some (s1,m):=fun{i a r l} h=>by
  unfold uu at h;split at h
  ·exact⟨_,h⟩
  ·split at h
   ·cases h;exact⟨_,rfl⟩
   ·cases h
 have cR:∀{m r l},rh m r=some (s1,l)->∃m,r=some (s1,m):=fun{m r l} h=>by
  unfold rh at h;split at h
  ·cases h;exact⟨_,rfl⟩
  ·cases h
 have st:∀l,nM P dr o j as s=some (s1,l)->(∃pre,s1.t=pre++s.t)/\s1.n=s.n:=λl h=>by
  unfold nM at h;cases hd:dr&&yL (iQ as (3*j+1))&& !Ak o (iQ as (3*j+1))with
  |true=>rw[hd]at h;cases h
  |false=>
   rw[hd]at h;simp only[cond_false]at h;split at h
   ·split at h<;>(obtain⟨m,e⟩:=cI h;cases e;exact⟨Rz _ _ _,by rw[qV];rfl⟩)
   ·cases h
 unfold nj at h;split at h
 ·exact st _ h
 ·split at h
  ·obtain⟨m,e⟩:=cR h;revert e;generalize ((_:Bool)==_)=q;intro e;cases q with
   |true=>exact st _ e
   |false=>cases e;exact⟨Rz _ _ _,by unfold Ec;rw[qV]⟩
  ·obtain⟨m,e⟩:=cR h;cases e;exact⟨Rz _ _ _,by unfold Ec;rw[qV]⟩
  ·cases h
theorem N6:∀(ol:an3 Oper)(j:Nat)(s:St)(l:an3 (In×bQ)),oM P ops dr ol j as s=some (s1,l)->(∃pre,s1.t=pre++s.t)/\s1.n=s.n
 |[],_,s,l,h=>by cases h;exact⟨⟨[],rfl⟩,rfl⟩
 |o::rest,j,s,l,h=>by
  unfold oM at h;split at h
  ·next s2 m hg=>
   unfold rh at h;split at h
   ·next s3 n e=>
    cases h
    obtain⟨⟨p1,e1⟩,n1⟩:=Ls hg;obtain⟨⟨p2,e2⟩,n2⟩:=N6 rest (j+1) s2 n e;exact⟨⟨p2++p1,by rw[e2,e1,anv]⟩,n2.trans n1⟩
   ·cases h
  ·cases h
end
def Xi:AV->Bool
 | .dead=>true
 |_=>false
def qq(P:an6)(dr:Bool)(l:an3 Oper)(as:an3 (Nat×bQ))(keep:an3 Nat)(s:St):an5 (an3 (Nat×AV)×an3 ao×an3 (In×bQ)):=
 match oM P l.toArray dr l 0 as s with
 |some (s1,ps)=>bif (s1.t.take (s1.t.length-s.t.length)).all (λp=>keep.any (·==p.1)||Xi (bm s.t p.1))then some (keep.map λk=>(k,bm s1.t k),s1.h,ps)else none
 |none=>none
theorem DD:∀(a b:an3 (Nat×AV))(i:Nat),(i∈a.map (·.1)/\bm (a++b) i=bm a i)\/(i ∉ a.map (·.1)/\bm (a++b) i=bm b i)
 |[],b,i=> .inr ⟨by simp,rfl⟩
 |(k,x)::a,b,i=>by
  by_cases e:i=k
  ·subst e;exact .inl ⟨by simp,by simp [kX]⟩
  ·rcases DD a b i with⟨J,h2⟩|⟨J,h2⟩
   ·exact .inl ⟨by simp at J ⊢;exact .inr J,by rw[List.cons_append,kX,if_neg e,h2,kX,if_neg e]⟩
   ·exact .inr ⟨by simp at J ⊢;exact⟨e,J⟩,by rw[List.cons_append,kX,if_neg e,h2]⟩
section
variable {P:an6} {dr:Bool} {as:an3 (Nat×bQ)} {s s1 s':St} {ps:an3 (In×bQ)} {keep:an3 Nat} {ol:an3 Oper} {Δ:an3 (Nat×AV)} {h':an3 ao}
theorem HK(h:qq P dr ol as keep s=some (Δ,h',ps)):∃s1,oM P ol.toArray dr ol 0 as s=some (s1,ps)/\s1.n=s.n/\s1.h=h'/\∀i,bm (Δ++s.t) i=bm s1.t i\/bm (Δ++s.t) i= .dead:=by
 unfold qq at h;split at h
 ·next s1 ps' hr=>
  obtain⟨hb,he⟩:=dT h;cases he
  obtain⟨⟨pre,e1⟩,n1⟩:=N6 _ _ _ _ hr;refine⟨s1,hr,n1,rfl,λi=> ?_⟩;have Dx:∀(f:Nat->AV),(keep.map λk=>(k,f k)).map (·.1)=keep:=λf=>by rw[List.map_map];exact List.map_id _
  rcases DD (keep.map λk=>(k,bm s1.t k)) s.t i with⟨J,h2⟩|⟨J,h2⟩
  ·rw[Dx]at J;rw[h2,rV (λk=>bm s1.t k),if_pos J];exact .inl rfl
  ·rw[Dx]at J;rw[h2];rw[e1,anf,Nat.add_sub_cancel,List.take_left']at hb
   ·rw[e1];rcases DD pre s.t i with⟨h3,h4⟩|⟨h3,h4⟩
    ·right
     obtain⟨p,hp,rfl⟩:=List.mem_map.1 h3;have:=anF.1 hb p hp;rw[Bool.or_eq_true]at this;rcases this with this|this
     ·exfalso;obtain⟨k,hk,e⟩:=List.any_eq_true.1 this;rw[beq_iff_eq]at e;exact J (e▸hk)
     ·generalize bm s.t p.1=z at this;cases z<;>first|rfl|cases this
    ·exact .inl h4.symm
   ·rfl
 ·cases h
theorem cJ.less{G:Gh}{w:an8}{a:Act}(hs:cJ G w a s1)(hn:s'.n=s1.n)(hh:s'.h=s1.h)(ht:∀i,bm s'.t i=bm s1.t i\/bm s'.t i= .dead):cJ G w a s':=
 ⟨hs.size.trans hn.symm,λi=>by
  rcases ht i with e|e
  ·rw[e];exact hs.tmp i
  ·rw[e];exact .dead _,by rw[hh];exact hs.inv,hs.df⟩
end
structure Ob(P:Program) where
 i:In
 o:bQ
 ok:OK P i o
def bT{P:an6}{e:Bool}(h:e=true):Ob P:=⟨_,_, .bit (b:=true) h⟩
def bF{P:an6}{e:Bool}(h:e=false):Ob P:=⟨_,_, .bit (b:=false) h⟩
def uN{P:an6}:Ob P:=⟨_,_, .BN⟩
def cL{P:an6}{f:FuncId}{args:an3 AV}{r:AV}(h:fP P f args (·=r)):Ob P:=⟨_,_, .call h⟩
def iU{P:an6}(l:an3 (Nat×Ob P)):an3 (Nat×bQ):=l.map λb=>(b.1,b.2.o)
def jj{P:an6}(l:an3 (Nat×Ob P)):an3 (In×bQ):=l.map λb=>(b.2.i,b.2.o)
theorem pY{P:an6}(l:an3 (Nat×Ob P)):fY P (jj l):=λp hp=>by
 obtain⟨b,_,rfl⟩:=List.mem_map.1 hp;exact b.2.ok
section
variable {P:an6} {r:an5 Nat} {N0 id:Nat} {ol:an3 Oper} {y:Code} {s:St} {Q Q':Exit->St->Prop} {aw:an3 (Nat×Ob P)} {Δ:an3 (Nat×AV)} {h':an3 ao}
theorem IF{c:Code}{s':St}(hn:s'.n=s.n)(hh:s'.h=s.h)(ht:∀i,bm s'.t i=bm s.t i\/bm s'.t i= .dead)(h:bw P r N0 c Q s'):bw P r N0 c Q s:=
 ⟨λG w a n hs hN=>h.run G w a n (hs.less hn hh ht) hN⟩
theorem XN(aw:an3 (Nat×Ob P))(Δ:an3 (Nat×AV))(h':an3 ao)(h:qq P false ol (iU aw) (Δ.map (·.1)) s=some (Δ,h',jj aw))(k:bw P r N0 y Q' ⟨s.n,Δ++s.t,h'⟩):bw P r N0 (.region id ol.toArray false) (iL (λs=>bw P r N0 y Q' s) Q) s:=by
 obtain⟨s1,J,h2,h3,h4⟩:=HK h;refine eW ?_;exact xS (dr:=false) ol 0 s _ J (pY aw) (IF (s:=s1) (s':=⟨s.n,Δ++s.t,h'⟩) h2.symm h3.symm h4 k)
theorem ai3(hm:P.follows .mixedOrders=true)(hl:qk ol.toArray=true)(aw:an3 (Nat×Ob P))(Δ:an3 (Nat×AV))(h':an3 ao)(h:qq P true ol (iU aw) (Δ.map (·.1)) s=some (Δ,h',jj aw))(k:bw P r N0 y Q' ⟨s.n,Δ++s.t,h'⟩):bw P r N0 (.region id ol.toArray true) (iL (λs=>bw P r N0 y Q' s) Q) s:=by
 obtain⟨s1,J,h2,h3,h4⟩:=HK h;refine HL hm hl ?_;exact xS (dr:=true) ol 0 s _ J (pY aw) (IF (s:=s1) (s':=⟨s.n,Δ++s.t,h'⟩) h2.symm h3.symm h4 k)
def xu(P:an6)(dr:Bool)(l:an3 Oper)(as:an3 (Nat×bQ))(s:St):an5 (an3 (Nat×AV)×an3 ao×an3 (In×bQ)):=
 match oM P l.toArray dr l 0 as s with
 |some (s1,ps)=>some (s1.t,s1.h,ps)
 |none=>none
theorem Nz{dr:Bool}{as:an3 (Nat×bQ)}{t:an3 (Nat×AV)}{ps:an3 (In×bQ)}(h:xu P dr ol as s=some (t,h',ps)):oM P ol.toArray dr ol 0 as s=some (⟨s.n,t,h'⟩,ps):=by
 unfold xu at h;split at h
 ·next s1 ps' hr=>
  cases h
  obtain⟨_,n1⟩:=N6 _ _ _ _ hr;rw[hr,<-n1]
 ·cases h
theorem aj7(aw:an3 (Nat×Ob P))(Δ:an3 (Nat×AV))(h':an3 ao)(h:xu P false ol (iU aw) s=some (Δ++s.t,h',jj aw))(k:Q .normal ⟨s.n,Δ++s.t,h'⟩):bw P r N0 (.region id ol.toArray false) Q s:=
 eW (xS (dr:=false) ol 0 s _ (Nz h) (pY aw) k)
theorem acB(hm:P.follows .mixedOrders=true)(hl:qk ol.toArray=true)(aw:an3 (Nat×Ob P))(Δ:an3 (Nat×AV))(h':an3 ao)(h:xu P true ol (iU aw) s=some (Δ++s.t,h',jj aw))(k:Q .normal ⟨s.n,Δ++s.t,h'⟩):bw P r N0 (.region id ol.toArray true) Q s:=
 HL hm hl (xS (dr:=true) ol 0 s _ (Nz h) (pY aw) k)
end
def AV.fin(m:Nat)(x:AV):AV:=(x.bo m).nrm
def ao.pn:ao->ao
 | .cells cs=> .cells (cs.map AV.nrm)
 | .lp ls p as bd cs=> .lp ls p as bd (cs.map AV.nrm)
 | .it sn cs=> .it sn (cs.map AV.nrm)
 | .eG T cs=> .eG T (cs.map AV.nrm)
 | .vec e k cs=> .vec e k (cs.map (·.map AV.nrm))
 |B=>B
def jW(s:St)(live:an3 Nat)(m:Nat):an5 St:=
 bif cf m s.h.length&&(live.all λk=>((bm s.t k).bo m).aC m)&&(((s.h.take m).map (ao.bo m)).all (ao.aC m))then some ⟨s.n,live.map λk=>(k,(bm s.t k).fin m),((s.h.take m).map (ao.bo m)).map ao.pn⟩else none
theorem Ng{G:Gh}{w:an8}{h:an3 ao}(hi:bJ G w h):bJ G w (h.map ao.pn):=by
 have e8:∀(n:Nat)(B:ao),(h.map ao.pn)[n]?=some B->∃B',h[n]?=some B'/\B=B'.pn:=λn B hB=>by
  rw[anl]at hB;cases hx:h[n]? with
  |none=>rw[hx]at hB;cases hB
  |some B'=>rw[hx]at hB;cases hB;exact⟨B',rfl,rfl⟩
 have eo:∀n b,bH (h.map ao.pn) G n=some b->bH h G n=some b:=λn b hb=>by
  obtain⟨B,hB,hb⟩:=ng hb;obtain⟨B',J,rfl⟩:=e8 n B hB;rw[dx J,<-hb];cases B'<;>rfl
 refine⟨by rw[anj];exact hi.len,hi.z,hi.S,λn B hB=> ?_,λi j b J h2=>hi.inj i j b (eo i b J) (eo j b h2),hi.gl⟩;obtain⟨B',J,rfl⟩:=e8 n B hB;have dC:=hi.cV n B' J;cases B' with
 |gone=>trivial
 |front e k len=>exact dC
 |ig e b=>exact dC
 |map kv=>exact dC
 |iy kv=>exact dC
 |vec e k cs=>
  obtain⟨c1,c2,c3,c4⟩:=dC;refine⟨by rw[anj];exact c1,by rw[anj];exact c2,λc hc=> ?_,?_⟩
  ·obtain⟨x,hx,rfl⟩:=List.mem_map.1 hc;rw[anj];exact c3 x hx
  ·rcases c4 with⟨d1,d2,A,d3⟩|⟨g,cap,cur,d1,d2,d3,d4,d5,d6,d7,d8,d9⟩
   ·exact .inl ⟨d1,by rw[d2];rfl,A,d3⟩
   ·refine .inr ⟨g,cap,cur,d1,by rw[anj];exact d2,d3,d4,by rw[anj];exact d5,d6,d7,d8,λi j c x u hc hx hu=> ?_⟩;rw[anl]at hc;cases hy:cs[i]? with
    |none=>rw[hy]at hc;cases hc
    |some y=>
     rw[hy]at hc;cases hc
     rw[anl]at hx;cases hw:y[j]? with
     |none=>rw[hw]at hx;cases hx
     |some z=>rw[hw]at hx;cases hx;exact(d9 i j y z u hy hw hu).nrm
 |cells cs=>
  obtain⟨c1,c2,vs,T,c3,c4,c5⟩:=dC;refine⟨c1,c2,vs,T,c3,by rw[anj];exact c4,λi u c hu hc=> ?_⟩;rw[anl]at hc;cases hx:cs[i]? with
  |none=>rw[hx]at hc;cases hc
  |some x=>rw[hx]at hc;cases hc;exact(c5 i u x hu hx).nrm
 |lp ls p as bd cs=>
  obtain⟨c1,c2,fn,vs,T,c3,c4,c5⟩:=dC;refine⟨c1,c2,fn,vs,T,c3,by rw[anj];exact c4,λi u c hu hc=> ?_⟩;rw[anl]at hc;cases hx:cs[i]? with
  |none=>rw[hx]at hc;cases hc
  |some x=>rw[hx]at hc;cases hc;exact(c5 i u x hu hx).nrm
 |it sn cs=>
  obtain⟨c1,c2,fn,vs,T,c3,c4,c5⟩:=dC;refine⟨c1,c2,fn,vs,T,c3,by rw[anj];exact c4,λi u c hu hc=> ?_⟩;rw[anl]at hc;cases hx:cs[i]? with
  |none=>rw[hx]at hc;cases hc
  |some x=>rw[hx]at hc;cases hc;exact(c5 i u x hu hx).nrm
 |eG T0 cs=>
  obtain⟨c1,c2,fn,vs,T,c3,c4,c5⟩:=dC;refine⟨c1,c2,fn,vs,T,c3,by rw[anj];exact c4,λi u c hu hc=> ?_⟩;rw[anl]at hc;cases hx:cs[i]? with
  |none=>rw[hx]at hc;cases hc
  |some x=>rw[hx]at hc;cases hc;exact(c5 i u x hu hx).nrm
section
variable {P:an6} {r:an5 Nat} {n N0:Nat} {G:Gh} {w:an8} {a:Act} {s s':St} {Q Q':Exit->St->Prop} {live:an3 Nat} {m:Nat}
theorem aeg(h:jW s live m=some s'):s.yW live m/\s'.n=s.n/\s'.t=(live.map λk=>(k,(bm s.t k).fin m))/\s'.h=((s.h.take m).map (ao.bo m)).map ao.pn:=by
 unfold jW at h;obtain⟨hb,rfl⟩:=dT h;rw[ang,ang]at hb;exact⟨⟨c6.1 hb.1.1,hb.1.2,hb.2⟩,rfl,rfl,rfl⟩
theorem cJ.jW(hs:cJ G w a s)(h:jW s live m=some s'):cJ (G.cut m) w a s':=by
 obtain⟨J,h2,h3,h4⟩:=aeg h;have hm:=hs.mask J;refine⟨hs.size.trans h2.symm,λi=> ?_,by rw[h4];exact Ng hm.inv,hs.df⟩;have:=hm.tmp i
 change aD _ _ _ (bm (live.map λk=>(k,(bm s.t k).bo m)) i)at this
 rw[rV (λk=>(bm s.t k).bo m)]at this;rw[h3,rV (λk=>(bm s.t k).fin m)];split at this
 ·rename_i hi;rw[if_pos hi];exact this.nrm
 ·rename_i hi;rw[if_neg hi];exact .dead _
theorem OW{c:Code}{ι:Type}(live:an3 Nat)(m:Nat)(st:ι->St)(I:ι->Prop)(μ:ι->Nat)(i0:ι)(hm:N0<=m)(h0:Go.Proofs.YtpeecnpmcbnahaaGreatDoor.jW s live m=some (st i0))(hI:I i0)
 (round:∀i,I i->bw P r N0 c (iL (λs'=>∃i',Go.Proofs.YtpeecnpmcbnahaaGreatDoor.jW s' live m=some (st i')/\I i'/\μ i'<μ i) Q) (st i)):bw P r N0 (.loop c) Q s:=by
 constructor
 intro G w a n hs _;refine RN (λ(i:ι) a' w'=>∃G',I i/\bI N0 G w G' w'/\N0<=G'.N/\cJ G' w' a' (st i)) μ i0 ⟨G.cut m,hI,qe _ _ _ _,hm,hs.jW h0⟩ ?_;rintro i a' w' ⟨G',hi,hE,hN,cv⟩;refine wpIn_mono ((round i hi).run G' w' a' n cv hN) λe a1 w1 hn=> ?_;obtain⟨G1,s1,iT,gh,e9,hq⟩:=hn;cases e with
 |normal=>
  obtain⟨i',J,h2,h3⟩:=hq;exact⟨i',⟨G1.cut m,h2,(hE.trans iT).trans (qe _ _ _ _),hm,e9.jW J⟩,h3⟩
 |_=>exact⟨G1,s1,hE.trans iT,gh,e9,hq⟩
theorem gq{c:Code}(live:an3 Nat)(m:Nat)(hm:N0<=m)(h0:Go.Proofs.YtpeecnpmcbnahaaGreatDoor.jW s live m=some s')(h:bw P r N0 c Q s'):bw P r N0 c Q s:=by
 constructor
 intro G w a n hs _;exact wpIn_mono (h.run (G.cut m) w a n (hs.jW h0) hm) λ_ _ _ hn=>hn.trans (qe N0 G w m)
theorem EB{c y:Code}{ι:Type}(live:an3 Nat)(m:Nat)(st:ι->St)(I:ι->Prop)(hm:N0<=m)(hc:bw P r N0 c (iL (λs'=>∃i,Go.Proofs.YtpeecnpmcbnahaaGreatDoor.jW s' live m=some (st i)/\I i) Q) s)(hy:∀i,I i->bw P r N0 y Q' (st i)):bw P r N0 c (iL (λs=>bw P r N0 y Q' s) Q) s:=by
 refine hc.mono λe s' h=> ?_;cases e with
 |normal=>obtain⟨i,J,h2⟩:=h;exact gq live m hm J (hy i h2)
 |_=>exact h
def sP(P:an6)(s:St):an3 ResultVar->an5 (an3 AV)
 |[]=>some []
 | .tmp t::l=>match sP P s l with
   |some xs=>some (bm s.t t::xs)
   |none=>none
 | .cell p t::l=>match xv s.h (bm s.t p)with
   |some (cs,off)=>match Bo P t cs off,sP P s l with
    |some x,some xs=>some (x::xs)
    |_,_=>none
   |none=>none
def xa(P:an6)(rs:an3 ResultVar)(s:St):an5 AV:=
 match sP P s rs with
 |some l=>bif ((jX l).bo 0).aC 0 then some ((jX l).fin 0)else none
 |none=>none
def kQ(P:an6)(fn:Func)(R:AV):Exit->St->Prop
 | .normal,s=>xa P fn.results.toList s=some R
 | .ret,s=>xa P fn.results.toList s=some R
 |_,_=>False
theorem B5:∀(l:an3 ResultVar)(xs:an3 AV)(C:an3 AV->Prop),sP P s l=some xs->C xs->mS P s l C
 |[],xs,C,h,hC=>by cases h;exact hC
 | .tmp t::l,xs,C,h,hC=>by
   unfold sP at h;split at h
   ·next ys e=>cases h;exact B5 l ys _ e hC
   ·cases h
 | .cell p t::l,xs,C,h,hC=>by
   unfold sP at h;split at h
   ·next cs off e=>
    split at h
    ·next x ys e1 e2=>cases h;exact OR e e1 (B5 l ys _ e2 hC)
    ·cases h
   ·cases h
theorem UM{fn:Func}{R:AV}(h:xa P fn.results.toList s=some R):qy P fn 0 (λr h'=>h'=[]/\r.nrm=R) s:=by
 unfold xa at h;split at h
 ·next l e=>
  obtain⟨hb,rfl⟩:=dT h;exact B5 _ l _ e ⟨Nat.zero_le _,hb,by simp,by simp,rfl⟩
 ·cases h
theorem gk{fn:Func}{R:AV}(h:xa P fn.results.toList s=some R):kQ P fn R .ret s:=h
theorem qj{f:FuncId}{fn:Func}{c:Code}{args:an3 AV}{R:AV}(hf:P.funcs[f]?=some fn)(hb:fn.body=some c)(hn:(fn.name== "runtime.NumGoroutine")=false)
 (hw:bw P none 0 c (kQ P fn R) {n:=args.length+(fn.ntmps-args.length),t:=lS 0 args,h:=[]}):fP P f args (·=R):=by
 have h:=uR (P:=P) (f:=f) (args:=args) (h:=[]) (K:=λr h'=>h'=[]/\r.nrm=R) 0 hf hb hn (anp _) (hw.mono λe s hq=>by
  cases e with
  |normal=>exact UM hq
  |ret=>exact UM hq
  |_=>exact hq.elim)
 refine⟨h.1,λG w vs hi hl hr=>(h.2 G w vs hi hl hr).mono λe w' hp=> ?_⟩;obtain⟨v,G',x,h',rfl,hE,hN,dM,hv,rfl,rfl⟩:=hp;exact⟨v,G',x.nrm,[],rfl,hE,hN,dM,hv.nrm,rfl,rfl⟩
theorem anb{c:Code}(b i:Nat)(xs:an3 (an3 D))(hx:((s.h[b]?).bind λB=>match B with| .cells cs=>(cs[i]?).bind AV.fE|_=>none)=some xs)(h:xs.length<=maxLen->bw P r N0 c Q s):bw P r N0 c Q s:=by
 constructor
 intro G w a n hs hN;cases hb:s.h[b]? with
 |none=>rw[hb]at hx;cases hx
 |some B=>
  rw[hb]at hx;cases B with
  |cells cs=>
   simp only[anc]at hx;obtain⟨_,_,vs,T,_,hl,hr⟩:=hs.inv.cV b _ hb;cases hc:cs[i]? with
   |none=>rw[hc]at hx;cases hx
   |some x=>
    rw[hc]at hx;have aI:i<vs.size:=by rw[hl];exact(ane.1 hc).1
    obtain⟨A,b',o,c',k',us,_,_,J,h2,_⟩:=((hr i _ x (anB aI) hc).list hx).qD;exact(h (anw J h2)).run G w a n hs hN
  |_=>cases hx
end
theorem adX{P:an6}{r:an5 Nat}{N0 id:Nat}{ol:an3 Oper}{y:Code}{s:St}{Q Q':Exit->St->Prop}(Δ:an3 (Nat×AV))(h':an3 ao)(h:∃aw:an3 (Nat×Ob P),qq P false ol (iU aw) (Δ.map (·.1)) s=some (Δ,h',jj aw))(k:bw P r N0 y Q' ⟨s.n,Δ++s.t,h'⟩):bw P r N0 (.region id ol.toArray false) (iL (λs=>bw P r N0 y Q' s) Q) s:=
 let ⟨aw,h⟩:=h;XN aw Δ h' h k
theorem dj{α:Type}{c:Bool}{a b:α}(h:c=true):cond c a b=a:=by rw[h];rfl
theorem dV{α:Type}{c:Bool}{a b:α}(h:c=false):cond c a b=b:=by rw[h];rfl
theorem ck{α β:Type}{x:an5 α}{f:α->an5 β}{b:β}(h:Option.bind x f=some b):∃a,x=some a/\f a=some b:=by
 cases x with
 |none=>cases h
 |some a=>exact⟨a,rfl,h⟩
theorem dU(b:Bool):b=true\/b=false:=by cases b<;>simp
theorem dK{b:Bool}(h:b=true):(!b)=false:=by rw[h];rfl
theorem eD{b:Bool}(h:b=false):(!b)=true:=by rw[h];rfl
theorem nc{α:Type}{c:Bool}{x:an5 α}{r:α}(h:(bif c then x else none)=some r):c=true:=by
 cases c with
 |true=>rfl
 |false=>cases h
section
variable {P:an6} {r:an5 Nat} {N0 id n:Nat} {ol:an3 Oper} {y:Code} {t:an3 (Nat×AV)} {h:an3 ao} {Q Q':Exit->St->Prop}
theorem rg(aw:an3 (Nat×Ob P))(Δ:an3 (Nat×AV))(h':an3 ao)(e:qq P false ol (iU aw) (Δ.map (·.1)) ⟨n,t,h⟩=some (Δ,h',jj aw))(k:bw P r N0 y Q' ⟨n,Δ++t,h'⟩):bw P r N0 (.region id ol.toArray false) (iL (λs=>bw P r N0 y Q' s) Q) ⟨n,t,h⟩:=XN aw Δ h' e k
theorem rd(hm:P.follows .mixedOrders=true)(hl:qk ol.toArray=true)(aw:an3 (Nat×Ob P))(Δ:an3 (Nat×AV))(h':an3 ao)(e:qq P true ol (iU aw) (Δ.map (·.1)) ⟨n,t,h⟩=some (Δ,h',jj aw))(k:bw P r N0 y Q' ⟨n,Δ++t,h'⟩):bw P r N0 (.region id ol.toArray true) (iL (λs=>bw P r N0 y Q' s) Q) ⟨n,t,h⟩:=ai3 hm hl aw Δ h' e k
theorem re(aw:an3 (Nat×Ob P))(Δ:an3 (Nat×AV))(h':an3 ao)(e:xu P false ol (iU aw) ⟨n,t,h⟩=some (Δ++t,h',jj aw))(k:Q .normal ⟨n,Δ++t,h'⟩):bw P r N0 (.region id ol.toArray false) Q ⟨n,t,h⟩:=aj7 aw Δ h' e k
theorem UG(hm:P.follows .mixedOrders=true)(hl:qk ol.toArray=true)(aw:an3 (Nat×Ob P))(Δ:an3 (Nat×AV))(h':an3 ao)(e:xu P true ol (iU aw) ⟨n,t,h⟩=some (Δ++t,h',jj aw))(k:Q .normal ⟨n,Δ++t,h'⟩):bw P r N0 (.region id ol.toArray true) Q ⟨n,t,h⟩:=acB hm hl aw Δ h' e k
theorem yI(Δ:an3 (Nat×AV))(h':an3 ao)(e:∃aw:an3 (Nat×Ob P),qq P false ol (iU aw) (Δ.map (·.1)) ⟨n,t,h⟩=some (Δ,h',jj aw))(k:bw P r N0 y Q' ⟨n,Δ++t,h'⟩):bw P r N0 (.region id ol.toArray false) (iL (λs=>bw P r N0 y Q' s) Q) ⟨n,t,h⟩:=adX Δ h' e k
end
def bs(l:an3 UInt8):an4:=⟨l.toArray⟩
def AU(x:D):Prop:=∃(S:Nat->Nat->Prop)(w:an8)(u:an7),dg S w u x
theorem Js{xs:an3 (an3 D)}(h:AU (.sl xs)):xs.length<=maxLen:=by
 obtain⟨S,w,u,h⟩:=h;obtain⟨A,b',o,c',k',us,_,_,J,h2,_⟩:=h.qD;exact anw J h2
section
variable {P:an6} {r:an5 Nat} {n N0:Nat} {s:St} {Q:Exit->St->Prop}
theorem xV{c:Code}(k:Nat)(xs:an3 (an3 D))(hx:(bm s.t k).fE=some xs)(h:AU (.sl xs)->bw P r N0 c Q s):bw P r N0 c Q s:=by
 constructor
 intro G w a n hs hN;exact(h ⟨_,_,_,(hs.tmp k).list hx⟩).run G w a n hs hN
theorem ale{c:Code}(b i:Nat)(xs:an3 (an3 D))(hx:((s.h[b]?).bind λB=>match B with| .cells cs=>(cs[i]?).bind AV.fE|_=>none)=some xs)(h:AU (.sl xs)->bw P r N0 c Q s):bw P r N0 c Q s:=by
 constructor
 intro G w a n hs hN;cases hb:s.h[b]? with
 |none=>rw[hb]at hx;cases hx
 |some B=>
  rw[hb]at hx;cases B with
  |cells cs=>
   simp only[anc]at hx;obtain⟨_,_,vs,T,_,hl,hr⟩:=hs.inv.cV b _ hb;cases hc:cs[i]? with
   |none=>rw[hc]at hx;cases hx
   |some x=>
    rw[hc]at hx;have aI:i<vs.size:=by rw[hl];exact(ane.1 hc).1
    exact(h ⟨_,_,_,(hr i _ x (anB aI) hc).list hx⟩).run G w a n hs hN
  |_=>cases hx
end
end Go.Proofs.YtpeecnpmcbnahaaGreatDoor
namespace Go.Proofs.YtpeecnpmcbnahaaGreatDoor
open Go.RowKit
mutual
def AV.fq(b:Nat)(ds:an3 D):AV->AV
 | .ptr n off=>bif n==b then .bg [ds] 0 off else .ptr n off
 | .agg cs=> .agg (AV.tK b ds cs)
 | .aZ cs=> .aZ (AV.tK b ds cs)
 | .fn f cs=> .fn f (AV.tK b ds cs)
 |x=>x
def AV.tK(b:Nat)(ds:an3 D):an3 AV->an3 AV
 |[]=>[]
 |x::l=>x.fq b ds::AV.tK b ds l
end
theorem Fp(b:Nat)(ds:an3 D):∀l,AV.tK b ds l=l.map (AV.fq b ds)
 |[]=>by simp [AV.tK]
 |x::l=>by simp [AV.tK,Fp b ds l]
def ao.fq(b:Nat)(ds:an3 D):ao->ao
 | .cells cs=> .cells (cs.map (AV.fq b ds))
 | .lp ls p as bd cs=> .lp ls p as bd (cs.map (AV.fq b ds))
 | .it sn cs=> .it sn (cs.map (AV.fq b ds))
 | .eG T cs=> .eG T (cs.map (AV.fq b ds))
 | .vec e k cs=> .vec e k (cs.map (·.map (AV.fq b ds)))
 |B=>B
def wN(s:St)(b:Nat):an5 St:=
 match s.h[b]? with
 |some (.cells cs)=>match mV cs with
  |some ds=>some ⟨s.n,s.t.map λp=>(p.1,p.2.fq b ds),(s.h.map (ao.fq b ds)).set b .gone⟩
  |none=>none
 |_=>none
theorem J9(f:AV->AV)(hf:f .dead= .dead):∀(t:an3 (Nat×AV))(i:Nat),bm (t.map λp=>(p.1,f p.2)) i=f (bm t i)
 |[],i=>by simp [bm,hf]
 |(k,x)::l,i=>by
  simp only[anE,kX,J9 f hf l i];split<;>rfl
theorem aD.fq{G G':Gh}{w:an8}{b:Nat}{ds:an3 D}(hE:bI G.N G w G' w)(hN:G'.N=G.N)(hp:∀off,aD G' w (.pointer (some ⟨G.aO b,off,none⟩)) (.bg [ds] 0 off)){u:an7}{x:AV}(h:aD G w u x):aD G' w u (x.fq b ds):=by
 have keep:∀{u:an7}{x:AV},aD G w u x->aD G' w u x:=λh=>h.keep hE (Nat.le_of_eq hN.symm);have fD:∀(vs:Array an7)(cs:an3 AV),(∀(i:Nat)(u:an7)(c:AV),vs[i]?=some u->cs[i]?=some c->aD G' w u (c.fq b ds))->∀(i:Nat)(u:an7)(c:AV),vs[i]?=some u->(AV.tK b ds cs)[i]?=some c->aD G' w u c:=by
  intro vs cs ih i u c hu hc;rw[Fp,anl]at hc;cases hx:cs[i]? with
  |none=>rw[hx]at hc;cases hc
  |some x=>rw[hx]at hc;cases hc;exact ih i u x hu hx
 induction h with
 |agg vs cs hl _ ih=>rw[AV.fq];exact .agg vs _ (by rw[Fp,anj];exact hl) (fD vs cs ih)
 |aZ vs cs hl _ ih=>rw[AV.fq];exact .aZ vs _ (by rw[Fp,anj];exact hl) (fD vs cs ih)
 |fn f vs cs hl _ ih=>rw[AV.fq];exact .fn f vs _ (by rw[Fp,anj];exact hl) (fD vs cs ih)
 |ptr n off h=>
  rw[AV.fq,cond_eq_ite];split
  ·next e=>rw[beq_iff_eq]at e;subst e;exact hp off
  ·exact keep (.ptr n off h)
 |own n xs h hp hle hf=>simp only[AV.fq];exact keep (.own n xs h hp hle hf)
 |d h=>simp only[AV.fq];exact keep (.d h)
 |bg xs i off b o u x hx hS hu=>simp only[AV.fq];exact keep (.bg xs i off b o u x hx hS hu)
 |full xs hp hf=>simp only[AV.fq];exact keep (.full xs hp hf)
 |row n off len cap k h hl hm=>simp only[AV.fq];exact keep (.row n off len cap k h hl hm)
 |mp n h=>simp only[AV.fq];exact keep (.mp n h)
 |cg n h=>simp only[AV.fq];exact keep (.cg n h)
 |vec n o len L k h hs hL hf=>simp only[AV.fq];exact keep (.vec n o len L k h hs hL hf)
 |dp n i j L k h hs hL hf=>simp only[AV.fq];exact keep (.dp n i j L k h hs hL hf)
 |hid h J=>simp only[AV.fq];exact keep (.hid h J)
 |dead u=>simp only[AV.fq];exact .dead u
theorem UN:∀(cs:an3 AV)(ds:an3 D),mV cs=some ds->cs.length=ds.length/\∀(i:Nat)(c:AV)(d:D),cs[i]?=some c->ds[i]?=some d->c.wJ=some d
 |[],ds,h=>by unfold mV at h;cases h;exact⟨rfl,λi c d hc=>by simp at hc⟩
 |x::cs,ds,h=>by
  unfold mV at h;split at h
  ·next d l e1 e2=>
   cases h
   obtain⟨J,h2⟩:=UN cs l e2;refine⟨by simp [J],λi c d' hc hd=> ?_⟩
   match i with
   |0=>simp only[List.getElem?_cons_zero,Option.some.injEq]at hc hd;subst hc;subst hd;exact e1
   |i+1=>exact h2 i c d' (by simpa using hc) (by simpa using hd)
  ·cases h
theorem aD.aky{G:Gh}{w:an8}{u:an7}{x:AV}{d:D}(h:aD G w u x)(hd:x.wJ=some d):dg G.S w u d:=by
 cases h with
 |d h=>cases hd;exact h.um
 |own n xs h hp=>cases hd;exact hp
 |full xs hp=>cases hd;exact hp
 |_=>cases hd
theorem cJ.wN{G:Gh}{w:an8}{a:Act}{s s':St}{b:Nat}(hs:cJ G w a s)(h:wN s b=some s'):∃G',bI G.N G w G' w/\G'.N=G.N/\cJ G' w a s':=by
 unfold Go.Proofs.YtpeecnpmcbnahaaGreatDoor.wN at h;split at h
 ·next cs hb=>
  split at h
  ·next ds ra=>
   cases h
   obtain⟨z1,z2,vs,T,z3,z4,z5⟩:=hs.inv.cV b _ hb;obtain⟨d1,d2⟩:=UN cs ds ra;have l7:bH s.h G b=some (G.aO b):=dx hb;obtain⟨S,hS⟩:∃S:Nat->Nat->Prop,S=λb' o=>G.S b' o\/(b'=G.aO b/\o<ds.length):=⟨_,rfl⟩;have hE:bI G.N G w {G with S:=S} w:=⟨anp _,λb o h=>by show S b o;rw[hS];exact .inl h,λ_ _ _=>rfl,λ_ _=>rfl,λ_ _=> .inl ⟨rfl,rfl⟩,gU rfl,λ_ _=>rfl,rfl,rfl,rfl,λb' o hs=>by
    have cv:S b' o:=hs;rw[hS]at cv;rcases cv with h|⟨rfl,_⟩
    ·exact .inl h
    ·exact .inr z1⟩
   have hp:∀off,aD {G with S:=S} w (.pointer (some ⟨G.aO b,off,none⟩)) (.bg [ds] 0 off):=λoff=>by
    have:=aD.bg (G:={G with S:=S}) (w:=w) [ds] 0 off (G.aO b) 0 (λj=>vs.getD j undef) ds rfl (λj hj=> ?_) (λj d hd=> ?_)
    ·rwa [anz]at this
    ·have iX:j<vs.size:=by rw[z4,d1];exact hj
     refine⟨by show S _ _;rw[hS];exact .inr ⟨rfl,by rw[anz];exact hj⟩,?_⟩;rw[anz,cell_of_row w (G.aO b) j vs T (0,0) z3];simp [Array.getD,iX]
    ·have hj:j<ds.length:=(ane.1 hd).1;have iX:j<vs.size:=by rw[z4,d1];exact hj
     have hc:cs[j]?=some cs[j]:=ani (by rw[d1];exact hj);have hv:=z5 j vs[j] _ (anB iX) hc;have e:vs.getD j undef=vs[j]:=by simp [Array.getD,iX]
     rw[e];exact(hv.aky (d2 j _ d hc hd)).keep hE.S hE.cell
   have hv:∀{u:an7}{x:AV},aD G w u x->aD {G with S:=S} w u (x.fq b ds):=λh=>h.fq hE rfl hp;have ahV:=(ane.1 hb).1;have e8:∀(n:Nat)(B:ao),((s.h.map (ao.fq b ds)).set b .gone)[n]?=some B->(n=b/\B= .gone)\/(n≠b/\∃B',s.h[n]?=some B'/\B=B'.fq b ds):=λn B hB=>by
    by_cases e:b=n
    ·subst e;rw[anI (by rw[anj];exact ahV)]at hB;cases hB;exact .inl ⟨rfl,rfl⟩
    ·rw[anN e,anl]at hB;cases hx:s.h[n]? with
     |none=>rw[hx]at hB;cases hB
     |some B'=>rw[hx]at hB;cases hB;exact .inr ⟨λh=>e h.symm,B',rfl,rfl⟩
   have eo:∀n x,bH ((s.h.map (ao.fq b ds)).set b .gone) {G with S:=S} n=some x->n≠b/\bH s.h G n=some x:=λn x hx=>by
    obtain⟨B,hn,hx⟩:=ng hx;rcases e8 n _ hn with⟨_,e⟩|⟨cA,B',J,rfl⟩
    ·subst e;cases hx
    ·refine⟨cA,?_⟩;rw[dx J,<-hx];cases B'<;>rfl
   refine⟨{G with S:=S},hE,rfl,hs.size,λi=> ?_,⟨by rw[List.length_set,anj];exact hs.inv.len,hs.inv.z,λb' o h=> ?_,λn B hB=> ?_,λm n x J h2=>hs.inv.inj m n x (eo m x J).2 (eo n x h2).2,hs.inv.gl.keep hE⟩,hs.df⟩
   ·show aD _ _ _ (bm (s.t.map λp=>(p.1,p.2.fq b ds)) i);rw[J9 (AV.fq b ds) (by simp [AV.fq])];exact hv (hs.tmp i)
   ·have cv:S b' o:=h;rw[hS]at cv;rcases cv with h|⟨rfl,_⟩
    ·exact hs.inv.S b' o h
    ·exact(ant.1 z3).1
   ·rcases e8 n B hB with⟨rfl,rfl⟩|⟨cA,B',J,rfl⟩
    ·trivial
    ·have dC:=hs.inv.cV n B' J;cases B' with
     |gone=>trivial
     |map kv=>exact dP.keep (G':={G with S:=S}) (hs.inv.lt J) hE (anp _) ⟨rfl,rfl,rfl⟩ (λc hc=>⟨rfl,λo jG hq=>by
      have cv:S c o:=hq;rw[hS]at cv;rcases cv with h|⟨e,_⟩
      ·exact jG h
      ·exact cA (hs.inv.inj n b _ ((dx J).trans hc) (by rw[e];exact l7))⟩) dC
     |iy kv=>exact dP.keep (G':={G with S:=S}) (hs.inv.lt J) hE (anp _) ⟨rfl,rfl,rfl⟩ (λc hc=>⟨rfl,λo jG hq=>by
      have cv:S c o:=hq;rw[hS]at cv;rcases cv with h|⟨e,_⟩
      ·exact jG h
      ·exact cA (hs.inv.inj n b _ ((dx J).trans hc) (by rw[e];exact l7))⟩) dC
     |front e k len=>exact dP.keep (G':={G with S:=S}) (hs.inv.lt J) hE (anp _) ⟨rfl,rfl,rfl⟩ (λc hc=>⟨rfl,λo jG hq=>by
      have cv:S c o:=hq;rw[hS]at cv;rcases cv with h|⟨e,_⟩
      ·exact jG h
      ·exact cA (hs.inv.inj n b _ ((dx J).trans hc) (by rw[e];exact l7))⟩) dC
     |ig e b2=>exact dP.keep (G':={G with S:=S}) (hs.inv.lt J) hE (anp _) ⟨rfl,rfl,rfl⟩ (λc hc=>⟨rfl,λo jG hq=>by
      have cv:S c o:=hq;rw[hS]at cv;rcases cv with h|⟨e,_⟩
      ·exact jG h
      ·exact cA (hs.inv.inj n b _ ((dx J).trans hc) (by rw[e];exact l7))⟩) dC
     |cells cw=>
      obtain⟨c1,c2,fG,T',c3,c4,c5⟩:=dC;have lE:bH s.h G n=some (G.aO n):=dx J;refine⟨c1,λo hq=> ?_,fG,T',c3,by rw[anj];exact c4,λi u c hu hc=> ?_⟩
      ·have cv:S (G.aO n) o:=hq;rw[hS]at cv;rcases cv with h|⟨e,_⟩
       ·exact c2 o h
       ·exact cA (hs.inv.inj n b _ lE (by rw[e];exact l7))
      ·rw[anl]at hc;cases hx:cw[i]? with
       |none=>rw[hx]at hc;cases hc
       |some x=>rw[hx]at hc;cases hc;exact hv (c5 i u x hu hx)
     |lp ls p as bd cw=>
      obtain⟨c1,c2,fn,fG,T',c3,c4,c5⟩:=dC;have lE:bH s.h G n=some (G.aO n):=dx J;refine⟨c1,λo hq=> ?_,fn,fG,T',c3,by rw[anj];exact c4,λi u c hu hc=> ?_⟩
      ·have cv:S (G.aO n) o:=hq;rw[hS]at cv;rcases cv with h|⟨e,_⟩
       ·exact c2 o h
       ·exact cA (hs.inv.inj n b _ lE (by rw[e];exact l7))
      ·rw[anl]at hc;cases hx:cw[i]? with
       |none=>rw[hx]at hc;cases hc
       |some x=>rw[hx]at hc;cases hc;exact hv (c5 i u x hu hx)
     |it sn cw=>
      obtain⟨c1,c2,fn,fG,T',c3,c4,c5⟩:=dC;have lE:bH s.h G n=some (G.aO n):=dx J;refine⟨c1,λo hq=> ?_,fn,fG,T',c3,by rw[anj];exact c4,λi u c hu hc=> ?_⟩
      ·have cv:S (G.aO n) o:=hq;rw[hS]at cv;rcases cv with h|⟨e,_⟩
       ·exact c2 o h
       ·exact cA (hs.inv.inj n b _ lE (by rw[e];exact l7))
      ·rw[anl]at hc;cases hx:cw[i]? with
       |none=>rw[hx]at hc;cases hc
       |some x=>rw[hx]at hc;cases hc;exact hv (c5 i u x hu hx)
     |eG T0 cw=>
      obtain⟨c1,c2,fn,fG,T',c3,c4,c5⟩:=dC;have lE:bH s.h G n=some (G.aO n):=dx J;refine⟨c1,λo hq=> ?_,fn,fG,T',c3,by rw[anj];exact c4,λi u c hu hc=> ?_⟩
      ·have cv:S (G.aO n) o:=hq;rw[hS]at cv;rcases cv with h|⟨e,_⟩
       ·exact c2 o h
       ·exact cA (hs.inv.inj n b _ lE (by rw[e];exact l7))
      ·rw[anl]at hc;cases hx:cw[i]? with
       |none=>rw[hx]at hc;cases hc
       |some x=>rw[hx]at hc;cases hc;exact hv (c5 i u x hu hx)
     |vec e k cw=>
      obtain⟨c1,c2,c3,c4⟩:=dC;refine⟨by rw[anj];exact c1,by rw[anj];exact c2,λc hc=> ?_,?_⟩
      ·obtain⟨x,hx,rfl⟩:=List.mem_map.1 hc;rw[anj];exact c3 x hx
      ·rcases c4 with⟨d1,d2,A,d3⟩|⟨g,cap,cur,d1,d2,d3,d4,d5,d6,d7,d8,d9⟩
       ·exact .inl ⟨d1,by rw[d2];rfl,A,d3⟩
       ·have lE:bH s.h G n=some g:=(dx J).trans d1;refine .inr ⟨g,cap,cur,d1,by rw[anj];exact d2,d3,d4,by rw[anj];exact d5,d6,d7,λo hq=> ?_,λi j c x u hc hx hu=> ?_⟩
        ·have cv:S g o:=hq;rw[hS]at cv;rcases cv with h|⟨e,_⟩
         ·exact d8 o h
         ·exact cA (hs.inv.inj n b _ lE (by rw[e];exact l7))
        ·rw[anl]at hc;cases hy:cw[i]? with
         |none=>rw[hy]at hc;cases hc
         |some y=>
          rw[hy]at hc;cases hc
          rw[anl]at hx;cases hw:y[j]? with
          |none=>rw[hw]at hx;cases hx
          |some z=>rw[hw]at hx;cases hx;exact hv (d9 i j y z u hy hw hu)
  ·cases h
 ·cases h
theorem ade{P:an6}{r:an5 Nat}{N0:Nat}{c:Code}{s s':St}{Q:Exit->St->Prop}(b:Nat)(e:wN s b=some s')(h:bw P r N0 c Q s'):bw P r N0 c Q s:=by
 constructor
 intro G w a n hs hN;obtain⟨G',hE,qp,cv⟩:=hs.wN e;exact wpIn_mono (h.run G' w a n cv (by rw[qp];exact hN)) λ_ _ _ hn=>hn.trans (hE.less hN)
def D.A0:D->Bool
 | .v u=>u.oneCell'
 | .sl _=>true
 | .ag _=>false
mutual
def AV.kill(b:Nat):AV->AV
 | .vec n o len L k=>bif n==b then .dead else .vec n o len L k
 | .dp n i j L k=>bif n==b then .dead else .dp n i j L k
 | .agg cs=> .agg (AV.J2 b cs)
 | .aZ cs=> .aZ (AV.J2 b cs)
 | .fn f cs=> .fn f (AV.J2 b cs)
 |x=>x
def AV.J2(b:Nat):an3 AV->an3 AV
 |[]=>[]
 |x::l=>x.kill b::AV.J2 b l
end
def ao.lF(f:AV->AV):ao->ao
 | .cells cs=> .cells (cs.map f)
 | .lp ls p as bd cs=> .lp ls p as bd (cs.map f)
 | .it sn cs=> .it sn (cs.map f)
 | .eG T cs=> .eG T (cs.map f)
 | .vec e k cs=> .vec e k (cs.map (·.map f))
 |B=>B
theorem amj{G:Gh}{w:an8}{h:an3 ao}(hi:bJ G w h){b:Nat}{S:Nat->Nat->Prop}{f:AV->AV}(hE:bI G.N G w {G with S:=S} w)(hS:∀c o,S c o->G.S c o\/bH h G b=some c)(hv:∀{u:an7}{x:AV},aD G w u x->aD {G with S:=S} w u (f x)):
 bJ {G with S:=S} w ((h.map (ao.lF f)).set b .gone):=by
 have e8:∀(n:Nat)(B:ao),((h.map (ao.lF f)).set b .gone)[n]?=some B->(n=b/\B= .gone)\/(n≠b/\∃B',h[n]?=some B'/\B=B'.lF f):=λn B hB=>by
  by_cases e:b=n
  ·subst e;have aI:=(ane.1 hB).1;rw[List.length_set]at aI;rw[anI aI]at hB;cases hB;exact .inl ⟨rfl,rfl⟩
  ·rw[anN e,anl]at hB;cases hx:h[n]? with
   |none=>rw[hx]at hB;cases hB
   |some B'=>rw[hx]at hB;cases hB;exact .inr ⟨λh=>e h.symm,B',rfl,rfl⟩
 have eo:∀n x,bH ((h.map (ao.lF f)).set b .gone) {G with S:=S} n=some x->n≠b/\bH h G n=some x:=λn x hx=>by
  obtain⟨B,hn,hx⟩:=ng hx;rcases e8 n _ hn with⟨_,e⟩|⟨cA,B',J,rfl⟩
  ·subst e;cases hx
  ·refine⟨cA,?_⟩;rw[dx J,<-hx];cases B'<;>rfl
 refine⟨by rw[List.length_set,anj];exact hi.len,hi.z,λc o hs=> ?_,λn B hB=> ?_,λm n x J h2=>hi.inj m n x (eo m x J).2 (eo n x h2).2,hi.gl.keep hE⟩
 ·rcases hS c o hs with J|J
  ·exact hi.S c o J
  ·exact hi.gX J
 ·rcases e8 n B hB with⟨rfl,rfl⟩|⟨cA,B',J,rfl⟩
  ·trivial
  ·have dC:=hi.cV n B' J;have fk:∀c,B'.dL G n=some c->∀o,¬G.S c o->¬S c o:=λc hc o jG hq=>by
    rcases hS c o hq with h2|h2
    ·exact jG h2
    ·exact cA (hi.inj n b c ((dx J).trans hc) h2)
   cases B' with
   |gone=>trivial
   |map kv=>exact dP.keep (G':={G with S:=S}) (hi.lt J) hE (anp _) ⟨rfl,rfl,rfl⟩ (λc hc=>⟨rfl,fk c hc⟩) dC
   |iy kv=>exact dP.keep (G':={G with S:=S}) (hi.lt J) hE (anp _) ⟨rfl,rfl,rfl⟩ (λc hc=>⟨rfl,fk c hc⟩) dC
   |front e k len=>exact dP.keep (G':={G with S:=S}) (hi.lt J) hE (anp _) ⟨rfl,rfl,rfl⟩ (λc hc=>⟨rfl,fk c hc⟩) dC
   |ig e b2=>exact dP.keep (G':={G with S:=S}) (hi.lt J) hE (anp _) ⟨rfl,rfl,rfl⟩ (λc hc=>⟨rfl,fk c hc⟩) dC
   |cells cw=>
    obtain⟨c1,c2,fG,T',c3,c4,c5⟩:=dC;refine⟨c1,λo=>fk _ rfl o (c2 o),fG,T',c3,by rw[anj];exact c4,λi u c hu hc=> ?_⟩;rw[anl]at hc;cases hx:cw[i]? with
    |none=>rw[hx]at hc;cases hc
    |some x=>rw[hx]at hc;cases hc;exact hv (c5 i u x hu hx)
   |lp ls p as bd cw=>
    obtain⟨c1,c2,fn,fG,T',c3,c4,c5⟩:=dC;refine⟨c1,λo=>fk _ rfl o (c2 o),fn,fG,T',c3,by rw[anj];exact c4,λi u c hu hc=> ?_⟩;rw[anl]at hc;cases hx:cw[i]? with
    |none=>rw[hx]at hc;cases hc
    |some x=>rw[hx]at hc;cases hc;exact hv (c5 i u x hu hx)
   |it sn cw=>
    obtain⟨c1,c2,fn,fG,T',c3,c4,c5⟩:=dC;refine⟨c1,λo=>fk _ rfl o (c2 o),fn,fG,T',c3,by rw[anj];exact c4,λi u c hu hc=> ?_⟩;rw[anl]at hc;cases hx:cw[i]? with
    |none=>rw[hx]at hc;cases hc
    |some x=>rw[hx]at hc;cases hc;exact hv (c5 i u x hu hx)
   |eG T0 cw=>
    obtain⟨c1,c2,fn,fG,T',c3,c4,c5⟩:=dC;refine⟨c1,λo=>fk _ rfl o (c2 o),fn,fG,T',c3,by rw[anj];exact c4,λi u c hu hc=> ?_⟩;rw[anl]at hc;cases hx:cw[i]? with
    |none=>rw[hx]at hc;cases hc
    |some x=>rw[hx]at hc;cases hc;exact hv (c5 i u x hu hx)
   |vec e k cw=>
    obtain⟨c1,c2,c3,c4⟩:=dC;refine⟨by rw[anj];exact c1,by rw[anj];exact c2,λc hc=> ?_,?_⟩
    ·obtain⟨x,hx,rfl⟩:=List.mem_map.1 hc;rw[anj];exact c3 x hx
    ·rcases c4 with⟨d1,d2,A,d3⟩|⟨g,cap,cur,d1,d2,d3,d4,d5,d6,d7,d8,d9⟩
     ·exact .inl ⟨d1,by rw[d2];rfl,A,d3⟩
     ·refine .inr ⟨g,cap,cur,d1,by rw[anj];exact d2,d3,d4,by rw[anj];exact d5,d6,d7,λo=>fk g d1 o (d8 o),λi j c x u hc hx hu=> ?_⟩;rw[anl]at hc;cases hy:cw[i]? with
      |none=>rw[hy]at hc;cases hc
      |some y=>
       rw[hy]at hc;cases hc
       rw[anl]at hx;cases hw:y[j]? with
       |none=>rw[hw]at hx;cases hx
       |some z=>rw[hw]at hx;cases hx;exact hv (d9 i j y z u hy hw hu)
mutual
def AV.di(b kk:Nat)(xs:an3 (an3 D)):AV->AV
 | .vec n o len L k=>bif n==b then(bif L==xs.length&&k==kk then .d (.sl ((xs.drop o).take len))else .dead)else .vec n o len L k
 | .dp n i j L k=>bif n==b then .dead else .dp n i j L k
 | .agg cs=> .agg (AV.pw b kk xs cs)
 | .aZ cs=> .aZ (AV.pw b kk xs cs)
 | .fn f cs=> .fn f (AV.pw b kk xs cs)
 |x=>x
def AV.pw(b kk:Nat)(xs:an3 (an3 D)):an3 AV->an3 AV
 |[]=>[]
 |x::l=>x.di b kk xs::AV.pw b kk xs l
end
theorem wg(b kk:Nat)(xs:an3 (an3 D)):∀l,AV.pw b kk xs l=l.map (AV.di b kk xs)
 |[]=>by simp [AV.pw]
 |x::l=>by simp [AV.pw,wg b kk xs l]
theorem aD.di{G G':Gh}{w:an8}{b kk:Nat}{xs:an3 (an3 D)}(hE:bI G.N G w G' w)(hN:G'.N=G.N)(hp:∀(u:an7)(o len:Nat),aD G w u (.vec b o len xs.length kk)->dg G'.S w u (.sl ((xs.drop o).take len))){u:an7}{x:AV}(h:aD G w u x):aD G' w u (x.di b kk xs):=by
 have keep:∀{u:an7}{x:AV},aD G w u x->aD G' w u x:=λh=>h.keep hE (Nat.le_of_eq hN.symm);have fD:∀(vs:Array an7)(cs:an3 AV),(∀(i:Nat)(u:an7)(c:AV),vs[i]?=some u->cs[i]?=some c->aD G' w u (c.di b kk xs))->∀(i:Nat)(u:an7)(c:AV),vs[i]?=some u->(AV.pw b kk xs cs)[i]?=some c->aD G' w u c:=by
  intro vs cs ih i u c hu hc;rw[wg,anl]at hc;cases hx:cs[i]? with
  |none=>rw[hx]at hc;cases hc
  |some x=>rw[hx]at hc;cases hc;exact ih i u x hu hx
 induction h with
 |agg vs cs hl _ ih=>rw[AV.di];exact .agg vs _ (by rw[wg,anj];exact hl) (fD vs cs ih)
 |aZ vs cs hl _ ih=>rw[AV.di];exact .aZ vs _ (by rw[wg,anj];exact hl) (fD vs cs ih)
 |fn f vs cs hl _ ih=>rw[AV.di];exact .fn f vs _ (by rw[wg,anj];exact hl) (fD vs cs ih)
 |vec n o len L k h hs hL hf=>
  rw[AV.di,cond_eq_ite];split
  ·next e=>
   have e:n=b:=by simpa using e
   subst e;rw[cond_eq_ite];split
   ·next e2=>
    rw[ang,beq_iff_eq,beq_iff_eq]at e2;obtain⟨rfl,rfl⟩:=e2;exact .d (hp _ o len (.vec n o len _ _ h hs hL hf))
   ·exact .dead _
  ·exact keep (.vec n o len L k h hs hL hf)
 |dp n i j L k h hs hL hf=>
  rw[AV.di,cond_eq_ite];split
  ·exact .dead _
  ·exact keep (.dp n i j L k h hs hL hf)
 |ptr n off h=>simp only[AV.di];exact keep (.ptr n off h)
 |own n xs h hp hle hf=>simp only[AV.di];exact keep (.own n xs h hp hle hf)
 |d h=>simp only[AV.di];exact keep (.d h)
 |bg xs i off b o u x hx hS hu=>simp only[AV.di];exact keep (.bg xs i off b o u x hx hS hu)
 |full xs hp hf=>simp only[AV.di];exact keep (.full xs hp hf)
 |row n off len cap k h hl hm=>simp only[AV.di];exact keep (.row n off len cap k h hl hm)
 |mp n h=>simp only[AV.di];exact keep (.mp n h)
 |cg n h=>simp only[AV.di];exact keep (.cg n h)
 |hid h J=>simp only[AV.di];exact keep (.hid h J)
 |dead u=>simp only[AV.di];exact .dead u
theorem cJ.Ug{G:Gh}{w:an8}{a:Act}{s:St}(hs:cJ G w a s)(xs:an3 (an3 D)){b e k:Nat}(hb:s.h[b]?=some (.vec e k (bU xs)))(jt:∀c∈xs,c.all D.A0=true)
 :∃G',bI G.N G w G' w/\G'.N=G.N/\cJ G' w a ⟨s.n,s.t.map λp=>(p.1,p.2.di b k xs),(s.h.map (ao.lF (AV.di b k xs))).set b .gone⟩:=by
 obtain⟨L,hL⟩:∃L,xs.length=L:=⟨_,rfl⟩;have pk:(bU xs).length=L:=by unfold bU;rw[anj];exact hL
 have jm:=BW hs.inv hb;have nA:∀d∈xs,d.length=k:=λd hd=>by
  have:=jm (d.map .d) (by unfold bU;exact List.mem_map.2 ⟨d,hd,rfl⟩)
  rwa [anj]at this
 obtain⟨S,hS⟩:∃S:Nat->Nat->Prop,S=λc o=>G.S c o\/(bH s.h G b=some c/\o<L*k):=⟨_,rfl⟩;have hE:bI G.N G w {G with S:=S} w:=⟨anp _,λb o h=>by show S b o;rw[hS];exact .inl h,λ_ _ _=>rfl,λ_ _=>rfl,λ_ _=> .inl ⟨rfl,rfl⟩,gU rfl,λ_ _=>rfl,rfl,rfl,rfl,λc o hq=>by
  have cv:S c o:=hq;rw[hS]at cv;rcases cv with h|⟨h,_⟩
  ·exact .inl h
  ·obtain⟨B,hB,fK⟩:=ng h;exact .inr ((hs.inv.cV b B hB).lf fK)⟩
 have ZG:∀(u:an7)(o len:Nat),aD G w u (.vec b o len xs.length k)->dg S w u (.sl ((xs.drop o).take len)):=λu o len oz=>by
  rw[hL]at oz;have lB:=oz.tf hs.inv hb pk;obtain⟨AK,⟨A,cc,q1,q2,q3,q4,q5⟩,_⟩:=lB;generalize hy:(xs.drop o).take len=ys;have ph:ys.length=len:=by rw[<-hy,List.length_take,List.length_drop];omega
  rw[q1,<-ph];show dg S w _ _;by_cases hh0:True
  ·skip
   by_cases h0:len=0
   ·have:ys=[]:=List.eq_nil_of_length_eq_zero (by omega);subst this;exact .sl A 0 0 cc 0 [] (λ_ _=>undef) (λh=>absurd rfl h) (Nat.zero_le _) q3 (λ_ h=>absurd h anV) (λi j hi=>absurd hi (anH _)) (λi j x d hx=>by simp at hx)
   ·obtain⟨g,cap,s1,rfl,s3⟩:=q5 (by omega);obtain⟨g',C4,cur,r1,r2,r3,r4,r5,r6,r7,r8,r9⟩:=BQ hs.inv hb (λe=>by rw[e]at pk;simp at pk;omega);rw[r2]at s1;cases s1
    have l7:bH s.h G b=some g:=(dx hb).trans r1;have jO:∀i,i<len->ys[i]?=xs[o+i]?:=λi dM=>by rw[<-hy,List.getElem?_take_of_lt dM,List.getElem?_drop]
    have hcell:∀i j,i<len->j<k->o*k+i*k+j<cur.size:=λi j hi hj=>by
     have:=m8 (i:=o+i) (k:=k) (L:=(bU xs).length) (j:=j) (by omega) hj;rw[Nat.add_mul]at this;have h2:(bU xs).length*k<=cap*k:=Nat.mul_le_mul_right k (by omega);rw[r7];omega
    have wI:∀(i j:Nat)(x:an3 D)(d:D),i<len->ys[i]?=some x->x[j]?=some d->aD G w (cur.getD (o*k+i*k+j) undef) (.d d):=λi j x d hi hx hd=>by
     rw[jO i hi]at hx;have hj:j<k:=by rw[<-nA x (anr hx)];exact(ane.1 hd).1
     refine r9 (o+i) j (x.map .d) (.d d) _ (by unfold bU;rw[anl,hx];rfl) (by rw[anl,hd];rfl) ?_;have hc:=hcell i j hi hj;rw[show(o+i)*k+j=o*k+i*k+j by rw[Nat.add_mul]];simp [Array.getD,hc]
    refine .sl _ g (o*k) cc k ys (λi j=>cur.getD (o*k+i*k+j) undef) (λ_=>rfl) (by omega) q3 (λx hx=> ?_) (λi j hi hj=>⟨?_,?_,?_⟩) (λi j x d hx hd=> ?_)
    ·rw[<-hy]at hx;exact nA x (List.mem_of_mem_drop (List.mem_of_mem_take hx))
    ·rw[hS];refine .inr ⟨l7,?_⟩;have:=m8 (i:=o+i) (k:=k) (L:=(bU xs).length) (j:=j) (by omega) hj;rw[Nat.add_mul]at this;exact this
    ·rw[cell_of_row w g _ cur e (0,0) r4];have hc:=hcell i j (by omega) hj;simp [Array.getD,hc]
    ·have dM:i<len:=by omega
     obtain⟨x,hx⟩:∃x,ys[i]?=some x:=⟨_,ani hi⟩;have yE:=hx;rw[jO i dM]at yE;have jI:=anr yE;obtain⟨d,hd⟩:∃d,x[j]?=some d:=⟨_,ani (by rw[nA x jI];exact hj)⟩;refine(wI i j x d dM hx hd).ky ?_;have J:=jt x jI;rw[anF]at J;have h2:=J d (anr hd);cases d with
     |v u=>exact h2
     |sl l=>rfl
     |ag l=>exact absurd h2 Bool.false_ne_true
    ·have dM:i<len:=by rw[<-ph];exact(ane.1 hx).1
     have:=wI i j x d dM hx hd;generalize cur.getD (o*k+i*k+j) undef=q at this;cases this with|d h=>exact h.keep hE.S hE.cell
  ·exact(hh0 trivial).elim
 have hinv:=amj (b:=b) (f:=AV.di b k xs) hs.inv hE (λc o hq=>by rw[hS]at hq;exact hq.imp id And.left) (λhq=>hq.di hE rfl ZG);have cv:cJ {G with S:=S} w a ⟨s.n,s.t.map λp=>(p.1,p.2.di b k xs),(s.h.map (ao.lF (AV.di b k xs))).set b .gone⟩:=by
  refine⟨hs.size,λi=> ?_,hinv,hs.df⟩;show aD _ _ _ (bm (s.t.map λp=>(p.1,p.2.di b k xs)) i);rw[J9 (AV.di b k xs) (by simp [AV.di])];exact(hs.tmp i).di hE rfl ZG
 exact⟨_,hE,rfl,cv⟩
def xm(P:an6)(rs:an3 ResultVar)(m:Nat)(s:St):an5 (AV×an3 ao):=
 match sP P s rs with
 |some l=>bif cf m s.h.length&&((jX l).bo m).aC m&&(((s.h.take m).map (ao.bo m)).all (ao.aC m))then some (((jX l).bo m).nrm,((s.h.take m).map (ao.bo m)).map ao.pn)else none
 |none=>none
def uH(P:an6)(fn:Func)(m:Nat)(R:AV)(H:an3 ao):Exit->St->Prop
 | .normal,s=>xm P fn.results.toList m s=some (R,H)
 | .ret,s=>xm P fn.results.toList m s=some (R,H)
 |_,_=>False
theorem SE{P:an6}{s:St}{fn:Func}{m:Nat}{R:AV}{H:an3 ao}(h:xm P fn.results.toList m s=some (R,H)):qy P fn m (λr h'=>r.nrm=R/\h'.map ao.pn=H) s:=by
 unfold xm at h;split at h
 ·next l e=>
  obtain⟨hb,he⟩:=dT h;cases he
  simp only[ang,c6]at hb;exact B5 _ _ _ e ⟨hb.1.1,hb.1.2,hb.2,rfl,rfl⟩
 ·cases h
theorem jl{P:an6}{s:St}{fn:Func}{m:Nat}{R:AV}{H:an3 ao}(h:xm P fn.results.toList m s=some (R,H)):uH P fn m R H .ret s:=h
theorem qG{P:an6}{f:FuncId}{fn:Func}{c:Code}{args:an3 AV}{h H:an3 ao}{R:AV}(m:Nat)(hf:P.funcs[f]?=some fn)(hb:fn.body=some c)(hn:(fn.name== "runtime.NumGoroutine")=false)(hm:h.length<=m)
 (hw:bw P none h.length c (uH P fn m R H) {n:=args.length+(fn.ntmps-args.length),t:=lS 0 args,h:=h}):cF P f args h λr1 J=>r1=R/\J=H:=by
 have h0:=uR (P:=P) (f:=f) (args:=args) (h:=h) (K:=λr h'=>r.nrm=R/\h'.map ao.pn=H) m hf hb hn hm (hw.mono λe s hq=>by
  cases e with
  |normal=>exact SE hq
  |ret=>exact SE hq
  |_=>exact hq.elim)
 refine⟨h0.1,λG w vs hi hl hr=>(h0.2 G w vs hi hl hr).mono λe w' hp=> ?_⟩;obtain⟨v,G',x,h',rfl,hE,hN,dM,hv,rfl,rfl⟩:=hp;exact⟨v,G',x.nrm,_,rfl,hE,hN,Ng dM,hv.nrm,rfl,rfl⟩
theorem mG{P:an6}{r:an5 Nat}{N0:Nat}{c:Code}{s s':St}{Q:Exit->St->Prop}(e:s=s')(h:bw P r N0 c Q s'):bw P r N0 c Q s:=e▸h
def ga{V:Type}:an3 (an4×V)->an4->V->V
 |[],_,d=>d
 |(k,v)::l,s,d=>bif bL k==bL s then v else ga l s d
def lR{V:Type}:an3 (an4×V)->an4->Bool
 |[],_=>false
 |(k,_)::l,s=>bif bL k==bL s then true else lR l s
def fa(l:an3 (an4×Int)):an3 (an4×D):=l.map λp=>(p.1, .v (.int .i64 p.2))
def zR(l:an3 (an4×Bool)):an3 (an4×D):=l.map λp=>(p.1, .v (.bool p.2))
theorem WS{V:Type}(f:V->D):∀(l:an3 (an4×V))(s:an4)(d:V),la (l.map λp=>(p.1,f p.2)) s=bif lR l s then some (f (ga l s d))else none
 |[],s,d=>rfl
 |(k,v)::l,s,d=>by
  simp only[anE,la,lR,ga];cases bL k==bL s with
  |true=>rfl
  |false=>simp only[cond_false];exact WS f l s d
theorem aag{V:Type}:∀(l:an3 (an4×V))(s:an4)(d:V),lR l s=false->ga l s d=d
 |[],s,d,_=>rfl
 |(k,v)::l,s,d,h=>by
  unfold lR at h;unfold ga;cases e:bL k==bL s with
  |true=>rw[e]at h;cases h
  |false=>rw[e]at h;simp only[cond_false];exact aag l s d h
theorem QT{V:Type}(f:V->D)(F:V->AV)(hF:∀x,Ge (f x)=F x)(z:an7)(d0:V)(hz:AJ z=F d0)(ok:Bool)(l:an3 (an4×V))(s:an4):
 ry ok z (la (l.map λp=>(p.1,f p.2)) s)=bif ok then .aZ [F (ga l s d0), .d (.v (.bool (lR l s)))]else F (ga l s d0):=by
 rw[WS f l s d0];cases e:lR l s with
 |true=>cases ok<;>simp only[ry,cond_true,cond_false,hF]
 |false=>rw[aag l s d0 e];cases ok<;>simp only[ry,cond_true,cond_false,hz]
theorem BS(ok:Bool)(l:an3 (an4×Int))(s:an4):ry ok (.int .i64 0) (la (fa l) s)=bif ok then .aZ [.d (.v (.int .i64 (ga l s 0))), .d (.v (.bool (lR l s)))]else .d (.v (.int .i64 (ga l s 0))):=
 QT (λn=> .v (.int .i64 n)) (λn=> .d (.v (.int .i64 n))) (λ_=>rfl) _ 0 rfl ok l s
theorem aeM(ok:Bool)(l:an3 (an4×Bool))(s:an4):ry ok (.bool false) (la (zR l) s)=bif ok then .aZ [.d (.v (.bool (ga l s false))), .d (.v (.bool (lR l s)))]else .d (.v (.bool (ga l s false))):=
 QT (λn=> .v (.bool n)) (λn=> .d (.v (.bool n))) (λ_=>rfl) _ false rfl ok l s
def bP{α:Type}(f:α->an3 D)(l:an3 (an4×α)):an3 (an4×D):=l.map λp=>(p.1, .ag (f p.2))
theorem aep{α:Type}(f:α->an3 D)(z:an7)(d0:α)(hz:AJ z= .agg ((f d0).map .d))(ok:Bool)(l:an3 (an4×α))(s:an4):
 ry ok z (la (bP f l) s)=bif ok then .aZ [.agg ((f (ga l s d0)).map .d), .d (.v (.bool (lR l s)))]else .agg ((f (ga l s d0)).map .d):=
 QT (λx=> .ag (f x)) (λx=> .agg ((f x).map .d)) (λ_=>rfl) _ d0 hz ok l s
theorem aeN{α:Type}{f:α->an3 D}{l:an3 (an4×α)}(h:Nat.blt l.length 9223372036854775807=true):(Sd.lt (bP f l).length).ok:=by
 unfold bP;rw[anj];exact anm h
theorem Pj{l:an3 (an4×Int)}(h:Nat.blt l.length 9223372036854775807=true):(Sd.lt (fa l).length).ok:=by
 unfold fa;rw[anj];exact anm h
theorem ahE{l:an3 (an4×Bool)}(h:Nat.blt l.length 9223372036854775807=true):(Sd.lt (zR l).length).ok:=by
 unfold zR;rw[anj];exact anm h
def gI(g:Nat):an3 Int:=((Bc An g).getD []).map λv=>match v with| .int _ n=>n|_=>0
def akJ(l:an3 Int):an4:=⟨(l.map λn=>UInt8.ofNat n.toNat).toArray⟩
theorem ams{α:Type}{c:Bool}{x y z:α}(h:(bif c then x else y)=z):(c=true/\x=z)\/(c=false/\y=z):=by
 cases c with
 |true=>exact .inl ⟨rfl,h⟩
 |false=>exact .inr ⟨rfl,h⟩
inductive HD
 |same
 |push (B:ao)
 |set (n:Nat) (B:ao)
def HD.app:HD->an3 ao->an3 ao
 | .same,h=>h
 | .push B,h=>h++[B]
 | .set n B,h=>h.set n B
def zN:Int->an5 Nat
 | .ofNat n=>some n
 | .negSucc _=>none
theorem Dh{z:Int}{n:Nat}(h:zN z=some n):0<=z/\z.toNat=n:=by
 cases z with
 |ofNat m=>cases h;exact⟨Int.natCast_nonneg _,rfl⟩
 |negSucc m=>cases h
def uX(ρ:Operand->AV)(d:Nat):an5 Operand->an5 Nat
 |none=>some d
 |some y=>match (ρ y).int? with
  |some z=>zN z
  |none=>none
def B6(k:Nat)(xs:an3 (an3 D)):Bool:=xs.all λc=>c.length==k
def J7(P:an6)(T:TypeId)(x i:AV):an5 AV:=
 match eP P T with
 |some (_,k)=>match x with
  | .row n off len _ k'=>match i.int? with
    |some z=>match zN z with
     |some q=>bif k'==k&&cf (q+1) len then some (.ptr n (off+q*k))else none
     |none=>none
    |none=>none
  |x=>match x.fE,i.int? with
   |some xs,some z=>match zN z with
    |some q=>match xs[q]? with
     |some c=>bif c.length==k then some (.bg [c] 0 0)else none
     |none=>none
    |none=>none
   |_,_=>none
 |none=>match td P T,x,i.int? with
  |some (n,_,k), .ptr b off,some z=>match zN z with
   |some q=>bif cf (q+1) n then some (.ptr b (off+q*k))else none
   |none=>none
  |some (n,_,k), .bg xs e off,some z=>match zN z with
   |some q=>bif k==1&&cf (q+1) n then match xs[e]? with
    |some c=>match c[off+q]? with
     |some d=>some (.bg [[d]] 0 0)
     |none=>none
    |none=>none
    else none
   |none=>none
  |_,_,_=>none
theorem alr{P:an6}{T:TypeId}{x i y:AV}{K:AV->Prop}(h:J7 P T x i=some y)(hK:K y):sb P T x i K:=by
 unfold J7 at h;unfold sb;split at h
 ·next e k eT=>
  simp only[eT];split at h
  ·next n off len cap k'=>
   simp only;split at h
   ·next z ez=>
    simp only[ez];split at h
    ·next q eq=>
     obtain⟨h0,J⟩:=Dh eq;obtain⟨hb,he⟩:=dT h;rw[ang,c6]at hb;refine bK.2 ⟨hb.1,h0,by omega,?_⟩;rw[J,he];exact hK
    ·cases h
   ·cases h
  ·next x' mX=>
   split at h
   ·next xs z e1 e2=>
    split at h
    ·next q eq=>
     obtain⟨h0,J⟩:=Dh eq;split at h
     ·next c ec=>
      obtain⟨hb,he⟩:=dT h;simp only[e1,e2];refine⟨h0,?_⟩;rw[J,ec];exact⟨by simpa using hb,by rw[he];exact hK⟩
     ·cases h
    ·cases h
   ·cases h
 ·next eT=>
  simp only[eT];split at h
  ·next n e k b off z e1 e2=>
   simp only[e1,e2];split at h
   ·next q eq=>
    obtain⟨h0,J⟩:=Dh eq;obtain⟨hb,he⟩:=dT h;rw[c6]at hb;exact⟨h0,by omega,by rw[J,he];exact hK⟩
   ·cases h
  ·next n e0 k xs e off z e1 e2=>
   simp only[e1,e2];split at h
   ·next q eq=>
    obtain⟨h0,J⟩:=Dh eq;obtain⟨hb,h⟩:=kV h;rw[ang,c6]at hb;split at h
    ·next c ec=>
     split at h
     ·next d ed=>
      cases h
      refine bK.2 ⟨hb.1,h0,by omega,?_⟩;rw[ec];simp only;rw[J,ed];exact hK
     ·cases h
    ·cases h
   ·cases h
  ·cases h
def am5(P:an6)(T:TypeId)(ρ:Operand->AV)(x:AV)(lo hi mx:an5 Operand):an5 AV:=
 match mx with
 |none=>
  match x with
  | .d (.v (.string b))=>match uX ρ b.size hi,uX ρ 0 lo with
    |some h,some l=>bif h1 P T&&cf h b.size&&cf l h then some (.d (.v (.string (b.extract l h))))else none
    |_,_=>none
  | .ptr n off=>match td P T with
    |some (m,_,k)=>match uX ρ m hi,uX ρ 0 lo with
     |some h,some l=>bif cf m 4096&&cf h m&&(cf l h&& !cf m l)then some (.row n (off+l*k) (h-l) (m-l) k)else none
     |_,_=>none
    |none=>none
  |x=>match x.fE,eP P T with
   |some xs,some (_,k)=>match uX ρ xs.length hi,uX ρ 0 lo with
    |some h,some l=>bif B6 k xs&&cf h xs.length&&cf l h then some (.d (.sl ((xs.take h).drop l)))else none
    |_,_=>none
   |_,_=>none
 |some m=>match lo,hi with
  |none,some y=>match x.fE,eP P T with
   |some xs,some (_,k)=>match uX ρ 0 (some m),uX ρ 0 (some y)with
    |some c,some h=>bif B6 k xs&&cf c xs.length&&h==c then some (.full (xs.take h))else none
    |_,_=>none
   |_,_=>none
  |_,_=>none
def am9(P:an6)(T:TypeId)(h:an3 ao)(x y:AV):an5 (AV×HD):=
 match eP P T with
 |some (e,k)=>match iJ P e,qw P e with
  |some z,some cN=>match Lk h k y with
   |some ys=>bif cf 1 k&&z.cells.toList.length==k&&B6 k ys then
    match x with
    | .own n xs=>match h[n]? with
      |some (.front e' k' len)=>bif e'==e&&k'==k&&len==xs.length&&B6 k xs&&cf (xs.length+ys.length) maxLen&&cf ((xs.length+ys.length)*cN) 140737488355328 then some (.own n (xs++ys), .set n (.front e k (xs.length+ys.length)))else none
      |_=>none
    | .d (.v (.slice none 0 0))=>bif cf ys.length maxLen&&cf (ys.length*cN) 140737488355328 then some (.own h.length ys, .push (.front e k ys.length))else none
    | .full xs=>bif B6 k xs&&cf (xs.length+ys.length) maxLen&&cf ((xs.length+ys.length)*cN) 140737488355328 then some (.own h.length (xs++ys), .push (.front e k (xs.length+ys.length)))else none
    |_=>none
    else none
   |none=>none
  |_,_=>none
 |none=>none
def WU:an3 (an3 D)->an5 (an3 Int)
 |[]=>some []
 |[.v (.int .u8 n)]::l=>match WU l with
  |some ns=>some (n::ns)
  |none=>none
 |_=>none
def Rp:an5 (AV×In)->an5 AV
 |some (x, .none)=>some x
 |some (x, .nz b)=>bif b==0 then none else some x
 |some (x, .nn b)=>match zN b with
  |some _=>some x
  |none=>none
 |some (x, .cat n)=>bif cf n maxLen then some x else none
 |_=>none
theorem amA{r:an5 (AV×In)}{x:AV}(P:an6)(h:Rp r=some x):∃i,r=some (x,i)/\OK P i .ok:=by
 unfold Rp at h;split at h
 ·cases h;exact⟨_,rfl, .none⟩
 ·next b=>
  cases hb:b==0 with
  |true=>rw[hb]at h;cases h
  |false=>rw[hb]at h;cases h;exact⟨_,rfl, .nz (by simpa using hb)⟩
 ·next b=>
  split at h
  ·next e=>cases h;exact⟨_,rfl, .nn (Dh e).1⟩
  ·cases h
 ·obtain⟨hb,he⟩:=dT h;cases he
  exact⟨_,rfl, .cat (c6.1 hb)⟩
 ·cases h
def pX(r:an5 AV):an5 (AV×HD):=
 match r with
 |some x=>some (x, .same)
 |none=>none
def am6(P:an6)(src dst:TypeId)(x:AV):an5 AV:=
 match Gf P src dst x .none with
 |some (y, .none)=>some y
 |_=>match x.fE,eP P src with
  |some xs,some (e,_)=>match WU xs with
   |some ns=>match x with
    | .d (.v _)=>none
    |_=>bif Fl P e&&h1 P dst then some (.d (.v (.string (akJ ns))))else none
   |none=>none
  |_,_=>none
def mF(P:an6)(op:Op)(ρ:Operand->AV)(h:an3 ao):an5 (AV×HD):=
 match op with
 | .move x| .assign x=>some (ρ x, .same)
 | .pick c x y=>match ρ c with
   | .d (.v (.bool b))=>some (bif b then ρ x else ρ y, .same)
   |_=>none
 | .alloc e=>match iJ P e with
   |some z=>some (.ptr h.length 0, .push (.cells (z.cells.toList.map λu=> .d (.v u))))
   |none=>none
 | .box _ x=>bif (ρ x).jD then some (.ptr h.length 0, .push (.cells (ρ x).cells))else none
 | .load t p=>match xv h (ρ p)with
   |some (cs,off)=>pX (Bo P t cs off)
   |none=>none
 | .store t p x=>match ρ p with
   | .ptr n off=>match h[n]? with
     |some (.cells cs)=>match fW P t with
      |some k=>bif k==(ρ x).cells.length&&(ρ x).jD&&cf (off+(ρ x).cells.length) cs.length then some (.d (.v undef), .set n (.cells (iP cs off (ρ x).cells)))else none
      |none=>none
     |_=>none
   |_=>none
 | .nilCheck x=>match ρ x with
   | .ptr n off=>some (.ptr n off, .same)
   | .bg xs i off=>some (.bg xs i off, .same)
   | .fn f cs=>some (.fn f cs, .same)
   |_=>none
 | .fieldAddr S x f=>match sy P S f with
   |some (fo,_,_)=>match ρ x with
    | .ptr n off=>some (.ptr n (off+fo), .same)
    | .bg xs i off=>some (.bg xs i (off+fo), .same)
    |_=>none
   |none=>none
 | .field T x f=>pX (Kv P T (ρ x) f)
 | .indexAddr T x i=>pX (J7 P T (ρ x) (ρ i))
 | .extract x i=>match ρ x with
   | .aZ cs=>match cs[i]? with
     |some c=>some (c, .same)
     |none=>none
   |_=>none
 | .makeFunc (.func f) first cT=>match first.toList with
   |[]=>some (.fn f (cT.toList.map ρ), .same)
   |_=>none
 | .binOp op T x y _=>pX (Rp (FN P T op (ρ x) (ρ y)))
 | .unOp op _ x=>match ρ x with
   | .d (.v u)=>match Iv op u with
     |some v=>some (.d (.v v), .same)
     |none=>none
   |_=>none
 | .call c=>match c.callee with
   | .builtin .len=>match c.args.toList,c.argTypes.toList with
     |[x],[T]=>match ρ x with
      | .d (.v (.string s))=>bif h1 P T then some (.d (.v (.int .i64 s.size)), .same)else none
      | .row _ _ len _ _=>bif (eP P T).isSome then some (.d (.v (.int .i64 len)), .same)else none
      |x=>match x.fE with
       |some xs=>bif (eP P T).isSome then some (.d (.v (.int .i64 xs.length)), .same)else none
       |none=>none
     |_,_=>none
   |_=>none
 |_=>none
theorem GQ{r:an5 AV}{x:AV}{d:HD}(h:pX r=some (x,d)):r=some x/\d= .same:=by
 unfold pX at h;split at h
 ·cases h;exact⟨rfl,rfl⟩
 ·cases h
theorem VG{P:an6}{o:Oper}{ρ:Operand->AV}{h:an3 ao}{x:AV}{d:HD}{C:AV->an3 ao->Prop}(J:mF P o.op ρ h=some (x,d))(hC:C x (d.app h)):cD P o ρ h C:=by
 obtain⟨dst,op,type,pos,after,guard⟩:=o;simp only at J;unfold mF at J;unfold cD;split at J
 ·cases J;exact hC
 ·cases J;exact hC
 ·next c y z=>
  split at J
  ·next b e=>
   cases J
   simp only[e];cases b with
   |true=>exact⟨λ_=>hC,λh=>Bool.noConfusion h⟩
   |false=>exact⟨λh=>Bool.noConfusion h,λ_=>hC⟩
  ·cases J
 ·split at J
  ·next z e=>cases J;simp only[e];exact hC
  ·cases J
 ·obtain⟨hb,he⟩:=dT J;cases he;exact bK.2 ⟨hb,hC⟩
 ·split at J
  ·next cs off e=>
   obtain⟨e2,rfl⟩:=GQ J;exact OR e e2 hC
  ·cases J
 ·split at J
  ·next n off e=>
   split at J
   ·next cs e2=>
    split at J
    ·next k e3=>obtain⟨hb,he⟩:=dT J;cases he;simp only[e,vJ,e2,e3];exact bK.2 ⟨hb,hC⟩
    ·cases J
   ·cases J
  ·cases J
 ·split at J
  ·next e=>cases J;simp only[e];exact hC
  ·next e=>cases J;simp only[e];exact hC
  ·next e=>cases J;simp only[e];exact hC
  ·cases J
 ·split at J
  ·next e=>
   simp only[e];split at J
   ·next e2=>cases J;simp only[e2];exact hC
   ·next e2=>cases J;simp only[e2];exact hC
   ·cases J
  ·cases J
 ·obtain⟨e,rfl⟩:=GQ J;exact Vi e hC
 ·obtain⟨e,rfl⟩:=GQ J;exact alr e hC
 ·split at J
  ·next e=>
   split at J
   ·next e2=>cases J;simp only[e,e2];exact hC
   ·cases J
  ·cases J
 ·split at J
  ·next e=>cases J;simp only[e];exact hC
  ·cases J
 ·obtain⟨e,rfl⟩:=GQ J;obtain⟨i,e2,bN⟩:=amA P e;exact Wm e2 bN hC
 ·unfold vN;split at J
  ·next e=>
   split at J
   ·next e2=>cases J;simp only[e,e2];exact hC
   ·cases J
  ·cases J
 ·next c=>
  split at J
  ·next hc=>
   simp only[hc];split at J
   ·next y T e1 e2=>
    simp only[e1,e2];unfold rI;split at J
    ·next s e=>obtain⟨hb,he⟩:=dT J;cases he;simp only[e];exact bK.2 ⟨hb,hC⟩
    ·next e=>obtain⟨hb,he⟩:=dT J;cases he;simp only[e];exact bK.2 ⟨hb,hC⟩
    ·next n1 n2=>
     split at J
     ·next xs e=>
      obtain⟨hb,he⟩:=dT J;cases he;split
      ·next s e'=>exact absurd e' (n1 s)
      ·next e'=>exact absurd e' (n2 _ _ _ _ _)
      ·simp only[e];exact bK.2 ⟨hb,hC⟩
     ·cases J
   ·cases J
  ·cases J
 ·cases J
def dc(n:Nat)(t:an3 (Nat×AV)):an3 AV:=(List.range n).map (bm t)
theorem abU{n:Nat}{t:an3 (Nat×AV)}{i:Nat}{c:AV}(h:(dc n t)[i]?=some c):bm t i=c:=by
 unfold dc at h;rw[anl]at h;by_cases hi:i<n
 ·rw[List.getElem?_range hi]at h;exact anx h
 ·rw[anL (by simpa using hi)]at h;cases h
def Ou(P:an6)(N0:Nat)(Q:Exit->St->Prop)(s:St):LS->Prop
 | .ready=>Q .normal s
 | .done c=>bw P none N0 c Q s
 | .busy=>False
theorem aeS{P:an6}{N0:Nat}{s:St}{Q:Exit->St->Prop}{g:Operand}{p:Nat}{assign body:Code}{gf:FuncId}{cT:an3 AV}(hg:ev s g= .fn gf cT)
 (hc:cF P gf (.cg s.h.length::cT) (s.h++[.lp .ready p assign body (dc s.n s.t)]) λ_ h'=>∃(ls:LS)(p1:Nat)(sN rR:Code)(xH:an3 AV),h'[s.h.length]?=some (.lp ls p1 sN rR xH)/\Ou P N0 Q ⟨s.n,s.t,h'.set s.h.length .gone⟩ ls):
 bw P none N0 (.rangeFunc g #[p] assign body) Q s:=by
 constructor
 intro G w a n hs hN;have hv:=hs.ev g;rw[hg]at hv;obtain⟨lb,ea,hl,hr⟩:∃lb:Array an7,a.eval g= .func (.func gf) #[] lb/\lb.size=cT.length/\∀(i:Nat)(u:an7)(c:AV),lb[i]?=some u->cT[i]?=some c->aD G w u c:=by
  generalize a.eval g=u at hv;cases hv with|fn _ vs _ hl hr=>exact⟨vs,rfl,hl,hr⟩
 obtain⟨Fh,jP⟩:=hc;refine wpIn_rangeFunc (F:=WF none) ?_;intro fn _;obtain⟨FB,hI0⟩:=adt hs.inv;obtain⟨G0,kW⟩:∃G0:Gh,G0={G with Z:=λb=>G.Z b\/b=w.heap.size}:=⟨_,rfl⟩;obtain⟨w0,rf⟩:∃w0,w0=w.alloc (.deferred (some [])):=⟨_,rfl⟩;rw[<-kW,<-rf]at FB hI0;have cq:G0.N=G.N:=by rw[kW]
 have hX:w0.heap.size=w.heap.size+1:=by rw[rf];simp
 obtain⟨iT,wa,MW⟩:=aku hI0 fn a.tmps w.heap.size p assign body (dc s.n s.t) (by simp [dc,hs.size]) λi u c hu hc=>by
  have h9:=hs.tmp i;rw[abU hc]at h9;have e:a.tmps.getD i undef=u:=by
   have aI:=(ant.1 hu).1;rw[anB aI]at hu;simp [Array.getD,aI];exact anx hu
  rw[e]at h9;exact h9.keep FB (Nat.le_of_eq cq.symm)
 obtain⟨w1,Ac⟩:∃w1,w1=w0.alloc (.loop {state:= .ready,pending:=none,fn:=fn,tmps:=a.tmps,params:= #[p],assign:=assign,body:=body,defers:=w.heap.size}):=⟨_,rfl⟩;obtain⟨G1,MS⟩:∃G1:Gh,G1=G0.cO w0.heap.size:=⟨_,rfl⟩;rw[<-Ac,<-MS]at iT wa MW;have gh:G1.N=G.N+1:=by rw[MS,<-cq];rfl
 have agj:G1.aO s.h.length=w.heap.size+1:=by rw[MS,hs.inv.len,<-cq];simp [Gh.cO,hX]
 rw[hX]at MW;have ZI:bI G.N G w G1 w1:=FB.trans (iT.less (Nat.le_of_eq cq.symm));refine⟨w.heap.size+1,[{target:= .collected w.heap.size,args:= #[]}],w1,{target:= .fn (.func gf) lb,args:= #[.func (.yield (w.heap.size+1)) #[] #[]]},w1,gf, #[.func (.yield (w.heap.size+1)) #[] #[]]++lb,w1,?_,?_,λ_ _=>trivial,?_,λh=>(by simp [WF,Fence.wide]at h),?_⟩
 ·rw[Ac,rf];exact run_enterLoop_outer _ _ _ _ _
 ·simp only[resolve,ea];simp [Deferred.ofValue,go_sem]
 ·simp [invoke,LJ Fh]
 have hK:=jP G1 w1 (#[.func (.yield (w.heap.size+1)) #[] #[]]++lb) wa (by simp [hl];omega) (λi u c hu hc=>by
  match i with
  |0=>
   rw[Array.getElem?_append_left (by simp)]at hu;simp at hu hc;subst hu;subst hc;exact MW
  |i+1=>
   rw[Array.getElem?_append_right (by simp)]at hu;simp at hu hc;exact(hr i u c hu hc).keep ZI (by rw[gh];exact Nat.le_succ _))
 refine CallsIn.mono (F:=WF none) (callsIn_wide (n:=n-1).2 hK) ?_;rintro e w2 ⟨v,G2,r,h',rfl,js,hN2,HP,_,ls,p1,sN,rR,xH,hk,Qn⟩;have yT:s.h.length<G1.N:=by rw[hs.inv.len,gh];exact an1 _
 have DH:G2.aO s.h.length=w.heap.size+1:=(js.aO _ yT).trans agj;obtain⟨_,fn2,tm2,D2,g3,g4,g5,SP⟩:=G7 HP hk;rw[DH]at g3;have hEa:bI G.N G w G2 w2:=ZI.trans (js.less (by rw[gh];exact Nat.le_succ _));have Gu:G.N<=G2.N:=by rw[gh]at hN2;omega
 obtain⟨ob,l7⟩:∃ob:Obj,ob= .loop {state:= .exhausted,pending:=ls.pd,fn:=fn2,tmps:=tm2,params:= #[p1],assign:=sN,body:=rR,defers:=D2}:=⟨_,rfl⟩;obtain⟨zE,zI⟩:=ajr HP hk ob;rw[DH]at zE zI;have Em:bI G.N G w G2 (w2.putObj (w.heap.size+1) ob):=hEa.trans (zE.less Gu);have hM:=hs.inv.gl.2;have Be:G0.Z w.heap.size:=by rw[kW];exact .inr rfl
 have hDZ:G2.Z w.heap.size:=js.Z.1.1 _ (iT.Z.1.1 _ Be);have hDh:(w2.putObj (w.heap.size+1) ob).heap[w.heap.size]?=some (.deferred (some [])):=by
  rw[zE.old _ hDZ,js.old _ (iT.Z.1.1 _ Be),iT.old _ Be,rf];exact World.alloc_heap_new w _
 have cv:cJ G2 (w2.putObj (w.heap.size+1) ob) {a with defers:=[{target:= .collected w.heap.size,args:= #[]}]++a.defers} ⟨s.n,s.t,h'.set s.h.length .gone⟩:=by
  refine⟨hs.size,λi=>(hs.tmp i).keep Em Gu,zI,?_⟩;obtain⟨l,l1,l2,l3⟩:=hs.df.keep Em;obtain⟨l',l1',Zz,l3'⟩:=hs.df;have pk:l=l':=by
   rw[l2]at Zz;have abx:∀(x y:an3 Nat),x.map (λD=>({target:= .collected D,args:= #[]}:Deferred))=y.map (λD=>{target:= .collected D,args:= #[]})->x=y:=by
     intro x
     induction x with
     |nil=>intro y h;cases y with
      |nil=>rfl
      |cons b y=>simp at h
     |cons a x ih=>intro y h;cases y with
      |nil=>simp at h
      |cons b y=>simp at h;rw[h.1,ih y (by simpa using h.2)]
   exact abx _ _ Zz
  refine⟨w.heap.size::l,?_,by rw[anE,<-l2];rfl,λD hD=> ?_⟩
  ·rw[List.nodup_cons];exact⟨λh=>anT _ (hs.inv.z _ (l3' _ (pk▸h)).2.1),l1⟩
  ·rcases anJ.1 hD with rfl|hD
   ·exact⟨by rw[Em.Z.2];exact hM,hDZ,hDh⟩
   ·exact l3 D hD
 subst l7;have Dc:=λhb=>run_endLoop (P:=P) g3 hb;cases ls with
 |busy=>exact Qn.elim
 |ready=>
  refine⟨_,_,Dc (by simp [LS.st]),?_⟩;exact⟨G2,_,Em.less hN,anw hN Gu,cv,Qn⟩
 |done c=>
  refine⟨_,_,Dc (by simp [LS.st]),?_⟩;refine wpIn_mono (Qn.run G2 _ _ n (cv) (anw hN Gu)) λ_ _ _ hn=> ?_;exact hn.trans (Em.less hN)
set_option linter.unusedSimpArgs false
set_option linter.unusedVariables false
mutual
theorem CT:∀x:AV,x.aG id=x
 | .agg cs=>by rw[AV.aG,sU cs]
 | .aZ cs=>by rw[AV.aG,sU cs]
 | .fn f cs=>by rw[AV.aG,sU cs]
 | .own .. =>by simp [AV.aG]
 | .d _=>by simp [AV.aG]
 | .ptr .. =>by simp [AV.aG]
 | .bg .. =>by simp [AV.aG]
 | .full _=>by simp [AV.aG]
 | .row .. =>by simp [AV.aG]
 | .mp _=>by simp [AV.aG]
 | .cg _=>by simp [AV.aG]
 | .vec .. =>by simp [AV.aG]
 | .dp .. =>by simp [AV.aG]
 | .hid _=>by simp [AV.aG]
 | .dead=>by simp [AV.aG]
theorem sU:∀l:an3 AV,AV.fR id l=l
 |[]=>by simp [AV.fR]
 |x::l=>by rw[AV.fR,CT x,sU l]
end
theorem OL(B:ao):B.aG id=B:=by
 cases B with
 |cells cs=>simp only[ao.aG,sU]
 |lp ls p as bd cs=>simp only[ao.aG,sU]
 |it sn cs=>simp only[ao.aG,sU]
 |eG T0 cs=>simp only[ao.aG,sU]
 |vec e k cs=>simp only[ao.aG];congr 1;exact(anK λx _=>sU x).trans (List.map_id _)
 |_=>rfl
theorem aD.low{G:Gh}{w:an8}{u:an7}{x:AV}(h:aD G w u x):x.aC G.N=true:=by
 have lt:∀{n:Nat},n<G.N->(!cf G.N n)=true:=fun{n} hn=>by
  rw[Bool.not_eq_true',<-Bool.not_eq_true,c6];omega
 have fD:∀(vs:Array an7)(cs:an3 AV),vs.size=cs.length->(∀(i:Nat)(u:an7)(c:AV),vs[i]?=some u->cs[i]?=some c->c.aC G.N=true)->AV.kh G.N cs=true:=λvs cs hl h=>by
  rw[nb,anF];intro c hc;obtain⟨i,hi,rfl⟩:=List.mem_iff_getElem.1 hc;exact h i vs[i] _ (anB (by omega)) (ani hi)
 induction h with
 |agg vs cs hl _ ih=>rw[AV.aC];exact fD vs cs hl ih
 |aZ vs cs hl _ ih=>rw[AV.aC];exact fD vs cs hl ih
 |fn f vs cs hl _ ih=>rw[AV.aC];exact fD vs cs hl ih
 |ptr n off h=>rw[AV.aC];exact lt h
 |own n xs h=>rw[AV.aC];exact lt h
 |row n off len cap k h=>rw[AV.aC];exact lt h
 |mp n h=>rw[AV.aC];exact lt h
 |cg n h=>rw[AV.aC];exact lt h
 |vec n o len L k h=>rw[AV.aC];exact lt h
 |dp n i j L k h=>rw[AV.aC];exact lt h
 |_=>simp [AV.aC]
def im(N0:Nat)(s s':St):Prop:=∀(G:Gh)(w:an8)(a:Act),N0<=G.N->cJ G w a s->∃G',bI N0 G w G' w/\N0<=G'.N/\cJ G' w a s'
theorem im.refl(N0:Nat)(s:St):im N0 s s:=λG _ _ hN hs=>⟨G,bI.refl _ _ _,hN,hs⟩
theorem im.trans{N0:Nat}{s1 s2 s3:St}(h:im N0 s1 s2)(k:im N0 s2 s3):im N0 s1 s3:=λG w a hN hs=>by
 obtain⟨G1,e1,n1,J⟩:=h G w a hN hs;obtain⟨G2,e2,n2,h2⟩:=k G1 w a n1 J;exact⟨G2,e1.trans e2,n2,h2⟩
theorem im.of_eq{N0:Nat}{s s':St}(h:jn s s'):im N0 s s':=λG _ _ hN hs=>
 ⟨G,bI.refl _ _ _,hN,hs.size.trans h.n,λi=>by rw[<-h.t i];exact hs.tmp i,by rw[<-h.h];exact hs.inv,hs.df⟩
theorem im.aG{N0:Nat}{s s':St}(σ τ:Nat->Nat)(hn:s.n=s'.n)(hlen:s'.h.length=s.h.length)(aI:∀i,i<s.h.length->σ i<s.h.length)(hτ:∀i,i<s.h.length->τ i<s.h.length)
 (tN:∀i,i<s.h.length->τ (σ i)=i) (ly:∀i,i<s.h.length->σ (τ i)=i) (xX:∀i,i<N0->σ i=i)
 (ht:∀i,(bm s.t i).aC s.h.length=true->bm s'.t i=(bm s.t i).aG σ\/bm s'.t i= .dead) (hh:∀i,i<s.h.length->s'.h[σ i]?=(s.h[i]?).map (ao.aG σ)):im N0 s s':=λG w a hN hs=>by
 have hl:s.h.length=G.N:=hs.inv.len;rw[hl]at aI hτ tN ly hh hlen ht;have Ry:∀i,i<N0->τ i=i:=λi hi=>by
  have J:=tN i (by omega);rw[xX i hi]at J;exact J
 let G':Gh:={G with aO:=λn=>G.aO (τ n),sg:=λn=>G.sg (τ n),ow:=λn=>G.ow (τ n),fl:=λn=>G.fl (τ n)}
 have hR:qP σ G G':=⟨aI,λn h=>by show G.aO (τ (σ n))=_;rw[tN n h],λn h=>by show G.sg (τ (σ n))=_;rw[tN n h],λn h=>by show G.fl (τ (σ n))=_;rw[tN n h],λn h=>by show G.ow (τ (σ n))=_;rw[tN n h],λ_ _=>Iff.rfl⟩;have hE:bI N0 G w G' w:=⟨anp _,λ_ _ h=>h,λ_ _ _=>rfl,λn h=>by show G.aO (τ n)=_;rw[Ry n h],λn h=> .inl ⟨by show G.fl (τ n)=_;rw[Ry n h],by show G.sg (τ n)=_;rw[Ry n h]⟩,gU rfl,λ_ _=>rfl,rfl,rfl,rfl,λ_ _ h=> .inl h⟩;have e8:∀(n:Nat)(B:ao),s'.h[n]?=some B->∃m B0,m<G.N/\σ m=n/\s.h[m]?=some B0/\B=B0.aG σ:=λn B hB=>by
  have eN:n<G.N:=by have:=(ane.1 hB).1;omega
  have J:=hh (τ n) (hτ n eN);rw[ly n eN,hB]at J;cases h2:s.h[τ n]? with
  |none=>rw[h2]at J;cases J
  |some B0=>rw[h2]at J;cases J;exact⟨τ n,B0,hτ n eN,ly n eN,h2,rfl⟩
 have eo:∀(n b:Nat),bH s'.h G' n=some b->∃m,m<G.N/\σ m=n/\bH s.h G m=some b:=λn b hb=>by
  obtain⟨B,hB,hb⟩:=ng hb;obtain⟨m,B0,k1,k2,k3,rfl⟩:=e8 n B hB;subst k2;rw[Lz hR k1]at hb;exact⟨m,k1,rfl,by rw[dx k3];exact hb⟩
 refine⟨G',hE,hN,hs.size.trans hn,λi=> ?_,⟨hlen,hs.inv.z,hs.inv.S,λn B hB=> ?_,λm n b hm eN=> ?_,hs.inv.gl.keep hE⟩,hs.df.keep hE⟩
 ·have hv:=hs.tmp i;rcases ht i hv.low with e|e
  ·rw[e];exact hv.aG hR
  ·rw[e];exact .dead _
 ·obtain⟨m,B0,k1,k2,k3,rfl⟩:=e8 n B hB;subst k2;have hb:=hs.inv.cV m B0 k3;exact dP.aG hR k1 (λb J=>hb.lf J) hb
 ·obtain⟨m',k1,k2,k3⟩:=eo m b hm;obtain⟨n',j1,j2,j3⟩:=eo n b eN;have:=hs.inv.inj m' n' b k3 j3;rw[<-k2,<-j2,this]
def LV:an7->an7->Bool
 | .bool a, .bool b=>a==b
 | .int k a, .int l b=>decide (k=l)&&decide (a=b)
 | .string a, .string b=>bL a==bL b
 | .pointer none, .pointer none=>true
 | .slice none a b, .slice none c d=>a==c&&b==d
 | .map none, .map none=>true
 | .nilFunc, .nilFunc=>true
 | .nilIface, .nilIface=>true
 | .tuple a, .tuple b=>a.size==0&&b.size==0
 |_,_=>false
theorem ajl{u v:an7}(h:LV u v=true):u=v:=by
 unfold LV at h;split at h
 ·rw[beq_iff_eq]at h;subst h;rfl
 ·rw[ang,decide_eq_true_eq,decide_eq_true_eq]at h;obtain⟨J,h2⟩:=h;subst J;subst h2;rfl
 ·rw[beq_iff_eq]at h;rw[Gk h]
 ·rfl
 ·rw[ang,beq_iff_eq,beq_iff_eq]at h;obtain⟨J,h2⟩:=h;subst J;subst h2;rfl
 ·rfl
 ·rfl
 ·rfl
 ·rw[ang,beq_iff_eq,beq_iff_eq]at h;rw[Array.eq_empty_of_size_eq_zero h.1,Array.eq_empty_of_size_eq_zero h.2]
 ·cases h
mutual
def D.nK:D->D->Bool
 | .v a, .v b=>LV a b
 | .sl xs, .sl ys=>D.rT xs ys
 | .ag xs, .ag ys=>D.vE xs ys
 |_,_=>false
def D.rT:an3 (an3 D)->an3 (an3 D)->Bool
 |[],[]=>true
 |x::xs,y::ys=>D.vE x y&&D.rT xs ys
 |_,_=>false
def D.vE:an3 D->an3 D->Bool
 |[],[]=>true
 |x::xs,y::ys=>D.nK x y&&D.vE xs ys
 |_,_=>false
end
mutual
theorem D.Q6:∀x y:D,D.nK x y=true->x=y
 | .v a, .v b,h=>by rw[D.nK]at h;rw[ajl h]
 | .sl xs, .sl ys,h=>by rw[D.nK]at h;rw[D.B9 xs ys h]
 | .v _, .sl _,h=>by simp [D.nK]at h
 | .sl _, .v _,h=>by simp [D.nK]at h
 | .ag xs, .ag ys,h=>by rw[D.nK]at h;rw[D.Nb xs ys h]
 | .v _, .ag _,h=>by simp [D.nK]at h
 | .ag _, .v _,h=>by simp [D.nK]at h
 | .sl _, .ag _,h=>by simp [D.nK]at h
 | .ag _, .sl _,h=>by simp [D.nK]at h
theorem D.B9:∀x y:an3 (an3 D),D.rT x y=true->x=y
 |[],[],_=>rfl
 |x::xs,y::ys,h=>by rw[D.rT,ang]at h;rw[D.Nb x y h.1,D.B9 xs ys h.2]
 |[],_::_,h=>by simp [D.rT]at h
 |_::_,[],h=>by simp [D.rT]at h
theorem D.Nb:∀x y:an3 D,D.vE x y=true->x=y
 |[],[],_=>rfl
 |x::xs,y::ys,h=>by rw[D.vE,ang]at h;rw[D.Q6 x y h.1,D.Nb xs ys h.2]
 |[],_::_,h=>by simp [D.vE]at h
 |_::_,[],h=>by simp [D.vE]at h
end
mutual
def AV.fA(σ:Nat->Nat):AV->AV->Bool
 | .d x,y=>(match y with| .d y=>D.nK x y|_=>false)
 | .agg a,y=>(match y with| .agg b=>AV.pA σ a b|_=>false)
 | .aZ a,y=>(match y with| .aZ b=>AV.pA σ a b|_=>false)
 | .fn f a,y=>(match y with| .fn g b=>f==g&&AV.pA σ a b|_=>false)
 | .ptr n o,y=>(match y with| .ptr m p=>σ n==m&&o==p|_=>false)
 | .bg xs i o,y=>(match y with| .bg ys j p=>D.rT xs ys&&(i==j&&o==p)|_=>false)
 | .own n xs,y=>(match y with| .own m ys=>σ n==m&&D.rT xs ys|_=>false)
 | .full xs,y=>(match y with| .full ys=>D.rT xs ys|_=>false)
 | .row n i1 i2 i3 i4,y=>(match y with| .row m j1 j2 j3 j4=>σ n==m&&(i1==j1&&(i2==j2&&(i3==j3&&i4==j4)))|_=>false)
 | .mp n,y=>(match y with| .mp m=>σ n==m|_=>false)
 | .cg n,y=>(match y with| .cg m=>σ n==m|_=>false)
 | .vec n i1 i2 i3 i4,y=>(match y with| .vec m j1 j2 j3 j4=>σ n==m&&(i1==j1&&(i2==j2&&(i3==j3&&i4==j4)))|_=>false)
 | .dp n i1 i2 i3 i4,y=>(match y with| .dp m j1 j2 j3 j4=>σ n==m&&(i1==j1&&(i2==j2&&(i3==j3&&i4==j4)))|_=>false)
 | .dead,y=>(match y with| .dead=>true|_=>false)
 | .hid _,_=>false
def AV.pA(σ:Nat->Nat):an3 AV->an3 AV->Bool
 |[],y=>(match y with|[]=>true|_=>false)
 |x::xs,l=>(match l with|y::ys=>AV.fA σ x y&&AV.pA σ xs ys|_=>false)
end
mutual
theorem AV.KK(σ:Nat->Nat):∀x y:AV,AV.fA σ x y=true->y=x.aG σ
 | .d x,y,h=>by
   cases y with
   |d y=>simp only[AV.fA,ang,beq_iff_eq]at h;rw[AV.aG,D.Q6 _ _ h]
   |_=>simp [AV.fA]at h
 | .agg a,y,h=>by
   cases y with
   |agg b=>simp only[AV.fA,ang,beq_iff_eq]at h;rw[AV.aG,AV.vZ σ _ _ h]
   |_=>simp [AV.fA]at h
 | .aZ a,y,h=>by
   cases y with
   |aZ b=>simp only[AV.fA,ang,beq_iff_eq]at h;rw[AV.aG,AV.vZ σ _ _ h]
   |_=>simp [AV.fA]at h
 | .fn f a,y,h=>by
   cases y with
   |fn g b=>simp only[AV.fA,ang,beq_iff_eq]at h;rw[AV.aG,AV.vZ σ _ _ h.2,h.1]
   |_=>simp [AV.fA]at h
 | .ptr n o,y,h=>by
   cases y with
   |ptr m p=>simp only[AV.fA,ang,beq_iff_eq]at h;rw[AV.aG,h.1,h.2]
   |_=>simp [AV.fA]at h
 | .bg xs i o,y,h=>by
   cases y with
   |bg ys j p=>simp only[AV.fA,ang,beq_iff_eq]at h;rw[AV.aG,D.B9 _ _ h.1,h.2.1,h.2.2]
   |_=>simp [AV.fA]at h
 | .own n xs,y,h=>by
   cases y with
   |own m ys=>simp only[AV.fA,ang,beq_iff_eq]at h;rw[AV.aG,D.B9 _ _ h.2,h.1]
   |_=>simp [AV.fA]at h
 | .full xs,y,h=>by
   cases y with
   |full ys=>simp only[AV.fA,ang,beq_iff_eq]at h;rw[AV.aG,D.B9 _ _ h]
   |_=>simp [AV.fA]at h
 | .row n i1 i2 i3 i4,y,h=>by
   cases y with
   |row m j1 j2 j3 j4=>simp only[AV.fA,ang,beq_iff_eq]at h;rw[AV.aG,h.1,h.2.1,h.2.2.1,h.2.2.2.1,h.2.2.2.2]
   |_=>simp [AV.fA]at h
 | .vec n i1 i2 i3 i4,y,h=>by
   cases y with
   |vec m j1 j2 j3 j4=>simp only[AV.fA,ang,beq_iff_eq]at h;rw[AV.aG,h.1,h.2.1,h.2.2.1,h.2.2.2.1,h.2.2.2.2]
   |_=>simp [AV.fA]at h
 | .dp n i1 i2 i3 i4,y,h=>by
   cases y with
   |dp m j1 j2 j3 j4=>simp only[AV.fA,ang,beq_iff_eq]at h;rw[AV.aG,h.1,h.2.1,h.2.2.1,h.2.2.2.1,h.2.2.2.2]
   |_=>simp [AV.fA]at h
 | .mp n,y,h=>by
   cases y with
   |mp m=>simp only[AV.fA,ang,beq_iff_eq]at h;rw[AV.aG,h]
   |_=>simp [AV.fA]at h
 | .cg n,y,h=>by
   cases y with
   |cg m=>simp only[AV.fA,ang,beq_iff_eq]at h;rw[AV.aG,h]
   |_=>simp [AV.fA]at h
 | .dead,y,h=>by
   cases y with
   |dead=>rw[AV.aG]
   |_=>simp [AV.fA]at h
 | .hid _,y,h=>by simp [AV.fA]at h
theorem AV.vZ(σ:Nat->Nat):∀x y:an3 AV,AV.pA σ x y=true->y=AV.fR σ x
 |[],y,h=>by
  cases y with
  |nil=>rw[AV.fR]
  |cons=>simp [AV.pA]at h
 |x::xs,l,h=>by
  cases l with
  |nil=>simp [AV.pA]at h
  |cons y ys=>simp only[AV.pA,ang]at h;rw[AV.fR,AV.KK σ _ _ h.1,AV.vZ σ _ _ h.2]
end
def yC:an3 (an4×D)->an3 (an4×D)->Bool
 |[],[]=>true
 |(k,d)::l,(k',d')::l'=>bL k==bL k'&&D.nK d d'&&yC l l'
 |_,_=>false
theorem XX:∀x y,yC x y=true->x=y
 |[],[],_=>rfl
 |(k,d)::l,(k',d')::l',h=>by
  rw[yC,ang,ang]at h;rw[Gk (beq_iff_eq.1 h.1.1),D.Q6 _ _ h.1.2,XX l l' h.2]
 |[],_::_,h=>by simp [yC]at h
 |_::_,[],h=>by simp [yC]at h
def yZ(σ:Nat->Nat):an3 (an3 AV)->an3 (an3 AV)->Bool
 |[],[]=>true
 |x::xs,y::ys=>AV.pA σ x y&&yZ σ xs ys
 |_,_=>false
theorem ZS(σ:Nat->Nat):∀x y,yZ σ x y=true->y=x.map (AV.fR σ)
 |[],[],_=>rfl
 |x::xs,y::ys,h=>by
  rw[yZ,ang]at h;rw[anE,AV.vZ σ x y h.1,ZS σ xs ys h.2]
 |[],_::_,h=>by simp [yZ]at h
 |_::_,[],h=>by simp [yZ]at h
def ao.fA(σ:Nat->Nat):ao->ao->Bool
 | .cells a,y=>(match y with| .cells b=>AV.pA σ a b|_=>false)
 | .front e k l,y=>(match y with| .front e' k' l'=>e==e'&&(k==k'&&l==l')|_=>false)
 | .ig _ _,_=>false
 | .vec e k cs,y=>(match y with| .vec e' k' ds=>e==e'&&(k==k'&&yZ σ cs ds)|_=>false)
 | .map kv,y=>(match y with| .map dE=>yC kv dE|_=>false)
 | .iy _,_=>false
 | .it sn cs,y=>(match y with| .it sn' ds=>sn==sn'&&AV.pA σ cs ds|_=>false)
 | .eG _ _,_=>false
 | .gone,y=>(match y with| .gone=>true|_=>false)
 | .lp ..,_=>false
theorem ao.KK(σ:Nat->Nat)(x y:ao)(h:ao.fA σ x y=true):y=x.aG σ:=by
 cases x<;>cases y<;>simp only[ao.fA,ang,beq_iff_eq,Bool.false_eq_true]at h
 ·rw[ao.aG,AV.vZ σ _ _ h]
 ·rw[ao.aG,h.1,h.2.1,h.2.2]
 ·rw[ao.aG,h.1,h.2.1,ZS σ _ _ h.2.2]
 ·rw[ao.aG,XX _ _ h]
 ·rw[ao.aG,h.1,AV.vZ σ _ _ h.2]
 ·rfl
def fF(h0:Nat)(p:an3 Nat)(i:Nat):Nat:=bif cf h0 i then p.getD (i-h0) i else i
def zk(ts yG:an3 (Nat×AV))(ks:an3 Nat)(i:Nat):Nat:=
 match ks with
 |[]=>i
 |d::ks=>match bm ts d,bm yG d with
  | .ptr n _, .ptr m _=>bif n==i then m else zk ts yG ks i
  | .own n _, .own m _=>bif n==i then m else zk ts yG ks i
  | .vec n _ _ _ _, .vec m _ _ _ _=>bif n==i then m else zk ts yG ks i
  | .mp n, .mp m=>bif n==i then m else zk ts yG ks i
  |_,_=>zk ts yG ks i
def Ef(s s':St)(ks:an3 Nat)(h0:Nat):Nat->an3 Nat
 |0=>[]
 |k+1=>zk s.t s'.t ks h0::Ef s s' ks (h0+1) k
def aaL(h0:Nat)(ks:an3 Nat)(s s':St)(p q:an3 Nat):Bool:=
 (s'.h.length==s.h.length)&&(((List.range s.h.length).all λi=>cf (fF h0 p i+1) s.h.length&&cf (fF h0 q i+1) s.h.length&&fF h0 q (fF h0 p i)==i&&fF h0 p (fF h0 q i)==i)&&(ks.all (λd=>AV.fA (fF h0 p) (bm s.t d) (bm s'.t d))&&
  ((List.range s.h.length).all λi=>match s.h[i]?,s'.h[fF h0 p i]? with
    |some B,some B'=>ao.fA (fF h0 p) B B'
    |_,_=>false)))
def V7(h0:Nat)(ks:an3 Nat)(s s':St):Bool:=aaL h0 ks s s' (Ef s s' ks h0 (s.h.length-h0)) (Ef s' s ks h0 (s.h.length-h0))
structure lP(ks:List Nat)(s0 s:St):Prop where
 n:s.n=s0.n
 t:∀d,d ∉ ks->bm s.t d=bm s0.t d
theorem lP.refl(ks:an3 Nat)(s:St):lP ks s s:=⟨rfl,λ_ _=>rfl⟩
theorem lP.put{ks:an3 Nat}{s0 s:St}(h:lP ks s0 s)(J:an3 ao){d:an5 Nat}(x:AV)(hd:∀k,d=some k->k∈ks):lP ks s0 ((s.wh J).put d x):=
 ⟨by rw[qV];exact h.n,λi hi=>by
  rw[sI,if_neg]
  ·exact h.t i hi
  ·rintro⟨e,_⟩;exact hi (hd i e)⟩
theorem am7{N0 h0:Nat}{ks:an3 Nat}{s0 s s':St}(hN:N0<=h0)(nN:∀i,(bm s0.t i).aC h0=true)(hb:lP ks s0 s)(fK:lP ks s0 s')(h:V7 h0 ks s s'=true):im N0 s s':=by
 unfold V7 at h;generalize Ef s s' ks h0 (s.h.length-h0)=p at h;generalize Ef s' s ks h0 (s.h.length-h0)=q at h;unfold aaL at h;simp only[ang,beq_iff_eq,anF,List.mem_range,c6]at h;obtain⟨J,h2,h3,h4⟩:=h;have xX:∀i,i<h0->fF h0 p i=i:=λi hi=>by
  unfold fF;have:cf h0 i=false:=by rw[<-Bool.not_eq_true,c6];omega
  rw[this];rfl
 refine im.aG (fF h0 p) (fF h0 q) (hb.n.trans fK.n.symm) J (λi hi=>(h2 i hi).1.1.1) (λi hi=>(h2 i hi).1.1.2) (λi hi=>(h2 i hi).1.2) (λi hi=>(h2 i hi).2) (λi hi=>xX i (by omega)) (λi _=> ?_) λi hi=> ?_
 ·left
  by_cases hk:i∈ks
  ·exact AV.KK _ _ _ (h3 i hk)
  ·rw[hb.t i hk,fK.t i hk,xb (τ:=id) xX _ (nN i),CT]
 ·have h5:=h4 i hi;split at h5
  ·next B B' e1 e2=>rw[e1,e2,ao.KK _ _ _ h5];rfl
  ·cases h5
def BX(N0:Nat)(K:St->Prop):Prop:=∀s s',im N0 s s'->K s'->K s
theorem BX.c{N0:Nat}{K:St->Prop}(h:BX N0 K):rp K:=λs s' e hk=>h s' s (im.of_eq e.symm) hk
theorem MD{P:an6}{r:an5 Nat}{N0:Nat}{s:St}{Q:Exit->St->Prop}{m:Bool}{id:Nat}{ops:Array Oper}(hm:P.follows .mixedOrders=true)
 (h:N0<=s.h.length->(∀i,(bm s.t i).aC s.h.length=true)->kI m P ops (λs1=>∃s2,im N0 s1 s2/\Q .normal s2) ops.size (Array.replicate ops.size false) s):bw P r N0 (.region id ops true) Q s:=by
 constructor
 intro G w a n hs hN;obtain⟨d1,d2⟩:=hs.drew;refine wpIn_region_any hm ?_;have hl:=hs.inv.len;refine Da (G:=G) (w:=w) (N0:=N0) (K:=λs1=>∃s2,im N0 s1 s2/\Q .normal s2) (λa' w' hn=> ?_) ops.size _ G _ a s (d1.less hN) hN d2 (h (by omega) λi=>by rw[hl];exact(hs.tmp i).low);obtain⟨G',s',x1,x2,x3,s2,e0,x4⟩:=hn;obtain⟨G2,y1,y2,y3⟩:=e0 G' w' a' x2 x3;exact⟨G2,s2,x1.trans y1,y2,y3,x4⟩
theorem Mv{N0:Nat}(Q:St->Prop):BX N0 (λs1=>∃s2,im N0 s1 s2/\Q s2):=λ_ _ h ⟨s2,J,h2⟩=>⟨s2,h.trans J,h2⟩
def x7(f:Nat->Bool):Nat->Nat
 |0=>0
 |n+1=>bif f n then x7 f n|||(1<<<n)else x7 f n
theorem EC(f:Nat->Bool):∀(n j:Nat),Nat.testBit (x7 f n) j=(decide (j<n)&&f j)
 |0,j=>by simp [x7]
 |n+1,j=>by
  unfold x7;have ih:=EC f n j;cases hf:f n with
  |true=>
   simp only[cond_true,Nat.testBit_or,ih,Nat.one_shiftLeft,Nat.testBit_two_pow];by_cases e:n=j
   ·subst e;simp [hf]
   ·have:decide (j<n+1)=decide (j<n):=by simp;omega
    rw[this];simp [e]
  |false=>
   simp only[cond_false,ih];by_cases e:n=j
   ·subst e;simp [hf]
   ·have:decide (j<n+1)=decide (j<n):=by simp;omega
    rw[this]
def fN{α:Type}(n:Nat)(f:Nat->α):α:=Nat.casesOn (Nat.succ n) (f 0) f
theorem yy{α:Type}(n:Nat)(f:Nat->α):fN n f=f n:=rfl
def fL{α:Type}:an3 Nat->(an3 Nat->α)->α
 |[],f=>f []
 |n::l,f=>fN n λn=>fL l λl=>f (n::l)
theorem vn{α:Type}:∀(l:an3 Nat)(f:an3 Nat->α),fL l f=f l
 |[],_=>rfl
 |n::l,f=>by rw[fL,yy,vn l]
section
variable (ops:Array Oper)
def afB(o:Oper)(n j:Nat):Bool:=o.after.any λe=>Region.binds .any e&&(e.on==j||(j==n&&cf n e.on))
def Jx(k:Nat):Nat:=match ops[k]? with
 |some o=>x7 (afB o ops.size) (ops.size+1)
 |none=>1<<<ops.size
def Mm(m:Bool)(M:Array Nat)(k j:Nat):Bool:= !(j==k)&&(!((M.getD j 0).testBit k)&&match ops[k]?,ops[j]? with
 |some oi,some oj=> !(oi.apart ops oj&&yp m oi oj)
 |_,_=>true)
def tt(m:Bool)(M:Array Nat)(k:Nat):Nat:=x7 (Mm ops m M k) ops.size
def oP:Nat->Nat->an3 Nat
 |_,0=>[]
 |k,n+1=>Jx ops k::oP (k+1) n
def kA(m:Bool)(M:Array Nat):Nat->Nat->an3 Nat
 |_,0=>[]
 |k,n+1=>tt ops m M k::kA m M (k+1) n
end
def pP:an3 Nat->Nat->Nat->an3 Nat
 |[],_,_=>[]
 |a::A,L,k=>bif !(Nat.testBit L k)&&(L&&&a==a)then k::pP A L (k+1)else pP A L (k+1)
def wV(C:an3 Nat)(L:Nat):an3 Nat->an5 Nat
 |[]=>none
 |k::r=>bif (C.getD k 0)|||L==L then some k else wV C L r
section
variable (ops:Array Oper) (st:Oper->St->an5 St) (h0:Nat) (ks A C:an3 Nat)
def og:an3 Oper->an3 Nat
 |[]=>[]
 |o::l=>match o.dst with
  |some d=>d::og l
  |none=>og l
end
theorem IV:∀{l:an3 Oper}{o:Oper},o∈l->∀d,o.dst=some d->d∈og l
 |[],_,h,_,_=>by cases h
 |a::l,o,h,d,hd=>by
  unfold og;rcases anJ.1 h with rfl|h
  ·rw[hd];simp
  ·split
   ·exact ann _ (IV h d hd)
   ·exact IV h d hd
theorem C5(ops:Array Oper):∀(n k i:Nat),(oP ops k n)[i]?=if i<n then some (Jx ops (k+i))else none
 |0,k,i=>by simp [oP]
 |n+1,k,0=>by simp [oP]
 |n+1,k,i+1=>by rw[oP,anQ,C5 ops n (k+1) i];simp only[Nat.add_lt_add_iff_right];rw[show k+1+i=k+(i+1) by omega]
theorem LR(ops:Array Oper)(m:Bool)(M:Array Nat):∀(n k i:Nat),(kA ops m M k n)[i]?=if i<n then some (tt ops m M (k+i))else none
 |0,k,i=>by simp [kA]
 |n+1,k,0=>by simp [kA]
 |n+1,k,i+1=>by rw[kA,anQ,LR ops m M n (k+1) i];simp only[Nat.add_lt_add_iff_right];rw[show k+1+i=k+(i+1) by omega]
theorem BH{L:Nat}:∀(A:an3 Nat)(k i:Nat),i∈pP A L k↔k<=i/\Nat.testBit L i=false/\∃a,A[i-k]?=some a/\L&&&a=a
 |[],k,i=>by simp [pP]
 |a::A,k,i=>by
  have ih:=BH (L:=L) A (k+1) i;unfold pP;have key:i∈pP A L (k+1)↔k<i/\Nat.testBit L i=false/\∃b,(a::A)[i-k]?=some b/\L&&&b=b:=by
   rw[ih];constructor
   ·rintro⟨J,h2,b,h3,h4⟩;refine⟨J,h2,b,?_,h4⟩;rw[show i-k=(i-(k+1))+1 by omega,anQ];exact h3
   ·rintro⟨J,h2,b,h3,h4⟩;refine⟨J,h2,b,?_,h4⟩;rw[show i-k=(i-(k+1))+1 by omega,anQ]at h3;exact h3
  cases hb:(!(Nat.testBit L k)&&(L&&&a==a))with
  |true=>
   simp only[cond_true,anJ,key];simp only[ang,Bool.not_eq_true',beq_iff_eq]at hb;constructor
   ·rintro(rfl|⟨J,h2⟩)
    ·exact⟨anp _,hb.1,a,by simp,hb.2⟩
    ·exact⟨by omega,h2⟩
   ·rintro⟨J,h2⟩;rcases Nat.lt_or_eq_of_le J with h|h
    ·exact .inr ⟨h,h2⟩
    ·exact .inl h.symm
  |false=>
   simp only[cond_false,key];constructor
   ·rintro⟨J,h2⟩;exact⟨by omega,h2⟩
   ·rintro⟨J,h2,b,h3,h4⟩;rcases Nat.lt_or_eq_of_le J with h|h
    ·exact⟨h,h2,b,h3,h4⟩
    ·subst h;simp at h3;subst h3;rw[h2]at hb;simp at hb;exact absurd h4 hb
theorem Et{C:an3 Nat}{L:Nat}:∀{r:an3 Nat}{k:Nat},wV C L r=some k->k∈r/\(C.getD k 0)|||L=L
 |[],k,h=>by cases h
 |a::r,k,h=>by
  unfold wV at h;cases hb:((C.getD a 0)|||L==L)with
  |true=>rw[hb]at h;cases h;exact⟨by simp,by simpa using hb⟩
  |false=>rw[hb]at h;have:=Et h;exact⟨ann _ this.1,this.2⟩
structure LM(ops:Array Oper)(L:Nat)(listed:Array Bool):Prop where
 sz:listed.size=ops.size
 b:∀i,Nat.testBit L i=listed.getD i false
theorem LM.set{ops:Array Oper}{L:Nat}{listed:Array Bool}(h:LM ops L listed){k:Nat}(hk:k<ops.size):LM ops (L|||(1<<<k)) (listed.setIfInBounds k true):=by
 refine⟨by simp [h.sz],λi=> ?_⟩;rw[Nat.testBit_or,Nat.one_shiftLeft,Nat.testBit_two_pow,h.b i];by_cases e:k=i
 ·subst e;have:k<listed.size:=by rw[h.sz];exact hk
  simp [this]
 ·rw[getD_set_ne false e];simp [e]
theorem LM.ready{ops:Array Oper}{L:Nat}{listed:Array Bool}(h:LM ops L listed)(i:Nat):i∈Region.ready .any ops listed↔i∈pP (oP ops 0 ops.size) L 0:=by
 rw[mem_ready,BH];simp only[Nat.zero_le,true_and,Nat.sub_zero,C5,anz];have XQ:∀j,ops.size<=j->Nat.testBit L j=false:=λj hj=>by
   rw[h.b,Array.getD_eq_getD_getElem?,Array.getElem?_eq_none (by rw[h.sz];exact hj)];rfl
 constructor
 ·rintro⟨J,o,ho,h2⟩;have hi:=(ant.1 ho).1;have hgd:listed.getD i false=false:=by
   have dM:i<listed.size:=by rw[h.sz];exact hi
   simpa [dM]using J
  refine⟨by rw[h.b];exact hgd,_,by rw[if_pos hi],?_⟩;apply Nat.eq_of_testBit_eq;intro j;rw[Nat.testBit_and];unfold Jx;rw[ho];simp only[EC];cases hb:(decide (j<ops.size+1)&&afB o ops.size j)with
  |false=>simp
  |true=>
   simp only[Bool.and_true];rw[ang]at hb;have hb:=hb.2;unfold afB at hb;rw[Array.any_eq_true']at hb;obtain⟨e,he,hb⟩:=hb;simp only[ang,Bool.or_eq_true,beq_iff_eq,c6]at hb;have h3:=h2 e he hb.1;have:e.on<ops.size:=by
    rcases Nat.lt_or_ge e.on ops.size with hl|hl
    ·exact hl
    ·have:=XQ e.on hl;rw[h.b]at this;rw[this]at h3;cases h3
   rcases hb.2 with hj|⟨_,hj⟩
   ·rw[<-hj,h.b];exact h3
   ·omega
 ·rintro⟨J,a,ha,h2⟩;split at ha
  ·next hi=>
   cases ha
   have ho:ops[i]?=some ops[i]:=anB hi;refine⟨?_,ops[i],ho,λe he Ai=> ?_⟩
   ·rw[h.b]at J;have dM:i<listed.size:=by rw[h.sz];exact hi
    simpa [dM]using J
   ·have jY:∀j,j<ops.size+1->afB ops[i] ops.size j=true->Nat.testBit L j=true:=λj hj hf=>by
     have:=congrArg (λn=>Nat.testBit n j) h2;simp only[Nat.testBit_and]at this;unfold Jx at this;rw[ho]at this;simp only[EC]at this;rw[hf]at this
     simpa [hj]using this
    have Xm:∀j,(e.on==j||(j==ops.size&&cf ops.size e.on))=true->afB ops[i] ops.size j=true:=λj hj=>by
     unfold afB;rw[Array.any_eq_true'];exact⟨e,he,by rw[Ai,hj];rfl⟩
    rcases Nat.lt_or_ge e.on ops.size with hl|hl
    ·rw[<-h.b];exact jY e.on (by omega) (Xm _ (by simp))
    ·have:=jY ops.size (by omega) (Xm _ (by simp [c6.2 hl]));rw[XQ _ (anp _)]at this;cases this
  ·cases ha
section
variable {P:an6} {ops:Array Oper} {st:Oper->St->an5 St} {h0:Nat} {m:Bool} {N0:Nat} {K:St->Prop} {s0:St}
end
end Go.Proofs.YtpeecnpmcbnahaaGreatDoor
namespace Go.Proofs.YtpeecnpmcbnahaaGreatDoor
open Go.RowKit
inductive Ex
 |n
 |r
 |x (id:Nat)
def M6{α:Type}(n:Nat)(f:Nat->α):α:=Nat.casesOn (Nat.succ n) (f 0) f
theorem amr{α:Type}(n:Nat)(f:Nat->α):M6 n f=f n:=rfl
def AV.force{α:Type}(x:AV)(f:AV->α):α:=
 match x with
 | .d (.v (.int k (.ofNat n)))=>M6 n λn=>f (.d (.v (.int k (.ofNat n))))
 | .d (.v (.bool b))=>bif b then f (.d (.v (.bool true)))else f (.d (.v (.bool false)))
 |x=>f x
theorem AV.force_eq{α:Type}(x:AV)(f:AV->α):x.force f=f x:=by
 unfold AV.force;split
 ·rw[amr]
 ·next b=>cases b<;>rfl
 ·rfl
def FU{α:Type}:an3 ao->(an3 ao->α)->α
 |[],f=>f []
 |b::l,f=>FU l λr=>f (b::r)
theorem Zk{α:Type}:∀(l:an3 ao)(f:an3 ao->α),FU l f=f l
 |[],_=>rfl
 |b::l,f=>by rw[FU,Zk l]
abbrev ML:=Bool->Nat->Code->St->an5 (Ex×St)
abbrev PO:=FuncId->an3 AV->an5 (an5 AV)
def am1:an5 (an5 AV)->Bool
 |some none=>true
 |_=>false
mutual
def AV.R0:AV->an3 Nat
 | .fn _ cs=>AV.NF cs
 |_=>[]
def AV.NF:an3 AV->an3 Nat
 |[]=>[]
 | .ptr n _::l=>n::AV.NF l
 |x::l=>x.R0++AV.NF l
end
def GA:an3 Nat->AV->an3 ao->an5 (AV×an3 ao)
 |[],r,h=>some (r,h)
 |b::l,r,h=>match h[b]? with
  |some (.cells cs)=>match mV cs with
   |some ds=>GA l (r.fq b ds) ((h.map (ao.fq b ds)).set b .gone)
   |none=>none
  |_=>none
def Ub:AV->an5 D
 | .d x=>some x
 |_=>none
def Kr:an3 AV->an5 (an3 D)
 |[]=>some []
 |x::l=>match Ub x,Kr l with
  |some d,some r=>some (d::r)
  |_,_=>none
def F8:an3 (an3 AV)->an5 (an3 (an3 D))
 |[]=>some []
 |x::l=>match Kr x,F8 l with
  |some d,some r=>some (d::r)
  |_,_=>none
mutual
def AV.Wu:AV->Bool
 | .vec .. =>true
 | .agg cs=>AV.Ht cs
 | .aZ cs=>AV.Ht cs
 | .fn _ cs=>AV.Ht cs
 |_=>false
def AV.Ht:an3 AV->Bool
 |[]=>false
 |x::l=>x.Wu||AV.Ht l
end
def tY:an3 Nat->AV->an3 ao->AV×an3 ao
 |[],r,h=>(r,h)
 |b::l,r,h=>match h[b]? with
  |some (.vec _ k cs)=>match F8 cs with
   |some xs=>bif xs.all (λc=>c.all D.A0)then(r.di b k xs).force λr=>FU ((h.map (ao.lF (AV.di b k xs))).set b .gone) λh=>tY l r h else tY l r h
   |none=>tY l r h
  |_=>tY l r h
def abI(h:an3 ao):an3 Nat:=(List.range h.length).reverse++(List.range h.length).reverse
def KC(r:AV)(h:an3 ao):an5 AV:=
 match GA r.R0 r h with
 |some (r,_)=>some (r.bo 0)
 |none=>none
def RW(r:AV)(h:an3 ao):an5 AV:=
 bif r.Wu then(match tY (abI h) r h with|(r,h)=>KC r h)else KC r h
section
variable (run:ML) (P:an6) (Wd:PO)
def bO(lo:Nat)(f:FuncId)(args:an3 AV)(h:an3 ao):an5 (AV×an3 ao):=
 match P.funcs[f]? with
 |some fn=>match fn.body with
  |some c=>M6 (args.length+(fn.ntmps-args.length)) λn=>match run true lo c ⟨n,lS 0 args,h⟩with
   |some (.x _,_)=>none
   |some (_,s)=>match sP P s fn.results.toList with
    |some l=>some (jX l,s.h)
    |none=>none
   |none=>none
  |none=>none
 |none=>none
end
section
variable {run:ML} {P:an6} {Wd:PO} {lo:Nat} {s s':St}
end
mutual
theorem AX(m:Nat):∀x:AV,x.aC m=true->x.bo m=x
 | .own n xs,h=>by
   rw[AV.aC]at h;rw[AV.bo];cases e:cf m n with
   |true=>rw[e]at h;cases h
   |false=>rfl
 | .agg cs,h=>by rw[AV.aC]at h;rw[AV.bo,FV m cs h]
 | .aZ cs,h=>by rw[AV.aC]at h;rw[AV.bo,FV m cs h]
 | .fn f cs,h=>by rw[AV.aC]at h;rw[AV.bo,FV m cs h]
 | .d _,_=>by simp only[AV.bo]
 | .ptr ..,_=>by simp only[AV.bo]
 | .bg ..,_=>by simp only[AV.bo]
 | .full _,_=>by simp only[AV.bo]
 | .row ..,_=>by simp only[AV.bo]
 | .mp _,_=>by simp only[AV.bo]
 | .cg _,_=>by simp only[AV.bo]
 | .vec ..,_=>by simp only[AV.bo]
 | .dp ..,_=>by simp only[AV.bo]
 | .hid _,_=>by simp only[AV.bo]
 | .dead,_=>by simp only[AV.bo]
theorem FV(m:Nat):∀l:an3 AV,AV.kh m l=true->AV.pe m l=l
 |[],_=>by simp [AV.pe]
 |x::l,h=>by
  rw[AV.kh,ang]at h;rw[AV.pe,AX m x h.1,FV m l h.2]
end
theorem alE{m:Nat}{B:ao}(h:B.aC m=true):B.bo m=B:=by
 cases B with
 |cells cs=>
  simp only[ao.aC,anF]at h;simp only[ao.bo]
  congr 1
  exact(anK λx hx=>AX m x (h x hx)).trans (List.map_id _)
 |lp ls p as bd cs=>
  simp only[ao.aC,anF]at h;simp only[ao.bo]
  congr 1
  exact(anK λx hx=>AX m x (h x hx)).trans (List.map_id _)
 |it sn cs=>
  simp only[ao.aC,anF]at h;simp only[ao.bo]
  congr 1
  exact(anK λx hx=>AX m x (h x hx)).trans (List.map_id _)
 |eG T0 cs=>
  simp only[ao.aC,anF]at h;simp only[ao.bo]
  congr 1
  exact(anK λx hx=>AX m x (h x hx)).trans (List.map_id _)
 |vec e k cs=>
  simp only[ao.aC,anF]at h;simp only[ao.bo]
  congr 1
  exact(anK λx hx=>(anK λy hy=>AX m y (h x hx y hy)).trans (List.map_id _)).trans (List.map_id _)
 |front e k len=>rfl
 |ig e b=>rfl
 |map kv=>rfl
 |iy kv=>rfl
 |gone=>rfl
theorem Nq{m:Nat}{h:an3 ao}(e:h.all (ao.aC m)=true):h.map (ao.bo m)=h:=
 (anK λB hB=>alE (anF.1 e B hB)).trans (List.map_id _)
end Go.Proofs.YtpeecnpmcbnahaaGreatDoor
namespace Go.Proofs.YtpeecnpmcbnahaaGreatDoor
open Go.RowKit
section
variable {P:an6} {r:an5 Nat} {n N0:Nat} {G:Gh} {w:an8} {a:Act} {s:St} {o:Oper} {Q:Exit->St->Prop}
end
theorem cF.cut{P:an6}{f:FuncId}{args:an3 AV}{h h':an3 ao}{r:AV}(m:Nat)(hc:cF P f args h λr1 J=>r1=r/\J=h')(J:h.length<=m)(h2:m<=h'.length)(hb:(((h'.take m).map (ao.bo m)).all (ao.aC m))=true)(hr:(r.bo m).aC m=true):
 cF P f args h λr1 J=>r1=r.bo m/\J=(h'.take m).map (ao.bo m):=by
 refine⟨hc.1,λG w vs hi hl hv=>(hc.2 G w vs hi hl hv).mono λe w' hp=> ?_⟩;obtain⟨v,G',_,_,rfl,hE,hN,dM,PV,rfl,rfl⟩:=hp;exact⟨v,G'.cut m,_,_,rfl,hE.trans (qe _ _ _ _),by rw[<-hi.len];exact J,Ln dM h2 hb,(PV.bo m).cut hr,rfl,rfl⟩
section
variable {run:ML} {P:an6} {Wd:PO} {lo:Nat} {s s':St}
theorem cF.WW{f:FuncId}{args:an3 AV}{h0 h h2:an3 ao}{r r2:AV}{tl:an3 (Nat×AV)}(hc:cF P f args h0 λr1 J=>r1=r/\J=h)
 (hT:∀(G:Gh)(w:an8)(a:Act),cJ G w a ⟨1,[(0,r)],h⟩->∃G',bI G.N G w G' w/\G'.N=G.N/\cJ G' w a ⟨1,(0,r2)::tl,h2⟩):cF P f args h0 λr1 J=>r1=r2/\J=h2:=by
 refine⟨hc.1,λG w vs hi hl hv=>(hc.2 G w vs hi hl hv).mono λe w' hp=> ?_⟩;obtain⟨v,G',_,_,rfl,hE,hN,dM,PV,rfl,rfl⟩:=hp;obtain⟨G2,e1,e2,e3⟩:=hT G' w' {tmps:= #[v],defers:=[]} ⟨rfl,λi=>by
  show aD G' w' _ (bm [(0,_)] i);rw[kX];split
  ·next ei=>subst ei;exact PV
  ·exact .dead _,dM,rz.nil _ _⟩
 exact⟨v,G2,r2,h2,rfl,hE.trans (e1.less hN),by rw[e2];exact hN,e3.inv,e3.tmp 0,rfl,rfl⟩
theorem TD{f:FuncId}{args:an3 AV}{h0:an3 ao}:∀(l:an3 Nat){h h2:an3 ao}{r r2:AV},(cF P f args h0 λr1 J=>r1=r/\J=h)->GA l r h=some (r2,h2)->cF P f args h0 λr1 J=>r1=r2/\J=h2
 |[],h,h2,r,r2,hc,e=>by cases e;exact hc
 |b::l,h,h2,r,r2,hc,e=>by
  unfold GA at e;split at e
  ·next cs e1=>
   split at e
   ·next ds e2=>
    refine TD l (cF.WW (tl:=[]) hc λG w a hs=> ?_) e;refine hs.wN (b:=b) ?_;simp only[Go.Proofs.YtpeecnpmcbnahaaGreatDoor.wN,e1,e2];rfl
   ·cases e
  ·cases e
theorem Yr:∀{l:an3 AV}{ds:an3 D},Kr l=some ds->l=ds.map AV.d
 |[],ds,h=>by cases h;rfl
 |x::l,ds,h=>by
  unfold Kr at h;split at h
  ·next d r e1 e2=>
   cases h
   rw[Yr e2];cases x<;>simp [Ub]at e1
   subst e1;rfl
  ·cases h
theorem Sg:∀{l:an3 (an3 AV)}{xs:an3 (an3 D)},F8 l=some xs->l=bU xs
 |[],xs,h=>by cases h;rfl
 |x::l,xs,h=>by
  unfold F8 at h;split at h
  ·next d r e1 e2=>cases h;rw[Sg e2,Yr e1];rfl
  ·cases h
theorem EV{f:FuncId}{args:an3 AV}{h0:an3 ao}:∀(l:an3 Nat){h:an3 ao}{r:AV},(cF P f args h0 λr1 J=>r1=r/\J=h)->cF P f args h0 λr1 J=>r1=(tY l r h).1/\J=(tY l r h).2
 |[],h,r,hc=>hc
 |b::l,h,r,hc=>by
  unfold tY;split
  ·next e k cs e1=>
   split
   ·next xs e2=>
    rw[AV.force_eq,Zk,cond_eq_ite];split
    ·next J=>
     refine EV l (cF.WW (tl:=[]) hc λG w a hs=> ?_);have e3:=Sg e2;exact hs.Ug xs (by show h[b]?=_;rw[e1,e3]) (λc hc=>anF.1 J c hc)
    ·exact EV l hc
   ·exact EV l hc
  ·exact EV l hc
theorem Mb{f:FuncId}{args:an3 AV}{h:an3 ao}{r r2:AV}(hc:cF P f args [] λr1 J=>r1=r/\J=h)(e:RW r h=some r2)(hb:r2.aC 0=true):fP P f args (·=r2):=by
 have fin:∀{r:AV}{h:an3 ao},(cF P f args [] λr1 J=>r1=r/\J=h)->(r.bo 0).aC 0=true->fP P f args (·=r.bo 0):=λhc hb=>
  (hc.cut 0 (anp _) (Nat.zero_le _) (by simp) hb).mono λr1 J ⟨k1,k2⟩=>⟨by simpa using k2,k1⟩
 have gen:∀{r:AV}{h:an3 ao},(cF P f args [] λr1 J=>r1=r/\J=h)->KC r h=some r2->fP P f args (·=r2):=λhc e=>by
  unfold KC at e;split at e
  ·next r3 h3 e1=>
   cases e
   exact fin (TD _ hc e1) hb
  ·cases e
 unfold RW at e;rcases ams e with⟨_,e⟩|⟨_,e⟩
 ·exact gen (EV _ hc) e
 ·exact gen hc e
end
theorem WE:∀(H' H e:an3 ao),H'.length=H.length->gQ (List.range H.length) H' (H++e)=H'++e:=by
 intro H' H e hl;have gen:∀(n:Nat)(a b B r:an3 ao),b.length=n->B.length=n->gQ ((List.range n).map (a.length+·)) B (a++(b++r))=a++(B++r):=by
  intro n
  induction n with
  |zero=>intro a b B r hb hB;rw[List.length_eq_zero_iff.1 hb,List.length_eq_zero_iff.1 hB];simp [gQ]
  |succ n ih=>
   intro a b B r hb hB;cases b with
   |nil=>simp at hb
   |cons b0 b=>
    cases B with
    |nil=>simp at hB
    |cons B0 B=>
     rw[List.range_succ_eq_map,anE,List.map_map,gQ];have e1:(a++(b0::b++r)).set (a.length+0) B0=(a++[B0])++(b++r):=by
       rw[Nat.add_zero,List.set_append_right _ _ (anp _),Nat.sub_self];simp
     have e2:(λx=>a.length+x)∘Nat.succ=λx=>(a++[B0]).length+x:=by
      funext x
      simp only[Function.comp_apply,anf,anh,anq];omega
     rw[e1,e2,ih (a++[B0]) b B r (by simpa using hb) (by simpa using hB)];simp
 have:=gen H.length [] H H' e rfl hl
 simpa using this
theorem Lg{P:an6}{k:Nat}{x:AV}{H:an3 ao}{C:Bool->an3 ao->Prop}(hy:YS P k x H C)(e:an3 ao)(hb:H.all (ao.aC H.length)=true)(hx:x.aC H.length=true)
 (hC:∀b h',C b h'->h'.length=H.length/\h'.all (ao.aC H.length)=true):YS P k x (H++e) λb h'=>∃H',C b H'/\h'=H'++e:=by
 intro G w v r n hi hv;have wq:∀i,i<H.length->rn (List.range H.length) (H++e).length i=i:=λi h=>yw (List.range H.length) _ i i (by rw[List.getElem?_range h]);have Io:∀y:AV,y.aC H.length=true->y.aG (rn (List.range H.length) (H++e).length)=y:=λy hy=>(xb (τ:=id) wq y hy).trans (CT y);have Ca:∀B:ao,B.aC H.length=true->B.aG (rn (List.range H.length) (H++e).length)=B:=λB hB=>(Rw (τ:=id) wq B hB).trans (OL B);obtain⟨G0,cq,sW,nJ,Ri⟩:=aaQ (H:=H) (l:=List.range H.length) (h:=H++e) List.nodup_range (λj hj=>by have:=List.mem_range.1 hj;simp;omega) (λi j rj=>by
  obtain⟨aI,rfl⟩:i<H.length/\j=i:=by
   have J:=(ane.1 rj).1;rw[List.length_range]at J;rw[List.getElem?_range J]at rj;exact⟨J,(anx rj).symm⟩
  rw[ano aI,ani aI,Option.map_some,Ca _ (anF.1 hb _ (List.getElem_mem aI))]) (by simp) hb hi
 obtain⟨hk,p,as,bd,fn,tm,D,J,h2⟩:=hy G0 w v r n sW (aD.rZ nJ (by rw[Io x hx];exact hv) x rfl (by rw[cq];exact hx));have gM:k<H.length:=cq▸hk;have fX:G.aO k=G0.aO k:=by
  have:=nJ.aO k hk
  rwa [wq k gM]at this
 refine⟨by have:=nJ.lt k hk;rwa [wq k gM]at this,p,as,bd,fn,tm,D,by rw[fX];exact J,?_⟩;rw[fX];refine h2.mono λe1 w' hp=> ?_;obtain⟨b,G1,H',rfl,hE,gh,jS,hc⟩:=hp;rw[cq]at hE gh;obtain⟨G2,a1,a2,a3,_⟩:=Ri G1 w' H' hE gh jS;obtain⟨c1,c2⟩:=hC b H' hc;refine⟨b,G2,H'++e,rfl,a1,a2,?_,H',hc,rfl⟩;have hm:H'.map (ao.aG (rn (List.range H.length) (H++e).length))=H':=(anK λB hB=>Ca B (anF.1 c2 B hB)).trans (List.map_id _);rw[hm,WE H' H e c1]at a3;exact a3
def lz(P:an6)(k:Nat):an3 AV->(Bool->an3 ao->Prop)->an3 ao->Prop
 |[],C,h=>C true h
 |x::l,C,h=>YS P k x h λb J=>(J.length=h.length/\J.all (ao.aC h.length)=true)/\bif b then lz P k l C J else C false J
theorem TA{P:an6}{k:Nat}:∀(l:an3 AV){C C':Bool->an3 ao->Prop}{h:an3 ao},(∀b J,C b J->C' b J)->lz P k l C h->lz P k l C' h
 |[],_,_,_,hc,hs=>hc _ _ hs
 |x::l,C,C',h,hc,hs=>YS.mono hs λb J ⟨h2,h3⟩=>⟨h2,by
  cases b with
  |true=>exact TA l hc h3
  |false=>exact hc _ _ h3⟩
theorem Z7{P:an6}{k:Nat}:∀(l l':an3 AV){C:Bool->an3 ao->Prop}{h:an3 ao},lz P k (l++l') C h->lz P k l (λb J=>bif b then lz P k l' C J else C false J) h
 |[],_,_,_,hs=>hs
 |x::l,l',C,h,hs=>YS.mono hs λb J ⟨h2,h3⟩=>⟨h2,by
  cases b with
  |true=>exact Z7 l l' h3
  |false=>exact h3⟩
def nY(h J:an3 ao):Prop:=J.length=h.length/\J.all (ao.aC h.length)=true
def ze(P:an6)(gf:FuncId)(cT:an3 AV)(xs:an3 AV):Prop:=
 ∀(k:Nat)(h:an3 ao)(C:Bool->an3 ao->Prop),h.all (ao.aC h.length)=true->k<h.length->lz P k xs C h->cF P gf (.cg k::cT) h λ_ J=>∃b,C b J
def UT(P:an6)(T:TypeId):an3 AV:=match iJ P T with|some z=>z.cells.toList.map λu=> .d (.v u)|none=>[]
section
variable {P:an6} {r:an5 Nat} {N0:Nat} {Q:Exit->St->Prop} {ops:Array Oper} {o o1 o2 o3 o4 o5:Oper} {s:St} {K:St->Prop} {id:Nat}
theorem bG{rest:an3 Oper}(hg:o.guard=none)(h:n9 P o (sE P ops rest K) s):sE P ops (o::rest) K s:=by
 unfold sE iY;rw[hg];exact h
theorem Ab{n d:Nat}{t:an3 (Nat×AV)}{h h':an3 ao}{x:AV}{hd:HD}(hx:mF P o.op (ev ⟨n,t,h⟩) h=some (x,hd))(iN:o.dst=some d)(hn:Nat.ble n d=false)(he:hd.app h=h')(hK:K ⟨n,(d,x)::t,h'⟩):n9 P o K ⟨n,t,h⟩:=by
 refine .inr (.inr (.inl (VG hx ?_)));show K ((St.wh ⟨n,t,h⟩ (hd.app h)).put o.dst x);rw[iN,he];have aI:d<n:=Nat.lt_of_not_le λhle=>by rw[Nat.ble_eq_true_of_le hle]at hn;cases hn
 rw[qQ (s:=St.wh ⟨n,t,h⟩ h') aI];exact hK
theorem cy{n d:Nat}{t:an3 (Nat×AV)}{h:an3 ao}{x:AV}(hx:mF P o.op (ev ⟨n,t,h⟩) h=some (x, .same))(iN:o.dst=some d)(hn:Nat.ble n d=false)(hK:K ⟨n,(d,x)::t,h⟩):n9 P o K ⟨n,t,h⟩:=Ab hx iN hn rfl hK
theorem Np{n:Nat}{t:an3 (Nat×AV)}{h h':an3 ao}{x:AV}{hd:HD}(hx:mF P o.op (ev ⟨n,t,h⟩) h=some (x,hd))(iN:o.dst=none)(he:hd.app h=h')(hK:K ⟨n,t,h'⟩):n9 P o K ⟨n,t,h⟩:=by
 refine .inr (.inr (.inl (VG hx ?_)));show K ((St.wh ⟨n,t,h⟩ (hd.app h)).put o.dst x);rw[iN,he];exact hK
theorem af3{h l:an3 ao}{i off:Nat}{cs:an3 AV}(hi:l[i]?=some (.cells cs)):xv (h++l) (.ptr (h.length+i) off)=some (cs,off):=by
 unfold xv;simp only;rw[anu (anU _ _),Nat.add_sub_cancel_left,hi]
theorem vo{ρ:Operand->AV}{h l:an3 ao}{T:TypeId}{p:Operand}{i off:Nat}{cs:an3 AV}{x:AV}(hp:ρ p= .ptr (h.length+i) off)(hi:l[i]?=some (.cells cs))(hl:Bo P T cs off=some x):mF P (.load T p) ρ (h++l)=some (x, .same):=by
 unfold mF;simp only[hp,af3 hi,hl,pX]
theorem S0{ρ:Operand->AV}{h l:an3 ao}{T:TypeId}{y:Operand}{v:AV}(hv:ρ y=v)(hb:v.jD=true):mF P (.box T y) ρ (h++l)=some (.ptr (h.length+l.length) 0, .push (.cells v.cells)):=by
 subst hv;unfold mF;simp only[hb,cond_true,anf]
theorem NW{ρ:Operand->AV}{h l:an3 ao}{T:TypeId}(hz:(iJ P T).isSome=true):mF P (.alloc T) ρ (h++l)=some (.ptr (h.length+l.length) 0, .push (.cells (UT P T))):=by
 unfold mF UT;cases e:iJ P T with
 |none=>rw[e]at hz;cases hz
 |some z=>simp only[e,anf]
theorem EG{h l:an3 ao}{B:ao}:(HD.push B).app (h++l)=h++(l++[B]):=by simp [HD.app]
theorem P3{ρ:Operand->AV}{h l:an3 ao}{T:TypeId}{p y:Operand}{i off k:Nat}{cs:an3 AV}{v:AV}(hp:ρ p= .ptr (h.length+i) off)(hi:l[i]?=some (.cells cs))(hk:fW P T=some k)(hv:ρ y=v)(hb:(k==v.cells.length&&v.jD&&cf (off+v.cells.length) cs.length)=true){cw:an3 AV}(gx:iP cs off v.cells=cw):
 mF P (.store T p y) ρ (h++l)=some (.d (.v undef), .set (h.length+i) (.cells cw)):=by
 subst hv gx;unfold mF;simp only[hp,hk];rw[anu (anU _ _),Nat.add_sub_cancel_left,hi];simp only[hb,cond_true]
theorem Q2{ρ:Operand->AV}{h:an3 ao}{T:TypeId}{a i:Operand}{xs:an3 (an3 D)}{q e k:Nat}{c:an3 D}(hx:ρ a= .d (.sl xs))(hi:ρ i= .d (.v (.int .i64 (Int.ofNat q))))(hT:eP P T=some (e,k))(hc:xs[q]?=some c)(hk:(c.length==k)=true):mF P (.indexAddr T a i) ρ h=some (.bg [c] 0 0, .same):=by
 unfold mF;simp only[hx,hi];unfold J7;simp only[hT,AV.fE,AV.int?,zN,hc,hk,cond_true,pX]
theorem QE{h l:an3 ao}{B:ao}{i:Nat}:(HD.set (h.length+i) B).app (h++l)=h++l.set i B:=by
 simp only[HD.app];rw[List.set_append_right _ _ (anU _ _),Nat.add_sub_cancel_left]
theorem Ib{n d:Nat}{t:an3 (Nat×AV)}{h:an3 ao}{T:TypeId}{x y:Operand}{p:TypeId}{xs:an3 (an3 D)}{q:TypeId×Nat}(ho:o.op= .binOp .eql T x y p)(hx:(ev ⟨n,t,h⟩ x).fE=some xs)(hy:ev ⟨n,t,h⟩ y= .d (.v (.slice none 0 0)))(hT:eP P T=some q)(iN:o.dst=some d)(hn:Nat.ble n d=false)
 (J:xs=[]->K ⟨n,(d, .d (.v (.bool true)))::t,h⟩) (h2:K ⟨n,(d, .d (.v (.bool false)))::t,h⟩):n9 P o K ⟨n,t,h⟩:=by
 refine .inr (.inl ?_);have aI:d<n:=Nat.lt_of_not_le λhle=>by rw[Nat.ble_eq_true_of_le hle]at hn;cases hn
 unfold CP;simp only[ho,hx,hy,hT,xJ,iN,qQ (s:=⟨n,t,h⟩) aI];exact⟨J,h2⟩
theorem yN{n d k:Nat}{t:an3 (Nat×AV)}{h:an3 ao}{c:Call}{f:Operand}{x:AV}(ho:o.op= .call c)(hc:c.callee= .value f)(hf:ev ⟨n,t,h⟩ f= .cg k)(hx:c.args.toList.map (ev ⟨n,t,h⟩)=[x])(iN:o.dst=some d)(hn:Nat.ble n d=false)
 (hy:YS P k x h λb h'=>K ⟨n,(d, .d (.v (.bool b)))::t,h'⟩):n9 P o K ⟨n,t,h⟩:=by
 refine .inr (.inr (.inr (.inl ?_)));unfold Ha;simp only[ho,hc,hf,hx];refine hy.mono λb h' hK=> ?_;have aI:d<n:=Nat.lt_of_not_le λhle=>by rw[Nat.ble_eq_true_of_le hle]at hn;cases hn
 rw[iN,qQ (s:=St.wh ⟨n,t,h⟩ h') aI];exact hK
theorem El{n:Nat}{t:an3 (Nat×AV)}{h:an3 ao}{c:Call}{f:Operand}{g:FuncId}{cT:an3 AV}(ho:o.op= .call c)(hc:c.callee= .value f)(hf:ev ⟨n,t,h⟩ f= .fn g cT)
 (hA:cF P g (c.args.toList.map (ev ⟨n,t,h⟩)++cT) h λx h'=>K ((St.wh ⟨n,t,h⟩ h').put o.dst x)):n9 P o K ⟨n,t,h⟩:=by
 refine .inr (.inr (.inl ?_));unfold qB cD;simp only[ho,hc,hf];exact hA
end
theorem ad2{P:an6}{f:FuncId}{args:an3 AV}{H:an3 ao}{K:AV->an3 ao->Prop}(hc:cF P f args H K)(e:an3 ao)(hb:H.all (ao.aC H.length)=true)(ha:args.all (AV.aC H.length)=true)
 (hK:∀r h',K r h'->h'.length=H.length/\h'.all (ao.aC H.length)=true/\r.aC H.length=true):cF P f args (H++e) λr h'=>∃H',K r H'/\h'=H'++e:=by
 have wq:∀i,i<H.length->rn (List.range H.length) (H++e).length i=i:=λi h=>yw (List.range H.length) _ i i (by rw[List.getElem?_range h]);have Io:∀y:AV,y.aC H.length=true->y.aG (rn (List.range H.length) (H++e).length)=y:=λy hy=>(xb (τ:=id) wq y hy).trans (CT y);have Ca:∀B:ao,B.aC H.length=true->B.aG (rn (List.range H.length) (H++e).length)=B:=λB hB=>(Rw (τ:=id) wq B hB).trans (OL B);have:=hc.Yx (l:=List.range H.length) (h:=H++e) List.nodup_range (λj hj=>by have:=List.mem_range.1 hj;simp;omega) (λi j rj=>by
  obtain⟨aI,rfl⟩:i<H.length/\j=i:=by
   have J:=(ane.1 rj).1;rw[List.length_range]at J;rw[List.getElem?_range J]at rj;exact⟨J,(anx rj).symm⟩
  rw[ano aI,ani aI,Option.map_some,Ca _ (anF.1 hb _ (List.getElem_mem aI))]) (by simp) ha hb
 have ea:args.map (AV.aG (rn (List.range H.length) (H++e).length))=args:=(anK λx hx=>Io x (anF.1 ha x hx)).trans (List.map_id _);rw[ea]at this;refine this.mono λr' h' ⟨r,H',k1,k2,k3⟩=> ?_;obtain⟨c1,c2,c3⟩:=hK r H' k1;have hm:H'.map (ao.aG (rn (List.range H.length) (H++e).length))=H':=(anK λB hB=>Ca B (anF.1 c2 B hB)).trans (List.map_id _);rw[hm,WE H' H e c1]at k3;rw[Io r c3]at k2;exact⟨H',by rw[k2];exact k1,k3⟩
theorem aez{h:an3 ao}{p:AV}{K K':an3 AV->Nat->Prop}(hk:∀cs off,K cs off->K' cs off)(hp:sq h p K):sq h p K':=by
 unfold sq at hp ⊢;split at hp
 ·next n off=>
  split at hp
  ·next cs e=>(try simp only[e]);exact hk _ _ hp
  ·exact hp.elim
 ·next xs i off=>
  split at hp
  ·next cs e=>(try simp only[e]);exact hk _ _ hp
  ·exact hp.elim
 ·exact hp.elim
theorem afK{P:an6}{T:TypeId}{h:an3 ao}{p:AV}{K K':AV->Prop}(hk:∀x,K x->K' x)(hp:n8 P T h p K):n8 P T h p K':=
 aez (λcs off hc=>by
  split at hc
  ·next k e1 e2=>
   try simp only[e1,e2]
   exact bK.2 ⟨(bK.1 hc).1,hk _ (bK.1 hc).2⟩
  ·next k e1 e2=>
   try simp only[e1,e2]
   split at hc
   ·next c e3=>(try simp only[e3]);exact hk _ hc
   ·exact hc.elim
  ·exact hc.elim) hp
theorem acu{P:an6}{fn:Func}{n:Nat}{t:an3 (Nat×AV)}{H l:an3 ao}{K:AV->an3 ao->Prop}(hb:H.all (ao.aC H.length)=true)(hr:mS P ⟨n,t,H++l⟩ fn.results.toList λrs=>((jX rs).bo H.length).aC H.length=true/\K ((jX rs).bo H.length) H):qy P fn H.length K ⟨n,t,H++l⟩:=by
 have ht:(((H++l).take H.length).map (ao.bo H.length))=H:=by rw[List.take_left];exact Nq hb
 unfold qy;show mS P ⟨n,t,H++l⟩ fn.results.toList λrs=>H.length<=(H++l).length/\_;simp only[ht];have gen:∀(rv:an3 ResultVar){C C':an3 AV->Prop},(∀x,C x->C' x)->mS P ⟨n,t,H++l⟩ rv C->mS P ⟨n,t,H++l⟩ rv C':=by
  intro rv
  induction rv with
  |nil=>intro C C' hc h;exact hc _ h
  |cons x rv ih=>
   intro C C' hc h;cases x with
   |tmp t=>exact ih (λy hy=>hc _ hy) h
   |cell p t=>exact afK (λx h=>ih (λy hy=>hc _ hy) h) h
 exact gen _ (λrs ⟨J,h2⟩=>⟨by simp,J,hb,h2⟩) hr
theorem zf{n:Nat}{t:an3 (Nat×AV)}{H l:an3 ao}(live:an3 Nat)(hb:H.all (ao.aC H.length)=true):(⟨n,t,H++l⟩:St).mask live H.length=⟨n,live.map λk=>(k,(bm t k).bo H.length),H⟩:=by
 unfold St.mask;rw[show((H++l).take H.length).map (ao.bo H.length)=H by rw[List.take_left];exact Nq hb]
theorem AM{n:Nat}{t:an3 (Nat×AV)}{H l:an3 ao}(live:an3 Nat)(hb:H.all (ao.aC H.length)=true)(hl:(live.all λk=>((bm t k).bo H.length).aC H.length)=true):(⟨n,t,H++l⟩:St).yW live H.length:=
 ⟨by simp,hl,by rw[show((H++l).take H.length).map (ao.bo H.length)=H by rw[List.take_left];exact Nq hb];exact hb⟩
theorem KD{n:Nat}{t:an3 (Nat×AV)}{H:an3 ao}(live:an3 Nat)(hb:H.all (ao.aC H.length)=true):(⟨n,t,H⟩:St).mask live H.length=⟨n,live.map λk=>(k,(bm t k).bo H.length),H⟩:=by
 have:=zf (n:=n) (t:=t) (l:=[]) live hb
 rwa [anA]at this
theorem Ig{n:Nat}{t:an3 (Nat×AV)}{H:an3 ao}(live:an3 Nat)(hb:H.all (ao.aC H.length)=true)(hl:(live.all λk=>((bm t k).bo H.length).aC H.length)=true):(⟨n,t,H⟩:St).yW live H.length:=by
 have:=AM (n:=n) (t:=t) (l:=[]) live hb hl
 rwa [anA]at this
theorem AZ{k m:Nat}(h:k<m):((AV.cg k).bo m).aC m=true:=by simp [AV.bo,AV.aC,cf];omega
structure uI(s:St)(m:Nat)(s':St):Prop where
 cut:∀{G:Gh}{w:World}{a:Act},cJ G w a s->cJ (G.cut m) w a s'
theorem uI.S{s s':St}{live:an3 Nat}{m:Nat}(h:jW s live m=some s'):uI s m s':=⟨λhs=>hs.jW h⟩
theorem ak9{P:an6}{r:an5 Nat}{N0 m:Nat}{c:Code}{s:St}{R R':Exit->St->Prop}(hm:N0<=m)(h:bw P r N0 c R s)(hR:∀e s2,R e s2->∃s',uI s2 m s'/\R' e s'):bw P r N0 c R' s:=by
 constructor
 intro G w a n hs hN;refine wpIn_mono (h.run G w a n hs hN) λe a1 w1 hn=> ?_;obtain⟨G1,s1,hE,_,e9,hq⟩:=hn;obtain⟨s',k1,k2⟩:=hR e s1 hq;exact⟨G1.cut m,s',hE.trans (qe _ _ _ _),hm,k1.cut e9,k2⟩
def Ea(m:Nat)(n:Nat)(T:an3 (Nat×AV))(LP:ao)(next:an3 ao->Prop)(Q:Exit->St->Prop)(e:Exit)(s:St):Prop:=
 ∃hs,hs.length=m/\hs.all (ao.aC (m+1))=true/\uI s (m+1) ⟨s.n,[],hs++[LP]⟩/\match e with
  | .normal=>next hs
  | .ret=>Q .ret ⟨n,T,hs++[.gone]⟩
  | .exit i=>Q (.exit i) ⟨n,T,hs++[.gone]⟩
  |_=>False
theorem xc{P:an6}{N0 n m:Nat}{T:an3 (Nat×AV)}{H:an3 ao}{Q:Exit->St->Prop}{g:Operand}{p:Nat}{as bd:Code}{gf:FuncId}{cT:an3 AV}(hg:ev ⟨n,T,H⟩ g= .fn gf cT){α:Type}{enc:α->AV}{xs:an3 α}(hI:ze P gf cT (xs.map enc))
 {ι:Type} (Hs:ι->an3 ao) (I:ι->an3 α->Prop) (i0:ι) (h0:H=Hs i0) (sW:I i0 xs) (hl:∀i,(Hs i).length=m) (j7:∀i,(Hs i).all (ao.aC (m+1))=true) (hT:(dc n T).all (AV.aC (m+1))=true) (hp:Nat.ble n p=false)
 (round:∀i x l,I i (x::l)->∀(rr:Nat)(a b:Code),bw P (some rr) (m+1) as (iL (λs1=>∃hs e,hs.length=m/\s1.h=hs++ .lp .ready p a b (dc n T)::e/\
  bw P (some rr) (m+1) bd (Ea m n T (.lp .busy p a b (dc n T)) (λcv=>∃i',cv=Hs i'/\I i' l) Q) ⟨s1.n,s1.t,hs++ .lp .busy p a b (dc n T)::e⟩) (λ_ _=>False)) ⟨n,(p,enc x)::lS 0 (dc n T),Hs i++[.lp .ready p a b (dc n T)]⟩)
 (done:∀i,I i []->Q .normal ⟨n,T,Hs i++[.gone]⟩):bw P none N0 (.rangeFunc g #[p] as bd) Q ⟨n,T,H⟩:=by
 subst h0;have hm:(Hs i0).length=m:=hl i0;have XY:(dc n T).length=n:=by simp [dc]
 have wc:∀ls,(ao.lp ls p as bd (dc n T)).aC (m+1)=true:=λls=>hT;refine aeS hg ?_;show cF P gf (.cg (Hs i0).length::cT) (Hs i0++[.lp .ready p as bd (dc n T)]) _;have Jt:∀(hs:an3 ao)(B B':ao),hs.length=m->(hs++[B]).set m B'=hs++[B']:=λhs B B' h=>by
  rw[List.set_append_right _ _ (Nat.le_of_eq h),h,Nat.sub_self];rfl
 have e8:∀(hs:an3 ao)(B:ao)(e:an3 ao),hs.length=m->(hs++B::e)[m]?=some B:=λhs B e h=>by
  rw[anu (Nat.le_of_eq h),h,Nat.sub_self];rfl
 have seq:∀(l:an3 α)(i:ι),I i l->lz P m (l.map enc) (λb J=>∃(hs:an3 ao)(ls:LS),hs.length=m/\J=hs++[.lp ls p as bd (dc n T)]/\Ou P N0 Q ⟨n,T,hs++[.gone]⟩ ls) (Hs i++[.lp .ready p as bd (dc n T)]):=by
  intro l
  induction l with
  |nil=>intro i hi;exact⟨Hs i, .ready,hl i,rfl,done i hi⟩
  |cons x l ih=>
   intro i hi;have hlen:(Hs i++[ao.lp .ready p as bd (dc n T)]).length=m+1:=by simp [hl i]
   refine ahn ⟨p,as,bd,dc n T,e8 _ _ [] (hl i),?_,λrr=> ?_⟩
   ·rw[XY];exact Nat.lt_of_not_le λhle=>by rw[Nat.ble_eq_true_of_le hle]at hp;cases hp
   ·rw[hlen,XY];refine(round i x l hi rr as bd).mono λe s1 e9=> ?_;cases e with
    |normal=>
     obtain⟨hs,e',k1,k2,k3⟩:=e9;refine⟨p,as,bd,dc n T,by rw[k2];exact e8 _ _ _ k1,?_⟩;have hse:s1.h.set m (.lp .busy p as bd (dc n T))=hs++ .lp .busy p as bd (dc n T)::e':=by
      rw[k2,List.set_append_right _ _ (Nat.le_of_eq k1),k1,Nat.sub_self];rfl
     rw[hse];refine ak9 (anp _) k3 λe2 s2 hr=> ?_;obtain⟨wz,c2,c5,c3,c4⟩:=hr;refine⟨_,c3,?_⟩;have fu:∀B,B.aC (m+1)=true->(wz++[B]).all (ao.aC (m+1))=true:=λB hB=>by
       rw[List.all_append,c5];simp [hB]
     have E0:(wz++[ao.lp .busy p as bd (dc n T)])[m]?=some (.lp .busy p as bd (dc n T)):=e8 _ _ [] c2;cases e2 with
     |normal=>
      obtain⟨i',rfl,dM⟩:=c4;refine⟨p,as,bd,dc n T,E0,?_⟩;simp only[Jt _ _ _ c2];exact⟨⟨by simp [hl],fu _ (wc _)⟩,ih i' dM⟩
     |ret=>
      refine⟨p,as,bd,dc n T,E0,?_⟩;simp only[Jt _ _ _ c2];exact⟨⟨by simp [c2],fu _ (wc _)⟩,wz, .done .ret,c2,rfl,cQ c4⟩
     |exit j=>
      refine⟨p,as,bd,dc n T,E0,?_⟩;simp only[Jt _ _ _ c2];exact⟨⟨by simp [c2],fu _ (wc _)⟩,wz, .done (.exit j),c2,rfl,nT c4⟩
     |_=>exact c4.elim
    |_=>exact e9.elim
 have YW:(Hs i0++[ao.lp .ready p as bd (dc n T)]).length=m+1:=by simp [hm]
 refine(hI (Hs i0).length _ _ (by rw[YW,List.all_append,j7 i0];simp [wc]) (by rw[YW,hm];exact an1 m) (by rw[hm];exact seq xs i0 sW)).mono λ_ J hb=> ?_;obtain⟨b,hs,ls,k1,rfl,k2⟩:=hb;refine⟨ls,p,as,bd,dc n T,?_,?_⟩
 ·show(hs++[ao.lp ls p as bd (dc n T)])[(Hs i0).length]?=_;rw[hm];exact e8 _ _ [] k1
 ·show Ou P N0 Q ⟨n,T,(hs++[ao.lp ls p as bd (dc n T)]).set (Hs i0).length .gone⟩ ls;rw[hm,Jt _ _ _ k1];exact k2
section
variable {m n:Nat} {T:an3 (Nat×AV)} {LP:ao} {next:an3 ao->Prop} {Q:Exit->St->Prop} {s:St}
theorem ye(hs:an3 ao)(hl:hs.length=m)(hb:hs.all (ao.aC (m+1))=true)(hc:jW s [] (m+1)=some ⟨s.n,[],hs++[LP]⟩)(hn:next hs):Ea m n T LP next Q .normal s:=⟨hs,hl,hb, .S hc,hn⟩
theorem DK(hs:an3 ao)(hl:hs.length=m)(hb:hs.all (ao.aC (m+1))=true)(hc:jW s [] (m+1)=some ⟨s.n,[],hs++[LP]⟩)(hq:Q .ret ⟨n,T,hs++[.gone]⟩):Ea m n T LP next Q .ret s:=⟨hs,hl,hb, .S hc,hq⟩
theorem aj5{i:Nat}(hs:an3 ao)(hl:hs.length=m)(hb:hs.all (ao.aC (m+1))=true)(hc:jW s [] (m+1)=some ⟨s.n,[],hs++[LP]⟩)(hq:Q (.exit i) ⟨n,T,hs++[.gone]⟩):Ea m n T LP next Q (.exit i) s:=⟨hs,hl,hb, .S hc,hq⟩
end
set_option linter.unusedSimpArgs false
set_option linter.unusedVariables false
abbrev Lf:=St×an3 Nat×an3 (Nat×an3 (In×bQ))
def uB(go:Nat->an5 (an3 Lf)):an3 Nat->an5 (an3 Lf)
 |[]=>some []
 |k::r=>match go k with
  |some a=>match uB go r with
   |some b=>some (a++b)
   |none=>none
  |none=>none
def AG(P:an6)(ops:Array Oper)(A C:an3 Nat)(as:an3 (Nat×bQ)):Nat->Nat->an3 Nat->an3 (Nat×an3 (In×bQ))->St->an5 (an3 Lf)
 |0,L,al,acc,s=>match pP A L 0 with
  |[]=>some [(s,al,acc)]
  |_=>none
 |f+1,L,al,acc,s=>match pP A L 0 with
  |[]=>some [(s,al,acc)]
  |k0::r=>uB (λk=>match ops[k]? with
     |some o=>match nj P ops true o k as s with
      |some (s1,l)=>fN (L|||(1<<<k)) λL=>AG P ops A C as f L (al++List.replicate (s1.h.length-s.h.length) k) ((k,l)::acc) s1
      |none=>none
     |none=>none) (match wV C L (k0::r)with
      |some k=>[k]
      |none=>k0::r)
theorem Zo{go:Nat->an5 (an3 Lf)}:∀{l:an3 Nat}{ls:an3 Lf},uB go l=some ls->∀k∈l,∃a,go k=some a/\∀x∈a,x∈ls
 |[],_,_,k,hk=>by cases hk
 |j::r,ls,h,k,hk=>by
  unfold uB at h;split at h
  ·next a e1=>
   split at h
   ·next b e2=>
    cases h
    rcases anJ.1 hk with rfl|hk
    ·exact⟨a,e1,λx hx=>List.mem_append_left _ hx⟩
    ·obtain⟨a',e3,h3⟩:=Zo e2 k hk;exact⟨a',e3,λx hx=>List.mem_append_right _ (h3 x hx)⟩
   ·cases h
  ·cases h
section
variable {P:an6} {ops:Array Oper} {as:an3 (Nat×bQ)} {K:St->Prop} {s0:St}
theorem akp{o:Oper}{j:Nat}{dr:Bool}{s s1:St}{l:an3 (In×bQ)}(h:nj P ops dr o j as s=some (s1,l))(ho:o∈ops.toList)(hB:lP (og ops.toList) s0 s):lP (og ops.toList) s0 s1:=by
 have cI:∀{i a r l},uu i a r=some (s1,l)->∃m,r=some (s1,m):=fun{i a r l} h=>by
  unfold uu at h;split at h
  ·exact⟨_,h⟩
  ·split at h
   ·cases h;exact⟨_,rfl⟩
   ·cases h
 have cR:∀{m r l},rh m r=some (s1,l)->∃m,r=some (s1,m):=fun{m r l} h=>by
  unfold rh at h;split at h
  ·cases h;exact⟨_,rfl⟩
  ·cases h
 have XB:lP (og ops.toList) s0 (Ec o s):=hB.put s.h (.d (.v undef)) (IV ho);have st:∀l,nM P dr o j as s=some (s1,l)->lP (og ops.toList) s0 s1:=λl h=>by
  unfold nM at h;cases hd:dr&&yL (iQ as (3*j+1))&& !Ak o (iQ as (3*j+1))with
  |true=>rw[hd]at h;cases h
  |false=>
   rw[hd]at h;simp only[cond_false]at h;split at h
   ·split at h<;>(obtain⟨m,e⟩:=cI h;cases e;exact hB.put _ _ (IV ho))
   ·cases h
 unfold nj at h;split at h
 ·exact st _ h
 ·split at h
  ·obtain⟨m,e⟩:=cR h;revert e;generalize ((_:Bool)==_)=q;intro e;cases q with
   |true=>exact st _ e
   |false=>cases e;exact XB
  ·obtain⟨m,e⟩:=cR h;cases e;exact XB
  ·cases h
theorem XZ(hK:rp K)(hM:oH (Region.before ops) ops=true)(t0:an3 (Nat×AV)):
 ∀(fuel L:Nat)(listed:Array Bool)(al:an3 Nat)(acc:an3 (Nat×an3 (In×bQ)))(s:St)(ls:an3 Lf),LM ops L listed->Dn ops listed->AG P ops (oP ops 0 ops.size) (kA ops false (Region.before ops) 0 ops.size) as fuel L al acc s=some ls->
  (∃x,x∈ls)/\(∀x∈ls,(∀p∈acc,p∈x.2.2)/\((∃pre,s.t=pre++t0)->∃pre,x.1.t=pre++t0)/\(lP (og ops.toList) s0 s->lP (og ops.toList) s0 x.1))/\((∀x∈ls,(∀p∈x.2.2,fY P p.2)/\K x.1)->kI false P ops K fuel listed s)
 |0,L,listed,al,acc,s,ls,hL,hD,h=>by
  unfold AG at h;split at h
  ·next hr=>
   cases h
   refine⟨⟨_,ank⟩,λx hx=> ?_,λhk=>⟨?_,(hk _ ank).2⟩⟩
   ·rw[List.mem_singleton]at hx;subst hx;exact⟨λ_ h=>h,λh=>h,λh=>h⟩
   ·rw[List.eq_nil_iff_forall_not_mem];intro i hi;have:=(hL.ready i).1 hi;rw[hr]at this;cases this
  ·cases h
 |fuel+1,L,listed,al,acc,s,ls,hL,hD,h=>by
  have mem:∀{k:Nat}{o:Oper},ops[k]?=some o->o∈ops.toList:=λho=>Array.mem_toList_iff.2 (Array.mem_of_getElem? ho);unfold AG at h;split at h
  ·next hr=>
   cases h
   refine⟨⟨_,ank⟩,λx hx=> ?_,λhk=>⟨λ_=>(hk _ ank).2,λi hi=> ?_⟩⟩
   ·rw[List.mem_singleton]at hx;subst hx;exact⟨λ_ h=>h,λh=>h,λh=>h⟩
   ·have:=(hL.ready i).1 hi;rw[hr]at this;cases this
  ·next k0 r hr=>
   generalize hgo:(λk:Nat=>(match ops[k]? with
    |some o=>match nj P ops true o k as s with
     |some (s1,l)=>fN (L|||(1<<<k)) λL=>AG P ops (oP ops 0 ops.size) (kA ops false (Region.before ops) 0 ops.size) as fuel L (al++List.replicate (s1.h.length-s.h.length) k) ((k,l)::acc) s1
     |none=>none
    |none=>none:an5 (an3 Lf)))=go at h
   have one:∀k a,k∈Region.ready .any ops listed->go k=some a->∃o s1 l,ops[k]?=some o/\nj P ops true o k as s=some (s1,l)/\(∃x,x∈a)/\(∀x∈a,(∀p∈(k,l)::acc,p∈x.2.2)/\((∃pre,s.t=pre++t0)->∃pre,x.1.t=pre++t0)/\(lP (og ops.toList) s0 s->lP (og ops.toList) s0 x.1))/\
       ((∀x∈a,(∀p∈x.2.2,fY P p.2)/\K x.1)->∃y J,mf false P ops o s y J/\kI false P ops K fuel (listed.setIfInBounds k true) ((s.wh J).put o.dst y)):=λk a uY tu=>by
    rw[<-hgo]at tu;simp only at tu;split at tu
    ·next o ho=>
     split at tu
     ·next s1 l hg=>
      rw[yy]at tu;obtain⟨J,h2,h3⟩:=XZ hK hM t0 fuel _ _ _ _ s1 a (hL.set (ant.1 ho).1) (hD.set uY) tu;refine⟨o,s1,l,ho,hg,J,λx hx=>⟨(h2 x hx).1,fun⟨pre,hp⟩=> ?_,λhB=>(h2 x hx).2.2 (akp hg (mem ho) hB)⟩,λhk=> ?_⟩
      ·obtain⟨⟨p1,e1⟩,_⟩:=Ls hg;exact(h2 x hx).2.1 ⟨p1++pre,by rw[e1,hp,anv]⟩
      ·obtain⟨x,hx⟩:=J;have hl:fY P l:=(hk x hx).1 (k,l) ((h2 x hx).1 _ ank);have h4:=Ml (K:=(·=s1)) hg hl rfl;have h5:=h3 hk;have:∃y J,mf false P ops o s y J/\(s.wh J).put o.dst y=s1:=by
        rcases GG h4 with⟨g,hd⟩|⟨g,hd⟩
        ·obtain⟨y,J,h2,h3⟩:=HJ hd;exact⟨y,J, .inl ⟨g,h2⟩,h3⟩
        ·exact⟨_,s.h, .inr ⟨g,rfl,rfl⟩,hd⟩
       obtain⟨y,hh,q1,rfl⟩:=this;exact⟨y,hh,q1,h5⟩
     ·cases tu
    ·cases tu
   cases hf:wV (kA ops false (Region.before ops) 0 ops.size) L (k0::r)with
   |some k=>
    rw[hf]at h;obtain⟨jH,xw⟩:=Et hf;have uY:k∈Region.ready .any ops listed:=(hL.ready k).2 (by rw[hr];exact jH);unfold uB at h;split at h
    ·next a e1=>
     unfold uB at h;simp only[anA]at h;cases h
     obtain⟨o,s1,l,ho,hg,J,h2,h3⟩:=one k _ uY e1;refine⟨J,λx hx=>⟨λp hp=>(h2 x hx).1 p (ann _ hp),(h2 x hx).2⟩,λhk=> ?_⟩;obtain⟨y,hh,q1,q2⟩:=h3 hk;refine IZ hK hM ho fuel listed s hD (λj oj hj cA o9 sS=> ?_) uY q1 q2;have BO:=(ant.1 hj).1;have oC:=(ant.1 ho).1;have RH:Nat.testBit L j=false:=by
      rw[hL.b];have iX:j<listed.size:=by rw[hL.sz];exact BO
      simpa [iX]using o9
     have nv:Nat.testBit (tt ops false (Region.before ops) k) j=false:=by
      rw[<-Bool.not_eq_true];intro hc;have h5:(kA ops false (Region.before ops) 0 ops.size).getD k 0=tt ops false (Region.before ops) k:=by
        rw[List.getD_eq_getElem?_getD,LR,if_pos oC,anz];rfl
      rw[h5]at xw;have:=congrArg (λn=>Nat.testBit n j) xw;simp only[Nat.testBit_or,hc,RH]at this;cases this
     unfold tt at nv;rw[EC]at nv;unfold Mm at nv;rw[sS,ho,hj]at nv;simp [BO,cA]at nv;exact nv
    ·cases h
   |none=>
    rw[hf]at h;have XJ:=Zo h;have yo:k0∈Region.ready .any ops listed:=(hL.ready k0).2 (by rw[hr];simp);have back:∀(l:an3 Nat)(ls:an3 Lf),uB go l=some ls->∀x∈ls,∃k∈l,∃a,go k=some a/\x∈a:=by
      intro l
      induction l with
      |nil=>intro ls h x hx;cases h;cases hx
      |cons j r ih=>
       intro ls h x hx;unfold uB at h;split at h
       ·next a e1=>
        split at h
        ·next b e2=>
         cases h
         rcases anR.1 hx with hx|hx
         ·exact⟨j,ank,a,e1,hx⟩
         ·obtain⟨k,hk,a',J,h2⟩:=ih b e2 x hx;exact⟨k,ann _ hk,a',J,h2⟩
        ·cases h
       ·cases h
    refine⟨?_,λx hx=> ?_,λhk=>⟨λe=>(by rw[e]at yo;cases yo),λi hi oi It=> ?_⟩⟩
    ·obtain⟨a,e1,J⟩:=XJ k0 ank;obtain⟨o,s1,l,ho,hg,⟨x,hx⟩,_⟩:=one k0 a yo e1;exact⟨x,J x hx⟩
    ·obtain⟨k,hk,a,e1,U1⟩:=back _ _ h x hx;obtain⟨o,s1,l,ho,hg,J,h2,h3⟩:=one k a ((hL.ready k).2 (by rw[hr];exact hk)) e1;exact⟨λp hp=>(h2 x U1).1 p (ann _ hp),(h2 x U1).2⟩
    ·have dM:i∈k0::r:=by rw[<-hr];exact(hL.ready i).1 hi
     obtain⟨a,e1,J⟩:=XJ i dM;obtain⟨o,s1,l,ho,hg,_,_,h3⟩:=one i a hi e1;rw[ho]at It;cases It;exact h3 λx hx=>hk x (J x hx)
end
def Pg(k:Nat):an3 Nat->Nat
 |[]=>0
 |j::l=>bif cf (j+1) k then Pg k l+1 else Pg k l
def Pf(k:Nat):an3 Nat->Nat
 |[]=>0
 |j::l=>bif j==k then Pf k l+1 else Pf k l
def PJ(h0:Nat)(all:an3 Nat):an3 Nat->an3 Nat->an3 Nat
 |_,[]=>[]
 |pre,k::l=>fN (h0+Pg k all+Pf k pre) λq=>q::PJ h0 all (k::pre) l
def TH(q:Nat):an3 Nat->Nat->Nat
 |[],i=>i
 |x::l,i=>bif x==q then i else TH q l (i+1)
def Q9(h0:Nat)(p:an3 Nat):Nat->Nat->an3 Nat
 |0,_=>[]
 |n+1,q=>fN (TH q p h0) λi=>i::Q9 h0 p n (q+1)
def ES(a:Nat×an3 (In×bQ)):an3 (Nat×an3 (In×bQ))->an3 (Nat×an3 (In×bQ))
 |[]=>[a]
 |b::l=>bif cf a.1 b.1 then a::b::l else b::ES a l
def Cj:an3 (Nat×an3 (In×bQ))->an3 (Nat×an3 (In×bQ))
 |[]=>[]
 |a::l=>ES a (Cj l)
def F1:an3 (Nat×an3 (In×bQ))->an3 (In×bQ)
 |[]=>[]
 |a::l=>a.2++F1 l
def sc(p q:an3 Nat)(h0:Nat)(h:an3 ao):Nat->Nat->an3 ao
 |0,_=>[]
 |n+1,i=>(match h[fF h0 q i]? with|some B=>B.aG (fF h0 p)|none=> .gone)::sc p q h0 h n (i+1)
def zd(h0:Nat)(p:an3 Nat):Bool:=(List.range p.length).all λi=>p.getD i 0==h0+i
theorem alT{h0:Nat}{p:an3 Nat}(h:zd h0 p=true):fF h0 p=id:=by
 funext i
 unfold fF;cases e:cf h0 i with
 |false=>rfl
 |true=>
  rw[c6]at e;simp only[cond_true,id];by_cases hi:i-h0<p.length
  ·unfold zd at h;rw[anF]at h;have:=h (i-h0) (List.mem_range.2 hi);rw[beq_iff_eq,List.getD_eq_getElem?_getD,ani hi]at this;rw[List.getD_eq_getElem?_getD,ani hi];simp only[Option.getD_some]at this ⊢;omega
  ·rw[List.getD_eq_getElem?_getD,anL (by omega)];rfl
def X9(keep:an3 Nat)(s:St)(x:Lf)(p q:an3 Nat):an5 (an3 (Nat×AV)×an3 ao×an3 (In×bQ)):=
 bif (x.1.t.take (x.1.t.length-s.t.length)).all (λp=>keep.any (·==p.1)||Xi (bm s.t p.1))&&(List.range x.1.h.length).all (λi=>cf (fF s.h.length p i+1) x.1.h.length&&cf (fF s.h.length q i+1) x.1.h.length&&fF s.h.length q (fF s.h.length p i)==i&&fF s.h.length p (fF s.h.length q i)==i)
 then some (keep.map λk=>(k,(bm x.1.t k).aG (fF s.h.length p)),bif zd s.h.length p then x.1.h else sc p q s.h.length x.1.h x.1.h.length 0,F1 (Cj x.2.2))else none
def H3(keep:an3 Nat)(s:St)(x:Lf):an5 (an3 (Nat×AV)×an3 ao×an3 (In×bQ)):=
 fL (PJ s.h.length x.2.1 [] x.2.1) λp=>fL (Q9 s.h.length p p.length s.h.length) λq=>X9 keep s x p q
def FJ(keep:an3 Nat)(s:St):an3 Lf->an5 (an3 (an3 (Nat×AV)×an3 ao×an3 (In×bQ)))
 |[]=>some []
 |x::l=>match H3 keep s x with
  |some a=>match FJ keep s l with
   |some b=>some (a::b)
   |none=>none
  |none=>none
def yK(P:an6)(ol:an3 Oper)(as:an3 (Nat×bQ))(keep:an3 Nat)(s:St):an5 (an3 (an3 (Nat×AV)×an3 ao×an3 (In×bQ))):=
 bif oH (Region.before ol.toArray) ol.toArray then fL (oP ol.toArray 0 ol.toArray.size) λA=>fL (kA ol.toArray false (Region.before ol.toArray) 0 ol.toArray.size) λC=>
  match AG P ol.toArray A C as ol.toArray.size 0 [] [] s with
  |some ls=>FJ keep s ls
  |none=>none
 else none
theorem Rx{keep:an3 Nat}{s:St}:∀{ls:an3 Lf}{r},FJ keep s ls=some r->∀x∈ls,∃a∈r,H3 keep s x=some a
 |[],_,_,x,hx=>by cases hx
 |y::l,r,h,x,hx=>by
  unfold FJ at h;split at h
  ·next a e1=>
   split at h
   ·next b e2=>
    cases h
    rcases anJ.1 hx with rfl|hx
    ·exact⟨a,ank,e1⟩
    ·obtain⟨a',J,h2⟩:=Rx e2 x hx;exact⟨a',ann _ J,h2⟩
   ·cases h
  ·cases h
theorem S4{a x:Nat×an3 (In×bQ)}:∀{l:an3 (Nat×an3 (In×bQ))},x∈ES a l↔x=a\/x∈l
 |[]=>by simp [ES]
 |b::l=>by
  unfold ES;cases cf a.1 b.1 with
  |true=>simp
  |false=>
   simp only[cond_false,anJ,S4 (l:=l)];constructor
   ·rintro(h|h|h)
    ·exact .inr (.inl h)
    ·exact .inl h
    ·exact .inr (.inr h)
   ·rintro(h|h|h)
    ·exact .inr (.inl h)
    ·exact .inl h
    ·exact .inr (.inr h)
theorem ZT{x:Nat×an3 (In×bQ)}:∀{l:an3 (Nat×an3 (In×bQ))},x∈Cj l↔x∈l
 |[]=>by simp [Cj]
 |a::l=>by rw[Cj,S4,ZT (l:=l),anJ]
theorem ZK{P:an6}:∀{l:an3 (Nat×an3 (In×bQ))},fY P (F1 l)->∀p∈l,fY P p.2
 |[],_,p,hp=>by cases hp
 |a::l,h,p,hp=>by
  unfold F1 at h;rcases anJ.1 hp with rfl|hp
  ·exact λq hq=>h q (List.mem_append_left _ hq)
  ·exact ZK (λq hq=>h q (List.mem_append_right _ hq)) p hp
theorem Vb{p q:an3 Nat}{h0:Nat}{h:an3 ao}:∀(n i j:Nat),(sc p q h0 h n i)[j]?=if j<n then some (match h[fF h0 q (i+j)]? with|some B=>B.aG (fF h0 p)|none=> .gone)else none
 |0,i,j=>by simp [sc]
 |n+1,i,0=>by simp [sc]
 |n+1,i,j+1=>by
  rw[sc,anQ,Vb n (i+1) j];simp only[Nat.add_lt_add_iff_right];rw[show i+1+j=i+(j+1) by omega]
theorem WJ{p q:an3 Nat}{h0:Nat}{h:an3 ao}:∀(n i:Nat),(sc p q h0 h n i).length=n
 |0,_=>rfl
 |n+1,i=>by rw[sc,anh,WJ n]
theorem Yp{P:an6}{ops:Array Oper}{N0:Nat}{keep:an3 Nat}{s:St}{x:Lf}{Δ:an3 (Nat×AV)}{h':an3 ao}{ps:an3 (In×bQ)}(h:H3 keep s x=some (Δ,h',ps))(hN:N0<=s.h.length)(nN:∀i,(bm s.t i).aC s.h.length=true)
 (hn:x.1.n=s.n) (hp:∃pre,x.1.t=pre++s.t) (bN:fY P ps):im N0 x.1 ⟨s.n,Δ++s.t,h'⟩/\∀p∈x.2.2,fY P p.2:=by
 unfold H3 at h;rw[vn,vn]at h;generalize PJ s.h.length x.2.1 [] x.2.1=p at h;generalize Q9 s.h.length p p.length s.h.length=q at h;unfold X9 at h;obtain⟨hb,he⟩:=dT h;cases he
 rw[ang]at hb;obtain⟨hb,hc⟩:=hb;simp only[anF,List.mem_range,ang,beq_iff_eq,c6]at hc;have xX:∀i,i<s.h.length->fF s.h.length p i=i:=λi hi=>by
   unfold fF;have:cf s.h.length i=false:=by rw[<-Bool.not_eq_true,c6];omega
   rw[this];rfl
 refine⟨?_,λy hy=>ZK bN y (ZT.2 hy)⟩;refine im.aG (fF s.h.length p) (fF s.h.length q) hn (by
  cases zd s.h.length p with
  |true=>rfl
  |false=>exact WJ _ _) (λi hi=>(hc i hi).1.1.1) (λi hi=>(hc i hi).1.1.2) (λi hi=>(hc i hi).1.2) (λi hi=>(hc i hi).2) (λi hi=>xX i (by omega)) (λi _=> ?_) λi hi=> ?_
 ·obtain⟨pre,e1⟩:=hp;have Dx:∀(f:Nat->AV),(keep.map λk=>(k,f k)).map (·.1)=keep:=λf=>by rw[List.map_map];exact List.map_id _
  show bm ((keep.map λk=>(k,(bm x.1.t k).aG (fF s.h.length p)))++s.t) i=_\/_;rcases DD (keep.map λk=>(k,(bm x.1.t k).aG (fF s.h.length p))) s.t i with⟨J,h2⟩|⟨J,h2⟩
  ·rw[Dx]at J;rw[h2,rV (λk=>(bm x.1.t k).aG (fF s.h.length p)),if_pos J];exact .inl rfl
  ·rw[Dx]at J;show _\/bm ((keep.map λk=>(k,(bm x.1.t k).aG (fF s.h.length p)))++s.t) i=_;rw[h2];rw[e1,anf,Nat.add_sub_cancel,List.take_left']at hb
   ·rw[e1];rcases DD pre s.t i with⟨h3,h4⟩|⟨h3,h4⟩
    ·right
     obtain⟨y,hy,rfl⟩:=List.mem_map.1 h3;have:=anF.1 hb y hy;rw[Bool.or_eq_true]at this;rcases this with this|this
     ·exfalso;obtain⟨k,hk,e⟩:=List.any_eq_true.1 this;rw[beq_iff_eq]at e;exact J (e▸hk)
     ·generalize bm s.t y.1=z at this;cases z<;>first|rfl|cases this
    ·left
     rw[h4,xb (τ:=id) xX _ (nN i),CT]
   ·rfl
 ·show(bif zd s.h.length p then x.1.h else sc p q s.h.length x.1.h x.1.h.length 0)[fF s.h.length p i]?=_;cases hid:zd s.h.length p with
  |true=>rw[alT hid];simp only[cond_true,id];rw[ani hi,Option.map_some,OL]
  |false=>
  simp only[cond_false];rw[Vb,if_pos (Nat.lt_of_succ_le (hc i hi).1.1.1),anz,(hc i hi).1.2,ani hi];rfl
theorem aba{P:an6}{ol:an3 Oper}{as:an3 (Nat×bQ)}{keep:an3 Nat}{s:St}{Δ:an3 (Nat×AV)}{h':an3 ao}{ps:an3 (In×bQ)}{m N0:Nat}{K:St->Prop}(h:yK P ol as keep s=some (List.replicate m (Δ,h',ps)))(bN:fY P ps)(hN:N0<=s.h.length)(nN:∀i,(bm s.t i).aC s.h.length=true)(hK:BX N0 K)(hk:K ⟨s.n,Δ++s.t,h'⟩):
 kI false P ol.toArray K ol.toArray.size (Array.replicate ol.toArray.size false) s:=by
 unfold yK at h;obtain⟨hM,h⟩:=kV h;rw[vn,vn]at h;split at h
 ·next ls e1=>
  obtain⟨_,h2,h3⟩:=XZ (s0:=s) hK.c hM s.t _ 0 (Array.replicate ol.toArray.size false) _ _ s ls ⟨by simp,λi=>by
   rw[Nat.zero_testBit,Array.getD_eq_getD_getElem?,Array.getElem?_replicate];split<;>rfl⟩ (λj o ho hj=>by
   exfalso;rw[Array.getD_eq_getD_getElem?]at hj;rw[Array.getElem?_replicate]at hj;split at hj<;>simp at hj) e1
  refine h3 λx hx=> ?_;obtain⟨a,ha,e2⟩:=Rx h x hx;rw[List.mem_replicate]at ha;obtain⟨_,rfl⟩:=ha;obtain⟨k1,k2⟩:=Yp (P:=P) (ops:=ol.toArray) e2 hN nN ((h2 x hx).2.2 (lP.refl _ _)).n ((h2 x hx).2.1 ⟨[],rfl⟩) bN;exact⟨k2,hK _ _ k1 hk⟩
 ·cases h
section
variable {P:an6} {r:an5 Nat} {N0 id n:Nat} {ol:an3 Oper} {y:Code} {t:an3 (Nat×AV)} {h:an3 ao} {Q Q':Exit->St->Prop}
theorem rtE(m:Nat)(hm:P.follows .mixedOrders=true)(Δ:an3 (Nat×AV))(h':an3 ao)(e:∃aw:an3 (Nat×Ob P),yK P ol (iU aw) (Δ.map (·.1)) ⟨n,t,h⟩=some (List.replicate m (Δ,h',jj aw)))(k:bw P r N0 y Q' ⟨n,Δ++t,h'⟩):bw P r N0 (.region id ol.toArray true) (iL (λs=>bw P r N0 y Q' s) Q) ⟨n,t,h⟩:=
 let ⟨aw,e⟩:=e
 MD hm λhN nN=>aba e (pY aw) hN nN (Mv _) ⟨_,im.refl _ _,k⟩
theorem rt(m:Nat)(hm:P.follows .mixedOrders=true)(aw:an3 (Nat×Ob P))(Δ:an3 (Nat×AV))(h':an3 ao)(e:yK P ol (iU aw) (Δ.map (·.1)) ⟨n,t,h⟩=some (List.replicate m (Δ,h',jj aw)))(k:bw P r N0 y Q' ⟨n,Δ++t,h'⟩):bw P r N0 (.region id ol.toArray true) (iL (λs=>bw P r N0 y Q' s) Q) ⟨n,t,h⟩:=rtE m hm Δ h' ⟨aw,e⟩ k
theorem rte(m:Nat)(hm:P.follows .mixedOrders=true)(aw:an3 (Nat×Ob P))(Δ:an3 (Nat×AV))(h':an3 ao)(e:yK P ol (iU aw) (Δ.map (·.1)) ⟨n,t,h⟩=some (List.replicate m (Δ,h',jj aw)))(k:Q .normal ⟨n,Δ++t,h'⟩):bw P r N0 (.region id ol.toArray true) Q ⟨n,t,h⟩:=
 MD hm λhN nN=>aba e (pY aw) hN nN (Mv _) ⟨_,im.refl _ _,k⟩
end
theorem abf{f:AV->AV}(hf:∀d,f (.d d)= .d d)(xs:an3 (an3 D)):(bU xs).map (·.map f)=bU xs:=by
 unfold bU;rw[List.map_map];refine anK λc _=> ?_;simp only[Function.comp,List.map_map];exact anK λd _=>hf d
theorem CC(xs:an3 (an3 D)):(bU xs).length=xs.length:=by unfold bU;rw[anj]
theorem Rh{xs:an3 (an3 D)}{i:Nat}{c:an3 D}(h:xs[i]?=some c):(bU xs)[i]?=some (c.map .d):=by unfold bU;rw[anl,h];rfl
theorem amg(xs:an3 (an3 D))(i:Nat)(c:an3 D):bU (xs.set i c)=(bU xs).set i (c.map .d):=by unfold bU;rw[List.map_set]
theorem aiq(xs ys:an3 (an3 D)):bU (xs++ys)=bU xs++bU ys:=by unfold bU;rw[List.map_append]
theorem aS{cs:an3 AV}{l:an3 ao}(h:VD l):VD (.cells cs::l):=⟨trivial,h⟩
theorem aiT{e k n:Nat}{l:an3 ao}(h:VD l):VD (.front e k n::l):=⟨trivial,h⟩
theorem dW{kv:an3 (an4×D)}{l:an3 ao}(h:VD l):VD (.map kv::l):=⟨trivial,h⟩
theorem af6{l:an3 ao}(h:VD l):VD (.gone::l):=⟨trivial,h⟩
def ao.qA(m:Nat):ao->ao
 | .vec e k cs=> .vec e k cs
 |B=>B.bo m
def ao.yJ:ao->ao
 | .vec e k cs=> .vec e k cs
 |B=>B.pn
def ao.Bb(m:Nat):ao->Prop
 | .vec _ _ cs=>cs.map (·.map (AV.bo m))=cs/\cs.all (·.all (AV.aC m))=true
 |_=>True
def jg(m:Nat):an3 ao->Prop
 |[]=>True
 |B::l=>B.Bb m/\jg m l
section
variable {m:Nat} {l:an3 ao}
theorem jK:jg m []:=trivial
theorem eI{B:ao}(hB:B.Bb m)(h:jg m l):jg m (B::l):=⟨hB,h⟩
theorem U8(xs:an3 (an3 D)):(bU xs).all (·.all (AV.aC m))=true:=by simp [bU,AV.aC]
theorem lN{e k:Nat}{xs:an3 (an3 D)}(h:jg m l):jg m (.vec e k (bU xs)::l):=⟨⟨abf (λd=>by simp [AV.bo]) _,U8 _⟩,h⟩
theorem jg.mem:∀{l:an3 ao},jg m l->∀B∈l,B.Bb m
 |[],_,B,hB=>by cases hB
 |_::_,h,B,hB=>by
  rcases anJ.1 hB with rfl|hB
  ·exact h.1
  ·exact jg.mem h.2 B hB
end
theorem aft{m:Nat}{B:ao}(h:B.Bb m):B.qA m=B.bo m:=by
 cases B with
 |vec e k cs=>simp only[ao.qA,ao.bo];rw[h.1]
 |_=>rfl
theorem ahq{m:Nat}{B:ao}(h:B.Bb m)(hl:(B.qA m).uw m=true):(B.bo m).aC m=true:=by
 cases B with
 |vec e k cs=>simp only[ao.bo,ao.aC];rw[h.1];exact h.2
 |_=>exact hl
theorem RU{G:Gh}{w:an8}{h:an3 ao}(hi:bJ G w h):bJ G w (h.map ao.yJ):=by
 have eo:∀n,bH (h.map ao.yJ) G n=bH h G n:=λn=>by
  unfold bH;rw[anl];cases h[n]? with
  |none=>rfl
  |some B=>cases B<;>rfl
 have h2:=Ng hi;refine⟨by rw[anj];exact hi.len,hi.z,hi.S,λn B hB=> ?_,λm n x hm hn=>hi.inj m n x (by rw[<-eo];exact hm) (by rw[<-eo];exact hn),hi.gl⟩;rw[anl]at hB;cases J:h[n]? with
 |none=>rw[J]at hB;cases hB
 |some B'=>
  rw[J]at hB;cases hB
  have h3:=h2.cV n B'.pn (by rw[anl,J];rfl);cases B' with
  |vec e k cs=>exact hi.cV n _ J
  |_=>exact h3
def uo(kn:an3 (Nat×Nat))(n:Nat):Nat->an3 AV->an3 AV
 |_,[]=>[]
 |i,x::l=>(bif kn.any (λp=>p.1==n&&p.2==i)then x else x.nrm)::uo kn n (i+1) l
def ao.Wp(kn:an3 (Nat×Nat))(n:Nat):ao->ao
 | .cells cs=> .cells (uo kn n 0 cs)
 |B=>B.yJ
def o7(kn:an3 (Nat×Nat)):Nat->an3 ao->an3 ao
 |_,[]=>[]
 |n,B::l=>B.Wp kn n::o7 kn (n+1) l
theorem TL(kn:an3 (Nat×Nat))(n:Nat):∀(j:Nat)(cs:an3 AV),(uo kn n j cs).length=cs.length
 |_,[]=>rfl
 |j,x::l=>by rw[uo,anh,TL kn n (j+1) l,anh]
theorem Xw(kn:an3 (Nat×Nat))(n:Nat):∀(j:Nat)(cs:an3 AV)(i:Nat)(c':AV),(uo kn n j cs)[i]?=some c'->∃c,cs[i]?=some c/\(c'=c\/c'=c.nrm)
 |_,[],i,c',h=>by simp [uo]at h
 |j,x::l,0,c',h=>by
  simp only[uo,List.getElem?_cons_zero,Option.some.injEq]at h;refine⟨x,rfl,?_⟩;cases hk:kn.any (λp=>p.1==n&&p.2==j)with
  |true=>rw[hk]at h;exact .inl h.symm
  |false=>rw[hk]at h;exact .inr h.symm
 |j,x::l,i+1,c',h=>by
  simp only[uo,anQ]at h;obtain⟨c,J,h2⟩:=Xw kn n (j+1) l i c' h;exact⟨c,by simpa using J,h2⟩
theorem Rk(kn:an3 (Nat×Nat)):∀(j:Nat)(h:an3 ao)(i:Nat)(B':ao),(o7 kn j h)[i]?=some B'->∃B,h[i]?=some B/\B'=B.Wp kn (j+i)
 |_,[],i,B',h=>by simp [o7]at h
 |j,B::l,0,B',h=>by simp only[o7,List.getElem?_cons_zero,Option.some.injEq]at h;exact⟨B,rfl,h.symm⟩
 |j,B::l,i+1,B',h=>by
  simp only[o7,anQ]at h;obtain⟨C,J,h2⟩:=Rk kn (j+1) l i B' h;exact⟨C,by simpa using J,by rw[h2];congr 1;omega⟩
theorem aac(kn:an3 (Nat×Nat)):∀(j:Nat)(h:an3 ao),(o7 kn j h).length=h.length
 |_,[]=>rfl
 |j,B::l=>by rw[o7,anh,aac kn (j+1) l,anh]
theorem abM{G:Gh}{w:an8}{h:an3 ao}(kn:an3 (Nat×Nat))(hi:bJ G w h):bJ G w (o7 kn 0 h):=by
 have eo:∀n x,bH (o7 kn 0 h) G n=some x->bH h G n=some x:=λn x hx=>by
  obtain⟨B',hB,J⟩:=ng hx;obtain⟨B,h2,rfl⟩:=Rk kn 0 h n B' hB;rw[dx h2,<-J];cases B<;>rfl
 have h2:=RU hi;refine⟨by rw[aac];exact hi.len,hi.z,hi.S,λn B' hB=> ?_,λm n x hm hn=>hi.inj m n x (eo m x hm) (eo n x hn),hi.gl⟩;obtain⟨B,J,rfl⟩:=Rk kn 0 h n B' hB;cases B with
 |cells cs=>
  obtain⟨c1,c2,vs,T,c3,c4,c5⟩:=hi.cV n _ J;refine⟨c1,c2,vs,T,c3,by rw[TL];exact c4,λi u c hu hc=> ?_⟩;obtain⟨c0,h3,h4|h4⟩:=Xw _ _ _ _ _ _ hc
  ·rw[h4];exact c5 i u c0 hu h3
  ·rw[h4];exact(c5 i u c0 hu h3).nrm
 |_=>exact h2.cV n _ (by rw[anl,J];rfl)
def ma(s:St)(live:an3 Nat)(m:Nat)(ks:an3 Nat)(kn:an3 (Nat×Nat)):an5 St:=
 bif cf m s.h.length&&(live.all λk=>((bm s.t k).bo m).aC m)&&(((s.h.take m).map (ao.qA m)).all (ao.uw m))then some ⟨s.n,live.map λk=>(k,bif ks.any (·==k)then(bm s.t k).bo m else(bm s.t k).fin m),o7 kn 0 ((s.h.take m).map (ao.qA m))⟩else none
theorem Zu{h:an3 ao}{m:Nat}(hd:jg m (h.take m)):(h.take m).map (ao.qA m)=(h.take m).map (ao.bo m):=anK λB hB=>aft (hd.mem B hB)
theorem aa4{h:an3 ao}{m:Nat}(hd:jg m (h.take m))(hl:((h.take m).map (ao.qA m)).all (ao.uw m)=true):((h.take m).map (ao.bo m)).all (ao.aC m)=true:=by
 rw[anF]at hl ⊢;intro B hB;obtain⟨B',J,rfl⟩:=List.mem_map.1 hB;exact ahq (hd.mem B' J) (hl _ (List.mem_map.2 ⟨B',J,rfl⟩))
section
variable {P:an6} {r:an5 Nat} {n N0:Nat} {G:Gh} {w:an8} {a:Act} {s s':St} {Q Q':Exit->St->Prop} {live:an3 Nat} {m:Nat} {ks:an3 Nat} {kn:an3 (Nat×Nat)}
theorem cJ.ma(hs:cJ G w a s)(hd:jg m (s.h.take m))(h:ma s live m ks kn=some s'):cJ (G.cut m) w a s':=by
 unfold Go.Proofs.YtpeecnpmcbnahaaGreatDoor.ma at h;obtain⟨hb,rfl⟩:=dT h;rw[ang,ang]at hb;have hm:=hs.mask (live:=live) ⟨c6.1 hb.1.1,hb.1.2,aa4 hd hb.2⟩;refine⟨hs.size,λi=> ?_,by show bJ _ _ (o7 kn 0 ((s.h.take m).map (ao.qA m)));rw[Zu hd];exact abM kn hm.inv,hs.df⟩;have:=hm.tmp i
 change aD _ _ _ (bm (live.map λk=>(k,(bm s.t k).bo m)) i)at this
 rw[rV (λk=>(bm s.t k).bo m)]at this;show aD _ _ _ (bm (live.map λk=>(k,bif ks.any (·==k)then(bm s.t k).bo m else(bm s.t k).fin m)) i);rw[rV (λk=>bif ks.any (·==k)then(bm s.t k).bo m else(bm s.t k).fin m)];split at this
 ·rename_i hi
  rw[if_pos hi];cases ks.any (·==i)with
  |true=>exact this
  |false=>exact this.nrm
 ·rename_i hi;rw[if_neg hi];exact .dead _
theorem L7{c:Code}{ι:Type}(live:an3 Nat)(m:Nat)(ks:an3 Nat)(kn:an3 (Nat×Nat))(st:ι->St)(I:ι->Prop)(μ:ι->Nat)(i0:ι)(hm:N0<=m)(h0:jg m (s.h.take m)/\Go.Proofs.YtpeecnpmcbnahaaGreatDoor.ma s live m ks kn=some (st i0))(hI:I i0)
 (round:∀i,I i->bw P r N0 c (iL (λs'=>∃i',(jg m (s'.h.take m)/\Go.Proofs.YtpeecnpmcbnahaaGreatDoor.ma s' live m ks kn=some (st i'))/\I i'/\μ i'<μ i) Q) (st i)):bw P r N0 (.loop c) Q s:=by
 constructor
 intro G w a n hs _;refine RN (λ(i:ι) a' w'=>∃G',I i/\bI N0 G w G' w'/\N0<=G'.N/\cJ G' w' a' (st i)) μ i0 ⟨G.cut m,hI,qe _ _ _ _,hm,hs.ma h0.1 h0.2⟩ ?_;rintro i a' w' ⟨G',hi,hE,hN,cv⟩;refine wpIn_mono ((round i hi).run G' w' a' n cv hN) λe a1 w1 hn=> ?_;obtain⟨G1,s1,iT,gh,e9,hq⟩:=hn;cases e with
 |normal=>
  obtain⟨i',J,h2,h3⟩:=hq;exact⟨i',⟨G1.cut m,h2,(hE.trans iT).trans (qe _ _ _ _),hm,e9.ma J.1 J.2⟩,h3⟩
 |_=>exact⟨G1,s1,hE.trans iT,gh,e9,hq⟩
theorem Lc{c:Code}(live:an3 Nat)(m:Nat)(ks:an3 Nat)(kn:an3 (Nat×Nat))(hm:N0<=m)(h0:jg m (s.h.take m)/\Go.Proofs.YtpeecnpmcbnahaaGreatDoor.ma s live m ks kn=some s')(h:bw P r N0 c Q s'):bw P r N0 c Q s:=by
 constructor
 intro G w a n hs _;exact wpIn_mono (h.run (G.cut m) w a n (hs.ma h0.1 h0.2) hm) λ_ _ _ hn=>hn.trans (qe N0 G w m)
theorem alG{c y:Code}{ι:Type}(live:an3 Nat)(m:Nat)(ks:an3 Nat)(kn:an3 (Nat×Nat))(st:ι->St)(I:ι->Prop)(hm:N0<=m)(hc:bw P r N0 c (iL (λs'=>∃i,(jg m (s'.h.take m)/\Go.Proofs.YtpeecnpmcbnahaaGreatDoor.ma s' live m ks kn=some (st i))/\I i) Q) s)(hy:∀i,I i->bw P r N0 y Q' (st i)):bw P r N0 c (iL (λs=>bw P r N0 y Q' s) Q) s:=by
 refine hc.mono λe s' h=> ?_;cases e with
 |normal=>obtain⟨i,J,h2⟩:=h;exact Lc live m ks kn hm J (hy i h2)
 |_=>exact h
end
def Cm(P:an6)(rs:an3 ResultVar)(m:Nat)(s:St):an5 (AV×an3 ao):=
 match sP P s rs with
 |some l=>bif cf m s.h.length&&((jX l).bo m).aC m&&(((s.h.take m).map (ao.qA m)).all (ao.uw m))then some (((jX l).bo m).nrm,((s.h.take m).map (ao.qA m)).map ao.yJ)else none
 |none=>none
def SG(P:an6)(fn:Func)(m:Nat)(R:AV)(H:an3 ao):Exit->St->Prop
 | .normal,s=>jg m (s.h.take m)/\Cm P fn.results.toList m s=some (R,H)
 | .ret,s=>jg m (s.h.take m)/\Cm P fn.results.toList m s=some (R,H)
 |_,_=>False
theorem X0{P:an6}{s:St}{fn:Func}{m:Nat}{R:AV}{H:an3 ao}(h:jg m (s.h.take m)/\Cm P fn.results.toList m s=some (R,H)):qy P fn m (λr h'=>r.nrm=R/\h'.map ao.yJ=H) s:=by
 obtain⟨hd,h⟩:=h;unfold Cm at h;split at h
 ·next l e=>
  obtain⟨hb,he⟩:=dT h;cases he
  simp only[ang,c6]at hb;exact B5 _ _ _ e ⟨hb.1.1,hb.1.2,aa4 hd hb.2,rfl,by rw[Zu hd]⟩
 ·cases h
theorem uW{P:an6}{s:St}{fn:Func}{m:Nat}{R:AV}{H:an3 ao}(hd:jg m (s.h.take m))(h:Cm P fn.results.toList m s=some (R,H)):SG P fn m R H .ret s:=⟨hd,h⟩
theorem Ez{P:an6}{f:FuncId}{fn:Func}{c:Code}{args:an3 AV}{h H:an3 ao}{R:AV}(m:Nat)(hf:P.funcs[f]?=some fn)(hb:fn.body=some c)(hn:(fn.name== "runtime.NumGoroutine")=false)(hm:h.length<=m)
 (hw:bw P none h.length c (SG P fn m R H) {n:=args.length+(fn.ntmps-args.length),t:=lS 0 args,h:=h}):cF P f args h λr1 J=>r1=R/\J=H:=by
 have h0:=uR (P:=P) (f:=f) (args:=args) (h:=h) (K:=λr h'=>r.nrm=R/\h'.map ao.yJ=H) m hf hb hn hm (hw.mono λe s hq=>by
  cases e with
  |normal=>exact X0 hq
  |ret=>exact X0 hq
  |_=>exact hq.elim)
 refine⟨h0.1,λG w vs hi hl hr=>(h0.2 G w vs hi hl hr).mono λe w' hp=> ?_⟩;obtain⟨v,G',x,h',rfl,hE,hN,dM,hv,rfl,rfl⟩:=hp;exact⟨v,G',x.nrm,_,rfl,hE,hN,RU dM,hv.nrm,rfl,rfl⟩
mutual
def AV.uT(b:Nat):AV->an3 (Nat×Nat×Nat×Nat)
 | .vec n o len L k=>bif n==b then[(o,len,L,k)]else[]
 | .agg cs=>AV.uQ b cs
 | .aZ cs=>AV.uQ b cs
 | .fn _ cs=>AV.uQ b cs
 |_=>[]
def AV.uQ(b:Nat):an3 AV->an3 (Nat×Nat×Nat×Nat)
 |[]=>[]
 |x::l=>x.uT b++AV.uQ b l
end
mutual
def AV.mlt(b:Nat)(xs:an3 (an3 D)):AV->AV
 | .vec n o len L k=>bif n==b then .d (.sl xs)else .vec n o len L k
 | .dp n i j L k=>bif n==b then .dead else .dp n i j L k
 | .agg cs=> .agg (AV.nO b xs cs)
 | .aZ cs=> .aZ (AV.nO b xs cs)
 | .fn f cs=> .fn f (AV.nO b xs cs)
 |x=>x
def AV.nO(b:Nat)(xs:an3 (an3 D)):an3 AV->an3 AV
 |[]=>[]
 |x::l=>x.mlt b xs::AV.nO b xs l
end
mutual
theorem Ut{b kk:Nat}{xs:an3 (an3 D)}:∀x:AV,(∀q∈x.uT b,q=(0,xs.length,xs.length,kk))->x.di b kk xs=x.mlt b xs
 | .vec n o len L k,h=>by
   unfold AV.di AV.mlt;unfold AV.uT at h;cases e:n==b with
   |false=>rfl
   |true=>
    rw[e]at h;have:=h _ ank;cases this
    simp
 | .agg cs,h=>by unfold AV.di AV.mlt;rw[AN cs (by unfold AV.uT at h;exact h)]
 | .aZ cs,h=>by unfold AV.di AV.mlt;rw[AN cs (by unfold AV.uT at h;exact h)]
 | .fn f cs,h=>by unfold AV.di AV.mlt;rw[AN cs (by unfold AV.uT at h;exact h)]
 | .dp n i j L k,h=>by unfold AV.di AV.mlt;rfl
 | .d _,_=>by simp [AV.di,AV.mlt]
 | .ptr ..,_=>by simp [AV.di,AV.mlt]
 | .bg ..,_=>by simp [AV.di,AV.mlt]
 | .own ..,_=>by simp [AV.di,AV.mlt]
 | .full _,_=>by simp [AV.di,AV.mlt]
 | .row ..,_=>by simp [AV.di,AV.mlt]
 | .mp _,_=>by simp [AV.di,AV.mlt]
 | .cg _,_=>by simp [AV.di,AV.mlt]
 | .hid _,_=>by simp [AV.di,AV.mlt]
 | .dead,_=>by simp [AV.di,AV.mlt]
theorem AN{b kk:Nat}{xs:an3 (an3 D)}:∀l:an3 AV,(∀q∈AV.uQ b l,q=(0,xs.length,xs.length,kk))->AV.pw b kk xs l=AV.nO b xs l
 |[],_=>by simp [AV.pw,AV.nO]
 |x::l,h=>by
  unfold AV.uQ at h;unfold AV.pw AV.nO;rw[Ut x λq hq=>h q (List.mem_append_left _ hq),AN l λq hq=>h q (List.mem_append_right _ hq)]
end
theorem acs{c L kk:Nat}{xs:an3 (an3 D)}(hL:xs.length=L){l:an3 (Nat×Nat×Nat×Nat)}(h:l=List.replicate c (0,L,L,kk)):∀q∈l,q=(0,xs.length,xs.length,kk):=λq hq=>by
 rw[h,List.mem_replicate]at hq;rw[hq.2,hL]
theorem Xe{G:Gh}{w:an8}{h:an3 ao}(hi:bJ G w h)(e k:Nat):bI G.N G w (G.eZ (.slice none 0 0) 0 none) w/\G.N<=(G.eZ (.slice none 0 0) 0 none).N/\bJ (G.eZ (.slice none 0 0) 0 none) w (h++[.vec e k []])/\aD (G.eZ (.slice none 0 0) 0 none) w (.slice none 0 0) (.vec h.length 0 0 0 k):=by
 obtain⟨a1,a2⟩:=QS (w':=w) hi (.vec e k []) (λ_ _=>rfl) (.slice none 0 0) 0 none ⟨λ_ _=>rfl,anp _,rfl,rfl,rfl⟩ (λ_ h=>by cases h)
  ⟨by simp [Gh.eZ],Nat.zero_le _,λc hc=>absurd hc anV, .inl ⟨by simp [Gh.eZ],rfl,none,by simp [Gh.eZ]⟩⟩
 refine⟨a1,Nat.le_succ _,a2, .vec _ 0 0 0 k (by rw[hi.len];exact an1 _) ⟨none,0,0,rfl⟩ (Nat.zero_le _) λ_=>⟨anp _,⟨none,0,rfl,anp _,Nat.zero_le _,anp _,λh=>absurd h (anT _)⟩,λ_ _=> ?_⟩⟩;simp [Gh.eZ,hi.len]
section
variable {P:an6} {r:an5 Nat} {N0:Nat} {s:St} {Q:Exit->St->Prop} {c:Code}
theorem ae5(t e k:Nat)(hx:bm s.t t= .d (.v (.slice none 0 0)))(h:bw P r N0 c Q ⟨s.n,(t, .vec s.h.length 0 0 0 k)::s.t,s.h++[.vec e k []]⟩):bw P r N0 c Q s:=by
 constructor
 intro G w a n hs hN;obtain⟨a1,a2,a3,a4⟩:=Xe hs.inv e k;have hv:=hs.tmp t;rw[hx]at hv;have hv:=hv.val;have cv:cJ (G.eZ (.slice none 0 0) 0 none) w a ⟨s.n,(t, .vec s.h.length 0 0 0 k)::s.t,s.h++[.vec e k []]⟩:=by
  refine⟨hs.size,λi=> ?_,a3,hs.df.keep a1⟩;show aD _ _ _ (bm ((t, .vec s.h.length 0 0 0 k)::s.t) i);rw[kX];split
  ·next e=>exact e▸hv▸a4
  ·exact(hs.tmp i).keep a1 a2
 exact wpIn_mono (h.run _ w a n cv (anw hN a2)) λ_ _ _ hn=>hn.trans (a1.less hN)
theorem acC(b i e k:Nat){cs:an3 AV}(hb:s.h[b]?=some (.cells cs))(hx:cs[i]?=some (.d (.v (.slice none 0 0))))
 (h:bw P r N0 c Q ⟨s.n,s.t,(s.h++[ao.vec e k []]).set b (ao.cells (cs.set i (AV.vec s.h.length 0 0 0 k)))⟩):bw P r N0 c Q s:=by
 constructor
 intro G w a n hs hN;obtain⟨J,h2,vs,T,h3,h4,h5⟩:=hs.inv.cV _ _ hb;have hi:i<cs.length:=(ane.1 hx).1;have hv:vs[i]?=some vs[i]:=anB (by omega);have wI:=(h5 i _ _ hv hx).val;obtain⟨a1,a2,a3,a4⟩:=Xe hs.inv e k;have aI:=(ane.1 hb).1;have cv:cJ (G.eZ (.slice none 0 0) 0 none) w a ⟨s.n,s.t,(s.h++[ao.vec e k []]).set b (ao.cells (cs.set i (AV.vec s.h.length 0 0 0 k)))⟩:=by
  refine⟨hs.size,λj=>(hs.tmp j).keep a1 a2,Wh a3 (by rw[ano aI];exact hb) (by rw[List.length_set]) λfG T' EA j u c hu hc=> ?_,hs.df.keep a1⟩;have e1:(G.eZ (.slice none 0 0) 0 none).aO b=G.aO b:=rfl;rw[e1,h3]at EA;cases EA
  by_cases e2:i=j
  ·subst e2;rw[anI hi]at hc;cases hc
   rw[hv]at hu;cases hu
   rw[wI];exact a4
  ·rw[anN e2]at hc;exact(h5 j u c hu hc).keep a1 a2
 exact wpIn_mono (h.run _ w a n cv (anw hN a2)) λ_ _ _ hn=>hn.trans (a1.less hN)
theorem abH(b:Nat)(h:bw P r N0 c Q ⟨s.n,s.t,s.h.set b .gone⟩):bw P r N0 c Q s:=by
 constructor
 intro G w a n hs hN;have hi:=hs.inv;have eo:∀n x,bH (s.h.set b .gone) G n=some x->bH s.h G n=some x:=λn x hx=>by
  obtain⟨B,hB,J⟩:=ng hx;by_cases e:b=n
  ·subst e;have aI:=(ane.1 hB).1;rw[List.length_set]at aI;rw[anI aI]at hB;cases hB;cases J
  ·rw[anN e]at hB;rw[dx hB];exact J
 refine h.run G w a n ⟨hs.size,hs.tmp,⟨by rw[List.length_set];exact hi.len,hi.z,hi.S,λn B hB=> ?_,λm n x J h2=>hi.inj m n x (eo m x J) (eo n x h2),hi.gl⟩,hs.df⟩ hN;by_cases e:b=n
 ·subst e;have aI:=(ane.1 hB).1;rw[List.length_set]at aI;rw[anI aI]at hB;cases hB;trivial
 ·rw[anN e]at hB;exact hi.cV n B hB
end
theorem zj{α:Type}{f:α->an3 D}{E:an3 α}{L:Nat}(h:E.length=L):(bU (E.map f)).length=L:=by rw[CC,anj,h]
theorem SC{cs:an3 (an3 AV)}{z:Int}{L i:Nat}(h:cs.length=L)(h0:0<=z)(J:z<(L:Int))(h2:z.toNat=i):cs.length=L/\0<=z/\z<(L:Int)/\i=0+z.toNat:=⟨h,h0,J,by rw[h2,anz]⟩
theorem akt{α:Type}{f:α->an3 D}{E:an3 α}{L i:Nat}{x:α}(h:E.length=L)(hx:E[i]?=some x):(bU (E.map f)).length=L/\(bU (E.map f))[i]?=some ((f x).map .d):=⟨zj h,Rh (by rw[anl,hx];rfl)⟩
theorem amP{α:Type}{f:α->an3 D}{E:an3 α}{L i j:Nat}{x y:α}{zs:an3 AV}(h:E.length=L)(hx:E[i]?=some x)(hy:(f y).map AV.d=iP ((f x).map .d) j zs):(bU (E.map f)).length=L/\(bU (E.map f))[i]?=some ((f x).map .d)/\bU ((E.set i y).map f)=(bU (E.map f)).set i (iP ((f x).map .d) j zs):=
 ⟨zj h,Rh (by rw[anl,hx];rfl),by rw[List.map_set,amg,hy]⟩
theorem KS{α:Type}{f:α->an3 D}{E ys:an3 α}{h:an3 ao}{k L gP L' cN:Nat}{y:AV}(hE:E.length=L)(hy:y.fE=some (ys.map f))(hk:∀c∈ys.map f,c.length=k)(hn:ys.length=gP)(hL:L+ys.length=L')(hm:L'<=maxLen)(hb:L'*cN<=140737488355328):
 (bU (E.map f)).length=L/\zh h k y (bU (ys.map f))/\L'=L+(bU (ys.map f)).length/\((0+L+(bU (ys.map f)).length<=L/\L'=L/\bU ((E++ys).map f)=(bU (E.map f)).take (0+L)++bU (ys.map f)++(bU (E.map f)).drop (0+L+(bU (ys.map f)).length))\/(0=0/\L=L/\L'=L+(bU (ys.map f)).length/\bU ((E++ys).map f)=bU (E.map f)++bU (ys.map f)/\L'<=maxLen/\L'*cN<=140737488355328)):=by
 have hl:(bU (ys.map f)).length=ys.length:=by rw[CC,anj]
 refine⟨zj hE, .inl ⟨_,hy,hk,rfl⟩,by rw[hl,hL], .inr ⟨rfl,rfl,by rw[hl,hL],by rw[List.map_append,aiq],hm,hb⟩⟩
theorem ah4{xs:an3 (an3 D)}{h:an3 ao}{k cN:Nat}{y:AV}(hk:∀c∈xs,c.length=k)(hy:y.fE=some xs)(hm:xs.length<=maxLen)(hb:xs.length*cN<=140737488355328):
 ([]:an3 (an3 D))=[]/\zh h k y (bU xs)/\bU xs=bU xs/\xs.length=(bU xs).length/\xs.length=(bU xs).length/\xs.length<=maxLen/\xs.length*cN<=140737488355328:=⟨rfl, .inl ⟨xs,hy,hk,rfl⟩,rfl,(CC xs).symm,(CC xs).symm,hm,hb⟩
theorem ah6{α:Type}{f:α->an3 D}(hf:∀x,(f x).all D.A0=true)(E:an3 α):∀c∈E.map f,c.all D.A0=true:=λc hc=>by
 obtain⟨x,_,rfl⟩:=List.mem_map.1 hc;exact hf x
theorem akW{α:Type}{f:α->an3 D}{E:an3 α}{L:Nat}(h:E.length=L):(E.map f).length=L:=by rw[anj,h]
def NY(o:Oper):Bool:=
 match o.op with
 | .call c=>match c.callee with
   | .value _=>false
   |_=>true
 |_=>true
def FL:bQ->Bool
 | .va _=>true
 |_=>false
def Lu(o:Oper)(a:bQ):Bool:=JZ o||(NY o&&((s9 o||jN o&& !(cm o==0))|| !FL a))
def Fo(o:Oper)(a:bQ):Bool:=Lu o a||(!yL a&&(!FL a&& !jN o))
def DX(as:an3 (Nat×bQ)):Nat->an3 Oper->Bool
 |_,[]=>true
 |j,o::l=>Fo o (iQ as (3*j+1))&&DX as (j+1) l
section
variable {P:an6} {ops:Array Oper} {o:Oper} {j:Nat} {as:an3 (Nat×bQ)} {s s1:St} {l:an3 (In×bQ)} {K:St->Prop}
theorem aj9(hn:NY o=true)(h:qB P o K s):zu P o K s:=by
 unfold zu;unfold NY at hn;split
 ·next c gV=>
  rw[gV]at hn;split
  ·next f hc=>simp only[hc]at hn;cases hn
  ·exact h
 ·exact h
theorem adk(h:nM P false o j as s=some (s1,l))(bN:fY P l)(hK:K s1)(hL:Lu o (iQ as (3*j+1))=true):xI true P o K s:=by
 unfold nM at h;simp only[Bool.false_and,cond_false]at h;split at h
 ·next x h' i hr=>
  have fin:OK P i (iQ as (3*j+1))->K ((s.wh h').put o.dst x)->xI true P o K s:=λJ h2=>by
   unfold Lu at hL;rw[Bool.or_eq_true]at hL;unfold Di at hr;split at hr
   ·next va e=>
    simp only[Bool.false_and,cond_false]at hr;split at hr
    ·next x2 MP p e2=>
     cases hr
     rcases hL with hL|hL
     ·exfalso;rw[e]at J;unfold JZ at hL;split at hL
      ·next c gV=>
       split at hL
       ·next t hc=>
        rw[gV]at e2;unfold ij at e2;simp only[hc]at e2;cases e2
       ·next t hc=>
        rw[gV]at e2;unfold ij at e2;simp only[hc]at e2;cases e2
       ·cases hL
      ·cases hL
     ·rw[e]at J hL;simp only[FL,Bool.not_true,Bool.or_false,ang]at hL;cases J with|pr _ hp=>exact .inr (.inr (.inl ⟨(by
        have h3:=hL.2;rw[Bool.or_eq_true,ang,Bool.not_eq_true']at h3;exact h3.elim (λe=> .inr (by rw[e];rfl)) λe=> .inl ⟨e.1,by rw[e.2];rfl⟩),va,x,h',p,e2,hp,h2⟩))
    ·cases hr
   ·rcases hL with hL|hL
    ·exact .inr (.inl ⟨by unfold nh;rw[hL];rfl,x,h',h2,λC hC=>yH hr J hC⟩)
    ·rw[ang]at hL;exact .inl (aj9 hL.1 (yH (C:=λx h'=>K ((s.wh h').put o.dst x)) hr J h2))
  split at h
  ·next y hy=>
   obtain⟨m,e,h2,h3⟩:=HB h bN;cases e
   have:=h2 (.eq x, .eq y) ank;cases this with|eq e=>subst e;exact fin h3 hK
  ·obtain⟨m,e,h2,h3⟩:=HB h bN;cases e
   exact fin h3 hK
 ·cases h
theorem aiP{dr v:Bool}{op:Op}{ρ:Operand->AV}{h:an3 ao}{a:bQ}(hv:FL a=false):Di P dr v op ρ h a=uL P op ρ h a:=by
 cases a<;>first|rfl|cases hv
theorem VB(h:nM P false o j as s=some (s1,l))(bN:fY P l)(hK:K s1)(hL:Fo o (iQ as (3*j+1))=true):xI true P o K s:=by
 unfold Fo at hL;rw[Bool.or_eq_true]at hL;rcases hL with hL|hL
 ·exact adk h bN hK hL
 ·rw[ang,ang,Bool.not_eq_true',Bool.not_eq_true',Bool.not_eq_true']at hL;obtain⟨J,h2,h3⟩:=hL;have h':nM P true o j as s=some (s1,l):=by
    unfold nM at h ⊢;rw[aiP h2]at h ⊢;rw[J];exact h
  have:=Mq (dr:=true) h' bN hK;rcases this with h|⟨e,_⟩|⟨e,_⟩|h
  ·exact .inl h
  ·cases e
  ·exfalso;rcases e with e|e
   ·rw[h3]at e;exact absurd e.1 (by simp)
   ·cases e
  ·exact .inr (.inr (.inr h))
theorem SJ(h:nj P ops false o j as s=some (s1,l))(bN:fY P l)(hK:K s1)(hL:Fo o (iQ as (3*j+1))=true):iY ops o s (xI true P o K s) (K (s.put o.dst (.d (.v undef)))):=by
 unfold nj at h;split at h
 ·next hg=>unfold iY;rw[hg];exact VB h bN hK hL
 ·next g want hg=>
  obtain⟨dst,op,ty,pos,after,guard⟩:=o;simp only at hg;subst hg;split at h
  ·next b hb=>
   obtain⟨n,e,h2,h3⟩:=yj h bN;have h4:=OK.J1 (h3 (_,_) ank);rw[Kl,h4];refine⟨λe2=> ?_,λe2=> ?_⟩
   ·subst e2;simp only[BEq.rfl,cond_true]at e;exact VB e h2 hK hL
   ·subst e2;have:((!want)==want)=false:=by cases want<;>rfl
    rw[this]at e;simp only[cond_false]at e;cases e
    exact hK
  ·next hb=>
   obtain⟨n,e,h2,h3⟩:=yj h bN;cases e
   have h4:=h3 (_,_) ank;have h5:uc ops g s.t= .d (.v undef):=by
    generalize uc ops g s.t=z at h4;cases h4;rfl
   rw[Kl,h5];exact hK
  ·cases h
theorem Pa:∀(ol:an3 Oper)(j:Nat)(s:St)(l:an3 (In×bQ)),oM P ops false ol j as s=some (s1,l)->fY P l->DX as j ol=true->K s1->uD true P ops ol K s
 |[],_,s,l,h,_,_,hK=>by cases h;exact hK
 |o::rest,j,s,l,h,bN,hL,hK=>by
  unfold DX at hL;rw[ang]at hL;unfold oM at h;split at h
  ·next s2 m hg=>
   obtain⟨n,e,h2,h3⟩:=yj h bN;exact SJ (K:=uD true P ops rest K) hg h3 (Pa rest (j+1) s2 n e h2 hL.2 hK) hL.1
  ·cases h
theorem YU:∀(ol pre:an3 Oper),sx (pre++ol).toArray ((List.range ol.length).map (pre.length+·))=ol
 |[],_=>rfl
 |o::l,pre=>by
  rw[anh,List.range_succ_eq_map,anE,List.map_map];unfold sx;have J:(pre++o::l).toArray[pre.length+0]?=some o:=by simp
  rw[J];simp only;have h2:=YU l (pre++[o]);rw[anv]at h2;simp only[List.singleton_append,anf,anh,anq,anz]at h2
  congr 1
  rw[show(pre.length+·)∘Nat.succ=(pre.length+1+·)from by funext i;simp only[Function.comp];omega];exact h2
theorem Sv(ol:an3 Oper):sx ol.toArray (List.range ol.length)=ol:=by
 have:=YU ol []
 simpa using this
end
section
variable {P:an6} {r:an5 Nat} {N0 id n:Nat} {ol:an3 Oper} {y:Code} {t:an3 (Nat×AV)} {h:an3 ao} {Q Q':Exit->St->Prop}
theorem rle(hm:P.follows .mixedOrders=true)(hl:EL true ol.toArray (List.range ol.length)=true)(aw:an3 (Nat×Ob P))(Δ:an3 (Nat×AV))(h':an3 ao)(e:DX (iU aw) 0 ol=true/\xu P false ol (iU aw) ⟨n,t,h⟩=some (Δ++t,h',jj aw))(k:Q .normal ⟨n,Δ++t,h'⟩):bw P r N0 (.region id ol.toArray true) Q ⟨n,t,h⟩:=by
 obtain⟨e0,e⟩:=e;refine Th (m:=true) (List.range ol.length) hm (by simp) hl ?_;rw[Sv];exact Pa ol 0 _ _ (Nz e) (pY aw) e0 k
end
section
variable {P:an6} {r:an5 Nat} {N0:Nat} {Q:Exit->St->Prop} {c:Code} {o:Oper} {K:St->Prop}
theorem Gq{n d:Nat}{t:an3 (Nat×AV)}{h h':an3 ao}{x:AV}(hx:Av P o.op (ev ⟨n,t,h⟩) h=some (x,h'))(hd:o.dst=some d)(hn:Nat.ble n d=false)(hK:K ⟨n,(d,x)::t,h'⟩):n9 P o K ⟨n,t,h⟩:=by
 refine .inr (.inr (.inr (.inr (.inl ⟨x,h',hx,?_⟩))));have aI:d<n:=Nat.lt_of_not_le λhle=>by rw[Nat.ble_eq_true_of_le hle]at hn;cases hn
 rw[hd,qQ (s:=St.wh ⟨n,t,h⟩ h') aI];exact hK
theorem adB{n d:Nat}{t:an3 (Nat×AV)}{h h':an3 ao}{x:AV}{p:Prop}(a:VA)(hx:ij P o.op (ev ⟨n,t,h⟩) h a=some (x,h',p))(hp:p)(hd:o.dst=some d)(hn:Nat.ble n d=false)(hK:K ⟨n,(d,x)::t,h'⟩):n9 P o K ⟨n,t,h⟩:=by
 refine .inl ⟨a,x,h',p,hx,hp,?_⟩;have aI:d<n:=Nat.lt_of_not_le λhle=>by rw[Nat.ble_eq_true_of_le hle]at hn;cases hn
 rw[hd,qQ (s:=St.wh ⟨n,t,h⟩ h') aI];exact hK
theorem akh{ρ:Operand->AV}{h:an3 ao}{q:Call}{x y:Operand}{T U:TypeId}{e k m cN:Nat}{kq kn:IntKind}{z:an7}(hc:q.callee= .builtin .append)(J:q.args.toList=[x,y])(h2:q.argTypes.toList=[T,U])(hx:(ρ x).isNil=true)(hT:eP P T=some (e,k))(hU:qZ P U=some kn)(hy:ρ y= .d (.v (.int kq (Int.ofNat m))))(hz:iJ P e=some z)(hb:qw P e=some cN)(g1:1<=m)(g2:1<=k)(g3:z.cells.toList.length=k)(g4:m<=maxLen)(g5:m*cN<=140737488355328):
 Av P (.call q) ρ h=some (.vec h.length 0 m m k,h++[.vec e k (List.replicate m (z.cells.toList.map λu=> .d (.v u)))]):=by
 unfold Av;simp only[hc,J,h2,hT,hU,hy,hz,hb,hx,c6.2 g1,c6.2 g2,c6.2 g4,c6.2 g5,g3,anY,Bool.and_self,cond_true]
theorem ajM{n t e k L:Nat}{ts:an3 (Nat×AV)}{cs:an3 (an3 AV)}(cq:N0=0)(ht:bm ts t= .vec 0 0 0 L k)(hL:cs.length=L)(h:bw P r N0 c Q ⟨n,[(t, .own 0 [])],[.front e k 0]⟩):bw P r N0 c Q ⟨n,ts,[.vec e k cs]⟩:=by
 subst cq;constructor
 intro G w a m hs hN;have hi:=hs.inv;have mu:([ao.vec e k cs]:an3 ao)[0]?=some (.vec e k cs):=rfl;have hGN:G.N=1:=hi.len.symm;have hv:=hs.tmp t;rw[ht]at hv;obtain⟨AK,⟨A,cc,q1,q2,q3,q4,q5⟩,UD⟩:=hv.tf hi mu hL;obtain⟨b1,b2,b3,b4⟩:=hi.cV 0 _ mu;have SX:∀(A:an5 Addr),cc<=maxLen->dg G.S w (.slice A 0 cc) (.sl []):=λA hc=> .sl A 0 0 cc 0 [] (λ_ _=>undef) (λh=>absurd rfl h) (Nat.zero_le _) hc (λ_ h=>absurd h anV) (λi j hi=>absurd hi (anH _)) (λi j x d hx=>by simp at hx);obtain⟨G',gu⟩:∃G',G'={G with sg:=λi=>if i=0 then a.tmps.getD t undef else G.sg i,fl:=λi=>if i=0 then 0 else G.fl i}:=⟨_,rfl⟩;have hE:bI 0 G w G' w:=by
  subst gu;exact⟨anp _,λ_ _ h=>h,λ_ _ _=>rfl,λ_ h=>absurd h (anH _),λ_ h=>absurd h (anH _),gU rfl,λ_ _=>rfl,rfl,rfl,rfl,λ_ _ h=> .inl h⟩
 have hinv:bJ G' w [.front e k 0]:=by
  refine⟨by rw[gu];exact hi.len,by rw[gu];exact hi.z,by rw[gu];exact hi.S,λj B hB=> ?_,λi j x J h2=> ?_,by rw[gu];exact hi.gl⟩
  ·match j with
   |0=>
    cases hB
    refine⟨by rw[gu];simp,Nat.zero_le _,?_⟩;rcases b4 with⟨d1,d2,A',d3⟩|⟨g,cap,cur,d1,d2,d3,d4,d5,d6,d7,d8,d9⟩
    ·left
     refine⟨by rw[gu];exact d1,?_⟩;have vm:L=0:=by rw[<-hL,d2];rfl
     have:=UD rfl vm.symm;rw[gu];exact⟨A',by simp only[if_true];rw[this];exact d3⟩
    ·by_cases vm:L=0
     ·have:=UD rfl vm.symm
      right
      refine⟨g,cap,cur,by rw[gu];exact d1,?_,by rw[gu];exact d3,d4,Nat.zero_le _,d6,d7,λo _=>by rw[gu];exact d8 o⟩;rw[gu];simp only[if_true];rw[this,d2,hL,vm]
     ·obtain⟨g',C4,s1,rfl,s3⟩:=q5 (Nat.pos_of_ne_zero vm);rw[d2]at s1;cases s1
      right
      have:cc=cap:=by omega
      subst this;refine⟨g,cc,cur,by rw[gu];exact d1,?_,by rw[gu];exact d3,d4,Nat.zero_le _,d6,d7,λo _=>by rw[gu];exact d8 o⟩;rw[gu];simp only[if_true];rw[q1,Nat.zero_mul]
   |j+1=>simp at hB
  ·have hj:∀i x,bH [ao.front e k 0] G' i=some x->i=0:=λi x h=>by
    obtain⟨B,hB,_⟩:=ng h
    match i with
    |0=>rfl
    |i+1=>simp at hB
   rw[hj i x J,hj j x h2]
 refine wpIn_mono (h.run G' w a m ⟨hs.size,λi=> ?_,hinv,?_⟩ (Nat.zero_le _)) λ_ _ _ hn=>hn.trans hE
 ·show aD G' w _ (bm [(t, .own 0 [])] i);rw[kX];split
  ·next e=>
   subst e;refine .own 0 [] (by rw[gu];show 0<G.N;omega) ?_ (Nat.zero_le _) (λ_=>by rw[gu];simp);rw[q1,gu];exact SX A q3
  ·exact .dead _
 ·have:=hs.df;rw[gu];exact this
end
end Go.Proofs.YtpeecnpmcbnahaaGreatDoor
namespace Go.Proofs.YtpeecnpmcbnahaaGreatDoor.MK
open Go.RowKit
set_option linter.unusedVariables false
def ao(w:an8)(g:Nat)(t:TypeId)(cs:an3 an7):Prop:=w.heap[g]?=some (.cells cs.toArray t (0,0))
section
variable {w w':an8} {g:Nat} {t:TypeId} {cs:an3 an7}
end
section
variable {P:an6} (w:an8)
end
section
variable {P:an6} {w:an8}
end
section
variable {S E base:Nat} {w w' w'':an8}
end
end Go.Proofs.YtpeecnpmcbnahaaGreatDoor.MK
namespace Go.Proofs.YtpeecnpmcbnahaaGreatDoor
open Go.RowKit
set_option linter.unusedSimpArgs false
set_option linter.unusedVariables false
section
variable {P:an6}
end
end Go.Proofs.YtpeecnpmcbnahaaGreatDoor
