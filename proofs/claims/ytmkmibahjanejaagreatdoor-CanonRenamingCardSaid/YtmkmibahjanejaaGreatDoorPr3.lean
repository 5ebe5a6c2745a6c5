/-
  Part 3 of the proof: AbsRun, AbsFrz, AbsInst, AbsExec, AbsExecV, AbsRange, AbsAny, AbsExec2, AbsExec3, AbsYield, AbsTree, AbsVecX, MemK, AbsVecD.
-/
import Derived.Test.YtmkmibahjanejaaGreatDoorPr2
import Derived.WalkKit
import Derived.Laws.CopyOwn
import Derived.Deep.AppendLies
import Derived.Lib.AppendZerosOnto
import Derived.Lib.Overlaps
import Derived.Lib.Hide
namespace Go.Proofs.YtmkmibahjanejaaGreatDoor
open Go.RowKit
def an.vd:an->Prop
 | .vec _ _ cs=>(∀f,cs.map (AV.dP f)=cs)/\∀m,cs.all (·.all (AV.aP m))=true
 |_=>True
theorem amV(f:Nat->Nat)(c:apH D):AV.dP f (c.map AV.d)=c.map AV.d:=by
 induction c with
 |nil=>simp [AV.dP]
 |cons x c ih=>simp only[aph,AV.dP,AV.aK,ih]
theorem aeA(xs:apH (apH D)):(∀f,(cD xs).map (AV.dP f)=cD xs)/\∀m,(cD xs).all (·.all (AV.aP m))=true:=by
 refine⟨λf=> ?_,λm=>by simp [cD,AV.aP]⟩;unfold cD;rw[List.map_map];exact apn λc _=>amV f c
def VD:apH an->Prop
 |[]=>True
 |B::l=>B.vd/\VD l
theorem Yg:VD []:=trivial
theorem TX{e k:Nat}{xs:apH (apH D)}{l:apH an}(h:VD l):VD (.vec e k (cD xs)::l):=⟨aeA xs,h⟩
theorem VD.mem:∀{l:apH an},VD l->∀B∈l,B.vd
 |[],_,B,hB=>by cases hB
 |_::_,h,B,hB=>by
  rcases apm.1 hB with rfl|hB
  ·exact h.1
  ·exact VD.mem h.2 B hB
def an.lO(f:Nat->Nat):an->an
 | .vec e k cs=> .vec e k cs
 |B=>B.aK f
theorem aco{f:Nat->Nat}{B:an}(h:B.vd):B.lO f=B.aK f:=by
 cases B with
 |vec e k cs=>simp only[an.lO,an.aK];rw[h.1 f]
 |_=>rfl
theorem alN{f:Nat->Nat}{l:apH an}(h:VD l):l.map (an.lO f)=l.map (an.aK f):=apn λB hB=>aco (h.mem B hB)
def an.Bv(m:Nat):an->Bool
 | .vec .. =>true
 |B=>B.aP m
theorem ajF{m:Nat}{B:an}(h:B.vd)(hl:B.Bv m=true):B.aP m=true:=by
 cases B with
 |vec e k cs=>exact h.2 m
 |_=>exact hl
theorem ak1{m:Nat}{l:apH an}(h:VD l)(hl:l.all (an.Bv m)=true):l.all (an.aP m)=true:=by
 rw[api]at hl ⊢;exact λB hB=>ajF (h.mem B hB) (hl B hB)
theorem amF{f:Nat->Nat}{l:apH an}(h:VD l):(l.map λB=>some (B.lO f))=l.map λB=>some (B.aK f):=apn λB hB=>congrArg some (aco (h.mem B hB))
inductive In
 |none
 |bit (x:AV)
 |eq (x:AV)
 |el (xs:List (List D)) (i:Int)
 |lt (z:Int) (n:Nat)
 |len (xs:List (List D))
 |sub (xs:List (List D)) (lo:Int) (hi:Option Int) (k:Nat)
 |app (xs ys:List (List D)) (len k cX:Nat)
 |nz (b:Int)
 |nn (b:Int)
 |str (b:ByteArray) (lo hi:Int)
 |cat (n:Nat)
 |pr (p:Prop)
 |sd (p:Sd)
 |bg (xs:List (List D))
 |Jr (c:List D) (z:Int) (n:Nat)
 |ch (b:ByteArray) (i:Int)
 |call (f:FuncId) (args:List AV)
 |jr (f:FuncId) (args:List AV) (h:List an)
 |sC (c:e9) (args:List AV)
 |nB (f:FuncId) (args:List AV) (h:List an)
def M5(P:apK)(c:e9)(args:apH AV)(r:AV):Prop:=∃g as,c.app args=some (g,as)/\ic P g as (·=r)
inductive bQ
 |none
 |bit (b:Bool)
 |CP
 |eq (y:AV)
 |el (c:List D)
 |ok
 |nat (n:Nat)
 |list (ys:List (List D))
 |Y1 (ys:List (List D)) (n:Nat)
 |byte (c:UInt8)
 |bytes (s:ByteArray)
 |one (d:D)
 |va (a:VA)
 |ret (r:AV)
 |SZ (r:AV) (h:List an)
 |SC (l:List Nat) (eX:List AV) (H:List an) (r:AV) (H':List an)
 |rq (l:List Nat) (eX:List AV) (H:List an) (r:AV)
 |GF (l:List Nat) (eX:List AV) (H:List an) (r:AV) (H':List an)
inductive OK(P:Program):In->bQ->Prop
 |none {o:bQ}:OK P .none o
 |bit {e b:Bool} (h:e=b):OK P (.bit (.d (.v (.bool e)))) (.bit b)
 |CP:OK P (.bit (.d (.v undef))) .CP
 |eq {x y:AV} (h:x=y):OK P (.eq x) (.eq y)
 |el {xs:List (List D)} {i:Int} {c:List D} (h0:0<=i) (h:xs[i.toNat]?=some c):OK P (.el xs i) (.el c)
 |lt {z:Int} {n:Nat} (h0:0<=z) (h:z<n):OK P (.lt z n) .ok
 |len {xs:List (List D)} {n:Nat} (h:xs.length=n):OK P (.len xs) (.nat n)
 |sub {xs ys:List (List D)} {lo hi:Int} {k:Nat} (h0:0<=lo) (h1:lo.toNat<=hi.toNat) (h2:0<=hi) (h3:hi.toNat<=xs.length) (hk:∀c∈xs,c.length=k) (h:(xs.take hi.toNat).drop lo.toNat=ys):OK P (.sub xs lo (some hi) k) (.list ys)
 |NX {xs ys:List (List D)} {lo:Int} {k:Nat} (h0:0<=lo) (h1:lo.toNat<=xs.length) (hk:∀c∈xs,c.length=k) (h:xs.drop lo.toNat=ys):OK P (.sub xs lo .none k) (.list ys)
 |app {xs ys zs:List (List D)} {len k cX n:Nat} (hl:len=xs.length) (hx:∀c∈xs,c.length=k) (hy:∀c∈ys,c.length=k) (hm:xs.length+ys.length<=maxLen) (hb:(xs.length+ys.length)*cX<=140737488355328) (hz:xs++ys=zs) (hn:xs.length+ys.length=n):OK P (.app xs ys len k cX) (.Y1 zs n)
 |nz {b:Int} (h:b≠0):OK P (.nz b) .ok
 |nn {b:Int} (h:0<=b):OK P (.nn b) .ok
 |str {b:ByteArray} {lo hi:Int} (h0:0<=lo) (h1:lo.toNat<=hi.toNat) (h2:0<=hi) (h3:hi.toNat<=b.size):OK P (.str b lo hi) .ok
 |ch {b:ByteArray} {i:Int} {c:UInt8} (h0:0<=i) (h:b[i.toNat]?=some c):OK P (.ch b i) (.byte c)
 |cat {n:Nat} (h:n<=maxLen):OK P (.cat n) .ok
 |pr {p:Prop} (a:VA) (h:p):OK P (.pr p) (.va a)
 |sd {p:Sd} {o:bQ} (h:p.ok):OK P (.sd p) o
 |bg {xs:List (List D)} {s:ByteArray} (h:∃ns:List Int,xs=ns.map (λn=>[.v (.int .u8 n)])/\s=⟨(ns.map λn=>UInt8.ofNat n.toNat).toArray⟩):OK P (.bg xs) (.bytes s)
 |Jr {c:List D} {z:Int} {n:Nat} {d:D} (h0:0<=z) (h1:z<n) (h:c[z.toNat]?=some d):OK P (.Jr c z n) (.one d)
 |call {f:FuncId} {args:List AV} {r:AV} (h:ic P f args (·=r)):OK P (.call f args) (.ret r)
 |sC {c:e9} {args:List AV} {r:AV} (h:M5 P c args r):OK P (.sC c args) (.ret r)
 |nB {f:FuncId} {n9 eX:List AV} {h H H':List an} {l:List Nat} {r:AV} (ha:n9=eX.map (AV.aK (rn l h.length))) (hd:rO l=true) (hb:l.map (λj=>h[j]?)=H.map λB=>some (B.aK (rn l h.length))) (hl:(eX.all (AV.aP H.length)&&H.all (an.aP H.length))=true)
  (hc:cx P f eX H λr1 h1=>r1=r/\h1=H'):OK P (.nB f n9 h) (.SC l eX H r H')
 |acz {f:FuncId} {n9 eX:List AV} {h H H':List an} {l:List Nat} {r:AV} (wv:VD H) (hv:VD H') (ha:n9=eX.map (AV.aK (rn l h.length))) (hd:rO l=true) (hb:l.map (λj=>h[j]?)=H.map λB=>some (B.lO (rn l h.length))) (hl:(eX.all (AV.aP H.length)&&H.all (an.Bv H.length))=true)
  (hc:cx P f eX H λr1 h1=>r1=r/\h1=H'):OK P (.nB f n9 h) (.GF l eX H r H')
 |rq {f:FuncId} {n9 eX:List AV} {h H:List an} {l:List Nat} {r:AV} (ha:n9=eX.map (AV.aK (rn l 0))) (hd:rO l=true) (hb:l.map (λj=>h[j]?)=H.map λB=>some (B.aK (rn l 0))) (hl:(eX.all (AV.aP H.length)&&H.all (an.aP H.length)&&r.aP H.length)=true)
    (hc:cx P f eX H λr1 h1=>r1=r/\h1=H):OK P (.nB f n9 h) (.rq l eX H r)
 |jr {f:FuncId} {args:List AV} {h h':List an} {r:AV} (hc:cx P f args h λr1 h1=>r1=r/\h1=h'):OK P (.jr f args h) (.SZ r h')
def Bp(P:apK)(t:TypeId)(cs:apH AV)(off:Nat):apJ AV:=
 match mn P t,fQ P t with
 |some true,some k=>bif b7 (off+k) cs.length then some (.agg ((cs.drop off).take k))else none
 |some false,some _=>cs[off]?
 |_,_=>none
def yk(h:apH an)(p:AV):apJ (apH AV×Nat):=
 match p with
 | .ptr n off=>match h[n]? with
   |some (.cells cs)=>some (cs,off)
   |_=>none
 | .bz xs i off=>match xs[i]? with
   |some c=>some (c.map .d,off)
   |none=>none
 |_=>none
def Rg(x:AV)(i:apJ Int)(k:Nat)(a:bQ):apJ (AV×In):=
 match x.fA,i,a with
 |some xs,some z, .el c=>bif c.length==k then some (.bz [c] 0 0, .el xs z)else none
 |_,_,_=>none
def PR(P:apK)(T:TypeId)(x i:AV)(a:bQ):apJ (AV×In):=
 match eE P T with
 |some (_,k)=>
  match x with
  | .row n off len _ k'=>match i.int? with
    |some z=>bif k'==k then some (.ptr n (off+z.toNat*k), .lt z len)else none
    |none=>none
  |x=>Rg x i.int? k a
 |none=>match uR P T,x,i.int? with
  |some (n,_,k), .ptr b off,some z=>some (.ptr b (off+z.toNat*k), .lt z n)
  |some (n,_,k), .bz [c] 0 0,some z=>match a with
   | .one d=>bif k==1 then some (.bz [[d]] 0 0, .Jr c z n)else none
   |_=>none
  |_,_,_=>none
def Rb(P:apK)(T:TypeId)(x:AV)(a:bQ):apJ (AV×In):=
 match x with
 | .d (.v (.string s))=>bif strT P T then some (.d (.v (.int .i64 s.size)), .none)else none
 | .row _ _ len _ _=>bif (eE P T).isSome then some (.d (.v (.int .i64 len)), .none)else none
 |x=>match x.fA,a with
  |some xs, .nat n=>bif (eE P T).isSome then some (.d (.v (.int .i64 n)), .len xs)else none
  |_,_=>none
def oN(l:apJ Int)(d:Nat):Nat:=match l with|some z=>z.toNat|none=>d
def Gv(ρ:Operand->AV):apJ Operand->apJ (apJ Int)
 |none=>some none
 |some y=>match (ρ y).int? with
  |some z=>some (some z)
  |none=>none
def Pk(P:apK)(T:TypeId)(ρ:Operand->AV)(x:AV)(lo hi mx:apJ Operand)(a:bQ):apJ (AV×In):=
 match mx with
 |none=>match Gv ρ lo,Gv ρ hi with
  |some l,some h=>match x with
   | .d (.v (.string b))=>bif strT P T then some (.d (.v (.string (b.extract (oN l 0) (oN h b.size)))), .str b (l.getD 0) (h.getD b.size))else none
   | .ptr n off=>match uR P T,l,h with
     |some (m,_,k),none,none=>bif b7 m 4096&& !b7 m 0 then some (.row n off m m k, .none)else none
     |_,_,_=>none
   |x=>match x.fA,eE P T,a with
    |some xs,some (_,k), .list ys=>some (.d (.sl ys), .sub xs (l.getD 0) h k)
    |_,_,_=>none
  |_,_=>none
 |some m=>match lo,hi,ρ m with
  |none,some y, .d (.v (.int _ 0))=>match x.fA,eE P T,ρ y,a with
   |some xs,some (_,k), .d (.v (.int _ 0)), .list _=>some (.full [], .sub xs 0 (some 0) k)
   |_,_,_,_=>none
  |_,_,_=>none
def Mz(h:apH an)(k:Nat)(x:AV):apJ (apH (apH D)):=
 match x with
 | .row n off len _ k'=>match h[n]? with
   |some (.cells cs)=>match nJ ((cs.drop off).take (len*k))with
    |some ds=>bif k'==k&&b7 (off+len*k) cs.length&&((cs.drop off).take (len*k)).all AV.kG then some (ov k len ds)else none
    |none=>none
   |_=>none
 |x=>x.fA
def Q8(P:apK)(T:TypeId)(h:apH an)(x y:AV)(a:bQ):apJ (AV×apH an×In):=
 match eE P T,a with
 |some (e,k), .Y1 zs n'=>match iw P e,qK P e with
  |some z,some cX=>bif b7 1 k&&z.cells.toList.length==k then
   match Mz h k y with
   |some ys=>match x with
    | .own n xs=>match h[n]? with
      |some (.front e' k' len)=>bif e'==e&&k'==k then some (.own n zs,h.set n (.front e k n'), .app xs ys len k cX)else none
      |_=>none
    | .d (.v (.slice none 0 0))=>some (.own h.length zs,h++[.front e k n'], .app [] ys 0 k cX)
    | .full xs=>some (.own h.length zs,h++[.front e k n'], .app xs ys xs.length k cX)
    |_=>none
   |none=>none
   else none
  |_,_=>none
 |_,_=>none
def R6(P:apK)(T:TypeId)(ps:apH (Nat×AV)):apJ AV:=
 match Ri P T,iw P T with
 |some places,some z=>match pO places (z.cells.toList.map λu=> .d (.v u)) ps with
  |some cs=>bif (ps.all λp=>p.2.jw)&&z.cells.toList.all Value.oneCell' then some (.agg cs)else none
  |none=>none
 |_,_=>none
def OQ(P:apK)(T:TypeId)(len:Nat)(ps:apH (Nat×AV)):apJ AV:=
 match eE P T with
 |some (e,k)=>match iw P e with
  |some z=>match pO (vU k 0 len) (sG len (z.cells.toList.map λu=> .d (.v u))) ps with
   |some cs=>match nJ cs with
    |some ds=>bif b7 1 k&&b7 (len*k) 16777216&&z.cells.toList.length==k&&z.cells.toList.all Value.oneCell'&&(ps.all λp=>p.2.jw)then some (.full (ov k len ds))else none
    |none=>none
   |none=>none
  |none=>none
 |none=>none
def KE(P:apK)(T:TypeId)(op:BinOp)(x y:AV):apJ (AV×In):=
 match x,y with
 | .d (.v (.int k a)), .d (.v (.int k' b))=>
   match Sv op k a b with
   |some v=>bif yB k k' then some (.d (.v v), .nz b)else none
   |none=>match PW op k a b with
    |some v=>some (.d (.v v), .nn b)
    |none=>match RV op k a b with
     |some v=>bif yB k k' then some (.d (.v v), .none)else none
     |none=>none
 | .d (.v (.string a)), .d (.v (.string b))=>match Q0 op a b with
   |some v=>some (.d (.v v), .none)
   |none=>match op with
    | .add=>some (.d (.v (.string (a++b))), .cat (a.size+b.size))
    |_=>none
 | .d (.v (.bool a)), .d (.v (.bool b))=>match Pa op a b with
   |some v=>bif A8 P T then some (.d (.v v), .none)else none
   |none=>none
 | .agg xs, .agg ys=>match MC P T xs ys with
   |some b=>match xy op b with
    |some v=>some (.d (.v v), .none)
    |none=>none
   |none=>none
 |_,_=>none
def GU(P:apK)(src dst:TypeId)(x:AV)(a:bQ):apJ (AV×In):=
 match x with
 | .d (.v (.int _ n))=>match rh P src,rh P dst with
   |some _,some k=>some (.d (.v (.int k (k.wrap n))), .none)
   |_,_=>none
 | .d (.v (.string b))=>bif strT P src&&strT P dst then some (.d (.v (.string b)), .none)else none
 |x=>match x.fA,eE P src,a with
  |some xs,some (e,_), .bytes s=>bif Cz P e&&strT P dst then some (.d (.v (.string s)), .bg xs)else none
  |_,_,_=>none
def Jl(P:apK)(T:TypeId)(x:AV)(f:Nat):apJ AV:=
 match tz P T f,x with
 |some (off,k,true), .agg cs=>bif b7 (off+k) cs.length then some (.agg ((cs.drop off).take k))else none
 |some (off,_,false), .agg cs=>cs[off]?
 |_,_=>none
def Lz(h:apH an):apJ AV->apJ (AV×apH an×In)
 |some x=>some (x,h, .none)
 |none=>none
def Ab(h:apH an):apJ (AV×In)->apJ (AV×apH an×In)
 |some (x,i)=>some (x,h,i)
 |none=>none
mutual
def AV.nrm:AV->AV
 | .full xs=> .d (.sl xs)
 | .d (.v (.slice none 0 0))=> .d (.sl [])
 | .agg cs=> .agg (AV.xe cs)
 | .bA cs=> .bA (AV.xe cs)
 |x=>x
def AV.xe:apH AV->apH AV
 |[]=>[]
 |x::l=>x.nrm::AV.xe l
end
def AV.Fj:AV->AV
 | .fn f cs=>match AV.xC cs with
   |some l=> .hid (.fn f l)
   |none=> .fn f cs
 |x=>x
def AV.arg(x:AV):AV:=((x.bn 0).nrm).Fj
def AV.yV(x:AV):AV:=(x.bn 0).nrm
def sdI:Sd->In
 | .no=> .none
 |p=> .sd p
def xR:apJ (AV×apH an×Sd)->apJ (AV×apH an×In)
 |some (x,h,p)=>some (x,h,sdI p)
 |none=>none
def wF(P:apK)(op:Op)(ρ:Operand->AV)(h:apH an)(a:bQ):apJ (AV×apH an×In):=
 match op with
 | .move x| .assign x=>some (ρ x,h, .none)
 | .pick c x y=>match a with
   | .bit b=>some (bif b then ρ x else ρ y,h, .bit (ρ c))
   |_=>none
 | .alloc e=>match iw P e with
   |some z=>some (.ptr h.length 0,h++[an.cells (z.cells.toList.map λu=> .d (.v u))], .none)
   |none=>none
 | .box _ x=>bif (ρ x).jw then some (.ptr h.length 0,h++[an.cells (ρ x).cells], .none)else none
 | .load t p=>match yk h (ρ p)with
   |some (cs,off)=>match Bp P t cs off with
    |some x=>some (x,h, .none)
    |none=>none
   |none=>none
 | .store t p x=>match ρ p with
   | .ptr n off=>match h[n]? with
     |some (.cells cs)=>match fQ P t with
      |some k=>bif k==(ρ x).cells.length&&(ρ x).jw&&b7 (off+(ρ x).cells.length) cs.length then some (.d (.v undef),h.set n (.cells (jj cs off (ρ x).cells)), .none)else none
      |none=>none
     |_=>none
   |_=>none
 | .nilCheck x=>match ρ x with
   | .ptr n off=>some (.ptr n off,h, .none)
   | .bz xs i off=>some (.bz xs i off,h, .none)
   | .fn f cs=>some (.fn f cs,h, .none)
   |_=>none
 | .fieldAddr S x f=>match tz P S f with
   |some (fo,_,_)=>match ρ x with
    | .ptr n off=>some (.ptr n (off+fo),h, .none)
    | .bz xs i off=>some (.bz xs i (off+fo),h, .none)
    |_=>none
   |none=>none
 | .field T x f=>Lz h (Jl P T (ρ x) f)
 | .indexAddr T x i=>Ab h (PR P T (ρ x) (ρ i) a)
 | .index T x i=>match ρ x,(ρ i).int?,a with
   | .d (.v (.string b)),some z, .byte c=>bif strT P T then some (.d (.v (.int .u8 c.toNat)),h, .ch b z)else none
   |_,_,_=>none
 | .build T ps=>Lz h (R6 P T (ps.toList.map λp=>(p.1,ρ p.2)))
 | .buildSlice T len ps=>Lz h (OQ P T len (ps.toList.map λp=>(p.1,ρ p.2)))
 | .slice T x lo hi mx=>Ab h (Pk P T ρ (ρ x) lo hi mx a)
 | .extract x i=>match ρ x with
   | .bA cs=>match cs[i]? with
     |some c=>some (c,h, .none)
     |none=>none
   |_=>none
 | .makeFunc (.func f) first cU=>match NI f (first.toList.map ρ) (cU.toList.map ρ)with
   |some x=>some (x,h, .none)
   |none=>none
 | .binOp op T x y _=>Ab h (KE P T op (ρ x) (ρ y))
 | .unOp op _ x=>match ρ x with
   | .d (.v u)=>match Il op u with
     |some v=>some (.d (.v v),h, .none)
     |none=>none
   |_=>none
 | .convert s t x=>Ab h (GU P s t (ρ x) a)
 | .call c=>match c.callee with
   | .builtin .len=>match c.args.toList,c.argTypes.toList with
     |[x],[T]=>Ab h (Rb P T (ρ x) a)
     |_,_=>none
   | .builtin .append=>match c.args.toList,c.argTypes.toList with
     |[x,y],[T,U]=>bif (eE P U).isSome then Q8 P T h (ρ x) (ρ y) a else none
     |_,_=>none
   | .builtin .max=>match BV true (c.args.toList.map ρ)with
     |some (k,a)=>some (.d (.v (.int k a)),h, .none)
     |none=>none
   | .builtin .min=>match BV false (c.args.toList.map ρ)with
     |some (k,a)=>some (.d (.v (.int k a)),h, .none)
     |none=>none
   | .value f=>match ρ f,a with
     | .fn g cU, .ret r=>bif ((c.args.toList.map ρ++cU).map AV.arg).all (AV.aP 0)&&r.aP 0 then some (r,h, .call g ((c.args.toList.map ρ++cU).map AV.arg))else none
     | .fn g cU, .SZ r h'=>some (r,h', .jr g (c.args.toList.map ρ++cU) h)
     | .fn g cU, .SC l _ _ r H'=>some (r.aK (rn l h.length),gV l (H'.map (an.aK (rn l h.length))) h, .nB g ((c.args.toList.map ρ++cU).map AV.yV) h)
     | .fn g cU, .GF l _ _ r H'=>some (r.aK (rn l h.length),gV l (H'.map (an.lO (rn l h.length))) h, .nB g ((c.args.toList.map ρ++cU).map AV.yV) h)
     | .fn g cU, .rq l _ _ r=>some (r.aK (rn l 0),h, .nB g ((c.args.toList.map ρ++cU).map AV.yV) h)
     | .hid q, .ret r=>bif ((c.args.toList.map ρ).map AV.arg).all (AV.aP 0)&&r.aP 0 then some (r,h, .sC q ((c.args.toList.map ρ).map AV.arg))else none
     |_,_=>none
   |_=>none
 |op=>xR (pN P op ρ h)
theorem LR:∀l,AV.xe l=l.map AV.nrm
 |[]=>by simp [AV.xe]
 |x::l=>by simp [AV.xe,LR l]
theorem aD.nrm{G:Gh}{w:apM}{u:apL}{x:AV}(h:aD G w u x):aD G w u x.nrm:=by
 have gh:∀(vs:Array apL)(cs:apH AV),(∀(i:Nat)(u:apL)(c:AV),vs[i]?=some u->cs[i]?=some c->aD G w u c.nrm)->∀(i:Nat)(u:apL)(c:AV),vs[i]?=some u->(AV.xe cs)[i]?=some c->aD G w u c:=by
  intro vs cs ih i u c hu hc;rw[LR,aoZ]at hc;cases hx:cs[i]? with
  |none=>rw[hx]at hc;cases hc
  |some x=>rw[hx]at hc;cases hc;exact ih i u x hu hx
 induction h with
 |agg vs cs hl _ ih=>rw[AV.nrm];exact .agg vs _ (by rw[LR,aoX];exact hl) (gh vs cs ih)
 |bA vs cs hl _ ih=>rw[AV.nrm];exact .bA vs _ (by rw[LR,aoX];exact hl) (gh vs cs ih)
 |full xs hp hf=>rw[AV.nrm];exact .d hp
 | @d u x h=>
   by_cases hx:x= .v (.slice none 0 0)
   ·subst hx;cases h with|v=>simp only[AV.nrm];exact .d EH
   ·have:(AV.d x).nrm= .d x:=by
     unfold AV.nrm;split<;>simp_all
    rw[this];exact .d h
 |own n xs h hp hle hf=>simp only[AV.nrm];exact .own n xs h hp hle hf
 |ptr n off h=>simp only[AV.nrm];exact .ptr n off h
 |bz xs i off b o u x hx hS hu=>simp only[AV.nrm];exact .bz xs i off b o u x hx hS hu
 |row n off len cap k h hl hm=>simp only[AV.nrm];exact .row n off len cap k h hl hm
 |fn f vs cs hl h=>simp only[AV.nrm];exact .fn f vs cs hl h
 |mp n h=>simp only[AV.nrm];exact .mp n h
 |cO n h=>simp only[AV.nrm];exact .cO n h
 |vec n o len L k h hs hL hf=>simp only[AV.nrm];exact .vec n o len L k h hs hL hf
 |di n i j L k h hs hL hf=>simp only[AV.nrm];exact .di n i j L k h hs hL hf
 |hid h h1=>simp only[AV.nrm];exact .hid h h1
 |dead u=>simp only[AV.nrm];exact .dead u
theorem AV.Le.Fj(x:AV):AV.Le x x.Fj:=λG w u h=>by
 unfold AV.Fj;split
 ·next f cs=>
  split
  ·next l e=>
   have:=h.cap (.fn f l) (by simp only[AV.cap,e]);cases h with|fn=>exact .hid this rfl
  ·exact h
 ·exact h
theorem AV.Le.arg(x:AV):AV.Le x x.arg:=λ_ _ _ h=>AV.Le.Fj _ _ _ _ (h.bn 0).nrm
theorem cx.args{P:apK}{f:FuncId}{as:apH AV}{h:apH an}{K:AV->apH an->Prop}(hc:cx P f as h K)(bs:apH AV)(hl:as.length=bs.length)(hle:∀(i:Nat)(c d:AV),bs[i]?=some c->as[i]?=some d->AV.Le c d):cx P f bs h K:=
 ⟨hc.1,λG w vs hi hs hr=>hc.2 G w vs hi (hs.trans hl.symm) λi u d hu hd=>by
  have aH:i<bs.length:=by rw[<-hl];exact(aoS.1 hd).1
  exact hle i _ d (aoW aH) hd G w u (hr i u _ hu (aoW aH))⟩
theorem cx.UT{P:apK}{f:FuncId}{as:apH AV}{h:apH an}{K:AV->apH an->Prop}(hc:cx P f (as.map AV.arg) h K):cx P f as h K:=
 hc.args as (by rw[aoX]) λi c d hc hd=>by
  rw[aoZ,hc]at hd;cases hd;exact AV.Le.arg c
theorem AV.Le.yV(x:AV):AV.Le x x.yV:=λ_ _ _ h=>(h.bn 0).nrm
theorem cx.Ma{P:apK}{f:FuncId}{as:apH AV}{h:apH an}{K:AV->apH an->Prop}(hc:cx P f (as.map AV.yV) h K):cx P f as h K:=
 hc.args as (by rw[aoX]) λi c d hc hd=>by
  rw[aoZ,hc]at hd;cases hd;exact AV.Le.yV c
theorem abl(l:apH e9):(l.map e9.av).all (AV.aP 0)=true:=by
 rw[api];intro x hx;obtain⟨c,_,rfl⟩:=List.mem_map.1 hx;cases c<;>rfl
theorem M5.use{P:apK}{q:e9}{args:apH AV}{r:AV}{h:apH an}{C:AV->apH an->Prop}(hc:M5 P q (args.map AV.arg) r)(ha:(args.map AV.arg).all (AV.aP 0)=true)(hr:r.aP 0=true)(hC:C r h):∃g as,q.app args=some (g,as)/\cx P g as h C:=by
 obtain⟨g,as,e,hc⟩:=hc;cases q with
 |d x=>simp [e9.app]at e
 |bz c off=>simp [e9.app]at e
 |fn g' cs=>
  simp only[e9.app,Option.some.injEq,Prod.mk.injEq]at e;obtain⟨rfl,rfl⟩:=e;refine⟨g',_,rfl,cx.args (hc.use (h:=h) (C:=C) (by rw[List.all_append,ha,abl];rfl) hr hC) _ (by simp) λi c d h1 h2=> ?_⟩;by_cases hi:i<args.length
  ·rw[ao2 hi]at h1;rw[ao2 (by simpa using hi),aoZ,h1]at h2;cases h2;exact AV.Le.arg c
  ·rw[ao8 (by omega)]at h1;rw[ao8 (by simpa using hi),aoX,h1]at h2;cases h2;exact AV.Le.refl c
 |dS g' cs=>
  simp only[e9.app,Option.some.injEq,Prod.mk.injEq]at e;obtain⟨rfl,rfl⟩:=e;refine⟨g',_,rfl,cx.args (hc.use (h:=h) (C:=C) (by rw[List.all_append,ha,abl];rfl) hr hC) _ (by simp) λi c d h1 h2=> ?_⟩;by_cases hi:i<(cs.map e9.av).length
  ·rw[ao2 hi]at h1 h2;rw[h1]at h2;cases h2;exact AV.Le.refl c
  ·rw[ao8 (by omega)]at h1 h2;rw[aoZ,h1]at h2;cases h2;exact AV.Le.arg c
theorem eu{α:Type}{b:Bool}{x y:α}(h:(bif b then some x else none)=some y):b=true/\x=y:=by
 cases b with
 |true=>exact⟨rfl,apb h⟩
 |false=>cases h
theorem mP{α:Type}{b:Bool}{x:apJ α}{y:α}(h:(bif b then x else none)=some y):b=true/\x=some y:=by
 cases b with
 |true=>exact⟨rfl,h⟩
 |false=>cases h
section
variable {P:apK} {ρ:Operand->AV} {h h':apH an} {a:bQ} {i:In} {x:AV} {C:AV->apH an->Prop}
theorem OK.Ir{x:AV}{b:Bool}(h:OK P (.bit x) (.bit b)):x= .d (.v (.bool b)):=by
 cases h with|bit h=>subst h;rfl
theorem PI{t:TypeId}{p:AV}{cs:apH AV}{off:Nat}{K:AV->Prop}(h1:yk h p=some (cs,off))(h2:Bp P t cs off=some x)(hK:K x):oI P t h p K:=by
 have key:(match mn P t,fQ P t with
     |some true,some k=>gq (b7 (off+k) cs.length) (K (.agg ((cs.drop off).take k)))
     |some false,some _=>match cs[off]? with
      |some c=>K c
      |none=>False
     |_,_=>False):=by
  unfold Bp at h2;split at h2
  ·next k e1 e2=>
   obtain⟨h3,rfl⟩:=eu h2;exact bN.2 ⟨h3,hK⟩
  ·next k e1 e2=>rw[h2];exact hK
  ·cases h2
 unfold oI ux;unfold yk at h1;split at h1
 ·split at h1
  ·next bJ e=>cases h1;simp only[e];exact key
  ·cases h1
 ·split at h1
  ·next c e=>cases h1;simp only[e];exact key
  ·cases h1
 ·cases h1
theorem akY{y:AV}{z:apJ Int}{k:Nat}(h1:Rg y z k a=some (x,i))(bO:OK P i a):∃xs w c,y.fA=some xs/\z=some w/\0<=w/\xs[w.toNat]?=some c/\c.length=k/\x= .bz [c] 0 0:=by
 unfold Rg at h1;split at h1
 ·next xs w c hx=>
  obtain⟨hk,he⟩:=eu h1;cases he
  cases bO with
  |el h0 hc=>exact⟨_,_,_,hx,rfl,h0,hc,by simpa using hk,rfl⟩
 ·cases h1
theorem aom{T:TypeId}{y z:AV}{K:AV->Prop}(h1:PR P T y z a=some (x,i))(bO:OK P i a)(hK:K x):tC P T y z K:=by
 unfold PR at h1;unfold tC;cases hT:eE P T with
 |some p=>
  obtain⟨e,k⟩:=p;simp only[hT]at h1 ⊢;cases y with
  |row n off len cap k'=>
   simp only at h1 ⊢;split at h1
   ·next w hw=>
    obtain⟨hk,he⟩:=eu h1;cases he
    cases bO with|lt h0 hl=>simp only[hw];exact bN.2 ⟨hk,h0,hl,hK⟩
   ·cases h1
  |_=>
   obtain⟨xs,w,c,e1,e2,e3,e4,e5,rfl⟩:=akY h1 bO;simp only[e1,e2,e4,e5];exact⟨e3,trivial,hK⟩
 |none=>
  simp only[hT]at h1 ⊢;split at h1
  ·next n e k b off w hA hw=>
   cases h1
   simp only[hA,hw];cases bO with|lt h0 hl=>exact⟨h0,hl,hK⟩
  ·next n e k c w hA hw=>
   split at h1
   ·next d=>
    obtain⟨hb,he⟩:=eu h1;cases he;simp only[hA,hw];cases bO with|Jr h0 hl h=>exact bN.2 ⟨hb,h0,hl,by simp only[List.getElem?_cons_zero,apc,h];exact hK⟩
   ·cases h1
  ·cases h1
theorem af4{T:TypeId}{y:AV}{K:Nat->Prop}{C:AV->Prop}(h1:Rb P T y a=some (x,i))(bO:OK P i a)(hK:C x)(hc:∀n:Nat,C (.d (.v (.int .i64 n)))->K n):sV P T y K:=by
 unfold Rb at h1;unfold sV;split at h1
 ·obtain⟨hb,he⟩:=eu h1;cases he;exact bN.2 ⟨hb,hc _ hK⟩
 ·obtain⟨hb,he⟩:=eu h1;cases he;exact bN.2 ⟨hb,hc _ hK⟩
 ·next n1 n2=>
  split at h1
  ·next xs n hx=>
   obtain⟨hb,he⟩:=eu h1;cases he;cases bO with
   |len hl=>
    subst hl;split
    ·next s=>exact absurd rfl (n1 s)
    ·next a b c d e=>exact absurd rfl (n2 a b c d e)
    ·simp only[hx];exact bN.2 ⟨hb,hc _ hK⟩
  ·cases h1
theorem ah8{y:apJ Operand}{l:apJ Int}(h1:Gv ρ y=some l):(y=none/\l=none)\/∃o z,y=some o/\l=some z/\(ρ o).int?=some z:=by
 unfold Gv at h1;cases y with
 |none=>cases h1;exact .inl ⟨rfl,rfl⟩
 |some o=>
  simp only at h1;split at h1
  ·next z hz=>cases h1;exact .inr ⟨o,z,rfl,rfl,hz⟩
  ·cases h1
theorem uA{y:apJ Operand}{l:apJ Int}{d:Nat}{K:Nat->Prop}(h1:Gv ρ y=some l)(h0:∀z,l=some z->0<=z)(hK:K (oN l d)):jV ρ y d K:=by
 rcases ah8 h1 with⟨rfl,rfl⟩|⟨o,z,rfl,rfl,hz⟩
 ·exact hK
 ·simp only[jV,hz];exact⟨h0 z rfl,hK⟩
theorem ajJ{T:TypeId}{y:AV}{lo hi mx:apJ Operand}{K:AV->Prop}(h1:Pk P T ρ y lo hi mx a=some (x,i))(bO:OK P i a)(hK:K x):u6 P T ρ y lo hi mx K:=by
 unfold Pk at h1;unfold u6;split at h1
 ·split at h1
  ·next l hh hl rD=>
   split at h1
   ·next b=>
    obtain⟨hb,he⟩:=eu h1;cases he;cases bO with
    |str h0 h2 h3 h4=>
     refine bN.2 ⟨hb,uA rD (λz e=>by subst e;exact h3) ?_⟩;have e1:oN hh b.size=(hh.getD b.size).toNat:=by cases hh<;>simp [oN]
     have e2:oN l 0=(l.getD 0).toNat:=by cases l<;>simp [oN]
     rw[e1];refine⟨h4,uA hl (λz e=>by subst e;exact h0) ?_⟩;rw[e2];rw[e1,e2]at hK;exact⟨h2,hK⟩
   ·next n off=>
    split at h1
    ·next m e k hT=>
     obtain⟨hb,he⟩:=eu h1;cases he;simp only[hT];generalize b7 m 4096=q at hb ⊢;rw[aoU]at hb;refine bN.2 ⟨hb.1,uA rD (λz e=>by cases e) (bN.2 ⟨dI.2 (ao3 _),uA hl (λz e=>by cases e) (bN.2 ⟨?_,?_⟩)⟩)⟩
     ·rw[aoU];exact⟨dI.2 (Nat.zero_le _),hb.2⟩
     ·show K (.row n (off+0*k) (m-0) (m-0) k);rw[Nat.zero_mul,Nat.add_zero,Nat.sub_zero];exact hK
    ·cases h1
   ·next wA jT=>
    split at h1
    ·next xs e k ys hx hT=>
     cases h1
     dsimp only;split
     ·next b=>exact absurd rfl (wA b)
     ·next n off=>exact absurd rfl (jT n off)
     ·simp only[hx,hT];cases hh with
      |none=>
       cases bO with
       |NX h0 h2 hk he=>
        refine⟨hk,uA rD (λz e=>by cases e) ⟨ao3 _,uA hl (λz e=>by subst e;exact h0) ?_⟩⟩;have e2:oN l 0=(l.getD 0).toNat:=by cases l<;>simp [oN]
        rw[e2];refine⟨h2,?_⟩;rw[show oN none xs.length=xs.length from rfl,List.take_length,he];exact hK
      |some z=>
       cases bO with
       |sub h0 h2 h3 h4 hk he=>
        refine⟨hk,uA rD (λz e=>by cases e;exact h3) ⟨h4,uA hl (λz e=>by subst e;exact h0) ?_⟩⟩;have e2:oN l 0=(l.getD 0).toNat:=by cases l<;>simp [oN]
        rw[e2];refine⟨h2,?_⟩;rw[show oN (some z) xs.length=z.toNat from rfl,he];exact hK
    ·cases h1
  ·cases h1
 ·split at h1
  ·next m _ _ y' _ hm=>
   split at h1
   ·next xs e k _ _ ys hx hT hy=>
    cases h1
    cases bO with
    |sub h0 h2 h3 h4 hk he=>
     simp only[hx,hT];refine⟨hk,?_⟩;simp only[jV,hm,hy,AV.int?];refine⟨Int.le_refl _,Nat.zero_le _,Int.le_refl _,?_,by simpa using hK⟩;first|rfl|trivial
   ·cases h1
  ·cases h1
theorem O5{k:Nat}{y:AV}{ys:apH (apH D)}{K:apH (apH D)->Prop}(h1:Mz h k y=some ys)(hy:∀c∈ys,c.length=k)(hK:K ys):uH h k y K:=by
 unfold Mz at h1;unfold uH;split at h1
 ·split at h1
  ·next cs e=>
   split at h1
   ·next ds e2=>
    obtain⟨hb,rfl⟩:=eu h1;simp only[e,e2];exact bN.2 ⟨hb,hK⟩
   ·cases h1
  ·cases h1
 ·next hn=>
  split
  ·next n off len cap k'=>exact absurd rfl (hn n off len cap k')
  ·simp only[h1];exact⟨hy,hK⟩
theorem ahj{T:TypeId}{y z:AV}(h1:Q8 P T h y z a=some (x,h',i))(bO:OK P i a)(hC:C x h'):uW P T h y z C:=by
 unfold Q8 at h1;unfold uW;split at h1
 ·next e k zs n' hT=>
  simp only[hT];split at h1
  ·next zv cX hz ql=>
   simp only[hz,ql];obtain⟨hb,h1⟩:=mP h1;refine bN.2 ⟨hb,?_⟩;split at h1
   ·next ys kV=>
    split at h1
    ·next n xs=>
     split at h1
     ·next e' k' len hn=>
      obtain⟨hc,he⟩:=eu h1;cases he;cases bO with
      |app hl hx hy hm nt jF E4=>
       subst jF;subst E4;refine O5 kV hy ?_;simp only[hn];exact bN.2 ⟨hc,hl,hx,hm,nt,hC⟩
     ·cases h1
    ·cases h1
     cases bO with
     |app hl hx hy hm nt jF E4=>
      subst jF;subst E4;refine O5 kV hy ?_;simp only[List.nil_append,ao4,apc]at hC hm nt ⊢;exact⟨hm,nt,hC⟩
    ·cases h1
     cases bO with
     |app hl hx hy hm nt jF E4=>
      subst jF;subst E4;exact O5 kV hy ⟨hx,hm,nt,hC⟩
    ·cases h1
   ·cases h1
  ·cases h1
 ·cases h1
theorem ai2{T:TypeId}{ps:apH (Nat×AV)}{K:AV->Prop}(h1:R6 P T ps=some x)(hK:K x):yJ P T ps K:=by
 unfold R6 at h1;unfold yJ;split at h1
 ·next pl z e1 e2=>
  simp only[e1,e2];split at h1
  ·next cs e3=>obtain⟨hb,rfl⟩:=eu h1;simp only[e3];exact bN.2 ⟨hb,hK⟩
  ·cases h1
 ·cases h1
theorem ajZ{T:TypeId}{len:Nat}{ps:apH (Nat×AV)}{K:AV->Prop}(h1:OQ P T len ps=some x)(hK:K x):yo P T len ps K:=by
 unfold OQ at h1;unfold yo;split at h1
 ·next e k hT=>
  simp only[hT];split at h1
  ·next z hz=>
   simp only[hz];split at h1
   ·next cs gd=>
    simp only[gd];split at h1
    ·next ds sF=>obtain⟨hb,rfl⟩:=eu h1;simp only[sF];exact bN.2 ⟨hb,hK⟩
    ·cases h1
   ·cases h1
  ·cases h1
 ·cases h1
theorem aaO{T:TypeId}{op:BinOp}{y z:AV}{K:AV->Prop}(h1:KE P T op y z=some (x,i))(bO:OK P i a)(hK:K x):yz P T op y z K:=by
 unfold KE at h1;unfold yz;split at h1
 ·split at h1
  ·next v e=>
   obtain⟨hb,he⟩:=eu h1;cases he;cases bO with|nz h0=>simp only[e];exact bN.2 ⟨hb,h0,hK⟩
  ·next e=>
   simp only[e];split at h1
   ·next v e2=>
    cases h1
    cases bO with|nn h0=>simp only[e2];exact⟨h0,hK⟩
   ·next e2=>
    simp only[e2];split at h1
    ·next v e3=>obtain⟨hb,he⟩:=eu h1;cases he;simp only[e3];exact bN.2 ⟨hb,hK⟩
    ·cases h1
 ·split at h1
  ·next v e=>cases h1;simp only[e];exact hK
  ·next e=>
   simp only[e];split at h1
   ·cases h1;cases bO with|cat h=>exact⟨h,hK⟩
   ·cases h1
 ·split at h1
  ·next v e=>obtain⟨hb,he⟩:=eu h1;cases he;simp only[e];exact bN.2 ⟨hb,hK⟩
  ·cases h1
 ·split at h1
  ·next b e=>
   simp only[e];split at h1
   ·next v e2=>cases h1;simp only[e2];exact hK
   ·cases h1
  ·cases h1
 ·cases h1
theorem ahu{s t:TypeId}{y:AV}{K:AV->Prop}(h1:GU P s t y a=some (x,i))(bO:OK P i a)(hK:K x):w6 P s t y K:=by
 unfold GU at h1;unfold w6;split at h1
 ·split at h1
  ·next e1 e2=>cases h1;simp only[e1,e2];exact hK
  ·cases h1
 ·obtain⟨hb,he⟩:=eu h1;cases he;exact bN.2 ⟨hb,hK⟩
 ·next h8 h9=>
  split at h1
  ·next xs e k s' e1 e2=>
   obtain⟨hb,he⟩:=eu h1;cases he;cases bO with
   |bg h=>
    obtain⟨ns,k1,k2⟩:=h;subst k2;split
    ·next k' n=>exact absurd rfl (h8 k' n)
    ·next b'=>exact absurd rfl (h9 b')
    ·simp only[e1,e2];exact bN.2 ⟨hb,ns,k1,hK⟩
  ·cases h1
theorem XT{T:TypeId}{y:AV}{f:Nat}{K:AV->Prop}(h1:Jl P T y f=some x)(hK:K x):x6 P T y f K:=by
 unfold Jl at h1;unfold x6;split at h1
 ·next e=>obtain⟨hb,rfl⟩:=eu h1;simp only[e];exact bN.2 ⟨hb,hK⟩
 ·next e=>simp only[e,h1];exact hK
 ·cases h1
theorem OI{y:apJ AV}(h1:Lz h y=some (x,h',i)):y=some x/\h'=h:=by
 cases y with
 |none=>cases h1
 |some y=>cases h1;exact⟨rfl,rfl⟩
theorem DB{y:apJ (AV×In)}(h1:Ab h y=some (x,h',i)):y=some (x,i)/\h'=h:=by
 cases y with
 |none=>cases h1
 |some y=>cases h1;exact⟨rfl,rfl⟩
theorem AM{o:Oper}(h1:wF P o.op ρ h a=some (x,h',i))(bO:OK P i a)(hC:C x h'):cm P o ρ h C:=by
 obtain⟨dst,op,type,pos,after,guard⟩:=o;simp only at h1;unfold wF at h1;unfold cm;split at h1
 ·cases h1;exact hC
 ·cases h1;exact hC
 ·next c y z=>
  split at h1
  ·next b=>
   cases h1
   simp only[OK.Ir bO];cases b<;>simp_all
  ·cases h1
 ·split at h1
  ·next z e=>cases h1;simp only[e];exact hC
  ·cases h1
 ·obtain⟨hb,he⟩:=eu h1;cases he;exact bN.2 ⟨hb,hC⟩
 ·split at h1
  ·next cs off e=>
   split at h1
   ·next y e2=>cases h1;exact PI e e2 hC
   ·cases h1
  ·cases h1
 ·split at h1
  ·next n off e=>
   split at h1
   ·next cs e2=>
    split at h1
    ·next k e3=>obtain⟨hb,he⟩:=eu h1;cases he;simp only[e,yt,e2,e3];exact bN.2 ⟨hb,hC⟩
    ·cases h1
   ·cases h1
  ·cases h1
 ·split at h1
  ·next e=>cases h1;simp only[e];exact hC
  ·next e=>cases h1;simp only[e];exact hC
  ·next e=>cases h1;simp only[e];exact hC
  ·cases h1
 ·split at h1
  ·next e=>
   simp only[e];split at h1
   ·next e2=>cases h1;simp only[e2];exact hC
   ·next e2=>cases h1;simp only[e2];exact hC
   ·cases h1
  ·cases h1
 ·obtain⟨e,rfl⟩:=OI h1;exact XT e hC
 ·obtain⟨e,rfl⟩:=DB h1;exact aom e bO hC
 ·split at h1
  ·next b z c e1 e2=>
   obtain⟨hb,he⟩:=eu h1;cases he;cases bO with
   |ch h0 hc=>simp only[e1,e2];refine bN.2 ⟨hb,h0,?_⟩;simp only[hc];exact hC
  ·cases h1
 ·obtain⟨e,rfl⟩:=OI h1;exact ai2 e hC
 ·obtain⟨e,rfl⟩:=OI h1;exact ajZ e hC
 ·obtain⟨e,rfl⟩:=DB h1;exact ajJ e bO hC
 ·split at h1
  ·next e=>
   split at h1
   ·next e2=>cases h1;simp only[e,e2];exact hC
   ·cases h1
  ·cases h1
 ·split at h1
  ·next e=>cases h1;simp only[e];exact hC
  ·cases h1
 ·obtain⟨e,rfl⟩:=DB h1;exact aaO e bO hC
 ·unfold xc;split at h1
  ·next e=>
   split at h1
   ·next e2=>cases h1;simp only[e,e2];exact hC
   ·cases h1
  ·cases h1
 ·obtain⟨e,rfl⟩:=DB h1;exact ahu e bO hC
 ·next c=>
  split at h1
  ·next hc=>
   simp only[hc];split at h1
   ·next e1 e2=>obtain⟨e,rfl⟩:=DB h1;simp only[e1,e2];exact af4 (C:=λx=>C x _) e bO hC (λn hn=>hn)
   ·cases h1
  ·next hc=>
   simp only[hc];split at h1
   ·next e1 e2=>obtain⟨hb,h1⟩:=mP h1;simp only[e1,e2];exact bN.2 ⟨hb,ahj h1 bO hC⟩
   ·cases h1
  ·next hc=>
   simp only[hc];split at h1
   ·next e1=>cases h1;simp only[e1];exact hC
   ·cases h1
  ·next hc=>
   simp only[hc];split at h1
   ·next e1=>cases h1;simp only[e1];exact hC
   ·cases h1
  ·next f hc=>
   simp only[hc];split at h1
   ·next g cU r e=>
    obtain⟨hb,he⟩:=eu h1;cases he;simp only[aoU]at hb;simp only[e];cases bO with|call jr=>exact(jr.use hb.1 hb.2 hC).UT
   ·next g cU r h2 e=>
    cases h1
    simp only[e];cases bO with|jr jr=>exact jr.mono λr1 h1 ⟨e1,e2⟩=>by subst e1;subst e2;exact hC
   ·next g cU l eX H r H' e=>
    cases h1
    simp only[e];cases bO with|nB ha hd hb hl hc=>exact(ha▸(hc.nB hd hb hl).mono λr1 h1 ⟨e1,e2⟩=>by subst e1;subst e2;exact hC:cx P g _ _ _).Ma
   ·next g cU l eX H r H' e=>
    cases h1
    simp only[e];cases bO with|acz wv hv ha hd hb hl hc=>exact(ha▸(hc.nB hd (by rw[hb,amF wv]) (by rw[aoU]at hl ⊢;exact⟨hl.1,ak1 wv hl.2⟩)).mono λr1 h1 ⟨e1,e2⟩=>by subst e1;subst e2;rw[<-alN hv];exact hC:cx P g _ _ _).Ma
   ·next g cU l eX H r e=>
    cases h1
    simp only[e];cases bO with|rq ha hd hb hl hc=>exact(ha▸(by have:=hc.rq hd hb hl [];rw[apd]at this;exact this.mono λr1 h1 ⟨e1,e2⟩=>by subst e1;subst e2;exact hC):cx P g _ _ _).Ma
   ·next q r e=>
    obtain⟨hb,he⟩:=eu h1;cases he;simp only[aoU]at hb;simp only[e];cases bO with|sC hq=>exact hq.use hb.1 hb.2 hC
   ·cases h1
  ·cases h1
 ·next op _=>
  unfold xR at h1;split at h1
  ·next y h2 p e=>
   cases h1
   simp only[e];refine⟨?_,hC⟩;cases p with
   |no=>trivial
   |lt n=>cases bO with|sd h=>exact h
  ·cases h1
end
def iV:apH (Nat×bQ)->Nat->bQ
 |[],_=> .none
 |(k,x)::l,i=>bif k==i then x else iV l i
def wm(i:In)(a:bQ)(r:apJ (St×apH (In×bQ))):apJ (St×apH (In×bQ)):=
 match i with
 | .none=>r
 |i=>match r with
  |some (s,l)=>some (s,(i,a)::l)
  |none=>none
def zT:bQ->Bool
 | .SZ .. | .SC .. | .GF .. =>true
 |_=>false
def Bj(o:Oper):bQ->Bool
 | .GF [] .. =>bZ o==6
 |_=>false
def CF(P:apK)(dr vk:Bool)(op:Op)(ρ:Operand->AV)(h:apH an)(a:bQ):apJ (AV×apH an×In):=
 match a with
 | .va va=>bif dr&& !vk then none else match iq P op ρ h va with
   |some (x,h',p)=>some (x,h', .pr p)
   |none=>none
 |a=>wF P op ρ h a
def n5(P:apK)(dr:Bool)(o:Oper)(j:Nat)(as:apH (Nat×bQ))(s:St):apJ (St×apH (In×bQ)):=
 bif dr&&zT (iV as (3*j+1))&& !Bj o (iV as (3*j+1))then none else
 match CF P dr (jl o) o.op (ev s) s.h (iV as (3*j+1))with
 |some (x,h',i)=>match iV as (3*j+2)with
  | .eq y=>wm i (iV as (3*j+1)) (some ((s.wh h').put o.dst y,[(.eq x, .eq y)]))
  |_=>wm i (iV as (3*j+1)) (some ((s.wh h').put o.dst x,[]))
 |none=>none
def Ew(o:Oper)(s:St):St:=s.put o.dst (.d (.v undef))
def rI(l:apH (In×bQ)):apJ (St×apH (In×bQ))->apJ (St×apH (In×bQ))
 |some (s,m)=>some (s,l++m)
 |none=>none
def oS(P:apK)(ops:Array Oper)(dr:Bool)(o:Oper)(j:Nat)(as:apH (Nat×bQ))(s:St):apJ (St×apH (In×bQ)):=
 match o.guard with
 |none=>n5 P dr o j as s
 |some (g,want)=>match iV as (3*j)with
  | .bit b=>rI [(.bit (uK ops g s.t), .bit b)] (bif b==want then n5 P dr o j as s else some (Ew o s,[]))
  | .CP=>rI [(.bit (uK ops g s.t), .CP)] (some (Ew o s,[]))
  |_=>none
def iY(P:apK)(ops:Array Oper)(dr:Bool):apH Oper->Nat->apH (Nat×bQ)->St->apJ (St×apH (In×bQ))
 |[],_,_,s=>some (s,[])
 |o::rest,j,as,s=>match oS P ops dr o j as s with
  |some (s1,l)=>rI l (iY P ops dr rest (j+1) as s1)
  |none=>none
def gw(P:apK)(l:apH (In×bQ)):Prop:=∀p∈l,OK P p.1 p.2
section
variable {P:apK} {ops:Array Oper} {dr:Bool} {o:Oper} {j:Nat} {as:apH (Nat×bQ)} {s s1:St} {l:apH (In×bQ)} {K:St->Prop}
theorem Ky{i:In}{a:bQ}{r:apJ (St×apH (In×bQ))}(h:wm i a r=some (s1,l))(bO:gw P l):∃m,r=some (s1,m)/\gw P m/\OK P i a:=by
 unfold wm at h;split at h
 ·exact⟨l,h,bO, .none⟩
 ·split at h
  ·next s2 m=>
   cases h
   exact⟨m,rfl,λp hp=>bO p (ao1 _ hp),bO (i,a) aoY⟩
  ·cases h
theorem vS{r:apJ (St×apH (In×bQ))}{m:apH (In×bQ)}(h:rI m r=some (s1,l))(bO:gw P l):∃n,r=some (s1,n)/\gw P n/\gw P m:=by
 unfold rI at h;split at h
 ·next s2 n=>
  cases h
  exact⟨n,rfl,λp hp=>bO p (List.mem_append_right _ hp),λp hp=>bO p (List.mem_append_left _ hp)⟩
 ·cases h
def Ju(P:apK)(dr:Bool)(o:Oper)(K:St->Prop)(s:St):Prop:=bif dr then aaH P o K s else nE P o K s
theorem anG{x:AV}{h':apH an}{i:In}{a:bQ}(h1:wF P o.op (ev s) s.h a=some (x,h',i))(bO:OK P i a)(hh:zT a=false)(hK:K ((s.wh h').put o.dst x)):aaH P o K s:=by
 refine .inl ?_;unfold zO;split
 ·next c hop=>
  split
  ·next f hc=>
   rw[hop]at h1;unfold wF at h1;simp only[hc]at h1;split at h1
   ·next g cU r e=>
    obtain⟨hb,he⟩:=eu h1;cases he;simp only[aoU]at hb;simp only[e];cases bO with
    |call jr=>exact⟨_,hK,λe=>(jr.use hb.1 hb.2 ⟨rfl,rfl⟩).UT⟩
   ·cases hh
   ·cases hh
   ·cases hh
   ·next g cU l eX H r e=>
    cases h1
    simp only[e];cases bO with|rq ha hd hb hl hc=>exact⟨_,hK,λe=>(ha▸hc.rq hd hb hl e:cx P g _ _ _).Ma⟩
   ·next q r e=>
    obtain⟨hb,he⟩:=eu h1;cases he;simp only[aoU]at hb;simp only[e];cases bO with
    |sC hq=>
     have:=λh=>hq.use (h:=h) (C:=λr' h'=>r'=x/\h'=h) hb.1 hb.2 ⟨rfl,rfl⟩;obtain⟨g,cs,e1,_⟩:=this [];refine⟨g,cs,e1,x,hK,λe=> ?_⟩;obtain⟨g',bJ,e2,h9⟩:=this (s.h++e);rw[e1]at e2;cases e2
     exact h9
   ·cases h1
  ·exact AM (C:=λx h'=>K ((s.wh h').put o.dst x)) h1 bO hK
 ·exact AM (C:=λx h'=>K ((s.wh h').put o.dst x)) h1 bO hK
theorem aek{o:Oper}{ρ:Operand->AV}{h h':apH an}{eX:apH AV}{H H':apH an}{r x:AV}{i:In}(hk:bZ o=6)(hr:wF P o.op ρ h (.GF [] eX H r H')=some (x,h',i)):h'=h++H'.map (an.lO (rn [] h.length)):=by
 unfold bZ at hk;split at hk
 all_goals first|(cases hk;done)|skip
 next c hop=>
  split at hk
  all_goals first|(cases hk;done)|skip
  next f hc=>
   rw[hop]at hr;unfold wF at hr;simp only[hc]at hr;generalize ρ f=v at hr;cases v<;>first|(cases hr;rfl)|cases hr
theorem SS(h:n5 P dr o j as s=some (s1,l))(bO:gw P l)(hK:K s1):Ju P dr o K s:=by
 unfold n5 at h;cases hd:dr&&zT (iV as (3*j+1))&& !Bj o (iV as (3*j+1))with
 |true=>rw[hd]at h;cases h
 |false=>
  rw[hd]at h;simp only[cond_false]at h;split at h
  ·next x h' i hr=>
   have fin:OK P i (iV as (3*j+1))->K ((s.wh h').put o.dst x)->Ju P dr o K s:=λh1 h2=>by
    unfold Ju;cases dr with
    |true=>
     unfold CF at hr;split at hr
     ·next va e=>
      cases hv:jl o with
      |false=>rw[hv]at hr;cases hr
      |true=>
       rw[hv]at hr;simp only[Bool.not_true,Bool.and_false,cond_false]at hr;split at hr
       ·next x2 h2' p e2=>
        cases hr
        rw[e]at h1;cases h1 with|pr _ hp=>exact .inr (.inr (.inl ⟨.inl ⟨hv,rfl⟩,va,x,h',p,e2,hp,h2⟩))
       ·cases hr
     ·by_cases hx:Bj o (iV as (3*j+1))=true
      ·refine .inr (.inr (.inr ?_));generalize iV as (3*j+1)=a at hx h1 hr;unfold Bj at hx;split at hx
       ·next eX H r H'=>
        have Cs:bZ o=6:=by simpa using hx
        have this:h'=s.h++H'.map (an.lO (rn [] s.h.length)):=aek Cs hr;refine⟨Cs,x,H'.map (an.lO (rn [] s.h.length)),?_,λC hC=> ?_⟩
        ·rw[<-this];exact h2
        ·rw[<-this]at hC;exact AM hr h1 hC
       ·cases hx
      ·exact anG hr h1 (by simpa [hx]using hd) h2
    |false=>
     unfold CF at hr;split at hr
     ·next va e=>
      simp only[Bool.false_and,cond_false]at hr;split at hr
      ·next x2 h2' p e2=>
       cases hr
       rw[e]at h1;cases h1 with|pr _ hp=>exact .inl ⟨va,x,h',p,e2,hp,h2⟩
      ·cases hr
     ·exact .inr (.inr (.inl (AM (C:=λx h'=>K ((s.wh h').put o.dst x)) hr h1 h2)))
   split at h
   ·next y hy=>
    obtain⟨m,e,h2,h3⟩:=Ky h bO;cases e
    have:=h2 (.eq x, .eq y) aoY;cases this with|eq e=>subst e;exact fin h3 hK
   ·obtain⟨m,e,h2,h3⟩:=Ky h bO;cases e
    exact fin h3 hK
  ·cases h
theorem D5(h:oS P ops dr o j as s=some (s1,l))(bO:gw P l)(hK:K s1):aGuard ops o s (Ju P dr o K s) (K (s.put o.dst (.d (.v undef)))):=by
 unfold oS at h;split at h
 ·next hg=>unfold aGuard;rw[hg];exact SS h bO hK
 ·next g want hg=>
  obtain⟨dst,op,ty,pos,after,guard⟩:=o;simp only at hg;subst hg;split at h
  ·next b hb=>
   obtain⟨n,e,h2,h3⟩:=vS h bO;have h4:=OK.Ir (h3 (_,_) aoY);rw[H3,h4];refine⟨λe2=> ?_,λe2=> ?_⟩
   ·subst e2;simp only[BEq.rfl,cond_true]at e;exact SS e h2 hK
   ·subst e2;have:((!want)==want)=false:=by cases want<;>rfl
    rw[this]at e;simp only[cond_false]at e;cases e
    exact hK
  ·next hb=>
   obtain⟨n,e,h2,h3⟩:=vS h bO;cases e
   have h4:=h3 (_,_) aoY;have h5:uK ops g s.t= .d (.v undef):=by
    generalize uK ops g s.t=z at h4;cases h4;rfl
   rw[H3,h5];exact hK
  ·cases h
theorem xU:∀(ol:apH Oper)(j:Nat)(s:St)(l:apH (In×bQ)),iY P ops dr ol j as s=some (s1,l)->gw P l->K s1->(bif dr then Ef P ops ol K s else iU P ops ol K s)
 |[],_,s,l,h,_,hK=>by cases h;cases dr<;>exact hK
 |o::rest,j,s,l,h,bO,hK=>by
  unfold iY at h;split at h
  ·next s2 m hg=>
   obtain⟨n,e,h2,h3⟩:=vS h bO;have ih:=xU rest (j+1) s2 n e h2 hK;cases dr with
   |true=>exact D5 (K:=Ef P ops rest K) hg h3 ih
   |false=>exact D5 (K:=iU P ops rest K) hg h3 ih
  ·cases h
theorem RK(s:St)(d:apJ Nat)(x:AV):∃pre,(s.put d x).t=pre++s.t:=by
 cases d with
 |none=>exact⟨[],rfl⟩
 |some k=>
  by_cases hk:k<s.n
  ·exact⟨[(k,x)],by rw[rG hk];rfl⟩
  ·exact⟨[],by rw[Ds hk];rfl⟩
theorem ab8(h:oS P ops dr o j as s=some (s1,l)):(∃pre,s1.t=pre++s.t)/\s1.n=s.n:=by
 have cI:∀{i a r l},wm i a r=some (s1,l)->∃m,r=some (s1,m):=fun{i a r l} h=>by
  unfold wm at h;split at h
  ·exact⟨_,h⟩
  ·split at h
   ·cases h;exact⟨_,rfl⟩
   ·cases h
 have cR:∀{m r l},rI m r=some (s1,l)->∃m,r=some (s1,m):=fun{m r l} h=>by
  unfold rI at h;split at h
  ·cases h;exact⟨_,rfl⟩
  ·cases h
 have st:∀l,n5 P dr o j as s=some (s1,l)->(∃pre,s1.t=pre++s.t)/\s1.n=s.n:=λl h=>by
  unfold n5 at h;cases hd:dr&&zT (iV as (3*j+1))&& !Bj o (iV as (3*j+1))with
  |true=>rw[hd]at h;cases h
  |false=>
   rw[hd]at h;simp only[cond_false]at h;split at h
   ·split at h<;>(obtain⟨m,e⟩:=cI h;cases e;exact⟨RK _ _ _,by rw[ri];rfl⟩)
   ·cases h
 unfold oS at h;split at h
 ·exact st _ h
 ·split at h
  ·obtain⟨m,e⟩:=cR h;revert e;generalize ((_:Bool)==_)=q;intro e;cases q with
   |true=>exact st _ e
   |false=>cases e;exact⟨RK _ _ _,by unfold Ew;rw[ri]⟩
  ·obtain⟨m,e⟩:=cR h;cases e;exact⟨RK _ _ _,by unfold Ew;rw[ri]⟩
  ·cases h
theorem Qj:∀(ol:apH Oper)(j:Nat)(s:St)(l:apH (In×bQ)),iY P ops dr ol j as s=some (s1,l)->(∃pre,s1.t=pre++s.t)/\s1.n=s.n
 |[],_,s,l,h=>by cases h;exact⟨⟨[],rfl⟩,rfl⟩
 |o::rest,j,s,l,h=>by
  unfold iY at h;split at h
  ·next s2 m hg=>
   unfold rI at h;split at h
   ·next s3 n e=>
    cases h
    obtain⟨⟨p1,e1⟩,n1⟩:=ab8 hg;obtain⟨⟨p2,e2⟩,n2⟩:=Qj rest (j+1) s2 n e;exact⟨⟨p2++p1,by rw[e2,e1,ao9]⟩,n2.trans n1⟩
   ·cases h
  ·cases h
end
def X0:AV->Bool
 | .dead=>true
 |_=>false
def oG(P:apK)(dr:Bool)(l:apH Oper)(as:apH (Nat×bQ))(aS:apH Nat)(s:St):apJ (apH (Nat×AV)×apH an×apH (In×bQ)):=
 match iY P l.toArray dr l 0 as s with
 |some (s1,ps)=>bif (s1.t.take (s1.t.length-s.t.length)).all (λp=>aS.any (·==p.1)||X0 (bp s.t p.1))then some (aS.map λk=>(k,bp s1.t k),s1.h,ps)else none
 |none=>none
theorem EK:∀(a b:apH (Nat×AV))(i:Nat),(i∈a.map (·.1)/\bp (a++b) i=bp a i)\/(i ∉ a.map (·.1)/\bp (a++b) i=bp b i)
 |[],b,i=> .inr ⟨by simp,rfl⟩
 |(k,x)::a,b,i=>by
  by_cases e:i=k
  ·subst e;exact .inl ⟨by simp,by simp [mX]⟩
  ·rcases EK a b i with⟨h1,h2⟩|⟨h1,h2⟩
   ·exact .inl ⟨by simp at h1 ⊢;exact .inr h1,by rw[List.cons_append,mX,if_neg e,h2,mX,if_neg e]⟩
   ·exact .inr ⟨by simp at h1 ⊢;exact⟨e,h1⟩,by rw[List.cons_append,mX,if_neg e,h2]⟩
section
variable {P:apK} {dr:Bool} {as:apH (Nat×bQ)} {s s1 s':St} {ps:apH (In×bQ)} {aS:apH Nat} {ol:apH Oper} {Δ:apH (Nat×AV)} {h':apH an}
theorem DJ(h:oG P dr ol as aS s=some (Δ,h',ps)):∃s1,iY P ol.toArray dr ol 0 as s=some (s1,ps)/\s1.n=s.n/\s1.h=h'/\∀i,bp (Δ++s.t) i=bp s1.t i\/bp (Δ++s.t) i= .dead:=by
 unfold oG at h;split at h
 ·next s1 ps' hr=>
  obtain⟨hb,he⟩:=eu h;cases he
  obtain⟨⟨pre,e1⟩,n1⟩:=Qj _ _ _ _ hr;refine⟨s1,hr,n1,rfl,λi=> ?_⟩;have yu:∀(f:Nat->AV),(aS.map λk=>(k,f k)).map (·.1)=aS:=λf=>by rw[List.map_map];exact List.map_id _
  rcases EK (aS.map λk=>(k,bp s1.t k)) s.t i with⟨h1,h2⟩|⟨h1,h2⟩
  ·rw[yu]at h1;rw[h2,ta (λk=>bp s1.t k),if_pos h1];exact .inl rfl
  ·rw[yu]at h1;rw[h2];rw[e1,aoT,Nat.add_sub_cancel,List.take_left']at hb
   ·rw[e1];rcases EK pre s.t i with⟨h3,h4⟩|⟨h3,h4⟩
    ·right
     obtain⟨p,hp,rfl⟩:=List.mem_map.1 h3;have:=api.1 hb p hp;rw[Bool.or_eq_true]at this;rcases this with this|this
     ·exfalso;obtain⟨k,hk,e⟩:=List.any_eq_true.1 this;rw[beq_iff_eq]at e;exact h1 (e▸hk)
     ·generalize bp s.t p.1=z at this;cases z<;>first|rfl|cases this
    ·exact .inl h4.symm
   ·rfl
 ·cases h
theorem cA.less{G:Gh}{w:apM}{a:Act}(hs:cA G w a s1)(hn:s'.n=s1.n)(hh:s'.h=s1.h)(ht:∀i,bp s'.t i=bp s1.t i\/bp s'.t i= .dead):cA G w a s':=
 ⟨hs.size.trans hn.symm,λi=>by
  rcases ht i with e|e
  ·rw[e];exact hs.tmp i
  ·rw[e];exact .dead _,by rw[hh];exact hs.inv,hs.df⟩
end
structure Ob(P:Program) where
 i:In
 o:bQ
 ok:OK P i o
def bT{P:apK}{e:Bool}(h:e=true):Ob P:=⟨_,_, .bit (b:=true) h⟩
def bF{P:apK}{e:Bool}(h:e=false):Ob P:=⟨_,_, .bit (b:=false) h⟩
def uN{P:apK}:Ob P:=⟨_,_, .CP⟩
def cL{P:apK}{f:FuncId}{args:apH AV}{r:AV}(h:ic P f args (·=r)):Ob P:=⟨_,_, .call h⟩
def iX{P:apK}(l:apH (Nat×Ob P)):apH (Nat×bQ):=l.map λb=>(b.1,b.2.o)
def jP{P:apK}(l:apH (Nat×Ob P)):apH (In×bQ):=l.map λb=>(b.2.i,b.2.o)
theorem qS{P:apK}(l:apH (Nat×Ob P)):gw P (jP l):=λp hp=>by
 obtain⟨b,_,rfl⟩:=List.mem_map.1 hp;exact b.2.ok
section
variable {P:apK} {r:apJ Nat} {N0 id:Nat} {ol:apH Oper} {y:Code} {s:St} {Q Q':Exit->St->Prop} {ay:apH (Nat×Ob P)} {Δ:apH (Nat×AV)} {h':apH an}
theorem Cr{c:Code}{s':St}(hn:s'.n=s.n)(hh:s'.h=s.h)(ht:∀i,bp s'.t i=bp s.t i\/bp s'.t i= .dead)(h:bj P r N0 c Q s'):bj P r N0 c Q s:=
 ⟨λG w a n hs hN=>h.run G w a n (hs.less hn hh ht) hN⟩
theorem YZ(ay:apH (Nat×Ob P))(Δ:apH (Nat×AV))(h':apH an)(h:oG P false ol (iX ay) (Δ.map (·.1)) s=some (Δ,h',jP ay))(k:bj P r N0 y Q' ⟨s.n,Δ++s.t,h'⟩):bj P r N0 (.region id ol.toArray false) (gp (λs=>bj P r N0 y Q' s) Q) s:=by
 obtain⟨s1,h1,h2,h3,h4⟩:=DJ h;refine fy ?_;exact xU (dr:=false) ol 0 s _ h1 (qS ay) (Cr (s:=s1) (s':=⟨s.n,Δ++s.t,h'⟩) h2.symm h3.symm h4 k)
theorem anf(hm:P.follows .mixedOrders=true)(hl:vA ol.toArray=true)(ay:apH (Nat×Ob P))(Δ:apH (Nat×AV))(h':apH an)(h:oG P true ol (iX ay) (Δ.map (·.1)) s=some (Δ,h',jP ay))(k:bj P r N0 y Q' ⟨s.n,Δ++s.t,h'⟩):bj P r N0 (.region id ol.toArray true) (gp (λs=>bj P r N0 y Q' s) Q) s:=by
 obtain⟨s1,h1,h2,h3,h4⟩:=DJ h;refine NU hm hl ?_;exact xU (dr:=true) ol 0 s _ h1 (qS ay) (Cr (s:=s1) (s':=⟨s.n,Δ++s.t,h'⟩) h2.symm h3.symm h4 k)
def EU(P:apK)(dr:Bool)(l:apH Oper)(as:apH (Nat×bQ))(s:St):apJ (apH (Nat×AV)×apH an×apH (In×bQ)):=
 match iY P l.toArray dr l 0 as s with
 |some (s1,ps)=>some (s1.t,s1.h,ps)
 |none=>none
theorem abv{dr:Bool}{as:apH (Nat×bQ)}{t:apH (Nat×AV)}{ps:apH (In×bQ)}(h:EU P dr ol as s=some (t,h',ps)):iY P ol.toArray dr ol 0 as s=some (⟨s.n,t,h'⟩,ps):=by
 unfold EU at h;split at h
 ·next s1 ps' hr=>
  cases h
  obtain⟨_,n1⟩:=Qj _ _ _ _ hr;rw[hr,<-n1]
 ·cases h
theorem alh(ay:apH (Nat×Ob P))(Δ:apH (Nat×AV))(h':apH an)(h:EU P false ol (iX ay) s=some (Δ++s.t,h',jP ay))(k:Q .normal ⟨s.n,Δ++s.t,h'⟩):bj P r N0 (.region id ol.toArray false) Q s:=
 fy (xU (dr:=false) ol 0 s _ (abv h) (qS ay) k)
end
def AV.fin(m:Nat)(x:AV):AV:=(x.bn m).nrm
def an.qf:an->an
 | .cells cs=> .cells (cs.map AV.nrm)
 | .lp ls p as bd cs=> .lp ls p as bd (cs.map AV.nrm)
 | .it sn cs=> .it sn (cs.map AV.nrm)
 | .aT T cs=> .aT T (cs.map AV.nrm)
 | .vec e k cs=> .vec e k (cs.map (·.map AV.nrm))
 |B=>B
def iW(s:St)(live:apH Nat)(m:Nat):apJ St:=
 bif b7 m s.h.length&&(live.all λk=>((bp s.t k).bn m).aP m)&&(((s.h.take m).map (an.bn m)).all (an.aP m))then some ⟨s.n,live.map λk=>(k,(bp s.t k).fin m),((s.h.take m).map (an.bn m)).map an.qf⟩else none
theorem Sf{G:Gh}{w:apM}{h:apH an}(hi:Inv G w h):Inv G w (h.map an.qf):=by
 have ej:∀(n:Nat)(B:an),(h.map an.qf)[n]?=some B->∃B',h[n]?=some B'/\B=B'.qf:=λn B hB=>by
  rw[aoZ]at hB;cases hx:h[n]? with
  |none=>rw[hx]at hB;cases hB
  |some B'=>rw[hx]at hB;cases hB;exact⟨B',rfl,rfl⟩
 have dQ:∀n b,bB (h.map an.qf) G n=some b->bB h G n=some b:=λn b hb=>by
  obtain⟨B,hB,hb⟩:=nL hb;obtain⟨B',h1,rfl⟩:=ej n B hB;rw[cZ h1,<-hb];cases B'<;>rfl
 refine⟨by rw[aoX];exact hi.len,hi.z,hi.S,λn B hB=> ?_,λi j b h1 h2=>hi.inj i j b (dQ i b h1) (dQ j b h2),hi.gl⟩;obtain⟨B',h1,rfl⟩:=ej n B hB;have dD:=hi.cu n B' h1;cases B' with
 |gone=>trivial
 |front e k len=>exact dD
 |bg e b=>exact dD
 |map kv=>exact dD
 |fR kv=>exact dD
 |vec e k cs=>
  obtain⟨c1,c2,c3,c4⟩:=dD;refine⟨by rw[aoX];exact c1,by rw[aoX];exact c2,λc hc=> ?_,?_⟩
  ·obtain⟨x,hx,rfl⟩:=List.mem_map.1 hc;rw[aoX];exact c3 x hx
  ·rcases c4 with⟨d1,d2,A,d3⟩|⟨g,cap,cur,d1,d2,d3,d4,d5,d6,d7,d8,d9⟩
   ·exact .inl ⟨d1,by rw[d2];rfl,A,d3⟩
   ·refine .inr ⟨g,cap,cur,d1,by rw[aoX];exact d2,d3,d4,by rw[aoX];exact d5,d6,d7,d8,λi j c x u hc hx hu=> ?_⟩;rw[aoZ]at hc;cases hy:cs[i]? with
    |none=>rw[hy]at hc;cases hc
    |some y=>
     rw[hy]at hc;cases hc
     rw[aoZ]at hx;cases hw:y[j]? with
     |none=>rw[hw]at hx;cases hx
     |some z=>rw[hw]at hx;cases hx;exact(d9 i j y z u hy hw hu).nrm
 |cells cs=>
  obtain⟨c1,c2,vs,T,c3,c4,c5⟩:=dD;refine⟨c1,c2,vs,T,c3,by rw[aoX];exact c4,λi u c hu hc=> ?_⟩;rw[aoZ]at hc;cases hx:cs[i]? with
  |none=>rw[hx]at hc;cases hc
  |some x=>rw[hx]at hc;cases hc;exact(c5 i u x hu hx).nrm
 |lp ls p as bd cs=>
  obtain⟨c1,c2,fn,vs,T,c3,c4,c5⟩:=dD;refine⟨c1,c2,fn,vs,T,c3,by rw[aoX];exact c4,λi u c hu hc=> ?_⟩;rw[aoZ]at hc;cases hx:cs[i]? with
  |none=>rw[hx]at hc;cases hc
  |some x=>rw[hx]at hc;cases hc;exact(c5 i u x hu hx).nrm
 |it sn cs=>
  obtain⟨c1,c2,fn,vs,T,c3,c4,c5⟩:=dD;refine⟨c1,c2,fn,vs,T,c3,by rw[aoX];exact c4,λi u c hu hc=> ?_⟩;rw[aoZ]at hc;cases hx:cs[i]? with
  |none=>rw[hx]at hc;cases hc
  |some x=>rw[hx]at hc;cases hc;exact(c5 i u x hu hx).nrm
 |aT T0 cs=>
  obtain⟨c1,c2,fn,vs,T,c3,c4,c5⟩:=dD;refine⟨c1,c2,fn,vs,T,c3,by rw[aoX];exact c4,λi u c hu hc=> ?_⟩;rw[aoZ]at hc;cases hx:cs[i]? with
  |none=>rw[hx]at hc;cases hc
  |some x=>rw[hx]at hc;cases hc;exact(c5 i u x hu hx).nrm
section
variable {P:apK} {r:apJ Nat} {n N0:Nat} {G:Gh} {w:apM} {a:Act} {s s':St} {Q Q':Exit->St->Prop} {live:apH Nat} {m:Nat}
theorem akX(h:iW s live m=some s'):s.okMask live m/\s'.n=s.n/\s'.t=(live.map λk=>(k,(bp s.t k).fin m))/\s'.h=((s.h.take m).map (an.bn m)).map an.qf:=by
 unfold iW at h;obtain⟨hb,rfl⟩:=eu h;rw[aoU,aoU]at hb;exact⟨⟨dI.1 hb.1.1,hb.1.2,hb.2⟩,rfl,rfl,rfl⟩
theorem cA.iW(hs:cA G w a s)(h:iW s live m=some s'):cA (G.cut m) w a s':=by
 obtain⟨h1,h2,h3,h4⟩:=akX h;have hm:=hs.mask h1;refine⟨hs.size.trans h2.symm,λi=> ?_,by rw[h4];exact Sf hm.inv,hs.df⟩;have:=hm.tmp i
 change aD _ _ _ (bp (live.map λk=>(k,(bp s.t k).bn m)) i)at this
 rw[ta (λk=>(bp s.t k).bn m)]at this;rw[h3,ta (λk=>(bp s.t k).fin m)];split at this
 ·rename_i hi;rw[if_pos hi];exact this.nrm
 ·rename_i hi;rw[if_neg hi];exact .dead _
theorem VJ{c:Code}{ι:Type}(live:apH Nat)(m:Nat)(st:ι->St)(I:ι->Prop)(μ:ι->Nat)(i0:ι)(hm:N0<=m)(h0:Go.Proofs.YtmkmibahjanejaaGreatDoor.iW s live m=some (st i0))(hI:I i0)
 (round:∀i,I i->bj P r N0 c (gp (λs'=>∃i',Go.Proofs.YtmkmibahjanejaaGreatDoor.iW s' live m=some (st i')/\I i'/\μ i'<μ i) Q) (st i)):bj P r N0 (.loop c) Q s:=by
 constructor
 intro G w a n hs _;refine No (λ(i:ι) a' w'=>∃G',I i/\bx N0 G w G' w'/\N0<=G'.N/\cA G' w' a' (st i)) μ i0 ⟨G.cut m,hI,qd _ _ _ _,hm,hs.iW h0⟩ ?_;rintro i a' w' ⟨G',hi,hE,hN,b8⟩;refine wpIn_mono ((round i hi).run G' w' a' n b8 hN) λe a1 w1 hn=> ?_;obtain⟨G1,s1,hX,gu,e8,hq⟩:=hn;cases e with
 |normal=>
  obtain⟨i',h1,h2,h3⟩:=hq;exact⟨i',⟨G1.cut m,h2,(hE.trans hX).trans (qd _ _ _ _),hm,e8.iW h1⟩,h3⟩
 |_=>exact⟨G1,s1,hE.trans hX,gu,e8,hq⟩
theorem mc{c:Code}(live:apH Nat)(m:Nat)(hm:N0<=m)(h0:Go.Proofs.YtmkmibahjanejaaGreatDoor.iW s live m=some s')(h:bj P r N0 c Q s'):bj P r N0 c Q s:=by
 constructor
 intro G w a n hs _;exact wpIn_mono (h.run (G.cut m) w a n (hs.iW h0) hm) λ_ _ _ hn=>hn.trans (qd N0 G w m)
theorem afX{c y:Code}{ι:Type}(live:apH Nat)(m:Nat)(st:ι->St)(I:ι->Prop)(hm:N0<=m)(hc:bj P r N0 c (gp (λs'=>∃i,Go.Proofs.YtmkmibahjanejaaGreatDoor.iW s' live m=some (st i)/\I i) Q) s)(hy:∀i,I i->bj P r N0 y Q' (st i)):bj P r N0 c (gp (λs=>bj P r N0 y Q' s) Q) s:=by
 refine hc.mono λe s' h=> ?_;cases e with
 |normal=>obtain⟨i,h1,h2⟩:=h;exact mc live m hm h1 (hy i h2)
 |_=>exact h
def vr(P:apK)(s:St):apH ResultVar->apJ (apH AV)
 |[]=>some []
 | .tmp t::l=>match vr P s l with
   |some xs=>some (bp s.t t::xs)
   |none=>none
 | .cell p t::l=>match yk s.h (bp s.t p)with
   |some (cs,off)=>match Bp P t cs off,vr P s l with
    |some x,some xs=>some (x::xs)
    |_,_=>none
   |none=>none
def wW(P:apK)(rs:apH ResultVar)(s:St):apJ AV:=
 match vr P s rs with
 |some l=>bif ((kK l).bn 0).aP 0 then some ((kK l).fin 0)else none
 |none=>none
def kQ(P:apK)(fn:Func)(R:AV):Exit->St->Prop
 | .normal,s=>wW P fn.results.toList s=some R
 | .ret,s=>wW P fn.results.toList s=some R
 |_,_=>False
theorem G9:∀(l:apH ResultVar)(xs:apH AV)(C:apH AV->Prop),vr P s l=some xs->C xs->nj P s l C
 |[],xs,C,h,hC=>by cases h;exact hC
 | .tmp t::l,xs,C,h,hC=>by
   unfold vr at h;split at h
   ·next ys e=>cases h;exact G9 l ys _ e hC
   ·cases h
 | .cell p t::l,xs,C,h,hC=>by
   unfold vr at h;split at h
   ·next cs off e=>
    split at h
    ·next x ys e1 e2=>cases h;exact PI e e1 (G9 l ys _ e2 hC)
    ·cases h
   ·cases h
theorem Uc{fn:Func}{R:AV}(h:wW P fn.results.toList s=some R):sN P fn 0 (λr h'=>h'=[]/\r.nrm=R) s:=by
 unfold wW at h;split at h
 ·next l e=>
  obtain⟨hb,rfl⟩:=eu h;exact G9 _ l _ e ⟨Nat.zero_le _,hb,by simp,by simp,rfl⟩
 ·cases h
theorem mj{fn:Func}{R:AV}(h:wW P fn.results.toList s=some R):kQ P fn R .ret s:=h
theorem ER{f:FuncId}{fn:Func}{c:Code}{args:apH AV}{R:AV}(hf:P.funcs[f]?=some fn)(hb:fn.body=some c)(hn:(fn.name== "runtime.NumGoroutine")=false)
 (hw:bj P none 0 c (kQ P fn R) {n:=args.length+(fn.ntmps-args.length),t:=mv 0 args,h:=[]}):ic P f args (·=R):=by
 have h:=Gt (P:=P) (f:=f) (args:=args) (h:=[]) (K:=λr h'=>h'=[]/\r.nrm=R) 0 hf hb hn (ao3 _) (hw.mono λe s hq=>by
  cases e with
  |normal=>exact Uc hq
  |ret=>exact Uc hq
  |_=>exact hq.elim)
 refine⟨h.1,λG w vs hi hl hr=>(h.2 G w vs hi hl hr).mono λe w' hp=> ?_⟩;obtain⟨v,G',x,h',rfl,hE,hN,c7,hv,rfl,rfl⟩:=hp;exact⟨v,G',x.nrm,[],rfl,hE,hN,c7,hv.nrm,rfl,rfl⟩
theorem aoF{c:Code}(b i:Nat)(xs:apH (apH D))(hx:((s.h[b]?).bind λB=>match B with| .cells cs=>(cs[i]?).bind AV.fA|_=>none)=some xs)(h:xs.length<=maxLen->bj P r N0 c Q s):bj P r N0 c Q s:=by
 constructor
 intro G w a n hs hN;cases hb:s.h[b]? with
 |none=>rw[hb]at hx;cases hx
 |some B=>
  rw[hb]at hx;cases B with
  |cells cs=>
   simp only[aoR]at hx;obtain⟨_,_,vs,T,_,hl,hr⟩:=hs.inv.cu b _ hb;cases hc:cs[i]? with
   |none=>rw[hc]at hx;cases hx
   |some x=>
    rw[hc]at hx;have aH:i<vs.size:=by rw[hl];exact(aoS.1 hc).1
    obtain⟨A,b',o,c',k',us,_,_,h1,h2,_⟩:=((hr i _ x (ape aH) hc).list hx).pP;exact(h (apa h1 h2)).run G w a n hs hN
  |_=>cases hx
end
theorem aj9{P:apK}{r:apJ Nat}{N0 id:Nat}{ol:apH Oper}{y:Code}{s:St}{Q Q':Exit->St->Prop}(Δ:apH (Nat×AV))(h':apH an)(h:∃ay:apH (Nat×Ob P),oG P false ol (iX ay) (Δ.map (·.1)) s=some (Δ,h',jP ay))(k:bj P r N0 y Q' ⟨s.n,Δ++s.t,h'⟩):bj P r N0 (.region id ol.toArray false) (gp (λs=>bj P r N0 y Q' s) Q) s:=
 let ⟨ay,h⟩:=h;YZ ay Δ h' h k
theorem fJ{α:Type}{c:Bool}{a b:α}(h:c=true):cond c a b=a:=by rw[h];rfl
theorem jI{α:Type}{c:Bool}{a b:α}(h:c=false):cond c a b=b:=by rw[h];rfl
theorem dv{α β:Type}{x:apJ α}{f:α->apJ β}{b:β}(h:Option.bind x f=some b):∃a,x=some a/\f a=some b:=by
 cases x with
 |none=>cases h
 |some a=>exact⟨a,rfl,h⟩
theorem jK(b:Bool):b=true\/b=false:=by cases b<;>simp
theorem dw{b:Bool}(h:b=true):(!b)=false:=by rw[h];rfl
theorem eC{b:Bool}(h:b=false):(!b)=true:=by rw[h];rfl
theorem oa{α:Type}{c:Bool}{x:apJ α}{r:α}(h:(bif c then x else none)=some r):c=true:=by
 cases c with
 |true=>rfl
 |false=>cases h
section
variable {P:apK} {r:apJ Nat} {N0 id n:Nat} {ol:apH Oper} {y:Code} {t:apH (Nat×AV)} {h:apH an} {Q Q':Exit->St->Prop}
theorem rg(ay:apH (Nat×Ob P))(Δ:apH (Nat×AV))(h':apH an)(e:oG P false ol (iX ay) (Δ.map (·.1)) ⟨n,t,h⟩=some (Δ,h',jP ay))(k:bj P r N0 y Q' ⟨n,Δ++t,h'⟩):bj P r N0 (.region id ol.toArray false) (gp (λs=>bj P r N0 y Q' s) Q) ⟨n,t,h⟩:=YZ ay Δ h' e k
theorem rd(hm:P.follows .mixedOrders=true)(hl:vA ol.toArray=true)(ay:apH (Nat×Ob P))(Δ:apH (Nat×AV))(h':apH an)(e:oG P true ol (iX ay) (Δ.map (·.1)) ⟨n,t,h⟩=some (Δ,h',jP ay))(k:bj P r N0 y Q' ⟨n,Δ++t,h'⟩):bj P r N0 (.region id ol.toArray true) (gp (λs=>bj P r N0 y Q' s) Q) ⟨n,t,h⟩:=anf hm hl ay Δ h' e k
theorem re(ay:apH (Nat×Ob P))(Δ:apH (Nat×AV))(h':apH an)(e:EU P false ol (iX ay) ⟨n,t,h⟩=some (Δ++t,h',jP ay))(k:Q .normal ⟨n,Δ++t,h'⟩):bj P r N0 (.region id ol.toArray false) Q ⟨n,t,h⟩:=alh ay Δ h' e k
theorem rgE(Δ:apH (Nat×AV))(h':apH an)(e:∃ay:apH (Nat×Ob P),oG P false ol (iX ay) (Δ.map (·.1)) ⟨n,t,h⟩=some (Δ,h',jP ay))(k:bj P r N0 y Q' ⟨n,Δ++t,h'⟩):bj P r N0 (.region id ol.toArray false) (gp (λs=>bj P r N0 y Q' s) Q) ⟨n,t,h⟩:=aj9 Δ h' e k
end
theorem Wm{P:apK}{ops:Array Oper}{as:apH (Nat×bQ)}{s1:St}:∀(ol:apH Oper)(j:Nat)(s:St)(l:apH (In×bQ))(K:St->Prop),iY P ops false ol j as s=some (s1,l)->gw P l->∀o,(aGuard ops o s1 (nE P o K s1) (K (s1.put o.dst (.d (.v undef)))))->iU P ops (ol++[o]) K s
 |[],_,s,l,K,h,_,o,hK=>by cases h;exact hK
 |q::rest,j,s,l,K,h,bO,o,hK=>by
  unfold iY at h;split at h
  ·next s2 m hg=>
   obtain⟨n,e,h2,h3⟩:=vS h bO;exact D5 (dr:=false) (K:=iU P ops (rest++[o]) K) hg h3 (Wm rest (j+1) s2 n K e h2 o hK)
  ·cases h
def bs(l:apH UInt8):apI:=⟨l.toArray⟩
def u5(x:D):Prop:=∃(S:Nat->Nat->Prop)(w:apM)(u:apL),dd S w u x
theorem Hh{xs:apH (apH D)}(h:u5 (.sl xs)):xs.length<=maxLen:=by
 obtain⟨S,w,u,h⟩:=h;obtain⟨A,b',o,c',k',us,_,_,h1,h2,_⟩:=h.pP;exact apa h1 h2
theorem anX{xs:apH (apH D)}{i j:Nat}{c:apH D}{d:D}(h:u5 (.sl xs))(hc:xs[i]?=some c)(hd:c[j]?=some d):u5 d:=by
 obtain⟨S,w,u,h⟩:=h;obtain⟨A,b',o,c',k',us,_,_,h1,h2,h3,h4,h5⟩:=h.pP;exact⟨S,w,_,h5 i j c d hc hd⟩
section
variable {P:apK} {r:apJ Nat} {n N0:Nat} {s:St} {Q:Exit->St->Prop}
theorem DY{c:Code}(k:Nat)(xs:apH (apH D))(hx:(bp s.t k).fA=some xs)(h:u5 (.sl xs)->bj P r N0 c Q s):bj P r N0 c Q s:=by
 constructor
 intro G w a n hs hN;exact(h ⟨_,_,_,(hs.tmp k).list hx⟩).run G w a n hs hN
theorem akW{c:Code}(b i:Nat)(xs:apH (apH D))(hx:((s.h[b]?).bind λB=>match B with| .cells cs=>(cs[i]?).bind AV.fA|_=>none)=some xs)(h:u5 (.sl xs)->bj P r N0 c Q s):bj P r N0 c Q s:=by
 constructor
 intro G w a n hs hN;cases hb:s.h[b]? with
 |none=>rw[hb]at hx;cases hx
 |some B=>
  rw[hb]at hx;cases B with
  |cells cs=>
   simp only[aoR]at hx;obtain⟨_,_,vs,T,_,hl,hr⟩:=hs.inv.cu b _ hb;cases hc:cs[i]? with
   |none=>rw[hc]at hx;cases hx
   |some x=>
    rw[hc]at hx;have aH:i<vs.size:=by rw[hl];exact(aoS.1 hc).1
    exact(h ⟨_,_,_,(hr i _ x (ape aH) hc).list hx⟩).run G w a n hs hN
  |_=>cases hx
end
end Go.Proofs.YtmkmibahjanejaaGreatDoor
namespace Go.Proofs.YtmkmibahjanejaaGreatDoor
open Go.RowKit
mutual
def AV.fb(b:Nat)(ds:apH D):AV->AV
 | .ptr n off=>bif n==b then .bz [ds] 0 off else .ptr n off
 | .agg cs=> .agg (AV.wH b ds cs)
 | .bA cs=> .bA (AV.wH b ds cs)
 | .fn f cs=> .fn f (AV.wH b ds cs)
 |x=>x
def AV.wH(b:Nat)(ds:apH D):apH AV->apH AV
 |[]=>[]
 |x::l=>x.fb b ds::AV.wH b ds l
end
theorem Cg(b:Nat)(ds:apH D):∀l,AV.wH b ds l=l.map (AV.fb b ds)
 |[]=>by simp [AV.wH]
 |x::l=>by simp [AV.wH,Cg b ds l]
def an.fb(b:Nat)(ds:apH D):an->an
 | .cells cs=> .cells (cs.map (AV.fb b ds))
 | .lp ls p as bd cs=> .lp ls p as bd (cs.map (AV.fb b ds))
 | .it sn cs=> .it sn (cs.map (AV.fb b ds))
 | .aT T cs=> .aT T (cs.map (AV.fb b ds))
 | .vec e k cs=> .vec e k (cs.map (·.map (AV.fb b ds)))
 |B=>B
def Fg(s:St)(b:Nat):apJ St:=
 match s.h[b]? with
 |some (.cells cs)=>match nJ cs with
  |some ds=>some ⟨s.n,s.t.map λp=>(p.1,p.2.fb b ds),(s.h.map (an.fb b ds)).set b .gone⟩
  |none=>none
 |_=>none
theorem Jq(f:AV->AV)(hf:f .dead= .dead):∀(t:apH (Nat×AV))(i:Nat),bp (t.map λp=>(p.1,f p.2)) i=f (bp t i)
 |[],i=>by simp [bp,hf]
 |(k,x)::l,i=>by
  simp only[aph,mX,Jq f hf l i];split<;>rfl
theorem aD.fb{G G':Gh}{w:apM}{b:Nat}{ds:apH D}(hE:bx G.N G w G' w)(hN:G'.N=G.N)(hp:∀off,aD G' w (.pointer (some ⟨G.aI b,off,none⟩)) (.bz [ds] 0 off)){u:apL}{x:AV}(h:aD G w u x):aD G' w u (x.fb b ds):=by
 have aS:∀{u:apL}{x:AV},aD G w u x->aD G' w u x:=λh=>h.aS hE (Nat.le_of_eq hN.symm);have gh:∀(vs:Array apL)(cs:apH AV),(∀(i:Nat)(u:apL)(c:AV),vs[i]?=some u->cs[i]?=some c->aD G' w u (c.fb b ds))->∀(i:Nat)(u:apL)(c:AV),vs[i]?=some u->(AV.wH b ds cs)[i]?=some c->aD G' w u c:=by
  intro vs cs ih i u c hu hc;rw[Cg,aoZ]at hc;cases hx:cs[i]? with
  |none=>rw[hx]at hc;cases hc
  |some x=>rw[hx]at hc;cases hc;exact ih i u x hu hx
 induction h with
 |agg vs cs hl _ ih=>rw[AV.fb];exact .agg vs _ (by rw[Cg,aoX];exact hl) (gh vs cs ih)
 |bA vs cs hl _ ih=>rw[AV.fb];exact .bA vs _ (by rw[Cg,aoX];exact hl) (gh vs cs ih)
 |fn f vs cs hl _ ih=>rw[AV.fb];exact .fn f vs _ (by rw[Cg,aoX];exact hl) (gh vs cs ih)
 |ptr n off h=>
  rw[AV.fb,cond_eq_ite];split
  ·next e=>rw[beq_iff_eq]at e;subst e;exact hp off
  ·exact aS (.ptr n off h)
 |own n xs h hp hle hf=>simp only[AV.fb];exact aS (.own n xs h hp hle hf)
 |d h=>simp only[AV.fb];exact aS (.d h)
 |bz xs i off b o u x hx hS hu=>simp only[AV.fb];exact aS (.bz xs i off b o u x hx hS hu)
 |full xs hp hf=>simp only[AV.fb];exact aS (.full xs hp hf)
 |row n off len cap k h hl hm=>simp only[AV.fb];exact aS (.row n off len cap k h hl hm)
 |mp n h=>simp only[AV.fb];exact aS (.mp n h)
 |cO n h=>simp only[AV.fb];exact aS (.cO n h)
 |vec n o len L k h hs hL hf=>simp only[AV.fb];exact aS (.vec n o len L k h hs hL hf)
 |di n i j L k h hs hL hf=>simp only[AV.fb];exact aS (.di n i j L k h hs hL hf)
 |hid h h1=>simp only[AV.fb];exact aS (.hid h h1)
 |dead u=>simp only[AV.fb];exact .dead u
theorem acn:∀(cs:apH AV)(ds:apH D),nJ cs=some ds->cs.length=ds.length/\∀(i:Nat)(c:AV)(d:D),cs[i]?=some c->ds[i]?=some d->c.xw=some d
 |[],ds,h=>by unfold nJ at h;cases h;exact⟨rfl,λi c d hc=>by simp at hc⟩
 |x::cs,ds,h=>by
  unfold nJ at h;split at h
  ·next d l e1 e2=>
   cases h
   obtain⟨h1,h2⟩:=acn cs l e2;refine⟨by simp [h1],λi c d' hc hd=> ?_⟩
   match i with
   |0=>simp only[List.getElem?_cons_zero,Option.some.injEq]at hc hd;subst hc;subst hd;exact e1
   |i+1=>exact h2 i c d' (by simpa using hc) (by simpa using hd)
  ·cases h
theorem aD.afj{G:Gh}{w:apM}{u:apL}{x:AV}{d:D}(h:aD G w u x)(hd:x.xw=some d):dd G.S w u d:=by
 cases h with
 |d h=>cases hd;exact h.Bk
 |own n xs h hp=>cases hd;exact hp
 |full xs hp=>cases hd;exact hp
 |_=>cases hd
theorem cA.Fg{G:Gh}{w:apM}{a:Act}{s s':St}{b:Nat}(hs:cA G w a s)(h:Fg s b=some s'):∃G',bx G.N G w G' w/\G'.N=G.N/\cA G' w a s':=by
 unfold Go.Proofs.YtmkmibahjanejaaGreatDoor.Fg at h;split at h
 ·next cs hb=>
  split at h
  ·next ds sF=>
   cases h
   obtain⟨z1,z2,vs,T,z3,z4,z5⟩:=hs.inv.cu b _ hb;obtain⟨d1,d2⟩:=acn cs ds sF;have kC:bB s.h G b=some (G.aI b):=cZ hb;obtain⟨S,hS⟩:∃S:Nat->Nat->Prop,S=λb' o=>G.S b' o\/(b'=G.aI b/\o<ds.length):=⟨_,rfl⟩;have hE:bx G.N G w {G with S:=S} w:=⟨ao3 _,λb o h=>by show S b o;rw[hS];exact .inl h,λ_ _ _=>rfl,λ_ _=>rfl,λ_ _=> .inl ⟨rfl,rfl⟩,fY rfl,λ_ _=>rfl,rfl,rfl,rfl,λb' o hs=>by
    have b8:S b' o:=hs;rw[hS]at b8;rcases b8 with h|⟨rfl,_⟩
    ·exact .inl h
    ·exact .inr z1⟩
   have hp:∀off,aD {G with S:=S} w (.pointer (some ⟨G.aI b,off,none⟩)) (.bz [ds] 0 off):=λoff=>by
    have:=aD.bz (G:={G with S:=S}) (w:=w) [ds] 0 off (G.aI b) 0 (λj=>vs.getD j undef) ds rfl (λj hj=> ?_) (λj d hd=> ?_)
    ·rwa [apc]at this
    ·have iC:j<vs.size:=by rw[z4,d1];exact hj
     refine⟨by show S _ _;rw[hS];exact .inr ⟨rfl,by rw[apc];exact hj⟩,?_⟩;rw[apc,cell_of_row w (G.aI b) j vs T (0,0) z3];simp [Array.getD,iC]
    ·have hj:j<ds.length:=(aoS.1 hd).1;have iC:j<vs.size:=by rw[z4,d1];exact hj
     have hc:cs[j]?=some cs[j]:=aoW (by rw[d1];exact hj);have hv:=z5 j vs[j] _ (ape iC) hc;have e:vs.getD j undef=vs[j]:=by simp [Array.getD,iC]
     rw[e];exact(hv.afj (d2 j _ d hc hd)).aS hE.S hE.cell
   have hv:∀{u:apL}{x:AV},aD G w u x->aD {G with S:=S} w u (x.fb b ds):=λh=>h.fb hE rfl hp;have anN:=(aoS.1 hb).1;have ej:∀(n:Nat)(B:an),((s.h.map (an.fb b ds)).set b .gone)[n]?=some B->(n=b/\B= .gone)\/(n≠b/\∃B',s.h[n]?=some B'/\B=B'.fb b ds):=λn B hB=>by
    by_cases e:b=n
    ·subst e;rw[apl (by rw[aoX];exact anN)]at hB;cases hB;exact .inl ⟨rfl,rfl⟩
    ·rw[apr e,aoZ]at hB;cases hx:s.h[n]? with
     |none=>rw[hx]at hB;cases hB
     |some B'=>rw[hx]at hB;cases hB;exact .inr ⟨λh=>e h.symm,B',rfl,rfl⟩
   have dQ:∀n x,bB ((s.h.map (an.fb b ds)).set b .gone) {G with S:=S} n=some x->n≠b/\bB s.h G n=some x:=λn x hx=>by
    obtain⟨B,hn,hx⟩:=nL hx;rcases ej n _ hn with⟨_,e⟩|⟨cp,B',h1,rfl⟩
    ·subst e;cases hx
    ·refine⟨cp,?_⟩;rw[cZ h1,<-hx];cases B'<;>rfl
   refine⟨{G with S:=S},hE,rfl,hs.size,λi=> ?_,⟨by rw[List.length_set,aoX];exact hs.inv.len,hs.inv.z,λb' o h=> ?_,λn B hB=> ?_,λm n x h1 h2=>hs.inv.inj m n x (dQ m x h1).2 (dQ n x h2).2,hs.inv.gl.aS hE⟩,hs.df⟩
   ·show aD _ _ _ (bp (s.t.map λp=>(p.1,p.2.fb b ds)) i);rw[Jq (AV.fb b ds) (by simp [AV.fb])];exact hv (hs.tmp i)
   ·have b8:S b' o:=h;rw[hS]at b8;rcases b8 with h|⟨rfl,_⟩
    ·exact hs.inv.S b' o h
    ·exact(ao7.1 z3).1
   ·rcases ej n B hB with⟨rfl,rfl⟩|⟨cp,B',h1,rfl⟩
    ·trivial
    ·have dD:=hs.inv.cu n B' h1;cases B' with
     |gone=>trivial
     |map kv=>exact dB.aS (G':={G with S:=S}) (hs.inv.lt h1) hE (ao3 _) ⟨rfl,rfl,rfl⟩ (λc hc=>⟨rfl,λo jq hq=>by
      have b8:S c o:=hq;rw[hS]at b8;rcases b8 with h|⟨e,_⟩
      ·exact jq h
      ·exact cp (hs.inv.inj n b _ ((cZ h1).trans hc) (by rw[e];exact kC))⟩) dD
     |fR kv=>exact dB.aS (G':={G with S:=S}) (hs.inv.lt h1) hE (ao3 _) ⟨rfl,rfl,rfl⟩ (λc hc=>⟨rfl,λo jq hq=>by
      have b8:S c o:=hq;rw[hS]at b8;rcases b8 with h|⟨e,_⟩
      ·exact jq h
      ·exact cp (hs.inv.inj n b _ ((cZ h1).trans hc) (by rw[e];exact kC))⟩) dD
     |front e k len=>exact dB.aS (G':={G with S:=S}) (hs.inv.lt h1) hE (ao3 _) ⟨rfl,rfl,rfl⟩ (λc hc=>⟨rfl,λo jq hq=>by
      have b8:S c o:=hq;rw[hS]at b8;rcases b8 with h|⟨e,_⟩
      ·exact jq h
      ·exact cp (hs.inv.inj n b _ ((cZ h1).trans hc) (by rw[e];exact kC))⟩) dD
     |bg e b2=>exact dB.aS (G':={G with S:=S}) (hs.inv.lt h1) hE (ao3 _) ⟨rfl,rfl,rfl⟩ (λc hc=>⟨rfl,λo jq hq=>by
      have b8:S c o:=hq;rw[hS]at b8;rcases b8 with h|⟨e,_⟩
      ·exact jq h
      ·exact cp (hs.inv.inj n b _ ((cZ h1).trans hc) (by rw[e];exact kC))⟩) dD
     |cells bJ=>
      obtain⟨c1,c2,dZ,T',c3,c4,c5⟩:=dD;have kM:bB s.h G n=some (G.aI n):=cZ h1;refine⟨c1,λo hq=> ?_,dZ,T',c3,by rw[aoX];exact c4,λi u c hu hc=> ?_⟩
      ·have b8:S (G.aI n) o:=hq;rw[hS]at b8;rcases b8 with h|⟨e,_⟩
       ·exact c2 o h
       ·exact cp (hs.inv.inj n b _ kM (by rw[e];exact kC))
      ·rw[aoZ]at hc;cases hx:bJ[i]? with
       |none=>rw[hx]at hc;cases hc
       |some x=>rw[hx]at hc;cases hc;exact hv (c5 i u x hu hx)
     |lp ls p as bd bJ=>
      obtain⟨c1,c2,fn,dZ,T',c3,c4,c5⟩:=dD;have kM:bB s.h G n=some (G.aI n):=cZ h1;refine⟨c1,λo hq=> ?_,fn,dZ,T',c3,by rw[aoX];exact c4,λi u c hu hc=> ?_⟩
      ·have b8:S (G.aI n) o:=hq;rw[hS]at b8;rcases b8 with h|⟨e,_⟩
       ·exact c2 o h
       ·exact cp (hs.inv.inj n b _ kM (by rw[e];exact kC))
      ·rw[aoZ]at hc;cases hx:bJ[i]? with
       |none=>rw[hx]at hc;cases hc
       |some x=>rw[hx]at hc;cases hc;exact hv (c5 i u x hu hx)
     |it sn bJ=>
      obtain⟨c1,c2,fn,dZ,T',c3,c4,c5⟩:=dD;have kM:bB s.h G n=some (G.aI n):=cZ h1;refine⟨c1,λo hq=> ?_,fn,dZ,T',c3,by rw[aoX];exact c4,λi u c hu hc=> ?_⟩
      ·have b8:S (G.aI n) o:=hq;rw[hS]at b8;rcases b8 with h|⟨e,_⟩
       ·exact c2 o h
       ·exact cp (hs.inv.inj n b _ kM (by rw[e];exact kC))
      ·rw[aoZ]at hc;cases hx:bJ[i]? with
       |none=>rw[hx]at hc;cases hc
       |some x=>rw[hx]at hc;cases hc;exact hv (c5 i u x hu hx)
     |aT T0 bJ=>
      obtain⟨c1,c2,fn,dZ,T',c3,c4,c5⟩:=dD;have kM:bB s.h G n=some (G.aI n):=cZ h1;refine⟨c1,λo hq=> ?_,fn,dZ,T',c3,by rw[aoX];exact c4,λi u c hu hc=> ?_⟩
      ·have b8:S (G.aI n) o:=hq;rw[hS]at b8;rcases b8 with h|⟨e,_⟩
       ·exact c2 o h
       ·exact cp (hs.inv.inj n b _ kM (by rw[e];exact kC))
      ·rw[aoZ]at hc;cases hx:bJ[i]? with
       |none=>rw[hx]at hc;cases hc
       |some x=>rw[hx]at hc;cases hc;exact hv (c5 i u x hu hx)
     |vec e k bJ=>
      obtain⟨c1,c2,c3,c4⟩:=dD;refine⟨by rw[aoX];exact c1,by rw[aoX];exact c2,λc hc=> ?_,?_⟩
      ·obtain⟨x,hx,rfl⟩:=List.mem_map.1 hc;rw[aoX];exact c3 x hx
      ·rcases c4 with⟨d1,d2,A,d3⟩|⟨g,cap,cur,d1,d2,d3,d4,d5,d6,d7,d8,d9⟩
       ·exact .inl ⟨d1,by rw[d2];rfl,A,d3⟩
       ·have kM:bB s.h G n=some g:=(cZ h1).trans d1;refine .inr ⟨g,cap,cur,d1,by rw[aoX];exact d2,d3,d4,by rw[aoX];exact d5,d6,d7,λo hq=> ?_,λi j c x u hc hx hu=> ?_⟩
        ·have b8:S g o:=hq;rw[hS]at b8;rcases b8 with h|⟨e,_⟩
         ·exact d8 o h
         ·exact cp (hs.inv.inj n b _ kM (by rw[e];exact kC))
        ·rw[aoZ]at hc;cases hy:bJ[i]? with
         |none=>rw[hy]at hc;cases hc
         |some y=>
          rw[hy]at hc;cases hc
          rw[aoZ]at hx;cases hw:y[j]? with
          |none=>rw[hw]at hx;cases hx
          |some z=>rw[hw]at hx;cases hx;exact hv (d9 i j y z u hy hw hu)
  ·cases h
 ·cases h
def D.Bl:D->Bool
 | .v u=>u.oneCell'
 | .sl _=>true
mutual
def AV.kill(b:Nat):AV->AV
 | .vec n o len L k=>bif n==b then .dead else .vec n o len L k
 | .di n i j L k=>bif n==b then .dead else .di n i j L k
 | .agg cs=> .agg (AV.HB b cs)
 | .bA cs=> .bA (AV.HB b cs)
 | .fn f cs=> .fn f (AV.HB b cs)
 |x=>x
def AV.HB(b:Nat):apH AV->apH AV
 |[]=>[]
 |x::l=>x.kill b::AV.HB b l
end
def an.p5(f:AV->AV):an->an
 | .cells cs=> .cells (cs.map f)
 | .lp ls p as bd cs=> .lp ls p as bd (cs.map f)
 | .it sn cs=> .it sn (cs.map f)
 | .aT T cs=> .aT T (cs.map f)
 | .vec e k cs=> .vec e k (cs.map (·.map f))
 |B=>B
theorem ah0{G:Gh}{w:apM}{h:apH an}(hi:Inv G w h){b:Nat}{S:Nat->Nat->Prop}{f:AV->AV}(hE:bx G.N G w {G with S:=S} w)(hS:∀c o,S c o->G.S c o\/bB h G b=some c)(hv:∀{u:apL}{x:AV},aD G w u x->aD {G with S:=S} w u (f x)):
 Inv {G with S:=S} w ((h.map (an.p5 f)).set b .gone):=by
 have ej:∀(n:Nat)(B:an),((h.map (an.p5 f)).set b .gone)[n]?=some B->(n=b/\B= .gone)\/(n≠b/\∃B',h[n]?=some B'/\B=B'.p5 f):=λn B hB=>by
  by_cases e:b=n
  ·subst e;have aH:=(aoS.1 hB).1;rw[List.length_set]at aH;rw[apl aH]at hB;cases hB;exact .inl ⟨rfl,rfl⟩
  ·rw[apr e,aoZ]at hB;cases hx:h[n]? with
   |none=>rw[hx]at hB;cases hB
   |some B'=>rw[hx]at hB;cases hB;exact .inr ⟨λh=>e h.symm,B',rfl,rfl⟩
 have dQ:∀n x,bB ((h.map (an.p5 f)).set b .gone) {G with S:=S} n=some x->n≠b/\bB h G n=some x:=λn x hx=>by
  obtain⟨B,hn,hx⟩:=nL hx;rcases ej n _ hn with⟨_,e⟩|⟨cp,B',h1,rfl⟩
  ·subst e;cases hx
  ·refine⟨cp,?_⟩;rw[cZ h1,<-hx];cases B'<;>rfl
 refine⟨by rw[List.length_set,aoX];exact hi.len,hi.z,λc o hs=> ?_,λn B hB=> ?_,λm n x h1 h2=>hi.inj m n x (dQ m x h1).2 (dQ n x h2).2,hi.gl.aS hE⟩
 ·rcases hS c o hs with h1|h1
  ·exact hi.S c o h1
  ·exact hi.gx h1
 ·rcases ej n B hB with⟨rfl,rfl⟩|⟨cp,B',h1,rfl⟩
  ·trivial
  ·have dD:=hi.cu n B' h1;have e7:∀c,B'.dC G n=some c->∀o,¬G.S c o->¬S c o:=λc hc o jq hq=>by
    rcases hS c o hq with h2|h2
    ·exact jq h2
    ·exact cp (hi.inj n b c ((cZ h1).trans hc) h2)
   cases B' with
   |gone=>trivial
   |map kv=>exact dB.aS (G':={G with S:=S}) (hi.lt h1) hE (ao3 _) ⟨rfl,rfl,rfl⟩ (λc hc=>⟨rfl,e7 c hc⟩) dD
   |fR kv=>exact dB.aS (G':={G with S:=S}) (hi.lt h1) hE (ao3 _) ⟨rfl,rfl,rfl⟩ (λc hc=>⟨rfl,e7 c hc⟩) dD
   |front e k len=>exact dB.aS (G':={G with S:=S}) (hi.lt h1) hE (ao3 _) ⟨rfl,rfl,rfl⟩ (λc hc=>⟨rfl,e7 c hc⟩) dD
   |bg e b2=>exact dB.aS (G':={G with S:=S}) (hi.lt h1) hE (ao3 _) ⟨rfl,rfl,rfl⟩ (λc hc=>⟨rfl,e7 c hc⟩) dD
   |cells bJ=>
    obtain⟨c1,c2,dZ,T',c3,c4,c5⟩:=dD;refine⟨c1,λo=>e7 _ rfl o (c2 o),dZ,T',c3,by rw[aoX];exact c4,λi u c hu hc=> ?_⟩;rw[aoZ]at hc;cases hx:bJ[i]? with
    |none=>rw[hx]at hc;cases hc
    |some x=>rw[hx]at hc;cases hc;exact hv (c5 i u x hu hx)
   |lp ls p as bd bJ=>
    obtain⟨c1,c2,fn,dZ,T',c3,c4,c5⟩:=dD;refine⟨c1,λo=>e7 _ rfl o (c2 o),fn,dZ,T',c3,by rw[aoX];exact c4,λi u c hu hc=> ?_⟩;rw[aoZ]at hc;cases hx:bJ[i]? with
    |none=>rw[hx]at hc;cases hc
    |some x=>rw[hx]at hc;cases hc;exact hv (c5 i u x hu hx)
   |it sn bJ=>
    obtain⟨c1,c2,fn,dZ,T',c3,c4,c5⟩:=dD;refine⟨c1,λo=>e7 _ rfl o (c2 o),fn,dZ,T',c3,by rw[aoX];exact c4,λi u c hu hc=> ?_⟩;rw[aoZ]at hc;cases hx:bJ[i]? with
    |none=>rw[hx]at hc;cases hc
    |some x=>rw[hx]at hc;cases hc;exact hv (c5 i u x hu hx)
   |aT T0 bJ=>
    obtain⟨c1,c2,fn,dZ,T',c3,c4,c5⟩:=dD;refine⟨c1,λo=>e7 _ rfl o (c2 o),fn,dZ,T',c3,by rw[aoX];exact c4,λi u c hu hc=> ?_⟩;rw[aoZ]at hc;cases hx:bJ[i]? with
    |none=>rw[hx]at hc;cases hc
    |some x=>rw[hx]at hc;cases hc;exact hv (c5 i u x hu hx)
   |vec e k bJ=>
    obtain⟨c1,c2,c3,c4⟩:=dD;refine⟨by rw[aoX];exact c1,by rw[aoX];exact c2,λc hc=> ?_,?_⟩
    ·obtain⟨x,hx,rfl⟩:=List.mem_map.1 hc;rw[aoX];exact c3 x hx
    ·rcases c4 with⟨d1,d2,A,d3⟩|⟨g,cap,cur,d1,d2,d3,d4,d5,d6,d7,d8,d9⟩
     ·exact .inl ⟨d1,by rw[d2];rfl,A,d3⟩
     ·refine .inr ⟨g,cap,cur,d1,by rw[aoX];exact d2,d3,d4,by rw[aoX];exact d5,d6,d7,λo=>e7 g d1 o (d8 o),λi j c x u hc hx hu=> ?_⟩;rw[aoZ]at hc;cases hy:bJ[i]? with
      |none=>rw[hy]at hc;cases hc
      |some y=>
       rw[hy]at hc;cases hc
       rw[aoZ]at hx;cases hw:y[j]? with
       |none=>rw[hw]at hx;cases hx
       |some z=>rw[hw]at hx;cases hx;exact hv (d9 i j y z u hy hw hu)
mutual
def AV.dF(b kk:Nat)(xs:apH (apH D)):AV->AV
 | .vec n o len L k=>bif n==b then(bif L==xs.length&&k==kk then .d (.sl ((xs.drop o).take len))else .dead)else .vec n o len L k
 | .di n i j L k=>bif n==b then .dead else .di n i j L k
 | .agg cs=> .agg (AV.qo b kk xs cs)
 | .bA cs=> .bA (AV.qo b kk xs cs)
 | .fn f cs=> .fn f (AV.qo b kk xs cs)
 |x=>x
def AV.qo(b kk:Nat)(xs:apH (apH D)):apH AV->apH AV
 |[]=>[]
 |x::l=>x.dF b kk xs::AV.qo b kk xs l
end
theorem xo(b kk:Nat)(xs:apH (apH D)):∀l,AV.qo b kk xs l=l.map (AV.dF b kk xs)
 |[]=>by simp [AV.qo]
 |x::l=>by simp [AV.qo,xo b kk xs l]
theorem aD.dF{G G':Gh}{w:apM}{b kk:Nat}{xs:apH (apH D)}(hE:bx G.N G w G' w)(hN:G'.N=G.N)(hp:∀(u:apL)(o len:Nat),aD G w u (.vec b o len xs.length kk)->dd G'.S w u (.sl ((xs.drop o).take len))){u:apL}{x:AV}(h:aD G w u x):aD G' w u (x.dF b kk xs):=by
 have aS:∀{u:apL}{x:AV},aD G w u x->aD G' w u x:=λh=>h.aS hE (Nat.le_of_eq hN.symm);have gh:∀(vs:Array apL)(cs:apH AV),(∀(i:Nat)(u:apL)(c:AV),vs[i]?=some u->cs[i]?=some c->aD G' w u (c.dF b kk xs))->∀(i:Nat)(u:apL)(c:AV),vs[i]?=some u->(AV.qo b kk xs cs)[i]?=some c->aD G' w u c:=by
  intro vs cs ih i u c hu hc;rw[xo,aoZ]at hc;cases hx:cs[i]? with
  |none=>rw[hx]at hc;cases hc
  |some x=>rw[hx]at hc;cases hc;exact ih i u x hu hx
 induction h with
 |agg vs cs hl _ ih=>rw[AV.dF];exact .agg vs _ (by rw[xo,aoX];exact hl) (gh vs cs ih)
 |bA vs cs hl _ ih=>rw[AV.dF];exact .bA vs _ (by rw[xo,aoX];exact hl) (gh vs cs ih)
 |fn f vs cs hl _ ih=>rw[AV.dF];exact .fn f vs _ (by rw[xo,aoX];exact hl) (gh vs cs ih)
 |vec n o len L k h hs hL hf=>
  rw[AV.dF,cond_eq_ite];split
  ·next e=>
   have e:n=b:=by simpa using e
   subst e;rw[cond_eq_ite];split
   ·next e2=>
    rw[aoU,beq_iff_eq,beq_iff_eq]at e2;obtain⟨rfl,rfl⟩:=e2;exact .d (hp _ o len (.vec n o len _ _ h hs hL hf))
   ·exact .dead _
  ·exact aS (.vec n o len L k h hs hL hf)
 |di n i j L k h hs hL hf=>
  rw[AV.dF,cond_eq_ite];split
  ·exact .dead _
  ·exact aS (.di n i j L k h hs hL hf)
 |ptr n off h=>simp only[AV.dF];exact aS (.ptr n off h)
 |own n xs h hp hle hf=>simp only[AV.dF];exact aS (.own n xs h hp hle hf)
 |d h=>simp only[AV.dF];exact aS (.d h)
 |bz xs i off b o u x hx hS hu=>simp only[AV.dF];exact aS (.bz xs i off b o u x hx hS hu)
 |full xs hp hf=>simp only[AV.dF];exact aS (.full xs hp hf)
 |row n off len cap k h hl hm=>simp only[AV.dF];exact aS (.row n off len cap k h hl hm)
 |mp n h=>simp only[AV.dF];exact aS (.mp n h)
 |cO n h=>simp only[AV.dF];exact aS (.cO n h)
 |hid h h1=>simp only[AV.dF];exact aS (.hid h h1)
 |dead u=>simp only[AV.dF];exact .dead u
theorem cA.Y5{G:Gh}{w:apM}{a:Act}{s:St}(hs:cA G w a s)(xs:apH (apH D)){b e k:Nat}(hb:s.h[b]?=some (.vec e k (cD xs)))(jh:∀c∈xs,c.all D.Bl=true)
 :∃G',bx G.N G w G' w/\G'.N=G.N/\cA G' w a ⟨s.n,s.t.map λp=>(p.1,p.2.dF b k xs),(s.h.map (an.p5 (AV.dF b k xs))).set b .gone⟩:=by
 obtain⟨L,hL⟩:∃L,xs.length=L:=⟨_,rfl⟩;have oH:(cD xs).length=L:=by unfold cD;rw[aoX];exact hL
 have iZ:=FP hs.inv hb;have nV:∀d∈xs,d.length=k:=λd hd=>by
  have:=iZ (d.map .d) (by unfold cD;exact List.mem_map.2 ⟨d,hd,rfl⟩)
  rwa [aoX]at this
 obtain⟨S,hS⟩:∃S:Nat->Nat->Prop,S=λc o=>G.S c o\/(bB s.h G b=some c/\o<L*k):=⟨_,rfl⟩;have hE:bx G.N G w {G with S:=S} w:=⟨ao3 _,λb o h=>by show S b o;rw[hS];exact .inl h,λ_ _ _=>rfl,λ_ _=>rfl,λ_ _=> .inl ⟨rfl,rfl⟩,fY rfl,λ_ _=>rfl,rfl,rfl,rfl,λc o hq=>by
  have b8:S c o:=hq;rw[hS]at b8;rcases b8 with h|⟨h,_⟩
  ·exact .inl h
  ·obtain⟨B,hB,fj⟩:=nL h;exact .inr ((hs.inv.cu b B hB).lB fj)⟩
 have hpd:∀(u:apL)(o len:Nat),aD G w u (.vec b o len xs.length k)->dd S w u (.sl ((xs.drop o).take len)):=λu o len wv=>by
  rw[hL]at wv;have lW:=wv.pe hs.inv hb oH;obtain⟨Ae,⟨A,cc,q1,q2,q3,q4,q5⟩,_⟩:=lW;generalize hy:(xs.drop o).take len=ys;have yA:ys.length=len:=by rw[<-hy,List.length_take,List.length_drop];omega
  rw[q1,<-yA];show dd S w _ _;by_cases hh0:True
  ·skip
   by_cases h0:len=0
   ·have:ys=[]:=List.eq_nil_of_length_eq_zero (by omega);subst this;exact .sl A 0 0 cc 0 [] (λ_ _=>undef) (λh=>absurd rfl h) (Nat.zero_le _) q3 (λ_ h=>absurd h apz) (λi j hi=>absurd hi (apk _)) (λi j x d hx=>by simp at hx)
   ·obtain⟨g,cap,s1,rfl,s3⟩:=q5 (by omega);obtain⟨g',zk,cur,r1,r2,r3,r4,r5,r6,r7,r8,r9⟩:=zj hs.inv hb (λe=>by rw[e]at oH;simp at oH;omega);rw[r2]at s1;cases s1
    have kC:bB s.h G b=some g:=(cZ hb).trans r1;have kV:∀i,i<len->ys[i]?=xs[o+i]?:=λi c7=>by rw[<-hy,List.getElem?_take_of_lt c7,List.getElem?_drop]
    have gz:∀i j,i<len->j<k->o*k+i*k+j<cur.size:=λi j hi hj=>by
     have:=nu (i:=o+i) (k:=k) (L:=(cD xs).length) (j:=j) (by omega) hj;rw[Nat.add_mul]at this;have h2:(cD xs).length*k<=cap*k:=Nat.mul_le_mul_right k (by omega);rw[r7];omega
    have lI:∀(i j:Nat)(x:apH D)(d:D),i<len->ys[i]?=some x->x[j]?=some d->aD G w (cur.getD (o*k+i*k+j) undef) (.d d):=λi j x d hi hx hd=>by
     rw[kV i hi]at hx;have hj:j<k:=by rw[<-nV x (ao5 hx)];exact(aoS.1 hd).1
     refine r9 (o+i) j (x.map .d) (.d d) _ (by unfold cD;rw[aoZ,hx];rfl) (by rw[aoZ,hd];rfl) ?_;have hc:=gz i j hi hj;rw[show(o+i)*k+j=o*k+i*k+j by rw[Nat.add_mul]];simp [Array.getD,hc]
    refine .sl _ g (o*k) cc k ys (λi j=>cur.getD (o*k+i*k+j) undef) (λ_=>rfl) (by omega) q3 (λx hx=> ?_) (λi j hi hj=>⟨?_,?_,?_⟩) (λi j x d hx hd=> ?_)
    ·rw[<-hy]at hx;exact nV x (List.mem_of_mem_drop (List.mem_of_mem_take hx))
    ·rw[hS];refine .inr ⟨kC,?_⟩;have:=nu (i:=o+i) (k:=k) (L:=(cD xs).length) (j:=j) (by omega) hj;rw[Nat.add_mul]at this;exact this
    ·rw[cell_of_row w g _ cur e (0,0) r4];have hc:=gz i j (by omega) hj;simp [Array.getD,hc]
    ·have c7:i<len:=by omega
     obtain⟨x,hx⟩:∃x,ys[i]?=some x:=⟨_,aoW hi⟩;have qG:=hx;rw[kV i c7]at qG;have gZ:=ao5 qG;obtain⟨d,hd⟩:∃d,x[j]?=some d:=⟨_,aoW (by rw[nV x gZ];exact hj)⟩;refine(lI i j x d c7 hx hd).kG ?_;have h1:=jh x gZ;rw[api]at h1;have h2:=h1 d (ao5 hd);cases d with
     |v u=>exact h2
     |sl l=>rfl
    ·have c7:i<len:=by rw[<-yA];exact(aoS.1 hx).1
     have:=lI i j x d c7 hx hd;generalize cur.getD (o*k+i*k+j) undef=q at this;cases this with|d h=>exact h.aS hE.S hE.cell
  ·exact(hh0 trivial).elim
 have hinv:=ah0 (b:=b) (f:=AV.dF b k xs) hs.inv hE (λc o hq=>by rw[hS]at hq;exact hq.imp id And.left) (λhq=>hq.dF hE rfl hpd);have b8:cA {G with S:=S} w a ⟨s.n,s.t.map λp=>(p.1,p.2.dF b k xs),(s.h.map (an.p5 (AV.dF b k xs))).set b .gone⟩:=by
  refine⟨hs.size,λi=> ?_,hinv,hs.df⟩;show aD _ _ _ (bp (s.t.map λp=>(p.1,p.2.dF b k xs)) i);rw[Jq (AV.dF b k xs) (by simp [AV.dF])];exact(hs.tmp i).dF hE rfl hpd
 exact⟨_,hE,rfl,b8⟩
def vT(P:apK)(rs:apH ResultVar)(m:Nat)(s:St):apJ (AV×apH an):=
 match vr P s rs with
 |some l=>bif b7 m s.h.length&&((kK l).bn m).aP m&&(((s.h.take m).map (an.bn m)).all (an.aP m))then some (((kK l).bn m).nrm,((s.h.take m).map (an.bn m)).map an.qf)else none
 |none=>none
def tW(P:apK)(fn:Func)(m:Nat)(R:AV)(H:apH an):Exit->St->Prop
 | .normal,s=>vT P fn.results.toList m s=some (R,H)
 | .ret,s=>vT P fn.results.toList m s=some (R,H)
 |_,_=>False
theorem aaQ{P:apK}{s:St}{fn:Func}{m:Nat}{R:AV}{H:apH an}(h:vT P fn.results.toList m s=some (R,H)):sN P fn m (λr h'=>r.nrm=R/\h'.map an.qf=H) s:=by
 unfold vT at h;split at h
 ·next l e=>
  obtain⟨hb,he⟩:=eu h;cases he
  simp only[aoU,dI]at hb;exact G9 _ _ _ e ⟨hb.1.1,hb.1.2,hb.2,rfl,rfl⟩
 ·cases h
theorem Cj{P:apK}{s:St}{fn:Func}{m:Nat}{R:AV}{H:apH an}(h:vT P fn.results.toList m s=some (R,H)):tW P fn m R H .ret s:=h
theorem rM{P:apK}{s:St}{fn:Func}{m:Nat}{R:AV}{H:apH an}(h:vT P fn.results.toList m s=some (R,H)):tW P fn m R H .normal s:=h
theorem BJ{P:apK}{f:FuncId}{fn:Func}{c:Code}{args:apH AV}{h H:apH an}{R:AV}(m:Nat)(hf:P.funcs[f]?=some fn)(hb:fn.body=some c)(hn:(fn.name== "runtime.NumGoroutine")=false)(hm:h.length<=m)
 (hw:bj P none h.length c (tW P fn m R H) {n:=args.length+(fn.ntmps-args.length),t:=mv 0 args,h:=h}):cx P f args h λr1 h1=>r1=R/\h1=H:=by
 have h0:=Gt (P:=P) (f:=f) (args:=args) (h:=h) (K:=λr h'=>r.nrm=R/\h'.map an.qf=H) m hf hb hn hm (hw.mono λe s hq=>by
  cases e with
  |normal=>exact aaQ hq
  |ret=>exact aaQ hq
  |_=>exact hq.elim)
 refine⟨h0.1,λG w vs hi hl hr=>(h0.2 G w vs hi hl hr).mono λe w' hp=> ?_⟩;obtain⟨v,G',x,h',rfl,hE,hN,c7,hv,rfl,rfl⟩:=hp;exact⟨v,G',x.nrm,_,rfl,hE,hN,Sf c7,hv.nrm,rfl,rfl⟩
theorem zf{P:apK}{r:apJ Nat}{N0:Nat}{c:Code}{s s':St}{Q:Exit->St->Prop}(e:s=s')(h:bj P r N0 c Q s'):bj P r N0 c Q s:=e▸h
def eQ{V:Type}:apH (apI×V)->apI->V->V
 |[],_,d=>d
 |(k,v)::l,s,d=>bif bL k==bL s then v else eQ l s d
def pa{V:Type}:apH (apI×V)->apI->Bool
 |[],_=>false
 |(k,_)::l,s=>bif bL k==bL s then true else pa l s
def eR(l:apH (apI×Int)):apH (apI×D):=l.map λp=>(p.1, .v (.int .i64 p.2))
def AF(l:apH (apI×Bool)):apH (apI×D):=l.map λp=>(p.1, .v (.bool p.2))
def bD(l:apH (apI×apI)):apH (apI×D):=l.map λp=>(p.1, .v (.string p.2))
theorem Uu{V:Type}(f:V->D):∀(l:apH (apI×V))(s:apI)(d:V),eF (l.map λp=>(p.1,f p.2)) s=bif pa l s then some (f (eQ l s d))else none
 |[],s,d=>rfl
 |(k,v)::l,s,d=>by
  simp only[aph,eF,pa,eQ];cases bL k==bL s with
  |true=>rfl
  |false=>simp only[cond_false];exact Uu f l s d
theorem Zi{V:Type}:∀(l:apH (apI×V))(s:apI)(d:V),pa l s=false->eQ l s d=d
 |[],s,d,_=>rfl
 |(k,v)::l,s,d,h=>by
  unfold pa at h;unfold eQ;cases e:bL k==bL s with
  |true=>rw[e]at h;cases h
  |false=>rw[e]at h;simp only[cond_false];exact Zi l s d h
theorem Nv{V:Type}(f:V->D)(z:apL)(d0:V)(hz:f d0= .v z)(ok:Bool)(l:apH (apI×V))(s:apI):
 uU ok z (eF (l.map λp=>(p.1,f p.2)) s)=bif ok then .bA [.d (f (eQ l s d0)), .d (.v (.bool (pa l s)))]else .d (f (eQ l s d0)):=by
 rw[Uu f l s d0];cases e:pa l s with
 |true=>cases ok<;>rfl
 |false=>rw[Zi l s d0 e,hz];cases ok<;>rfl
theorem F3(ok:Bool)(l:apH (apI×Int))(s:apI):uU ok (.int .i64 0) (eF (eR l) s)=bif ok then .bA [.d (.v (.int .i64 (eQ l s 0))), .d (.v (.bool (pa l s)))]else .d (.v (.int .i64 (eQ l s 0))):=
 Nv (λn=> .v (.int .i64 n)) _ 0 rfl ok l s
theorem ali(ok:Bool)(l:apH (apI×Bool))(s:apI):uU ok (.bool false) (eF (AF l) s)=bif ok then .bA [.d (.v (.bool (eQ l s false))), .d (.v (.bool (pa l s)))]else .d (.v (.bool (eQ l s false))):=
 Nv (λn=> .v (.bool n)) _ false rfl ok l s
theorem IL(ok:Bool)(l:apH (apI×apI))(s:apI):uU ok (.string (bs [])) (eF (bD l) s)=bif ok then .bA [.d (.v (.string (eQ l s (bs [])))), .d (.v (.bool (pa l s)))]else .d (.v (.string (eQ l s (bs [])))):=
 Nv (λn=> .v (.string n)) _ (bs []) rfl ok l s
theorem RY{l:apH (apI×Int)}(h:Nat.blt l.length 9223372036854775807=true):(Sd.lt (eR l).length).ok:=by
 unfold eR;rw[aoX];exact ao0 h
theorem aiW{l:apH (apI×Bool)}(h:Nat.blt l.length 9223372036854775807=true):(Sd.lt (AF l).length).ok:=by
 unfold AF;rw[aoX];exact ao0 h
theorem LW{l:apH (apI×apI)}(h:Nat.blt l.length 9223372036854775807=true):(Sd.lt (bD l).length).ok:=by
 unfold bD;rw[aoX];exact ao0 h
theorem cC{n:Nat}(h:Nat.ble n 9223372036854775807=true):n<=maxLen:=ao0 h
def gI(g:Nat):apH Int:=((zy yY g).getD []).map λv=>match v with| .int _ n=>n|_=>0
def zt(l:apH Int):apI:=⟨(l.map λn=>UInt8.ofNat n.toNat).toArray⟩
theorem amZ{α:Type}{c:Bool}{x y z:α}(h:(bif c then x else y)=z):(c=true/\x=z)\/(c=false/\y=z):=by
 cases c with
 |true=>exact .inl ⟨rfl,h⟩
 |false=>exact .inr ⟨rfl,h⟩
inductive HD
 |same
 |push (B:an)
 |set (n:Nat) (B:an)
def HD.app:HD->apH an->apH an
 | .same,h=>h
 | .push B,h=>h++[B]
 | .set n B,h=>h.set n B
def zN:Int->apJ Nat
 | .ofNat n=>some n
 | .negSucc _=>none
theorem Gw{z:Int}{n:Nat}(h:zN z=some n):0<=z/\z.toNat=n:=by
 cases z with
 |ofNat m=>cases h;exact⟨Int.natCast_nonneg _,rfl⟩
 |negSucc m=>cases h
def uI(ρ:Operand->AV)(d:Nat):apJ Operand->apJ Nat
 |none=>some d
 |some y=>match (ρ y).int? with
  |some z=>zN z
  |none=>none
def Gj(k:Nat)(xs:apH (apH D)):Bool:=xs.all λc=>c.length==k
def IG(P:apK)(T:TypeId)(x i:AV):apJ AV:=
 match eE P T with
 |some (_,k)=>match x with
  | .row n off len _ k'=>match i.int? with
    |some z=>match zN z with
     |some q=>bif k'==k&&b7 (q+1) len then some (.ptr n (off+q*k))else none
     |none=>none
    |none=>none
  |x=>match x.fA,i.int? with
   |some xs,some z=>match zN z with
    |some q=>match xs[q]? with
     |some c=>bif c.length==k then some (.bz [c] 0 0)else none
     |none=>none
    |none=>none
   |_,_=>none
 |none=>match uR P T,x,i.int? with
  |some (n,_,k), .ptr b off,some z=>match zN z with
   |some q=>bif b7 (q+1) n then some (.ptr b (off+q*k))else none
   |none=>none
  |some (n,_,k), .bz xs e off,some z=>match zN z with
   |some q=>bif k==1&&b7 (q+1) n then match xs[e]? with
    |some c=>match c[off+q]? with
     |some d=>some (.bz [[d]] 0 0)
     |none=>none
    |none=>none
    else none
   |none=>none
  |_,_,_=>none
theorem ags{P:apK}{T:TypeId}{x i y:AV}{K:AV->Prop}(h:IG P T x i=some y)(hK:K y):tC P T x i K:=by
 unfold IG at h;unfold tC;split at h
 ·next e k eT=>
  simp only[eT];split at h
  ·next n off len cap k'=>
   simp only;split at h
   ·next z ez=>
    simp only[ez];split at h
    ·next q eq=>
     obtain⟨h0,h1⟩:=Gw eq;obtain⟨hb,he⟩:=eu h;rw[aoU,dI]at hb;refine bN.2 ⟨hb.1,h0,by omega,?_⟩;rw[h1,he];exact hK
    ·cases h
   ·cases h
  ·next x' pz=>
   split at h
   ·next xs z e1 e2=>
    split at h
    ·next q eq=>
     obtain⟨h0,h1⟩:=Gw eq;split at h
     ·next c ec=>
      obtain⟨hb,he⟩:=eu h;simp only[e1,e2];refine⟨h0,?_⟩;rw[h1,ec];exact⟨by simpa using hb,by rw[he];exact hK⟩
     ·cases h
    ·cases h
   ·cases h
 ·next eT=>
  simp only[eT];split at h
  ·next n e k b off z e1 e2=>
   simp only[e1,e2];split at h
   ·next q eq=>
    obtain⟨h0,h1⟩:=Gw eq;obtain⟨hb,he⟩:=eu h;rw[dI]at hb;exact⟨h0,by omega,by rw[h1,he];exact hK⟩
   ·cases h
  ·next n e0 k xs e off z e1 e2=>
   simp only[e1,e2];split at h
   ·next q eq=>
    obtain⟨h0,h1⟩:=Gw eq;obtain⟨hb,h⟩:=mP h;rw[aoU,dI]at hb;split at h
    ·next c ec=>
     split at h
     ·next d ed=>
      cases h
      refine bN.2 ⟨hb.1,h0,by omega,?_⟩;rw[ec];simp only;rw[h1,ed];exact hK
     ·cases h
    ·cases h
   ·cases h
  ·cases h
def aoG(P:apK)(T:TypeId)(ρ:Operand->AV)(x:AV)(lo hi mx:apJ Operand):apJ AV:=
 match mx with
 |none=>
  match x with
  | .d (.v (.string b))=>match uI ρ b.size hi,uI ρ 0 lo with
    |some h,some l=>bif strT P T&&b7 h b.size&&b7 l h then some (.d (.v (.string (b.extract l h))))else none
    |_,_=>none
  | .ptr n off=>match uR P T with
    |some (m,_,k)=>match uI ρ m hi,uI ρ 0 lo with
     |some h,some l=>bif b7 m 4096&&b7 h m&&(b7 l h&& !b7 m l)then some (.row n (off+l*k) (h-l) (m-l) k)else none
     |_,_=>none
    |none=>none
  |x=>match x.fA,eE P T with
   |some xs,some (_,k)=>match uI ρ xs.length hi,uI ρ 0 lo with
    |some h,some l=>bif Gj k xs&&b7 h xs.length&&b7 l h then some (.d (.sl ((xs.take h).drop l)))else none
    |_,_=>none
   |_,_=>none
 |some m=>match lo,hi with
  |none,some y=>match x.fA,eE P T with
   |some xs,some (_,k)=>match uI ρ 0 (some m),uI ρ 0 (some y)with
    |some c,some h=>bif Gj k xs&&b7 c xs.length&&h==c then some (.full (xs.take h))else none
    |_,_=>none
   |_,_=>none
  |_,_=>none
def aoP(P:apK)(T:TypeId)(h:apH an)(x y:AV):apJ (AV×HD):=
 match eE P T with
 |some (e,k)=>match iw P e,qK P e with
  |some z,some cX=>match Mz h k y with
   |some ys=>bif b7 1 k&&z.cells.toList.length==k&&Gj k ys then
    match x with
    | .own n xs=>match h[n]? with
      |some (.front e' k' len)=>bif e'==e&&k'==k&&len==xs.length&&Gj k xs&&b7 (xs.length+ys.length) maxLen&&b7 ((xs.length+ys.length)*cX) 140737488355328 then some (.own n (xs++ys), .set n (.front e k (xs.length+ys.length)))else none
      |_=>none
    | .d (.v (.slice none 0 0))=>bif b7 ys.length maxLen&&b7 (ys.length*cX) 140737488355328 then some (.own h.length ys, .push (.front e k ys.length))else none
    | .full xs=>bif Gj k xs&&b7 (xs.length+ys.length) maxLen&&b7 ((xs.length+ys.length)*cX) 140737488355328 then some (.own h.length (xs++ys), .push (.front e k (xs.length+ys.length)))else none
    |_=>none
    else none
   |none=>none
  |_,_=>none
 |none=>none
def U1:apH (apH D)->apJ (apH Int)
 |[]=>some []
 |[.v (.int .u8 n)]::l=>match U1 l with
  |some ns=>some (n::ns)
  |none=>none
 |_=>none
def PZ:apJ (AV×In)->apJ AV
 |some (x, .none)=>some x
 |some (x, .nz b)=>bif b==0 then none else some x
 |some (x, .nn b)=>match zN b with
  |some _=>some x
  |none=>none
 |some (x, .cat n)=>bif b7 n maxLen then some x else none
 |_=>none
theorem agQ{r:apJ (AV×In)}{x:AV}(P:apK)(h:PZ r=some x):∃i,r=some (x,i)/\OK P i .ok:=by
 unfold PZ at h;split at h
 ·cases h;exact⟨_,rfl, .none⟩
 ·next b=>
  cases hb:b==0 with
  |true=>rw[hb]at h;cases h
  |false=>rw[hb]at h;cases h;exact⟨_,rfl, .nz (by simpa using hb)⟩
 ·next b=>
  split at h
  ·next e=>cases h;exact⟨_,rfl, .nn (Gw e).1⟩
  ·cases h
 ·obtain⟨hb,he⟩:=eu h;cases he
  exact⟨_,rfl, .cat (dI.1 hb)⟩
 ·cases h
def pX(r:apJ AV):apJ (AV×HD):=
 match r with
 |some x=>some (x, .same)
 |none=>none
def aoJ(P:apK)(src dst:TypeId)(x:AV):apJ AV:=
 match GU P src dst x .none with
 |some (y, .none)=>some y
 |_=>match x.fA,eE P src with
  |some xs,some (e,_)=>match U1 xs with
   |some ns=>match x with
    | .d (.v _)=>none
    |_=>bif Cz P e&&strT P dst then some (.d (.v (.string (zt ns))))else none
   |none=>none
  |_,_=>none
def l9(P:apK)(op:Op)(ρ:Operand->AV)(h:apH an):apJ (AV×HD):=
 match op with
 | .move x| .assign x=>some (ρ x, .same)
 | .pick c x y=>match ρ c with
   | .d (.v (.bool b))=>some (bif b then ρ x else ρ y, .same)
   |_=>none
 | .alloc e=>match iw P e with
   |some z=>some (.ptr h.length 0, .push (.cells (z.cells.toList.map λu=> .d (.v u))))
   |none=>none
 | .box _ x=>bif (ρ x).jw then some (.ptr h.length 0, .push (.cells (ρ x).cells))else none
 | .load t p=>match yk h (ρ p)with
   |some (cs,off)=>pX (Bp P t cs off)
   |none=>none
 | .store t p x=>match ρ p with
   | .ptr n off=>match h[n]? with
     |some (.cells cs)=>match fQ P t with
      |some k=>bif k==(ρ x).cells.length&&(ρ x).jw&&b7 (off+(ρ x).cells.length) cs.length then some (.d (.v undef), .set n (.cells (jj cs off (ρ x).cells)))else none
      |none=>none
     |_=>none
   |_=>none
 | .nilCheck x=>match ρ x with
   | .ptr n off=>some (.ptr n off, .same)
   | .bz xs i off=>some (.bz xs i off, .same)
   | .fn f cs=>some (.fn f cs, .same)
   |_=>none
 | .fieldAddr S x f=>match tz P S f with
   |some (fo,_,_)=>match ρ x with
    | .ptr n off=>some (.ptr n (off+fo), .same)
    | .bz xs i off=>some (.bz xs i (off+fo), .same)
    |_=>none
   |none=>none
 | .field T x f=>pX (Jl P T (ρ x) f)
 | .indexAddr T x i=>pX (IG P T (ρ x) (ρ i))
 | .extract x i=>match ρ x with
   | .bA cs=>match cs[i]? with
     |some c=>some (c, .same)
     |none=>none
   |_=>none
 | .makeFunc (.func f) first cU=>match first.toList with
   |[]=>some (.fn f (cU.toList.map ρ), .same)
   |_=>none
 | .binOp op T x y _=>pX (PZ (KE P T op (ρ x) (ρ y)))
 | .unOp op _ x=>match ρ x with
   | .d (.v u)=>match Il op u with
     |some v=>some (.d (.v v), .same)
     |none=>none
   |_=>none
 | .call c=>match c.callee with
   | .builtin .len=>match c.args.toList,c.argTypes.toList with
     |[x],[T]=>match ρ x with
      | .d (.v (.string s))=>bif strT P T then some (.d (.v (.int .i64 s.size)), .same)else none
      | .row _ _ len _ _=>bif (eE P T).isSome then some (.d (.v (.int .i64 len)), .same)else none
      |x=>match x.fA with
       |some xs=>bif (eE P T).isSome then some (.d (.v (.int .i64 xs.length)), .same)else none
       |none=>none
     |_,_=>none
   |_=>none
 |_=>none
theorem LH{r:apJ AV}{x:AV}{d:HD}(h:pX r=some (x,d)):r=some x/\d= .same:=by
 unfold pX at h;split at h
 ·cases h;exact⟨rfl,rfl⟩
 ·cases h
theorem Yr{P:apK}{o:Oper}{ρ:Operand->AV}{h:apH an}{x:AV}{d:HD}{C:AV->apH an->Prop}(h1:l9 P o.op ρ h=some (x,d))(hC:C x (d.app h)):cm P o ρ h C:=by
 obtain⟨dst,op,type,pos,after,guard⟩:=o;simp only at h1;unfold l9 at h1;unfold cm;split at h1
 ·cases h1;exact hC
 ·cases h1;exact hC
 ·next c y z=>
  split at h1
  ·next b e=>
   cases h1
   simp only[e];cases b with
   |true=>exact⟨λ_=>hC,λh=>Bool.noConfusion h⟩
   |false=>exact⟨λh=>Bool.noConfusion h,λ_=>hC⟩
  ·cases h1
 ·split at h1
  ·next z e=>cases h1;simp only[e];exact hC
  ·cases h1
 ·obtain⟨hb,he⟩:=eu h1;cases he;exact bN.2 ⟨hb,hC⟩
 ·split at h1
  ·next cs off e=>
   obtain⟨e2,rfl⟩:=LH h1;exact PI e e2 hC
  ·cases h1
 ·split at h1
  ·next n off e=>
   split at h1
   ·next cs e2=>
    split at h1
    ·next k e3=>obtain⟨hb,he⟩:=eu h1;cases he;simp only[e,yt,e2,e3];exact bN.2 ⟨hb,hC⟩
    ·cases h1
   ·cases h1
  ·cases h1
 ·split at h1
  ·next e=>cases h1;simp only[e];exact hC
  ·next e=>cases h1;simp only[e];exact hC
  ·next e=>cases h1;simp only[e];exact hC
  ·cases h1
 ·split at h1
  ·next e=>
   simp only[e];split at h1
   ·next e2=>cases h1;simp only[e2];exact hC
   ·next e2=>cases h1;simp only[e2];exact hC
   ·cases h1
  ·cases h1
 ·obtain⟨e,rfl⟩:=LH h1;exact XT e hC
 ·obtain⟨e,rfl⟩:=LH h1;exact ags e hC
 ·split at h1
  ·next e=>
   split at h1
   ·next e2=>cases h1;simp only[e,e2];exact hC
   ·cases h1
  ·cases h1
 ·split at h1
  ·next e=>cases h1;simp only[e];exact hC
  ·cases h1
 ·obtain⟨e,rfl⟩:=LH h1;obtain⟨i,e2,bO⟩:=agQ P e;exact aaO e2 bO hC
 ·unfold xc;split at h1
  ·next e=>
   split at h1
   ·next e2=>cases h1;simp only[e,e2];exact hC
   ·cases h1
  ·cases h1
 ·next c=>
  split at h1
  ·next hc=>
   simp only[hc];split at h1
   ·next y T e1 e2=>
    simp only[e1,e2];unfold sV;split at h1
    ·next s e=>obtain⟨hb,he⟩:=eu h1;cases he;simp only[e];exact bN.2 ⟨hb,hC⟩
    ·next e=>obtain⟨hb,he⟩:=eu h1;cases he;simp only[e];exact bN.2 ⟨hb,hC⟩
    ·next n1 n2=>
     split at h1
     ·next xs e=>
      obtain⟨hb,he⟩:=eu h1;cases he;split
      ·next s e'=>exact absurd e' (n1 s)
      ·next e'=>exact absurd e' (n2 _ _ _ _ _)
      ·simp only[e];exact bN.2 ⟨hb,hC⟩
     ·cases h1
   ·cases h1
  ·cases h1
 ·cases h1
def er(n:Nat)(t:apH (Nat×AV)):apH AV:=(List.range n).map (bp t)
theorem ahw{n:Nat}{t:apH (Nat×AV)}{i:Nat}{c:AV}(h:(er n t)[i]?=some c):bp t i=c:=by
 unfold er at h;rw[aoZ]at h;by_cases hi:i<n
 ·rw[List.getElem?_range hi]at h;exact apb h
 ·rw[apo (by simpa using hi)]at h;cases h
def Ra(P:apK)(N0:Nat)(Q:Exit->St->Prop)(s:St):LS->Prop
 | .ready=>Q .normal s
 | .done c=>bj P none N0 c Q s
 | .busy=>False
theorem akj{P:apK}{N0:Nat}{s:St}{Q:Exit->St->Prop}{g:Operand}{p:Nat}{assign body:Code}{gf:FuncId}{cU:apH AV}(hg:ev s g= .fn gf cU)
 (hc:cx P gf (.cO s.h.length::cU) (s.h++[.lp .ready p assign body (er s.n s.t)]) λ_ h'=>∃(ls:LS)(p1:Nat)(su uo:Code)(yU:apH AV),h'[s.h.length]?=some (.lp ls p1 su uo yU)/\Ra P N0 Q ⟨s.n,s.t,h'.set s.h.length .gone⟩ ls):
 bj P none N0 (.rangeFunc g #[p] assign body) Q s:=by
 constructor
 intro G w a n hs hN;have hv:=hs.ev g;rw[hg]at hv;obtain⟨lb,ea,hl,hr⟩:∃lb:Array apL,a.eval g= .func (.func gf) #[] lb/\lb.size=cU.length/\∀(i:Nat)(u:apL)(c:AV),lb[i]?=some u->cU[i]?=some c->aD G w u c:=by
  generalize a.eval g=u at hv;cases hv with|fn _ vs _ hl hr=>exact⟨vs,rfl,hl,hr⟩
 obtain⟨FL,jr⟩:=hc;refine wpIn_rangeFunc (F:=WF none) ?_;intro fn _;obtain⟨B9,XA⟩:=an0 hs.inv;obtain⟨G0,je⟩:∃G0:Gh,G0={G with Z:=λb=>G.Z b\/b=w.heap.size}:=⟨_,rfl⟩;obtain⟨w0,qZ⟩:∃w0,w0=w.alloc (.deferred (some [])):=⟨_,rfl⟩;rw[<-je,<-qZ]at B9 XA;have b6:G0.N=G.N:=by rw[je]
 have eN:w0.heap.size=w.heap.size+1:=by rw[qZ];simp
 obtain⟨hX,oe,MQ⟩:=akn XA fn a.tmps w.heap.size p assign body (er s.n s.t) (by simp [er,hs.size]) λi u c hu hc=>by
  have h9:=hs.tmp i;rw[ahw hc]at h9;have e:a.tmps.getD i undef=u:=by
   have aH:=(ao7.1 hu).1;rw[ape aH]at hu;simp [Array.getD,aH];exact apb hu
  rw[e]at h9;exact h9.aS B9 (Nat.le_of_eq b6.symm)
 obtain⟨w1,Ho⟩:∃w1,w1=w0.alloc (.loop {state:= .ready,pending:=none,fn:=fn,tmps:=a.tmps,params:= #[p],assign:=assign,body:=body,defers:=w.heap.size}):=⟨_,rfl⟩;obtain⟨G1,Oo⟩:∃G1:Gh,G1=G0.cG w0.heap.size:=⟨_,rfl⟩;rw[<-Ho,<-Oo]at hX oe MQ;have gu:G1.N=G.N+1:=by rw[Oo,<-b6];rfl
 have akc:G1.aI s.h.length=w.heap.size+1:=by rw[Oo,hs.inv.len,<-b6];simp [Gh.cG,eN]
 rw[eN]at MQ;have Vz:bx G.N G w G1 w1:=B9.trans (hX.less (Nat.le_of_eq b6.symm));refine⟨w.heap.size+1,[{target:= .collected w.heap.size,args:= #[]}],w1,{target:= .fn (.func gf) lb,args:= #[.func (.yield (w.heap.size+1)) #[] #[]]},w1,gf, #[.func (.yield (w.heap.size+1)) #[] #[]]++lb,w1,?_,?_,λ_ _=>trivial,?_,λh=>(by simp [WF,Fence.wide]at h),?_⟩
 ·rw[Ho,qZ];exact run_enterLoop_outer _ _ _ _ _
 ·simp only[resolve,ea];simp [Deferred.ofValue,go_sem]
 ·simp [invoke,Ov FL]
 have hK:=jr G1 w1 (#[.func (.yield (w.heap.size+1)) #[] #[]]++lb) oe (by simp [hl];omega) (λi u c hu hc=>by
  match i with
  |0=>
   rw[Array.getElem?_append_left (by simp)]at hu;simp at hu hc;subst hu;subst hc;exact MQ
  |i+1=>
   rw[Array.getElem?_append_right (by simp)]at hu;simp at hu hc;exact(hr i u c hu hc).aS Vz (by rw[gu];exact Nat.le_succ _))
 refine CallsIn.mono (F:=WF none) (callsIn_wide (n:=n-1).2 hK) ?_;rintro e w2 ⟨v,G2,r,h',rfl,gW,BS,sA,_,ls,p1,su,uo,yU,hk,RZ⟩;have zC:s.h.length<G1.N:=by rw[hs.inv.len,gu];exact apF _
 have my:G2.aI s.h.length=w.heap.size+1:=(gW.aI _ zC).trans akc;obtain⟨_,fn2,tm2,D2,g3,g4,g5,Y6⟩:=Lt sA hk;rw[my]at g3;have hEa:bx G.N G w G2 w2:=Vz.trans (gW.less (by rw[gu];exact Nat.le_succ _));have HS:G.N<=G2.N:=by rw[gu]at BS;omega
 obtain⟨ob,kC⟩:∃ob:Obj,ob= .loop {state:= .exhausted,pending:=ls.pd,fn:=fn2,tmps:=tm2,params:= #[p1],assign:=su,body:=uo,defers:=D2}:=⟨_,rfl⟩;obtain⟨zE,zI⟩:=ai7 sA hk ob;rw[my]at zE zI;have Dy:bx G.N G w G2 (w2.putObj (w.heap.size+1) ob):=hEa.trans (zE.less HS);have hM:=hs.inv.gl.2;have MT:G0.Z w.heap.size:=by rw[je];exact .inr rfl
 have ZM:G2.Z w.heap.size:=gW.Z.1.1 _ (hX.Z.1.1 _ MT);have hDh:(w2.putObj (w.heap.size+1) ob).heap[w.heap.size]?=some (.deferred (some [])):=by
  rw[zE.old _ ZM,gW.old _ (hX.Z.1.1 _ MT),hX.old _ MT,qZ];exact World.alloc_heap_new w _
 have b8:cA G2 (w2.putObj (w.heap.size+1) ob) {a with defers:=[{target:= .collected w.heap.size,args:= #[]}]++a.defers} ⟨s.n,s.t,h'.set s.h.length .gone⟩:=by
  refine⟨hs.size,λi=>(hs.tmp i).aS Dy HS,zI,?_⟩;obtain⟨l,l1,l2,l3⟩:=hs.df.aS Dy;obtain⟨l',l1',l2',l3'⟩:=hs.df;have oH:l=l':=by
   rw[l2]at l2';have amk:∀(x y:apH Nat),x.map (λD=>({target:= .collected D,args:= #[]}:Deferred))=y.map (λD=>{target:= .collected D,args:= #[]})->x=y:=by
     intro x
     induction x with
     |nil=>intro y h;cases y with
      |nil=>rfl
      |cons b y=>simp at h
     |cons a x ih=>intro y h;cases y with
      |nil=>simp at h
      |cons b y=>simp at h;rw[h.1,ih y (by simpa using h.2)]
   exact amk _ _ l2'
  refine⟨w.heap.size::l,?_,by rw[aph,<-l2];rfl,λD hD=> ?_⟩
  ·rw[List.nodup_cons];exact⟨λh=>apx _ (hs.inv.z _ (l3' _ (oH▸h)).2.1),l1⟩
  ·rcases apm.1 hD with rfl|hD
   ·exact⟨by rw[Dy.Z.2];exact hM,ZM,hDh⟩
   ·exact l3 D hD
 subst kC;have CN:=λhb=>run_endLoop (P:=P) g3 hb;cases ls with
 |busy=>exact RZ.elim
 |ready=>
  refine⟨_,_,CN (by simp [LS.st]),?_⟩;exact⟨G2,_,Dy.less hN,apa hN HS,b8,RZ⟩
 |done c=>
  refine⟨_,_,CN (by simp [LS.st]),?_⟩;refine wpIn_mono (RZ.run G2 _ _ n (b8) (apa hN HS)) λ_ _ _ hn=> ?_;exact hn.trans (Dy.less hN)
set_option linter.unusedSimpArgs false
set_option linter.unusedVariables false
mutual
theorem FM:∀x:AV,x.aK id=x
 | .agg cs=>by rw[AV.aK,ug cs]
 | .bA cs=>by rw[AV.aK,ug cs]
 | .fn f cs=>by rw[AV.aK,ug cs]
 | .own .. =>by simp [AV.aK]
 | .d _=>by simp [AV.aK]
 | .ptr .. =>by simp [AV.aK]
 | .bz .. =>by simp [AV.aK]
 | .full _=>by simp [AV.aK]
 | .row .. =>by simp [AV.aK]
 | .mp _=>by simp [AV.aK]
 | .cO _=>by simp [AV.aK]
 | .vec .. =>by simp [AV.aK]
 | .di .. =>by simp [AV.aK]
 | .hid _=>by simp [AV.aK]
 | .dead=>by simp [AV.aK]
theorem ug:∀l:apH AV,AV.dP id l=l
 |[]=>by simp [AV.dP]
 |x::l=>by rw[AV.dP,FM x,ug l]
end
theorem SF(B:an):B.aK id=B:=by
 cases B with
 |cells cs=>simp only[an.aK,ug]
 |lp ls p as bd cs=>simp only[an.aK,ug]
 |it sn cs=>simp only[an.aK,ug]
 |aT T0 cs=>simp only[an.aK,ug]
 |vec e k cs=>simp only[an.aK];congr 1;exact(apn λx _=>ug x).trans (List.map_id _)
 |_=>rfl
theorem aD.low{G:Gh}{w:apM}{u:apL}{x:AV}(h:aD G w u x):x.aP G.N=true:=by
 have lt:∀{n:Nat},n<G.N->(!b7 G.N n)=true:=fun{n} hn=>by
  rw[Bool.not_eq_true',<-Bool.not_eq_true,dI];omega
 have gh:∀(vs:Array apL)(cs:apH AV),vs.size=cs.length->(∀(i:Nat)(u:apL)(c:AV),vs[i]?=some u->cs[i]?=some c->c.aP G.N=true)->AV.nF G.N cs=true:=λvs cs hl h=>by
  rw[mE,api];intro c hc;obtain⟨i,hi,rfl⟩:=List.mem_iff_getElem.1 hc;exact h i vs[i] _ (ape (by omega)) (aoW hi)
 induction h with
 |agg vs cs hl _ ih=>rw[AV.aP];exact gh vs cs hl ih
 |bA vs cs hl _ ih=>rw[AV.aP];exact gh vs cs hl ih
 |fn f vs cs hl _ ih=>rw[AV.aP];exact gh vs cs hl ih
 |ptr n off h=>rw[AV.aP];exact lt h
 |own n xs h=>rw[AV.aP];exact lt h
 |row n off len cap k h=>rw[AV.aP];exact lt h
 |mp n h=>rw[AV.aP];exact lt h
 |cO n h=>rw[AV.aP];exact lt h
 |vec n o len L k h=>rw[AV.aP];exact lt h
 |di n i j L k h=>rw[AV.aP];exact lt h
 |_=>simp [AV.aP]
def jJ(N0:Nat)(s s':St):Prop:=∀(G:Gh)(w:apM)(a:Act),N0<=G.N->cA G w a s->∃G',bx N0 G w G' w/\N0<=G'.N/\cA G' w a s'
theorem jJ.refl(N0:Nat)(s:St):jJ N0 s s:=λG _ _ hN hs=>⟨G,bx.refl _ _ _,hN,hs⟩
theorem jJ.trans{N0:Nat}{s1 s2 s3:St}(h:jJ N0 s1 s2)(k:jJ N0 s2 s3):jJ N0 s1 s3:=λG w a hN hs=>by
 obtain⟨G1,e1,n1,h1⟩:=h G w a hN hs;obtain⟨G2,e2,n2,h2⟩:=k G1 w a n1 h1;exact⟨G2,e1.trans e2,n2,h2⟩
theorem jJ.of_eq{N0:Nat}{s s':St}(h:jc s s'):jJ N0 s s':=λG _ _ hN hs=>
 ⟨G,bx.refl _ _ _,hN,hs.size.trans h.n,λi=>by rw[<-h.t i];exact hs.tmp i,by rw[<-h.h];exact hs.inv,hs.df⟩
theorem jJ.aK{N0:Nat}{s s':St}(σ τ:Nat->Nat)(hn:s.n=s'.n)(hlen:s'.h.length=s.h.length)(aH:∀i,i<s.h.length->σ i<s.h.length)(hτ:∀i,i<s.h.length->τ i<s.h.length)
 (vt:∀i,i<s.h.length->τ (σ i)=i) (lY:∀i,i<s.h.length->σ (τ i)=i) (yL:∀i,i<N0->σ i=i)
 (ht:∀i,(bp s.t i).aP s.h.length=true->bp s'.t i=(bp s.t i).aK σ\/bp s'.t i= .dead) (hh:∀i,i<s.h.length->s'.h[σ i]?=(s.h[i]?).map (an.aK σ)):jJ N0 s s':=λG w a hN hs=>by
 have hl:s.h.length=G.N:=hs.inv.len;rw[hl]at aH hτ vt lY hh hlen ht;have NW:∀i,i<N0->τ i=i:=λi hi=>by
  have h1:=vt i (by omega);rw[yL i hi]at h1;exact h1
 let G':Gh:={G with aI:=λn=>G.aI (τ n),sg:=λn=>G.sg (τ n),ow:=λn=>G.ow (τ n),fl:=λn=>G.fl (τ n)}
 have hR:qI σ G G':=⟨aH,λn h=>by show G.aI (τ (σ n))=_;rw[vt n h],λn h=>by show G.sg (τ (σ n))=_;rw[vt n h],λn h=>by show G.fl (τ (σ n))=_;rw[vt n h],λn h=>by show G.ow (τ (σ n))=_;rw[vt n h],λ_ _=>Iff.rfl⟩;have hE:bx N0 G w G' w:=⟨ao3 _,λ_ _ h=>h,λ_ _ _=>rfl,λn h=>by show G.aI (τ n)=_;rw[NW n h],λn h=> .inl ⟨by show G.fl (τ n)=_;rw[NW n h],by show G.sg (τ n)=_;rw[NW n h]⟩,fY rfl,λ_ _=>rfl,rfl,rfl,rfl,λ_ _ h=> .inl h⟩;have ej:∀(n:Nat)(B:an),s'.h[n]?=some B->∃m B0,m<G.N/\σ m=n/\s.h[m]?=some B0/\B=B0.aK σ:=λn B hB=>by
  have ee:n<G.N:=by have:=(aoS.1 hB).1;omega
  have h1:=hh (τ n) (hτ n ee);rw[lY n ee,hB]at h1;cases h2:s.h[τ n]? with
  |none=>rw[h2]at h1;cases h1
  |some B0=>rw[h2]at h1;cases h1;exact⟨τ n,B0,hτ n ee,lY n ee,h2,rfl⟩
 have dQ:∀(n b:Nat),bB s'.h G' n=some b->∃m,m<G.N/\σ m=n/\bB s.h G m=some b:=λn b hb=>by
  obtain⟨B,hB,hb⟩:=nL hb;obtain⟨m,B0,k1,k2,k3,rfl⟩:=ej n B hB;subst k2;rw[SG hR k1]at hb;exact⟨m,k1,rfl,by rw[cZ k3];exact hb⟩
 refine⟨G',hE,hN,hs.size.trans hn,λi=> ?_,⟨hlen,hs.inv.z,hs.inv.S,λn B hB=> ?_,λm n b hm ee=> ?_,hs.inv.gl.aS hE⟩,hs.df.aS hE⟩
 ·have hv:=hs.tmp i;rcases ht i hv.low with e|e
  ·rw[e];exact hv.aK hR
  ·rw[e];exact .dead _
 ·obtain⟨m,B0,k1,k2,k3,rfl⟩:=ej n B hB;subst k2;have hb:=hs.inv.cu m B0 k3;exact dB.aK hR k1 (λb h1=>hb.lB h1) hb
 ·obtain⟨m',k1,k2,k3⟩:=dQ m b hm;obtain⟨n',j1,j2,j3⟩:=dQ n b ee;have:=hs.inv.inj m' n' b k3 j3;rw[<-k2,<-j2,this]
def PK:apL->apL->Bool
 | .bool a, .bool b=>a==b
 | .int k a, .int l b=>decide (k=l)&&decide (a=b)
 | .string a, .string b=>bL a==bL b
 | .pointer none, .pointer none=>true
 | .slice none a b, .slice none c d=>a==c&&b==d
 | .map none, .map none=>true
 | .nilFunc, .nilFunc=>true
 | .nilIface, .nilIface=>true
 | .tuple a, .tuple b=>a.size==0&&b.size==0
 |_,_=>false
theorem amh{u v:apL}(h:PK u v=true):u=v:=by
 unfold PK at h;split at h
 ·rw[beq_iff_eq]at h;subst h;rfl
 ·rw[aoU,decide_eq_true_eq,decide_eq_true_eq]at h;obtain⟨h1,h2⟩:=h;subst h1;subst h2;rfl
 ·rw[beq_iff_eq]at h;rw[iJ h]
 ·rfl
 ·rw[aoU,beq_iff_eq,beq_iff_eq]at h;obtain⟨h1,h2⟩:=h;subst h1;subst h2;rfl
 ·rfl
 ·rfl
 ·rfl
 ·rw[aoU,beq_iff_eq,beq_iff_eq]at h;rw[Array.eq_empty_of_size_eq_zero h.1,Array.eq_empty_of_size_eq_zero h.2]
 ·cases h
mutual
def D.vX:D->D->Bool
 | .v a, .v b=>PK a b
 | .sl xs, .sl ys=>D.sU xs ys
 |_,_=>false
def D.sU:apH (apH D)->apH (apH D)->Bool
 |[],[]=>true
 |x::xs,y::ys=>D.A0 x y&&D.sU xs ys
 |_,_=>false
def D.A0:apH D->apH D->Bool
 |[],[]=>true
 |x::xs,y::ys=>D.vX x y&&D.A0 xs ys
 |_,_=>false
end
mutual
theorem D.Rv:∀x y:D,D.vX x y=true->x=y
 | .v a, .v b,h=>by rw[D.vX]at h;rw[amh h]
 | .sl xs, .sl ys,h=>by rw[D.vX]at h;rw[D.FQ xs ys h]
 | .v _, .sl _,h=>by simp [D.vX]at h
 | .sl _, .v _,h=>by simp [D.vX]at h
theorem D.FQ:∀x y:apH (apH D),D.sU x y=true->x=y
 |[],[],_=>rfl
 |x::xs,y::ys,h=>by rw[D.sU,aoU]at h;rw[D.abF x y h.1,D.FQ xs ys h.2]
 |[],_::_,h=>by simp [D.sU]at h
 |_::_,[],h=>by simp [D.sU]at h
theorem D.abF:∀x y:apH D,D.A0 x y=true->x=y
 |[],[],_=>rfl
 |x::xs,y::ys,h=>by rw[D.A0,aoU]at h;rw[D.Rv x y h.1,D.abF xs ys h.2]
 |[],_::_,h=>by simp [D.A0]at h
 |_::_,[],h=>by simp [D.A0]at h
end
mutual
def AV.fp(σ:Nat->Nat):AV->AV->Bool
 | .d x,y=>(match y with| .d y=>D.vX x y|_=>false)
 | .agg a,y=>(match y with| .agg b=>AV.pW σ a b|_=>false)
 | .bA a,y=>(match y with| .bA b=>AV.pW σ a b|_=>false)
 | .fn f a,y=>(match y with| .fn g b=>f==g&&AV.pW σ a b|_=>false)
 | .ptr n o,y=>(match y with| .ptr m p=>σ n==m&&o==p|_=>false)
 | .bz xs i o,y=>(match y with| .bz ys j p=>D.sU xs ys&&(i==j&&o==p)|_=>false)
 | .own n xs,y=>(match y with| .own m ys=>σ n==m&&D.sU xs ys|_=>false)
 | .full xs,y=>(match y with| .full ys=>D.sU xs ys|_=>false)
 | .row n i1 i2 i3 i4,y=>(match y with| .row m j1 j2 j3 j4=>σ n==m&&(i1==j1&&(i2==j2&&(i3==j3&&i4==j4)))|_=>false)
 | .mp n,y=>(match y with| .mp m=>σ n==m|_=>false)
 | .cO n,y=>(match y with| .cO m=>σ n==m|_=>false)
 | .vec n i1 i2 i3 i4,y=>(match y with| .vec m j1 j2 j3 j4=>σ n==m&&(i1==j1&&(i2==j2&&(i3==j3&&i4==j4)))|_=>false)
 | .di n i1 i2 i3 i4,y=>(match y with| .di m j1 j2 j3 j4=>σ n==m&&(i1==j1&&(i2==j2&&(i3==j3&&i4==j4)))|_=>false)
 | .dead,y=>(match y with| .dead=>true|_=>false)
 | .hid _,_=>false
def AV.pW(σ:Nat->Nat):apH AV->apH AV->Bool
 |[],y=>(match y with|[]=>true|_=>false)
 |x::xs,l=>(match l with|y::ys=>AV.fp σ x y&&AV.pW σ xs ys|_=>false)
end
mutual
theorem AV.Hi(σ:Nat->Nat):∀x y:AV,AV.fp σ x y=true->y=x.aK σ
 | .d x,y,h=>by
   cases y with
   |d y=>simp only[AV.fp,aoU,beq_iff_eq]at h;rw[AV.aK,D.Rv _ _ h]
   |_=>simp [AV.fp]at h
 | .agg a,y,h=>by
   cases y with
   |agg b=>simp only[AV.fp,aoU,beq_iff_eq]at h;rw[AV.aK,AV.xu σ _ _ h]
   |_=>simp [AV.fp]at h
 | .bA a,y,h=>by
   cases y with
   |bA b=>simp only[AV.fp,aoU,beq_iff_eq]at h;rw[AV.aK,AV.xu σ _ _ h]
   |_=>simp [AV.fp]at h
 | .fn f a,y,h=>by
   cases y with
   |fn g b=>simp only[AV.fp,aoU,beq_iff_eq]at h;rw[AV.aK,AV.xu σ _ _ h.2,h.1]
   |_=>simp [AV.fp]at h
 | .ptr n o,y,h=>by
   cases y with
   |ptr m p=>simp only[AV.fp,aoU,beq_iff_eq]at h;rw[AV.aK,h.1,h.2]
   |_=>simp [AV.fp]at h
 | .bz xs i o,y,h=>by
   cases y with
   |bz ys j p=>simp only[AV.fp,aoU,beq_iff_eq]at h;rw[AV.aK,D.FQ _ _ h.1,h.2.1,h.2.2]
   |_=>simp [AV.fp]at h
 | .own n xs,y,h=>by
   cases y with
   |own m ys=>simp only[AV.fp,aoU,beq_iff_eq]at h;rw[AV.aK,D.FQ _ _ h.2,h.1]
   |_=>simp [AV.fp]at h
 | .full xs,y,h=>by
   cases y with
   |full ys=>simp only[AV.fp,aoU,beq_iff_eq]at h;rw[AV.aK,D.FQ _ _ h]
   |_=>simp [AV.fp]at h
 | .row n i1 i2 i3 i4,y,h=>by
   cases y with
   |row m j1 j2 j3 j4=>simp only[AV.fp,aoU,beq_iff_eq]at h;rw[AV.aK,h.1,h.2.1,h.2.2.1,h.2.2.2.1,h.2.2.2.2]
   |_=>simp [AV.fp]at h
 | .vec n i1 i2 i3 i4,y,h=>by
   cases y with
   |vec m j1 j2 j3 j4=>simp only[AV.fp,aoU,beq_iff_eq]at h;rw[AV.aK,h.1,h.2.1,h.2.2.1,h.2.2.2.1,h.2.2.2.2]
   |_=>simp [AV.fp]at h
 | .di n i1 i2 i3 i4,y,h=>by
   cases y with
   |di m j1 j2 j3 j4=>simp only[AV.fp,aoU,beq_iff_eq]at h;rw[AV.aK,h.1,h.2.1,h.2.2.1,h.2.2.2.1,h.2.2.2.2]
   |_=>simp [AV.fp]at h
 | .mp n,y,h=>by
   cases y with
   |mp m=>simp only[AV.fp,aoU,beq_iff_eq]at h;rw[AV.aK,h]
   |_=>simp [AV.fp]at h
 | .cO n,y,h=>by
   cases y with
   |cO m=>simp only[AV.fp,aoU,beq_iff_eq]at h;rw[AV.aK,h]
   |_=>simp [AV.fp]at h
 | .dead,y,h=>by
   cases y with
   |dead=>rw[AV.aK]
   |_=>simp [AV.fp]at h
 | .hid _,y,h=>by simp [AV.fp]at h
theorem AV.xu(σ:Nat->Nat):∀x y:apH AV,AV.pW σ x y=true->y=AV.dP σ x
 |[],y,h=>by
  cases y with
  |nil=>rw[AV.dP]
  |cons=>simp [AV.pW]at h
 |x::xs,l,h=>by
  cases l with
  |nil=>simp [AV.pW]at h
  |cons y ys=>simp only[AV.pW,aoU]at h;rw[AV.dP,AV.Hi σ _ _ h.1,AV.xu σ _ _ h.2]
end
def AZ:apH (apI×D)->apH (apI×D)->Bool
 |[],[]=>true
 |(k,d)::l,(k',d')::l'=>bL k==bL k'&&D.vX d d'&&AZ l l'
 |_,_=>false
theorem Y9:∀x y,AZ x y=true->x=y
 |[],[],_=>rfl
 |(k,d)::l,(k',d')::l',h=>by
  rw[AZ,aoU,aoU]at h;rw[iJ (beq_iff_eq.1 h.1.1),D.Rv _ _ h.1.2,Y9 l l' h.2]
 |[],_::_,h=>by simp [AZ]at h
 |_::_,[],h=>by simp [AZ]at h
def zw(σ:Nat->Nat):apH (apH AV)->apH (apH AV)->Bool
 |[],[]=>true
 |x::xs,y::ys=>AV.pW σ x y&&zw σ xs ys
 |_,_=>false
theorem Yo(σ:Nat->Nat):∀x y,zw σ x y=true->y=x.map (AV.dP σ)
 |[],[],_=>rfl
 |x::xs,y::ys,h=>by
  rw[zw,aoU]at h;rw[aph,AV.xu σ x y h.1,Yo σ xs ys h.2]
 |[],_::_,h=>by simp [zw]at h
 |_::_,[],h=>by simp [zw]at h
def an.fp(σ:Nat->Nat):an->an->Bool
 | .cells a,y=>(match y with| .cells b=>AV.pW σ a b|_=>false)
 | .front e k l,y=>(match y with| .front e' k' l'=>e==e'&&(k==k'&&l==l')|_=>false)
 | .bg _ _,_=>false
 | .vec e k cs,y=>(match y with| .vec e' k' ds=>e==e'&&(k==k'&&zw σ cs ds)|_=>false)
 | .map kv,y=>(match y with| .map CB=>AZ kv CB|_=>false)
 | .fR _,_=>false
 | .it sn cs,y=>(match y with| .it sn' ds=>sn==sn'&&AV.pW σ cs ds|_=>false)
 | .aT _ _,_=>false
 | .gone,y=>(match y with| .gone=>true|_=>false)
 | .lp ..,_=>false
theorem an.Hi(σ:Nat->Nat)(x y:an)(h:an.fp σ x y=true):y=x.aK σ:=by
 cases x<;>cases y<;>simp only[an.fp,aoU,beq_iff_eq,Bool.false_eq_true]at h
 ·rw[an.aK,AV.xu σ _ _ h]
 ·rw[an.aK,h.1,h.2.1,h.2.2]
 ·rw[an.aK,h.1,h.2.1,Yo σ _ _ h.2.2]
 ·rw[an.aK,Y9 _ _ h]
 ·rw[an.aK,h.1,AV.xu σ _ _ h.2]
 ·rfl
def ft(h0:Nat)(p:apH Nat)(i:Nat):Nat:=bif b7 h0 i then p.getD (i-h0) i else i
def AH(ts A6:apH (Nat×AV))(ks:apH Nat)(i:Nat):Nat:=
 match ks with
 |[]=>i
 |d::ks=>match bp ts d,bp A6 d with
  | .ptr n _, .ptr m _=>bif n==i then m else AH ts A6 ks i
  | .own n _, .own m _=>bif n==i then m else AH ts A6 ks i
  | .vec n _ _ _ _, .vec m _ _ _ _=>bif n==i then m else AH ts A6 ks i
  | .mp n, .mp m=>bif n==i then m else AH ts A6 ks i
  |_,_=>AH ts A6 ks i
def Gb(s s':St)(ks:apH Nat)(h0:Nat):Nat->apH Nat
 |0=>[]
 |k+1=>AH s.t s'.t ks h0::Gb s s' ks (h0+1) k
def abd(h0:Nat)(ks:apH Nat)(s s':St)(p q:apH Nat):Bool:=
 (s'.h.length==s.h.length)&&(((List.range s.h.length).all λi=>b7 (ft h0 p i+1) s.h.length&&b7 (ft h0 q i+1) s.h.length&&ft h0 q (ft h0 p i)==i&&ft h0 p (ft h0 q i)==i)&&(ks.all (λd=>AV.fp (ft h0 p) (bp s.t d) (bp s'.t d))&&
  ((List.range s.h.length).all λi=>match s.h[i]?,s'.h[ft h0 p i]? with
    |some B,some B'=>an.fp (ft h0 p) B B'
    |_,_=>false)))
def VK(h0:Nat)(ks:apH Nat)(s s':St):Bool:=abd h0 ks s s' (Gb s s' ks h0 (s.h.length-h0)) (Gb s' s ks h0 (s.h.length-h0))
structure lV(ks:List Nat)(s0 s:St):Prop where
 n:s.n=s0.n
 t:∀d,d ∉ ks->bp s.t d=bp s0.t d
theorem lV.refl(ks:apH Nat)(s:St):lV ks s s:=⟨rfl,λ_ _=>rfl⟩
theorem lV.put{ks:apH Nat}{s0 s:St}(h:lV ks s0 s)(h1:apH an){d:apJ Nat}(x:AV)(hd:∀k,d=some k->k∈ks):lV ks s0 ((s.wh h1).put d x):=
 ⟨by rw[ri];exact h.n,λi hi=>by
  rw[ss,if_neg]
  ·exact h.t i hi
  ·rintro⟨e,_⟩;exact hi (hd i e)⟩
theorem aoK{N0 h0:Nat}{ks:apH Nat}{s0 s s':St}(hN:N0<=h0)(yH:∀i,(bp s0.t i).aP h0=true)(hb:lV ks s0 s)(fj:lV ks s0 s')(h:VK h0 ks s s'=true):jJ N0 s s':=by
 unfold VK at h;generalize Gb s s' ks h0 (s.h.length-h0)=p at h;generalize Gb s' s ks h0 (s.h.length-h0)=q at h;unfold abd at h;simp only[aoU,beq_iff_eq,api,List.mem_range,dI]at h;obtain⟨h1,h2,h3,h4⟩:=h;have yL:∀i,i<h0->ft h0 p i=i:=λi hi=>by
  unfold ft;have:b7 h0 i=false:=by rw[<-Bool.not_eq_true,dI];omega
  rw[this];rfl
 refine jJ.aK (ft h0 p) (ft h0 q) (hb.n.trans fj.n.symm) h1 (λi hi=>(h2 i hi).1.1.1) (λi hi=>(h2 i hi).1.1.2) (λi hi=>(h2 i hi).1.2) (λi hi=>(h2 i hi).2) (λi hi=>yL i (by omega)) (λi _=> ?_) λi hi=> ?_
 ·left
  by_cases hk:i∈ks
  ·exact AV.Hi _ _ _ (h3 i hk)
  ·rw[hb.t i hk,fj.t i hk,yQ (τ:=id) yL _ (yH i),FM]
 ·have h5:=h4 i hi;split at h5
  ·next B B' e1 e2=>rw[e1,e2,an.Hi _ _ _ h5];rfl
  ·cases h5
def KK(N0:Nat)(K:St->Prop):Prop:=∀s s',jJ N0 s s'->K s'->K s
theorem KK.c{N0:Nat}{K:St->Prop}(h:KK N0 K):wa K:=λs s' e hk=>h s' s (jJ.of_eq e.symm) hk
theorem anT{P:apK}{r:apJ Nat}{N0:Nat}{s:St}{Q:Exit->St->Prop}{m:Bool}{id:Nat}{ops:Array Oper}(hm:P.follows .mixedOrders=true)
 (h:N0<=s.h.length->(∀i,(bp s.t i).aP s.h.length=true)->pw m P ops (λs1=>∃s2,jJ N0 s1 s2/\Q .normal s2) ops.size (Array.replicate ops.size false) s):bj P r N0 (.region id ops true) Q s:=by
 constructor
 intro G w a n hs hN;obtain⟨d1,d2⟩:=hs.drew;refine wpIn_region_any hm ?_;have hl:=hs.inv.len;refine FA (G:=G) (w:=w) (N0:=N0) (K:=λs1=>∃s2,jJ N0 s1 s2/\Q .normal s2) (λa' w' hn=> ?_) ops.size _ G _ a s (d1.less hN) hN d2 (h (by omega) λi=>by rw[hl];exact(hs.tmp i).low);obtain⟨G',s',x1,x2,x3,s2,e0,x4⟩:=hn;obtain⟨G2,y1,y2,y3⟩:=e0 G' w' a' x2 x3;exact⟨G2,s2,x1.trans y1,y2,y3,x4⟩
theorem aeG{N0:Nat}(Q:St->Prop):KK N0 (λs1=>∃s2,jJ N0 s1 s2/\Q s2):=λ_ _ h ⟨s2,h1,h2⟩=>⟨s2,h.trans h1,h2⟩
def bits(f:Nat->Bool):Nat->Nat
 |0=>0
 |n+1=>bif f n then bits f n|||(1<<<n)else bits f n
theorem KL(f:Nat->Bool):∀(n j:Nat),Nat.testBit (bits f n) j=(decide (j<n)&&f j)
 |0,j=>by simp [bits]
 |n+1,j=>by
  unfold bits;have ih:=KL f n j;cases hf:f n with
  |true=>
   simp only[cond_true,Nat.testBit_or,ih,Nat.one_shiftLeft,Nat.testBit_two_pow];by_cases e:n=j
   ·subst e;simp [hf]
   ·have:decide (j<n+1)=decide (j<n):=by simp;omega
    rw[this];simp [e]
  |false=>
   simp only[cond_false,ih];by_cases e:n=j
   ·subst e;simp [hf]
   ·have:decide (j<n+1)=decide (j<n):=by simp;omega
    rw[this]
def fN{α:Type}(n:Nat)(f:Nat->α):α:=Nat.casesOn (Nat.succ n) (f 0) f
theorem B4{α:Type}(n:Nat)(f:Nat->α):fN n f=f n:=rfl
def fL{α:Type}:apH Nat->(apH Nat->α)->α
 |[],f=>f []
 |n::l,f=>fN n λn=>fL l λl=>f (n::l)
theorem GC{α:Type}:∀(l:apH Nat)(f:apH Nat->α),fL l f=f l
 |[],_=>rfl
 |n::l,f=>by rw[fL,B4,GC l]
section
variable (ops:Array Oper)
def zH(o:Oper)(n j:Nat):Bool:=o.after.any λe=>Region.binds .any e&&(e.on==j||(j==n&&b7 n e.on))
def Mu(k:Nat):Nat:=match ops[k]? with
 |some o=>bits (zH o ops.size) (ops.size+1)
 |none=>1<<<ops.size
def Un(m:Bool)(M:Array Nat)(k j:Nat):Bool:= !(j==k)&&(!((M.getD j 0).testBit k)&&match ops[k]?,ops[j]? with
 |some oi,some oj=> !(oi.apart ops oj&&BO m oi oj)
 |_,_=>true)
def Fk(m:Bool)(M:Array Nat)(k:Nat):Nat:=bits (Un ops m M k) ops.size
def sB:Nat->Nat->apH Nat
 |_,0=>[]
 |k,n+1=>Mu ops k::sB (k+1) n
def qE(m:Bool)(M:Array Nat):Nat->Nat->apH Nat
 |_,0=>[]
 |k,n+1=>Fk ops m M k::qE m M (k+1) n
end
def tt:apH Nat->Nat->Nat->apH Nat
 |[],_,_=>[]
 |a::A,L,k=>bif !(Nat.testBit L k)&&(L&&&a==a)then k::tt A L (k+1)else tt A L (k+1)
def Ch(C:apH Nat)(L:Nat):apH Nat->apJ Nat
 |[]=>none
 |k::r=>bif (C.getD k 0)|||L==L then some k else Ch C L r
section
variable (ops:Array Oper) (st:Oper->St->apJ St) (h0:Nat) (ks A C:apH Nat)
def ph:apH Oper->apH Nat
 |[]=>[]
 |o::l=>match o.dst with
  |some d=>d::ph l
  |none=>ph l
end
theorem Iv:∀{l:apH Oper}{o:Oper},o∈l->∀d,o.dst=some d->d∈ph l
 |[],_,h,_,_=>by cases h
 |a::l,o,h,d,hd=>by
  unfold ph;rcases apm.1 h with rfl|h
  ·rw[hd];simp
  ·split
   ·exact ao1 _ (Iv h d hd)
   ·exact Iv h d hd
theorem WL(ops:Array Oper):∀(n k i:Nat),(sB ops k n)[i]?=if i<n then some (Mu ops (k+i))else none
 |0,k,i=>by simp [sB]
 |n+1,k,0=>by simp [sB]
 |n+1,k,i+1=>by rw[sB,apu,WL ops n (k+1) i];simp only[Nat.add_lt_add_iff_right];rw[show k+1+i=k+(i+1) by omega]
theorem Xc(ops:Array Oper)(m:Bool)(M:Array Nat):∀(n k i:Nat),(qE ops m M k n)[i]?=if i<n then some (Fk ops m M (k+i))else none
 |0,k,i=>by simp [qE]
 |n+1,k,0=>by simp [qE]
 |n+1,k,i+1=>by rw[qE,apu,Xc ops m M n (k+1) i];simp only[Nat.add_lt_add_iff_right];rw[show k+1+i=k+(i+1) by omega]
theorem Xo{L:Nat}:∀(A:apH Nat)(k i:Nat),i∈tt A L k↔k<=i/\Nat.testBit L i=false/\∃a,A[i-k]?=some a/\L&&&a=a
 |[],k,i=>by simp [tt]
 |a::A,k,i=>by
  have ih:=Xo (L:=L) A (k+1) i;unfold tt;have key:i∈tt A L (k+1)↔k<i/\Nat.testBit L i=false/\∃b,(a::A)[i-k]?=some b/\L&&&b=b:=by
   rw[ih];constructor
   ·rintro⟨h1,h2,b,h3,h4⟩;refine⟨h1,h2,b,?_,h4⟩;rw[show i-k=(i-(k+1))+1 by omega,apu];exact h3
   ·rintro⟨h1,h2,b,h3,h4⟩;refine⟨h1,h2,b,?_,h4⟩;rw[show i-k=(i-(k+1))+1 by omega,apu]at h3;exact h3
  cases hb:(!(Nat.testBit L k)&&(L&&&a==a))with
  |true=>
   simp only[cond_true,apm,key];simp only[aoU,Bool.not_eq_true',beq_iff_eq]at hb;constructor
   ·rintro(rfl|⟨h1,h2⟩)
    ·exact⟨ao3 _,hb.1,a,by simp,hb.2⟩
    ·exact⟨by omega,h2⟩
   ·rintro⟨h1,h2⟩;rcases Nat.lt_or_eq_of_le h1 with h|h
    ·exact .inr ⟨h,h2⟩
    ·exact .inl h.symm
  |false=>
   simp only[cond_false,key];constructor
   ·rintro⟨h1,h2⟩;exact⟨by omega,h2⟩
   ·rintro⟨h1,h2,b,h3,h4⟩;rcases Nat.lt_or_eq_of_le h1 with h|h
    ·exact⟨h,h2,b,h3,h4⟩
    ·subst h;simp at h3;subst h3;rw[h2]at hb;simp at hb;exact absurd h4 hb
theorem T2{C:apH Nat}{L:Nat}:∀{r:apH Nat}{k:Nat},Ch C L r=some k->k∈r/\(C.getD k 0)|||L=L
 |[],k,h=>by cases h
 |a::r,k,h=>by
  unfold Ch at h;cases hb:((C.getD a 0)|||L==L)with
  |true=>rw[hb]at h;cases h;exact⟨by simp,by simpa using hb⟩
  |false=>rw[hb]at h;have:=T2 h;exact⟨ao1 _ this.1,this.2⟩
structure LM(ops:Array Oper)(L:Nat)(listed:Array Bool):Prop where
 sz:listed.size=ops.size
 b:∀i,Nat.testBit L i=listed.getD i false
theorem LM.set{ops:Array Oper}{L:Nat}{listed:Array Bool}(h:LM ops L listed){k:Nat}(hk:k<ops.size):LM ops (L|||(1<<<k)) (listed.setIfInBounds k true):=by
 refine⟨by simp [h.sz],λi=> ?_⟩;rw[Nat.testBit_or,Nat.one_shiftLeft,Nat.testBit_two_pow,h.b i];by_cases e:k=i
 ·subst e;have:k<listed.size:=by rw[h.sz];exact hk
  simp [this]
 ·rw[getD_set_ne false e];simp [e]
theorem LM.ready{ops:Array Oper}{L:Nat}{listed:Array Bool}(h:LM ops L listed)(i:Nat):i∈Region.ready .any ops listed↔i∈tt (sB ops 0 ops.size) L 0:=by
 rw[mem_ready,Xo];simp only[Nat.zero_le,true_and,Nat.sub_zero,WL,apc];have Vw:∀j,ops.size<=j->Nat.testBit L j=false:=λj hj=>by
   rw[h.b,Array.getD_eq_getD_getElem?,Array.getElem?_eq_none (by rw[h.sz];exact hj)];rfl
 constructor
 ·rintro⟨h1,o,ho,h2⟩;have hi:=(ao7.1 ho).1;have RW:listed.getD i false=false:=by
   have c7:i<listed.size:=by rw[h.sz];exact hi
   simpa [c7]using h1
  refine⟨by rw[h.b];exact RW,_,by rw[if_pos hi],?_⟩;apply Nat.eq_of_testBit_eq;intro j;rw[Nat.testBit_and];unfold Mu;rw[ho];simp only[KL];cases hb:(decide (j<ops.size+1)&&zH o ops.size j)with
  |false=>simp
  |true=>
   simp only[Bool.and_true];rw[aoU]at hb;have hb:=hb.2;unfold zH at hb;rw[Array.any_eq_true']at hb;obtain⟨e,he,hb⟩:=hb;simp only[aoU,Bool.or_eq_true,beq_iff_eq,dI]at hb;have h3:=h2 e he hb.1;have:e.on<ops.size:=by
    rcases Nat.lt_or_ge e.on ops.size with hl|hl
    ·exact hl
    ·have:=Vw e.on hl;rw[h.b]at this;rw[this]at h3;cases h3
   rcases hb.2 with hj|⟨_,hj⟩
   ·rw[<-hj,h.b];exact h3
   ·omega
 ·rintro⟨h1,a,ha,h2⟩;split at ha
  ·next hi=>
   cases ha
   have ho:ops[i]?=some ops[i]:=ape hi;refine⟨?_,ops[i],ho,λe he PL=> ?_⟩
   ·rw[h.b]at h1;have c7:i<listed.size:=by rw[h.sz];exact hi
    simpa [c7]using h1
   ·have jS:∀j,j<ops.size+1->zH ops[i] ops.size j=true->Nat.testBit L j=true:=λj hj hf=>by
     have:=congrArg (λn=>Nat.testBit n j) h2;simp only[Nat.testBit_and]at this;unfold Mu at this;rw[ho]at this;simp only[KL]at this;rw[hf]at this
     simpa [hj]using this
    have Yd:∀j,(e.on==j||(j==ops.size&&b7 ops.size e.on))=true->zH ops[i] ops.size j=true:=λj hj=>by
     unfold zH;rw[Array.any_eq_true'];exact⟨e,he,by rw[PL,hj];rfl⟩
    rcases Nat.lt_or_ge e.on ops.size with hl|hl
    ·rw[<-h.b];exact jS e.on (by omega) (Yd _ (by simp))
    ·have:=jS ops.size (by omega) (Yd _ (by simp [dI.2 hl]));rw[Vw _ (ao3 _)]at this;cases this
  ·cases ha
section
variable {P:apK} {ops:Array Oper} {st:Oper->St->apJ St} {h0:Nat} {m:Bool} {N0:Nat} {K:St->Prop} {s0:St}
end
end Go.Proofs.YtmkmibahjanejaaGreatDoor
namespace Go.Proofs.YtmkmibahjanejaaGreatDoor
open Go.RowKit
inductive Ex
 |n
 |r
 |x (id:Nat)
def Re{α:Type}(n:Nat)(f:Nat->α):α:=Nat.casesOn (Nat.succ n) (f 0) f
theorem ajQ{α:Type}(n:Nat)(f:Nat->α):Re n f=f n:=rfl
def AV.force{α:Type}(x:AV)(f:AV->α):α:=
 match x with
 | .d (.v (.int k (.ofNat n)))=>Re n λn=>f (.d (.v (.int k (.ofNat n))))
 | .d (.v (.bool b))=>bif b then f (.d (.v (.bool true)))else f (.d (.v (.bool false)))
 |x=>f x
theorem AV.force_eq{α:Type}(x:AV)(f:AV->α):x.force f=f x:=by
 unfold AV.force;split
 ·rw[ajQ]
 ·next b=>cases b<;>rfl
 ·rfl
def HG{α:Type}:apH an->(apH an->α)->α
 |[],f=>f []
 |b::l,f=>HG l λr=>f (b::r)
theorem abn{α:Type}:∀(l:apH an)(f:apH an->α),HG l f=f l
 |[],_=>rfl
 |b::l,f=>by rw[HG,abn l]
abbrev Qt:=Bool->Nat->Code->St->apJ (Ex×St)
abbrev Sn:=FuncId->apH AV->apJ (apJ AV)
def aoQ:apJ (apJ AV)->Bool
 |some none=>true
 |_=>false
mutual
def AV.TJ:AV->apH Nat
 | .fn _ cs=>AV.OH cs
 |_=>[]
def AV.OH:apH AV->apH Nat
 |[]=>[]
 | .ptr n _::l=>n::AV.OH l
 |x::l=>x.TJ++AV.OH l
end
def LC:apH Nat->AV->apH an->apJ (AV×apH an)
 |[],r,h=>some (r,h)
 |b::l,r,h=>match h[b]? with
  |some (.cells cs)=>match nJ cs with
   |some ds=>LC l (r.fb b ds) ((h.map (an.fb b ds)).set b .gone)
   |none=>none
  |_=>none
def unD:AV->apJ D
 | .d x=>some x
 |_=>none
def KR:apH AV->apJ (apH D)
 |[]=>some []
 |x::l=>match unD x,KR l with
  |some d,some r=>some (d::r)
  |_,_=>none
def I0:apH (apH AV)->apJ (apH (apH D))
 |[]=>some []
 |x::l=>match KR x,I0 l with
  |some d,some r=>some (d::r)
  |_,_=>none
mutual
def AV.Vm:AV->Bool
 | .vec .. =>true
 | .agg cs=>AV.Mr cs
 | .bA cs=>AV.Mr cs
 | .fn _ cs=>AV.Mr cs
 |_=>false
def AV.Mr:apH AV->Bool
 |[]=>false
 |x::l=>x.Vm||AV.Mr l
end
def uJ:apH Nat->AV->apH an->AV×apH an
 |[],r,h=>(r,h)
 |b::l,r,h=>match h[b]? with
  |some (.vec _ k cs)=>match I0 cs with
   |some xs=>bif xs.all (λc=>c.all D.Bl)then(r.dF b k xs).force λr=>HG ((h.map (an.p5 (AV.dF b k xs))).set b .gone) λh=>uJ l r h else uJ l r h
   |none=>uJ l r h
  |_=>uJ l r h
def aje(h:apH an):apH Nat:=(List.range h.length).reverse++(List.range h.length).reverse
def GR(r:AV)(h:apH an):apJ AV:=
 match LC r.TJ r h with
 |some (r,_)=>some (r.bn 0)
 |none=>none
def XB(r:AV)(h:apH an):apJ AV:=
 bif r.Vm then(match uJ (aje h) r h with|(r,h)=>GR r h)else GR r h
section
variable (run:Qt) (P:apK) (Uw:Sn)
def bR(lo:Nat)(f:FuncId)(args:apH AV)(h:apH an):apJ (AV×apH an):=
 match P.funcs[f]? with
 |some fn=>match fn.body with
  |some c=>Re (args.length+(fn.ntmps-args.length)) λn=>match run true lo c ⟨n,mv 0 args,h⟩with
   |some (.x _,_)=>none
   |some (_,s)=>match vr P s fn.results.toList with
    |some l=>some (kK l,s.h)
    |none=>none
   |none=>none
  |none=>none
 |none=>none
end
section
variable {run:Qt} {P:apK} {Uw:Sn} {lo:Nat} {s s':St}
end
mutual
theorem Bb(m:Nat):∀x:AV,x.aP m=true->x.bn m=x
 | .own n xs,h=>by
   rw[AV.aP]at h;rw[AV.bn];cases e:b7 m n with
   |true=>rw[e]at h;cases h
   |false=>rfl
 | .agg cs,h=>by rw[AV.aP]at h;rw[AV.bn,LX m cs h]
 | .bA cs,h=>by rw[AV.aP]at h;rw[AV.bn,LX m cs h]
 | .fn f cs,h=>by rw[AV.aP]at h;rw[AV.bn,LX m cs h]
 | .d _,_=>by simp only[AV.bn]
 | .ptr ..,_=>by simp only[AV.bn]
 | .bz ..,_=>by simp only[AV.bn]
 | .full _,_=>by simp only[AV.bn]
 | .row ..,_=>by simp only[AV.bn]
 | .mp _,_=>by simp only[AV.bn]
 | .cO _,_=>by simp only[AV.bn]
 | .vec ..,_=>by simp only[AV.bn]
 | .di ..,_=>by simp only[AV.bn]
 | .hid _,_=>by simp only[AV.bn]
 | .dead,_=>by simp only[AV.bn]
theorem LX(m:Nat):∀l:apH AV,AV.nF m l=true->AV.qb m l=l
 |[],_=>by simp [AV.qb]
 |x::l,h=>by
  rw[AV.nF,aoU]at h;rw[AV.qb,Bb m x h.1,LX m l h.2]
end
theorem an6{m:Nat}{B:an}(h:B.aP m=true):B.bn m=B:=by
 cases B with
 |cells cs=>
  simp only[an.aP,api]at h;simp only[an.bn]
  congr 1
  exact(apn λx hx=>Bb m x (h x hx)).trans (List.map_id _)
 |lp ls p as bd cs=>
  simp only[an.aP,api]at h;simp only[an.bn]
  congr 1
  exact(apn λx hx=>Bb m x (h x hx)).trans (List.map_id _)
 |it sn cs=>
  simp only[an.aP,api]at h;simp only[an.bn]
  congr 1
  exact(apn λx hx=>Bb m x (h x hx)).trans (List.map_id _)
 |aT T0 cs=>
  simp only[an.aP,api]at h;simp only[an.bn]
  congr 1
  exact(apn λx hx=>Bb m x (h x hx)).trans (List.map_id _)
 |vec e k cs=>
  simp only[an.aP,api]at h;simp only[an.bn]
  congr 1
  exact(apn λx hx=>(apn λy hy=>Bb m y (h x hx y hy)).trans (List.map_id _)).trans (List.map_id _)
 |front e k len=>rfl
 |bg e b=>rfl
 |map kv=>rfl
 |fR kv=>rfl
 |gone=>rfl
theorem QF{m:Nat}{h:apH an}(e:h.all (an.aP m)=true):h.map (an.bn m)=h:=
 (apn λB hB=>an6 (api.1 e B hB)).trans (List.map_id _)
end Go.Proofs.YtmkmibahjanejaaGreatDoor
namespace Go.Proofs.YtmkmibahjanejaaGreatDoor
open Go.RowKit
section
variable {P:apK} {r:apJ Nat} {n N0:Nat} {G:Gh} {w:apM} {a:Act} {s:St} {o:Oper} {Q:Exit->St->Prop}
end
theorem cx.cut{P:apK}{f:FuncId}{args:apH AV}{h h':apH an}{r:AV}(m:Nat)(hc:cx P f args h λr1 h1=>r1=r/\h1=h')(h1:h.length<=m)(h2:m<=h'.length)(hb:(((h'.take m).map (an.bn m)).all (an.aP m))=true)(hr:(r.bn m).aP m=true):
 cx P f args h λr1 h1=>r1=r.bn m/\h1=(h'.take m).map (an.bn m):=by
 refine⟨hc.1,λG w vs hi hl hv=>(hc.2 G w vs hi hl hv).mono λe w' hp=> ?_⟩;obtain⟨v,G',_,_,rfl,hE,hN,c7,Ps,rfl,rfl⟩:=hp;exact⟨v,G'.cut m,_,_,rfl,hE.trans (qd _ _ _ _),by rw[<-hi.len];exact h1,NK c7 h2 hb,(Ps.bn m).cut hr,rfl,rfl⟩
section
variable {run:Qt} {P:apK} {Uw:Sn} {lo:Nat} {s s':St}
theorem cx.chg{f:FuncId}{args:apH AV}{h0 h h2:apH an}{r r2:AV}{tl:apH (Nat×AV)}(hc:cx P f args h0 λr1 h1=>r1=r/\h1=h)
 (hT:∀(G:Gh)(w:apM)(a:Act),cA G w a ⟨1,[(0,r)],h⟩->∃G',bx G.N G w G' w/\G'.N=G.N/\cA G' w a ⟨1,(0,r2)::tl,h2⟩):cx P f args h0 λr1 h1=>r1=r2/\h1=h2:=by
 refine⟨hc.1,λG w vs hi hl hv=>(hc.2 G w vs hi hl hv).mono λe w' hp=> ?_⟩;obtain⟨v,G',_,_,rfl,hE,hN,c7,Ps,rfl,rfl⟩:=hp;obtain⟨G2,e1,e2,e3⟩:=hT G' w' {tmps:= #[v],defers:=[]} ⟨rfl,λi=>by
  show aD G' w' _ (bp [(0,_)] i);rw[mX];split
  ·next ei=>subst ei;exact Ps
  ·exact .dead _,c7,se.nil _ _⟩
 exact⟨v,G2,r2,h2,rfl,hE.trans (e1.less hN),by rw[e2];exact hN,e3.inv,e3.tmp 0,rfl,rfl⟩
theorem abY{f:FuncId}{args:apH AV}{h0:apH an}:∀(l:apH Nat){h h2:apH an}{r r2:AV},(cx P f args h0 λr1 h1=>r1=r/\h1=h)->LC l r h=some (r2,h2)->cx P f args h0 λr1 h1=>r1=r2/\h1=h2
 |[],h,h2,r,r2,hc,e=>by cases e;exact hc
 |b::l,h,h2,r,r2,hc,e=>by
  unfold LC at e;split at e
  ·next cs e1=>
   split at e
   ·next ds e2=>
    refine abY l (cx.chg (tl:=[]) hc λG w a hs=> ?_) e;refine hs.Fg (b:=b) ?_;simp only[Go.Proofs.YtmkmibahjanejaaGreatDoor.Fg,e1,e2];rfl
   ·cases e
  ·cases e
theorem Zl:∀{l:apH AV}{ds:apH D},KR l=some ds->l=ds.map AV.d
 |[],ds,h=>by cases h;rfl
 |x::l,ds,h=>by
  unfold KR at h;split at h
  ·next d r e1 e2=>
   cases h
   rw[Zl e2];cases x<;>simp [unD]at e1
   subst e1;rfl
  ·cases h
theorem TY:∀{l:apH (apH AV)}{xs:apH (apH D)},I0 l=some xs->l=cD xs
 |[],xs,h=>by cases h;rfl
 |x::l,xs,h=>by
  unfold I0 at h;split at h
  ·next d r e1 e2=>cases h;rw[TY e2,Zl e1];rfl
  ·cases h
theorem E9{f:FuncId}{args:apH AV}{h0:apH an}:∀(l:apH Nat){h:apH an}{r:AV},(cx P f args h0 λr1 h1=>r1=r/\h1=h)->cx P f args h0 λr1 h1=>r1=(uJ l r h).1/\h1=(uJ l r h).2
 |[],h,r,hc=>hc
 |b::l,h,r,hc=>by
  unfold uJ;split
  ·next e k cs e1=>
   split
   ·next xs e2=>
    rw[AV.force_eq,abn,cond_eq_ite];split
    ·next h1=>
     refine E9 l (cx.chg (tl:=[]) hc λG w a hs=> ?_);have e3:=TY e2;exact hs.Y5 xs (by show h[b]?=_;rw[e1,e3]) (λc hc=>api.1 h1 c hc)
    ·exact E9 l hc
   ·exact E9 l hc
  ·exact E9 l hc
theorem TF{f:FuncId}{args:apH AV}{h:apH an}{r r2:AV}(hc:cx P f args [] λr1 h1=>r1=r/\h1=h)(e:XB r h=some r2)(hb:r2.aP 0=true):ic P f args (·=r2):=by
 have fin:∀{r:AV}{h:apH an},(cx P f args [] λr1 h1=>r1=r/\h1=h)->(r.bn 0).aP 0=true->ic P f args (·=r.bn 0):=λhc hb=>
  (hc.cut 0 (ao3 _) (Nat.zero_le _) (by simp) hb).mono λr1 h1 ⟨k1,k2⟩=>⟨by simpa using k2,k1⟩
 have gen:∀{r:AV}{h:apH an},(cx P f args [] λr1 h1=>r1=r/\h1=h)->GR r h=some r2->ic P f args (·=r2):=λhc e=>by
  unfold GR at e;split at e
  ·next r3 h3 e1=>
   cases e
   exact fin (abY _ hc e1) hb
  ·cases e
 unfold XB at e;rcases amZ e with⟨_,e⟩|⟨_,e⟩
 ·exact gen (E9 _ hc) e
 ·exact gen hc e
end
theorem Ww:∀(H' H e:apH an),H'.length=H.length->gV (List.range H.length) H' (H++e)=H'++e:=by
 intro H' H e hl;have gen:∀(n:Nat)(a b B r:apH an),b.length=n->B.length=n->gV ((List.range n).map (a.length+·)) B (a++(b++r))=a++(B++r):=by
  intro n
  induction n with
  |zero=>intro a b B r hb hB;rw[List.length_eq_zero_iff.1 hb,List.length_eq_zero_iff.1 hB];simp [gV]
  |succ n ih=>
   intro a b B r hb hB;cases b with
   |nil=>simp at hb
   |cons b0 b=>
    cases B with
    |nil=>simp at hB
    |cons B0 B=>
     rw[List.range_succ_eq_map,aph,List.map_map,gV];have e1:(a++(b0::b++r)).set (a.length+0) B0=(a++[B0])++(b++r):=by
       rw[Nat.add_zero,List.set_append_right _ _ (ao3 _),Nat.sub_self];simp
     have e2:(λx=>a.length+x)∘Nat.succ=λx=>(a++[B0]).length+x:=by
      funext x
      simp only[Function.comp_apply,aoT,aoV,ao4];omega
     rw[e1,e2,ih (a++[B0]) b B r (by simpa using hb) (by simpa using hB)];simp
 have:=gen H.length [] H H' e rfl hl
 simpa using this
theorem O9{P:apK}{k:Nat}{x:AV}{H:apH an}{C:Bool->apH an->Prop}(hy:YS P k x H C)(e:apH an)(hb:H.all (an.aP H.length)=true)(hx:x.aP H.length=true)
 (hC:∀b h',C b h'->h'.length=H.length/\h'.all (an.aP H.length)=true):YS P k x (H++e) λb h'=>∃H',C b H'/\h'=H'++e:=by
 intro G w v r n hi hv;have xx:∀i,i<H.length->rn (List.range H.length) (H++e).length i=i:=λi h=>Am (List.range H.length) _ i i (by rw[List.getElem?_range h]);have JC:∀y:AV,y.aP H.length=true->y.aK (rn (List.range H.length) (H++e).length)=y:=λy hy=>(yQ (τ:=id) xx y hy).trans (FM y);have Df:∀B:an,B.aP H.length=true->B.aK (rn (List.range H.length) (H++e).length)=B:=λB hB=>(M4 (τ:=id) xx B hB).trans (SF B);obtain⟨G0,b6,tH,tR,M0⟩:=Vo (H:=H) (l:=List.range H.length) (h:=H++e) List.nodup_range (λj hj=>by have:=List.mem_range.1 hj;simp;omega) (λi j nG=>by
  obtain⟨aH,rfl⟩:i<H.length/\j=i:=by
   have h1:=(aoS.1 nG).1;rw[List.length_range]at h1;rw[List.getElem?_range h1]at nG;exact⟨h1,(apb nG).symm⟩
  rw[ao2 aH,aoW aH,Option.map_some,Df _ (api.1 hb _ (List.getElem_mem aH))]) (by simp) hb hi
 obtain⟨hk,p,as,bd,fn,tm,D,h1,h2⟩:=hy G0 w v r n tH (aD.sM tR (by rw[JC x hx];exact hv) x rfl (by rw[b6];exact hx));have lF:k<H.length:=b6▸hk;have fO:G.aI k=G0.aI k:=by
  have:=tR.aI k hk
  rwa [xx k lF]at this
 refine⟨by have:=tR.lt k hk;rwa [xx k lF]at this,p,as,bd,fn,tm,D,by rw[fO];exact h1,?_⟩;rw[fO];refine h2.mono λe1 w' hp=> ?_;obtain⟨b,G1,H',rfl,hE,gu,jN,hc⟩:=hp;rw[b6]at hE gu;obtain⟨G2,a1,a2,a3,_⟩:=M0 G1 w' H' hE gu jN;obtain⟨c1,c2⟩:=hC b H' hc;refine⟨b,G2,H'++e,rfl,a1,a2,?_,H',hc,rfl⟩;have hm:H'.map (an.aK (rn (List.range H.length) (H++e).length))=H':=(apn λB hB=>Df B (api.1 c2 B hB)).trans (List.map_id _);rw[hm,Ww H' H e c1]at a3;exact a3
def nq(P:apK)(k:Nat):apH AV->(Bool->apH an->Prop)->apH an->Prop
 |[],C,h=>C true h
 |x::l,C,h=>YS P k x h λb h1=>(h1.length=h.length/\h1.all (an.aP h.length)=true)/\bif b then nq P k l C h1 else C false h1
theorem ab1{P:apK}{k:Nat}:∀(l:apH AV){C C':Bool->apH an->Prop}{h:apH an},(∀b h1,C b h1->C' b h1)->nq P k l C h->nq P k l C' h
 |[],_,_,_,hc,hs=>hc _ _ hs
 |x::l,C,C',h,hc,hs=>YS.mono hs λb h1 ⟨h2,h3⟩=>⟨h2,by
  cases b with
  |true=>exact ab1 l hc h3
  |false=>exact hc _ _ h3⟩
theorem aaZ{P:apK}{k:Nat}:∀(l l':apH AV){C:Bool->apH an->Prop}{h:apH an},nq P k (l++l') C h->nq P k l (λb h1=>bif b then nq P k l' C h1 else C false h1) h
 |[],_,_,_,hs=>hs
 |x::l,l',C,h,hs=>YS.mono hs λb h1 ⟨h2,h3⟩=>⟨h2,by
  cases b with
  |true=>exact aaZ l l' h3
  |false=>exact h3⟩
def vu(h h1:apH an):Prop:=h1.length=h.length/\h1.all (an.aP h.length)=true
def S4(P:apK)(gf:FuncId)(cU:apH AV)(xs:apH AV):Prop:=
 ∀(k:Nat)(h:apH an)(C:Bool->apH an->Prop),h.all (an.aP h.length)=true->k<h.length->nq P k xs C h->cx P gf (.cO k::cU) h λ_ h1=>∃b,C b h1
def YL(P:apK)(T:TypeId):apH AV:=match iw P T with|some z=>z.cells.toList.map λu=> .d (.v u)|none=>[]
section
variable {P:apK} {r:apJ Nat} {N0:Nat} {Q:Exit->St->Prop} {ops:Array Oper} {o o1 o2 o3 o4 o5:Oper} {s:St} {K:St->Prop} {id:Nat}
theorem cn{rest:apH Oper}(hg:o.guard=none)(h:nE P o (iU P ops rest K) s):iU P ops (o::rest) K s:=by
 unfold iU aGuard;rw[hg];exact h
theorem Dk{n d:Nat}{t:apH (Nat×AV)}{h h':apH an}{x:AV}{hd:HD}(hx:l9 P o.op (ev ⟨n,t,h⟩) h=some (x,hd))(gy:o.dst=some d)(hn:Nat.ble n d=false)(he:hd.app h=h')(hK:K ⟨n,(d,x)::t,h'⟩):nE P o K ⟨n,t,h⟩:=by
 refine .inr (.inr (.inl (Yr hx ?_)));show K ((St.wh ⟨n,t,h⟩ (hd.app h)).put o.dst x);rw[gy,he];have aH:d<n:=Nat.lt_of_not_le λhle=>by rw[Nat.ble_eq_true_of_le hle]at hn;cases hn
 rw[rG (s:=St.wh ⟨n,t,h⟩ h') aH];exact hK
theorem cY{n d:Nat}{t:apH (Nat×AV)}{h:apH an}{x:AV}(hx:l9 P o.op (ev ⟨n,t,h⟩) h=some (x, .same))(gy:o.dst=some d)(hn:Nat.ble n d=false)(hK:K ⟨n,(d,x)::t,h⟩):nE P o K ⟨n,t,h⟩:=Dk hx gy hn rfl hK
theorem SX{n:Nat}{t:apH (Nat×AV)}{h h':apH an}{x:AV}{hd:HD}(hx:l9 P o.op (ev ⟨n,t,h⟩) h=some (x,hd))(gy:o.dst=none)(he:hd.app h=h')(hK:K ⟨n,t,h'⟩):nE P o K ⟨n,t,h⟩:=by
 refine .inr (.inr (.inl (Yr hx ?_)));show K ((St.wh ⟨n,t,h⟩ (hd.app h)).put o.dst x);rw[gy,he];exact hK
theorem am8{h l:apH an}{i off:Nat}{cs:apH AV}(hi:l[i]?=some (.cells cs)):yk (h++l) (.ptr (h.length+i) off)=some (cs,off):=by
 unfold yk;simp only;rw[ao8 (apy _ _),Nat.add_sub_cancel_left,hi]
theorem y8{ρ:Operand->AV}{h l:apH an}{T:TypeId}{p:Operand}{i off:Nat}{cs:apH AV}{x:AV}(hp:ρ p= .ptr (h.length+i) off)(hi:l[i]?=some (.cells cs))(hl:Bp P T cs off=some x):l9 P (.load T p) ρ (h++l)=some (x, .same):=by
 unfold l9;simp only[hp,am8 hi,hl,pX]
theorem agF{ρ:Operand->AV}{h l:apH an}{T:TypeId}{y:Operand}{v:AV}(hv:ρ y=v)(hb:v.jw=true):l9 P (.box T y) ρ (h++l)=some (.ptr (h.length+l.length) 0, .push (.cells v.cells)):=by
 subst hv;unfold l9;simp only[hb,cond_true,aoT]
theorem PO{ρ:Operand->AV}{h l:apH an}{T:TypeId}(hz:(iw P T).isSome=true):l9 P (.alloc T) ρ (h++l)=some (.ptr (h.length+l.length) 0, .push (.cells (YL P T))):=by
 unfold l9 YL;cases e:iw P T with
 |none=>rw[e]at hz;cases hz
 |some z=>simp only[e,aoT]
theorem Ji{h l:apH an}{B:an}:(HD.push B).app (h++l)=h++(l++[B]):=by simp [HD.app]
theorem Sl{ρ:Operand->AV}{h l:apH an}{T:TypeId}{p y:Operand}{i off k:Nat}{cs:apH AV}{v:AV}(hp:ρ p= .ptr (h.length+i) off)(hi:l[i]?=some (.cells cs))(hk:fQ P T=some k)(hv:ρ y=v)(hb:(k==v.cells.length&&v.jw&&b7 (off+v.cells.length) cs.length)=true){bJ:apH AV}(gd:jj cs off v.cells=bJ):
 l9 P (.store T p y) ρ (h++l)=some (.d (.v undef), .set (h.length+i) (.cells bJ)):=by
 subst hv gd;unfold l9;simp only[hp,hk];rw[ao8 (apy _ _),Nat.add_sub_cancel_left,hi];simp only[hb,cond_true]
theorem RC{ρ:Operand->AV}{h:apH an}{T:TypeId}{a i:Operand}{xs:apH (apH D)}{q e k:Nat}{c:apH D}(hx:ρ a= .d (.sl xs))(hi:ρ i= .d (.v (.int .i64 (Int.ofNat q))))(hT:eE P T=some (e,k))(hc:xs[q]?=some c)(hk:(c.length==k)=true):l9 P (.indexAddr T a i) ρ h=some (.bz [c] 0 0, .same):=by
 unfold l9;simp only[hx,hi];unfold IG;simp only[hT,AV.fA,AV.int?,zN,hc,hk,cond_true,pX]
theorem Sy{h l:apH an}{B:an}{i:Nat}:(HD.set (h.length+i) B).app (h++l)=h++l.set i B:=by
 simp only[HD.app];rw[List.set_append_right _ _ (apy _ _),Nat.add_sub_cancel_left]
theorem amM{n d:Nat}{t:apH (Nat×AV)}{h:apH an}{T:TypeId}{x y:Operand}{p:TypeId}{xs:apH (apH D)}{q:TypeId×Nat}(ho:o.op= .binOp .eql T x y p)(hx:(ev ⟨n,t,h⟩ x).fA=some xs)(hy:ev ⟨n,t,h⟩ y= .d (.v (.slice none 0 0)))(hT:eE P T=some q)(gy:o.dst=some d)(hn:Nat.ble n d=false)
 (h1:xs=[]->K ⟨n,(d, .d (.v (.bool true)))::t,h⟩) (h2:K ⟨n,(d, .d (.v (.bool false)))::t,h⟩):nE P o K ⟨n,t,h⟩:=by
 refine .inr (.inl ?_);have aH:d<n:=Nat.lt_of_not_le λhle=>by rw[Nat.ble_eq_true_of_le hle]at hn;cases hn
 unfold Gf;simp only[ho,hx,hy,hT,xy,gy,rG (s:=⟨n,t,h⟩) aH];exact⟨h1,h2⟩
theorem JN{n d k:Nat}{t:apH (Nat×AV)}{h:apH an}{c:Call}{f:Operand}{x:AV}(ho:o.op= .call c)(hc:c.callee= .value f)(hf:ev ⟨n,t,h⟩ f= .cO k)(hx:c.args.toList.map (ev ⟨n,t,h⟩)=[x])(gy:o.dst=some d)(hn:Nat.ble n d=false)
 (hy:YS P k x h λb h'=>K ⟨n,(d, .d (.v (.bool b)))::t,h'⟩):nE P o K ⟨n,t,h⟩:=by
 refine .inr (.inr (.inr (.inl ?_)));unfold Ll;simp only[ho,hc,hf,hx];refine hy.mono λb h' hK=> ?_;have aH:d<n:=Nat.lt_of_not_le λhle=>by rw[Nat.ble_eq_true_of_le hle]at hn;cases hn
 rw[gy,rG (s:=St.wh ⟨n,t,h⟩ h') aH];exact hK
theorem Zb{n:Nat}{t:apH (Nat×AV)}{h:apH an}{c:Call}{f:Operand}{g:FuncId}{cU:apH AV}(ho:o.op= .call c)(hc:c.callee= .value f)(hf:ev ⟨n,t,h⟩ f= .fn g cU)
 (hA:cx P g (c.args.toList.map (ev ⟨n,t,h⟩)++cU) h λx h'=>K ((St.wh ⟨n,t,h⟩ h').put o.dst x)):nE P o K ⟨n,t,h⟩:=by
 refine .inr (.inr (.inl ?_));unfold rC cm;simp only[ho,hc,hf];exact hA
end
theorem anY{P:apK}{f:FuncId}{args:apH AV}{H:apH an}{K:AV->apH an->Prop}(hc:cx P f args H K)(e:apH an)(hb:H.all (an.aP H.length)=true)(ha:args.all (AV.aP H.length)=true)
 (hK:∀r h',K r h'->h'.length=H.length/\h'.all (an.aP H.length)=true/\r.aP H.length=true):cx P f args (H++e) λr h'=>∃H',K r H'/\h'=H'++e:=by
 have xx:∀i,i<H.length->rn (List.range H.length) (H++e).length i=i:=λi h=>Am (List.range H.length) _ i i (by rw[List.getElem?_range h]);have JC:∀y:AV,y.aP H.length=true->y.aK (rn (List.range H.length) (H++e).length)=y:=λy hy=>(yQ (τ:=id) xx y hy).trans (FM y);have Df:∀B:an,B.aP H.length=true->B.aK (rn (List.range H.length) (H++e).length)=B:=λB hB=>(M4 (τ:=id) xx B hB).trans (SF B);have:=hc.W1 (l:=List.range H.length) (h:=H++e) List.nodup_range (λj hj=>by have:=List.mem_range.1 hj;simp;omega) (λi j nG=>by
  obtain⟨aH,rfl⟩:i<H.length/\j=i:=by
   have h1:=(aoS.1 nG).1;rw[List.length_range]at h1;rw[List.getElem?_range h1]at nG;exact⟨h1,(apb nG).symm⟩
  rw[ao2 aH,aoW aH,Option.map_some,Df _ (api.1 hb _ (List.getElem_mem aH))]) (by simp) ha hb
 have ea:args.map (AV.aK (rn (List.range H.length) (H++e).length))=args:=(apn λx hx=>JC x (api.1 ha x hx)).trans (List.map_id _);rw[ea]at this;refine this.mono λr' h' ⟨r,H',k1,k2,k3⟩=> ?_;obtain⟨c1,c2,c3⟩:=hK r H' k1;have hm:H'.map (an.aK (rn (List.range H.length) (H++e).length))=H':=(apn λB hB=>Df B (api.1 c2 B hB)).trans (List.map_id _);rw[hm,Ww H' H e c1]at k3;rw[JC r c3]at k2;exact⟨H',by rw[k2];exact k1,k3⟩
theorem ana{h:apH an}{p:AV}{K K':apH AV->Nat->Prop}(hk:∀cs off,K cs off->K' cs off)(hp:ux h p K):ux h p K':=by
 unfold ux at hp ⊢;split at hp
 ·next n off=>
  split at hp
  ·next cs e=>(try simp only[e]);exact hk _ _ hp
  ·exact hp.elim
 ·next xs i off=>
  split at hp
  ·next cs e=>(try simp only[e]);exact hk _ _ hp
  ·exact hp.elim
 ·exact hp.elim
theorem aeD{P:apK}{T:TypeId}{h:apH an}{p:AV}{K K':AV->Prop}(hk:∀x,K x->K' x)(hp:oI P T h p K):oI P T h p K':=
 ana (λcs off hc=>by
  split at hc
  ·next k e1 e2=>
   try simp only[e1,e2]
   exact bN.2 ⟨(bN.1 hc).1,hk _ (bN.1 hc).2⟩
  ·next k e1 e2=>
   try simp only[e1,e2]
   split at hc
   ·next c e3=>(try simp only[e3]);exact hk _ hc
   ·exact hc.elim
  ·exact hc.elim) hp
theorem agj{P:apK}{fn:Func}{n:Nat}{t:apH (Nat×AV)}{H l:apH an}{K:AV->apH an->Prop}(hb:H.all (an.aP H.length)=true)(hr:nj P ⟨n,t,H++l⟩ fn.results.toList λrs=>((kK rs).bn H.length).aP H.length=true/\K ((kK rs).bn H.length) H):sN P fn H.length K ⟨n,t,H++l⟩:=by
 have ht:(((H++l).take H.length).map (an.bn H.length))=H:=by rw[List.take_left];exact QF hb
 unfold sN;show nj P ⟨n,t,H++l⟩ fn.results.toList λrs=>H.length<=(H++l).length/\_;simp only[ht];have gen:∀(rv:apH ResultVar){C C':apH AV->Prop},(∀x,C x->C' x)->nj P ⟨n,t,H++l⟩ rv C->nj P ⟨n,t,H++l⟩ rv C':=by
  intro rv
  induction rv with
  |nil=>intro C C' hc h;exact hc _ h
  |cons x rv ih=>
   intro C C' hc h;cases x with
   |tmp t=>exact ih (λy hy=>hc _ hy) h
   |cell p t=>exact aeD (λx h=>ih (λy hy=>hc _ hy) h) h
 exact gen _ (λrs ⟨h1,h2⟩=>⟨by simp,h1,hb,h2⟩) hr
theorem F8{n:Nat}{t:apH (Nat×AV)}{H l:apH an}(live:apH Nat)(hb:H.all (an.aP H.length)=true):(⟨n,t,H++l⟩:St).mask live H.length=⟨n,live.map λk=>(k,(bp t k).bn H.length),H⟩:=by
 unfold St.mask;rw[show((H++l).take H.length).map (an.bn H.length)=H by rw[List.take_left];exact QF hb]
theorem CX{n:Nat}{t:apH (Nat×AV)}{H l:apH an}(live:apH Nat)(hb:H.all (an.aP H.length)=true)(hl:(live.all λk=>((bp t k).bn H.length).aP H.length)=true):(⟨n,t,H++l⟩:St).okMask live H.length:=
 ⟨by simp,hl,by rw[show((H++l).take H.length).map (an.bn H.length)=H by rw[List.take_left];exact QF hb];exact hb⟩
theorem Ug{n:Nat}{t:apH (Nat×AV)}{H:apH an}(live:apH Nat)(hb:H.all (an.aP H.length)=true):(⟨n,t,H⟩:St).mask live H.length=⟨n,live.map λk=>(k,(bp t k).bn H.length),H⟩:=by
 have:=F8 (n:=n) (t:=t) (l:=[]) live hb
 rwa [apd]at this
theorem UK{n:Nat}{t:apH (Nat×AV)}{H:apH an}(live:apH Nat)(hb:H.all (an.aP H.length)=true)(hl:(live.all λk=>((bp t k).bn H.length).aP H.length)=true):(⟨n,t,H⟩:St).okMask live H.length:=by
 have:=CX (n:=n) (t:=t) (l:=[]) live hb hl
 rwa [apd]at this
theorem JU{k m:Nat}(h:k<m):((AV.cO k).bn m).aP m=true:=by simp [AV.bn,AV.aP,b7];omega
structure Li(s:St)(m:Nat)(s':St):Prop where
 cut:∀{G:Gh}{w:World}{a:Act},cA G w a s->cA (G.cut m) w a s'
theorem Li.S{s s':St}{live:apH Nat}{m:Nat}(h:iW s live m=some s'):Li s m s':=⟨λhs=>hs.iW h⟩
theorem ac5{P:apK}{r:apJ Nat}{N0 m:Nat}{c:Code}{s:St}{R R':Exit->St->Prop}(hm:N0<=m)(h:bj P r N0 c R s)(hR:∀e s2,R e s2->∃s',Li s2 m s'/\R' e s'):bj P r N0 c R' s:=by
 constructor
 intro G w a n hs hN;refine wpIn_mono (h.run G w a n hs hN) λe a1 w1 hn=> ?_;obtain⟨G1,s1,hE,_,e8,hq⟩:=hn;obtain⟨s',k1,k2⟩:=hR e s1 hq;exact⟨G1.cut m,s',hE.trans (qd _ _ _ _),hm,k1.cut e8,k2⟩
def Lk(m:Nat)(n:Nat)(T:apH (Nat×AV))(LP:an)(next:apH an->Prop)(Q:Exit->St->Prop)(e:Exit)(s:St):Prop:=
 ∃hs,hs.length=m/\hs.all (an.aP (m+1))=true/\Li s (m+1) ⟨s.n,[],hs++[LP]⟩/\match e with
  | .normal=>next hs
  | .ret=>Q .ret ⟨n,T,hs++[.gone]⟩
  | .exit i=>Q (.exit i) ⟨n,T,hs++[.gone]⟩
  |_=>False
theorem Qb{P:apK}{N0 n m:Nat}{T:apH (Nat×AV)}{H:apH an}{Q:Exit->St->Prop}{g:Operand}{p:Nat}{as bd:Code}{gf:FuncId}{cU:apH AV}(hg:ev ⟨n,T,H⟩ g= .fn gf cU){α:Type}{enc:α->AV}{xs:apH α}(hI:S4 P gf cU (xs.map enc))
 {ι:Type} (Hs:ι->apH an) (I:ι->apH α->Prop) (i0:ι) (h0:H=Hs i0) (tH:I i0 xs) (hl:∀i,(Hs i).length=m) (pG:∀i,(Hs i).all (an.aP (m+1))=true) (hT:(er n T).all (AV.aP (m+1))=true) (hp:Nat.ble n p=false)
 (round:∀i x l,I i (x::l)->∀(rr:Nat)(a b:Code),bj P (some rr) (m+1) as (gp (λs1=>∃hs e,hs.length=m/\s1.h=hs++ .lp .ready p a b (er n T)::e/\
  bj P (some rr) (m+1) bd (Lk m n T (.lp .busy p a b (er n T)) (λb8=>∃i',b8=Hs i'/\I i' l) Q) ⟨s1.n,s1.t,hs++ .lp .busy p a b (er n T)::e⟩) (λ_ _=>False)) ⟨n,(p,enc x)::mv 0 (er n T),Hs i++[.lp .ready p a b (er n T)]⟩)
 (done:∀i,I i []->Q .normal ⟨n,T,Hs i++[.gone]⟩):bj P none N0 (.rangeFunc g #[p] as bd) Q ⟨n,T,H⟩:=by
 subst h0;have hm:(Hs i0).length=m:=hl i0;have hnl:(er n T).length=n:=by simp [er]
 have Mk:∀ls,(an.lp ls p as bd (er n T)).aP (m+1)=true:=λls=>hT;refine akj hg ?_;show cx P gf (.cO (Hs i0).length::cU) (Hs i0++[.lp .ready p as bd (er n T)]) _;have GX:∀(hs:apH an)(B B':an),hs.length=m->(hs++[B]).set m B'=hs++[B']:=λhs B B' h=>by
  rw[List.set_append_right _ _ (Nat.le_of_eq h),h,Nat.sub_self];rfl
 have ej:∀(hs:apH an)(B:an)(e:apH an),hs.length=m->(hs++B::e)[m]?=some B:=λhs B e h=>by
  rw[ao8 (Nat.le_of_eq h),h,Nat.sub_self];rfl
 have seq:∀(l:apH α)(i:ι),I i l->nq P m (l.map enc) (λb h1=>∃(hs:apH an)(ls:LS),hs.length=m/\h1=hs++[.lp ls p as bd (er n T)]/\Ra P N0 Q ⟨n,T,hs++[.gone]⟩ ls) (Hs i++[.lp .ready p as bd (er n T)]):=by
  intro l
  induction l with
  |nil=>intro i hi;exact⟨Hs i, .ready,hl i,rfl,done i hi⟩
  |cons x l ih=>
   intro i hi;have hlen:(Hs i++[an.lp .ready p as bd (er n T)]).length=m+1:=by simp [hl i]
   refine afU ⟨p,as,bd,er n T,ej _ _ [] (hl i),?_,λrr=> ?_⟩
   ·rw[hnl];exact Nat.lt_of_not_le λhle=>by rw[Nat.ble_eq_true_of_le hle]at hp;cases hp
   ·rw[hlen,hnl];refine(round i x l hi rr as bd).mono λe s1 e8=> ?_;cases e with
    |normal=>
     obtain⟨hs,e',k1,k2,k3⟩:=e8;refine⟨p,as,bd,er n T,by rw[k2];exact ej _ _ _ k1,?_⟩;have hse:s1.h.set m (.lp .busy p as bd (er n T))=hs++ .lp .busy p as bd (er n T)::e':=by
      rw[k2,List.set_append_right _ _ (Nat.le_of_eq k1),k1,Nat.sub_self];rfl
     rw[hse];refine ac5 (ao3 _) k3 λe2 s2 hr=> ?_;obtain⟨Bc,c2,c5,c3,c4⟩:=hr;refine⟨_,c3,?_⟩;have eK:∀B,B.aP (m+1)=true->(Bc++[B]).all (an.aP (m+1))=true:=λB hB=>by
       rw[List.all_append,c5];simp [hB]
     have DZ:(Bc++[an.lp .busy p as bd (er n T)])[m]?=some (.lp .busy p as bd (er n T)):=ej _ _ [] c2;cases e2 with
     |normal=>
      obtain⟨i',rfl,c7⟩:=c4;refine⟨p,as,bd,er n T,DZ,?_⟩;simp only[GX _ _ _ c2];exact⟨⟨by simp [hl],eK _ (Mk _)⟩,ih i' c7⟩
     |ret=>
      refine⟨p,as,bd,er n T,DZ,?_⟩;simp only[GX _ _ _ c2];exact⟨⟨by simp [c2],eK _ (Mk _)⟩,Bc, .done .ret,c2,rfl,gM c4⟩
     |exit j=>
      refine⟨p,as,bd,er n T,DZ,?_⟩;simp only[GX _ _ _ c2];exact⟨⟨by simp [c2],eK _ (Mk _)⟩,Bc, .done (.exit j),c2,rfl,uC c4⟩
     |_=>exact c4.elim
    |_=>exact e8.elim
 have TZ:(Hs i0++[an.lp .ready p as bd (er n T)]).length=m+1:=by simp [hm]
 refine(hI (Hs i0).length _ _ (by rw[TZ,List.all_append,pG i0];simp [Mk]) (by rw[TZ,hm];exact apF m) (by rw[hm];exact seq xs i0 tH)).mono λ_ h1 hb=> ?_;obtain⟨b,hs,ls,k1,rfl,k2⟩:=hb;refine⟨ls,p,as,bd,er n T,?_,?_⟩
 ·show(hs++[an.lp ls p as bd (er n T)])[(Hs i0).length]?=_;rw[hm];exact ej _ _ [] k1
 ·show Ra P N0 Q ⟨n,T,(hs++[an.lp ls p as bd (er n T)]).set (Hs i0).length .gone⟩ ls;rw[hm,GX _ _ _ k1];exact k2
section
variable {m n:Nat} {T:apH (Nat×AV)} {LP:an} {next:apH an->Prop} {Q:Exit->St->Prop} {s:St}
theorem P4(hs:apH an)(hl:hs.length=m)(hb:hs.all (an.aP (m+1))=true)(hc:iW s [] (m+1)=some ⟨s.n,[],hs++[LP]⟩)(hn:next hs):Lk m n T LP next Q .normal s:=⟨hs,hl,hb, .S hc,hn⟩
theorem XL(hs:apH an)(hl:hs.length=m)(hb:hs.all (an.aP (m+1))=true)(hc:iW s [] (m+1)=some ⟨s.n,[],hs++[LP]⟩)(hq:Q .ret ⟨n,T,hs++[.gone]⟩):Lk m n T LP next Q .ret s:=⟨hs,hl,hb, .S hc,hq⟩
theorem ah1{i:Nat}(hs:apH an)(hl:hs.length=m)(hb:hs.all (an.aP (m+1))=true)(hc:iW s [] (m+1)=some ⟨s.n,[],hs++[LP]⟩)(hq:Q (.exit i) ⟨n,T,hs++[.gone]⟩):Lk m n T LP next Q (.exit i) s:=⟨hs,hl,hb, .S hc,hq⟩
end
set_option linter.unusedSimpArgs false
set_option linter.unusedVariables false
abbrev Lf:=St×apH Nat×apH (Nat×apH (In×bQ))
def ve(go:Nat->apJ (apH Lf)):apH Nat->apJ (apH Lf)
 |[]=>some []
 |k::r=>match go k with
  |some a=>match ve go r with
   |some b=>some (a++b)
   |none=>none
  |none=>none
def Ah(P:apK)(ops:Array Oper)(A C:apH Nat)(as:apH (Nat×bQ)):Nat->Nat->apH Nat->apH (Nat×apH (In×bQ))->St->apJ (apH Lf)
 |0,L,al,acc,s=>match tt A L 0 with
  |[]=>some [(s,al,acc)]
  |_=>none
 |f+1,L,al,acc,s=>match tt A L 0 with
  |[]=>some [(s,al,acc)]
  |k0::r=>ve (λk=>match ops[k]? with
     |some o=>match oS P ops true o k as s with
      |some (s1,l)=>fN (L|||(1<<<k)) λL=>Ah P ops A C as f L (al++List.replicate (s1.h.length-s.h.length) k) ((k,l)::acc) s1
      |none=>none
     |none=>none) (match Ch C L (k0::r)with
      |some k=>[k]
      |none=>k0::r)
theorem W0{go:Nat->apJ (apH Lf)}:∀{l:apH Nat}{ls:apH Lf},ve go l=some ls->∀k∈l,∃a,go k=some a/\∀x∈a,x∈ls
 |[],_,_,k,hk=>by cases hk
 |j::r,ls,h,k,hk=>by
  unfold ve at h;split at h
  ·next a e1=>
   split at h
   ·next b e2=>
    cases h
    rcases apm.1 hk with rfl|hk
    ·exact⟨a,e1,λx hx=>List.mem_append_left _ hx⟩
    ·obtain⟨a',e3,h3⟩:=W0 e2 k hk;exact⟨a',e3,λx hx=>List.mem_append_right _ (h3 x hx)⟩
   ·cases h
  ·cases h
section
variable {P:apK} {ops:Array Oper} {as:apH (Nat×bQ)} {K:St->Prop} {s0:St}
theorem aer{o:Oper}{j:Nat}{dr:Bool}{s s1:St}{l:apH (In×bQ)}(h:oS P ops dr o j as s=some (s1,l))(ho:o∈ops.toList)(hB:lV (ph ops.toList) s0 s):lV (ph ops.toList) s0 s1:=by
 have cI:∀{i a r l},wm i a r=some (s1,l)->∃m,r=some (s1,m):=fun{i a r l} h=>by
  unfold wm at h;split at h
  ·exact⟨_,h⟩
  ·split at h
   ·cases h;exact⟨_,rfl⟩
   ·cases h
 have cR:∀{m r l},rI m r=some (s1,l)->∃m,r=some (s1,m):=fun{m r l} h=>by
  unfold rI at h;split at h
  ·cases h;exact⟨_,rfl⟩
  ·cases h
 have WA:lV (ph ops.toList) s0 (Ew o s):=hB.put s.h (.d (.v undef)) (Iv ho);have st:∀l,n5 P dr o j as s=some (s1,l)->lV (ph ops.toList) s0 s1:=λl h=>by
  unfold n5 at h;cases hd:dr&&zT (iV as (3*j+1))&& !Bj o (iV as (3*j+1))with
  |true=>rw[hd]at h;cases h
  |false=>
   rw[hd]at h;simp only[cond_false]at h;split at h
   ·split at h<;>(obtain⟨m,e⟩:=cI h;cases e;exact hB.put _ _ (Iv ho))
   ·cases h
 unfold oS at h;split at h
 ·exact st _ h
 ·split at h
  ·obtain⟨m,e⟩:=cR h;revert e;generalize ((_:Bool)==_)=q;intro e;cases q with
   |true=>exact st _ e
   |false=>cases e;exact WA
  ·obtain⟨m,e⟩:=cR h;cases e;exact WA
  ·cases h
theorem aai(hK:wa K)(hM:sJ (Region.before ops) ops=true)(t0:apH (Nat×AV)):
 ∀(fuel L:Nat)(listed:Array Bool)(al:apH Nat)(acc:apH (Nat×apH (In×bQ)))(s:St)(ls:apH Lf),LM ops L listed->Dn ops listed->Ah P ops (sB ops 0 ops.size) (qE ops false (Region.before ops) 0 ops.size) as fuel L al acc s=some ls->
  (∃x,x∈ls)/\(∀x∈ls,(∀p∈acc,p∈x.2.2)/\((∃pre,s.t=pre++t0)->∃pre,x.1.t=pre++t0)/\(lV (ph ops.toList) s0 s->lV (ph ops.toList) s0 x.1))/\((∀x∈ls,(∀p∈x.2.2,gw P p.2)/\K x.1)->pw false P ops K fuel listed s)
 |0,L,listed,al,acc,s,ls,hL,hD,h=>by
  unfold Ah at h;split at h
  ·next hr=>
   cases h
   refine⟨⟨_,aoY⟩,λx hx=> ?_,λhk=>⟨?_,(hk _ aoY).2⟩⟩
   ·rw[List.mem_singleton]at hx;subst hx;exact⟨λ_ h=>h,λh=>h,λh=>h⟩
   ·rw[List.eq_nil_iff_forall_not_mem];intro i hi;have:=(hL.ready i).1 hi;rw[hr]at this;cases this
  ·cases h
 |fuel+1,L,listed,al,acc,s,ls,hL,hD,h=>by
  have mem:∀{k:Nat}{o:Oper},ops[k]?=some o->o∈ops.toList:=λho=>Array.mem_toList_iff.2 (Array.mem_of_getElem? ho);unfold Ah at h;split at h
  ·next hr=>
   cases h
   refine⟨⟨_,aoY⟩,λx hx=> ?_,λhk=>⟨λ_=>(hk _ aoY).2,λi hi=> ?_⟩⟩
   ·rw[List.mem_singleton]at hx;subst hx;exact⟨λ_ h=>h,λh=>h,λh=>h⟩
   ·have:=(hL.ready i).1 hi;rw[hr]at this;cases this
  ·next k0 r hr=>
   generalize hgo:(λk:Nat=>(match ops[k]? with
    |some o=>match oS P ops true o k as s with
     |some (s1,l)=>fN (L|||(1<<<k)) λL=>Ah P ops (sB ops 0 ops.size) (qE ops false (Region.before ops) 0 ops.size) as fuel L (al++List.replicate (s1.h.length-s.h.length) k) ((k,l)::acc) s1
     |none=>none
    |none=>none:apJ (apH Lf)))=go at h
   have one:∀k a,k∈Region.ready .any ops listed->go k=some a->∃o s1 l,ops[k]?=some o/\oS P ops true o k as s=some (s1,l)/\(∃x,x∈a)/\(∀x∈a,(∀p∈(k,l)::acc,p∈x.2.2)/\((∃pre,s.t=pre++t0)->∃pre,x.1.t=pre++t0)/\(lV (ph ops.toList) s0 s->lV (ph ops.toList) s0 x.1))/\
       ((∀x∈a,(∀p∈x.2.2,gw P p.2)/\K x.1)->∃y h1,nI false P ops o s y h1/\pw false P ops K fuel (listed.setIfInBounds k true) ((s.wh h1).put o.dst y)):=λk a Ja uV=>by
    rw[<-hgo]at uV;simp only at uV;split at uV
    ·next o ho=>
     split at uV
     ·next s1 l hg=>
      rw[B4]at uV;obtain⟨h1,h2,h3⟩:=aai hK hM t0 fuel _ _ _ _ s1 a (hL.set (ao7.1 ho).1) (hD.set Ja) uV;refine⟨o,s1,l,ho,hg,h1,λx hx=>⟨(h2 x hx).1,fun⟨pre,hp⟩=> ?_,λhB=>(h2 x hx).2.2 (aer hg (mem ho) hB)⟩,λhk=> ?_⟩
      ·obtain⟨⟨p1,e1⟩,_⟩:=ab8 hg;exact(h2 x hx).2.1 ⟨p1++pre,by rw[e1,hp,ao9]⟩
      ·obtain⟨x,hx⟩:=h1;have hl:gw P l:=(hk x hx).1 (k,l) ((h2 x hx).1 _ aoY);have h4:=D5 (K:=(·=s1)) hg hl rfl;have h5:=h3 hk;have:∃y h1,nI false P ops o s y h1/\(s.wh h1).put o.dst y=s1:=by
        rcases Pf h4 with⟨g,hd⟩|⟨g,hd⟩
        ·obtain⟨y,h1,h2,h3⟩:=QO hd;exact⟨y,h1, .inl ⟨g,h2⟩,h3⟩
        ·exact⟨_,s.h, .inr ⟨g,rfl,rfl⟩,hd⟩
       obtain⟨y,hh,q1,rfl⟩:=this;exact⟨y,hh,q1,h5⟩
     ·cases uV
    ·cases uV
   cases hf:Ch (qE ops false (Region.before ops) 0 ops.size) L (k0::r)with
   |some k=>
    rw[hf]at h;obtain⟨vF,JA⟩:=T2 hf;have Ja:k∈Region.ready .any ops listed:=(hL.ready k).2 (by rw[hr];exact vF);unfold ve at h;split at h
    ·next a e1=>
     unfold ve at h;simp only[apd]at h;cases h
     obtain⟨o,s1,l,ho,hg,h1,h2,h3⟩:=one k _ Ja e1;refine⟨h1,λx hx=>⟨λp hp=>(h2 x hx).1 p (ao1 _ hp),(h2 x hx).2⟩,λhk=> ?_⟩;obtain⟨y,hh,q1,q2⟩:=h3 hk;refine OO hK hM ho fuel listed s hD (λj oj hj cp tP yj=> ?_) Ja q1 q2;have Je:=(ao7.1 hj).1;have F5:=(ao7.1 ho).1;have ai8:Nat.testBit L j=false:=by
      rw[hL.b];have iC:j<listed.size:=by rw[hL.sz];exact Je
      simpa [iC]using tP
     have zh:Nat.testBit (Fk ops false (Region.before ops) k) j=false:=by
      rw[<-Bool.not_eq_true];intro hc;have h5:(qE ops false (Region.before ops) 0 ops.size).getD k 0=Fk ops false (Region.before ops) k:=by
        rw[List.getD_eq_getElem?_getD,Xc,if_pos F5,apc];rfl
      rw[h5]at JA;have:=congrArg (λn=>Nat.testBit n j) JA;simp only[Nat.testBit_or,hc,ai8]at this;cases this
     unfold Fk at zh;rw[KL]at zh;unfold Un at zh;rw[yj,ho,hj]at zh;simp [Je,cp]at zh;exact zh
    ·cases h
   |none=>
    rw[hf]at h;have aaq:=W0 h;have E6:k0∈Region.ready .any ops listed:=(hL.ready k0).2 (by rw[hr];simp);have back:∀(l:apH Nat)(ls:apH Lf),ve go l=some ls->∀x∈ls,∃k∈l,∃a,go k=some a/\x∈a:=by
      intro l
      induction l with
      |nil=>intro ls h x hx;cases h;cases hx
      |cons j r ih=>
       intro ls h x hx;unfold ve at h;split at h
       ·next a e1=>
        split at h
        ·next b e2=>
         cases h
         rcases apv.1 hx with hx|hx
         ·exact⟨j,aoY,a,e1,hx⟩
         ·obtain⟨k,hk,a',h1,h2⟩:=ih b e2 x hx;exact⟨k,ao1 _ hk,a',h1,h2⟩
        ·cases h
       ·cases h
    refine⟨?_,λx hx=> ?_,λhk=>⟨λe=>(by rw[e]at E6;cases E6),λi hi oi Xu=> ?_⟩⟩
    ·obtain⟨a,e1,h1⟩:=aaq k0 aoY;obtain⟨o,s1,l,ho,hg,⟨x,hx⟩,_⟩:=one k0 a E6 e1;exact⟨x,h1 x hx⟩
    ·obtain⟨k,hk,a,e1,UU⟩:=back _ _ h x hx;obtain⟨o,s1,l,ho,hg,h1,h2,h3⟩:=one k a ((hL.ready k).2 (by rw[hr];exact hk)) e1;exact⟨λp hp=>(h2 x UU).1 p (ao1 _ hp),(h2 x UU).2⟩
    ·have c7:i∈k0::r:=by rw[<-hr];exact(hL.ready i).1 hi
     obtain⟨a,e1,h1⟩:=aaq i c7;obtain⟨o,s1,l,ho,hg,_,_,h3⟩:=one i a hi e1;rw[ho]at Xu;cases Xu;exact h3 λx hx=>hk x (h1 x hx)
end
def NN(k:Nat):apH Nat->Nat
 |[]=>0
 |j::l=>bif b7 (j+1) k then NN k l+1 else NN k l
def Rp(k:Nat):apH Nat->Nat
 |[]=>0
 |j::l=>bif j==k then Rp k l+1 else Rp k l
def Ti(h0:Nat)(all:apH Nat):apH Nat->apH Nat->apH Nat
 |_,[]=>[]
 |pre,k::l=>fN (h0+NN k all+Rp k pre) λq=>q::Ti h0 all (k::pre) l
def Vn(q:Nat):apH Nat->Nat->Nat
 |[],i=>i
 |x::l,i=>bif x==q then i else Vn q l (i+1)
def Q1(h0:Nat)(p:apH Nat):Nat->Nat->apH Nat
 |0,_=>[]
 |n+1,q=>fN (Vn q p h0) λi=>i::Q1 h0 p n (q+1)
def Ff(a:Nat×apH (In×bQ)):apH (Nat×apH (In×bQ))->apH (Nat×apH (In×bQ))
 |[]=>[a]
 |b::l=>bif b7 a.1 b.1 then a::b::l else b::Ff a l
def CE:apH (Nat×apH (In×bQ))->apH (Nat×apH (In×bQ))
 |[]=>[]
 |a::l=>Ff a (CE l)
def JV:apH (Nat×apH (In×bQ))->apH (In×bQ)
 |[]=>[]
 |a::l=>a.2++JV l
def sx(p q:apH Nat)(h0:Nat)(h:apH an):Nat->Nat->apH an
 |0,_=>[]
 |n+1,i=>(match h[ft h0 q i]? with|some B=>B.aK (ft h0 p)|none=> .gone)::sx p q h0 h n (i+1)
def zY(h0:Nat)(p:apH Nat):Bool:=(List.range p.length).all λi=>p.getD i 0==h0+i
theorem acT{h0:Nat}{p:apH Nat}(h:zY h0 p=true):ft h0 p=id:=by
 funext i
 unfold ft;cases e:b7 h0 i with
 |false=>rfl
 |true=>
  rw[dI]at e;simp only[cond_true,id];by_cases hi:i-h0<p.length
  ·unfold zY at h;rw[api]at h;have:=h (i-h0) (List.mem_range.2 hi);rw[beq_iff_eq,List.getD_eq_getElem?_getD,aoW hi]at this;rw[List.getD_eq_getElem?_getD,aoW hi];simp only[Option.getD_some]at this ⊢;omega
  ·rw[List.getD_eq_getElem?_getD,apo (by omega)];rfl
def ab6(aS:apH Nat)(s:St)(x:Lf)(p q:apH Nat):apJ (apH (Nat×AV)×apH an×apH (In×bQ)):=
 bif (x.1.t.take (x.1.t.length-s.t.length)).all (λp=>aS.any (·==p.1)||X0 (bp s.t p.1))&&(List.range x.1.h.length).all (λi=>b7 (ft s.h.length p i+1) x.1.h.length&&b7 (ft s.h.length q i+1) x.1.h.length&&ft s.h.length q (ft s.h.length p i)==i&&ft s.h.length p (ft s.h.length q i)==i)
 then some (aS.map λk=>(k,(bp x.1.t k).aK (ft s.h.length p)),bif zY s.h.length p then x.1.h else sx p q s.h.length x.1.h x.1.h.length 0,JV (CE x.2.2))else none
def Lh(aS:apH Nat)(s:St)(x:Lf):apJ (apH (Nat×AV)×apH an×apH (In×bQ)):=
 fL (Ti s.h.length x.2.1 [] x.2.1) λp=>fL (Q1 s.h.length p p.length s.h.length) λq=>ab6 aS s x p q
def MH(aS:apH Nat)(s:St):apH Lf->apJ (apH (apH (Nat×AV)×apH an×apH (In×bQ)))
 |[]=>some []
 |x::l=>match Lh aS s x with
  |some a=>match MH aS s l with
   |some b=>some (a::b)
   |none=>none
  |none=>none
def KY(P:apK)(ol:apH Oper)(as:apH (Nat×bQ))(aS:apH Nat)(s:St):apJ (apH (apH (Nat×AV)×apH an×apH (In×bQ))):=
 bif sJ (Region.before ol.toArray) ol.toArray then fL (sB ol.toArray 0 ol.toArray.size) λA=>fL (qE ol.toArray false (Region.before ol.toArray) 0 ol.toArray.size) λC=>
  match Ah P ol.toArray A C as ol.toArray.size 0 [] [] s with
  |some ls=>MH aS s ls
  |none=>none
 else none
theorem acs{aS:apH Nat}{s:St}:∀{ls:apH Lf}{r},MH aS s ls=some r->∀x∈ls,∃a∈r,Lh aS s x=some a
 |[],_,_,x,hx=>by cases hx
 |y::l,r,h,x,hx=>by
  unfold MH at h;split at h
  ·next a e1=>
   split at h
   ·next b e2=>
    cases h
    rcases apm.1 hx with rfl|hx
    ·exact⟨a,aoY,e1⟩
    ·obtain⟨a',h1,h2⟩:=acs e2 x hx;exact⟨a',ao1 _ h1,h2⟩
   ·cases h
  ·cases h
theorem Zg{a x:Nat×apH (In×bQ)}:∀{l:apH (Nat×apH (In×bQ))},x∈Ff a l↔x=a\/x∈l
 |[]=>by simp [Ff]
 |b::l=>by
  unfold Ff;cases b7 a.1 b.1 with
  |true=>simp
  |false=>
   simp only[cond_false,apm,Zg (l:=l)];constructor
   ·rintro(h|h|h)
    ·exact .inr (.inl h)
    ·exact .inl h
    ·exact .inr (.inr h)
   ·rintro(h|h|h)
    ·exact .inr (.inl h)
    ·exact .inl h
    ·exact .inr (.inr h)
theorem WB{x:Nat×apH (In×bQ)}:∀{l:apH (Nat×apH (In×bQ))},x∈CE l↔x∈l
 |[]=>by simp [CE]
 |a::l=>by rw[CE,Zg,WB (l:=l),apm]
theorem T8{P:apK}:∀{l:apH (Nat×apH (In×bQ))},gw P (JV l)->∀p∈l,gw P p.2
 |[],_,p,hp=>by cases hp
 |a::l,h,p,hp=>by
  unfold JV at h;rcases apm.1 hp with rfl|hp
  ·exact λq hq=>h q (List.mem_append_left _ hq)
  ·exact T8 (λq hq=>h q (List.mem_append_right _ hq)) p hp
theorem Yi{p q:apH Nat}{h0:Nat}{h:apH an}:∀(n i j:Nat),(sx p q h0 h n i)[j]?=if j<n then some (match h[ft h0 q (i+j)]? with|some B=>B.aK (ft h0 p)|none=> .gone)else none
 |0,i,j=>by simp [sx]
 |n+1,i,0=>by simp [sx]
 |n+1,i,j+1=>by
  rw[sx,apu,Yi n (i+1) j];simp only[Nat.add_lt_add_iff_right];rw[show i+1+j=i+(j+1) by omega]
theorem Ym{p q:apH Nat}{h0:Nat}{h:apH an}:∀(n i:Nat),(sx p q h0 h n i).length=n
 |0,_=>rfl
 |n+1,i=>by rw[sx,aoV,Ym n]
theorem acK{P:apK}{ops:Array Oper}{N0:Nat}{aS:apH Nat}{s:St}{x:Lf}{Δ:apH (Nat×AV)}{h':apH an}{ps:apH (In×bQ)}(h:Lh aS s x=some (Δ,h',ps))(hN:N0<=s.h.length)(yH:∀i,(bp s.t i).aP s.h.length=true)
 (hn:x.1.n=s.n) (hp:∃pre,x.1.t=pre++s.t) (bO:gw P ps):jJ N0 x.1 ⟨s.n,Δ++s.t,h'⟩/\∀p∈x.2.2,gw P p.2:=by
 unfold Lh at h;rw[GC,GC]at h;generalize Ti s.h.length x.2.1 [] x.2.1=p at h;generalize Q1 s.h.length p p.length s.h.length=q at h;unfold ab6 at h;obtain⟨hb,he⟩:=eu h;cases he
 rw[aoU]at hb;obtain⟨hb,hc⟩:=hb;simp only[api,List.mem_range,aoU,beq_iff_eq,dI]at hc;have yL:∀i,i<s.h.length->ft s.h.length p i=i:=λi hi=>by
   unfold ft;have:b7 s.h.length i=false:=by rw[<-Bool.not_eq_true,dI];omega
   rw[this];rfl
 refine⟨?_,λy hy=>T8 bO y (WB.2 hy)⟩;refine jJ.aK (ft s.h.length p) (ft s.h.length q) hn (by
  cases zY s.h.length p with
  |true=>rfl
  |false=>exact Ym _ _) (λi hi=>(hc i hi).1.1.1) (λi hi=>(hc i hi).1.1.2) (λi hi=>(hc i hi).1.2) (λi hi=>(hc i hi).2) (λi hi=>yL i (by omega)) (λi _=> ?_) λi hi=> ?_
 ·obtain⟨pre,e1⟩:=hp;have yu:∀(f:Nat->AV),(aS.map λk=>(k,f k)).map (·.1)=aS:=λf=>by rw[List.map_map];exact List.map_id _
  show bp ((aS.map λk=>(k,(bp x.1.t k).aK (ft s.h.length p)))++s.t) i=_\/_;rcases EK (aS.map λk=>(k,(bp x.1.t k).aK (ft s.h.length p))) s.t i with⟨h1,h2⟩|⟨h1,h2⟩
  ·rw[yu]at h1;rw[h2,ta (λk=>(bp x.1.t k).aK (ft s.h.length p)),if_pos h1];exact .inl rfl
  ·rw[yu]at h1;show _\/bp ((aS.map λk=>(k,(bp x.1.t k).aK (ft s.h.length p)))++s.t) i=_;rw[h2];rw[e1,aoT,Nat.add_sub_cancel,List.take_left']at hb
   ·rw[e1];rcases EK pre s.t i with⟨h3,h4⟩|⟨h3,h4⟩
    ·right
     obtain⟨y,hy,rfl⟩:=List.mem_map.1 h3;have:=api.1 hb y hy;rw[Bool.or_eq_true]at this;rcases this with this|this
     ·exfalso;obtain⟨k,hk,e⟩:=List.any_eq_true.1 this;rw[beq_iff_eq]at e;exact h1 (e▸hk)
     ·generalize bp s.t y.1=z at this;cases z<;>first|rfl|cases this
    ·left
     rw[h4,yQ (τ:=id) yL _ (yH i),FM]
   ·rfl
 ·show(bif zY s.h.length p then x.1.h else sx p q s.h.length x.1.h x.1.h.length 0)[ft s.h.length p i]?=_;cases hid:zY s.h.length p with
  |true=>rw[acT hid];simp only[cond_true,id];rw[aoW hi,Option.map_some,SF]
  |false=>
  simp only[cond_false];rw[Yi,if_pos (Nat.lt_of_succ_le (hc i hi).1.1.1),apc,(hc i hi).1.2,aoW hi];rfl
theorem ant{P:apK}{ol:apH Oper}{as:apH (Nat×bQ)}{aS:apH Nat}{s:St}{Δ:apH (Nat×AV)}{h':apH an}{ps:apH (In×bQ)}{m N0:Nat}{K:St->Prop}(h:KY P ol as aS s=some (List.replicate m (Δ,h',ps)))(bO:gw P ps)(hN:N0<=s.h.length)(yH:∀i,(bp s.t i).aP s.h.length=true)(hK:KK N0 K)(hk:K ⟨s.n,Δ++s.t,h'⟩):
 pw false P ol.toArray K ol.toArray.size (Array.replicate ol.toArray.size false) s:=by
 unfold KY at h;obtain⟨hM,h⟩:=mP h;rw[GC,GC]at h;split at h
 ·next ls e1=>
  obtain⟨_,h2,h3⟩:=aai (s0:=s) hK.c hM s.t _ 0 (Array.replicate ol.toArray.size false) _ _ s ls ⟨by simp,λi=>by
   rw[Nat.zero_testBit,Array.getD_eq_getD_getElem?,Array.getElem?_replicate];split<;>rfl⟩ (λj o ho hj=>by
   exfalso;rw[Array.getD_eq_getD_getElem?]at hj;rw[Array.getElem?_replicate]at hj;split at hj<;>simp at hj) e1
  refine h3 λx hx=> ?_;obtain⟨a,ha,e2⟩:=acs h x hx;rw[List.mem_replicate]at ha;obtain⟨_,rfl⟩:=ha;obtain⟨k1,k2⟩:=acK (P:=P) (ops:=ol.toArray) e2 hN yH ((h2 x hx).2.2 (lV.refl _ _)).n ((h2 x hx).2.1 ⟨[],rfl⟩) bO;exact⟨k2,hK _ _ k1 hk⟩
 ·cases h
section
variable {P:apK} {r:apJ Nat} {N0 id n:Nat} {ol:apH Oper} {y:Code} {t:apH (Nat×AV)} {h:apH an} {Q Q':Exit->St->Prop}
theorem rte(m:Nat)(hm:P.follows .mixedOrders=true)(ay:apH (Nat×Ob P))(Δ:apH (Nat×AV))(h':apH an)(e:KY P ol (iX ay) (Δ.map (·.1)) ⟨n,t,h⟩=some (List.replicate m (Δ,h',jP ay)))(k:Q .normal ⟨n,Δ++t,h'⟩):bj P r N0 (.region id ol.toArray true) Q ⟨n,t,h⟩:=
 anT hm λhN yH=>ant e (qS ay) hN yH (aeG _) ⟨_,jJ.refl _ _,k⟩
end
theorem Tl{f:AV->AV}(hf:∀d,f (.d d)= .d d)(xs:apH (apH D)):(cD xs).map (·.map f)=cD xs:=by
 unfold cD;rw[List.map_map];refine apn λc _=> ?_;simp only[Function.comp,List.map_map];exact apn λd _=>hf d
theorem BY(xs:apH (apH D)):(cD xs).length=xs.length:=by unfold cD;rw[aoX]
theorem aiQ{xs:apH (apH D)}{i:Nat}{c:apH D}(h:xs[i]?=some c):(cD xs)[i]?=some (c.map .d):=by unfold cD;rw[aoZ,h];rfl
theorem alZ(xs ys:apH (apH D)):cD (xs++ys)=cD xs++cD ys:=by unfold cD;rw[List.map_append]
def an.vD(m:Nat):an->an
 | .vec e k cs=> .vec e k cs
 |B=>B.bn m
def an.QP:an->an
 | .vec e k cs=> .vec e k cs
 |B=>B.qf
def an.AI(m:Nat):an->Prop
 | .vec _ _ cs=>cs.map (·.map (AV.bn m))=cs/\cs.all (·.all (AV.aP m))=true
 |_=>True
def kt(m:Nat):apH an->Prop
 |[]=>True
 |B::l=>B.AI m/\kt m l
section
variable {m:Nat} {l:apH an}
theorem SR:kt m []:=trivial
theorem oz{B:an}(hB:B.AI m)(h:kt m l):kt m (B::l):=⟨hB,h⟩
theorem ang(xs:apH (apH D)):(cD xs).all (·.all (AV.aP m))=true:=by simp [cD,AV.aP]
theorem vmV{e k:Nat}{xs:apH (apH D)}(h:kt m l):kt m (.vec e k (cD xs)::l):=⟨⟨Tl (λd=>by simp [AV.bn]) _,ang _⟩,h⟩
theorem kt.mem:∀{l:apH an},kt m l->∀B∈l,B.AI m
 |[],_,B,hB=>by cases hB
 |_::_,h,B,hB=>by
  rcases apm.1 hB with rfl|hB
  ·exact h.1
  ·exact kt.mem h.2 B hB
end
theorem alD{m:Nat}{B:an}(h:B.AI m):B.vD m=B.bn m:=by
 cases B with
 |vec e k cs=>simp only[an.vD,an.bn];rw[h.1]
 |_=>rfl
theorem adf{m:Nat}{B:an}(h:B.AI m)(hl:(B.vD m).Bv m=true):(B.bn m).aP m=true:=by
 cases B with
 |vec e k cs=>simp only[an.bn,an.aP];rw[h.1];exact h.2
 |_=>exact hl
theorem ajy{G:Gh}{w:apM}{h:apH an}(hi:Inv G w h):Inv G w (h.map an.QP):=by
 have dQ:∀n,bB (h.map an.QP) G n=bB h G n:=λn=>by
  unfold bB;rw[aoZ];cases h[n]? with
  |none=>rfl
  |some B=>cases B<;>rfl
 have h2:=Sf hi;refine⟨by rw[aoX];exact hi.len,hi.z,hi.S,λn B hB=> ?_,λm n x hm hn=>hi.inj m n x (by rw[<-dQ];exact hm) (by rw[<-dQ];exact hn),hi.gl⟩;rw[aoZ]at hB;cases h1:h[n]? with
 |none=>rw[h1]at hB;cases hB
 |some B'=>
  rw[h1]at hB;cases hB
  have h3:=h2.cu n B'.qf (by rw[aoZ,h1];rfl);cases B' with
  |vec e k cs=>exact hi.cu n _ h1
  |_=>exact h3
def vp(kn:apH (Nat×Nat))(n:Nat):Nat->apH AV->apH AV
 |_,[]=>[]
 |i,x::l=>(bif kn.any (λp=>p.1==n&&p.2==i)then x else x.nrm)::vp kn n (i+1) l
def an.Xf(kn:apH (Nat×Nat))(n:Nat):an->an
 | .cells cs=> .cells (vp kn n 0 cs)
 |B=>B.QP
def pI(kn:apH (Nat×Nat)):Nat->apH an->apH an
 |_,[]=>[]
 |n,B::l=>B.Xf kn n::pI kn (n+1) l
theorem Vp(kn:apH (Nat×Nat))(n:Nat):∀(j:Nat)(cs:apH AV),(vp kn n j cs).length=cs.length
 |_,[]=>rfl
 |j,x::l=>by rw[vp,aoV,Vp kn n (j+1) l,aoV]
theorem abt(kn:apH (Nat×Nat))(n:Nat):∀(j:Nat)(cs:apH AV)(i:Nat)(c':AV),(vp kn n j cs)[i]?=some c'->∃c,cs[i]?=some c/\(c'=c\/c'=c.nrm)
 |_,[],i,c',h=>by simp [vp]at h
 |j,x::l,0,c',h=>by
  simp only[vp,List.getElem?_cons_zero,Option.some.injEq]at h;refine⟨x,rfl,?_⟩;cases hk:kn.any (λp=>p.1==n&&p.2==j)with
  |true=>rw[hk]at h;exact .inl h.symm
  |false=>rw[hk]at h;exact .inr h.symm
 |j,x::l,i+1,c',h=>by
  simp only[vp,apu]at h;obtain⟨c,h1,h2⟩:=abt kn n (j+1) l i c' h;exact⟨c,by simpa using h1,h2⟩
theorem NM(kn:apH (Nat×Nat)):∀(j:Nat)(h:apH an)(i:Nat)(B':an),(pI kn j h)[i]?=some B'->∃B,h[i]?=some B/\B'=B.Xf kn (j+i)
 |_,[],i,B',h=>by simp [pI]at h
 |j,B::l,0,B',h=>by simp only[pI,List.getElem?_cons_zero,Option.some.injEq]at h;exact⟨B,rfl,h.symm⟩
 |j,B::l,i+1,B',h=>by
  simp only[pI,apu]at h;obtain⟨C,h1,h2⟩:=NM kn (j+1) l i B' h;exact⟨C,by simpa using h1,by rw[h2];congr 1;omega⟩
theorem Zh(kn:apH (Nat×Nat)):∀(j:Nat)(h:apH an),(pI kn j h).length=h.length
 |_,[]=>rfl
 |j,B::l=>by rw[pI,aoV,Zh kn (j+1) l,aoV]
theorem ai9{G:Gh}{w:apM}{h:apH an}(kn:apH (Nat×Nat))(hi:Inv G w h):Inv G w (pI kn 0 h):=by
 have dQ:∀n x,bB (pI kn 0 h) G n=some x->bB h G n=some x:=λn x hx=>by
  obtain⟨B',hB,h1⟩:=nL hx;obtain⟨B,h2,rfl⟩:=NM kn 0 h n B' hB;rw[cZ h2,<-h1];cases B<;>rfl
 have h2:=ajy hi;refine⟨by rw[Zh];exact hi.len,hi.z,hi.S,λn B' hB=> ?_,λm n x hm hn=>hi.inj m n x (dQ m x hm) (dQ n x hn),hi.gl⟩;obtain⟨B,h1,rfl⟩:=NM kn 0 h n B' hB;cases B with
 |cells cs=>
  obtain⟨c1,c2,vs,T,c3,c4,c5⟩:=hi.cu n _ h1;refine⟨c1,c2,vs,T,c3,by rw[Vp];exact c4,λi u c hu hc=> ?_⟩;obtain⟨c0,h3,h4|h4⟩:=abt _ _ _ _ _ _ hc
  ·rw[h4];exact c5 i u c0 hu h3
  ·rw[h4];exact(c5 i u c0 hu h3).nrm
 |_=>exact h2.cu n _ (by rw[aoZ,h1];rfl)
def mQ(s:St)(live:apH Nat)(m:Nat)(ks:apH Nat)(kn:apH (Nat×Nat)):apJ St:=
 bif b7 m s.h.length&&(live.all λk=>((bp s.t k).bn m).aP m)&&(((s.h.take m).map (an.vD m)).all (an.Bv m))then some ⟨s.n,live.map λk=>(k,bif ks.any (·==k)then(bp s.t k).bn m else(bp s.t k).fin m),pI kn 0 ((s.h.take m).map (an.vD m))⟩else none
theorem adF{h:apH an}{m:Nat}(hd:kt m (h.take m)):(h.take m).map (an.vD m)=(h.take m).map (an.bn m):=apn λB hB=>alD (hd.mem B hB)
theorem aeZ{h:apH an}{m:Nat}(hd:kt m (h.take m))(hl:((h.take m).map (an.vD m)).all (an.Bv m)=true):((h.take m).map (an.bn m)).all (an.aP m)=true:=by
 rw[api]at hl ⊢;intro B hB;obtain⟨B',h1,rfl⟩:=List.mem_map.1 hB;exact adf (hd.mem B' h1) (hl _ (List.mem_map.2 ⟨B',h1,rfl⟩))
section
variable {P:apK} {r:apJ Nat} {n N0:Nat} {G:Gh} {w:apM} {a:Act} {s s':St} {Q Q':Exit->St->Prop} {live:apH Nat} {m:Nat} {ks:apH Nat} {kn:apH (Nat×Nat)}
theorem cA.mQ(hs:cA G w a s)(hd:kt m (s.h.take m))(h:mQ s live m ks kn=some s'):cA (G.cut m) w a s':=by
 unfold Go.Proofs.YtmkmibahjanejaaGreatDoor.mQ at h;obtain⟨hb,rfl⟩:=eu h;rw[aoU,aoU]at hb;have hm:=hs.mask (live:=live) ⟨dI.1 hb.1.1,hb.1.2,aeZ hd hb.2⟩;refine⟨hs.size,λi=> ?_,by show Inv _ _ (pI kn 0 ((s.h.take m).map (an.vD m)));rw[adF hd];exact ai9 kn hm.inv,hs.df⟩;have:=hm.tmp i
 change aD _ _ _ (bp (live.map λk=>(k,(bp s.t k).bn m)) i)at this
 rw[ta (λk=>(bp s.t k).bn m)]at this;show aD _ _ _ (bp (live.map λk=>(k,bif ks.any (·==k)then(bp s.t k).bn m else(bp s.t k).fin m)) i);rw[ta (λk=>bif ks.any (·==k)then(bp s.t k).bn m else(bp s.t k).fin m)];split at this
 ·rename_i hi
  rw[if_pos hi];cases ks.any (·==i)with
  |true=>exact this
  |false=>exact this.nrm
 ·rename_i hi;rw[if_neg hi];exact .dead _
theorem Tr{c:Code}{ι:Type}(live:apH Nat)(m:Nat)(ks:apH Nat)(kn:apH (Nat×Nat))(st:ι->St)(I:ι->Prop)(μ:ι->Nat)(i0:ι)(hm:N0<=m)(h0:kt m (s.h.take m)/\Go.Proofs.YtmkmibahjanejaaGreatDoor.mQ s live m ks kn=some (st i0))(hI:I i0)
 (round:∀i,I i->bj P r N0 c (gp (λs'=>∃i',(kt m (s'.h.take m)/\Go.Proofs.YtmkmibahjanejaaGreatDoor.mQ s' live m ks kn=some (st i'))/\I i'/\μ i'<μ i) Q) (st i)):bj P r N0 (.loop c) Q s:=by
 constructor
 intro G w a n hs _;refine No (λ(i:ι) a' w'=>∃G',I i/\bx N0 G w G' w'/\N0<=G'.N/\cA G' w' a' (st i)) μ i0 ⟨G.cut m,hI,qd _ _ _ _,hm,hs.mQ h0.1 h0.2⟩ ?_;rintro i a' w' ⟨G',hi,hE,hN,b8⟩;refine wpIn_mono ((round i hi).run G' w' a' n b8 hN) λe a1 w1 hn=> ?_;obtain⟨G1,s1,hX,gu,e8,hq⟩:=hn;cases e with
 |normal=>
  obtain⟨i',h1,h2,h3⟩:=hq;exact⟨i',⟨G1.cut m,h2,(hE.trans hX).trans (qd _ _ _ _),hm,e8.mQ h1.1 h1.2⟩,h3⟩
 |_=>exact⟨G1,s1,hE.trans hX,gu,e8,hq⟩
theorem anp{c:Code}(live:apH Nat)(m:Nat)(ks:apH Nat)(kn:apH (Nat×Nat))(hm:N0<=m)(h0:kt m (s.h.take m)/\Go.Proofs.YtmkmibahjanejaaGreatDoor.mQ s live m ks kn=some s')(h:bj P r N0 c Q s'):bj P r N0 c Q s:=by
 constructor
 intro G w a n hs _;exact wpIn_mono (h.run (G.cut m) w a n (hs.mQ h0.1 h0.2) hm) λ_ _ _ hn=>hn.trans (qd N0 G w m)
theorem anJ{c y:Code}{ι:Type}(live:apH Nat)(m:Nat)(ks:apH Nat)(kn:apH (Nat×Nat))(st:ι->St)(I:ι->Prop)(hm:N0<=m)(hc:bj P r N0 c (gp (λs'=>∃i,(kt m (s'.h.take m)/\Go.Proofs.YtmkmibahjanejaaGreatDoor.mQ s' live m ks kn=some (st i))/\I i) Q) s)(hy:∀i,I i->bj P r N0 y Q' (st i)):bj P r N0 c (gp (λs=>bj P r N0 y Q' s) Q) s:=by
 refine hc.mono λe s' h=> ?_;cases e with
 |normal=>obtain⟨i,h1,h2⟩:=h;exact anp live m ks kn hm h1 (hy i h2)
 |_=>exact h
end
mutual
def AV.wg(b:Nat):AV->apH (Nat×Nat×Nat×Nat)
 | .vec n o len L k=>bif n==b then[(o,len,L,k)]else[]
 | .agg cs=>AV.vR b cs
 | .bA cs=>AV.vR b cs
 | .fn _ cs=>AV.vR b cs
 |_=>[]
def AV.vR(b:Nat):apH AV->apH (Nat×Nat×Nat×Nat)
 |[]=>[]
 |x::l=>x.wg b++AV.vR b l
end
mutual
def AV.mlt(b:Nat)(xs:apH (apH D)):AV->AV
 | .vec n o len L k=>bif n==b then .d (.sl xs)else .vec n o len L k
 | .di n i j L k=>bif n==b then .dead else .di n i j L k
 | .agg cs=> .agg (AV.tv b xs cs)
 | .bA cs=> .bA (AV.tv b xs cs)
 | .fn f cs=> .fn f (AV.tv b xs cs)
 |x=>x
def AV.tv(b:Nat)(xs:apH (apH D)):apH AV->apH AV
 |[]=>[]
 |x::l=>x.mlt b xs::AV.tv b xs l
end
mutual
theorem WU{b kk:Nat}{xs:apH (apH D)}:∀x:AV,(∀q∈x.wg b,q=(0,xs.length,xs.length,kk))->x.dF b kk xs=x.mlt b xs
 | .vec n o len L k,h=>by
   unfold AV.dF AV.mlt;unfold AV.wg at h;cases e:n==b with
   |false=>rfl
   |true=>
    rw[e]at h;have:=h _ aoY;cases this
    simp
 | .agg cs,h=>by unfold AV.dF AV.mlt;rw[BH cs (by unfold AV.wg at h;exact h)]
 | .bA cs,h=>by unfold AV.dF AV.mlt;rw[BH cs (by unfold AV.wg at h;exact h)]
 | .fn f cs,h=>by unfold AV.dF AV.mlt;rw[BH cs (by unfold AV.wg at h;exact h)]
 | .di n i j L k,h=>by unfold AV.dF AV.mlt;rfl
 | .d _,_=>by simp [AV.dF,AV.mlt]
 | .ptr ..,_=>by simp [AV.dF,AV.mlt]
 | .bz ..,_=>by simp [AV.dF,AV.mlt]
 | .own ..,_=>by simp [AV.dF,AV.mlt]
 | .full _,_=>by simp [AV.dF,AV.mlt]
 | .row ..,_=>by simp [AV.dF,AV.mlt]
 | .mp _,_=>by simp [AV.dF,AV.mlt]
 | .cO _,_=>by simp [AV.dF,AV.mlt]
 | .hid _,_=>by simp [AV.dF,AV.mlt]
 | .dead,_=>by simp [AV.dF,AV.mlt]
theorem BH{b kk:Nat}{xs:apH (apH D)}:∀l:apH AV,(∀q∈AV.vR b l,q=(0,xs.length,xs.length,kk))->AV.qo b kk xs l=AV.tv b xs l
 |[],_=>by simp [AV.qo,AV.tv]
 |x::l,h=>by
  unfold AV.vR at h;unfold AV.qo AV.tv;rw[WU x λq hq=>h q (List.mem_append_left _ hq),BH l λq hq=>h q (List.mem_append_right _ hq)]
end
inductive lA(b L kk:Nat)(xs:List (List D)):List an->List an->Prop
 |nil:lA b L kk xs [] []
 |cells {cs bJ:List AV} {l l':List an} (c:Nat) (h:AV.vR b cs=List.replicate c (0,L,L,kk)) (e:AV.tv b xs cs=bJ) (t:lA b L kk xs l l'):lA b L kk xs (.cells cs::l) (.cells bJ::l')
 |Mp {e k:Nat} {ys:List (List D)} {l l':List an} (t:lA b L kk xs l l'):lA b L kk xs (.vec e k (cD ys)::l) (.vec e k (cD ys)::l')
 |row {e k i:Nat} {ys:List (List D)} {cs bJ:List AV} {l l':List an} (c:Nat) (h:AV.vR b cs=List.replicate c (0,L,L,kk)) (e1:AV.tv b xs cs=bJ) (t:lA b L kk xs l l'):lA b L kk xs (.vec e k ((cD ys).set i cs)::l) (.vec e k ((cD ys).set i bJ)::l')
 |front {e k n:Nat} {l l':List an} (t:lA b L kk xs l l'):lA b L kk xs (.front e k n::l) (.front e k n::l')
 |map {kv:List (ByteArray×D)} {l l':List an} (t:lA b L kk xs l l'):lA b L kk xs (.map kv::l) (.map kv::l')
 |gone {l l':List an} (t:lA b L kk xs l l'):lA b L kk xs (.gone::l) (.gone::l')
theorem NA{c L kk:Nat}{xs:apH (apH D)}(hL:xs.length=L){l:apH (Nat×Nat×Nat×Nat)}(h:l=List.replicate c (0,L,L,kk)):∀q∈l,q=(0,xs.length,xs.length,kk):=λq hq=>by
 rw[h,List.mem_replicate]at hq;rw[hq.2,hL]
theorem lA.eq{b L kk:Nat}{xs:apH (apH D)}(hL:xs.length=L){l l':apH an}(h:lA b L kk xs l l'):l'=l.map (an.p5 (AV.dF b kk xs)):=by
 have hd:∀d,AV.dF b kk xs (.d d)= .d d:=λd=>by simp [AV.dF]
 induction h with
 |nil=>rfl
 |cells c h e t ih=>rw[aph,<-ih,<-e];simp only[an.p5];rw[<-xo,BH _ (NA hL h)]
 |Mp t ih=>rw[aph,<-ih];simp only[an.p5];rw[Tl hd]
 |row c h e1 t ih=>rw[aph,<-ih,<-e1];simp only[an.p5];rw[List.map_set,Tl hd,<-xo,BH _ (NA hL h)]
 |front t ih=>rw[aph,<-ih];rfl
 |map t ih=>rw[aph,<-ih];rfl
 |gone t ih=>rw[aph,<-ih];rfl
theorem an9{P:apK}{r:apJ Nat}{N0:Nat}{c:Code}{s:St}{Q:Exit->St->Prop}(live:apH Nat)(b:Nat)(xs:apH (apH D)){e k L:Nat}(h':apH an)(c1:Nat)(hb:s.h[b]?=some (.vec e k (cD xs)))(jh:∀c∈xs,c.all D.Bl=true)(hL:xs.length=L)
 (ho:(live.flatMap λi=>(bp s.t i).wg b)=List.replicate c1 (0,L,L,k)) (hh:lA b L k xs s.h h') (K:bj P r N0 c Q ⟨s.n,live.map (λi=>(i,(bp s.t i).mlt b xs)),h'.set b .gone⟩):bj P r N0 c Q s:=by
 constructor
 intro G w a n hs hN;obtain⟨G',hE,e1,b8⟩:=hs.Y5 xs hb jh;refine wpIn_mono (K.run G' w a n (b8.less rfl (by rw[hh.eq hL]) λi=> ?_) (by rw[e1];exact hN)) λ_ _ _ hn=>hn.trans (hE.less hN);show bp (live.map (λi=>(i,(bp s.t i).mlt b xs))) i=bp (s.t.map λp=>(p.1,p.2.dF b k xs)) i\/_;rw[ta (λk=>(bp s.t k).mlt b xs),Jq (AV.dF b k xs) (by simp [AV.dF])];split
 ·next hi=>
  left
  refine(WU _ λq hq=>NA hL ho q ?_).symm;exact List.mem_flatMap.2 ⟨i,hi,hq⟩
 ·exact .inr rfl
theorem YH{G:Gh}{w:apM}{h:apH an}(hi:Inv G w h)(e k:Nat):bx G.N G w (G.dW (.slice none 0 0) 0 none) w/\G.N<=(G.dW (.slice none 0 0) 0 none).N/\Inv (G.dW (.slice none 0 0) 0 none) w (h++[.vec e k []])/\aD (G.dW (.slice none 0 0) 0 none) w (.slice none 0 0) (.vec h.length 0 0 0 k):=by
 obtain⟨a1,a2⟩:=Oc (w':=w) hi (.vec e k []) (λ_ _=>rfl) (.slice none 0 0) 0 none ⟨λ_ _=>rfl,ao3 _,rfl,rfl,rfl⟩ (λ_ h=>by cases h)
  ⟨by simp [Gh.dW],Nat.zero_le _,λc hc=>absurd hc apz, .inl ⟨by simp [Gh.dW],rfl,none,by simp [Gh.dW]⟩⟩
 refine⟨a1,Nat.le_succ _,a2, .vec _ 0 0 0 k (by rw[hi.len];exact apF _) ⟨none,0,0,rfl⟩ (Nat.zero_le _) λ_=>⟨ao3 _,⟨none,0,rfl,ao3 _,Nat.zero_le _,ao3 _,λh=>absurd h (apx _)⟩,λ_ _=> ?_⟩⟩;simp [Gh.dW,hi.len]
section
variable {P:apK} {r:apJ Nat} {N0:Nat} {s:St} {Q:Exit->St->Prop} {c:Code}
theorem aok(b i e k:Nat){cs:apH AV}(hb:s.h[b]?=some (.cells cs))(hx:cs[i]?=some (.d (.v (.slice none 0 0))))
 (h:bj P r N0 c Q ⟨s.n,s.t,(s.h++[an.vec e k []]).set b (an.cells (cs.set i (AV.vec s.h.length 0 0 0 k)))⟩):bj P r N0 c Q s:=by
 constructor
 intro G w a n hs hN;obtain⟨h1,h2,vs,T,h3,h4,h5⟩:=hs.inv.cu _ _ hb;have hi:i<cs.length:=(aoS.1 hx).1;have hv:vs[i]?=some vs[i]:=ape (by omega);have lI:=(h5 i _ _ hv hx).val;obtain⟨a1,a2,a3,a4⟩:=YH hs.inv e k;have aH:=(aoS.1 hb).1;have b8:cA (G.dW (.slice none 0 0) 0 none) w a ⟨s.n,s.t,(s.h++[an.vec e k []]).set b (an.cells (cs.set i (AV.vec s.h.length 0 0 0 k)))⟩:=by
  refine⟨hs.size,λj=>(hs.tmp j).aS a1 a2,QC a3 (by rw[ao2 aH];exact hb) (by rw[List.length_set]) λdZ T' qu j u c hu hc=> ?_,hs.df.aS a1⟩;have e1:(G.dW (.slice none 0 0) 0 none).aI b=G.aI b:=rfl;rw[e1,h3]at qu;cases qu
  by_cases e2:i=j
  ·subst e2;rw[apl hi]at hc;cases hc
   rw[hv]at hu;cases hu
   rw[lI];exact a4
  ·rw[apr e2]at hc;exact(h5 j u c hu hc).aS a1 a2
 exact wpIn_mono (h.run _ w a n b8 (apa hN a2)) λ_ _ _ hn=>hn.trans (a1.less hN)
end
theorem acJ{α:Type}{f:α->apH D}{E:apH α}{L:Nat}(h:E.length=L):(cD (E.map f)).length=L:=by rw[BY,aoX,h]
theorem ahz{α:Type}{f:α->apH D}{E ys:apH α}{h:apH an}{k L gF L' cX:Nat}{y:AV}(hE:E.length=L)(hy:y.fA=some (ys.map f))(hk:∀c∈ys.map f,c.length=k)(hn:ys.length=gF)(hL:L+ys.length=L')(hm:L'<=maxLen)(hb:L'*cX<=140737488355328):
 (cD (E.map f)).length=L/\Ec h k y (cD (ys.map f))/\L'=L+(cD (ys.map f)).length/\((0+L+(cD (ys.map f)).length<=L/\L'=L/\cD ((E++ys).map f)=(cD (E.map f)).take (0+L)++cD (ys.map f)++(cD (E.map f)).drop (0+L+(cD (ys.map f)).length))\/(0=0/\L=L/\L'=L+(cD (ys.map f)).length/\cD ((E++ys).map f)=cD (E.map f)++cD (ys.map f)/\L'<=maxLen/\L'*cX<=140737488355328)):=by
 have hl:(cD (ys.map f)).length=ys.length:=by rw[BY,aoX]
 refine⟨acJ hE, .inl ⟨_,hy,hk,rfl⟩,by rw[hl,hL], .inr ⟨rfl,rfl,by rw[hl,hL],by rw[List.map_append,alZ],hm,hb⟩⟩
theorem akb{P:apK}{r:apJ Nat}{N0:Nat}{c:Code}{s:St}{Q:Exit->St->Prop}(live:apH Nat)(b:Nat)(xs ys:apH (apH D)){e k L:Nat}(h':apH an)(c1:Nat)(hb:s.h[b]?=some (.vec e k (cD xs)))(jh:∀c∈xs,c.all D.Bl=true)(hL:xs.length=L)(hy:ys=xs)
 (ho:(live.flatMap λi=>(bp s.t i).wg b)=List.replicate c1 (0,L,L,k)) (hh:lA b L k ys s.h h') (K:bj P r N0 c Q ⟨s.n,live.map (λi=>(i,(bp s.t i).mlt b ys)),h'.set b .gone⟩):bj P r N0 c Q s:=by
 subst hy;exact an9 live b _ h' c1 hb jh hL ho hh K
theorem aeg{α:Type}{f:α->apH D}(hf:∀x,(f x).all D.Bl=true)(E:apH α):∀c∈E.map f,c.all D.Bl=true:=λc hc=>by
 obtain⟨x,_,rfl⟩:=List.mem_map.1 hc;exact hf x
theorem ahl{α:Type}{f:α->apH D}{E:apH α}{L:Nat}(h:E.length=L):(E.map f).length=L:=by rw[aoX,h]
def Ox(o:Oper):Bool:=
 match o.op with
 | .call c=>match c.callee with
   | .value _=>false
   |_=>true
 |_=>true
def JS:bQ->Bool
 | .va _=>true
 |_=>false
def Rf(o:Oper)(a:bQ):Bool:=Iz o||(Ox o&&((qC o||jl o&& !(bZ o==0))|| !JS a))
def Jy(o:Oper)(a:bQ):Bool:=Rf o a||(!zT a&&(!JS a&& !jl o))
def xQ(as:apH (Nat×bQ)):Nat->apH Oper->Bool
 |_,[]=>true
 |j,o::l=>Jy o (iV as (3*j+1))&&xQ as (j+1) l
section
variable {P:apK} {ops:Array Oper} {o:Oper} {j:Nat} {as:apH (Nat×bQ)} {s s1:St} {l:apH (In×bQ)} {K:St->Prop}
theorem adk(hn:Ox o=true)(h:rC P o K s):zO P o K s:=by
 unfold zO;unfold Ox at hn;split
 ·next c hop=>
  rw[hop]at hn;split
  ·next f hc=>simp only[hc]at hn;cases hn
  ·exact h
 ·exact h
theorem amP(h:n5 P false o j as s=some (s1,l))(bO:gw P l)(hK:K s1)(hL:Rf o (iV as (3*j+1))=true):yN true P o K s:=by
 unfold n5 at h;simp only[Bool.false_and,cond_false]at h;split at h
 ·next x h' i hr=>
  have fin:OK P i (iV as (3*j+1))->K ((s.wh h').put o.dst x)->yN true P o K s:=λh1 h2=>by
   unfold Rf at hL;rw[Bool.or_eq_true]at hL;unfold CF at hr;split at hr
   ·next va e=>
    simp only[Bool.false_and,cond_false]at hr;split at hr
    ·next x2 h2' p e2=>
     cases hr
     rcases hL with hL|hL
     ·exfalso;rw[e]at h1;unfold Iz at hL;split at hL
      ·next c hop=>
       split at hL
       ·next t hc=>
        rw[hop]at e2;unfold iq at e2;simp only[hc]at e2;cases e2
       ·next t hc=>
        rw[hop]at e2;unfold iq at e2;simp only[hc]at e2;cases e2
       ·cases hL
      ·cases hL
     ·rw[e]at h1 hL;simp only[JS,Bool.not_true,Bool.or_false,aoU]at hL;cases h1 with|pr _ hp=>exact .inr (.inr (.inl ⟨(by
        have h3:=hL.2;rw[Bool.or_eq_true,aoU,Bool.not_eq_true']at h3;exact h3.elim (λe=> .inr (by rw[e];rfl)) λe=> .inl ⟨e.1,by rw[e.2];rfl⟩),va,x,h',p,e2,hp,h2⟩))
    ·cases hr
   ·rcases hL with hL|hL
    ·exact .inr (.inl ⟨by unfold nw;rw[hL];rfl,x,h',h2,λC hC=>AM hr h1 hC⟩)
    ·rw[aoU]at hL;exact .inl (adk hL.1 (AM (C:=λx h'=>K ((s.wh h').put o.dst x)) hr h1 h2))
  split at h
  ·next y hy=>
   obtain⟨m,e,h2,h3⟩:=Ky h bO;cases e
   have:=h2 (.eq x, .eq y) aoY;cases this with|eq e=>subst e;exact fin h3 hK
  ·obtain⟨m,e,h2,h3⟩:=Ky h bO;cases e
   exact fin h3 hK
 ·cases h
theorem aee{dr v:Bool}{op:Op}{ρ:Operand->AV}{h:apH an}{a:bQ}(hv:JS a=false):CF P dr v op ρ h a=wF P op ρ h a:=by
 cases a<;>first|rfl|cases hv
theorem Z8(h:n5 P false o j as s=some (s1,l))(bO:gw P l)(hK:K s1)(hL:Jy o (iV as (3*j+1))=true):yN true P o K s:=by
 unfold Jy at hL;rw[Bool.or_eq_true]at hL;rcases hL with hL|hL
 ·exact amP h bO hK hL
 ·rw[aoU,aoU,Bool.not_eq_true',Bool.not_eq_true',Bool.not_eq_true']at hL;obtain⟨h1,h2,h3⟩:=hL;have h':n5 P true o j as s=some (s1,l):=by
    unfold n5 at h ⊢;rw[aee h2]at h ⊢;rw[h1];exact h
  have:=SS (dr:=true) h' bO hK;rcases this with h|⟨e,_⟩|⟨e,_⟩|h
  ·exact .inl h
  ·cases e
  ·exfalso;rcases e with e|e
   ·rw[h3]at e;exact absurd e.1 (by simp)
   ·cases e
  ·exact .inr (.inr (.inr h))
theorem ag0(h:oS P ops false o j as s=some (s1,l))(bO:gw P l)(hK:K s1)(hL:Jy o (iV as (3*j+1))=true):aGuard ops o s (yN true P o K s) (K (s.put o.dst (.d (.v undef)))):=by
 unfold oS at h;split at h
 ·next hg=>unfold aGuard;rw[hg];exact Z8 h bO hK hL
 ·next g want hg=>
  obtain⟨dst,op,ty,pos,after,guard⟩:=o;simp only at hg;subst hg;split at h
  ·next b hb=>
   obtain⟨n,e,h2,h3⟩:=vS h bO;have h4:=OK.Ir (h3 (_,_) aoY);rw[H3,h4];refine⟨λe2=> ?_,λe2=> ?_⟩
   ·subst e2;simp only[BEq.rfl,cond_true]at e;exact Z8 e h2 hK hL
   ·subst e2;have:((!want)==want)=false:=by cases want<;>rfl
    rw[this]at e;simp only[cond_false]at e;cases e
    exact hK
  ·next hb=>
   obtain⟨n,e,h2,h3⟩:=vS h bO;cases e
   have h4:=h3 (_,_) aoY;have h5:uK ops g s.t= .d (.v undef):=by
    generalize uK ops g s.t=z at h4;cases h4;rfl
   rw[H3,h5];exact hK
  ·cases h
theorem Jd:∀(ol:apH Oper)(j:Nat)(s:St)(l:apH (In×bQ)),iY P ops false ol j as s=some (s1,l)->gw P l->xQ as j ol=true->K s1->vO true P ops ol K s
 |[],_,s,l,h,_,_,hK=>by cases h;exact hK
 |o::rest,j,s,l,h,bO,hL,hK=>by
  unfold xQ at hL;rw[aoU]at hL;unfold iY at h;split at h
  ·next s2 m hg=>
   obtain⟨n,e,h2,h3⟩:=vS h bO;exact ag0 (K:=vO true P ops rest K) hg h3 (Jd rest (j+1) s2 n e h2 hL.2 hK) hL.1
  ·cases h
theorem Xm:∀(ol pre:apH Oper),tK (pre++ol).toArray ((List.range ol.length).map (pre.length+·))=ol
 |[],_=>rfl
 |o::l,pre=>by
  rw[aoV,List.range_succ_eq_map,aph,List.map_map];unfold tK;have h1:(pre++o::l).toArray[pre.length+0]?=some o:=by simp
  rw[h1];simp only;have h2:=Xm l (pre++[o]);rw[ao9]at h2;simp only[List.singleton_append,aoT,aoV,ao4,apc]at h2
  congr 1
  rw[show(pre.length+·)∘Nat.succ=(pre.length+1+·)from by funext i;simp only[Function.comp];omega];exact h2
theorem Nw(ol:apH Oper):tK ol.toArray (List.range ol.length)=ol:=by
 have:=Xm ol []
 simpa using this
end
section
variable {P:apK} {r:apJ Nat} {N0 id n:Nat} {ol:apH Oper} {y:Code} {t:apH (Nat×AV)} {h:apH an} {Q Q':Exit->St->Prop}
theorem rlE(hm:P.follows .mixedOrders=true)(hl:yi true ol.toArray (List.range ol.length)=true)(Δ:apH (Nat×AV))(h':apH an)(e:∃ay:apH (Nat×Ob P),xQ (iX ay) 0 ol=true/\oG P false ol (iX ay) (Δ.map (·.1)) ⟨n,t,h⟩=some (Δ,h',jP ay))(k:bj P r N0 y Q' ⟨n,Δ++t,h'⟩):bj P r N0 (.region id ol.toArray true) (gp (λs=>bj P r N0 y Q' s) Q) ⟨n,t,h⟩:=by
 obtain⟨ay,e0,e⟩:=e;obtain⟨s1,h1,h2,h3,h4⟩:=DJ e;refine Ns (m:=true) (List.range ol.length) hm (by simp) hl ?_;rw[Nw];exact Jd ol 0 _ _ h1 (qS ay) e0 (Cr (s:=s1) (s':=⟨n,Δ++t,h'⟩) h2.symm h3.symm h4 k)
theorem rl(hm:P.follows .mixedOrders=true)(hl:yi true ol.toArray (List.range ol.length)=true)(ay:apH (Nat×Ob P))(Δ:apH (Nat×AV))(h':apH an)(e:xQ (iX ay) 0 ol=true/\oG P false ol (iX ay) (Δ.map (·.1)) ⟨n,t,h⟩=some (Δ,h',jP ay))(k:bj P r N0 y Q' ⟨n,Δ++t,h'⟩):bj P r N0 (.region id ol.toArray true) (gp (λs=>bj P r N0 y Q' s) Q) ⟨n,t,h⟩:=rlE hm hl Δ h' ⟨ay,e⟩ k
theorem DR(hm:P.follows .mixedOrders=true)(hl:yi true ol.toArray (List.range ol.length)=true)(ay:apH (Nat×Ob P))(Δ:apH (Nat×AV))(h':apH an)(e:xQ (iX ay) 0 ol=true/\EU P false ol (iX ay) ⟨n,t,h⟩=some (Δ++t,h',jP ay))(k:Q .normal ⟨n,Δ++t,h'⟩):bj P r N0 (.region id ol.toArray true) Q ⟨n,t,h⟩:=by
 obtain⟨e0,e⟩:=e;refine Ns (m:=true) (List.range ol.length) hm (by simp) hl ?_;rw[Nw];exact Jd ol 0 _ _ (abv e) (qS ay) e0 k
end
section
variable {P:apK} {r:apJ Nat} {N0:Nat} {Q:Exit->St->Prop} {c:Code} {o:Oper} {K:St->Prop}
theorem LK{n d:Nat}{t:apH (Nat×AV)}{h h':apH an}{x:AV}(hx:Al P o.op (ev ⟨n,t,h⟩) h=some (x,h'))(hd:o.dst=some d)(hn:Nat.ble n d=false)(hK:K ⟨n,(d,x)::t,h'⟩):nE P o K ⟨n,t,h⟩:=by
 refine .inr (.inr (.inr (.inr (.inl ⟨x,h',hx,?_⟩))));have aH:d<n:=Nat.lt_of_not_le λhle=>by rw[Nat.ble_eq_true_of_le hle]at hn;cases hn
 rw[hd,rG (s:=St.wh ⟨n,t,h⟩ h') aH];exact hK
theorem afO{n d:Nat}{t:apH (Nat×AV)}{h h':apH an}{x:AV}{p:Prop}(a:VA)(hx:iq P o.op (ev ⟨n,t,h⟩) h a=some (x,h',p))(hp:p)(hd:o.dst=some d)(hn:Nat.ble n d=false)(hK:K ⟨n,(d,x)::t,h'⟩):nE P o K ⟨n,t,h⟩:=by
 refine .inl ⟨a,x,h',p,hx,hp,?_⟩;have aH:d<n:=Nat.lt_of_not_le λhle=>by rw[Nat.ble_eq_true_of_le hle]at hn;cases hn
 rw[hd,rG (s:=St.wh ⟨n,t,h⟩ h') aH];exact hK
theorem anM{ρ:Operand->AV}{h:apH an}{q:Call}{x y:Operand}{T U:TypeId}{e k m cX:Nat}{kq kn:IntKind}{z:apL}(hc:q.callee= .builtin .append)(h1:q.args.toList=[x,y])(h2:q.argTypes.toList=[T,U])(hx:(ρ x).isNil=true)(hT:eE P T=some (e,k))(hU:rh P U=some kn)(hy:ρ y= .d (.v (.int kq (Int.ofNat m))))(hz:iw P e=some z)(hb:qK P e=some cX)(g1:1<=m)(g2:1<=k)(g3:z.cells.toList.length=k)(g4:m<=maxLen)(g5:m*cX<=140737488355328):
 Al P (.call q) ρ h=some (.vec h.length 0 m m k,h++[.vec e k (List.replicate m (z.cells.toList.map λu=> .d (.v u)))]):=by
 unfold Al;simp only[hc,h1,h2,hT,hU,hy,hz,hb,hx,dI.2 g1,dI.2 g2,dI.2 g4,dI.2 g5,g3,apC,Bool.and_self,cond_true]
theorem adK{n t e k L:Nat}{ts:apH (Nat×AV)}{cs:apH (apH AV)}(b6:N0=0)(ht:bp ts t= .vec 0 0 0 L k)(hL:cs.length=L)(h:bj P r N0 c Q ⟨n,[(t, .own 0 [])],[.front e k 0]⟩):bj P r N0 c Q ⟨n,ts,[.vec e k cs]⟩:=by
 subst b6;constructor
 intro G w a m hs hN;have hi:=hs.inv;have wQ:([an.vec e k cs]:apH an)[0]?=some (.vec e k cs):=rfl;have hGN:G.N=1:=hi.len.symm;have hv:=hs.tmp t;rw[ht]at hv;obtain⟨Ae,⟨A,cc,q1,q2,q3,q4,q5⟩,aaP⟩:=hv.pe hi wQ hL;obtain⟨b1,b2,b3,b4⟩:=hi.cu 0 _ wQ;have hp0:∀(A:apJ Addr),cc<=maxLen->dd G.S w (.slice A 0 cc) (.sl []):=λA hc=> .sl A 0 0 cc 0 [] (λ_ _=>undef) (λh=>absurd rfl h) (Nat.zero_le _) hc (λ_ h=>absurd h apz) (λi j hi=>absurd hi (apk _)) (λi j x d hx=>by simp at hx);obtain⟨G',ga⟩:∃G',G'={G with sg:=λi=>if i=0 then a.tmps.getD t undef else G.sg i,fl:=λi=>if i=0 then 0 else G.fl i}:=⟨_,rfl⟩;have hE:bx 0 G w G' w:=by
  subst ga;exact⟨ao3 _,λ_ _ h=>h,λ_ _ _=>rfl,λ_ h=>absurd h (apk _),λ_ h=>absurd h (apk _),fY rfl,λ_ _=>rfl,rfl,rfl,rfl,λ_ _ h=> .inl h⟩
 have hinv:Inv G' w [.front e k 0]:=by
  refine⟨by rw[ga];exact hi.len,by rw[ga];exact hi.z,by rw[ga];exact hi.S,λj B hB=> ?_,λi j x h1 h2=> ?_,by rw[ga];exact hi.gl⟩
  ·match j with
   |0=>
    cases hB
    refine⟨by rw[ga];simp,Nat.zero_le _,?_⟩;rcases b4 with⟨d1,d2,A',d3⟩|⟨g,cap,cur,d1,d2,d3,d4,d5,d6,d7,d8,d9⟩
    ·left
     refine⟨by rw[ga];exact d1,?_⟩;have xH:L=0:=by rw[<-hL,d2];rfl
     have:=aaP rfl xH.symm;rw[ga];exact⟨A',by simp only[if_true];rw[this];exact d3⟩
    ·by_cases xH:L=0
     ·have:=aaP rfl xH.symm
      right
      refine⟨g,cap,cur,by rw[ga];exact d1,?_,by rw[ga];exact d3,d4,Nat.zero_le _,d6,d7,λo _=>by rw[ga];exact d8 o⟩;rw[ga];simp only[if_true];rw[this,d2,hL,xH]
     ·obtain⟨g',zk,s1,rfl,s3⟩:=q5 (Nat.pos_of_ne_zero xH);rw[d2]at s1;cases s1
      right
      have:cc=cap:=by omega
      subst this;refine⟨g,cc,cur,by rw[ga];exact d1,?_,by rw[ga];exact d3,d4,Nat.zero_le _,d6,d7,λo _=>by rw[ga];exact d8 o⟩;rw[ga];simp only[if_true];rw[q1,Nat.zero_mul]
   |j+1=>simp at hB
  ·have hj:∀i x,bB [an.front e k 0] G' i=some x->i=0:=λi x h=>by
    obtain⟨B,hB,_⟩:=nL h
    match i with
    |0=>rfl
    |i+1=>simp at hB
   rw[hj i x h1,hj j x h2]
 refine wpIn_mono (h.run G' w a m ⟨hs.size,λi=> ?_,hinv,?_⟩ (Nat.zero_le _)) λ_ _ _ hn=>hn.trans hE
 ·show aD G' w _ (bp [(t, .own 0 [])] i);rw[mX];split
  ·next e=>
   subst e;refine .own 0 [] (by rw[ga];show 0<G.N;omega) ?_ (Nat.zero_le _) (λ_=>by rw[ga];simp);rw[q1,ga];exact hp0 A q3
  ·exact .dead _
 ·have:=hs.df;rw[ga];exact this
end
end Go.Proofs.YtmkmibahjanejaaGreatDoor
namespace Go.Proofs.YtmkmibahjanejaaGreatDoor.MK
open Go.RowKit
set_option linter.unusedVariables false
def an(w:apM)(g:Nat)(t:TypeId)(cs:apH apL):Prop:=w.heap[g]?=some (.cells cs.toArray t (0,0))
section
variable {w w':apM} {g:Nat} {t:TypeId} {cs:apH apL}
end
section
variable {P:apK} (w:apM)
end
section
variable {P:apK} {w:apM}
end
section
variable {S E base:Nat} {w w' w'':apM}
end
end Go.Proofs.YtmkmibahjanejaaGreatDoor.MK
namespace Go.Proofs.YtmkmibahjanejaaGreatDoor
open Go.RowKit
set_option linter.unusedSimpArgs false
set_option linter.unusedVariables false
section
variable {P:apK}
end
end Go.Proofs.YtmkmibahjanejaaGreatDoor
