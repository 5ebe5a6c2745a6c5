/-
  Part 3 of the proof: AbsInst, AbsExec, AbsExecV, AbsRange, AbsAny, AbsExec2, AbsExec3, AbsYield, AbsTree, AbsVecX, MemK, AbsVecD, AbsWk, OpenD.
-/
import Derived.Test.YtphmhnabilhbgaaGreatDoorPm2
import Derived.WalkKit
import Derived.Laws.CopyOwn
import Derived.Deep.AppendLies
import Derived.Lib.AppendZerosOnto
import Derived.Lib.Overlaps
import Derived.Lib.Hide
import Derived.ProofKit
import Derived.DataOpen
import Derived.SizedLaws
namespace Go.Proofs.YtphmhnabilhbgaaGreatDoor
open Go.RowKit
def tH(P:agX)(rs:agU ResultVar)(m:Nat)(s:St):agW (AV×agU an):=
 match oG P s rs with
 |some l=>bif b8 m s.h.length&&((ja l).bz m).aO m&&(((s.h.take m).map (an.bz m)).all (an.aO m))then some (((ja l).bz m).nrm,((s.h.take m).map (an.bz m)).map an.mM)else none
 |none=>none
def BD(P:agX)(fn:Func)(m:Nat)(R:AV)(H:agU an):Exit→St→Prop
 | .normal,s=>tH P fn.results.toList m s=some (R,H)
 | .ret,s=>tH P fn.results.toList m s=some (R,H)
 |_,_=>False
theorem Ng{P:agX}{s:St}{fn:Func}{m:Nat}{R:AV}{H:agU an}(h:tH P fn.results.toList m s=some (R,H)):n7 P fn m (fun r h'=>r.nrm=R∧h'.map an.mM=H) s:=by
 unfold tH at h;split at h
 ·next l e=>
  obtain⟨hb,he⟩:=dJ h;cases he
  simp only[af7,dA]at hb;exact zC _ _ _ e ⟨hb.1.1,hb.1.2,hb.2,rfl,rfl⟩
 ·cases h
theorem yM{P:agX}{s:St}{fn:Func}{m:Nat}{R:AV}{H:agU an}(h:tH P fn.results.toList m s=some (R,H)):BD P fn m R H .ret s:=h
theorem BX{P:agX}{f:FuncId}{fn:Func}{c:Code}{args:agU AV}{h H:agU an}{R:AV}(m:Nat)(hf:P.funcs[f]?=some fn)(hb:fn.body=some c)(hn:(fn.name== "runtime.NumGoroutine")=false)(hm:h.length≤m)
 (hw:bB P none h.length c (BD P fn m R H) {n:=args.length+(fn.ntmps-args.length),t:=kg 0 args,h:=h}):bD P f args h fun r1 h1=>r1=R∧h1=H:=by
 have h0:=vO (P:=P) (f:=f) (args:=args) (h:=h) (K:=fun r h'=>r.nrm=R∧h'.map an.mM=H) m hf hb hn hm (hw.mono fun e s hq=>by
  cases e with
  |normal=>exact Ng hq
  |ret=>exact Ng hq
  |_=>exact hq.elim)
 refine⟨h0.1,fun G w vs hi hl hr=>(h0.2 G w vs hi hl hr).mono fun e w' hp=> ?_⟩;obtain⟨v,G',x,h',rfl,hE,hN,dw,hv,rfl,rfl⟩:=hp;exact⟨v,G',x.nrm,_,rfl,hE,hN,Ir dw,hv.nrm,rfl,rfl⟩
theorem mG{P:agX}{r:agW Nat}{N0:Nat}{c:Code}{s s':St}{Q:Exit→St→Prop}(e:s=s')(h:bB P r N0 c Q s'):bB P r N0 c Q s:=e▸h
def gi{V:Type}:agU (agV×V)→agV→V→V
 |[],_,d=>d
 |(k,v)::l,s,d=>bif bL k==bL s then v else gi l s d
def qv{V:Type}:agU (agV×V)→agV→Bool
 |[],_=>false
 |(k,_)::l,s=>bif bL k==bL s then true else qv l s
def dp(l:agU (agV×Int)):agU (agV×D):=l.map fun p=>(p.1, .v (.int .i64 p.2))
def xx(l:agU (agV×Bool)):agU (agV×D):=l.map fun p=>(p.1, .v (.bool p.2))
theorem NX{V:Type}(f:V→D):∀(l:agU (agV×V))(s:agV)(d:V),kh (l.map fun p=>(p.1,f p.2)) s=bif qv l s then some (f (gi l s d))else none
 |[],s,d=>rfl
 |(k,v)::l,s,d=>by
  simp only[agv,kh,qv,gi];cases bL k==bL s with
  |true=>rfl
  |false=>simp only[cond_false];exact NX f l s d
theorem Qc{V:Type}:∀(l:agU (agV×V))(s:agV)(d:V),qv l s=false→gi l s d=d
 |[],s,d,_=>rfl
 |(k,v)::l,s,d,h=>by
  unfold qv at h;unfold gi;cases e:bL k==bL s with
  |true=>rw[e]at h;cases h
  |false=>rw[e]at h;simp only[cond_false];exact Qc l s d h
theorem Qo{V:Type}(f:V→D)(z:agY)(d0:V)(hz:f d0= .v z)(ok:Bool)(l:agU (agV×V))(s:agV):
 tn ok z (kh (l.map fun p=>(p.1,f p.2)) s)=bif ok then .bU [.d (f (gi l s d0)), .d (.v (.bool (qv l s)))]else .d (f (gi l s d0)):=by
 rw[NX f l s d0];cases e:qv l s with
 |true=>cases ok<;>rfl
 |false=>rw[Qc l s d0 e,hz];cases ok<;>rfl
theorem BE(ok:Bool)(l:agU (agV×Int))(s:agV):tn ok (.int .i64 0) (kh (dp l) s)=bif ok then .bU [.d (.v (.int .i64 (gi l s 0))), .d (.v (.bool (qv l s)))]else .d (.v (.int .i64 (gi l s 0))):=
 Qo (fun n=> .v (.int .i64 n)) _ 0 rfl ok l s
theorem UN(ok:Bool)(l:agU (agV×Bool))(s:agV):tn ok (.bool false) (kh (xx l) s)=bif ok then .bU [.d (.v (.bool (gi l s false))), .d (.v (.bool (qv l s)))]else .d (.v (.bool (gi l s false))):=
 Qo (fun n=> .v (.bool n)) _ false rfl ok l s
theorem Kl{l:agU (agV×Int)}(h:Nat.blt l.length 9223372036854775807=true):(Sd.lt (dp l).length).ok:=by
 unfold dp;rw[aga];exact agd h
theorem abr{l:agU (agV×Bool)}(h:Nat.blt l.length 9223372036854775807=true):(Sd.lt (xx l).length).ok:=by
 unfold xx;rw[aga];exact agd h
def gI(g:Nat):agU Int:=((xO wL g).getD []).map fun v=>match v with| .int _ n=>n|_=>0
def V0(l:agU Int):agV:=⟨(l.map fun n=>UInt8.ofNat n.toNat).toArray⟩
theorem Wy{α:Type}{c:Bool}{x y z:α}(h:(bif c then x else y)=z):(c=true∧x=z)∨(c=false∧y=z):=by
 cases c with
 |true=>exact .inl ⟨rfl,h⟩
 |false=>exact .inr ⟨rfl,h⟩
inductive HD
 |same
 |push (B:an)
 |set (n:Nat) (B:an)
def HD.app:HD→agU an→agU an
 | .same,h=>h
 | .push B,h=>h++[B]
 | .set n B,h=>h.set n B
def zN:Int→agW Nat
 | .ofNat n=>some n
 | .negSucc _=>none
theorem zU{z:Int}{n:Nat}(h:zN z=some n):0≤z∧z.toNat=n:=by
 cases z with
 |ofNat m=>cases h;exact⟨Int.natCast_nonneg _,rfl⟩
 |negSucc m=>cases h
def rk(ρ:Operand→AV)(d:Nat):agW Operand→agW Nat
 |none=>some d
 |some y=>match (ρ y).int? with
  |some z=>zN z
  |none=>none
def By(k:Nat)(xs:agU (agU D)):Bool:=xs.all fun c=>c.length==k
def FD(P:agX)(T:TypeId)(x i:AV):agW AV:=
 match ej P T with
 |some (_,k)=>match x with
  | .row n off len _ k'=>match i.int? with
    |some z=>match zN z with
     |some q=>bif k'==k&&b8 (q+1) len then some (.ptr n (off+q*k))else none
     |none=>none
    |none=>none
  |x=>match x.fw,i.int? with
   |some xs,some z=>match zN z with
    |some q=>match xs[q]? with
     |some c=>bif c.length==k then some (.aW [c] 0 0)else none
     |none=>none
    |none=>none
   |_,_=>none
 |none=>match sy P T,x,i.int? with
  |some (n,_,k), .ptr b off,some z=>match zN z with
   |some q=>bif b8 (q+1) n then some (.ptr b (off+q*k))else none
   |none=>none
  |some (n,_,k), .aW xs e off,some z=>match zN z with
   |some q=>bif k==1&&b8 (q+1) n then match xs[e]? with
    |some c=>match c[off+q]? with
     |some d=>some (.aW [[d]] 0 0)
     |none=>none
    |none=>none
    else none
   |none=>none
  |_,_,_=>none
theorem aep{P:agX}{T:TypeId}{x i y:AV}{K:AV→Prop}(h:FD P T x i=some y)(hK:K y):oI P T x i K:=by
 unfold FD at h;unfold oI;split at h
 ·next e k eT=>
  simp only[eT];split at h
  ·next n off len cap k'=>
   simp only;split at h
   ·next z ez=>
    simp only[ez];split at h
    ·next q eq=>
     obtain⟨h0,h1⟩:=zU eq;obtain⟨hb,he⟩:=dJ h;rw[af7,dA]at hb;refine bM.2 ⟨hb.1,h0,by omega,?_⟩;rw[h1,he];exact hK
    ·cases h
   ·cases h
  ·next x' jJ=>
   split at h
   ·next xs z e1 e2=>
    split at h
    ·next q eq=>
     obtain⟨h0,h1⟩:=zU eq;split at h
     ·next c ec=>
      obtain⟨hb,he⟩:=dJ h;simp only[e1,e2];refine⟨h0,?_⟩;rw[h1,ec];exact⟨by simpa using hb,by rw[he];exact hK⟩
     ·cases h
    ·cases h
   ·cases h
 ·next eT=>
  simp only[eT];split at h
  ·next n e k b off z e1 e2=>
   simp only[e1,e2];split at h
   ·next q eq=>
    obtain⟨h0,h1⟩:=zU eq;obtain⟨hb,he⟩:=dJ h;rw[dA]at hb;exact⟨h0,by omega,by rw[h1,he];exact hK⟩
   ·cases h
  ·next n e0 k xs e off z e1 e2=>
   simp only[e1,e2];split at h
   ·next q eq=>
    obtain⟨h0,h1⟩:=zU eq;obtain⟨hb,h⟩:=mn h;rw[af7,dA]at hb;split at h
    ·next c ec=>
     split at h
     ·next d ed=>
      cases h
      refine bM.2 ⟨hb.1,h0,by omega,?_⟩;rw[ec];simp only;rw[h1,ed];exact hK
     ·cases h
    ·cases h
   ·cases h
  ·cases h
def afZ(P:agX)(T:TypeId)(ρ:Operand→AV)(x:AV)(lo hi mx:agW Operand):agW AV:=
 match mx with
 |none=>
  match x with
  | .d (.v (.string b))=>match rk ρ b.size hi,rk ρ 0 lo with
    |some h,some l=>bif gg P T&&b8 h b.size&&b8 l h then some (.d (.v (.string (b.extract l h))))else none
    |_,_=>none
  | .ptr n off=>match sy P T with
    |some (m,_,k)=>match rk ρ m hi,rk ρ 0 lo with
     |some h,some l=>bif b8 m 4096&&b8 h m&&(b8 l h&& !b8 m l)then some (.row n (off+l*k) (h-l) (m-l) k)else none
     |_,_=>none
    |none=>none
  |x=>match x.fw,ej P T with
   |some xs,some (_,k)=>match rk ρ xs.length hi,rk ρ 0 lo with
    |some h,some l=>bif By k xs&&b8 h xs.length&&b8 l h then some (.d (.sl ((xs.take h).drop l)))else none
    |_,_=>none
   |_,_=>none
 |some m=>match lo,hi with
  |none,some y=>match x.fw,ej P T with
   |some xs,some (_,k)=>match rk ρ 0 (some m),rk ρ 0 (some y)with
    |some c,some h=>bif By k xs&&b8 c xs.length&&h==c then some (.full (xs.take h))else none
    |_,_=>none
   |_,_=>none
  |_,_=>none
def afY(P:agX)(T:TypeId)(h:agU an)(x y:AV):agW (AV×HD):=
 match ej P T with
 |some (e,k)=>match zeroT P e,oA P e with
  |some z,some dc=>match Dv h k y with
   |some ys=>bif b8 1 k&&z.cells.toList.length==k&&By k ys then
    match x with
    | .own n xs=>match h[n]? with
      |some (.front e' k' len)=>bif e'==e&&k'==k&&len==xs.length&&By k xs&&b8 (xs.length+ys.length) maxLen&&b8 ((xs.length+ys.length)*dc) 140737488355328 then some (.own n (xs++ys), .set n (.front e k (xs.length+ys.length)))else none
      |_=>none
    | .d (.v (.slice none 0 0))=>bif b8 ys.length maxLen&&b8 (ys.length*dc) 140737488355328 then some (.own h.length ys, .push (.front e k ys.length))else none
    | .full xs=>bif By k xs&&b8 (xs.length+ys.length) maxLen&&b8 ((xs.length+ys.length)*dc) 140737488355328 then some (.own h.length (xs++ys), .push (.front e k (xs.length+ys.length)))else none
    |_=>none
    else none
   |none=>none
  |_,_=>none
 |none=>none
def No:agU (agU D)→agW (agU Int)
 |[]=>some []
 |[.v (.int .u8 n)]::l=>match No l with
  |some ns=>some (n::ns)
  |none=>none
 |_=>none
def Mp:agW (AV×In)→agW AV
 |some (x, .none)=>some x
 |some (x, .nz b)=>bif b==0 then none else some x
 |some (x, .nn b)=>match zN b with
  |some _=>some x
  |none=>none
 |some (x, .cat n)=>bif b8 n maxLen then some x else none
 |_=>none
theorem Vg{r:agW (AV×In)}{x:AV}(P:agX)(h:Mp r=some x):∃i,r=some (x,i)∧OK P i .ok:=by
 unfold Mp at h;split at h
 ·cases h;exact⟨_,rfl, .none⟩
 ·next b=>
  cases hb:b==0 with
  |true=>rw[hb]at h;cases h
  |false=>rw[hb]at h;cases h;exact⟨_,rfl, .nz (by simpa using hb)⟩
 ·next b=>
  split at h
  ·next e=>cases h;exact⟨_,rfl, .nn (zU e).1⟩
  ·cases h
 ·obtain⟨hb,he⟩:=dJ h;cases he
  exact⟨_,rfl, .cat (dA.1 hb)⟩
 ·cases h
def pX(r:agW AV):agW (AV×HD):=
 match r with
 |some x=>some (x, .same)
 |none=>none
def af2(P:agX)(src dst:TypeId)(x:AV):agW AV:=
 match FL P src dst x .none with
 |some (y, .none)=>some y
 |_=>match x.fw,ej P src with
  |some xs,some (e,_)=>match No xs with
   |some ns=>match x with
    | .d (.v _)=>none
    |_=>bif B3 P e&&gg P dst then some (.d (.v (.string (V0 ns))))else none
   |none=>none
  |_,_=>none
def kI(P:agX)(op:Op)(ρ:Operand→AV)(h:agU an):agW (AV×HD):=
 match op with
 | .move x| .assign x=>some (ρ x, .same)
 | .pick c x y=>match ρ c with
   | .d (.v (.bool b))=>some (bif b then ρ x else ρ y, .same)
   |_=>none
 | .alloc e=>match zeroT P e with
   |some z=>some (.ptr h.length 0, .push (.cells (z.cells.toList.map fun u=> .d (.v u))))
   |none=>none
 | .box _ x=>bif (ρ x).iL then some (.ptr h.length 0, .push (.cells (ρ x).cells))else none
 | .load t p=>match tE h (ρ p)with
   |some (cs,off)=>pX (xr P t cs off)
   |none=>none
 | .store t p x=>match ρ p with
   | .ptr n off=>match h[n]? with
     |some (.cells cs)=>match fh P t with
      |some k=>bif k==(ρ x).cells.length&&(ρ x).iL&&b8 (off+(ρ x).cells.length) cs.length then some (.d (.v undef), .set n (.cells (gq cs off (ρ x).cells)))else none
      |none=>none
     |_=>none
   |_=>none
 | .nilCheck x=>match ρ x with
   | .ptr n off=>some (.ptr n off, .same)
   | .aW xs i off=>some (.aW xs i off, .same)
   | .fn f cs=>some (.fn f cs, .same)
   |_=>none
 | .fieldAddr S x f=>match pE P S f with
   |some (fo,_,_)=>match ρ x with
    | .ptr n off=>some (.ptr n (off+fo), .same)
    | .aW xs i off=>some (.aW xs i (off+fo), .same)
    |_=>none
   |none=>none
 | .field T x f=>pX (FU P T (ρ x) f)
 | .indexAddr T x i=>pX (FD P T (ρ x) (ρ i))
 | .extract x i=>match ρ x with
   | .bU cs=>match cs[i]? with
     |some c=>some (c, .same)
     |none=>none
   |_=>none
 | .makeFunc (.func f) first dy=>match first.toList with
   |[]=>some (.fn f (dy.toList.map ρ), .same)
   |_=>none
 | .binOp op T x y _=>pX (Mp (GM P T op (ρ x) (ρ y)))
 | .unOp op _ x=>match ρ x with
   | .d (.v u)=>match CV op u with
     |some v=>some (.d (.v v), .same)
     |none=>none
   |_=>none
 | .call c=>match c.callee with
   | .builtin .len=>match c.args.toList,c.argTypes.toList with
     |[x],[T]=>match ρ x with
      | .d (.v (.string s))=>bif gg P T then some (.d (.v (.int .i64 s.size)), .same)else none
      | .row _ _ len _ _=>bif (ej P T).isSome then some (.d (.v (.int .i64 len)), .same)else none
      |x=>match x.fw with
       |some xs=>bif (ej P T).isSome then some (.d (.v (.int .i64 xs.length)), .same)else none
       |none=>none
     |_,_=>none
   |_=>none
 |_=>none
theorem CP{r:agW AV}{x:AV}{d:HD}(h:pX r=some (x,d)):r=some x∧d= .same:=by
 unfold pX at h;split at h
 ·cases h;exact⟨rfl,rfl⟩
 ·cases h
theorem UF{P:agX}{o:Oper}{ρ:Operand→AV}{h:agU an}{x:AV}{d:HD}{C:AV→agU an→Prop}(h1:kI P o.op ρ h=some (x,d))(hC:C x (d.app h)):cD P o ρ h C:=by
 obtain⟨dst,op,type,pos,after,guard⟩:=o;simp only at h1;unfold kI at h1;unfold cD;split at h1
 ·cases h1;exact hC
 ·cases h1;exact hC
 ·next c y z=>
  split at h1
  ·next b e=>
   cases h1
   simp only[e];cases b with
   |true=>exact⟨fun _=>hC,fun h=>Bool.noConfusion h⟩
   |false=>exact⟨fun h=>Bool.noConfusion h,fun _=>hC⟩
  ·cases h1
 ·split at h1
  ·next z e=>cases h1;simp only[e];exact hC
  ·cases h1
 ·obtain⟨hb,he⟩:=dJ h1;cases he;exact bM.2 ⟨hb,hC⟩
 ·split at h1
  ·next cs off e=>
   obtain⟨e2,rfl⟩:=CP h1;exact HO e e2 hC
  ·cases h1
 ·split at h1
  ·next n off e=>
   split at h1
   ·next cs e2=>
    split at h1
    ·next k e3=>obtain⟨hb,he⟩:=dJ h1;cases he;simp only[e,ue,e2,e3];exact bM.2 ⟨hb,hC⟩
    ·cases h1
   ·cases h1
  ·cases h1
 ·split at h1
  ·next e=>cases h1;simp only[e];exact hC
  ·next e=>cases h1;simp only[e];exact hC
  ·next e=>cases h1;simp only[e];exact hC
  ·cases h1
 ·split at h1
  ·next e=>
   simp only[e];split at h1
   ·next e2=>cases h1;simp only[e2];exact hC
   ·next e2=>cases h1;simp only[e2];exact hC
   ·cases h1
  ·cases h1
 ·obtain⟨e,rfl⟩:=CP h1;exact Qe e hC
 ·obtain⟨e,rfl⟩:=CP h1;exact aep e hC
 ·split at h1
  ·next e=>
   split at h1
   ·next e2=>cases h1;simp only[e,e2];exact hC
   ·cases h1
  ·cases h1
 ·split at h1
  ·next e=>cases h1;simp only[e];exact hC
  ·cases h1
 ·obtain⟨e,rfl⟩:=CP h1;obtain⟨i,e2,b7⟩:=Vg P e;exact SN e2 b7 hC
 ·unfold uO;split at h1
  ·next e=>
   split at h1
   ·next e2=>cases h1;simp only[e,e2];exact hC
   ·cases h1
  ·cases h1
 ·next c=>
  split at h1
  ·next hc=>
   simp only[hc];split at h1
   ·next y T e1 e2=>
    simp only[e1,e2];unfold qm;split at h1
    ·next s e=>obtain⟨hb,he⟩:=dJ h1;cases he;simp only[e];exact bM.2 ⟨hb,hC⟩
    ·next e=>obtain⟨hb,he⟩:=dJ h1;cases he;simp only[e];exact bM.2 ⟨hb,hC⟩
    ·next n1 n2=>
     split at h1
     ·next xs e=>
      obtain⟨hb,he⟩:=dJ h1;cases he;split
      ·next s e'=>exact absurd e' (n1 s)
      ·next e'=>exact absurd e' (n2 _ _ _ _ _)
      ·simp only[e];exact bM.2 ⟨hb,hC⟩
     ·cases h1
   ·cases h1
  ·cases h1
 ·cases h1
def cX(n:Nat)(t:agU (Nat×AV)):agU AV:=(List.range n).map (bm t)
theorem Wv{n:Nat}{t:agU (Nat×AV)}{i:Nat}{c:AV}(h:(cX n t)[i]?=some c):bm t i=c:=by
 unfold cX at h;rw[agc]at h;by_cases hi:i<n
 ·rw[List.getElem?_range hi]at h;exact agp h
 ·rw[agC (by simpa using hi)]at h;cases h
def Jm(P:agX)(N0:Nat)(Q:Exit→St→Prop)(s:St):LS→Prop
 | .ready=>Q .normal s
 | .done c=>bB P none N0 c Q s
 | .busy=>False
theorem aeB{P:agX}{N0:Nat}{s:St}{Q:Exit→St→Prop}{g:Operand}{p:Nat}{assign body:Code}{gf:FuncId}{dy:agU AV}(hg:ev s g= .fn gf dy)
 (hc:bD P gf (.c7 s.h.length::dy) (s.h++[.lp .ready p assign body (cX s.n s.t)]) fun _ h'=>∃(ls:LS)(p1:Nat)(p9 ql:Code)(vf:agU AV),h'[s.h.length]?=some (.lp ls p1 p9 ql vf)∧Jm P N0 Q ⟨s.n,s.t,h'.set s.h.length .gone⟩ ls):
 bB P none N0 (.rangeFunc g #[p] assign body) Q s:=by
 constructor
 intro G w a n hs hN;have hv:=hs.ev g;rw[hg]at hv;obtain⟨lb,ea,hl,hr⟩:∃lb:Array agY,a.eval g= .func (.func gf) #[] lb∧lb.size=dy.length∧∀(i:Nat)(u:agY)(c:AV),lb[i]?=some u→dy[i]?=some c→aE G w u c:=by
  generalize a.eval g=u at hv;cases hv with|fn _ vs _ hl hr=>exact⟨vs,rfl,hl,hr⟩
 obtain⟨BH,je⟩:=hc;refine wpIn_rangeFunc (F:=WF none) ?_;intro fn _;obtain⟨zu,QD⟩:=aah hs.inv;obtain⟨G0,jy⟩:∃G0:Gh,G0={G with Z:=fun b=>G.Z b∨b=w.heap.size}:=⟨_,rfl⟩;obtain⟨w0,nV⟩:∃w0,w0=w.alloc (.deferred (some [])):=⟨_,rfl⟩;rw[←jy,←nV]at zu QD;have cA:G0.N=G.N:=by rw[jy]
 have fZ:w0.heap.size=w.heap.size+1:=by rw[nV];simp
 obtain⟨jr,T9,Iu⟩:=acN QD fn a.tmps w.heap.size p assign body (cX s.n s.t) (by simp [cX,hs.size]) fun i u c hu hc=>by
  have h9:=hs.tmp i;rw[Wv hc]at h9;have e:a.tmps.getD i undef=u:=by
   have aN:=(agl.1 hu).1;rw[ags aN]at hu;simp [Array.getD,aN];exact agp hu
  rw[e]at h9;exact h9.keep zu (Nat.le_of_eq cA.symm)
 obtain⟨w1,Fs⟩:∃w1,w1=w0.alloc (.loop {state:= .ready,pending:=none,fn:=fn,tmps:=a.tmps,params:= #[p],assign:=assign,body:=body,defers:=w.heap.size}):=⟨_,rfl⟩;obtain⟨G1,J8⟩:∃G1:Gh,G1=G0.dT w0.heap.size:=⟨_,rfl⟩;rw[←Fs,←J8]at jr T9 Iu;have fE:G1.N=G.N+1:=by rw[J8,←cA];rfl
 have Xq:G1.bg s.h.length=w.heap.size+1:=by rw[J8,hs.inv.len,←cA];simp [Gh.dT,fZ]
 rw[fZ]at Iu;have Ss:bK G.N G w G1 w1:=zu.trans (jr.less (Nat.le_of_eq cA.symm));refine⟨w.heap.size+1,[{target:= .collected w.heap.size,args:= #[]}],w1,{target:= .fn (.func gf) lb,args:= #[.func (.yield (w.heap.size+1)) #[] #[]]},w1,gf, #[.func (.yield (w.heap.size+1)) #[] #[]]++lb,w1,?_,?_,fun _ _=>trivial,?_,fun h=>(by simp [WF,Fence.wide]at h),?_⟩
 ·rw[Fs,nV];exact run_enterLoop_outer _ _ _ _ _
 ·simp only[resolve,ea];simp [Deferred.ofValue,go_sem]
 ·simp [invoke,Mu BH]
 have hK:=je G1 w1 (#[.func (.yield (w.heap.size+1)) #[] #[]]++lb) T9 (by simp [hl];omega) (fun i u c hu hc=>by
  match i with
  |0=>
   rw[Array.getElem?_append_left (by simp)]at hu;simp at hu hc;subst hu;subst hc;exact Iu
  |i+1=>
   rw[Array.getElem?_append_right (by simp)]at hu;simp at hu hc;exact(hr i u c hu hc).keep Ss (by rw[fE];exact Nat.le_succ _))
 refine CallsIn.mono (F:=WF none) (callsIn_wide (n:=n-1).2 hK) ?_;rintro e w2 ⟨v,G2,r,h',rfl,jB,hN2,Qk,_,ls,p1,p9,ql,vf,hk,JH⟩;have vZ:s.h.length<G1.N:=by rw[hs.inv.len,fE];exact agS _
 have Cy:G2.bg s.h.length=w.heap.size+1:=(jB.bg _ vZ).trans Xq;obtain⟨_,WQ,W0,D2,g3,g4,g5,QX⟩:=E1 Qk hk;rw[Cy]at g3;have WJ:bK G.N G w G2 w2:=Ss.trans (jB.less (by rw[fE];exact Nat.le_succ _));have DF:G.N≤G2.N:=by rw[fE]at hN2;omega
 obtain⟨ob,kW⟩:∃ob:Obj,ob= .loop {state:= .exhausted,pending:=ls.pd,fn:=WQ,tmps:=W0,params:= #[p1],assign:=p9,body:=ql,defers:=D2}:=⟨_,rfl⟩;obtain⟨zE,zI⟩:=afv Qk hk ob;rw[Cy]at zE zI;have Ca:bK G.N G w G2 (w2.putObj (w.heap.size+1) ob):=WJ.trans (zE.less DF);have hM:=hs.inv.gl.2;have H5:G0.Z w.heap.size:=by rw[jy];exact .inr rfl
 have MC:G2.Z w.heap.size:=jB.Z.1.1 _ (jr.Z.1.1 _ H5);have hDh:(w2.putObj (w.heap.size+1) ob).heap[w.heap.size]?=some (.deferred (some [])):=by
  rw[zE.old _ MC,jB.old _ (jr.Z.1.1 _ H5),jr.old _ H5,nV];exact World.alloc_heap_new w _
 have cy:cT G2 (w2.putObj (w.heap.size+1) ob) {a with defers:=[{target:= .collected w.heap.size,args:= #[]}]++a.defers} ⟨s.n,s.t,h'.set s.h.length .gone⟩:=by
  refine⟨hs.size,fun i=>(hs.tmp i).keep Ca DF,zI,?_⟩;obtain⟨l,l1,l2,l3⟩:=hs.df.keep Ca;obtain⟨l',l1',PF,l3'⟩:=hs.df;have fW:l=l':=by
   rw[l2]at PF;have acX:∀(x y:agU Nat),x.map (fun D=>({target:= .collected D,args:= #[]}:Deferred))=y.map (fun D=>{target:= .collected D,args:= #[]})→x=y:=by
     intro x
     induction x with
     |nil=>intro y h;cases y with
      |nil=>rfl
      |cons b y=>simp at h
     |cons a x ih=>intro y h;cases y with
      |nil=>simp at h
      |cons b y=>simp at h;rw[h.1,ih y (by simpa using h.2)]
   exact acX _ _ PF
  refine⟨w.heap.size::l,?_,by rw[agv,←l2];rfl,fun D hD=> ?_⟩
  ·rw[List.nodup_cons];exact⟨fun h=>agK _ (hs.inv.z _ (l3' _ (fW▸h)).2.1),l1⟩
  ·rcases agA.1 hD with rfl|hD
   ·exact⟨by rw[Ca.Z.2];exact hM,MC,hDh⟩
   ·exact l3 D hD
 subst kW;have Cm:=fun hb=>run_endLoop (P:=P) g3 hb;cases ls with
 |busy=>exact JH.elim
 |ready=>
  refine⟨_,_,Cm (by simp [LS.st]),?_⟩;exact⟨G2,_,Ca.less hN,ago hN DF,cy,JH⟩
 |done c=>
  refine⟨_,_,Cm (by simp [LS.st]),?_⟩;refine wpIn_mono (JH.run G2 _ _ n (cy) (ago hN DF)) fun _ _ _ hn=> ?_;exact hn.trans (Ca.less hN)
set_option linter.unusedSimpArgs false
set_option linter.unusedVariables false
mutual
theorem Cn:∀x:AV,x.aM id=x
 | .agg cs=>by rw[AV.aM,qP cs]
 | .bU cs=>by rw[AV.aM,qP cs]
 | .fn f cs=>by rw[AV.aM,qP cs]
 | .own .. =>by simp [AV.aM]
 | .d _=>by simp [AV.aM]
 | .ptr .. =>by simp [AV.aM]
 | .aW .. =>by simp [AV.aM]
 | .full _=>by simp [AV.aM]
 | .row .. =>by simp [AV.aM]
 | .mp _=>by simp [AV.aM]
 | .c7 _=>by simp [AV.aM]
 | .vec .. =>by simp [AV.aM]
 | .de .. =>by simp [AV.aM]
 | .hid _=>by simp [AV.aM]
 | .dead=>by simp [AV.aM]
theorem qP:∀l:agU AV,AV.eR id l=l
 |[]=>by simp [AV.eR]
 |x::l=>by rw[AV.eR,Cn x,qP l]
end
theorem Lo(B:an):B.aM id=B:=by
 cases B with
 |cells cs=>simp only[an.aM,qP]
 |lp ls p as bd cs=>simp only[an.aM,qP]
 |it sn cs=>simp only[an.aM,qP]
 |vec e k cs=>simp only[an.aM];congr 1;exact(agB fun x _=>qP x).trans (List.map_id _)
 |_=>rfl
theorem aE.low{G:Gh}{w:agZ}{u:agY}{x:AV}(h:aE G w u x):x.aO G.N=true:=by
 have lt:∀{n:Nat},n<G.N→(!b8 G.N n)=true:=fun{n} hn=>by
  rw[Bool.not_eq_true',←Bool.not_eq_true,dA];omega
 have e8:∀(vs:Array agY)(cs:agU AV),vs.size=cs.length→(∀(i:Nat)(u:agY)(c:AV),vs[i]?=some u→cs[i]?=some c→c.aO G.N=true)→AV.lP G.N cs=true:=fun vs cs hl h=>by
  rw[lE,agw];intro c hc;obtain⟨i,hi,rfl⟩:=List.mem_iff_getElem.1 hc;exact h i vs[i] _ (ags (by omega)) (af9 hi)
 induction h with
 |agg vs cs hl _ ih=>rw[AV.aO];exact e8 vs cs hl ih
 |bU vs cs hl _ ih=>rw[AV.aO];exact e8 vs cs hl ih
 |fn f vs cs hl _ ih=>rw[AV.aO];exact e8 vs cs hl ih
 |ptr n off h=>rw[AV.aO];exact lt h
 |own n xs h=>rw[AV.aO];exact lt h
 |row n off len cap k h=>rw[AV.aO];exact lt h
 |mp n h=>rw[AV.aO];exact lt h
 |c7 n h=>rw[AV.aO];exact lt h
 |vec n o len L k h=>rw[AV.aO];exact lt h
 |de n i j L k h=>rw[AV.aO];exact lt h
 |_=>simp [AV.aO]
def iI(N0:Nat)(s s':St):Prop:=∀(G:Gh)(w:agZ)(a:Act),N0≤G.N→cT G w a s→∃G',bK N0 G w G' w∧N0≤G'.N∧cT G' w a s'
theorem iI.refl(N0:Nat)(s:St):iI N0 s s:=fun G _ _ hN hs=>⟨G,bK.refl _ _ _,hN,hs⟩
theorem iI.trans{N0:Nat}{s1 s2 s3:St}(h:iI N0 s1 s2)(k:iI N0 s2 s3):iI N0 s1 s3:=fun G w a hN hs=>by
 obtain⟨G1,e1,n1,h1⟩:=h G w a hN hs;obtain⟨G2,e2,n2,h2⟩:=k G1 w a n1 h1;exact⟨G2,e1.trans e2,n2,h2⟩
theorem iI.of_eq{N0:Nat}{s s':St}(h:ia s s'):iI N0 s s':=fun G _ _ hN hs=>
 ⟨G,bK.refl _ _ _,hN,hs.size.trans h.n,fun i=>by rw[←h.t i];exact hs.tmp i,by rw[←h.h];exact hs.inv,hs.df⟩
theorem iI.aM{N0:Nat}{s s':St}(σ τ:Nat→Nat)(hn:s.n=s'.n)(hlen:s'.h.length=s.h.length)(aN:∀i,i<s.h.length→σ i<s.h.length)(hτ:∀i,i<s.h.length→τ i<s.h.length)
 (q8:∀i,i<s.h.length→τ (σ i)=i) (jm:∀i,i<s.h.length→σ (τ i)=i) (u4:∀i,i<N0→σ i=i)
 (ht:∀i,(bm s.t i).aO s.h.length=true→bm s'.t i=(bm s.t i).aM σ∨bm s'.t i= .dead) (hh:∀i,i<s.h.length→s'.h[σ i]?=(s.h[i]?).map (an.aM σ)):iI N0 s s':=fun G w a hN hs=>by
 have hl:s.h.length=G.N:=hs.inv.len;rw[hl]at aN hτ q8 jm hh hlen ht;have I3:∀i,i<N0→τ i=i:=fun i hi=>by
  have h1:=q8 i (by omega);rw[u4 i hi]at h1;exact h1
 let G':Gh:={G with bg:=fun n=>G.bg (τ n),sg:=fun n=>G.sg (τ n),ow:=fun n=>G.ow (τ n),fl:=fun n=>G.fl (τ n)}
 have hR:nY σ G G':=⟨aN,fun n h=>by show G.bg (τ (σ n))=_;rw[q8 n h],fun n h=>by show G.sg (τ (σ n))=_;rw[q8 n h],fun n h=>by show G.fl (τ (σ n))=_;rw[q8 n h],fun n h=>by show G.ow (τ (σ n))=_;rw[q8 n h],fun _ _=>Iff.rfl⟩;have hE:bK N0 G w G' w:=⟨agh _,fun _ _ h=>h,fun _ _ _=>rfl,fun n h=>by show G.bg (τ n)=_;rw[I3 n h],fun n h=> .inl ⟨by show G.fl (τ n)=_;rw[I3 n h],by show G.sg (τ n)=_;rw[I3 n h]⟩,fM rfl,fun _ _=>rfl,rfl,rfl,rfl,fun _ _ h=> .inl h⟩;have eN:∀(n:Nat)(B:an),s'.h[n]?=some B→∃m B0,m<G.N∧σ m=n∧s.h[m]?=some B0∧B=B0.aM σ:=fun n B hB=>by
  have eD:n<G.N:=by have:=(af5.1 hB).1;omega
  have h1:=hh (τ n) (hτ n eD);rw[jm n eD,hB]at h1;cases h2:s.h[τ n]? with
  |none=>rw[h2]at h1;cases h1
  |some B0=>rw[h2]at h1;cases h1;exact⟨τ n,B0,hτ n eD,jm n eD,h2,rfl⟩
 have dL:∀(n b:Nat),bR s'.h G' n=some b→∃m,m<G.N∧σ m=n∧bR s.h G m=some b:=fun n b hb=>by
  obtain⟨B,hB,hb⟩:=j7 hb;obtain⟨m,B0,k1,k2,k3,rfl⟩:=eN n B hB;subst k2;rw[Js hR k1]at hb;exact⟨m,k1,rfl,by rw[dC k3];exact hb⟩
 refine⟨G',hE,hN,hs.size.trans hn,fun i=> ?_,⟨hlen,hs.inv.z,hs.inv.S,fun n B hB=> ?_,fun m n b hm eD=> ?_,hs.inv.gl.keep hE⟩,hs.df.keep hE⟩
 ·have hv:=hs.tmp i;rcases ht i hv.low with e|e
  ·rw[e];exact hv.aM hR
  ·rw[e];exact .dead _
 ·obtain⟨m,B0,k1,k2,k3,rfl⟩:=eN n B hB;subst k2;have hb:=hs.inv.dh m B0 k3;exact dY.aM hR k1 (fun b h1=>hb.kD h1) hb
 ·obtain⟨m',k1,k2,k3⟩:=dL m b hm;obtain⟨n',j1,j2,j3⟩:=dL n b eD;have:=hs.inv.inj m' n' b k3 j3;rw[←k2,←j2,this]
def KO:agY→agY→Bool
 | .bool a, .bool b=>a==b
 | .int k a, .int l b=>decide (k=l)&&decide (a=b)
 | .string a, .string b=>bL a==bL b
 | .pointer none, .pointer none=>true
 | .slice none a b, .slice none c d=>a==c&&b==d
 | .map none, .map none=>true
 | .nilFunc, .nilFunc=>true
 | .nilIface, .nilIface=>true
 | .tuple a, .tuple b=>a.size==0&&b.size==0
 |_,_=>false
theorem abm{u v:agY}(h:KO u v=true):u=v:=by
 unfold KO at h;split at h
 ·rw[beq_iff_eq]at h;subst h;rfl
 ·rw[af7,decide_eq_true_eq,decide_eq_true_eq]at h;obtain⟨h1,h2⟩:=h;subst h1;subst h2;rfl
 ·rw[beq_iff_eq]at h;rw[JE h]
 ·rfl
 ·rw[af7,beq_iff_eq,beq_iff_eq]at h;obtain⟨h1,h2⟩:=h;subst h1;subst h2;rfl
 ·rfl
 ·rfl
 ·rfl
 ·rw[af7,beq_iff_eq,beq_iff_eq]at h;rw[Array.eq_empty_of_size_eq_zero h.1,Array.eq_empty_of_size_eq_zero h.2]
 ·cases h
mutual
def D.rT:D→D→Bool
 | .v a, .v b=>KO a b
 | .sl xs, .sl ys=>D.pV xs ys
 |_,_=>false
def D.pV:agU (agU D)→agU (agU D)→Bool
 |[],[]=>true
 |x::xs,y::ys=>D.wo x y&&D.pV xs ys
 |_,_=>false
def D.wo:agU D→agU D→Bool
 |[],[]=>true
 |x::xs,y::ys=>D.rT x y&&D.wo xs ys
 |_,_=>false
end
mutual
theorem D.Hz:∀x y:D,D.rT x y=true→x=y
 | .v a, .v b,h=>by rw[D.rT]at h;rw[abm h]
 | .sl xs, .sl ys,h=>by rw[D.rT]at h;rw[D.yQ xs ys h]
 | .v _, .sl _,h=>by simp [D.rT]at h
 | .sl _, .v _,h=>by simp [D.rT]at h
theorem D.yQ:∀x y:agU (agU D),D.pV x y=true→x=y
 |[],[],_=>rfl
 |x::xs,y::ys,h=>by rw[D.pV,af7]at h;rw[D.Tc x y h.1,D.yQ xs ys h.2]
 |[],_::_,h=>by simp [D.pV]at h
 |_::_,[],h=>by simp [D.pV]at h
theorem D.Tc:∀x y:agU D,D.wo x y=true→x=y
 |[],[],_=>rfl
 |x::xs,y::ys,h=>by rw[D.wo,af7]at h;rw[D.Hz x y h.1,D.Tc xs ys h.2]
 |[],_::_,h=>by simp [D.wo]at h
 |_::_,[],h=>by simp [D.wo]at h
end
mutual
def AV.eO(σ:Nat→Nat):AV→AV→Bool
 | .d x,y=>(match y with| .d y=>D.rT x y|_=>false)
 | .agg a,y=>(match y with| .agg b=>AV.na σ a b|_=>false)
 | .bU a,y=>(match y with| .bU b=>AV.na σ a b|_=>false)
 | .fn f a,y=>(match y with| .fn g b=>f==g&&AV.na σ a b|_=>false)
 | .ptr n o,y=>(match y with| .ptr m p=>σ n==m&&o==p|_=>false)
 | .aW xs i o,y=>(match y with| .aW ys j p=>D.pV xs ys&&(i==j&&o==p)|_=>false)
 | .own n xs,y=>(match y with| .own m ys=>σ n==m&&D.pV xs ys|_=>false)
 | .full xs,y=>(match y with| .full ys=>D.pV xs ys|_=>false)
 | .row n i1 i2 i3 i4,y=>(match y with| .row m j1 j2 j3 j4=>σ n==m&&(i1==j1&&(i2==j2&&(i3==j3&&i4==j4)))|_=>false)
 | .mp n,y=>(match y with| .mp m=>σ n==m|_=>false)
 | .c7 n,y=>(match y with| .c7 m=>σ n==m|_=>false)
 | .vec n i1 i2 i3 i4,y=>(match y with| .vec m j1 j2 j3 j4=>σ n==m&&(i1==j1&&(i2==j2&&(i3==j3&&i4==j4)))|_=>false)
 | .de n i1 i2 i3 i4,y=>(match y with| .de m j1 j2 j3 j4=>σ n==m&&(i1==j1&&(i2==j2&&(i3==j3&&i4==j4)))|_=>false)
 | .dead,y=>(match y with| .dead=>true|_=>false)
 | .hid _,_=>false
def AV.na(σ:Nat→Nat):agU AV→agU AV→Bool
 |[],y=>(match y with|[]=>true|_=>false)
 |x::xs,l=>(match l with|y::ys=>AV.eO σ x y&&AV.na σ xs ys|_=>false)
end
mutual
theorem AV.Gc(σ:Nat→Nat):∀x y:AV,AV.eO σ x y=true→y=x.aM σ
 | .d x,y,h=>by
   cases y with
   |d y=>simp only[AV.eO,af7,beq_iff_eq]at h;rw[AV.aM,D.Hz _ _ h]
   |_=>simp [AV.eO]at h
 | .agg a,y,h=>by
   cases y with
   |agg b=>simp only[AV.eO,af7,beq_iff_eq]at h;rw[AV.aM,AV.uk σ _ _ h]
   |_=>simp [AV.eO]at h
 | .bU a,y,h=>by
   cases y with
   |bU b=>simp only[AV.eO,af7,beq_iff_eq]at h;rw[AV.aM,AV.uk σ _ _ h]
   |_=>simp [AV.eO]at h
 | .fn f a,y,h=>by
   cases y with
   |fn g b=>simp only[AV.eO,af7,beq_iff_eq]at h;rw[AV.aM,AV.uk σ _ _ h.2,h.1]
   |_=>simp [AV.eO]at h
 | .ptr n o,y,h=>by
   cases y with
   |ptr m p=>simp only[AV.eO,af7,beq_iff_eq]at h;rw[AV.aM,h.1,h.2]
   |_=>simp [AV.eO]at h
 | .aW xs i o,y,h=>by
   cases y with
   |aW ys j p=>simp only[AV.eO,af7,beq_iff_eq]at h;rw[AV.aM,D.yQ _ _ h.1,h.2.1,h.2.2]
   |_=>simp [AV.eO]at h
 | .own n xs,y,h=>by
   cases y with
   |own m ys=>simp only[AV.eO,af7,beq_iff_eq]at h;rw[AV.aM,D.yQ _ _ h.2,h.1]
   |_=>simp [AV.eO]at h
 | .full xs,y,h=>by
   cases y with
   |full ys=>simp only[AV.eO,af7,beq_iff_eq]at h;rw[AV.aM,D.yQ _ _ h]
   |_=>simp [AV.eO]at h
 | .row n i1 i2 i3 i4,y,h=>by
   cases y with
   |row m j1 j2 j3 j4=>simp only[AV.eO,af7,beq_iff_eq]at h;rw[AV.aM,h.1,h.2.1,h.2.2.1,h.2.2.2.1,h.2.2.2.2]
   |_=>simp [AV.eO]at h
 | .vec n i1 i2 i3 i4,y,h=>by
   cases y with
   |vec m j1 j2 j3 j4=>simp only[AV.eO,af7,beq_iff_eq]at h;rw[AV.aM,h.1,h.2.1,h.2.2.1,h.2.2.2.1,h.2.2.2.2]
   |_=>simp [AV.eO]at h
 | .de n i1 i2 i3 i4,y,h=>by
   cases y with
   |de m j1 j2 j3 j4=>simp only[AV.eO,af7,beq_iff_eq]at h;rw[AV.aM,h.1,h.2.1,h.2.2.1,h.2.2.2.1,h.2.2.2.2]
   |_=>simp [AV.eO]at h
 | .mp n,y,h=>by
   cases y with
   |mp m=>simp only[AV.eO,af7,beq_iff_eq]at h;rw[AV.aM,h]
   |_=>simp [AV.eO]at h
 | .c7 n,y,h=>by
   cases y with
   |c7 m=>simp only[AV.eO,af7,beq_iff_eq]at h;rw[AV.aM,h]
   |_=>simp [AV.eO]at h
 | .dead,y,h=>by
   cases y with
   |dead=>rw[AV.aM]
   |_=>simp [AV.eO]at h
 | .hid _,y,h=>by simp [AV.eO]at h
theorem AV.uk(σ:Nat→Nat):∀x y:agU AV,AV.na σ x y=true→y=AV.eR σ x
 |[],y,h=>by
  cases y with
  |nil=>rw[AV.eR]
  |cons=>simp [AV.na]at h
 |x::xs,l,h=>by
  cases l with
  |nil=>simp [AV.na]at h
  |cons y ys=>simp only[AV.na,af7]at h;rw[AV.eR,AV.Gc σ _ _ h.1,AV.uk σ _ _ h.2]
end
def wm:agU (agV×D)→agU (agV×D)→Bool
 |[],[]=>true
 |(k,d)::l,(k',d')::l'=>bL k==bL k'&&D.rT d d'&&wm l l'
 |_,_=>false
theorem NS:∀x y,wm x y=true→x=y
 |[],[],_=>rfl
 |(k,d)::l,(k',d')::l',h=>by
  rw[wm,af7,af7]at h;rw[JE (beq_iff_eq.1 h.1.1),D.Hz _ _ h.1.2,NS l l' h.2]
 |[],_::_,h=>by simp [wm]at h
 |_::_,[],h=>by simp [wm]at h
def xZ(σ:Nat→Nat):agU (agU AV)→agU (agU AV)→Bool
 |[],[]=>true
 |x::xs,y::ys=>AV.na σ x y&&xZ σ xs ys
 |_,_=>false
theorem Nf(σ:Nat→Nat):∀x y,xZ σ x y=true→y=x.map (AV.eR σ)
 |[],[],_=>rfl
 |x::xs,y::ys,h=>by
  rw[xZ,af7]at h;rw[agv,AV.uk σ x y h.1,Nf σ xs ys h.2]
 |[],_::_,h=>by simp [xZ]at h
 |_::_,[],h=>by simp [xZ]at h
def an.eO(σ:Nat→Nat):an→an→Bool
 | .cells a,y=>(match y with| .cells b=>AV.na σ a b|_=>false)
 | .front e k l,y=>(match y with| .front e' k' l'=>e==e'&&(k==k'&&l==l')|_=>false)
 | .vec e k cs,y=>(match y with| .vec e' k' ds=>e==e'&&(k==k'&&xZ σ cs ds)|_=>false)
 | .map kv,y=>(match y with| .map kv'=>wm kv kv'|_=>false)
 | .it sn cs,y=>(match y with| .it sn' ds=>sn==sn'&&AV.na σ cs ds|_=>false)
 | .gone,y=>(match y with| .gone=>true|_=>false)
 | .lp ..,_=>false
theorem an.Gc(σ:Nat→Nat)(x y:an)(h:an.eO σ x y=true):y=x.aM σ:=by
 cases x<;>cases y<;>simp only[an.eO,af7,beq_iff_eq,Bool.false_eq_true]at h
 ·rw[an.aM,AV.uk σ _ _ h]
 ·rw[an.aM,h.1,h.2.1,h.2.2]
 ·rw[an.aM,h.1,h.2.1,Nf σ _ _ h.2.2]
 ·rw[an.aM,NS _ _ h]
 ·rw[an.aM,h.1,AV.uk σ _ _ h.2]
 ·rfl
def eQ(h0:Nat)(p:agU Nat)(i:Nat):Nat:=bif b8 h0 i then p.getD (i-h0) i else i
def yc(ts xU:agU (Nat×AV))(ks:agU Nat)(i:Nat):Nat:=
 match ks with
 |[]=>i
 |d::ks=>match bm ts d,bm xU d with
  | .ptr n _, .ptr m _=>bif n==i then m else yc ts xU ks i
  | .own n _, .own m _=>bif n==i then m else yc ts xU ks i
  | .vec n _ _ _ _, .vec m _ _ _ _=>bif n==i then m else yc ts xU ks i
  | .mp n, .mp m=>bif n==i then m else yc ts xU ks i
  |_,_=>yc ts xU ks i
def Bw(s s':St)(ks:agU Nat)(h0:Nat):Nat→agU Nat
 |0=>[]
 |k+1=>yc s.t s'.t ks h0::Bw s s' ks (h0+1) k
def RV(h0:Nat)(ks:agU Nat)(s s':St)(p q:agU Nat):Bool:=
 (s'.h.length==s.h.length)&&(((List.range s.h.length).all fun i=>b8 (eQ h0 p i+1) s.h.length&&b8 (eQ h0 q i+1) s.h.length&&eQ h0 q (eQ h0 p i)==i&&eQ h0 p (eQ h0 q i)==i)&&(ks.all (fun d=>AV.eO (eQ h0 p) (bm s.t d) (bm s'.t d))&&
  ((List.range s.h.length).all fun i=>match s.h[i]?,s'.h[eQ h0 p i]? with
    |some B,some B'=>an.eO (eQ h0 p) B B'
    |_,_=>false)))
def PG(h0:Nat)(ks:agU Nat)(s s':St):Bool:=RV h0 ks s s' (Bw s s' ks h0 (s.h.length-h0)) (Bw s' s ks h0 (s.h.length-h0))
structure kf(ks:List Nat)(s0 s:St):Prop where
 n:s.n=s0.n
 t:∀d,d ∉ ks→bm s.t d=bm s0.t d
theorem kf.refl(ks:agU Nat)(s:St):kf ks s s:=⟨rfl,fun _ _=>rfl⟩
theorem kf.put{ks:agU Nat}{s0 s:St}(h:kf ks s0 s)(h1:agU an){d:agW Nat}(x:AV)(hd:∀k,d=some k→k∈ks):kf ks s0 ((s.wh h1).put d x):=
 ⟨by rw[nU];exact h.n,fun i hi=>by
  rw[pI,if_neg]
  ·exact h.t i hi
  ·rintro⟨e,_⟩;exact hi (hd i e)⟩
theorem afF{N0 h0:Nat}{ks:agU Nat}{s0 s s':St}(hN:N0≤h0)(qw:∀i,(bm s0.t i).aO h0=true)(hb:kf ks s0 s)(fG:kf ks s0 s')(h:PG h0 ks s s'=true):iI N0 s s':=by
 unfold PG at h;generalize Bw s s' ks h0 (s.h.length-h0)=p at h;generalize Bw s' s ks h0 (s.h.length-h0)=q at h;unfold RV at h;simp only[af7,beq_iff_eq,agw,List.mem_range,dA]at h;obtain⟨h1,h2,h3,h4⟩:=h;have u4:∀i,i<h0→eQ h0 p i=i:=fun i hi=>by
  unfold eQ;have:b8 h0 i=false:=by rw[←Bool.not_eq_true,dA];omega
  rw[this];rfl
 refine iI.aM (eQ h0 p) (eQ h0 q) (hb.n.trans fG.n.symm) h1 (fun i hi=>(h2 i hi).1.1.1) (fun i hi=>(h2 i hi).1.1.2) (fun i hi=>(h2 i hi).1.2) (fun i hi=>(h2 i hi).2) (fun i hi=>u4 i (by omega)) (fun i _=> ?_) fun i hi=> ?_
 ·left
  by_cases hk:i∈ks
  ·exact AV.Gc _ _ _ (h3 i hk)
  ·rw[hb.t i hk,fG.t i hk,u5 (τ:=id) u4 _ (qw i),Cn]
 ·have h5:=h4 i hi;split at h5
  ·next B B' e1 e2=>rw[e1,e2,an.Gc _ _ _ h5];rfl
  ·cases h5
def FY(N0:Nat)(K:St→Prop):Prop:=∀s s',iI N0 s s'→K s'→K s
theorem FY.c{N0:Nat}{K:St→Prop}(h:FY N0 K):qY K:=fun s s' e hk=>h s' s (iI.of_eq e.symm) hk
theorem Nq{P:agX}{r:agW Nat}{N0:Nat}{s:St}{Q:Exit→St→Prop}{m:Bool}{id:Nat}{ops:Array Oper}(hm:P.follows .mixedOrders=true)
 (h:N0≤s.h.length→(∀i,(bm s.t i).aO s.h.length=true)→lZ m P ops (fun s1=>∃s2,iI N0 s1 s2∧Q .normal s2) ops.size (Array.replicate ops.size false) s):bB P r N0 (.region id ops true) Q s:=by
 constructor
 intro G w a n hs hN;obtain⟨d1,d2⟩:=hs.drew;refine wpIn_region_any hm ?_;have hl:=hs.inv.len;refine BR (G:=G) (w:=w) (N0:=N0) (K:=fun s1=>∃s2,iI N0 s1 s2∧Q .normal s2) (fun a' w' hn=> ?_) ops.size _ G _ a s (d1.less hN) hN d2 (h (by omega) fun i=>by rw[hl];exact(hs.tmp i).low);obtain⟨G',s',x1,x2,x3,s2,e0,x4⟩:=hn;obtain⟨G2,y1,y2,y3⟩:=e0 G' w' a' x2 x3;exact⟨G2,s2,x1.trans y1,y2,y3,x4⟩
theorem MO{N0:Nat}(Q:St→Prop):FY N0 (fun s1=>∃s2,iI N0 s1 s2∧Q s2):=fun _ _ h ⟨s2,h1,h2⟩=>⟨s2,h.trans h1,h2⟩
def vu(f:Nat→Bool):Nat→Nat
 |0=>0
 |n+1=>bif f n then vu f n|||(1<<<n)else vu f n
theorem D5(f:Nat→Bool):∀(n j:Nat),Nat.testBit (vu f n) j=(decide (j<n)&&f j)
 |0,j=>by simp [vu]
 |n+1,j=>by
  unfold vu;have ih:=D5 f n j;cases hf:f n with
  |true=>
   simp only[cond_true,Nat.testBit_or,ih,Nat.one_shiftLeft,Nat.testBit_two_pow];by_cases e:n=j
   ·subst e;simp [hf]
   ·have:decide (j<n+1)=decide (j<n):=by simp;omega
    rw[this];simp [e]
  |false=>
   simp only[cond_false,ih];by_cases e:n=j
   ·subst e;simp [hf]
   ·have:decide (j<n+1)=decide (j<n):=by simp;omega
    rw[this]
def fN{α:Type}(n:Nat)(f:Nat→α):α:=Nat.casesOn (Nat.succ n) (f 0) f
theorem zF{α:Type}(n:Nat)(f:Nat→α):fN n f=f n:=rfl
def fL{α:Type}:agU Nat→(agU Nat→α)→α
 |[],f=>f []
 |n::l,f=>fN n fun n=>fL l fun l=>f (n::l)
theorem Bp{α:Type}:∀(l:agU Nat)(f:agU Nat→α),fL l f=f l
 |[],_=>rfl
 |n::l,f=>by rw[fL,zF,Bp l]
section
variable (ops:Array Oper)
def xP(o:Oper)(n j:Nat):Bool:=o.after.any fun e=>Region.binds .any e&&(e.on==j||(j==n&&b8 n e.on))
def E4(k:Nat):Nat:=match ops[k]? with
 |some o=>vu (xP o ops.size) (ops.size+1)
 |none=>1<<<ops.size
def Pp(m:Bool)(M:Array Nat)(k j:Nat):Bool:= !(j==k)&&(!((M.getD j 0).testBit k)&&match ops[k]?,ops[j]? with
 |some oi,some oj=> !(oi.apart ops oj&&wU m oi oj)
 |_,_=>true)
def Av(m:Bool)(M:Array Nat)(k:Nat):Nat:=vu (Pp ops m M k) ops.size
def pO:Nat→Nat→agU Nat
 |_,0=>[]
 |k,n+1=>E4 ops k::pO (k+1) n
def nP(m:Bool)(M:Array Nat):Nat→Nat→agU Nat
 |_,0=>[]
 |k,n+1=>Av ops m M k::nP m M (k+1) n
end
def pf:agU Nat→Nat→Nat→agU Nat
 |[],_,_=>[]
 |a::A,L,k=>bif !(Nat.testBit L k)&&(L&&&a==a)then k::pf A L (k+1)else pf A L (k+1)
def A2(C:agU Nat)(L:Nat):agU Nat→agW Nat
 |[]=>none
 |k::r=>bif (C.getD k 0)|||L==L then some k else A2 C L r
section
variable (ops:Array Oper) (st:Oper→St→agW St) (h0:Nat) (ks A C:agU Nat)
def mr:agU Oper→agU Nat
 |[]=>[]
 |o::l=>match o.dst with
  |some d=>d::mr l
  |none=>mr l
end
theorem EH:∀{l:agU Oper}{o:Oper},o∈l→∀d,o.dst=some d→d∈mr l
 |[],_,h,_,_=>by cases h
 |a::l,o,h,d,hd=>by
  unfold mr;rcases agA.1 h with rfl|h
  ·rw[hd];simp
  ·split
   ·exact age _ (EH h d hd)
   ·exact EH h d hd
theorem OZ(ops:Array Oper):∀(n k i:Nat),(pO ops k n)[i]?=if i<n then some (E4 ops (k+i))else none
 |0,k,i=>by simp [pO]
 |n+1,k,0=>by simp [pO]
 |n+1,k,i+1=>by rw[pO,agH,OZ ops n (k+1) i];simp only[Nat.add_lt_add_iff_right];rw[show k+1+i=k+(i+1) by omega]
theorem Qs(ops:Array Oper)(m:Bool)(M:Array Nat):∀(n k i:Nat),(nP ops m M k n)[i]?=if i<n then some (Av ops m M (k+i))else none
 |0,k,i=>by simp [nP]
 |n+1,k,0=>by simp [nP]
 |n+1,k,i+1=>by rw[nP,agH,Qs ops m M n (k+1) i];simp only[Nat.add_lt_add_iff_right];rw[show k+1+i=k+(i+1) by omega]
theorem OO{L:Nat}:∀(A:agU Nat)(k i:Nat),i∈pf A L k↔k≤i∧Nat.testBit L i=false∧∃a,A[i-k]?=some a∧L&&&a=a
 |[],k,i=>by simp [pf]
 |a::A,k,i=>by
  have ih:=OO (L:=L) A (k+1) i;unfold pf;have key:i∈pf A L (k+1)↔k<i∧Nat.testBit L i=false∧∃b,(a::A)[i-k]?=some b∧L&&&b=b:=by
   rw[ih];constructor
   ·rintro⟨h1,h2,b,h3,h4⟩;refine⟨h1,h2,b,?_,h4⟩;rw[show i-k=(i-(k+1))+1 by omega,agH];exact h3
   ·rintro⟨h1,h2,b,h3,h4⟩;refine⟨h1,h2,b,?_,h4⟩;rw[show i-k=(i-(k+1))+1 by omega,agH]at h3;exact h3
  cases hb:(!(Nat.testBit L k)&&(L&&&a==a))with
  |true=>
   simp only[cond_true,agA,key];simp only[af7,Bool.not_eq_true',beq_iff_eq]at hb;constructor
   ·rintro(rfl|⟨h1,h2⟩)
    ·exact⟨agh _,hb.1,a,by simp,hb.2⟩
    ·exact⟨by omega,h2⟩
   ·rintro⟨h1,h2⟩;rcases Nat.lt_or_eq_of_le h1 with h|h
    ·exact .inr ⟨h,h2⟩
    ·exact .inl h.symm
  |false=>
   simp only[cond_false,key];constructor
   ·rintro⟨h1,h2⟩;exact⟨by omega,h2⟩
   ·rintro⟨h1,h2,b,h3,h4⟩;rcases Nat.lt_or_eq_of_le h1 with h|h
    ·exact⟨h,h2,b,h3,h4⟩
    ·subst h;simp at h3;subst h3;rw[h2]at hb;simp at hb;exact absurd h4 hb
theorem NP{C:agU Nat}{L:Nat}:∀{r:agU Nat}{k:Nat},A2 C L r=some k→k∈r∧(C.getD k 0)|||L=L
 |[],k,h=>by cases h
 |a::r,k,h=>by
  unfold A2 at h;cases hb:((C.getD a 0)|||L==L)with
  |true=>rw[hb]at h;cases h;exact⟨by simp,by simpa using hb⟩
  |false=>rw[hb]at h;have:=NP h;exact⟨age _ this.1,this.2⟩
structure LM(ops:Array Oper)(L:Nat)(listed:Array Bool):Prop where
 sz:listed.size=ops.size
 b:∀i,Nat.testBit L i=listed.getD i false
theorem LM.set{ops:Array Oper}{L:Nat}{listed:Array Bool}(h:LM ops L listed){k:Nat}(hk:k<ops.size):LM ops (L|||(1<<<k)) (listed.setIfInBounds k true):=by
 refine⟨by simp [h.sz],fun i=> ?_⟩;rw[Nat.testBit_or,Nat.one_shiftLeft,Nat.testBit_two_pow,h.b i];by_cases e:k=i
 ·subst e;have:k<listed.size:=by rw[h.sz];exact hk
  simp [this]
 ·rw[getD_set_ne false e];simp [e]
theorem LM.ready{ops:Array Oper}{L:Nat}{listed:Array Bool}(h:LM ops L listed)(i:Nat):i∈Region.ready .any ops listed↔i∈pf (pO ops 0 ops.size) L 0:=by
 rw[mem_ready,OO];simp only[Nat.zero_le,true_and,Nat.sub_zero,OZ,agq];have O2:∀j,ops.size≤j→Nat.testBit L j=false:=fun j hj=>by
   rw[h.b,Array.getD_eq_getD_getElem?,Array.getElem?_eq_none (by rw[h.sz];exact hj)];rfl
 constructor
 ·rintro⟨h1,o,ho,h2⟩;have hi:=(agl.1 ho).1;have CE:listed.getD i false=false:=by
   have dw:i<listed.size:=by rw[h.sz];exact hi
   simpa [dw]using h1
  refine⟨by rw[h.b];exact CE,_,by rw[if_pos hi],?_⟩;apply Nat.eq_of_testBit_eq;intro j;rw[Nat.testBit_and];unfold E4;rw[ho];simp only[D5];cases hb:(decide (j<ops.size+1)&&xP o ops.size j)with
  |false=>simp
  |true=>
   simp only[Bool.and_true];rw[af7]at hb;have hb:=hb.2;unfold xP at hb;rw[Array.any_eq_true']at hb;obtain⟨e,he,hb⟩:=hb;simp only[af7,Bool.or_eq_true,beq_iff_eq,dA]at hb;have h3:=h2 e he hb.1;have:e.on<ops.size:=by
    rcases Nat.lt_or_ge e.on ops.size with hl|hl
    ·exact hl
    ·have:=O2 e.on hl;rw[h.b]at this;rw[this]at h3;cases h3
   rcases hb.2 with hj|⟨_,hj⟩
   ·rw[←hj,h.b];exact h3
   ·omega
 ·rintro⟨h1,a,ha,h2⟩;split at ha
  ·next hi=>
   cases ha
   have ho:ops[i]?=some ops[i]:=ags hi;refine⟨?_,ops[i],ho,fun e he K1=> ?_⟩
   ·rw[h.b]at h1;have dw:i<listed.size:=by rw[h.sz];exact hi
    simpa [dw]using h1
   ·have jt:∀j,j<ops.size+1→xP ops[i] ops.size j=true→Nat.testBit L j=true:=fun j hj hf=>by
     have:=congrArg (fun n=>Nat.testBit n j) h2;simp only[Nat.testBit_and]at this;unfold E4 at this;rw[ho]at this;simp only[D5]at this;rw[hf]at this
     simpa [hj]using this
    have TY:∀j,(e.on==j||(j==ops.size&&b8 ops.size e.on))=true→xP ops[i] ops.size j=true:=fun j hj=>by
     unfold xP;rw[Array.any_eq_true'];exact⟨e,he,by rw[K1,hj];rfl⟩
    rcases Nat.lt_or_ge e.on ops.size with hl|hl
    ·rw[←h.b];exact jt e.on (by omega) (TY _ (by simp))
    ·have:=jt ops.size (by omega) (TY _ (by simp [dA.2 hl]));rw[O2 _ (agh _)]at this;cases this
  ·cases ha
section
variable {P:agX} {ops:Array Oper} {st:Oper→St→agW St} {h0:Nat} {m:Bool} {N0:Nat} {K:St→Prop} {s0:St}
end
end Go.Proofs.YtphmhnabilhbgaaGreatDoor
namespace Go.Proofs.YtphmhnabilhbgaaGreatDoor
open Go.RowKit
inductive Ex
 |n
 |r
 |x (id:Nat)
def IW{α:Type}(n:Nat)(f:Nat→α):α:=Nat.casesOn (Nat.succ n) (f 0) f
theorem aaP{α:Type}(n:Nat)(f:Nat→α):IW n f=f n:=rfl
def AV.force{α:Type}(x:AV)(f:AV→α):α:=
 match x with
 | .d (.v (.int k (.ofNat n)))=>IW n fun n=>f (.d (.v (.int k (.ofNat n))))
 | .d (.v (.bool b))=>bif b then f (.d (.v (.bool true)))else f (.d (.v (.bool false)))
 |x=>f x
theorem AV.force_eq{α:Type}(x:AV)(f:AV→α):x.force f=f x:=by
 unfold AV.force;split
 ·rw[aaP]
 ·next b=>cases b<;>rfl
 ·rfl
def EU{α:Type}:agU an→(agU an→α)→α
 |[],f=>f []
 |b::l,f=>EU l fun r=>f (b::r)
theorem Nv{α:Type}:∀(l:agU an)(f:agU an→α),EU l f=f l
 |[],_=>rfl
 |b::l,f=>by rw[EU,Nv l]
abbrev IB:=Bool→Nat→Code→St→agW (Ex×St)
abbrev Jy:=FuncId→agU AV→agW (agW AV)
def af1:agW (agW AV)→Bool
 |some none=>true
 |_=>false
mutual
def AV.Sj:AV→agU Nat
 | .fn _ cs=>AV.Jp cs
 |_=>[]
def AV.Jp:agU AV→agU Nat
 |[]=>[]
 | .ptr n _::l=>n::AV.Jp l
 |x::l=>x.Sj++AV.Jp l
end
def FE:agU Nat→AV→agU an→agW (AV×agU an)
 |[],r,h=>some (r,h)
 |b::l,r,h=>match h[b]? with
  |some (.cells cs)=>match lN cs with
   |some ds=>FE l (r.eK b ds) ((h.map (an.eK b ds)).set b .gone)
   |none=>none
  |_=>none
def Ol:AV→agW D
 | .d x=>some x
 |_=>none
def Gy:agU AV→agW (agU D)
 |[]=>some []
 |x::l=>match Ol x,Gy l with
  |some d,some r=>some (d::r)
  |_,_=>none
def Du:agU (agU AV)→agW (agU (agU D))
 |[]=>some []
 |x::l=>match Gy x,Du l with
  |some d,some r=>some (d::r)
  |_,_=>none
mutual
def AV.Ut:AV→Bool
 | .vec .. =>true
 | .agg cs=>AV.Dw cs
 | .bU cs=>AV.Dw cs
 | .fn _ cs=>AV.Dw cs
 |_=>false
def AV.Dw:agU AV→Bool
 |[]=>false
 |x::l=>x.Ut||AV.Dw l
end
def sO:agU Nat→AV→agU an→AV×agU an
 |[],r,h=>(r,h)
 |b::l,r,h=>match h[b]? with
  |some (.vec _ k cs)=>match Du cs with
   |some xs=>bif xs.all (fun c=>c.all D.lY)then(r.c6 b k xs).force fun r=>EU ((h.map (an.gZ (AV.c6 b k xs))).set b .gone) fun h=>sO l r h else sO l r h
   |none=>sO l r h
  |_=>sO l r h
def ac7(h:agU an):agU Nat:=(List.range h.length).reverse++(List.range h.length).reverse
def GV(r:AV)(h:agU an):agW AV:=
 match FE r.Sj r h with
 |some (r,_)=>some (r.bz 0)
 |none=>none
def Nj(r:AV)(h:agU an):agW AV:=
 bif r.Ut then(match sO (ac7 h) r h with|(r,h)=>GV r h)else GV r h
section
variable (run:IB) (P:agX) (PY:Jy)
def bq(lo:Nat)(f:FuncId)(args:agU AV)(h:agU an):agW (AV×agU an):=
 match P.funcs[f]? with
 |some fn=>match fn.body with
  |some c=>IW (args.length+(fn.ntmps-args.length)) fun n=>match run true lo c ⟨n,kg 0 args,h⟩with
   |some (.x _,_)=>none
   |some (_,s)=>match oG P s fn.results.toList with
    |some l=>some (ja l,s.h)
    |none=>none
   |none=>none
  |none=>none
 |none=>none
end
section
variable {run:IB} {P:agX} {PY:Jy} {lo:Nat} {s s':St}
end
mutual
theorem A8(m:Nat):∀x:AV,x.aO m=true→x.bz m=x
 | .own n xs,h=>by
   rw[AV.aO]at h;rw[AV.bz];cases e:b8 m n with
   |true=>rw[e]at h;cases h
   |false=>rfl
 | .agg cs,h=>by rw[AV.aO]at h;rw[AV.bz,Fc m cs h]
 | .bU cs,h=>by rw[AV.aO]at h;rw[AV.bz,Fc m cs h]
 | .fn f cs,h=>by rw[AV.aO]at h;rw[AV.bz,Fc m cs h]
 | .d _,_=>by simp only[AV.bz]
 | .ptr ..,_=>by simp only[AV.bz]
 | .aW ..,_=>by simp only[AV.bz]
 | .full _,_=>by simp only[AV.bz]
 | .row ..,_=>by simp only[AV.bz]
 | .mp _,_=>by simp only[AV.bz]
 | .c7 _,_=>by simp only[AV.bz]
 | .vec ..,_=>by simp only[AV.bz]
 | .de ..,_=>by simp only[AV.bz]
 | .hid _,_=>by simp only[AV.bz]
 | .dead,_=>by simp only[AV.bz]
theorem Fc(m:Nat):∀l:agU AV,AV.lP m l=true→AV.nm m l=l
 |[],_=>by simp [AV.nm]
 |x::l,h=>by
  rw[AV.lP,af7]at h;rw[AV.nm,A8 m x h.1,Fc m l h.2]
end
theorem YE{m:Nat}{B:an}(h:B.aO m=true):B.bz m=B:=by
 cases B with
 |cells cs=>
  simp only[an.aO,agw]at h;simp only[an.bz]
  congr 1
  exact(agB fun x hx=>A8 m x (h x hx)).trans (List.map_id _)
 |lp ls p as bd cs=>
  simp only[an.aO,agw]at h;simp only[an.bz]
  congr 1
  exact(agB fun x hx=>A8 m x (h x hx)).trans (List.map_id _)
 |it sn cs=>
  simp only[an.aO,agw]at h;simp only[an.bz]
  congr 1
  exact(agB fun x hx=>A8 m x (h x hx)).trans (List.map_id _)
 |vec e k cs=>
  simp only[an.aO,agw]at h;simp only[an.bz]
  congr 1
  exact(agB fun x hx=>(agB fun y hy=>A8 m y (h x hx y hy)).trans (List.map_id _)).trans (List.map_id _)
 |front e k len=>rfl
 |map kv=>rfl
 |gone=>rfl
theorem Iv{m:Nat}{h:agU an}(e:h.all (an.aO m)=true):h.map (an.bz m)=h:=
 (agB fun B hB=>YE (agw.1 e B hB)).trans (List.map_id _)
end Go.Proofs.YtphmhnabilhbgaaGreatDoor
namespace Go.Proofs.YtphmhnabilhbgaaGreatDoor
open Go.RowKit
section
variable {P:agX} {r:agW Nat} {n N0:Nat} {G:Gh} {w:agZ} {a:Act} {s:St} {o:Oper} {Q:Exit→St→Prop}
end
theorem bD.cut{P:agX}{f:FuncId}{args:agU AV}{h h':agU an}{r:AV}(m:Nat)(hc:bD P f args h fun r1 h1=>r1=r∧h1=h')(h1:h.length≤m)(h2:m≤h'.length)(hb:(((h'.take m).map (an.bz m)).all (an.aO m))=true)(hr:(r.bz m).aO m=true):
 bD P f args h fun r1 h1=>r1=r.bz m∧h1=(h'.take m).map (an.bz m):=by
 refine⟨hc.1,fun G w vs hi hl hv=>(hc.2 G w vs hi hl hv).mono fun e w' hp=> ?_⟩;obtain⟨v,G',_,_,rfl,hE,hN,dw,LJ,rfl,rfl⟩:=hp;exact⟨v,G'.cut m,_,_,rfl,hE.trans (nf _ _ _ _),by rw[←hi.len];exact h1,Jq dw h2 hb,(LJ.bz m).cut hr,rfl,rfl⟩
section
variable {run:IB} {P:agX} {PY:Jy} {lo:Nat} {s s':St}
theorem bD.QK{f:FuncId}{args:agU AV}{h0 h h2:agU an}{r r2:AV}{tl:agU (Nat×AV)}(hc:bD P f args h0 fun r1 h1=>r1=r∧h1=h)
 (hT:∀(G:Gh)(w:agZ)(a:Act),cT G w a ⟨1,[(0,r)],h⟩→∃G',bK G.N G w G' w∧G'.N=G.N∧cT G' w a ⟨1,(0,r2)::tl,h2⟩):bD P f args h0 fun r1 h1=>r1=r2∧h1=h2:=by
 refine⟨hc.1,fun G w vs hi hl hv=>(hc.2 G w vs hi hl hv).mono fun e w' hp=> ?_⟩;obtain⟨v,G',_,_,rfl,hE,hN,dw,LJ,rfl,rfl⟩:=hp;obtain⟨G2,e1,e2,e3⟩:=hT G' w' {tmps:= #[v],defers:=[]} ⟨rfl,fun i=>by
  show aE G' w' _ (bm [(0,_)] i);rw[kL];split
  ·next ei=>subst ei;exact LJ
  ·exact .dead _,dw,oF.nil _ _⟩
 exact⟨v,G2,r2,h2,rfl,hE.trans (e1.less hN),by rw[e2];exact hN,e3.inv,e3.tmp 0,rfl,rfl⟩
theorem Qj{f:FuncId}{args:agU AV}{h0:agU an}:∀(l:agU Nat){h h2:agU an}{r r2:AV},(bD P f args h0 fun r1 h1=>r1=r∧h1=h)→FE l r h=some (r2,h2)→bD P f args h0 fun r1 h1=>r1=r2∧h1=h2
 |[],h,h2,r,r2,hc,e=>by cases e;exact hc
 |b::l,h,h2,r,r2,hc,e=>by
  unfold FE at e;split at e
  ·next cs e1=>
   split at e
   ·next ds e2=>
    refine Qj l (bD.QK (tl:=[]) hc fun G w a hs=> ?_) e;refine hs.tR (b:=b) ?_;simp only[Go.Proofs.YtphmhnabilhbgaaGreatDoor.tR,e1,e2];rfl
   ·cases e
  ·cases e
theorem Pf:∀{l:agU AV}{ds:agU D},Gy l=some ds→l=ds.map AV.d
 |[],ds,h=>by cases h;rfl
 |x::l,ds,h=>by
  unfold Gy at h;split at h
  ·next d r e1 e2=>
   cases h
   rw[Pf e2];cases x<;>simp [Ol]at e1
   subst e1;rfl
  ·cases h
theorem SD:∀{l:agU (agU AV)}{xs:agU (agU D)},Du l=some xs→l=aI xs
 |[],xs,h=>by cases h;rfl
 |x::l,xs,h=>by
  unfold Du at h;split at h
  ·next d r e1 e2=>cases h;rw[SD e2,Pf e1];rfl
  ·cases h
theorem AM{f:FuncId}{args:agU AV}{h0:agU an}:∀(l:agU Nat){h:agU an}{r:AV},(bD P f args h0 fun r1 h1=>r1=r∧h1=h)→bD P f args h0 fun r1 h1=>r1=(sO l r h).1∧h1=(sO l r h).2
 |[],h,r,hc=>hc
 |b::l,h,r,hc=>by
  unfold sO;split
  ·next e k cs e1=>
   split
   ·next xs e2=>
    rw[AV.force_eq,Nv,cond_eq_ite];split
    ·next h1=>
     refine AM l (bD.QK (tl:=[]) hc fun G w a hs=> ?_);have e3:=SD e2;exact hs.LW xs (by show h[b]?=_;rw[e1,e3]) (fun c hc=>agw.1 h1 c hc)
    ·exact AM l hc
   ·exact AM l hc
  ·exact AM l hc
theorem OM{f:FuncId}{args:agU AV}{h:agU an}{r r2:AV}(hc:bD P f args [] fun r1 h1=>r1=r∧h1=h)(e:Nj r h=some r2)(hb:r2.aO 0=true):bA P f args (·=r2):=by
 have fin:∀{r:AV}{h:agU an},(bD P f args [] fun r1 h1=>r1=r∧h1=h)→(r.bz 0).aO 0=true→bA P f args (·=r.bz 0):=fun hc hb=>
  (hc.cut 0 (agh _) (Nat.zero_le _) (by simp) hb).mono fun r1 h1 ⟨k1,k2⟩=>⟨by simpa using k2,k1⟩
 have gen:∀{r:AV}{h:agU an},(bD P f args [] fun r1 h1=>r1=r∧h1=h)→GV r h=some r2→bA P f args (·=r2):=fun hc e=>by
  unfold GV at e;split at e
  ·next r3 h3 e1=>
   cases e
   exact fin (Qj _ hc e1) hb
  ·cases e
 unfold Nj at e;rcases Wy e with⟨_,e⟩|⟨_,e⟩
 ·exact gen (AM _ hc) e
 ·exact gen hc e
end
theorem P3:∀(H' H e:agU an),H'.length=H.length→fY (List.range H.length) H' (H++e)=H'++e:=by
 intro H' H e hl;have gen:∀(n:Nat)(a b B r:agU an),b.length=n→B.length=n→fY ((List.range n).map (a.length+·)) B (a++(b++r))=a++(B++r):=by
  intro n
  induction n with
  |zero=>intro a b B r hb hB;rw[List.length_eq_zero_iff.1 hb,List.length_eq_zero_iff.1 hB];simp [fY]
  |succ n ih=>
   intro a b B r hb hB;cases b with
   |nil=>simp at hb
   |cons b0 b=>
    cases B with
    |nil=>simp at hB
    |cons B0 B=>
     rw[List.range_succ_eq_map,agv,List.map_map,fY];have e1:(a++(b0::b++r)).set (a.length+0) B0=(a++[B0])++(b++r):=by
       rw[Nat.add_zero,List.set_append_right _ _ (agh _),Nat.sub_self];simp
     have e2:(fun x=>a.length+x)∘Nat.succ=fun x=>(a++[B0]).length+x:=by
      funext x
      simp only[Function.comp_apply,af6,af8,agi];omega
     rw[e1,e2,ih (a++[B0]) b B r (by simpa using hb) (by simpa using hB)];simp
 have:=gen H.length [] H H' e rfl hl
 simpa using this
theorem L5{P:agX}{k:Nat}{x:AV}{H:agU an}{C:Bool→agU an→Prop}(hy:YS P k x H C)(e:agU an)(hb:H.all (an.aO H.length)=true)(hx:x.aO H.length=true)
 (hC:∀b h',C b h'→h'.length=H.length∧h'.all (an.aO H.length)=true):YS P k x (H++e) fun b h'=>∃H',C b H'∧h'=H'++e:=by
 intro G w v r n hi hv;have s4:∀i,i<H.length→rn (List.range H.length) (H++e).length i=i:=fun i h=>xf (List.range H.length) _ i i (by rw[List.getElem?_range h]);have DK:∀y:AV,y.aO H.length=true→y.aM (rn (List.range H.length) (H++e).length)=y:=fun y hy=>(u5 (τ:=id) s4 y hy).trans (Cn y);have Ab:∀B:an,B.aO H.length=true→B.aM (rn (List.range H.length) (H++e).length)=B:=fun B hB=>(Kh (τ:=id) s4 B hB).trans (Lo B);obtain⟨G0,cA,qb,o9,Li⟩:=T7 (H:=H) (l:=List.range H.length) (h:=H++e) List.nodup_range (fun j hj=>by have:=List.mem_range.1 hj;simp;omega) (fun i j kC=>by
  obtain⟨aN,rfl⟩:i<H.length∧j=i:=by
   have h1:=(af5.1 kC).1;rw[List.length_range]at h1;rw[List.getElem?_range h1]at kC;exact⟨h1,(agp kC).symm⟩
  rw[agf aN,af9 aN,Option.map_some,Ab _ (agw.1 hb _ (List.getElem_mem aN))]) (by simp) hb hi
 obtain⟨hk,p,as,bd,fn,tm,D,h1,h2⟩:=hy G0 w v r n qb (aE.sI o9 (by rw[DK x hx];exact hv) x rfl (by rw[cA];exact hx));have iX:k<H.length:=cA▸hk;have iR:G.bg k=G0.bg k:=by
  have:=o9.bg k hk
  rwa [s4 k iX]at this
 refine⟨by have:=o9.lt k hk;rwa [s4 k iX]at this,p,as,bd,fn,tm,D,by rw[iR];exact h1,?_⟩;rw[iR];refine h2.mono fun e1 w' hp=> ?_;obtain⟨b,G1,H',rfl,hE,fE,iz,hc⟩:=hp;rw[cA]at hE fE;obtain⟨G2,a1,a2,a3,_⟩:=Li G1 w' H' hE fE iz;obtain⟨c1,c2⟩:=hC b H' hc;refine⟨b,G2,H'++e,rfl,a1,a2,?_,H',hc,rfl⟩;have hm:H'.map (an.aM (rn (List.range H.length) (H++e).length))=H':=(agB fun B hB=>Ab B (agw.1 c2 B hB)).trans (List.map_id _);rw[hm,P3 H' H e c1]at a3;exact a3
def la(P:agX)(k:Nat):agU AV→(Bool→agU an→Prop)→agU an→Prop
 |[],C,h=>C true h
 |x::l,C,h=>YS P k x h fun b h1=>(h1.length=h.length∧h1.all (an.aO h.length)=true)∧bif b then la P k l C h1 else C false h1
theorem Qv{P:agX}{k:Nat}:∀(l:agU AV){C C':Bool→agU an→Prop}{h:agU an},(∀b h1,C b h1→C' b h1)→la P k l C h→la P k l C' h
 |[],_,_,_,hc,hs=>hc _ _ hs
 |x::l,C,C',h,hc,hs=>YS.mono hs fun b h1 ⟨h2,h3⟩=>⟨h2,by
  cases b with
  |true=>exact Qv l hc h3
  |false=>exact hc _ _ h3⟩
theorem Si{P:agX}{k:Nat}:∀(l l':agU AV){C:Bool→agU an→Prop}{h:agU an},la P k (l++l') C h→la P k l (fun b h1=>bif b then la P k l' C h1 else C false h1) h
 |[],_,_,_,hs=>hs
 |x::l,l',C,h,hs=>YS.mono hs fun b h1 ⟨h2,h3⟩=>⟨h2,by
  cases b with
  |true=>exact Si l l' h3
  |false=>exact h3⟩
def qE(h h1:agU an):Prop:=h1.length=h.length∧h1.all (an.aO h.length)=true
def IE(P:agX)(gf:FuncId)(dy:agU AV)(xs:agU AV):Prop:=
 ∀(k:Nat)(h:agU an)(C:Bool→agU an→Prop),h.all (an.aO h.length)=true→k<h.length→la P k xs C h→bD P gf (.c7 k::dy) h fun _ h1=>∃b,C b h1
def TR(P:agX)(T:TypeId):agU AV:=match zeroT P T with|some z=>z.cells.toList.map fun u=> .d (.v u)|none=>[]
section
variable {P:agX} {r:agW Nat} {N0:Nat} {Q:Exit→St→Prop} {ops:Array Oper} {o o1 o2 o3 o4 o5:Oper} {s:St} {K:St→Prop} {id:Nat}
theorem cq{rest:agU Oper}(hg:o.guard=none)(h:lS P o (pQ P ops rest K) s):pQ P ops (o::rest) K s:=by
 unfold pQ iw;rw[hg];exact h
theorem Cq{n d:Nat}{t:agU (Nat×AV)}{h h':agU an}{x:AV}{hd:HD}(hx:kI P o.op (ev ⟨n,t,h⟩) h=some (x,hd))(eh:o.dst=some d)(hn:Nat.ble n d=false)(he:hd.app h=h')(hK:K ⟨n,(d,x)::t,h'⟩):lS P o K ⟨n,t,h⟩:=by
 refine .inr (.inr (.inl (UF hx ?_)));show K ((St.wh ⟨n,t,h⟩ (hd.app h)).put o.dst x);rw[eh,he];have aN:d<n:=Nat.lt_of_not_le fun hle=>by rw[Nat.ble_eq_true_of_le hle]at hn;cases hn
 rw[oC (s:=St.wh ⟨n,t,h⟩ h') aN];exact hK
theorem db{n d:Nat}{t:agU (Nat×AV)}{h:agU an}{x:AV}(hx:kI P o.op (ev ⟨n,t,h⟩) h=some (x, .same))(eh:o.dst=some d)(hn:Nat.ble n d=false)(hK:K ⟨n,(d,x)::t,h⟩):lS P o K ⟨n,t,h⟩:=Cq hx eh hn rfl hK
theorem LF{n:Nat}{t:agU (Nat×AV)}{h h':agU an}{x:AV}{hd:HD}(hx:kI P o.op (ev ⟨n,t,h⟩) h=some (x,hd))(eh:o.dst=none)(he:hd.app h=h')(hK:K ⟨n,t,h'⟩):lS P o K ⟨n,t,h⟩:=by
 refine .inr (.inr (.inl (UF hx ?_)));show K ((St.wh ⟨n,t,h⟩ (hd.app h)).put o.dst x);rw[eh,he];exact hK
theorem Zp{h l:agU an}{i off:Nat}{cs:agU AV}(hi:l[i]?=some (.cells cs)):tE (h++l) (.ptr (h.length+i) off)=some (cs,off):=by
 unfold tE;simp only;rw[agm (agL _ _),Nat.add_sub_cancel_left,hi]
theorem xl{ρ:Operand→AV}{h l:agU an}{T:TypeId}{p:Operand}{i off:Nat}{cs:agU AV}{x:AV}(hp:ρ p= .ptr (h.length+i) off)(hi:l[i]?=some (.cells cs))(hl:xr P T cs off=some x):kI P (.load T p) ρ (h++l)=some (x, .same):=by
 unfold kI;simp only[hp,Zp hi,hl,pX]
theorem Yu{ρ:Operand→AV}{h l:agU an}{T:TypeId}{y:Operand}{v:AV}(hv:ρ y=v)(hb:v.iL=true):kI P (.box T y) ρ (h++l)=some (.ptr (h.length+l.length) 0, .push (.cells v.cells)):=by
 subst hv;unfold kI;simp only[hb,cond_true,af6]
theorem Mq{ρ:Operand→AV}{h l:agU an}{T:TypeId}(hz:(zeroT P T).isSome=true):kI P (.alloc T) ρ (h++l)=some (.ptr (h.length+l.length) 0, .push (.cells (TR P T))):=by
 unfold kI TR;cases e:zeroT P T with
 |none=>rw[e]at hz;cases hz
 |some z=>simp only[e,af6]
theorem De{h l:agU an}{B:an}:(HD.push B).app (h++l)=h++(l++[B]):=by simp [HD.app]
theorem I4{ρ:Operand→AV}{h l:agU an}{T:TypeId}{p y:Operand}{i off k:Nat}{cs:agU AV}{v:AV}(hp:ρ p= .ptr (h.length+i) off)(hi:l[i]?=some (.cells cs))(hk:fh P T=some k)(hv:ρ y=v)(hb:(k==v.cells.length&&v.iL&&b8 (off+v.cells.length) cs.length)=true){bV:agU AV}(fm:gq cs off v.cells=bV):
 kI P (.store T p y) ρ (h++l)=some (.d (.v undef), .set (h.length+i) (.cells bV)):=by
 subst hv fm;unfold kI;simp only[hp,hk];rw[agm (agL _ _),Nat.add_sub_cancel_left,hi];simp only[hb,cond_true]
theorem JG{ρ:Operand→AV}{h:agU an}{T:TypeId}{a i:Operand}{xs:agU (agU D)}{q e k:Nat}{c:agU D}(hx:ρ a= .d (.sl xs))(hi:ρ i= .d (.v (.int .i64 (Int.ofNat q))))(hT:ej P T=some (e,k))(hc:xs[q]?=some c)(hk:(c.length==k)=true):kI P (.indexAddr T a i) ρ h=some (.aW [c] 0 0, .same):=by
 unfold kI;simp only[hx,hi];unfold FD;simp only[hT,AV.fw,AV.int?,zN,hc,hk,cond_true,pX]
theorem Jg{h l:agU an}{B:an}{i:Nat}:(HD.set (h.length+i) B).app (h++l)=h++l.set i B:=by
 simp only[HD.app];rw[List.set_append_right _ _ (agL _ _),Nat.add_sub_cancel_left]
theorem zD{n d:Nat}{t:agU (Nat×AV)}{h:agU an}{T:TypeId}{x y:Operand}{p:TypeId}{xs:agU (agU D)}{q:TypeId×Nat}(ho:o.op= .binOp .eql T x y p)(hx:(ev ⟨n,t,h⟩ x).fw=some xs)(hy:ev ⟨n,t,h⟩ y= .d (.v (.slice none 0 0)))(hT:ej P T=some q)(eh:o.dst=some d)(hn:Nat.ble n d=false)
 (h1:xs=[]→K ⟨n,(d, .d (.v (.bool true)))::t,h⟩) (h2:K ⟨n,(d, .d (.v (.bool false)))::t,h⟩):lS P o K ⟨n,t,h⟩:=by
 refine .inr (.inl ?_);have aN:d<n:=Nat.lt_of_not_le fun hle=>by rw[Nat.ble_eq_true_of_le hle]at hn;cases hn
 unfold zJ;simp only[ho,hx,hy,hT,uX,eh,oC (s:=⟨n,t,h⟩) aN];exact⟨h1,h2⟩
theorem Fj{n d k:Nat}{t:agU (Nat×AV)}{h:agU an}{c:Call}{f:Operand}{x:AV}(ho:o.op= .call c)(hc:c.callee= .value f)(hf:ev ⟨n,t,h⟩ f= .c7 k)(hx:c.args.toList.map (ev ⟨n,t,h⟩)=[x])(eh:o.dst=some d)(hn:Nat.ble n d=false)
 (hy:YS P k x h fun b h'=>K ⟨n,(d, .d (.v (.bool b)))::t,h'⟩):lS P o K ⟨n,t,h⟩:=by
 refine .inr (.inr (.inr (.inl ?_)));unfold Fb;simp only[ho,hc,hf,hx];refine hy.mono fun b h' hK=> ?_;have aN:d<n:=Nat.lt_of_not_le fun hle=>by rw[Nat.ble_eq_true_of_le hle]at hn;cases hn
 rw[eh,oC (s:=St.wh ⟨n,t,h⟩ h') aN];exact hK
theorem Pk{n:Nat}{t:agU (Nat×AV)}{h:agU an}{c:Call}{f:Operand}{g:FuncId}{dy:agU AV}(ho:o.op= .call c)(hc:c.callee= .value f)(hf:ev ⟨n,t,h⟩ f= .fn g dy)
 (hA:bD P g (c.args.toList.map (ev ⟨n,t,h⟩)++dy) h fun x h'=>K ((St.wh ⟨n,t,h⟩ h').put o.dst x)):lS P o K ⟨n,t,h⟩:=by
 refine .inr (.inr (.inl ?_));unfold nH cD;simp only[ho,hc,hf];exact hA
end
theorem YK{P:agX}{f:FuncId}{args:agU AV}{H:agU an}{K:AV→agU an→Prop}(hc:bD P f args H K)(e:agU an)(hb:H.all (an.aO H.length)=true)(ha:args.all (AV.aO H.length)=true)
 (hK:∀r h',K r h'→h'.length=H.length∧h'.all (an.aO H.length)=true∧r.aO H.length=true):bD P f args (H++e) fun r h'=>∃H',K r H'∧h'=H'++e:=by
 have s4:∀i,i<H.length→rn (List.range H.length) (H++e).length i=i:=fun i h=>xf (List.range H.length) _ i i (by rw[List.getElem?_range h]);have DK:∀y:AV,y.aO H.length=true→y.aM (rn (List.range H.length) (H++e).length)=y:=fun y hy=>(u5 (τ:=id) s4 y hy).trans (Cn y);have Ab:∀B:an,B.aO H.length=true→B.aM (rn (List.range H.length) (H++e).length)=B:=fun B hB=>(Kh (τ:=id) s4 B hB).trans (Lo B);have:=hc.PN (l:=List.range H.length) (h:=H++e) List.nodup_range (fun j hj=>by have:=List.mem_range.1 hj;simp;omega) (fun i j kC=>by
  obtain⟨aN,rfl⟩:i<H.length∧j=i:=by
   have h1:=(af5.1 kC).1;rw[List.length_range]at h1;rw[List.getElem?_range h1]at kC;exact⟨h1,(agp kC).symm⟩
  rw[agf aN,af9 aN,Option.map_some,Ab _ (agw.1 hb _ (List.getElem_mem aN))]) (by simp) ha hb
 have ea:args.map (AV.aM (rn (List.range H.length) (H++e).length))=args:=(agB fun x hx=>DK x (agw.1 ha x hx)).trans (List.map_id _);rw[ea]at this;refine this.mono fun r' h' ⟨r,H',k1,k2,k3⟩=> ?_;obtain⟨c1,c2,c3⟩:=hK r H' k1;have hm:H'.map (an.aM (rn (List.range H.length) (H++e).length))=H':=(agB fun B hB=>Ab B (agw.1 c2 B hB)).trans (List.map_id _);rw[hm,P3 H' H e c1]at k3;rw[DK r c3]at k2;exact⟨H',by rw[k2];exact k1,k3⟩
theorem X7{h:agU an}{p:AV}{K K':agU AV→Nat→Prop}(hk:∀cs off,K cs off→K' cs off)(hp:px h p K):px h p K':=by
 unfold px at hp ⊢;split at hp
 ·next n off=>
  split at hp
  ·next cs e=>(try simp only[e]);exact hk _ _ hp
  ·exact hp.elim
 ·next xs i off=>
  split at hp
  ·next cs e=>(try simp only[e]);exact hk _ _ hp
  ·exact hp.elim
 ·exact hp.elim
theorem adb{P:agX}{T:TypeId}{h:agU an}{p:AV}{K K':AV→Prop}(hk:∀x,K x→K' x)(hp:mg P T h p K):mg P T h p K':=
 X7 (fun cs off hc=>by
  split at hc
  ·next k e1 e2=>
   try simp only[e1,e2]
   exact bM.2 ⟨(bM.1 hc).1,hk _ (bM.1 hc).2⟩
  ·next k e1 e2=>
   try simp only[e1,e2]
   split at hc
   ·next c e3=>(try simp only[e3]);exact hk _ hc
   ·exact hc.elim
  ·exact hc.elim) hp
theorem Va{P:agX}{fn:Func}{n:Nat}{t:agU (Nat×AV)}{H l:agU an}{K:AV→agU an→Prop}(hb:H.all (an.aO H.length)=true)(hr:kY P ⟨n,t,H++l⟩ fn.results.toList fun rs=>((ja rs).bz H.length).aO H.length=true∧K ((ja rs).bz H.length) H):n7 P fn H.length K ⟨n,t,H++l⟩:=by
 have ht:(((H++l).take H.length).map (an.bz H.length))=H:=by rw[List.take_left];exact Iv hb
 unfold n7;show kY P ⟨n,t,H++l⟩ fn.results.toList fun rs=>H.length≤(H++l).length∧_;simp only[ht];have gen:∀(rv:agU ResultVar){C C':agU AV→Prop},(∀x,C x→C' x)→kY P ⟨n,t,H++l⟩ rv C→kY P ⟨n,t,H++l⟩ rv C':=by
  intro rv
  induction rv with
  |nil=>intro C C' hc h;exact hc _ h
  |cons x rv ih=>
   intro C C' hc h;cases x with
   |tmp t=>exact ih (fun y hy=>hc _ hy) h
   |cell p t=>exact adb (fun x h=>ih (fun y hy=>hc _ hy) h) h
 exact gen _ (fun rs ⟨h1,h2⟩=>⟨by simp,h1,hb,h2⟩) hr
theorem Bk{n:Nat}{t:agU (Nat×AV)}{H l:agU an}(live:agU Nat)(hb:H.all (an.aO H.length)=true):(⟨n,t,H++l⟩:St).mask live H.length=⟨n,live.map fun k=>(k,(bm t k).bz H.length),H⟩:=by
 unfold St.mask;rw[show((H++l).take H.length).map (an.bz H.length)=H by rw[List.take_left];exact Iv hb]
theorem okMask_suffix{n:Nat}{t:agU (Nat×AV)}{H l:agU an}(live:agU Nat)(hb:H.all (an.aO H.length)=true)(hl:(live.all fun k=>((bm t k).bz H.length).aO H.length)=true):(⟨n,t,H++l⟩:St).wX live H.length:=
 ⟨by simp,hl,by rw[show((H++l).take H.length).map (an.bz H.length)=H by rw[List.take_left];exact Iv hb];exact hb⟩
theorem SI{n:Nat}{t:agU (Nat×AV)}{H:agU an}(live:agU Nat)(hb:H.all (an.aO H.length)=true):(⟨n,t,H⟩:St).mask live H.length=⟨n,live.map fun k=>(k,(bm t k).bz H.length),H⟩:=by
 have:=Bk (n:=n) (t:=t) (l:=[]) live hb
 rwa [agr]at this
theorem SU{n:Nat}{t:agU (Nat×AV)}{H:agU an}(live:agU Nat)(hb:H.all (an.aO H.length)=true)(hl:(live.all fun k=>((bm t k).bz H.length).aO H.length)=true):(⟨n,t,H⟩:St).wX live H.length:=by
 have:=okMask_suffix (n:=n) (t:=t) (l:=[]) live hb hl
 rwa [agr]at this
theorem DX{k m:Nat}(h:k<m):((AV.c7 k).bz m).aO m=true:=by simp [AV.bz,AV.aO,b8];omega
structure DA(s:St)(m:Nat)(s':St):Prop where
 cut:∀{G:Gh}{w:World}{a:Act},cT G w a s→cT (G.cut m) w a s'
theorem DA.S{s s':St}{live:agU Nat}{m:Nat}(h:iA s live m=some s'):DA s m s':=⟨fun hs=>hs.iA h⟩
theorem adZ{P:agX}{r:agW Nat}{N0 m:Nat}{c:Code}{s:St}{R R':Exit→St→Prop}(hm:N0≤m)(h:bB P r N0 c R s)(hR:∀e s2,R e s2→∃s',DA s2 m s'∧R' e s'):bB P r N0 c R' s:=by
 constructor
 intro G w a n hs hN;refine wpIn_mono (h.run G w a n hs hN) fun e a1 w1 hn=> ?_;obtain⟨G1,s1,hE,_,eM,hq⟩:=hn;obtain⟨s',k1,k2⟩:=hR e s1 hq;exact⟨G1.cut m,s',hE.trans (nf _ _ _ _),hm,k1.cut eM,k2⟩
def yI(m:Nat)(n:Nat)(T:agU (Nat×AV))(LP:an)(next:agU an→Prop)(Q:Exit→St→Prop)(e:Exit)(s:St):Prop:=
 ∃hs,hs.length=m∧hs.all (an.aO (m+1))=true∧DA s (m+1) ⟨s.n,[],hs++[LP]⟩∧match e with
  | .normal=>next hs
  | .ret=>Q .ret ⟨n,T,hs++[.gone]⟩
  | .exit i=>Q (.exit i) ⟨n,T,hs++[.gone]⟩
  |_=>False
theorem CA{P:agX}{N0 n m:Nat}{T:agU (Nat×AV)}{H:agU an}{Q:Exit→St→Prop}{g:Operand}{p:Nat}{as bd:Code}{gf:FuncId}{dy:agU AV}(hg:ev ⟨n,T,H⟩ g= .fn gf dy){α:Type}{enc:α→AV}{xs:agU α}(hI:IE P gf dy (xs.map enc))
 {ι:Type} (Hs:ι→agU an) (I:ι→agU α→Prop) (i0:ι) (h0:H=Hs i0) (qb:I i0 xs) (hl:∀i,(Hs i).length=m) (mF:∀i,(Hs i).all (an.aO (m+1))=true) (hT:(cX n T).all (AV.aO (m+1))=true) (hp:Nat.ble n p=false)
 (round:∀i x l,I i (x::l)→∀(rr:Nat)(a b:Code),bB P (some rr) (m+1) as (hO (fun s1=>∃hs e,hs.length=m∧s1.h=hs++ .lp .ready p a b (cX n T)::e∧
  bB P (some rr) (m+1) bd (yI m n T (.lp .busy p a b (cX n T)) (fun cy=>∃i',cy=Hs i'∧I i' l) Q) ⟨s1.n,s1.t,hs++ .lp .busy p a b (cX n T)::e⟩) (fun _ _=>False)) ⟨n,(p,enc x)::kg 0 (cX n T),Hs i++[.lp .ready p a b (cX n T)]⟩)
 (done:∀i,I i []→Q .normal ⟨n,T,Hs i++[.gone]⟩):bB P none N0 (.rangeFunc g #[p] as bd) Q ⟨n,T,H⟩:=by
 subst h0;have hm:(Hs i0).length=m:=hl i0;have rj:(cX n T).length=n:=by simp [cX]
 have FX:∀ls,(an.lp ls p as bd (cX n T)).aO (m+1)=true:=fun ls=>hT;refine aeB hg ?_;show bD P gf (.c7 (Hs i0).length::dy) (Hs i0++[.lp .ready p as bd (cX n T)]) _;have vT:∀(hs:agU an)(B B':an),hs.length=m→(hs++[B]).set m B'=hs++[B']:=fun hs B B' h=>by
  rw[List.set_append_right _ _ (Nat.le_of_eq h),h,Nat.sub_self];rfl
 have eN:∀(hs:agU an)(B:an)(e:agU an),hs.length=m→(hs++B::e)[m]?=some B:=fun hs B e h=>by
  rw[agm (Nat.le_of_eq h),h,Nat.sub_self];rfl
 have seq:∀(l:agU α)(i:ι),I i l→la P m (l.map enc) (fun b h1=>∃(hs:agU an)(ls:LS),hs.length=m∧h1=hs++[.lp ls p as bd (cX n T)]∧Jm P N0 Q ⟨n,T,hs++[.gone]⟩ ls) (Hs i++[.lp .ready p as bd (cX n T)]):=by
  intro l
  induction l with
  |nil=>intro i hi;exact⟨Hs i, .ready,hl i,rfl,done i hi⟩
  |cons x l ih=>
   intro i hi;have hlen:(Hs i++[an.lp .ready p as bd (cX n T)]).length=m+1:=by simp [hl i]
   refine abE ⟨p,as,bd,cX n T,eN _ _ [] (hl i),?_,fun rr=> ?_⟩
   ·rw[rj];exact Nat.lt_of_not_le fun hle=>by rw[Nat.ble_eq_true_of_le hle]at hp;cases hp
   ·rw[hlen,rj];refine(round i x l hi rr as bd).mono fun e s1 eM=> ?_;cases e with
    |normal=>
     obtain⟨hs,e',k1,k2,k3⟩:=eM;refine⟨p,as,bd,cX n T,by rw[k2];exact eN _ _ _ k1,?_⟩;have hse:s1.h.set m (.lp .busy p as bd (cX n T))=hs++ .lp .busy p as bd (cX n T)::e':=by
      rw[k2,List.set_append_right _ _ (Nat.le_of_eq k1),k1,Nat.sub_self];rfl
     rw[hse];refine adZ (agh _) k3 fun e2 s2 hr=> ?_;obtain⟨vW,c2,c5,c3,c4⟩:=hr;refine⟨_,c3,?_⟩;have eV:∀B,B.aO (m+1)=true→(vW++[B]).all (an.aO (m+1))=true:=fun B hB=>by
       rw[List.all_append,c5];simp [hB]
     have tG:(vW++[an.lp .busy p as bd (cX n T)])[m]?=some (.lp .busy p as bd (cX n T)):=eN _ _ [] c2;cases e2 with
     |normal=>
      obtain⟨i',rfl,dw⟩:=c4;refine⟨p,as,bd,cX n T,tG,?_⟩;simp only[vT _ _ _ c2];exact⟨⟨by simp [hl],eV _ (FX _)⟩,ih i' dw⟩
     |ret=>
      refine⟨p,as,bd,cX n T,tG,?_⟩;simp only[vT _ _ _ c2];exact⟨⟨by simp [c2],eV _ (FX _)⟩,vW, .done .ret,c2,rfl,dD c4⟩
     |exit j=>
      refine⟨p,as,bd,cX n T,tG,?_⟩;simp only[vT _ _ _ c2];exact⟨⟨by simp [c2],eV _ (FX _)⟩,vW, .done (.exit j),c2,rfl,lL c4⟩
     |_=>exact c4.elim
    |_=>exact eM.elim
 have OU:(Hs i0++[an.lp .ready p as bd (cX n T)]).length=m+1:=by simp [hm]
 refine(hI (Hs i0).length _ _ (by rw[OU,List.all_append,mF i0];simp [FX]) (by rw[OU,hm];exact agS m) (by rw[hm];exact seq xs i0 qb)).mono fun _ h1 hb=> ?_;obtain⟨b,hs,ls,k1,rfl,k2⟩:=hb;refine⟨ls,p,as,bd,cX n T,?_,?_⟩
 ·show(hs++[an.lp ls p as bd (cX n T)])[(Hs i0).length]?=_;rw[hm];exact eN _ _ [] k1
 ·show Jm P N0 Q ⟨n,T,(hs++[an.lp ls p as bd (cX n T)]).set (Hs i0).length .gone⟩ ls;rw[hm,vT _ _ _ k1];exact k2
section
variable {m n:Nat} {T:agU (Nat×AV)} {LP:an} {next:agU an→Prop} {Q:Exit→St→Prop} {s:St}
theorem EY(hs:agU an)(hl:hs.length=m)(hb:hs.all (an.aO (m+1))=true)(hc:iA s [] (m+1)=some ⟨s.n,[],hs++[LP]⟩)(hn:next hs):yI m n T LP next Q .normal s:=⟨hs,hl,hb, .S hc,hn⟩
theorem Mo(hs:agU an)(hl:hs.length=m)(hb:hs.all (an.aO (m+1))=true)(hc:iA s [] (m+1)=some ⟨s.n,[],hs++[LP]⟩)(hq:Q .ret ⟨n,T,hs++[.gone]⟩):yI m n T LP next Q .ret s:=⟨hs,hl,hb, .S hc,hq⟩
theorem Zi{i:Nat}(hs:agU an)(hl:hs.length=m)(hb:hs.all (an.aO (m+1))=true)(hc:iA s [] (m+1)=some ⟨s.n,[],hs++[LP]⟩)(hq:Q (.exit i) ⟨n,T,hs++[.gone]⟩):yI m n T LP next Q (.exit i) s:=⟨hs,hl,hb, .S hc,hq⟩
end
set_option linter.unusedSimpArgs false
set_option linter.unusedVariables false
abbrev Lf:=St×agU Nat×agU (Nat×agU (In×b5))
def rN(go:Nat→agW (agU Lf)):agU Nat→agW (agU Lf)
 |[]=>some []
 |k::r=>match go k with
  |some a=>match rN go r with
   |some b=>some (a++b)
   |none=>none
  |none=>none
def vA(P:agX)(ops:Array Oper)(A C:agU Nat)(as:agU (Nat×b5)):Nat→Nat→agU Nat→agU (Nat×agU (In×b5))→St→agW (agU Lf)
 |0,L,al,acc,s=>match pf A L 0 with
  |[]=>some [(s,al,acc)]
  |_=>none
 |f+1,L,al,acc,s=>match pf A L 0 with
  |[]=>some [(s,al,acc)]
  |k0::r=>rN (fun k=>match ops[k]? with
     |some o=>match ml P ops true o k as s with
      |some (s1,l)=>fN (L|||(1<<<k)) fun L=>vA P ops A C as f L (al++List.replicate (s1.h.length-s.h.length) k) ((k,l)::acc) s1
      |none=>none
     |none=>none) (match A2 C L (k0::r)with
      |some k=>[k]
      |none=>k0::r)
theorem UE{go:Nat→agW (agU Lf)}:∀{l:agU Nat}{ls:agU Lf},rN go l=some ls→∀k∈l,∃a,go k=some a∧∀x∈a,x∈ls
 |[],_,_,k,hk=>by cases hk
 |j::r,ls,h,k,hk=>by
  unfold rN at h;split at h
  ·next a e1=>
   split at h
   ·next b e2=>
    cases h
    rcases agA.1 hk with rfl|hk
    ·exact⟨a,e1,fun x hx=>List.mem_append_left _ hx⟩
    ·obtain⟨a',e3,h3⟩:=UE e2 k hk;exact⟨a',e3,fun x hx=>List.mem_append_right _ (h3 x hx)⟩
   ·cases h
  ·cases h
section
variable {P:agX} {ops:Array Oper} {as:agU (Nat×b5)} {K:St→Prop} {s0:St}
theorem abd{o:Oper}{j:Nat}{dr:Bool}{s s1:St}{l:agU (In×b5)}(h:ml P ops dr o j as s=some (s1,l))(ho:o∈ops.toList)(hB:kf (mr ops.toList) s0 s):kf (mr ops.toList) s0 s1:=by
 have cI:∀{i a r l},si i a r=some (s1,l)→∃m,r=some (s1,m):=fun{i a r l} h=>by
  unfold si at h;split at h
  ·exact⟨_,h⟩
  ·split at h
   ·cases h;exact⟨_,rfl⟩
   ·cases h
 have cR:∀{m r l},nW m r=some (s1,l)→∃m,r=some (s1,m):=fun{m r l} h=>by
  unfold nW at h;split at h
  ·cases h;exact⟨_,rfl⟩
  ·cases h
 have TL:kf (mr ops.toList) s0 (Ck o s):=hB.put s.h (.d (.v undef)) (EH ho);have st:∀l,n9 P dr o j as s=some (s1,l)→kf (mr ops.toList) s0 s1:=fun l h=>by
  unfold n9 at h;cases hd:dr&&AP (iq as (3*j+1))&& !xW o (iq as (3*j+1))with
  |true=>rw[hd]at h;cases h
  |false=>
   rw[hd]at h;simp only[cond_false]at h;split at h
   ·split at h<;>(obtain⟨m,e⟩:=cI h;cases e;exact hB.put _ _ (EH ho))
   ·cases h
 unfold ml at h;split at h
 ·exact st _ h
 ·split at h
  ·obtain⟨m,e⟩:=cR h;revert e;generalize ((_:Bool)==_)=q;intro e;cases q with
   |true=>exact st _ e
   |false=>cases e;exact TL
  ·obtain⟨m,e⟩:=cR h;cases e;exact TL
  ·cases h
theorem MY(hK:qY K)(hM:ph (Region.before ops) ops=true)(t0:agU (Nat×AV)):
 ∀(fuel L:Nat)(listed:Array Bool)(al:agU Nat)(acc:agU (Nat×agU (In×b5)))(s:St)(ls:agU Lf),LM ops L listed→Dn ops listed→vA P ops (pO ops 0 ops.size) (nP ops false (Region.before ops) 0 ops.size) as fuel L al acc s=some ls→
  (∃x,x∈ls)∧(∀x∈ls,(∀p∈acc,p∈x.2.2)∧((∃pre,s.t=pre++t0)→∃pre,x.1.t=pre++t0)∧(kf (mr ops.toList) s0 s→kf (mr ops.toList) s0 x.1))∧((∀x∈ls,(∀p∈x.2.2,gF P p.2)∧K x.1)→lZ false P ops K fuel listed s)
 |0,L,listed,al,acc,s,ls,hL,hD,h=>by
  unfold vA at h;split at h
  ·next hr=>
   cases h
   refine⟨⟨_,agb⟩,fun x hx=> ?_,fun hk=>⟨?_,(hk _ agb).2⟩⟩
   ·rw[List.mem_singleton]at hx;subst hx;exact⟨fun _ h=>h,fun h=>h,fun h=>h⟩
   ·rw[List.eq_nil_iff_forall_not_mem];intro i hi;have:=(hL.ready i).1 hi;rw[hr]at this;cases this
  ·cases h
 |fuel+1,L,listed,al,acc,s,ls,hL,hD,h=>by
  have mem:∀{k:Nat}{o:Oper},ops[k]?=some o→o∈ops.toList:=fun ho=>Array.mem_toList_iff.2 (Array.mem_of_getElem? ho);unfold vA at h;split at h
  ·next hr=>
   cases h
   refine⟨⟨_,agb⟩,fun x hx=> ?_,fun hk=>⟨fun _=>(hk _ agb).2,fun i hi=> ?_⟩⟩
   ·rw[List.mem_singleton]at hx;subst hx;exact⟨fun _ h=>h,fun h=>h,fun h=>h⟩
   ·have:=(hL.ready i).1 hi;rw[hr]at this;cases this
  ·next k0 r hr=>
   generalize Yn:(fun k:Nat=>(match ops[k]? with
    |some o=>match ml P ops true o k as s with
     |some (s1,l)=>fN (L|||(1<<<k)) fun L=>vA P ops (pO ops 0 ops.size) (nP ops false (Region.before ops) 0 ops.size) as fuel L (al++List.replicate (s1.h.length-s.h.length) k) ((k,l)::acc) s1
     |none=>none
    |none=>none:agW (agU Lf)))=go at h
   have one:∀k a,k∈Region.ready .any ops listed→go k=some a→∃o s1 l,ops[k]?=some o∧ml P ops true o k as s=some (s1,l)∧(∃x,x∈a)∧(∀x∈a,(∀p∈(k,l)::acc,p∈x.2.2)∧((∃pre,s.t=pre++t0)→∃pre,x.1.t=pre++t0)∧(kf (mr ops.toList) s0 s→kf (mr ops.toList) s0 x.1))∧
       ((∀x∈a,(∀p∈x.2.2,gF P p.2)∧K x.1)→∃y h1,lQ false P ops o s y h1∧lZ false P ops K fuel (listed.setIfInBounds k true) ((s.wh h1).put o.dst y)):=fun k a Ge sH=>by
    rw[←Yn]at sH;simp only at sH;split at sH
    ·next o ho=>
     split at sH
     ·next s1 l hg=>
      rw[zF]at sH;obtain⟨h1,h2,h3⟩:=MY hK hM t0 fuel _ _ _ _ s1 a (hL.set (agl.1 ho).1) (hD.set Ge) sH;refine⟨o,s1,l,ho,hg,h1,fun x hx=>⟨(h2 x hx).1,fun⟨pre,hp⟩=> ?_,fun hB=>(h2 x hx).2.2 (abd hg (mem ho) hB)⟩,fun hk=> ?_⟩
      ·obtain⟨⟨p1,e1⟩,_⟩:=P4 hg;exact(h2 x hx).2.1 ⟨p1++pre,by rw[e1,hp,agn]⟩
      ·obtain⟨x,hx⟩:=h1;have hl:gF P l:=(hk x hx).1 (k,l) ((h2 x hx).1 _ agb);have h4:=I5 (K:=(·=s1)) hg hl rfl;have h5:=h3 hk;have:∃y h1,lQ false P ops o s y h1∧(s.wh h1).put o.dst y=s1:=by
        rcases Mj h4 with⟨g,hd⟩|⟨g,hd⟩
        ·obtain⟨y,h1,h2,h3⟩:=Hm hd;exact⟨y,h1, .inl ⟨g,h2⟩,h3⟩
        ·exact⟨_,s.h, .inr ⟨g,rfl,rfl⟩,hd⟩
       obtain⟨y,hh,q1,rfl⟩:=this;exact⟨y,hh,q1,h5⟩
     ·cases sH
    ·cases sH
   cases hf:A2 (nP ops false (Region.before ops) 0 ops.size) L (k0::r)with
   |some k=>
    rw[hf]at h;obtain⟨qz,CY⟩:=NP hf;have Ge:k∈Region.ready .any ops listed:=(hL.ready k).2 (by rw[hr];exact qz);unfold rN at h;split at h
    ·next a e1=>
     unfold rN at h;simp only[agr]at h;cases h
     obtain⟨o,s1,l,ho,hg,h1,h2,h3⟩:=one k _ Ge e1;refine⟨h1,fun x hx=>⟨fun p hp=>(h2 x hx).1 p (age _ hp),(h2 x hx).2⟩,fun hk=> ?_⟩;obtain⟨y,hh,q1,q2⟩:=h3 hk;refine Ht hK hM ho fuel listed s hD (fun j oj hj cO oY tg=> ?_) Ge q1 q2;have SX:=(agl.1 hj).1;have BP:=(agl.1 ho).1;have aa8:Nat.testBit L j=false:=by
      rw[hL.b];have iy:j<listed.size:=by rw[hL.sz];exact SX
      simpa [iy]using oY
     have xd:Nat.testBit (Av ops false (Region.before ops) k) j=false:=by
      rw[←Bool.not_eq_true];intro hc;have h5:(nP ops false (Region.before ops) 0 ops.size).getD k 0=Av ops false (Region.before ops) k:=by
        rw[List.getD_eq_getElem?_getD,Qs,if_pos BP,agq];rfl
      rw[h5]at CY;have:=congrArg (fun n=>Nat.testBit n j) CY;simp only[Nat.testBit_or,hc,aa8]at this;cases this
     unfold Av at xd;rw[D5]at xd;unfold Pp at xd;rw[tg,ho,hj]at xd;simp [SX,cO]at xd;exact xd
    ·cases h
   |none=>
    rw[hf]at h;have PO:=UE h;have HC:k0∈Region.ready .any ops listed:=(hL.ready k0).2 (by rw[hr];simp);have back:∀(l:agU Nat)(ls:agU Lf),rN go l=some ls→∀x∈ls,∃k∈l,∃a,go k=some a∧x∈a:=by
      intro l
      induction l with
      |nil=>intro ls h x hx;cases h;cases hx
      |cons j r ih=>
       intro ls h x hx;unfold rN at h;split at h
       ·next a e1=>
        split at h
        ·next b e2=>
         cases h
         rcases agI.1 hx with hx|hx
         ·exact⟨j,agb,a,e1,hx⟩
         ·obtain⟨k,hk,a',h1,h2⟩:=ih b e2 x hx;exact⟨k,age _ hk,a',h1,h2⟩
        ·cases h
       ·cases h
    refine⟨?_,fun x hx=> ?_,fun hk=>⟨fun e=>(by rw[e]at HC;cases HC),fun i hi oi NH=> ?_⟩⟩
    ·obtain⟨a,e1,h1⟩:=PO k0 agb;obtain⟨o,s1,l,ho,hg,⟨x,hx⟩,_⟩:=one k0 a HC e1;exact⟨x,h1 x hx⟩
    ·obtain⟨k,hk,a,e1,NQ⟩:=back _ _ h x hx;obtain⟨o,s1,l,ho,hg,h1,h2,h3⟩:=one k a ((hL.ready k).2 (by rw[hr];exact hk)) e1;exact⟨fun p hp=>(h2 x NQ).1 p (age _ hp),(h2 x NQ).2⟩
    ·have dw:i∈k0::r:=by rw[←hr];exact(hL.ready i).1 hi
     obtain⟨a,e1,h1⟩:=PO i dw;obtain⟨o,s1,l,ho,hg,_,_,h3⟩:=one i a hi e1;rw[ho]at NH;cases NH;exact h3 fun x hx=>hk x (h1 x hx)
end
def Jc(k:Nat):agU Nat→Nat
 |[]=>0
 |j::l=>bif b8 (j+1) k then Jc k l+1 else Jc k l
def Lj(k:Nat):agU Nat→Nat
 |[]=>0
 |j::l=>bif j==k then Lj k l+1 else Lj k l
def Kv(h0:Nat)(all:agU Nat):agU Nat→agU Nat→agU Nat
 |_,[]=>[]
 |pre,k::l=>fN (h0+Jc k all+Lj k pre) fun q=>q::Kv h0 all (k::pre) l
def Sn(q:Nat):agU Nat→Nat→Nat
 |[],i=>i
 |x::l,i=>bif x==q then i else Sn q l (i+1)
def Ja(h0:Nat)(p:agU Nat):Nat→Nat→agU Nat
 |0,_=>[]
 |n+1,q=>fN (Sn q p h0) fun i=>i::Ja h0 p n (q+1)
def BG(a:Nat×agU (In×b5)):agU (Nat×agU (In×b5))→agU (Nat×agU (In×b5))
 |[]=>[a]
 |b::l=>bif b8 a.1 b.1 then a::b::l else b::BG a l
def Cj:agU (Nat×agU (In×b5))→agU (Nat×agU (In×b5))
 |[]=>[]
 |a::l=>BG a (Cj l)
def Gd:agU (Nat×agU (In×b5))→agU (In×b5)
 |[]=>[]
 |a::l=>a.2++Gd l
def qg(p q:agU Nat)(h0:Nat)(h:agU an):Nat→Nat→agU an
 |0,_=>[]
 |n+1,i=>(match h[eQ h0 q i]? with|some B=>B.aM (eQ h0 p)|none=> .gone)::qg p q h0 h n (i+1)
def wz(h0:Nat)(p:agU Nat):Bool:=(List.range p.length).all fun i=>p.getD i 0==h0+i
theorem ada{h0:Nat}{p:agU Nat}(h:wz h0 p=true):eQ h0 p=id:=by
 funext i
 unfold eQ;cases e:b8 h0 i with
 |false=>rfl
 |true=>
  rw[dA]at e;simp only[cond_true,id];by_cases hi:i-h0<p.length
  ·unfold wz at h;rw[agw]at h;have:=h (i-h0) (List.mem_range.2 hi);rw[beq_iff_eq,List.getD_eq_getElem?_getD,af9 hi]at this;rw[List.getD_eq_getElem?_getD,af9 hi];simp only[Option.getD_some]at this ⊢;omega
  ·rw[List.getD_eq_getElem?_getD,agC (by omega)];rfl
def QZ(keep:agU Nat)(s:St)(x:Lf)(p q:agU Nat):agW (agU (Nat×AV)×agU an×agU (In×b5)):=
 bif (x.1.t.take (x.1.t.length-s.t.length)).all (fun p=>keep.any (·==p.1)||TD (bm s.t p.1))&&(List.range x.1.h.length).all (fun i=>b8 (eQ s.h.length p i+1) x.1.h.length&&b8 (eQ s.h.length q i+1) x.1.h.length&&eQ s.h.length q (eQ s.h.length p i)==i&&eQ s.h.length p (eQ s.h.length q i)==i)
 then some (keep.map fun k=>(k,(bm x.1.t k).aM (eQ s.h.length p)),bif wz s.h.length p then x.1.h else qg p q s.h.length x.1.h x.1.h.length 0,Gd (Cj x.2.2))else none
def CW(keep:agU Nat)(s:St)(x:Lf):agW (agU (Nat×AV)×agU an×agU (In×b5)):=
 fL (Kv s.h.length x.2.1 [] x.2.1) fun p=>fL (Ja s.h.length p p.length s.h.length) fun q=>QZ keep s x p q
def GX(keep:agU Nat)(s:St):agU Lf→agW (agU (agU (Nat×AV)×agU an×agU (In×b5)))
 |[]=>some []
 |x::l=>match CW keep s x with
  |some a=>match GX keep s l with
   |some b=>some (a::b)
   |none=>none
  |none=>none
def xC(P:agX)(ol:agU Oper)(as:agU (Nat×b5))(keep:agU Nat)(s:St):agW (agU (agU (Nat×AV)×agU an×agU (In×b5))):=
 bif ph (Region.before ol.toArray) ol.toArray then fL (pO ol.toArray 0 ol.toArray.size) fun A=>fL (nP ol.toArray false (Region.before ol.toArray) 0 ol.toArray.size) fun C=>
  match vA P ol.toArray A C as ol.toArray.size 0 [] [] s with
  |some ls=>GX keep s ls
  |none=>none
 else none
theorem QS{keep:agU Nat}{s:St}:∀{ls:agU Lf}{r},GX keep s ls=some r→∀x∈ls,∃a∈r,CW keep s x=some a
 |[],_,_,x,hx=>by cases hx
 |y::l,r,h,x,hx=>by
  unfold GX at h;split at h
  ·next a e1=>
   split at h
   ·next b e2=>
    cases h
    rcases agA.1 hx with rfl|hx
    ·exact⟨a,agb,e1⟩
    ·obtain⟨a',h1,h2⟩:=QS e2 x hx;exact⟨a',age _ h1,h2⟩
   ·cases h
  ·cases h
theorem Pd{a x:Nat×agU (In×b5)}:∀{l:agU (Nat×agU (In×b5))},x∈BG a l↔x=a∨x∈l
 |[]=>by simp [BG]
 |b::l=>by
  unfold BG;cases b8 a.1 b.1 with
  |true=>simp
  |false=>
   simp only[cond_false,agA,Pd (l:=l)];constructor
   ·rintro(h|h|h)
    ·exact .inr (.inl h)
    ·exact .inl h
    ·exact .inr (.inr h)
   ·rintro(h|h|h)
    ·exact .inr (.inl h)
    ·exact .inl h
    ·exact .inr (.inr h)
theorem NT{x:Nat×agU (In×b5)}:∀{l:agU (Nat×agU (In×b5))},x∈Cj l↔x∈l
 |[]=>by simp [Cj]
 |a::l=>by rw[Cj,Pd,NT (l:=l),agA]
theorem RZ{P:agX}:∀{l:agU (Nat×agU (In×b5))},gF P (Gd l)→∀p∈l,gF P p.2
 |[],_,p,hp=>by cases hp
 |a::l,h,p,hp=>by
  unfold Gd at h;rcases agA.1 hp with rfl|hp
  ·exact fun q hq=>h q (List.mem_append_left _ hq)
  ·exact RZ (fun q hq=>h q (List.mem_append_right _ hq)) p hp
theorem OJ{p q:agU Nat}{h0:Nat}{h:agU an}:∀(n i j:Nat),(qg p q h0 h n i)[j]?=if j<n then some (match h[eQ h0 q (i+j)]? with|some B=>B.aM (eQ h0 p)|none=> .gone)else none
 |0,i,j=>by simp [qg]
 |n+1,i,0=>by simp [qg]
 |n+1,i,j+1=>by
  rw[qg,agH,OJ n (i+1) j];simp only[Nat.add_lt_add_iff_right];rw[show i+1+j=i+(j+1) by omega]
theorem M7{p q:agU Nat}{h0:Nat}{h:agU an}:∀(n i:Nat),(qg p q h0 h n i).length=n
 |0,_=>rfl
 |n+1,i=>by rw[qg,af8,M7 n]
theorem acA{P:agX}{ops:Array Oper}{N0:Nat}{keep:agU Nat}{s:St}{x:Lf}{Δ:agU (Nat×AV)}{h':agU an}{ps:agU (In×b5)}(h:CW keep s x=some (Δ,h',ps))(hN:N0≤s.h.length)(qw:∀i,(bm s.t i).aO s.h.length=true)
 (hn:x.1.n=s.n) (hp:∃pre,x.1.t=pre++s.t) (b7:gF P ps):iI N0 x.1 ⟨s.n,Δ++s.t,h'⟩∧∀p∈x.2.2,gF P p.2:=by
 unfold CW at h;rw[Bp,Bp]at h;generalize Kv s.h.length x.2.1 [] x.2.1=p at h;generalize Ja s.h.length p p.length s.h.length=q at h;unfold QZ at h;obtain⟨hb,he⟩:=dJ h;cases he
 rw[af7]at hb;obtain⟨hb,hc⟩:=hb;simp only[agw,List.mem_range,af7,beq_iff_eq,dA]at hc;have u4:∀i,i<s.h.length→eQ s.h.length p i=i:=fun i hi=>by
   unfold eQ;have:b8 s.h.length i=false:=by rw[←Bool.not_eq_true,dA];omega
   rw[this];rfl
 refine⟨?_,fun y hy=>RZ b7 y (NT.2 hy)⟩;refine iI.aM (eQ s.h.length p) (eQ s.h.length q) hn (by
  cases wz s.h.length p with
  |true=>rfl
  |false=>exact M7 _ _) (fun i hi=>(hc i hi).1.1.1) (fun i hi=>(hc i hi).1.1.2) (fun i hi=>(hc i hi).1.2) (fun i hi=>(hc i hi).2) (fun i hi=>u4 i (by omega)) (fun i _=> ?_) fun i hi=> ?_
 ·obtain⟨pre,e1⟩:=hp;have BB:∀(f:Nat→AV),(keep.map fun k=>(k,f k)).map (·.1)=keep:=fun f=>by rw[List.map_map];exact List.map_id _
  show bm ((keep.map fun k=>(k,(bm x.1.t k).aM (eQ s.h.length p)))++s.t) i=_∨_;rcases CB (keep.map fun k=>(k,(bm x.1.t k).aM (eQ s.h.length p))) s.t i with⟨h1,h2⟩|⟨h1,h2⟩
  ·rw[BB]at h1;rw[h2,mS (fun k=>(bm x.1.t k).aM (eQ s.h.length p)),if_pos h1];exact .inl rfl
  ·rw[BB]at h1;show _∨bm ((keep.map fun k=>(k,(bm x.1.t k).aM (eQ s.h.length p)))++s.t) i=_;rw[h2];rw[e1,af6,Nat.add_sub_cancel,List.take_left']at hb
   ·rw[e1];rcases CB pre s.t i with⟨h3,h4⟩|⟨h3,h4⟩
    ·right
     obtain⟨y,hy,rfl⟩:=List.mem_map.1 h3;have:=agw.1 hb y hy;rw[Bool.or_eq_true]at this;rcases this with this|this
     ·exfalso;obtain⟨k,hk,e⟩:=List.any_eq_true.1 this;rw[beq_iff_eq]at e;exact h1 (e▸hk)
     ·generalize bm s.t y.1=z at this;cases z<;>first|rfl|cases this
    ·left
     rw[h4,u5 (τ:=id) u4 _ (qw i),Cn]
   ·rfl
 ·show(bif wz s.h.length p then x.1.h else qg p q s.h.length x.1.h x.1.h.length 0)[eQ s.h.length p i]?=_;cases hid:wz s.h.length p with
  |true=>rw[ada hid];simp only[cond_true,id];rw[af9 hi,Option.map_some,Lo]
  |false=>
  simp only[cond_false];rw[OJ,if_pos (Nat.lt_of_succ_le (hc i hi).1.1.1),agq,(hc i hi).1.2,af9 hi];rfl
theorem Oz{P:agX}{ol:agU Oper}{as:agU (Nat×b5)}{keep:agU Nat}{s:St}{Δ:agU (Nat×AV)}{h':agU an}{ps:agU (In×b5)}{m N0:Nat}{K:St→Prop}(h:xC P ol as keep s=some (List.replicate m (Δ,h',ps)))(b7:gF P ps)(hN:N0≤s.h.length)(qw:∀i,(bm s.t i).aO s.h.length=true)(hK:FY N0 K)(hk:K ⟨s.n,Δ++s.t,h'⟩):
 lZ false P ol.toArray K ol.toArray.size (Array.replicate ol.toArray.size false) s:=by
 unfold xC at h;obtain⟨hM,h⟩:=mn h;rw[Bp,Bp]at h;split at h
 ·next ls e1=>
  obtain⟨_,h2,h3⟩:=MY (s0:=s) hK.c hM s.t _ 0 (Array.replicate ol.toArray.size false) _ _ s ls ⟨by simp,fun i=>by
   rw[Nat.zero_testBit,Array.getD_eq_getD_getElem?,Array.getElem?_replicate];split<;>rfl⟩ (fun j o ho hj=>by
   exfalso;rw[Array.getD_eq_getD_getElem?]at hj;rw[Array.getElem?_replicate]at hj;split at hj<;>simp at hj) e1
  refine h3 fun x hx=> ?_;obtain⟨a,ha,e2⟩:=QS h x hx;rw[List.mem_replicate]at ha;obtain⟨_,rfl⟩:=ha;obtain⟨k1,k2⟩:=acA (P:=P) (ops:=ol.toArray) e2 hN qw ((h2 x hx).2.2 (kf.refl _ _)).n ((h2 x hx).2.1 ⟨[],rfl⟩) b7;exact⟨k2,hK _ _ k1 hk⟩
 ·cases h
section
variable {P:agX} {r:agW Nat} {N0 id n:Nat} {ol:agU Oper} {y:Code} {t:agU (Nat×AV)} {h:agU an} {Q Q':Exit→St→Prop}
theorem rtE(m:Nat)(hm:P.follows .mixedOrders=true)(Δ:agU (Nat×AV))(h':agU an)(e:∃bo:agU (Nat×Ob P),xC P ol (jO bo) (Δ.map (·.1)) ⟨n,t,h⟩=some (List.replicate m (Δ,h',jF bo)))(k:bB P r N0 y Q' ⟨n,Δ++t,h'⟩):bB P r N0 (.region id ol.toArray true) (hO (fun s=>bB P r N0 y Q' s) Q) ⟨n,t,h⟩:=
 let ⟨bo,e⟩:=e
 Nq hm fun hN qw=>Oz e (qk bo) hN qw (MO _) ⟨_,iI.refl _ _,k⟩
theorem rt(m:Nat)(hm:P.follows .mixedOrders=true)(bo:agU (Nat×Ob P))(Δ:agU (Nat×AV))(h':agU an)(e:xC P ol (jO bo) (Δ.map (·.1)) ⟨n,t,h⟩=some (List.replicate m (Δ,h',jF bo)))(k:bB P r N0 y Q' ⟨n,Δ++t,h'⟩):bB P r N0 (.region id ol.toArray true) (hO (fun s=>bB P r N0 y Q' s) Q) ⟨n,t,h⟩:=rtE m hm Δ h' ⟨bo,e⟩ k
theorem rte(m:Nat)(hm:P.follows .mixedOrders=true)(bo:agU (Nat×Ob P))(Δ:agU (Nat×AV))(h':agU an)(e:xC P ol (jO bo) (Δ.map (·.1)) ⟨n,t,h⟩=some (List.replicate m (Δ,h',jF bo)))(k:Q .normal ⟨n,Δ++t,h'⟩):bB P r N0 (.region id ol.toArray true) Q ⟨n,t,h⟩:=
 Nq hm fun hN qw=>Oz e (qk bo) hN qw (MO _) ⟨_,iI.refl _ _,k⟩
end
theorem sP{f:AV→AV}(hf:∀d,f (.d d)= .d d)(xs:agU (agU D)):(aI xs).map (·.map f)=aI xs:=by
 unfold aI;rw[List.map_map];refine agB fun c _=> ?_;simp only[Function.comp,List.map_map];exact agB fun d _=>hf d
theorem mf(xs:agU (agU D)):(aI xs).length=xs.length:=by unfold aI;rw[aga]
theorem xS{xs:agU (agU D)}{i:Nat}{c:agU D}(h:xs[i]?=some c):(aI xs)[i]?=some (c.map .d):=by unfold aI;rw[agc,h];rfl
theorem R1(xs:agU (agU D))(i:Nat)(c:agU D):aI (xs.set i c)=(aI xs).set i (c.map .d):=by unfold aI;rw[List.map_set]
theorem aaH(xs ys:agU (agU D)):aI (xs++ys)=aI xs++aI ys:=by unfold aI;rw[List.map_append]
theorem xn{cs:agU AV}{l:agU an}(h:VD l):VD (.cells cs::l):=⟨trivial,h⟩
theorem qK{e k n:Nat}{l:agU an}(h:VD l):VD (.front e k n::l):=⟨trivial,h⟩
theorem oS{l:agU an}(h:VD l):VD (.gone::l):=⟨trivial,h⟩
def an.nZ(m:Nat):an→an
 | .vec e k cs=> .vec e k cs
 |B=>B.bz m
def an.wQ:an→an
 | .vec e k cs=> .vec e k cs
 |B=>B.mM
def an.wj(m:Nat):an→Prop
 | .vec _ _ cs=>cs.map (·.map (AV.bz m))=cs∧cs.all (·.all (AV.aO m))=true
 |_=>True
def gj(m:Nat):agU an→Prop
 |[]=>True
 |B::l=>B.wj m∧gj m l
section
variable {m:Nat} {l:agU an}
theorem fj:gj m []:=trivial
theorem cw{B:an}(hB:B.wj m)(h:gj m l):gj m (B::l):=⟨hB,h⟩
theorem HZ(xs:agU (agU D)):(aI xs).all (·.all (AV.aO m))=true:=by simp [aI,AV.aO]
theorem gp{e k:Nat}{xs:agU (agU D)}(h:gj m l):gj m (.vec e k (aI xs)::l):=⟨⟨sP (fun d=>by simp [AV.bz]) _,HZ _⟩,h⟩
theorem vmR{e k i:Nat}{xs:agU (agU D)}{r:agU AV}(h1:r.map (AV.bz m)=r)(h2:r.all (AV.aO m)=true)(h:gj m l):gj m (.vec e k ((aI xs).set i r)::l):=by
 refine⟨⟨by rw[List.map_set,sP (fun d=>by simp [AV.bz]),h1],?_⟩,h⟩;rw[agw];intro c hc;rcases List.mem_or_eq_of_mem_set hc with hc|rfl
 ·exact agw.1 (HZ (m:=m) xs) c hc
 ·exact h2
theorem gj.mem:∀{l:agU an},gj m l→∀B∈l,B.wj m
 |[],_,B,hB=>by cases hB
 |_::_,h,B,hB=>by
  rcases agA.1 hB with rfl|hB
  ·exact h.1
  ·exact gj.mem h.2 B hB
end
theorem Ve{m:Nat}{B:an}(h:B.wj m):B.nZ m=B.bz m:=by
 cases B with
 |vec e k cs=>simp only[an.nZ,an.bz];rw[h.1]
 |_=>rfl
theorem ads{m:Nat}{B:an}(h:B.wj m)(hl:(B.nZ m).u6 m=true):(B.bz m).aO m=true:=by
 cases B with
 |vec e k cs=>simp only[an.bz,an.aO];rw[h.1];exact h.2
 |_=>exact hl
theorem Tf{G:Gh}{w:agZ}{h:agU an}(hi:bO G w h):bO G w (h.map an.wQ):=by
 have dL:∀n,bR (h.map an.wQ) G n=bR h G n:=fun n=>by
  unfold bR;rw[agc];cases h[n]? with
  |none=>rfl
  |some B=>cases B<;>rfl
 have h2:=Ir hi;refine⟨by rw[aga];exact hi.len,hi.z,hi.S,fun n B hB=> ?_,fun m n x hm hn=>hi.inj m n x (by rw[←dL];exact hm) (by rw[←dL];exact hn),hi.gl⟩;rw[agc]at hB;cases h1:h[n]? with
 |none=>rw[h1]at hB;cases hB
 |some B'=>
  rw[h1]at hB;cases hB
  have h3:=h2.dh n B'.mM (by rw[agc,h1];rfl);cases B' with
  |vec e k cs=>exact hi.dh n _ h1
  |_=>exact h3
def sh(kn:agU (Nat×Nat))(n:Nat):Nat→agU AV→agU AV
 |_,[]=>[]
 |i,x::l=>(bif kn.any (fun p=>p.1==n&&p.2==i)then x else x.nrm)::sh kn n (i+1) l
def an.PM(kn:agU (Nat×Nat))(n:Nat):an→an
 | .cells cs=> .cells (sh kn n 0 cs)
 |B=>B.wQ
def mB(kn:agU (Nat×Nat)):Nat→agU an→agU an
 |_,[]=>[]
 |n,B::l=>B.PM kn n::mB kn (n+1) l
theorem SV(kn:agU (Nat×Nat))(n:Nat):∀(j:Nat)(cs:agU AV),(sh kn n j cs).length=cs.length
 |_,[]=>rfl
 |j,x::l=>by rw[sh,af8,SV kn n (j+1) l,af8]
theorem Pz(kn:agU (Nat×Nat))(n:Nat):∀(j:Nat)(cs:agU AV)(i:Nat)(c':AV),(sh kn n j cs)[i]?=some c'→∃c,cs[i]?=some c∧(c'=c∨c'=c.nrm)
 |_,[],i,c',h=>by simp [sh]at h
 |j,x::l,0,c',h=>by
  simp only[sh,List.getElem?_cons_zero,Option.some.injEq]at h;refine⟨x,rfl,?_⟩;cases hk:kn.any (fun p=>p.1==n&&p.2==j)with
  |true=>rw[hk]at h;exact .inl h.symm
  |false=>rw[hk]at h;exact .inr h.symm
 |j,x::l,i+1,c',h=>by
  simp only[sh,agH]at h;obtain⟨c,h1,h2⟩:=Pz kn n (j+1) l i c' h;exact⟨c,by simpa using h1,h2⟩
theorem LU(kn:agU (Nat×Nat)):∀(j:Nat)(h:agU an)(i:Nat)(B':an),(mB kn j h)[i]?=some B'→∃B,h[i]?=some B∧B'=B.PM kn (j+i)
 |_,[],i,B',h=>by simp [mB]at h
 |j,B::l,0,B',h=>by simp only[mB,List.getElem?_cons_zero,Option.some.injEq]at h;exact⟨B,rfl,h.symm⟩
 |j,B::l,i+1,B',h=>by
  simp only[mB,agH]at h;obtain⟨C,h1,h2⟩:=LU kn (j+1) l i B' h;exact⟨C,by simpa using h1,by rw[h2];congr 1;omega⟩
theorem OT(kn:agU (Nat×Nat)):∀(j:Nat)(h:agU an),(mB kn j h).length=h.length
 |_,[]=>rfl
 |j,B::l=>by rw[mB,af8,OT kn (j+1) l,af8]
theorem ac6{G:Gh}{w:agZ}{h:agU an}(kn:agU (Nat×Nat))(hi:bO G w h):bO G w (mB kn 0 h):=by
 have dL:∀n x,bR (mB kn 0 h) G n=some x→bR h G n=some x:=fun n x hx=>by
  obtain⟨B',hB,h1⟩:=j7 hx;obtain⟨B,h2,rfl⟩:=LU kn 0 h n B' hB;rw[dC h2,←h1];cases B<;>rfl
 have h2:=Tf hi;refine⟨by rw[OT];exact hi.len,hi.z,hi.S,fun n B' hB=> ?_,fun m n x hm hn=>hi.inj m n x (dL m x hm) (dL n x hn),hi.gl⟩;obtain⟨B,h1,rfl⟩:=LU kn 0 h n B' hB;cases B with
 |cells cs=>
  obtain⟨c1,c2,vs,T,c3,c4,c5⟩:=hi.dh n _ h1;refine⟨c1,c2,vs,T,c3,by rw[SV];exact c4,fun i u c hu hc=> ?_⟩;obtain⟨c0,h3,h4|h4⟩:=Pz _ _ _ _ _ _ hc
  ·rw[h4];exact c5 i u c0 hu h3
  ·rw[h4];exact(c5 i u c0 hu h3).nrm
 |_=>exact h2.dh n _ (by rw[agc,h1];rfl)
def j9(s:St)(live:agU Nat)(m:Nat)(ks:agU Nat)(kn:agU (Nat×Nat)):agW St:=
 bif b8 m s.h.length&&(live.all fun k=>((bm s.t k).bz m).aO m)&&(((s.h.take m).map (an.nZ m)).all (an.u6 m))then some ⟨s.n,live.map fun k=>(k,bif ks.any (·==k)then(bm s.t k).bz m else(bm s.t k).fin m),mB kn 0 ((s.h.take m).map (an.nZ m))⟩else none
theorem Pt{h:agU an}{m:Nat}(hd:gj m (h.take m)):(h.take m).map (an.nZ m)=(h.take m).map (an.bz m):=agB fun B hB=>Ve (hd.mem B hB)
theorem Mv{h:agU an}{m:Nat}(hd:gj m (h.take m))(hl:((h.take m).map (an.nZ m)).all (an.u6 m)=true):((h.take m).map (an.bz m)).all (an.aO m)=true:=by
 rw[agw]at hl ⊢;intro B hB;obtain⟨B',h1,rfl⟩:=List.mem_map.1 hB;exact ads (hd.mem B' h1) (hl _ (List.mem_map.2 ⟨B',h1,rfl⟩))
section
variable {P:agX} {r:agW Nat} {n N0:Nat} {G:Gh} {w:agZ} {a:Act} {s s':St} {Q Q':Exit→St→Prop} {live:agU Nat} {m:Nat} {ks:agU Nat} {kn:agU (Nat×Nat)}
theorem cT.j9(hs:cT G w a s)(hd:gj m (s.h.take m))(h:j9 s live m ks kn=some s'):cT (G.cut m) w a s':=by
 unfold Go.Proofs.YtphmhnabilhbgaaGreatDoor.j9 at h;obtain⟨hb,rfl⟩:=dJ h;rw[af7,af7]at hb;have hm:=hs.mask (live:=live) ⟨dA.1 hb.1.1,hb.1.2,Mv hd hb.2⟩;refine⟨hs.size,fun i=> ?_,by show bO _ _ (mB kn 0 ((s.h.take m).map (an.nZ m)));rw[Pt hd];exact ac6 kn hm.inv,hs.df⟩;have:=hm.tmp i
 change aE _ _ _ (bm (live.map fun k=>(k,(bm s.t k).bz m)) i)at this
 rw[mS (fun k=>(bm s.t k).bz m)]at this;show aE _ _ _ (bm (live.map fun k=>(k,bif ks.any (·==k)then(bm s.t k).bz m else(bm s.t k).fin m)) i);rw[mS (fun k=>bif ks.any (·==k)then(bm s.t k).bz m else(bm s.t k).fin m)];split at this
 ·rename_i hi
  rw[if_pos hi];cases ks.any (·==i)with
  |true=>exact this
  |false=>exact this.nrm
 ·rename_i hi;rw[if_neg hi];exact .dead _
theorem vp{c:Code}{ι:Type}(live:agU Nat)(m:Nat)(ks:agU Nat)(kn:agU (Nat×Nat))(st:ι→St)(I:ι→Prop)(μ:ι→Nat)(i0:ι)(hm:N0≤m)(h0:gj m (s.h.take m)∧Go.Proofs.YtphmhnabilhbgaaGreatDoor.j9 s live m ks kn=some (st i0))(hI:I i0)
 (round:∀i,I i→bB P r N0 c (hO (fun s'=>∃i',(gj m (s'.h.take m)∧Go.Proofs.YtphmhnabilhbgaaGreatDoor.j9 s' live m ks kn=some (st i'))∧I i'∧μ i'<μ i) Q) (st i)):bB P r N0 (.loop c) Q s:=by
 constructor
 intro G w a n hs _;refine Mt (fun(i:ι) a' w'=>∃G',I i∧bK N0 G w G' w'∧N0≤G'.N∧cT G' w' a' (st i)) μ i0 ⟨G.cut m,hI,nf _ _ _ _,hm,hs.j9 h0.1 h0.2⟩ ?_;rintro i a' w' ⟨G',hi,hE,hN,cy⟩;refine wpIn_mono ((round i hi).run G' w' a' n cy hN) fun e a1 w1 hn=> ?_;obtain⟨G1,s1,jr,fE,eM,hq⟩:=hn;cases e with
 |normal=>
  obtain⟨i',h1,h2,h3⟩:=hq;exact⟨i',⟨G1.cut m,h2,(hE.trans jr).trans (nf _ _ _ _),hm,eM.j9 h1.1 h1.2⟩,h3⟩
 |_=>exact⟨G1,s1,hE.trans jr,fE,eM,hq⟩
theorem Ew{c:Code}(live:agU Nat)(m:Nat)(ks:agU Nat)(kn:agU (Nat×Nat))(hm:N0≤m)(h0:gj m (s.h.take m)∧Go.Proofs.YtphmhnabilhbgaaGreatDoor.j9 s live m ks kn=some s')(h:bB P r N0 c Q s'):bB P r N0 c Q s:=by
 constructor
 intro G w a n hs _;exact wpIn_mono (h.run (G.cut m) w a n (hs.j9 h0.1 h0.2) hm) fun _ _ _ hn=>hn.trans (nf N0 G w m)
theorem Uk{c y:Code}{ι:Type}(live:agU Nat)(m:Nat)(ks:agU Nat)(kn:agU (Nat×Nat))(st:ι→St)(I:ι→Prop)(hm:N0≤m)(hc:bB P r N0 c (hO (fun s'=>∃i,(gj m (s'.h.take m)∧Go.Proofs.YtphmhnabilhbgaaGreatDoor.j9 s' live m ks kn=some (st i))∧I i) Q) s)(hy:∀i,I i→bB P r N0 y Q' (st i)):bB P r N0 c (hO (fun s=>bB P r N0 y Q' s) Q) s:=by
 refine hc.mono fun e s' h=> ?_;cases e with
 |normal=>obtain⟨i,h1,h2⟩:=h;exact Ew live m ks kn hm h1 (hy i h2)
 |_=>exact h
end
def zd(P:agX)(rs:agU ResultVar)(m:Nat)(s:St):agW (AV×agU an):=
 match oG P s rs with
 |some l=>bif b8 m s.h.length&&((ja l).bz m).aO m&&(((s.h.take m).map (an.nZ m)).all (an.u6 m))then some (((ja l).bz m).nrm,((s.h.take m).map (an.nZ m)).map an.wQ)else none
 |none=>none
def MI(P:agX)(fn:Func)(m:Nat)(R:AV)(H:agU an):Exit→St→Prop
 | .normal,s=>gj m (s.h.take m)∧zd P fn.results.toList m s=some (R,H)
 | .ret,s=>gj m (s.h.take m)∧zd P fn.results.toList m s=some (R,H)
 |_,_=>False
theorem P8{P:agX}{s:St}{fn:Func}{m:Nat}{R:AV}{H:agU an}(h:gj m (s.h.take m)∧zd P fn.results.toList m s=some (R,H)):n7 P fn m (fun r h'=>r.nrm=R∧h'.map an.wQ=H) s:=by
 obtain⟨hd,h⟩:=h;unfold zd at h;split at h
 ·next l e=>
  obtain⟨hb,he⟩:=dJ h;cases he
  simp only[af7,dA]at hb;exact zC _ _ _ e ⟨hb.1.1,hb.1.2,Mv hd hb.2,rfl,by rw[Pt hd]⟩
 ·cases h
theorem nL{P:agX}{s:St}{fn:Func}{m:Nat}{R:AV}{H:agU an}(hd:gj m (s.h.take m))(h:zd P fn.results.toList m s=some (R,H)):MI P fn m R H .ret s:=⟨hd,h⟩
theorem vR{P:agX}{f:FuncId}{fn:Func}{c:Code}{args:agU AV}{h H:agU an}{R:AV}(m:Nat)(hf:P.funcs[f]?=some fn)(hb:fn.body=some c)(hn:(fn.name== "runtime.NumGoroutine")=false)(hm:h.length≤m)
 (hw:bB P none h.length c (MI P fn m R H) {n:=args.length+(fn.ntmps-args.length),t:=kg 0 args,h:=h}):bD P f args h fun r1 h1=>r1=R∧h1=H:=by
 have h0:=vO (P:=P) (f:=f) (args:=args) (h:=h) (K:=fun r h'=>r.nrm=R∧h'.map an.wQ=H) m hf hb hn hm (hw.mono fun e s hq=>by
  cases e with
  |normal=>exact P8 hq
  |ret=>exact P8 hq
  |_=>exact hq.elim)
 refine⟨h0.1,fun G w vs hi hl hr=>(h0.2 G w vs hi hl hr).mono fun e w' hp=> ?_⟩;obtain⟨v,G',x,h',rfl,hE,hN,dw,hv,rfl,rfl⟩:=hp;exact⟨v,G',x.nrm,_,rfl,hE,hN,Tf dw,hv.nrm,rfl,rfl⟩
mutual
def AV.j5(b:Nat):AV→agU (Nat×Nat×Nat×Nat)
 | .vec n o len L k=>bif n==b then[(o,len,L,k)]else[]
 | .agg cs=>AV.kX b cs
 | .bU cs=>AV.kX b cs
 | .fn _ cs=>AV.kX b cs
 |_=>[]
def AV.kX(b:Nat):agU AV→agU (Nat×Nat×Nat×Nat)
 |[]=>[]
 |x::l=>x.j5 b++AV.kX b l
end
mutual
def AV.mlt(b:Nat)(xs:agU (agU D)):AV→AV
 | .vec n o len L k=>bif n==b then .d (.sl xs)else .vec n o len L k
 | .de n i j L k=>bif n==b then .dead else .de n i j L k
 | .agg cs=> .agg (AV.jA b xs cs)
 | .bU cs=> .bU (AV.jA b xs cs)
 | .fn f cs=> .fn f (AV.jA b xs cs)
 |x=>x
def AV.jA(b:Nat)(xs:agU (agU D)):agU AV→agU AV
 |[]=>[]
 |x::l=>x.mlt b xs::AV.jA b xs l
end
mutual
theorem IF{b kk:Nat}{xs:agU (agU D)}:∀x:AV,(∀q∈x.j5 b,q=(0,xs.length,xs.length,kk))→x.c6 b kk xs=x.mlt b xs
 | .vec n o len L k,h=>by
   unfold AV.c6 AV.mlt;unfold AV.j5 at h;cases e:n==b with
   |false=>rfl
   |true=>
    rw[e]at h;have:=h _ agb;cases this
    simp
 | .agg cs,h=>by unfold AV.c6 AV.mlt;rw[po cs (by unfold AV.j5 at h;exact h)]
 | .bU cs,h=>by unfold AV.c6 AV.mlt;rw[po cs (by unfold AV.j5 at h;exact h)]
 | .fn f cs,h=>by unfold AV.c6 AV.mlt;rw[po cs (by unfold AV.j5 at h;exact h)]
 | .de n i j L k,h=>by unfold AV.c6 AV.mlt;rfl
 | .d _,_=>by simp [AV.c6,AV.mlt]
 | .ptr ..,_=>by simp [AV.c6,AV.mlt]
 | .aW ..,_=>by simp [AV.c6,AV.mlt]
 | .own ..,_=>by simp [AV.c6,AV.mlt]
 | .full _,_=>by simp [AV.c6,AV.mlt]
 | .row ..,_=>by simp [AV.c6,AV.mlt]
 | .mp _,_=>by simp [AV.c6,AV.mlt]
 | .c7 _,_=>by simp [AV.c6,AV.mlt]
 | .hid _,_=>by simp [AV.c6,AV.mlt]
 | .dead,_=>by simp [AV.c6,AV.mlt]
theorem po{b kk:Nat}{xs:agU (agU D)}:∀l:agU AV,(∀q∈AV.kX b l,q=(0,xs.length,xs.length,kk))→AV.m4 b kk xs l=AV.jA b xs l
 |[],_=>by simp [AV.m4,AV.jA]
 |x::l,h=>by
  unfold AV.kX at h;unfold AV.m4 AV.jA;rw[IF x fun q hq=>h q (List.mem_append_left _ hq),po l fun q hq=>h q (List.mem_append_right _ hq)]
end
inductive jR(b L kk:Nat)(xs:List (List D)):List an→List an→Prop
 |nil:jR b L kk xs [] []
 |cells {cs bV:List AV} {l l':List an} (c:Nat) (h:AV.kX b cs=List.replicate c (0,L,L,kk)) (e:AV.jA b xs cs=bV) (t:jR b L kk xs l l'):jR b L kk xs (.cells cs::l) (.cells bV::l')
 |dat {e k:Nat} {ys:List (List D)} {l l':List an} (t:jR b L kk xs l l'):jR b L kk xs (.vec e k (aI ys)::l) (.vec e k (aI ys)::l')
 |row {e k i:Nat} {ys:List (List D)} {cs bV:List AV} {l l':List an} (c:Nat) (h:AV.kX b cs=List.replicate c (0,L,L,kk)) (e1:AV.jA b xs cs=bV) (t:jR b L kk xs l l'):jR b L kk xs (.vec e k ((aI ys).set i cs)::l) (.vec e k ((aI ys).set i bV)::l')
 |front {e k n:Nat} {l l':List an} (t:jR b L kk xs l l'):jR b L kk xs (.front e k n::l) (.front e k n::l')
 |map {kv:List (ByteArray×D)} {l l':List an} (t:jR b L kk xs l l'):jR b L kk xs (.map kv::l) (.map kv::l')
 |gone {l l':List an} (t:jR b L kk xs l l'):jR b L kk xs (.gone::l) (.gone::l')
theorem wN{c L kk:Nat}{xs:agU (agU D)}(hL:xs.length=L){l:agU (Nat×Nat×Nat×Nat)}(h:l=List.replicate c (0,L,L,kk)):∀q∈l,q=(0,xs.length,xs.length,kk):=fun q hq=>by
 rw[h,List.mem_replicate]at hq;rw[hq.2,hL]
theorem jR.eq{b L kk:Nat}{xs:agU (agU D)}(hL:xs.length=L){l l':agU an}(h:jR b L kk xs l l'):l'=l.map (an.gZ (AV.c6 b kk xs)):=by
 have hd:∀d,AV.c6 b kk xs (.d d)= .d d:=fun d=>by simp [AV.c6]
 induction h with
 |nil=>rfl
 |cells c h e t ih=>rw[agv,←ih,←e];simp only[an.gZ];rw[←nX,po _ (wN hL h)]
 |dat t ih=>rw[agv,←ih];simp only[an.gZ];rw[sP hd]
 |row c h e1 t ih=>rw[agv,←ih,←e1];simp only[an.gZ];rw[List.map_set,sP hd,←nX,po _ (wN hL h)]
 |front t ih=>rw[agv,←ih];rfl
 |map t ih=>rw[agv,←ih];rfl
 |gone t ih=>rw[agv,←ih];rfl
theorem Vp{P:agX}{r:agW Nat}{N0:Nat}{c:Code}{s:St}{Q:Exit→St→Prop}(live:agU Nat)(b:Nat)(xs:agU (agU D)){e k L:Nat}(h':agU an)(c1:Nat)(hb:s.h[b]?=some (.vec e k (aI xs)))(eZ:∀c∈xs,c.all D.lY=true)(hL:xs.length=L)
 (ho:(live.flatMap fun i=>(bm s.t i).j5 b)=List.replicate c1 (0,L,L,k)) (hh:jR b L k xs s.h h') (K:bB P r N0 c Q ⟨s.n,live.map (fun i=>(i,(bm s.t i).mlt b xs)),h'.set b .gone⟩):bB P r N0 c Q s:=by
 constructor
 intro G w a n hs hN;obtain⟨G',hE,e1,cy⟩:=hs.LW xs hb eZ;refine wpIn_mono (K.run G' w a n (cy.less rfl (by rw[hh.eq hL]) fun i=> ?_) (by rw[e1];exact hN)) fun _ _ _ hn=>hn.trans (hE.less hN);show bm (live.map (fun i=>(i,(bm s.t i).mlt b xs))) i=bm (s.t.map fun p=>(p.1,p.2.c6 b k xs)) i∨_;rw[mS (fun k=>(bm s.t k).mlt b xs),s6 (AV.c6 b k xs) (by simp [AV.c6])];split
 ·next hi=>
  left
  refine(IF _ fun q hq=>wN hL ho q ?_).symm;exact List.mem_flatMap.2 ⟨i,hi,hq⟩
 ·exact .inr rfl
theorem RN{G:Gh}{w:agZ}{h:agU an}(hi:bO G w h)(e k:Nat):bK G.N G w (G.er (.slice none 0 0) 0 none) w∧G.N≤(G.er (.slice none 0 0) 0 none).N∧bO (G.er (.slice none 0 0) 0 none) w (h++[.vec e k []])∧aE (G.er (.slice none 0 0) 0 none) w (.slice none 0 0) (.vec h.length 0 0 0 k):=by
 obtain⟨a1,a2⟩:=Il (w':=w) hi (.vec e k []) (fun _ _=>rfl) (.slice none 0 0) 0 none ⟨fun _ _=>rfl,agh _,rfl,rfl,rfl⟩ (fun _ h=>by cases h)
  ⟨by simp [Gh.er],Nat.zero_le _,fun c hc=>absurd hc agM, .inl ⟨by simp [Gh.er],rfl,none,by simp [Gh.er]⟩⟩
 refine⟨a1,Nat.le_succ _,a2, .vec _ 0 0 0 k (by rw[hi.len];exact agS _) ⟨none,0,0,rfl⟩ (Nat.zero_le _) fun _=>⟨agh _,⟨none,0,rfl,agh _,Nat.zero_le _,agh _,fun h=>absurd h (agK _)⟩,fun _ _=> ?_⟩⟩;simp [Gh.er,hi.len]
section
variable {P:agX} {r:agW Nat} {N0:Nat} {s:St} {Q:Exit→St→Prop} {c:Code}
theorem KW(t e k:Nat)(hx:bm s.t t= .d (.v (.slice none 0 0)))(h:bB P r N0 c Q ⟨s.n,(t, .vec s.h.length 0 0 0 k)::s.t,s.h++[.vec e k []]⟩):bB P r N0 c Q s:=by
 constructor
 intro G w a n hs hN;obtain⟨a1,a2,a3,a4⟩:=RN hs.inv e k;have hv:=hs.tmp t;rw[hx]at hv;have hv:=hv.val;have cy:cT (G.er (.slice none 0 0) 0 none) w a ⟨s.n,(t, .vec s.h.length 0 0 0 k)::s.t,s.h++[.vec e k []]⟩:=by
  refine⟨hs.size,fun i=> ?_,a3,hs.df.keep a1⟩;show aE _ _ _ (bm ((t, .vec s.h.length 0 0 0 k)::s.t) i);rw[kL];split
  ·next e=>exact e▸hv▸a4
  ·exact(hs.tmp i).keep a1 a2
 exact wpIn_mono (h.run _ w a n cy (ago hN a2)) fun _ _ _ hn=>hn.trans (a1.less hN)
theorem N8(b i e k:Nat){cs:agU AV}(hb:s.h[b]?=some (.cells cs))(hx:cs[i]?=some (.d (.v (.slice none 0 0))))
 (h:bB P r N0 c Q ⟨s.n,s.t,(s.h++[an.vec e k []]).set b (an.cells (cs.set i (AV.vec s.h.length 0 0 0 k)))⟩):bB P r N0 c Q s:=by
 constructor
 intro G w a n hs hN;obtain⟨h1,h2,vs,T,h3,h4,h5⟩:=hs.inv.dh _ _ hb;have hi:i<cs.length:=(af5.1 hx).1;have hv:vs[i]?=some vs[i]:=ags (by omega);have mY:=(h5 i _ _ hv hx).val;obtain⟨a1,a2,a3,a4⟩:=RN hs.inv e k;have aN:=(af5.1 hb).1;have cy:cT (G.er (.slice none 0 0) 0 none) w a ⟨s.n,s.t,(s.h++[an.vec e k []]).set b (an.cells (cs.set i (AV.vec s.h.length 0 0 0 k)))⟩:=by
  refine⟨hs.size,fun j=>(hs.tmp j).keep a1 a2,IC a3 (by rw[agf aN];exact hb) (by rw[List.length_set]) fun ft T' rG j u c hu hc=> ?_,hs.df.keep a1⟩;have e1:(G.er (.slice none 0 0) 0 none).bg b=G.bg b:=rfl;rw[e1,h3]at rG;cases rG
  by_cases e2:i=j
  ·subst e2;rw[agz hi]at hc;cases hc
   rw[hv]at hu;cases hu
   rw[mY];exact a4
  ·rw[agE e2]at hc;exact(h5 j u c hu hc).keep a1 a2
 exact wpIn_mono (h.run _ w a n cy (ago hN a2)) fun _ _ _ hn=>hn.trans (a1.less hN)
theorem Tk(b:Nat)(h:bB P r N0 c Q ⟨s.n,s.t,s.h.set b .gone⟩):bB P r N0 c Q s:=by
 constructor
 intro G w a n hs hN;have hi:=hs.inv;have dL:∀n x,bR (s.h.set b .gone) G n=some x→bR s.h G n=some x:=fun n x hx=>by
  obtain⟨B,hB,h1⟩:=j7 hx;by_cases e:b=n
  ·subst e;have aN:=(af5.1 hB).1;rw[List.length_set]at aN;rw[agz aN]at hB;cases hB;cases h1
  ·rw[agE e]at hB;rw[dC hB];exact h1
 refine h.run G w a n ⟨hs.size,hs.tmp,⟨by rw[List.length_set];exact hi.len,hi.z,hi.S,fun n B hB=> ?_,fun m n x h1 h2=>hi.inj m n x (dL m x h1) (dL n x h2),hi.gl⟩,hs.df⟩ hN;by_cases e:b=n
 ·subst e;have aN:=(af5.1 hB).1;rw[List.length_set]at aN;rw[agz aN]at hB;cases hB;trivial
 ·rw[agE e]at hB;exact hi.dh n B hB
end
theorem jQ{α:Type}{f:α→agU D}{E:agU α}{L:Nat}(h:E.length=L):(aI (E.map f)).length=L:=by rw[mf,aga,h]
theorem oV{cs:agU (agU AV)}{z:Int}{L i:Nat}(h:cs.length=L)(h0:0≤z)(h1:z<(L:Int))(h2:z.toNat=i):cs.length=L∧0≤z∧z<(L:Int)∧i=0+z.toNat:=⟨h,h0,h1,by rw[h2,agq]⟩
theorem KE{α:Type}{f:α→agU D}{E:agU α}{L i:Nat}{x:α}(h:E.length=L)(hx:E[i]?=some x):(aI (E.map f)).length=L∧(aI (E.map f))[i]?=some ((f x).map .d):=⟨jQ h,xS (by rw[agc,hx];rfl)⟩
theorem Ep{α:Type}{f:α→agU D}{E:agU α}{L i j:Nat}{x y:α}{zs:agU AV}(h:E.length=L)(hx:E[i]?=some x)(hy:(f y).map AV.d=gq ((f x).map .d) j zs):(aI (E.map f)).length=L∧(aI (E.map f))[i]?=some ((f x).map .d)∧aI ((E.set i y).map f)=(aI (E.map f)).set i (gq ((f x).map .d) j zs):=
 ⟨jQ h,xS (by rw[agc,hx];rfl),by rw[List.map_set,R1,hy]⟩
theorem Im{α:Type}{f:α→agU D}{E ys:agU α}{h:agU an}{k L fQ L' dc:Nat}{y:AV}(hE:E.length=L)(hy:y.fw=some (ys.map f))(hk:∀c∈ys.map f,c.length=k)(hn:ys.length=fQ)(hL:L+ys.length=L')(hm:L'≤maxLen)(hb:L'*dc≤140737488355328):
 (aI (E.map f)).length=L∧x7 h k y (aI (ys.map f))∧L'=L+(aI (ys.map f)).length∧((0+L+(aI (ys.map f)).length≤L∧L'=L∧aI ((E++ys).map f)=(aI (E.map f)).take (0+L)++aI (ys.map f)++(aI (E.map f)).drop (0+L+(aI (ys.map f)).length))∨(0=0∧L=L∧L'=L+(aI (ys.map f)).length∧aI ((E++ys).map f)=aI (E.map f)++aI (ys.map f)∧L'≤maxLen∧L'*dc≤140737488355328)):=by
 have hl:(aI (ys.map f)).length=ys.length:=by rw[mf,aga]
 refine⟨jQ hE, .inl ⟨_,hy,hk,rfl⟩,by rw[hl,hL], .inr ⟨rfl,rfl,by rw[hl,hL],by rw[List.map_append,aaH],hm,hb⟩⟩
theorem Hi{xs:agU (agU D)}{h:agU an}{k dc:Nat}{y:AV}(hk:∀c∈xs,c.length=k)(hy:y.fw=some xs)(hm:xs.length≤maxLen)(hb:xs.length*dc≤140737488355328):
 ([]:agU (agU D))=[]∧x7 h k y (aI xs)∧aI xs=aI xs∧xs.length=(aI xs).length∧xs.length=(aI xs).length∧xs.length≤maxLen∧xs.length*dc≤140737488355328:=⟨rfl, .inl ⟨xs,hy,hk,rfl⟩,rfl,(mf xs).symm,(mf xs).symm,hm,hb⟩
theorem abF{α:Type}{f:α→agU D}{E:agU α}{L i:Nat}{x:α}(r:agU AV)(h:E.length=L)(hx:E[i]?=some x):((aI (E.map f)).set i r).length=L∧((aI (E.map f)).set i r)[i]?=some r:=
 ⟨by rw[List.length_set];exact jQ h,by rw[agz (by rw[jQ rfl];exact(af5.1 hx).1)]⟩
theorem aaS{α:Type}{f:α→agU D}{E:agU α}{L i:Nat}{r:agU AV}(h:E.length=L):((aI (E.map f)).set i r).length=L:=by rw[List.length_set];exact jQ h
theorem adU{α:Type}{f:α→agU D}{E:agU α}{L i j:Nat}{x:α}{zs r:agU AV}(h:E.length=L)(hx:E[i]?=some x)(hy:r=gq ((f x).map .d) j zs):(aI (E.map f)).length=L∧(aI (E.map f))[i]?=some ((f x).map .d)∧(aI (E.map f)).set i r=(aI (E.map f)).set i (gq ((f x).map .d) j zs):=
 ⟨jQ h,xS (by rw[agc,hx];rfl),by rw[hy]⟩
theorem aaZ{α:Type}{f:α→agU D}{E:agU α}{i:Nat}{y:α}{r:agU AV}(hy:(f y).map AV.d=r):(aI (E.map f)).set i r=aI ((E.set i y).map f):=by rw[←hy,List.map_set,R1]
theorem KG{P:agX}{r:agW Nat}{N0:Nat}{c:Code}{s:St}{Q:Exit→St→Prop}(live:agU Nat)(b:Nat)(xs ys:agU (agU D)){e k L:Nat}(h':agU an)(c1:Nat)(hb:s.h[b]?=some (.vec e k (aI xs)))(eZ:∀c∈xs,c.all D.lY=true)(hL:xs.length=L)(hy:ys=xs)
 (ho:(live.flatMap fun i=>(bm s.t i).j5 b)=List.replicate c1 (0,L,L,k)) (hh:jR b L k ys s.h h') (K:bB P r N0 c Q ⟨s.n,live.map (fun i=>(i,(bm s.t i).mlt b ys)),h'.set b .gone⟩):bB P r N0 c Q s:=by
 subst hy;exact Vp live b _ h' c1 hb eZ hL ho hh K
theorem qt{α:Type}{f:α→agU D}(hf:∀x,(f x).all D.lY=true)(E:agU α):∀c∈E.map f,c.all D.lY=true:=fun c hc=>by
 obtain⟨x,_,rfl⟩:=List.mem_map.1 hc;exact hf x
theorem rR{α:Type}{f:α→agU D}{E:agU α}{L:Nat}(h:E.length=L):(E.map f).length=L:=by rw[aga,h]
theorem RD{α:Type}{E:agU α}{i:Nat}{x y:α}(h:E[i]?=some x):(E.set i y)[i]?=some y:=by
 rw[agz (af5.1 h).1]
def Ib(o:Oper):Bool:=
 match o.op with
 | .call c=>match c.callee with
   | .value _=>false
   |_=>true
 |_=>true
def RL:b5→Bool
 | .va _=>true
 |_=>false
def Dr(o:Oper)(a:b5):Bool:=mw true o||(Ib o&&(iW o|| !RL a))
def Ee(as:agU (Nat×b5)):Nat→agU Oper→Bool
 |_,[]=>true
 |j,o::l=>Dr o (iq as (3*j+1))&&Ee as (j+1) l
section
variable {P:agX} {ops:Array Oper} {o:Oper} {j:Nat} {as:agU (Nat×b5)} {s s1:St} {l:agU (In×b5)} {K:St→Prop}
theorem Y9(hn:Ib o=true)(h:nH P o K s):wV P o K s:=by
 unfold wV;unfold Ib at hn;split
 ·next c gh=>
  rw[gh]at hn;split
  ·next f hc=>simp only[hc]at hn;cases hn
  ·exact h
 ·exact h
theorem TF(h:n9 P false o j as s=some (s1,l))(b7:gF P l)(hK:K s1)(hL:Dr o (iq as (3*j+1))=true):wT true P o K s:=by
 unfold n9 at h;simp only[Bool.false_and,cond_false]at h;split at h
 ·next x h' i hr=>
  have fin:OK P i (iq as (3*j+1))→K ((s.wh h').put o.dst x)→wT true P o K s:=fun h1 h2=>by
   unfold Dr at hL;rw[Bool.or_eq_true]at hL;unfold Fp at hr;split at hr
   ·next va e=>
    simp only[Bool.false_and,cond_false]at hr;split at hr
    ·next x2 TZ p e2=>
     cases hr
     rcases hL with hL|hL
     ·exfalso;rw[e]at h1;unfold mw at hL;simp only[Bool.true_and]at hL;split at hL
      ·next c gh=>
       split at hL
       ·next t hc=>
        rw[gh]at e2;unfold gW at e2;simp only[hc]at e2;cases e2
       ·cases hL
      ·cases hL
     ·rw[e]at h1 hL;simp only[RL,Bool.not_true,Bool.or_false,af7]at hL;cases h1 with|pr _ hp=>exact .inr (.inr (.inl ⟨hL.2,va,x,h',p,e2,hp,h2⟩))
    ·cases hr
   ·rcases hL with hL|hL
    ·exact .inr (.inl ⟨hL,x,h',h2,fun C hC=>xT hr h1 hC⟩)
    ·rw[af7]at hL;exact .inl (Y9 hL.1 (xT (C:=fun x h'=>K ((s.wh h').put o.dst x)) hr h1 h2))
  split at h
  ·next y hy=>
   obtain⟨m,e,h2,h3⟩:=CU h b7;cases e
   have:=h2 (.eq x, .eq y) agb;cases this with|eq e=>subst e;exact fin h3 hK
  ·obtain⟨m,e,h2,h3⟩:=CU h b7;cases e
   exact fin h3 hK
 ·cases h
theorem ac4(h:ml P ops false o j as s=some (s1,l))(b7:gF P l)(hK:K s1)(hL:Dr o (iq as (3*j+1))=true):iw ops o s (wT true P o K s) (K (s.put o.dst (.d (.v undef)))):=by
 unfold ml at h;split at h
 ·next hg=>unfold iw;rw[hg];exact TF h b7 hK hL
 ·next g want hg=>
  obtain⟨dst,op,ty,pos,after,guard⟩:=o;simp only at hg;subst hg;split at h
  ·next b hb=>
   obtain⟨n,e,h2,h3⟩:=vB h b7;have h4:=OK.Dh (h3 (_,_) agb);rw[Dj,h4];refine⟨fun e2=> ?_,fun e2=> ?_⟩
   ·subst e2;simp only[BEq.rfl,cond_true]at e;exact TF e h2 hK hL
   ·subst e2;have:((!want)==want)=false:=by cases want<;>rfl
    rw[this]at e;simp only[cond_false]at e;cases e
    exact hK
  ·next hb=>
   obtain⟨n,e,h2,h3⟩:=vB h b7;cases e
   have h4:=h3 (_,_) agb;have h5:sf ops g s.t= .d (.v undef):=by
    generalize sf ops g s.t=z at h4;cases h4;rfl
   rw[Dj,h5];exact hK
  ·cases h
theorem PD:∀(ol:agU Oper)(j:Nat)(s:St)(l:agU (In×b5)),lW P ops false ol j as s=some (s1,l)→gF P l→Ee as j ol=true→K s1→sc true P ops ol K s
 |[],_,s,l,h,_,_,hK=>by cases h;exact hK
 |o::rest,j,s,l,h,b7,hL,hK=>by
  unfold Ee at hL;rw[af7]at hL;unfold lW at h;split at h
  ·next s2 m hg=>
   obtain⟨n,e,h2,h3⟩:=vB h b7;exact ac4 (K:=sc true P ops rest K) hg h3 (PD rest (j+1) s2 n e h2 hL.2 hK) hL.1
  ·cases h
theorem MF:∀(ol pre:agU Oper),p5 (pre++ol).toArray ((List.range ol.length).map (pre.length+·))=ol
 |[],_=>rfl
 |o::l,pre=>by
  rw[af8,List.range_succ_eq_map,agv,List.map_map];unfold p5;have h1:(pre++o::l).toArray[pre.length+0]?=some o:=by simp
  rw[h1];simp only;have h2:=MF l (pre++[o]);rw[agn]at h2;simp only[List.singleton_append,af6,af8,agi,agq]at h2
  congr 1
  rw[show(pre.length+·)∘Nat.succ=(pre.length+1+·)from by funext i;simp only[Function.comp];omega];exact h2
theorem Ym(ol:agU Oper):p5 ol.toArray (List.range ol.length)=ol:=by
 have:=MF ol []
 simpa using this
end
section
variable {P:agX} {r:agW Nat} {N0 id n:Nat} {ol:agU Oper} {y:Code} {t:agU (Nat×AV)} {h:agU an} {Q Q':Exit→St→Prop}
end
section
variable {P:agX} {r:agW Nat} {N0:Nat} {Q:Exit→St→Prop} {c:Code} {o:Oper} {K:St→Prop}
theorem F0{n d:Nat}{t:agU (Nat×AV)}{h h':agU an}{x:AV}(hx:vK P o.op (ev ⟨n,t,h⟩) h=some (x,h'))(hd:o.dst=some d)(hn:Nat.ble n d=false)(hK:K ⟨n,(d,x)::t,h'⟩):lS P o K ⟨n,t,h⟩:=by
 refine .inr (.inr (.inr (.inr ⟨x,h',hx,?_⟩)));have aN:d<n:=Nat.lt_of_not_le fun hle=>by rw[Nat.ble_eq_true_of_le hle]at hn;cases hn
 rw[hd,oC (s:=St.wh ⟨n,t,h⟩ h') aN];exact hK
theorem Ww{n d:Nat}{t:agU (Nat×AV)}{h h':agU an}{x:AV}{p:Prop}(a:VA)(hx:gW P o.op (ev ⟨n,t,h⟩) h a=some (x,h',p))(hp:p)(hd:o.dst=some d)(hn:Nat.ble n d=false)(hK:K ⟨n,(d,x)::t,h'⟩):lS P o K ⟨n,t,h⟩:=by
 refine .inl ⟨a,x,h',p,hx,hp,?_⟩;have aN:d<n:=Nat.lt_of_not_le fun hle=>by rw[Nat.ble_eq_true_of_le hle]at hn;cases hn
 rw[hd,oC (s:=St.wh ⟨n,t,h⟩ h') aN];exact hK
theorem afb{ρ:Operand→AV}{h:agU an}{q:Call}{x y:Operand}{T U:TypeId}{e k m dc:Nat}{kq kn:IntKind}{z:agY}(hc:q.callee= .builtin .append)(h1:q.args.toList=[x,y])(h2:q.argTypes.toList=[T,U])(hx:(ρ x).isNil=true)(hT:ej P T=some (e,k))(hU:nC P U=some kn)(hy:ρ y= .d (.v (.int kq (Int.ofNat m))))(hz:zeroT P e=some z)(hb:oA P e=some dc)(g1:1≤m)(g2:1≤k)(g3:z.cells.toList.length=k)(g4:m≤maxLen)(g5:m*dc≤140737488355328):
 vK P (.call q) ρ h=some (.vec h.length 0 m m k,h++[.vec e k (List.replicate m (z.cells.toList.map fun u=> .d (.v u)))]):=by
 unfold vK;simp only[hc,h1,h2,hT,hU,hy,hz,hb,hx,dA.2 g1,dA.2 g2,dA.2 g4,dA.2 g5,g3,agP,Bool.and_self,cond_true]
theorem Ye{n t e k L:Nat}{ts:agU (Nat×AV)}{cs:agU (agU AV)}(cA:N0=0)(ht:bm ts t= .vec 0 0 0 L k)(hL:cs.length=L)(h:bB P r N0 c Q ⟨n,[(t, .own 0 [])],[.front e k 0]⟩):bB P r N0 c Q ⟨n,ts,[.vec e k cs]⟩:=by
 subst cA;constructor
 intro G w a m hs hN;have hi:=hs.inv;have mA:([an.vec e k cs]:agU an)[0]?=some (.vec e k cs):=rfl;have hGN:G.N=1:=hi.len.symm;have hv:=hs.tmp t;rw[ht]at hv;obtain⟨qU,⟨A,cc,q1,q2,q3,q4,q5⟩,RG⟩:=hv.nJ hi mA hL;obtain⟨b1,b2,b3,b4⟩:=hi.dh 0 _ mA;have hp0:∀(A:agW Addr),cc≤maxLen→dq G.S w (.slice A 0 cc) (.sl []):=fun A hc=> .sl A 0 0 cc 0 [] (fun _ _=>undef) (fun h=>absurd rfl h) (Nat.zero_le _) hc (fun _ h=>absurd h agM) (fun i j hi=>absurd hi (agy _)) (fun i j x d hx=>by simp at hx);obtain⟨G',fB⟩:∃G',G'={G with sg:=fun i=>if i=0 then a.tmps.getD t undef else G.sg i,fl:=fun i=>if i=0 then 0 else G.fl i}:=⟨_,rfl⟩;have hE:bK 0 G w G' w:=by
  subst fB;exact⟨agh _,fun _ _ h=>h,fun _ _ _=>rfl,fun _ h=>absurd h (agy _),fun _ h=>absurd h (agy _),fM rfl,fun _ _=>rfl,rfl,rfl,rfl,fun _ _ h=> .inl h⟩
 have hinv:bO G' w [.front e k 0]:=by
  refine⟨by rw[fB];exact hi.len,by rw[fB];exact hi.z,by rw[fB];exact hi.S,fun j B hB=> ?_,fun i j x h1 h2=> ?_,by rw[fB];exact hi.gl⟩
  ·match j with
   |0=>
    cases hB
    refine⟨by rw[fB];simp,Nat.zero_le _,?_⟩;rcases b4 with⟨d1,d2,A',d3⟩|⟨g,cap,cur,d1,d2,d3,d4,d5,d6,d7,d8,d9⟩
    ·left
     refine⟨by rw[fB];exact d1,?_⟩;have uJ:L=0:=by rw[←hL,d2];rfl
     have:=RG rfl uJ.symm;rw[fB];exact⟨A',by simp only[if_true];rw[this];exact d3⟩
    ·by_cases uJ:L=0
     ·have:=RG rfl uJ.symm
      right
      refine⟨g,cap,cur,by rw[fB];exact d1,?_,by rw[fB];exact d3,d4,Nat.zero_le _,d6,d7,fun o _=>by rw[fB];exact d8 o⟩;rw[fB];simp only[if_true];rw[this,d2,hL,uJ]
     ·obtain⟨g',sU,s1,rfl,s3⟩:=q5 (Nat.pos_of_ne_zero uJ);rw[d2]at s1;cases s1
      right
      have:cc=cap:=by omega
      subst this;refine⟨g,cc,cur,by rw[fB];exact d1,?_,by rw[fB];exact d3,d4,Nat.zero_le _,d6,d7,fun o _=>by rw[fB];exact d8 o⟩;rw[fB];simp only[if_true];rw[q1,Nat.zero_mul]
   |j+1=>simp at hB
  ·have hj:∀i x,bR [an.front e k 0] G' i=some x→i=0:=fun i x h=>by
    obtain⟨B,hB,_⟩:=j7 h
    match i with
    |0=>rfl
    |i+1=>simp at hB
   rw[hj i x h1,hj j x h2]
 refine wpIn_mono (h.run G' w a m ⟨hs.size,fun i=> ?_,hinv,?_⟩ (Nat.zero_le _)) fun _ _ _ hn=>hn.trans hE
 ·show aE G' w _ (bm [(t, .own 0 [])] i);rw[kL];split
  ·next e=>
   subst e;refine .own 0 [] (by rw[fB];show 0<G.N;omega) ?_ (Nat.zero_le _) (fun _=>by rw[fB];simp);rw[q1,fB];exact hp0 A q3
  ·exact .dead _
 ·have:=hs.df;rw[fB];exact this
end
end Go.Proofs.YtphmhnabilhbgaaGreatDoor
namespace Go.Proofs.YtphmhnabilhbgaaGreatDoor.MK
open Go.RowKit
set_option linter.unusedVariables false
def an(w:agZ)(g:Nat)(t:TypeId)(cs:agU agY):Prop:=w.heap[g]?=some (.cells cs.toArray t (0,0))
section
variable {w w':agZ} {g:Nat} {t:TypeId} {cs:agU agY}
theorem an.cell(h:an w g t cs)(i:Nat):w.cell? ⟨g,i,none⟩=cs[i]?:=by
 rw[cell_of_row w g i cs.toArray t (0,0) h];simp
theorem an.drew(h:an w g t cs):an w.drew g t cs:=h
theorem an.setRow(h:an w g t cs)(bV:agU agY):an (w.setRow g bV.toArray) g t bV:=setRow_heap w g _ _ t _ h
end
section
variable {P:agX} (w:agZ)
theorem X3(t ty e:TypeId)(k:Nat)(ht:P.underlying t=some (.slice e))(hs:(P.info? e).map (·.size)=some k)
 (g n cap:Nat) (cur:agU agY) (hg:an w g e cur)
 (ad:Addr) (m c:Nat) (news:agU agY) (hl:news.length=m*k) (mi:∀j u,news[j]?=some u→w.cell? (ad.add j)=some u) (h1:∀u∈news,u.oneCell'=true)
 (l0:n+m≤cap) (jd:n*k+news.length≤cur.length):
 (Builtin.append_ #[t,t] ty #[.slice (some ⟨g,0,none⟩) n cap, .slice (some ad) m c]).run P w=
  .ok (.slice (some ⟨g,0,none⟩) (n+m) cap) (w.setRow g (Go.splice cur (n*k) news).toArray):=by
 cases hq:P.info? e with
 |none=>simp [hq]at hs
 |some i=>
  have hi:i.size=k:=by simpa [hq]using hs
  subst hi;rw[run_append_room (P:=P) w t ty e i ht hq g n cap cur.toArray hg ad m c news hl mi h1 l0 (by simpa using jd)];simp [Go.splice]
theorem WX(t e:TypeId)(k:Nat)(z:agY)(ht:P.underlying t=some (.slice e))(hv:∀w,(zeroValue e).run P w= .ok z w)(hk:z.cells.size=k)(hz1:∀v∈z.cells.toList,v.oneCell'=true)
 (g off n:Nat) (cur:agU agY) (te:TypeId) (hg:an w g te cur) (hn:0<n) (jd:off+n*k≤cur.length):
 ∃zs:agU agY,zs.length=n*k∧∀ty c,(Builtin.clear_ #[t] ty #[.slice (some ⟨g,off,none⟩) n c]).run P w= .ok (.tuple #[]) (w.setRow g (Go.splice cur off zs).toArray):=by
 subst hk;refine⟨(Builtin.zeroCells z.cells n).toList,by simp [Builtin.zeroCells],fun ty c=> ?_⟩;have hlen:(Builtin.zeroCells z.cells n).toList.length=n*z.cells.size:=by simp [Builtin.zeroCells]
 have h1:∀v∈(Builtin.zeroCells z.cells n).toList,v.oneCell'=true:=by
  intro v hv;rw[Array.mem_toList_iff]at hv;simp only[Builtin.zeroCells,Array.mem_map,Array.mem_range]at hv;obtain⟨i,hi,rfl⟩:=hv;have hp:0<z.cells.size:=by
   rcases Nat.eq_zero_or_pos z.cells.size with h0|h0
   ·rw[h0]at hi;omega
   ·exact h0
  have aN:=Nat.mod_lt i hp;rw[getElem!_pos z.cells (i%z.cells.size) aN];exact hz1 _ (by simp)
 have jm:=run_storeCells_at P g off te (Builtin.zeroCells z.cells n).toList 0 cur.toArray w hg (by rw[hlen];simpa using jd) h1;simp only[Nat.add_zero]at jm;obtain⟨m,rfl⟩:∃m,n=m+1:=⟨n-1,by omega⟩;simp only[Builtin.clear_];simp [run_underlying ht,hv,jm,Go.splice]
end
section
variable {P:agX} {w:agZ}
theorem aeH{ops:Array Oper}{rest:agU Oper}{o:Oper}{a:Act}{Q:Exit→Act→agZ→Prop}(CE:o.guard=none)(d:Operand)(t:TypeId)
 (ho:o.op= .call {callee:= .builtin .clear,args:= #[d],argTypes:= #[t]}) (v:agY) (hd:a.eval d=v) {v':agY} {w':agZ}
 (hr:(Builtin.clear_ #[t] o.type #[v]).run P w= .ok v' w') (h:wpList P ops Q rest (a.put o.dst v') w'):wpList P ops Q (o::rest) a w:=
 wpList_plain CE fun _ hK=>by
  unfold Oper.wp execOp;simp only[ho,resolve,invoke,builtin,Sem.run_bind,Sem.run_pure,Result.andThen_ok,List.map_toArray,agv,List.map_nil,hd,hr];exact hK _ _ h
theorem adJ{ops:Array Oper}{o:Oper}{a:Act}{K:Act→agZ→Prop}{Q:Exit→Act→agZ→Prop}{E:Prop}(CE:o.guard=none)(d s:Operand)(t t':TypeId)
 (ho:o.op= .call {callee:= .builtin .append,args:= #[d,s],argTypes:= #[t,t']}) (v u:agY) (hd:a.eval d=v) (hs:a.eval s=u) {v':agY} {w':agZ}
 (hr:(Builtin.append_ #[t,t'] o.type #[v,u]).run P w= .ok v' w') (hK:K (a.put o.dst v') w'):if Region.wanted o (yielded ops a.tmps)=true then Oper.wp P o a w K Q else E:=by
 have hw:Region.wanted o (yielded ops a.tmps)=true:=by simp [Region.wanted,CE]
 rw[if_pos hw];unfold Oper.wp execOp;simp only[ho,resolve,invoke,builtin,Sem.run_bind,Sem.run_pure,Result.andThen_ok,List.map_toArray,agv,List.map_nil,hd,hs,hr];exact hK
end
section
variable {S E base:Nat} {w w' w'':agZ}
end
end Go.Proofs.YtphmhnabilhbgaaGreatDoor.MK
namespace Go.Proofs.YtphmhnabilhbgaaGreatDoor
open Go.RowKit
set_option linter.unusedSimpArgs false
set_option linter.unusedVariables false
theorem adV{α:Type}(cur n z:agU α)(a:Nat)(h:a+n.length+z.length≤cur.length):Go.splice (Go.splice cur a n) (a+n.length) z=cur.take a++(n++z)++cur.drop (a+(n++z).length):=by
 unfold Go.splice;have l1:(cur.take a).length=a:=by rw[List.length_take];omega
 have e1:(cur.take a++(n++cur.drop (a+n.length))).take (a+n.length)=cur.take a++n:=by
  rw[←agn,List.take_append_of_le_length (by rw[af6,l1];exact agh _),List.take_of_length_le (by rw[af6,l1];exact agh _)]
 have e2:(cur.take a++(n++cur.drop (a+n.length))).drop (a+n.length+z.length)=cur.drop (a+(n++z).length):=by
  rw[←agn,List.drop_append,List.drop_eq_nil_of_le (by rw[af6,l1];omega),List.nil_append,af6,l1,List.drop_drop,af6]
  congr 1;omega
 rw[e1,e2];simp [agn]
section
variable {P:agX}
theorem bO.ZG{G:Gh}{w:agZ}{h:agU an}(hi:bO G w h):bK G.N G w G w.drew∧bO G w.drew h:=by
 have hE:bK G.N G w G w.drew:=⟨agh _,fun _ _ h=>h,fun _ _ _=>rfl,fun _ _=>rfl,fun _ _=> .inl ⟨rfl,rfl⟩,fM rfl,fun _ _=>rfl,rfl,rfl,rfl,fun _ _ h=> .inl h⟩;refine⟨hE,hi.len,hi.z,hi.S,fun n B hB=> ?_,hi.inj,hi.gl.keep hE⟩;exact dY.keep (hi.lt hB) hE (agh _) ⟨rfl,rfl,rfl⟩ (fun c hc=>⟨rfl,fun o h=>h⟩) (hi.dh n B hB)
theorem Zm{f:FuncId}{E K:Nat}(BH:Cx P f=true)(hK:0<K)
 (jX:∀(g n cap i j:Nat)(cur:agU agY)(w:agZ),w.heap[g]?=some (.cells cur.toArray E (0,0))→cur.length=cap*K→i<j→j≤n→n≤cap→cap≤maxLen→(∀u∈cur.take (n*K),u.oneCell'=true)→
  Calls P f #[.slice (some ⟨g,0,none⟩) n cap, .int .i64 i, .int .i64 j] w fun e w'=>∃zs:agU agY,zs.length=(j-i)*K∧e= .returned (.slice (some ⟨g,0,none⟩) (n-(j-i)) cap)∧w'=w.drew.setRow g (Go.splice (Go.splice cur (i*K) ((cur.take (n*K)).drop (j*K))) ((n-(j-i))*K) zs).toArray)
 {xs:agU (agU D)} {i L:Nat} (hi:i<L) (hL:xs.length=L) (eZ:∀c∈xs,c.all D.lY=true):
 bD P f [.vec 0 0 L L K, .d (.v (.int .i64 (i:Int))), .d (.v (.int .i64 ((i+1:Nat):Int)))] [.vec E K (aI xs)] fun r1 h1=>r1= .vec 0 0 (L-1) L K∧h1=[.vec E K (aI (xs.take i++xs.drop (i+1))++[List.replicate K .dead])]:=by
 refine⟨BH,fun G w vs hinv fZ hr=> ?_⟩;have mA:([an.vec E K (aI xs)]:agU an)[0]?=some (.vec E K (aI xs)):=rfl;have fW:(aI xs).length=L:=by rw[mf,hL]
 obtain⟨v0,v1,v2,rfl⟩:∃v0 v1 v2,vs= #[v0,v1,v2]:=by
  obtain⟨l⟩:=vs
  match l,fZ with
  |[a,b,c],_=>exact⟨a,b,c,rfl⟩
 have r0:=hr 0 v0 _ rfl rfl;have e1:=(hr 1 v1 _ rfl rfl).val;have e2:=(hr 2 v2 _ rfl rfl).val;subst e1;subst e2;obtain⟨qU,⟨A,cc,q1,q2,q3,q4,q5⟩,_⟩:=r0.nJ hinv mA fW;obtain⟨g,cap,s1,rfl,s3⟩:=q5 (by omega);obtain⟨g',sU,cur,t1,t2,t3,t4,t5,t6,t7,t8,t9⟩:=tA hinv mA (fun e=>by rw[e]at fW;simp at fW;omega);rw[t2,fW]at s1;cases s1
 have I6:cc=cap:=by omega
 subst I6;rw[fW]at t5;have gm:=tw hinv mA;have ig:∀d∈xs,d.length=K:=fun d hd=>by
  have:=gm (d.map .d) (by unfold aI;exact List.mem_map.2 ⟨d,hd,rfl⟩)
  rwa [aga]at this
 have QJ:L*K≤cur.size:=by rw[t7];exact Nat.mul_le_mul_right K t5
 have fg:∀(a b:Nat),a<L→b<K→∃(d:D)(u:agY),(∃x,xs[a]?=some x∧x[b]?=some d)∧cur[a*K+b]?=some u∧aE G w u (.d d)∧u.oneCell'=true:=fun a b ha hb=>by
  have hx:xs[a]?=some xs[a]:=af9 (by omega);have sD:xs[a].length=K:=ig _ (List.getElem_mem _);have hd:xs[a][b]?=some (xs[a][b]'(by omega)):=af9 (by omega);have aN:a*K+b<cur.size:=agu (ji ha hb) QJ;have hu:cur[a*K+b]?=some cur[a*K+b]:=ags aN;have hv:=t9 a b (xs[a].map .d) (.d (xs[a][b]'(by omega))) _ (xS hx) (by rw[agc,hd];rfl) hu;refine⟨_,_,⟨_,hx,hd⟩,hu,hv,hv.iZ ?_⟩;have h1:=eZ _ (List.getElem_mem (l:=xs) (n:=a) (by omega));rw[agw]at h1;have h2:=h1 _ (agj hd);generalize (xs[a][b]'(by omega))=d at h2;cases d with
  |v u=>exact h2
  |sl l=>rfl
 have hdm:∀q,q<L*K→q / K<L∧q%K<K∧q / K*K+q%K=q:=fun q hq=>⟨(Nat.div_lt_iff_lt_mul hK).2 hq,Nat.mod_lt _ hK,by rw[Nat.mul_comm];exact Nat.div_add_mod q K⟩;rw[q1];have W4:(⟨g,0*K,none⟩:Addr)=⟨g,0,none⟩:=by rw[Nat.zero_mul]
 rw[W4];refine(jX g L cc i (i+1) cur.toList w (by simpa using t4) (by simpa using t7) (agS i) hi t5 t6 (fun u hu=> ?_)).mono fun e w' hp=> ?_
 ·obtain⟨q,hq⟩:=List.mem_iff_getElem?.1 hu;rw[List.getElem?_take]at hq;split at hq
  ·next aN=>
   obtain⟨h1,h2,h3⟩:=hdm q aN;obtain⟨d,u',_,xw,_,ho⟩:=fg _ _ h1 h2;rw[h3,←agt,hq]at xw;cases xw
   exact ho
  ·cases hq
 ·obtain⟨zs,hz,rfl,rfl⟩:=hp;have n8:i+1-i=1:=by omega
  rw[n8]at hz ⊢;rw[Nat.one_mul]at hz;obtain⟨news,mi⟩:∃x,x=(cur.toList.take (L*K)).drop ((i+1)*K):=⟨_,rfl⟩;have hLm:(L-1-i)*K+(i+1)*K=L*K:=by rw[←Nat.add_mul];congr 1;omega
  have rj:news.length=(L-1-i)*K:=by rw[mi,List.length_drop,List.length_take,agD];omega
  have Lz:(L-1)*K=i*K+news.length:=by rw[rj,←Nat.add_mul];congr 1;omega
  have iz:(i+1)*K=i*K+K:=by rw[Nat.add_mul,Nat.one_mul]
  have adi:i*K+news.length+zs.length=L*K:=by rw[rj,hz];omega
  rw[←mi,Lz,adV cur.toList news zs (i*K) (ago (Nat.le_of_eq adi) (by rw[agD];exact QJ))];obtain⟨dE,dI⟩:=hinv.ZG;have j6:(news++zs).length=(L-i)*K:=by
    rw[af6,rj,hz];have:(L-i)*K=(L-1-i)*K+K:=by rw[show L-i=(L-1-i)+1 by omega,Nat.add_mul,Nat.one_mul]
    omega
  obtain⟨G',f1,f2,f3,f4,f5⟩:=JV (us:=news++zs) (off:=i*K) (bV:=aI (xs.take i++xs.drop (i+1))++[List.replicate K .dead]) (w:=w.drew) dI mA hK t1 t2 t3 (by exact t4) (by rw[fW];exact t5) t6 t7 t8
   (by rw[af6];omega)
   (by rw[af6,mf,af6,List.length_take,List.length_drop,fW,List.length_singleton,hL];omega)
   (fun c hc=>by
    rcases agI.1 hc with hc|hc
    ·obtain⟨x,hx,rfl⟩:=List.mem_map.1 (show c∈List.map _ _ from hc);rw[aga];rcases agI.1 hx with hx|hx
     ·exact ig x (List.mem_of_mem_take hx)
     ·exact ig x (List.mem_of_mem_drop hx)
    ·rw[List.mem_singleton]at hc;rw[hc,agG])
   (fun a b c x u hc hx hu=>by
    have hlen:(aI (xs.take i++xs.drop (i+1))).length=L-1:=by rw[mf,af6,List.length_take,List.length_drop,hL];omega
    by_cases ha:a<L-1
    ·rw[agf (by omega)]at hc;unfold aI at hc;rw[agc]at hc;cases hy:(xs.take i++xs.drop (i+1))[a]? with
     |none=>rw[hy]at hc;cases hc
     |some y=>
      rw[hy]at hc;cases hc
      rw[agc]at hx;cases hd:y[b]? with
      |none=>rw[hd]at hx;cases hx
      |some d=>
       rw[hd]at hx;cases hx
       have hym:y∈xs:=by
        rcases agI.1 (agj hy)with h|h
        ·exact List.mem_of_mem_take h
        ·exact List.mem_of_mem_drop h
       have HK:b<K:=by rw[←ig y hym];exact(af5.1 hd).1
       have key:∀a',a'<L→xs[a']?=some y→cur[a'*K+b]?=some u→aE G w.drew u (.d d):=fun a' Wp jJ xw=>by
        obtain⟨d',u',⟨x',k1,k2⟩,k3,k4,_⟩:=fg a' b Wp HK;rw[jJ]at k1;cases k1
        rw[hd]at k2;cases k2
        rw[xw]at k3;cases k3
        exact k4.keep dE (agh _)
       by_cases PK:a<i
       ·have aN:=ji PK HK;rw[if_neg (by omega)]at hu;rw[agf (by rw[List.length_take];omega),List.getElem?_take_of_lt PK]at hy;exact key a (by omega) hy hu
       ·have jg:i*K≤a*K:=Nat.mul_le_mul_right K (by omega);have hup:a*K+b<(L-1)*K:=ji ha HK;have hL1:(L-1)*K+K=L*K:=by
         rw[←Nat.succ_mul];congr 1;omega
        have hza:i*K≤a*K+b∧a*K+b<i*K+(news++zs).length:=⟨by omega,by rw[af6];omega⟩;have hnb:a*K+b-i*K<news.length:=by omega
        have hlb:(i+1)*K+(a*K+b-i*K)<L*K:=by omega
        rw[if_pos hza,agf hnb,mi,List.getElem?_drop,List.getElem?_take_of_lt hlb,agt]at hu;have e3:(i+1)*K+(a*K+b-i*K)=(a+1)*K+b:=by rw[Nat.add_mul a 1 K,Nat.one_mul];omega
        rw[e3]at hu;have aN:(xs.take i).length=i:=by rw[List.length_take];omega
        rw[agm (by omega),aN,List.getElem?_drop,show i+1+(a-i)=a+1 by omega]at hy;exact key (a+1) (by omega) hy hu
    ·have ha2:a=L-1:=by
      have:=(af5.1 hc).1;rw[af6,hlen,List.length_singleton]at this;omega
     rw[agm (by omega),hlen,ha2,Nat.sub_self]at hc;simp only[List.getElem?_cons_zero,Option.some.injEq]at hc;subst hc;have:=List.eq_of_mem_replicate (agj hx);subst this;exact .dead u)
  refine⟨_,G',_,_,rfl,dE.trans f1,by rw[f2];exact agh _,f3,?_,rfl,rfl⟩;have jW:G'.fl 0=L:=by rw[f5,(hinv.dh 0 _ mA).1,fW]
  refine .vec 0 0 (L-1) L K (by rw[f2];have:=hinv.len;simp at this;omega) ⟨_,_,_,rfl⟩ (by rw[jW];exact agh _) fun _=>⟨by omega,⟨_,_,rfl,by omega,t6,by omega,fun _=>⟨g,cc,by rw[f4,t2,fW],by rw[Nat.zero_mul],by omega⟩⟩,fun _ h=>by omega⟩
end
mutual
def AV.dG(b kk L0:Nat)(ys:agU (agU D)):AV→AV
 | .vec n o len L k=>bif n==b then(bif o==0&&len==ys.length&&L==L0&&k==kk then .d (.sl ys)else .dead)else .vec n o len L k
 | .de n i j L k=>bif n==b then .dead else .de n i j L k
 | .agg cs=> .agg (AV.mJ b kk L0 ys cs)
 | .bU cs=> .bU (AV.mJ b kk L0 ys cs)
 | .fn f cs=> .fn f (AV.mJ b kk L0 ys cs)
 |x=>x
def AV.mJ(b kk L0:Nat)(ys:agU (agU D)):agU AV→agU AV
 |[]=>[]
 |x::l=>x.dG b kk L0 ys::AV.mJ b kk L0 ys l
end
theorem xH(b kk L0:Nat)(ys:agU (agU D)):∀l,AV.mJ b kk L0 ys l=l.map (AV.dG b kk L0 ys)
 |[]=>by simp [AV.mJ]
 |x::l=>by simp [AV.mJ,xH b kk L0 ys l]
theorem aE.dG{G G':Gh}{w:agZ}{b kk L0:Nat}{ys:agU (agU D)}(hE:bK G.N G w G' w)(hN:G'.N=G.N)(hp:∀(u:agY),aE G w u (.vec b 0 ys.length L0 kk)→dq G'.S w u (.sl ys)){u:agY}{x:AV}(h:aE G w u x):aE G' w u (x.dG b kk L0 ys):=by
 have keep:∀{u:agY}{x:AV},aE G w u x→aE G' w u x:=fun h=>h.keep hE (Nat.le_of_eq hN.symm);have e8:∀(vs:Array agY)(cs:agU AV),(∀(i:Nat)(u:agY)(c:AV),vs[i]?=some u→cs[i]?=some c→aE G' w u (c.dG b kk L0 ys))→∀(i:Nat)(u:agY)(c:AV),vs[i]?=some u→(AV.mJ b kk L0 ys cs)[i]?=some c→aE G' w u c:=by
  intro vs cs ih i u c hu hc;rw[xH,agc]at hc;cases hx:cs[i]? with
  |none=>rw[hx]at hc;cases hc
  |some x=>rw[hx]at hc;cases hc;exact ih i u x hu hx
 induction h with
 |agg vs cs hl _ ih=>rw[AV.dG];exact .agg vs _ (by rw[xH,aga];exact hl) (e8 vs cs ih)
 |bU vs cs hl _ ih=>rw[AV.dG];exact .bU vs _ (by rw[xH,aga];exact hl) (e8 vs cs ih)
 |fn f vs cs hl _ ih=>rw[AV.dG];exact .fn f vs _ (by rw[xH,aga];exact hl) (e8 vs cs ih)
 |vec n o len L k h hs hL hf=>
  rw[AV.dG,cond_eq_ite];split
  ·next e=>
   have e:n=b:=by simpa using e
   subst e;rw[cond_eq_ite];split
   ·next e2=>
    simp only[af7,beq_iff_eq]at e2;obtain⟨⟨⟨rfl,rfl⟩,rfl⟩,rfl⟩:=e2;exact .d (hp _ (.vec n 0 _ _ _ h hs hL hf))
   ·exact .dead _
  ·exact keep (.vec n o len L k h hs hL hf)
 |de n i j L k h hs hL hf=>
  rw[AV.dG,cond_eq_ite];split
  ·exact .dead _
  ·exact keep (.de n i j L k h hs hL hf)
 |ptr n off h=>simp only[AV.dG];exact keep (.ptr n off h)
 |own n xs h hp hle hf=>simp only[AV.dG];exact keep (.own n xs h hp hle hf)
 |d h=>simp only[AV.dG];exact keep (.d h)
 |aW xs i off b o u x hx hS hu=>simp only[AV.dG];exact keep (.aW xs i off b o u x hx hS hu)
 |full xs hp hf=>simp only[AV.dG];exact keep (.full xs hp hf)
 |row n off len cap k h hl hm=>simp only[AV.dG];exact keep (.row n off len cap k h hl hm)
 |mp n h=>simp only[AV.dG];exact keep (.mp n h)
 |c7 n h=>simp only[AV.dG];exact keep (.c7 n h)
 |hid h h1=>simp only[AV.dG];exact keep (.hid h h1)
 |dead u=>simp only[AV.dG];exact .dead u
theorem cT.Xa{G:Gh}{w:agZ}{a:Act}{s:St}(hs:cT G w a s)(xs:agU (agU D)){b e k L:Nat}{cs:agU (agU AV)}(hb:s.h[b]?=some (.vec e k cs))(fW:cs.length=L)(hy:cs.take xs.length=aI xs)(eZ:∀c∈xs,c.all D.lY=true)
 :∃G',bK G.N G w G' w∧G'.N=G.N∧cT G' w a ⟨s.n,s.t.map fun p=>(p.1,p.2.dG b k L xs),(s.h.map (an.gZ (AV.dG b k L xs))).set b .gone⟩:=by
 have gm:=tw hs.inv hb;have hlen:xs.length≤L:=by
  have:=congrArg List.length hy;rw[mf,List.length_take]at this;omega
 have fm:∀(i:Nat)(x:agU D),xs[i]?=some x→cs[i]?=some (x.map .d):=fun i x hx=>by
  have h1:=xS hx;rw[←hy,List.getElem?_take_of_lt (af5.1 hx).1]at h1;exact h1
 have ig:∀d∈xs,d.length=k:=fun d hd=>by
  obtain⟨i,hi⟩:=List.mem_iff_getElem?.1 hd;have:=gm (d.map .d) (agj (fm i d hi))
  rwa [aga]at this
 obtain⟨S,hS⟩:∃S:Nat→Nat→Prop,S=fun c o=>G.S c o∨(bR s.h G b=some c∧o<xs.length*k):=⟨_,rfl⟩;have hE:bK G.N G w {G with S:=S} w:=⟨agh _,fun b o h=>by show S b o;rw[hS];exact .inl h,fun _ _ _=>rfl,fun _ _=>rfl,fun _ _=> .inl ⟨rfl,rfl⟩,fM rfl,fun _ _=>rfl,rfl,rfl,rfl,fun c o hq=>by
  have cy:S c o:=hq;rw[hS]at cy;rcases cy with h|⟨h,_⟩
  ·exact .inl h
  ·obtain⟨B,hB,fG⟩:=j7 h;exact .inr ((hs.inv.dh b B hB).kD fG)⟩
 have Am:∀(u:agY),aE G w u (.vec b 0 xs.length L k)→dq S w u (.sl xs):=fun u sF=>by
  have jx:=sF.nJ hs.inv hb fW;obtain⟨qU,⟨A,cc,q1,q2,q3,q4,q5⟩,_⟩:=jx;rw[q1];by_cases h0:xs.length=0
  ·have:xs=[]:=List.eq_nil_of_length_eq_zero h0;subst this;exact .sl A 0 0 cc 0 [] (fun _ _=>undef) (fun h=>absurd rfl h) (Nat.zero_le _) q3 (fun _ h=>absurd h agM) (fun i j hi=>absurd hi (agy _)) (fun i j x d hx=>by simp at hx)
  ·obtain⟨g,cap,s1,rfl,s3⟩:=q5 (by omega);obtain⟨g',sU,cur,r1,r2,r3,r4,r5,r6,r7,r8,r9⟩:=tA hs.inv hb (fun e=>by rw[e]at fW;simp at fW;omega);rw[r2]at s1;cases s1
   have kW:bR s.h G b=some g:=(dC hb).trans r1;have fg:∀i j,i<xs.length→j<k→i*k+j<cur.size:=fun i j hi hj=>by
    have:=ji (i:=i) (k:=k) (L:=cs.length) (j:=j) (by omega) hj;have h2:cs.length*k≤cap*k:=Nat.mul_le_mul_right k (by omega);rw[r7];omega
   have mY:∀(i j:Nat)(x:agU D)(d:D),xs[i]?=some x→x[j]?=some d→aE G w (cur.getD (i*k+j) undef) (.d d):=fun i j x d hx hd=>by
    have hj:j<k:=by rw[←ig x (agj hx)];exact(af5.1 hd).1
    refine r9 i j (x.map .d) (.d d) _ (fm i x hx) (by rw[agc,hd];rfl) ?_;have hc:=fg i j (af5.1 hx).1 hj;simp [Array.getD,hc]
   have e0:∀i j,0*k+i*k+j=i*k+j:=fun i j=>by rw[Nat.zero_mul,agq]
   refine .sl _ g (0*k) cc k xs (fun i j=>cur.getD (i*k+j) undef) (fun _=>rfl) (by omega) q3 ig (fun i j hi hj=>⟨?_,?_,?_⟩) (fun i j x d hx hd=> ?_)
   ·rw[hS,e0];exact .inr ⟨kW,ji hi hj⟩
   ·rw[e0,cell_of_row w g _ cur e (0,0) r4];have hc:=fg i j hi hj;simp [Array.getD,hc]
   ·obtain⟨x,hx⟩:∃x,xs[i]?=some x:=⟨_,af9 hi⟩;have hmem:=agj hx;obtain⟨d,hd⟩:∃d,x[j]?=some d:=⟨_,af9 (by rw[ig x hmem];exact hj)⟩;refine(mY i j x d hx hd).iZ ?_;have h1:=eZ x hmem;rw[agw]at h1;have h2:=h1 d (agj hd);cases d with
    |v u=>exact h2
    |sl l=>rfl
   ·have:=mY i j x d hx hd;generalize cur.getD (i*k+j) undef=q at this;cases this with|d h=>exact h.keep hE.S hE.cell
 have hinv:=S0 (b:=b) (f:=AV.dG b k L xs) hs.inv hE (fun c o hq=>by rw[hS]at hq;exact hq.imp id And.left) (fun hq=>hq.dG hE rfl Am);refine⟨_,hE,rfl,hs.size,fun i=> ?_,hinv,hs.df⟩;show aE _ _ _ (bm (s.t.map fun p=>(p.1,p.2.dG b k L xs)) i);rw[s6 (AV.dG b k L xs) (by simp [AV.dG])];exact(hs.tmp i).dG hE rfl Am
mutual
theorem Np{b kk L:Nat}{xs:agU (agU D)}:∀x:AV,(∀q∈x.j5 b,q=(0,xs.length,L,kk))→x.dG b kk L xs=x.mlt b xs
 | .vec n o len L k,h=>by
   unfold AV.dG AV.mlt;unfold AV.j5 at h;cases e:n==b with
   |false=>rfl
   |true=>
    rw[e]at h;have:=h _ agb;cases this
    simp
 | .agg cs,h=>by unfold AV.dG AV.mlt;rw[AQ cs (by unfold AV.j5 at h;exact h)]
 | .bU cs,h=>by unfold AV.dG AV.mlt;rw[AQ cs (by unfold AV.j5 at h;exact h)]
 | .fn f cs,h=>by unfold AV.dG AV.mlt;rw[AQ cs (by unfold AV.j5 at h;exact h)]
 | .de n i j L k,h=>by unfold AV.dG AV.mlt;rfl
 | .d _,_=>by simp [AV.dG,AV.mlt]
 | .ptr ..,_=>by simp [AV.dG,AV.mlt]
 | .aW ..,_=>by simp [AV.dG,AV.mlt]
 | .own ..,_=>by simp [AV.dG,AV.mlt]
 | .full _,_=>by simp [AV.dG,AV.mlt]
 | .row ..,_=>by simp [AV.dG,AV.mlt]
 | .mp _,_=>by simp [AV.dG,AV.mlt]
 | .c7 _,_=>by simp [AV.dG,AV.mlt]
 | .hid _,_=>by simp [AV.dG,AV.mlt]
 | .dead,_=>by simp [AV.dG,AV.mlt]
theorem AQ{b kk L:Nat}{xs:agU (agU D)}:∀l:agU AV,(∀q∈AV.kX b l,q=(0,xs.length,L,kk))→AV.mJ b kk L xs l=AV.jA b xs l
 |[],_=>by simp [AV.mJ,AV.jA]
 |x::l,h=>by
  unfold AV.kX at h;unfold AV.mJ AV.jA;rw[Np x fun q hq=>h q (List.mem_append_left _ hq),AQ l fun q hq=>h q (List.mem_append_right _ hq)]
end
inductive ke(b ln L kk:Nat)(xs:List (List D)):List an→List an→Prop
 |nil:ke b ln L kk xs [] []
 |cells {cs bV:List AV} {l l':List an} (c:Nat) (h:AV.kX b cs=List.replicate c (0,ln,L,kk)) (e:AV.jA b xs cs=bV) (t:ke b ln L kk xs l l'):ke b ln L kk xs (.cells cs::l) (.cells bV::l')
 |dat {e k:Nat} {ys:List (List D)} {l l':List an} (t:ke b ln L kk xs l l'):ke b ln L kk xs (.vec e k (aI ys)::l) (.vec e k (aI ys)::l')
 |front {e k n:Nat} {l l':List an} (t:ke b ln L kk xs l l'):ke b ln L kk xs (.front e k n::l) (.front e k n::l')
 |map {kv:List (ByteArray×D)} {l l':List an} (t:ke b ln L kk xs l l'):ke b ln L kk xs (.map kv::l) (.map kv::l')
 |gone {l l':List an} (t:ke b ln L kk xs l l'):ke b ln L kk xs (.gone::l) (.gone::l')
 |drop {B:an} {l l':List an} (t:ke b ln L kk xs l l'):ke b ln L kk xs (B::l) (.gone::l')
def vz(l l':agU an):Prop:=l'.length=l.length∧∀(n:Nat)(B':an),l'[n]?=some B'→B'= .gone∨l[n]?=some B'
theorem vz.cons{B B':an}{l l':agU an}(h:B'= .gone∨B'=B)(t:vz l l'):vz (B::l) (B'::l'):=by
 refine⟨by rw[af8,af8,t.1],fun n C hC=> ?_⟩
 match n with
 |0=>
  simp only[List.getElem?_cons_zero,Option.some.injEq]at hC ⊢;subst hC;exact h.imp id Eq.symm
 |n+1=>simpa using t.2 n C (by simpa using hC)
theorem ab6{G:Gh}{w:agZ}{h h':agU an}(hi:bO G w h)(hg:vz h h'):bO G w h':=by
 obtain⟨hl,hg⟩:=hg;have dL:∀n x,bR h' G n=some x→bR h G n=some x:=fun n x hx=>by
  obtain⟨B,hB,h1⟩:=j7 hx;rcases hg n B hB with rfl|h2
  ·cases h1
  ·rw[dC h2];exact h1
 refine⟨by rw[hl];exact hi.len,hi.z,hi.S,fun n B hB=> ?_,fun m n x h1 h2=>hi.inj m n x (dL m x h1) (dL n x h2),hi.gl⟩;rcases hg n B hB with rfl|h2
 ·trivial
 ·exact hi.dh n B h2
theorem MH{c ln L kk:Nat}{xs:agU (agU D)}(hL:xs.length=ln){l:agU (Nat×Nat×Nat×Nat)}(h:l=List.replicate c (0,ln,L,kk)):∀q∈l,q=(0,xs.length,L,kk):=fun q hq=>by
 rw[h,List.mem_replicate]at hq;rw[hq.2,hL]
theorem ke.ZC{b ln L kk:Nat}{xs:agU (agU D)}(hL:xs.length=ln){l l':agU an}(h:ke b ln L kk xs l l'):vz (l.map (an.gZ (AV.dG b kk L xs))) l':=by
 have hd:∀d,AV.dG b kk L xs (.d d)= .d d:=fun d=>by simp [AV.dG]
 induction h with
 |nil=>exact⟨rfl,fun n B' h=>by simp at h⟩
 |cells c h e t ih=>
  rw[agv,←e];simp only[an.gZ];rw[←xH,AQ _ (MH hL h)];exact .cons (.inr rfl) ih
 |dat t ih=>rw[agv];simp only[an.gZ];rw[sP hd];exact .cons (.inr rfl) ih
 |front t ih=>exact .cons (.inr rfl) ih
 |map t ih=>exact .cons (.inr rfl) ih
 |gone t ih=>exact .cons (.inr rfl) ih
 |drop t ih=>exact .cons (.inl rfl) ih
theorem adK{P:agX}{r:agW Nat}{N0:Nat}{c:Code}{s:St}{Q:Exit→St→Prop}(live:agU Nat)(b:Nat)(xs ys:agU (agU D)){e k L ln:Nat}{cs:agU (agU AV)}(h':agU an)(c1:Nat)(hb:s.h[b]?=some (.vec e k cs))(fW:cs.length=L)(hq:cs.take xs.length=aI xs)(eZ:∀c∈xs,c.all D.lY=true)(hL:xs.length=ln)(hy:ys=xs)(hg:h'[b]?=some .gone)
 (ho:(live.flatMap fun i=>(bm s.t i).j5 b)=List.replicate c1 (0,ln,L,k)) (hh:ke b ln L k ys s.h h') (K:bB P r N0 c Q ⟨s.n,live.map (fun i=>(i,(bm s.t i).mlt b ys)),h'⟩):bB P r N0 c Q s:=by
 subst hy;constructor
 intro G w a n hs hN;obtain⟨G',hE,e1,cy⟩:=hs.Xa ys hb fW hq eZ;have Q1:=hh.ZC hL;have tG:vz ((s.h.map (an.gZ (AV.dG b k L ys))).set b .gone) h':=by
  refine⟨by rw[List.length_set];exact Q1.1,fun n B' hB=> ?_⟩;by_cases e:b=n
  ·subst e;rw[hg]at hB;cases hB;exact .inl rfl
  ·rw[agE e];exact Q1.2 n B' hB
 refine wpIn_mono (K.run G' w a n ⟨cy.size,fun i=> ?_,ab6 cy.inv tG,cy.df⟩ (by rw[e1];exact hN)) fun _ _ _ hn=>hn.trans (hE.less hN);show aE _ _ _ (bm (live.map (fun i=>(i,(bm s.t i).mlt b ys))) i);have h2:=cy.tmp i
 change aE _ _ _ (bm (s.t.map fun p=>(p.1,p.2.dG b k L ys)) i)at h2
 rw[s6 (AV.dG b k L ys) (by simp [AV.dG])]at h2;rw[mS (fun k=>(bm s.t k).mlt b ys)];split
 ·next hi=>
  rw[←Np _ fun q hq=>MH hL ho q (List.mem_flatMap.2 ⟨i,hi,hq⟩)];exact h2
 ·exact .dead _
theorem aaQ{α:Type}(f:α→agU D)(E:agU α)(i:Nat):(E.map f).take i++(E.map f).drop (i+1)=(E.take i++E.drop (i+1)).map f:=by rw[List.map_append,List.map_take,List.map_drop]
theorem afi{α:Type}{f:α→agU D}{E:agU α}{L k:Nat}(h:E.length+1=L):(aI (E.map f)++[List.replicate k AV.dead]).length=L:=by rw[af6,mf,aga];exact h
theorem acI{α:Type}{f:α→agU D}{E:agU α}{k:Nat}:(aI (E.map f)++[List.replicate k AV.dead]).take (E.map f).length=aI (E.map f):=by
 rw[List.take_append_of_le_length (by rw[mf];exact agh _),←mf,List.take_length]
def DQ{α:Type}(x:AV)(k:AV→α):α:=
 match x with
 | .d y=>k (.d y)
 | .agg cs=>k (.agg cs)
 | .bU cs=>k (.bU cs)
 | .ptr n o=>fN n fun n=>fN o fun o=>k (.ptr n o)
 | .own n xs=>fN n fun n=>k (.own n xs)
 | .fn f cs=>k (.fn f cs)
 | .mp n=>fN n fun n=>k (.mp n)
 |x=>k x
theorem MN{α:Type}(x:AV)(k:AV→α):DQ x k=k x:=by cases x<;>simp [DQ,zF]
def fT{α:Type}:agU (Nat×AV)→(agU (Nat×AV)→α)→α
 |[],k=>k []
 |(d,x)::l,k=>fN d fun d=>DQ x fun x=>fT l fun l=>k ((d,x)::l)
theorem UQ{α:Type}:∀(l:agU (Nat×AV))(k:agU (Nat×AV)→α),fT l k=k l
 |[],k=>rfl
 |(d,x)::l,k=>by rw[fT,zF,MN,UQ l]
def fC{α:Type}:agU AV→(agU AV→α)→α
 |[],k=>k []
 |x::l,k=>DQ x fun x=>fC l fun l=>k (x::l)
theorem US{α:Type}:∀(l:agU AV)(k:agU AV→α),fC l k=k l
 |[],k=>rfl
 |x::l,k=>by rw[fC,MN,US l]
def fH{α:Type}:agU an→(agU an→α)→α
 |[],k=>k []
 | .cells cs::l,k=>fC cs fun cs=>fH l fun l=>k (.cells cs::l)
 | .front e z n::l,k=>fH l fun l=>k (.front e z n::l)
 | .map kv::l,k=>fH l fun l=>k (.map kv::l)
 | .gone::l,k=>fH l fun l=>k (.gone::l)
 |B::l,k=>fH l fun l=>k (B::l)
theorem sL{α:Type}:∀(l:agU an)(k:agU an→α),fH l k=k l
 |[],k=>rfl
 | .cells cs::l,k=>by rw[fH,US,sL l]
 | .front e z n::l,k=>by rw[fH,sL l]
 | .map kv::l,k=>by rw[fH,sL l]
 | .gone::l,k=>by rw[fH,sL l]
 | .vec .. ::l,k=>by rw[fH,sL l]<;>simp
 | .lp .. ::l,k=>by rw[fH,sL l]<;>simp
 | .it .. ::l,k=>by rw[fH,sL l]<;>simp
def H6{α:Type}(s:St)(k:St→α):α:=fN s.n fun n=>fT s.t fun t=>fH s.h fun h=>k ⟨n,t,h⟩
theorem VJ{α:Type}(s:St)(k:St→α):H6 s k=k s:=by unfold H6;rw[zF,UQ,sL]
inductive Fr
 |S (y:Code)
 |B (id:Nat)
 |F (k:Nat) (f:St→Prop)
def fU(P:agX)(r:agW Nat)(N0:Nat)(Q:Exit→St→Prop):agU Fr→Exit→St→Prop
 |[]=>Q
 | .S y::K=>hO (fun s=>bB P r N0 y (fU P r N0 Q K) s) (fU P r N0 Q K)
 | .B id::K=>nM id (fU P r N0 Q K)
 | .F _ f::K=>hO f (fU P r N0 Q K)
inductive Md
 |c (c:Code)
 |n
 |x (id:Nat)
inductive WR
 |at (c:Code) (K:List Fr) (s:St)
 |ret (s:St)
 |nrm (s:St)
 |fin (k:Nat) (s:St)
abbrev WO:=agW (WR×agU (In×b5))
def C9(l:agU (In×b5)):WO→WO
 |some (w,m)=>some (w,l++m)
 |none=>none
def jX(P:agX):Nat→Md→agU Fr→agU (agU (Nat×b5))→St→WO
 |0,_,_,_,_=>none
 |F+1,m,K,A,s=>match m with
  | .n=>match K with
    |[]=>some (.nrm s,[])
    | .S y::K=>jX P F (.c y) K A s
    | .B _::K=>jX P F .n K A s
    | .F k _::_=>some (.fin k s,[])
  | .x id=>match K with
    |[]=>none
    | .S _::K=>jX P F (.x id) K A s
    | .B oe::K=>jX P F (bif id==oe then .n else .x id) K A s
    | .F _ _::K=>jX P F (.x id) K A s
  | .c c=>match c with
    | .seq a b=>jX P F (.c a) (.S b::K) A s
    | .block id b=>jX P F (.c b) (.B id::K) A s
    | .skip=>jX P F .n K A s
    | .ret=>some (.ret s,[])
    | .exit id=>jX P F (.x id) K A s
    | .region id ops dr=>match A with
      |[]=>some (.at (.region id ops dr) K s,[])
      |as::A=>bif !dr||nI ops then match lW P ops dr ops.toList 0 as s with
         |some (s1,l)=>H6 s1 fun s1=>C9 l (jX P F .n K A s1)
         |none=>none
       else none
    | .cond o x y=>match A with
      |[]=>some (.at (.cond o x y) K s,[])
      |as::A=>match iq as 0 with
       | .bit b=>C9 [(.bit (ev s o), .bit b)] (jX P F (.c (bif b then x else y)) K A s)
       |_=>none
    |c=>match A with
     |[]=>some (.at c K s,[])
     |_=>none
section
variable {P:agX} {r:agW Nat} {N0:Nat} {Q:Exit→St→Prop}
theorem Gp:∀(K:agU Fr)(s:St),Q .ret s→fU P r N0 Q K .ret s
 |[],_,h=>h
 | .S _::K,s,h=>Gp K s h
 | .B _::K,s,h=>Gp K s h
 | .F _ _::K,s,h=>Gp K s h
def acr(P:agX)(r:agW Nat)(N0:Nat)(Q:Exit→St→Prop)(m:Md)(K:agU Fr)(s:St):Prop:=
 match m with
 | .c c=>bB P r N0 c (fU P r N0 Q K) s
 | .n=>fU P r N0 Q K .normal s
 | .x id=>fU P r N0 Q K (.exit id) s
def AJ(P:agX)(r:agW Nat)(N0:Nat)(Q:Exit→St→Prop)(K0:agU Fr):WR→Prop
 | .at c K s=>bB P r N0 c (fU P r N0 Q K) s
 | .ret s=>Q .ret s
 | .nrm s=>Q .normal s
 | .fin k s=>∀f,Fr.F k f∈K0→f s
theorem AJ.sub{K K':agU Fr}(h:∀k f,Fr.F k f∈K'→Fr.F k f∈K):∀{w:WR},AJ P r N0 Q K w→AJ P r N0 Q K' w
 | .at _ _ _,hp=>hp
 | .ret _,hp=>hp
 | .nrm _,hp=>hp
 | .fin k _,hp=>fun f hf=>hp f (h k f hf)
theorem Q7{l m:agU (In×b5)}{x:WO}{w:WR}(h:C9 l x=some (w,m))(b7:gF P m):∃n,x=some (w,n)∧gF P n∧gF P l:=by
 unfold C9 at h;split at h
 ·next w' n=>
  cases h
  exact⟨n,rfl,fun p hp=>b7 p (List.mem_append_right _ hp),fun p hp=>b7 p (List.mem_append_left _ hp)⟩
 ·cases h
theorem PE(hm:P.follows .mixedOrders=true):∀(F:Nat)(m:Md)(K:agU Fr)(A:agU (agU (Nat×b5)))(s:St)(w:WR)(l:agU (In×b5)),jX P F m K A s=some (w,l)→gF P l→AJ P r N0 Q K w→acr P r N0 Q m K s
 |0,_,_,_,_,_,_,h,_,_=>by simp [jX]at h
 |F+1,m,K,A,s,w,l,h,b7,hp=>by
  have ih:=PE hm F;have tl:∀{x:Fr}{K:agU Fr},∀k f,Fr.F k f∈K→Fr.F k f∈x::K:=fun _ _ h=>age _ h;have pS:∀{y:Code}{K:agU Fr},∀k f,Fr.F k f∈Fr.S y::K→Fr.F k f∈K:=fun k f h=>by
   rcases agA.1 h with h|h
   ·cases h
   ·exact h
  have pB:∀{y:Nat}{K:agU Fr},∀k f,Fr.F k f∈Fr.B y::K→Fr.F k f∈K:=fun k f h=>by
   rcases agA.1 h with h|h
   ·cases h
   ·exact h
  unfold jX at h;cases m with
  |n=>
   cases K with
   |nil=>cases h;exact hp
   |cons x K=>
    cases x with
    |S y=>exact ih (.c y) K _ _ _ _ h b7 (hp.sub tl)
    |B id=>exact ih .n K _ _ _ _ h b7 (hp.sub tl)
    |F k f=>cases h;exact hp _ agb
  |x id=>
   cases K with
   |nil=>cases h
   |cons x K=>
    cases x with
    |S y=>exact ih (.x id) K _ _ _ _ h b7 (hp.sub tl)
    |B oe=>
     show(bif id==oe then fU P r N0 Q K .normal s else fU P r N0 Q K (.exit id) s);simp only at h;cases e:id==oe with
     |true=>rw[e]at h;exact ih .n K _ _ _ _ h b7 (hp.sub tl)
     |false=>rw[e]at h;exact ih (.x id) K _ _ _ _ h b7 (hp.sub tl)
    |F k f=>exact ih (.x id) K _ _ _ _ h b7 (hp.sub tl)
  |c c=>
   simp only at h;split at h
   ·exact aP (ih (.c _) (.S _::K) _ _ _ _ h b7 (hp.sub pS))
   ·exact fi (ih (.c _) (.B _::K) _ _ _ _ h b7 (hp.sub pB))
   ·exact eo (ih .n _ _ _ _ _ h b7 hp)
   ·cases h;exact dD (Gp K s hp)
   ·exact lL (ih (.x _) _ _ _ _ _ h b7 hp)
   ·next id ops dr=>
    split at h
    ·cases h;exact hp
    ·next as A=>
     obtain⟨hb,h⟩:=mn h;split at h
     ·next s1 l1 e=>
      rw[VJ]at h;obtain⟨n,e2,h2,h3⟩:=Q7 h b7;have hk:=ih .n _ _ _ _ _ e2 h2 hp;have dv:=vr (P:=P) (ops:=ops) (dr:=dr) (K:=fU P r N0 Q K .normal) ops.toList 0 s l1 e h3 hk;cases dr with
      |false=>exact e7 dv
      |true=>
       have hl:nI ops.toList.toArray=true:=by simpa using hb
       have:=DV (P:=P) (r:=r) (N0:=N0) (Q:=fU P r N0 Q K) (s:=s) (id:=id) (l:=ops.toList) hm hl (by simpa using dv);show bB P r N0 (.region id ops true) (fU P r N0 Q K) s
       simpa using this
     ·cases h
   ·next o x y=>
    split at h
    ·cases h;exact hp
    ·next as A=>
     split at h
     ·next b e=>
      obtain⟨n,e2,h2,h3⟩:=Q7 h b7;have h4:=OK.Dh (h3 (_,_) agb);have hk:=ih (.c _) _ _ _ _ _ e2 h2 hp;exact Ke h4 (fun e=>by subst e;exact hk) (fun e=>by subst e;exact hk)
     ·cases h
   ·split at h
    ·cases h;exact hp
    ·cases h
end
def wK:WO→agU Fr
 |some (.at _ K _,_)=>K
 |_=>[]
def wS:WO→St
 |some (.at _ _ s,_)=>s
 |_=>⟨0,[],[]⟩
def mD(k:Nat):agU Fr→agU (St→Prop)
 |[]=>[]
 | .F k' f::K=>bif k'==k then f::mD k K else mD k K
 |_::K=>mD k K
theorem zo{k:Nat}{f:St→Prop}:∀{K:agU Fr},Fr.F k f∈K→f∈mD k K
 |[],h=>by cases h
 | .S _::K,h=>by
   rcases agA.1 h with h|h
   ·cases h
   ·exact zo (K:=K) h
 | .B _::K,h=>by
   rcases agA.1 h with h|h
   ·cases h
   ·exact zo (K:=K) h
 | .F k' g::K,h=>by
   rcases agA.1 h with h|h
   ·cases h;simp [mD]
   ·unfold mD;cases k'==k with
    |true=>exact age _ (zo h)
    |false=>exact zo h
def y6:WO→agW (agU (In×b5))
 |some (.at _ _ _,l)=>some l
 |_=>none
def Qy(live:agU Nat)(m:Nat):WO→agW (St×agU (In×b5))
 |some (.at (.loop _) _ s,l)=>(iA s live m).map (·,l)
 |_=>none
def My(live:agU Nat)(m:Nat)(ks:agU Nat)(kn:agU (Nat×Nat)):WO→agW (St×agU (In×b5))
 |some (.at (.loop _) _ s,l)=>(j9 s live m ks kn).map (·,l)
 |_=>none
def Dt:WO→agW (agU (In×b5))
 |some (.at _ (.S _::_) _,l)=>some l
 |_=>none
def DH(k:Nat)(live:agU Nat)(m:Nat):WO→agW (St×agU (In×b5))
 |some (.fin k' s,l)=>bif k'==k then(iA s live m).map (·,l)else none
 |_=>none
def GI(k:Nat)(live:agU Nat)(m:Nat)(ks:agU Nat)(kn:agU (Nat×Nat)):WO→agW (St×agU (In×b5))
 |some (.fin k' s,l)=>bif k'==k then(j9 s live m ks kn).map (·,l)else none
 |_=>none
def IA(P:agX)(rs:agU ResultVar):WO→agW (AV×agU (In×b5))
 |some (.ret s,l)=>(vg P rs s).map (·,l)
 |some (.nrm s,l)=>(vg P rs s).map (·,l)
 |_=>none
def Ho(P:agX)(rs:agU ResultVar)(m:Nat):WO→agW ((AV×agU an)×agU (In×b5))
 |some (.ret s,l)=>(tH P rs m s).map (·,l)
 |some (.nrm s,l)=>(tH P rs m s).map (·,l)
 |_=>none
def yt:agU Fr→agW (Code×agU Fr)
 | .S y::K=>some (y,K)
 | .B _::K=>yt K
 |_=>none
def NY(P:agX)(keep:agU Nat)(as:agU (Nat×b5)):WO→agW (agU (Nat×AV)×agU an×agU (In×b5))
 |some (.at (.region _ ops dr) K s,_)=>bif (!dr||nI ops)&&(yt K).isSome then ot P dr ops.toList as keep s else none
 |_=>none
def U2(k:Nat)(f:St→Prop)(s:St):WO→WO
 |some (.at (.loop b) K _,_)=>some (.at b (.F k f::K) s,[])
 |_=>none
def O6(k:Nat)(f:St→Prop):WO→WO
 |some (.at c (.S _::K) s,_)=>some (.at c (.F k f::K) s,[])
 |_=>none
def Rt(s:St):WO→WO
 |some (.at _ (.S y::K) _,_)=>some (.at y K s,[])
 |_=>none
def xu(Δ:agU (Nat×AV))(h':agU an):WO→WO
 |some (.at _ K s,_)=>match yt K with
  |some (y,K')=>some (.at y K' ⟨s.n,Δ++s.t,h'⟩,[])
  |none=>none
 |_=>none
def CH(f:St→St):WO→WO
 |some (.at c K s,l)=>some (.at c K (f s),l)
 |_=>none
def Sk:Nat:=4000
def wk(P:agX)(w:WO)(bo:agU (agU (Nat×Ob P))):WO:=
 match w with
 |some (.at c K s,_)=>jX P Sk (.c c) K (bo.map jO) s
 |_=>none
def j0{P:agX}(bo:agU (agU (Nat×Ob P))):agU (In×b5):=bo.flatMap jF
theorem ZX{P:agX}(bo:agU (agU (Nat×Ob P))):gF P (j0 bo):=fun p hp=>by
 obtain⟨l,_,h⟩:=List.mem_flatMap.1 hp;exact qk l p h
theorem nB{α β:Type}{x:agW α}{l:β}{y:α}{m:β}(h:x.map (·,l)=some (y,m)):x=some y∧l=m:=by
 cases x with
 |none=>cases h
 |some z=>cases h;exact⟨rfl,rfl⟩
def rm(P:agX)(r:agW Nat)(N0:Nat)(Q:Exit→St→Prop):WO→Prop
 |some (.at c K s,_)=>bB P r N0 c (fU P r N0 Q K) s
 |_=>True
structure GW(P:Program)(r:Option Nat)(N0:Nat)(Q:Exit→St→Prop)(w:WO):Prop where
 run:rm P r N0 Q w
section
variable {P:agX} {r:agW Nat} {N0:Nat} {Q:Exit→St→Prop} {w0:WO}
theorem lx{bo:agU (agU (Nat×Ob P))}(hm:P.follows .mixedOrders=true){w:WR}(e:wk P w0 bo=some (w,j0 bo))(hp:∀K,(∀k f,Fr.F k f∈K→Fr.F k f∈wK w0)→AJ P r N0 Q K w):GW P r N0 Q w0:=by
 constructor
 unfold wk at e;split at e
 ·next c K s l=>exact PE hm Sk (.c c) K _ s w _ e (ZX bo) (hp K fun k f h=>h)
 ·cases e
theorem ax(hm:P.follows .mixedOrders=true)(bo:agU (agU (Nat×Ob P)))(k:GW P r N0 Q (wk P w0 bo))(e:y6 (wk P w0 bo)=some (j0 bo):=by kernel_rfl):GW P r N0 Q w0:=by
 generalize hw:wk P w0 bo=w at e k;unfold y6 at e;split at e
 ·cases e;exact lx hm hw fun K _=>k.run
 ·cases e
theorem aez(hm:P.follows .mixedOrders=true){fn:Func}{R:AV}(bo:agU (agU (Nat×Ob P)))(e:IA P fn.results.toList (wk P w0 bo)=some (R,j0 bo)):GW P r N0 (CI P fn R) w0:=by
 generalize hw:wk P w0 bo=w at e;unfold IA at e;split at e
 ·obtain⟨e1,rfl⟩:=nB e;exact lx hm hw fun K _=>e1
 ·obtain⟨e1,rfl⟩:=nB e;exact lx hm hw fun K _=>e1
 ·cases e
theorem aaz(hm:P.follows .mixedOrders=true){fn:Func}{m:Nat}{R:AV}{H:agU an}(bo:agU (agU (Nat×Ob P)))(e:Ho P fn.results.toList m (wk P w0 bo)=some ((R,H),j0 bo)):GW P r N0 (BD P fn m R H) w0:=by
 generalize hw:wk P w0 bo=w at e;unfold Ho at e;split at e
 ·obtain⟨e1,rfl⟩:=nB e;exact lx hm hw fun K _=>e1
 ·obtain⟨e1,rfl⟩:=nB e;exact lx hm hw fun K _=>e1
 ·cases e
theorem wr(hm:P.follows .mixedOrders=true){fn:Func}{R:AV}(bo:agU (agU (Nat×Ob P)))(e:IA P fn.results.toList (wk P w0 bo)=some (R,j0 bo):=by kernel_rfl):GW P r N0 (CI P fn R) w0:=aez hm bo e
theorem bH(hm:P.follows .mixedOrders=true){fn:Func}{m:Nat}{R:AV}{H:agU an}(bo:agU (agU (Nat×Ob P)))(e:Ho P fn.results.toList m (wk P w0 bo)=some ((R,H),j0 bo):=by kernel_rfl):GW P r N0 (BD P fn m R H) w0:=aaz hm bo e
structure RR{ι:Type}(k:Nat)(live:List Nat)(m:Nat)(st:ι→St)(I:ι→Prop)(μ:ι→Nat)(i0:ι)(f:St→Prop):Prop where
 h:∀s' i',iA s' live m=some (st i')→I i'→μ i'<μ i0→f s'
structure N7{ι:Type}(k:Nat)(live:List Nat)(m:Nat)(ks:List Nat)(kn:List (Nat×Nat))(st:ι→St)(I:ι→Prop)(μ:ι→Nat)(i0:ι)(f:St→Prop):Prop where
 h:∀s' i',gj m (s'.h.take m)→j9 s' live m ks kn=some (st i')→I i'→μ i'<μ i0→f s'
structure Oi{ι:Type}(k:Nat)(live:List Nat)(m:Nat)(st:ι→St)(I:ι→Prop)(f:St→Prop):Prop where
 h:∀s' i',iA s' live m=some (st i')→I i'→f s'
structure Mx{ι:Type}(k:Nat)(live:List Nat)(m:Nat)(ks:List Nat)(kn:List (Nat×Nat))(st:ι→St)(I:ι→Prop)(f:St→Prop):Prop where
 h:∀s' i',gj m (s'.h.take m)→j9 s' live m ks kn=some (st i')→I i'→f s'
theorem El(hm:P.follows .mixedOrders=true){k:Nat}{s1:St}{f:St→Prop}(bo:agU (agU (Nat×Ob P)))(e1:mD k (wK w0)=[f])(e:wk P w0 bo=some (.fin k s1,j0 bo))(hf:f s1):GW P r N0 Q w0:=
 lx hm e fun K hK g hg=>by
  have:=zo (hK k g hg);rw[e1,List.mem_singleton]at this;subst this;exact hf
theorem cU(hm:P.follows .mixedOrders=true){ι:Type}{live:agU Nat}{m k:Nat}{st:ι→St}{I:ι→Prop}{μ:ι→Nat}{i0:ι}{f:St→Prop}(hf:RR k live m st I μ i0 f)(i:ι)(bo:agU (agU (Nat×Ob P)))(hI:I i)(hμ:μ i<μ i0:=by exact agS _)(e1:mD k (wK w0)=[f]:=by kernel_rfl)(e:DH k live m (wk P w0 bo)=some (st i,j0 bo):=by kernel_rfl):GW P r N0 Q w0:=by
 generalize hw:wk P w0 bo=w at e;unfold DH at e;split at e
 ·next k' s' l=>
  obtain⟨hb,e⟩:=mn e;obtain⟨e2,rfl⟩:=nB e;rw[beq_iff_eq]at hb;subst hb;exact El hm bo e1 hw (hf.h _ i e2 hI hμ)
 ·cases e
def rP:agU an→agU (agU (agU AV))
 |[]=>[]
 | .vec _ _ cs::l=>cs::rP l
 |_::l=>rP l
structure VE(m:Nat) where
 x:List (List AV)
 ok:∀e k,(an.vec e k x).wj m
def VE.dat{m:Nat}(xs:agU (agU D)):VE m:=⟨aI xs,fun _ _=>(gp (m:=m) (l:=[]) fj).1⟩
def VE.row{m:Nat}(xs:agU (agU D))(i:Nat)(r:agU AV)(h1:r.map (AV.bz m)=r:=by kernel_rfl)(h2:r.all (AV.aO m)=true:=by kernel_rfl):VE m:=⟨(aI xs).set i r,fun _ _=>(vmR (m:=m) (l:=[]) h1 h2 fj).1⟩
theorem Ce{m:Nat}:∀(l:agU an)(jc:agU (VE m)),rP l=jc.map VE.x→gj m l
 |[],_,_=>fj
 |B::l,jc,h=>by
  cases B with
  |vec e k cs=>
   cases jc with
   |nil=>cases h
   |cons v vs=>
    have h1:cs=v.x:=(List.cons.inj h).1;subst h1;exact⟨v.ok e k,Ce l vs (List.cons.inj h).2⟩
  |_=>exact⟨trivial,Ce l jc h⟩
def HR(m:Nat):WO→agU (agU (agU AV))
 |some (.fin _ s,_)=>rP (s.h.take m)
 |some (.at _ _ s,_)=>rP (s.h.take m)
 |_=>[]
theorem nu(hm:P.follows .mixedOrders=true){ι:Type}{live:agU Nat}{m k:Nat}{ks:agU Nat}{kn:agU (Nat×Nat)}{st:ι→St}{I:ι→Prop}{μ:ι→Nat}{i0:ι}{f:St→Prop}(hf:N7 k live m ks kn st I μ i0 f)(i:ι)(bo:agU (agU (Nat×Ob P)))(hI:I i)(hμ:μ i<μ i0:=by exact agS _)(e1:mD k (wK w0)=[f]:=by kernel_rfl)(jc:agU (VE m):=[])(e0:HR m (wk P w0 bo)=jc.map VE.x:=by kernel_rfl)(e:GI k live m ks kn (wk P w0 bo)=some (st i,j0 bo):=by kernel_rfl):GW P r N0 Q w0:=by
 generalize hw:wk P w0 bo=w at e e0;unfold GI at e;split at e
 ·next k' s' l=>
  obtain⟨hb,e⟩:=mn e;obtain⟨e2,rfl⟩:=nB e;rw[beq_iff_eq]at hb;subst hb;exact El hm bo e1 hw (hf.h _ i (Ce _ jc e0) e2 hI hμ)
 ·cases e
theorem dN(hm:P.follows .mixedOrders=true){ι:Type}{live:agU Nat}{m k:Nat}{st:ι→St}{I:ι→Prop}{f:St→Prop}(hf:Oi k live m st I f)(i:ι)(bo:agU (agU (Nat×Ob P)))(hI:I i)(e1:mD k (wK w0)=[f]:=by kernel_rfl)(e:DH k live m (wk P w0 bo)=some (st i,j0 bo):=by kernel_rfl):GW P r N0 Q w0:=by
 generalize hw:wk P w0 bo=w at e;unfold DH at e;split at e
 ·next k' s' l=>
  obtain⟨hb,e⟩:=mn e;obtain⟨e2,rfl⟩:=nB e;rw[beq_iff_eq]at hb;subst hb;exact El hm bo e1 hw (hf.h _ i e2 hI)
 ·cases e
theorem c9(hm:P.follows .mixedOrders=true){ι:Type}(k:Nat)(bo:agU (agU (Nat×Ob P)))(live:agU Nat)(m:Nat)(st:ι→St)(I:ι→Prop)(μ:ι→Nat)(i0:ι)(hI:I i0)
 (body:∀i,I i→∀f:St→Prop,RR k live m st I μ i f→GW P r N0 Q (U2 k f (st i) (wk P w0 bo)))
 (hN:N0≤m:=by exact agd rfl) (e:Qy live m (wk P w0 bo)=some (st i0,j0 bo):=by kernel_rfl):GW P r N0 Q w0:=by
 generalize hw:wk P w0 bo=w at e body;unfold Qy at e;split at e
 ·next b K' s' l=>
  obtain⟨e2,rfl⟩:=nB e;refine lx hm hw fun K _=> ?_;refine Tx live m st I μ i0 hN e2 hI fun i hi=> ?_;exact(body i hi _ ⟨fun s' i' h1 h2 h3=>⟨i',h1,h2,h3⟩⟩).run
 ·cases e
theorem pv(hm:P.follows .mixedOrders=true){ι:Type}(k:Nat)(bo:agU (agU (Nat×Ob P)))(live:agU Nat)(m:Nat)(ks:agU Nat)(kn:agU (Nat×Nat))(st:ι→St)(I:ι→Prop)(μ:ι→Nat)(i0:ι)(hI:I i0)
 (body:∀i,I i→∀f:St→Prop,N7 k live m ks kn st I μ i f→GW P r N0 Q (U2 k f (st i) (wk P w0 bo)))
 (hN:N0≤m:=by exact agd rfl) (jc:agU (VE m):=[]) (e0:HR m (wk P w0 bo)=jc.map VE.x:=by kernel_rfl) (e:My live m ks kn (wk P w0 bo)=some (st i0,j0 bo):=by kernel_rfl):GW P r N0 Q w0:=by
 generalize hw:wk P w0 bo=w at e e0 body;unfold My at e;split at e
 ·next b K' s' l=>
  obtain⟨e2,rfl⟩:=nB e;refine lx hm hw fun K _=> ?_;refine vp live m ks kn st I μ i0 hN ⟨Ce _ jc e0,e2⟩ hI fun i hi=> ?_;exact(body i hi _ ⟨fun s' i' h0 h1 h2 h3=>⟨i',⟨h0,h1⟩,h2,h3⟩⟩).run
 ·cases e
theorem ni(hm:P.follows .mixedOrders=true){ι:Type}(k:Nat)(bo:agU (agU (Nat×Ob P)))(live:agU Nat)(m:Nat)(st:ι→St)(I:ι→Prop)
 (br:∀f:St→Prop,Oi k live m st I f→GW P r N0 Q (O6 k f (wk P w0 bo)))
 (rest:∀i,I i→GW P r N0 Q (Rt (st i) (wk P w0 bo))) (hN:N0≤m:=by exact agd rfl) (e:Dt (wk P w0 bo)=some (j0 bo):=by kernel_rfl):GW P r N0 Q w0:=by
 generalize hw:wk P w0 bo=w at e br rest;unfold Dt at e;split at e
 ·cases e
  refine lx hm hw fun K _=> ?_;exact XV live m st I hN (br _ ⟨fun s' i' h1 h2=>⟨i',h1,h2⟩⟩).run fun i hi=>(rest i hi).run
 ·cases e
theorem Tt(hm:P.follows .mixedOrders=true){ι:Type}{live:agU Nat}{m k:Nat}{ks:agU Nat}{kn:agU (Nat×Nat)}{st:ι→St}{I:ι→Prop}{f:St→Prop}(hf:Mx k live m ks kn st I f)(i:ι)(bo:agU (agU (Nat×Ob P)))(hI:I i)(jc:agU (VE m):=[])(e0:HR m (wk P w0 bo)=jc.map VE.x:=by kernel_rfl)(e1:mD k (wK w0)=[f]:=by kernel_rfl)(e:GI k live m ks kn (wk P w0 bo)=some (st i,j0 bo):=by kernel_rfl):GW P r N0 Q w0:=by
 generalize hw:wk P w0 bo=w at e e0;unfold GI at e;split at e
 ·next k' s' l=>
  obtain⟨hb,e⟩:=mn e;obtain⟨e2,rfl⟩:=nB e;rw[beq_iff_eq]at hb;subst hb;exact El hm bo e1 hw (hf.h _ i (Ce _ jc e0) e2 hI)
 ·cases e
theorem aeX(hm:P.follows .mixedOrders=true){ι:Type}(k:Nat)(bo:agU (agU (Nat×Ob P)))(live:agU Nat)(m:Nat)(ks:agU Nat)(kn:agU (Nat×Nat))(st:ι→St)(I:ι→Prop)
 (br:∀f:St→Prop,Mx k live m ks kn st I f→GW P r N0 Q (O6 k f (wk P w0 bo)))
 (rest:∀i,I i→GW P r N0 Q (Rt (st i) (wk P w0 bo))) (hN:N0≤m:=by exact agd rfl) (e:Dt (wk P w0 bo)=some (j0 bo):=by kernel_rfl):GW P r N0 Q w0:=by
 generalize hw:wk P w0 bo=w at e br rest;unfold Dt at e;split at e
 ·cases e
  refine lx hm hw fun K _=> ?_;exact Uk live m ks kn st I hN (br _ ⟨fun s' i' h0 h1 h2=>⟨i',⟨h0,h1⟩,h2⟩⟩).run fun i hi=>(rest i hi).run
 ·cases e
theorem Fy:∀{K:agU Fr}{y:Code}{K':agU Fr}{s:St},yt K=some (y,K')→bB P r N0 y (fU P r N0 Q K') s→fU P r N0 Q K .normal s
 |[],_,_,_,h,_=>by cases h
 | .S y::K,_,_,_,h,k=>by cases h;exact k
 | .B _::K,_,_,s,h,k=>Fy (K:=K) (s:=s) h k
 | .F _ _::K,_,_,_,h,_=>by cases h
theorem dn(hm:P.follows .mixedOrders=true)(Δ:agU (Nat×AV))(h':agU an)(e:∃bo:agU (Nat×Ob P),NY P (Δ.map (·.1)) (jO bo) (wk P w0 [])=some (Δ,h',jF bo))(k:GW P r N0 Q (xu Δ h' (wk P w0 [])))(e0:y6 (wk P w0 [])=some []:=by kernel_rfl):GW P r N0 Q w0:=by
 generalize hw:wk P w0 []=w at e k e0;obtain⟨bo,e⟩:=e;unfold NY at e;split at e
 ·next id ops dr K' s' l=>
  obtain⟨hb,e⟩:=mn e;rw[af7]at hb;cases e0
  refine lx hm hw fun K _=> ?_;obtain⟨s1,h1,h2,h3,h4⟩:=Gk e;obtain⟨p,hp⟩:=Option.isSome_iff_exists.1 hb.2;obtain⟨y,K2⟩:=p;have hk:fU P r N0 Q K' .normal s1:=by
   refine Fy hp (Fx (s:=s1) (s':=⟨s'.n,Δ++s'.t,h'⟩) h2.symm h3.symm h4 ?_);have k:=k.run;simp only[xu,hp]at k;exact k
  show bB P r N0 (.region id ops dr) (fU P r N0 Q K') s';have dv:=vr (P:=P) (ops:=ops.toList.toArray) (dr:=dr) (K:=fU P r N0 Q K' .normal) ops.toList 0 s' _ h1 (qk bo) hk;cases dr with
  |false=>exact e7 (by simpa using dv)
  |true=>
   have hl:nI ops.toList.toArray=true:=by simpa using hb.1
   have:=DV (P:=P) (r:=r) (N0:=N0) (Q:=fU P r N0 Q K') (s:=s') (id:=id) (l:=ops.toList) hm hl (by simpa using dv)
   simpa using this
 ·cases e
def Rk(P:agX)(keep:agU Nat)(as:agU (Nat×b5)):WO→agW (agU (agU (Nat×AV)×agU an×agU (In×b5)))
 |some (.at (.region _ ops true) K s,_)=>bif (yt K).isSome then xC P ops.toList as keep s else none
 |_=>none
theorem ZK(m:Nat)(hm:P.follows .mixedOrders=true)(Δ:agU (Nat×AV))(h':agU an)(e:∃bo:agU (Nat×Ob P),Rk P (Δ.map (·.1)) (jO bo) (wk P w0 [])=some (List.replicate m (Δ,h',jF bo)))(k:GW P r N0 Q (xu Δ h' (wk P w0 [])))(e0:y6 (wk P w0 [])=some []:=by kernel_rfl):GW P r N0 Q w0:=by
 generalize hw:wk P w0 []=w at e k e0;obtain⟨bo,e⟩:=e;unfold Rk at e;split at e
 ·next id ops K' s' l=>
  obtain⟨hb,e⟩:=mn e;cases e0
  refine lx hm hw fun K _=> ?_;obtain⟨p,hp⟩:=Option.isSome_iff_exists.1 hb;obtain⟨y,K2⟩:=p;show bB P r N0 (.region id ops true) (fU P r N0 Q K') s';have:=rte (r:=r) (N0:=N0) (Q:=fU P r N0 Q K') (id:=id) (ol:=ops.toList) (n:=s'.n) (t:=s'.t) (h:=s'.h) m hm bo Δ h' e (Fy hp (by
   have k:=k.run;simp only[xu,hp]at k;exact k))
  simpa using this
 ·cases e
def Sg(P:agX)(keep:agU Nat)(as:agU (Nat×b5)):WO→agW (agU (Nat×AV)×agU an×agU (In×b5))
 |some (.at (.region _ ops true) K s,_)=>bif (yt K).isSome&&Df true ops (List.range ops.toList.length)&&Ee as 0 ops.toList then ot P false ops.toList as keep s else none
 |_=>none
theorem Ma(hm:P.follows .mixedOrders=true)(bo:agU (Nat×Ob P))(Δ:agU (Nat×AV))(h':agU an)(k:GW P r N0 Q (xu Δ h' (wk P w0 [])))(e:Sg P (Δ.map (·.1)) (jO bo) (wk P w0 [])=some (Δ,h',jF bo):=by kernel_rfl)(e0:y6 (wk P w0 [])=some []:=by kernel_rfl):GW P r N0 Q w0:=by
 generalize hw:wk P w0 []=w at e k e0;unfold Sg at e;split at e
 ·next id ops K' s' l=>
  obtain⟨hb,e⟩:=mn e;rw[af7,af7]at hb;cases e0
  refine lx hm hw fun K _=> ?_;obtain⟨p,hp⟩:=Option.isSome_iff_exists.1 hb.1.1;obtain⟨y,K2⟩:=p;show bB P r N0 (.region id ops true) (fU P r N0 Q K') s';have hk:bB P r N0 y (fU P r N0 Q K2) ⟨s'.n,Δ++s'.t,h'⟩:=by
   have k:=k.run;simp only[xu,hp]at k;exact k
  obtain⟨s1,h1,h2,h3,h4⟩:=Gk e;have CY:fU P r N0 Q K' .normal s1:=Fy hp (Fx (s:=s1) (s':=⟨s'.n,Δ++s'.t,h'⟩) h2.symm h3.symm h4 hk);have hl:Df true ops.toList.toArray (List.range ops.toList.length)=true:=by simpa using hb.1.2
  have:bB P r N0 (.region id ops.toList.toArray true) (fU P r N0 Q K') s':=by
   refine acB (m:=true) (List.range ops.toList.length) hm (by simp) hl ?_;rw[Ym];exact PD ops.toList 0 _ _ h1 (qk bo) hb.2 CY
  simpa using this
 ·cases e
def KP(b:Nat):an→agU (Nat×Nat×Nat×Nat)
 | .cells cs=>AV.kX b cs
 | .lp .. =>[(1,0,0,0)]
 | .it .. =>[(1,0,0,0)]
 |_=>[]
structure VM(b L kk:Nat)(ys:List (List D)) where
 x:List (List AV)
 y:List (List AV)
 ok:ys.length=L→y=x.map (·.map (AV.c6 b kk ys))
def VM.dat{b L kk:Nat}{ys:agU (agU D)}(zs:agU (agU D)):VM b L kk ys:=⟨aI zs,aI zs,fun _=>(sP (fun d=>by simp [AV.c6]) zs).symm⟩
def VM.rw{b L kk:Nat}{ys:agU (agU D)}(zs:agU (agU D))(i:Nat)(cs bV:agU AV)(c:Nat)(h:AV.kX b cs=List.replicate c (0,L,L,kk):=by kernel_rfl)(e:AV.jA b ys cs=bV:=by kernel_rfl):VM b L kk ys:=
 ⟨(aI zs).set i cs,(aI zs).set i bV,fun hL=>by rw[List.map_set,sP (fun d=>by simp [AV.c6]),←nX,po _ (wN hL h),e]⟩
def VM.row{b L kk:Nat}{ys:agU (agU D)}{α:Type}(f:α→agU D)(E:agU α)(i:Nat)(cs:agU AV)(y:α)(c:Nat)(h:AV.kX b cs=List.replicate c (0,L,L,kk):=by kernel_rfl)(e:AV.jA b ys cs=(f y).map AV.d:=by kernel_rfl):VM b L kk ys:=
 ⟨(aI (E.map f)).set i cs,aI ((E.set i y).map f),fun hL=>by
   have h1:((aI (E.map f)).set i cs).map (·.map (AV.c6 b kk ys))=(aI (E.map f)).set i (cs.map (AV.c6 b kk ys)):=by rw[List.map_set,sP (fun d=>by simp [AV.c6])]
   have h2:cs.map (AV.c6 b kk ys)=(f y).map AV.d:=by rw[←nX,po _ (wN hL h),e]
   rw[h1,h2];exact(aaZ rfl).symm⟩
def pH(b:Nat)(ys:agU (agU D)):agU an→agU (agU (agU AV))→agU an
 |[],_=>[]
 |B::l,vs=>match B with
  | .vec e k cs=>match vs with
    |v::vs=> .vec e k v::pH b ys l vs
    |[]=> .vec e k cs::pH b ys l []
  | .cells cs=> .cells (AV.jA b ys cs)::pH b ys l vs
  |B=>B::pH b ys l vs
theorem Tr{b L kk:Nat}{ys:agU (agU D)}(hL:ys.length=L):∀(h:agU an)(vs:agU (VM b L kk ys)),rP h=vs.map VM.x→(∀q∈h.flatMap (KP b),q=(0,ys.length,ys.length,kk))→pH b ys h (vs.map VM.y)=h.map (an.gZ (AV.c6 b kk ys))
 |[],_,_,_=>rfl
 |B::l,vs,hv,ho=>by
  have hl:∀vs:agU (VM b L kk ys),rP l=vs.map VM.x→pH b ys l (vs.map VM.y)=l.map (an.gZ (AV.c6 b kk ys)):=fun vs hv=>Tr hL l vs hv fun q hq=>ho q (by rw[List.flatMap_cons];exact List.mem_append_right _ hq);have hb:∀q∈KP b B,q=(0,ys.length,ys.length,kk):=fun q hq=>ho q (by rw[List.flatMap_cons];exact List.mem_append_left _ hq);cases B with
  |vec e k cs=>
   cases vs with
   |nil=>cases hv
   |cons v vs=>
    have Xy:cs=v.x:=(List.cons.inj hv).1;have e1:(an.vec e k cs).gZ (AV.c6 b kk ys)= .vec e k v.y:=by rw[v.ok hL,Xy];rfl
    show an.vec e k v.y::pH b ys l (vs.map VM.y)=an.gZ (AV.c6 b kk ys) (.vec e k cs)::l.map _;rw[hl vs (List.cons.inj hv).2,e1]
  |cells cs=>
   have e1:(an.cells cs).gZ (AV.c6 b kk ys)= .cells (AV.jA b ys cs):=by
    rw[←po cs hb,nX];rfl
   show an.cells (AV.jA b ys cs)::pH b ys l (vs.map VM.y)=an.gZ (AV.c6 b kk ys) (.cells cs)::l.map _;rw[hl vs hv,e1]
  |front e k n=>exact congrArg (an.front e k n::·) (hl vs hv)
  |map kv=>exact congrArg (an.map kv::·) (hl vs hv)
  |gone=>exact congrArg (an.gone::·) (hl vs hv)
  |lp ls p as bd cs=>have:=congrArg Prod.fst (hb (1,0,0,0) agb);cases this
  |it sn cs=>have:=congrArg Prod.fst (hb (1,0,0,0) agb);cases this
theorem Yo{c:Code}{s:St}(live:agU Nat)(b:Nat)(xs:agU (agU D)){e k L:Nat}(h':agU an)(hb:s.h[b]?=some (.vec e k (aI xs)))(eZ:∀c∈xs,c.all D.lY=true)(hL:xs.length=L)
 (ho:∀q∈live.flatMap fun i=>(bm s.t i).j5 b,q=(0,xs.length,xs.length,k)) (hh:h'=s.h.map (an.gZ (AV.c6 b k xs))) (K:bB P r N0 c Q ⟨s.n,live.map (fun i=>(i,(bm s.t i).mlt b xs)),h'.set b .gone⟩):bB P r N0 c Q s:=by
 constructor
 intro G w a n hs hN;obtain⟨G',hE,e1,cy⟩:=hs.LW xs hb eZ;refine wpIn_mono (K.run G' w a n (cy.less rfl (by rw[hh]) fun i=> ?_) (by rw[e1];exact hN)) fun _ _ _ hn=>hn.trans (hE.less hN);show bm (live.map (fun i=>(i,(bm s.t i).mlt b xs))) i=bm (s.t.map fun p=>(p.1,p.2.c6 b k xs)) i∨_;rw[mS (fun k=>(bm s.t k).mlt b xs),s6 (AV.c6 b k xs) (by simp [AV.c6])];split
 ·next hi=>
  left
  refine(IF _ fun q hq=>ho q ?_).symm;exact List.mem_flatMap.2 ⟨i,hi,hq⟩
 ·exact .inr rfl
def Yp(live:agU Nat)(b:Nat)(s:St):agU (Nat×Nat×Nat×Nat):=(live.flatMap fun i=>(bm s.t i).j5 b)++s.h.flatMap (KP b)
def WS(live:agU Nat)(b:Nat)(ys:agU (agU D))(vs:agU (agU (agU AV)))(s:St):St:=⟨s.n,live.map (fun i=>(i,(bm s.t i).mlt b ys)),(pH b ys s.h vs).set b .gone⟩
def aeg(live:agU Nat)(m:Nat):WO→agW St
 |some (.at _ _ s,_)=>Go.Proofs.YtphmhnabilhbgaaGreatDoor.iA s live m
 |_=>none
theorem Ya(live:agU Nat)(m:Nat)(s1:St)(hN:N0≤m)(k:GW P r N0 Q (CH (fun _=>s1) w0))(e:aeg live m w0=some s1:=by kernel_rfl):GW P r N0 Q w0:=by
 constructor
 unfold rm;split
 ·exact gk live m hN e k.run
 ·trivial
theorem DO(live:agU Nat)(b:Nat){xs:agU (agU D)}(ys:agU (agU D))(L c e k:Nat)(vs:agU (VM b L k ys))(hL:xs.length=L)(hy:ys=xs)(eZ:∀c∈xs,c.all D.lY=true)(K:GW P r N0 Q (CH (WS live b ys (vs.map VM.y)) w0))(hb:(wS w0).h[b]?=some (.vec e k (aI xs)):=by kernel_rfl)(ho:Yp live b (wS w0)=List.replicate c (0,L,L,k):=by kernel_rfl)(hv:rP (wS w0).h=vs.map VM.x:=by kernel_rfl):GW P r N0 Q w0:=by
 subst hy;constructor
 unfold rm;split
 ·next c K' s l=>
  have B8:=wN hL ho;exact Yo live b ys _ hb eZ hL (fun q hq=>B8 q (List.mem_append_left _ hq)) (Tr hL s.h vs hv fun q hq=>B8 q (List.mem_append_right _ hq)) K.run
 ·trivial
theorem Ru{m:Nat}:([]:agU an).all (an.aO m)=true:=rfl
theorem xF{B:an}{l:agU an}{m:Nat}(h:B.aO m=true)(k:l.all (an.aO m)=true):(B::l).all (an.aO m)=true:=by rw[agQ,h,k];rfl
theorem Sh{e k m:Nat}{xs:agU (agU D)}:(an.vec e k (aI xs)).aO m=true:=HZ xs
theorem abO{m n:Nat}{T:agU (Nat×AV)}{LP:an}{next:agU an→Prop}{Q:Exit→St→Prop}{s:St}(hs:agU an)(hl:hs.length=m)(hb:hs.all (an.aO (m+1))=true)(hc:gj (m+1) (s.h.take (m+1))∧j9 s [] (m+1) [] []=some ⟨s.n,[],hs++[LP]⟩)(hn:next hs):yI m n T LP next Q .normal s:=⟨hs,hl,hb,⟨fun h=>h.j9 hc.1 hc.2⟩,hn⟩
theorem dj(k:Nat)(xs:agU (agU D))(hx:(bm (wS w0).t k).fw=some xs)(h:rC (.sl xs)→GW P r N0 Q w0):GW P r N0 Q w0:=by
 constructor
 unfold rm;split
 ·next c K s l=>exact oJ k xs hx fun hl=>(h hl).run
 ·trivial
theorem oD(b i:Nat)(xs:agU (agU D))(hx:(((wS w0).h[b]?).bind fun B=>match B with| .cells cs=>(cs[i]?).bind AV.fw|_=>none)=some xs)(h:rC (.sl xs)→GW P r N0 Q w0):GW P r N0 Q w0:=by
 constructor
 unfold rm;split
 ·next c K s l=>exact aaV b i xs hx fun hl=>(h hl).run
 ·trivial
def adS(k e sz:Nat)(xs:agU (agU D))(s:St):St:=⟨s.n,(k, .own s.h.length xs)::s.t,s.h++[.front e sz xs.length]⟩
def Eb(b i e sz:Nat)(xs:agU (agU D))(s:St):St:=match s.h[b]? with
 |some (.cells cs)=>⟨s.n,s.t,(s.h++[an.front e sz xs.length]).set b (an.cells (cs.set i (AV.own s.h.length xs)))⟩
 |_=>s
def G8(xs:agU (agU D)):AV→Bool
 | .d (.v (.slice none 0 0))=>xs.isEmpty
 |_=>false
theorem MJ{xs:agU (agU D)}{x:AV}(h:G8 xs x=true):x= .d (.v (.slice none 0 0))∧xs=[]:=by
 unfold G8 at h;split at h
 ·exact⟨rfl,List.isEmpty_iff.1 h⟩
 ·cases h
theorem qQ(k e sz:Nat)(xs:agU (agU D))(hx:bm (wS w0).t k= .full xs∨G8 xs (bm (wS w0).t k)=true)(h:GW P r N0 Q (CH (adS k e sz xs) w0)):GW P r N0 Q w0:=by
 constructor
 unfold rm;split
 ·next c K s l=>exact OV k e sz xs (hx.imp id MJ) h.run
 ·trivial
def AV.Pl:AV→AV
 | .own _ xs=> .d (.sl xs)
 |x=>x
theorem AV.Le.dat(x:AV):AV.Le x x.Pl:=fun G w u h=>by
 cases h with
 |own n xs h1 hp h2 h3=>exact .d hp
 |_=>first|exact .d (by assumption)|(constructor<;>assumption)
def HL(b:Nat)(s:St):St:=match s.h[b]? with
 |some (.cells cs)=>⟨s.n,s.t,s.h.set b (an.cells (cs.map AV.Pl))⟩
 |_=>s
theorem acz{c:Code}{s:St}{Q:Exit→St→Prop}(b:Nat)(h:bB P r N0 c Q (HL b s)):bB P r N0 c Q s:=by
 unfold HL at h;split at h
 ·next cs hb=>
  constructor
  intro G w a n hs hN;obtain⟨h1,h2,vs,T,h3,h4,h5⟩:=hs.inv.dh _ _ hb;refine h.run G w a n ⟨hs.size,hs.tmp,IC hs.inv hb (by rw[aga]) fun ft T' rG j u c hu hc=> ?_,hs.df⟩ hN;rw[h3]at rG;cases rG
  rw[agc]at hc;cases hq:cs[j]? with
  |none=>rw[hq]at hc;cases hc
  |some y=>rw[hq]at hc;cases hc;exact AV.Le.dat y G w u (h5 j u y hu hq)
 ·exact h
theorem VS(b:Nat)(h:GW P r N0 Q (CH (HL b) w0)):GW P r N0 Q w0:=by
 constructor
 unfold rm;split
 ·next c K s l=>exact acz b h.run
 ·trivial
def G4(b i:Nat)(s:St):AV:=match s.h[b]? with
 |some (.cells cs)=>(cs[i]?).getD .dead
 |_=> .dead
theorem NU{b i:Nat}{s:St}{x:AV}(h:G4 b i s=x)(hx:x≠ .dead):∃cs,s.h[b]?=some (.cells cs)∧cs[i]?=some x:=by
 unfold G4 at h;split at h
 ·next cs hb=>
  refine⟨cs,hb,?_⟩;cases hq:cs[i]? with
  |none=>rw[hq]at h;exact absurd h.symm hx
  |some y=>rw[hq]at h;rw[←h];rfl
 ·exact absurd h.symm hx
theorem C1(b i e sz:Nat)(xs:agU (agU D))(hx:G4 b i (wS w0)= .full xs∨G8 xs (G4 b i (wS w0))=true)(h:GW P r N0 Q (CH (Eb b i e sz xs) w0)):GW P r N0 Q w0:=by
 constructor
 unfold rm;split
 ·next c K s l=>
  have h':bB P r N0 c (fU P r N0 Q K) (Eb b i e sz xs s):=h.run;rcases hx with hx|hx
  ·obtain⟨cs,h1,h2⟩:=NU hx (fun h=>by cases h);unfold Eb at h';rw[show s.h[b]?=some (.cells cs)from h1]at h';exact CS b i e sz xs h1 (.inl h2) h'
  ·obtain⟨h3,rfl⟩:=MJ hx;obtain⟨cs,h1,h2⟩:=NU h3 (fun h=>by cases h);unfold Eb at h';rw[show s.h[b]?=some (.cells cs)from h1]at h';exact CS b i e sz [] h1 (.inr ⟨h2,rfl⟩) h'
 ·trivial
end
theorem bc{α:Type}{c:Bool}{a b x:α}{G:Prop}(h:(bif c then a else b)=x)(t:c=true→a=x→G)(f:c=false→b=x→G):G:=by
 cases c with
 |true=>exact t rfl h
 |false=>exact f rfl h
theorem sj{α:Type}{a b:α}(h:some a=some b):a=b:=agp h
theorem dO{α:Type}{c:Bool}{x:agW α}{r:α}(h:(bif c then x else none)=some r):c=true∧x=some r:=by
 cases c with
 |true=>exact⟨rfl,h⟩
 |false=>cases h
def Ot(fn:Func)(args:agU AV)(h:agU an):WO:=some (.at (fn.body.getD .skip) [] {n:=args.length+(fn.ntmps-args.length),t:=kg 0 args,h:=h},[])
theorem bZ{P:agX}{f:FuncId}{fn:Func}{args:agU AV}{R:AV}(hf:P.funcs[f]?=some fn)(hb:fn.body.isSome=true)(hn:(fn.name== "runtime.NumGoroutine")=false)
 (hw:GW P none 0 (CI P fn R) (Ot fn args [])):bA P f args (·=R):=by
 obtain⟨c,hc⟩:=Option.isSome_iff_exists.1 hb;refine pk hf hc hn ?_;have:fn.body.getD .skip=c:=by rw[hc];rfl
 rw[←this];exact hw.run
theorem dS{P:agX}{f:FuncId}{fn:Func}{args:agU AV}{h H:agU an}{R:AV}(m:Nat)(hf:P.funcs[f]?=some fn)(hb:fn.body.isSome=true)(hn:(fn.name== "runtime.NumGoroutine")=false)(hm:h.length≤m)
 (hw:GW P none h.length (BD P fn m R H) (Ot fn args h)):bD P f args h fun r1 h1=>r1=R∧h1=H:=by
 obtain⟨c,hc⟩:=Option.isSome_iff_exists.1 hb;refine BX m hf hc hn hm ?_;have:fn.body.getD .skip=c:=by rw[hc];rfl
 rw[←this];exact hw.run
section DR
variable {P:agX}
def oL{α:Type}{f:agU α→agU (agU D)}(l:agU α)(h:(f l).length=l.length):Ob P:=⟨_,_, .len h⟩
def oE{xs:agU (agU D)}{k:Nat}{c:agU D}(h:xs[k]?=some c):Ob P:=⟨_,_, .el (xs:=xs) (i:=(k:Int)) (Int.natCast_nonneg _) h⟩
def oq{a b:AV}(h:a=b):Ob P:=⟨_,_, .eq h⟩
def os(ks:agU Nat)(o:Ob P)(l:agU (Nat×Ob P)):agU (Nat×Ob P):=ks.foldr (fun k t=>(k,o)::t) l
noncomputable def XX(x:Nat×Ob P)(l:agU (Nat×Ob P)):agU (Nat×Ob P):=List.rec [x] (fun y t r=>bif Nat.ble x.1 y.1 then x::y::t else y::r) l
noncomputable def so(l:agU (Nat×Ob P)):agU (Nat×Ob P):=l.foldr XX []
theorem cP{xs:agU (agU D)}{n:Nat}(e:xs.length=n)(h:rC (.sl xs)):n≤maxLen:=e▸CF h
end DR
inductive dV(P:Program):TypeId→List D→Prop
 |bool {t:TypeId} (b:Bool) (h:P.underlying t=some .bool):dV P t [.v (.bool b)]
 |int {t:TypeId} {k:IntKind} (n:Int) (h:P.underlying t=some (.int k)) (w:(Lit.int k n).wf=true):dV P t [.v (.int k n)]
 |str {t:TypeId} (s:ByteArray) (h:P.underlying t=some .string) (w:s.size≤maxLen):dV P t [.v (.string s)]
 |sl {t e:TypeId} (xs:List (List D)) (h:P.underlying t=some (.slice e)) (w:xs.length≤140737488355328) (hx:∀x∈xs,dV P e x):dV P t [.sl xs]
 |struct {t:TypeId} {fs:Array Field} (parts:List (List D)) (h:P.underlying t=some (.struct fs)) (hl:parts.length=fs.size) (hx:∀(i:Nat)(f:Field)(x:List D),fs[i]?=some f→parts[i]?=some x→dV P f.type x):dV P t parts.flatten
section
variable {P:agX} {t:TypeId} {xs:agU D}
theorem dV.WI(h:dV P t xs)(ht:P.underlying t=some .bool):∃b,xs=[.v (.bool b)]:=by
 cases h with
 |bool b h=>exact⟨b,rfl⟩
 |int n h=>rw[ht]at h;cases h
 |str s h=>rw[ht]at h;cases h
 |sl l h=>rw[ht]at h;cases h
 |struct p h=>rw[ht]at h;cases h
theorem dV.nv{k:IntKind}(h:dV P t xs)(ht:P.underlying t=some (.int k)):∃n,xs=[.v (.int k n)]∧k.min≤n∧n≤k.max:=by
 cases h with
 |bool b h=>rw[ht]at h;cases h
 |int n h w=>
  rw[ht]at h;cases h;unfold Lit.wf at w;simp only[af7,decide_eq_true_eq]at w;exact⟨n,rfl,w⟩
 |str s h=>rw[ht]at h;cases h
 |sl l h=>rw[ht]at h;cases h
 |struct p h=>rw[ht]at h;cases h
theorem dV.tB(h:dV P t xs)(ht:P.underlying t=some .string):∃s,xs=[.v (.string s)]∧s.size≤maxLen:=by
 cases h with
 |bool b h=>rw[ht]at h;cases h
 |int n h=>rw[ht]at h;cases h
 |str s h w=>exact⟨s,rfl,w⟩
 |sl l h=>rw[ht]at h;cases h
 |struct p h=>rw[ht]at h;cases h
theorem dV.py{e:TypeId}(h:dV P t xs)(ht:P.underlying t=some (.slice e)):∃l,xs=[.sl l]∧l.length≤140737488355328∧∀x∈l,dV P e x:=by
 cases h with
 |bool b h=>rw[ht]at h;cases h
 |int n h=>rw[ht]at h;cases h
 |str s h=>rw[ht]at h;cases h
 |sl l h w hx=>rw[ht]at h;cases h;exact⟨l,rfl,w,hx⟩
 |struct p h=>rw[ht]at h;cases h
theorem dV.mT{fs:Array Field}(h:dV P t xs)(ht:P.underlying t=some (.struct fs)):∃parts:agU (agU D),xs=parts.flatten∧parts.length=fs.size∧∀(i:Nat)(f:Field)(x:agU D),fs[i]?=some f→parts[i]?=some x→dV P f.type x:=by
 cases h with
 |bool b h=>rw[ht]at h;cases h
 |int n h=>rw[ht]at h;cases h
 |str s h=>rw[ht]at h;cases h
 |sl l h=>rw[ht]at h;cases h
 |struct p h hl hx=>rw[ht]at h;cases h;exact⟨p,rfl,hl,hx⟩
theorem oz{α:Type}{f:α→agU D}{Q:α→Prop}:∀l:agU (agU D),(∀x∈l,∃a,x=f a∧Q a)→∃r:agU α,l=r.map f∧∀a∈r,Q a
 |[],_=>⟨[],rfl,fun _ h=>by cases h⟩
 |x::l,h=>by
  obtain⟨a,rfl,ha⟩:=h x agb;obtain⟨r,rfl,hr⟩:=oz l fun y hy=>h y (age _ hy);refine⟨a::r,rfl,fun b hb=> ?_⟩;rcases agA.1 hb with rfl|hb
  ·exact ha
  ·exact hr b hb
end
def Ic(P:agX)(S:agU TypeId):Bool:=S.all fun t=>match P.underlying t with
 |some .bool|some (.int _)|some .string=>true
 |some (.slice e)=>S.contains e&&(decide (0<P.cellsOf e)&&decide (0<P.bytesOf e))
 |some (.struct fs)=>P.consecB fs.toList 0 (P.cellsOf t)&&fs.toList.all fun f=>S.contains f.type
 |_=>false
def jb(S:Nat→Nat→Prop)(w:agZ)(cs:agU agY)(xs:agU D):Prop:=xs.length=cs.length∧∀(i:Nat)(u:agY)(x:D),cs[i]?=some u→xs[i]?=some x→dq S w u x∧u.oneCell'=true
theorem jb.nil{S:Nat→Nat→Prop}{w:agZ}:jb S w [] []:=⟨rfl,fun i u x h=>by simp at h⟩
theorem jb.one{S:Nat→Nat→Prop}{w:agZ}{u:agY}{x:D}(h:dq S w u x)(h1:u.oneCell'=true):jb S w [u] [x]:=⟨rfl,fun i v y hv hy=>by
 cases i with
 |zero=>cases hv;cases hy;exact⟨h,h1⟩
 |succ i=>simp at hv⟩
theorem jb.app{S:Nat→Nat→Prop}{w:agZ}{a b:agU agY}{x y:agU D}(h:jb S w a x)(k:jb S w b y):jb S w (a++b) (x++y):=by
 refine⟨by simp [h.1,k.1],fun i u z hu hz=> ?_⟩;by_cases hi:i<a.length
 ·rw[agf hi]at hu;rw[agf (by rw[h.1];exact hi)]at hz;exact h.2 i u z hu hz
 ·rw[agm (by omega)]at hu;rw[agm (by rw[h.1];omega),h.1]at hz;exact k.2 _ u z hu hz
theorem UC{α:Type}{Q:Nat→α→Prop}:∀n:Nat,(∀i,i<n→∃x,Q i x)→∃l:agU α,l.length=n∧∀i x,l[i]?=some x→Q i x
 |0,_=>⟨[],rfl,fun i x h=>by simp at h⟩
 |n+1,h=>by
  obtain⟨l,h1,h2⟩:=UC n fun i hi=>h i (by omega);obtain⟨x,hx⟩:=h n (by omega);refine⟨l++[x],by simp [h1],fun i y hy=> ?_⟩;by_cases hi:i<l.length
  ·rw[agf hi]at hy;exact h2 i y hy
  ·rw[agm (by omega)]at hy;have:i-l.length=0:=by
     by_cases e:i-l.length=0
     ·exact e
     ·rw[agC (by simp;omega)]at hy;cases hy
   rw[this]at hy;cases hy;have:i=n:=by omega
   rw[this];exact hx
theorem U1{a:Addr}(h:a.spot=none)(n:Nat):a.add n=⟨a.block,a.off+n,none⟩:=by
 unfold Addr.add;split
 ·next e=>subst e;cases a;simp only at h;subst h;rfl
 ·rfl
section
variable {H:Type} {enc:TypeId×agY→H} {P:agX} {W:agZ} {Ts:agU TypeId}
abbrev qF(W:agZ):Nat→Nat→Prop:=fun b _=>b<W.heap.size
theorem Vk{S:Nat→Nat→Prop}{w:agZ}:dq S w (.slice none 0 0) (.sl []):=
 .sl none 0 0 0 0 [] (fun _ _=>undef) (fun h=>absurd rfl h) (agh _) (by simp) (fun _ h=>by cases h) (fun i j hi=>by simp at hi) (fun i j x d hx=>by simp at hx)
theorem Qx{e:TypeId}:∀{l:agU (DataW H)}{d:DataW H},d∈l→∀n∈d.weights P e,n∈DataW.weightsAll P e l
 |[],_,h,_,_=>by cases h
 |x::l,d,h,n,hn=>by
  simp only[DataW.weightsAll,agI];rcases agA.1 h with rfl|h
  ·exact .inl hn
  ·exact .inr (Qx h n hn)
theorem Pq{fuel:Nat}(IH:∀(t:TypeId)(cs:agU agY)(d:DataW H)(ps:agU MemPlace),t∈Ts→(∀n∈d.weights P t,n≤reachBytes)→DataW.trod enc P W 0 (fun _=>true) true fuel t cs=some (d,ps)→∃xs,dV P t xs∧jb (qF W) W cs xs)(cs:agU agY):
 ∀(fs:agU Field)(off:Nat)(ys:agU (DataW H×agU MemPlace)),P.consecB fs off cs.length=true→(∀f∈fs,f.type∈Ts)→(∀n∈DataW.weightsEach P (fs.map (·.type)) (ys.map (·.1)),n≤reachBytes)→
  fs.mapM (fun f=>DataW.trod enc P W 0 (fun _=>true) true fuel f.type ((cs.drop f.offset).take (P.cellsOf f.type)))=some ys→
  ∃parts:agU (agU D),parts.length=fs.length∧(∀(i:Nat)(f:Field)(x:agU D),fs[i]?=some f→parts[i]?=some x→dV P f.type x)∧jb (qF W) W (cs.drop off) parts.flatten
 |[],off,ys,hc,_,_,_=>by
  simp only[Program.consecB,beq_iff_eq]at hc;refine⟨[],rfl,fun i f x h=>by simp at h,?_⟩;rw[List.drop_eq_nil_iff.2 (by omega)];exact jb.nil
 |f::fs,off,ys,hc,hS,hw,hm=>by
  simp only[Program.consecB,af7,beq_iff_eq]at hc;obtain⟨Lz,hc⟩:=hc;rw[List.mapM_cons]at hm;cases hx:DataW.trod enc P W 0 (fun _=>true) true fuel f.type ((cs.drop f.offset).take (P.cellsOf f.type))with
  |none=>simp [hx]at hm
  |some p=>
   cases kp:fs.mapM (fun f=>DataW.trod enc P W 0 (fun _=>true) true fuel f.type ((cs.drop f.offset).take (P.cellsOf f.type)))with
   |none=>simp [hx,kp]at hm
   |some ps=>
    obtain⟨d,q⟩:=p;obtain rfl:(d,q)::ps=ys:=by simpa [hx,kp]using hm
    simp only[agv,DataW.weightsEach,agI]at hw;obtain⟨x,h1,h2⟩:=IH f.type _ d q (hS f agb) (fun n hn=>hw n (.inl hn)) hx;obtain⟨parts,k1,k2,k3⟩:=Pq IH cs fs (off+P.cellsOf f.type) ps hc (fun g hg=>hS g (age _ hg)) (fun n hn=>hw n (.inr hn)) kp;refine⟨x::parts,by simp [k1],fun i g y hg hy=> ?_,?_⟩
    ·cases i with
     |zero=>cases hg;cases hy;exact h1
     |succ i=>exact k2 i g y (by simpa using hg) (by simpa using hy)
    ·rw[List.flatten_cons];rw[Lz]at h2;have:=h2.app k3
     rwa [take_drop_step]at this
theorem UX(hT:Ic P Ts=true):∀(fuel:Nat)(t:TypeId)(cs:agU agY)(d:DataW H)(ps:agU MemPlace),t∈Ts→(∀n∈d.weights P t,n≤reachBytes)→DataW.trod enc P W 0 (fun _=>true) true fuel t cs=some (d,ps)→∃xs,dV P t xs∧jb (qF W) W cs xs
 |0,t,cs,d,ps,_,_,h=>by simp [DataW.trod]at h
 |fuel+1,t,cs,d,ps,ht,ub,h=>by
  have IH:=UX hT fuel;have k8:=agw.1 hT t ht;unfold DataW.trod at h;split at h
  ·next b e=>exact⟨_, .bool b e,jb.one (.v _) rfl⟩
  ·next k k' n e=>
   split at h
   ·next hk=>obtain⟨rfl,hw⟩:=hk;exact⟨_, .int n e hw,jb.one (.v _) rfl⟩
   ·cases h
  ·next e=>rw[e]at k8;cases k8
  ·next s e=>
   split at h
   ·next hw=>exact⟨_, .str s e hw,jb.one (.v _) rfl⟩
   ·cases h
  ·next e=>rw[e]at k8;cases k8
  ·next e=>rw[e]at k8;cases k8
  ·next e e1=>exact⟨_, .sl [] e1 (Nat.zero_le _) (fun x hx=>absurd hx agM),jb.one Vk rfl⟩
  ·next e a len cap e1=>
   rw[e1]at k8;simp only[af7,List.contains_iff_mem,decide_eq_true_eq]at k8;obtain⟨VX,IP,np⟩:=k8;simp only at h;split at h
   ·next hb=>
    obtain⟨_,jN,oH⟩:=hb;rw[Option.bind_eq_some_iff]at h;obtain⟨elems,Ad,lq⟩:=h;rw[Option.map_eq_some_iff]at lq;obtain⟨rest,_,lq⟩:=lq;cases lq
    simp only[DataW.weights,e1,agA,agI,aga]at ub;have hlen:elems.length=len:=by simpa using mapM_some_length Ad
    have hQ:∀i,i<len→∃x:agU D,dV P e x∧∃bV,W.cells? 0 (a.add (i*P.cellsOf e)) (P.cellsOf e)=some bV∧jb (qF W) W bV x:=fun i hi=>by
     have h1:=mapM_some_get Ad i i (by simp [hi]);rw[af9 (by omega)]at h1;rw[Option.bind_eq_some_iff]at h1;obtain⟨bV,h2,h3⟩:=h1;obtain⟨x,h4,h5⟩:=IH e bV elems[i].1 elems[i].2 VX (fun n hn=>ub n (.inr (.inl (Qx (List.mem_map.2 ⟨_,List.getElem_mem _,rfl⟩) n hn)))) h3;exact⟨x,h4,bV,h2,h5⟩
    obtain⟨xs,sD,UW⟩:=UC len hQ;have SH:xs≠ []→a.spot=none:=fun cO=>by
     have h0:0<len:=by cases xs with|nil=>exact(cO rfl).elim|cons x l=>simp at sD;omega
     obtain⟨x,_,bV,h2,_⟩:=hQ 0 h0;obtain⟨_,h3,h4⟩:=World.cells?_some h2;have h5:=h4 0 IP;rw[Nat.zero_mul]at h5;have e0:(a.add 0).add 0=a:=by simp [Addr.add]
     rw[e0,af9 (by omega)]at h5;unfold World.cell? at h5;split at h5
     ·split at h5
      ·cases h5
      ·next hn=>simpa using hn
     ·cases h5
    have fg:∀i x,xs[i]?=some x→x.length=P.cellsOf e∧∀j,j<P.cellsOf e→∃u,W.cell? ⟨a.block,a.off+i*P.cellsOf e+j,none⟩=some u∧u.oneCell'=true∧∀d,x[j]?=some d→dq (qF W) W u d:=fun i x hx=>by
     obtain⟨_,bV,h2,h3⟩:=UW i x hx;obtain⟨_,h4,h5⟩:=World.cells?_some h2;have hs:=SH (fun e=>by rw[e]at hx;simp at hx);refine⟨h3.1.trans h4,fun j hj=> ?_⟩;have h6:=h5 j hj;rw[U1 hs,U1 rfl,af9 (by omega)]at h6;have hjx:j<x.length:=by rw[h3.1,h4];exact hj
     have hd:x[j]?=some x[j]:=af9 hjx;have h7:=h3.2 j _ _ (af9 (by omega)) hd;exact⟨_,h6,h7.2,fun d eh=>by rw[hd]at eh;cases eh;exact h7.1⟩
    have aa3:xs.length≤140737488355328:=by
     have h1:=ub _ (.inl rfl);have h2:(elems.length+rest.length)*1≤(elems.length+rest.length)*P.bytesOf e:=Nat.mul_le_mul_left _ np;have h3:reachBytes≤140737488355328:=by decide
     omega
    refine⟨[.sl xs], .sl xs e1 aa3 (fun x hx=> ?_),jb.one ?_ rfl⟩
    ·obtain⟨i,hi,rfl⟩:=List.mem_iff_getElem.1 hx;exact(UW i _ (af9 hi)).1
    ·rw[←sD];refine .sl (some a) a.block a.off cap (P.cellsOf e) xs (fun i j=>(W.cell? ⟨a.block,a.off+i*P.cellsOf e+j,none⟩).getD undef) (fun cO=> ?_) (by omega) oH (fun x hx=> ?_) (fun i j hi hj=> ?_) fun i j x d hx hd=> ?_
     ·have:=SH cO;cases a;simp only at this;subst this;rfl
     ·obtain⟨i,hi,rfl⟩:=List.mem_iff_getElem.1 hx;exact(fg i _ (af9 hi)).1
     ·obtain⟨u,h1,h2,_⟩:=(fg i _ (af9 hi)).2 j hj;refine⟨World.block_lt_of_cell? W ⟨a.block,a.off+i*P.cellsOf e+j,none⟩ h1,?_,?_⟩
      ·rw[h1];rfl
      ·rw[h1];exact h2
     ·obtain⟨hl,hc⟩:=fg i x hx;obtain⟨u,h1,_,h3⟩:=hc j (by rw[←hl];exact(af5.1 hd).1);simp only[h1,Option.getD_some];exact h3 d hd
   ·cases h
  ·next bV fs e1=>
   rw[e1]at k8;simp only[af7,agw,List.contains_iff_mem]at k8;split at h
   ·next hl=>
    rw[Option.map_eq_some_iff]at h;obtain⟨ys,hm,lq⟩:=h;cases lq
    simp only[DataW.weights,e1]at ub;obtain⟨parts,k1,k2,k3⟩:=Pq IH _ fs.toList 0 ys (by rw[hl];exact k8.1) k8.2 ub hm;exact⟨_, .struct parts e1 (by simpa using k1) (fun i f x hf=>k2 i f x (by simpa using hf)),by simpa using k3⟩
   ·cases h
  all_goals first|(cases h;done)|(exfalso;revert k8;(next e=>rw[e];intro h0;cases h0))
theorem Y2{t:TypeId}{v:agY}{d:DataW H}{ps:agU MemPlace}(hT:Ic P Ts=true)(hm:t∈Ts)(hw:∀n∈d.weights P t,n≤reachBytes)(h:DataW.Trod enc P W 0 (fun _=>true) true t v d ps):∃xs,dV P t xs∧jb (qF W) W v.cells.toList xs:=
 let ⟨fuel,h⟩:=h
 UX hT fuel t _ d ps hm hw h
theorem afB{t:TypeId}{fs:Array Field}{v:agY}{r:Reach}{base:Nat}(ht:P.underlying t=some (.struct fs))(h:Value.okWide P W r base t v):∃cs,v= .agg cs:=by
 unfold Value.okWide at h;rw[ht]at h;obtain⟨cs,rfl,_⟩:=h;exact⟨cs,rfl⟩
theorem ae6{G:Gh}(hS:G.S=qF W){cs:Array agY}{xs:agU D}(h:jb (qF W) W cs.toList xs):aE G W (.agg cs) (.agg (xs.map .d)):=by
 refine .agg cs _ (by rw[aga,h.1,agD]) fun i u c hu hc=> ?_;rw[agc]at hc;cases hx:xs[i]? with
 |none=>rw[hx]at hc;cases hc
 |some x=>
  rw[hx]at hc;cases hc
  exact .d (hS▸(h.2 i u x (by rw[agt];exact hu) hx).1)
end
end Go.Proofs.YtphmhnabilhbgaaGreatDoor
