/-
  Part 3 of the proof: AbsInst, AbsExec, AbsExecV, AbsRange, AbsAny, AbsExec2, AbsExec3, AbsYield, AbsTree, AbsVecX, MemK, AbsVecD, AbsWk, OpenD.
-/
import Derived.Test.YtphmhnabilhbgaaGreatDoorPk2
import Derived.WalkKit
import Derived.Laws.CopyOwn
import Derived.Deep.AppendLies
import Derived.Lib.AppendZerosOnto
import Derived.Lib.Overlaps
import Derived.Lib.Hide
import Derived.ProofKit
import Derived.DataOpen
import Derived.SizedLaws
namespace Go.Proofs.YtphmhnabilhbgaaGreatDoor
open Go.RowKit
def vl(P:aiH)(rs:aiE ResultVar)(m:Nat)(s:St):aiG (AV×aiE an):=
 match qE P s rs with
 |some l=>bif cN m s.h.length&&((jk l).bU m).bf m&&(((s.h.take m).map (an.bU m)).all (an.bf m))then some (((jk l).bU m).nrm,((s.h.take m).map (an.bU m)).map an.ni)else none
 |none=>none
def ED(P:aiH)(fn:Func)(m:Nat)(R:AV)(H:aiE an):Exit→St→Prop
 | .normal,s=>vl P fn.results.toList m s=some (R,H)
 | .ret,s=>vl P fn.results.toList m s=some (R,H)
 |_,_=>False
theorem Om{P:aiH}{s:St}{fn:Func}{m:Nat}{R:AV}{H:aiE an}(h:vl P fn.results.toList m s=some (R,H)):py P fn m (fun r h'=>r.nrm=R∧h'.map an.ni=H) s:=by
 unfold vl at h;split at h
 ·next l e=>
  obtain⟨hb,he⟩:=eh h;cases he
  simp only[ahR,dQ]at hb;exact CH _ _ _ e ⟨hb.1.1,hb.1.2,hb.2,rfl,rfl⟩
 ·cases h
theorem EK{P:aiH}{s:St}{fn:Func}{m:Nat}{R:AV}{H:aiE an}(h:vl P fn.results.toList m s=some (R,H)):ED P fn m R H .ret s:=h
theorem D5{P:aiH}{f:FuncId}{fn:Func}{c:Code}{args:aiE AV}{h H:aiE an}{R:AV}(m:Nat)(hf:P.funcs[f]?=some fn)(hb:fn.body=some c)(hn:(fn.name== "runtime.NumGoroutine")=false)(hm:h.length≤m)
 (hw:bS P none h.length c (ED P fn m R H) {n:=args.length+(fn.ntmps-args.length),t:=kS 0 args,h:=h}):bY P f args h fun r1 h1=>r1=R∧h1=H:=by
 have h0:=Ah (P:=P) (f:=f) (args:=args) (h:=h) (K:=fun r h'=>r.nrm=R∧h'.map an.ni=H) m hf hb hn hm (hw.mono fun e s hq=>by
  cases e with
  |normal=>exact Om hq
  |ret=>exact Om hq
  |_=>exact hq.elim)
 refine⟨h0.1,fun G w vs hi hl hr=>(h0.2 G w vs hi hl hr).mono fun e w' hp=> ?_⟩;obtain⟨v,G',x,h',rfl,hE,hN,dT,hv,rfl,rfl⟩:=hp;exact⟨v,G',x.nrm,_,rfl,hE,hN,L1 dT,hv.nrm,rfl,rfl⟩
theorem lP{P:aiH}{r:aiG Nat}{N0:Nat}{c:Code}{s s':St}{Q:Exit→St→Prop}(e:s=s')(h:bS P r N0 c Q s'):bS P r N0 c Q s:=e▸h
def gL{V:Type}:aiE (aiF×V)→aiF→V→V
 |[],_,d=>d
 |(k,v)::l,s,d=>bif bL k==bL s then v else gL l s d
def ry{V:Type}:aiE (aiF×V)→aiF→Bool
 |[],_=>false
 |(k,_)::l,s=>bif bL k==bL s then true else ry l s
def dC(l:aiE (aiF×Int)):aiE (aiF×D):=l.map fun p=>(p.1, .v (.int .i64 p.2))
def zq(l:aiE (aiF×Bool)):aiE (aiF×D):=l.map fun p=>(p.1, .v (.bool p.2))
theorem NF{V:Type}(f:V→D):∀(l:aiE (aiF×V))(s:aiF)(d:V),kO (l.map fun p=>(p.1,f p.2)) s=bif ry l s then some (f (gL l s d))else none
 |[],s,d=>rfl
 |(k,v)::l,s,d=>by
  simp only[aie,kO,ry,gL];cases bL k==bL s with
  |true=>rfl
  |false=>simp only[cond_false];exact NF f l s d
theorem NZ{V:Type}:∀(l:aiE (aiF×V))(s:aiF)(d:V),ry l s=false→gL l s d=d
 |[],s,d,_=>rfl
 |(k,v)::l,s,d,h=>by
  unfold ry at h;unfold gL;cases e:bL k==bL s with
  |true=>rw[e]at h;cases h
  |false=>rw[e]at h;simp only[cond_false];exact NZ l s d h
theorem Pj{V:Type}(f:V→D)(z:aiI)(d0:V)(hz:f d0= .v z)(ok:Bool)(l:aiE (aiF×V))(s:aiF):
 ve ok z (kO (l.map fun p=>(p.1,f p.2)) s)=bif ok then .cb [.d (f (gL l s d0)), .d (.v (.bool (ry l s)))]else .d (f (gL l s d0)):=by
 rw[NF f l s d0];cases e:ry l s with
 |true=>cases ok<;>rfl
 |false=>rw[NZ l s d0 e,hz];cases ok<;>rfl
theorem Du(ok:Bool)(l:aiE (aiF×Int))(s:aiF):ve ok (.int .i64 0) (kO (dC l) s)=bif ok then .cb [.d (.v (.int .i64 (gL l s 0))), .d (.v (.bool (ry l s)))]else .d (.v (.int .i64 (gL l s 0))):=
 Pj (fun n=> .v (.int .i64 n)) _ 0 rfl ok l s
theorem Q8(ok:Bool)(l:aiE (aiF×Bool))(s:aiF):ve ok (.bool false) (kO (zq l) s)=bif ok then .cb [.d (.v (.bool (gL l s false))), .d (.v (.bool (ry l s)))]else .d (.v (.bool (gL l s false))):=
 Pj (fun n=> .v (.bool n)) _ false rfl ok l s
theorem Ka{l:aiE (aiF×Int)}(h:Nat.blt l.length 9223372036854775807=true):(Sd.lt (dC l).length).ok:=by
 unfold dC;rw[ahU];exact ahX h
theorem Ws{l:aiE (aiF×Bool)}(h:Nat.blt l.length 9223372036854775807=true):(Sd.lt (zq l).length).ok:=by
 unfold zq;rw[ahU];exact ahX h
def gI(g:Nat):aiE Int:=((Ab yg g).getD []).map fun v=>match v with| .int _ n=>n|_=>0
def agf(l:aiE Int):aiF:=⟨(l.map fun n=>UInt8.ofNat n.toNat).toArray⟩
theorem afG{α:Type}{c:Bool}{x y z:α}(h:(bif c then x else y)=z):(c=true∧x=z)∨(c=false∧y=z):=by
 cases c with
 |true=>exact .inl ⟨rfl,h⟩
 |false=>exact .inr ⟨rfl,h⟩
inductive HD
 |same
 |push (B:an)
 |set (n:Nat) (B:an)
def HD.app:HD→aiE an→aiE an
 | .same,h=>h
 | .push B,h=>h++[B]
 | .set n B,h=>h.set n B
def zN:Int→aiG Nat
 | .ofNat n=>some n
 | .negSucc _=>none
theorem Ct{z:Int}{n:Nat}(h:zN z=some n):0≤z∧z.toNat=n:=by
 cases z with
 |ofNat m=>cases h;exact⟨Int.natCast_nonneg _,rfl⟩
 |negSucc m=>cases h
def sC(ρ:Operand→AV)(d:Nat):aiG Operand→aiG Nat
 |none=>some d
 |some y=>match (ρ y).int? with
  |some z=>zN z
  |none=>none
def EL(k:Nat)(xs:aiE (aiE D)):Bool:=xs.all fun c=>c.length==k
def H7(P:aiH)(T:TypeId)(x i:AV):aiG AV:=
 match eE P T with
 |some (_,k)=>match x with
  | .row n off len _ k'=>match i.int? with
    |some z=>match zN z with
     |some q=>bif k'==k&&cN (q+1) len then some (.ptr n (off+q*k))else none
     |none=>none
    |none=>none
  |x=>match x.fY,i.int? with
   |some xs,some z=>match zN z with
    |some q=>match xs[q]? with
     |some c=>bif c.length==k then some (.bt [c] 0 0)else none
     |none=>none
    |none=>none
   |_,_=>none
 |none=>match sP P T,x,i.int? with
  |some (n,_,k), .ptr b off,some z=>match zN z with
   |some q=>bif cN (q+1) n then some (.ptr b (off+q*k))else none
   |none=>none
  |some (n,_,k), .bt xs e off,some z=>match zN z with
   |some q=>bif k==1&&cN (q+1) n then match xs[e]? with
    |some c=>match c[off+q]? with
     |some d=>some (.bt [[d]] 0 0)
     |none=>none
    |none=>none
    else none
   |none=>none
  |_,_,_=>none
theorem WL{P:aiH}{T:TypeId}{x i y:AV}{K:AV→Prop}(h:H7 P T x i=some y)(hK:K y):p5 P T x i K:=by
 unfold H7 at h;unfold p5;split at h
 ·next e k eT=>
  simp only[eT];split at h
  ·next n off len cap k'=>
   simp only;split at h
   ·next z ez=>
    simp only[ez];split at h
    ·next q eq=>
     obtain⟨h0,h1⟩:=Ct eq;obtain⟨hb,he⟩:=eh h;rw[ahR,dQ]at hb;refine cr.2 ⟨hb.1,h0,by omega,?_⟩;rw[h1,he];exact hK
    ·cases h
   ·cases h
  ·next x' kd=>
   split at h
   ·next xs z e1 e2=>
    split at h
    ·next q eq=>
     obtain⟨h0,h1⟩:=Ct eq;split at h
     ·next c ec=>
      obtain⟨hb,he⟩:=eh h;simp only[e1,e2];refine⟨h0,?_⟩;rw[h1,ec];exact⟨by simpa using hb,by rw[he];exact hK⟩
     ·cases h
    ·cases h
   ·cases h
 ·next eT=>
  simp only[eT];split at h
  ·next n e k b off z e1 e2=>
   simp only[e1,e2];split at h
   ·next q eq=>
    obtain⟨h0,h1⟩:=Ct eq;obtain⟨hb,he⟩:=eh h;rw[dQ]at hb;exact⟨h0,by omega,by rw[h1,he];exact hK⟩
   ·cases h
  ·next n e0 k xs e off z e1 e2=>
   simp only[e1,e2];split at h
   ·next q eq=>
    obtain⟨h0,h1⟩:=Ct eq;obtain⟨hb,h⟩:=mB h;rw[ahR,dQ]at hb;split at h
    ·next c ec=>
     split at h
     ·next d ed=>
      cases h
      refine cr.2 ⟨hb.1,h0,by omega,?_⟩;rw[ec];simp only;rw[h1,ed];exact hK
     ·cases h
    ·cases h
   ·cases h
  ·cases h
def ahE(P:aiH)(T:TypeId)(ρ:Operand→AV)(x:AV)(lo hi mx:aiG Operand):aiG AV:=
 match mx with
 |none=>
  match x with
  | .d (.v (.string b))=>match sC ρ b.size hi,sC ρ 0 lo with
    |some h,some l=>bif gK P T&&cN h b.size&&cN l h then some (.d (.v (.string (b.extract l h))))else none
    |_,_=>none
  | .ptr n off=>match sP P T with
    |some (m,_,k)=>match sC ρ m hi,sC ρ 0 lo with
     |some h,some l=>bif cN m 4096&&cN h m&&(cN l h&& !cN m l)then some (.row n (off+l*k) (h-l) (m-l) k)else none
     |_,_=>none
    |none=>none
  |x=>match x.fY,eE P T with
   |some xs,some (_,k)=>match sC ρ xs.length hi,sC ρ 0 lo with
    |some h,some l=>bif EL k xs&&cN h xs.length&&cN l h then some (.d (.sl ((xs.take h).drop l)))else none
    |_,_=>none
   |_,_=>none
 |some m=>match lo,hi with
  |none,some y=>match x.fY,eE P T with
   |some xs,some (_,k)=>match sC ρ 0 (some m),sC ρ 0 (some y)with
    |some c,some h=>bif EL k xs&&cN c xs.length&&h==c then some (.full (xs.take h))else none
    |_,_=>none
   |_,_=>none
  |_,_=>none
def ahG(P:aiH)(T:TypeId)(h:aiE an)(x y:AV):aiG (AV×HD):=
 match eE P T with
 |some (e,k)=>match ib P e,ou P e with
  |some z,some dx=>match FR h k y with
   |some ys=>bif cN 1 k&&z.cells.toList.length==k&&EL k ys then
    match x with
    | .own n xs=>match h[n]? with
      |some (.front e' k' len)=>bif e'==e&&k'==k&&len==xs.length&&EL k xs&&cN (xs.length+ys.length) maxLen&&cN ((xs.length+ys.length)*dx) 140737488355328 then some (.own n (xs++ys), .set n (.front e k (xs.length+ys.length)))else none
      |_=>none
    | .d (.v (.slice none 0 0))=>bif cN ys.length maxLen&&cN (ys.length*dx) 140737488355328 then some (.own h.length ys, .push (.front e k ys.length))else none
    | .full xs=>bif EL k xs&&cN (xs.length+ys.length) maxLen&&cN ((xs.length+ys.length)*dx) 140737488355328 then some (.own h.length (xs++ys), .push (.front e k (xs.length+ys.length)))else none
    |_=>none
    else none
   |none=>none
  |_,_=>none
 |none=>none
def Vd:aiE (aiE D)→aiG (aiE Int)
 |[]=>some []
 |[.v (.int .u8 n)]::l=>match Vd l with
  |some ns=>some (n::ns)
  |none=>none
 |_=>none
def Ld:aiG (AV×In)→aiG AV
 |some (x, .none)=>some x
 |some (x, .nz b)=>bif b==0 then none else some x
 |some (x, .nn b)=>match zN b with
  |some _=>some x
  |none=>none
 |some (x, .cat n)=>bif cN n maxLen then some x else none
 |_=>none
theorem ae9{r:aiG (AV×In)}{x:AV}(P:aiH)(h:Ld r=some x):∃i,r=some (x,i)∧OK P i .ok:=by
 unfold Ld at h;split at h
 ·cases h;exact⟨_,rfl, .none⟩
 ·next b=>
  cases hb:b==0 with
  |true=>rw[hb]at h;cases h
  |false=>rw[hb]at h;cases h;exact⟨_,rfl, .nz (by simpa using hb)⟩
 ·next b=>
  split at h
  ·next e=>cases h;exact⟨_,rfl, .nn (Ct e).1⟩
  ·cases h
 ·obtain⟨hb,he⟩:=eh h;cases he
  exact⟨_,rfl, .cat (dQ.1 hb)⟩
 ·cases h
def pX(r:aiG AV):aiG (AV×HD):=
 match r with
 |some x=>some (x, .same)
 |none=>none
def ahF(P:aiH)(src dst:TypeId)(x:AV):aiG AV:=
 match Ic P src dst x .none with
 |some (y, .none)=>some y
 |_=>match x.fY,eE P src with
  |some xs,some (e,_)=>match Vd xs with
   |some ns=>match x with
    | .d (.v _)=>none
    |_=>bif EI P e&&gK P dst then some (.d (.v (.string (agf ns))))else none
   |none=>none
  |_,_=>none
def lk(P:aiH)(op:Op)(ρ:Operand→AV)(h:aiE an):aiG (AV×HD):=
 match op with
 | .move x| .assign x=>some (ρ x, .same)
 | .pick c x y=>match ρ c with
   | .d (.v (.bool b))=>some (bif b then ρ x else ρ y, .same)
   |_=>none
 | .alloc e=>match ib P e with
   |some z=>some (.ptr h.length 0, .push (.cells (z.cells.toList.map fun u=> .d (.v u))))
   |none=>none
 | .box _ x=>bif (ρ x).iS then some (.ptr h.length 0, .push (.cells (ρ x).cells))else none
 | .load t p=>match xh h (ρ p)with
   |some (cs,off)=>pX (yC P t cs off)
   |none=>none
 | .store t p x=>match ρ p with
   | .ptr n off=>match h[n]? with
     |some (.cells cs)=>match fO P t with
      |some k=>bif k==(ρ x).cells.length&&(ρ x).iS&&cN (off+(ρ x).cells.length) cs.length then some (.d (.v undef), .set n (.cells (gO cs off (ρ x).cells)))else none
      |none=>none
     |_=>none
   |_=>none
 | .nilCheck x=>match ρ x with
   | .ptr n off=>some (.ptr n off, .same)
   | .bt xs i off=>some (.bt xs i off, .same)
   | .fn f cs=>some (.fn f cs, .same)
   |_=>none
 | .fieldAddr S x f=>match q6 P S f with
   |some (fo,_,_)=>match ρ x with
    | .ptr n off=>some (.ptr n (off+fo), .same)
    | .bt xs i off=>some (.bt xs i (off+fo), .same)
    |_=>none
   |none=>none
 | .field T x f=>pX (FT P T (ρ x) f)
 | .indexAddr T x i=>pX (H7 P T (ρ x) (ρ i))
 | .extract x i=>match ρ x with
   | .cb cs=>match cs[i]? with
     |some c=>some (c, .same)
     |none=>none
   |_=>none
 | .makeFunc (.func f) first dO=>match first.toList with
   |[]=>some (.fn f (dO.toList.map ρ), .same)
   |_=>none
 | .binOp op T x y _=>pX (Ld (Fg P T op (ρ x) (ρ y)))
 | .unOp op _ x=>match ρ x with
   | .d (.v u)=>match Ge op u with
     |some v=>some (.d (.v v), .same)
     |none=>none
   |_=>none
 | .call c=>match c.callee with
   | .builtin .len=>match c.args.toList,c.argTypes.toList with
     |[x],[T]=>match ρ x with
      | .d (.v (.string s))=>bif gK P T then some (.d (.v (.int .i64 s.size)), .same)else none
      | .row _ _ len _ _=>bif (eE P T).isSome then some (.d (.v (.int .i64 len)), .same)else none
      |x=>match x.fY with
       |some xs=>bif (eE P T).isSome then some (.d (.v (.int .i64 xs.length)), .same)else none
       |none=>none
     |_,_=>none
   |_=>none
 |_=>none
theorem GM{r:aiG AV}{x:AV}{d:HD}(h:pX r=some (x,d)):r=some x∧d= .same:=by
 unfold pX at h;split at h
 ·cases h;exact⟨rfl,rfl⟩
 ·cases h
theorem Q4{P:aiH}{o:Oper}{ρ:Operand→AV}{h:aiE an}{x:AV}{d:HD}{C:AV→aiE an→Prop}(h1:lk P o.op ρ h=some (x,d))(hC:C x (d.app h)):dc P o ρ h C:=by
 obtain⟨dst,op,type,pos,after,guard⟩:=o;simp only at h1;unfold lk at h1;unfold dc;split at h1
 ·cases h1;exact hC
 ·cases h1;exact hC
 ·next c y z=>
  split at h1
  ·next b e=>
   cases h1
   simp only[e];cases b with
   |true=>exact⟨fun _=>hC,fun h=>Bool.noConfusion h⟩
   |false=>exact⟨fun h=>Bool.noConfusion h,fun _=>hC⟩
  ·cases h1
 ·split at h1
  ·next z e=>cases h1;simp only[e];exact hC
  ·cases h1
 ·obtain⟨hb,he⟩:=eh h1;cases he;exact cr.2 ⟨hb,hC⟩
 ·split at h1
  ·next cs off e=>
   obtain⟨e2,rfl⟩:=GM h1;exact Jg e e2 hC
  ·cases h1
 ·split at h1
  ·next n off e=>
   split at h1
   ·next cs e2=>
    split at h1
    ·next k e3=>obtain⟨hb,he⟩:=eh h1;cases he;simp only[e,vB,e2,e3];exact cr.2 ⟨hb,hC⟩
    ·cases h1
   ·cases h1
  ·cases h1
 ·split at h1
  ·next e=>cases h1;simp only[e];exact hC
  ·next e=>cases h1;simp only[e];exact hC
  ·next e=>cases h1;simp only[e];exact hC
  ·cases h1
 ·split at h1
  ·next e=>
   simp only[e];split at h1
   ·next e2=>cases h1;simp only[e2];exact hC
   ·next e2=>cases h1;simp only[e2];exact hC
   ·cases h1
  ·cases h1
 ·obtain⟨e,rfl⟩:=GM h1;exact Uw e hC
 ·obtain⟨e,rfl⟩:=GM h1;exact WL e hC
 ·split at h1
  ·next e=>
   split at h1
   ·next e2=>cases h1;simp only[e,e2];exact hC
   ·cases h1
  ·cases h1
 ·split at h1
  ·next e=>cases h1;simp only[e];exact hC
  ·cases h1
 ·obtain⟨e,rfl⟩:=GM h1;obtain⟨i,e2,cE⟩:=ae9 P e;exact SW e2 cE hC
 ·unfold xr;split at h1
  ·next e=>
   split at h1
   ·next e2=>cases h1;simp only[e,e2];exact hC
   ·cases h1
  ·cases h1
 ·next c=>
  split at h1
  ·next hc=>
   simp only[hc];split at h1
   ·next y T e1 e2=>
    simp only[e1,e2];unfold qD;split at h1
    ·next s e=>obtain⟨hb,he⟩:=eh h1;cases he;simp only[e];exact cr.2 ⟨hb,hC⟩
    ·next e=>obtain⟨hb,he⟩:=eh h1;cases he;simp only[e];exact cr.2 ⟨hb,hC⟩
    ·next n1 n2=>
     split at h1
     ·next xs e=>
      obtain⟨hb,he⟩:=eh h1;cases he;split
      ·next s e'=>exact absurd e' (n1 s)
      ·next e'=>exact absurd e' (n2 _ _ _ _ _)
      ·simp only[e];exact cr.2 ⟨hb,hC⟩
     ·cases h1
   ·cases h1
  ·cases h1
 ·cases h1
def dM(n:Nat)(t:aiE (Nat×AV)):aiE AV:=(List.range n).map (bH t)
theorem Yv{n:Nat}{t:aiE (Nat×AV)}{i:Nat}{c:AV}(h:(dM n t)[i]?=some c):bH t i=c:=by
 unfold dM at h;rw[ahW]at h;by_cases hi:i<n
 ·rw[List.getElem?_range hi]at h;exact ah8 h
 ·rw[aim (by simpa using hi)]at h;cases h
def Ma(P:aiH)(N0:Nat)(Q:Exit→St→Prop)(s:St):LS→Prop
 | .ready=>Q .normal s
 | .done c=>bS P none N0 c Q s
 | .busy=>False
theorem X6{P:aiH}{N0:Nat}{s:St}{Q:Exit→St→Prop}{g:Operand}{p:Nat}{assign body:Code}{gf:FuncId}{dO:aiE AV}(hg:ev s g= .fn gf dO)
 (hc:bY P gf (.dp s.h.length::dO) (s.h++[.lp .ready p assign body (dM s.n s.t)]) fun _ h'=>∃(ls:LS)(p1:Nat)(rf qN:Code)(uM:aiE AV),h'[s.h.length]?=some (.lp ls p1 rf qN uM)∧Ma P N0 Q ⟨s.n,s.t,h'.set s.h.length .gone⟩ ls):
 bS P none N0 (.rangeFunc g #[p] assign body) Q s:=by
 constructor
 intro G w a n hs hN;have hv:=hs.ev g;rw[hg]at hv;obtain⟨lb,ea,hl,hr⟩:∃lb:Array aiI,a.eval g= .func (.func gf) #[] lb∧lb.size=dO.length∧∀(i:Nat)(u:aiI)(c:AV),lb[i]?=some u→dO[i]?=some c→aL G w u c:=by
  generalize a.eval g=u at hv;cases hv with|fn _ vs _ hl hr=>exact⟨vs,rfl,hl,hr⟩
 obtain⟨Bp,jv⟩:=hc;refine wpIn_rangeFunc (F:=WF none) ?_;intro fn _;obtain⟨Db,S4⟩:=aaE hs.inv;obtain⟨G0,jU⟩:∃G0:Gh,G0={G with Z:=fun b=>G.Z b∨b=w.heap.size}:=⟨_,rfl⟩;obtain⟨w0,oG⟩:∃w0,w0=w.alloc (.deferred (some [])):=⟨_,rfl⟩;rw[←jU,←oG]at Db S4;have cZ:G0.N=G.N:=by rw[jU]
 have gp:w0.heap.size=w.heap.size+1:=by rw[oG];simp
 obtain⟨jG,Un,KH⟩:=ZX S4 fn a.tmps w.heap.size p assign body (dM s.n s.t) (by simp [dM,hs.size]) fun i u c hu hc=>by
  have h9:=hs.tmp i;rw[Yv hc]at h9;have e:a.tmps.getD i undef=u:=by
   have aZ:=(ah4.1 hu).1;rw[aib aZ]at hu;simp [Array.getD,aZ];exact ah8 hu
  rw[e]at h9;exact h9.bq Db (Nat.le_of_eq cZ.symm)
 obtain⟨w1,Ps⟩:∃w1,w1=w0.alloc (.loop {state:= .ready,pending:=none,fn:=fn,tmps:=a.tmps,params:= #[p],assign:=assign,body:=body,defers:=w.heap.size}):=⟨_,rfl⟩;obtain⟨G1,KC⟩:∃G1:Gh,G1=G0.ep w0.heap.size:=⟨_,rfl⟩;rw[←Ps,←KC]at jG Un KH;have gi:G1.N=G.N+1:=by rw[KC,←cZ];rfl
 have abM:G1.bA s.h.length=w.heap.size+1:=by rw[KC,hs.inv.len,←cZ];simp [Gh.ep,gp]
 rw[gp]at KH;have RR:cp G.N G w G1 w1:=Db.trans (jG.less (Nat.le_of_eq cZ.symm));refine⟨w.heap.size+1,[{target:= .collected w.heap.size,args:= #[]}],w1,{target:= .fn (.func gf) lb,args:= #[.func (.yield (w.heap.size+1)) #[] #[]]},w1,gf, #[.func (.yield (w.heap.size+1)) #[] #[]]++lb,w1,?_,?_,fun _ _=>trivial,?_,fun h=>(by simp [WF,Fence.wide]at h),?_⟩
 ·rw[Ps,oG];exact run_enterLoop_outer _ _ _ _ _
 ·simp only[resolve,ea];simp [Deferred.ofValue,go_sem]
 ·simp [invoke,Pq Bp]
 have hK:=jv G1 w1 (#[.func (.yield (w.heap.size+1)) #[] #[]]++lb) Un (by simp [hl];omega) (fun i u c hu hc=>by
  match i with
  |0=>
   rw[Array.getElem?_append_left (by simp)]at hu;simp at hu hc;subst hu;subst hc;exact KH
  |i+1=>
   rw[Array.getElem?_append_right (by simp)]at hu;simp at hu hc;exact(hr i u c hu hc).bq RR (by rw[gi];exact Nat.le_succ _))
 refine CallsIn.mono (F:=WF none) (callsIn_wide (n:=n-1).2 hK) ?_;rintro e w2 ⟨v,G2,r,h',rfl,jR,hN2,U9,_,ls,p1,rf,qN,uM,hk,Mx⟩;have y0:s.h.length<G1.N:=by rw[hs.inv.len,gi];exact aiC _
 have B7:G2.bA s.h.length=w.heap.size+1:=(jR.bA _ y0).trans abM;obtain⟨_,fn2,Zt,D2,g3,g4,g5,NA⟩:=Fu U9 hk;rw[B7]at g3;have hEa:cp G.N G w G2 w2:=RR.trans (jR.less (by rw[gi];exact Nat.le_succ _));have E6:G.N≤G2.N:=by rw[gi]at hN2;omega
 obtain⟨ob,lM⟩:∃ob:Obj,ob= .loop {state:= .exhausted,pending:=ls.pd,fn:=fn2,tmps:=Zt,params:= #[p1],assign:=rf,body:=qN,defers:=D2}:=⟨_,rfl⟩;obtain⟨zE,zI⟩:=aey U9 hk ob;rw[B7]at zE zI;have Bb:cp G.N G w G2 (w2.putObj (w.heap.size+1) ob):=hEa.trans (zE.less E6);have hM:=hs.inv.gl.2;have Ki:G0.Z w.heap.size:=by rw[jU];exact .inr rfl
 have NM:G2.Z w.heap.size:=jR.Z.1.1 _ (jG.Z.1.1 _ Ki);have hDh:(w2.putObj (w.heap.size+1) ob).heap[w.heap.size]?=some (.deferred (some [])):=by
  rw[zE.old _ NM,jR.old _ (jG.Z.1.1 _ Ki),jG.old _ Ki,oG];exact World.alloc_heap_new w _
 have cY:dk G2 (w2.putObj (w.heap.size+1) ob) {a with defers:=[{target:= .collected w.heap.size,args:= #[]}]++a.defers} ⟨s.n,s.t,h'.set s.h.length .gone⟩:=by
  refine⟨hs.size,fun i=>(hs.tmp i).bq Bb E6,zI,?_⟩;obtain⟨l,l1,l2,l3⟩:=hs.df.bq Bb;obtain⟨l',l1',PN,l3'⟩:=hs.df;have iT:l=l':=by
   rw[l2]at PN;have adJ:∀(x y:aiE Nat),x.map (fun D=>({target:= .collected D,args:= #[]}:Deferred))=y.map (fun D=>{target:= .collected D,args:= #[]})→x=y:=by
     intro x
     induction x with
     |nil=>intro y h;cases y with
      |nil=>rfl
      |cons b y=>simp at h
     |cons a x ih=>intro y h;cases y with
      |nil=>simp at h
      |cons b y=>simp at h;rw[h.1,ih y (by simpa using h.2)]
   exact adJ _ _ PN
  refine⟨w.heap.size::l,?_,by rw[aie,←l2];rfl,fun D hD=> ?_⟩
  ·rw[List.nodup_cons];exact⟨fun h=>aiu _ (hs.inv.z _ (l3' _ (iT▸h)).2.1),l1⟩
  ·rcases aik.1 hD with rfl|hD
   ·exact⟨by rw[Bb.Z.2];exact hM,NM,hDh⟩
   ·exact l3 D hD
 subst lM;have Ef:=fun hb=>run_endLoop (P:=P) g3 hb;cases ls with
 |busy=>exact Mx.elim
 |ready=>
  refine⟨_,_,Ef (by simp [LS.st]),?_⟩;exact⟨G2,_,Bb.less hN,ah7 hN E6,cY,Mx⟩
 |done c=>
  refine⟨_,_,Ef (by simp [LS.st]),?_⟩;refine wpIn_mono (Mx.run G2 _ _ n (cY) (ah7 hN E6)) fun _ _ _ hn=> ?_;exact hn.trans (Bb.less hN)
set_option linter.unusedSimpArgs false
set_option linter.unusedVariables false
mutual
theorem AS:∀x:AV,x.aY id=x
 | .agg cs=>by rw[AV.aY,sc cs]
 | .cb cs=>by rw[AV.aY,sc cs]
 | .fn f cs=>by rw[AV.aY,sc cs]
 | .own .. =>by simp [AV.aY]
 | .d _=>by simp [AV.aY]
 | .ptr .. =>by simp [AV.aY]
 | .bt .. =>by simp [AV.aY]
 | .full _=>by simp [AV.aY]
 | .row .. =>by simp [AV.aY]
 | .mp _=>by simp [AV.aY]
 | .dp _=>by simp [AV.aY]
 | .vec .. =>by simp [AV.aY]
 | .dw .. =>by simp [AV.aY]
 | .hid _=>by simp [AV.aY]
 | .dead=>by simp [AV.aY]
theorem sc:∀l:aiE AV,AV.fj id l=l
 |[]=>by simp [AV.fj]
 |x::l=>by rw[AV.fj,AS x,sc l]
end
theorem Lr(B:an):B.aY id=B:=by
 cases B with
 |cells cs=>simp only[an.aY,sc]
 |lp ls p as bd cs=>simp only[an.aY,sc]
 |it sn cs=>simp only[an.aY,sc]
 |vec e k cs=>simp only[an.aY];congr 1;exact(ail fun x _=>sc x).trans (List.map_id _)
 |_=>rfl
theorem aL.low{G:Gh}{w:aiJ}{u:aiI}{x:AV}(h:aL G w u x):x.bf G.N=true:=by
 have lt:∀{n:Nat},n<G.N→(!cN G.N n)=true:=fun{n} hn=>by
  rw[Bool.not_eq_true',←Bool.not_eq_true,dQ];omega
 have fF:∀(vs:Array aiI)(cs:aiE AV),vs.size=cs.length→(∀(i:Nat)(u:aiI)(c:AV),vs[i]?=some u→cs[i]?=some c→c.bf G.N=true)→AV.mo G.N cs=true:=fun vs cs hl h=>by
  rw[l5,aif];intro c hc;obtain⟨i,hi,rfl⟩:=List.mem_iff_getElem.1 hc;exact h i vs[i] _ (aib (by omega)) (ahT hi)
 induction h with
 |agg vs cs hl _ ih=>rw[AV.bf];exact fF vs cs hl ih
 |cb vs cs hl _ ih=>rw[AV.bf];exact fF vs cs hl ih
 |fn f vs cs hl _ ih=>rw[AV.bf];exact fF vs cs hl ih
 |ptr n off h=>rw[AV.bf];exact lt h
 |own n xs h=>rw[AV.bf];exact lt h
 |row n off len cap k h=>rw[AV.bf];exact lt h
 |mp n h=>rw[AV.bf];exact lt h
 |dp n h=>rw[AV.bf];exact lt h
 |vec n o len L k h=>rw[AV.bf];exact lt h
 |dw n i j L k h=>rw[AV.bf];exact lt h
 |_=>simp [AV.bf]
def iN(N0:Nat)(s s':St):Prop:=∀(G:Gh)(w:aiJ)(a:Act),N0≤G.N→dk G w a s→∃G',cp N0 G w G' w∧N0≤G'.N∧dk G' w a s'
theorem iN.refl(N0:Nat)(s:St):iN N0 s s:=fun G _ _ hN hs=>⟨G,cp.refl _ _ _,hN,hs⟩
theorem iN.trans{N0:Nat}{s1 s2 s3:St}(h:iN N0 s1 s2)(k:iN N0 s2 s3):iN N0 s1 s3:=fun G w a hN hs=>by
 obtain⟨G1,e1,n1,h1⟩:=h G w a hN hs;obtain⟨G2,e2,n2,h2⟩:=k G1 w a n1 h1;exact⟨G2,e1.trans e2,n2,h2⟩
theorem iN.of_eq{N0:Nat}{s s':St}(h:iv s s'):iN N0 s s':=fun G _ _ hN hs=>
 ⟨G,cp.refl _ _ _,hN,hs.size.trans h.n,fun i=>by rw[←h.t i];exact hs.tmp i,by rw[←h.h];exact hs.inv,hs.df⟩
theorem iN.aY{N0:Nat}{s s':St}(σ τ:Nat→Nat)(hn:s.n=s'.n)(hlen:s'.h.length=s.h.length)(aZ:∀i,i<s.h.length→σ i<s.h.length)(hτ:∀i,i<s.h.length→τ i<s.h.length)
 (tZ:∀i,i<s.h.length→τ (σ i)=i) (jz:∀i,i<s.h.length→σ (τ i)=i) (wv:∀i,i<N0→σ i=i)
 (ht:∀i,(bH s.t i).bf s.h.length=true→bH s'.t i=(bH s.t i).aY σ∨bH s'.t i= .dead) (hh:∀i,i<s.h.length→s'.h[σ i]?=(s.h[i]?).map (an.aY σ)):iN N0 s s':=fun G w a hN hs=>by
 have hl:s.h.length=G.N:=hs.inv.len;rw[hl]at aZ hτ tZ jz hh hlen ht;have KK:∀i,i<N0→τ i=i:=fun i hi=>by
  have h1:=tZ i (by omega);rw[wv i hi]at h1;exact h1
 let G':Gh:={G with bA:=fun n=>G.bA (τ n),sg:=fun n=>G.sg (τ n),ow:=fun n=>G.ow (τ n),fl:=fun n=>G.fl (τ n)}
 have hR:oS σ G G':=⟨aZ,fun n h=>by show G.bA (τ (σ n))=_;rw[tZ n h],fun n h=>by show G.sg (τ (σ n))=_;rw[tZ n h],fun n h=>by show G.fl (τ (σ n))=_;rw[tZ n h],fun n h=>by show G.ow (τ (σ n))=_;rw[tZ n h],fun _ _=>Iff.rfl⟩;have hE:cp N0 G w G' w:=⟨ah0 _,fun _ _ h=>h,fun _ _ _=>rfl,fun n h=>by show G.bA (τ n)=_;rw[KK n h],fun n h=> .inl ⟨by show G.fl (τ n)=_;rw[KK n h],by show G.sg (τ n)=_;rw[KK n h]⟩,gB rfl,fun _ _=>rfl,rfl,rfl,rfl,fun _ _ h=> .inl h⟩;have ff:∀(n:Nat)(B:an),s'.h[n]?=some B→∃m B0,m<G.N∧σ m=n∧s.h[m]?=some B0∧B=B0.aY σ:=fun n B hB=>by
  have fJ:n<G.N:=by have:=(ahP.1 hB).1;omega
  have h1:=hh (τ n) (hτ n fJ);rw[jz n fJ,hB]at h1;cases h2:s.h[τ n]? with
  |none=>rw[h2]at h1;cases h1
  |some B0=>rw[h2]at h1;cases h1;exact⟨τ n,B0,hτ n fJ,jz n fJ,h2,rfl⟩
 have eg:∀(n b:Nat),cA s'.h G' n=some b→∃m,m<G.N∧σ m=n∧cA s.h G m=some b:=fun n b hb=>by
  obtain⟨B,hB,hb⟩:=kQ hb;obtain⟨m,B0,k1,k2,k3,rfl⟩:=ff n B hB;subst k2;rw[Ms hR k1]at hb;exact⟨m,k1,rfl,by rw[dV k3];exact hb⟩
 refine⟨G',hE,hN,hs.size.trans hn,fun i=> ?_,⟨hlen,hs.inv.z,hs.inv.S,fun n B hB=> ?_,fun m n b hm fJ=> ?_,hs.inv.gl.bq hE⟩,hs.df.bq hE⟩
 ·have hv:=hs.tmp i;rcases ht i hv.low with e|e
  ·rw[e];exact hv.aY hR
  ·rw[e];exact .dead _
 ·obtain⟨m,B0,k1,k2,k3,rfl⟩:=ff n B hB;subst k2;have hb:=hs.inv.dz m B0 k3;exact eF.aY hR k1 (fun b h1=>hb.lz h1) hb
 ·obtain⟨m',k1,k2,k3⟩:=eg m b hm;obtain⟨n',j1,j2,j3⟩:=eg n b fJ;have:=hs.inv.inj m' n' b k3 j3;rw[←k2,←j2,this]
def Mu:aiI→aiI→Bool
 | .bool a, .bool b=>a==b
 | .int k a, .int l b=>decide (k=l)&&decide (a=b)
 | .string a, .string b=>bL a==bL b
 | .pointer none, .pointer none=>true
 | .slice none a b, .slice none c d=>a==c&&b==d
 | .map none, .map none=>true
 | .nilFunc, .nilFunc=>true
 | .nilIface, .nilIface=>true
 | .tuple a, .tuple b=>a.size==0&&b.size==0
 |_,_=>false
theorem agY{u v:aiI}(h:Mu u v=true):u=v:=by
 unfold Mu at h;split at h
 ·rw[beq_iff_eq]at h;subst h;rfl
 ·rw[ahR,decide_eq_true_eq,decide_eq_true_eq]at h;obtain⟨h1,h2⟩:=h;subst h1;subst h2;rfl
 ·rw[beq_iff_eq]at h;rw[KB h]
 ·rfl
 ·rw[ahR,beq_iff_eq,beq_iff_eq]at h;obtain⟨h1,h2⟩:=h;subst h1;subst h2;rfl
 ·rfl
 ·rfl
 ·rfl
 ·rw[ahR,beq_iff_eq,beq_iff_eq]at h;rw[Array.eq_empty_of_size_eq_zero h.1,Array.eq_empty_of_size_eq_zero h.2]
 ·cases h
mutual
def D.sA:D→D→Bool
 | .v a, .v b=>Mu a b
 | .sl xs, .sl ys=>D.qm xs ys
 |_,_=>false
def D.qm:aiE (aiE D)→aiE (aiE D)→Bool
 |[],[]=>true
 |x::xs,y::ys=>D.cO x y&&D.qm xs ys
 |_,_=>false
def D.cO:aiE D→aiE D→Bool
 |[],[]=>true
 |x::xs,y::ys=>D.sA x y&&D.cO xs ys
 |_,_=>false
end
mutual
theorem D.Ll:∀x y:D,D.sA x y=true→x=y
 | .v a, .v b,h=>by rw[D.sA]at h;rw[agY h]
 | .sl xs, .sl ys,h=>by rw[D.sA]at h;rw[D.AY xs ys h]
 | .v _, .sl _,h=>by simp [D.sA]at h
 | .sl _, .v _,h=>by simp [D.sA]at h
theorem D.AY:∀x y:aiE (aiE D),D.qm x y=true→x=y
 |[],[],_=>rfl
 |x::xs,y::ys,h=>by rw[D.qm,ahR]at h;rw[D.V8 x y h.1,D.AY xs ys h.2]
 |[],_::_,h=>by simp [D.qm]at h
 |_::_,[],h=>by simp [D.qm]at h
theorem D.V8:∀x y:aiE D,D.cO x y=true→x=y
 |[],[],_=>rfl
 |x::xs,y::ys,h=>by rw[D.cO,ahR]at h;rw[D.Ll x y h.1,D.V8 xs ys h.2]
 |[],_::_,h=>by simp [D.cO]at h
 |_::_,[],h=>by simp [D.cO]at h
end
mutual
def AV.ft(σ:Nat→Nat):AV→AV→Bool
 | .d x,y=>(match y with| .d y=>D.sA x y|_=>false)
 | .agg a,y=>(match y with| .agg b=>AV.nh σ a b|_=>false)
 | .cb a,y=>(match y with| .cb b=>AV.nh σ a b|_=>false)
 | .fn f a,y=>(match y with| .fn g b=>f==g&&AV.nh σ a b|_=>false)
 | .ptr n o,y=>(match y with| .ptr m p=>σ n==m&&o==p|_=>false)
 | .bt xs i o,y=>(match y with| .bt ys j p=>D.qm xs ys&&(i==j&&o==p)|_=>false)
 | .own n xs,y=>(match y with| .own m ys=>σ n==m&&D.qm xs ys|_=>false)
 | .full xs,y=>(match y with| .full ys=>D.qm xs ys|_=>false)
 | .row n i1 i2 i3 i4,y=>(match y with| .row m j1 j2 j3 j4=>σ n==m&&(i1==j1&&(i2==j2&&(i3==j3&&i4==j4)))|_=>false)
 | .mp n,y=>(match y with| .mp m=>σ n==m|_=>false)
 | .dp n,y=>(match y with| .dp m=>σ n==m|_=>false)
 | .vec n i1 i2 i3 i4,y=>(match y with| .vec m j1 j2 j3 j4=>σ n==m&&(i1==j1&&(i2==j2&&(i3==j3&&i4==j4)))|_=>false)
 | .dw n i1 i2 i3 i4,y=>(match y with| .dw m j1 j2 j3 j4=>σ n==m&&(i1==j1&&(i2==j2&&(i3==j3&&i4==j4)))|_=>false)
 | .dead,y=>(match y with| .dead=>true|_=>false)
 | .hid _,_=>false
def AV.nh(σ:Nat→Nat):aiE AV→aiE AV→Bool
 |[],y=>(match y with|[]=>true|_=>false)
 |x::xs,l=>(match l with|y::ys=>AV.ft σ x y&&AV.nh σ xs ys|_=>false)
end
mutual
theorem AV.Iw(σ:Nat→Nat):∀x y:AV,AV.ft σ x y=true→y=x.aY σ
 | .d x,y,h=>by
   cases y with
   |d y=>simp only[AV.ft,ahR,beq_iff_eq]at h;rw[AV.aY,D.Ll _ _ h]
   |_=>simp [AV.ft]at h
 | .agg a,y,h=>by
   cases y with
   |agg b=>simp only[AV.ft,ahR,beq_iff_eq]at h;rw[AV.aY,AV.xE σ _ _ h]
   |_=>simp [AV.ft]at h
 | .cb a,y,h=>by
   cases y with
   |cb b=>simp only[AV.ft,ahR,beq_iff_eq]at h;rw[AV.aY,AV.xE σ _ _ h]
   |_=>simp [AV.ft]at h
 | .fn f a,y,h=>by
   cases y with
   |fn g b=>simp only[AV.ft,ahR,beq_iff_eq]at h;rw[AV.aY,AV.xE σ _ _ h.2,h.1]
   |_=>simp [AV.ft]at h
 | .ptr n o,y,h=>by
   cases y with
   |ptr m p=>simp only[AV.ft,ahR,beq_iff_eq]at h;rw[AV.aY,h.1,h.2]
   |_=>simp [AV.ft]at h
 | .bt xs i o,y,h=>by
   cases y with
   |bt ys j p=>simp only[AV.ft,ahR,beq_iff_eq]at h;rw[AV.aY,D.AY _ _ h.1,h.2.1,h.2.2]
   |_=>simp [AV.ft]at h
 | .own n xs,y,h=>by
   cases y with
   |own m ys=>simp only[AV.ft,ahR,beq_iff_eq]at h;rw[AV.aY,D.AY _ _ h.2,h.1]
   |_=>simp [AV.ft]at h
 | .full xs,y,h=>by
   cases y with
   |full ys=>simp only[AV.ft,ahR,beq_iff_eq]at h;rw[AV.aY,D.AY _ _ h]
   |_=>simp [AV.ft]at h
 | .row n i1 i2 i3 i4,y,h=>by
   cases y with
   |row m j1 j2 j3 j4=>simp only[AV.ft,ahR,beq_iff_eq]at h;rw[AV.aY,h.1,h.2.1,h.2.2.1,h.2.2.2.1,h.2.2.2.2]
   |_=>simp [AV.ft]at h
 | .vec n i1 i2 i3 i4,y,h=>by
   cases y with
   |vec m j1 j2 j3 j4=>simp only[AV.ft,ahR,beq_iff_eq]at h;rw[AV.aY,h.1,h.2.1,h.2.2.1,h.2.2.2.1,h.2.2.2.2]
   |_=>simp [AV.ft]at h
 | .dw n i1 i2 i3 i4,y,h=>by
   cases y with
   |dw m j1 j2 j3 j4=>simp only[AV.ft,ahR,beq_iff_eq]at h;rw[AV.aY,h.1,h.2.1,h.2.2.1,h.2.2.2.1,h.2.2.2.2]
   |_=>simp [AV.ft]at h
 | .mp n,y,h=>by
   cases y with
   |mp m=>simp only[AV.ft,ahR,beq_iff_eq]at h;rw[AV.aY,h]
   |_=>simp [AV.ft]at h
 | .dp n,y,h=>by
   cases y with
   |dp m=>simp only[AV.ft,ahR,beq_iff_eq]at h;rw[AV.aY,h]
   |_=>simp [AV.ft]at h
 | .dead,y,h=>by
   cases y with
   |dead=>rw[AV.aY]
   |_=>simp [AV.ft]at h
 | .hid _,y,h=>by simp [AV.ft]at h
theorem AV.xE(σ:Nat→Nat):∀x y:aiE AV,AV.nh σ x y=true→y=AV.fj σ x
 |[],y,h=>by
  cases y with
  |nil=>rw[AV.fj]
  |cons=>simp [AV.nh]at h
 |x::xs,l,h=>by
  cases l with
  |nil=>simp [AV.nh]at h
  |cons y ys=>simp only[AV.nh,ahR]at h;rw[AV.fj,AV.Iw σ _ _ h.1,AV.xE σ _ _ h.2]
end
def An:aiE (aiF×D)→aiE (aiF×D)→Bool
 |[],[]=>true
 |(k,d)::l,(k',d')::l'=>bL k==bL k'&&D.sA d d'&&An l l'
 |_,_=>false
theorem SP:∀x y,An x y=true→x=y
 |[],[],_=>rfl
 |(k,d)::l,(k',d')::l',h=>by
  rw[An,ahR,ahR]at h;rw[KB (beq_iff_eq.1 h.1.1),D.Ll _ _ h.1.2,SP l l' h.2]
 |[],_::_,h=>by simp [An]at h
 |_::_,[],h=>by simp [An]at h
def Ac(σ:Nat→Nat):aiE (aiE AV)→aiE (aiE AV)→Bool
 |[],[]=>true
 |x::xs,y::ys=>AV.nh σ x y&&Ac σ xs ys
 |_,_=>false
theorem OM(σ:Nat→Nat):∀x y,Ac σ x y=true→y=x.map (AV.fj σ)
 |[],[],_=>rfl
 |x::xs,y::ys,h=>by
  rw[Ac,ahR]at h;rw[aie,AV.xE σ x y h.1,OM σ xs ys h.2]
 |[],_::_,h=>by simp [Ac]at h
 |_::_,[],h=>by simp [Ac]at h
def an.ft(σ:Nat→Nat):an→an→Bool
 | .cells a,y=>(match y with| .cells b=>AV.nh σ a b|_=>false)
 | .front e k l,y=>(match y with| .front e' k' l'=>e==e'&&(k==k'&&l==l')|_=>false)
 | .vec e k cs,y=>(match y with| .vec e' k' ds=>e==e'&&(k==k'&&Ac σ cs ds)|_=>false)
 | .map kv,y=>(match y with| .map kv'=>An kv kv'|_=>false)
 | .it sn cs,y=>(match y with| .it Yt ds=>sn==Yt&&AV.nh σ cs ds|_=>false)
 | .gone,y=>(match y with| .gone=>true|_=>false)
 | .lp ..,_=>false
theorem an.Iw(σ:Nat→Nat)(x y:an)(h:an.ft σ x y=true):y=x.aY σ:=by
 cases x<;>cases y<;>simp only[an.ft,ahR,beq_iff_eq,Bool.false_eq_true]at h
 ·rw[an.aY,AV.xE σ _ _ h]
 ·rw[an.aY,h.1,h.2.1,h.2.2]
 ·rw[an.aY,h.1,h.2.1,OM σ _ _ h.2.2]
 ·rw[an.aY,SP _ _ h]
 ·rw[an.aY,h.1,AV.xE σ _ _ h.2]
 ·rfl
def fp(h0:Nat)(p:aiE Nat)(i:Nat):Nat:=bif cN h0 i then p.getD (i-h0) i else i
def zS(ts Ak:aiE (Nat×AV))(ks:aiE Nat)(i:Nat):Nat:=
 match ks with
 |[]=>i
 |d::ks=>match bH ts d,bH Ak d with
  | .ptr n _, .ptr m _=>bif n==i then m else zS ts Ak ks i
  | .own n _, .own m _=>bif n==i then m else zS ts Ak ks i
  | .vec n _ _ _ _, .vec m _ _ _ _=>bif n==i then m else zS ts Ak ks i
  | .mp n, .mp m=>bif n==i then m else zS ts Ak ks i
  |_,_=>zS ts Ak ks i
def Dz(s s':St)(ks:aiE Nat)(h0:Nat):Nat→aiE Nat
 |0=>[]
 |k+1=>zS s.t s'.t ks h0::Dz s s' ks (h0+1) k
def UB(h0:Nat)(ks:aiE Nat)(s s':St)(p q:aiE Nat):Bool:=
 (s'.h.length==s.h.length)&&(((List.range s.h.length).all fun i=>cN (fp h0 p i+1) s.h.length&&cN (fp h0 q i+1) s.h.length&&fp h0 q (fp h0 p i)==i&&fp h0 p (fp h0 q i)==i)&&(ks.all (fun d=>AV.ft (fp h0 p) (bH s.t d) (bH s'.t d))&&
  ((List.range s.h.length).all fun i=>match s.h[i]?,s'.h[fp h0 p i]? with
    |some B,some B'=>an.ft (fp h0 p) B B'
    |_,_=>false)))
def Ny(h0:Nat)(ks:aiE Nat)(s s':St):Bool:=UB h0 ks s s' (Dz s s' ks h0 (s.h.length-h0)) (Dz s' s ks h0 (s.h.length-h0))
structure kI(ks:List Nat)(s0 s:St):Prop where
 n:s.n=s0.n
 t:∀d,d ∉ ks→bH s.t d=bH s0.t d
theorem kI.refl(ks:aiE Nat)(s:St):kI ks s s:=⟨rfl,fun _ _=>rfl⟩
theorem kI.put{ks:aiE Nat}{s0 s:St}(h:kI ks s0 s)(h1:aiE an){d:aiG Nat}(x:AV)(hd:∀k,d=some k→k∈ks):kI ks s0 ((s.wh h1).put d x):=
 ⟨by rw[pc];exact h.n,fun i hi=>by
  rw[qZ,if_neg]
  ·exact h.t i hi
  ·rintro⟨e,_⟩;exact hi (hd i e)⟩
theorem ahL{N0 h0:Nat}{ks:aiE Nat}{s0 s s':St}(hN:N0≤h0)(qw:∀i,(bH s0.t i).bf h0=true)(hb:kI ks s0 s)(gk:kI ks s0 s')(h:Ny h0 ks s s'=true):iN N0 s s':=by
 unfold Ny at h;generalize Dz s s' ks h0 (s.h.length-h0)=p at h;generalize Dz s' s ks h0 (s.h.length-h0)=q at h;unfold UB at h;simp only[ahR,beq_iff_eq,aif,List.mem_range,dQ]at h;obtain⟨h1,h2,h3,h4⟩:=h;have wv:∀i,i<h0→fp h0 p i=i:=fun i hi=>by
  unfold fp;have:cN h0 i=false:=by rw[←Bool.not_eq_true,dQ];omega
  rw[this];rfl
 refine iN.aY (fp h0 p) (fp h0 q) (hb.n.trans gk.n.symm) h1 (fun i hi=>(h2 i hi).1.1.1) (fun i hi=>(h2 i hi).1.1.2) (fun i hi=>(h2 i hi).1.2) (fun i hi=>(h2 i hi).2) (fun i hi=>wv i (by omega)) (fun i _=> ?_) fun i hi=> ?_
 ·left
  by_cases hk:i∈ks
  ·exact AV.Iw _ _ _ (h3 i hk)
  ·rw[hb.t i hk,gk.t i hk,vy (τ:=id) wv _ (qw i),AS]
 ·have h5:=h4 i hi;split at h5
  ·next B B' e1 e2=>rw[e1,e2,an.Iw _ _ _ h5];rfl
  ·cases h5
def HW(N0:Nat)(K:St→Prop):Prop:=∀s s',iN N0 s s'→K s'→K s
theorem HW.c{N0:Nat}{K:St→Prop}(h:HW N0 K):uh K:=fun s s' e hk=>h s' s (iN.of_eq e.symm) hk
theorem Tb{P:aiH}{r:aiG Nat}{N0:Nat}{s:St}{Q:Exit→St→Prop}{m:Bool}{id:Nat}{ops:Array Oper}(hm:P.follows .mixedOrders=true)
 (h:N0≤s.h.length→(∀i,(bH s.t i).bf s.h.length=true)→mQ m P ops (fun s1=>∃s2,iN N0 s1 s2∧Q .normal s2) ops.size (Array.replicate ops.size false) s):bS P r N0 (.region id ops true) Q s:=by
 constructor
 intro G w a n hs hN;obtain⟨d1,d2⟩:=hs.drew;refine wpIn_region_any hm ?_;have hl:=hs.inv.len;refine EJ (G:=G) (w:=w) (N0:=N0) (K:=fun s1=>∃s2,iN N0 s1 s2∧Q .normal s2) (fun a' w' hn=> ?_) ops.size _ G _ a s (d1.less hN) hN d2 (h (by omega) fun i=>by rw[hl];exact(hs.tmp i).low);obtain⟨G',s',x1,x2,x3,s2,e0,x4⟩:=hn;obtain⟨G2,y1,y2,y3⟩:=e0 G' w' a' x2 x3;exact⟨G2,s2,x1.trans y1,y2,y3,x4⟩
theorem Ra{N0:Nat}(Q:St→Prop):HW N0 (fun s1=>∃s2,iN N0 s1 s2∧Q s2):=fun _ _ h ⟨s2,h1,h2⟩=>⟨s2,h.trans h1,h2⟩
def yb(f:Nat→Bool):Nat→Nat
 |0=>0
 |n+1=>bif f n then yb f n|||(1<<<n)else yb f n
theorem GA(f:Nat→Bool):∀(n j:Nat),Nat.testBit (yb f n) j=(decide (j<n)&&f j)
 |0,j=>by simp [yb]
 |n+1,j=>by
  unfold yb;have ih:=GA f n j;cases hf:f n with
  |true=>
   simp only[cond_true,Nat.testBit_or,ih,Nat.one_shiftLeft,Nat.testBit_two_pow];by_cases e:n=j
   ·subst e;simp [hf]
   ·have:decide (j<n+1)=decide (j<n):=by simp;omega
    rw[this];simp [e]
  |false=>
   simp only[cond_false,ih];by_cases e:n=j
   ·subst e;simp [hf]
   ·have:decide (j<n+1)=decide (j<n):=by simp;omega
    rw[this]
def fN{α:Type}(n:Nat)(f:Nat→α):α:=Nat.casesOn (Nat.succ n) (f 0) f
theorem AP{α:Type}(n:Nat)(f:Nat→α):fN n f=f n:=rfl
def fL{α:Type}:aiE Nat→(aiE Nat→α)→α
 |[],f=>f []
 |n::l,f=>fN n fun n=>fL l fun l=>f (n::l)
theorem AO{α:Type}:∀(l:aiE Nat)(f:aiE Nat→α),fL l f=f l
 |[],_=>rfl
 |n::l,f=>by rw[fL,AP,AO l]
section
variable (ops:Array Oper)
def zL(o:Oper)(n j:Nat):Bool:=o.after.any fun e=>Region.binds .any e&&(e.on==j||(j==n&&cN n e.on))
def Fe(k:Nat):Nat:=match ops[k]? with
 |some o=>yb (zL o ops.size) (ops.size+1)
 |none=>1<<<ops.size
def SH(m:Bool)(M:Array Nat)(k j:Nat):Bool:= !(j==k)&&(!((M.getD j 0).testBit k)&&match ops[k]?,ops[j]? with
 |some oi,some oj=> !(oi.apart ops oj&&zh m oi oj)
 |_,_=>true)
def B5(m:Bool)(M:Array Nat)(k:Nat):Nat:=yb (SH ops m M k) ops.size
def qY:Nat→Nat→aiE Nat
 |_,0=>[]
 |k,n+1=>Fe ops k::qY (k+1) n
def o8(m:Bool)(M:Array Nat):Nat→Nat→aiE Nat
 |_,0=>[]
 |k,n+1=>B5 ops m M k::o8 m M (k+1) n
end
def rD:aiE Nat→Nat→Nat→aiE Nat
 |[],_,_=>[]
 |a::A,L,k=>bif !(Nat.testBit L k)&&(L&&&a==a)then k::rD A L (k+1)else rD A L (k+1)
def DI(C:aiE Nat)(L:Nat):aiE Nat→aiG Nat
 |[]=>none
 |k::r=>bif (C.getD k 0)|||L==L then some k else DI C L r
section
variable (ops:Array Oper) (st:Oper→St→aiG St) (h0:Nat) (ks A C:aiE Nat)
def mW:aiE Oper→aiE Nat
 |[]=>[]
 |o::l=>match o.dst with
  |some d=>d::mW l
  |none=>mW l
end
theorem Fy:∀{l:aiE Oper}{o:Oper},o∈l→∀d,o.dst=some d→d∈mW l
 |[],_,h,_,_=>by cases h
 |a::l,o,h,d,hd=>by
  unfold mW;rcases aik.1 h with rfl|h
  ·rw[hd];simp
  ·split
   ·exact ahY _ (Fy h d hd)
   ·exact Fy h d hd
theorem Qo(ops:Array Oper):∀(n k i:Nat),(qY ops k n)[i]?=if i<n then some (Fe ops (k+i))else none
 |0,k,i=>by simp [qY]
 |n+1,k,0=>by simp [qY]
 |n+1,k,i+1=>by rw[qY,air,Qo ops n (k+1) i];simp only[Nat.add_lt_add_iff_right];rw[show k+1+i=k+(i+1) by omega]
theorem Ue(ops:Array Oper)(m:Bool)(M:Array Nat):∀(n k i:Nat),(o8 ops m M k n)[i]?=if i<n then some (B5 ops m M (k+i))else none
 |0,k,i=>by simp [o8]
 |n+1,k,0=>by simp [o8]
 |n+1,k,i+1=>by rw[o8,air,Ue ops m M n (k+1) i];simp only[Nat.add_lt_add_iff_right];rw[show k+1+i=k+(i+1) by omega]
theorem Uu{L:Nat}:∀(A:aiE Nat)(k i:Nat),i∈rD A L k↔k≤i∧Nat.testBit L i=false∧∃a,A[i-k]?=some a∧L&&&a=a
 |[],k,i=>by simp [rD]
 |a::A,k,i=>by
  have ih:=Uu (L:=L) A (k+1) i;unfold rD;have key:i∈rD A L (k+1)↔k<i∧Nat.testBit L i=false∧∃b,(a::A)[i-k]?=some b∧L&&&b=b:=by
   rw[ih];constructor
   ·rintro⟨h1,h2,b,h3,h4⟩;refine⟨h1,h2,b,?_,h4⟩;rw[show i-k=(i-(k+1))+1 by omega,air];exact h3
   ·rintro⟨h1,h2,b,h3,h4⟩;refine⟨h1,h2,b,?_,h4⟩;rw[show i-k=(i-(k+1))+1 by omega,air]at h3;exact h3
  cases hb:(!(Nat.testBit L k)&&(L&&&a==a))with
  |true=>
   simp only[cond_true,aik,key];simp only[ahR,Bool.not_eq_true',beq_iff_eq]at hb;constructor
   ·rintro(rfl|⟨h1,h2⟩)
    ·exact⟨ah0 _,hb.1,a,by simp,hb.2⟩
    ·exact⟨by omega,h2⟩
   ·rintro⟨h1,h2⟩;rcases Nat.lt_or_eq_of_le h1 with h|h
    ·exact .inr ⟨h,h2⟩
    ·exact .inl h.symm
  |false=>
   simp only[cond_false,key];constructor
   ·rintro⟨h1,h2⟩;exact⟨by omega,h2⟩
   ·rintro⟨h1,h2,b,h3,h4⟩;rcases Nat.lt_or_eq_of_le h1 with h|h
    ·exact⟨h,h2,b,h3,h4⟩
    ·subst h;simp at h3;subst h3;rw[h2]at hb;simp at hb;exact absurd h4 hb
theorem RJ{C:aiE Nat}{L:Nat}:∀{r:aiE Nat}{k:Nat},DI C L r=some k→k∈r∧(C.getD k 0)|||L=L
 |[],k,h=>by cases h
 |a::r,k,h=>by
  unfold DI at h;cases hb:((C.getD a 0)|||L==L)with
  |true=>rw[hb]at h;cases h;exact⟨by simp,by simpa using hb⟩
  |false=>rw[hb]at h;have:=RJ h;exact⟨ahY _ this.1,this.2⟩
structure LM(ops:Array Oper)(L:Nat)(listed:Array Bool):Prop where
 sz:listed.size=ops.size
 b:∀i,Nat.testBit L i=listed.getD i false
theorem LM.set{ops:Array Oper}{L:Nat}{listed:Array Bool}(h:LM ops L listed){k:Nat}(hk:k<ops.size):LM ops (L|||(1<<<k)) (listed.setIfInBounds k true):=by
 refine⟨by simp [h.sz],fun i=> ?_⟩;rw[Nat.testBit_or,Nat.one_shiftLeft,Nat.testBit_two_pow,h.b i];by_cases e:k=i
 ·subst e;have:k<listed.size:=by rw[h.sz];exact hk
  simp [this]
 ·rw[getD_set_ne false e];simp [e]
theorem LM.ready{ops:Array Oper}{L:Nat}{listed:Array Bool}(h:LM ops L listed)(i:Nat):i∈Region.ready .any ops listed↔i∈rD (qY ops 0 ops.size) L 0:=by
 rw[mem_ready,Uu];simp only[Nat.zero_le,true_and,Nat.sub_zero,Qo,ah9];have RH:∀j,ops.size≤j→Nat.testBit L j=false:=fun j hj=>by
   rw[h.b,Array.getD_eq_getD_getElem?,Array.getElem?_eq_none (by rw[h.sz];exact hj)];rfl
 constructor
 ·rintro⟨h1,o,ho,h2⟩;have hi:=(ah4.1 ho).1;have BX:listed.getD i false=false:=by
   have dT:i<listed.size:=by rw[h.sz];exact hi
   simpa [dT]using h1
  refine⟨by rw[h.b];exact BX,_,by rw[if_pos hi],?_⟩;apply Nat.eq_of_testBit_eq;intro j;rw[Nat.testBit_and];unfold Fe;rw[ho];simp only[GA];cases hb:(decide (j<ops.size+1)&&zL o ops.size j)with
  |false=>simp
  |true=>
   simp only[Bool.and_true];rw[ahR]at hb;have hb:=hb.2;unfold zL at hb;rw[Array.any_eq_true']at hb;obtain⟨e,he,hb⟩:=hb;simp only[ahR,Bool.or_eq_true,beq_iff_eq,dQ]at hb;have h3:=h2 e he hb.1;have:e.on<ops.size:=by
    rcases Nat.lt_or_ge e.on ops.size with hl|hl
    ·exact hl
    ·have:=RH e.on hl;rw[h.b]at this;rw[this]at h3;cases h3
   rcases hb.2 with hj|⟨_,hj⟩
   ·rw[←hj,h.b];exact h3
   ·omega
 ·rintro⟨h1,a,ha,h2⟩;split at ha
  ·next hi=>
   cases ha
   have ho:ops[i]?=some ops[i]:=aib hi;refine⟨?_,ops[i],ho,fun e he KA=> ?_⟩
   ·rw[h.b]at h1;have dT:i<listed.size:=by rw[h.sz];exact hi
    simpa [dT]using h1
   ·have kX:∀j,j<ops.size+1→zL ops[i] ops.size j=true→Nat.testBit L j=true:=fun j hj hf=>by
     have:=congrArg (fun n=>Nat.testBit n j) h2;simp only[Nat.testBit_and]at this;unfold Fe at this;rw[ho]at this;simp only[GA]at this;rw[hf]at this
     simpa [hj]using this
    have TR:∀j,(e.on==j||(j==ops.size&&cN ops.size e.on))=true→zL ops[i] ops.size j=true:=fun j hj=>by
     unfold zL;rw[Array.any_eq_true'];exact⟨e,he,by rw[KA,hj];rfl⟩
    rcases Nat.lt_or_ge e.on ops.size with hl|hl
    ·rw[←h.b];exact kX e.on (by omega) (TR _ (by simp))
    ·have:=kX ops.size (by omega) (TR _ (by simp [dQ.2 hl]));rw[RH _ (ah0 _)]at this;cases this
  ·cases ha
section
variable {P:aiH} {ops:Array Oper} {st:Oper→St→aiG St} {h0:Nat} {m:Bool} {N0:Nat} {K:St→Prop} {s0:St}
end
end Go.Proofs.YtphmhnabilhbgaaGreatDoor
namespace Go.Proofs.YtphmhnabilhbgaaGreatDoor
open Go.RowKit
inductive Ex
 |n
 |r
 |x (id:Nat)
def I4{α:Type}(n:Nat)(f:Nat→α):α:=Nat.casesOn (Nat.succ n) (f 0) f
theorem afg{α:Type}(n:Nat)(f:Nat→α):I4 n f=f n:=rfl
def AV.force{α:Type}(x:AV)(f:AV→α):α:=
 match x with
 | .d (.v (.int k (.ofNat n)))=>I4 n fun n=>f (.d (.v (.int k (.ofNat n))))
 | .d (.v (.bool b))=>bif b then f (.d (.v (.bool true)))else f (.d (.v (.bool false)))
 |x=>f x
theorem AV.force_eq{α:Type}(x:AV)(f:AV→α):x.force f=f x:=by
 unfold AV.force;split
 ·rw[afg]
 ·next b=>cases b<;>rfl
 ·rfl
def E0{α:Type}:aiE an→(aiE an→α)→α
 |[],f=>f []
 |b::l,f=>E0 l fun r=>f (b::r)
theorem UF{α:Type}:∀(l:aiE an)(f:aiE an→α),E0 l f=f l
 |[],_=>rfl
 |b::l,f=>by rw[E0,UF l]
abbrev Mo:=Bool→Nat→Code→St→aiG (Ex×St)
abbrev LJ:=FuncId→aiE AV→aiG (aiG AV)
def ahJ:aiG (aiG AV)→Bool
 |some none=>true
 |_=>false
mutual
def AV.SF:AV→aiE Nat
 | .fn _ cs=>AV.Jc cs
 |_=>[]
def AV.Jc:aiE AV→aiE Nat
 |[]=>[]
 | .ptr n _::l=>n::AV.Jc l
 |x::l=>x.SF++AV.Jc l
end
def F0:aiE Nat→AV→aiE an→aiG (AV×aiE an)
 |[],r,h=>some (r,h)
 |b::l,r,h=>match h[b]? with
  |some (.cells cs)=>match mf cs with
   |some ds=>F0 l (r.fb b ds) ((h.map (an.fb b ds)).set b .gone)
   |none=>none
  |_=>none
def Qg:AV→aiG D
 | .d x=>some x
 |_=>none
def H6:aiE AV→aiG (aiE D)
 |[]=>some []
 |x::l=>match Qg x,H6 l with
  |some d,some r=>some (d::r)
  |_,_=>none
def Ht:aiE (aiE AV)→aiG (aiE (aiE D))
 |[]=>some []
 |x::l=>match H6 x,Ht l with
  |some d,some r=>some (d::r)
  |_,_=>none
mutual
def AV.QG:AV→Bool
 | .vec .. =>true
 | .agg cs=>AV.H5 cs
 | .cb cs=>AV.H5 cs
 | .fn _ cs=>AV.H5 cs
 |_=>false
def AV.H5:aiE AV→Bool
 |[]=>false
 |x::l=>x.QG||AV.H5 l
end
def sK:aiE Nat→AV→aiE an→AV×aiE an
 |[],r,h=>(r,h)
 |b::l,r,h=>match h[b]? with
  |some (.vec _ k cs)=>match Ht cs with
   |some xs=>bif xs.all (fun c=>c.all D.mY)then(r.dn b k xs).force fun r=>E0 ((h.map (an.ie (AV.dn b k xs))).set b .gone) fun h=>sK l r h else sK l r h
   |none=>sK l r h
  |_=>sK l r h
def adb(h:aiE an):aiE Nat:=(List.range h.length).reverse++(List.range h.length).reverse
def GL(r:AV)(h:aiE an):aiG AV:=
 match F0 r.SF r h with
 |some (r,_)=>some (r.bU 0)
 |none=>none
def Pg(r:AV)(h:aiE an):aiG AV:=
 bif r.QG then(match sK (adb h) r h with|(r,h)=>GL r h)else GL r h
section
variable (run:Mo) (P:aiH) (U1:LJ)
def bx(lo:Nat)(f:FuncId)(args:aiE AV)(h:aiE an):aiG (AV×aiE an):=
 match P.funcs[f]? with
 |some fn=>match fn.body with
  |some c=>I4 (args.length+(fn.ntmps-args.length)) fun n=>match run true lo c ⟨n,kS 0 args,h⟩with
   |some (.x _,_)=>none
   |some (_,s)=>match qE P s fn.results.toList with
    |some l=>some (jk l,s.h)
    |none=>none
   |none=>none
  |none=>none
 |none=>none
end
section
variable {run:Mo} {P:aiH} {U1:LJ} {lo:Nat} {s s':St}
end
mutual
theorem Ba(m:Nat):∀x:AV,x.bf m=true→x.bU m=x
 | .own n xs,h=>by
   rw[AV.bf]at h;rw[AV.bU];cases e:cN m n with
   |true=>rw[e]at h;cases h
   |false=>rfl
 | .agg cs,h=>by rw[AV.bf]at h;rw[AV.bU,Fh m cs h]
 | .cb cs,h=>by rw[AV.bf]at h;rw[AV.bU,Fh m cs h]
 | .fn f cs,h=>by rw[AV.bf]at h;rw[AV.bU,Fh m cs h]
 | .d _,_=>by simp only[AV.bU]
 | .ptr ..,_=>by simp only[AV.bU]
 | .bt ..,_=>by simp only[AV.bU]
 | .full _,_=>by simp only[AV.bU]
 | .row ..,_=>by simp only[AV.bU]
 | .mp _,_=>by simp only[AV.bU]
 | .dp _,_=>by simp only[AV.bU]
 | .vec ..,_=>by simp only[AV.bU]
 | .dw ..,_=>by simp only[AV.bU]
 | .hid _,_=>by simp only[AV.bU]
 | .dead,_=>by simp only[AV.bU]
theorem Fh(m:Nat):∀l:aiE AV,AV.mo m l=true→AV.n9 m l=l
 |[],_=>by simp [AV.n9]
 |x::l,h=>by
  rw[AV.mo,ahR]at h;rw[AV.n9,Ba m x h.1,Fh m l h.2]
end
theorem adu{m:Nat}{B:an}(h:B.bf m=true):B.bU m=B:=by
 cases B with
 |cells cs=>
  simp only[an.bf,aif]at h;simp only[an.bU]
  congr 1
  exact(ail fun x hx=>Ba m x (h x hx)).trans (List.map_id _)
 |lp ls p as bd cs=>
  simp only[an.bf,aif]at h;simp only[an.bU]
  congr 1
  exact(ail fun x hx=>Ba m x (h x hx)).trans (List.map_id _)
 |it sn cs=>
  simp only[an.bf,aif]at h;simp only[an.bU]
  congr 1
  exact(ail fun x hx=>Ba m x (h x hx)).trans (List.map_id _)
 |vec e k cs=>
  simp only[an.bf,aif]at h;simp only[an.bU]
  congr 1
  exact(ail fun x hx=>(ail fun y hy=>Ba m y (h x hx y hy)).trans (List.map_id _)).trans (List.map_id _)
 |front e k len=>rfl
 |map kv=>rfl
 |gone=>rfl
theorem MR{m:Nat}{h:aiE an}(e:h.all (an.bf m)=true):h.map (an.bU m)=h:=
 (ail fun B hB=>adu (aif.1 e B hB)).trans (List.map_id _)
end Go.Proofs.YtphmhnabilhbgaaGreatDoor
namespace Go.Proofs.YtphmhnabilhbgaaGreatDoor
open Go.RowKit
section
variable {P:aiH} {r:aiG Nat} {n N0:Nat} {G:Gh} {w:aiJ} {a:Act} {s:St} {o:Oper} {Q:Exit→St→Prop}
end
theorem bY.cut{P:aiH}{f:FuncId}{args:aiE AV}{h h':aiE an}{r:AV}(m:Nat)(hc:bY P f args h fun r1 h1=>r1=r∧h1=h')(h1:h.length≤m)(h2:m≤h'.length)(hb:(((h'.take m).map (an.bU m)).all (an.bf m))=true)(hr:(r.bU m).bf m=true):
 bY P f args h fun r1 h1=>r1=r.bU m∧h1=(h'.take m).map (an.bU m):=by
 refine⟨hc.1,fun G w vs hi hl hv=>(hc.2 G w vs hi hl hv).mono fun e w' hp=> ?_⟩;obtain⟨v,G',_,_,rfl,hE,hN,dT,Lo,rfl,rfl⟩:=hp;exact⟨v,G'.cut m,_,_,rfl,hE.trans (nT _ _ _ _),by rw[←hi.len];exact h1,IZ dT h2 hb,(Lo.bU m).cut hr,rfl,rfl⟩
section
variable {run:Mo} {P:aiH} {U1:LJ} {lo:Nat} {s s':St}
theorem bY.Sw{f:FuncId}{args:aiE AV}{h0 h h2:aiE an}{r r2:AV}{tl:aiE (Nat×AV)}(hc:bY P f args h0 fun r1 h1=>r1=r∧h1=h)
 (hT:∀(G:Gh)(w:aiJ)(a:Act),dk G w a ⟨1,[(0,r)],h⟩→∃G',cp G.N G w G' w∧G'.N=G.N∧dk G' w a ⟨1,(0,r2)::tl,h2⟩):bY P f args h0 fun r1 h1=>r1=r2∧h1=h2:=by
 refine⟨hc.1,fun G w vs hi hl hv=>(hc.2 G w vs hi hl hv).mono fun e w' hp=> ?_⟩;obtain⟨v,G',_,_,rfl,hE,hN,dT,Lo,rfl,rfl⟩:=hp;obtain⟨G2,e1,e2,e3⟩:=hT G' w' {tmps:= #[v],defers:=[]} ⟨rfl,fun i=>by
  show aL G' w' _ (bH [(0,_)] i);rw[lu];split
  ·next ei=>subst ei;exact Lo
  ·exact .dead _,dT,pJ.nil _ _⟩
 exact⟨v,G2,r2,h2,rfl,hE.trans (e1.less hN),by rw[e2];exact hN,e3.inv,e3.tmp 0,rfl,rfl⟩
theorem TX{f:FuncId}{args:aiE AV}{h0:aiE an}:∀(l:aiE Nat){h h2:aiE an}{r r2:AV},(bY P f args h0 fun r1 h1=>r1=r∧h1=h)→F0 l r h=some (r2,h2)→bY P f args h0 fun r1 h1=>r1=r2∧h1=h2
 |[],h,h2,r,r2,hc,e=>by cases e;exact hc
 |b::l,h,h2,r,r2,hc,e=>by
  unfold F0 at e;split at e
  ·next cs e1=>
   split at e
   ·next ds e2=>
    refine TX l (bY.Sw (tl:=[]) hc fun G w a hs=> ?_) e;refine hs.wI (b:=b) ?_;simp only[Go.Proofs.YtphmhnabilhbgaaGreatDoor.wI,e1,e2];rfl
   ·cases e
  ·cases e
theorem Vr:∀{l:aiE AV}{ds:aiE D},H6 l=some ds→l=ds.map AV.d
 |[],ds,h=>by cases h;rfl
 |x::l,ds,h=>by
  unfold H6 at h;split at h
  ·next d r e1 e2=>
   cases h
   rw[Vr e2];cases x<;>simp [Qg]at e1
   subst e1;rfl
  ·cases h
theorem Qm:∀{l:aiE (aiE AV)}{xs:aiE (aiE D)},Ht l=some xs→l=aO xs
 |[],xs,h=>by cases h;rfl
 |x::l,xs,h=>by
  unfold Ht at h;split at h
  ·next d r e1 e2=>cases h;rw[Qm e2,Vr e1];rfl
  ·cases h
theorem DN{f:FuncId}{args:aiE AV}{h0:aiE an}:∀(l:aiE Nat){h:aiE an}{r:AV},(bY P f args h0 fun r1 h1=>r1=r∧h1=h)→bY P f args h0 fun r1 h1=>r1=(sK l r h).1∧h1=(sK l r h).2
 |[],h,r,hc=>hc
 |b::l,h,r,hc=>by
  unfold sK;split
  ·next e k cs e1=>
   split
   ·next xs e2=>
    rw[AV.force_eq,UF,cond_eq_ite];split
    ·next h1=>
     refine DN l (bY.Sw (tl:=[]) hc fun G w a hs=> ?_);have e3:=Qm e2;exact hs.JF xs (by show h[b]?=_;rw[e1,e3]) (fun c hc=>aif.1 h1 c hc)
    ·exact DN l hc
   ·exact DN l hc
  ·exact DN l hc
theorem T8{f:FuncId}{args:aiE AV}{h:aiE an}{r r2:AV}(hc:bY P f args [] fun r1 h1=>r1=r∧h1=h)(e:Pg r h=some r2)(hb:r2.bf 0=true):bg P f args (·=r2):=by
 have fin:∀{r:AV}{h:aiE an},(bY P f args [] fun r1 h1=>r1=r∧h1=h)→(r.bU 0).bf 0=true→bg P f args (·=r.bU 0):=fun hc hb=>
  (hc.cut 0 (ah0 _) (Nat.zero_le _) (by simp) hb).mono fun r1 h1 ⟨k1,k2⟩=>⟨by simpa using k2,k1⟩
 have gen:∀{r:AV}{h:aiE an},(bY P f args [] fun r1 h1=>r1=r∧h1=h)→GL r h=some r2→bg P f args (·=r2):=fun hc e=>by
  unfold GL at e;split at e
  ·next r3 h3 e1=>
   cases e
   exact fin (TX _ hc e1) hb
  ·cases e
 unfold Pg at e;rcases afG e with⟨_,e⟩|⟨_,e⟩
 ·exact gen (DN _ hc) e
 ·exact gen hc e
end
theorem VQ:∀(H' H e:aiE an),H'.length=H.length→gA (List.range H.length) H' (H++e)=H'++e:=by
 intro H' H e hl;have gen:∀(n:Nat)(a b B r:aiE an),b.length=n→B.length=n→gA ((List.range n).map (a.length+·)) B (a++(b++r))=a++(B++r):=by
  intro n
  induction n with
  |zero=>intro a b B r hb hB;rw[List.length_eq_zero_iff.1 hb,List.length_eq_zero_iff.1 hB];simp [gA]
  |succ n ih=>
   intro a b B r hb hB;cases b with
   |nil=>simp at hb
   |cons b0 b=>
    cases B with
    |nil=>simp at hB
    |cons B0 B=>
     rw[List.range_succ_eq_map,aie,List.map_map,gA];have e1:(a++(b0::b++r)).set (a.length+0) B0=(a++[B0])++(b++r):=by
       rw[Nat.add_zero,List.set_append_right _ _ (ah0 _),Nat.sub_self];simp
     have e2:(fun x=>a.length+x)∘Nat.succ=fun x=>(a++[B0]).length+x:=by
      funext x
      simp only[Function.comp_apply,ahQ,ahS,ah1];omega
     rw[e1,e2,ih (a++[B0]) b B r (by simpa using hb) (by simpa using hB)];simp
 have:=gen H.length [] H H' e rfl hl
 simpa using this
theorem LK{P:aiH}{k:Nat}{x:AV}{H:aiE an}{C:Bool→aiE an→Prop}(hy:YS P k x H C)(e:aiE an)(hb:H.all (an.bf H.length)=true)(hx:x.bf H.length=true)
 (hC:∀b h',C b h'→h'.length=H.length∧h'.all (an.bf H.length)=true):YS P k x (H++e) fun b h'=>∃H',C b H'∧h'=H'++e:=by
 intro G w v r n hi hv;have vM:∀i,i<H.length→rn (List.range H.length) (H++e).length i=i:=fun i h=>AD (List.range H.length) _ i i (by rw[List.getElem?_range h]);have G7:∀y:AV,y.bf H.length=true→y.aY (rn (List.range H.length) (H++e).length)=y:=fun y hy=>(vy (τ:=id) vM y hy).trans (AS y);have Dm:∀B:an,B.bf H.length=true→B.aY (rn (List.range H.length) (H++e).length)=B:=fun B hB=>(ME (τ:=id) vM B hB).trans (Lr B);obtain⟨G0,cZ,qj,rj,Ng⟩:=NO (H:=H) (l:=List.range H.length) (h:=H++e) List.nodup_range (fun j hj=>by have:=List.mem_range.1 hj;simp;omega) (fun i j mh=>by
  obtain⟨aZ,rfl⟩:i<H.length∧j=i:=by
   have h1:=(ahP.1 mh).1;rw[List.length_range]at h1;rw[List.getElem?_range h1]at mh;exact⟨h1,(ah8 mh).symm⟩
  rw[ahZ aZ,ahT aZ,Option.map_some,Dm _ (aif.1 hb _ (List.getElem_mem aZ))]) (by simp) hb hi
 obtain⟨hk,p,as,bd,fn,tm,D,h1,h2⟩:=hy G0 w v r n qj (aL.tP rj (by rw[G7 x hx];exact hv) x rfl (by rw[cZ];exact hx));have k9:k<H.length:=cZ▸hk;have jd:G.bA k=G0.bA k:=by
  have:=rj.bA k hk
  rwa [vM k k9]at this
 refine⟨by have:=rj.lt k hk;rwa [vM k k9]at this,p,as,bd,fn,tm,D,by rw[jd];exact h1,?_⟩;rw[jd];refine h2.mono fun e1 w' hp=> ?_;obtain⟨b,G1,H',rfl,hE,gi,iH,hc⟩:=hp;rw[cZ]at hE gi;obtain⟨G2,a1,a2,a3,_⟩:=Ng G1 w' H' hE gi iH;obtain⟨c1,c2⟩:=hC b H' hc;refine⟨b,G2,H'++e,rfl,a1,a2,?_,H',hc,rfl⟩;have hm:H'.map (an.aY (rn (List.range H.length) (H++e).length))=H':=(ail fun B hB=>Dm B (aif.1 c2 B hB)).trans (List.map_id _);rw[hm,VQ H' H e c1]at a3;exact a3
def lW(P:aiH)(k:Nat):aiE AV→(Bool→aiE an→Prop)→aiE an→Prop
 |[],C,h=>C true h
 |x::l,C,h=>YS P k x h fun b h1=>(h1.length=h.length∧h1.all (an.bf h.length)=true)∧bif b then lW P k l C h1 else C false h1
theorem Vh{P:aiH}{k:Nat}:∀(l:aiE AV){C C':Bool→aiE an→Prop}{h:aiE an},(∀b h1,C b h1→C' b h1)→lW P k l C h→lW P k l C' h
 |[],_,_,_,hc,hs=>hc _ _ hs
 |x::l,C,C',h,hc,hs=>YS.mono hs fun b h1 ⟨h2,h3⟩=>⟨h2,by
  cases b with
  |true=>exact Vh l hc h3
  |false=>exact hc _ _ h3⟩
theorem RK{P:aiH}{k:Nat}:∀(l l':aiE AV){C:Bool→aiE an→Prop}{h:aiE an},lW P k (l++l') C h→lW P k l (fun b h1=>bif b then lW P k l' C h1 else C false h1) h
 |[],_,_,_,hs=>hs
 |x::l,l',C,h,hs=>YS.mono hs fun b h1 ⟨h2,h3⟩=>⟨h2,by
  cases b with
  |true=>exact RK l l' h3
  |false=>exact h3⟩
def uB(h h1:aiE an):Prop:=h1.length=h.length∧h1.all (an.bf h.length)=true
def Kw(P:aiH)(gf:FuncId)(dO:aiE AV)(xs:aiE AV):Prop:=
 ∀(k:Nat)(h:aiE an)(C:Bool→aiE an→Prop),h.all (an.bf h.length)=true→k<h.length→lW P k xs C h→bY P gf (.dp k::dO) h fun _ h1=>∃b,C b h1
def V9(P:aiH)(T:TypeId):aiE AV:=match ib P T with|some z=>z.cells.toList.map fun u=> .d (.v u)|none=>[]
section
variable {P:aiH} {r:aiG Nat} {N0:Nat} {Q:Exit→St→Prop} {ops:Array Oper} {o o1 o2 o3 o4 o5:Oper} {s:St} {K:St→Prop} {id:Nat}
theorem cW{rest:aiE Oper}(hg:o.guard=none)(h:mJ P o (qQ P ops rest K) s):qQ P ops (o::rest) K s:=by
 unfold qQ iO;rw[hg];exact h
theorem A7{n d:Nat}{t:aiE (Nat×AV)}{h h':aiE an}{x:AV}{hd:HD}(hx:lk P o.op (ev ⟨n,t,h⟩) h=some (x,hd))(eQ:o.dst=some d)(hn:Nat.ble n d=false)(he:hd.app h=h')(hK:K ⟨n,(d,x)::t,h'⟩):mJ P o K ⟨n,t,h⟩:=by
 refine .inr (.inr (.inl (Q4 hx ?_)));show K ((St.wh ⟨n,t,h⟩ (hd.app h)).put o.dst x);rw[eQ,he];have aZ:d<n:=Nat.lt_of_not_le fun hle=>by rw[Nat.ble_eq_true_of_le hle]at hn;cases hn
 rw[oH (s:=St.wh ⟨n,t,h⟩ h') aZ];exact hK
theorem dt{n d:Nat}{t:aiE (Nat×AV)}{h:aiE an}{x:AV}(hx:lk P o.op (ev ⟨n,t,h⟩) h=some (x, .same))(eQ:o.dst=some d)(hn:Nat.ble n d=false)(hK:K ⟨n,(d,x)::t,h⟩):mJ P o K ⟨n,t,h⟩:=A7 hx eQ hn rfl hK
theorem II{n:Nat}{t:aiE (Nat×AV)}{h h':aiE an}{x:AV}{hd:HD}(hx:lk P o.op (ev ⟨n,t,h⟩) h=some (x,hd))(eQ:o.dst=none)(he:hd.app h=h')(hK:K ⟨n,t,h'⟩):mJ P o K ⟨n,t,h⟩:=by
 refine .inr (.inr (.inl (Q4 hx ?_)));show K ((St.wh ⟨n,t,h⟩ (hd.app h)).put o.dst x);rw[eQ,he];exact hK
theorem Yi{h l:aiE an}{i off:Nat}{cs:aiE AV}(hi:l[i]?=some (.cells cs)):xh (h++l) (.ptr (h.length+i) off)=some (cs,off):=by
 unfold xh;simp only;rw[ah5 (aiv _ _),Nat.add_sub_cancel_left,hi]
theorem zY{ρ:Operand→AV}{h l:aiE an}{T:TypeId}{p:Operand}{i off:Nat}{cs:aiE AV}{x:AV}(hp:ρ p= .ptr (h.length+i) off)(hi:l[i]?=some (.cells cs))(hl:yC P T cs off=some x):lk P (.load T p) ρ (h++l)=some (x, .same):=by
 unfold lk;simp only[hp,Yi hi,hl,pX]
theorem WJ{ρ:Operand→AV}{h l:aiE an}{T:TypeId}{y:Operand}{v:AV}(hv:ρ y=v)(hb:v.iS=true):lk P (.box T y) ρ (h++l)=some (.ptr (h.length+l.length) 0, .push (.cells v.cells)):=by
 subst hv;unfold lk;simp only[hb,cond_true,ahQ]
theorem J8{ρ:Operand→AV}{h l:aiE an}{T:TypeId}(hz:(ib P T).isSome=true):lk P (.alloc T) ρ (h++l)=some (.ptr (h.length+l.length) 0, .push (.cells (V9 P T))):=by
 unfold lk V9;cases e:ib P T with
 |none=>rw[e]at hz;cases hz
 |some z=>simp only[e,ahQ]
theorem FH{h l:aiE an}{B:an}:(HD.push B).app (h++l)=h++(l++[B]):=by simp [HD.app]
theorem Mr{ρ:Operand→AV}{h l:aiE an}{T:TypeId}{p y:Operand}{i off k:Nat}{cs:aiE AV}{v:AV}(hp:ρ p= .ptr (h.length+i) off)(hi:l[i]?=some (.cells cs))(hk:fO P T=some k)(hv:ρ y=v)(hb:(k==v.cells.length&&v.iS&&cN (off+v.cells.length) cs.length)=true){cB:aiE AV}(fP:gO cs off v.cells=cB):
 lk P (.store T p y) ρ (h++l)=some (.d (.v undef), .set (h.length+i) (.cells cB)):=by
 subst hv fP;unfold lk;simp only[hp,hk];rw[ah5 (aiv _ _),Nat.add_sub_cancel_left,hi];simp only[hb,cond_true]
theorem Mw{ρ:Operand→AV}{h:aiE an}{T:TypeId}{a i:Operand}{xs:aiE (aiE D)}{q e k:Nat}{c:aiE D}(hx:ρ a= .d (.sl xs))(hi:ρ i= .d (.v (.int .i64 (Int.ofNat q))))(hT:eE P T=some (e,k))(hc:xs[q]?=some c)(hk:(c.length==k)=true):lk P (.indexAddr T a i) ρ h=some (.bt [c] 0 0, .same):=by
 unfold lk;simp only[hx,hi];unfold H7;simp only[hT,AV.fY,AV.int?,zN,hc,hk,cond_true,pX]
theorem LZ{h l:aiE an}{B:an}{i:Nat}:(HD.set (h.length+i) B).app (h++l)=h++l.set i B:=by
 simp only[HD.app];rw[List.set_append_right _ _ (aiv _ _),Nat.add_sub_cancel_left]
theorem CI{n d:Nat}{t:aiE (Nat×AV)}{h:aiE an}{T:TypeId}{x y:Operand}{p:TypeId}{xs:aiE (aiE D)}{q:TypeId×Nat}(ho:o.op= .binOp .eql T x y p)(hx:(ev ⟨n,t,h⟩ x).fY=some xs)(hy:ev ⟨n,t,h⟩ y= .d (.v (.slice none 0 0)))(hT:eE P T=some q)(eQ:o.dst=some d)(hn:Nat.ble n d=false)
 (h1:xs=[]→K ⟨n,(d, .d (.v (.bool true)))::t,h⟩) (h2:K ⟨n,(d, .d (.v (.bool false)))::t,h⟩):mJ P o K ⟨n,t,h⟩:=by
 refine .inr (.inl ?_);have aZ:d<n:=Nat.lt_of_not_le fun hle=>by rw[Nat.ble_eq_true_of_le hle]at hn;cases hn
 unfold B4;simp only[ho,hx,hy,hT,uQ,eQ,oH (s:=⟨n,t,h⟩) aZ];exact⟨h1,h2⟩
theorem G9{n d k:Nat}{t:aiE (Nat×AV)}{h:aiE an}{c:Call}{f:Operand}{x:AV}(ho:o.op= .call c)(hc:c.callee= .value f)(hf:ev ⟨n,t,h⟩ f= .dp k)(hx:c.args.toList.map (ev ⟨n,t,h⟩)=[x])(eQ:o.dst=some d)(hn:Nat.ble n d=false)
 (hy:YS P k x h fun b h'=>K ⟨n,(d, .d (.v (.bool b)))::t,h'⟩):mJ P o K ⟨n,t,h⟩:=by
 refine .inr (.inr (.inr (.inl ?_)));unfold Iu;simp only[ho,hc,hf,hx];refine hy.mono fun b h' hK=> ?_;have aZ:d<n:=Nat.lt_of_not_le fun hle=>by rw[Nat.ble_eq_true_of_le hle]at hn;cases hn
 rw[eQ,oH (s:=St.wh ⟨n,t,h⟩ h') aZ];exact hK
theorem Q0{n:Nat}{t:aiE (Nat×AV)}{h:aiE an}{c:Call}{f:Operand}{g:FuncId}{dO:aiE AV}(ho:o.op= .call c)(hc:c.callee= .value f)(hf:ev ⟨n,t,h⟩ f= .fn g dO)
 (hA:bY P g (c.args.toList.map (ev ⟨n,t,h⟩)++dO) h fun x h'=>K ((St.wh ⟨n,t,h⟩ h').put o.dst x)):mJ P o K ⟨n,t,h⟩:=by
 refine .inr (.inr (.inl ?_));unfold po dc;simp only[ho,hc,hf];exact hA
end
theorem ZM{P:aiH}{f:FuncId}{args:aiE AV}{H:aiE an}{K:AV→aiE an→Prop}(hc:bY P f args H K)(e:aiE an)(hb:H.all (an.bf H.length)=true)(ha:args.all (AV.bf H.length)=true)
 (hK:∀r h',K r h'→h'.length=H.length∧h'.all (an.bf H.length)=true∧r.bf H.length=true):bY P f args (H++e) fun r h'=>∃H',K r H'∧h'=H'++e:=by
 have vM:∀i,i<H.length→rn (List.range H.length) (H++e).length i=i:=fun i h=>AD (List.range H.length) _ i i (by rw[List.getElem?_range h]);have G7:∀y:AV,y.bf H.length=true→y.aY (rn (List.range H.length) (H++e).length)=y:=fun y hy=>(vy (τ:=id) vM y hy).trans (AS y);have Dm:∀B:an,B.bf H.length=true→B.aY (rn (List.range H.length) (H++e).length)=B:=fun B hB=>(ME (τ:=id) vM B hB).trans (Lr B);have:=hc.QX (l:=List.range H.length) (h:=H++e) List.nodup_range (fun j hj=>by have:=List.mem_range.1 hj;simp;omega) (fun i j mh=>by
  obtain⟨aZ,rfl⟩:i<H.length∧j=i:=by
   have h1:=(ahP.1 mh).1;rw[List.length_range]at h1;rw[List.getElem?_range h1]at mh;exact⟨h1,(ah8 mh).symm⟩
  rw[ahZ aZ,ahT aZ,Option.map_some,Dm _ (aif.1 hb _ (List.getElem_mem aZ))]) (by simp) ha hb
 have ea:args.map (AV.aY (rn (List.range H.length) (H++e).length))=args:=(ail fun x hx=>G7 x (aif.1 ha x hx)).trans (List.map_id _);rw[ea]at this;refine this.mono fun r' h' ⟨r,H',k1,k2,k3⟩=> ?_;obtain⟨c1,c2,c3⟩:=hK r H' k1;have hm:H'.map (an.aY (rn (List.range H.length) (H++e).length))=H':=(ail fun B hB=>Dm B (aif.1 c2 B hB)).trans (List.map_id _);rw[hm,VQ H' H e c1]at k3;rw[G7 r c3]at k2;exact⟨H',by rw[k2];exact k1,k3⟩
theorem ag7{h:aiE an}{p:AV}{K K':aiE AV→Nat→Prop}(hk:∀cs off,K cs off→K' cs off)(hp:qx h p K):qx h p K':=by
 unfold qx at hp ⊢;split at hp
 ·next n off=>
  split at hp
  ·next cs e=>(try simp only[e]);exact hk _ _ hp
  ·exact hp.elim
 ·next xs i off=>
  split at hp
  ·next cs e=>(try simp only[e]);exact hk _ _ hp
  ·exact hp.elim
 ·exact hp.elim
theorem ad6{P:aiH}{T:TypeId}{h:aiE an}{p:AV}{K K':AV→Prop}(hk:∀x,K x→K' x)(hp:mH P T h p K):mH P T h p K':=
 ag7 (fun cs off hc=>by
  split at hc
  ·next k e1 e2=>
   try simp only[e1,e2]
   exact cr.2 ⟨(cr.1 hc).1,hk _ (cr.1 hc).2⟩
  ·next k e1 e2=>
   try simp only[e1,e2]
   split at hc
   ·next c e3=>(try simp only[e3]);exact hk _ hc
   ·exact hc.elim
  ·exact hc.elim) hp
theorem W8{P:aiH}{fn:Func}{n:Nat}{t:aiE (Nat×AV)}{H l:aiE an}{K:AV→aiE an→Prop}(hb:H.all (an.bf H.length)=true)(hr:lY P ⟨n,t,H++l⟩ fn.results.toList fun rs=>((jk rs).bU H.length).bf H.length=true∧K ((jk rs).bU H.length) H):py P fn H.length K ⟨n,t,H++l⟩:=by
 have ht:(((H++l).take H.length).map (an.bU H.length))=H:=by rw[List.take_left];exact MR hb
 unfold py;show lY P ⟨n,t,H++l⟩ fn.results.toList fun rs=>H.length≤(H++l).length∧_;simp only[ht];have gen:∀(rv:aiE ResultVar){C C':aiE AV→Prop},(∀x,C x→C' x)→lY P ⟨n,t,H++l⟩ rv C→lY P ⟨n,t,H++l⟩ rv C':=by
  intro rv
  induction rv with
  |nil=>intro C C' hc h;exact hc _ h
  |cons x rv ih=>
   intro C C' hc h;cases x with
   |tmp t=>exact ih (fun y hy=>hc _ hy) h
   |cell p t=>exact ad6 (fun x h=>ih (fun y hy=>hc _ hy) h) h
 exact gen _ (fun rs ⟨h1,h2⟩=>⟨by simp,h1,hb,h2⟩) hr
theorem Eh{n:Nat}{t:aiE (Nat×AV)}{H l:aiE an}(live:aiE Nat)(hb:H.all (an.bf H.length)=true):(⟨n,t,H++l⟩:St).mask live H.length=⟨n,live.map fun k=>(k,(bH t k).bU H.length),H⟩:=by
 unfold St.mask;rw[show((H++l).take H.length).map (an.bU H.length)=H by rw[List.take_left];exact MR hb]
theorem Bo{n:Nat}{t:aiE (Nat×AV)}{H l:aiE an}(live:aiE Nat)(hb:H.all (an.bf H.length)=true)(hl:(live.all fun k=>((bH t k).bU H.length).bf H.length)=true):(⟨n,t,H++l⟩:St).yj live H.length:=
 ⟨by simp,hl,by rw[show((H++l).take H.length).map (an.bU H.length)=H by rw[List.take_left];exact MR hb];exact hb⟩
theorem Rq{n:Nat}{t:aiE (Nat×AV)}{H:aiE an}(live:aiE Nat)(hb:H.all (an.bf H.length)=true):(⟨n,t,H⟩:St).mask live H.length=⟨n,live.map fun k=>(k,(bH t k).bU H.length),H⟩:=by
 have:=Eh (n:=n) (t:=t) (l:=[]) live hb
 rwa [aia]at this
theorem Tf{n:Nat}{t:aiE (Nat×AV)}{H:aiE an}(live:aiE Nat)(hb:H.all (an.bf H.length)=true)(hl:(live.all fun k=>((bH t k).bU H.length).bf H.length)=true):(⟨n,t,H⟩:St).yj live H.length:=by
 have:=Bo (n:=n) (t:=t) (l:=[]) live hb hl
 rwa [aia]at this
theorem Gq{k m:Nat}(h:k<m):((AV.dp k).bU m).bf m=true:=by simp [AV.bU,AV.bf,cN];omega
theorem WA{P:aiH}{r:aiG Nat}{N0 m:Nat}{c:Code}{s:St}{R R':Exit→St→Prop}{live:aiE Nat}(hm:N0≤m)(h:bS P r N0 c R s)(hR:∀e s2,R e s2→∃s',iB s2 live m=some s'∧R' e s'):bS P r N0 c R' s:=by
 constructor
 intro G w a n hs hN;refine wpIn_mono (h.run G w a n hs hN) fun e a1 w1 hn=> ?_;obtain⟨G1,s1,hE,_,fc,hq⟩:=hn;obtain⟨s',k1,k2⟩:=hR e s1 hq;exact⟨G1.cut m,s',hE.trans (nT _ _ _ _),hm,fc.iB k1,k2⟩
def Gi(m:Nat)(n:Nat)(T:aiE (Nat×AV))(LP:an)(next:aiE an→Prop)(Q:Exit→St→Prop)(e:Exit)(s:St):Prop:=
 ∃hs,hs.length=m∧hs.all (an.bf (m+1))=true∧iB s [] (m+1)=some ⟨s.n,[],hs++[LP]⟩∧match e with
  | .normal=>next hs
  | .ret=>Q .ret ⟨n,T,hs++[.gone]⟩
  | .exit i=>Q (.exit i) ⟨n,T,hs++[.gone]⟩
  |_=>False
theorem HO{P:aiH}{N0 n m:Nat}{T:aiE (Nat×AV)}{H:aiE an}{Q:Exit→St→Prop}{g:Operand}{p:Nat}{as bd:Code}{gf:FuncId}{dO:aiE AV}(hg:ev ⟨n,T,H⟩ g= .fn gf dO){α:Type}{enc:α→AV}{xs:aiE α}(hI:Kw P gf dO (xs.map enc))
 {ι:Type} (Hs:ι→aiE an) (I:ι→aiE α→Prop) (i0:ι) (h0:H=Hs i0) (qj:I i0 xs) (hl:∀i,(Hs i).length=m) (nN:∀i,(Hs i).all (an.bf (m+1))=true) (hT:(dM n T).all (AV.bf (m+1))=true) (hp:Nat.ble n p=false)
 (round:∀i x l,I i (x::l)→∀(rr:Nat)(a b:Code),bS P (some rr) (m+1) as (gQ (fun s1=>∃hs e,hs.length=m∧s1.h=hs++ .lp .ready p a b (dM n T)::e∧
  bS P (some rr) (m+1) bd (Gi m n T (.lp .busy p a b (dM n T)) (fun cY=>∃i',cY=Hs i'∧I i' l) Q) ⟨s1.n,s1.t,hs++ .lp .busy p a b (dM n T)::e⟩) (fun _ _=>False)) ⟨n,(p,enc x)::kS 0 (dM n T),Hs i++[.lp .ready p a b (dM n T)]⟩)
 (done:∀i,I i []→Q .normal ⟨n,T,Hs i++[.gone]⟩):bS P none N0 (.rangeFunc g #[p] as bd) Q ⟨n,T,H⟩:=by
 subst h0;have hm:(Hs i0).length=m:=hl i0;have uC:(dM n T).length=n:=by simp [dM]
 have GU:∀ls,(an.lp ls p as bd (dM n T)).bf (m+1)=true:=fun ls=>hT;refine X6 hg ?_;show bY P gf (.dp (Hs i0).length::dO) (Hs i0++[.lp .ready p as bd (dM n T)]) _;have yT:∀(hs:aiE an)(B B':an),hs.length=m→(hs++[B]).set m B'=hs++[B']:=fun hs B B' h=>by
  rw[List.set_append_right _ _ (Nat.le_of_eq h),h,Nat.sub_self];rfl
 have ff:∀(hs:aiE an)(B:an)(e:aiE an),hs.length=m→(hs++B::e)[m]?=some B:=fun hs B e h=>by
  rw[ah5 (Nat.le_of_eq h),h,Nat.sub_self];rfl
 have seq:∀(l:aiE α)(i:ι),I i l→lW P m (l.map enc) (fun b h1=>∃(hs:aiE an)(ls:LS),hs.length=m∧h1=hs++[.lp ls p as bd (dM n T)]∧Ma P N0 Q ⟨n,T,hs++[.gone]⟩ ls) (Hs i++[.lp .ready p as bd (dM n T)]):=by
  intro l
  induction l with
  |nil=>intro i hi;exact⟨Hs i, .ready,hl i,rfl,done i hi⟩
  |cons x l ih=>
   intro i hi;have hlen:(Hs i++[an.lp .ready p as bd (dM n T)]).length=m+1:=by simp [hl i]
   refine Xf ⟨p,as,bd,dM n T,ff _ _ [] (hl i),?_,fun rr=> ?_⟩
   ·rw[uC];exact Nat.lt_of_not_le fun hle=>by rw[Nat.ble_eq_true_of_le hle]at hp;cases hp
   ·rw[hlen,uC];refine(round i x l hi rr as bd).mono fun e s1 fc=> ?_;cases e with
    |normal=>
     obtain⟨hs,e',k1,k2,k3⟩:=fc;refine⟨p,as,bd,dM n T,by rw[k2];exact ff _ _ _ k1,?_⟩;have Wq:s1.h.set m (.lp .busy p as bd (dM n T))=hs++ .lp .busy p as bd (dM n T)::e':=by
      rw[k2,List.set_append_right _ _ (Nat.le_of_eq k1),k1,Nat.sub_self];rfl
     rw[Wq];refine WA (live:=[]) (ah0 _) k3 fun e2 s2 hr=> ?_;obtain⟨yZ,c2,c5,c3,c4⟩:=hr;refine⟨_,c3,?_⟩;have fm:∀B,B.bf (m+1)=true→(yZ++[B]).all (an.bf (m+1))=true:=fun B hB=>by
       rw[List.all_append,c5];simp [hB]
     have vT:(yZ++[an.lp .busy p as bd (dM n T)])[m]?=some (.lp .busy p as bd (dM n T)):=ff _ _ [] c2;cases e2 with
     |normal=>
      obtain⟨i',rfl,dT⟩:=c4;refine⟨p,as,bd,dM n T,vT,?_⟩;simp only[yT _ _ _ c2];exact⟨⟨by simp [hl],fm _ (GU _)⟩,ih i' dT⟩
     |ret=>
      refine⟨p,as,bd,dM n T,vT,?_⟩;simp only[yT _ _ _ c2];exact⟨⟨by simp [c2],fm _ (GU _)⟩,yZ, .done .ret,c2,rfl,dN c4⟩
     |exit j=>
      refine⟨p,as,bd,dM n T,vT,?_⟩;simp only[yT _ _ _ c2];exact⟨⟨by simp [c2],fm _ (GU _)⟩,yZ, .done (.exit j),c2,rfl,kZ c4⟩
     |_=>exact c4.elim
    |_=>exact fc.elim
 have OT:(Hs i0++[an.lp .ready p as bd (dM n T)]).length=m+1:=by simp [hm]
 refine(hI (Hs i0).length _ _ (by rw[OT,List.all_append,nN i0];simp [GU]) (by rw[OT,hm];exact aiC m) (by rw[hm];exact seq xs i0 qj)).mono fun _ h1 hb=> ?_;obtain⟨b,hs,ls,k1,rfl,k2⟩:=hb;refine⟨ls,p,as,bd,dM n T,?_,?_⟩
 ·show(hs++[an.lp ls p as bd (dM n T)])[(Hs i0).length]?=_;rw[hm];exact ff _ _ [] k1
 ·show Ma P N0 Q ⟨n,T,(hs++[an.lp ls p as bd (dM n T)]).set (Hs i0).length .gone⟩ ls;rw[hm,yT _ _ _ k1];exact k2
section
variable {m n:Nat} {T:aiE (Nat×AV)} {LP:an} {next:aiE an→Prop} {Q:Exit→St→Prop} {s:St}
theorem E8(hs:aiE an)(hl:hs.length=m)(hb:hs.all (an.bf (m+1))=true)(hc:iB s [] (m+1)=some ⟨s.n,[],hs++[LP]⟩)(hn:next hs):Gi m n T LP next Q .normal s:=⟨hs,hl,hb,hc,hn⟩
theorem Jj(hs:aiE an)(hl:hs.length=m)(hb:hs.all (an.bf (m+1))=true)(hc:iB s [] (m+1)=some ⟨s.n,[],hs++[LP]⟩)(hq:Q .ret ⟨n,T,hs++[.gone]⟩):Gi m n T LP next Q .ret s:=⟨hs,hl,hb,hc,hq⟩
theorem ZR{i:Nat}(hs:aiE an)(hl:hs.length=m)(hb:hs.all (an.bf (m+1))=true)(hc:iB s [] (m+1)=some ⟨s.n,[],hs++[LP]⟩)(hq:Q (.exit i) ⟨n,T,hs++[.gone]⟩):Gi m n T LP next Q (.exit i) s:=⟨hs,hl,hb,hc,hq⟩
end
set_option linter.unusedSimpArgs false
set_option linter.unusedVariables false
abbrev Lf:=St×aiE Nat×aiE (Nat×aiE (In×cD))
def uv(go:Nat→aiG (aiE Lf)):aiE Nat→aiG (aiE Lf)
 |[]=>some []
 |k::r=>match go k with
  |some a=>match uv go r with
   |some b=>some (a++b)
   |none=>none
  |none=>none
def Ay(P:aiH)(ops:Array Oper)(A C:aiE Nat)(as:aiE (Nat×cD)):Nat→Nat→aiE Nat→aiE (Nat×aiE (In×cD))→St→aiG (aiE Lf)
 |0,L,al,acc,s=>match rD A L 0 with
  |[]=>some [(s,al,acc)]
  |_=>none
 |f+1,L,al,acc,s=>match rD A L 0 with
  |[]=>some [(s,al,acc)]
  |k0::r=>uv (fun k=>match ops[k]? with
     |some o=>match mS P ops true o k as s with
      |some (s1,l)=>fN (L|||(1<<<k)) fun L=>Ay P ops A C as f L (al++List.replicate (s1.h.length-s.h.length) k) ((k,l)::acc) s1
      |none=>none
     |none=>none) (match DI C L (k0::r)with
      |some k=>[k]
      |none=>k0::r)
theorem Sb{go:Nat→aiG (aiE Lf)}:∀{l:aiE Nat}{ls:aiE Lf},uv go l=some ls→∀k∈l,∃a,go k=some a∧∀x∈a,x∈ls
 |[],_,_,k,hk=>by cases hk
 |j::r,ls,h,k,hk=>by
  unfold uv at h;split at h
  ·next a e1=>
   split at h
   ·next b e2=>
    cases h
    rcases aik.1 hk with rfl|hk
    ·exact⟨a,e1,fun x hx=>List.mem_append_left _ hx⟩
    ·obtain⟨a',e3,h3⟩:=Sb e2 k hk;exact⟨a',e3,fun x hx=>List.mem_append_right _ (h3 x hx)⟩
   ·cases h
  ·cases h
section
variable {P:aiH} {ops:Array Oper} {as:aiE (Nat×cD)} {K:St→Prop} {s0:St}
theorem adR{o:Oper}{j:Nat}{dr:Bool}{s s1:St}{l:aiE (In×cD)}(h:mS P ops dr o j as s=some (s1,l))(ho:o∈ops.toList)(hB:kI (mW ops.toList) s0 s):kI (mW ops.toList) s0 s1:=by
 have cI:∀{i a r l},sf i a r=some (s1,l)→∃m,r=some (s1,m):=fun{i a r l} h=>by
  unfold sf at h;split at h
  ·exact⟨_,h⟩
  ·split at h
   ·cases h;exact⟨_,rfl⟩
   ·cases h
 have cR:∀{m r l},pv m r=some (s1,l)→∃m,r=some (s1,m):=fun{m r l} h=>by
  unfold pv at h;split at h
  ·cases h;exact⟨_,rfl⟩
  ·cases h
 have Rw:kI (mW ops.toList) s0 (B6 o s):=hB.put s.h (.d (.v undef)) (Fy ho);have st:∀l,om P dr o j as s=some (s1,l)→kI (mW ops.toList) s0 s1:=fun l h=>by
  unfold om at h;cases hd:dr&&DD (iE as (3*j+1))&& !yq o (iE as (3*j+1))with
  |true=>rw[hd]at h;cases h
  |false=>
   rw[hd]at h;simp only[cond_false]at h;split at h
   ·split at h<;>(obtain⟨m,e⟩:=cI h;cases e;exact hB.put _ _ (Fy ho))
   ·cases h
 unfold mS at h;split at h
 ·exact st _ h
 ·split at h
  ·obtain⟨m,e⟩:=cR h;revert e;generalize ((_:Bool)==_)=q;intro e;cases q with
   |true=>exact st _ e
   |false=>cases e;exact Rw
  ·obtain⟨m,e⟩:=cR h;cases e;exact Rw
  ·cases h
theorem Vl(hK:uh K)(hM:qa (Region.before ops) ops=true)(t0:aiE (Nat×AV)):
 ∀(fuel L:Nat)(listed:Array Bool)(al:aiE Nat)(acc:aiE (Nat×aiE (In×cD)))(s:St)(ls:aiE Lf),LM ops L listed→Dn ops listed→Ay P ops (qY ops 0 ops.size) (o8 ops false (Region.before ops) 0 ops.size) as fuel L al acc s=some ls→
  (∃x,x∈ls)∧(∀x∈ls,(∀p∈acc,p∈x.2.2)∧((∃pre,s.t=pre++t0)→∃pre,x.1.t=pre++t0)∧(kI (mW ops.toList) s0 s→kI (mW ops.toList) s0 x.1))∧((∀x∈ls,(∀p∈x.2.2,gU P p.2)∧K x.1)→mQ false P ops K fuel listed s)
 |0,L,listed,al,acc,s,ls,hL,hD,h=>by
  unfold Ay at h;split at h
  ·next hr=>
   cases h
   refine⟨⟨_,ahV⟩,fun x hx=> ?_,fun hk=>⟨?_,(hk _ ahV).2⟩⟩
   ·rw[List.mem_singleton]at hx;subst hx;exact⟨fun _ h=>h,fun h=>h,fun h=>h⟩
   ·rw[List.eq_nil_iff_forall_not_mem];intro i hi;have:=(hL.ready i).1 hi;rw[hr]at this;cases this
  ·cases h
 |fuel+1,L,listed,al,acc,s,ls,hL,hD,h=>by
  have mem:∀{k:Nat}{o:Oper},ops[k]?=some o→o∈ops.toList:=fun ho=>Array.mem_toList_iff.2 (Array.mem_of_getElem? ho);unfold Ay at h;split at h
  ·next hr=>
   cases h
   refine⟨⟨_,ahV⟩,fun x hx=> ?_,fun hk=>⟨fun _=>(hk _ ahV).2,fun i hi=> ?_⟩⟩
   ·rw[List.mem_singleton]at hx;subst hx;exact⟨fun _ h=>h,fun h=>h,fun h=>h⟩
   ·have:=(hL.ready i).1 hi;rw[hr]at this;cases this
  ·next k0 r hr=>
   generalize W4:(fun k:Nat=>(match ops[k]? with
    |some o=>match mS P ops true o k as s with
     |some (s1,l)=>fN (L|||(1<<<k)) fun L=>Ay P ops (qY ops 0 ops.size) (o8 ops false (Region.before ops) 0 ops.size) as fuel L (al++List.replicate (s1.h.length-s.h.length) k) ((k,l)::acc) s1
     |none=>none
    |none=>none:aiG (aiE Lf)))=go at h
   have one:∀k a,k∈Region.ready .any ops listed→go k=some a→∃o s1 l,ops[k]?=some o∧mS P ops true o k as s=some (s1,l)∧(∃x,x∈a)∧(∀x∈a,(∀p∈(k,l)::acc,p∈x.2.2)∧((∃pre,s.t=pre++t0)→∃pre,x.1.t=pre++t0)∧(kI (mW ops.toList) s0 s→kI (mW ops.toList) s0 x.1))∧
       ((∀x∈a,(∀p∈x.2.2,gU P p.2)∧K x.1)→∃y h1,mq false P ops o s y h1∧mQ false P ops K fuel (listed.setIfInBounds k true) ((s.wh h1).put o.dst y)):=fun k a EZ tq=>by
    rw[←W4]at tq;simp only at tq;split at tq
    ·next o ho=>
     split at tq
     ·next s1 l hg=>
      rw[AP]at tq;obtain⟨h1,h2,h3⟩:=Vl hK hM t0 fuel _ _ _ _ s1 a (hL.set (ah4.1 ho).1) (hD.set EZ) tq;refine⟨o,s1,l,ho,hg,h1,fun x hx=>⟨(h2 x hx).1,fun⟨pre,hp⟩=> ?_,fun hB=>(h2 x hx).2.2 (adR hg (mem ho) hB)⟩,fun hk=> ?_⟩
      ·obtain⟨⟨p1,e1⟩,_⟩:=Su hg;exact(h2 x hx).2.1 ⟨p1++pre,by rw[e1,hp,ah6]⟩
      ·obtain⟨x,hx⟩:=h1;have hl:gU P l:=(hk x hx).1 (k,l) ((h2 x hx).1 _ ahV);have h4:=KS (K:=(·=s1)) hg hl rfl;have h5:=h3 hk;have:∃y h1,mq false P ops o s y h1∧(s.wh h1).put o.dst y=s1:=by
        rcases MZ h4 with⟨g,hd⟩|⟨g,hd⟩
        ·obtain⟨y,h1,h2,h3⟩:=LR hd;exact⟨y,h1, .inl ⟨g,h2⟩,h3⟩
        ·exact⟨_,s.h, .inr ⟨g,rfl,rfl⟩,hd⟩
       obtain⟨y,hh,q1,rfl⟩:=this;exact⟨y,hh,q1,h5⟩
     ·cases tq
    ·cases tq
   cases hf:DI (o8 ops false (Region.before ops) 0 ops.size) L (k0::r)with
   |some k=>
    rw[hf]at h;obtain⟨td,Hf⟩:=RJ hf;have EZ:k∈Region.ready .any ops listed:=(hL.ready k).2 (by rw[hr];exact td);unfold uv at h;split at h
    ·next a e1=>
     unfold uv at h;simp only[aia]at h;cases h
     obtain⟨o,s1,l,ho,hg,h1,h2,h3⟩:=one k _ EZ e1;refine⟨h1,fun x hx=>⟨fun p hp=>(h2 x hx).1 p (ahY _ hp),(h2 x hx).2⟩,fun hk=> ?_⟩;obtain⟨y,hh,q1,q2⟩:=h3 hk;refine Kd hK hM ho fuel listed s hD (fun j oj hj dj pY xo=> ?_) EZ q1 q2;have S3:=(ah4.1 hj).1;have B9:=(ah4.1 ho).1;have acr:Nat.testBit L j=false:=by
      rw[hL.b];have iF:j<listed.size:=by rw[hL.sz];exact S3
      simpa [iF]using pY
     have zg:Nat.testBit (B5 ops false (Region.before ops) k) j=false:=by
      rw[←Bool.not_eq_true];intro hc;have h5:(o8 ops false (Region.before ops) 0 ops.size).getD k 0=B5 ops false (Region.before ops) k:=by
        rw[List.getD_eq_getElem?_getD,Ue,if_pos B9,ah9];rfl
      rw[h5]at Hf;have:=congrArg (fun n=>Nat.testBit n j) Hf;simp only[Nat.testBit_or,hc,acr]at this;cases this
     unfold B5 at zg;rw[GA]at zg;unfold SH at zg;rw[xo,ho,hj]at zg;simp [S3,dj]at zg;exact zg
    ·cases h
   |none=>
    rw[hf]at h;have RQ:=Sb h;have Mj:k0∈Region.ready .any ops listed:=(hL.ready k0).2 (by rw[hr];simp);have back:∀(l:aiE Nat)(ls:aiE Lf),uv go l=some ls→∀x∈ls,∃k∈l,∃a,go k=some a∧x∈a:=by
      intro l
      induction l with
      |nil=>intro ls h x hx;cases h;cases hx
      |cons j r ih=>
       intro ls h x hx;unfold uv at h;split at h
       ·next a e1=>
        split at h
        ·next b e2=>
         cases h
         rcases ais.1 hx with hx|hx
         ·exact⟨j,ahV,a,e1,hx⟩
         ·obtain⟨k,hk,a',h1,h2⟩:=ih b e2 x hx;exact⟨k,ahY _ hk,a',h1,h2⟩
        ·cases h
       ·cases h
    refine⟨?_,fun x hx=> ?_,fun hk=>⟨fun e=>(by rw[e]at Mj;cases Mj),fun i hi oi RN=> ?_⟩⟩
    ·obtain⟨a,e1,h1⟩:=RQ k0 ahV;obtain⟨o,s1,l,ho,hg,⟨x,hx⟩,_⟩:=one k0 a Mj e1;exact⟨x,h1 x hx⟩
    ·obtain⟨k,hk,a,e1,QE⟩:=back _ _ h x hx;obtain⟨o,s1,l,ho,hg,h1,h2,h3⟩:=one k a ((hL.ready k).2 (by rw[hr];exact hk)) e1;exact⟨fun p hp=>(h2 x QE).1 p (ahY _ hp),(h2 x QE).2⟩
    ·have dT:i∈k0::r:=by rw[←hr];exact(hL.ready i).1 hi
     obtain⟨a,e1,h1⟩:=RQ i dT;obtain⟨o,s1,l,ho,hg,_,_,h3⟩:=one i a hi e1;rw[ho]at RN;cases RN;exact h3 fun x hx=>hk x (h1 x hx)
end
def J5(k:Nat):aiE Nat→Nat
 |[]=>0
 |j::l=>bif cN (j+1) k then J5 k l+1 else J5 k l
def Jl(k:Nat):aiE Nat→Nat
 |[]=>0
 |j::l=>bif j==k then Jl k l+1 else Jl k l
def K7(h0:Nat)(all:aiE Nat):aiE Nat→aiE Nat→aiE Nat
 |_,[]=>[]
 |pre,k::l=>fN (h0+J5 k all+Jl k pre) fun q=>q::K7 h0 all (k::pre) l
def Qe(q:Nat):aiE Nat→Nat→Nat
 |[],i=>i
 |x::l,i=>bif x==q then i else Qe q l (i+1)
def Mn(h0:Nat)(p:aiE Nat):Nat→Nat→aiE Nat
 |0,_=>[]
 |n+1,q=>fN (Qe q p h0) fun i=>i::Mn h0 p n (q+1)
def By(a:Nat×aiE (In×cD)):aiE (Nat×aiE (In×cD))→aiE (Nat×aiE (In×cD))
 |[]=>[a]
 |b::l=>bif cN a.1 b.1 then a::b::l else b::By a l
def Eb:aiE (Nat×aiE (In×cD))→aiE (Nat×aiE (In×cD))
 |[]=>[]
 |a::l=>By a (Eb l)
def GC:aiE (Nat×aiE (In×cD))→aiE (In×cD)
 |[]=>[]
 |a::l=>a.2++GC l
def qO(p q:aiE Nat)(h0:Nat)(h:aiE an):Nat→Nat→aiE an
 |0,_=>[]
 |n+1,i=>(match h[fp h0 q i]? with|some B=>B.aY (fp h0 p)|none=> .gone)::qO p q h0 h n (i+1)
def yV(h0:Nat)(p:aiE Nat):Bool:=(List.range p.length).all fun i=>p.getD i 0==h0+i
theorem acf{h0:Nat}{p:aiE Nat}(h:yV h0 p=true):fp h0 p=id:=by
 funext i
 unfold fp;cases e:cN h0 i with
 |false=>rfl
 |true=>
  rw[dQ]at e;simp only[cond_true,id];by_cases hi:i-h0<p.length
  ·unfold yV at h;rw[aif]at h;have:=h (i-h0) (List.mem_range.2 hi);rw[beq_iff_eq,List.getD_eq_getElem?_getD,ahT hi]at this;rw[List.getD_eq_getElem?_getD,ahT hi];simp only[Option.getD_some]at this ⊢;omega
  ·rw[List.getD_eq_getElem?_getD,aim (by omega)];rfl
def OW(bq:aiE Nat)(s:St)(x:Lf)(p q:aiE Nat):aiG (aiE (Nat×AV)×aiE an×aiE (In×cD)):=
 bif (x.1.t.take (x.1.t.length-s.t.length)).all (fun p=>bq.any (·==p.1)||N1 (bH s.t p.1))&&(List.range x.1.h.length).all (fun i=>cN (fp s.h.length p i+1) x.1.h.length&&cN (fp s.h.length q i+1) x.1.h.length&&fp s.h.length q (fp s.h.length p i)==i&&fp s.h.length p (fp s.h.length q i)==i)
 then some (bq.map fun k=>(k,(bH x.1.t k).aY (fp s.h.length p)),bif yV s.h.length p then x.1.h else qO p q s.h.length x.1.h x.1.h.length 0,GC (Eb x.2.2))else none
def Ir(bq:aiE Nat)(s:St)(x:Lf):aiG (aiE (Nat×AV)×aiE an×aiE (In×cD)):=
 fL (K7 s.h.length x.2.1 [] x.2.1) fun p=>fL (Mn s.h.length p p.length s.h.length) fun q=>OW bq s x p q
def IE(bq:aiE Nat)(s:St):aiE Lf→aiG (aiE (aiE (Nat×AV)×aiE an×aiE (In×cD)))
 |[]=>some []
 |x::l=>match Ir bq s x with
  |some a=>match IE bq s l with
   |some b=>some (a::b)
   |none=>none
  |none=>none
def Ae(P:aiH)(ol:aiE Oper)(as:aiE (Nat×cD))(bq:aiE Nat)(s:St):aiG (aiE (aiE (Nat×AV)×aiE an×aiE (In×cD))):=
 bif qa (Region.before ol.toArray) ol.toArray then fL (qY ol.toArray 0 ol.toArray.size) fun A=>fL (o8 ol.toArray false (Region.before ol.toArray) 0 ol.toArray.size) fun C=>
  match Ay P ol.toArray A C as ol.toArray.size 0 [] [] s with
  |some ls=>IE bq s ls
  |none=>none
 else none
theorem OS{bq:aiE Nat}{s:St}:∀{ls:aiE Lf}{r},IE bq s ls=some r→∀x∈ls,∃a∈r,Ir bq s x=some a
 |[],_,_,x,hx=>by cases hx
 |y::l,r,h,x,hx=>by
  unfold IE at h;split at h
  ·next a e1=>
   split at h
   ·next b e2=>
    cases h
    rcases aik.1 hx with rfl|hx
    ·exact⟨a,ahV,e1⟩
    ·obtain⟨a',h1,h2⟩:=OS e2 x hx;exact⟨a',ahY _ h1,h2⟩
   ·cases h
  ·cases h
theorem Ss{a x:Nat×aiE (In×cD)}:∀{l:aiE (Nat×aiE (In×cD))},x∈By a l↔x=a∨x∈l
 |[]=>by simp [By]
 |b::l=>by
  unfold By;cases cN a.1 b.1 with
  |true=>simp
  |false=>
   simp only[cond_false,aik,Ss (l:=l)];constructor
   ·rintro(h|h|h)
    ·exact .inr (.inl h)
    ·exact .inl h
    ·exact .inr (.inr h)
   ·rintro(h|h|h)
    ·exact .inr (.inl h)
    ·exact .inl h
    ·exact .inr (.inr h)
theorem Q1{x:Nat×aiE (In×cD)}:∀{l:aiE (Nat×aiE (In×cD))},x∈Eb l↔x∈l
 |[]=>by simp [Eb]
 |a::l=>by rw[Eb,Ss,Q1 (l:=l),aik]
theorem O9{P:aiH}:∀{l:aiE (Nat×aiE (In×cD))},gU P (GC l)→∀p∈l,gU P p.2
 |[],_,p,hp=>by cases hp
 |a::l,h,p,hp=>by
  unfold GC at h;rcases aik.1 hp with rfl|hp
  ·exact fun q hq=>h q (List.mem_append_left _ hq)
  ·exact O9 (fun q hq=>h q (List.mem_append_right _ hq)) p hp
theorem OR{p q:aiE Nat}{h0:Nat}{h:aiE an}:∀(n i j:Nat),(qO p q h0 h n i)[j]?=if j<n then some (match h[fp h0 q (i+j)]? with|some B=>B.aY (fp h0 p)|none=> .gone)else none
 |0,i,j=>by simp [qO]
 |n+1,i,0=>by simp [qO]
 |n+1,i,j+1=>by
  rw[qO,air,OR n (i+1) j];simp only[Nat.add_lt_add_iff_right];rw[show i+1+j=i+(j+1) by omega]
theorem Rr{p q:aiE Nat}{h0:Nat}{h:aiE an}:∀(n i:Nat),(qO p q h0 h n i).length=n
 |0,_=>rfl
 |n+1,i=>by rw[qO,ahS,Rr n]
theorem ZJ{P:aiH}{ops:Array Oper}{N0:Nat}{bq:aiE Nat}{s:St}{x:Lf}{Δ:aiE (Nat×AV)}{h':aiE an}{ps:aiE (In×cD)}(h:Ir bq s x=some (Δ,h',ps))(hN:N0≤s.h.length)(qw:∀i,(bH s.t i).bf s.h.length=true)
 (hn:x.1.n=s.n) (hp:∃pre,x.1.t=pre++s.t) (cE:gU P ps):iN N0 x.1 ⟨s.n,Δ++s.t,h'⟩∧∀p∈x.2.2,gU P p.2:=by
 unfold Ir at h;rw[AO,AO]at h;generalize K7 s.h.length x.2.1 [] x.2.1=p at h;generalize Mn s.h.length p p.length s.h.length=q at h;unfold OW at h;obtain⟨hb,he⟩:=eh h;cases he
 rw[ahR]at hb;obtain⟨hb,hc⟩:=hb;simp only[aif,List.mem_range,ahR,beq_iff_eq,dQ]at hc;have wv:∀i,i<s.h.length→fp s.h.length p i=i:=fun i hi=>by
   unfold fp;have:cN s.h.length i=false:=by rw[←Bool.not_eq_true,dQ];omega
   rw[this];rfl
 refine⟨?_,fun y hy=>O9 cE y (Q1.2 hy)⟩;refine iN.aY (fp s.h.length p) (fp s.h.length q) hn (by
  cases yV s.h.length p with
  |true=>rfl
  |false=>exact Rr _ _) (fun i hi=>(hc i hi).1.1.1) (fun i hi=>(hc i hi).1.1.2) (fun i hi=>(hc i hi).1.2) (fun i hi=>(hc i hi).2) (fun i hi=>wv i (by omega)) (fun i _=> ?_) fun i hi=> ?_
 ·obtain⟨pre,e1⟩:=hp;have DO:∀(f:Nat→AV),(bq.map fun k=>(k,f k)).map (·.1)=bq:=fun f=>by rw[List.map_map];exact List.map_id _
  show bH ((bq.map fun k=>(k,(bH x.1.t k).aY (fp s.h.length p)))++s.t) i=_∨_;rcases BN (bq.map fun k=>(k,(bH x.1.t k).aY (fp s.h.length p))) s.t i with⟨h1,h2⟩|⟨h1,h2⟩
  ·rw[DO]at h1;rw[h2,nS (fun k=>(bH x.1.t k).aY (fp s.h.length p)),if_pos h1];exact .inl rfl
  ·rw[DO]at h1;show _∨bH ((bq.map fun k=>(k,(bH x.1.t k).aY (fp s.h.length p)))++s.t) i=_;rw[h2];rw[e1,ahQ,Nat.add_sub_cancel,List.take_left']at hb
   ·rw[e1];rcases BN pre s.t i with⟨h3,h4⟩|⟨h3,h4⟩
    ·right
     obtain⟨y,hy,rfl⟩:=List.mem_map.1 h3;have:=aif.1 hb y hy;rw[Bool.or_eq_true]at this;rcases this with this|this
     ·exfalso;obtain⟨k,hk,e⟩:=List.any_eq_true.1 this;rw[beq_iff_eq]at e;exact h1 (e▸hk)
     ·generalize bH s.t y.1=z at this;cases z<;>first|rfl|cases this
    ·left
     rw[h4,vy (τ:=id) wv _ (qw i),AS]
   ·rfl
 ·show(bif yV s.h.length p then x.1.h else qO p q s.h.length x.1.h x.1.h.length 0)[fp s.h.length p i]?=_;cases hid:yV s.h.length p with
  |true=>rw[acf hid];simp only[cond_true,id];rw[ahT hi,Option.map_some,Lr]
  |false=>
  simp only[cond_false];rw[OR,if_pos (Nat.lt_of_succ_le (hc i hi).1.1.1),ah9,(hc i hi).1.2,ahT hi];rfl
theorem Sq{P:aiH}{ol:aiE Oper}{as:aiE (Nat×cD)}{bq:aiE Nat}{s:St}{Δ:aiE (Nat×AV)}{h':aiE an}{ps:aiE (In×cD)}{m N0:Nat}{K:St→Prop}(h:Ae P ol as bq s=some (List.replicate m (Δ,h',ps)))(cE:gU P ps)(hN:N0≤s.h.length)(qw:∀i,(bH s.t i).bf s.h.length=true)(hK:HW N0 K)(hk:K ⟨s.n,Δ++s.t,h'⟩):
 mQ false P ol.toArray K ol.toArray.size (Array.replicate ol.toArray.size false) s:=by
 unfold Ae at h;obtain⟨hM,h⟩:=mB h;rw[AO,AO]at h;split at h
 ·next ls e1=>
  obtain⟨_,h2,h3⟩:=Vl (s0:=s) hK.c hM s.t _ 0 (Array.replicate ol.toArray.size false) _ _ s ls ⟨by simp,fun i=>by
   rw[Nat.zero_testBit,Array.getD_eq_getD_getElem?,Array.getElem?_replicate];split<;>rfl⟩ (fun j o ho hj=>by
   exfalso;rw[Array.getD_eq_getD_getElem?]at hj;rw[Array.getElem?_replicate]at hj;split at hj<;>simp at hj) e1
  refine h3 fun x hx=> ?_;obtain⟨a,ha,e2⟩:=OS h x hx;rw[List.mem_replicate]at ha;obtain⟨_,rfl⟩:=ha;obtain⟨k1,k2⟩:=ZJ (P:=P) (ops:=ol.toArray) e2 hN qw ((h2 x hx).2.2 (kI.refl _ _)).n ((h2 x hx).2.1 ⟨[],rfl⟩) cE;exact⟨k2,hK _ _ k1 hk⟩
 ·cases h
section
variable {P:aiH} {r:aiG Nat} {N0 id n:Nat} {ol:aiE Oper} {y:Code} {t:aiE (Nat×AV)} {h:aiE an} {Q Q':Exit→St→Prop}
theorem rtE(m:Nat)(hm:P.follows .mixedOrders=true)(Δ:aiE (Nat×AV))(h':aiE an)(e:∃bE:aiE (Nat×Ob P),Ae P ol (jL bE) (Δ.map (·.1)) ⟨n,t,h⟩=some (List.replicate m (Δ,h',jl bE)))(k:bS P r N0 y Q' ⟨n,Δ++t,h'⟩):bS P r N0 (.region id ol.toArray true) (gQ (fun s=>bS P r N0 y Q' s) Q) ⟨n,t,h⟩:=
 let ⟨bE,e⟩:=e
 Tb hm fun hN qw=>Sq e (pQ bE) hN qw (Ra _) ⟨_,iN.refl _ _,k⟩
theorem rt(m:Nat)(hm:P.follows .mixedOrders=true)(bE:aiE (Nat×Ob P))(Δ:aiE (Nat×AV))(h':aiE an)(e:Ae P ol (jL bE) (Δ.map (·.1)) ⟨n,t,h⟩=some (List.replicate m (Δ,h',jl bE)))(k:bS P r N0 y Q' ⟨n,Δ++t,h'⟩):bS P r N0 (.region id ol.toArray true) (gQ (fun s=>bS P r N0 y Q' s) Q) ⟨n,t,h⟩:=rtE m hm Δ h' ⟨bE,e⟩ k
theorem Xd(m:Nat)(hm:P.follows .mixedOrders=true)(bE:aiE (Nat×Ob P))(Δ:aiE (Nat×AV))(h':aiE an)(e:Ae P ol (jL bE) (Δ.map (·.1)) ⟨n,t,h⟩=some (List.replicate m (Δ,h',jl bE)))(k:Q .normal ⟨n,Δ++t,h'⟩):bS P r N0 (.region id ol.toArray true) Q ⟨n,t,h⟩:=
 Tb hm fun hN qw=>Sq e (pQ bE) hN qw (Ra _) ⟨_,iN.refl _ _,k⟩
end
theorem uG{f:AV→AV}(hf:∀d,f (.d d)= .d d)(xs:aiE (aiE D)):(aO xs).map (·.map f)=aO xs:=by
 unfold aO;rw[List.map_map];refine ail fun c _=> ?_;simp only[Function.comp,List.map_map];exact ail fun d _=>hf d
theorem nA(xs:aiE (aiE D)):(aO xs).length=xs.length:=by unfold aO;rw[ahU]
theorem CF{xs:aiE (aiE D)}{i:Nat}{c:aiE D}(h:xs[i]?=some c):(aO xs)[i]?=some (c.map .d):=by unfold aO;rw[ahW,h];rfl
theorem Py(xs:aiE (aiE D))(i:Nat)(c:aiE D):aO (xs.set i c)=(aO xs).set i (c.map .d):=by unfold aO;rw[List.map_set]
theorem adg(xs ys:aiE (aiE D)):aO (xs++ys)=aO xs++aO ys:=by unfold aO;rw[List.map_append]
theorem zu{cs:aiE AV}{l:aiE an}(h:VD l):VD (.cells cs::l):=⟨trivial,h⟩
theorem tn{e k n:Nat}{l:aiE an}(h:VD l):VD (.front e k n::l):=⟨trivial,h⟩
theorem ud{l:aiE an}(h:VD l):VD (.gone::l):=⟨trivial,h⟩
def an.oc(m:Nat):an→an
 | .vec e k cs=> .vec e k cs
 |B=>B.bU m
def an.yY:an→an
 | .vec e k cs=> .vec e k cs
 |B=>B.ni
def an.yw(m:Nat):an→Prop
 | .vec _ _ cs=>cs.map (·.map (AV.bU m))=cs∧cs.all (·.all (AV.bf m))=true
 |_=>True
def gT(m:Nat):aiE an→Prop
 |[]=>True
 |B::l=>B.yw m∧gT m l
section
variable {m:Nat} {l:aiE an}
theorem fh:gT m []:=trivial
theorem dP{B:an}(hB:B.yw m)(h:gT m l):gT m (B::l):=⟨hB,h⟩
theorem Ow(xs:aiE (aiE D)):(aO xs).all (·.all (AV.bf m))=true:=by simp [aO,AV.bf]
theorem gq{e k:Nat}{xs:aiE (aiE D)}(h:gT m l):gT m (.vec e k (aO xs)::l):=⟨⟨uG (fun d=>by simp [AV.bU]) _,Ow _⟩,h⟩
theorem ZE{e k i:Nat}{xs:aiE (aiE D)}{r:aiE AV}(h1:r.map (AV.bU m)=r)(h2:r.all (AV.bf m)=true)(h:gT m l):gT m (.vec e k ((aO xs).set i r)::l):=by
 refine⟨⟨by rw[List.map_set,uG (fun d=>by simp [AV.bU]),h1],?_⟩,h⟩;rw[aif];intro c hc;rcases List.mem_or_eq_of_mem_set hc with hc|rfl
 ·exact aif.1 (Ow (m:=m) xs) c hc
 ·exact h2
theorem gT.mem:∀{l:aiE an},gT m l→∀B∈l,B.yw m
 |[],_,B,hB=>by cases hB
 |_::_,h,B,hB=>by
  rcases aik.1 hB with rfl|hB
  ·exact h.1
  ·exact gT.mem h.2 B hB
end
theorem Zp{m:Nat}{B:an}(h:B.yw m):B.oc m=B.bU m:=by
 cases B with
 |vec e k cs=>simp only[an.oc,an.bU];rw[h.1]
 |_=>rfl
theorem aaF{m:Nat}{B:an}(h:B.yw m)(hl:(B.oc m).xa m=true):(B.bU m).bf m=true:=by
 cases B with
 |vec e k cs=>simp only[an.bU,an.bf];rw[h.1];exact h.2
 |_=>exact hl
theorem T1{G:Gh}{w:aiJ}{h:aiE an}(hi:cw G w h):cw G w (h.map an.yY):=by
 have eg:∀n,cA (h.map an.yY) G n=cA h G n:=fun n=>by
  unfold cA;rw[ahW];cases h[n]? with
  |none=>rfl
  |some B=>cases B<;>rfl
 have h2:=L1 hi;refine⟨by rw[ahU];exact hi.len,hi.z,hi.S,fun n B hB=> ?_,fun m n x hm hn=>hi.inj m n x (by rw[←eg];exact hm) (by rw[←eg];exact hn),hi.gl⟩;rw[ahW]at hB;cases h1:h[n]? with
 |none=>rw[h1]at hB;cases hB
 |some B'=>
  rw[h1]at hB;cases hB
  have h3:=h2.dz n B'.ni (by rw[ahW,h1];rfl);cases B' with
  |vec e k cs=>exact hi.dz n _ h1
  |_=>exact h3
def uo(kn:aiE (Nat×Nat))(n:Nat):Nat→aiE AV→aiE AV
 |_,[]=>[]
 |i,x::l=>(bif kn.any (fun p=>p.1==n&&p.2==i)then x else x.nrm)::uo kn n (i+1) l
def an.R8(kn:aiE (Nat×Nat))(n:Nat):an→an
 | .cells cs=> .cells (uo kn n 0 cs)
 |B=>B.yY
def nw(kn:aiE (Nat×Nat)):Nat→aiE an→aiE an
 |_,[]=>[]
 |n,B::l=>B.R8 kn n::nw kn (n+1) l
theorem Tc(kn:aiE (Nat×Nat))(n:Nat):∀(j:Nat)(cs:aiE AV),(uo kn n j cs).length=cs.length
 |_,[]=>rfl
 |j,x::l=>by rw[uo,ahS,Tc kn n (j+1) l,ahS]
theorem QI(kn:aiE (Nat×Nat))(n:Nat):∀(j:Nat)(cs:aiE AV)(i:Nat)(c':AV),(uo kn n j cs)[i]?=some c'→∃c,cs[i]?=some c∧(c'=c∨c'=c.nrm)
 |_,[],i,c',h=>by simp [uo]at h
 |j,x::l,0,c',h=>by
  simp only[uo,List.getElem?_cons_zero,Option.some.injEq]at h;refine⟨x,rfl,?_⟩;cases hk:kn.any (fun p=>p.1==n&&p.2==j)with
  |true=>rw[hk]at h;exact .inl h.symm
  |false=>rw[hk]at h;exact .inr h.symm
 |j,x::l,i+1,c',h=>by
  simp only[uo,air]at h;obtain⟨c,h1,h2⟩:=QI kn n (j+1) l i c' h;exact⟨c,by simpa using h1,h2⟩
theorem Mv(kn:aiE (Nat×Nat)):∀(j:Nat)(h:aiE an)(i:Nat)(B':an),(nw kn j h)[i]?=some B'→∃B,h[i]?=some B∧B'=B.R8 kn (j+i)
 |_,[],i,B',h=>by simp [nw]at h
 |j,B::l,0,B',h=>by simp only[nw,List.getElem?_cons_zero,Option.some.injEq]at h;exact⟨B,rfl,h.symm⟩
 |j,B::l,i+1,B',h=>by
  simp only[nw,air]at h;obtain⟨C,h1,h2⟩:=Mv kn (j+1) l i B' h;exact⟨C,by simpa using h1,by rw[h2];congr 1;omega⟩
theorem Ri(kn:aiE (Nat×Nat)):∀(j:Nat)(h:aiE an),(nw kn j h).length=h.length
 |_,[]=>rfl
 |j,B::l=>by rw[nw,ahS,Ri kn (j+1) l,ahS]
theorem Yr{G:Gh}{w:aiJ}{h:aiE an}(kn:aiE (Nat×Nat))(hi:cw G w h):cw G w (nw kn 0 h):=by
 have eg:∀n x,cA (nw kn 0 h) G n=some x→cA h G n=some x:=fun n x hx=>by
  obtain⟨B',hB,h1⟩:=kQ hx;obtain⟨B,h2,rfl⟩:=Mv kn 0 h n B' hB;rw[dV h2,←h1];cases B<;>rfl
 have h2:=T1 hi;refine⟨by rw[Ri];exact hi.len,hi.z,hi.S,fun n B' hB=> ?_,fun m n x hm hn=>hi.inj m n x (eg m x hm) (eg n x hn),hi.gl⟩;obtain⟨B,h1,rfl⟩:=Mv kn 0 h n B' hB;cases B with
 |cells cs=>
  obtain⟨c1,c2,vs,T,c3,c4,c5⟩:=hi.dz n _ h1;refine⟨c1,c2,vs,T,c3,by rw[Tc];exact c4,fun i u c hu hc=> ?_⟩;obtain⟨c0,h3,h4|h4⟩:=QI _ _ _ _ _ _ hc
  ·rw[h4];exact c5 i u c0 hu h3
  ·rw[h4];exact(c5 i u c0 hu h3).nrm
 |_=>exact h2.dz n _ (by rw[ahW,h1];rfl)
def lS(s:St)(live:aiE Nat)(m:Nat)(ks:aiE Nat)(kn:aiE (Nat×Nat)):aiG St:=
 bif cN m s.h.length&&(live.all fun k=>((bH s.t k).bU m).bf m)&&(((s.h.take m).map (an.oc m)).all (an.xa m))then some ⟨s.n,live.map fun k=>(k,bif ks.any (·==k)then(bH s.t k).bU m else(bH s.t k).fin m),nw kn 0 ((s.h.take m).map (an.oc m))⟩else none
theorem QU{h:aiE an}{m:Nat}(hd:gT m (h.take m)):(h.take m).map (an.oc m)=(h.take m).map (an.bU m):=ail fun B hB=>Zp (hd.mem B hB)
theorem UG{h:aiE an}{m:Nat}(hd:gT m (h.take m))(hl:((h.take m).map (an.oc m)).all (an.xa m)=true):((h.take m).map (an.bU m)).all (an.bf m)=true:=by
 rw[aif]at hl ⊢;intro B hB;obtain⟨B',h1,rfl⟩:=List.mem_map.1 hB;exact aaF (hd.mem B' h1) (hl _ (List.mem_map.2 ⟨B',h1,rfl⟩))
section
variable {P:aiH} {r:aiG Nat} {n N0:Nat} {G:Gh} {w:aiJ} {a:Act} {s s':St} {Q Q':Exit→St→Prop} {live:aiE Nat} {m:Nat} {ks:aiE Nat} {kn:aiE (Nat×Nat)}
theorem dk.lS(hs:dk G w a s)(hd:gT m (s.h.take m))(h:lS s live m ks kn=some s'):dk (G.cut m) w a s':=by
 unfold Go.Proofs.YtphmhnabilhbgaaGreatDoor.lS at h;obtain⟨hb,rfl⟩:=eh h;rw[ahR,ahR]at hb;have hm:=hs.mask (live:=live) ⟨dQ.1 hb.1.1,hb.1.2,UG hd hb.2⟩;refine⟨hs.size,fun i=> ?_,by show cw _ _ (nw kn 0 ((s.h.take m).map (an.oc m)));rw[QU hd];exact Yr kn hm.inv,hs.df⟩;have:=hm.tmp i
 change aL _ _ _ (bH (live.map fun k=>(k,(bH s.t k).bU m)) i)at this
 rw[nS (fun k=>(bH s.t k).bU m)]at this;show aL _ _ _ (bH (live.map fun k=>(k,bif ks.any (·==k)then(bH s.t k).bU m else(bH s.t k).fin m)) i);rw[nS (fun k=>bif ks.any (·==k)then(bH s.t k).bU m else(bH s.t k).fin m)];split at this
 ·rename_i hi
  rw[if_pos hi];cases ks.any (·==i)with
  |true=>exact this
  |false=>exact this.nrm
 ·rename_i hi;rw[if_neg hi];exact .dead _
theorem oA{c:Code}{ι:Type}(live:aiE Nat)(m:Nat)(ks:aiE Nat)(kn:aiE (Nat×Nat))(st:ι→St)(I:ι→Prop)(μ:ι→Nat)(i0:ι)(hm:N0≤m)(h0:gT m (s.h.take m)∧Go.Proofs.YtphmhnabilhbgaaGreatDoor.lS s live m ks kn=some (st i0))(hI:I i0)
 (round:∀i,I i→bS P r N0 c (gQ (fun s'=>∃i',(gT m (s'.h.take m)∧Go.Proofs.YtphmhnabilhbgaaGreatDoor.lS s' live m ks kn=some (st i'))∧I i'∧μ i'<μ i) Q) (st i)):bS P r N0 (.loop c) Q s:=by
 constructor
 intro G w a n hs _;refine IX (fun(i:ι) a' w'=>∃G',I i∧cp N0 G w G' w'∧N0≤G'.N∧dk G' w' a' (st i)) μ i0 ⟨G.cut m,hI,nT _ _ _ _,hm,hs.lS h0.1 h0.2⟩ ?_;rintro i a' w' ⟨G',hi,hE,hN,cY⟩;refine wpIn_mono ((round i hi).run G' w' a' n cY hN) fun e a1 w1 hn=> ?_;obtain⟨G1,s1,jG,gi,fc,hq⟩:=hn;cases e with
 |normal=>
  obtain⟨i',h1,h2,h3⟩:=hq;exact⟨i',⟨G1.cut m,h2,(hE.trans jG).trans (nT _ _ _ _),hm,fc.lS h1.1 h1.2⟩,h3⟩
 |_=>exact⟨G1,s1,hE.trans jG,gi,fc,hq⟩
theorem XL{c:Code}(live:aiE Nat)(m:Nat)(ks:aiE Nat)(kn:aiE (Nat×Nat))(hm:N0≤m)(h0:gT m (s.h.take m)∧Go.Proofs.YtphmhnabilhbgaaGreatDoor.lS s live m ks kn=some s')(h:bS P r N0 c Q s'):bS P r N0 c Q s:=by
 constructor
 intro G w a n hs _;exact wpIn_mono (h.run (G.cut m) w a n (hs.lS h0.1 h0.2) hm) fun _ _ _ hn=>hn.trans (nT N0 G w m)
theorem Xn{c y:Code}{ι:Type}(live:aiE Nat)(m:Nat)(ks:aiE Nat)(kn:aiE (Nat×Nat))(st:ι→St)(I:ι→Prop)(hm:N0≤m)(hc:bS P r N0 c (gQ (fun s'=>∃i,(gT m (s'.h.take m)∧Go.Proofs.YtphmhnabilhbgaaGreatDoor.lS s' live m ks kn=some (st i))∧I i) Q) s)(hy:∀i,I i→bS P r N0 y Q' (st i)):bS P r N0 c (gQ (fun s=>bS P r N0 y Q' s) Q) s:=by
 refine hc.mono fun e s' h=> ?_;cases e with
 |normal=>obtain⟨i,h1,h2⟩:=h;exact XL live m ks kn hm h1 (hy i h2)
 |_=>exact h
end
def Bg(P:aiH)(rs:aiE ResultVar)(m:Nat)(s:St):aiG (AV×aiE an):=
 match qE P s rs with
 |some l=>bif cN m s.h.length&&((jk l).bU m).bf m&&(((s.h.take m).map (an.oc m)).all (an.xa m))then some (((jk l).bU m).nrm,((s.h.take m).map (an.oc m)).map an.yY)else none
 |none=>none
def Pu(P:aiH)(fn:Func)(m:Nat)(R:AV)(H:aiE an):Exit→St→Prop
 | .normal,s=>gT m (s.h.take m)∧Bg P fn.results.toList m s=some (R,H)
 | .ret,s=>gT m (s.h.take m)∧Bg P fn.results.toList m s=some (R,H)
 |_,_=>False
theorem UX{P:aiH}{s:St}{fn:Func}{m:Nat}{R:AV}{H:aiE an}(h:gT m (s.h.take m)∧Bg P fn.results.toList m s=some (R,H)):py P fn m (fun r h'=>r.nrm=R∧h'.map an.yY=H) s:=by
 obtain⟨hd,h⟩:=h;unfold Bg at h;split at h
 ·next l e=>
  obtain⟨hb,he⟩:=eh h;cases he
  simp only[ahR,dQ]at hb;exact CH _ _ _ e ⟨hb.1.1,hb.1.2,UG hd hb.2,rfl,by rw[QU hd]⟩
 ·cases h
theorem lU{P:aiH}{s:St}{fn:Func}{m:Nat}{R:AV}{H:aiE an}(hd:gT m (s.h.take m))(h:Bg P fn.results.toList m s=some (R,H)):Pu P fn m R H .ret s:=⟨hd,h⟩
theorem tu{P:aiH}{f:FuncId}{fn:Func}{c:Code}{args:aiE AV}{h H:aiE an}{R:AV}(m:Nat)(hf:P.funcs[f]?=some fn)(hb:fn.body=some c)(hn:(fn.name== "runtime.NumGoroutine")=false)(hm:h.length≤m)
 (hw:bS P none h.length c (Pu P fn m R H) {n:=args.length+(fn.ntmps-args.length),t:=kS 0 args,h:=h}):bY P f args h fun r1 h1=>r1=R∧h1=H:=by
 have h0:=Ah (P:=P) (f:=f) (args:=args) (h:=h) (K:=fun r h'=>r.nrm=R∧h'.map an.yY=H) m hf hb hn hm (hw.mono fun e s hq=>by
  cases e with
  |normal=>exact UX hq
  |ret=>exact UX hq
  |_=>exact hq.elim)
 refine⟨h0.1,fun G w vs hi hl hr=>(h0.2 G w vs hi hl hr).mono fun e w' hp=> ?_⟩;obtain⟨v,G',x,h',rfl,hE,hN,dT,hv,rfl,rfl⟩:=hp;exact⟨v,G',x.nrm,_,rfl,hE,hN,T1 dT,hv.nrm,rfl,rfl⟩
mutual
def AV.kC(b:Nat):AV→aiE (Nat×Nat×Nat×Nat)
 | .vec n o len L k=>bif n==b then[(o,len,L,k)]else[]
 | .agg cs=>AV.lF b cs
 | .cb cs=>AV.lF b cs
 | .fn _ cs=>AV.lF b cs
 |_=>[]
def AV.lF(b:Nat):aiE AV→aiE (Nat×Nat×Nat×Nat)
 |[]=>[]
 |x::l=>x.kC b++AV.lF b l
end
mutual
def AV.mlt(b:Nat)(xs:aiE (aiE D)):AV→AV
 | .vec n o len L k=>bif n==b then .d (.sl xs)else .vec n o len L k
 | .dw n i j L k=>bif n==b then .dead else .dw n i j L k
 | .agg cs=> .agg (AV.jZ b xs cs)
 | .cb cs=> .cb (AV.jZ b xs cs)
 | .fn f cs=> .fn f (AV.jZ b xs cs)
 |x=>x
def AV.jZ(b:Nat)(xs:aiE (aiE D)):aiE AV→aiE AV
 |[]=>[]
 |x::l=>x.mlt b xs::AV.jZ b xs l
end
mutual
theorem Lt{b kk:Nat}{xs:aiE (aiE D)}:∀x:AV,(∀q∈x.kC b,q=(0,xs.length,xs.length,kk))→x.dn b kk xs=x.mlt b xs
 | .vec n o len L k,h=>by
   unfold AV.dn AV.mlt;unfold AV.kC at h;cases e:n==b with
   |false=>rfl
   |true=>
    rw[e]at h;have:=h _ ahV;cases this
    simp
 | .agg cs,h=>by unfold AV.dn AV.mlt;rw[q9 cs (by unfold AV.kC at h;exact h)]
 | .cb cs,h=>by unfold AV.dn AV.mlt;rw[q9 cs (by unfold AV.kC at h;exact h)]
 | .fn f cs,h=>by unfold AV.dn AV.mlt;rw[q9 cs (by unfold AV.kC at h;exact h)]
 | .dw n i j L k,h=>by unfold AV.dn AV.mlt;rfl
 | .d _,_=>by simp [AV.dn,AV.mlt]
 | .ptr ..,_=>by simp [AV.dn,AV.mlt]
 | .bt ..,_=>by simp [AV.dn,AV.mlt]
 | .own ..,_=>by simp [AV.dn,AV.mlt]
 | .full _,_=>by simp [AV.dn,AV.mlt]
 | .row ..,_=>by simp [AV.dn,AV.mlt]
 | .mp _,_=>by simp [AV.dn,AV.mlt]
 | .dp _,_=>by simp [AV.dn,AV.mlt]
 | .hid _,_=>by simp [AV.dn,AV.mlt]
 | .dead,_=>by simp [AV.dn,AV.mlt]
theorem q9{b kk:Nat}{xs:aiE (aiE D)}:∀l:aiE AV,(∀q∈AV.lF b l,q=(0,xs.length,xs.length,kk))→AV.n4 b kk xs l=AV.jZ b xs l
 |[],_=>by simp [AV.n4,AV.jZ]
 |x::l,h=>by
  unfold AV.lF at h;unfold AV.n4 AV.jZ;rw[Lt x fun q hq=>h q (List.mem_append_left _ hq),q9 l fun q hq=>h q (List.mem_append_right _ hq)]
end
inductive kg(b L kk:Nat)(xs:List (List D)):List an→List an→Prop
 |nil:kg b L kk xs [] []
 |cells {cs cB:List AV} {l l':List an} (c:Nat) (h:AV.lF b cs=List.replicate c (0,L,L,kk)) (e:AV.jZ b xs cs=cB) (t:kg b L kk xs l l'):kg b L kk xs (.cells cs::l) (.cells cB::l')
 |gY {e k:Nat} {ys:List (List D)} {l l':List an} (t:kg b L kk xs l l'):kg b L kk xs (.vec e k (aO ys)::l) (.vec e k (aO ys)::l')
 |row {e k i:Nat} {ys:List (List D)} {cs cB:List AV} {l l':List an} (c:Nat) (h:AV.lF b cs=List.replicate c (0,L,L,kk)) (e1:AV.jZ b xs cs=cB) (t:kg b L kk xs l l'):kg b L kk xs (.vec e k ((aO ys).set i cs)::l) (.vec e k ((aO ys).set i cB)::l')
 |front {e k n:Nat} {l l':List an} (t:kg b L kk xs l l'):kg b L kk xs (.front e k n::l) (.front e k n::l')
 |map {kv:List (ByteArray×D)} {l l':List an} (t:kg b L kk xs l l'):kg b L kk xs (.map kv::l) (.map kv::l')
 |gone {l l':List an} (t:kg b L kk xs l l'):kg b L kk xs (.gone::l) (.gone::l')
theorem y6{c L kk:Nat}{xs:aiE (aiE D)}(hL:xs.length=L){l:aiE (Nat×Nat×Nat×Nat)}(h:l=List.replicate c (0,L,L,kk)):∀q∈l,q=(0,xs.length,xs.length,kk):=fun q hq=>by
 rw[h,List.mem_replicate]at hq;rw[hq.2,hL]
theorem kg.eq{b L kk:Nat}{xs:aiE (aiE D)}(hL:xs.length=L){l l':aiE an}(h:kg b L kk xs l l'):l'=l.map (an.ie (AV.dn b kk xs)):=by
 have hd:∀d,AV.dn b kk xs (.d d)= .d d:=fun d=>by simp [AV.dn]
 induction h with
 |nil=>rfl
 |cells c h e t ih=>rw[aie,←ih,←e];simp only[an.ie];rw[←px,q9 _ (y6 hL h)]
 |gY t ih=>rw[aie,←ih];simp only[an.ie];rw[uG hd]
 |row c h e1 t ih=>rw[aie,←ih,←e1];simp only[an.ie];rw[List.map_set,uG hd,←px,q9 _ (y6 hL h)]
 |front t ih=>rw[aie,←ih];rfl
 |map t ih=>rw[aie,←ih];rfl
 |gone t ih=>rw[aie,←ih];rfl
theorem WH{P:aiH}{r:aiG Nat}{N0:Nat}{c:Code}{s:St}{Q:Exit→St→Prop}(live:aiE Nat)(b:Nat)(xs:aiE (aiE D)){e k L:Nat}(h':aiE an)(c1:Nat)(hb:s.h[b]?=some (.vec e k (aO xs)))(fz:∀c∈xs,c.all D.mY=true)(hL:xs.length=L)
 (ho:(live.flatMap fun i=>(bH s.t i).kC b)=List.replicate c1 (0,L,L,k)) (hh:kg b L k xs s.h h') (K:bS P r N0 c Q ⟨s.n,live.map (fun i=>(i,(bH s.t i).mlt b xs)),h'.set b .gone⟩):bS P r N0 c Q s:=by
 constructor
 intro G w a n hs hN;obtain⟨G',hE,e1,cY⟩:=hs.JF xs hb fz;refine wpIn_mono (K.run G' w a n (cY.less rfl (by rw[hh.eq hL]) fun i=> ?_) (by rw[e1];exact hN)) fun _ _ _ hn=>hn.trans (hE.less hN);show bH (live.map (fun i=>(i,(bH s.t i).mlt b xs))) i=bH (s.t.map fun p=>(p.1,p.2.dn b k xs)) i∨_;rw[nS (fun k=>(bH s.t k).mlt b xs),wJ (AV.dn b k xs) (by simp [AV.dn])];split
 ·next hi=>
  left
  refine(Lt _ fun q hq=>y6 hL ho q ?_).symm;exact List.mem_flatMap.2 ⟨i,hi,hq⟩
 ·exact .inr rfl
theorem NL{G:Gh}{w:aiJ}{h:aiE an}(hi:cw G w h)(e k:Nat):cp G.N G w (G.eK (.slice none 0 0) 0 none) w∧G.N≤(G.eK (.slice none 0 0) 0 none).N∧cw (G.eK (.slice none 0 0) 0 none) w (h++[.vec e k []])∧aL (G.eK (.slice none 0 0) 0 none) w (.slice none 0 0) (.vec h.length 0 0 0 k):=by
 obtain⟨a1,a2⟩:=Kl (w':=w) hi (.vec e k []) (fun _ _=>rfl) (.slice none 0 0) 0 none ⟨fun _ _=>rfl,ah0 _,rfl,rfl,rfl⟩ (fun _ h=>by cases h)
  ⟨by simp [Gh.eK],Nat.zero_le _,fun c hc=>absurd hc aiw, .inl ⟨by simp [Gh.eK],rfl,none,by simp [Gh.eK]⟩⟩
 refine⟨a1,Nat.le_succ _,a2, .vec _ 0 0 0 k (by rw[hi.len];exact aiC _) ⟨none,0,0,rfl⟩ (Nat.zero_le _) fun _=>⟨ah0 _,⟨none,0,rfl,ah0 _,Nat.zero_le _,ah0 _,fun h=>absurd h (aiu _)⟩,fun _ _=> ?_⟩⟩;simp [Gh.eK,hi.len]
section
variable {P:aiH} {r:aiG Nat} {N0:Nat} {s:St} {Q:Exit→St→Prop} {c:Code}
theorem H4(t e k:Nat)(hx:bH s.t t= .d (.v (.slice none 0 0)))(h:bS P r N0 c Q ⟨s.n,(t, .vec s.h.length 0 0 0 k)::s.t,s.h++[.vec e k []]⟩):bS P r N0 c Q s:=by
 constructor
 intro G w a n hs hN;obtain⟨a1,a2,a3,a4⟩:=NL hs.inv e k;have hv:=hs.tmp t;rw[hx]at hv;have hv:=hv.val;have cY:dk (G.eK (.slice none 0 0) 0 none) w a ⟨s.n,(t, .vec s.h.length 0 0 0 k)::s.t,s.h++[.vec e k []]⟩:=by
  refine⟨hs.size,fun i=> ?_,a3,hs.df.bq a1⟩;show aL _ _ _ (bH ((t, .vec s.h.length 0 0 0 k)::s.t) i);rw[lu];split
  ·next e=>exact e▸hv▸a4
  ·exact(hs.tmp i).bq a1 a2
 exact wpIn_mono (h.run _ w a n cY (ah7 hN a2)) fun _ _ _ hn=>hn.trans (a1.less hN)
theorem aho(b i e k:Nat){cs:aiE AV}(hb:s.h[b]?=some (.cells cs))(hx:cs[i]?=some (.d (.v (.slice none 0 0))))
 (h:bS P r N0 c Q ⟨s.n,s.t,(s.h++[an.vec e k []]).set b (an.cells (cs.set i (AV.vec s.h.length 0 0 0 k)))⟩):bS P r N0 c Q s:=by
 constructor
 intro G w a n hs hN;obtain⟨h1,h2,vs,T,h3,h4,h5⟩:=hs.inv.dz _ _ hb;have hi:i<cs.length:=(ahP.1 hx).1;have hv:vs[i]?=some vs[i]:=aib (by omega);have n8:=(h5 i _ _ hv hx).val;obtain⟨a1,a2,a3,a4⟩:=NL hs.inv e k;have aZ:=(ahP.1 hb).1;have cY:dk (G.eK (.slice none 0 0) 0 none) w a ⟨s.n,s.t,(s.h++[an.vec e k []]).set b (an.cells (cs.set i (AV.vec s.h.length 0 0 0 k)))⟩:=by
  refine⟨hs.size,fun j=>(hs.tmp j).bq a1 a2,LB a3 (by rw[ahZ aZ];exact hb) (by rw[List.length_set]) fun fU T' sV j u c hu hc=> ?_,hs.df.bq a1⟩;have e1:(G.eK (.slice none 0 0) 0 none).bA b=G.bA b:=rfl;rw[e1,h3]at sV;cases sV
  by_cases e2:i=j
  ·subst e2;rw[aij hi]at hc;cases hc
   rw[hv]at hu;cases hu
   rw[n8];exact a4
  ·rw[aio e2]at hc;exact(h5 j u c hu hc).bq a1 a2
 exact wpIn_mono (h.run _ w a n cY (ah7 hN a2)) fun _ _ _ hn=>hn.trans (a1.less hN)
theorem Re(b:Nat)(h:bS P r N0 c Q ⟨s.n,s.t,s.h.set b .gone⟩):bS P r N0 c Q s:=by
 constructor
 intro G w a n hs hN;have hi:=hs.inv;have eg:∀n x,cA (s.h.set b .gone) G n=some x→cA s.h G n=some x:=fun n x hx=>by
  obtain⟨B,hB,h1⟩:=kQ hx;by_cases e:b=n
  ·subst e;have aZ:=(ahP.1 hB).1;rw[List.length_set]at aZ;rw[aij aZ]at hB;cases hB;cases h1
  ·rw[aio e]at hB;rw[dV hB];exact h1
 refine h.run G w a n ⟨hs.size,hs.tmp,⟨by rw[List.length_set];exact hi.len,hi.z,hi.S,fun n B hB=> ?_,fun m n x h1 h2=>hi.inj m n x (eg m x h1) (eg n x h2),hi.gl⟩,hs.df⟩ hN;by_cases e:b=n
 ·subst e;have aZ:=(ahP.1 hB).1;rw[List.length_set]at aZ;rw[aij aZ]at hB;cases hB;trivial
 ·rw[aio e]at hB;exact hi.dz n B hB
end
theorem gJ{α:Type}{f:α→aiE D}{E:aiE α}{L:Nat}(h:E.length=L):(aO (E.map f)).length=L:=by rw[nA,ahU,h]
theorem la{cs:aiE (aiE AV)}{z:Int}{L i:Nat}(h:cs.length=L)(h0:0≤z)(h1:z<(L:Int))(h2:z.toNat=i):cs.length=L∧0≤z∧z<(L:Int)∧i=0+z.toNat:=⟨h,h0,h1,by rw[h2,ah9]⟩
theorem sB{α:Type}{f:α→aiE D}{E:aiE α}{L i:Nat}{x:α}(h:E.length=L)(hx:E[i]?=some x):(aO (E.map f)).length=L∧(aO (E.map f))[i]?=some ((f x).map .d):=⟨gJ h,CF (by rw[ahW,hx];rfl)⟩
theorem yB{α:Type}{f:α→aiE D}{E:aiE α}{L i j:Nat}{x y:α}{zs:aiE AV}(h:E.length=L)(hx:E[i]?=some x)(hy:(f y).map AV.d=gO ((f x).map .d) j zs):(aO (E.map f)).length=L∧(aO (E.map f))[i]?=some ((f x).map .d)∧aO ((E.set i y).map f)=(aO (E.map f)).set i (gO ((f x).map .d) j zs):=
 ⟨gJ h,CF (by rw[ahW,hx];rfl),by rw[List.map_set,Py,hy]⟩
theorem Vg{α:Type}{f:α→aiE D}{E ys:aiE α}{h:aiE an}{k L gu L' dx:Nat}{y:AV}(hE:E.length=L)(hy:y.fY=some (ys.map f))(hk:∀c∈ys.map f,c.length=k)(hn:ys.length=gu)(hL:L+ys.length=L')(hm:L'≤maxLen)(hb:L'*dx≤140737488355328):
 (aO (E.map f)).length=L∧z7 h k y (aO (ys.map f))∧L'=L+(aO (ys.map f)).length∧((0+L+(aO (ys.map f)).length≤L∧L'=L∧aO ((E++ys).map f)=(aO (E.map f)).take (0+L)++aO (ys.map f)++(aO (E.map f)).drop (0+L+(aO (ys.map f)).length))∨(0=0∧L=L∧L'=L+(aO (ys.map f)).length∧aO ((E++ys).map f)=aO (E.map f)++aO (ys.map f)∧L'≤maxLen∧L'*dx≤140737488355328)):=by
 have hl:(aO (ys.map f)).length=ys.length:=by rw[nA,ahU]
 refine⟨gJ hE, .inl ⟨_,hy,hk,rfl⟩,by rw[hl,hL], .inr ⟨rfl,rfl,by rw[hl,hL],by rw[List.map_append,adg],hm,hb⟩⟩
theorem Kz{xs:aiE (aiE D)}{h:aiE an}{k dx:Nat}{y:AV}(hk:∀c∈xs,c.length=k)(hy:y.fY=some xs)(hm:xs.length≤maxLen)(hb:xs.length*dx≤140737488355328):
 ([]:aiE (aiE D))=[]∧z7 h k y (aO xs)∧aO xs=aO xs∧xs.length=(aO xs).length∧xs.length=(aO xs).length∧xs.length≤maxLen∧xs.length*dx≤140737488355328:=⟨rfl, .inl ⟨xs,hy,hk,rfl⟩,rfl,(nA xs).symm,(nA xs).symm,hm,hb⟩
theorem agn{α:Type}{f:α→aiE D}{E:aiE α}{L i:Nat}{x:α}(r:aiE AV)(h:E.length=L)(hx:E[i]?=some x):((aO (E.map f)).set i r).length=L∧((aO (E.map f)).set i r)[i]?=some r:=
 ⟨by rw[List.length_set];exact gJ h,by rw[aij (by rw[gJ rfl];exact(ahP.1 hx).1)]⟩
theorem ac2{α:Type}{f:α→aiE D}{E:aiE α}{L i:Nat}{r:aiE AV}(h:E.length=L):((aO (E.map f)).set i r).length=L:=by rw[List.length_set];exact gJ h
theorem abB{α:Type}{f:α→aiE D}{E:aiE α}{L i j:Nat}{x:α}{zs r:aiE AV}(h:E.length=L)(hx:E[i]?=some x)(hy:r=gO ((f x).map .d) j zs):(aO (E.map f)).length=L∧(aO (E.map f))[i]?=some ((f x).map .d)∧(aO (E.map f)).set i r=(aO (E.map f)).set i (gO ((f x).map .d) j zs):=
 ⟨gJ h,CF (by rw[ahW,hx];rfl),by rw[hy]⟩
theorem XI{α:Type}{f:α→aiE D}{E:aiE α}{i:Nat}{y:α}{r:aiE AV}(hy:(f y).map AV.d=r):(aO (E.map f)).set i r=aO ((E.set i y).map f):=by rw[←hy,List.map_set,Py]
theorem FW{P:aiH}{r:aiG Nat}{N0:Nat}{c:Code}{s:St}{Q:Exit→St→Prop}(live:aiE Nat)(b:Nat)(xs ys:aiE (aiE D)){e k L:Nat}(h':aiE an)(c1:Nat)(hb:s.h[b]?=some (.vec e k (aO xs)))(fz:∀c∈xs,c.all D.mY=true)(hL:xs.length=L)(hy:ys=xs)
 (ho:(live.flatMap fun i=>(bH s.t i).kC b)=List.replicate c1 (0,L,L,k)) (hh:kg b L k ys s.h h') (K:bS P r N0 c Q ⟨s.n,live.map (fun i=>(i,(bH s.t i).mlt b ys)),h'.set b .gone⟩):bS P r N0 c Q s:=by
 subst hy;exact WH live b _ h' c1 hb fz hL ho hh K
theorem oY{α:Type}{f:α→aiE D}(hf:∀x,(f x).all D.mY=true)(E:aiE α):∀c∈E.map f,c.all D.mY=true:=fun c hc=>by
 obtain⟨x,_,rfl⟩:=List.mem_map.1 hc;exact hf x
theorem qi{α:Type}{f:α→aiE D}{E:aiE α}{L:Nat}(h:E.length=L):(E.map f).length=L:=by rw[ahU,h]
theorem QP{α:Type}{E:aiE α}{i:Nat}{x y:α}(h:E[i]?=some x):(E.set i y)[i]?=some y:=by
 rw[aij (ahP.1 h).1]
def IM(o:Oper):Bool:=
 match o.op with
 | .call c=>match c.callee with
   | .value _=>false
   |_=>true
 |_=>true
def VX:cD→Bool
 | .va _=>true
 |_=>false
def Gx(o:Oper)(a:cD):Bool:=m8 true o||(IM o&&(jf o|| !VX a))
def FJ(as:aiE (Nat×cD)):Nat→aiE Oper→Bool
 |_,[]=>true
 |j,o::l=>Gx o (iE as (3*j+1))&&FJ as (j+1) l
section
variable {P:aiH} {ops:Array Oper} {o:Oper} {j:Nat} {as:aiE (Nat×cD)} {s s1:St} {l:aiE (In×cD)} {K:St→Prop}
theorem afW(hn:IM o=true)(h:po P o K s):Al P o K s:=by
 unfold Al;unfold IM at hn;split
 ·next c gG=>
  rw[gG]at hn;split
  ·next f hc=>simp only[hc]at hn;cases hn
  ·exact h
 ·exact h
theorem Pr(h:om P false o j as s=some (s1,l))(cE:gU P l)(hK:K s1)(hL:Gx o (iE as (3*j+1))=true):yP true P o K s:=by
 unfold om at h;simp only[Bool.false_and,cond_false]at h;split at h
 ·next x h' i hr=>
  have fin:OK P i (iE as (3*j+1))→K ((s.wh h').put o.dst x)→yP true P o K s:=fun h1 h2=>by
   unfold Gx at hL;rw[Bool.or_eq_true]at hL;unfold GN at hr;split at hr
   ·next va e=>
    simp only[Bool.false_and,cond_false]at hr;split at hr
    ·next x2 NS p e2=>
     cases hr
     rcases hL with hL|hL
     ·exfalso;rw[e]at h1;unfold m8 at hL;simp only[Bool.true_and]at hL;split at hL
      ·next c gG=>
       split at hL
       ·next t hc=>
        rw[gG]at e2;unfold ij at e2;simp only[hc]at e2;cases e2
       ·cases hL
      ·cases hL
     ·rw[e]at h1 hL;simp only[VX,Bool.not_true,Bool.or_false,ahR]at hL;cases h1 with|pr _ hp=>exact .inr (.inr (.inl ⟨hL.2,va,x,h',p,e2,hp,h2⟩))
    ·cases hr
   ·rcases hL with hL|hL
    ·exact .inr (.inl ⟨hL,x,h',h2,fun C hC=>zR hr h1 hC⟩)
    ·rw[ahR]at hL;exact .inl (afW hL.1 (zR (C:=fun x h'=>K ((s.wh h').put o.dst x)) hr h1 h2))
  split at h
  ·next y hy=>
   obtain⟨m,e,h2,h3⟩:=HY h cE;cases e
   have:=h2 (.eq x, .eq y) ahV;cases this with|eq e=>subst e;exact fin h3 hK
  ·obtain⟨m,e,h2,h3⟩:=HY h cE;cases e
   exact fin h3 hK
 ·cases h
theorem aeA(h:mS P ops false o j as s=some (s1,l))(cE:gU P l)(hK:K s1)(hL:Gx o (iE as (3*j+1))=true):iO ops o s (yP true P o K s) (K (s.put o.dst (.d (.v undef)))):=by
 unfold mS at h;split at h
 ·next hg=>unfold iO;rw[hg];exact Pr h cE hK hL
 ·next g want hg=>
  obtain⟨dst,op,ty,pos,after,guard⟩:=o;simp only at hg;subst hg;split at h
  ·next b hb=>
   obtain⟨n,e,h2,h3⟩:=yf h cE;have h4:=OK.GJ (h3 (_,_) ahV);rw[HM,h4];refine⟨fun e2=> ?_,fun e2=> ?_⟩
   ·subst e2;simp only[BEq.rfl,cond_true]at e;exact Pr e h2 hK hL
   ·subst e2;have:((!want)==want)=false:=by cases want<;>rfl
    rw[this]at e;simp only[cond_false]at e;cases e
    exact hK
  ·next hb=>
   obtain⟨n,e,h2,h3⟩:=yf h cE;cases e
   have h4:=h3 (_,_) ahV;have h5:tc ops g s.t= .d (.v undef):=by
    generalize tc ops g s.t=z at h4;cases h4;rfl
   rw[HM,h5];exact hK
  ·cases h
theorem O4:∀(ol:aiE Oper)(j:Nat)(s:St)(l:aiE (In×cD)),mF P ops false ol j as s=some (s1,l)→gU P l→FJ as j ol=true→K s1→sZ true P ops ol K s
 |[],_,s,l,h,_,_,hK=>by cases h;exact hK
 |o::rest,j,s,l,h,cE,hL,hK=>by
  unfold FJ at hL;rw[ahR]at hL;unfold mF at h;split at h
  ·next s2 m hg=>
   obtain⟨n,e,h2,h3⟩:=yf h cE;exact aeA (K:=sZ true P ops rest K) hg h3 (O4 rest (j+1) s2 n e h2 hL.2 hK) hL.1
  ·cases h
theorem Pt:∀(ol pre:aiE Oper),qI (pre++ol).toArray ((List.range ol.length).map (pre.length+·))=ol
 |[],_=>rfl
 |o::l,pre=>by
  rw[ahS,List.range_succ_eq_map,aie,List.map_map];unfold qI;have h1:(pre++o::l).toArray[pre.length+0]?=some o:=by simp
  rw[h1];simp only;have h2:=Pt l (pre++[o]);rw[ah6]at h2;simp only[List.singleton_append,ahQ,ahS,ah1,ah9]at h2
  congr 1
  rw[show(pre.length+·)∘Nat.succ=(pre.length+1+·)from by funext i;simp only[Function.comp];omega];exact h2
theorem Y4(ol:aiE Oper):qI ol.toArray (List.range ol.length)=ol:=by
 have:=Pt ol []
 simpa using this
end
section
variable {P:aiH} {r:aiG Nat} {N0 id n:Nat} {ol:aiE Oper} {y:Code} {t:aiE (Nat×AV)} {h:aiE an} {Q Q':Exit→St→Prop}
end
section
variable {P:aiH} {r:aiG Nat} {N0:Nat} {Q:Exit→St→Prop} {c:Code} {o:Oper} {K:St→Prop}
theorem FF{n d:Nat}{t:aiE (Nat×AV)}{h h':aiE an}{x:AV}(hx:Aa P o.op (ev ⟨n,t,h⟩) h=some (x,h'))(hd:o.dst=some d)(hn:Nat.ble n d=false)(hK:K ⟨n,(d,x)::t,h'⟩):mJ P o K ⟨n,t,h⟩:=by
 refine .inr (.inr (.inr (.inr ⟨x,h',hx,?_⟩)));have aZ:d<n:=Nat.lt_of_not_le fun hle=>by rw[Nat.ble_eq_true_of_le hle]at hn;cases hn
 rw[hd,oH (s:=St.wh ⟨n,t,h⟩ h') aZ];exact hK
theorem abN{n d:Nat}{t:aiE (Nat×AV)}{h h':aiE an}{x:AV}{p:Prop}(a:VA)(hx:ij P o.op (ev ⟨n,t,h⟩) h a=some (x,h',p))(hp:p)(hd:o.dst=some d)(hn:Nat.ble n d=false)(hK:K ⟨n,(d,x)::t,h'⟩):mJ P o K ⟨n,t,h⟩:=by
 refine .inl ⟨a,x,h',p,hx,hp,?_⟩;have aZ:d<n:=Nat.lt_of_not_le fun hle=>by rw[Nat.ble_eq_true_of_le hle]at hn;cases hn
 rw[hd,oH (s:=St.wh ⟨n,t,h⟩ h') aZ];exact hK
theorem ad1{ρ:Operand→AV}{h:aiE an}{q:Call}{x y:Operand}{T U:TypeId}{e k m dx:Nat}{kq kn:IntKind}{z:aiI}(hc:q.callee= .builtin .append)(h1:q.args.toList=[x,y])(h2:q.argTypes.toList=[T,U])(hx:(ρ x).isNil=true)(hT:eE P T=some (e,k))(hU:o6 P U=some kn)(hy:ρ y= .d (.v (.int kq (Int.ofNat m))))(hz:ib P e=some z)(hb:ou P e=some dx)(g1:1≤m)(g2:1≤k)(g3:z.cells.toList.length=k)(g4:m≤maxLen)(g5:m*dx≤140737488355328):
 Aa P (.call q) ρ h=some (.vec h.length 0 m m k,h++[.vec e k (List.replicate m (z.cells.toList.map fun u=> .d (.v u)))]):=by
 unfold Aa;simp only[hc,h1,h2,hT,hU,hy,hz,hb,hx,dQ.2 g1,dQ.2 g2,dQ.2 g4,dQ.2 g5,g3,aiz,Bool.and_self,cond_true]
theorem ade{n t e k L:Nat}{ts:aiE (Nat×AV)}{cs:aiE (aiE AV)}(cZ:N0=0)(ht:bH ts t= .vec 0 0 0 L k)(hL:cs.length=L)(h:bS P r N0 c Q ⟨n,[(t, .own 0 [])],[.front e k 0]⟩):bS P r N0 c Q ⟨n,ts,[.vec e k cs]⟩:=by
 subst cZ;constructor
 intro G w a m hs hN;have hi:=hs.inv;have sQ:([an.vec e k cs]:aiE an)[0]?=some (.vec e k cs):=rfl;have hGN:G.N=1:=hi.len.symm;have hv:=hs.tmp t;rw[ht]at hv;obtain⟨wy,⟨A,cc,q1,q2,q3,q4,q5⟩,Rm⟩:=hv.qd hi sQ hL;obtain⟨b1,b2,b3,b4⟩:=hi.dz 0 _ sQ;have hp0:∀(A:aiG Addr),cc≤maxLen→dG G.S w (.slice A 0 cc) (.sl []):=fun A hc=> .sl A 0 0 cc 0 [] (fun _ _=>undef) (fun h=>absurd rfl h) (Nat.zero_le _) hc (fun _ h=>absurd h aiw) (fun i j hi=>absurd hi (aii _)) (fun i j x d hx=>by simp at hx);obtain⟨G',fZ⟩:∃G',G'={G with sg:=fun i=>if i=0 then a.tmps.getD t undef else G.sg i,fl:=fun i=>if i=0 then 0 else G.fl i}:=⟨_,rfl⟩;have hE:cp 0 G w G' w:=by
  subst fZ;exact⟨ah0 _,fun _ _ h=>h,fun _ _ _=>rfl,fun _ h=>absurd h (aii _),fun _ h=>absurd h (aii _),gB rfl,fun _ _=>rfl,rfl,rfl,rfl,fun _ _ h=> .inl h⟩
 have hinv:cw G' w [.front e k 0]:=by
  refine⟨by rw[fZ];exact hi.len,by rw[fZ];exact hi.z,by rw[fZ];exact hi.S,fun j B hB=> ?_,fun i j x h1 h2=> ?_,by rw[fZ];exact hi.gl⟩
  ·match j with
   |0=>
    cases hB
    refine⟨by rw[fZ];simp,Nat.zero_le _,?_⟩;rcases b4 with⟨d1,d2,A',d3⟩|⟨g,cap,cur,d1,d2,d3,d4,d5,d6,d7,d8,d9⟩
    ·left
     refine⟨by rw[fZ];exact d1,?_⟩;have xP:L=0:=by rw[←hL,d2];rfl
     have:=Rm rfl xP.symm;rw[fZ];exact⟨A',by simp only[if_true];rw[this];exact d3⟩
    ·by_cases xP:L=0
     ·have:=Rm rfl xP.symm
      right
      refine⟨g,cap,cur,by rw[fZ];exact d1,?_,by rw[fZ];exact d3,d4,Nat.zero_le _,d6,d7,fun o _=>by rw[fZ];exact d8 o⟩;rw[fZ];simp only[if_true];rw[this,d2,hL,xP]
     ·obtain⟨g',Av,s1,rfl,s3⟩:=q5 (Nat.pos_of_ne_zero xP);rw[d2]at s1;cases s1
      right
      have:cc=cap:=by omega
      subst this;refine⟨g,cc,cur,by rw[fZ];exact d1,?_,by rw[fZ];exact d3,d4,Nat.zero_le _,d6,d7,fun o _=>by rw[fZ];exact d8 o⟩;rw[fZ];simp only[if_true];rw[q1,Nat.zero_mul]
   |j+1=>simp at hB
  ·have hj:∀i x,cA [an.front e k 0] G' i=some x→i=0:=fun i x h=>by
    obtain⟨B,hB,_⟩:=kQ h
    match i with
    |0=>rfl
    |i+1=>simp at hB
   rw[hj i x h1,hj j x h2]
 refine wpIn_mono (h.run G' w a m ⟨hs.size,fun i=> ?_,hinv,?_⟩ (Nat.zero_le _)) fun _ _ _ hn=>hn.trans hE
 ·show aL G' w _ (bH [(t, .own 0 [])] i);rw[lu];split
  ·next e=>
   subst e;refine .own 0 [] (by rw[fZ];show 0<G.N;omega) ?_ (Nat.zero_le _) (fun _=>by rw[fZ];simp);rw[q1,fZ];exact hp0 A q3
  ·exact .dead _
 ·have:=hs.df;rw[fZ];exact this
end
end Go.Proofs.YtphmhnabilhbgaaGreatDoor
namespace Go.Proofs.YtphmhnabilhbgaaGreatDoor.MK
open Go.RowKit
set_option linter.unusedVariables false
def an(w:aiJ)(g:Nat)(t:TypeId)(cs:aiE aiI):Prop:=w.heap[g]?=some (.cells cs.toArray t (0,0))
section
variable {w w':aiJ} {g:Nat} {t:TypeId} {cs:aiE aiI}
theorem an.cell(h:an w g t cs)(i:Nat):w.cell? ⟨g,i,none⟩=cs[i]?:=by
 rw[cell_of_row w g i cs.toArray t (0,0) h];simp
theorem an.drew(h:an w g t cs):an w.drew g t cs:=h
theorem an.setRow(h:an w g t cs)(cB:aiE aiI):an (w.setRow g cB.toArray) g t cB:=setRow_heap w g _ _ t _ h
end
section
variable {P:aiH} (w:aiJ)
theorem W2(t ty e:TypeId)(k:Nat)(ht:P.underlying t=some (.slice e))(hs:(P.info? e).map (·.size)=some k)
 (g n cap:Nat) (cur:aiE aiI) (hg:an w g e cur)
 (ad:Addr) (m c:Nat) (news:aiE aiI) (hl:news.length=m*k) (m5:∀j u,news[j]?=some u→w.cell? (ad.add j)=some u) (h1:∀u∈news,u.oneCell'=true)
 (mU:n+m≤cap) (jA:n*k+news.length≤cur.length):
 (Builtin.append_ #[t,t] ty #[.slice (some ⟨g,0,none⟩) n cap, .slice (some ad) m c]).run P w=
  .ok (.slice (some ⟨g,0,none⟩) (n+m) cap) (w.setRow g (Go.splice cur (n*k) news).toArray):=by
 cases hq:P.info? e with
 |none=>simp [hq]at hs
 |some i=>
  have hi:i.size=k:=by simpa [hq]using hs
  subst hi;rw[run_append_room (P:=P) w t ty e i ht hq g n cap cur.toArray hg ad m c news hl m5 h1 mU (by simpa using jA)];simp [Go.splice]
theorem aaN(t e:TypeId)(k:Nat)(z:aiI)(ht:P.underlying t=some (.slice e))(hv:∀w,(zeroValue e).run P w= .ok z w)(hk:z.cells.size=k)(hz1:∀v∈z.cells.toList,v.oneCell'=true)
 (g off n:Nat) (cur:aiE aiI) (te:TypeId) (hg:an w g te cur) (hn:0<n) (jA:off+n*k≤cur.length):
 ∃zs:aiE aiI,zs.length=n*k∧∀ty c,(Builtin.clear_ #[t] ty #[.slice (some ⟨g,off,none⟩) n c]).run P w= .ok (.tuple #[]) (w.setRow g (Go.splice cur off zs).toArray):=by
 subst hk;refine⟨(Builtin.zeroCells z.cells n).toList,by simp [Builtin.zeroCells],fun ty c=> ?_⟩;have hlen:(Builtin.zeroCells z.cells n).toList.length=n*z.cells.size:=by simp [Builtin.zeroCells]
 have h1:∀v∈(Builtin.zeroCells z.cells n).toList,v.oneCell'=true:=by
  intro v hv;rw[Array.mem_toList_iff]at hv;simp only[Builtin.zeroCells,Array.mem_map,Array.mem_range]at hv;obtain⟨i,hi,rfl⟩:=hv;have hp:0<z.cells.size:=by
   rcases Nat.eq_zero_or_pos z.cells.size with h0|h0
   ·rw[h0]at hi;omega
   ·exact h0
  have aZ:=Nat.mod_lt i hp;rw[getElem!_pos z.cells (i%z.cells.size) aZ];exact hz1 _ (by simp)
 have jz:=run_storeCells_at P g off te (Builtin.zeroCells z.cells n).toList 0 cur.toArray w hg (by rw[hlen];simpa using jA) h1;simp only[Nat.add_zero]at jz;obtain⟨m,rfl⟩:∃m,n=m+1:=⟨n-1,by omega⟩;simp only[Builtin.clear_];simp [run_underlying ht,hv,jz,Go.splice]
end
section
variable {P:aiH} {w:aiJ}
theorem aa7{ops:Array Oper}{rest:aiE Oper}{o:Oper}{a:Act}{Q:Exit→Act→aiJ→Prop}(BX:o.guard=none)(d:Operand)(t:TypeId)
 (ho:o.op= .call {callee:= .builtin .clear,args:= #[d],argTypes:= #[t]}) (v:aiI) (hd:a.eval d=v) {v':aiI} {w':aiJ}
 (hr:(Builtin.clear_ #[t] o.type #[v]).run P w= .ok v' w') (h:wpList P ops Q rest (a.put o.dst v') w'):wpList P ops Q (o::rest) a w:=
 wpList_plain BX fun _ hK=>by
  unfold Oper.wp execOp;simp only[ho,resolve,invoke,builtin,Sem.run_bind,Sem.run_pure,Result.andThen_ok,List.map_toArray,aie,List.map_nil,hd,hr];exact hK _ _ h
theorem ac8{ops:Array Oper}{o:Oper}{a:Act}{K:Act→aiJ→Prop}{Q:Exit→Act→aiJ→Prop}{E:Prop}(BX:o.guard=none)(d s:Operand)(t t':TypeId)
 (ho:o.op= .call {callee:= .builtin .append,args:= #[d,s],argTypes:= #[t,t']}) (v u:aiI) (hd:a.eval d=v) (hs:a.eval s=u) {v':aiI} {w':aiJ}
 (hr:(Builtin.append_ #[t,t'] o.type #[v,u]).run P w= .ok v' w') (hK:K (a.put o.dst v') w'):if Region.wanted o (yielded ops a.tmps)=true then Oper.wp P o a w K Q else E:=by
 have hw:Region.wanted o (yielded ops a.tmps)=true:=by simp [Region.wanted,BX]
 rw[if_pos hw];unfold Oper.wp execOp;simp only[ho,resolve,invoke,builtin,Sem.run_bind,Sem.run_pure,Result.andThen_ok,List.map_toArray,aie,List.map_nil,hd,hs,hr];exact hK
end
section
variable {S E base:Nat} {w w' w'':aiJ}
end
end Go.Proofs.YtphmhnabilhbgaaGreatDoor.MK
namespace Go.Proofs.YtphmhnabilhbgaaGreatDoor
open Go.RowKit
set_option linter.unusedSimpArgs false
set_option linter.unusedVariables false
theorem aa1{α:Type}(cur n z:aiE α)(a:Nat)(h:a+n.length+z.length≤cur.length):Go.splice (Go.splice cur a n) (a+n.length) z=cur.take a++(n++z)++cur.drop (a+(n++z).length):=by
 unfold Go.splice;have l1:(cur.take a).length=a:=by rw[List.length_take];omega
 have e1:(cur.take a++(n++cur.drop (a+n.length))).take (a+n.length)=cur.take a++n:=by
  rw[←ah6,List.take_append_of_le_length (by rw[ahQ,l1];exact ah0 _),List.take_of_length_le (by rw[ahQ,l1];exact ah0 _)]
 have e2:(cur.take a++(n++cur.drop (a+n.length))).drop (a+n.length+z.length)=cur.drop (a+(n++z).length):=by
  rw[←ah6,List.drop_append,List.drop_eq_nil_of_le (by rw[ahQ,l1];omega),List.nil_append,ahQ,l1,List.drop_drop,ahQ]
  congr 1;omega
 rw[e1,e2];simp [ah6]
section
variable {P:aiH}
theorem cw.Xy{G:Gh}{w:aiJ}{h:aiE an}(hi:cw G w h):cp G.N G w G w.drew∧cw G w.drew h:=by
 have hE:cp G.N G w G w.drew:=⟨ah0 _,fun _ _ h=>h,fun _ _ _=>rfl,fun _ _=>rfl,fun _ _=> .inl ⟨rfl,rfl⟩,gB rfl,fun _ _=>rfl,rfl,rfl,rfl,fun _ _ h=> .inl h⟩;refine⟨hE,hi.len,hi.z,hi.S,fun n B hB=> ?_,hi.inj,hi.gl.bq hE⟩;exact eF.bq (hi.lt hB) hE (ah0 _) ⟨rfl,rfl,rfl⟩ (fun c hc=>⟨rfl,fun o h=>h⟩) (hi.dz n B hB)
theorem agI{f:FuncId}{E K:Nat}(Bp:Cr P f=true)(hK:0<K)
 (walk:∀(g n cap i j:Nat)(cur:aiE aiI)(w:aiJ),w.heap[g]?=some (.cells cur.toArray E (0,0))→cur.length=cap*K→i<j→j≤n→n≤cap→cap≤maxLen→(∀u∈cur.take (n*K),u.oneCell'=true)→
  Calls P f #[.slice (some ⟨g,0,none⟩) n cap, .int .i64 i, .int .i64 j] w fun e w'=>∃zs:aiE aiI,zs.length=(j-i)*K∧e= .returned (.slice (some ⟨g,0,none⟩) (n-(j-i)) cap)∧w'=w.drew.setRow g (Go.splice (Go.splice cur (i*K) ((cur.take (n*K)).drop (j*K))) ((n-(j-i))*K) zs).toArray)
 {xs:aiE (aiE D)} {i L:Nat} (hi:i<L) (hL:xs.length=L) (fz:∀c∈xs,c.all D.mY=true):
 bY P f [.vec 0 0 L L K, .d (.v (.int .i64 (i:Int))), .d (.v (.int .i64 ((i+1:Nat):Int)))] [.vec E K (aO xs)] fun r1 h1=>r1= .vec 0 0 (L-1) L K∧h1=[.vec E K (aO (xs.take i++xs.drop (i+1))++[List.replicate K .dead])]:=by
 refine⟨Bp,fun G w vs hinv gp hr=> ?_⟩;have sQ:([an.vec E K (aO xs)]:aiE an)[0]?=some (.vec E K (aO xs)):=rfl;have iT:(aO xs).length=L:=by rw[nA,hL]
 obtain⟨v0,v1,v2,rfl⟩:∃v0 v1 v2,vs= #[v0,v1,v2]:=by
  obtain⟨l⟩:=vs
  match l,gp with
  |[a,b,c],_=>exact⟨a,b,c,rfl⟩
 have r0:=hr 0 v0 _ rfl rfl;have e1:=(hr 1 v1 _ rfl rfl).val;have e2:=(hr 2 v2 _ rfl rfl).val;subst e1;subst e2;obtain⟨wy,⟨A,cc,q1,q2,q3,q4,q5⟩,_⟩:=r0.qd hinv sQ iT;obtain⟨g,cap,s1,rfl,s3⟩:=q5 (by omega);obtain⟨g',Av,cur,t1,t2,t3,t4,t5,t6,t7,t8,t9⟩:=yH hinv sQ (fun e=>by rw[e]at iT;simp at iT;omega);rw[t2,iT]at s1;cases s1
 have hcc:cc=cap:=by omega
 subst hcc;rw[iT]at t5;have gC:=uS hinv sQ;have iq:∀d∈xs,d.length=K:=fun d hd=>by
  have:=gC (d.map .d) (by unfold aO;exact List.mem_map.2 ⟨d,hd,rfl⟩)
  rwa [ahU]at this
 have SB:L*K≤cur.size:=by rw[t7];exact Nat.mul_le_mul_right K t5
 have gb:∀(a b:Nat),a<L→b<K→∃(d:D)(u:aiI),(∃x,xs[a]?=some x∧x[b]?=some d)∧cur[a*K+b]?=some u∧aL G w u (.d d)∧u.oneCell'=true:=fun a b ha hb=>by
  have hx:xs[a]?=some xs[a]:=ahT (by omega);have ue:xs[a].length=K:=iq _ (List.getElem_mem _);have hd:xs[a][b]?=some (xs[a][b]'(by omega)):=ahT (by omega);have aZ:a*K+b<cur.size:=aid (jx ha hb) SB;have hu:cur[a*K+b]?=some cur[a*K+b]:=aib aZ;have hv:=t9 a b (xs[a].map .d) (.d (xs[a][b]'(by omega))) _ (CF hx) (by rw[ahW,hd];rfl) hu;refine⟨_,_,⟨_,hx,hd⟩,hu,hv,hv.jm ?_⟩;have h1:=fz _ (List.getElem_mem (l:=xs) (n:=a) (by omega));rw[aif]at h1;have h2:=h1 _ (ah2 hd);generalize (xs[a][b]'(by omega))=d at h2;cases d with
  |v u=>exact h2
  |sl l=>rfl
 have XC:∀q,q<L*K→q / K<L∧q%K<K∧q / K*K+q%K=q:=fun q hq=>⟨(Nat.div_lt_iff_lt_mul hK).2 hq,Nat.mod_lt _ hK,by rw[Nat.mul_comm];exact Nat.div_add_mod q K⟩;rw[q1];have YK:(⟨g,0*K,none⟩:Addr)=⟨g,0,none⟩:=by rw[Nat.zero_mul]
 rw[YK];refine(walk g L cc i (i+1) cur.toList w (by simpa using t4) (by simpa using t7) (aiC i) hi t5 t6 (fun u hu=> ?_)).mono fun e w' hp=> ?_
 ·obtain⟨q,hq⟩:=List.mem_iff_getElem?.1 hu;rw[List.getElem?_take]at hq;split at hq
  ·next aZ=>
   obtain⟨h1,h2,h3⟩:=XC q aZ;obtain⟨d,u',_,y7,_,ho⟩:=gb _ _ h1 h2;rw[h3,←aic,hq]at y7;cases y7
   exact ho
  ·cases hq
 ·obtain⟨zs,hz,rfl,rfl⟩:=hp;have oF:i+1-i=1:=by omega
  rw[oF]at hz ⊢;rw[Nat.one_mul]at hz;obtain⟨news,m5⟩:∃x,x=(cur.toList.take (L*K)).drop ((i+1)*K):=⟨_,rfl⟩;have hLm:(L-1-i)*K+(i+1)*K=L*K:=by rw[←Nat.add_mul];congr 1;omega
  have uC:news.length=(L-1-i)*K:=by rw[m5,List.length_drop,List.length_take,ain];omega
  have JH:(L-1)*K=i*K+news.length:=by rw[uC,←Nat.add_mul];congr 1;omega
  have iH:(i+1)*K=i*K+K:=by rw[Nat.add_mul,Nat.one_mul]
  have ahn:i*K+news.length+zs.length=L*K:=by rw[uC,hz];omega
  rw[←m5,JH,aa1 cur.toList news zs (i*K) (ah7 (Nat.le_of_eq ahn) (by rw[ain];exact SB))];obtain⟨dE,dI⟩:=hinv.Xy;have kG:(news++zs).length=(L-i)*K:=by
    rw[ahQ,uC,hz];have:(L-i)*K=(L-1-i)*K+K:=by rw[show L-i=(L-1-i)+1 by omega,Nat.add_mul,Nat.one_mul]
    omega
  obtain⟨G',f1,f2,f3,f4,f5⟩:=MA (us:=news++zs) (off:=i*K) (cB:=aO (xs.take i++xs.drop (i+1))++[List.replicate K .dead]) (w:=w.drew) dI sQ hK t1 t2 t3 (by exact t4) (by rw[iT];exact t5) t6 t7 t8
   (by rw[ahQ];omega)
   (by rw[ahQ,nA,ahQ,List.length_take,List.length_drop,iT,List.length_singleton,hL];omega)
   (fun c hc=>by
    rcases ais.1 hc with hc|hc
    ·obtain⟨x,hx,rfl⟩:=List.mem_map.1 (show c∈List.map _ _ from hc);rw[ahU];rcases ais.1 hx with hx|hx
     ·exact iq x (List.mem_of_mem_take hx)
     ·exact iq x (List.mem_of_mem_drop hx)
    ·rw[List.mem_singleton]at hc;rw[hc,aiq])
   (fun a b c x u hc hx hu=>by
    have hlen:(aO (xs.take i++xs.drop (i+1))).length=L-1:=by rw[nA,ahQ,List.length_take,List.length_drop,hL];omega
    by_cases ha:a<L-1
    ·rw[ahZ (by omega)]at hc;unfold aO at hc;rw[ahW]at hc;cases hy:(xs.take i++xs.drop (i+1))[a]? with
     |none=>rw[hy]at hc;cases hc
     |some y=>
      rw[hy]at hc;cases hc
      rw[ahW]at hx;cases hd:y[b]? with
      |none=>rw[hd]at hx;cases hx
      |some d=>
       rw[hd]at hx;cases hx
       have hym:y∈xs:=by
        rcases ais.1 (ah2 hy)with h|h
        ·exact List.mem_of_mem_take h
        ·exact List.mem_of_mem_drop h
       have Ku:b<K:=by rw[←iq y hym];exact(ahP.1 hd).1
       have key:∀a',a'<L→xs[a']?=some y→cur[a'*K+b]?=some u→aL G w.drew u (.d d):=fun a' Z4 kd y7=>by
        obtain⟨d',u',⟨x',k1,k2⟩,k3,k4,_⟩:=gb a' b Z4 Ku;rw[kd]at k1;cases k1
        rw[hd]at k2;cases k2
        rw[y7]at k3;cases k3
        exact k4.bq dE (ah0 _)
       by_cases Qi:a<i
       ·have aZ:=jx Qi Ku;rw[if_neg (by omega)]at hu;rw[ahZ (by rw[List.length_take];omega),List.getElem?_take_of_lt Qi]at hy;exact key a (by omega) hy hu
       ·have js:i*K≤a*K:=Nat.mul_le_mul_right K (by omega);have hup:a*K+b<(L-1)*K:=jx ha Ku;have hL1:(L-1)*K+K=L*K:=by
         rw[←Nat.succ_mul];congr 1;omega
        have hza:i*K≤a*K+b∧a*K+b<i*K+(news++zs).length:=⟨by omega,by rw[ahQ];omega⟩;have WX:a*K+b-i*K<news.length:=by omega
        have hlb:(i+1)*K+(a*K+b-i*K)<L*K:=by omega
        rw[if_pos hza,ahZ WX,m5,List.getElem?_drop,List.getElem?_take_of_lt hlb,aic]at hu;have e3:(i+1)*K+(a*K+b-i*K)=(a+1)*K+b:=by rw[Nat.add_mul a 1 K,Nat.one_mul];omega
        rw[e3]at hu;have aZ:(xs.take i).length=i:=by rw[List.length_take];omega
        rw[ah5 (by omega),aZ,List.getElem?_drop,show i+1+(a-i)=a+1 by omega]at hy;exact key (a+1) (by omega) hy hu
    ·have Wo:a=L-1:=by
      have:=(ahP.1 hc).1;rw[ahQ,hlen,List.length_singleton]at this;omega
     rw[ah5 (by omega),hlen,Wo,Nat.sub_self]at hc;simp only[List.getElem?_cons_zero,Option.some.injEq]at hc;subst hc;have:=List.eq_of_mem_replicate (ah2 hx);subst this;exact .dead u)
  refine⟨_,G',_,_,rfl,dE.trans f1,by rw[f2];exact ah0 _,f3,?_,rfl,rfl⟩;have kf:G'.fl 0=L:=by rw[f5,(hinv.dz 0 _ sQ).1,iT]
  refine .vec 0 0 (L-1) L K (by rw[f2];have:=hinv.len;simp at this;omega) ⟨_,_,_,rfl⟩ (by rw[kf];exact ah0 _) fun _=>⟨by omega,⟨_,_,rfl,by omega,t6,by omega,fun _=>⟨g,cc,by rw[f4,t2,iT],by rw[Nat.zero_mul],by omega⟩⟩,fun _ h=>by omega⟩
end
mutual
def AV.dW(b kk L0:Nat)(ys:aiE (aiE D)):AV→AV
 | .vec n o len L k=>bif n==b then(bif o==0&&len==ys.length&&L==L0&&k==kk then .d (.sl ys)else .dead)else .vec n o len L k
 | .dw n i j L k=>bif n==b then .dead else .dw n i j L k
 | .agg cs=> .agg (AV.nm b kk L0 ys cs)
 | .cb cs=> .cb (AV.nm b kk L0 ys cs)
 | .fn f cs=> .fn f (AV.nm b kk L0 ys cs)
 |x=>x
def AV.nm(b kk L0:Nat)(ys:aiE (aiE D)):aiE AV→aiE AV
 |[]=>[]
 |x::l=>x.dW b kk L0 ys::AV.nm b kk L0 ys l
end
theorem zD(b kk L0:Nat)(ys:aiE (aiE D)):∀l,AV.nm b kk L0 ys l=l.map (AV.dW b kk L0 ys)
 |[]=>by simp [AV.nm]
 |x::l=>by simp [AV.nm,zD b kk L0 ys l]
theorem aL.dW{G G':Gh}{w:aiJ}{b kk L0:Nat}{ys:aiE (aiE D)}(hE:cp G.N G w G' w)(hN:G'.N=G.N)(hp:∀(u:aiI),aL G w u (.vec b 0 ys.length L0 kk)→dG G'.S w u (.sl ys)){u:aiI}{x:AV}(h:aL G w u x):aL G' w u (x.dW b kk L0 ys):=by
 have bq:∀{u:aiI}{x:AV},aL G w u x→aL G' w u x:=fun h=>h.bq hE (Nat.le_of_eq hN.symm);have fF:∀(vs:Array aiI)(cs:aiE AV),(∀(i:Nat)(u:aiI)(c:AV),vs[i]?=some u→cs[i]?=some c→aL G' w u (c.dW b kk L0 ys))→∀(i:Nat)(u:aiI)(c:AV),vs[i]?=some u→(AV.nm b kk L0 ys cs)[i]?=some c→aL G' w u c:=by
  intro vs cs ih i u c hu hc;rw[zD,ahW]at hc;cases hx:cs[i]? with
  |none=>rw[hx]at hc;cases hc
  |some x=>rw[hx]at hc;cases hc;exact ih i u x hu hx
 induction h with
 |agg vs cs hl _ ih=>rw[AV.dW];exact .agg vs _ (by rw[zD,ahU];exact hl) (fF vs cs ih)
 |cb vs cs hl _ ih=>rw[AV.dW];exact .cb vs _ (by rw[zD,ahU];exact hl) (fF vs cs ih)
 |fn f vs cs hl _ ih=>rw[AV.dW];exact .fn f vs _ (by rw[zD,ahU];exact hl) (fF vs cs ih)
 |vec n o len L k h hs hL hf=>
  rw[AV.dW,cond_eq_ite];split
  ·next e=>
   have e:n=b:=by simpa using e
   subst e;rw[cond_eq_ite];split
   ·next e2=>
    simp only[ahR,beq_iff_eq]at e2;obtain⟨⟨⟨rfl,rfl⟩,rfl⟩,rfl⟩:=e2;exact .d (hp _ (.vec n 0 _ _ _ h hs hL hf))
   ·exact .dead _
  ·exact bq (.vec n o len L k h hs hL hf)
 |dw n i j L k h hs hL hf=>
  rw[AV.dW,cond_eq_ite];split
  ·exact .dead _
  ·exact bq (.dw n i j L k h hs hL hf)
 |ptr n off h=>simp only[AV.dW];exact bq (.ptr n off h)
 |own n xs h hp hle hf=>simp only[AV.dW];exact bq (.own n xs h hp hle hf)
 |d h=>simp only[AV.dW];exact bq (.d h)
 |bt xs i off b o u x hx hS hu=>simp only[AV.dW];exact bq (.bt xs i off b o u x hx hS hu)
 |full xs hp hf=>simp only[AV.dW];exact bq (.full xs hp hf)
 |row n off len cap k h hl hm=>simp only[AV.dW];exact bq (.row n off len cap k h hl hm)
 |mp n h=>simp only[AV.dW];exact bq (.mp n h)
 |dp n h=>simp only[AV.dW];exact bq (.dp n h)
 |hid h h1=>simp only[AV.dW];exact bq (.hid h h1)
 |dead u=>simp only[AV.dW];exact .dead u
theorem dk.afv{G:Gh}{w:aiJ}{a:Act}{s:St}(hs:dk G w a s)(xs:aiE (aiE D)){b e k L:Nat}{cs:aiE (aiE AV)}(hb:s.h[b]?=some (.vec e k cs))(iT:cs.length=L)(hy:cs.take xs.length=aO xs)(fz:∀c∈xs,c.all D.mY=true)
 :∃G',cp G.N G w G' w∧G'.N=G.N∧dk G' w a ⟨s.n,s.t.map fun p=>(p.1,p.2.dW b k L xs),(s.h.map (an.ie (AV.dW b k L xs))).set b .gone⟩:=by
 have gC:=uS hs.inv hb;have hlen:xs.length≤L:=by
  have:=congrArg List.length hy;rw[nA,List.length_take]at this;omega
 have fP:∀(i:Nat)(x:aiE D),xs[i]?=some x→cs[i]?=some (x.map .d):=fun i x hx=>by
  have h1:=CF hx;rw[←hy,List.getElem?_take_of_lt (ahP.1 hx).1]at h1;exact h1
 have iq:∀d∈xs,d.length=k:=fun d hd=>by
  obtain⟨i,hi⟩:=List.mem_iff_getElem?.1 hd;have:=gC (d.map .d) (ah2 (fP i d hi))
  rwa [ahU]at this
 obtain⟨S,hS⟩:∃S:Nat→Nat→Prop,S=fun c o=>G.S c o∨(cA s.h G b=some c∧o<xs.length*k):=⟨_,rfl⟩;have hE:cp G.N G w {G with S:=S} w:=⟨ah0 _,fun b o h=>by show S b o;rw[hS];exact .inl h,fun _ _ _=>rfl,fun _ _=>rfl,fun _ _=> .inl ⟨rfl,rfl⟩,gB rfl,fun _ _=>rfl,rfl,rfl,rfl,fun c o hq=>by
  have cY:S c o:=hq;rw[hS]at cY;rcases cY with h|⟨h,_⟩
  ·exact .inl h
  ·obtain⟨B,hB,gk⟩:=kQ h;exact .inr ((hs.inv.dz b B hB).lz gk)⟩
 have Dt:∀(u:aiI),aL G w u (.vec b 0 xs.length L k)→dG S w u (.sl xs):=fun u sr=>by
  have jQ:=sr.qd hs.inv hb iT;obtain⟨wy,⟨A,cc,q1,q2,q3,q4,q5⟩,_⟩:=jQ;rw[q1];by_cases h0:xs.length=0
  ·have:xs=[]:=List.eq_nil_of_length_eq_zero h0;subst this;exact .sl A 0 0 cc 0 [] (fun _ _=>undef) (fun h=>absurd rfl h) (Nat.zero_le _) q3 (fun _ h=>absurd h aiw) (fun i j hi=>absurd hi (aii _)) (fun i j x d hx=>by simp at hx)
  ·obtain⟨g,cap,s1,rfl,s3⟩:=q5 (by omega);obtain⟨g',Av,cur,r1,r2,r3,r4,r5,r6,r7,r8,r9⟩:=yH hs.inv hb (fun e=>by rw[e]at iT;simp at iT;omega);rw[r2]at s1;cases s1
   have lM:cA s.h G b=some g:=(dV hb).trans r1;have gb:∀i j,i<xs.length→j<k→i*k+j<cur.size:=fun i j hi hj=>by
    have:=jx (i:=i) (k:=k) (L:=cs.length) (j:=j) (by omega) hj;have h2:cs.length*k≤cap*k:=Nat.mul_le_mul_right k (by omega);rw[r7];omega
   have n8:∀(i j:Nat)(x:aiE D)(d:D),xs[i]?=some x→x[j]?=some d→aL G w (cur.getD (i*k+j) undef) (.d d):=fun i j x d hx hd=>by
    have hj:j<k:=by rw[←iq x (ah2 hx)];exact(ahP.1 hd).1
    refine r9 i j (x.map .d) (.d d) _ (fP i x hx) (by rw[ahW,hd];rfl) ?_;have hc:=gb i j (ahP.1 hx).1 hj;simp [Array.getD,hc]
   have e0:∀i j,0*k+i*k+j=i*k+j:=fun i j=>by rw[Nat.zero_mul,ah9]
   refine .sl _ g (0*k) cc k xs (fun i j=>cur.getD (i*k+j) undef) (fun _=>rfl) (by omega) q3 iq (fun i j hi hj=>⟨?_,?_,?_⟩) (fun i j x d hx hd=> ?_)
   ·rw[hS,e0];exact .inr ⟨lM,jx hi hj⟩
   ·rw[e0,cell_of_row w g _ cur e (0,0) r4];have hc:=gb i j hi hj;simp [Array.getD,hc]
   ·obtain⟨x,hx⟩:∃x,xs[i]?=some x:=⟨_,ahT hi⟩;have iy:=ah2 hx;obtain⟨d,hd⟩:∃d,x[j]?=some d:=⟨_,ahT (by rw[iq x iy];exact hj)⟩;refine(n8 i j x d hx hd).jm ?_;have h1:=fz x iy;rw[aif]at h1;have h2:=h1 d (ah2 hd);cases d with
    |v u=>exact h2
    |sl l=>rfl
   ·have:=n8 i j x d hx hd;generalize cur.getD (i*k+j) undef=q at this;cases this with|d h=>exact h.bq hE.S hE.cell
 have hinv:=TA (b:=b) (f:=AV.dW b k L xs) hs.inv hE (fun c o hq=>by rw[hS]at hq;exact hq.imp id And.left) (fun hq=>hq.dW hE rfl Dt);refine⟨_,hE,rfl,hs.size,fun i=> ?_,hinv,hs.df⟩;show aL _ _ _ (bH (s.t.map fun p=>(p.1,p.2.dW b k L xs)) i);rw[wJ (AV.dW b k L xs) (by simp [AV.dW])];exact(hs.tmp i).dW hE rfl Dt
mutual
theorem PE{b kk L:Nat}{xs:aiE (aiE D)}:∀x:AV,(∀q∈x.kC b,q=(0,xs.length,L,kk))→x.dW b kk L xs=x.mlt b xs
 | .vec n o len L k,h=>by
   unfold AV.dW AV.mlt;unfold AV.kC at h;cases e:n==b with
   |false=>rfl
   |true=>
    rw[e]at h;have:=h _ ahV;cases this
    simp
 | .agg cs,h=>by unfold AV.dW AV.mlt;rw[Bx cs (by unfold AV.kC at h;exact h)]
 | .cb cs,h=>by unfold AV.dW AV.mlt;rw[Bx cs (by unfold AV.kC at h;exact h)]
 | .fn f cs,h=>by unfold AV.dW AV.mlt;rw[Bx cs (by unfold AV.kC at h;exact h)]
 | .dw n i j L k,h=>by unfold AV.dW AV.mlt;rfl
 | .d _,_=>by simp [AV.dW,AV.mlt]
 | .ptr ..,_=>by simp [AV.dW,AV.mlt]
 | .bt ..,_=>by simp [AV.dW,AV.mlt]
 | .own ..,_=>by simp [AV.dW,AV.mlt]
 | .full _,_=>by simp [AV.dW,AV.mlt]
 | .row ..,_=>by simp [AV.dW,AV.mlt]
 | .mp _,_=>by simp [AV.dW,AV.mlt]
 | .dp _,_=>by simp [AV.dW,AV.mlt]
 | .hid _,_=>by simp [AV.dW,AV.mlt]
 | .dead,_=>by simp [AV.dW,AV.mlt]
theorem Bx{b kk L:Nat}{xs:aiE (aiE D)}:∀l:aiE AV,(∀q∈AV.lF b l,q=(0,xs.length,L,kk))→AV.nm b kk L xs l=AV.jZ b xs l
 |[],_=>by simp [AV.nm,AV.jZ]
 |x::l,h=>by
  unfold AV.lF at h;unfold AV.nm AV.jZ;rw[PE x fun q hq=>h q (List.mem_append_left _ hq),Bx l fun q hq=>h q (List.mem_append_right _ hq)]
end
inductive kM(b ln L kk:Nat)(xs:List (List D)):List an→List an→Prop
 |nil:kM b ln L kk xs [] []
 |cells {cs cB:List AV} {l l':List an} (c:Nat) (h:AV.lF b cs=List.replicate c (0,ln,L,kk)) (e:AV.jZ b xs cs=cB) (t:kM b ln L kk xs l l'):kM b ln L kk xs (.cells cs::l) (.cells cB::l')
 |gY {e k:Nat} {ys:List (List D)} {l l':List an} (t:kM b ln L kk xs l l'):kM b ln L kk xs (.vec e k (aO ys)::l) (.vec e k (aO ys)::l')
 |front {e k n:Nat} {l l':List an} (t:kM b ln L kk xs l l'):kM b ln L kk xs (.front e k n::l) (.front e k n::l')
 |map {kv:List (ByteArray×D)} {l l':List an} (t:kM b ln L kk xs l l'):kM b ln L kk xs (.map kv::l) (.map kv::l')
 |gone {l l':List an} (t:kM b ln L kk xs l l'):kM b ln L kk xs (.gone::l) (.gone::l')
 |drop {B:an} {l l':List an} (t:kM b ln L kk xs l l'):kM b ln L kk xs (B::l) (.gone::l')
def za(l l':aiE an):Prop:=l'.length=l.length∧∀(n:Nat)(B':an),l'[n]?=some B'→B'= .gone∨l[n]?=some B'
theorem za.cons{B B':an}{l l':aiE an}(h:B'= .gone∨B'=B)(t:za l l'):za (B::l) (B'::l'):=by
 refine⟨by rw[ahS,ahS,t.1],fun n C hC=> ?_⟩
 match n with
 |0=>
  simp only[List.getElem?_cons_zero,Option.some.injEq]at hC ⊢;subst hC;exact h.imp id Eq.symm
 |n+1=>simpa using t.2 n C (by simpa using hC)
theorem YE{G:Gh}{w:aiJ}{h h':aiE an}(hi:cw G w h)(hg:za h h'):cw G w h':=by
 obtain⟨hl,hg⟩:=hg;have eg:∀n x,cA h' G n=some x→cA h G n=some x:=fun n x hx=>by
  obtain⟨B,hB,h1⟩:=kQ hx;rcases hg n B hB with rfl|h2
  ·cases h1
  ·rw[dV h2];exact h1
 refine⟨by rw[hl];exact hi.len,hi.z,hi.S,fun n B hB=> ?_,fun m n x h1 h2=>hi.inj m n x (eg m x h1) (eg n x h2),hi.gl⟩;rcases hg n B hB with rfl|h2
 ·trivial
 ·exact hi.dz n B h2
theorem Tp{c ln L kk:Nat}{xs:aiE (aiE D)}(hL:xs.length=ln){l:aiE (Nat×Nat×Nat×Nat)}(h:l=List.replicate c (0,ln,L,kk)):∀q∈l,q=(0,xs.length,L,kk):=fun q hq=>by
 rw[h,List.mem_replicate]at hq;rw[hq.2,hL]
theorem kM.gns{b ln L kk:Nat}{xs:aiE (aiE D)}(hL:xs.length=ln){l l':aiE an}(h:kM b ln L kk xs l l'):za (l.map (an.ie (AV.dW b kk L xs))) l':=by
 have hd:∀d,AV.dW b kk L xs (.d d)= .d d:=fun d=>by simp [AV.dW]
 induction h with
 |nil=>exact⟨rfl,fun n B' h=>by simp at h⟩
 |cells c h e t ih=>
  rw[aie,←e];simp only[an.ie];rw[←zD,Bx _ (Tp hL h)];exact .cons (.inr rfl) ih
 |gY t ih=>rw[aie];simp only[an.ie];rw[uG hd];exact .cons (.inr rfl) ih
 |front t ih=>exact .cons (.inr rfl) ih
 |map t ih=>exact .cons (.inr rfl) ih
 |gone t ih=>exact .cons (.inr rfl) ih
 |drop t ih=>exact .cons (.inl rfl) ih
theorem Ya{P:aiH}{r:aiG Nat}{N0:Nat}{c:Code}{s:St}{Q:Exit→St→Prop}(live:aiE Nat)(b:Nat)(xs ys:aiE (aiE D)){e k L ln:Nat}{cs:aiE (aiE AV)}(h':aiE an)(c1:Nat)(hb:s.h[b]?=some (.vec e k cs))(iT:cs.length=L)(hq:cs.take xs.length=aO xs)(fz:∀c∈xs,c.all D.mY=true)(hL:xs.length=ln)(hy:ys=xs)(hg:h'[b]?=some .gone)
 (ho:(live.flatMap fun i=>(bH s.t i).kC b)=List.replicate c1 (0,ln,L,k)) (hh:kM b ln L k ys s.h h') (K:bS P r N0 c Q ⟨s.n,live.map (fun i=>(i,(bH s.t i).mlt b ys)),h'⟩):bS P r N0 c Q s:=by
 subst hy;constructor
 intro G w a n hs hN;obtain⟨G',hE,e1,cY⟩:=hs.afv ys hb iT hq fz;have Qt:=hh.gns hL;have vT:za ((s.h.map (an.ie (AV.dW b k L ys))).set b .gone) h':=by
  refine⟨by rw[List.length_set];exact Qt.1,fun n B' hB=> ?_⟩;by_cases e:b=n
  ·subst e;rw[hg]at hB;cases hB;exact .inl rfl
  ·rw[aio e];exact Qt.2 n B' hB
 refine wpIn_mono (K.run G' w a n ⟨cY.size,fun i=> ?_,YE cY.inv vT,cY.df⟩ (by rw[e1];exact hN)) fun _ _ _ hn=>hn.trans (hE.less hN);show aL _ _ _ (bH (live.map (fun i=>(i,(bH s.t i).mlt b ys))) i);have h2:=cY.tmp i
 change aL _ _ _ (bH (s.t.map fun p=>(p.1,p.2.dW b k L ys)) i)at h2
 rw[wJ (AV.dW b k L ys) (by simp [AV.dW])]at h2;rw[nS (fun k=>(bH s.t k).mlt b ys)];split
 ·next hi=>
  rw[←PE _ fun q hq=>Tp hL ho q (List.mem_flatMap.2 ⟨i,hi,hq⟩)];exact h2
 ·exact .dead _
theorem XV{α:Type}(f:α→aiE D)(E:aiE α)(i:Nat):(E.map f).take i++(E.map f).drop (i+1)=(E.take i++E.drop (i+1)).map f:=by rw[List.map_append,List.map_take,List.map_drop]
theorem aav{α:Type}{f:α→aiE D}{E:aiE α}{L k:Nat}(h:E.length+1=L):(aO (E.map f)++[List.replicate k AV.dead]).length=L:=by rw[ahQ,nA,ahU];exact h
theorem aev{α:Type}{f:α→aiE D}{E:aiE α}{k:Nat}:(aO (E.map f)++[List.replicate k AV.dead]).take (E.map f).length=aO (E.map f):=by
 rw[List.take_append_of_le_length (by rw[nA];exact ah0 _),←nA,List.take_length]
def Io{α:Type}(x:AV)(k:AV→α):α:=
 match x with
 | .d y=>k (.d y)
 | .agg cs=>k (.agg cs)
 | .cb cs=>k (.cb cs)
 | .ptr n o=>fN n fun n=>fN o fun o=>k (.ptr n o)
 | .own n xs=>fN n fun n=>k (.own n xs)
 | .fn f cs=>k (.fn f cs)
 | .mp n=>fN n fun n=>k (.mp n)
 |x=>k x
theorem Ux{α:Type}(x:AV)(k:AV→α):Io x k=k x:=by cases x<;>simp [Io,AP]
def fT{α:Type}:aiE (Nat×AV)→(aiE (Nat×AV)→α)→α
 |[],k=>k []
 |(d,x)::l,k=>fN d fun d=>Io x fun x=>fT l fun l=>k ((d,x)::l)
theorem VK{α:Type}:∀(l:aiE (Nat×AV))(k:aiE (Nat×AV)→α),fT l k=k l
 |[],k=>rfl
 |(d,x)::l,k=>by rw[fT,AP,Ux,VK l]
def fC{α:Type}:aiE AV→(aiE AV→α)→α
 |[],k=>k []
 |x::l,k=>Io x fun x=>fC l fun l=>k (x::l)
theorem Sx{α:Type}:∀(l:aiE AV)(k:aiE AV→α),fC l k=k l
 |[],k=>rfl
 |x::l,k=>by rw[fC,Ux,Sx l]
def fH{α:Type}:aiE an→(aiE an→α)→α
 |[],k=>k []
 | .cells cs::l,k=>fC cs fun cs=>fH l fun l=>k (.cells cs::l)
 | .front e z n::l,k=>fH l fun l=>k (.front e z n::l)
 | .map kv::l,k=>fH l fun l=>k (.map kv::l)
 | .gone::l,k=>fH l fun l=>k (.gone::l)
 |B::l,k=>fH l fun l=>k (B::l)
theorem rW{α:Type}:∀(l:aiE an)(k:aiE an→α),fH l k=k l
 |[],k=>rfl
 | .cells cs::l,k=>by rw[fH,Sx,rW l]
 | .front e z n::l,k=>by rw[fH,rW l]
 | .map kv::l,k=>by rw[fH,rW l]
 | .gone::l,k=>by rw[fH,rW l]
 | .vec .. ::l,k=>by rw[fH,rW l]<;>simp
 | .lp .. ::l,k=>by rw[fH,rW l]<;>simp
 | .it .. ::l,k=>by rw[fH,rW l]<;>simp
def Jt{α:Type}(s:St)(k:St→α):α:=fN s.n fun n=>fT s.t fun t=>fH s.h fun h=>k ⟨n,t,h⟩
theorem WB{α:Type}(s:St)(k:St→α):Jt s k=k s:=by unfold Jt;rw[AP,VK,rW]
inductive Fr
 |S (y:Code)
 |B (id:Nat)
 |F (k:Nat) (f:St→Prop)
def gv(P:aiH)(r:aiG Nat)(N0:Nat)(Q:Exit→St→Prop):aiE Fr→Exit→St→Prop
 |[]=>Q
 | .S y::K=>gQ (fun s=>bS P r N0 y (gv P r N0 Q K) s) (gv P r N0 Q K)
 | .B id::K=>oe id (gv P r N0 Q K)
 | .F _ f::K=>gQ f (gv P r N0 Q K)
inductive Md
 |c (c:Code)
 |n
 |x (id:Nat)
inductive WR
 |at (c:Code) (K:List Fr) (s:St)
 |ret (s:St)
 |nrm (s:St)
 |fin (k:Nat) (s:St)
abbrev WO:=aiG (WR×aiE (In×cD))
def F1(l:aiE (In×cD)):WO→WO
 |some (w,m)=>some (w,l++m)
 |none=>none
def walk(P:aiH):Nat→Md→aiE Fr→aiE (aiE (Nat×cD))→St→WO
 |0,_,_,_,_=>none
 |F+1,m,K,A,s=>match m with
  | .n=>match K with
    |[]=>some (.nrm s,[])
    | .S y::K=>walk P F (.c y) K A s
    | .B _::K=>walk P F .n K A s
    | .F k _::_=>some (.fin k s,[])
  | .x id=>match K with
    |[]=>none
    | .S _::K=>walk P F (.x id) K A s
    | .B pC::K=>walk P F (bif id==pC then .n else .x id) K A s
    | .F _ _::K=>walk P F (.x id) K A s
  | .c c=>match c with
    | .seq a b=>walk P F (.c a) (.S b::K) A s
    | .block id b=>walk P F (.c b) (.B id::K) A s
    | .skip=>walk P F .n K A s
    | .ret=>some (.ret s,[])
    | .exit id=>walk P F (.x id) K A s
    | .region id ops dr=>match A with
      |[]=>some (.at (.region id ops dr) K s,[])
      |as::A=>bif !dr||mG ops then match mF P ops dr ops.toList 0 as s with
         |some (s1,l)=>Jt s1 fun s1=>F1 l (walk P F .n K A s1)
         |none=>none
       else none
    | .cond o x y=>match A with
      |[]=>some (.at (.cond o x y) K s,[])
      |as::A=>match iE as 0 with
       | .bit b=>F1 [(.bit (ev s o), .bit b)] (walk P F (.c (bif b then x else y)) K A s)
       |_=>none
    |c=>match A with
     |[]=>some (.at c K s,[])
     |_=>none
section
variable {P:aiH} {r:aiG Nat} {N0:Nat} {Q:Exit→St→Prop}
theorem HP:∀(K:aiE Fr)(s:St),Q .ret s→gv P r N0 Q K .ret s
 |[],_,h=>h
 | .S _::K,s,h=>HP K s h
 | .B _::K,s,h=>HP K s h
 | .F _ _::K,s,h=>HP K s h
def aal(P:aiH)(r:aiG Nat)(N0:Nat)(Q:Exit→St→Prop)(m:Md)(K:aiE Fr)(s:St):Prop:=
 match m with
 | .c c=>bS P r N0 c (gv P r N0 Q K) s
 | .n=>gv P r N0 Q K .normal s
 | .x id=>gv P r N0 Q K (.exit id) s
def CC(P:aiH)(r:aiG Nat)(N0:Nat)(Q:Exit→St→Prop)(K0:aiE Fr):WR→Prop
 | .at c K s=>bS P r N0 c (gv P r N0 Q K) s
 | .ret s=>Q .ret s
 | .nrm s=>Q .normal s
 | .fin k s=>∀f,Fr.F k f∈K0→f s
theorem CC.sub{K K':aiE Fr}(h:∀k f,Fr.F k f∈K'→Fr.F k f∈K):∀{w:WR},CC P r N0 Q K w→CC P r N0 Q K' w
 | .at _ _ _,hp=>hp
 | .ret _,hp=>hp
 | .nrm _,hp=>hp
 | .fin k _,hp=>fun f hf=>hp f (h k f hf)
theorem SK{l m:aiE (In×cD)}{x:WO}{w:WR}(h:F1 l x=some (w,m))(cE:gU P m):∃n,x=some (w,n)∧gU P n∧gU P l:=by
 unfold F1 at h;split at h
 ·next w' n=>
  cases h
  exact⟨n,rfl,fun p hp=>cE p (List.mem_append_right _ hp),fun p hp=>cE p (List.mem_append_left _ hp)⟩
 ·cases h
theorem Oq(hm:P.follows .mixedOrders=true):∀(F:Nat)(m:Md)(K:aiE Fr)(A:aiE (aiE (Nat×cD)))(s:St)(w:WR)(l:aiE (In×cD)),walk P F m K A s=some (w,l)→gU P l→CC P r N0 Q K w→aal P r N0 Q m K s
 |0,_,_,_,_,_,_,h,_,_=>by simp [walk]at h
 |F+1,m,K,A,s,w,l,h,cE,hp=>by
  have ih:=Oq hm F;have tl:∀{x:Fr}{K:aiE Fr},∀k f,Fr.F k f∈K→Fr.F k f∈x::K:=fun _ _ h=>ahY _ h;have pS:∀{y:Code}{K:aiE Fr},∀k f,Fr.F k f∈Fr.S y::K→Fr.F k f∈K:=fun k f h=>by
   rcases aik.1 h with h|h
   ·cases h
   ·exact h
  have pB:∀{y:Nat}{K:aiE Fr},∀k f,Fr.F k f∈Fr.B y::K→Fr.F k f∈K:=fun k f h=>by
   rcases aik.1 h with h|h
   ·cases h
   ·exact h
  unfold walk at h;cases m with
  |n=>
   cases K with
   |nil=>cases h;exact hp
   |cons x K=>
    cases x with
    |S y=>exact ih (.c y) K _ _ _ _ h cE (hp.sub tl)
    |B id=>exact ih .n K _ _ _ _ h cE (hp.sub tl)
    |F k f=>cases h;exact hp _ ahV
  |x id=>
   cases K with
   |nil=>cases h
   |cons x K=>
    cases x with
    |S y=>exact ih (.x id) K _ _ _ _ h cE (hp.sub tl)
    |B pC=>
     show(bif id==pC then gv P r N0 Q K .normal s else gv P r N0 Q K (.exit id) s);simp only at h;cases e:id==pC with
     |true=>rw[e]at h;exact ih .n K _ _ _ _ h cE (hp.sub tl)
     |false=>rw[e]at h;exact ih (.x id) K _ _ _ _ h cE (hp.sub tl)
    |F k f=>exact ih (.x id) K _ _ _ _ h cE (hp.sub tl)
  |c c=>
   simp only at h;split at h
   ·exact aR (ih (.c _) (.S _::K) _ _ _ _ h cE (hp.sub pS))
   ·exact fe (ih (.c _) (.B _::K) _ _ _ _ h cE (hp.sub pB))
   ·exact et (ih .n _ _ _ _ _ h cE hp)
   ·cases h;exact dN (HP K s hp)
   ·exact kZ (ih (.x _) _ _ _ _ _ h cE hp)
   ·next id ops dr=>
    split at h
    ·cases h;exact hp
    ·next as A=>
     obtain⟨hb,h⟩:=mB h;split at h
     ·next s1 l1 e=>
      rw[WB]at h;obtain⟨n,e2,h2,h3⟩:=SK h cE;have hk:=ih .n _ _ _ _ _ e2 h2 hp;have dK:=wO (P:=P) (ops:=ops) (dr:=dr) (K:=gv P r N0 Q K .normal) ops.toList 0 s l1 e h3 hk;cases dr with
      |false=>exact fD dK
      |true=>
       have hl:mG ops.toList.toArray=true:=by simpa using hb
       have:=H3 (P:=P) (r:=r) (N0:=N0) (Q:=gv P r N0 Q K) (s:=s) (id:=id) (l:=ops.toList) hm hl (by simpa using dK);show bS P r N0 (.region id ops true) (gv P r N0 Q K) s
       simpa using this
     ·cases h
   ·next o x y=>
    split at h
    ·cases h;exact hp
    ·next as A=>
     split at h
     ·next b e=>
      obtain⟨n,e2,h2,h3⟩:=SK h cE;have h4:=OK.GJ (h3 (_,_) ahV);have hk:=ih (.c _) _ _ _ _ _ e2 h2 hp;exact MG h4 (fun e=>by subst e;exact hk) (fun e=>by subst e;exact hk)
     ·cases h
   ·split at h
    ·cases h;exact hp
    ·cases h
end
def wK:WO→aiE Fr
 |some (.at _ K _,_)=>K
 |_=>[]
def wS:WO→St
 |some (.at _ _ s,_)=>s
 |_=>⟨0,[],[]⟩
def n5(k:Nat):aiE Fr→aiE (St→Prop)
 |[]=>[]
 | .F k' f::K=>bif k'==k then f::n5 k K else n5 k K
 |_::K=>n5 k K
theorem C7{k:Nat}{f:St→Prop}:∀{K:aiE Fr},Fr.F k f∈K→f∈n5 k K
 |[],h=>by cases h
 | .S _::K,h=>by
   rcases aik.1 h with h|h
   ·cases h
   ·exact C7 (K:=K) h
 | .B _::K,h=>by
   rcases aik.1 h with h|h
   ·cases h
   ·exact C7 (K:=K) h
 | .F k' g::K,h=>by
   rcases aik.1 h with h|h
   ·cases h;simp [n5]
   ·unfold n5;cases k'==k with
    |true=>exact ahY _ (C7 h)
    |false=>exact C7 h
def Dj:WO→aiG (aiE (In×cD))
 |some (.at _ _ _,l)=>some l
 |_=>none
def RY(live:aiE Nat)(m:Nat):WO→aiG (St×aiE (In×cD))
 |some (.at (.loop _) _ s,l)=>(iB s live m).map (·,l)
 |_=>none
def OQ(live:aiE Nat)(m:Nat)(ks:aiE Nat)(kn:aiE (Nat×Nat)):WO→aiG (St×aiE (In×cD))
 |some (.at (.loop _) _ s,l)=>(lS s live m ks kn).map (·,l)
 |_=>none
def FO:WO→aiG (aiE (In×cD))
 |some (.at _ (.S _::_) _,l)=>some l
 |_=>none
def EP(k:Nat)(live:aiE Nat)(m:Nat):WO→aiG (St×aiE (In×cD))
 |some (.fin k' s,l)=>bif k'==k then(iB s live m).map (·,l)else none
 |_=>none
def EO(k:Nat)(live:aiE Nat)(m:Nat)(ks:aiE Nat)(kn:aiE (Nat×Nat)):WO→aiG (St×aiE (In×cD))
 |some (.fin k' s,l)=>bif k'==k then(lS s live m ks kn).map (·,l)else none
 |_=>none
def MM(P:aiH)(rs:aiE ResultVar):WO→aiG (AV×aiE (In×cD))
 |some (.ret s,l)=>(vL P rs s).map (·,l)
 |some (.nrm s,l)=>(vL P rs s).map (·,l)
 |_=>none
def Nn(P:aiH)(rs:aiE ResultVar)(m:Nat):WO→aiG ((AV×aiE an)×aiE (In×cD))
 |some (.ret s,l)=>(vl P rs m s).map (·,l)
 |some (.nrm s,l)=>(vl P rs m s).map (·,l)
 |_=>none
def yO:aiE Fr→aiG (Code×aiE Fr)
 | .S y::K=>some (y,K)
 | .B _::K=>yO K
 |_=>none
def Sc(P:aiH)(bq:aiE Nat)(as:aiE (Nat×cD)):WO→aiG (aiE (Nat×AV)×aiE an×aiE (In×cD))
 |some (.at (.region _ ops dr) K s,_)=>bif (!dr||mG ops)&&(yO K).isSome then mC P dr ops.toList as bq s else none
 |_=>none
def Wf(k:Nat)(f:St→Prop)(s:St):WO→WO
 |some (.at (.loop b) K _,_)=>some (.at b (.F k f::K) s,[])
 |_=>none
def Ve(k:Nat)(f:St→Prop):WO→WO
 |some (.at c (.S _::K) s,_)=>some (.at c (.F k f::K) s,[])
 |_=>none
def R7(s:St):WO→WO
 |some (.at _ (.S y::K) _,_)=>some (.at y K s,[])
 |_=>none
def yJ(Δ:aiE (Nat×AV))(h':aiE an):WO→WO
 |some (.at _ K s,_)=>match yO K with
  |some (y,K')=>some (.at y K' ⟨s.n,Δ++s.t,h'⟩,[])
  |none=>none
 |_=>none
def En(f:St→St):WO→WO
 |some (.at c K s,l)=>some (.at c K (f s),l)
 |_=>none
def Rt:Nat:=4000
def wk(P:aiH)(w:WO)(bE:aiE (aiE (Nat×Ob P))):WO:=
 match w with
 |some (.at c K s,_)=>walk P Rt (.c c) K (bE.map jL) s
 |_=>none
def kY{P:aiH}(bE:aiE (aiE (Nat×Ob P))):aiE (In×cD):=bE.flatMap jl
theorem aeX{P:aiH}(bE:aiE (aiE (Nat×Ob P))):gU P (kY bE):=fun p hp=>by
 obtain⟨l,_,h⟩:=List.mem_flatMap.1 hp;exact pQ l p h
theorem oB{α β:Type}{x:aiG α}{l:β}{y:α}{m:β}(h:x.map (·,l)=some (y,m)):x=some y∧l=m:=by
 cases x with
 |none=>cases h
 |some z=>cases h;exact⟨rfl,rfl⟩
def uz(P:aiH)(r:aiG Nat)(N0:Nat)(Q:Exit→St→Prop):WO→Prop
 |some (.at c K s,_)=>bS P r N0 c (gv P r N0 Q K) s
 |_=>True
structure GW(P:Program)(r:Option Nat)(N0:Nat)(Q:Exit→St→Prop)(w:WO):Prop where
 run:uz P r N0 Q w
section
variable {P:aiH} {r:aiG Nat} {N0:Nat} {Q:Exit→St→Prop} {w0:WO}
theorem l4{bE:aiE (aiE (Nat×Ob P))}(hm:P.follows .mixedOrders=true){w:WR}(e:wk P w0 bE=some (w,kY bE))(hp:∀K,(∀k f,Fr.F k f∈K→Fr.F k f∈wK w0)→CC P r N0 Q K w):GW P r N0 Q w0:=by
 constructor
 unfold wk at e;split at e
 ·next c K s l=>exact Oq hm Rt (.c c) K _ s w _ e (aeX bE) (hp K fun k f h=>h)
 ·cases e
theorem au(hm:P.follows .mixedOrders=true)(bE:aiE (aiE (Nat×Ob P)))(k:GW P r N0 Q (wk P w0 bE))(e:Dj (wk P w0 bE)=some (kY bE):=by kernel_rfl):GW P r N0 Q w0:=by
 generalize hw:wk P w0 bE=w at e k;unfold Dj at e;split at e
 ·cases e;exact l4 hm hw fun K _=>k.run
 ·cases e
theorem abI(hm:P.follows .mixedOrders=true){fn:Func}{R:AV}(bE:aiE (aiE (Nat×Ob P)))(e:MM P fn.results.toList (wk P w0 bE)=some (R,kY bE)):GW P r N0 (DT P fn R) w0:=by
 generalize hw:wk P w0 bE=w at e;unfold MM at e;split at e
 ·obtain⟨e1,rfl⟩:=oB e;exact l4 hm hw fun K _=>e1
 ·obtain⟨e1,rfl⟩:=oB e;exact l4 hm hw fun K _=>e1
 ·cases e
theorem aao(hm:P.follows .mixedOrders=true){fn:Func}{m:Nat}{R:AV}{H:aiE an}(bE:aiE (aiE (Nat×Ob P)))(e:Nn P fn.results.toList m (wk P w0 bE)=some ((R,H),kY bE)):GW P r N0 (ED P fn m R H) w0:=by
 generalize hw:wk P w0 bE=w at e;unfold Nn at e;split at e
 ·obtain⟨e1,rfl⟩:=oB e;exact l4 hm hw fun K _=>e1
 ·obtain⟨e1,rfl⟩:=oB e;exact l4 hm hw fun K _=>e1
 ·cases e
theorem wr(hm:P.follows .mixedOrders=true){fn:Func}{R:AV}(bE:aiE (aiE (Nat×Ob P)))(e:MM P fn.results.toList (wk P w0 bE)=some (R,kY bE):=by kernel_rfl):GW P r N0 (DT P fn R) w0:=abI hm bE e
theorem ca(hm:P.follows .mixedOrders=true){fn:Func}{m:Nat}{R:AV}{H:aiE an}(bE:aiE (aiE (Nat×Ob P)))(e:Nn P fn.results.toList m (wk P w0 bE)=some ((R,H),kY bE):=by kernel_rfl):GW P r N0 (ED P fn m R H) w0:=aao hm bE e
structure O8{ι:Type}(k:Nat)(live:List Nat)(m:Nat)(st:ι→St)(I:ι→Prop)(μ:ι→Nat)(i0:ι)(f:St→Prop):Prop where
 h:∀s' i',iB s' live m=some (st i')→I i'→μ i'<μ i0→f s'
structure UM{ι:Type}(k:Nat)(live:List Nat)(m:Nat)(ks:List Nat)(kn:List (Nat×Nat))(st:ι→St)(I:ι→Prop)(μ:ι→Nat)(i0:ι)(f:St→Prop):Prop where
 h:∀s' i',gT m (s'.h.take m)→lS s' live m ks kn=some (st i')→I i'→μ i'<μ i0→f s'
structure Pw{ι:Type}(k:Nat)(live:List Nat)(m:Nat)(st:ι→St)(I:ι→Prop)(f:St→Prop):Prop where
 h:∀s' i',iB s' live m=some (st i')→I i'→f s'
structure Vw{ι:Type}(k:Nat)(live:List Nat)(m:Nat)(ks:List Nat)(kn:List (Nat×Nat))(st:ι→St)(I:ι→Prop)(f:St→Prop):Prop where
 h:∀s' i',gT m (s'.h.take m)→lS s' live m ks kn=some (st i')→I i'→f s'
theorem FX(hm:P.follows .mixedOrders=true){k:Nat}{s1:St}{f:St→Prop}(bE:aiE (aiE (Nat×Ob P)))(e1:n5 k (wK w0)=[f])(e:wk P w0 bE=some (.fin k s1,kY bE))(hf:f s1):GW P r N0 Q w0:=
 l4 hm e fun K hK g hg=>by
  have:=C7 (hK k g hg);rw[e1,List.mem_singleton]at this;subst this;exact hf
theorem ct(hm:P.follows .mixedOrders=true){ι:Type}{live:aiE Nat}{m k:Nat}{st:ι→St}{I:ι→Prop}{μ:ι→Nat}{i0:ι}{f:St→Prop}(hf:O8 k live m st I μ i0 f)(i:ι)(bE:aiE (aiE (Nat×Ob P)))(hI:I i)(hμ:μ i<μ i0:=by exact aiC _)(e1:n5 k (wK w0)=[f]:=by kernel_rfl)(e:EP k live m (wk P w0 bE)=some (st i,kY bE):=by kernel_rfl):GW P r N0 Q w0:=by
 generalize hw:wk P w0 bE=w at e;unfold EP at e;split at e
 ·next k' s' l=>
  obtain⟨hb,e⟩:=mB e;obtain⟨e2,rfl⟩:=oB e;rw[beq_iff_eq]at hb;subst hb;exact FX hm bE e1 hw (hf.h _ i e2 hI hμ)
 ·cases e
def tV:aiE an→aiE (aiE (aiE AV))
 |[]=>[]
 | .vec _ _ cs::l=>cs::tV l
 |_::l=>tV l
structure VE(m:Nat) where
 x:List (List AV)
 ok:∀e k,(an.vec e k x).yw m
def VE.gY{m:Nat}(xs:aiE (aiE D)):VE m:=⟨aO xs,fun _ _=>(gq (m:=m) (l:=[]) fh).1⟩
def VE.row{m:Nat}(xs:aiE (aiE D))(i:Nat)(r:aiE AV)(h1:r.map (AV.bU m)=r:=by kernel_rfl)(h2:r.all (AV.bf m)=true:=by kernel_rfl):VE m:=⟨(aO xs).set i r,fun _ _=>(ZE (m:=m) (l:=[]) h1 h2 fh).1⟩
theorem CT{m:Nat}:∀(l:aiE an)(jH:aiE (VE m)),tV l=jH.map VE.x→gT m l
 |[],_,_=>fh
 |B::l,jH,h=>by
  cases B with
  |vec e k cs=>
   cases jH with
   |nil=>cases h
   |cons v vs=>
    have h1:cs=v.x:=(List.cons.inj h).1;subst h1;exact⟨v.ok e k,CT l vs (List.cons.inj h).2⟩
  |_=>exact⟨trivial,CT l jH h⟩
def Nd(m:Nat):WO→aiE (aiE (aiE AV))
 |some (.fin _ s,_)=>tV (s.h.take m)
 |some (.at _ _ s,_)=>tV (s.h.take m)
 |_=>[]
theorem gN(hm:P.follows .mixedOrders=true){ι:Type}{live:aiE Nat}{m k:Nat}{ks:aiE Nat}{kn:aiE (Nat×Nat)}{st:ι→St}{I:ι→Prop}{μ:ι→Nat}{i0:ι}{f:St→Prop}(hf:UM k live m ks kn st I μ i0 f)(i:ι)(bE:aiE (aiE (Nat×Ob P)))(hI:I i)(hμ:μ i<μ i0:=by exact aiC _)(e1:n5 k (wK w0)=[f]:=by kernel_rfl)(jH:aiE (VE m):=[])(e0:Nd m (wk P w0 bE)=jH.map VE.x:=by kernel_rfl)(e:EO k live m ks kn (wk P w0 bE)=some (st i,kY bE):=by kernel_rfl):GW P r N0 Q w0:=by
 generalize hw:wk P w0 bE=w at e e0;unfold EO at e;split at e
 ·next k' s' l=>
  obtain⟨hb,e⟩:=mB e;obtain⟨e2,rfl⟩:=oB e;rw[beq_iff_eq]at hb;subst hb;exact FX hm bE e1 hw (hf.h _ i (CT _ jH e0) e2 hI hμ)
 ·cases e
theorem dR(hm:P.follows .mixedOrders=true){ι:Type}{live:aiE Nat}{m k:Nat}{st:ι→St}{I:ι→Prop}{f:St→Prop}(hf:Pw k live m st I f)(i:ι)(bE:aiE (aiE (Nat×Ob P)))(hI:I i)(e1:n5 k (wK w0)=[f]:=by kernel_rfl)(e:EP k live m (wk P w0 bE)=some (st i,kY bE):=by kernel_rfl):GW P r N0 Q w0:=by
 generalize hw:wk P w0 bE=w at e;unfold EP at e;split at e
 ·next k' s' l=>
  obtain⟨hb,e⟩:=mB e;obtain⟨e2,rfl⟩:=oB e;rw[beq_iff_eq]at hb;subst hb;exact FX hm bE e1 hw (hf.h _ i e2 hI)
 ·cases e
theorem cx(hm:P.follows .mixedOrders=true){ι:Type}(k:Nat)(bE:aiE (aiE (Nat×Ob P)))(live:aiE Nat)(m:Nat)(st:ι→St)(I:ι→Prop)(μ:ι→Nat)(i0:ι)(hI:I i0)
 (body:∀i,I i→∀f:St→Prop,O8 k live m st I μ i f→GW P r N0 Q (Wf k f (st i) (wk P w0 bE)))
 (hN:N0≤m:=by exact ahX rfl) (e:RY live m (wk P w0 bE)=some (st i0,kY bE):=by kernel_rfl):GW P r N0 Q w0:=by
 generalize hw:wk P w0 bE=w at e body;unfold RY at e;split at e
 ·next b K' s' l=>
  obtain⟨e2,rfl⟩:=oB e;refine l4 hm hw fun K _=> ?_;refine P2 live m st I μ i0 hN e2 hI fun i hi=> ?_;exact(body i hi _ ⟨fun s' i' h1 h2 h3=>⟨i',h1,h2,h3⟩⟩).run
 ·cases e
theorem jt(hm:P.follows .mixedOrders=true){ι:Type}(k:Nat)(bE:aiE (aiE (Nat×Ob P)))(live:aiE Nat)(m:Nat)(ks:aiE Nat)(kn:aiE (Nat×Nat))(st:ι→St)(I:ι→Prop)(μ:ι→Nat)(i0:ι)(hI:I i0)
 (body:∀i,I i→∀f:St→Prop,UM k live m ks kn st I μ i f→GW P r N0 Q (Wf k f (st i) (wk P w0 bE)))
 (hN:N0≤m:=by exact ahX rfl) (jH:aiE (VE m):=[]) (e0:Nd m (wk P w0 bE)=jH.map VE.x:=by kernel_rfl) (e:OQ live m ks kn (wk P w0 bE)=some (st i0,kY bE):=by kernel_rfl):GW P r N0 Q w0:=by
 generalize hw:wk P w0 bE=w at e e0 body;unfold OQ at e;split at e
 ·next b K' s' l=>
  obtain⟨e2,rfl⟩:=oB e;refine l4 hm hw fun K _=> ?_;refine oA live m ks kn st I μ i0 hN ⟨CT _ jH e0,e2⟩ hI fun i hi=> ?_;exact(body i hi _ ⟨fun s' i' h0 h1 h2 h3=>⟨i',⟨h0,h1⟩,h2,h3⟩⟩).run
 ·cases e
theorem l0(hm:P.follows .mixedOrders=true){ι:Type}(k:Nat)(bE:aiE (aiE (Nat×Ob P)))(live:aiE Nat)(m:Nat)(st:ι→St)(I:ι→Prop)
 (br:∀f:St→Prop,Pw k live m st I f→GW P r N0 Q (Ve k f (wk P w0 bE)))
 (rest:∀i,I i→GW P r N0 Q (R7 (st i) (wk P w0 bE))) (hN:N0≤m:=by exact ahX rfl) (e:FO (wk P w0 bE)=some (kY bE):=by kernel_rfl):GW P r N0 Q w0:=by
 generalize hw:wk P w0 bE=w at e br rest;unfold FO at e;split at e
 ·cases e
  refine l4 hm hw fun K _=> ?_;exact af1 live m st I hN (br _ ⟨fun s' i' h1 h2=>⟨i',h1,h2⟩⟩).run fun i hi=>(rest i hi).run
 ·cases e
theorem Pd(hm:P.follows .mixedOrders=true){ι:Type}{live:aiE Nat}{m k:Nat}{ks:aiE Nat}{kn:aiE (Nat×Nat)}{st:ι→St}{I:ι→Prop}{f:St→Prop}(hf:Vw k live m ks kn st I f)(i:ι)(bE:aiE (aiE (Nat×Ob P)))(hI:I i)(jH:aiE (VE m):=[])(e0:Nd m (wk P w0 bE)=jH.map VE.x:=by kernel_rfl)(e1:n5 k (wK w0)=[f]:=by kernel_rfl)(e:EO k live m ks kn (wk P w0 bE)=some (st i,kY bE):=by kernel_rfl):GW P r N0 Q w0:=by
 generalize hw:wk P w0 bE=w at e e0;unfold EO at e;split at e
 ·next k' s' l=>
  obtain⟨hb,e⟩:=mB e;obtain⟨e2,rfl⟩:=oB e;rw[beq_iff_eq]at hb;subst hb;exact FX hm bE e1 hw (hf.h _ i (CT _ jH e0) e2 hI)
 ·cases e
theorem abZ(hm:P.follows .mixedOrders=true){ι:Type}(k:Nat)(bE:aiE (aiE (Nat×Ob P)))(live:aiE Nat)(m:Nat)(ks:aiE Nat)(kn:aiE (Nat×Nat))(st:ι→St)(I:ι→Prop)
 (br:∀f:St→Prop,Vw k live m ks kn st I f→GW P r N0 Q (Ve k f (wk P w0 bE)))
 (rest:∀i,I i→GW P r N0 Q (R7 (st i) (wk P w0 bE))) (hN:N0≤m:=by exact ahX rfl) (e:FO (wk P w0 bE)=some (kY bE):=by kernel_rfl):GW P r N0 Q w0:=by
 generalize hw:wk P w0 bE=w at e br rest;unfold FO at e;split at e
 ·cases e
  refine l4 hm hw fun K _=> ?_;exact Xn live m ks kn st I hN (br _ ⟨fun s' i' h0 h1 h2=>⟨i',⟨h0,h1⟩,h2⟩⟩).run fun i hi=>(rest i hi).run
 ·cases e
theorem FZ:∀{K:aiE Fr}{y:Code}{K':aiE Fr}{s:St},yO K=some (y,K')→bS P r N0 y (gv P r N0 Q K') s→gv P r N0 Q K .normal s
 |[],_,_,_,h,_=>by cases h
 | .S y::K,_,_,_,h,k=>by cases h;exact k
 | .B _::K,_,_,s,h,k=>FZ (K:=K) (s:=s) h k
 | .F _ _::K,_,_,_,h,_=>by cases h
theorem cM(hm:P.follows .mixedOrders=true)(Δ:aiE (Nat×AV))(h':aiE an)(e:∃bE:aiE (Nat×Ob P),Sc P (Δ.map (·.1)) (jL bE) (wk P w0 [])=some (Δ,h',jl bE))(k:GW P r N0 Q (yJ Δ h' (wk P w0 [])))(e0:Dj (wk P w0 [])=some []:=by kernel_rfl):GW P r N0 Q w0:=by
 generalize hw:wk P w0 []=w at e k e0;obtain⟨bE,e⟩:=e;unfold Sc at e;split at e
 ·next id ops dr K' s' l=>
  obtain⟨hb,e⟩:=mB e;rw[ahR]at hb;cases e0
  refine l4 hm hw fun K _=> ?_;obtain⟨s1,h1,h2,h3,h4⟩:=FP e;obtain⟨p,hp⟩:=Option.isSome_iff_exists.1 hb.2;obtain⟨y,K2⟩:=p;have hk:gv P r N0 Q K' .normal s1:=by
   refine FZ hp (HC (s:=s1) (s':=⟨s'.n,Δ++s'.t,h'⟩) h2.symm h3.symm h4 ?_);have k:=k.run;simp only[yJ,hp]at k;exact k
  show bS P r N0 (.region id ops dr) (gv P r N0 Q K') s';have dK:=wO (P:=P) (ops:=ops.toList.toArray) (dr:=dr) (K:=gv P r N0 Q K' .normal) ops.toList 0 s' _ h1 (pQ bE) hk;cases dr with
  |false=>exact fD (by simpa using dK)
  |true=>
   have hl:mG ops.toList.toArray=true:=by simpa using hb.1
   have:=H3 (P:=P) (r:=r) (N0:=N0) (Q:=gv P r N0 Q K') (s:=s') (id:=id) (l:=ops.toList) hm hl (by simpa using dK)
   simpa using this
 ·cases e
def Tl(P:aiH)(bq:aiE Nat)(as:aiE (Nat×cD)):WO→aiG (aiE (aiE (Nat×AV)×aiE an×aiE (In×cD)))
 |some (.at (.region _ ops true) K s,_)=>bif (yO K).isSome then Ae P ops.toList as bq s else none
 |_=>none
theorem P3(m:Nat)(hm:P.follows .mixedOrders=true)(Δ:aiE (Nat×AV))(h':aiE an)(e:∃bE:aiE (Nat×Ob P),Tl P (Δ.map (·.1)) (jL bE) (wk P w0 [])=some (List.replicate m (Δ,h',jl bE)))(k:GW P r N0 Q (yJ Δ h' (wk P w0 [])))(e0:Dj (wk P w0 [])=some []:=by kernel_rfl):GW P r N0 Q w0:=by
 generalize hw:wk P w0 []=w at e k e0;obtain⟨bE,e⟩:=e;unfold Tl at e;split at e
 ·next id ops K' s' l=>
  obtain⟨hb,e⟩:=mB e;cases e0
  refine l4 hm hw fun K _=> ?_;obtain⟨p,hp⟩:=Option.isSome_iff_exists.1 hb;obtain⟨y,K2⟩:=p;show bS P r N0 (.region id ops true) (gv P r N0 Q K') s';have:=Xd (r:=r) (N0:=N0) (Q:=gv P r N0 Q K') (id:=id) (ol:=ops.toList) (n:=s'.n) (t:=s'.t) (h:=s'.h) m hm bE Δ h' e (FZ hp (by
   have k:=k.run;simp only[yJ,hp]at k;exact k))
  simpa using this
 ·cases e
def S5(P:aiH)(bq:aiE Nat)(as:aiE (Nat×cD)):WO→aiG (aiE (Nat×AV)×aiE an×aiE (In×cD))
 |some (.at (.region _ ops true) K s,_)=>bif (yO K).isSome&&Ga true ops (List.range ops.toList.length)&&FJ as 0 ops.toList then mC P false ops.toList as bq s else none
 |_=>none
theorem Mi(hm:P.follows .mixedOrders=true)(bE:aiE (Nat×Ob P))(Δ:aiE (Nat×AV))(h':aiE an)(k:GW P r N0 Q (yJ Δ h' (wk P w0 [])))(e:S5 P (Δ.map (·.1)) (jL bE) (wk P w0 [])=some (Δ,h',jl bE):=by kernel_rfl)(e0:Dj (wk P w0 [])=some []:=by kernel_rfl):GW P r N0 Q w0:=by
 generalize hw:wk P w0 []=w at e k e0;unfold S5 at e;split at e
 ·next id ops K' s' l=>
  obtain⟨hb,e⟩:=mB e;rw[ahR,ahR]at hb;cases e0
  refine l4 hm hw fun K _=> ?_;obtain⟨p,hp⟩:=Option.isSome_iff_exists.1 hb.1.1;obtain⟨y,K2⟩:=p;show bS P r N0 (.region id ops true) (gv P r N0 Q K') s';have hk:bS P r N0 y (gv P r N0 Q K2) ⟨s'.n,Δ++s'.t,h'⟩:=by
   have k:=k.run;simp only[yJ,hp]at k;exact k
  obtain⟨s1,h1,h2,h3,h4⟩:=FP e;have Hf:gv P r N0 Q K' .normal s1:=FZ hp (HC (s:=s1) (s':=⟨s'.n,Δ++s'.t,h'⟩) h2.symm h3.symm h4 hk);have hl:Ga true ops.toList.toArray (List.range ops.toList.length)=true:=by simpa using hb.1.2
  have:bS P r N0 (.region id ops.toList.toArray true) (gv P r N0 Q K') s':=by
   refine ac7 (m:=true) (List.range ops.toList.length) hm (by simp) hl ?_;rw[Y4];exact O4 ops.toList 0 _ _ h1 (pQ bE) hb.2 Hf
  simpa using this
 ·cases e
def JW(b:Nat):an→aiE (Nat×Nat×Nat×Nat)
 | .cells cs=>AV.lF b cs
 | .lp .. =>[(1,0,0,0)]
 | .it .. =>[(1,0,0,0)]
 |_=>[]
structure VM(b L kk:Nat)(ys:List (List D)) where
 x:List (List AV)
 y:List (List AV)
 ok:ys.length=L→y=x.map (·.map (AV.dn b kk ys))
def VM.gY{b L kk:Nat}{ys:aiE (aiE D)}(zs:aiE (aiE D)):VM b L kk ys:=⟨aO zs,aO zs,fun _=>(uG (fun d=>by simp [AV.dn]) zs).symm⟩
def VM.rw{b L kk:Nat}{ys:aiE (aiE D)}(zs:aiE (aiE D))(i:Nat)(cs cB:aiE AV)(c:Nat)(h:AV.lF b cs=List.replicate c (0,L,L,kk):=by kernel_rfl)(e:AV.jZ b ys cs=cB:=by kernel_rfl):VM b L kk ys:=
 ⟨(aO zs).set i cs,(aO zs).set i cB,fun hL=>by rw[List.map_set,uG (fun d=>by simp [AV.dn]),←px,q9 _ (y6 hL h),e]⟩
def VM.row{b L kk:Nat}{ys:aiE (aiE D)}{α:Type}(f:α→aiE D)(E:aiE α)(i:Nat)(cs:aiE AV)(y:α)(c:Nat)(h:AV.lF b cs=List.replicate c (0,L,L,kk):=by kernel_rfl)(e:AV.jZ b ys cs=(f y).map AV.d:=by kernel_rfl):VM b L kk ys:=
 ⟨(aO (E.map f)).set i cs,aO ((E.set i y).map f),fun hL=>by
   have h1:((aO (E.map f)).set i cs).map (·.map (AV.dn b kk ys))=(aO (E.map f)).set i (cs.map (AV.dn b kk ys)):=by rw[List.map_set,uG (fun d=>by simp [AV.dn])]
   have h2:cs.map (AV.dn b kk ys)=(f y).map AV.d:=by rw[←px,q9 _ (y6 hL h),e]
   rw[h1,h2];exact(XI rfl).symm⟩
def qb(b:Nat)(ys:aiE (aiE D)):aiE an→aiE (aiE (aiE AV))→aiE an
 |[],_=>[]
 |B::l,vs=>match B with
  | .vec e k cs=>match vs with
    |v::vs=> .vec e k v::qb b ys l vs
    |[]=> .vec e k cs::qb b ys l []
  | .cells cs=> .cells (AV.jZ b ys cs)::qb b ys l vs
  |B=>B::qb b ys l vs
theorem N2{b L kk:Nat}{ys:aiE (aiE D)}(hL:ys.length=L):∀(h:aiE an)(vs:aiE (VM b L kk ys)),tV h=vs.map VM.x→(∀q∈h.flatMap (JW b),q=(0,ys.length,ys.length,kk))→qb b ys h (vs.map VM.y)=h.map (an.ie (AV.dn b kk ys))
 |[],_,_,_=>rfl
 |B::l,vs,hv,ho=>by
  have hl:∀vs:aiE (VM b L kk ys),tV l=vs.map VM.x→qb b ys l (vs.map VM.y)=l.map (an.ie (AV.dn b kk ys)):=fun vs hv=>N2 hL l vs hv fun q hq=>ho q (by rw[List.flatMap_cons];exact List.mem_append_right _ hq);have hb:∀q∈JW b B,q=(0,ys.length,ys.length,kk):=fun q hq=>ho q (by rw[List.flatMap_cons];exact List.mem_append_left _ hq);cases B with
  |vec e k cs=>
   cases vs with
   |nil=>cases hv
   |cons v vs=>
    have Yb:cs=v.x:=(List.cons.inj hv).1;have e1:(an.vec e k cs).ie (AV.dn b kk ys)= .vec e k v.y:=by rw[v.ok hL,Yb];rfl
    show an.vec e k v.y::qb b ys l (vs.map VM.y)=an.ie (AV.dn b kk ys) (.vec e k cs)::l.map _;rw[hl vs (List.cons.inj hv).2,e1]
  |cells cs=>
   have e1:(an.cells cs).ie (AV.dn b kk ys)= .cells (AV.jZ b ys cs):=by
    rw[←q9 cs hb,px];rfl
   show an.cells (AV.jZ b ys cs)::qb b ys l (vs.map VM.y)=an.ie (AV.dn b kk ys) (.cells cs)::l.map _;rw[hl vs hv,e1]
  |front e k n=>exact congrArg (an.front e k n::·) (hl vs hv)
  |map kv=>exact congrArg (an.map kv::·) (hl vs hv)
  |gone=>exact congrArg (an.gone::·) (hl vs hv)
  |lp ls p as bd cs=>have:=congrArg Prod.fst (hb (1,0,0,0) ahV);cases this
  |it sn cs=>have:=congrArg Prod.fst (hb (1,0,0,0) ahV);cases this
theorem Wr{c:Code}{s:St}(live:aiE Nat)(b:Nat)(xs:aiE (aiE D)){e k L:Nat}(h':aiE an)(hb:s.h[b]?=some (.vec e k (aO xs)))(fz:∀c∈xs,c.all D.mY=true)(hL:xs.length=L)
 (ho:∀q∈live.flatMap fun i=>(bH s.t i).kC b,q=(0,xs.length,xs.length,k)) (hh:h'=s.h.map (an.ie (AV.dn b k xs))) (K:bS P r N0 c Q ⟨s.n,live.map (fun i=>(i,(bH s.t i).mlt b xs)),h'.set b .gone⟩):bS P r N0 c Q s:=by
 constructor
 intro G w a n hs hN;obtain⟨G',hE,e1,cY⟩:=hs.JF xs hb fz;refine wpIn_mono (K.run G' w a n (cY.less rfl (by rw[hh]) fun i=> ?_) (by rw[e1];exact hN)) fun _ _ _ hn=>hn.trans (hE.less hN);show bH (live.map (fun i=>(i,(bH s.t i).mlt b xs))) i=bH (s.t.map fun p=>(p.1,p.2.dn b k xs)) i∨_;rw[nS (fun k=>(bH s.t k).mlt b xs),wJ (AV.dn b k xs) (by simp [AV.dn])];split
 ·next hi=>
  left
  refine(Lt _ fun q hq=>ho q ?_).symm;exact List.mem_flatMap.2 ⟨i,hi,hq⟩
 ·exact .inr rfl
def abF(live:aiE Nat)(b:Nat)(s:St):aiE (Nat×Nat×Nat×Nat):=(live.flatMap fun i=>(bH s.t i).kC b)++s.h.flatMap (JW b)
def af9(live:aiE Nat)(b:Nat)(ys:aiE (aiE D))(vs:aiE (aiE (aiE AV)))(s:St):St:=⟨s.n,live.map (fun i=>(i,(bH s.t i).mlt b ys)),(qb b ys s.h vs).set b .gone⟩
def aaj(live:aiE Nat)(m:Nat):WO→aiG St
 |some (.at _ _ s,_)=>Go.Proofs.YtphmhnabilhbgaaGreatDoor.iB s live m
 |_=>none
theorem ahe(live:aiE Nat)(m:Nat)(s1:St)(hN:N0≤m)(k:GW P r N0 Q (En (fun _=>s1) w0))(e:aaj live m w0=some s1:=by kernel_rfl):GW P r N0 Q w0:=by
 constructor
 unfold uz;split
 ·exact gF live m hN e k.run
 ·trivial
theorem Fq(live:aiE Nat)(b:Nat){xs:aiE (aiE D)}(ys:aiE (aiE D))(L c e k:Nat)(vs:aiE (VM b L k ys))(hL:xs.length=L)(hy:ys=xs)(fz:∀c∈xs,c.all D.mY=true)(K:GW P r N0 Q (En (af9 live b ys (vs.map VM.y)) w0))(hb:(wS w0).h[b]?=some (.vec e k (aO xs)):=by kernel_rfl)(ho:abF live b (wS w0)=List.replicate c (0,L,L,k):=by kernel_rfl)(hv:tV (wS w0).h=vs.map VM.x:=by kernel_rfl):GW P r N0 Q w0:=by
 subst hy;constructor
 unfold uz;split
 ·next c K' s l=>
  have Ez:=y6 hL ho;exact Wr live b ys _ hb fz hL (fun q hq=>Ez q (List.mem_append_left _ hq)) (N2 hL s.h vs hv fun q hq=>Ez q (List.mem_append_right _ hq)) K.run
 ·trivial
theorem dq(k:Nat)(xs:aiE (aiE D))(hx:(bH (wS w0).t k).fY=some xs)(h:rY (.sl xs)→GW P r N0 Q w0):GW P r N0 Q w0:=by
 constructor
 unfold uz;split
 ·next c K s l=>exact pF k xs hx fun hl=>(h hl).run
 ·trivial
theorem dX(b i:Nat)(xs:aiE (aiE D))(hx:(((wS w0).h[b]?).bind fun B=>match B with| .cells cs=>(cs[i]?).bind AV.fY|_=>none)=some xs)(h:rY (.sl xs)→GW P r N0 Q w0):GW P r N0 Q w0:=by
 constructor
 unfold uz;split
 ·next c K s l=>exact agx b i xs hx fun hl=>(h hl).run
 ·trivial
def adS(k e sz:Nat)(xs:aiE (aiE D))(s:St):St:=⟨s.n,(k, .own s.h.length xs)::s.t,s.h++[.front e sz xs.length]⟩
def Ij(b i e sz:Nat)(xs:aiE (aiE D))(s:St):St:=match s.h[b]? with
 |some (.cells cs)=>⟨s.n,s.t,(s.h++[an.front e sz xs.length]).set b (an.cells (cs.set i (AV.own s.h.length xs)))⟩
 |_=>s
def ID(xs:aiE (aiE D)):AV→Bool
 | .d (.v (.slice none 0 0))=>xs.isEmpty
 |_=>false
theorem Tv{xs:aiE (aiE D)}{x:AV}(h:ID xs x=true):x= .d (.v (.slice none 0 0))∧xs=[]:=by
 unfold ID at h;split at h
 ·exact⟨rfl,List.isEmpty_iff.1 h⟩
 ·cases h
theorem nV(k e sz:Nat)(xs:aiE (aiE D))(hx:bH (wS w0).t k= .full xs∨ID xs (bH (wS w0).t k)=true)(h:GW P r N0 Q (En (adS k e sz xs) w0)):GW P r N0 Q w0:=by
 constructor
 unfold uz;split
 ·next c K s l=>exact Pm k e sz xs (hx.imp id Tv) h.run
 ·trivial
def AV.RL:AV→AV
 | .own _ xs=> .d (.sl xs)
 |x=>x
theorem AV.Le.gY(x:AV):AV.Le x x.RL:=fun G w u h=>by
 cases h with
 |own n xs h1 hp h2 h3=>exact .d hp
 |_=>first|exact .d (by assumption)|(constructor<;>assumption)
def JA(b:Nat)(s:St):St:=match s.h[b]? with
 |some (.cells cs)=>⟨s.n,s.t,s.h.set b (an.cells (cs.map AV.RL))⟩
 |_=>s
theorem agZ{c:Code}{s:St}{Q:Exit→St→Prop}(b:Nat)(h:bS P r N0 c Q (JA b s)):bS P r N0 c Q s:=by
 unfold JA at h;split at h
 ·next cs hb=>
  constructor
  intro G w a n hs hN;obtain⟨h1,h2,vs,T,h3,h4,h5⟩:=hs.inv.dz _ _ hb;refine h.run G w a n ⟨hs.size,hs.tmp,LB hs.inv hb (by rw[ahU]) fun fU T' sV j u c hu hc=> ?_,hs.df⟩ hN;rw[h3]at sV;cases sV
  rw[ahW]at hc;cases hq:cs[j]? with
  |none=>rw[hq]at hc;cases hc
  |some y=>rw[hq]at hc;cases hc;exact AV.Le.gY y G w u (h5 j u y hu hq)
 ·exact h
theorem aeC(b:Nat)(h:GW P r N0 Q (En (JA b) w0)):GW P r N0 Q w0:=by
 constructor
 unfold uz;split
 ·next c K s l=>exact agZ b h.run
 ·trivial
def IF(b i:Nat)(s:St):AV:=match s.h[b]? with
 |some (.cells cs)=>(cs[i]?).getD .dead
 |_=> .dead
theorem TN{b i:Nat}{s:St}{x:AV}(h:IF b i s=x)(hx:x≠ .dead):∃cs,s.h[b]?=some (.cells cs)∧cs[i]?=some x:=by
 unfold IF at h;split at h
 ·next cs hb=>
  refine⟨cs,hb,?_⟩;cases hq:cs[i]? with
  |none=>rw[hq]at h;exact absurd h.symm hx
  |some y=>rw[hq]at h;rw[←h];rfl
 ·exact absurd h.symm hx
theorem nu(b i e sz:Nat)(xs:aiE (aiE D))(hx:IF b i (wS w0)= .full xs∨ID xs (IF b i (wS w0))=true)(h:GW P r N0 Q (En (Ij b i e sz xs) w0)):GW P r N0 Q w0:=by
 constructor
 unfold uz;split
 ·next c K s l=>
  have h':bS P r N0 c (gv P r N0 Q K) (Ij b i e sz xs s):=h.run;rcases hx with hx|hx
  ·obtain⟨cs,h1,h2⟩:=TN hx (fun h=>by cases h);unfold Ij at h';rw[show s.h[b]?=some (.cells cs)from h1]at h';exact Fj b i e sz xs h1 (.inl h2) h'
  ·obtain⟨h3,rfl⟩:=Tv hx;obtain⟨cs,h1,h2⟩:=TN h3 (fun h=>by cases h);unfold Ij at h';rw[show s.h[b]?=some (.cells cs)from h1]at h';exact Fj b i e sz [] h1 (.inr ⟨h2,rfl⟩) h'
 ·trivial
end
theorem bc{α:Type}{c:Bool}{a b x:α}{G:Prop}(h:(bif c then a else b)=x)(t:c=true→a=x→G)(f:c=false→b=x→G):G:=by
 cases c with
 |true=>exact t rfl h
 |false=>exact f rfl h
theorem sj{α:Type}{a b:α}(h:some a=some b):a=b:=ah8 h
theorem dg{α:Type}{c:Bool}{x:aiG α}{r:α}(h:(bif c then x else none)=some r):c=true∧x=some r:=by
 cases c with
 |true=>exact⟨rfl,h⟩
 |false=>cases h
def TY(fn:Func)(args:aiE AV)(h:aiE an):WO:=some (.at (fn.body.getD .skip) [] {n:=args.length+(fn.ntmps-args.length),t:=kS 0 args,h:=h},[])
theorem bD{P:aiH}{f:FuncId}{fn:Func}{args:aiE AV}{R:AV}(hf:P.funcs[f]?=some fn)(hb:fn.body.isSome=true)(hn:(fn.name== "runtime.NumGoroutine")=false)
 (hw:GW P none 0 (DT P fn R) (TY fn args [])):bg P f args (·=R):=by
 obtain⟨c,hc⟩:=Option.isSome_iff_exists.1 hb;refine qg hf hc hn ?_;have:fn.body.getD .skip=c:=by rw[hc];rfl
 rw[←this];exact hw.run
theorem eu{P:aiH}{f:FuncId}{fn:Func}{args:aiE AV}{h H:aiE an}{R:AV}(m:Nat)(hf:P.funcs[f]?=some fn)(hb:fn.body.isSome=true)(hn:(fn.name== "runtime.NumGoroutine")=false)(hm:h.length≤m)
 (hw:GW P none h.length (ED P fn m R H) (TY fn args h)):bY P f args h fun r1 h1=>r1=R∧h1=H:=by
 obtain⟨c,hc⟩:=Option.isSome_iff_exists.1 hb;refine D5 m hf hc hn hm ?_;have:fn.body.getD .skip=c:=by rw[hc];rfl
 rw[←this];exact hw.run
section Gg
variable {P:aiH}
def oL{α:Type}{f:aiE α→aiE (aiE D)}(l:aiE α)(h:(f l).length=l.length):Ob P:=⟨_,_, .len h⟩
def oE{xs:aiE (aiE D)}{k:Nat}{c:aiE D}(h:xs[k]?=some c):Ob P:=⟨_,_, .el (xs:=xs) (i:=(k:Int)) (Int.natCast_nonneg _) h⟩
def oq{a b:AV}(h:a=b):Ob P:=⟨_,_, .eq h⟩
def os(ks:aiE Nat)(o:Ob P)(l:aiE (Nat×Ob P)):aiE (Nat×Ob P):=ks.foldr (fun k t=>(k,o)::t) l
noncomputable def soI(x:Nat×Ob P)(l:aiE (Nat×Ob P)):aiE (Nat×Ob P):=List.rec [x] (fun y t r=>bif Nat.ble x.1 y.1 then x::y::t else y::r) l
noncomputable def so(l:aiE (Nat×Ob P)):aiE (Nat×Ob P):=l.foldr soI []
theorem cd{xs:aiE (aiE D)}{n:Nat}(e:xs.length=n)(h:rY (.sl xs)):n≤maxLen:=e▸qH h
end Gg
inductive eB(P:Program):TypeId→List D→Prop
 |bool {t:TypeId} (b:Bool) (h:P.underlying t=some .bool):eB P t [.v (.bool b)]
 |int {t:TypeId} {k:IntKind} (n:Int) (h:P.underlying t=some (.int k)) (w:(Lit.int k n).wf=true):eB P t [.v (.int k n)]
 |str {t:TypeId} (s:ByteArray) (h:P.underlying t=some .string) (w:s.size≤maxLen):eB P t [.v (.string s)]
 |sl {t e:TypeId} (xs:List (List D)) (h:P.underlying t=some (.slice e)) (w:xs.length≤140737488355328) (hx:∀x∈xs,eB P e x):eB P t [.sl xs]
 |struct {t:TypeId} {fs:Array Field} (parts:List (List D)) (h:P.underlying t=some (.struct fs)) (hl:parts.length=fs.size) (hx:∀(i:Nat)(f:Field)(x:List D),fs[i]?=some f→parts[i]?=some x→eB P f.type x):eB P t parts.flatten
section
variable {P:aiH} {t:TypeId} {xs:aiE D}
theorem eB.aeQ(h:eB P t xs)(ht:P.underlying t=some .bool):∃b,xs=[.v (.bool b)]:=by
 cases h with
 |bool b h=>exact⟨b,rfl⟩
 |int n h=>rw[ht]at h;cases h
 |str s h=>rw[ht]at h;cases h
 |sl l h=>rw[ht]at h;cases h
 |struct p h=>rw[ht]at h;cases h
theorem eB.nc{k:IntKind}(h:eB P t xs)(ht:P.underlying t=some (.int k)):∃n,xs=[.v (.int k n)]∧k.min≤n∧n≤k.max:=by
 cases h with
 |bool b h=>rw[ht]at h;cases h
 |int n h w=>
  rw[ht]at h;cases h;unfold Lit.wf at w;simp only[ahR,decide_eq_true_eq]at w;exact⟨n,rfl,w⟩
 |str s h=>rw[ht]at h;cases h
 |sl l h=>rw[ht]at h;cases h
 |struct p h=>rw[ht]at h;cases h
theorem eB.vm(h:eB P t xs)(ht:P.underlying t=some .string):∃s,xs=[.v (.string s)]∧s.size≤maxLen:=by
 cases h with
 |bool b h=>rw[ht]at h;cases h
 |int n h=>rw[ht]at h;cases h
 |str s h w=>exact⟨s,rfl,w⟩
 |sl l h=>rw[ht]at h;cases h
 |struct p h=>rw[ht]at h;cases h
theorem eB.q8{e:TypeId}(h:eB P t xs)(ht:P.underlying t=some (.slice e)):∃l,xs=[.sl l]∧l.length≤140737488355328∧∀x∈l,eB P e x:=by
 cases h with
 |bool b h=>rw[ht]at h;cases h
 |int n h=>rw[ht]at h;cases h
 |str s h=>rw[ht]at h;cases h
 |sl l h w hx=>rw[ht]at h;cases h;exact⟨l,rfl,w,hx⟩
 |struct p h=>rw[ht]at h;cases h
theorem eB.ng{fs:Array Field}(h:eB P t xs)(ht:P.underlying t=some (.struct fs)):∃parts:aiE (aiE D),xs=parts.flatten∧parts.length=fs.size∧∀(i:Nat)(f:Field)(x:aiE D),fs[i]?=some f→parts[i]?=some x→eB P f.type x:=by
 cases h with
 |bool b h=>rw[ht]at h;cases h
 |int n h=>rw[ht]at h;cases h
 |str s h=>rw[ht]at h;cases h
 |sl l h=>rw[ht]at h;cases h
 |struct p h hl hx=>rw[ht]at h;cases h;exact⟨p,rfl,hl,hx⟩
theorem oC{α:Type}{f:α→aiE D}{Q:α→Prop}:∀l:aiE (aiE D),(∀x∈l,∃a,x=f a∧Q a)→∃r:aiE α,l=r.map f∧∀a∈r,Q a
 |[],_=>⟨[],rfl,fun _ h=>by cases h⟩
 |x::l,h=>by
  obtain⟨a,rfl,ha⟩:=h x ahV;obtain⟨r,rfl,hr⟩:=oC l fun y hy=>h y (ahY _ hy);refine⟨a::r,rfl,fun b hb=> ?_⟩;rcases aik.1 hb with rfl|hb
  ·exact ha
  ·exact hr b hb
end
def M1(P:aiH)(S:aiE TypeId):Bool:=S.all fun t=>match P.underlying t with
 |some .bool|some (.int _)|some .string=>true
 |some (.slice e)=>S.contains e&&(decide (0<P.cellsOf e)&&decide (0<P.bytesOf e))
 |some (.struct fs)=>P.consecB fs.toList 0 (P.cellsOf t)&&fs.toList.all fun f=>S.contains f.type
 |_=>false
def ji(S:Nat→Nat→Prop)(w:aiJ)(cs:aiE aiI)(xs:aiE D):Prop:=xs.length=cs.length∧∀(i:Nat)(u:aiI)(x:D),cs[i]?=some u→xs[i]?=some x→dG S w u x∧u.oneCell'=true
theorem ji.nil{S:Nat→Nat→Prop}{w:aiJ}:ji S w [] []:=⟨rfl,fun i u x h=>by simp at h⟩
theorem ji.one{S:Nat→Nat→Prop}{w:aiJ}{u:aiI}{x:D}(h:dG S w u x)(h1:u.oneCell'=true):ji S w [u] [x]:=⟨rfl,fun i v y hv hy=>by
 cases i with
 |zero=>cases hv;cases hy;exact⟨h,h1⟩
 |succ i=>simp at hv⟩
theorem ji.app{S:Nat→Nat→Prop}{w:aiJ}{a b:aiE aiI}{x y:aiE D}(h:ji S w a x)(k:ji S w b y):ji S w (a++b) (x++y):=by
 refine⟨by simp [h.1,k.1],fun i u z hu hz=> ?_⟩;by_cases hi:i<a.length
 ·rw[ahZ hi]at hu;rw[ahZ (by rw[h.1];exact hi)]at hz;exact h.2 i u z hu hz
 ·rw[ah5 (by omega)]at hu;rw[ah5 (by rw[h.1];omega),h.1]at hz;exact k.2 _ u z hu hz
theorem To{α:Type}{Q:Nat→α→Prop}:∀n:Nat,(∀i,i<n→∃x,Q i x)→∃l:aiE α,l.length=n∧∀i x,l[i]?=some x→Q i x
 |0,_=>⟨[],rfl,fun i x h=>by simp at h⟩
 |n+1,h=>by
  obtain⟨l,h1,h2⟩:=To n fun i hi=>h i (by omega);obtain⟨x,hx⟩:=h n (by omega);refine⟨l++[x],by simp [h1],fun i y hy=> ?_⟩;by_cases hi:i<l.length
  ·rw[ahZ hi]at hy;exact h2 i y hy
  ·rw[ah5 (by omega)]at hy;have:i-l.length=0:=by
     by_cases e:i-l.length=0
     ·exact e
     ·rw[aim (by simp;omega)]at hy;cases hy
   rw[this]at hy;cases hy;have:i=n:=by omega
   rw[this];exact hx
theorem Wh{a:Addr}(h:a.spot=none)(n:Nat):a.add n=⟨a.block,a.off+n,none⟩:=by
 unfold Addr.add;split
 ·next e=>subst e;cases a;simp only at h;subst h;rfl
 ·rfl
section
variable {H:Type} {enc:TypeId×aiI→H} {P:aiH} {W:aiJ} {Ts:aiE TypeId}
abbrev rR(W:aiJ):Nat→Nat→Prop:=fun b _=>b<W.heap.size
theorem Wx{S:Nat→Nat→Prop}{w:aiJ}:dG S w (.slice none 0 0) (.sl []):=
 .sl none 0 0 0 0 [] (fun _ _=>undef) (fun h=>absurd rfl h) (ah0 _) (by simp) (fun _ h=>by cases h) (fun i j hi=>by simp at hi) (fun i j x d hx=>by simp at hx)
theorem OZ{e:TypeId}:∀{l:aiE (DataW H)}{d:DataW H},d∈l→∀n∈d.weights P e,n∈DataW.weightsAll P e l
 |[],_,h,_,_=>by cases h
 |x::l,d,h,n,hn=>by
  simp only[DataW.weightsAll,ais];rcases aik.1 h with rfl|h
  ·exact .inl hn
  ·exact .inr (OZ h n hn)
theorem Q6{fuel:Nat}(IH:∀(t:TypeId)(cs:aiE aiI)(d:DataW H)(ps:aiE MemPlace),t∈Ts→(∀n∈d.weights P t,n≤reachBytes)→DataW.trod enc P W 0 (fun _=>true) true fuel t cs=some (d,ps)→∃xs,eB P t xs∧ji (rR W) W cs xs)(cs:aiE aiI):
 ∀(fs:aiE Field)(off:Nat)(ys:aiE (DataW H×aiE MemPlace)),P.consecB fs off cs.length=true→(∀f∈fs,f.type∈Ts)→(∀n∈DataW.weightsEach P (fs.map (·.type)) (ys.map (·.1)),n≤reachBytes)→
  fs.mapM (fun f=>DataW.trod enc P W 0 (fun _=>true) true fuel f.type ((cs.drop f.offset).take (P.cellsOf f.type)))=some ys→
  ∃parts:aiE (aiE D),parts.length=fs.length∧(∀(i:Nat)(f:Field)(x:aiE D),fs[i]?=some f→parts[i]?=some x→eB P f.type x)∧ji (rR W) W (cs.drop off) parts.flatten
 |[],off,ys,hc,_,_,_=>by
  simp only[Program.consecB,beq_iff_eq]at hc;refine⟨[],rfl,fun i f x h=>by simp at h,?_⟩;rw[List.drop_eq_nil_iff.2 (by omega)];exact ji.nil
 |f::fs,off,ys,hc,hS,hw,hm=>by
  simp only[Program.consecB,ahR,beq_iff_eq]at hc;obtain⟨JH,hc⟩:=hc;rw[List.mapM_cons]at hm;cases hx:DataW.trod enc P W 0 (fun _=>true) true fuel f.type ((cs.drop f.offset).take (P.cellsOf f.type))with
  |none=>simp [hx]at hm
  |some p=>
   cases kN:fs.mapM (fun f=>DataW.trod enc P W 0 (fun _=>true) true fuel f.type ((cs.drop f.offset).take (P.cellsOf f.type)))with
   |none=>simp [hx,kN]at hm
   |some ps=>
    obtain⟨d,q⟩:=p;obtain rfl:(d,q)::ps=ys:=by simpa [hx,kN]using hm
    simp only[aie,DataW.weightsEach,ais]at hw;obtain⟨x,h1,h2⟩:=IH f.type _ d q (hS f ahV) (fun n hn=>hw n (.inl hn)) hx;obtain⟨parts,k1,k2,k3⟩:=Q6 IH cs fs (off+P.cellsOf f.type) ps hc (fun g hg=>hS g (ahY _ hg)) (fun n hn=>hw n (.inr hn)) kN;refine⟨x::parts,by simp [k1],fun i g y hg hy=> ?_,?_⟩
    ·cases i with
     |zero=>cases hg;cases hy;exact h1
     |succ i=>exact k2 i g y (by simpa using hg) (by simpa using hy)
    ·rw[List.flatten_cons];rw[JH]at h2;have:=h2.app k3
     rwa [take_drop_step]at this
theorem O1(hT:M1 P Ts=true):∀(fuel:Nat)(t:TypeId)(cs:aiE aiI)(d:DataW H)(ps:aiE MemPlace),t∈Ts→(∀n∈d.weights P t,n≤reachBytes)→DataW.trod enc P W 0 (fun _=>true) true fuel t cs=some (d,ps)→∃xs,eB P t xs∧ji (rR W) W cs xs
 |0,t,cs,d,ps,_,_,h=>by simp [DataW.trod]at h
 |fuel+1,t,cs,d,ps,ht,uU,h=>by
  have IH:=O1 hT fuel;have lR:=aif.1 hT t ht;unfold DataW.trod at h;split at h
  ·next b e=>exact⟨_, .bool b e,ji.one (.v _) rfl⟩
  ·next k k' n e=>
   split at h
   ·next hk=>obtain⟨rfl,hw⟩:=hk;exact⟨_, .int n e hw,ji.one (.v _) rfl⟩
   ·cases h
  ·next e=>rw[e]at lR;cases lR
  ·next s e=>
   split at h
   ·next hw=>exact⟨_, .str s e hw,ji.one (.v _) rfl⟩
   ·cases h
  ·next e=>rw[e]at lR;cases lR
  ·next e=>rw[e]at lR;cases lR
  ·next e e1=>exact⟨_, .sl [] e1 (Nat.zero_le _) (fun x hx=>absurd hx aiw),ji.one Wx rfl⟩
  ·next e a len cap e1=>
   rw[e1]at lR;simp only[ahR,List.contains_iff_mem,decide_eq_true_eq]at lR;obtain⟨XD,JY,nM⟩:=lR;simp only at h;split at h
   ·next hb=>
    obtain⟨_,ki,qJ⟩:=hb;rw[Option.bind_eq_some_iff]at h;obtain⟨elems,Ec,kD⟩:=h;rw[Option.map_eq_some_iff]at kD;obtain⟨rest,_,kD⟩:=kD;cases kD
    simp only[DataW.weights,e1,aik,ais,ahU]at uU;have hlen:elems.length=len:=by simpa using mapM_some_length Ec
    have hQ:∀i,i<len→∃x:aiE D,eB P e x∧∃cB,W.cells? 0 (a.add (i*P.cellsOf e)) (P.cellsOf e)=some cB∧ji (rR W) W cB x:=fun i hi=>by
     have h1:=mapM_some_get Ec i i (by simp [hi]);rw[ahT (by omega)]at h1;rw[Option.bind_eq_some_iff]at h1;obtain⟨cB,h2,h3⟩:=h1;obtain⟨x,h4,h5⟩:=IH e cB elems[i].1 elems[i].2 XD (fun n hn=>uU n (.inr (.inl (OZ (List.mem_map.2 ⟨_,List.getElem_mem _,rfl⟩) n hn)))) h3;exact⟨x,h4,cB,h2,h5⟩
    obtain⟨xs,ue,Ug⟩:=To len hQ;have NH:xs≠ []→a.spot=none:=fun dj=>by
     have h0:0<len:=by cases xs with|nil=>exact(dj rfl).elim|cons x l=>simp at ue;omega
     obtain⟨x,_,cB,h2,_⟩:=hQ 0 h0;obtain⟨_,h3,h4⟩:=World.cells?_some h2;have h5:=h4 0 JY;rw[Nat.zero_mul]at h5;have e0:(a.add 0).add 0=a:=by simp [Addr.add]
     rw[e0,ahT (by omega)]at h5;unfold World.cell? at h5;split at h5
     ·split at h5
      ·cases h5
      ·next hn=>simpa using hn
     ·cases h5
    have gb:∀i x,xs[i]?=some x→x.length=P.cellsOf e∧∀j,j<P.cellsOf e→∃u,W.cell? ⟨a.block,a.off+i*P.cellsOf e+j,none⟩=some u∧u.oneCell'=true∧∀d,x[j]?=some d→dG (rR W) W u d:=fun i x hx=>by
     obtain⟨_,cB,h2,h3⟩:=Ug i x hx;obtain⟨_,h4,h5⟩:=World.cells?_some h2;have hs:=NH (fun e=>by rw[e]at hx;simp at hx);refine⟨h3.1.trans h4,fun j hj=> ?_⟩;have h6:=h5 j hj;rw[Wh hs,Wh rfl,ahT (by omega)]at h6;have hjx:j<x.length:=by rw[h3.1,h4];exact hj
     have hd:x[j]?=some x[j]:=ahT hjx;have h7:=h3.2 j _ _ (ahT (by omega)) hd;exact⟨_,h6,h7.2,fun d eQ=>by rw[hd]at eQ;cases eQ;exact h7.1⟩
    have Yl:xs.length≤140737488355328:=by
     have h1:=uU _ (.inl rfl);have h2:(elems.length+rest.length)*1≤(elems.length+rest.length)*P.bytesOf e:=Nat.mul_le_mul_left _ nM;have h3:reachBytes≤140737488355328:=by decide
     omega
    refine⟨[.sl xs], .sl xs e1 Yl (fun x hx=> ?_),ji.one ?_ rfl⟩
    ·obtain⟨i,hi,rfl⟩:=List.mem_iff_getElem.1 hx;exact(Ug i _ (ahT hi)).1
    ·rw[←ue];refine .sl (some a) a.block a.off cap (P.cellsOf e) xs (fun i j=>(W.cell? ⟨a.block,a.off+i*P.cellsOf e+j,none⟩).getD undef) (fun dj=> ?_) (by omega) qJ (fun x hx=> ?_) (fun i j hi hj=> ?_) fun i j x d hx hd=> ?_
     ·have:=NH dj;cases a;simp only at this;subst this;rfl
     ·obtain⟨i,hi,rfl⟩:=List.mem_iff_getElem.1 hx;exact(gb i _ (ahT hi)).1
     ·obtain⟨u,h1,h2,_⟩:=(gb i _ (ahT hi)).2 j hj;refine⟨World.block_lt_of_cell? W ⟨a.block,a.off+i*P.cellsOf e+j,none⟩ h1,?_,?_⟩
      ·rw[h1];rfl
      ·rw[h1];exact h2
     ·obtain⟨hl,hc⟩:=gb i x hx;obtain⟨u,h1,_,h3⟩:=hc j (by rw[←hl];exact(ahP.1 hd).1);simp only[h1,Option.getD_some];exact h3 d hd
   ·cases h
  ·next cB fs e1=>
   rw[e1]at lR;simp only[ahR,aif,List.contains_iff_mem]at lR;split at h
   ·next hl=>
    rw[Option.map_eq_some_iff]at h;obtain⟨ys,hm,kD⟩:=h;cases kD
    simp only[DataW.weights,e1]at uU;obtain⟨parts,k1,k2,k3⟩:=Q6 IH _ fs.toList 0 ys (by rw[hl];exact lR.1) lR.2 uU hm;exact⟨_, .struct parts e1 (by simpa using k1) (fun i f x hf=>k2 i f x (by simpa using hf)),by simpa using k3⟩
   ·cases h
  all_goals first|(cases h;done)|(exfalso;revert lR;(next e=>rw[e];intro h0;cases h0))
theorem afZ{t:TypeId}{v:aiI}{d:DataW H}{ps:aiE MemPlace}(hT:M1 P Ts=true)(hm:t∈Ts)(hw:∀n∈d.weights P t,n≤reachBytes)(h:DataW.Trod enc P W 0 (fun _=>true) true t v d ps):∃xs,eB P t xs∧ji (rR W) W v.cells.toList xs:=
 let ⟨fuel,h⟩:=h
 O1 hT fuel t _ d ps hm hw h
theorem ahy{t:TypeId}{fs:Array Field}{v:aiI}{r:Reach}{base:Nat}(ht:P.underlying t=some (.struct fs))(h:Value.okWide P W r base t v):∃cs,v= .agg cs:=by
 unfold Value.okWide at h;rw[ht]at h;obtain⟨cs,rfl,_⟩:=h;exact⟨cs,rfl⟩
theorem adE{G:Gh}(hS:G.S=rR W){cs:Array aiI}{xs:aiE D}(h:ji (rR W) W cs.toList xs):aL G W (.agg cs) (.agg (xs.map .d)):=by
 refine .agg cs _ (by rw[ahU,h.1,ain]) fun i u c hu hc=> ?_;rw[ahW]at hc;cases hx:xs[i]? with
 |none=>rw[hx]at hc;cases hc
 |some x=>
  rw[hx]at hc;cases hc
  exact .d (hS▸(h.2 i u x (by rw[aic];exact hu) hx).1)
end
end Go.Proofs.YtphmhnabilhbgaaGreatDoor
