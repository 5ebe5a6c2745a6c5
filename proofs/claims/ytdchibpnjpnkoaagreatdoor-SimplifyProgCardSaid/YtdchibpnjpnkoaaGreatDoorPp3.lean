/-
  Part 3 of the proof: AbsInst, AbsExec, AbsExecV, AbsRange, AbsAny, AbsExec2, AbsExec3, AbsYield, AbsTree, AbsVecX, MemK, AbsVecD, AbsWk, OpenD.
-/
import Derived.Test.YtdchibpnjpnkoaaGreatDoorPp2
import Derived.WalkKit
import Derived.Laws.CopyOwn
import Derived.Deep.AppendLies
import Derived.Lib.AppendZerosOnto
import Derived.Lib.Overlaps
import Derived.Lib.Hide
import Derived.ProofKit
import Derived.DataOpen
import Derived.SizedLaws
namespace Go.Proofs.YtdchibpnjpnkoaaGreatDoor
open Go.RowKit
def yS(P:asq)(rs:asn ResultVar)(m:Nat)(s:St):asp (AV×asn ao):=
 match sI P s rs with
 |some l=>bif cp m s.h.length&&((jK l).bG m).aQ m&&(((s.h.take m).map (ao.bG m)).all (ao.aQ m))then some (((jK l).bG m).nrm,((s.h.take m).map (ao.bG m)).map ao.po)else none
 |none=>none
def u6(P:asq)(fn:Func)(m:Nat)(R:AV)(H:asn ao):Exit->St->Prop
 | .normal,s=>yS P fn.results.toList m s=some (R,H)
 | .ret,s=>yS P fn.results.toList m s=some (R,H)
 |_,_=>False
theorem ZC{P:asq}{s:St}{fn:Func}{m:Nat}{R:AV}{H:asn ao}(h:yS P fn.results.toList m s=some (R,H)):rK P fn m (λr h'=>r.nrm=R/\h'.map ao.po=H) s:=by
 unfold yS at h;split at h
 ·next l e=>
  obtain⟨hb,he⟩:=dT h;cases he
  simp only[arA,dJ]at hb;exact DN _ _ _ e ⟨hb.1.1,hb.1.2,hb.2,rfl,rfl⟩
 ·cases h
theorem Ky{P:asq}{s:St}{fn:Func}{m:Nat}{R:AV}{H:asn ao}(h:yS P fn.results.toList m s=some (R,H)):u6 P fn m R H .ret s:=h
theorem Ki{P:asq}{f:FuncId}{fn:Func}{c:Code}{args:asn AV}{h H:asn ao}{R:AV}(m:Nat)(hf:P.funcs[f]?=some fn)(hb:fn.body=some c)(hn:(fn.name== "runtime.NumGoroutine")=false)(hm:h.length<=m)
 (hw:bJ P none h.length c (u6 P fn m R H) {n:=args.length+(fn.ntmps-args.length),t:=mg 0 args,h:=h}):cG P f args h λr1 h1=>r1=R/\h1=H:=by
 have h0:=zZ (P:=P) (f:=f) (args:=args) (h:=h) (K:=λr h'=>r.nrm=R/\h'.map ao.po=H) m hf hb hn hm (hw.mono λe s hq=>by
  cases e with
  |normal=>exact ZC hq
  |ret=>exact ZC hq
  |_=>exact hq.elim)
 refine⟨h0.1,λG w vs hi hl hr=>(h0.2 G w vs hi hl hr).mono λe w' hp=> ?_⟩;obtain⟨v,G',x,h',rfl,hE,hN,dN,hv,rfl,rfl⟩:=hp;exact⟨v,G',x.nrm,_,rfl,hE,hN,Ul dN,hv.nrm,rfl,rfl⟩
theorem zx{P:asq}{r:asp Nat}{N0:Nat}{c:Code}{s s':St}{Q:Exit->St->Prop}(e:s=s')(h:bJ P r N0 c Q s'):bJ P r N0 c Q s:=e▸h
def hJ{V:Type}:asn (aso×V)->aso->V->V
 |[],_,d=>d
 |(k,v)::l,s,d=>bif bL k==bL s then v else hJ l s d
def sS{V:Type}:asn (aso×V)->aso->Bool
 |[],_=>false
 |(k,_)::l,s=>bif bL k==bL s then true else sS l s
def eI(l:asn (aso×Int)):asn (aso×D):=l.map λp=>(p.1, .v (.int .i64 p.2))
def Bp(l:asn (aso×Bool)):asn (aso×D):=l.map λp=>(p.1, .v (.bool p.2))
theorem WG{V:Type}(f:V->D):∀(l:asn (aso×V))(s:aso)(d:V),mf (l.map λp=>(p.1,f p.2)) s=bif sS l s then some (f (hJ l s d))else none
 |[],s,d=>rfl
 |(k,v)::l,s,d=>by
  simp only[arX,mf,sS,hJ];cases bL k==bL s with
  |true=>rfl
  |false=>simp only[cond_false];exact WG f l s d
theorem Vj{V:Type}:∀(l:asn (aso×V))(s:aso)(d:V),sS l s=false->hJ l s d=d
 |[],s,d,_=>rfl
 |(k,v)::l,s,d,h=>by
  unfold sS at h;unfold hJ;cases e:bL k==bL s with
  |true=>rw[e]at h;cases h
  |false=>rw[e]at h;simp only[cond_false];exact Vj l s d h
theorem adG{V:Type}(f:V->D)(z:asr)(d0:V)(hz:f d0= .v z)(ok:Bool)(l:asn (aso×V))(s:aso):
 yb ok z (mf (l.map λp=>(p.1,f p.2)) s)=bif ok then .aX [.d (f (hJ l s d0)), .d (.v (.bool (sS l s)))]else .d (f (hJ l s d0)):=by
 rw[WG f l s d0];cases e:sS l s with
 |true=>cases ok<;>rfl
 |false=>rw[Vj l s d0 e,hz];cases ok<;>rfl
theorem FQ(ok:Bool)(l:asn (aso×Int))(s:aso):yb ok (.int .i64 0) (mf (eI l) s)=bif ok then .aX [.d (.v (.int .i64 (hJ l s 0))), .d (.v (.bool (sS l s)))]else .d (.v (.int .i64 (hJ l s 0))):=
 adG (λn=> .v (.int .i64 n)) _ 0 rfl ok l s
theorem afI(ok:Bool)(l:asn (aso×Bool))(s:aso):yb ok (.bool false) (mf (Bp l) s)=bif ok then .aX [.d (.v (.bool (hJ l s false))), .d (.v (.bool (sS l s)))]else .d (.v (.bool (hJ l s false))):=
 adG (λn=> .v (.bool n)) _ false rfl ok l s
theorem R4{l:asn (aso×Int)}(h:Nat.blt l.length 9223372036854775807=true):(Sd.lt (eI l).length).ok:=by
 unfold eI;rw[arD];exact arG h
theorem ao8{l:asn (aso×Bool)}(h:Nat.blt l.length 9223372036854775807=true):(Sd.lt (Bp l).length).ok:=by
 unfold Bp;rw[arD];exact arG h
def gI(g:Nat):asn Int:=((AF Bo g).getD []).map λv=>match v with| .int _ n=>n|_=>0
def aqT(l:asn Int):aso:=⟨(l.map λn=>UInt8.ofNat n.toNat).toArray⟩
theorem aeb{α:Type}{c:Bool}{x y z:α}(h:(bif c then x else y)=z):(c=true/\x=z)\/(c=false/\y=z):=by
 cases c with
 |true=>exact .inl ⟨rfl,h⟩
 |false=>exact .inr ⟨rfl,h⟩
inductive HD
 |same
 |push (B:ao)
 |set (n:Nat) (B:ao)
def HD.app:HD->asn ao->asn ao
 | .same,h=>h
 | .push B,h=>h++[B]
 | .set n B,h=>h.set n B
def zN:Int->asp Nat
 | .ofNat n=>some n
 | .negSucc _=>none
theorem DI{z:Int}{n:Nat}(h:zN z=some n):0<=z/\z.toNat=n:=by
 cases z with
 |ofNat m=>cases h;exact⟨Int.natCast_nonneg _,rfl⟩
 |negSucc m=>cases h
def wF(ρ:Operand->AV)(d:Nat):asp Operand->asp Nat
 |none=>some d
 |some y=>match (ρ y).int? with
  |some z=>zN z
  |none=>none
def Eo(k:Nat)(xs:asn (asn D)):Bool:=xs.all λc=>c.length==k
def H8(P:asq)(T:TypeId)(x i:AV):asp AV:=
 match et P T with
 |some (_,k)=>match x with
  | .row n off len _ k'=>match i.int? with
    |some z=>match zN z with
     |some q=>bif k'==k&&cp (q+1) len then some (.ptr n (off+q*k))else none
     |none=>none
    |none=>none
  |x=>match x.fe,i.int? with
   |some xs,some z=>match zN z with
    |some q=>match xs[q]? with
     |some c=>bif c.length==k then some (.bP [c] 0 0)else none
     |none=>none
    |none=>none
   |_,_=>none
 |none=>match uX P T,x,i.int? with
  |some (n,_,k), .ptr b off,some z=>match zN z with
   |some q=>bif cp (q+1) n then some (.ptr b (off+q*k))else none
   |none=>none
  |some (n,_,k), .bP xs e off,some z=>match zN z with
   |some q=>bif k==1&&cp (q+1) n then match xs[e]? with
    |some c=>match c[off+q]? with
     |some d=>some (.bP [[d]] 0 0)
     |none=>none
    |none=>none
    else none
   |none=>none
  |_,_,_=>none
theorem agW{P:asq}{T:TypeId}{x i y:AV}{K:AV->Prop}(h:H8 P T x i=some y)(hK:K y):sq P T x i K:=by
 unfold H8 at h;unfold sq;split at h
 ·next e k eT=>
  simp only[eT];split at h
  ·next n off len cap k'=>
   simp only;split at h
   ·next z ez=>
    simp only[ez];split at h
    ·next q eq=>
     obtain⟨h0,h1⟩:=DI eq;obtain⟨hb,he⟩:=dT h;rw[arA,dJ]at hb;refine b6.2 ⟨hb.1,h0,by omega,?_⟩;rw[h1,he];exact hK
    ·cases h
   ·cases h
  ·next x' ox=>
   split at h
   ·next xs z e1 e2=>
    split at h
    ·next q eq=>
     obtain⟨h0,h1⟩:=DI eq;split at h
     ·next c ec=>
      obtain⟨hb,he⟩:=dT h;simp only[e1,e2];refine⟨h0,?_⟩;rw[h1,ec];exact⟨by simpa using hb,by rw[he];exact hK⟩
     ·cases h
    ·cases h
   ·cases h
 ·next eT=>
  simp only[eT];split at h
  ·next n e k b off z e1 e2=>
   simp only[e1,e2];split at h
   ·next q eq=>
    obtain⟨h0,h1⟩:=DI eq;obtain⟨hb,he⟩:=dT h;rw[dJ]at hb;exact⟨h0,by omega,by rw[h1,he];exact hK⟩
   ·cases h
  ·next n e0 k xs e off z e1 e2=>
   simp only[e1,e2];split at h
   ·next q eq=>
    obtain⟨h0,h1⟩:=DI eq;obtain⟨hb,h⟩:=oT h;rw[arA,dJ]at hb;split at h
    ·next c ec=>
     split at h
     ·next d ed=>
      cases h
      refine b6.2 ⟨hb.1,h0,by omega,?_⟩;rw[ec];simp only;rw[h1,ed];exact hK
     ·cases h
    ·cases h
   ·cases h
  ·cases h
def arq(P:asq)(T:TypeId)(ρ:Operand->AV)(x:AV)(lo hi mx:asp Operand):asp AV:=
 match mx with
 |none=>
  match x with
  | .d (.v (.string b))=>match wF ρ b.size hi,wF ρ 0 lo with
    |some h,some l=>bif hY P T&&cp h b.size&&cp l h then some (.d (.v (.string (b.extract l h))))else none
    |_,_=>none
  | .ptr n off=>match uX P T with
    |some (m,_,k)=>match wF ρ m hi,wF ρ 0 lo with
     |some h,some l=>bif cp m 4096&&cp h m&&(cp l h&& !cp m l)then some (.row n (off+l*k) (h-l) (m-l) k)else none
     |_,_=>none
    |none=>none
  |x=>match x.fe,et P T with
   |some xs,some (_,k)=>match wF ρ xs.length hi,wF ρ 0 lo with
    |some h,some l=>bif Eo k xs&&cp h xs.length&&cp l h then some (.d (.sl ((xs.take h).drop l)))else none
    |_,_=>none
   |_,_=>none
 |some m=>match lo,hi with
  |none,some y=>match x.fe,et P T with
   |some xs,some (_,k)=>match wF ρ 0 (some m),wF ρ 0 (some y)with
    |some c,some h=>bif Eo k xs&&cp c xs.length&&h==c then some (.full (xs.take h))else none
    |_,_=>none
   |_,_=>none
  |_,_=>none
def aru(P:asq)(T:TypeId)(h:asn ao)(x y:AV):asp (AV×HD):=
 match et P T with
 |some (e,k)=>match iR P e,qX P e with
  |some z,some cE=>match HJ h k y with
   |some ys=>bif cp 1 k&&z.cells.toList.length==k&&Eo k ys then
    match x with
    | .own n xs=>match h[n]? with
      |some (.front e' k' len)=>bif e'==e&&k'==k&&len==xs.length&&Eo k xs&&cp (xs.length+ys.length) maxLen&&cp ((xs.length+ys.length)*cE) 140737488355328 then some (.own n (xs++ys), .set n (.front e k (xs.length+ys.length)))else none
      |_=>none
    | .d (.v (.slice none 0 0))=>bif cp ys.length maxLen&&cp (ys.length*cE) 140737488355328 then some (.own h.length ys, .push (.front e k ys.length))else none
    | .full xs=>bif Eo k xs&&cp (xs.length+ys.length) maxLen&&cp ((xs.length+ys.length)*cE) 140737488355328 then some (.own h.length (xs++ys), .push (.front e k (xs.length+ys.length)))else none
    |_=>none
    else none
   |none=>none
  |_,_=>none
 |none=>none
def Y6:asn (asn D)->asp (asn Int)
 |[]=>some []
 |[.v (.int .u8 n)]::l=>match Y6 l with
  |some ns=>some (n::ns)
  |none=>none
 |_=>none
def S6:asp (AV×In)->asp AV
 |some (x, .none)=>some x
 |some (x, .nz b)=>bif b==0 then none else some x
 |some (x, .nn b)=>match zN b with
  |some _=>some x
  |none=>none
 |some (x, .cat n)=>bif cp n maxLen then some x else none
 |_=>none
theorem anZ{r:asp (AV×In)}{x:AV}(P:asq)(h:S6 r=some x):∃i,r=some (x,i)/\OK P i .ok:=by
 unfold S6 at h;split at h
 ·cases h;exact⟨_,rfl, .none⟩
 ·next b=>
  cases hb:b==0 with
  |true=>rw[hb]at h;cases h
  |false=>rw[hb]at h;cases h;exact⟨_,rfl, .nz (by simpa using hb)⟩
 ·next b=>
  split at h
  ·next e=>cases h;exact⟨_,rfl, .nn (DI e).1⟩
  ·cases h
 ·obtain⟨hb,he⟩:=dT h;cases he
  exact⟨_,rfl, .cat (dJ.1 hb)⟩
 ·cases h
def pX(r:asp AV):asp (AV×HD):=
 match r with
 |some x=>some (x, .same)
 |none=>none
def arn(P:asq)(src dst:TypeId)(x:AV):asp AV:=
 match Nb P src dst x .none with
 |some (y, .none)=>some y
 |_=>match x.fe,et P src with
  |some xs,some (e,_)=>match Y6 xs with
   |some ns=>match x with
    | .d (.v _)=>none
    |_=>bif Ek P e&&hY P dst then some (.d (.v (.string (aqT ns))))else none
   |none=>none
  |_,_=>none
def mo(P:asq)(op:Op)(ρ:Operand->AV)(h:asn ao):asp (AV×HD):=
 match op with
 | .move x| .assign x=>some (ρ x, .same)
 | .pick c x y=>match ρ c with
   | .d (.v (.bool b))=>some (bif b then ρ x else ρ y, .same)
   |_=>none
 | .alloc e=>match iR P e with
   |some z=>some (.ptr h.length 0, .push (.cells (z.cells.toList.map λu=> .d (.v u))))
   |none=>none
 | .box _ x=>bif (ρ x).jt then some (.ptr h.length 0, .push (.cells (ρ x).cells))else none
 | .load t p=>match yd h (ρ p)with
   |some (cs,off)=>pX (AH P t cs off)
   |none=>none
 | .store t p x=>match ρ p with
   | .ptr n off=>match h[n]? with
     |some (.cells cs)=>match fQ P t with
      |some k=>bif k==(ρ x).cells.length&&(ρ x).jt&&cp (off+(ρ x).cells.length) cs.length then some (.d (.v undef), .set n (.cells (ib cs off (ρ x).cells)))else none
      |none=>none
     |_=>none
   |_=>none
 | .nilCheck x=>match ρ x with
   | .ptr n off=>some (.ptr n off, .same)
   | .bP xs i off=>some (.bP xs i off, .same)
   | .fn f cs=>some (.fn f cs, .same)
   |_=>none
 | .fieldAddr S x f=>match tv P S f with
   |some (fo,_,_)=>match ρ x with
    | .ptr n off=>some (.ptr n (off+fo), .same)
    | .bP xs i off=>some (.bP xs i (off+fo), .same)
    |_=>none
   |none=>none
 | .field T x f=>pX (Ke P T (ρ x) f)
 | .indexAddr T x i=>pX (H8 P T (ρ x) (ρ i))
 | .extract x i=>match ρ x with
   | .aX cs=>match cs[i]? with
     |some c=>some (c, .same)
     |none=>none
   |_=>none
 | .makeFunc (.func f) first dF=>match first.toList with
   |[]=>some (.fn f (dF.toList.map ρ), .same)
   |_=>none
 | .binOp op T x y _=>pX (S6 (NL P T op (ρ x) (ρ y)))
 | .unOp op _ x=>match ρ x with
   | .d (.v u)=>match Ii op u with
     |some v=>some (.d (.v v), .same)
     |none=>none
   |_=>none
 | .call c=>match c.callee with
   | .builtin .len=>match c.args.toList,c.argTypes.toList with
     |[x],[T]=>match ρ x with
      | .d (.v (.string s))=>bif hY P T then some (.d (.v (.int .i64 s.size)), .same)else none
      | .row _ _ len _ _=>bif (et P T).isSome then some (.d (.v (.int .i64 len)), .same)else none
      |x=>match x.fe with
       |some xs=>bif (et P T).isSome then some (.d (.v (.int .i64 xs.length)), .same)else none
       |none=>none
     |_,_=>none
   |_=>none
 |_=>none
theorem HL{r:asp AV}{x:AV}{d:HD}(h:pX r=some (x,d)):r=some x/\d= .same:=by
 unfold pX at h;split at h
 ·cases h;exact⟨rfl,rfl⟩
 ·cases h
theorem aaD{P:asq}{o:Oper}{ρ:Operand->AV}{h:asn ao}{x:AV}{d:HD}{C:AV->asn ao->Prop}(h1:mo P o.op ρ h=some (x,d))(hC:C x (d.app h)):cC P o ρ h C:=by
 obtain⟨dst,op,type,pos,after,guard⟩:=o;simp only at h1;unfold mo at h1;unfold cC;split at h1
 ·cases h1;exact hC
 ·cases h1;exact hC
 ·next c y z=>
  split at h1
  ·next b e=>
   cases h1
   simp only[e];cases b with
   |true=>exact⟨λ_=>hC,λh=>Bool.noConfusion h⟩
   |false=>exact⟨λh=>Bool.noConfusion h,λ_=>hC⟩
  ·cases h1
 ·split at h1
  ·next z e=>cases h1;simp only[e];exact hC
  ·cases h1
 ·obtain⟨hb,he⟩:=dT h1;cases he;exact b6.2 ⟨hb,hC⟩
 ·split at h1
  ·next cs off e=>
   obtain⟨e2,rfl⟩:=HL h1;exact R7 e e2 hC
  ·cases h1
 ·split at h1
  ·next n off e=>
   split at h1
   ·next cs e2=>
    split at h1
    ·next k e3=>obtain⟨hb,he⟩:=dT h1;cases he;simp only[e,zR,e2,e3];exact b6.2 ⟨hb,hC⟩
    ·cases h1
   ·cases h1
  ·cases h1
 ·split at h1
  ·next e=>cases h1;simp only[e];exact hC
  ·next e=>cases h1;simp only[e];exact hC
  ·next e=>cases h1;simp only[e];exact hC
  ·cases h1
 ·split at h1
  ·next e=>
   simp only[e];split at h1
   ·next e2=>cases h1;simp only[e2];exact hC
   ·next e2=>cases h1;simp only[e2];exact hC
   ·cases h1
  ·cases h1
 ·obtain⟨e,rfl⟩:=HL h1;exact YF e hC
 ·obtain⟨e,rfl⟩:=HL h1;exact agW e hC
 ·split at h1
  ·next e=>
   split at h1
   ·next e2=>cases h1;simp only[e,e2];exact hC
   ·cases h1
  ·cases h1
 ·split at h1
  ·next e=>cases h1;simp only[e];exact hC
  ·cases h1
 ·obtain⟨e,rfl⟩:=HL h1;obtain⟨i,e2,cf⟩:=anZ P e;exact acg e2 cf hC
 ·unfold yM;split at h1
  ·next e=>
   split at h1
   ·next e2=>cases h1;simp only[e,e2];exact hC
   ·cases h1
  ·cases h1
 ·next c=>
  split at h1
  ·next hc=>
   simp only[hc];split at h1
   ·next y T e1 e2=>
    simp only[e1,e2];unfold tk;split at h1
    ·next s e=>obtain⟨hb,he⟩:=dT h1;cases he;simp only[e];exact b6.2 ⟨hb,hC⟩
    ·next e=>obtain⟨hb,he⟩:=dT h1;cases he;simp only[e];exact b6.2 ⟨hb,hC⟩
    ·next n1 n2=>
     split at h1
     ·next xs e=>
      obtain⟨hb,he⟩:=dT h1;cases he;split
      ·next s e'=>exact absurd e' (n1 s)
      ·next e'=>exact absurd e' (n2 _ _ _ _ _)
      ·simp only[e];exact b6.2 ⟨hb,hC⟩
     ·cases h1
   ·cases h1
  ·cases h1
 ·cases h1
def ee(n:Nat)(t:asn (Nat×AV)):asn AV:=(List.range n).map (bw t)
theorem aho{n:Nat}{t:asn (Nat×AV)}{i:Nat}{c:AV}(h:(ee n t)[i]?=some c):bw t i=c:=by
 unfold ee at h;rw[arF]at h;by_cases hi:i<n
 ·rw[List.getElem?_range hi]at h;exact arR h
 ·rw[ar4 (by simpa using hi)]at h;cases h
def Sn(P:asq)(N0:Nat)(Q:Exit->St->Prop)(s:St):LS->Prop
 | .ready=>Q .normal s
 | .done c=>bJ P none N0 c Q s
 | .busy=>False
theorem aoV{P:asq}{N0:Nat}{s:St}{Q:Exit->St->Prop}{g:Operand}{p:Nat}{assign body:Code}{gf:FuncId}{dF:asn AV}(hg:ev s g= .fn gf dF)
 (hc:cG P gf (.dc s.h.length::dF) (s.h++[.lp .ready p assign body (ee s.n s.t)]) λ_ h'=>∃(ls:LS)(p1:Nat)(tt sB:Code)(xr:asn AV),h'[s.h.length]?=some (.lp ls p1 tt sB xr)/\Sn P N0 Q ⟨s.n,s.t,h'.set s.h.length .gone⟩ ls):
 bJ P none N0 (.rangeFunc g #[p] assign body) Q s:=by
 constructor
 intro G w a n hs hN;have hv:=hs.ev g;rw[hg]at hv;obtain⟨lb,ea,hl,hr⟩:∃lb:Array asr,a.eval g= .func (.func gf) #[] lb/\lb.size=dF.length/\∀(i:Nat)(u:asr)(c:AV),lb[i]?=some u->dF[i]?=some c->aJ G w u c:=by
  generalize a.eval g=u at hv;cases hv with|fn _ vs _ hl hr=>exact⟨vs,rfl,hl,hr⟩
 obtain⟨S3,ku⟩:=hc;refine wpIn_rangeFunc (F:=WF none) ?_;intro fn _;obtain⟨Df,hI0⟩:=aqk hs.inv;obtain⟨G0,kV⟩:∃G0:Gh,G0={G with Z:=λb=>G.Z b\/b=w.heap.size}:=⟨_,rfl⟩;obtain⟨w0,qM⟩:∃w0,w0=w.alloc (.deferred (some [])):=⟨_,rfl⟩;rw[<-kV,<-qM]at Df hI0;have cB:G0.N=G.N:=by rw[kV]
 have iw:w0.heap.size=w.heap.size+1:=by rw[qM];simp
 obtain⟨j9,hI1,Se⟩:=ak5 hI0 fn a.tmps w.heap.size p assign body (ee s.n s.t) (by simp [ee,hs.size]) λi u c hu hc=>by
  have h9:=hs.tmp i;rw[aho hc]at h9;have e:a.tmps.getD i undef=u:=by
   have aS:=(arN.1 hu).1;rw[arU aS]at hu;simp [Array.getD,aS];exact arR hu
  rw[e]at h9;exact h9.bj Df (Nat.le_of_eq cB.symm)
 obtain⟨w1,Xq⟩:∃w1,w1=w0.alloc (.loop {state:= .ready,pending:=none,fn:=fn,tmps:=a.tmps,params:= #[p],assign:=assign,body:=body,defers:=w.heap.size}):=⟨_,rfl⟩;obtain⟨G1,S9⟩:∃G1:Gh,G1=G0.dY w0.heap.size:=⟨_,rfl⟩;rw[<-Xq,<-S9]at j9 hI1 Se;have gd:G1.N=G.N+1:=by rw[S9,<-cB];rfl
 have aks:G1.bg s.h.length=w.heap.size+1:=by rw[S9,hs.inv.len,<-cB];simp [Gh.dY,iw]
 rw[iw]at Se;have aaW:b7 G.N G w G1 w1:=Df.trans (j9.less (Nat.le_of_eq cB.symm));refine⟨w.heap.size+1,[{target:= .collected w.heap.size,args:= #[]}],w1,{target:= .fn (.func gf) lb,args:= #[.func (.yield (w.heap.size+1)) #[] #[]]},w1,gf, #[.func (.yield (w.heap.size+1)) #[] #[]]++lb,w1,?_,?_,λ_ _=>trivial,?_,λh=>(by simp [WF,Fence.wide]at h),?_⟩
 ·rw[Xq,qM];exact run_enterLoop_outer _ _ _ _ _
 ·simp only[resolve,ea];simp [Deferred.ofValue,go_sem]
 ·simp [invoke,acG S3]
 have hK:=ku G1 w1 (#[.func (.yield (w.heap.size+1)) #[] #[]]++lb) hI1 (by simp [hl];omega) (λi u c hu hc=>by
  match i with
  |0=>
   rw[Array.getElem?_append_left (by simp)]at hu;simp at hu hc;subst hu;subst hc;exact Se
  |i+1=>
   rw[Array.getElem?_append_right (by simp)]at hu;simp at hu hc;exact(hr i u c hu hc).bj aaW (by rw[gd];exact Nat.le_succ _))
 refine CallsIn.mono (F:=WF none) (callsIn_wide (n:=n-1).2 hK) ?_;rintro e w2 ⟨v,G2,r,h',rfl,kA,hN2,Vb,_,ls,p1,tt,sB,xr,hk,SY⟩;have As:s.h.length<G1.N:=by rw[hs.inv.len,gd];exact asl _
 have Nk:G2.bg s.h.length=w.heap.size+1:=(kA.bg _ As).trans aks;obtain⟨_,fn2,tm2,D2,g3,g4,g5,aa2⟩:=H3 Vb hk;rw[Nk]at g3;have hEa:b7 G.N G w G2 w2:=aaW.trans (kA.less (by rw[gd];exact Nat.le_succ _));have Mr:G.N<=G2.N:=by rw[gd]at hN2;omega
 obtain⟨ob,oC⟩:∃ob:Obj,ob= .loop {state:= .exhausted,pending:=ls.pd,fn:=fn2,tmps:=tm2,params:= #[p1],assign:=tt,body:=sB,defers:=D2}:=⟨_,rfl⟩;obtain⟨zE,zI⟩:=aiN Vb hk ob;rw[Nk]at zE zI;have HB:b7 G.N G w G2 (w2.putObj (w.heap.size+1) ob):=hEa.trans (zE.less Mr);have hM:=hs.inv.gl.2;have QO:G0.Z w.heap.size:=by rw[kV];exact .inr rfl
 have V3:G2.Z w.heap.size:=kA.Z.1.1 _ (j9.Z.1.1 _ QO);have hDh:(w2.putObj (w.heap.size+1) ob).heap[w.heap.size]?=some (.deferred (some [])):=by
  rw[zE.old _ V3,kA.old _ (j9.Z.1.1 _ QO),j9.old _ QO,qM];exact World.alloc_heap_new w _
 have ct:cN G2 (w2.putObj (w.heap.size+1) ob) {a with defers:=[{target:= .collected w.heap.size,args:= #[]}]++a.defers} ⟨s.n,s.t,h'.set s.h.length .gone⟩:=by
  refine⟨hs.size,λi=>(hs.tmp i).bj HB Mr,zI,?_⟩;obtain⟨l,l1,l2,l3⟩:=hs.df.bj HB;obtain⟨l',l1',Yv,l3'⟩:=hs.df;have DD:l=l':=by
   rw[l2]at Yv;have ahJ:∀(x y:asn Nat),x.map (λD=>({target:= .collected D,args:= #[]}:Deferred))=y.map (λD=>{target:= .collected D,args:= #[]})->x=y:=by
     intro x
     induction x with
     |nil=>intro y h;cases y with
      |nil=>rfl
      |cons b y=>simp at h
     |cons a x ih=>intro y h;cases y with
      |nil=>simp at h
      |cons b y=>simp at h;rw[h.1,ih y (by simpa using h.2)]
   exact ahJ _ _ Yv
  refine⟨w.heap.size::l,?_,by rw[arX,<-l2];rfl,λD hD=> ?_⟩
  ·rw[List.nodup_cons];exact⟨λh=>asc _ (hs.inv.z _ (l3' _ (DD▸h)).2.1),l1⟩
  ·rcases ar2.1 hD with rfl|hD
   ·exact⟨by rw[HB.Z.2];exact hM,V3,hDh⟩
   ·exact l3 D hD
 subst oC;have G5:=λhb=>run_endLoop (P:=P) g3 hb;cases ls with
 |busy=>exact SY.elim
 |ready=>
  refine⟨_,_,G5 (by simp [LS.st]),?_⟩;exact⟨G2,_,HB.less hN,arQ hN Mr,ct,SY⟩
 |done c=>
  refine⟨_,_,G5 (by simp [LS.st]),?_⟩;refine wpIn_mono (SY.run G2 _ _ n (ct) (arQ hN Mr)) λ_ _ _ hn=> ?_;exact hn.trans (HB.less hN)
set_option linter.unusedSimpArgs false
set_option linter.unusedVariables false
mutual
theorem Gz:∀x:AV,x.aN id=x
 | .agg cs=>by rw[AV.aN,wz cs]
 | .aX cs=>by rw[AV.aN,wz cs]
 | .fn f cs=>by rw[AV.aN,wz cs]
 | .own .. =>by simp [AV.aN]
 | .d _=>by simp [AV.aN]
 | .ptr .. =>by simp [AV.aN]
 | .bP .. =>by simp [AV.aN]
 | .full _=>by simp [AV.aN]
 | .row .. =>by simp [AV.aN]
 | .mp _=>by simp [AV.aN]
 | .dc _=>by simp [AV.aN]
 | .vec .. =>by simp [AV.aN]
 | .dx .. =>by simp [AV.aN]
 | .hid _=>by simp [AV.aN]
 | .dead=>by simp [AV.aN]
theorem wz:∀l:asn AV,AV.fP id l=l
 |[]=>by simp [AV.fP]
 |x::l=>by rw[AV.fP,Gz x,wz l]
end
theorem QJ(B:ao):B.aN id=B:=by
 cases B with
 |cells cs=>simp only[ao.aN,wz]
 |lp ls p as bd cs=>simp only[ao.aN,wz]
 |it sn cs=>simp only[ao.aN,wz]
 |vec e k cs=>simp only[ao.aN];congr 1;exact(ar3 λx _=>wz x).trans (List.map_id _)
 |_=>rfl
theorem aJ.low{G:Gh}{w:ass}{u:asr}{x:AV}(h:aJ G w u x):x.aQ G.N=true:=by
 have lt:∀{n:Nat},n<G.N->(!cp G.N n)=true:=fun{n} hn=>by
  rw[Bool.not_eq_true',<-Bool.not_eq_true,dJ];omega
 have gz:∀(vs:Array asr)(cs:asn AV),vs.size=cs.length->(∀(i:Nat)(u:asr)(c:AV),vs[i]?=some u->cs[i]?=some c->c.aQ G.N=true)->AV.nH G.N cs=true:=λvs cs hl h=>by
  rw[nR,arY];intro c hc;obtain⟨i,hi,rfl⟩:=List.mem_iff_getElem.1 hc;exact h i vs[i] _ (arU (by omega)) (arC hi)
 induction h with
 |agg vs cs hl _ ih=>rw[AV.aQ];exact gz vs cs hl ih
 |aX vs cs hl _ ih=>rw[AV.aQ];exact gz vs cs hl ih
 |fn f vs cs hl _ ih=>rw[AV.aQ];exact gz vs cs hl ih
 |ptr n off h=>rw[AV.aQ];exact lt h
 |own n xs h=>rw[AV.aQ];exact lt h
 |row n off len cap k h=>rw[AV.aQ];exact lt h
 |mp n h=>rw[AV.aQ];exact lt h
 |dc n h=>rw[AV.aQ];exact lt h
 |vec n o len L k h=>rw[AV.aQ];exact lt h
 |dx n i j L k h=>rw[AV.aQ];exact lt h
 |_=>simp [AV.aQ]
def iA(N0:Nat)(s s':St):Prop:=∀(G:Gh)(w:ass)(a:Act),N0<=G.N->cN G w a s->∃G',b7 N0 G w G' w/\N0<=G'.N/\cN G' w a s'
theorem iA.refl(N0:Nat)(s:St):iA N0 s s:=λG _ _ hN hs=>⟨G,b7.refl _ _ _,hN,hs⟩
theorem iA.trans{N0:Nat}{s1 s2 s3:St}(h:iA N0 s1 s2)(k:iA N0 s2 s3):iA N0 s1 s3:=λG w a hN hs=>by
 obtain⟨G1,e1,n1,h1⟩:=h G w a hN hs;obtain⟨G2,e2,n2,h2⟩:=k G1 w a n1 h1;exact⟨G2,e1.trans e2,n2,h2⟩
theorem iA.of_eq{N0:Nat}{s s':St}(h:jc s s'):iA N0 s s':=λG _ _ hN hs=>
 ⟨G,b7.refl _ _ _,hN,hs.size.trans h.n,λi=>by rw[<-h.t i];exact hs.tmp i,by rw[<-h.h];exact hs.inv,hs.df⟩
theorem iA.aN{N0:Nat}{s s':St}(σ τ:Nat->Nat)(hn:s.n=s'.n)(hlen:s'.h.length=s.h.length)(aS:∀i,i<s.h.length->σ i<s.h.length)(hτ:∀i,i<s.h.length->τ i<s.h.length)
 (vL:∀i,i<s.h.length->τ (σ i)=i) (iB:∀i,i<s.h.length->σ (τ i)=i) (zP:∀i,i<N0->σ i=i)
 (ht:∀i,(bw s.t i).aQ s.h.length=true->bw s'.t i=(bw s.t i).aN σ\/bw s'.t i= .dead) (hh:∀i,i<s.h.length->s'.h[σ i]?=(s.h[i]?).map (ao.aN σ)):iA N0 s s':=λG w a hN hs=>by
 have hl:s.h.length=G.N:=hs.inv.len;rw[hl]at aS hτ vL iB hh hlen ht;have P0:∀i,i<N0->τ i=i:=λi hi=>by
  have h1:=vL i (by omega);rw[zP i hi]at h1;exact h1
 let G':Gh:={G with bg:=λn=>G.bg (τ n),sg:=λn=>G.sg (τ n),ow:=λn=>G.ow (τ n),fl:=λn=>G.fl (τ n)}
 have hR:qT σ G G':=⟨aS,λn h=>by show G.bg (τ (σ n))=_;rw[vL n h],λn h=>by show G.sg (τ (σ n))=_;rw[vL n h],λn h=>by show G.fl (τ (σ n))=_;rw[vL n h],λn h=>by show G.ow (τ (σ n))=_;rw[vL n h],λ_ _=>Iff.rfl⟩;have hE:b7 N0 G w G' w:=⟨arJ _,λ_ _ h=>h,λ_ _ _=>rfl,λn h=>by show G.bg (τ n)=_;rw[P0 n h],λn h=> .inl ⟨by show G.fl (τ n)=_;rw[P0 n h],by show G.sg (τ n)=_;rw[P0 n h]⟩,zsame rfl,λ_ _=>rfl,rfl,rfl,rfl,λ_ _ h=> .inl h⟩;have eN:∀(n:Nat)(B:ao),s'.h[n]?=some B->∃m B0,m<G.N/\σ m=n/\s.h[m]?=some B0/\B=B0.aN σ:=λn B hB=>by
  have fB:n<G.N:=by have:=(ary.1 hB).1;omega
  have h1:=hh (τ n) (hτ n fB);rw[iB n fB,hB]at h1;cases h2:s.h[τ n]? with
  |none=>rw[h2]at h1;cases h1
  |some B0=>rw[h2]at h1;cases h1;exact⟨τ n,B0,hτ n fB,iB n fB,h2,rfl⟩
 have dV:∀(n b:Nat),cg s'.h G' n=some b->∃m,m<G.N/\σ m=n/\cg s.h G m=some b:=λn b hb=>by
  obtain⟨B,hB,hb⟩:=m7 hb;obtain⟨m,B0,k1,k2,k3,rfl⟩:=eN n B hB;subst k2;rw[OL hR k1]at hb;exact⟨m,k1,rfl,by rw[dP k3];exact hb⟩
 refine⟨G',hE,hN,hs.size.trans hn,λi=> ?_,⟨hlen,hs.inv.z,hs.inv.S,λn B hB=> ?_,λm n b hm fB=> ?_,hs.inv.gl.bj hE⟩,hs.df.bj hE⟩
 ·have hv:=hs.tmp i;rcases ht i hv.low with e|e
  ·rw[e];exact hv.aN hR
  ·rw[e];exact .dead _
 ·obtain⟨m,B0,k1,k2,k3,rfl⟩:=eN n B hB;subst k2;have hb:=hs.inv.dv m B0 k3;exact eu.aN hR k1 (λb h1=>hb.mO h1) hb
 ·obtain⟨m',k1,k2,k3⟩:=dV m b hm;obtain⟨n',j1,j2,j3⟩:=dV n b fB;have:=hs.inv.inj m' n' b k3 j3;rw[<-k2,<-j2,this]
def O6:asr->asr->Bool
 | .bool a, .bool b=>a==b
 | .int k a, .int l b=>decide (k=l)&&decide (a=b)
 | .string a, .string b=>bL a==bL b
 | .pointer none, .pointer none=>true
 | .slice none a b, .slice none c d=>a==c&&b==d
 | .map none, .map none=>true
 | .nilFunc, .nilFunc=>true
 | .nilIface, .nilIface=>true
 | .tuple a, .tuple b=>a.size==0&&b.size==0
 |_,_=>false
theorem akY{u v:asr}(h:O6 u v=true):u=v:=by
 unfold O6 at h;split at h
 ·rw[beq_iff_eq]at h;subst h;rfl
 ·rw[arA,decide_eq_true_eq,decide_eq_true_eq]at h;obtain⟨h1,h2⟩:=h;subst h1;subst h2;rfl
 ·rw[beq_iff_eq]at h;rw[Pw h]
 ·rfl
 ·rw[arA,beq_iff_eq,beq_iff_eq]at h;obtain⟨h1,h2⟩:=h;subst h1;subst h2;rfl
 ·rfl
 ·rfl
 ·rfl
 ·rw[arA,beq_iff_eq,beq_iff_eq]at h;rw[Array.eq_empty_of_size_eq_zero h.1,Array.eq_empty_of_size_eq_zero h.2]
 ·cases h
mutual
def D.vj:D->D->Bool
 | .v a, .v b=>O6 a b
 | .sl xs, .sl ys=>D.tR xs ys
 |_,_=>false
def D.tR:asn (asn D)->asn (asn D)->Bool
 |[],[]=>true
 |x::xs,y::ys=>D.eP x y&&D.tR xs ys
 |_,_=>false
def D.eP:asn D->asn D->Bool
 |[],[]=>true
 |x::xs,y::ys=>D.vj x y&&D.eP xs ys
 |_,_=>false
end
mutual
theorem D.RO:∀x y:D,D.vj x y=true->x=y
 | .v a, .v b,h=>by rw[D.vj]at h;rw[akY h]
 | .sl xs, .sl ys,h=>by rw[D.vj]at h;rw[D.Gy xs ys h]
 | .v _, .sl _,h=>by simp [D.vj]at h
 | .sl _, .v _,h=>by simp [D.vj]at h
theorem D.Gy:∀x y:asn (asn D),D.tR x y=true->x=y
 |[],[],_=>rfl
 |x::xs,y::ys,h=>by rw[D.tR,arA]at h;rw[D.acB x y h.1,D.Gy xs ys h.2]
 |[],_::_,h=>by simp [D.tR]at h
 |_::_,[],h=>by simp [D.tR]at h
theorem D.acB:∀x y:asn D,D.eP x y=true->x=y
 |[],[],_=>rfl
 |x::xs,y::ys,h=>by rw[D.eP,arA]at h;rw[D.RO x y h.1,D.acB xs ys h.2]
 |[],_::_,h=>by simp [D.eP]at h
 |_::_,[],h=>by simp [D.eP]at h
end
mutual
def AV.fi(σ:Nat->Nat):AV->AV->Bool
 | .d x,y=>(match y with| .d y=>D.vj x y|_=>false)
 | .agg a,y=>(match y with| .agg b=>AV.p7 σ a b|_=>false)
 | .aX a,y=>(match y with| .aX b=>AV.p7 σ a b|_=>false)
 | .fn f a,y=>(match y with| .fn g b=>f==g&&AV.p7 σ a b|_=>false)
 | .ptr n o,y=>(match y with| .ptr m p=>σ n==m&&o==p|_=>false)
 | .bP xs i o,y=>(match y with| .bP ys j p=>D.tR xs ys&&(i==j&&o==p)|_=>false)
 | .own n xs,y=>(match y with| .own m ys=>σ n==m&&D.tR xs ys|_=>false)
 | .full xs,y=>(match y with| .full ys=>D.tR xs ys|_=>false)
 | .row n i1 i2 i3 i4,y=>(match y with| .row m j1 j2 j3 j4=>σ n==m&&(i1==j1&&(i2==j2&&(i3==j3&&i4==j4)))|_=>false)
 | .mp n,y=>(match y with| .mp m=>σ n==m|_=>false)
 | .dc n,y=>(match y with| .dc m=>σ n==m|_=>false)
 | .vec n i1 i2 i3 i4,y=>(match y with| .vec m j1 j2 j3 j4=>σ n==m&&(i1==j1&&(i2==j2&&(i3==j3&&i4==j4)))|_=>false)
 | .dx n i1 i2 i3 i4,y=>(match y with| .dx m j1 j2 j3 j4=>σ n==m&&(i1==j1&&(i2==j2&&(i3==j3&&i4==j4)))|_=>false)
 | .dead,y=>(match y with| .dead=>true|_=>false)
 | .hid _,_=>false
def AV.p7(σ:Nat->Nat):asn AV->asn AV->Bool
 |[],y=>(match y with|[]=>true|_=>false)
 |x::xs,l=>(match l with|y::ys=>AV.fi σ x y&&AV.p7 σ xs ys|_=>false)
end
mutual
theorem AV.It(σ:Nat->Nat):∀x y:AV,AV.fi σ x y=true->y=x.aN σ
 | .d x,y,h=>by
   cases y with
   |d y=>simp only[AV.fi,arA,beq_iff_eq]at h;rw[AV.aN,D.RO _ _ h]
   |_=>simp [AV.fi]at h
 | .agg a,y,h=>by
   cases y with
   |agg b=>simp only[AV.fi,arA,beq_iff_eq]at h;rw[AV.aN,AV.yI σ _ _ h]
   |_=>simp [AV.fi]at h
 | .aX a,y,h=>by
   cases y with
   |aX b=>simp only[AV.fi,arA,beq_iff_eq]at h;rw[AV.aN,AV.yI σ _ _ h]
   |_=>simp [AV.fi]at h
 | .fn f a,y,h=>by
   cases y with
   |fn g b=>simp only[AV.fi,arA,beq_iff_eq]at h;rw[AV.aN,AV.yI σ _ _ h.2,h.1]
   |_=>simp [AV.fi]at h
 | .ptr n o,y,h=>by
   cases y with
   |ptr m p=>simp only[AV.fi,arA,beq_iff_eq]at h;rw[AV.aN,h.1,h.2]
   |_=>simp [AV.fi]at h
 | .bP xs i o,y,h=>by
   cases y with
   |bP ys j p=>simp only[AV.fi,arA,beq_iff_eq]at h;rw[AV.aN,D.Gy _ _ h.1,h.2.1,h.2.2]
   |_=>simp [AV.fi]at h
 | .own n xs,y,h=>by
   cases y with
   |own m ys=>simp only[AV.fi,arA,beq_iff_eq]at h;rw[AV.aN,D.Gy _ _ h.2,h.1]
   |_=>simp [AV.fi]at h
 | .full xs,y,h=>by
   cases y with
   |full ys=>simp only[AV.fi,arA,beq_iff_eq]at h;rw[AV.aN,D.Gy _ _ h]
   |_=>simp [AV.fi]at h
 | .row n i1 i2 i3 i4,y,h=>by
   cases y with
   |row m j1 j2 j3 j4=>simp only[AV.fi,arA,beq_iff_eq]at h;rw[AV.aN,h.1,h.2.1,h.2.2.1,h.2.2.2.1,h.2.2.2.2]
   |_=>simp [AV.fi]at h
 | .vec n i1 i2 i3 i4,y,h=>by
   cases y with
   |vec m j1 j2 j3 j4=>simp only[AV.fi,arA,beq_iff_eq]at h;rw[AV.aN,h.1,h.2.1,h.2.2.1,h.2.2.2.1,h.2.2.2.2]
   |_=>simp [AV.fi]at h
 | .dx n i1 i2 i3 i4,y,h=>by
   cases y with
   |dx m j1 j2 j3 j4=>simp only[AV.fi,arA,beq_iff_eq]at h;rw[AV.aN,h.1,h.2.1,h.2.2.1,h.2.2.2.1,h.2.2.2.2]
   |_=>simp [AV.fi]at h
 | .mp n,y,h=>by
   cases y with
   |mp m=>simp only[AV.fi,arA,beq_iff_eq]at h;rw[AV.aN,h]
   |_=>simp [AV.fi]at h
 | .dc n,y,h=>by
   cases y with
   |dc m=>simp only[AV.fi,arA,beq_iff_eq]at h;rw[AV.aN,h]
   |_=>simp [AV.fi]at h
 | .dead,y,h=>by
   cases y with
   |dead=>rw[AV.aN]
   |_=>simp [AV.fi]at h
 | .hid _,y,h=>by simp [AV.fi]at h
theorem AV.yI(σ:Nat->Nat):∀x y:asn AV,AV.p7 σ x y=true->y=AV.fP σ x
 |[],y,h=>by
  cases y with
  |nil=>rw[AV.fP]
  |cons=>simp [AV.p7]at h
 |x::xs,l,h=>by
  cases l with
  |nil=>simp [AV.p7]at h
  |cons y ys=>simp only[AV.p7,arA]at h;rw[AV.fP,AV.It σ _ _ h.1,AV.yI σ _ _ h.2]
end
def zV:asn (aso×D)->asn (aso×D)->Bool
 |[],[]=>true
 |(k,d)::l,(k',d')::l'=>bL k==bL k'&&D.vj d d'&&zV l l'
 |_,_=>false
theorem adC:∀x y,zV x y=true->x=y
 |[],[],_=>rfl
 |(k,d)::l,(k',d')::l',h=>by
  rw[zV,arA,arA]at h;rw[Pw (beq_iff_eq.1 h.1.1),D.RO _ _ h.1.2,adC l l' h.2]
 |[],_::_,h=>by simp [zV]at h
 |_::_,[],h=>by simp [zV]at h
def Ch(σ:Nat->Nat):asn (asn AV)->asn (asn AV)->Bool
 |[],[]=>true
 |x::xs,y::ys=>AV.p7 σ x y&&Ch σ xs ys
 |_,_=>false
theorem aaK(σ:Nat->Nat):∀x y,Ch σ x y=true->y=x.map (AV.fP σ)
 |[],[],_=>rfl
 |x::xs,y::ys,h=>by
  rw[Ch,arA]at h;rw[arX,AV.yI σ x y h.1,aaK σ xs ys h.2]
 |[],_::_,h=>by simp [Ch]at h
 |_::_,[],h=>by simp [Ch]at h
def ao.fi(σ:Nat->Nat):ao->ao->Bool
 | .cells a,y=>(match y with| .cells b=>AV.p7 σ a b|_=>false)
 | .front e k l,y=>(match y with| .front e' k' l'=>e==e'&&(k==k'&&l==l')|_=>false)
 | .vec e k cs,y=>(match y with| .vec e' k' ds=>e==e'&&(k==k'&&Ch σ cs ds)|_=>false)
 | .map kv,y=>(match y with| .map kv'=>zV kv kv'|_=>false)
 | .it sn cs,y=>(match y with| .it sn' ds=>sn==sn'&&AV.p7 σ cs ds|_=>false)
 | .gone,y=>(match y with| .gone=>true|_=>false)
 | .lp ..,_=>false
theorem ao.It(σ:Nat->Nat)(x y:ao)(h:ao.fi σ x y=true):y=x.aN σ:=by
 cases x<;>cases y<;>simp only[ao.fi,arA,beq_iff_eq,Bool.false_eq_true]at h
 ·rw[ao.aN,AV.yI σ _ _ h]
 ·rw[ao.aN,h.1,h.2.1,h.2.2]
 ·rw[ao.aN,h.1,h.2.1,aaK σ _ _ h.2.2]
 ·rw[ao.aN,adC _ _ h]
 ·rw[ao.aN,h.1,AV.yI σ _ _ h.2]
 ·rfl
def fk(h0:Nat)(p:asn Nat)(i:Nat):Nat:=bif cp h0 i then p.getD (i-h0) i else i
def Bj(ts Ad:asn (Nat×AV))(ks:asn Nat)(i:Nat):Nat:=
 match ks with
 |[]=>i
 |d::ks=>match bw ts d,bw Ad d with
  | .ptr n _, .ptr m _=>bif n==i then m else Bj ts Ad ks i
  | .own n _, .own m _=>bif n==i then m else Bj ts Ad ks i
  | .vec n _ _ _ _, .vec m _ _ _ _=>bif n==i then m else Bj ts Ad ks i
  | .mp n, .mp m=>bif n==i then m else Bj ts Ad ks i
  |_,_=>Bj ts Ad ks i
def C7(s s':St)(ks:asn Nat)(h0:Nat):Nat->asn Nat
 |0=>[]
 |k+1=>Bj s.t s'.t ks h0::C7 s s' ks (h0+1) k
def VO(h0:Nat)(ks:asn Nat)(s s':St)(p q:asn Nat):Bool:=
 (s'.h.length==s.h.length)&&(((List.range s.h.length).all λi=>cp (fk h0 p i+1) s.h.length&&cp (fk h0 q i+1) s.h.length&&fk h0 q (fk h0 p i)==i&&fk h0 p (fk h0 q i)==i)&&(ks.all (λd=>AV.fi (fk h0 p) (bw s.t d) (bw s'.t d))&&
  ((List.range s.h.length).all λi=>match s.h[i]?,s'.h[fk h0 p i]? with
    |some B,some B'=>ao.fi (fk h0 p) B B'
    |_,_=>false)))
def Zu(h0:Nat)(ks:asn Nat)(s s':St):Bool:=VO h0 ks s s' (C7 s s' ks h0 (s.h.length-h0)) (C7 s' s ks h0 (s.h.length-h0))
structure lO(ks:List Nat)(s0 s:St):Prop where
 n:s.n=s0.n
 t:∀d,d ∉ ks->bw s.t d=bw s0.t d
theorem lO.refl(ks:asn Nat)(s:St):lO ks s s:=⟨rfl,λ_ _=>rfl⟩
theorem lO.put{ks:asn Nat}{s0 s:St}(h:lO ks s0 s)(h1:asn ao){d:asp Nat}(x:AV)(hd:∀k,d=some k->k∈ks):lO ks s0 ((s.wh h1).put d x):=
 ⟨by rw[rF];exact h.n,λi hi=>by
  rw[sR,if_neg]
  ·exact h.t i hi
  ·rintro⟨e,_⟩;exact hi (hd i e)⟩
theorem ark{N0 h0:Nat}{ks:asn Nat}{s0 s s':St}(hN:N0<=h0)(sZ:∀i,(bw s0.t i).aQ h0=true)(hb:lO ks s0 s)(fW:lO ks s0 s')(h:Zu h0 ks s s'=true):iA N0 s s':=by
 unfold Zu at h;generalize C7 s s' ks h0 (s.h.length-h0)=p at h;generalize C7 s' s ks h0 (s.h.length-h0)=q at h;unfold VO at h;simp only[arA,beq_iff_eq,arY,List.mem_range,dJ]at h;obtain⟨h1,h2,h3,h4⟩:=h;have zP:∀i,i<h0->fk h0 p i=i:=λi hi=>by
  unfold fk;have:cp h0 i=false:=by rw[<-Bool.not_eq_true,dJ];omega
  rw[this];rfl
 refine iA.aN (fk h0 p) (fk h0 q) (hb.n.trans fW.n.symm) h1 (λi hi=>(h2 i hi).1.1.1) (λi hi=>(h2 i hi).1.1.2) (λi hi=>(h2 i hi).1.2) (λi hi=>(h2 i hi).2) (λi hi=>zP i (by omega)) (λi _=> ?_) λi hi=> ?_
 ·left
  by_cases hk:i∈ks
  ·exact AV.It _ _ _ (h3 i hk)
  ·rw[hb.t i hk,fW.t i hk,xP (τ:=id) zP _ (sZ i),Gz]
 ·have h5:=h4 i hi;split at h5
  ·next B B' e1 e2=>rw[e1,e2,ao.It _ _ _ h5];rfl
  ·cases h5
def Ld(N0:Nat)(K:St->Prop):Prop:=∀s s',iA N0 s s'->K s'->K s
theorem Ld.c{N0:Nat}{K:St->Prop}(h:Ld N0 K):vC K:=λs s' e hk=>h s' s (iA.of_eq e.symm) hk
theorem aab{P:asq}{r:asp Nat}{N0:Nat}{s:St}{Q:Exit->St->Prop}{m:Bool}{id:Nat}{ops:Array Oper}(hm:P.follows .mixedOrders=true)
 (h:N0<=s.h.length->(∀i,(bw s.t i).aQ s.h.length=true)->oH m P ops (λs1=>∃s2,iA N0 s1 s2/\Q .normal s2) ops.size (Array.replicate ops.size false) s):bJ P r N0 (.region id ops true) Q s:=by
 constructor
 intro G w a n hs hN;obtain⟨d1,d2⟩:=hs.drew;refine wpIn_region_any hm ?_;have hl:=hs.inv.len;refine Gk (G:=G) (w:=w) (N0:=N0) (K:=λs1=>∃s2,iA N0 s1 s2/\Q .normal s2) (λa' w' hn=> ?_) ops.size _ G _ a s (d1.less hN) hN d2 (h (by omega) λi=>by rw[hl];exact(hs.tmp i).low);obtain⟨G',s',x1,x2,x3,s2,e0,x4⟩:=hn;obtain⟨G2,y1,y2,y3⟩:=e0 G' w' a' x2 x3;exact⟨G2,s2,x1.trans y1,y2,y3,x4⟩
theorem aaG{N0:Nat}(Q:St->Prop):Ld N0 (λs1=>∃s2,iA N0 s1 s2/\Q s2):=λ_ _ h ⟨s2,h1,h2⟩=>⟨s2,h.trans h1,h2⟩
def zU(f:Nat->Bool):Nat->Nat
 |0=>0
 |n+1=>bif f n then zU f n|||(1<<<n)else zU f n
theorem KJ(f:Nat->Bool):∀(n j:Nat),Nat.testBit (zU f n) j=(decide (j<n)&&f j)
 |0,j=>by simp [zU]
 |n+1,j=>by
  unfold zU;have ih:=KJ f n j;cases hf:f n with
  |true=>
   simp only[cond_true,Nat.testBit_or,ih,Nat.one_shiftLeft,Nat.testBit_two_pow];by_cases e:n=j
   ·subst e;simp [hf]
   ·have:decide (j<n+1)=decide (j<n):=by simp;omega
    rw[this];simp [e]
  |false=>
   simp only[cond_false,ih];by_cases e:n=j
   ·subst e;simp [hf]
   ·have:decide (j<n+1)=decide (j<n):=by simp;omega
    rw[this]
def fN{α:Type}(n:Nat)(f:Nat->α):α:=Nat.casesOn (Nat.succ n) (f 0) f
theorem DF{α:Type}(n:Nat)(f:Nat->α):fN n f=f n:=rfl
def fL{α:Type}:asn Nat->(asn Nat->α)->α
 |[],f=>f []
 |n::l,f=>fN n λn=>fL l λl=>f (n::l)
theorem De{α:Type}:∀(l:asn Nat)(f:asn Nat->α),fL l f=f l
 |[],_=>rfl
 |n::l,f=>by rw[fL,DF,De l]
section
variable (ops:Array Oper)
def AX(o:Oper)(n j:Nat):Bool:=o.after.any λe=>Region.binds .any e&&(e.on==j||(j==n&&cp n e.on))
def HW(k:Nat):Nat:=match ops[k]? with
 |some o=>zU (AX o ops.size) (ops.size+1)
 |none=>1<<<ops.size
def cfB(m:Bool)(M:Array Nat)(k j:Nat):Bool:= !(j==k)&&(!((M.getD j 0).testBit k)&&match ops[k]?,ops[j]? with
 |some oi,some oj=> !(oi.apart ops oj&&CC m oi oj)
 |_,_=>true)
def C5(m:Bool)(M:Array Nat)(k:Nat):Nat:=zU (cfB ops m M k) ops.size
def sU:Nat->Nat->asn Nat
 |_,0=>[]
 |k,n+1=>HW ops k::sU (k+1) n
def rO(m:Bool)(M:Array Nat):Nat->Nat->asn Nat
 |_,0=>[]
 |k,n+1=>C5 ops m M k::rO m M (k+1) n
end
def tA:asn Nat->Nat->Nat->asn Nat
 |[],_,_=>[]
 |a::A,L,k=>bif !(Nat.testBit L k)&&(L&&&a==a)then k::tA A L (k+1)else tA A L (k+1)
def Ed(C:asn Nat)(L:Nat):asn Nat->asp Nat
 |[]=>none
 |k::r=>bif (C.getD k 0)|||L==L then some k else Ed C L r
section
variable (ops:Array Oper) (st:Oper->St->asp St) (h0:Nat) (ks A C:asn Nat)
def oz:asn Oper->asn Nat
 |[]=>[]
 |o::l=>match o.dst with
  |some d=>d::oz l
  |none=>oz l
end
theorem MF:∀{l:asn Oper}{o:Oper},o∈l->∀d,o.dst=some d->d∈oz l
 |[],_,h,_,_=>by cases h
 |a::l,o,h,d,hd=>by
  unfold oz;rcases ar2.1 h with rfl|h
  ·rw[hd];simp
  ·split
   ·exact arH _ (MF h d hd)
   ·exact MF h d hd
theorem Vv(ops:Array Oper):∀(n k i:Nat),(sU ops k n)[i]?=if i<n then some (HW ops (k+i))else none
 |0,k,i=>by simp [sU]
 |n+1,k,0=>by simp [sU]
 |n+1,k,i+1=>by rw[sU,ar9,Vv ops n (k+1) i];simp only[Nat.add_lt_add_iff_right];rw[show k+1+i=k+(i+1) by omega]
theorem Zt(ops:Array Oper)(m:Bool)(M:Array Nat):∀(n k i:Nat),(rO ops m M k n)[i]?=if i<n then some (C5 ops m M (k+i))else none
 |0,k,i=>by simp [rO]
 |n+1,k,0=>by simp [rO]
 |n+1,k,i+1=>by rw[rO,ar9,Zt ops m M n (k+1) i];simp only[Nat.add_lt_add_iff_right];rw[show k+1+i=k+(i+1) by omega]
theorem abk{L:Nat}:∀(A:asn Nat)(k i:Nat),i∈tA A L k↔k<=i/\Nat.testBit L i=false/\∃a,A[i-k]?=some a/\L&&&a=a
 |[],k,i=>by simp [tA]
 |a::A,k,i=>by
  have ih:=abk (L:=L) A (k+1) i;unfold tA;have key:i∈tA A L (k+1)↔k<i/\Nat.testBit L i=false/\∃b,(a::A)[i-k]?=some b/\L&&&b=b:=by
   rw[ih];constructor
   ·rintro⟨h1,h2,b,h3,h4⟩;refine⟨h1,h2,b,?_,h4⟩;rw[show i-k=(i-(k+1))+1 by omega,ar9];exact h3
   ·rintro⟨h1,h2,b,h3,h4⟩;refine⟨h1,h2,b,?_,h4⟩;rw[show i-k=(i-(k+1))+1 by omega,ar9]at h3;exact h3
  cases hb:(!(Nat.testBit L k)&&(L&&&a==a))with
  |true=>
   simp only[cond_true,ar2,key];simp only[arA,Bool.not_eq_true',beq_iff_eq]at hb;constructor
   ·rintro(rfl|⟨h1,h2⟩)
    ·exact⟨arJ _,hb.1,a,by simp,hb.2⟩
    ·exact⟨by omega,h2⟩
   ·rintro⟨h1,h2⟩;rcases Nat.lt_or_eq_of_le h1 with h|h
    ·exact .inr ⟨h,h2⟩
    ·exact .inl h.symm
  |false=>
   simp only[cond_false,key];constructor
   ·rintro⟨h1,h2⟩;exact⟨by omega,h2⟩
   ·rintro⟨h1,h2,b,h3,h4⟩;rcases Nat.lt_or_eq_of_le h1 with h|h
    ·exact⟨h,h2,b,h3,h4⟩
    ·subst h;simp at h3;subst h3;rw[h2]at hb;simp at hb;exact absurd h4 hb
theorem ab5{C:asn Nat}{L:Nat}:∀{r:asn Nat}{k:Nat},Ed C L r=some k->k∈r/\(C.getD k 0)|||L=L
 |[],k,h=>by cases h
 |a::r,k,h=>by
  unfold Ed at h;cases hb:((C.getD a 0)|||L==L)with
  |true=>rw[hb]at h;cases h;exact⟨by simp,by simpa using hb⟩
  |false=>rw[hb]at h;have:=ab5 h;exact⟨arH _ this.1,this.2⟩
structure LM(ops:Array Oper)(L:Nat)(listed:Array Bool):Prop where
 sz:listed.size=ops.size
 b:∀i,Nat.testBit L i=listed.getD i false
theorem LM.set{ops:Array Oper}{L:Nat}{listed:Array Bool}(h:LM ops L listed){k:Nat}(hk:k<ops.size):LM ops (L|||(1<<<k)) (listed.setIfInBounds k true):=by
 refine⟨by simp [h.sz],λi=> ?_⟩;rw[Nat.testBit_or,Nat.one_shiftLeft,Nat.testBit_two_pow,h.b i];by_cases e:k=i
 ·subst e;have:k<listed.size:=by rw[h.sz];exact hk
  simp [this]
 ·rw[getD_set_ne false e];simp [e]
theorem LM.ready{ops:Array Oper}{L:Nat}{listed:Array Bool}(h:LM ops L listed)(i:Nat):i∈Region.ready .any ops listed↔i∈tA (sU ops 0 ops.size) L 0:=by
 rw[mem_ready,abk];simp only[Nat.zero_le,true_and,Nat.sub_zero,Vv,arS];have Vz:∀j,ops.size<=j->Nat.testBit L j=false:=λj hj=>by
   rw[h.b,Array.getD_eq_getD_getElem?,Array.getElem?_eq_none (by rw[h.sz];exact hj)];rfl
 constructor
 ·rintro⟨h1,o,ho,h2⟩;have hi:=(arN.1 ho).1;have hgd:listed.getD i false=false:=by
   have dN:i<listed.size:=by rw[h.sz];exact hi
   simpa [dN]using h1
  refine⟨by rw[h.b];exact hgd,_,by rw[if_pos hi],?_⟩;apply Nat.eq_of_testBit_eq;intro j;rw[Nat.testBit_and];unfold HW;rw[ho];simp only[KJ];cases hb:(decide (j<ops.size+1)&&AX o ops.size j)with
  |false=>simp
  |true=>
   simp only[Bool.and_true];rw[arA]at hb;have hb:=hb.2;unfold AX at hb;rw[Array.any_eq_true']at hb;obtain⟨e,he,hb⟩:=hb;simp only[arA,Bool.or_eq_true,beq_iff_eq,dJ]at hb;have h3:=h2 e he hb.1;have:e.on<ops.size:=by
    rcases Nat.lt_or_ge e.on ops.size with hl|hl
    ·exact hl
    ·have:=Vz e.on hl;rw[h.b]at this;rw[this]at h3;cases h3
   rcases hb.2 with hj|⟨_,hj⟩
   ·rw[<-hj,h.b];exact h3
   ·omega
 ·rintro⟨h1,a,ha,h2⟩;split at ha
  ·next hi=>
   cases ha
   have ho:ops[i]?=some ops[i]:=arU hi;refine⟨?_,ops[i],ho,λe he KK=> ?_⟩
   ·rw[h.b]at h1;have dN:i<listed.size:=by rw[h.sz];exact hi
    simpa [dN]using h1
   ·have lI:∀j,j<ops.size+1->AX ops[i] ops.size j=true->Nat.testBit L j=true:=λj hj hf=>by
     have:=congrArg (λn=>Nat.testBit n j) h2;simp only[Nat.testBit_and]at this;unfold HW at this;rw[ho]at this;simp only[KJ]at this;rw[hf]at this
     simpa [hj]using this
    have Yu:∀j,(e.on==j||(j==ops.size&&cp ops.size e.on))=true->AX ops[i] ops.size j=true:=λj hj=>by
     unfold AX;rw[Array.any_eq_true'];exact⟨e,he,by rw[KK,hj];rfl⟩
    rcases Nat.lt_or_ge e.on ops.size with hl|hl
    ·rw[<-h.b];exact lI e.on (by omega) (Yu _ (by simp))
    ·have:=lI ops.size (by omega) (Yu _ (by simp [dJ.2 hl]));rw[Vz _ (arJ _)]at this;cases this
  ·cases ha
section
variable {P:asq} {ops:Array Oper} {st:Oper->St->asp St} {h0:Nat} {m:Bool} {N0:Nat} {K:St->Prop} {s0:St}
end
end Go.Proofs.YtdchibpnjpnkoaaGreatDoor
namespace Go.Proofs.YtdchibpnjpnkoaaGreatDoor
open Go.RowKit
inductive Ex
 |n
 |r
 |x (id:Nat)
def Q1{α:Type}(n:Nat)(f:Nat->α):α:=Nat.casesOn (Nat.succ n) (f 0) f
theorem ahx{α:Type}(n:Nat)(f:Nat->α):Q1 n f=f n:=rfl
def AV.force{α:Type}(x:AV)(f:AV->α):α:=
 match x with
 | .d (.v (.int k (.ofNat n)))=>Q1 n λn=>f (.d (.v (.int k (.ofNat n))))
 | .d (.v (.bool b))=>bif b then f (.d (.v (.bool true)))else f (.d (.v (.bool false)))
 |x=>f x
theorem AV.force_eq{α:Type}(x:AV)(f:AV->α):x.force f=f x:=by
 unfold AV.force;split
 ·rw[ahx]
 ·next b=>cases b<;>rfl
 ·rfl
def M8{α:Type}:asn ao->(asn ao->α)->α
 |[],f=>f []
 |b::l,f=>M8 l λr=>f (b::r)
theorem ads{α:Type}:∀(l:asn ao)(f:asn ao->α),M8 l f=f l
 |[],_=>rfl
 |b::l,f=>by rw[M8,ads l]
abbrev Q3:=Bool->Nat->Code->St->asp (Ex×St)
abbrev P8:=FuncId->asn AV->asp (asp AV)
def arl:asp (asp AV)->Bool
 |some none=>true
 |_=>false
mutual
def AV.abQ:AV->asn Nat
 | .fn _ cs=>AV.Tc cs
 |_=>[]
def AV.Tc:asn AV->asn Nat
 |[]=>[]
 | .ptr n _::l=>n::AV.Tc l
 |x::l=>x.abQ++AV.Tc l
end
def No:asn Nat->AV->asn ao->asp (AV×asn ao)
 |[],r,h=>some (r,h)
 |b::l,r,h=>match h[b]? with
  |some (.cells cs)=>match nL cs with
   |some ds=>No l (r.eX b ds) ((h.map (ao.eX b ds)).set b .gone)
   |none=>none
  |_=>none
def unD:AV->asp D
 | .d x=>some x
 |_=>none
def I1:asn AV->asp (asn D)
 |[]=>some []
 |x::l=>match unD x,I1 l with
  |some d,some r=>some (d::r)
  |_,_=>none
def MQ:asn (asn AV)->asp (asn (asn D))
 |[]=>some []
 |x::l=>match I1 x,MQ l with
  |some d,some r=>some (d::r)
  |_,_=>none
mutual
def AV.XM:AV->Bool
 | .vec .. =>true
 | .agg cs=>AV.JO cs
 | .aX cs=>AV.JO cs
 | .fn _ cs=>AV.JO cs
 |_=>false
def AV.JO:asn AV->Bool
 |[]=>false
 |x::l=>x.XM||AV.JO l
end
def wA:asn Nat->AV->asn ao->AV×asn ao
 |[],r,h=>(r,h)
 |b::l,r,h=>match h[b]? with
  |some (.vec _ k cs)=>match MQ cs with
   |some xs=>bif xs.all (λc=>c.all D.uZ)then(r.cQ b k xs).force λr=>M8 ((h.map (ao.kD (AV.cQ b k xs))).set b .gone) λh=>wA l r h else wA l r h
   |none=>wA l r h
  |_=>wA l r h
def aqW(h:asn ao):asn Nat:=(List.range h.length).reverse++(List.range h.length).reverse
def J4(r:AV)(h:asn ao):asp AV:=
 match No r.abQ r h with
 |some (r,_)=>some (r.bG 0)
 |none=>none
def XC(r:AV)(h:asn ao):asp AV:=
 bif r.XM then(match wA (aqW h) r h with|(r,h)=>J4 r h)else J4 r h
section
variable (run:Q3) (P:asq) (aay:P8)
def cr(lo:Nat)(f:FuncId)(args:asn AV)(h:asn ao):asp (AV×asn ao):=
 match P.funcs[f]? with
 |some fn=>match fn.body with
  |some c=>Q1 (args.length+(fn.ntmps-args.length)) λn=>match run true lo c ⟨n,mg 0 args,h⟩with
   |some (.x _,_)=>none
   |some (_,s)=>match sI P s fn.results.toList with
    |some l=>some (jK l,s.h)
    |none=>none
   |none=>none
  |none=>none
 |none=>none
end
section
variable {run:Q3} {P:asq} {aay:P8} {lo:Nat} {s s':St}
end
mutual
theorem Eg(m:Nat):∀x:AV,x.aQ m=true->x.bG m=x
 | .own n xs,h=>by
   rw[AV.aQ]at h;rw[AV.bG];cases e:cp m n with
   |true=>rw[e]at h;cases h
   |false=>rfl
 | .agg cs,h=>by rw[AV.aQ]at h;rw[AV.bG,Kz m cs h]
 | .aX cs,h=>by rw[AV.aQ]at h;rw[AV.bG,Kz m cs h]
 | .fn f cs,h=>by rw[AV.aQ]at h;rw[AV.bG,Kz m cs h]
 | .d _,_=>by simp only[AV.bG]
 | .ptr ..,_=>by simp only[AV.bG]
 | .bP ..,_=>by simp only[AV.bG]
 | .full _,_=>by simp only[AV.bG]
 | .row ..,_=>by simp only[AV.bG]
 | .mp _,_=>by simp only[AV.bG]
 | .dc _,_=>by simp only[AV.bG]
 | .vec ..,_=>by simp only[AV.bG]
 | .dx ..,_=>by simp only[AV.bG]
 | .hid _,_=>by simp only[AV.bG]
 | .dead,_=>by simp only[AV.bG]
theorem Kz(m:Nat):∀l:asn AV,AV.nH m l=true->AV.pY m l=l
 |[],_=>by simp [AV.pY]
 |x::l,h=>by
  rw[AV.nH,arA]at h;rw[AV.pY,Eg m x h.1,Kz m l h.2]
end
theorem aqs{m:Nat}{B:ao}(h:B.aQ m=true):B.bG m=B:=by
 cases B with
 |cells cs=>
  simp only[ao.aQ,arY]at h;simp only[ao.bG]
  congr 1
  exact(ar3 λx hx=>Eg m x (h x hx)).trans (List.map_id _)
 |lp ls p as bd cs=>
  simp only[ao.aQ,arY]at h;simp only[ao.bG]
  congr 1
  exact(ar3 λx hx=>Eg m x (h x hx)).trans (List.map_id _)
 |it sn cs=>
  simp only[ao.aQ,arY]at h;simp only[ao.bG]
  congr 1
  exact(ar3 λx hx=>Eg m x (h x hx)).trans (List.map_id _)
 |vec e k cs=>
  simp only[ao.aQ,arY]at h;simp only[ao.bG]
  congr 1
  exact(ar3 λx hx=>(ar3 λy hy=>Eg m y (h x hx y hy)).trans (List.map_id _)).trans (List.map_id _)
 |front e k len=>rfl
 |map kv=>rfl
 |gone=>rfl
theorem TC{m:Nat}{h:asn ao}(e:h.all (ao.aQ m)=true):h.map (ao.bG m)=h:=
 (ar3 λB hB=>aqs (arY.1 e B hB)).trans (List.map_id _)
end Go.Proofs.YtdchibpnjpnkoaaGreatDoor
namespace Go.Proofs.YtdchibpnjpnkoaaGreatDoor
open Go.RowKit
section
variable {P:asq} {r:asp Nat} {n N0:Nat} {G:Gh} {w:ass} {a:Act} {s:St} {o:Oper} {Q:Exit->St->Prop}
end
theorem cG.cut{P:asq}{f:FuncId}{args:asn AV}{h h':asn ao}{r:AV}(m:Nat)(hc:cG P f args h λr1 h1=>r1=r/\h1=h')(h1:h.length<=m)(h2:m<=h'.length)(hb:(((h'.take m).map (ao.bG m)).all (ao.aQ m))=true)(hr:(r.bG m).aQ m=true):
 cG P f args h λr1 h1=>r1=r.bG m/\h1=(h'.take m).map (ao.bG m):=by
 refine⟨hc.1,λG w vs hi hl hv=>(hc.2 G w vs hi hl hv).mono λe w' hp=> ?_⟩;obtain⟨v,G',_,_,rfl,hE,hN,dN,Uk,rfl,rfl⟩:=hp;exact⟨v,G'.cut m,_,_,rfl,hE.trans (p5 _ _ _ _),by rw[<-hi.len];exact h1,OU dN h2 hb,(Uk.bG m).cut hr,rfl,rfl⟩
section
variable {run:Q3} {P:asq} {aay:P8} {lo:Nat} {s s':St}
theorem cG.chg{f:FuncId}{args:asn AV}{h0 h h2:asn ao}{r r2:AV}{tl:asn (Nat×AV)}(hc:cG P f args h0 λr1 h1=>r1=r/\h1=h)
 (hT:∀(G:Gh)(w:ass)(a:Act),cN G w a ⟨1,[(0,r)],h⟩->∃G',b7 G.N G w G' w/\G'.N=G.N/\cN G' w a ⟨1,(0,r2)::tl,h2⟩):cG P f args h0 λr1 h1=>r1=r2/\h1=h2:=by
 refine⟨hc.1,λG w vs hi hl hv=>(hc.2 G w vs hi hl hv).mono λe w' hp=> ?_⟩;obtain⟨v,G',_,_,rfl,hE,hN,dN,Uk,rfl,rfl⟩:=hp;obtain⟨G2,e1,e2,e3⟩:=hT G' w' {tmps:= #[v],defers:=[]} ⟨rfl,λi=>by
  show aJ G' w' _ (bw [(0,_)] i);rw[kY];split
  ·next ei=>subst ei;exact Uk
  ·exact .dead _,dN,rV.nil _ _⟩
 exact⟨v,G2,r2,h2,rfl,hE.trans (e1.less hN),by rw[e2];exact hN,e3.inv,e3.tmp 0,rfl,rfl⟩
theorem YV{f:FuncId}{args:asn AV}{h0:asn ao}:∀(l:asn Nat){h h2:asn ao}{r r2:AV},(cG P f args h0 λr1 h1=>r1=r/\h1=h)->No l r h=some (r2,h2)->cG P f args h0 λr1 h1=>r1=r2/\h1=h2
 |[],h,h2,r,r2,hc,e=>by cases e;exact hc
 |b::l,h,h2,r,r2,hc,e=>by
  unfold No at e;split at e
  ·next cs e1=>
   split at e
   ·next ds e2=>
    refine YV l (cG.chg (tl:=[]) hc λG w a hs=> ?_) e;refine hs.FW (b:=b) ?_;simp only[Go.Proofs.YtdchibpnjpnkoaaGreatDoor.FW,e1,e2];rfl
   ·cases e
  ·cases e
theorem Zh:∀{l:asn AV}{ds:asn D},I1 l=some ds->l=ds.map AV.d
 |[],ds,h=>by cases h;rfl
 |x::l,ds,h=>by
  unfold I1 at h;split at h
  ·next d r e1 e2=>
   cases h
   rw[Zh e2];cases x<;>simp [unD]at e1
   subst e1;rfl
  ·cases h
theorem YJ:∀{l:asn (asn AV)}{xs:asn (asn D)},MQ l=some xs->l=bn xs
 |[],xs,h=>by cases h;rfl
 |x::l,xs,h=>by
  unfold MQ at h;split at h
  ·next d r e1 e2=>cases h;rw[YJ e2,Zh e1];rfl
  ·cases h
theorem Ho{f:FuncId}{args:asn AV}{h0:asn ao}:∀(l:asn Nat){h:asn ao}{r:AV},(cG P f args h0 λr1 h1=>r1=r/\h1=h)->cG P f args h0 λr1 h1=>r1=(wA l r h).1/\h1=(wA l r h).2
 |[],h,r,hc=>hc
 |b::l,h,r,hc=>by
  unfold wA;split
  ·next e k cs e1=>
   split
   ·next xs e2=>
    rw[AV.force_eq,ads,cond_eq_ite];split
    ·next h1=>
     refine Ho l (cG.chg (tl:=[]) hc λG w a hs=> ?_);have e3:=YJ e2;exact hs.PY xs (by show h[b]?=_;rw[e1,e3]) (λc hc=>arY.1 h1 c hc)
    ·exact Ho l hc
   ·exact Ho l hc
  ·exact Ho l hc
theorem ac5{f:FuncId}{args:asn AV}{h:asn ao}{r r2:AV}(hc:cG P f args [] λr1 h1=>r1=r/\h1=h)(e:XC r h=some r2)(hb:r2.aQ 0=true):gD P f args (·=r2):=by
 have fin:∀{r:AV}{h:asn ao},(cG P f args [] λr1 h1=>r1=r/\h1=h)->(r.bG 0).aQ 0=true->gD P f args (·=r.bG 0):=λhc hb=>
  (hc.cut 0 (arJ _) (Nat.zero_le _) (by simp) hb).mono λr1 h1 ⟨k1,k2⟩=>⟨by simpa using k2,k1⟩
 have gen:∀{r:AV}{h:asn ao},(cG P f args [] λr1 h1=>r1=r/\h1=h)->J4 r h=some r2->gD P f args (·=r2):=λhc e=>by
  unfold J4 at e;split at e
  ·next r3 h3 e1=>
   cases e
   exact fin (YV _ hc e1) hb
  ·cases e
 unfold XC at e;rcases aeb e with⟨_,e⟩|⟨_,e⟩
 ·exact gen (Ho _ hc) e
 ·exact gen hc e
end
theorem Zz:∀(H' H e:asn ao),H'.length=H.length->putAll (List.range H.length) H' (H++e)=H'++e:=by
 intro H' H e hl;have gen:∀(n:Nat)(a b B r:asn ao),b.length=n->B.length=n->putAll ((List.range n).map (a.length+·)) B (a++(b++r))=a++(B++r):=by
  intro n
  induction n with
  |zero=>intro a b B r hb hB;rw[List.length_eq_zero_iff.1 hb,List.length_eq_zero_iff.1 hB];simp [putAll]
  |succ n ih=>
   intro a b B r hb hB;cases b with
   |nil=>simp at hb
   |cons b0 b=>
    cases B with
    |nil=>simp at hB
    |cons B0 B=>
     rw[List.range_succ_eq_map,arX,List.map_map,putAll];have e1:(a++(b0::b++r)).set (a.length+0) B0=(a++[B0])++(b++r):=by
       rw[Nat.add_zero,List.set_append_right _ _ (arJ _),Nat.sub_self];simp
     have e2:(λx=>a.length+x)∘Nat.succ=λx=>(a++[B0]).length+x:=by
      funext x
      simp only[Function.comp_apply,arz,arB,arK];omega
     rw[e1,e2,ih (a++[B0]) b B r (by simpa using hb) (by simpa using hB)];simp
 have:=gen H.length [] H H' e rfl hl
 simpa using this
theorem Rx{P:asq}{k:Nat}{x:AV}{H:asn ao}{C:Bool->asn ao->Prop}(hy:YS P k x H C)(e:asn ao)(hb:H.all (ao.aQ H.length)=true)(hx:x.aQ H.length=true)
 (hC:∀b h',C b h'->h'.length=H.length/\h'.all (ao.aQ H.length)=true):YS P k x (H++e) λb h'=>∃H',C b H'/\h'=H'++e:=by
 intro G w v r n hi hv;have yG:∀i,i<H.length->rn (List.range H.length) (H++e).length i=i:=λi h=>B9 (List.range H.length) _ i i (by rw[List.getElem?_range h]);have NJ:∀y:AV,y.aQ H.length=true->y.aN (rn (List.range H.length) (H++e).length)=y:=λy hy=>(xP (τ:=id) yG y hy).trans (Gz y);have FX:∀B:ao,B.aQ H.length=true->B.aN (rn (List.range H.length) (H++e).length)=B:=λB hB=>(Sk (τ:=id) yG B hB).trans (QJ B);obtain⟨G0,cB,sC,tB,QR⟩:=aao (H:=H) (l:=List.range H.length) (h:=H++e) List.nodup_range (λj hj=>by have:=List.mem_range.1 hj;simp;omega) (λi j rf=>by
  obtain⟨aS,rfl⟩:i<H.length/\j=i:=by
   have h1:=(ary.1 rf).1;rw[List.length_range]at h1;rw[List.getElem?_range h1]at rf;exact⟨h1,(arR rf).symm⟩
  rw[arI aS,arC aS,Option.map_some,FX _ (arY.1 hb _ (List.getElem_mem aS))]) (by simp) hb hi
 obtain⟨hk,p,as,bd,fn,tm,D,h1,h2⟩:=hy G0 w v r n sC (aJ.vr tB (by rw[NJ x hx];exact hv) x rfl (by rw[cB];exact hx));have jA:k<H.length:=cB▸hk;have jS:G.bg k=G0.bg k:=by
  have:=tB.bg k hk
  rwa [yG k jA]at this
 refine⟨by have:=tB.lt k hk;rwa [yG k jA]at this,p,as,bd,fn,tm,D,by rw[jS];exact h1,?_⟩;rw[jS];refine h2.mono λe1 w' hp=> ?_;obtain⟨b,G1,H',rfl,hE,gd,jD,hc⟩:=hp;rw[cB]at hE gd;obtain⟨G2,a1,a2,a3,_⟩:=QR G1 w' H' hE gd jD;obtain⟨c1,c2⟩:=hC b H' hc;refine⟨b,G2,H'++e,rfl,a1,a2,?_,H',hc,rfl⟩;have hm:H'.map (ao.aN (rn (List.range H.length) (H++e).length))=H':=(ar3 λB hB=>FX B (arY.1 c2 B hB)).trans (List.map_id _);rw[hm,Zz H' H e c1]at a3;exact a3
def mQ(P:asq)(k:Nat):asn AV->(Bool->asn ao->Prop)->asn ao->Prop
 |[],C,h=>C true h
 |x::l,C,h=>YS P k x h λb h1=>(h1.length=h.length/\h1.all (ao.aQ h.length)=true)/\bif b then mQ P k l C h1 else C false h1
theorem Wv{P:asq}{k:Nat}:∀(l:asn AV){C C':Bool->asn ao->Prop}{h:asn ao},(∀b h1,C b h1->C' b h1)->mQ P k l C h->mQ P k l C' h
 |[],_,_,_,hc,hs=>hc _ _ hs
 |x::l,C,C',h,hc,hs=>YS.mono hs λb h1 ⟨h2,h3⟩=>⟨h2,by
  cases b with
  |true=>exact Wv l hc h3
  |false=>exact hc _ _ h3⟩
theorem acH{P:asq}{k:Nat}:∀(l l':asn AV){C:Bool->asn ao->Prop}{h:asn ao},mQ P k (l++l') C h->mQ P k l (λb h1=>bif b then mQ P k l' C h1 else C false h1) h
 |[],_,_,_,hs=>hs
 |x::l,l',C,h,hs=>YS.mono hs λb h1 ⟨h2,h3⟩=>⟨h2,by
  cases b with
  |true=>exact acH l l' h3
  |false=>exact h3⟩
def vT(h h1:asn ao):Prop:=h1.length=h.length/\h1.all (ao.aQ h.length)=true
def Ps(P:asq)(gf:FuncId)(dF:asn AV)(xs:asn AV):Prop:=
 ∀(k:Nat)(h:asn ao)(C:Bool->asn ao->Prop),h.all (ao.aQ h.length)=true->k<h.length->mQ P k xs C h->cG P gf (.dc k::dF) h λ_ h1=>∃b,C b h1
def W2(P:asq)(T:TypeId):asn AV:=match iR P T with|some z=>z.cells.toList.map λu=> .d (.v u)|none=>[]
section
variable {P:asq} {r:asp Nat} {N0:Nat} {Q:Exit->St->Prop} {ops:Array Oper} {o o1 o2 o3 o4 o5:Oper} {s:St} {K:St->Prop} {id:Nat}
theorem cw{rest:asn Oper}(hg:o.guard=none)(h:o9 P o (rY P ops rest K) s):rY P ops (o::rest) K s:=by
 unfold rY jy;rw[hg];exact h
theorem D6{n d:Nat}{t:asn (Nat×AV)}{h h':asn ao}{x:AV}{hd:HD}(hx:mo P o.op (ev ⟨n,t,h⟩) h=some (x,hd))(jI:o.dst=some d)(hn:Nat.ble n d=false)(he:hd.app h=h')(hK:K ⟨n,(d,x)::t,h'⟩):o9 P o K ⟨n,t,h⟩:=by
 refine .inr (.inr (.inl (aaD hx ?_)));show K ((St.wh ⟨n,t,h⟩ (hd.app h)).put o.dst x);rw[jI,he];have aS:d<n:=Nat.lt_of_not_le λhle=>by rw[Nat.ble_eq_true_of_le hle]at hn;cases hn
 rw[ru (s:=St.wh ⟨n,t,h⟩ h') aS];exact hK
theorem cX{n d:Nat}{t:asn (Nat×AV)}{h:asn ao}{x:AV}(hx:mo P o.op (ev ⟨n,t,h⟩) h=some (x, .same))(jI:o.dst=some d)(hn:Nat.ble n d=false)(hK:K ⟨n,(d,x)::t,h⟩):o9 P o K ⟨n,t,h⟩:=D6 hx jI hn rfl hK
theorem RW{n:Nat}{t:asn (Nat×AV)}{h h':asn ao}{x:AV}{hd:HD}(hx:mo P o.op (ev ⟨n,t,h⟩) h=some (x,hd))(jI:o.dst=none)(he:hd.app h=h')(hK:K ⟨n,t,h'⟩):o9 P o K ⟨n,t,h⟩:=by
 refine .inr (.inr (.inl (aaD hx ?_)));show K ((St.wh ⟨n,t,h⟩ (hd.app h)).put o.dst x);rw[jI,he];exact hK
theorem alP{h l:asn ao}{i off:Nat}{cs:asn AV}(hi:l[i]?=some (.cells cs)):yd (h++l) (.ptr (h.length+i) off)=some (cs,off):=by
 unfold yd;simp only;rw[arO (asd _ _),Nat.add_sub_cancel_left,hi]
theorem Cc{ρ:Operand->AV}{h l:asn ao}{T:TypeId}{p:Operand}{i off:Nat}{cs:asn AV}{x:AV}(hp:ρ p= .ptr (h.length+i) off)(hi:l[i]?=some (.cells cs))(hl:AH P T cs off=some x):mo P (.load T p) ρ (h++l)=some (x, .same):=by
 unfold mo;simp only[hp,alP hi,hl,pX]
theorem ao2{ρ:Operand->AV}{h l:asn ao}{T:TypeId}{y:Operand}{v:AV}(hv:ρ y=v)(hb:v.jt=true):mo P (.box T y) ρ (h++l)=some (.ptr (h.length+l.length) 0, .push (.cells v.cells)):=by
 subst hv;unfold mo;simp only[hb,cond_true,arz]
theorem PO{ρ:Operand->AV}{h l:asn ao}{T:TypeId}(hz:(iR P T).isSome=true):mo P (.alloc T) ρ (h++l)=some (.ptr (h.length+l.length) 0, .push (.cells (W2 P T))):=by
 unfold mo W2;cases e:iR P T with
 |none=>rw[e]at hz;cases hz
 |some z=>simp only[e,arz]
theorem KE{h l:asn ao}{B:ao}:(HD.push B).app (h++l)=h++(l++[B]):=by simp [HD.app]
theorem QA{ρ:Operand->AV}{h l:asn ao}{T:TypeId}{p y:Operand}{i off k:Nat}{cs:asn AV}{v:AV}(hp:ρ p= .ptr (h.length+i) off)(hi:l[i]?=some (.cells cs))(hk:fQ P T=some k)(hv:ρ y=v)(hb:(k==v.cells.length&&v.jt&&cp (off+v.cells.length) cs.length)=true){cm:asn AV}(gx:ib cs off v.cells=cm):
 mo P (.store T p y) ρ (h++l)=some (.d (.v undef), .set (h.length+i) (.cells cm)):=by
 subst hv gx;unfold mo;simp only[hp,hk];rw[arO (asd _ _),Nat.add_sub_cancel_left,hi];simp only[hb,cond_true]
theorem SD{ρ:Operand->AV}{h:asn ao}{T:TypeId}{a i:Operand}{xs:asn (asn D)}{q e k:Nat}{c:asn D}(hx:ρ a= .d (.sl xs))(hi:ρ i= .d (.v (.int .i64 (Int.ofNat q))))(hT:et P T=some (e,k))(hc:xs[q]?=some c)(hk:(c.length==k)=true):mo P (.indexAddr T a i) ρ h=some (.bP [c] 0 0, .same):=by
 unfold mo;simp only[hx,hi];unfold H8;simp only[hT,AV.fe,AV.int?,zN,hc,hk,cond_true,pX]
theorem Tk{h l:asn ao}{B:ao}{i:Nat}:(HD.set (h.length+i) B).app (h++l)=h++l.set i B:=by
 simp only[HD.app];rw[List.set_append_right _ _ (asd _ _),Nat.add_sub_cancel_left]
theorem Gp{n d:Nat}{t:asn (Nat×AV)}{h:asn ao}{T:TypeId}{x y:Operand}{p:TypeId}{xs:asn (asn D)}{q:TypeId×Nat}(ho:o.op= .binOp .eql T x y p)(hx:(ev ⟨n,t,h⟩ x).fe=some xs)(hy:ev ⟨n,t,h⟩ y= .d (.v (.slice none 0 0)))(hT:et P T=some q)(jI:o.dst=some d)(hn:Nat.ble n d=false)
 (h1:xs=[]->K ⟨n,(d, .d (.v (.bool true)))::t,h⟩) (h2:K ⟨n,(d, .d (.v (.bool false)))::t,h⟩):o9 P o K ⟨n,t,h⟩:=by
 refine .inr (.inl ?_);have aS:d<n:=Nat.lt_of_not_le λhle=>by rw[Nat.ble_eq_true_of_le hle]at hn;cases hn
 unfold Hu;simp only[ho,hx,hy,hT,zg,jI,ru (s:=⟨n,t,h⟩) aS];exact⟨h1,h2⟩
theorem Iq{n d k:Nat}{t:asn (Nat×AV)}{h:asn ao}{c:Call}{f:Operand}{x:AV}(ho:o.op= .call c)(hc:c.callee= .value f)(hf:ev ⟨n,t,h⟩ f= .dc k)(hx:c.args.toList.map (ev ⟨n,t,h⟩)=[x])(jI:o.dst=some d)(hn:Nat.ble n d=false)
 (hy:YS P k x h λb h'=>K ⟨n,(d, .d (.v (.bool b)))::t,h'⟩):o9 P o K ⟨n,t,h⟩:=by
 refine .inr (.inr (.inr (.inl ?_)));unfold NY;simp only[ho,hc,hf,hx];refine hy.mono λb h' hK=> ?_;have aS:d<n:=Nat.lt_of_not_le λhle=>by rw[Nat.ble_eq_true_of_le hle]at hn;cases hn
 rw[jI,ru (s:=St.wh ⟨n,t,h⟩ h') aS];exact hK
theorem XR{n:Nat}{t:asn (Nat×AV)}{h:asn ao}{c:Call}{f:Operand}{g:FuncId}{dF:asn AV}(ho:o.op= .call c)(hc:c.callee= .value f)(hf:ev ⟨n,t,h⟩ f= .fn g dF)
 (hA:cG P g (c.args.toList.map (ev ⟨n,t,h⟩)++dF) h λx h'=>K ((St.wh ⟨n,t,h⟩ h').put o.dst x)):o9 P o K ⟨n,t,h⟩:=by
 refine .inr (.inr (.inl ?_));unfold qH cC;simp only[ho,hc,hf];exact hA
end
theorem ama{P:asq}{f:FuncId}{args:asn AV}{H:asn ao}{K:AV->asn ao->Prop}(hc:cG P f args H K)(e:asn ao)(hb:H.all (ao.aQ H.length)=true)(ha:args.all (AV.aQ H.length)=true)
 (hK:∀r h',K r h'->h'.length=H.length/\h'.all (ao.aQ H.length)=true/\r.aQ H.length=true):cG P f args (H++e) λr h'=>∃H',K r H'/\h'=H'++e:=by
 have yG:∀i,i<H.length->rn (List.range H.length) (H++e).length i=i:=λi h=>B9 (List.range H.length) _ i i (by rw[List.getElem?_range h]);have NJ:∀y:AV,y.aQ H.length=true->y.aN (rn (List.range H.length) (H++e).length)=y:=λy hy=>(xP (τ:=id) yG y hy).trans (Gz y);have FX:∀B:ao,B.aQ H.length=true->B.aN (rn (List.range H.length) (H++e).length)=B:=λB hB=>(Sk (τ:=id) yG B hB).trans (QJ B);have:=hc.abq (l:=List.range H.length) (h:=H++e) List.nodup_range (λj hj=>by have:=List.mem_range.1 hj;simp;omega) (λi j rf=>by
  obtain⟨aS,rfl⟩:i<H.length/\j=i:=by
   have h1:=(ary.1 rf).1;rw[List.length_range]at h1;rw[List.getElem?_range h1]at rf;exact⟨h1,(arR rf).symm⟩
  rw[arI aS,arC aS,Option.map_some,FX _ (arY.1 hb _ (List.getElem_mem aS))]) (by simp) ha hb
 have ea:args.map (AV.aN (rn (List.range H.length) (H++e).length))=args:=(ar3 λx hx=>NJ x (arY.1 ha x hx)).trans (List.map_id _);rw[ea]at this;refine this.mono λr' h' ⟨r,H',k1,k2,k3⟩=> ?_;obtain⟨c1,c2,c3⟩:=hK r H' k1;have hm:H'.map (ao.aN (rn (List.range H.length) (H++e).length))=H':=(ar3 λB hB=>FX B (arY.1 c2 B hB)).trans (List.map_id _);rw[hm,Zz H' H e c1]at k3;rw[NJ r c3]at k2;exact⟨H',by rw[k2];exact k1,k3⟩
theorem apU{h:asn ao}{p:AV}{K K':asn AV->Nat->Prop}(hk:∀cs off,K cs off->K' cs off)(hp:sA h p K):sA h p K':=by
 unfold sA at hp ⊢;split at hp
 ·next n off=>
  split at hp
  ·next cs e=>(try simp only[e]);exact hk _ _ hp
  ·exact hp.elim
 ·next xs i off=>
  split at hp
  ·next cs e=>(try simp only[e]);exact hk _ _ hp
  ·exact hp.elim
 ·exact hp.elim
theorem afh{P:asq}{T:TypeId}{h:asn ao}{p:AV}{K K':AV->Prop}(hk:∀x,K x->K' x)(hp:oK P T h p K):oK P T h p K':=
 apU (λcs off hc=>by
  split at hc
  ·next k e1 e2=>
   try simp only[e1,e2]
   exact b6.2 ⟨(b6.1 hc).1,hk _ (b6.1 hc).2⟩
  ·next k e1 e2=>
   try simp only[e1,e2]
   split at hc
   ·next c e3=>(try simp only[e3]);exact hk _ hc
   ·exact hc.elim
  ·exact hc.elim) hp
theorem ag3{P:asq}{fn:Func}{n:Nat}{t:asn (Nat×AV)}{H l:asn ao}{K:AV->asn ao->Prop}(hb:H.all (ao.aQ H.length)=true)(hr:nr P ⟨n,t,H++l⟩ fn.results.toList λrs=>((jK rs).bG H.length).aQ H.length=true/\K ((jK rs).bG H.length) H):rK P fn H.length K ⟨n,t,H++l⟩:=by
 have ht:(((H++l).take H.length).map (ao.bG H.length))=H:=by rw[List.take_left];exact TC hb
 unfold rK;show nr P ⟨n,t,H++l⟩ fn.results.toList λrs=>H.length<=(H++l).length/\_;simp only[ht];have gen:∀(rv:asn ResultVar){C C':asn AV->Prop},(∀x,C x->C' x)->nr P ⟨n,t,H++l⟩ rv C->nr P ⟨n,t,H++l⟩ rv C':=by
  intro rv
  induction rv with
  |nil=>intro C C' hc h;exact hc _ h
  |cons x rv ih=>
   intro C C' hc h;cases x with
   |tmp t=>exact ih (λy hy=>hc _ hy) h
   |cell p t=>exact afh (λx h=>ih (λy hy=>hc _ hy) h) h
 exact gen _ (λrs ⟨h1,h2⟩=>⟨by simp,h1,hb,h2⟩) hr
theorem FZ{n:Nat}{t:asn (Nat×AV)}{H l:asn ao}(live:asn Nat)(hb:H.all (ao.aQ H.length)=true):(⟨n,t,H++l⟩:St).mask live H.length=⟨n,live.map λk=>(k,(bw t k).bG H.length),H⟩:=by
 unfold St.mask;rw[show((H++l).take H.length).map (ao.bG H.length)=H by rw[List.take_left];exact TC hb]
theorem Dl{n:Nat}{t:asn (Nat×AV)}{H l:asn ao}(live:asn Nat)(hb:H.all (ao.aQ H.length)=true)(hl:(live.all λk=>((bw t k).bG H.length).aQ H.length)=true):(⟨n,t,H++l⟩:St).AA live H.length:=
 ⟨by simp,hl,by rw[show((H++l).take H.length).map (ao.bG H.length)=H by rw[List.take_left];exact TC hb];exact hb⟩
theorem YL{n:Nat}{t:asn (Nat×AV)}{H:asn ao}(live:asn Nat)(hb:H.all (ao.aQ H.length)=true):(⟨n,t,H⟩:St).mask live H.length=⟨n,live.map λk=>(k,(bw t k).bG H.length),H⟩:=by
 have:=FZ (n:=n) (t:=t) (l:=[]) live hb
 rwa [arT]at this
theorem ace{n:Nat}{t:asn (Nat×AV)}{H:asn ao}(live:asn Nat)(hb:H.all (ao.aQ H.length)=true)(hl:(live.all λk=>((bw t k).bG H.length).aQ H.length)=true):(⟨n,t,H⟩:St).AA live H.length:=by
 have:=Dl (n:=n) (t:=t) (l:=[]) live hb hl
 rwa [arT]at this
theorem Iu{k m:Nat}(h:k<m):((AV.dc k).bG m).aQ m=true:=by simp [AV.bG,AV.aQ,cp];omega
structure Jz(s:St)(m:Nat)(s':St):Prop where
 cut:∀{G:Gh}{w:World}{a:Act},cN G w a s->cN (G.cut m) w a s'
theorem Jz.S{s s':St}{live:asn Nat}{m:Nat}(h:jE s live m=some s'):Jz s m s':=⟨λhs=>hs.jE h⟩
theorem ai2{P:asq}{r:asp Nat}{N0 m:Nat}{c:Code}{s:St}{R R':Exit->St->Prop}(hm:N0<=m)(h:bJ P r N0 c R s)(hR:∀e s2,R e s2->∃s',Jz s2 m s'/\R' e s'):bJ P r N0 c R' s:=by
 constructor
 intro G w a n hs hN;refine wpIn_mono (h.run G w a n hs hN) λe a1 w1 hn=> ?_;obtain⟨G1,s1,hE,_,eQ,hq⟩:=hn;obtain⟨s',k1,k2⟩:=hR e s1 hq;exact⟨G1.cut m,s',hE.trans (p5 _ _ _ _),hm,k1.cut eQ,k2⟩
def HO(m:Nat)(n:Nat)(T:asn (Nat×AV))(LP:ao)(next:asn ao->Prop)(Q:Exit->St->Prop)(e:Exit)(s:St):Prop:=
 ∃hs,hs.length=m/\hs.all (ao.aQ (m+1))=true/\Jz s (m+1) ⟨s.n,[],hs++[LP]⟩/\match e with
  | .normal=>next hs
  | .ret=>Q .ret ⟨n,T,hs++[.gone]⟩
  | .exit i=>Q (.exit i) ⟨n,T,hs++[.gone]⟩
  |_=>False
theorem UE{P:asq}{N0 n m:Nat}{T:asn (Nat×AV)}{H:asn ao}{Q:Exit->St->Prop}{g:Operand}{p:Nat}{as bd:Code}{gf:FuncId}{dF:asn AV}(hg:ev ⟨n,T,H⟩ g= .fn gf dF){α:Type}{enc:α->AV}{xs:asn α}(hI:Ps P gf dF (xs.map enc))
 {ι:Type} (Hs:ι->asn ao) (I:ι->asn α->Prop) (i0:ι) (h0:H=Hs i0) (sC:I i0 xs) (hl:∀i,(Hs i).length=m) (qe:∀i,(Hs i).all (ao.aQ (m+1))=true) (hT:(ee n T).all (AV.aQ (m+1))=true) (hp:Nat.ble n p=false)
 (round:∀i x l,I i (x::l)->∀(rr:Nat)(a b:Code),bJ P (some rr) (m+1) as (ik (λs1=>∃hs e,hs.length=m/\s1.h=hs++ .lp .ready p a b (ee n T)::e/\
  bJ P (some rr) (m+1) bd (HO m n T (.lp .busy p a b (ee n T)) (λct=>∃i',ct=Hs i'/\I i' l) Q) ⟨s1.n,s1.t,hs++ .lp .busy p a b (ee n T)::e⟩) (λ_ _=>False)) ⟨n,(p,enc x)::mg 0 (ee n T),Hs i++[.lp .ready p a b (ee n T)]⟩)
 (done:∀i,I i []->Q .normal ⟨n,T,Hs i++[.gone]⟩):bJ P none N0 (.rangeFunc g #[p] as bd) Q ⟨n,T,H⟩:=by
 subst h0;have hm:(Hs i0).length=m:=hl i0;have hnl:(ee n T).length=n:=by simp [ee]
 have Mo:∀ls,(ao.lp ls p as bd (ee n T)).aQ (m+1)=true:=λls=>hT;refine aoV hg ?_;show cG P gf (.dc (Hs i0).length::dF) (Hs i0++[.lp .ready p as bd (ee n T)]) _;have Ab:∀(hs:asn ao)(B B':ao),hs.length=m->(hs++[B]).set m B'=hs++[B']:=λhs B B' h=>by
  rw[List.set_append_right _ _ (Nat.le_of_eq h),h,Nat.sub_self];rfl
 have eN:∀(hs:asn ao)(B:ao)(e:asn ao),hs.length=m->(hs++B::e)[m]?=some B:=λhs B e h=>by
  rw[arO (Nat.le_of_eq h),h,Nat.sub_self];rfl
 have seq:∀(l:asn α)(i:ι),I i l->mQ P m (l.map enc) (λb h1=>∃(hs:asn ao)(ls:LS),hs.length=m/\h1=hs++[.lp ls p as bd (ee n T)]/\Sn P N0 Q ⟨n,T,hs++[.gone]⟩ ls) (Hs i++[.lp .ready p as bd (ee n T)]):=by
  intro l
  induction l with
  |nil=>intro i hi;exact⟨Hs i, .ready,hl i,rfl,done i hi⟩
  |cons x l ih=>
   intro i hi;have hlen:(Hs i++[ao.lp .ready p as bd (ee n T)]).length=m+1:=by simp [hl i]
   refine aeG ⟨p,as,bd,ee n T,eN _ _ [] (hl i),?_,λrr=> ?_⟩
   ·rw[hnl];exact Nat.lt_of_not_le λhle=>by rw[Nat.ble_eq_true_of_le hle]at hp;cases hp
   ·rw[hlen,hnl];refine(round i x l hi rr as bd).mono λe s1 eQ=> ?_;cases e with
    |normal=>
     obtain⟨hs,e',k1,k2,k3⟩:=eQ;refine⟨p,as,bd,ee n T,by rw[k2];exact eN _ _ _ k1,?_⟩;have hse:s1.h.set m (.lp .busy p as bd (ee n T))=hs++ .lp .busy p as bd (ee n T)::e':=by
      rw[k2,List.set_append_right _ _ (Nat.le_of_eq k1),k1,Nat.sub_self];rfl
     rw[hse];refine ai2 (arJ _) k3 λe2 s2 hr=> ?_;obtain⟨Ce,c2,c5,c3,c4⟩:=hr;refine⟨_,c3,?_⟩;have fq:∀B,B.aQ (m+1)=true->(Ce++[B]).all (ao.aQ (m+1))=true:=λB hB=>by
       rw[List.all_append,c5];simp [hB]
     have Dj:(Ce++[ao.lp .busy p as bd (ee n T)])[m]?=some (.lp .busy p as bd (ee n T)):=eN _ _ [] c2;cases e2 with
     |normal=>
      obtain⟨i',rfl,dN⟩:=c4;refine⟨p,as,bd,ee n T,Dj,?_⟩;simp only[Ab _ _ _ c2];exact⟨⟨by simp [hl],fq _ (Mo _)⟩,ih i' dN⟩
     |ret=>
      refine⟨p,as,bd,ee n T,Dj,?_⟩;simp only[Ab _ _ _ c2];exact⟨⟨by simp [c2],fq _ (Mo _)⟩,Ce, .done .ret,c2,rfl,eG c4⟩
     |exit j=>
      refine⟨p,as,bd,ee n T,Dj,?_⟩;simp only[Ab _ _ _ c2];exact⟨⟨by simp [c2],fq _ (Mo _)⟩,Ce, .done (.exit j),c2,rfl,n4 c4⟩
     |_=>exact c4.elim
    |_=>exact eQ.elim
 have aaN:(Hs i0++[ao.lp .ready p as bd (ee n T)]).length=m+1:=by simp [hm]
 refine(hI (Hs i0).length _ _ (by rw[aaN,List.all_append,qe i0];simp [Mo]) (by rw[aaN,hm];exact asl m) (by rw[hm];exact seq xs i0 sC)).mono λ_ h1 hb=> ?_;obtain⟨b,hs,ls,k1,rfl,k2⟩:=hb;refine⟨ls,p,as,bd,ee n T,?_,?_⟩
 ·show(hs++[ao.lp ls p as bd (ee n T)])[(Hs i0).length]?=_;rw[hm];exact eN _ _ [] k1
 ·show Sn P N0 Q ⟨n,T,(hs++[ao.lp ls p as bd (ee n T)]).set (Hs i0).length .gone⟩ ls;rw[hm,Ab _ _ _ k1];exact k2
section
variable {m n:Nat} {T:asn (Nat×AV)} {LP:ao} {next:asn ao->Prop} {Q:Exit->St->Prop} {s:St}
theorem Ua(hs:asn ao)(hl:hs.length=m)(hb:hs.all (ao.aQ (m+1))=true)(hc:jE s [] (m+1)=some ⟨s.n,[],hs++[LP]⟩)(hn:next hs):HO m n T LP next Q .normal s:=⟨hs,hl,hb, .S hc,hn⟩
theorem aaw(hs:asn ao)(hl:hs.length=m)(hb:hs.all (ao.aQ (m+1))=true)(hc:jE s [] (m+1)=some ⟨s.n,[],hs++[LP]⟩)(hq:Q .ret ⟨n,T,hs++[.gone]⟩):HO m n T LP next Q .ret s:=⟨hs,hl,hb, .S hc,hq⟩
theorem ali{i:Nat}(hs:asn ao)(hl:hs.length=m)(hb:hs.all (ao.aQ (m+1))=true)(hc:jE s [] (m+1)=some ⟨s.n,[],hs++[LP]⟩)(hq:Q (.exit i) ⟨n,T,hs++[.gone]⟩):HO m n T LP next Q (.exit i) s:=⟨hs,hl,hb, .S hc,hq⟩
end
set_option linter.unusedSimpArgs false
set_option linter.unusedVariables false
abbrev Lf:=St×asn Nat×asn (Nat×asn (In×cd))
def uS(go:Nat->asp (asn Lf)):asn Nat->asp (asn Lf)
 |[]=>some []
 |k::r=>match go k with
  |some a=>match uS go r with
   |some b=>some (a++b)
   |none=>none
  |none=>none
def Bm(P:asq)(ops:Array Oper)(A C:asn Nat)(as:asn (Nat×cd)):Nat->Nat->asn Nat->asn (Nat×asn (In×cd))->St->asp (asn Lf)
 |0,L,al,acc,s=>match tA A L 0 with
  |[]=>some [(s,al,acc)]
  |_=>none
 |f+1,L,al,acc,s=>match tA A L 0 with
  |[]=>some [(s,al,acc)]
  |k0::r=>uS (λk=>match ops[k]? with
     |some o=>match oh P ops true o k as s with
      |some (s1,l)=>fN (L|||(1<<<k)) λL=>Bm P ops A C as f L (al++List.replicate (s1.h.length-s.h.length) k) ((k,l)::acc) s1
      |none=>none
     |none=>none) (match Ed C L (k0::r)with
      |some k=>[k]
      |none=>k0::r)
theorem W1{go:Nat->asp (asn Lf)}:∀{l:asn Nat}{ls:asn Lf},uS go l=some ls->∀k∈l,∃a,go k=some a/\∀x∈a,x∈ls
 |[],_,_,k,hk=>by cases hk
 |j::r,ls,h,k,hk=>by
  unfold uS at h;split at h
  ·next a e1=>
   split at h
   ·next b e2=>
    cases h
    rcases ar2.1 hk with rfl|hk
    ·exact⟨a,e1,λx hx=>List.mem_append_left _ hx⟩
    ·obtain⟨a',e3,h3⟩:=W1 e2 k hk;exact⟨a',e3,λx hx=>List.mem_append_right _ (h3 x hx)⟩
   ·cases h
  ·cases h
section
variable {P:asq} {ops:Array Oper} {as:asn (Nat×cd)} {K:St->Prop} {s0:St}
theorem akE{o:Oper}{j:Nat}{dr:Bool}{s s1:St}{l:asn (In×cd)}(h:oh P ops dr o j as s=some (s1,l))(ho:o∈ops.toList)(hB:lO (oz ops.toList) s0 s):lO (oz ops.toList) s0 s1:=by
 have cI:∀{i a r l},uI i a r=some (s1,l)->∃m,r=some (s1,m):=fun{i a r l} h=>by
  unfold uI at h;split at h
  ·exact⟨_,h⟩
  ·split at h
   ·cases h;exact⟨_,rfl⟩
   ·cases h
 have cR:∀{m r l},rJ m r=some (s1,l)->∃m,r=some (s1,m):=fun{m r l} h=>by
  unfold rJ at h;split at h
  ·cases h;exact⟨_,rfl⟩
  ·cases h
 have hsk:lO (oz ops.toList) s0 (Ep o s):=hB.put s.h (.d (.v undef)) (MF ho);have st:∀l,rR P dr o j as s=some (s1,l)->lO (oz ops.toList) s0 s1:=λl h=>by
  unfold rR at h;cases hd:dr&&Hi (jk as (3*j+1))&& !AM o (jk as (3*j+1))with
  |true=>rw[hd]at h;cases h
  |false=>
   rw[hd]at h;simp only[cond_false]at h;split at h
   ·split at h<;>(obtain⟨m,e⟩:=cI h;cases e;exact hB.put _ _ (MF ho))
   ·cases h
 unfold oh at h;split at h
 ·exact st _ h
 ·split at h
  ·obtain⟨m,e⟩:=cR h;revert e;generalize ((_:Bool)==_)=q;intro e;cases q with
   |true=>exact st _ e
   |false=>cases e;exact hsk
  ·obtain⟨m,e⟩:=cR h;cases e;exact hsk
  ·cases h
theorem adA(hK:vC K)(hM:tM (Region.before ops) ops=true)(t0:asn (Nat×AV)):
 ∀(fuel L:Nat)(listed:Array Bool)(al:asn Nat)(acc:asn (Nat×asn (In×cd)))(s:St)(ls:asn Lf),LM ops L listed->Dn ops listed->Bm P ops (sU ops 0 ops.size) (rO ops false (Region.before ops) 0 ops.size) as fuel L al acc s=some ls->
  (∃x,x∈ls)/\(∀x∈ls,(∀p∈acc,p∈x.2.2)/\((∃pre,s.t=pre++t0)->∃pre,x.1.t=pre++t0)/\(lO (oz ops.toList) s0 s->lO (oz ops.toList) s0 x.1))/\((∀x∈ls,(∀p∈x.2.2,ie P p.2)/\K x.1)->oH false P ops K fuel listed s)
 |0,L,listed,al,acc,s,ls,hL,hD,h=>by
  unfold Bm at h;split at h
  ·next hr=>
   cases h
   refine⟨⟨_,arE⟩,λx hx=> ?_,λhk=>⟨?_,(hk _ arE).2⟩⟩
   ·rw[List.mem_singleton]at hx;subst hx;exact⟨λ_ h=>h,λh=>h,λh=>h⟩
   ·rw[List.eq_nil_iff_forall_not_mem];intro i hi;have:=(hL.ready i).1 hi;rw[hr]at this;cases this
  ·cases h
 |fuel+1,L,listed,al,acc,s,ls,hL,hD,h=>by
  have mem:∀{k:Nat}{o:Oper},ops[k]?=some o->o∈ops.toList:=λho=>Array.mem_toList_iff.2 (Array.mem_of_getElem? ho);unfold Bm at h;split at h
  ·next hr=>
   cases h
   refine⟨⟨_,arE⟩,λx hx=> ?_,λhk=>⟨λ_=>(hk _ arE).2,λi hi=> ?_⟩⟩
   ·rw[List.mem_singleton]at hx;subst hx;exact⟨λ_ h=>h,λh=>h,λh=>h⟩
   ·have:=(hL.ready i).1 hi;rw[hr]at this;cases this
  ·next k0 r hr=>
   generalize hgo:(λk:Nat=>(match ops[k]? with
    |some o=>match oh P ops true o k as s with
     |some (s1,l)=>fN (L|||(1<<<k)) λL=>Bm P ops (sU ops 0 ops.size) (rO ops false (Region.before ops) 0 ops.size) as fuel L (al++List.replicate (s1.h.length-s.h.length) k) ((k,l)::acc) s1
     |none=>none
    |none=>none:asp (asn Lf)))=go at h
   have one:∀k a,k∈Region.ready .any ops listed->go k=some a->∃o s1 l,ops[k]?=some o/\oh P ops true o k as s=some (s1,l)/\(∃x,x∈a)/\(∀x∈a,(∀p∈(k,l)::acc,p∈x.2.2)/\((∃pre,s.t=pre++t0)->∃pre,x.1.t=pre++t0)/\(lO (oz ops.toList) s0 s->lO (oz ops.toList) s0 x.1))/\
       ((∀x∈a,(∀p∈x.2.2,ie P p.2)/\K x.1)->∃y h1,nI false P ops o s y h1/\oH false P ops K fuel (listed.setIfInBounds k true) ((s.wh h1).put o.dst y)):=λk a KS uL=>by
    rw[<-hgo]at uL;simp only at uL;split at uL
    ·next o ho=>
     split at uL
     ·next s1 l hg=>
      rw[DF]at uL;obtain⟨h1,h2,h3⟩:=adA hK hM t0 fuel _ _ _ _ s1 a (hL.set (arN.1 ho).1) (hD.set KS) uL;refine⟨o,s1,l,ho,hg,h1,λx hx=>⟨(h2 x hx).1,fun⟨pre,hp⟩=> ?_,λhB=>(h2 x hx).2.2 (akE hg (mem ho) hB)⟩,λhk=> ?_⟩
      ·obtain⟨⟨p1,e1⟩,_⟩:=VY hg;exact(h2 x hx).2.1 ⟨p1++pre,by rw[e1,hp,arP]⟩
      ·obtain⟨x,hx⟩:=h1;have hl:ie P l:=(hk x hx).1 (k,l) ((h2 x hx).1 _ arE);have h4:=SG (K:=(·=s1)) hg hl rfl;have h5:=h3 hk;have:∃y h1,nI false P ops o s y h1/\(s.wh h1).put o.dst y=s1:=by
        rcases TZ h4 with⟨g,hd⟩|⟨g,hd⟩
        ·obtain⟨y,h1,h2,h3⟩:=SW hd;exact⟨y,h1, .inl ⟨g,h2⟩,h3⟩
        ·exact⟨_,s.h, .inr ⟨g,rfl,rfl⟩,hd⟩
       obtain⟨y,hh,q1,rfl⟩:=this;exact⟨y,hh,q1,h5⟩
     ·cases uL
    ·cases uL
   cases hf:Ed (rO ops false (Region.before ops) 0 ops.size) L (k0::r)with
   |some k=>
    rw[hf]at h;obtain⟨tY,Me⟩:=ab5 hf;have KS:k∈Region.ready .any ops listed:=(hL.ready k).2 (by rw[hr];exact tY);unfold uS at h;split at h
    ·next a e1=>
     unfold uS at h;simp only[arT]at h;cases h
     obtain⟨o,s1,l,ho,hg,h1,h2,h3⟩:=one k _ KS e1;refine⟨h1,λx hx=>⟨λp hp=>(h2 x hx).1 p (arH _ hp),(h2 x hx).2⟩,λhk=> ?_⟩;obtain⟨y,hh,q1,q2⟩:=h3 hk;refine Qy hK hM ho fuel listed s hD (λj oj hj cP tE y5=> ?_) KS q1 q2;have VS:=(arN.1 hj).1;have GL:=(arN.1 ho).1;have ahh:Nat.testBit L j=false:=by
      rw[hL.b];have jz:j<listed.size:=by rw[hL.sz];exact VS
      simpa [jz]using tE
     have Cw:Nat.testBit (C5 ops false (Region.before ops) k) j=false:=by
      rw[<-Bool.not_eq_true];intro hc;have h5:(rO ops false (Region.before ops) 0 ops.size).getD k 0=C5 ops false (Region.before ops) k:=by
        rw[List.getD_eq_getElem?_getD,Zt,if_pos GL,arS];rfl
      rw[h5]at Me;have:=congrArg (λn=>Nat.testBit n j) Me;simp only[Nat.testBit_or,hc,ahh]at this;cases this
     unfold C5 at Cw;rw[KJ]at Cw;unfold cfB at Cw;rw[y5,ho,hj]at Cw;simp [VS,cP]at Cw;exact Cw
    ·cases h
   |none=>
    rw[hf]at h;have abh:=W1 h;have Tn:k0∈Region.ready .any ops listed:=(hL.ready k0).2 (by rw[hr];simp);have back:∀(l:asn Nat)(ls:asn Lf),uS go l=some ls->∀x∈ls,∃k∈l,∃a,go k=some a/\x∈a:=by
      intro l
      induction l with
      |nil=>intro ls h x hx;cases h;cases hx
      |cons j r ih=>
       intro ls h x hx;unfold uS at h;split at h
       ·next a e1=>
        split at h
        ·next b e2=>
         cases h
         rcases asa.1 hx with hx|hx
         ·exact⟨j,arE,a,e1,hx⟩
         ·obtain⟨k,hk,a',h1,h2⟩:=ih b e2 x hx;exact⟨k,arH _ hk,a',h1,h2⟩
        ·cases h
       ·cases h
    refine⟨?_,λx hx=> ?_,λhk=>⟨λe=>(by rw[e]at Tn;cases Tn),λi hi oi Vp=> ?_⟩⟩
    ·obtain⟨a,e1,h1⟩:=abh k0 arE;obtain⟨o,s1,l,ho,hg,⟨x,hx⟩,_⟩:=one k0 a Tn e1;exact⟨x,h1 x hx⟩
    ·obtain⟨k,hk,a,e1,Vx⟩:=back _ _ h x hx;obtain⟨o,s1,l,ho,hg,h1,h2,h3⟩:=one k a ((hL.ready k).2 (by rw[hr];exact hk)) e1;exact⟨λp hp=>(h2 x Vx).1 p (arH _ hp),(h2 x Vx).2⟩
    ·have dN:i∈k0::r:=by rw[<-hr];exact(hL.ready i).1 hi
     obtain⟨a,e1,h1⟩:=abh i dN;obtain⟨o,s1,l,ho,hg,_,_,h3⟩:=one i a hi e1;rw[ho]at Vp;cases Vp;exact h3 λx hx=>hk x (h1 x hx)
end
def Rg(k:Nat):asn Nat->Nat
 |[]=>0
 |j::l=>bif cp (j+1) k then Rg k l+1 else Rg k l
def R5(k:Nat):asn Nat->Nat
 |[]=>0
 |j::l=>bif j==k then R5 k l+1 else R5 k l
def Qn(h0:Nat)(all:asn Nat):asn Nat->asn Nat->asn Nat
 |_,[]=>[]
 |pre,k::l=>fN (h0+Rg k all+R5 k pre) λq=>q::Qn h0 all (k::pre) l
def UK(q:Nat):asn Nat->Nat->Nat
 |[],i=>i
 |x::l,i=>bif x==q then i else UK q l (i+1)
def Re(h0:Nat)(p:asn Nat):Nat->Nat->asn Nat
 |0,_=>[]
 |n+1,q=>fN (UK q p h0) λi=>i::Re h0 p n (q+1)
def DW(a:Nat×asn (In×cd)):asn (Nat×asn (In×cd))->asn (Nat×asn (In×cd))
 |[]=>[a]
 |b::l=>bif cp a.1 b.1 then a::b::l else b::DW a l
def FJ:asn (Nat×asn (In×cd))->asn (Nat×asn (In×cd))
 |[]=>[]
 |a::l=>DW a (FJ l)
def I5:asn (Nat×asn (In×cd))->asn (In×cd)
 |[]=>[]
 |a::l=>a.2++I5 l
def tf(p q:asn Nat)(h0:Nat)(h:asn ao):Nat->Nat->asn ao
 |0,_=>[]
 |n+1,i=>(match h[fk h0 q i]? with|some B=>B.aN (fk h0 p)|none=> .gone)::tf p q h0 h n (i+1)
def BB(h0:Nat)(p:asn Nat):Bool:=(List.range p.length).all λi=>p.getD i 0==h0+i
theorem ahz{h0:Nat}{p:asn Nat}(h:BB h0 p=true):fk h0 p=id:=by
 funext i
 unfold fk;cases e:cp h0 i with
 |false=>rfl
 |true=>
  rw[dJ]at e;simp only[cond_true,id];by_cases hi:i-h0<p.length
  ·unfold BB at h;rw[arY]at h;have:=h (i-h0) (List.mem_range.2 hi);rw[beq_iff_eq,List.getD_eq_getElem?_getD,arC hi]at this;rw[List.getD_eq_getElem?_getD,arC hi];simp only[Option.getD_some]at this ⊢;omega
  ·rw[List.getD_eq_getElem?_getD,ar4 (by omega)];rfl
def WI(bj:asn Nat)(s:St)(x:Lf)(p q:asn Nat):asp (asn (Nat×AV)×asn ao×asn (In×cd)):=
 bif (x.1.t.take (x.1.t.length-s.t.length)).all (λp=>bj.any (·==p.1)||Xj (bw s.t p.1))&&(List.range x.1.h.length).all (λi=>cp (fk s.h.length p i+1) x.1.h.length&&cp (fk s.h.length q i+1) x.1.h.length&&fk s.h.length q (fk s.h.length p i)==i&&fk s.h.length p (fk s.h.length q i)==i)
 then some (bj.map λk=>(k,(bw x.1.t k).aN (fk s.h.length p)),bif BB s.h.length p then x.1.h else tf p q s.h.length x.1.h x.1.h.length 0,I5 (FJ x.2.2))else none
def NZ(bj:asn Nat)(s:St)(x:Lf):asp (asn (Nat×AV)×asn ao×asn (In×cd)):=
 fL (Qn s.h.length x.2.1 [] x.2.1) λp=>fL (Re s.h.length p p.length s.h.length) λq=>WI bj s x p q
def N3(bj:asn Nat)(s:St):asn Lf->asp (asn (asn (Nat×AV)×asn ao×asn (In×cd)))
 |[]=>some []
 |x::l=>match NZ bj s x with
  |some a=>match N3 bj s l with
   |some b=>some (a::b)
   |none=>none
  |none=>none
def A6(P:asq)(ol:asn Oper)(as:asn (Nat×cd))(bj:asn Nat)(s:St):asp (asn (asn (Nat×AV)×asn ao×asn (In×cd))):=
 bif tM (Region.before ol.toArray) ol.toArray then fL (sU ol.toArray 0 ol.toArray.size) λA=>fL (rO ol.toArray false (Region.before ol.toArray) 0 ol.toArray.size) λC=>
  match Bm P ol.toArray A C as ol.toArray.size 0 [] [] s with
  |some ls=>N3 bj s ls
  |none=>none
 else none
theorem aah{bj:asn Nat}{s:St}:∀{ls:asn Lf}{r},N3 bj s ls=some r->∀x∈ls,∃a∈r,NZ bj s x=some a
 |[],_,_,x,hx=>by cases hx
 |y::l,r,h,x,hx=>by
  unfold N3 at h;split at h
  ·next a e1=>
   split at h
   ·next b e2=>
    cases h
    rcases ar2.1 hx with rfl|hx
    ·exact⟨a,arE,e1⟩
    ·obtain⟨a',h1,h2⟩:=aah e2 x hx;exact⟨a',arH _ h1,h2⟩
   ·cases h
  ·cases h
theorem abj{a x:Nat×asn (In×cd)}:∀{l:asn (Nat×asn (In×cd))},x∈DW a l↔x=a\/x∈l
 |[]=>by simp [DW]
 |b::l=>by
  unfold DW;cases cp a.1 b.1 with
  |true=>simp
  |false=>
   simp only[cond_false,ar2,abj (l:=l)];constructor
   ·rintro(h|h|h)
    ·exact .inr (.inl h)
    ·exact .inl h
    ·exact .inr (.inr h)
   ·rintro(h|h|h)
    ·exact .inr (.inl h)
    ·exact .inl h
    ·exact .inr (.inr h)
theorem aa7{x:Nat×asn (In×cd)}:∀{l:asn (Nat×asn (In×cd))},x∈FJ l↔x∈l
 |[]=>by simp [FJ]
 |a::l=>by rw[FJ,abj,aa7 (l:=l),ar2]
theorem abn{P:asq}:∀{l:asn (Nat×asn (In×cd))},ie P (I5 l)->∀p∈l,ie P p.2
 |[],_,p,hp=>by cases hp
 |a::l,h,p,hp=>by
  unfold I5 at h;rcases ar2.1 hp with rfl|hp
  ·exact λq hq=>h q (List.mem_append_left _ hq)
  ·exact abn (λq hq=>h q (List.mem_append_right _ hq)) p hp
theorem adq{p q:asn Nat}{h0:Nat}{h:asn ao}:∀(n i j:Nat),(tf p q h0 h n i)[j]?=if j<n then some (match h[fk h0 q (i+j)]? with|some B=>B.aN (fk h0 p)|none=> .gone)else none
 |0,i,j=>by simp [tf]
 |n+1,i,0=>by simp [tf]
 |n+1,i,j+1=>by
  rw[tf,ar9,adq n (i+1) j];simp only[Nat.add_lt_add_iff_right];rw[show i+1+j=i+(j+1) by omega]
theorem Zv{p q:asn Nat}{h0:Nat}{h:asn ao}:∀(n i:Nat),(tf p q h0 h n i).length=n
 |0,_=>rfl
 |n+1,i=>by rw[tf,arB,Zv n]
theorem amn{P:asq}{ops:Array Oper}{N0:Nat}{bj:asn Nat}{s:St}{x:Lf}{Δ:asn (Nat×AV)}{h':asn ao}{ps:asn (In×cd)}(h:NZ bj s x=some (Δ,h',ps))(hN:N0<=s.h.length)(sZ:∀i,(bw s.t i).aQ s.h.length=true)
 (hn:x.1.n=s.n) (hp:∃pre,x.1.t=pre++s.t) (cf:ie P ps):iA N0 x.1 ⟨s.n,Δ++s.t,h'⟩/\∀p∈x.2.2,ie P p.2:=by
 unfold NZ at h;rw[De,De]at h;generalize Qn s.h.length x.2.1 [] x.2.1=p at h;generalize Re s.h.length p p.length s.h.length=q at h;unfold WI at h;obtain⟨hb,he⟩:=dT h;cases he
 rw[arA]at hb;obtain⟨hb,hc⟩:=hb;simp only[arY,List.mem_range,arA,beq_iff_eq,dJ]at hc;have zP:∀i,i<s.h.length->fk s.h.length p i=i:=λi hi=>by
   unfold fk;have:cp s.h.length i=false:=by rw[<-Bool.not_eq_true,dJ];omega
   rw[this];rfl
 refine⟨?_,λy hy=>abn cf y (aa7.2 hy)⟩;refine iA.aN (fk s.h.length p) (fk s.h.length q) hn (by
  cases BB s.h.length p with
  |true=>rfl
  |false=>exact Zv _ _) (λi hi=>(hc i hi).1.1.1) (λi hi=>(hc i hi).1.1.2) (λi hi=>(hc i hi).1.2) (λi hi=>(hc i hi).2) (λi hi=>zP i (by omega)) (λi _=> ?_) λi hi=> ?_
 ·obtain⟨pre,e1⟩:=hp;have F7:∀(f:Nat->AV),(bj.map λk=>(k,f k)).map (·.1)=bj:=λf=>by rw[List.map_map];exact List.map_id _
  show bw ((bj.map λk=>(k,(bw x.1.t k).aN (fk s.h.length p)))++s.t) i=_\/_;rcases D9 (bj.map λk=>(k,(bw x.1.t k).aN (fk s.h.length p))) s.t i with⟨h1,h2⟩|⟨h1,h2⟩
  ·rw[F7]at h1;rw[h2,rz (λk=>(bw x.1.t k).aN (fk s.h.length p)),if_pos h1];exact .inl rfl
  ·rw[F7]at h1;show _\/bw ((bj.map λk=>(k,(bw x.1.t k).aN (fk s.h.length p)))++s.t) i=_;rw[h2];rw[e1,arz,Nat.add_sub_cancel,List.take_left']at hb
   ·rw[e1];rcases D9 pre s.t i with⟨h3,h4⟩|⟨h3,h4⟩
    ·right
     obtain⟨y,hy,rfl⟩:=List.mem_map.1 h3;have:=arY.1 hb y hy;rw[Bool.or_eq_true]at this;rcases this with this|this
     ·exfalso;obtain⟨k,hk,e⟩:=List.any_eq_true.1 this;rw[beq_iff_eq]at e;exact h1 (e▸hk)
     ·generalize bw s.t y.1=z at this;cases z<;>first|rfl|cases this
    ·left
     rw[h4,xP (τ:=id) zP _ (sZ i),Gz]
   ·rfl
 ·show(bif BB s.h.length p then x.1.h else tf p q s.h.length x.1.h x.1.h.length 0)[fk s.h.length p i]?=_;cases hid:BB s.h.length p with
  |true=>rw[ahz hid];simp only[cond_true,id];rw[arC hi,Option.map_some,QJ]
  |false=>
  simp only[cond_false];rw[adq,if_pos (Nat.lt_of_succ_le (hc i hi).1.1.1),arS,(hc i hi).1.2,arC hi];rfl
theorem adz{P:asq}{ol:asn Oper}{as:asn (Nat×cd)}{bj:asn Nat}{s:St}{Δ:asn (Nat×AV)}{h':asn ao}{ps:asn (In×cd)}{m N0:Nat}{K:St->Prop}(h:A6 P ol as bj s=some (List.replicate m (Δ,h',ps)))(cf:ie P ps)(hN:N0<=s.h.length)(sZ:∀i,(bw s.t i).aQ s.h.length=true)(hK:Ld N0 K)(hk:K ⟨s.n,Δ++s.t,h'⟩):
 oH false P ol.toArray K ol.toArray.size (Array.replicate ol.toArray.size false) s:=by
 unfold A6 at h;obtain⟨hM,h⟩:=oT h;rw[De,De]at h;split at h
 ·next ls e1=>
  obtain⟨_,h2,h3⟩:=adA (s0:=s) hK.c hM s.t _ 0 (Array.replicate ol.toArray.size false) _ _ s ls ⟨by simp,λi=>by
   rw[Nat.zero_testBit,Array.getD_eq_getD_getElem?,Array.getElem?_replicate];split<;>rfl⟩ (λj o ho hj=>by
   exfalso;rw[Array.getD_eq_getD_getElem?]at hj;rw[Array.getElem?_replicate]at hj;split at hj<;>simp at hj) e1
  refine h3 λx hx=> ?_;obtain⟨a,ha,e2⟩:=aah h x hx;rw[List.mem_replicate]at ha;obtain⟨_,rfl⟩:=ha;obtain⟨k1,k2⟩:=amn (P:=P) (ops:=ol.toArray) e2 hN sZ ((h2 x hx).2.2 (lO.refl _ _)).n ((h2 x hx).2.1 ⟨[],rfl⟩) cf;exact⟨k2,hK _ _ k1 hk⟩
 ·cases h
section
variable {P:asq} {r:asp Nat} {N0 id n:Nat} {ol:asn Oper} {y:Code} {t:asn (Nat×AV)} {h:asn ao} {Q Q':Exit->St->Prop}
theorem rtE(m:Nat)(hm:P.follows .mixedOrders=true)(Δ:asn (Nat×AV))(h':asn ao)(e:∃aB:asn (Nat×Ob P),A6 P ol (iO aB) (Δ.map (·.1)) ⟨n,t,h⟩=some (List.replicate m (Δ,h',iE aB)))(k:bJ P r N0 y Q' ⟨n,Δ++t,h'⟩):bJ P r N0 (.region id ol.toArray true) (ik (λs=>bJ P r N0 y Q' s) Q) ⟨n,t,h⟩:=
 let ⟨aB,e⟩:=e
 aab hm λhN sZ=>adz e (tC aB) hN sZ (aaG _) ⟨_,iA.refl _ _,k⟩
theorem rt(m:Nat)(hm:P.follows .mixedOrders=true)(aB:asn (Nat×Ob P))(Δ:asn (Nat×AV))(h':asn ao)(e:A6 P ol (iO aB) (Δ.map (·.1)) ⟨n,t,h⟩=some (List.replicate m (Δ,h',iE aB)))(k:bJ P r N0 y Q' ⟨n,Δ++t,h'⟩):bJ P r N0 (.region id ol.toArray true) (ik (λs=>bJ P r N0 y Q' s) Q) ⟨n,t,h⟩:=rtE m hm Δ h' ⟨aB,e⟩ k
theorem rte(m:Nat)(hm:P.follows .mixedOrders=true)(aB:asn (Nat×Ob P))(Δ:asn (Nat×AV))(h':asn ao)(e:A6 P ol (iO aB) (Δ.map (·.1)) ⟨n,t,h⟩=some (List.replicate m (Δ,h',iE aB)))(k:Q .normal ⟨n,Δ++t,h'⟩):bJ P r N0 (.region id ol.toArray true) Q ⟨n,t,h⟩:=
 aab hm λhN sZ=>adz e (tC aB) hN sZ (aaG _) ⟨_,iA.refl _ _,k⟩
end
theorem zT{f:AV->AV}(hf:∀d,f (.d d)= .d d)(xs:asn (asn D)):(bn xs).map (·.map f)=bn xs:=by
 unfold bn;rw[List.map_map];refine ar3 λc _=> ?_;simp only[Function.comp,List.map_map];exact ar3 λd _=>hf d
theorem EN(xs:asn (asn D)):(bn xs).length=xs.length:=by unfold bn;rw[arD]
theorem N9{xs:asn (asn D)}{i:Nat}{c:asn D}(h:xs[i]?=some c):(bn xs)[i]?=some (c.map .d):=by unfold bn;rw[arF,h];rfl
theorem abl(xs:asn (asn D))(i:Nat)(c:asn D):bn (xs.set i c)=(bn xs).set i (c.map .d):=by unfold bn;rw[List.map_set]
theorem anw(xs ys:asn (asn D)):bn (xs++ys)=bn xs++bn ys:=by unfold bn;rw[List.map_append]
theorem afd{cs:asn AV}{l:asn ao}(h:VD l):VD (.cells cs::l):=⟨trivial,h⟩
theorem acC{e k n:Nat}{l:asn ao}(h:VD l):VD (.front e k n::l):=⟨trivial,h⟩
theorem aac{l:asn ao}(h:VD l):VD (.gone::l):=⟨trivial,h⟩
def ao.qN(m:Nat):ao->ao
 | .vec e k cs=> .vec e k cs
 |B=>B.bG m
def ao.Co:ao->ao
 | .vec e k cs=> .vec e k cs
 |B=>B.po
def ao.Az(m:Nat):ao->Prop
 | .vec _ _ cs=>cs.map (·.map (AV.bG m))=cs/\cs.all (·.all (AV.aQ m))=true
 |_=>True
def ij(m:Nat):asn ao->Prop
 |[]=>True
 |B::l=>B.Az m/\ij m l
section
variable {m:Nat} {l:asn ao}
theorem gJ:ij m []:=trivial
theorem fG{B:ao}(hB:B.Az m)(h:ij m l):ij m (B::l):=⟨hB,h⟩
theorem XV(xs:asn (asn D)):(bn xs).all (·.all (AV.aQ m))=true:=by simp [bn,AV.aQ]
theorem jh{e k:Nat}{xs:asn (asn D)}(h:ij m l):ij m (.vec e k (bn xs)::l):=⟨⟨zT (λd=>by simp [AV.bG]) _,XV _⟩,h⟩
theorem vmR{e k i:Nat}{xs:asn (asn D)}{r:asn AV}(h1:r.map (AV.bG m)=r)(h2:r.all (AV.aQ m)=true)(h:ij m l):ij m (.vec e k ((bn xs).set i r)::l):=by
 refine⟨⟨by rw[List.map_set,zT (λd=>by simp [AV.bG]),h1],?_⟩,h⟩;rw[arY];intro c hc;rcases List.mem_or_eq_of_mem_set hc with hc|rfl
 ·exact arY.1 (XV (m:=m) xs) c hc
 ·exact h2
theorem ij.mem:∀{l:asn ao},ij m l->∀B∈l,B.Az m
 |[],_,B,hB=>by cases hB
 |_::_,h,B,hB=>by
  rcases ar2.1 hB with rfl|hB
  ·exact h.1
  ·exact ij.mem h.2 B hB
end
theorem ahD{m:Nat}{B:ao}(h:B.Az m):B.qN m=B.bG m:=by
 cases B with
 |vec e k cs=>simp only[ao.qN,ao.bG];rw[h.1]
 |_=>rfl
theorem afR{m:Nat}{B:ao}(h:B.Az m)(hl:(B.qN m).uC m=true):(B.bG m).aQ m=true:=by
 cases B with
 |vec e k cs=>simp only[ao.bG,ao.aQ];rw[h.1];exact h.2
 |_=>exact hl
theorem YP{G:Gh}{w:ass}{h:asn ao}(hi:b9 G w h):b9 G w (h.map ao.Co):=by
 have dV:∀n,cg (h.map ao.Co) G n=cg h G n:=λn=>by
  unfold cg;rw[arF];cases h[n]? with
  |none=>rfl
  |some B=>cases B<;>rfl
 have h2:=Ul hi;refine⟨by rw[arD];exact hi.len,hi.z,hi.S,λn B hB=> ?_,λm n x hm hn=>hi.inj m n x (by rw[<-dV];exact hm) (by rw[<-dV];exact hn),hi.gl⟩;rw[arF]at hB;cases h1:h[n]? with
 |none=>rw[h1]at hB;cases hB
 |some B'=>
  rw[h1]at hB;cases hB
  have h3:=h2.dv n B'.po (by rw[arF,h1];rfl);cases B' with
  |vec e k cs=>exact hi.dv n _ h1
  |_=>exact h3
def uk(kn:asn (Nat×Nat))(n:Nat):Nat->asn AV->asn AV
 |_,[]=>[]
 |i,x::l=>(bif kn.any (λp=>p.1==n&&p.2==i)then x else x.nrm)::uk kn n (i+1) l
def ao.abU(kn:asn (Nat×Nat))(n:Nat):ao->ao
 | .cells cs=> .cells (uk kn n 0 cs)
 |B=>B.Co
def qf(kn:asn (Nat×Nat)):Nat->asn ao->asn ao
 |_,[]=>[]
 |n,B::l=>B.abU kn n::qf kn (n+1) l
theorem YR(kn:asn (Nat×Nat))(n:Nat):∀(j:Nat)(cs:asn AV),(uk kn n j cs).length=cs.length
 |_,[]=>rfl
 |j,x::l=>by rw[uk,arB,YR kn n (j+1) l,arB]
theorem ab9(kn:asn (Nat×Nat))(n:Nat):∀(j:Nat)(cs:asn AV)(i:Nat)(c':AV),(uk kn n j cs)[i]?=some c'->∃c,cs[i]?=some c/\(c'=c\/c'=c.nrm)
 |_,[],i,c',h=>by simp [uk]at h
 |j,x::l,0,c',h=>by
  simp only[uk,List.getElem?_cons_zero,Option.some.injEq]at h;refine⟨x,rfl,?_⟩;cases hk:kn.any (λp=>p.1==n&&p.2==j)with
  |true=>rw[hk]at h;exact .inl h.symm
  |false=>rw[hk]at h;exact .inr h.symm
 |j,x::l,i+1,c',h=>by
  simp only[uk,ar9]at h;obtain⟨c,h1,h2⟩:=ab9 kn n (j+1) l i c' h;exact⟨c,by simpa using h1,h2⟩
theorem P4(kn:asn (Nat×Nat)):∀(j:Nat)(h:asn ao)(i:Nat)(B':ao),(qf kn j h)[i]?=some B'->∃B,h[i]?=some B/\B'=B.abU kn (j+i)
 |_,[],i,B',h=>by simp [qf]at h
 |j,B::l,0,B',h=>by simp only[qf,List.getElem?_cons_zero,Option.some.injEq]at h;exact⟨B,rfl,h.symm⟩
 |j,B::l,i+1,B',h=>by
  simp only[qf,ar9]at h;obtain⟨C,h1,h2⟩:=P4 kn (j+1) l i B' h;exact⟨C,by simpa using h1,by rw[h2];congr 1;omega⟩
theorem abo(kn:asn (Nat×Nat)):∀(j:Nat)(h:asn ao),(qf kn j h).length=h.length
 |_,[]=>rfl
 |j,B::l=>by rw[qf,arB,abo kn (j+1) l,arB]
theorem aou{G:Gh}{w:ass}{h:asn ao}(kn:asn (Nat×Nat))(hi:b9 G w h):b9 G w (qf kn 0 h):=by
 have dV:∀n x,cg (qf kn 0 h) G n=some x->cg h G n=some x:=λn x hx=>by
  obtain⟨B',hB,h1⟩:=m7 hx;obtain⟨B,h2,rfl⟩:=P4 kn 0 h n B' hB;rw[dP h2,<-h1];cases B<;>rfl
 have h2:=YP hi;refine⟨by rw[abo];exact hi.len,hi.z,hi.S,λn B' hB=> ?_,λm n x hm hn=>hi.inj m n x (dV m x hm) (dV n x hn),hi.gl⟩;obtain⟨B,h1,rfl⟩:=P4 kn 0 h n B' hB;cases B with
 |cells cs=>
  obtain⟨c1,c2,vs,T,c3,c4,c5⟩:=hi.dv n _ h1;refine⟨c1,c2,vs,T,c3,by rw[YR];exact c4,λi u c hu hc=> ?_⟩;obtain⟨c0,h3,h4|h4⟩:=ab9 _ _ _ _ _ _ hc
  ·rw[h4];exact c5 i u c0 hu h3
  ·rw[h4];exact(c5 i u c0 hu h3).nrm
 |_=>exact h2.dv n _ (by rw[arF,h1];rfl)
def mW(s:St)(live:asn Nat)(m:Nat)(ks:asn Nat)(kn:asn (Nat×Nat)):asp St:=
 bif cp m s.h.length&&(live.all λk=>((bw s.t k).bG m).aQ m)&&(((s.h.take m).map (ao.qN m)).all (ao.uC m))then some ⟨s.n,live.map λk=>(k,bif ks.any (·==k)then(bw s.t k).bG m else(bw s.t k).fin m),qf kn 0 ((s.h.take m).map (ao.qN m))⟩else none
theorem Wj{h:asn ao}{m:Nat}(hd:ij m (h.take m)):(h.take m).map (ao.qN m)=(h.take m).map (ao.bG m):=ar3 λB hB=>ahD (hd.mem B hB)
theorem WB{h:asn ao}{m:Nat}(hd:ij m (h.take m))(hl:((h.take m).map (ao.qN m)).all (ao.uC m)=true):((h.take m).map (ao.bG m)).all (ao.aQ m)=true:=by
 rw[arY]at hl ⊢;intro B hB;obtain⟨B',h1,rfl⟩:=List.mem_map.1 hB;exact afR (hd.mem B' h1) (hl _ (List.mem_map.2 ⟨B',h1,rfl⟩))
section
variable {P:asq} {r:asp Nat} {n N0:Nat} {G:Gh} {w:ass} {a:Act} {s s':St} {Q Q':Exit->St->Prop} {live:asn Nat} {m:Nat} {ks:asn Nat} {kn:asn (Nat×Nat)}
theorem cN.mW(hs:cN G w a s)(hd:ij m (s.h.take m))(h:mW s live m ks kn=some s'):cN (G.cut m) w a s':=by
 unfold Go.Proofs.YtdchibpnjpnkoaaGreatDoor.mW at h;obtain⟨hb,rfl⟩:=dT h;rw[arA,arA]at hb;have hm:=hs.mask (live:=live) ⟨dJ.1 hb.1.1,hb.1.2,WB hd hb.2⟩;refine⟨hs.size,λi=> ?_,by show b9 _ _ (qf kn 0 ((s.h.take m).map (ao.qN m)));rw[Wj hd];exact aou kn hm.inv,hs.df⟩;have:=hm.tmp i
 change aJ _ _ _ (bw (live.map λk=>(k,(bw s.t k).bG m)) i)at this
 rw[rz (λk=>(bw s.t k).bG m)]at this;show aJ _ _ _ (bw (live.map λk=>(k,bif ks.any (·==k)then(bw s.t k).bG m else(bw s.t k).fin m)) i);rw[rz (λk=>bif ks.any (·==k)then(bw s.t k).bG m else(bw s.t k).fin m)];split at this
 ·rename_i hi
  rw[if_pos hi];cases ks.any (·==i)with
  |true=>exact this
  |false=>exact this.nrm
 ·rename_i hi;rw[if_neg hi];exact .dead _
theorem wE{c:Code}{ι:Type}(live:asn Nat)(m:Nat)(ks:asn Nat)(kn:asn (Nat×Nat))(st:ι->St)(I:ι->Prop)(μ:ι->Nat)(i0:ι)(hm:N0<=m)(h0:ij m (s.h.take m)/\Go.Proofs.YtdchibpnjpnkoaaGreatDoor.mW s live m ks kn=some (st i0))(hI:I i0)
 (round:∀i,I i->bJ P r N0 c (ik (λs'=>∃i',(ij m (s'.h.take m)/\Go.Proofs.YtdchibpnjpnkoaaGreatDoor.mW s' live m ks kn=some (st i'))/\I i'/\μ i'<μ i) Q) (st i)):bJ P r N0 (.loop c) Q s:=by
 constructor
 intro G w a n hs _;refine SL (λ(i:ι) a' w'=>∃G',I i/\b7 N0 G w G' w'/\N0<=G'.N/\cN G' w' a' (st i)) μ i0 ⟨G.cut m,hI,p5 _ _ _ _,hm,hs.mW h0.1 h0.2⟩ ?_;rintro i a' w' ⟨G',hi,hE,hN,ct⟩;refine wpIn_mono ((round i hi).run G' w' a' n ct hN) λe a1 w1 hn=> ?_;obtain⟨G1,s1,j9,gd,eQ,hq⟩:=hn;cases e with
 |normal=>
  obtain⟨i',h1,h2,h3⟩:=hq;exact⟨i',⟨G1.cut m,h2,(hE.trans j9).trans (p5 _ _ _ _),hm,eQ.mW h1.1 h1.2⟩,h3⟩
 |_=>exact⟨G1,s1,hE.trans j9,gd,eQ,hq⟩
theorem am7{c:Code}(live:asn Nat)(m:Nat)(ks:asn Nat)(kn:asn (Nat×Nat))(hm:N0<=m)(h0:ij m (s.h.take m)/\Go.Proofs.YtdchibpnjpnkoaaGreatDoor.mW s live m ks kn=some s')(h:bJ P r N0 c Q s'):bJ P r N0 c Q s:=by
 constructor
 intro G w a n hs _;exact wpIn_mono (h.run (G.cut m) w a n (hs.mW h0.1 h0.2) hm) λ_ _ _ hn=>hn.trans (p5 N0 G w m)
theorem aey{c y:Code}{ι:Type}(live:asn Nat)(m:Nat)(ks:asn Nat)(kn:asn (Nat×Nat))(st:ι->St)(I:ι->Prop)(hm:N0<=m)(hc:bJ P r N0 c (ik (λs'=>∃i,(ij m (s'.h.take m)/\Go.Proofs.YtdchibpnjpnkoaaGreatDoor.mW s' live m ks kn=some (st i))/\I i) Q) s)(hy:∀i,I i->bJ P r N0 y Q' (st i)):bJ P r N0 c (ik (λs=>bJ P r N0 y Q' s) Q) s:=by
 refine hc.mono λe s' h=> ?_;cases e with
 |normal=>obtain⟨i,h1,h2⟩:=h;exact am7 live m ks kn hm h1 (hy i h2)
 |_=>exact h
end
def FR(P:asq)(rs:asn ResultVar)(m:Nat)(s:St):asp (AV×asn ao):=
 match sI P s rs with
 |some l=>bif cp m s.h.length&&((jK l).bG m).aQ m&&(((s.h.take m).map (ao.qN m)).all (ao.uC m))then some (((jK l).bG m).nrm,((s.h.take m).map (ao.qN m)).map ao.Co)else none
 |none=>none
def aca(P:asq)(fn:Func)(m:Nat)(R:AV)(H:asn ao):Exit->St->Prop
 | .normal,s=>ij m (s.h.take m)/\FR P fn.results.toList m s=some (R,H)
 | .ret,s=>ij m (s.h.take m)/\FR P fn.results.toList m s=some (R,H)
 |_,_=>False
theorem VT{P:asq}{s:St}{fn:Func}{m:Nat}{R:AV}{H:asn ao}(h:ij m (s.h.take m)/\FR P fn.results.toList m s=some (R,H)):rK P fn m (λr h'=>r.nrm=R/\h'.map ao.Co=H) s:=by
 obtain⟨hd,h⟩:=h;unfold FR at h;split at h
 ·next l e=>
  obtain⟨hb,he⟩:=dT h;cases he
  simp only[arA,dJ]at hb;exact DN _ _ _ e ⟨hb.1.1,hb.1.2,WB hd hb.2,rfl,by rw[Wj hd]⟩
 ·cases h
theorem qx{P:asq}{s:St}{fn:Func}{m:Nat}{R:AV}{H:asn ao}(hd:ij m (s.h.take m))(h:FR P fn.results.toList m s=some (R,H)):aca P fn m R H .ret s:=⟨hd,h⟩
theorem Ao{P:asq}{f:FuncId}{fn:Func}{c:Code}{args:asn AV}{h H:asn ao}{R:AV}(m:Nat)(hf:P.funcs[f]?=some fn)(hb:fn.body=some c)(hn:(fn.name== "runtime.NumGoroutine")=false)(hm:h.length<=m)
 (hw:bJ P none h.length c (aca P fn m R H) {n:=args.length+(fn.ntmps-args.length),t:=mg 0 args,h:=h}):cG P f args h λr1 h1=>r1=R/\h1=H:=by
 have h0:=zZ (P:=P) (f:=f) (args:=args) (h:=h) (K:=λr h'=>r.nrm=R/\h'.map ao.Co=H) m hf hb hn hm (hw.mono λe s hq=>by
  cases e with
  |normal=>exact VT hq
  |ret=>exact VT hq
  |_=>exact hq.elim)
 refine⟨h0.1,λG w vs hi hl hr=>(h0.2 G w vs hi hl hr).mono λe w' hp=> ?_⟩;obtain⟨v,G',x,h',rfl,hE,hN,dN,hv,rfl,rfl⟩:=hp;exact⟨v,G',x.nrm,_,rfl,hE,hN,YP dN,hv.nrm,rfl,rfl⟩
mutual
def AV.ra(b:Nat):AV->asn (Nat×Nat×Nat×Nat)
 | .vec n o len L k=>bif n==b then[(o,len,L,k)]else[]
 | .agg cs=>AV.qh b cs
 | .aX cs=>AV.qh b cs
 | .fn _ cs=>AV.qh b cs
 |_=>[]
def AV.qh(b:Nat):asn AV->asn (Nat×Nat×Nat×Nat)
 |[]=>[]
 |x::l=>x.ra b++AV.qh b l
end
mutual
def AV.mlt(b:Nat)(xs:asn (asn D)):AV->AV
 | .vec n o len L k=>bif n==b then .d (.sl xs)else .vec n o len L k
 | .dx n i j L k=>bif n==b then .dead else .dx n i j L k
 | .agg cs=> .agg (AV.m8 b xs cs)
 | .aX cs=> .aX (AV.m8 b xs cs)
 | .fn f cs=> .fn f (AV.m8 b xs cs)
 |x=>x
def AV.m8(b:Nat)(xs:asn (asn D)):asn AV->asn AV
 |[]=>[]
 |x::l=>x.mlt b xs::AV.m8 b xs l
end
mutual
theorem RG{b kk:Nat}{xs:asn (asn D)}:∀x:AV,(∀q∈x.ra b,q=(0,xs.length,xs.length,kk))->x.cQ b kk xs=x.mlt b xs
 | .vec n o len L k,h=>by
   unfold AV.cQ AV.mlt;unfold AV.ra at h;cases e:n==b with
   |false=>rfl
   |true=>
    rw[e]at h;have:=h _ arE;cases this
    simp
 | .agg cs,h=>by unfold AV.cQ AV.mlt;rw[tO cs (by unfold AV.ra at h;exact h)]
 | .aX cs,h=>by unfold AV.cQ AV.mlt;rw[tO cs (by unfold AV.ra at h;exact h)]
 | .fn f cs,h=>by unfold AV.cQ AV.mlt;rw[tO cs (by unfold AV.ra at h;exact h)]
 | .dx n i j L k,h=>by unfold AV.cQ AV.mlt;rfl
 | .d _,_=>by simp [AV.cQ,AV.mlt]
 | .ptr ..,_=>by simp [AV.cQ,AV.mlt]
 | .bP ..,_=>by simp [AV.cQ,AV.mlt]
 | .own ..,_=>by simp [AV.cQ,AV.mlt]
 | .full _,_=>by simp [AV.cQ,AV.mlt]
 | .row ..,_=>by simp [AV.cQ,AV.mlt]
 | .mp _,_=>by simp [AV.cQ,AV.mlt]
 | .dc _,_=>by simp [AV.cQ,AV.mlt]
 | .hid _,_=>by simp [AV.cQ,AV.mlt]
 | .dead,_=>by simp [AV.cQ,AV.mlt]
theorem tO{b kk:Nat}{xs:asn (asn D)}:∀l:asn AV,(∀q∈AV.qh b l,q=(0,xs.length,xs.length,kk))->AV.pF b kk xs l=AV.m8 b xs l
 |[],_=>by simp [AV.pF,AV.m8]
 |x::l,h=>by
  unfold AV.qh at h;unfold AV.pF AV.m8;rw[RG x λq hq=>h q (List.mem_append_left _ hq),tO l λq hq=>h q (List.mem_append_right _ hq)]
end
inductive lx(b L kk:Nat)(xs:List (List D)):List ao->List ao->Prop
 |nil:lx b L kk xs [] []
 |cells {cs cm:List AV} {l l':List ao} (c:Nat) (h:AV.qh b cs=List.replicate c (0,L,L,kk)) (e:AV.m8 b xs cs=cm) (t:lx b L kk xs l l'):lx b L kk xs (.cells cs::l) (.cells cm::l')
 |iX {e k:Nat} {ys:List (List D)} {l l':List ao} (t:lx b L kk xs l l'):lx b L kk xs (.vec e k (bn ys)::l) (.vec e k (bn ys)::l')
 |row {e k i:Nat} {ys:List (List D)} {cs cm:List AV} {l l':List ao} (c:Nat) (h:AV.qh b cs=List.replicate c (0,L,L,kk)) (e1:AV.m8 b xs cs=cm) (t:lx b L kk xs l l'):lx b L kk xs (.vec e k ((bn ys).set i cs)::l) (.vec e k ((bn ys).set i cm)::l')
 |front {e k n:Nat} {l l':List ao} (t:lx b L kk xs l l'):lx b L kk xs (.front e k n::l) (.front e k n::l')
 |map {kv:List (ByteArray×D)} {l l':List ao} (t:lx b L kk xs l l'):lx b L kk xs (.map kv::l) (.map kv::l')
 |gone {l l':List ao} (t:lx b L kk xs l l'):lx b L kk xs (.gone::l) (.gone::l')
theorem A3{c L kk:Nat}{xs:asn (asn D)}(hL:xs.length=L){l:asn (Nat×Nat×Nat×Nat)}(h:l=List.replicate c (0,L,L,kk)):∀q∈l,q=(0,xs.length,xs.length,kk):=λq hq=>by
 rw[h,List.mem_replicate]at hq;rw[hq.2,hL]
theorem lx.eq{b L kk:Nat}{xs:asn (asn D)}(hL:xs.length=L){l l':asn ao}(h:lx b L kk xs l l'):l'=l.map (ao.kD (AV.cQ b kk xs)):=by
 have hd:∀d,AV.cQ b kk xs (.d d)= .d d:=λd=>by simp [AV.cQ]
 induction h with
 |nil=>rfl
 |cells c h e t ih=>rw[arX,<-ih,<-e];simp only[ao.kD];rw[<-qE,tO _ (A3 hL h)]
 |iX t ih=>rw[arX,<-ih];simp only[ao.kD];rw[zT hd]
 |row c h e1 t ih=>rw[arX,<-ih,<-e1];simp only[ao.kD];rw[List.map_set,zT hd,<-qE,tO _ (A3 hL h)]
 |front t ih=>rw[arX,<-ih];rfl
 |map t ih=>rw[arX,<-ih];rfl
 |gone t ih=>rw[arX,<-ih];rfl
theorem agN{P:asq}{r:asp Nat}{N0:Nat}{c:Code}{s:St}{Q:Exit->St->Prop}(live:asn Nat)(b:Nat)(xs:asn (asn D)){e k L:Nat}(h':asn ao)(c1:Nat)(hb:s.h[b]?=some (.vec e k (bn xs)))(hone:∀c∈xs,c.all D.uZ=true)(hL:xs.length=L)
 (ho:(live.flatMap λi=>(bw s.t i).ra b)=List.replicate c1 (0,L,L,k)) (hh:lx b L k xs s.h h') (K:bJ P r N0 c Q ⟨s.n,live.map (λi=>(i,(bw s.t i).mlt b xs)),h'.set b .gone⟩):bJ P r N0 c Q s:=by
 constructor
 intro G w a n hs hN;obtain⟨G',hE,e1,ct⟩:=hs.PY xs hb hone;refine wpIn_mono (K.run G' w a n (ct.less rfl (by rw[hh.eq hL]) λi=> ?_) (by rw[e1];exact hN)) λ_ _ _ hn=>hn.trans (hE.less hN);show bw (live.map (λi=>(i,(bw s.t i).mlt b xs))) i=bw (s.t.map λp=>(p.1,p.2.cQ b k xs)) i\/_;rw[rz (λk=>(bw s.t k).mlt b xs),Fe (AV.cQ b k xs) (by simp [AV.cQ])];split
 ·next hi=>
  left
  refine(RG _ λq hq=>A3 hL ho q ?_).symm;exact List.mem_flatMap.2 ⟨i,hi,hq⟩
 ·exact .inr rfl
theorem acQ{G:Gh}{w:ass}{h:asn ao}(hi:b9 G w h)(e k:Nat):b7 G.N G w (G.eF (.slice none 0 0) 0 none) w/\G.N<=(G.eF (.slice none 0 0) 0 none).N/\b9 (G.eF (.slice none 0 0) 0 none) w (h++[.vec e k []])/\aJ (G.eF (.slice none 0 0) 0 none) w (.slice none 0 0) (.vec h.length 0 0 0 k):=by
 obtain⟨a1,a2⟩:=QS (w':=w) hi (.vec e k []) (λ_ _=>rfl) (.slice none 0 0) 0 none ⟨λ_ _=>rfl,arJ _,rfl,rfl,rfl⟩ (λ_ h=>by cases h)
  ⟨by simp [Gh.eF],Nat.zero_le _,λc hc=>absurd hc ase, .inl ⟨by simp [Gh.eF],rfl,none,by simp [Gh.eF]⟩⟩
 refine⟨a1,Nat.le_succ _,a2, .vec _ 0 0 0 k (by rw[hi.len];exact asl _) ⟨none,0,0,rfl⟩ (Nat.zero_le _) λ_=>⟨arJ _,⟨none,0,rfl,arJ _,Nat.zero_le _,arJ _,λh=>absurd h (asc _)⟩,λ_ _=> ?_⟩⟩;simp [Gh.eF,hi.len]
section
variable {P:asq} {r:asp Nat} {N0:Nat} {s:St} {Q:Exit->St->Prop} {c:Code}
theorem L6(t e k:Nat)(hx:bw s.t t= .d (.v (.slice none 0 0)))(h:bJ P r N0 c Q ⟨s.n,(t, .vec s.h.length 0 0 0 k)::s.t,s.h++[.vec e k []]⟩):bJ P r N0 c Q s:=by
 constructor
 intro G w a n hs hN;obtain⟨a1,a2,a3,a4⟩:=acQ hs.inv e k;have hv:=hs.tmp t;rw[hx]at hv;have hv:=hv.val;have ct:cN (G.eF (.slice none 0 0) 0 none) w a ⟨s.n,(t, .vec s.h.length 0 0 0 k)::s.t,s.h++[.vec e k []]⟩:=by
  refine⟨hs.size,λi=> ?_,a3,hs.df.bj a1⟩;show aJ _ _ _ (bw ((t, .vec s.h.length 0 0 0 k)::s.t) i);rw[kY];split
  ·next e=>exact e▸hv▸a4
  ·exact(hs.tmp i).bj a1 a2
 exact wpIn_mono (h.run _ w a n ct (arQ hN a2)) λ_ _ _ hn=>hn.trans (a1.less hN)
theorem ahR(b i e k:Nat){cs:asn AV}(hb:s.h[b]?=some (.cells cs))(hx:cs[i]?=some (.d (.v (.slice none 0 0))))
 (h:bJ P r N0 c Q ⟨s.n,s.t,(s.h++[ao.vec e k []]).set b (ao.cells (cs.set i (AV.vec s.h.length 0 0 0 k)))⟩):bJ P r N0 c Q s:=by
 constructor
 intro G w a n hs hN;obtain⟨h1,h2,vs,T,h3,h4,h5⟩:=hs.inv.dv _ _ hb;have hi:i<cs.length:=(ary.1 hx).1;have hv:vs[i]?=some vs[i]:=arU (by omega);have mU:=(h5 i _ _ hv hx).val;obtain⟨a1,a2,a3,a4⟩:=acQ hs.inv e k;have aS:=(ary.1 hb).1;have ct:cN (G.eF (.slice none 0 0) 0 none) w a ⟨s.n,s.t,(s.h++[ao.vec e k []]).set b (ao.cells (cs.set i (AV.vec s.h.length 0 0 0 k)))⟩:=by
  refine⟨hs.size,λj=>(hs.tmp j).bj a1 a2,adx a3 (by rw[arI aS];exact hb) (by rw[List.length_set]) λgp T' Hx j u c hu hc=> ?_,hs.df.bj a1⟩;have e1:(G.eF (.slice none 0 0) 0 none).bg b=G.bg b:=rfl;rw[e1,h3]at Hx;cases Hx
  by_cases e2:i=j
  ·subst e2;rw[ar1 hi]at hc;cases hc
   rw[hv]at hu;cases hu
   rw[mU];exact a4
  ·rw[ar6 e2]at hc;exact(h5 j u c hu hc).bj a1 a2
 exact wpIn_mono (h.run _ w a n ct (arQ hN a2)) λ_ _ _ hn=>hn.trans (a1.less hN)
theorem VH(b:Nat)(h:bJ P r N0 c Q ⟨s.n,s.t,s.h.set b .gone⟩):bJ P r N0 c Q s:=by
 constructor
 intro G w a n hs hN;have hi:=hs.inv;have dV:∀n x,cg (s.h.set b .gone) G n=some x->cg s.h G n=some x:=λn x hx=>by
  obtain⟨B,hB,h1⟩:=m7 hx;by_cases e:b=n
  ·subst e;have aS:=(ary.1 hB).1;rw[List.length_set]at aS;rw[ar1 aS]at hB;cases hB;cases h1
  ·rw[ar6 e]at hB;rw[dP hB];exact h1
 refine h.run G w a n ⟨hs.size,hs.tmp,⟨by rw[List.length_set];exact hi.len,hi.z,hi.S,λn B hB=> ?_,λm n x h1 h2=>hi.inj m n x (dV m x h1) (dV n x h2),hi.gl⟩,hs.df⟩ hN;by_cases e:b=n
 ·subst e;have aS:=(ary.1 hB).1;rw[List.length_set]at aS;rw[ar1 aS]at hB;cases hB;trivial
 ·rw[ar6 e]at hB;exact hi.dv n B hB
end
theorem iL{α:Type}{f:α->asn D}{E:asn α}{L:Nat}(h:E.length=L):(bn (E.map f)).length=L:=by rw[EN,arD,h]
theorem mj{cs:asn (asn AV)}{z:Int}{L i:Nat}(h:cs.length=L)(h0:0<=z)(h1:z<(L:Int))(h2:z.toNat=i):cs.length=L/\0<=z/\z<(L:Int)/\i=0+z.toNat:=⟨h,h0,h1,by rw[h2,arS]⟩
theorem zq{α:Type}{f:α->asn D}{E:asn α}{L i:Nat}{x:α}(h:E.length=L)(hx:E[i]?=some x):(bn (E.map f)).length=L/\(bn (E.map f))[i]?=some ((f x).map .d):=⟨iL h,N9 (by rw[arF,hx];rfl)⟩
theorem wO{α:Type}{f:α->asn D}{E:asn α}{L i j:Nat}{x y:α}{zs:asn AV}(h:E.length=L)(hx:E[i]?=some x)(hy:(f y).map AV.d=ib ((f x).map .d) j zs):(bn (E.map f)).length=L/\(bn (E.map f))[i]?=some ((f x).map .d)/\bn ((E.set i y).map f)=(bn (E.map f)).set i (ib ((f x).map .d) j zs):=
 ⟨iL h,N9 (by rw[arF,hx];rfl),by rw[List.map_set,abl,hy]⟩
theorem Wy{α:Type}{f:α->asn D}{E ys:asn α}{h:asn ao}{k L gL L' cE:Nat}{y:AV}(hE:E.length=L)(hy:y.fe=some (ys.map f))(hk:∀c∈ys.map f,c.length=k)(hn:ys.length=gL)(hL:L+ys.length=L')(hm:L'<=maxLen)(hb:L'*cE<=140737488355328):
 (bn (E.map f)).length=L/\zS h k y (bn (ys.map f))/\L'=L+(bn (ys.map f)).length/\((0+L+(bn (ys.map f)).length<=L/\L'=L/\bn ((E++ys).map f)=(bn (E.map f)).take (0+L)++bn (ys.map f)++(bn (E.map f)).drop (0+L+(bn (ys.map f)).length))\/(0=0/\L=L/\L'=L+(bn (ys.map f)).length/\bn ((E++ys).map f)=bn (E.map f)++bn (ys.map f)/\L'<=maxLen/\L'*cE<=140737488355328)):=by
 have hl:(bn (ys.map f)).length=ys.length:=by rw[EN,arD]
 refine⟨iL hE, .inl ⟨_,hy,hk,rfl⟩,by rw[hl,hL], .inr ⟨rfl,rfl,by rw[hl,hL],by rw[List.map_append,anw],hm,hb⟩⟩
theorem P6{xs:asn (asn D)}{h:asn ao}{k cE:Nat}{y:AV}(hk:∀c∈xs,c.length=k)(hy:y.fe=some xs)(hm:xs.length<=maxLen)(hb:xs.length*cE<=140737488355328):
 ([]:asn (asn D))=[]/\zS h k y (bn xs)/\bn xs=bn xs/\xs.length=(bn xs).length/\xs.length=(bn xs).length/\xs.length<=maxLen/\xs.length*cE<=140737488355328:=⟨rfl, .inl ⟨xs,hy,hk,rfl⟩,rfl,(EN xs).symm,(EN xs).symm,hm,hb⟩
theorem aef{α:Type}{f:α->asn D}{E:asn α}{L i:Nat}{x:α}(r:asn AV)(h:E.length=L)(hx:E[i]?=some x):((bn (E.map f)).set i r).length=L/\((bn (E.map f)).set i r)[i]?=some r:=
 ⟨by rw[List.length_set];exact iL h,by rw[ar1 (by rw[iL rfl];exact(ary.1 hx).1)]⟩
theorem af8{α:Type}{f:α->asn D}{E:asn α}{L i:Nat}{r:asn AV}(h:E.length=L):((bn (E.map f)).set i r).length=L:=by rw[List.length_set];exact iL h
theorem ae2{α:Type}{f:α->asn D}{E:asn α}{L i j:Nat}{x:α}{zs r:asn AV}(h:E.length=L)(hx:E[i]?=some x)(hy:r=ib ((f x).map .d) j zs):(bn (E.map f)).length=L/\(bn (E.map f))[i]?=some ((f x).map .d)/\(bn (E.map f)).set i r=(bn (E.map f)).set i (ib ((f x).map .d) j zs):=
 ⟨iL h,N9 (by rw[arF,hx];rfl),by rw[hy]⟩
theorem aqg{α:Type}{f:α->asn D}{E:asn α}{i:Nat}{y:α}{r:asn AV}(hy:(f y).map AV.d=r):(bn (E.map f)).set i r=bn ((E.set i y).map f):=by rw[<-hy,List.map_set,abl]
theorem agH{P:asq}{r:asp Nat}{N0:Nat}{c:Code}{s:St}{Q:Exit->St->Prop}(live:asn Nat)(b:Nat)(xs ys:asn (asn D)){e k L:Nat}(h':asn ao)(c1:Nat)(hb:s.h[b]?=some (.vec e k (bn xs)))(hone:∀c∈xs,c.all D.uZ=true)(hL:xs.length=L)(hy:ys=xs)
 (ho:(live.flatMap λi=>(bw s.t i).ra b)=List.replicate c1 (0,L,L,k)) (hh:lx b L k ys s.h h') (K:bJ P r N0 c Q ⟨s.n,live.map (λi=>(i,(bw s.t i).mlt b ys)),h'.set b .gone⟩):bJ P r N0 c Q s:=by
 subst hy;exact agN live b _ h' c1 hb hone hL ho hh K
theorem vh{α:Type}{f:α->asn D}(hf:∀x,(f x).all D.uZ=true)(E:asn α):∀c∈E.map f,c.all D.uZ=true:=λc hc=>by
 obtain⟨x,_,rfl⟩:=List.mem_map.1 hc;exact hf x
theorem uY{α:Type}{f:α->asn D}{E:asn α}{L:Nat}(h:E.length=L):(E.map f).length=L:=by rw[arD,h]
theorem adf{α:Type}{E:asn α}{i:Nat}{x y:α}(h:E[i]?=some x):(E.set i y)[i]?=some y:=by
 rw[ar1 (ary.1 h).1]
def Te(o:Oper):Bool:=
 match o.op with
 | .call c=>match c.callee with
   | .value _=>false
   |_=>true
 |_=>true
def abE:cd->Bool
 | .va _=>true
 |_=>false
def Jr(o:Oper)(a:cd):Bool:=pj true o||(Te o&&(jN o|| !abE a))
def IA(as:asn (Nat×cd)):Nat->asn Oper->Bool
 |_,[]=>true
 |j,o::l=>Jr o (jk as (3*j+1))&&IA as (j+1) l
section
variable {P:asq} {ops:Array Oper} {o:Oper} {j:Nat} {as:asn (Nat×cd)} {s s1:St} {l:asn (In×cd)} {K:St->Prop}
theorem apH(hn:Te o=true)(h:qH P o K s):CD P o K s:=by
 unfold CD;unfold Te at hn;split
 ·next c fJ=>
  rw[fJ]at hn;split
  ·next f hc=>simp only[hc]at hn;cases hn
  ·exact h
 ·exact h
theorem aaY(h:rR P false o j as s=some (s1,l))(cf:ie P l)(hK:K s1)(hL:Jr o (jk as (3*j+1))=true):CT true P o K s:=by
 unfold rR at h;simp only[Bool.false_and,cond_false]at h;split at h
 ·next x h' i hr=>
  have fin:OK P i (jk as (3*j+1))->K ((s.wh h').put o.dst x)->CT true P o K s:=λh1 h2=>by
   unfold Jr at hL;rw[Bool.or_eq_true]at hL;unfold Ko at hr;split at hr
   ·next va e=>
    simp only[Bool.false_and,cond_false]at hr;split at hr
    ·next x2 OS p e2=>
     cases hr
     rcases hL with hL|hL
     ·exfalso;rw[e]at h1;unfold pj at hL;simp only[Bool.true_and]at hL;split at hL
      ·next c fJ=>
       split at hL
       ·next t hc=>
        rw[fJ]at e2;unfold iS at e2;simp only[hc]at e2;cases e2
       ·cases hL
      ·cases hL
     ·rw[e]at h1 hL;simp only[abE,Bool.not_true,Bool.or_false,arA]at hL;cases h1 with|pr _ hp=>exact .inr (.inr (.inl ⟨hL.2,va,x,h',p,e2,hp,h2⟩))
    ·cases hr
   ·rcases hL with hL|hL
    ·exact .inr (.inl ⟨hL,x,h',h2,λC hC=>zY hr h1 hC⟩)
    ·rw[arA]at hL;exact .inl (apH hL.1 (zY (C:=λx h'=>K ((s.wh h').put o.dst x)) hr h1 h2))
  split at h
  ·next y hy=>
   obtain⟨m,e,h2,h3⟩:=Mb h cf;cases e
   have:=h2 (.eq x, .eq y) arE;cases this with|eq e=>subst e;exact fin h3 hK
  ·obtain⟨m,e,h2,h3⟩:=Mb h cf;cases e
   exact fin h3 hK
 ·cases h
theorem aqH(h:oh P ops false o j as s=some (s1,l))(cf:ie P l)(hK:K s1)(hL:Jr o (jk as (3*j+1))=true):jy ops o s (CT true P o K s) (K (s.put o.dst (.d (.v undef)))):=by
 unfold oh at h;split at h
 ·next hg=>unfold jy;rw[hg];exact aaY h cf hK hL
 ·next g want hg=>
  obtain⟨dst,op,ty,pos,after,guard⟩:=o;simp only at hg;subst hg;split at h
  ·next b hb=>
   obtain⟨n,e,h2,h3⟩:=BO h cf;have h4:=OK.HS (h3 (_,_) arE);rw[NN,h4];refine⟨λe2=> ?_,λe2=> ?_⟩
   ·subst e2;simp only[BEq.rfl,cond_true]at e;exact aaY e h2 hK hL
   ·subst e2;have:((!want)==want)=false:=by cases want<;>rfl
    rw[this]at e;simp only[cond_false]at e;cases e
    exact hK
  ·next hb=>
   obtain⟨n,e,h2,h3⟩:=BO h cf;cases e
   have h4:=h3 (_,_) arE;have h5:wg ops g s.t= .d (.v undef):=by
    generalize wg ops g s.t=z at h4;cases h4;rfl
   rw[NN,h5];exact hK
  ·cases h
theorem V4:∀(ol:asn Oper)(j:Nat)(s:St)(l:asn (In×cd)),ot P ops false ol j as s=some (s1,l)->ie P l->IA as j ol=true->K s1->wc true P ops ol K s
 |[],_,s,l,h,_,_,hK=>by cases h;exact hK
 |o::rest,j,s,l,h,cf,hL,hK=>by
  unfold IA at hL;rw[arA]at hL;unfold ot at h;split at h
  ·next s2 m hg=>
   obtain⟨n,e,h2,h3⟩:=BO h cf;exact aqH (K:=wc true P ops rest K) hg h3 (V4 rest (j+1) s2 n e h2 hL.2 hK) hL.1
  ·cases h
theorem Ze:∀(ol pre:asn Oper),tw (pre++ol).toArray ((List.range ol.length).map (pre.length+·))=ol
 |[],_=>rfl
 |o::l,pre=>by
  rw[arB,List.range_succ_eq_map,arX,List.map_map];unfold tw;have h1:(pre++o::l).toArray[pre.length+0]?=some o:=by simp
  rw[h1];simp only;have h2:=Ze l (pre++[o]);rw[arP]at h2;simp only[List.singleton_append,arz,arB,arK,arS]at h2
  congr 1
  rw[show(pre.length+·)∘Nat.succ=(pre.length+1+·)from by funext i;simp only[Function.comp];omega];exact h2
theorem akc(ol:asn Oper):tw ol.toArray (List.range ol.length)=ol:=by
 have:=Ze ol []
 simpa using this
end
section
variable {P:asq} {r:asp Nat} {N0 id n:Nat} {ol:asn Oper} {y:Code} {t:asn (Nat×AV)} {h:asn ao} {Q Q':Exit->St->Prop}
end
section
variable {P:asq} {r:asp Nat} {N0:Nat} {Q:Exit->St->Prop} {c:Code} {o:Oper} {K:St->Prop}
theorem Iz{n d:Nat}{t:asn (Nat×AV)}{h h':asn ao}{x:AV}(hx:Bw P o.op (ev ⟨n,t,h⟩) h=some (x,h'))(hd:o.dst=some d)(hn:Nat.ble n d=false)(hK:K ⟨n,(d,x)::t,h'⟩):o9 P o K ⟨n,t,h⟩:=by
 refine .inr (.inr (.inr (.inr ⟨x,h',hx,?_⟩)));have aS:d<n:=Nat.lt_of_not_le λhle=>by rw[Nat.ble_eq_true_of_le hle]at hn;cases hn
 rw[hd,ru (s:=St.wh ⟨n,t,h⟩ h') aS];exact hK
theorem ajp{n d:Nat}{t:asn (Nat×AV)}{h h':asn ao}{x:AV}{p:Prop}(a:VA)(hx:iS P o.op (ev ⟨n,t,h⟩) h a=some (x,h',p))(hp:p)(hd:o.dst=some d)(hn:Nat.ble n d=false)(hK:K ⟨n,(d,x)::t,h'⟩):o9 P o K ⟨n,t,h⟩:=by
 refine .inl ⟨a,x,h',p,hx,hp,?_⟩;have aS:d<n:=Nat.lt_of_not_le λhle=>by rw[Nat.ble_eq_true_of_le hle]at hn;cases hn
 rw[hd,ru (s:=St.wh ⟨n,t,h⟩ h') aS];exact hK
theorem alI{ρ:Operand->AV}{h:asn ao}{q:Call}{x y:Operand}{T U:TypeId}{e k m cE:Nat}{kq kn:IntKind}{z:asr}(hc:q.callee= .builtin .append)(h1:q.args.toList=[x,y])(h2:q.argTypes.toList=[T,U])(hx:(ρ x).isNil=true)(hT:et P T=some (e,k))(hU:qC P U=some kn)(hy:ρ y= .d (.v (.int kq (Int.ofNat m))))(hz:iR P e=some z)(hb:qX P e=some cE)(g1:1<=m)(g2:1<=k)(g3:z.cells.toList.length=k)(g4:m<=maxLen)(g5:m*cE<=140737488355328):
 Bw P (.call q) ρ h=some (.vec h.length 0 m m k,h++[.vec e k (List.replicate m (z.cells.toList.map λu=> .d (.v u)))]):=by
 unfold Bw;simp only[hc,h1,h2,hT,hU,hy,hz,hb,hx,dJ.2 g1,dJ.2 g2,dJ.2 g4,dJ.2 g5,g3,ash,Bool.and_self,cond_true]
theorem aow{n t e k L:Nat}{ts:asn (Nat×AV)}{cs:asn (asn AV)}(cB:N0=0)(ht:bw ts t= .vec 0 0 0 L k)(hL:cs.length=L)(h:bJ P r N0 c Q ⟨n,[(t, .own 0 [])],[.front e k 0]⟩):bJ P r N0 c Q ⟨n,ts,[.vec e k cs]⟩:=by
 subst cB;constructor
 intro G w a m hs hN;have hi:=hs.inv;have hn0:([ao.vec e k cs]:asn ao)[0]?=some (.vec e k cs):=rfl;have hGN:G.N=1:=hi.len.symm;have hv:=hs.tmp t;rw[ht]at hv;obtain⟨Dz,⟨A,cc,q1,q2,q3,q4,q5⟩,Zo⟩:=hv.xY hi hn0 hL;obtain⟨b1,b2,b3,b4⟩:=hi.dv 0 _ hn0;have hp0:∀(A:asp Addr),cc<=maxLen->dD G.S w (.slice A 0 cc) (.sl []):=λA hc=> .sl A 0 0 cc 0 [] (λ_ _=>undef) (λh=>absurd rfl h) (Nat.zero_le _) hc (λ_ h=>absurd h ase) (λi j hi=>absurd hi (ar0 _)) (λi j x d hx=>by simp at hx);obtain⟨G',gi⟩:∃G',G'={G with sg:=λi=>if i=0 then a.tmps.getD t undef else G.sg i,fl:=λi=>if i=0 then 0 else G.fl i}:=⟨_,rfl⟩;have hE:b7 0 G w G' w:=by
  subst gi;exact⟨arJ _,λ_ _ h=>h,λ_ _ _=>rfl,λ_ h=>absurd h (ar0 _),λ_ h=>absurd h (ar0 _),zsame rfl,λ_ _=>rfl,rfl,rfl,rfl,λ_ _ h=> .inl h⟩
 have hinv:b9 G' w [.front e k 0]:=by
  refine⟨by rw[gi];exact hi.len,by rw[gi];exact hi.z,by rw[gi];exact hi.S,λj B hB=> ?_,λi j x h1 h2=> ?_,by rw[gi];exact hi.gl⟩
  ·match j with
   |0=>
    cases hB
    refine⟨by rw[gi];simp,Nat.zero_le _,?_⟩;rcases b4 with⟨d1,d2,A',d3⟩|⟨g,cap,cur,d1,d2,d3,d4,d5,d6,d7,d8,d9⟩
    ·left
     refine⟨by rw[gi];exact d1,?_⟩;have xV:L=0:=by rw[<-hL,d2];rfl
     have:=Zo rfl xV.symm;rw[gi];exact⟨A',by simp only[if_true];rw[this];exact d3⟩
    ·by_cases xV:L=0
     ·have:=Zo rfl xV.symm
      right
      refine⟨g,cap,cur,by rw[gi];exact d1,?_,by rw[gi];exact d3,d4,Nat.zero_le _,d6,d7,λo _=>by rw[gi];exact d8 o⟩;rw[gi];simp only[if_true];rw[this,d2,hL,xV]
     ·obtain⟨g',IC,s1,rfl,s3⟩:=q5 (Nat.pos_of_ne_zero xV);rw[d2]at s1;cases s1
      right
      have:cc=cap:=by omega
      subst this;refine⟨g,cc,cur,by rw[gi];exact d1,?_,by rw[gi];exact d3,d4,Nat.zero_le _,d6,d7,λo _=>by rw[gi];exact d8 o⟩;rw[gi];simp only[if_true];rw[q1,Nat.zero_mul]
   |j+1=>simp at hB
  ·have hj:∀i x,cg [ao.front e k 0] G' i=some x->i=0:=λi x h=>by
    obtain⟨B,hB,_⟩:=m7 h
    match i with
    |0=>rfl
    |i+1=>simp at hB
   rw[hj i x h1,hj j x h2]
 refine wpIn_mono (h.run G' w a m ⟨hs.size,λi=> ?_,hinv,?_⟩ (Nat.zero_le _)) λ_ _ _ hn=>hn.trans hE
 ·show aJ G' w _ (bw [(t, .own 0 [])] i);rw[kY];split
  ·next e=>
   subst e;refine .own 0 [] (by rw[gi];show 0<G.N;omega) ?_ (Nat.zero_le _) (λ_=>by rw[gi];simp);rw[q1,gi];exact hp0 A q3
  ·exact .dead _
 ·have:=hs.df;rw[gi];exact this
end
end Go.Proofs.YtdchibpnjpnkoaaGreatDoor
namespace Go.Proofs.YtdchibpnjpnkoaaGreatDoor.MK
open Go.RowKit
set_option linter.unusedVariables false
def ao(w:ass)(g:Nat)(t:TypeId)(cs:asn asr):Prop:=w.heap[g]?=some (.cells cs.toArray t (0,0))
section
variable {w w':ass} {g:Nat} {t:TypeId} {cs:asn asr}
end
section
variable {P:asq} (w:ass)
end
section
variable {P:asq} {w:ass}
end
section
variable {S E base:Nat} {w w' w'':ass}
end
end Go.Proofs.YtdchibpnjpnkoaaGreatDoor.MK
namespace Go.Proofs.YtdchibpnjpnkoaaGreatDoor
open Go.RowKit
set_option linter.unusedSimpArgs false
set_option linter.unusedVariables false
section
variable {P:asq}
end
def IB{α:Type}(x:AV)(k:AV->α):α:=
 match x with
 | .d y=>k (.d y)
 | .agg cs=>k (.agg cs)
 | .aX cs=>k (.aX cs)
 | .ptr n o=>fN n λn=>fN o λo=>k (.ptr n o)
 | .own n xs=>fN n λn=>k (.own n xs)
 | .fn f cs=>k (.fn f cs)
 | .mp n=>fN n λn=>k (.mp n)
 |x=>k x
theorem aaH{α:Type}(x:AV)(k:AV->α):IB x k=k x:=by cases x<;>simp [IB,DF]
def fT{α:Type}:asn (Nat×AV)->(asn (Nat×AV)->α)->α
 |[],k=>k []
 |(d,x)::l,k=>fN d λd=>IB x λx=>fT l λl=>k ((d,x)::l)
theorem Wp{α:Type}:∀(l:asn (Nat×AV))(k:asn (Nat×AV)->α),fT l k=k l
 |[],k=>rfl
 |(d,x)::l,k=>by rw[fT,DF,aaH,Wp l]
def fC{α:Type}:asn AV->(asn AV->α)->α
 |[],k=>k []
 |x::l,k=>IB x λx=>fC l λl=>k (x::l)
theorem Xp{α:Type}:∀(l:asn AV)(k:asn AV->α),fC l k=k l
 |[],k=>rfl
 |x::l,k=>by rw[fC,aaH,Xp l]
def fH{α:Type}:asn ao->(asn ao->α)->α
 |[],k=>k []
 | .cells cs::l,k=>fC cs λcs=>fH l λl=>k (.cells cs::l)
 | .front e z n::l,k=>fH l λl=>k (.front e z n::l)
 | .map kv::l,k=>fH l λl=>k (.map kv::l)
 | .gone::l,k=>fH l λl=>k (.gone::l)
 |B::l,k=>fH l λl=>k (B::l)
theorem vB{α:Type}:∀(l:asn ao)(k:asn ao->α),fH l k=k l
 |[],k=>rfl
 | .cells cs::l,k=>by rw[fH,Xp,vB l]
 | .front e z n::l,k=>by rw[fH,vB l]
 | .map kv::l,k=>by rw[fH,vB l]
 | .gone::l,k=>by rw[fH,vB l]
 | .vec .. ::l,k=>by rw[fH,vB l]<;>simp
 | .lp .. ::l,k=>by rw[fH,vB l]<;>simp
 | .it .. ::l,k=>by rw[fH,vB l]<;>simp
def Q2{α:Type}(s:St)(k:St->α):α:=fN s.n λn=>fT s.t λt=>fH s.h λh=>k ⟨n,t,h⟩
theorem aiL{α:Type}(s:St)(k:St->α):Q2 s k=k s:=by unfold Q2;rw[DF,Wp,vB]
inductive Fr
 |S (y:Code)
 |B (id:Nat)
 |F (k:Nat) (f:St->Prop)
def gQ(P:asq)(r:asp Nat)(N0:Nat)(Q:Exit->St->Prop):asn Fr->Exit->St->Prop
 |[]=>Q
 | .S y::K=>ik (λs=>bJ P r N0 y (gQ P r N0 Q K) s) (gQ P r N0 Q K)
 | .B id::K=>qB id (gQ P r N0 Q K)
 | .F _ f::K=>ik f (gQ P r N0 Q K)
inductive Md
 |c (c:Code)
 |n
 |x (id:Nat)
inductive WR
 |at (c:Code) (K:List Fr) (s:St)
 |ret (s:St)
 |nrm (s:St)
 |fin (k:Nat) (s:St)
abbrev WO:=asp (WR×asn (In×cd))
def KB(l:asn (In×cd)):WO->WO
 |some (w,m)=>some (w,l++m)
 |none=>none
def mN(P:asq):Nat->Md->asn Fr->asn (asn (Nat×cd))->St->WO
 |0,_,_,_,_=>none
 |F+1,m,K,A,s=>match m with
  | .n=>match K with
    |[]=>some (.nrm s,[])
    | .S y::K=>mN P F (.c y) K A s
    | .B _::K=>mN P F .n K A s
    | .F k _::_=>some (.fin k s,[])
  | .x id=>match K with
    |[]=>none
    | .S _::K=>mN P F (.x id) K A s
    | .B rC::K=>mN P F (bif id==rC then .n else .x id) K A s
    | .F _ _::K=>mN P F (.x id) K A s
  | .c c=>match c with
    | .seq a b=>mN P F (.c a) (.S b::K) A s
    | .block id b=>mN P F (.c b) (.B id::K) A s
    | .skip=>mN P F .n K A s
    | .ret=>some (.ret s,[])
    | .exit id=>mN P F (.x id) K A s
    | .region id ops dr=>match A with
      |[]=>some (.at (.region id ops dr) K s,[])
      |as::A=>bif !dr||om ops then match ot P ops dr ops.toList 0 as s with
         |some (s1,l)=>Q2 s1 λs1=>KB l (mN P F .n K A s1)
         |none=>none
       else none
    | .cond o x y=>match A with
      |[]=>some (.at (.cond o x y) K s,[])
      |as::A=>match jk as 0 with
       | .bit b=>KB [(.bit (ev s o), .bit b)] (mN P F (.c (bif b then x else y)) K A s)
       |_=>none
    |c=>match A with
     |[]=>some (.at c K s,[])
     |_=>none
section
variable {P:asq} {r:asp Nat} {N0:Nat} {Q:Exit->St->Prop}
theorem Ih:∀(K:asn Fr)(s:St),Q .ret s->gQ P r N0 Q K .ret s
 |[],_,h=>h
 | .S _::K,s,h=>Ih K s h
 | .B _::K,s,h=>Ih K s h
 | .F _ _::K,s,h=>Ih K s h
def amB(P:asq)(r:asp Nat)(N0:Nat)(Q:Exit->St->Prop)(m:Md)(K:asn Fr)(s:St):Prop:=
 match m with
 | .c c=>bJ P r N0 c (gQ P r N0 Q K) s
 | .n=>gQ P r N0 Q K .normal s
 | .x id=>gQ P r N0 Q K (.exit id) s
def E5(P:asq)(r:asp Nat)(N0:Nat)(Q:Exit->St->Prop)(K0:asn Fr):WR->Prop
 | .at c K s=>bJ P r N0 c (gQ P r N0 Q K) s
 | .ret s=>Q .ret s
 | .nrm s=>Q .normal s
 | .fin k s=>∀f,Fr.F k f∈K0->f s
theorem E5.sub{K K':asn Fr}(h:∀k f,Fr.F k f∈K'->Fr.F k f∈K):∀{w:WR},E5 P r N0 Q K w->E5 P r N0 Q K' w
 | .at _ _ _,hp=>hp
 | .ret _,hp=>hp
 | .nrm _,hp=>hp
 | .fin k _,hp=>λf hf=>hp f (h k f hf)
theorem XD{l m:asn (In×cd)}{x:WO}{w:WR}(h:KB l x=some (w,m))(cf:ie P m):∃n,x=some (w,n)/\ie P n/\ie P l:=by
 unfold KB at h;split at h
 ·next w' n=>
  cases h
  exact⟨n,rfl,λp hp=>cf p (List.mem_append_right _ hp),λp hp=>cf p (List.mem_append_left _ hp)⟩
 ·cases h
theorem UN(hm:P.follows .mixedOrders=true):∀(F:Nat)(m:Md)(K:asn Fr)(A:asn (asn (Nat×cd)))(s:St)(w:WR)(l:asn (In×cd)),mN P F m K A s=some (w,l)->ie P l->E5 P r N0 Q K w->amB P r N0 Q m K s
 |0,_,_,_,_,_,_,h,_,_=>by simp [mN]at h
 |F+1,m,K,A,s,w,l,h,cf,hp=>by
  have ih:=UN hm F;have tl:∀{x:Fr}{K:asn Fr},∀k f,Fr.F k f∈K->Fr.F k f∈x::K:=λ_ _ h=>arH _ h;have pS:∀{y:Code}{K:asn Fr},∀k f,Fr.F k f∈Fr.S y::K->Fr.F k f∈K:=λk f h=>by
   rcases ar2.1 h with h|h
   ·cases h
   ·exact h
  have pB:∀{y:Nat}{K:asn Fr},∀k f,Fr.F k f∈Fr.B y::K->Fr.F k f∈K:=λk f h=>by
   rcases ar2.1 h with h|h
   ·cases h
   ·exact h
  unfold mN at h;cases m with
  |n=>
   cases K with
   |nil=>cases h;exact hp
   |cons x K=>
    cases x with
    |S y=>exact ih (.c y) K _ _ _ _ h cf (hp.sub tl)
    |B id=>exact ih .n K _ _ _ _ h cf (hp.sub tl)
    |F k f=>cases h;exact hp _ arE
  |x id=>
   cases K with
   |nil=>cases h
   |cons x K=>
    cases x with
    |S y=>exact ih (.x id) K _ _ _ _ h cf (hp.sub tl)
    |B rC=>
     show(bif id==rC then gQ P r N0 Q K .normal s else gQ P r N0 Q K (.exit id) s);simp only at h;cases e:id==rC with
     |true=>rw[e]at h;exact ih .n K _ _ _ _ h cf (hp.sub tl)
     |false=>rw[e]at h;exact ih (.x id) K _ _ _ _ h cf (hp.sub tl)
    |F k f=>exact ih (.x id) K _ _ _ _ h cf (hp.sub tl)
  |c c=>
   simp only at h;split at h
   ·exact bk (ih (.c _) (.S _::K) _ _ _ _ h cf (hp.sub pS))
   ·exact gP (ih (.c _) (.B _::K) _ _ _ _ h cf (hp.sub pB))
   ·exact fU (ih .n _ _ _ _ _ h cf hp)
   ·cases h;exact eG (Ih K s hp)
   ·exact n4 (ih (.x _) _ _ _ _ _ h cf hp)
   ·next id ops dr=>
    split at h
    ·cases h;exact hp
    ·next as A=>
     obtain⟨hb,h⟩:=oT h;split at h
     ·next s1 l1 e=>
      rw[aiL]at h;obtain⟨n,e2,h2,h3⟩:=XD h cf;have hk:=ih .n _ _ _ _ _ e2 h2 hp;have dK:=y9 (P:=P) (ops:=ops) (dr:=dr) (K:=gQ P r N0 Q K .normal) ops.toList 0 s l1 e h3 hk;cases dr with
      |false=>exact fD dK
      |true=>
       have hl:om ops.toList.toArray=true:=by simpa using hb
       have:=L8 (P:=P) (r:=r) (N0:=N0) (Q:=gQ P r N0 Q K) (s:=s) (id:=id) (l:=ops.toList) hm hl (by simpa using dK);show bJ P r N0 (.region id ops true) (gQ P r N0 Q K) s
       simpa using this
     ·cases h
   ·next o x y=>
    split at h
    ·cases h;exact hp
    ·next as A=>
     split at h
     ·next b e=>
      obtain⟨n,e2,h2,h3⟩:=XD h cf;have h4:=OK.HS (h3 (_,_) arE);have hk:=ih (.c _) _ _ _ _ _ e2 h2 hp;exact PX h4 (λe=>by subst e;exact hk) (λe=>by subst e;exact hk)
     ·cases h
   ·split at h
    ·cases h;exact hp
    ·cases h
end
def wK:WO->asn Fr
 |some (.at _ K _,_)=>K
 |_=>[]
def wS:WO->St
 |some (.at _ _ s,_)=>s
 |_=>⟨0,[],[]⟩
def jm(k:Nat):asn Fr->asn (St->Prop)
 |[]=>[]
 | .F k' f::K=>bif k'==k then f::jm k K else jm k K
 |_::K=>jm k K
theorem Es{k:Nat}{f:St->Prop}:∀{K:asn Fr},Fr.F k f∈K->f∈jm k K
 |[],h=>by cases h
 | .S _::K,h=>by
   rcases ar2.1 h with h|h
   ·cases h
   ·exact Es (K:=K) h
 | .B _::K,h=>by
   rcases ar2.1 h with h|h
   ·cases h
   ·exact Es (K:=K) h
 | .F k' g::K,h=>by
   rcases ar2.1 h with h|h
   ·cases h;simp [jm]
   ·unfold jm;cases k'==k with
    |true=>exact arH _ (Es h)
    |false=>exact Es h
def pN:WO->asp (asn (In×cd))
 |some (.at _ _ _,l)=>some l
 |_=>none
def mX(live:asn Nat)(m:Nat):WO->asp (St×asn (In×cd))
 |some (.at (.loop _) _ s,l)=>(jE s live m).map (·,l)
 |_=>none
def wv(live:asn Nat)(m:Nat)(ks:asn Nat)(kn:asn (Nat×Nat)):WO->asp (St×asn (In×cd))
 |some (.at (.loop _) _ s,l)=>(mW s live m ks kn).map (·,l)
 |_=>none
def n3:WO->asp (asn (In×cd))
 |some (.at _ (.S _::_) _,l)=>some l
 |_=>none
def qq(k:Nat)(live:asn Nat)(m:Nat):WO->asp (St×asn (In×cd))
 |some (.fin k' s,l)=>bif k'==k then(jE s live m).map (·,l)else none
 |_=>none
def zd(k:Nat)(live:asn Nat)(m:Nat)(ks:asn Nat)(kn:asn (Nat×Nat)):WO->asp (St×asn (In×cd))
 |some (.fin k' s,l)=>bif k'==k then(mW s live m ks kn).map (·,l)else none
 |_=>none
def sJ(P:asq)(rs:asn ResultVar):WO->asp (AV×asn (In×cd))
 |some (.ret s,l)=>(yg P rs s).map (·,l)
 |some (.nrm s,l)=>(yg P rs s).map (·,l)
 |_=>none
def NB(P:asq)(rs:asn ResultVar)(m:Nat):WO->asp ((AV×asn ao)×asn (In×cd))
 |some (.ret s,l)=>(yS P rs m s).map (·,l)
 |some (.nrm s,l)=>(yS P rs m s).map (·,l)
 |_=>none
def Bx:asn Fr->asp (Code×asn Fr)
 | .S y::K=>some (y,K)
 | .B _::K=>Bx K
 |_=>none
def Nf(P:asq)(bj:asn Nat)(as:asn (Nat×cd)):WO->asp (asn (Nat×AV)×asn ao×asn (In×cd))
 |some (.at (.region _ ops dr) K s,_)=>bif (!dr||om ops)&&(Bx K).isSome then oJ P dr ops.toList as bj s else none
 |_=>none
def gr(k:Nat)(f:St->Prop)(s:St):WO->WO
 |some (.at (.loop b) K _,_)=>some (.at b (.F k f::K) s,[])
 |_=>none
def qa(k:Nat)(f:St->Prop):WO->WO
 |some (.at c (.S _::K) s,_)=>some (.at c (.F k f::K) s,[])
 |_=>none
def pw(s:St):WO->WO
 |some (.at _ (.S y::K) _,_)=>some (.at y K s,[])
 |_=>none
def ri(Δ:asn (Nat×AV))(h':asn ao):WO->WO
 |some (.at _ K s,_)=>match Bx K with
  |some (y,K')=>some (.at y K' ⟨s.n,Δ++s.t,h'⟩,[])
  |none=>none
 |_=>none
def C6(f:St->St):WO->WO
 |some (.at c K s,l)=>some (.at c K (f s),l)
 |_=>none
def Xr:Nat:=4000
def wk(P:asq)(w:WO)(aB:asn (asn (Nat×Ob P))):WO:=
 match w with
 |some (.at c K s,_)=>mN P Xr (.c c) K (aB.map iO) s
 |_=>none
def dt{P:asq}(aB:asn (asn (Nat×Ob P))):asn (In×cd):=aB.flatMap iE
theorem anh{P:asq}(aB:asn (asn (Nat×Ob P))):ie P (dt aB):=λp hp=>by
 obtain⟨l,_,h⟩:=List.mem_flatMap.1 hp;exact tC l p h
theorem rh{α β:Type}{x:asp α}{l:β}{y:α}{m:β}(h:x.map (·,l)=some (y,m)):x=some y/\l=m:=by
 cases x with
 |none=>cases h
 |some z=>cases h;exact⟨rfl,rfl⟩
def yB(P:asq)(r:asp Nat)(N0:Nat)(Q:Exit->St->Prop):WO->Prop
 |some (.at c K s,_)=>bJ P r N0 c (gQ P r N0 Q K) s
 |_=>True
structure GW(P:Program)(r:Option Nat)(N0:Nat)(Q:Exit->St->Prop)(w:WO):Prop where
 run:yB P r N0 Q w
section
variable {P:asq} {r:asp Nat} {N0:Nat} {Q:Exit->St->Prop} {w0:WO}
theorem nZ{aB:asn (asn (Nat×Ob P))}(hm:P.follows .mixedOrders=true){w:WR}(e:wk P w0 aB=some (w,dt aB))(hp:∀K,(∀k f,Fr.F k f∈K->Fr.F k f∈wK w0)->E5 P r N0 Q K w):GW P r N0 Q w0:=by
 constructor
 unfold wk at e;split at e
 ·next c K s l=>exact UN hm Xr (.c c) K _ s w _ e (anh aB) (hp K λk f h=>h)
 ·cases e
theorem kx(hm:P.follows .mixedOrders=true)(aB:asn (asn (Nat×Ob P)))(k:GW P r N0 Q (wk P w0 aB))(e:pN (wk P w0 aB)=some (dt aB):=by kernel_rfl):GW P r N0 Q w0:=by
 generalize hw:wk P w0 aB=w at e k;unfold pN at e;split at e
 ·cases e;exact nZ hm hw λK _=>k.run
 ·cases e
theorem akl(hm:P.follows .mixedOrders=true){fn:Func}{R:AV}(aB:asn (asn (Nat×Ob P)))(e:sJ P fn.results.toList (wk P w0 aB)=some (R,dt aB)):GW P r N0 (kI P fn R) w0:=by
 generalize hw:wk P w0 aB=w at e;unfold sJ at e;split at e
 ·obtain⟨e1,rfl⟩:=rh e;exact nZ hm hw λK _=>e1
 ·obtain⟨e1,rfl⟩:=rh e;exact nZ hm hw λK _=>e1
 ·cases e
theorem aoS(hm:P.follows .mixedOrders=true){fn:Func}{m:Nat}{R:AV}{H:asn ao}(aB:asn (asn (Nat×Ob P)))(e:NB P fn.results.toList m (wk P w0 aB)=some ((R,H),dt aB)):GW P r N0 (u6 P fn m R H) w0:=by
 generalize hw:wk P w0 aB=w at e;unfold NB at e;split at e
 ·obtain⟨e1,rfl⟩:=rh e;exact nZ hm hw λK _=>e1
 ·obtain⟨e1,rfl⟩:=rh e;exact nZ hm hw λK _=>e1
 ·cases e
theorem wr(hm:P.follows .mixedOrders=true){fn:Func}{R:AV}(aB:asn (asn (Nat×Ob P)))(e:sJ P fn.results.toList (wk P w0 aB)=some (R,dt aB):=by kernel_rfl):GW P r N0 (kI P fn R) w0:=akl hm aB e
theorem u9(hm:P.follows .mixedOrders=true){fn:Func}{m:Nat}{R:AV}{H:asn ao}(aB:asn (asn (Nat×Ob P)))(e:NB P fn.results.toList m (wk P w0 aB)=some ((R,H),dt aB):=by kernel_rfl):GW P r N0 (u6 P fn m R H) w0:=aoS hm aB e
structure LW{ι:Type}(k:Nat)(live:List Nat)(m:Nat)(st:ι->St)(I:ι->Prop)(μ:ι->Nat)(i0:ι)(f:St->Prop):Prop where
 h:∀s' i',jE s' live m=some (st i')->I i'->μ i'<μ i0->f s'
structure I4{ι:Type}(k:Nat)(live:List Nat)(m:Nat)(ks:List Nat)(kn:List (Nat×Nat))(st:ι->St)(I:ι->Prop)(μ:ι->Nat)(i0:ι)(f:St->Prop):Prop where
 h:∀s' i',ij m (s'.h.take m)->mW s' live m ks kn=some (st i')->I i'->μ i'<μ i0->f s'
structure sx{ι:Type}(k:Nat)(live:List Nat)(m:Nat)(st:ι->St)(I:ι->Prop)(f:St->Prop):Prop where
 h:∀s' i',jE s' live m=some (st i')->I i'->f s'
structure Bn{ι:Type}(k:Nat)(live:List Nat)(m:Nat)(ks:List Nat)(kn:List (Nat×Nat))(st:ι->St)(I:ι->Prop)(f:St->Prop):Prop where
 h:∀s' i',ij m (s'.h.take m)->mW s' live m ks kn=some (st i')->I i'->f s'
theorem Ku(hm:P.follows .mixedOrders=true){k:Nat}{s1:St}{f:St->Prop}(aB:asn (asn (Nat×Ob P)))(e1:jm k (wK w0)=[f])(e:wk P w0 aB=some (.fin k s1,dt aB))(hf:f s1):GW P r N0 Q w0:=
 nZ hm e λK hK g hg=>by
  have:=Es (hK k g hg);rw[e1,List.mem_singleton]at this;subst this;exact hf
theorem An(hm:P.follows .mixedOrders=true){ι:Type}{live:asn Nat}{m k:Nat}{st:ι->St}{I:ι->Prop}{μ:ι->Nat}{i0:ι}{f:St->Prop}(hf:LW k live m st I μ i0 f)(i:ι)(aB:asn (asn (Nat×Ob P)))(hI:I i)(hμ:μ i<μ i0:=by exact asl _)(e1:jm k (wK w0)=[f]:=by kernel_rfl)(e:qq k live m (wk P w0 aB)=some (st i,dt aB):=by kernel_rfl):GW P r N0 Q w0:=by
 generalize hw:wk P w0 aB=w at e;unfold qq at e;split at e
 ·next k' s' l=>
  obtain⟨hb,e⟩:=oT e;obtain⟨e2,rfl⟩:=rh e;rw[beq_iff_eq]at hb;subst hb;exact Ku hm aB e1 hw (hf.h _ i e2 hI hμ)
 ·cases e
def tZ:asn ao->asn (asn (asn AV))
 |[]=>[]
 | .vec _ _ cs::l=>cs::tZ l
 |_::l=>tZ l
structure VE(m:Nat) where
 x:List (List AV)
 ok:∀e k,(ao.vec e k x).Az m
def VE.iX{m:Nat}(xs:asn (asn D)):VE m:=⟨bn xs,λ_ _=>(jh (m:=m) (l:=[]) gJ).1⟩
def VE.row{m:Nat}(xs:asn (asn D))(i:Nat)(r:asn AV)(h1:r.map (AV.bG m)=r:=by kernel_rfl)(h2:r.all (AV.aQ m)=true:=by kernel_rfl):VE m:=⟨(bn xs).set i r,λ_ _=>(vmR (m:=m) (l:=[]) h1 h2 gJ).1⟩
theorem Hj{m:Nat}:∀(l:asn ao)(dS:asn (VE m)),tZ l=dS.map VE.x->ij m l
 |[],_,_=>gJ
 |B::l,dS,h=>by
  cases B with
  |vec e k cs=>
   cases dS with
   |nil=>cases h
   |cons v vs=>
    have h1:cs=v.x:=(List.cons.inj h).1;subst h1;exact⟨v.ok e k,Hj l vs (List.cons.inj h).2⟩
  |_=>exact⟨trivial,Hj l dS h⟩
def ov(m:Nat):WO->asn (asn (asn AV))
 |some (.fin _ s,_)=>tZ (s.h.take m)
 |some (.at _ _ s,_)=>tZ (s.h.take m)
 |_=>[]
theorem C1(hm:P.follows .mixedOrders=true){ι:Type}{live:asn Nat}{m k:Nat}{ks:asn Nat}{kn:asn (Nat×Nat)}{st:ι->St}{I:ι->Prop}{μ:ι->Nat}{i0:ι}{f:St->Prop}(hf:I4 k live m ks kn st I μ i0 f)(i:ι)(aB:asn (asn (Nat×Ob P)))(hI:I i)(hμ:μ i<μ i0:=by exact asl _)(e1:jm k (wK w0)=[f]:=by kernel_rfl)(dS:asn (VE m):=[])(e0:ov m (wk P w0 aB)=dS.map VE.x:=by kernel_rfl)(e:zd k live m ks kn (wk P w0 aB)=some (st i,dt aB):=by kernel_rfl):GW P r N0 Q w0:=by
 generalize hw:wk P w0 aB=w at e e0;unfold zd at e;split at e
 ·next k' s' l=>
  obtain⟨hb,e⟩:=oT e;obtain⟨e2,rfl⟩:=rh e;rw[beq_iff_eq]at hb;subst hb;exact Ku hm aB e1 hw (hf.h _ i (Hj _ dS e0) e2 hI hμ)
 ·cases e
theorem NX(hm:P.follows .mixedOrders=true){ι:Type}{live:asn Nat}{m k:Nat}{st:ι->St}{I:ι->Prop}{f:St->Prop}(hf:sx k live m st I f)(i:ι)(aB:asn (asn (Nat×Ob P)))(hI:I i)(e1:jm k (wK w0)=[f]:=by kernel_rfl)(e:qq k live m (wk P w0 aB)=some (st i,dt aB):=by kernel_rfl):GW P r N0 Q w0:=by
 generalize hw:wk P w0 aB=w at e;unfold qq at e;split at e
 ·next k' s' l=>
  obtain⟨hb,e⟩:=oT e;obtain⟨e2,rfl⟩:=rh e;rw[beq_iff_eq]at hb;subst hb;exact Ku hm aB e1 hw (hf.h _ i e2 hI)
 ·cases e
theorem Jw(hm:P.follows .mixedOrders=true){ι:Type}(k:Nat)(aB:asn (asn (Nat×Ob P)))(live:asn Nat)(m:Nat)(st:ι->St)(I:ι->Prop)(μ:ι->Nat)(i0:ι)(hI:I i0)
 (body:∀i,I i->∀f:St->Prop,LW k live m st I μ i f->GW P r N0 Q (gr k f (st i) (wk P w0 aB)))
 (hN:N0<=m:=by exact arG rfl) (e:mX live m (wk P w0 aB)=some (st i0,dt aB):=by kernel_rfl):GW P r N0 Q w0:=by
 generalize hw:wk P w0 aB=w at e body;unfold mX at e;split at e
 ·next b K' s' l=>
  obtain⟨e2,rfl⟩:=rh e;refine nZ hm hw λK _=> ?_;refine apo live m st I μ i0 hN e2 hI λi hi=> ?_;exact(body i hi _ ⟨λs' i' h1 h2 h3=>⟨i',h1,h2,h3⟩⟩).run
 ·cases e
theorem yi(hm:P.follows .mixedOrders=true){ι:Type}(k:Nat)(aB:asn (asn (Nat×Ob P)))(live:asn Nat)(m:Nat)(ks:asn Nat)(kn:asn (Nat×Nat))(st:ι->St)(I:ι->Prop)(μ:ι->Nat)(i0:ι)(hI:I i0)
 (body:∀i,I i->∀f:St->Prop,I4 k live m ks kn st I μ i f->GW P r N0 Q (gr k f (st i) (wk P w0 aB)))
 (hN:N0<=m:=by exact arG rfl) (dS:asn (VE m):=[]) (e0:ov m (wk P w0 aB)=dS.map VE.x:=by kernel_rfl) (e:wv live m ks kn (wk P w0 aB)=some (st i0,dt aB):=by kernel_rfl):GW P r N0 Q w0:=by
 generalize hw:wk P w0 aB=w at e e0 body;unfold wv at e;split at e
 ·next b K' s' l=>
  obtain⟨e2,rfl⟩:=rh e;refine nZ hm hw λK _=> ?_;refine wE live m ks kn st I μ i0 hN ⟨Hj _ dS e0,e2⟩ hI λi hi=> ?_;exact(body i hi _ ⟨λs' i' h0 h1 h2 h3=>⟨i',⟨h0,h1⟩,h2,h3⟩⟩).run
 ·cases e
theorem LV(hm:P.follows .mixedOrders=true){ι:Type}(k:Nat)(aB:asn (asn (Nat×Ob P)))(live:asn Nat)(m:Nat)(st:ι->St)(I:ι->Prop)
 (br:∀f:St->Prop,sx k live m st I f->GW P r N0 Q (qa k f (wk P w0 aB)))
 (rest:∀i,I i->GW P r N0 Q (pw (st i) (wk P w0 aB))) (hN:N0<=m:=by exact arG rfl) (e:n3 (wk P w0 aB)=some (dt aB):=by kernel_rfl):GW P r N0 Q w0:=by
 generalize hw:wk P w0 aB=w at e br rest;unfold n3 at e;split at e
 ·cases e
  refine nZ hm hw λK _=> ?_;exact aj1 live m st I hN (br _ ⟨λs' i' h1 h2=>⟨i',h1,h2⟩⟩).run λi hi=>(rest i hi).run
 ·cases e
theorem aiB(hm:P.follows .mixedOrders=true){ι:Type}{live:asn Nat}{m k:Nat}{ks:asn Nat}{kn:asn (Nat×Nat)}{st:ι->St}{I:ι->Prop}{f:St->Prop}(hf:Bn k live m ks kn st I f)(i:ι)(aB:asn (asn (Nat×Ob P)))(hI:I i)(dS:asn (VE m):=[])(e0:ov m (wk P w0 aB)=dS.map VE.x:=by kernel_rfl)(e1:jm k (wK w0)=[f]:=by kernel_rfl)(e:zd k live m ks kn (wk P w0 aB)=some (st i,dt aB):=by kernel_rfl):GW P r N0 Q w0:=by
 generalize hw:wk P w0 aB=w at e e0;unfold zd at e;split at e
 ·next k' s' l=>
  obtain⟨hb,e⟩:=oT e;obtain⟨e2,rfl⟩:=rh e;rw[beq_iff_eq]at hb;subst hb;exact Ku hm aB e1 hw (hf.h _ i (Hj _ dS e0) e2 hI)
 ·cases e
theorem R2(hm:P.follows .mixedOrders=true){ι:Type}(k:Nat)(aB:asn (asn (Nat×Ob P)))(live:asn Nat)(m:Nat)(ks:asn Nat)(kn:asn (Nat×Nat))(st:ι->St)(I:ι->Prop)
 (br:∀f:St->Prop,Bn k live m ks kn st I f->GW P r N0 Q (qa k f (wk P w0 aB)))
 (rest:∀i,I i->GW P r N0 Q (pw (st i) (wk P w0 aB))) (hN:N0<=m:=by exact arG rfl) (e:n3 (wk P w0 aB)=some (dt aB):=by kernel_rfl):GW P r N0 Q w0:=by
 generalize hw:wk P w0 aB=w at e br rest;unfold n3 at e;split at e
 ·cases e
  refine nZ hm hw λK _=> ?_;exact aey live m ks kn st I hN (br _ ⟨λs' i' h0 h1 h2=>⟨i',⟨h0,h1⟩,h2⟩⟩).run λi hi=>(rest i hi).run
 ·cases e
theorem M6:∀{K:asn Fr}{y:Code}{K':asn Fr}{s:St},Bx K=some (y,K')->bJ P r N0 y (gQ P r N0 Q K') s->gQ P r N0 Q K .normal s
 |[],_,_,_,h,_=>by cases h
 | .S y::K,_,_,_,h,k=>by cases h;exact k
 | .B _::K,_,_,s,h,k=>M6 (K:=K) (s:=s) h k
 | .F _ _::K,_,_,_,h,_=>by cases h
theorem aon(hm:P.follows .mixedOrders=true)(Δ:asn (Nat×AV))(h':asn ao)(e:∃aB:asn (Nat×Ob P),Nf P (Δ.map (·.1)) (iO aB) (wk P w0 [])=some (Δ,h',iE aB))(k:GW P r N0 Q (ri Δ h' (wk P w0 [])))(e0:pN (wk P w0 [])=some []:=by kernel_rfl):GW P r N0 Q w0:=by
 generalize hw:wk P w0 []=w at e k e0;obtain⟨aB,e⟩:=e;unfold Nf at e;split at e
 ·next id ops dr K' s' l=>
  obtain⟨hb,e⟩:=oT e;rw[arA]at hb;cases e0
  refine nZ hm hw λK _=> ?_;obtain⟨s1,h1,h2,h3,h4⟩:=Ls e;obtain⟨p,hp⟩:=Option.isSome_iff_exists.1 hb.2;obtain⟨y,K2⟩:=p;have hk:gQ P r N0 Q K' .normal s1:=by
   refine M6 hp (HY (s:=s1) (s':=⟨s'.n,Δ++s'.t,h'⟩) h2.symm h3.symm h4 ?_);have k:=k.run;simp only[ri,hp]at k;exact k
  show bJ P r N0 (.region id ops dr) (gQ P r N0 Q K') s';have dK:=y9 (P:=P) (ops:=ops.toList.toArray) (dr:=dr) (K:=gQ P r N0 Q K' .normal) ops.toList 0 s' _ h1 (tC aB) hk;cases dr with
  |false=>exact fD (by simpa using dK)
  |true=>
   have hl:om ops.toList.toArray=true:=by simpa using hb.1
   have:=L8 (P:=P) (r:=r) (N0:=N0) (Q:=gQ P r N0 Q K') (s:=s') (id:=id) (l:=ops.toList) hm hl (by simpa using dK)
   simpa using this
 ·cases e
def Mi(P:asq)(bj:asn Nat)(as:asn (Nat×cd)):WO->asp (asn (asn (Nat×AV)×asn ao×asn (In×cd)))
 |some (.at (.region _ ops true) K s,_)=>bif (Bx K).isSome then A6 P ops.toList as bj s else none
 |_=>none
theorem np(m:Nat)(hm:P.follows .mixedOrders=true)(Δ:asn (Nat×AV))(h':asn ao)(e:∃aB:asn (Nat×Ob P),Mi P (Δ.map (·.1)) (iO aB) (wk P w0 [])=some (List.replicate m (Δ,h',iE aB)))(k:GW P r N0 Q (ri Δ h' (wk P w0 [])))(e0:pN (wk P w0 [])=some []:=by kernel_rfl):GW P r N0 Q w0:=by
 generalize hw:wk P w0 []=w at e k e0;obtain⟨aB,e⟩:=e;unfold Mi at e;split at e
 ·next id ops K' s' l=>
  obtain⟨hb,e⟩:=oT e;cases e0
  refine nZ hm hw λK _=> ?_;obtain⟨p,hp⟩:=Option.isSome_iff_exists.1 hb;obtain⟨y,K2⟩:=p;show bJ P r N0 (.region id ops true) (gQ P r N0 Q K') s';have:=rte (r:=r) (N0:=N0) (Q:=gQ P r N0 Q K') (id:=id) (ol:=ops.toList) (n:=s'.n) (t:=s'.t) (h:=s'.h) m hm aB Δ h' e (M6 hp (by
   have k:=k.run;simp only[ri,hp]at k;exact k))
  simpa using this
 ·cases e
def ac6(P:asq)(bj:asn Nat)(as:asn (Nat×cd)):WO->asp (asn (Nat×AV)×asn ao×asn (In×cd))
 |some (.at (.region _ ops true) K s,_)=>bif (Bx K).isSome&&Ns true ops (List.range ops.toList.length)&&IA as 0 ops.toList then oJ P false ops.toList as bj s else none
 |_=>none
theorem RK(hm:P.follows .mixedOrders=true)(aB:asn (Nat×Ob P))(Δ:asn (Nat×AV))(h':asn ao)(k:GW P r N0 Q (ri Δ h' (wk P w0 [])))(e:ac6 P (Δ.map (·.1)) (iO aB) (wk P w0 [])=some (Δ,h',iE aB):=by kernel_rfl)(e0:pN (wk P w0 [])=some []:=by kernel_rfl):GW P r N0 Q w0:=by
 generalize hw:wk P w0 []=w at e k e0;unfold ac6 at e;split at e
 ·next id ops K' s' l=>
  obtain⟨hb,e⟩:=oT e;rw[arA,arA]at hb;cases e0
  refine nZ hm hw λK _=> ?_;obtain⟨p,hp⟩:=Option.isSome_iff_exists.1 hb.1.1;obtain⟨y,K2⟩:=p;show bJ P r N0 (.region id ops true) (gQ P r N0 Q K') s';have hk:bJ P r N0 y (gQ P r N0 Q K2) ⟨s'.n,Δ++s'.t,h'⟩:=by
   have k:=k.run;simp only[ri,hp]at k;exact k
  obtain⟨s1,h1,h2,h3,h4⟩:=Ls e;have Me:gQ P r N0 Q K' .normal s1:=M6 hp (HY (s:=s1) (s':=⟨s'.n,Δ++s'.t,h'⟩) h2.symm h3.symm h4 hk);have hl:Ns true ops.toList.toArray (List.range ops.toList.length)=true:=by simpa using hb.1.2
  have:bJ P r N0 (.region id ops.toList.toArray true) (gQ P r N0 Q K') s':=by
   refine afV (m:=true) (List.range ops.toList.length) hm (by simp) hl ?_;rw[akc];exact V4 ops.toList 0 _ _ h1 (tC aB) hb.2 Me
  simpa using this
 ·cases e
def RQ(b:Nat):ao->asn (Nat×Nat×Nat×Nat)
 | .cells cs=>AV.qh b cs
 | .lp .. =>[(1,0,0,0)]
 | .it .. =>[(1,0,0,0)]
 |_=>[]
structure VM(b L kk:Nat)(ys:List (List D)) where
 x:List (List AV)
 y:List (List AV)
 ok:ys.length=L->y=x.map (·.map (AV.cQ b kk ys))
def VM.iX{b L kk:Nat}{ys:asn (asn D)}(zs:asn (asn D)):VM b L kk ys:=⟨bn zs,bn zs,λ_=>(zT (λd=>by simp [AV.cQ]) zs).symm⟩
def VM.rw{b L kk:Nat}{ys:asn (asn D)}(zs:asn (asn D))(i:Nat)(cs cm:asn AV)(c:Nat)(h:AV.qh b cs=List.replicate c (0,L,L,kk):=by kernel_rfl)(e:AV.m8 b ys cs=cm:=by kernel_rfl):VM b L kk ys:=
 ⟨(bn zs).set i cs,(bn zs).set i cm,λhL=>by rw[List.map_set,zT (λd=>by simp [AV.cQ]),<-qE,tO _ (A3 hL h),e]⟩
def VM.row{b L kk:Nat}{ys:asn (asn D)}{α:Type}(f:α->asn D)(E:asn α)(i:Nat)(cs:asn AV)(y:α)(c:Nat)(h:AV.qh b cs=List.replicate c (0,L,L,kk):=by kernel_rfl)(e:AV.m8 b ys cs=(f y).map AV.d:=by kernel_rfl):VM b L kk ys:=
 ⟨(bn (E.map f)).set i cs,bn ((E.set i y).map f),λhL=>by
   have h1:((bn (E.map f)).set i cs).map (·.map (AV.cQ b kk ys))=(bn (E.map f)).set i (cs.map (AV.cQ b kk ys)):=by rw[List.map_set,zT (λd=>by simp [AV.cQ])]
   have h2:cs.map (AV.cQ b kk ys)=(f y).map AV.d:=by rw[<-qE,tO _ (A3 hL h),e]
   rw[h1,h2];exact(aqg rfl).symm⟩
def sL(b:Nat)(ys:asn (asn D)):asn ao->asn (asn (asn AV))->asn ao
 |[],_=>[]
 |B::l,vs=>match B with
  | .vec e k cs=>match vs with
    |v::vs=> .vec e k v::sL b ys l vs
    |[]=> .vec e k cs::sL b ys l []
  | .cells cs=> .cells (AV.m8 b ys cs)::sL b ys l vs
  |B=>B::sL b ys l vs
theorem ac0{b L kk:Nat}{ys:asn (asn D)}(hL:ys.length=L):∀(h:asn ao)(vs:asn (VM b L kk ys)),tZ h=vs.map VM.x->(∀q∈h.flatMap (RQ b),q=(0,ys.length,ys.length,kk))->sL b ys h (vs.map VM.y)=h.map (ao.kD (AV.cQ b kk ys))
 |[],_,_,_=>rfl
 |B::l,vs,hv,ho=>by
  have hl:∀vs:asn (VM b L kk ys),tZ l=vs.map VM.x->sL b ys l (vs.map VM.y)=l.map (ao.kD (AV.cQ b kk ys)):=λvs hv=>ac0 hL l vs hv λq hq=>ho q (by rw[List.flatMap_cons];exact List.mem_append_right _ hq);have hb:∀q∈RQ b B,q=(0,ys.length,ys.length,kk):=λq hq=>ho q (by rw[List.flatMap_cons];exact List.mem_append_left _ hq);cases B with
  |vec e k cs=>
   cases vs with
   |nil=>cases hv
   |cons v vs=>
    have hv1:cs=v.x:=(List.cons.inj hv).1;have e1:(ao.vec e k cs).kD (AV.cQ b kk ys)= .vec e k v.y:=by rw[v.ok hL,hv1];rfl
    show ao.vec e k v.y::sL b ys l (vs.map VM.y)=ao.kD (AV.cQ b kk ys) (.vec e k cs)::l.map _;rw[hl vs (List.cons.inj hv).2,e1]
  |cells cs=>
   have e1:(ao.cells cs).kD (AV.cQ b kk ys)= .cells (AV.m8 b ys cs):=by
    rw[<-tO cs hb,qE];rfl
   show ao.cells (AV.m8 b ys cs)::sL b ys l (vs.map VM.y)=ao.kD (AV.cQ b kk ys) (.cells cs)::l.map _;rw[hl vs hv,e1]
  |front e k n=>exact congrArg (ao.front e k n::·) (hl vs hv)
  |map kv=>exact congrArg (ao.map kv::·) (hl vs hv)
  |gone=>exact congrArg (ao.gone::·) (hl vs hv)
  |lp ls p as bd cs=>have:=congrArg Prod.fst (hb (1,0,0,0) arE);cases this
  |it sn cs=>have:=congrArg Prod.fst (hb (1,0,0,0) arE);cases this
theorem akB{c:Code}{s:St}(live:asn Nat)(b:Nat)(xs:asn (asn D)){e k L:Nat}(h':asn ao)(hb:s.h[b]?=some (.vec e k (bn xs)))(hone:∀c∈xs,c.all D.uZ=true)(hL:xs.length=L)
 (ho:∀q∈live.flatMap λi=>(bw s.t i).ra b,q=(0,xs.length,xs.length,k)) (hh:h'=s.h.map (ao.kD (AV.cQ b k xs))) (K:bJ P r N0 c Q ⟨s.n,live.map (λi=>(i,(bw s.t i).mlt b xs)),h'.set b .gone⟩):bJ P r N0 c Q s:=by
 constructor
 intro G w a n hs hN;obtain⟨G',hE,e1,ct⟩:=hs.PY xs hb hone;refine wpIn_mono (K.run G' w a n (ct.less rfl (by rw[hh]) λi=> ?_) (by rw[e1];exact hN)) λ_ _ _ hn=>hn.trans (hE.less hN);show bw (live.map (λi=>(i,(bw s.t i).mlt b xs))) i=bw (s.t.map λp=>(p.1,p.2.cQ b k xs)) i\/_;rw[rz (λk=>(bw s.t k).mlt b xs),Fe (AV.cQ b k xs) (by simp [AV.cQ])];split
 ·next hi=>
  left
  refine(RG _ λq hq=>ho q ?_).symm;exact List.mem_flatMap.2 ⟨i,hi,hq⟩
 ·exact .inr rfl
def ak3(live:asn Nat)(b:Nat)(s:St):asn (Nat×Nat×Nat×Nat):=(live.flatMap λi=>(bw s.t i).ra b)++s.h.flatMap (RQ b)
def ae3(live:asn Nat)(b:Nat)(ys:asn (asn D))(vs:asn (asn (asn AV)))(s:St):St:=⟨s.n,live.map (λi=>(i,(bw s.t i).mlt b ys)),(sL b ys s.h vs).set b .gone⟩
theorem xn(live:asn Nat)(b:Nat){xs:asn (asn D)}(ys:asn (asn D))(L c e k:Nat)(vs:asn (VM b L k ys))(hL:xs.length=L)(hy:ys=xs)(hone:∀c∈xs,c.all D.uZ=true)(K:GW P r N0 Q (C6 (ae3 live b ys (vs.map VM.y)) w0))(hb:(wS w0).h[b]?=some (.vec e k (bn xs)):=by kernel_rfl)(ho:ak3 live b (wS w0)=List.replicate c (0,L,L,k):=by kernel_rfl)(hv:tZ (wS w0).h=vs.map VM.x:=by kernel_rfl):GW P r N0 Q w0:=by
 subst hy;constructor
 unfold yB;split
 ·next c K' s l=>
  have gu:=A3 hL ho;exact akB live b ys _ hb hone hL (λq hq=>gu q (List.mem_append_left _ hq)) (ac0 hL s.h vs hv λq hq=>gu q (List.mem_append_right _ hq)) K.run
 ·trivial
theorem aq5(k:Nat)(xs:asn (asn D))(hx:(bw (wS w0).t k).fe=some xs)(h:uc (.sl xs)->GW P r N0 Q w0):GW P r N0 Q w0:=by
 constructor
 unfold yB;split
 ·next c K s l=>exact tS k xs hx λhl=>(h hl).run
 ·trivial
theorem Mx(b i:Nat)(xs:asn (asn D))(hx:(((wS w0).h[b]?).bind λB=>match B with| .cells cs=>(cs[i]?).bind AV.fe|_=>none)=some xs)(h:uc (.sl xs)->GW P r N0 Q w0):GW P r N0 Q w0:=by
 constructor
 unfold yB;split
 ·next c K s l=>exact al0 b i xs hx λhl=>(h hl).run
 ·trivial
def adS(k e sz:Nat)(xs:asn (asn D))(s:St):St:=⟨s.n,(k, .own s.h.length xs)::s.t,s.h++[.front e sz xs.length]⟩
def Io(b i e sz:Nat)(xs:asn (asn D))(s:St):St:=match s.h[b]? with
 |some (.cells cs)=>⟨s.n,s.t,(s.h++[ao.front e sz xs.length]).set b (ao.cells (cs.set i (AV.own s.h.length xs)))⟩
 |_=>s
def N8(xs:asn (asn D)):AV->Bool
 | .d (.v (.slice none 0 0))=>xs.isEmpty
 |_=>false
theorem aav{xs:asn (asn D)}{x:AV}(h:N8 xs x=true):x= .d (.v (.slice none 0 0))/\xs=[]:=by
 unfold N8 at h;split at h
 ·exact⟨rfl,List.isEmpty_iff.1 h⟩
 ·cases h
theorem vQ(k e sz:Nat)(xs:asn (asn D))(hx:bw (wS w0).t k= .full xs\/N8 xs (bw (wS w0).t k)=true)(h:GW P r N0 Q (C6 (adS k e sz xs) w0)):GW P r N0 Q w0:=by
 constructor
 unfold yB;split
 ·next c K s l=>exact abp k e sz xs (hx.imp id aav) h.run
 ·trivial
def N7(b i:Nat)(s:St):AV:=match s.h[b]? with
 |some (.cells cs)=>(cs[i]?).getD .dead
 |_=> .dead
theorem aax{b i:Nat}{s:St}{x:AV}(h:N7 b i s=x)(hx:x≠ .dead):∃cs,s.h[b]?=some (.cells cs)/\cs[i]?=some x:=by
 unfold N7 at h;split at h
 ·next cs hb=>
  refine⟨cs,hb,?_⟩;cases hq:cs[i]? with
  |none=>rw[hq]at h;exact absurd h.symm hx
  |some y=>rw[hq]at h;rw[<-h];rfl
 ·exact absurd h.symm hx
theorem GF(b i e sz:Nat)(xs:asn (asn D))(hx:N7 b i (wS w0)= .full xs\/N8 xs (N7 b i (wS w0))=true)(h:GW P r N0 Q (C6 (Io b i e sz xs) w0)):GW P r N0 Q w0:=by
 constructor
 unfold yB;split
 ·next c K s l=>
  have h':bJ P r N0 c (gQ P r N0 Q K) (Io b i e sz xs s):=h.run;rcases hx with hx|hx
  ·obtain⟨cs,h1,h2⟩:=aax hx (λh=>by cases h);unfold Io at h';rw[show s.h[b]?=some (.cells cs)from h1]at h';exact NA b i e sz xs h1 (.inl h2) h'
  ·obtain⟨h3,rfl⟩:=aav hx;obtain⟨cs,h1,h2⟩:=aax h3 (λh=>by cases h);unfold Io at h';rw[show s.h[b]?=some (.cells cs)from h1]at h';exact NA b i e sz [] h1 (.inr ⟨h2,rfl⟩) h'
 ·trivial
end
theorem bc{α:Type}{c:Bool}{a b x:α}{G:Prop}(h:(bif c then a else b)=x)(t:c=true->a=x->G)(f:c=false->b=x->G):G:=by
 cases c with
 |true=>exact t rfl h
 |false=>exact f rfl h
theorem sj{α:Type}{a b:α}(h:some a=some b):a=b:=arR h
theorem l5{α:Type}{c:Bool}{x:asp α}{r:α}(h:(bif c then x else none)=some r):c=true/\x=some r:=by
 cases c with
 |true=>exact⟨rfl,h⟩
 |false=>cases h
def CF(fn:Func)(args:asn AV)(h:asn ao):WO:=some (.at (fn.body.getD .skip) [] {n:=args.length+(fn.ntmps-args.length),t:=mg 0 args,h:=h},[])
theorem amM{P:asq}{f:FuncId}{fn:Func}{args:asn AV}{R:AV}(hf:P.funcs[f]?=some fn)(hb:fn.body.isSome=true)(hn:(fn.name== "runtime.NumGoroutine")=false)
 (hw:GW P none 0 (kI P fn R) (CF fn args [])):gD P f args (·=R):=by
 obtain⟨c,hc⟩:=Option.isSome_iff_exists.1 hb;refine xU hf hc hn ?_;have:fn.body.getD .skip=c:=by rw[hc];rfl
 rw[<-this];exact hw.run
theorem alu{P:asq}{f:FuncId}{fn:Func}{args:asn AV}{h H:asn ao}{R:AV}(m:Nat)(hf:P.funcs[f]?=some fn)(hb:fn.body.isSome=true)(hn:(fn.name== "runtime.NumGoroutine")=false)(hm:h.length<=m)
 (hw:GW P none h.length (u6 P fn m R H) (CF fn args h)):cG P f args h λr1 h1=>r1=R/\h1=H:=by
 obtain⟨c,hc⟩:=Option.isSome_iff_exists.1 hb;refine Ki m hf hc hn hm ?_;have:fn.body.getD .skip=c:=by rw[hc];rfl
 rw[<-this];exact hw.run
section Ly
variable {P:asq}
def oL{α:Type}{f:asn α->asn (asn D)}(l:asn α)(h:(f l).length=l.length):Ob P:=⟨_,_, .len h⟩
def oE{xs:asn (asn D)}{k:Nat}{c:asn D}(h:xs[k]?=some c):Ob P:=⟨_,_, .el (xs:=xs) (i:=(k:Int)) (Int.natCast_nonneg _) h⟩
def oq{a b:AV}(h:a=b):Ob P:=⟨_,_, .eq h⟩
def os(ks:asn Nat)(o:Ob P)(l:asn (Nat×Ob P)):asn (Nat×Ob P):=ks.foldr (λk t=>(k,o)::t) l
noncomputable def soI(x:Nat×Ob P)(l:asn (Nat×Ob P)):asn (Nat×Ob P):=List.rec [x] (λy t r=>bif Nat.ble x.1 y.1 then x::y::t else y::r) l
noncomputable def so(l:asn (Nat×Ob P)):asn (Nat×Ob P):=l.foldr soI []
theorem sP{xs:asn (asn D)}{n:Nat}(e:xs.length=n)(h:uc (.sl xs)):n<=maxLen:=e▸Hq h
end Ly
inductive eo(P:Program):TypeId->List D->Prop
 |bool {t:TypeId} (b:Bool) (h:P.underlying t=some .bool):eo P t [.v (.bool b)]
 |int {t:TypeId} {k:IntKind} (n:Int) (h:P.underlying t=some (.int k)) (w:(Lit.int k n).wf=true):eo P t [.v (.int k n)]
 |str {t:TypeId} (s:ByteArray) (h:P.underlying t=some .string) (w:s.size<=maxLen):eo P t [.v (.string s)]
 |sl {t e:TypeId} (xs:List (List D)) (h:P.underlying t=some (.slice e)) (w:xs.length<=140737488355328) (hx:∀x∈xs,eo P e x):eo P t [.sl xs]
 |struct {t:TypeId} {fs:Array Field} (parts:List (List D)) (h:P.underlying t=some (.struct fs)) (hl:parts.length=fs.size) (hx:∀(i:Nat)(f:Field)(x:List D),fs[i]?=some f->parts[i]?=some x->eo P f.type x):eo P t parts.flatten
section
variable {P:asq} {t:TypeId} {xs:asn D}
theorem eo.an9(h:eo P t xs)(ht:P.underlying t=some .bool):∃b,xs=[.v (.bool b)]:=by
 cases h with
 |bool b h=>exact⟨b,rfl⟩
 |int n h=>rw[ht]at h;cases h
 |str s h=>rw[ht]at h;cases h
 |sl l h=>rw[ht]at h;cases h
 |struct p h=>rw[ht]at h;cases h
theorem eo.qt{k:IntKind}(h:eo P t xs)(ht:P.underlying t=some (.int k)):∃n,xs=[.v (.int k n)]/\k.min<=n/\n<=k.max:=by
 cases h with
 |bool b h=>rw[ht]at h;cases h
 |int n h w=>
  rw[ht]at h;cases h;unfold Lit.wf at w;simp only[arA,decide_eq_true_eq]at w;exact⟨n,rfl,w⟩
 |str s h=>rw[ht]at h;cases h
 |sl l h=>rw[ht]at h;cases h
 |struct p h=>rw[ht]at h;cases h
theorem eo.yN(h:eo P t xs)(ht:P.underlying t=some .string):∃s,xs=[.v (.string s)]/\s.size<=maxLen:=by
 cases h with
 |bool b h=>rw[ht]at h;cases h
 |int n h=>rw[ht]at h;cases h
 |str s h w=>exact⟨s,rfl,w⟩
 |sl l h=>rw[ht]at h;cases h
 |struct p h=>rw[ht]at h;cases h
theorem eo.tD{e:TypeId}(h:eo P t xs)(ht:P.underlying t=some (.slice e)):∃l,xs=[.sl l]/\l.length<=140737488355328/\∀x∈l,eo P e x:=by
 cases h with
 |bool b h=>rw[ht]at h;cases h
 |int n h=>rw[ht]at h;cases h
 |str s h=>rw[ht]at h;cases h
 |sl l h w hx=>rw[ht]at h;cases h;exact⟨l,rfl,w,hx⟩
 |struct p h=>rw[ht]at h;cases h
theorem eo.py{fs:Array Field}(h:eo P t xs)(ht:P.underlying t=some (.struct fs)):∃parts:asn (asn D),xs=parts.flatten/\parts.length=fs.size/\∀(i:Nat)(f:Field)(x:asn D),fs[i]?=some f->parts[i]?=some x->eo P f.type x:=by
 cases h with
 |bool b h=>rw[ht]at h;cases h
 |int n h=>rw[ht]at h;cases h
 |str s h=>rw[ht]at h;cases h
 |sl l h=>rw[ht]at h;cases h
 |struct p h hl hx=>rw[ht]at h;cases h;exact⟨p,rfl,hl,hx⟩
theorem qy{α:Type}{f:α->asn D}{Q:α->Prop}:∀l:asn (asn D),(∀x∈l,∃a,x=f a/\Q a)->∃r:asn α,l=r.map f/\∀a∈r,Q a
 |[],_=>⟨[],rfl,λ_ h=>by cases h⟩
 |x::l,h=>by
  obtain⟨a,rfl,ha⟩:=h x arE;obtain⟨r,rfl,hr⟩:=qy l λy hy=>h y (arH _ hy);refine⟨a::r,rfl,λb hb=> ?_⟩;rcases ar2.1 hb with rfl|hb
  ·exact ha
  ·exact hr b hb
end
def Q0(P:asq)(S:asn TypeId):Bool:=S.all λt=>match P.underlying t with
 |some .bool|some (.int _)|some .string=>true
 |some (.slice e)=>S.contains e&&(decide (0<P.cellsOf e)&&decide (0<P.bytesOf e))
 |some (.struct fs)=>P.consecB fs.toList 0 (P.cellsOf t)&&fs.toList.all λf=>S.contains f.type
 |_=>false
def jL(S:Nat->Nat->Prop)(w:ass)(cs:asn asr)(xs:asn D):Prop:=xs.length=cs.length/\∀(i:Nat)(u:asr)(x:D),cs[i]?=some u->xs[i]?=some x->dD S w u x/\u.oneCell'=true
theorem jL.nil{S:Nat->Nat->Prop}{w:ass}:jL S w [] []:=⟨rfl,λi u x h=>by simp at h⟩
theorem jL.one{S:Nat->Nat->Prop}{w:ass}{u:asr}{x:D}(h:dD S w u x)(h1:u.oneCell'=true):jL S w [u] [x]:=⟨rfl,λi v y hv hy=>by
 cases i with
 |zero=>cases hv;cases hy;exact⟨h,h1⟩
 |succ i=>simp at hv⟩
theorem jL.app{S:Nat->Nat->Prop}{w:ass}{a b:asn asr}{x y:asn D}(h:jL S w a x)(k:jL S w b y):jL S w (a++b) (x++y):=by
 refine⟨by simp [h.1,k.1],λi u z hu hz=> ?_⟩;by_cases hi:i<a.length
 ·rw[arI hi]at hu;rw[arI (by rw[h.1];exact hi)]at hz;exact h.2 i u z hu hz
 ·rw[arO (by omega)]at hu;rw[arO (by rw[h.1];omega),h.1]at hz;exact k.2 _ u z hu hz
theorem acu{α:Type}{Q:Nat->α->Prop}:∀n:Nat,(∀i,i<n->∃x,Q i x)->∃l:asn α,l.length=n/\∀i x,l[i]?=some x->Q i x
 |0,_=>⟨[],rfl,λi x h=>by simp at h⟩
 |n+1,h=>by
  obtain⟨l,h1,h2⟩:=acu n λi hi=>h i (by omega);obtain⟨x,hx⟩:=h n (by omega);refine⟨l++[x],by simp [h1],λi y hy=> ?_⟩;by_cases hi:i<l.length
  ·rw[arI hi]at hy;exact h2 i y hy
  ·rw[arO (by omega)]at hy;have:i-l.length=0:=by
     by_cases e:i-l.length=0
     ·exact e
     ·rw[ar4 (by simp;omega)]at hy;cases hy
   rw[this]at hy;cases hy;have:i=n:=by omega
   rw[this];exact hx
theorem ad5{a:Addr}(h:a.spot=none)(n:Nat):a.add n=⟨a.block,a.off+n,none⟩:=by
 unfold Addr.add;split
 ·next e=>subst e;cases a;simp only at h;subst h;rfl
 ·rfl
section
variable {H:Type} {enc:TypeId×asr->H} {P:asq} {W:ass} {Ts:asn TypeId}
abbrev wB(W:ass):Nat->Nat->Prop:=λb _=>b<W.heap.size
theorem anu{S:Nat->Nat->Prop}{w:ass}:dD S w (.slice none 0 0) (.sl []):=
 .sl none 0 0 0 0 [] (λ_ _=>undef) (λh=>absurd rfl h) (arJ _) (by simp) (λ_ h=>by cases h) (λi j hi=>by simp at hi) (λi j x d hx=>by simp at hx)
theorem ab0{e:TypeId}:∀{l:asn (DataW H)}{d:DataW H},d∈l->∀n∈d.weights P e,n∈DataW.weightsAll P e l
 |[],_,h,_,_=>by cases h
 |x::l,d,h,n,hn=>by
  simp only[DataW.weightsAll,asa];rcases ar2.1 h with rfl|h
  ·exact .inl hn
  ·exact .inr (ab0 h n hn)
theorem adK{fuel:Nat}(IH:∀(t:TypeId)(cs:asn asr)(d:DataW H)(ps:asn MemPlace),t∈Ts->(∀n∈d.weights P t,n<=reachBytes)->DataW.trod enc P W 0 (λ_=>true) true fuel t cs=some (d,ps)->∃xs,eo P t xs/\jL (wB W) W cs xs)(cs:asn asr):
 ∀(fs:asn Field)(off:Nat)(ys:asn (DataW H×asn MemPlace)),P.consecB fs off cs.length=true->(∀f∈fs,f.type∈Ts)->(∀n∈DataW.weightsEach P (fs.map (·.type)) (ys.map (·.1)),n<=reachBytes)->
  fs.mapM (λf=>DataW.trod enc P W 0 (λ_=>true) true fuel f.type ((cs.drop f.offset).take (P.cellsOf f.type)))=some ys->
  ∃parts:asn (asn D),parts.length=fs.length/\(∀(i:Nat)(f:Field)(x:asn D),fs[i]?=some f->parts[i]?=some x->eo P f.type x)/\jL (wB W) W (cs.drop off) parts.flatten
 |[],off,ys,hc,_,_,_=>by
  simp only[Program.consecB,beq_iff_eq]at hc;refine⟨[],rfl,λi f x h=>by simp at h,?_⟩;rw[List.drop_eq_nil_iff.2 (by omega)];exact jL.nil
 |f::fs,off,ys,hc,hS,hw,hm=>by
  simp only[Program.consecB,arA,beq_iff_eq]at hc;obtain⟨agE,hc⟩:=hc;rw[List.mapM_cons]at hm;cases hx:DataW.trod enc P W 0 (λ_=>true) true fuel f.type ((cs.drop f.offset).take (P.cellsOf f.type))with
  |none=>simp [hx]at hm
  |some p=>
   cases lK:fs.mapM (λf=>DataW.trod enc P W 0 (λ_=>true) true fuel f.type ((cs.drop f.offset).take (P.cellsOf f.type)))with
   |none=>simp [hx,lK]at hm
   |some ps=>
    obtain⟨d,q⟩:=p;obtain rfl:(d,q)::ps=ys:=by simpa [hx,lK]using hm
    simp only[arX,DataW.weightsEach,asa]at hw;obtain⟨x,h1,h2⟩:=IH f.type _ d q (hS f arE) (λn hn=>hw n (.inl hn)) hx;obtain⟨parts,k1,k2,k3⟩:=adK IH cs fs (off+P.cellsOf f.type) ps hc (λg hg=>hS g (arH _ hg)) (λn hn=>hw n (.inr hn)) lK;refine⟨x::parts,by simp [k1],λi g y hg hy=> ?_,?_⟩
    ·cases i with
     |zero=>cases hg;cases hy;exact h1
     |succ i=>exact k2 i g y (by simpa using hg) (by simpa using hy)
    ·rw[List.flatten_cons];rw[agE]at h2;have:=h2.app k3
     rwa [take_drop_step]at this
theorem YD(hT:Q0 P Ts=true):∀(fuel:Nat)(t:TypeId)(cs:asn asr)(d:DataW H)(ps:asn MemPlace),t∈Ts->(∀n∈d.weights P t,n<=reachBytes)->DataW.trod enc P W 0 (λ_=>true) true fuel t cs=some (d,ps)->∃xs,eo P t xs/\jL (wB W) W cs xs
 |0,t,cs,d,ps,_,_,h=>by simp [DataW.trod]at h
 |fuel+1,t,cs,d,ps,ht,w7,h=>by
  have IH:=YD hT fuel;have nh:=arY.1 hT t ht;unfold DataW.trod at h;split at h
  ·next b e=>exact⟨_, .bool b e,jL.one (.v _) rfl⟩
  ·next k k' n e=>
   split at h
   ·next hk=>obtain⟨rfl,hw⟩:=hk;exact⟨_, .int n e hw,jL.one (.v _) rfl⟩
   ·cases h
  ·next e=>rw[e]at nh;cases nh
  ·next s e=>
   split at h
   ·next hw=>exact⟨_, .str s e hw,jL.one (.v _) rfl⟩
   ·cases h
  ·next e=>rw[e]at nh;cases nh
  ·next e=>rw[e]at nh;cases nh
  ·next e e1=>exact⟨_, .sl [] e1 (Nat.zero_le _) (λx hx=>absurd hx ase),jL.one anu rfl⟩
  ·next e a len cap e1=>
   rw[e1]at nh;simp only[arA,List.contains_iff_mem,decide_eq_true_eq]at nh;obtain⟨hme,Sy,pK⟩:=nh;simp only at h;split at h
   ·next hb=>
    obtain⟨_,la,su⟩:=hb;rw[Option.bind_eq_some_iff]at h;obtain⟨elems,Ew,Cj⟩:=h;rw[Option.map_eq_some_iff]at Cj;obtain⟨rest,_,Cj⟩:=Cj;cases Cj
    simp only[DataW.weights,e1,ar2,asa,arD]at w7;have hlen:elems.length=len:=by simpa using mapM_some_length Ew
    have hQ:∀i,i<len->∃x:asn D,eo P e x/\∃cm,W.cells? 0 (a.add (i*P.cellsOf e)) (P.cellsOf e)=some cm/\jL (wB W) W cm x:=λi hi=>by
     have h1:=mapM_some_get Ew i i (by simp [hi]);rw[arC (by omega)]at h1;rw[Option.bind_eq_some_iff]at h1;obtain⟨cm,h2,h3⟩:=h1;obtain⟨x,h4,h5⟩:=IH e cm elems[i].1 elems[i].2 hme (λn hn=>w7 n (.inr (.inl (ab0 (List.mem_map.2 ⟨_,List.getElem_mem _,rfl⟩) n hn)))) h3;exact⟨x,h4,cm,h2,h5⟩
    obtain⟨xs,yR,YW⟩:=acu len hQ;have XU:xs≠ []->a.spot=none:=λcP=>by
     have h0:0<len:=by cases xs with|nil=>exact(cP rfl).elim|cons x l=>simp at yR;omega
     obtain⟨x,_,cm,h2,_⟩:=hQ 0 h0;obtain⟨_,h3,h4⟩:=World.cells?_some h2;have h5:=h4 0 Sy;rw[Nat.zero_mul]at h5;have e0:(a.add 0).add 0=a:=by simp [Addr.add]
     rw[e0,arC (by omega)]at h5;unfold World.cell? at h5;split at h5
     ·split at h5
      ·cases h5
      ·next hn=>simpa using hn
     ·cases h5
    have iG:∀i x,xs[i]?=some x->x.length=P.cellsOf e/\∀j,j<P.cellsOf e->∃u,W.cell? ⟨a.block,a.off+i*P.cellsOf e+j,none⟩=some u/\u.oneCell'=true/\∀d,x[j]?=some d->dD (wB W) W u d:=λi x hx=>by
     obtain⟨_,cm,h2,h3⟩:=YW i x hx;obtain⟨_,h4,h5⟩:=World.cells?_some h2;have hs:=XU (λe=>by rw[e]at hx;simp at hx);refine⟨h3.1.trans h4,λj hj=> ?_⟩;have h6:=h5 j hj;rw[ad5 hs,ad5 rfl,arC (by omega)]at h6;have hjx:j<x.length:=by rw[h3.1,h4];exact hj
     have hd:x[j]?=some x[j]:=arC hjx;have h7:=h3.2 j _ _ (arC (by omega)) hd;exact⟨_,h6,h7.2,λd jI=>by rw[hd]at jI;cases jI;exact h7.1⟩
    have aka:xs.length<=140737488355328:=by
     have h1:=w7 _ (.inl rfl);have h2:(elems.length+rest.length)*1<=(elems.length+rest.length)*P.bytesOf e:=Nat.mul_le_mul_left _ pK;have h3:reachBytes<=140737488355328:=by decide
     omega
    refine⟨[.sl xs], .sl xs e1 aka (λx hx=> ?_),jL.one ?_ rfl⟩
    ·obtain⟨i,hi,rfl⟩:=List.mem_iff_getElem.1 hx;exact(YW i _ (arC hi)).1
    ·rw[<-yR];refine .sl (some a) a.block a.off cap (P.cellsOf e) xs (λi j=>(W.cell? ⟨a.block,a.off+i*P.cellsOf e+j,none⟩).getD undef) (λcP=> ?_) (by omega) su (λx hx=> ?_) (λi j hi hj=> ?_) λi j x d hx hd=> ?_
     ·have:=XU cP;cases a;simp only at this;subst this;rfl
     ·obtain⟨i,hi,rfl⟩:=List.mem_iff_getElem.1 hx;exact(iG i _ (arC hi)).1
     ·obtain⟨u,h1,h2,_⟩:=(iG i _ (arC hi)).2 j hj;refine⟨World.block_lt_of_cell? W ⟨a.block,a.off+i*P.cellsOf e+j,none⟩ h1,?_,?_⟩
      ·rw[h1];rfl
      ·rw[h1];exact h2
     ·obtain⟨hl,hc⟩:=iG i x hx;obtain⟨u,h1,_,h3⟩:=hc j (by rw[<-hl];exact(ary.1 hd).1);simp only[h1,Option.getD_some];exact h3 d hd
   ·cases h
  ·next cm fs e1=>
   rw[e1]at nh;simp only[arA,arY,List.contains_iff_mem]at nh;split at h
   ·next hl=>
    rw[Option.map_eq_some_iff]at h;obtain⟨ys,hm,Cj⟩:=h;cases Cj
    simp only[DataW.weights,e1]at w7;obtain⟨parts,k1,k2,k3⟩:=adK IH _ fs.toList 0 ys (by rw[hl];exact nh.1) nh.2 w7 hm;exact⟨_, .struct parts e1 (by simpa using k1) (λi f x hf=>k2 i f x (by simpa using hf)),by simpa using k3⟩
   ·cases h
  all_goals first|(cases h;done)|(exfalso;revert nh;(next e=>rw[e];intro h0;cases h0))
theorem ait{t:TypeId}{v:asr}{d:DataW H}{ps:asn MemPlace}(hT:Q0 P Ts=true)(hm:t∈Ts)(hw:∀n∈d.weights P t,n<=reachBytes)(h:DataW.Trod enc P W 0 (λ_=>true) true t v d ps):∃xs,eo P t xs/\jL (wB W) W v.cells.toList xs:=
 let ⟨fuel,h⟩:=h
 YD hT fuel t _ d ps hm hw h
theorem arh{t:TypeId}{fs:Array Field}{v:asr}{r:Reach}{base:Nat}(ht:P.underlying t=some (.struct fs))(h:Value.okWide P W r base t v):∃cs,v= .agg cs:=by
 unfold Value.okWide at h;rw[ht]at h;obtain⟨cs,rfl,_⟩:=h;exact⟨cs,rfl⟩
theorem alx{G:Gh}(hS:G.S=wB W){cs:Array asr}{xs:asn D}(h:jL (wB W) W cs.toList xs):aJ G W (.agg cs) (.agg (xs.map .d)):=by
 refine .agg cs _ (by rw[arD,h.1,ar5]) λi u c hu hc=> ?_;rw[arF]at hc;cases hx:xs[i]? with
 |none=>rw[hx]at hc;cases hc
 |some x=>
  rw[hx]at hc;cases hc
  exact .d (hS▸(h.2 i u x (by rw[arV];exact hu) hx).1)
end
end Go.Proofs.YtdchibpnjpnkoaaGreatDoor
