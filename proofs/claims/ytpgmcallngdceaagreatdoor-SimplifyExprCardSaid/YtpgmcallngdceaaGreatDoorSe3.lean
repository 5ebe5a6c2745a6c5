/-
  Part 3 of the proof: AbsExec, AbsExecV, AbsRange, AbsAny, AbsExec2, AbsExec3, AbsYield, AbsTree, AbsVecX, MemK, AbsVecD, AbsWk, OpenD.
-/
import Derived.Test.YtpgmcallngdceaaGreatDoorSe2
import Derived.WalkKit
import Derived.Laws.CopyOwn
import Derived.Deep.AppendLies
import Derived.Lib.AppendZerosOnto
import Derived.Lib.Overlaps
import Derived.Lib.Hide
import Derived.ProofKit
import Derived.DataOpen
import Derived.SizedLaws
namespace Go.Proofs.YtpgmcallngdceaaGreatDoor
open Go.RowKit
theorem ahs{α:Type}{c:Bool}{x y z:α}(h:(bif c then x else y)=z):(c=true∧x=z)∨(c=false∧y=z):=by
 cases c with
 |true=>exact .inl ⟨rfl,h⟩
 |false=>exact .inr ⟨rfl,h⟩
inductive HD
 |same
 |push (B:aq)
 |set (n:Nat) (B:aq)
def HD.app:HD→ak3 aq→ak3 aq
 | .same,h=>h
 | .push B,h=>h++[B]
 | .set n B,h=>h.set n B
def zN:Int→ak5 Nat
 | .ofNat n=>some n
 | .negSucc _=>none
theorem C9{z:Int}{n:Nat}(h:zN z=some n):0≤z∧z.toNat=n:=by
 cases z with
 |ofNat m=>cases h;exact⟨Int.natCast_nonneg _,rfl⟩
 |negSucc m=>cases h
def ub(ρ:Operand→AV)(d:Nat):ak5 Operand→ak5 Nat
 |none=>some d
 |some y=>match (ρ y).int? with
  |some z=>zN z
  |none=>none
def CE(k:Nat)(xs:ak3 (ak3 D)):Bool:=xs.all fun c=>c.length==k
def IK(P:ak6)(T:TypeId)(x i:AV):ak5 AV:=
 match dG P T with
 |some (_,k)=>match x with
  | .row n off len _ k'=>match i.int? with
    |some z=>match zN z with
     |some q=>bif k'==k&&cf (q+1) len then some (.ptr n (off+q*k))else none
     |none=>none
    |none=>none
  |x=>match x.er,i.int? with
   |some xs,some z=>match zN z with
    |some q=>match xs[q]? with
     |some c=>bif c.length==k then some (.bE [c] 0 0)else none
     |none=>none
    |none=>none
   |_,_=>none
 |none=>match sU P T,x,i.int? with
  |some (n,_,k), .ptr b off,some z=>match zN z with
   |some q=>bif cf (q+1) n then some (.ptr b (off+q*k))else none
   |none=>none
  |some (n,_,k), .bE xs e off,some z=>match zN z with
   |some q=>bif k==1&&cf (q+1) n then match xs[e]? with
    |some c=>match c[off+q]? with
     |some d=>some (.bE [[d]] 0 0)
     |none=>none
    |none=>none
    else none
   |none=>none
  |_,_,_=>none
theorem aaJ{P:ak6}{T:TypeId}{x i y:AV}{K:AV→Prop}(h:IK P T x i=some y)(hK:K y):qP P T x i K:=by
 unfold IK at h;unfold qP;split at h
 ·next e k eT=>
  simp only[eT];split at h
  ·next n off len cap k'=>
   simp only;split at h
   ·next z ez=>
    simp only[ez];split at h
    ·next q eq=>
     obtain⟨h0,h1⟩:=C9 eq;obtain⟨hb,he⟩:=dt h;rw[akh,dk]at hb;refine bO.2 ⟨hb.1,h0,by omega,?_⟩;rw[h1,he];exact hK
    ·cases h
   ·cases h
  ·next x' m8=>
   split at h
   ·next xs z e1 e2=>
    split at h
    ·next q eq=>
     obtain⟨h0,h1⟩:=C9 eq;split at h
     ·next c ec=>
      obtain⟨hb,he⟩:=dt h;simp only[e1,e2];refine⟨h0,?_⟩;rw[h1,ec];exact⟨by simpa using hb,by rw[he];exact hK⟩
     ·cases h
    ·cases h
   ·cases h
 ·next eT=>
  simp only[eT];split at h
  ·next n e k b off z e1 e2=>
   simp only[e1,e2];split at h
   ·next q eq=>
    obtain⟨h0,h1⟩:=C9 eq;obtain⟨hb,he⟩:=dt h;rw[dk]at hb;exact⟨h0,by omega,by rw[h1,he];exact hK⟩
   ·cases h
  ·next n e0 k xs e off z e1 e2=>
   simp only[e1,e2];split at h
   ·next q eq=>
    obtain⟨h0,h1⟩:=C9 eq;obtain⟨hb,h⟩:=mP h;rw[akh,dk]at hb;split at h
    ·next c ec=>
     split at h
     ·next d ed=>
      cases h
      refine bO.2 ⟨hb.1,h0,by omega,?_⟩;rw[ec];simp only;rw[h1,ed];exact hK
     ·cases h
    ·cases h
   ·cases h
  ·cases h
def aj6(P:ak6)(T:TypeId)(ρ:Operand→AV)(x:AV)(lo hi mx:ak5 Operand):ak5 AV:=
 match mx with
 |none=>
  match x with
  | .d (.v (.string b))=>match ub ρ b.size hi,ub ρ 0 lo with
    |some h,some l=>bif fK P T&&cf h b.size&&cf l h then some (.d (.v (.string (b.extract l h))))else none
    |_,_=>none
  | .ptr n off=>match sU P T with
    |some (m,_,k)=>match ub ρ m hi,ub ρ 0 lo with
     |some h,some l=>bif cf m 4096&&cf h m&&(cf l h&& !cf m l)then some (.row n (off+l*k) (h-l) (m-l) k)else none
     |_,_=>none
    |none=>none
  |x=>match x.er,dG P T with
   |some xs,some (_,k)=>match ub ρ xs.length hi,ub ρ 0 lo with
    |some h,some l=>bif CE k xs&&cf h xs.length&&cf l h then some (.d (.sl ((xs.take h).drop l)))else none
    |_,_=>none
   |_,_=>none
 |some m=>match lo,hi with
  |none,some y=>match x.er,dG P T with
   |some xs,some (_,k)=>match ub ρ 0 (some m),ub ρ 0 (some y)with
    |some c,some h=>bif CE k xs&&cf c xs.length&&h==c then some (.full (xs.take h))else none
    |_,_=>none
   |_,_=>none
  |_,_=>none
def ajZ(P:ak6)(T:TypeId)(h:ak3 aq)(x y:AV):ak5 (AV×HD):=
 match dG P T with
 |some (e,k)=>match gH P e,rR P e with
  |some z,some ct=>match Ik h k y with
   |some ys=>bif cf 1 k&&z.cells.toList.length==k&&CE k ys then
    match x with
    | .own n xs=>match h[n]? with
      |some (.front e' k' len)=>bif e'==e&&k'==k&&len==xs.length&&CE k xs&&cf (xs.length+ys.length) maxLen&&cf ((xs.length+ys.length)*ct) 140737488355328 then some (.own n (xs++ys), .set n (.front e k (xs.length+ys.length)))else none
      |_=>none
    | .d (.v (.slice none 0 0))=>bif cf ys.length maxLen&&cf (ys.length*ct) 140737488355328 then some (.own h.length ys, .push (.front e k ys.length))else none
    | .full xs=>bif CE k xs&&cf (xs.length+ys.length) maxLen&&cf ((xs.length+ys.length)*ct) 140737488355328 then some (.own h.length (xs++ys), .push (.front e k (xs.length+ys.length)))else none
    |_=>none
    else none
   |none=>none
  |_,_=>none
 |none=>none
def TE:ak3 (ak3 D)→ak5 (ak3 Int)
 |[]=>some []
 |[.v (.int .u8 n)]::l=>match TE l with
  |some ns=>some (n::ns)
  |none=>none
 |_=>none
def Oj:ak5 (AV×In)→ak5 AV
 |some (x, .none)=>some x
 |some (x, .nz b)=>bif b==0 then none else some x
 |some (x, .nn b)=>match zN b with
  |some _=>some x
  |none=>none
 |some (x, .cat n)=>bif cf n maxLen then some x else none
 |_=>none
theorem ais{r:ak5 (AV×In)}{x:AV}(P:ak6)(h:Oj r=some x):∃i,r=some (x,i)∧OK P i .ok:=by
 unfold Oj at h;split at h
 ·cases h;exact⟨_,rfl, .none⟩
 ·next b=>
  cases hb:b==0 with
  |true=>rw[hb]at h;cases h
  |false=>rw[hb]at h;cases h;exact⟨_,rfl, .nz (by simpa using hb)⟩
 ·next b=>
  split at h
  ·next e=>cases h;exact⟨_,rfl, .nn (C9 e).1⟩
  ·cases h
 ·obtain⟨hb,he⟩:=dt h;cases he
  exact⟨_,rfl, .cat (dk.1 hb)⟩
 ·cases h
def pX(r:ak5 AV):ak5 (AV×HD):=
 match r with
 |some x=>some (x, .same)
 |none=>none
def akc(P:ak6)(src dst:TypeId)(x:AV):ak5 AV:=
 match JB P src dst x .none with
 |some (y, .none)=>some y
 |_=>match x.er,dG P src with
  |some xs,some (e,_)=>match TE xs with
   |some ns=>match x with
    | .d (.v _)=>none
    |_=>bif Ca P e&&fK P dst then some (.d (.v (.string (aiW ns))))else none
   |none=>none
  |_,_=>none
def kX(P:ak6)(op:Op)(ρ:Operand→AV)(h:ak3 aq):ak5 (AV×HD):=
 match op with
 | .move x| .assign x=>some (ρ x, .same)
 | .pick c x y=>match ρ c with
   | .d (.v (.bool b))=>some (bif b then ρ x else ρ y, .same)
   |_=>none
 | .alloc e=>match gH P e with
   |some z=>some (.ptr h.length 0, .push (.cells (z.cells.toList.map fun u=> .d (.v u))))
   |none=>none
 | .box _ x=>bif (ρ x).gZ then some (.ptr h.length 0, .push (.cells (ρ x).cells))else none
 | .load t p=>match vD h (ρ p)with
   |some (cs,off)=>pX (xY P t cs off)
   |none=>none
 | .store t p x=>match ρ p with
   | .ptr n off=>match h[n]? with
     |some (.cells cs)=>match eJ P t with
      |some k=>bif k==(ρ x).cells.length&&(ρ x).gZ&&cf (off+(ρ x).cells.length) cs.length then some (.d (.v undef), .set n (.cells (fO cs off (ρ x).cells)))else none
      |none=>none
     |_=>none
   |_=>none
 | .nilCheck x=>match ρ x with
   | .ptr n off=>some (.ptr n off, .same)
   | .bE xs i off=>some (.bE xs i off, .same)
   | .fn f cs=>some (.fn f cs, .same)
   |_=>none
 | .fieldAddr S x f=>match qC P S f with
   |some (fo,_,_)=>match ρ x with
    | .ptr n off=>some (.ptr n (off+fo), .same)
    | .bE xs i off=>some (.bE xs i (off+fo), .same)
    |_=>none
   |none=>none
 | .field T x f=>pX (I6 P T (ρ x) f)
 | .indexAddr T x i=>pX (IK P T (ρ x) (ρ i))
 | .extract x i=>match ρ x with
   | .bk cs=>match cs[i]? with
     |some c=>some (c, .same)
     |none=>none
   |_=>none
 | .makeFunc (.func f) first cY=>match first.toList with
   |[]=>some (.fn f (cY.toList.map ρ), .same)
   |_=>none
 | .binOp op T x y _=>pX (Oj (HV P T op (ρ x) (ρ y)))
 | .unOp op _ x=>match ρ x with
   | .d (.v u)=>match F1 op u with
     |some v=>some (.d (.v v), .same)
     |none=>none
   |_=>none
 | .call c=>match c.callee with
   | .builtin .len=>match c.args.toList,c.argTypes.toList with
     |[x],[T]=>match ρ x with
      | .d (.v (.string s))=>bif fK P T then some (.d (.v (.int .i64 s.size)), .same)else none
      | .row _ _ len _ _=>bif (dG P T).isSome then some (.d (.v (.int .i64 len)), .same)else none
      |x=>match x.er with
       |some xs=>bif (dG P T).isSome then some (.d (.v (.int .i64 xs.length)), .same)else none
       |none=>none
     |_,_=>none
   |_=>none
 |_=>none
theorem Gc{r:ak5 AV}{x:AV}{d:HD}(h:pX r=some (x,d)):r=some x∧d= .same:=by
 unfold pX at h;split at h
 ·cases h;exact⟨rfl,rfl⟩
 ·cases h
theorem UR{P:ak6}{o:Oper}{ρ:Operand→AV}{h:ak3 aq}{x:AV}{d:HD}{C:AV→ak3 aq→Prop}(h1:kX P o.op ρ h=some (x,d))(hC:C x (d.app h)):cp P o ρ h C:=by
 obtain⟨dst,op,type,pos,after,guard⟩:=o;simp only at h1;unfold kX at h1;unfold cp;split at h1
 ·cases h1;exact hC
 ·cases h1;exact hC
 ·next c y z=>
  split at h1
  ·next b e=>
   cases h1
   simp only[e];cases b with
   |true=>exact⟨fun _=>hC,fun h=>Bool.noConfusion h⟩
   |false=>exact⟨fun h=>Bool.noConfusion h,fun _=>hC⟩
  ·cases h1
 ·split at h1
  ·next z e=>cases h1;simp only[e];exact hC
  ·cases h1
 ·obtain⟨hb,he⟩:=dt h1;cases he;exact bO.2 ⟨hb,hC⟩
 ·split at h1
  ·next cs off e=>
   obtain⟨e2,rfl⟩:=Gc h1;exact O1 e e2 hC
  ·cases h1
 ·split at h1
  ·next n off e=>
   split at h1
   ·next cs e2=>
    split at h1
    ·next k e3=>obtain⟨hb,he⟩:=dt h1;cases he;simp only[e,vw,e2,e3];exact bO.2 ⟨hb,hC⟩
    ·cases h1
   ·cases h1
  ·cases h1
 ·split at h1
  ·next e=>cases h1;simp only[e];exact hC
  ·next e=>cases h1;simp only[e];exact hC
  ·next e=>cases h1;simp only[e];exact hC
  ·cases h1
 ·split at h1
  ·next e=>
   simp only[e];split at h1
   ·next e2=>cases h1;simp only[e2];exact hC
   ·next e2=>cases h1;simp only[e2];exact hC
   ·cases h1
  ·cases h1
 ·obtain⟨e,rfl⟩:=Gc h1;exact TD e hC
 ·obtain⟨e,rfl⟩:=Gc h1;exact aaJ e hC
 ·split at h1
  ·next e=>
   split at h1
   ·next e2=>cases h1;simp only[e,e2];exact hC
   ·cases h1
  ·cases h1
 ·split at h1
  ·next e=>cases h1;simp only[e];exact hC
  ·cases h1
 ·obtain⟨e,rfl⟩:=Gc h1;obtain⟨i,e2,b4⟩:=ais P e;exact Tq e2 b4 hC
 ·unfold wZ;split at h1
  ·next e=>
   split at h1
   ·next e2=>cases h1;simp only[e,e2];exact hC
   ·cases h1
  ·cases h1
 ·next c=>
  split at h1
  ·next hc=>
   simp only[hc];split at h1
   ·next y T e1 e2=>
    simp only[e1,e2];unfold qE;split at h1
    ·next s e=>obtain⟨hb,he⟩:=dt h1;cases he;simp only[e];exact bO.2 ⟨hb,hC⟩
    ·next e=>obtain⟨hb,he⟩:=dt h1;cases he;simp only[e];exact bO.2 ⟨hb,hC⟩
    ·next n1 n2=>
     split at h1
     ·next xs e=>
      obtain⟨hb,he⟩:=dt h1;cases he;split
      ·next s e'=>exact absurd e' (n1 s)
      ·next e'=>exact absurd e' (n2 _ _ _ _ _)
      ·simp only[e];exact bO.2 ⟨hb,hC⟩
     ·cases h1
   ·cases h1
  ·cases h1
 ·cases h1
def dz(n:Nat)(t:ak3 (Nat×AV)):ak3 AV:=(List.range n).map (bB t)
theorem ad2{n:Nat}{t:ak3 (Nat×AV)}{i:Nat}{c:AV}(h:(dz n t)[i]?=some c):bB t i=c:=by
 unfold dz at h;rw[akm]at h;by_cases hi:i<n
 ·rw[List.getElem?_range hi]at h;exact aky h
 ·rw[akL (by simpa using hi)]at h;cases h
def Ox(P:ak6)(N0:Nat)(Q:Exit→St→Prop)(s:St):LS→Prop
 | .ready=>Q .normal s
 | .done c=>bJ P none N0 c Q s
 | .busy=>False
theorem agl{P:ak6}{N0:Nat}{s:St}{Q:Exit→St→Prop}{g:Operand}{p:Nat}{assign body:Code}{gf:FuncId}{cY:ak3 AV}(hg:ev s g= .fn gf cY)
 (hc:bQ P gf (.cH s.h.length::cY) (s.h++[.lp .ready p assign body (dz s.n s.t)]) fun _ h'=>∃(ls:LS)(p1:Nat)(rM qA:Code)(ve:ak3 AV),h'[s.h.length]?=some (.lp ls p1 rM qA ve)∧Ox P N0 Q ⟨s.n,s.t,h'.set s.h.length .gone⟩ ls):
 bJ P none N0 (.rangeFunc g #[p] assign body) Q s:=by
 constructor
 intro G w a n hs hN;have hv:=hs.ev g;rw[hg]at hv;obtain⟨lb,ea,hl,hr⟩:∃lb:Array ak7,a.eval g= .func (.func gf) #[] lb∧lb.size=cY.length∧∀(i:Nat)(u:ak7)(c:AV),lb[i]?=some u→cY[i]?=some c→aN G w u c:=by
  generalize a.eval g=u at hv;cases hv with|fn _ vs _ hl hr=>exact⟨vs,rfl,hl,hr⟩
 obtain⟨Mt,jd⟩:=hc;refine wpIn_rangeFunc (F:=WF none) ?_;intro fn _;obtain⟨E6,UX⟩:=aaN hs.inv;obtain⟨G0,je⟩:∃G0:Gh,G0={G with Z:=fun b=>G.Z b∨b=w.heap.size}:=⟨_,rfl⟩;obtain⟨w0,nM⟩:∃w0,w0=w.alloc (.deferred (some [])):=⟨_,rfl⟩;rw[←je,←nM]at E6 UX;have cn:G0.N=G.N:=by rw[je]
 have gL:w0.heap.size=w.heap.size+1:=by rw[nM];simp
 obtain⟨iV,Uj,Ml⟩:=ad5 UX fn a.tmps w.heap.size p assign body (dz s.n s.t) (by simp [dz,hs.size]) fun i u c hu hc=>by
  have h9:=hs.tmp i;rw[ad2 hc]at h9;have e:a.tmps.getD i undef=u:=by
   have a7:=(aku.1 hu).1;rw[akB a7]at hu;simp [Array.getD,a7];exact aky hu
  rw[e]at h9;exact h9.bo E6 (Nat.le_of_eq cn.symm)
 obtain⟨w1,Rh⟩:∃w1,w1=w0.alloc (.loop {state:= .ready,pending:=none,fn:=fn,tmps:=a.tmps,params:= #[p],assign:=assign,body:=body,defers:=w.heap.size}):=⟨_,rfl⟩;obtain⟨G1,Lt⟩:∃G1:Gh,G1=G0.dw w0.heap.size:=⟨_,rfl⟩;rw[←Rh,←Lt]at iV Uj Ml;have eZ:G1.N=G.N+1:=by rw[Lt,←cn];rfl
 have agH:G1.bm s.h.length=w.heap.size+1:=by rw[Lt,hs.inv.len,←cn];simp [Gh.dw,gL]
 rw[gL]at Ml;have W6:bR G.N G w G1 w1:=E6.trans (iV.less (Nat.le_of_eq cn.symm));refine⟨w.heap.size+1,[{target:= .collected w.heap.size,args:= #[]}],w1,{target:= .fn (.func gf) lb,args:= #[.func (.yield (w.heap.size+1)) #[] #[]]},w1,gf, #[.func (.yield (w.heap.size+1)) #[] #[]]++lb,w1,?_,?_,fun _ _=>trivial,?_,fun h=>(by simp [WF,Fence.wide]at h),?_⟩
 ·rw[Rh,nM];exact run_enterLoop_outer _ _ _ _ _
 ·simp only[resolve,ea];simp [Deferred.ofValue,go_sem]
 ·simp [invoke,UA Mt]
 have hK:=jd G1 w1 (#[.func (.yield (w.heap.size+1)) #[] #[]]++lb) Uj (by simp [hl];omega) (fun i u c hu hc=>by
  match i with
  |0=>
   rw[Array.getElem?_append_left (by simp)]at hu;simp at hu hc;subst hu;subst hc;exact Ml
  |i+1=>
   rw[Array.getElem?_append_right (by simp)]at hu;simp at hu hc;exact(hr i u c hu hc).bo W6 (by rw[eZ];exact Nat.le_succ _))
 refine CallsIn.mono (F:=WF none) (callsIn_wide (n:=n-1).2 hK) ?_;rintro e w2 ⟨v,G2,r,h',rfl,jl,YD,Sq,_,ls,p1,rM,qA,ve,hk,M4⟩;have Bd:s.h.length<G1.N:=by rw[hs.inv.len,eZ];exact ak1 _
 have Ha:G2.bm s.h.length=w.heap.size+1:=(jl.bm _ Bd).trans agH;obtain⟨_,fn2,tm2,D2,g3,g4,g5,Rg⟩:=IJ Sq hk;rw[Ha]at g3;have hEa:bR G.N G w G2 w2:=W6.trans (jl.less (by rw[eZ];exact Nat.le_succ _));have Hy:G.N≤G2.N:=by rw[eZ]at YD;omega
 obtain⟨ob,mQ⟩:∃ob:Obj,ob= .loop {state:= .exhausted,pending:=ls.pd,fn:=fn2,tmps:=tm2,params:= #[p1],assign:=rM,body:=qA,defers:=D2}:=⟨_,rfl⟩;obtain⟨zE,zI⟩:=XT Sq hk ob;rw[Ha]at zE zI;have Ci:bR G.N G w G2 (w2.putObj (w.heap.size+1) ob):=hEa.trans (zE.less Hy);have hM:=hs.inv.gl.2;have N7:G0.Z w.heap.size:=by rw[je];exact .inr rfl
 have Vv:G2.Z w.heap.size:=jl.Z.1.1 _ (iV.Z.1.1 _ N7);have ZE:(w2.putObj (w.heap.size+1) ob).heap[w.heap.size]?=some (.deferred (some [])):=by
  rw[zE.old _ Vv,jl.old _ (iV.Z.1.1 _ N7),iV.old _ N7,nM];exact World.alloc_heap_new w _
 have ck:cx G2 (w2.putObj (w.heap.size+1) ob) {a with defers:=[{target:= .collected w.heap.size,args:= #[]}]++a.defers} ⟨s.n,s.t,h'.set s.h.length .gone⟩:=by
  refine⟨hs.size,fun i=>(hs.tmp i).bo Ci Hy,zI,?_⟩;obtain⟨l,l1,l2,l3⟩:=hs.df.bo Ci;obtain⟨l',l1',Wu,l3'⟩:=hs.df;have EX:l=l':=by
   rw[l2]at Wu;have XX:∀(x y:ak3 Nat),x.map (fun D=>({target:= .collected D,args:= #[]}:Deferred))=y.map (fun D=>{target:= .collected D,args:= #[]})→x=y:=by
     intro x
     induction x with
     |nil=>intro y h;cases y with
      |nil=>rfl
      |cons b y=>simp at h
     |cons a x ih=>intro y h;cases y with
      |nil=>simp at h
      |cons b y=>simp at h;rw[h.1,ih y (by simpa using h.2)]
   exact XX _ _ Wu
  refine⟨w.heap.size::l,?_,by rw[akE,←l2];rfl,fun D hD=> ?_⟩
  ·rw[List.nodup_cons];exact⟨fun h=>akT _ (hs.inv.z _ (l3' _ (EX▸h)).2.1),l1⟩
  ·rcases akJ.1 hD with rfl|hD
   ·exact⟨by rw[Ci.Z.2];exact hM,Vv,ZE⟩
   ·exact l3 D hD
 subst mQ;have FD:=fun hb=>run_endLoop (P:=P) g3 hb;cases ls with
 |busy=>exact M4.elim
 |ready=>
  refine⟨_,_,FD (by simp [LS.st]),?_⟩;exact⟨G2,_,Ci.less hN,akx hN Hy,ck,M4⟩
 |done c=>
  refine⟨_,_,FD (by simp [LS.st]),?_⟩;refine wpIn_mono (M4.run G2 _ _ n (ck) (akx hN Hy)) fun _ _ _ hn=> ?_;exact hn.trans (Ci.less hN)
set_option linter.unusedSimpArgs false
set_option linter.unusedVariables false
mutual
theorem DY:∀x:AV,x.aP id=x
 | .agg cs=>by rw[AV.aP,te cs]
 | .bk cs=>by rw[AV.aP,te cs]
 | .fn f cs=>by rw[AV.aP,te cs]
 | .own .. =>by simp [AV.aP]
 | .d _=>by simp [AV.aP]
 | .ptr .. =>by simp [AV.aP]
 | .bE .. =>by simp [AV.aP]
 | .full _=>by simp [AV.aP]
 | .row .. =>by simp [AV.aP]
 | .mp _=>by simp [AV.aP]
 | .cH _=>by simp [AV.aP]
 | .vec .. =>by simp [AV.aP]
 | .cQ .. =>by simp [AV.aP]
 | .hid _=>by simp [AV.aP]
 | .dead=>by simp [AV.aP]
theorem te:∀l:ak3 AV,AV.eN id l=l
 |[]=>by simp [AV.eN]
 |x::l=>by rw[AV.eN,DY x,te l]
end
theorem KV(B:aq):B.aP id=B:=by
 cases B with
 |cells cs=>simp only[aq.aP,te]
 |lp ls p as bd cs=>simp only[aq.aP,te]
 |it sn cs=>simp only[aq.aP,te]
 |vec e k cs=>simp only[aq.aP];congr 1;exact(akK fun x _=>te x).trans (List.map_id _)
 |_=>rfl
theorem aN.low{G:Gh}{w:ak8}{u:ak7}{x:AV}(h:aN G w u x):x.aT G.N=true:=by
 have lt:∀{n:Nat},n<G.N→(!cf G.N n)=true:=fun{n} hn=>by
  rw[Bool.not_eq_true',←Bool.not_eq_true,dk];omega
 have fq:∀(vs:Array ak7)(cs:ak3 AV),vs.size=cs.length→(∀(i:Nat)(u:ak7)(c:AV),vs[i]?=some u→cs[i]?=some c→c.aT G.N=true)→AV.lS G.N cs=true:=fun vs cs hl h=>by
  rw[l0,akF];intro c hc;obtain⟨i,hi,rfl⟩:=List.mem_iff_getElem.1 hc;exact h i vs[i] _ (akB (by omega)) (akj hi)
 induction h with
 |agg vs cs hl _ ih=>rw[AV.aT];exact fq vs cs hl ih
 |bk vs cs hl _ ih=>rw[AV.aT];exact fq vs cs hl ih
 |fn f vs cs hl _ ih=>rw[AV.aT];exact fq vs cs hl ih
 |ptr n off h=>rw[AV.aT];exact lt h
 |own n xs h=>rw[AV.aT];exact lt h
 |row n off len cap k h=>rw[AV.aT];exact lt h
 |mp n h=>rw[AV.aT];exact lt h
 |cH n h=>rw[AV.aT];exact lt h
 |vec n o len L k h=>rw[AV.aT];exact lt h
 |cQ n i j L k h=>rw[AV.aT];exact lt h
 |_=>simp [AV.aT]
def gp(N0:Nat)(s s':St):Prop:=∀(G:Gh)(w:ak8)(a:Act),N0≤G.N→cx G w a s→∃G',bR N0 G w G' w∧N0≤G'.N∧cx G' w a s'
theorem gp.refl(N0:Nat)(s:St):gp N0 s s:=fun G _ _ hN hs=>⟨G,bR.refl _ _ _,hN,hs⟩
theorem gp.trans{N0:Nat}{s1 s2 s3:St}(h:gp N0 s1 s2)(k:gp N0 s2 s3):gp N0 s1 s3:=fun G w a hN hs=>by
 obtain⟨G1,e1,n1,h1⟩:=h G w a hN hs;obtain⟨G2,e2,n2,h2⟩:=k G1 w a n1 h1;exact⟨G2,e1.trans e2,n2,h2⟩
theorem gp.of_eq{N0:Nat}{s s':St}(h:gQ s s'):gp N0 s s':=fun G _ _ hN hs=>
 ⟨G,bR.refl _ _ _,hN,hs.size.trans h.n,fun i=>by rw[←h.t i];exact hs.tmp i,by rw[←h.h];exact hs.inv,hs.df⟩
theorem gp.aP{N0:Nat}{s s':St}(σ τ:Nat→Nat)(hn:s.n=s'.n)(hlen:s'.h.length=s.h.length)(a7:∀i,i<s.h.length→σ i<s.h.length)(hτ:∀i,i<s.h.length→τ i<s.h.length)
 (tA:∀i,i<s.h.length→τ (σ i)=i) (gj:∀i,i<s.h.length→σ (τ i)=i) (xp:∀i,i<N0→σ i=i)
 (ht:∀i,(bB s.t i).aT s.h.length=true→bB s'.t i=(bB s.t i).aP σ∨bB s'.t i= .dead) (hh:∀i,i<s.h.length→s'.h[σ i]?=(s.h[i]?).map (aq.aP σ)):gp N0 s s':=fun G w a hN hs=>by
 have hl:s.h.length=G.N:=hs.inv.len;rw[hl]at a7 hτ tA gj hh hlen ht;have Px:∀i,i<N0→τ i=i:=fun i hi=>by
  have h1:=tA i (by omega);rw[xp i hi]at h1;exact h1
 let G':Gh:={G with bm:=fun n=>G.bm (τ n),sg:=fun n=>G.sg (τ n),ow:=fun n=>G.ow (τ n),fl:=fun n=>G.fl (τ n)}
 have hR:pF σ G G':=⟨a7,fun n h=>by show G.bm (τ (σ n))=_;rw[tA n h],fun n h=>by show G.sg (τ (σ n))=_;rw[tA n h],fun n h=>by show G.fl (τ (σ n))=_;rw[tA n h],fun n h=>by show G.ow (τ (σ n))=_;rw[tA n h],fun _ _=>Iff.rfl⟩;have hE:bR N0 G w G' w:=⟨akq _,fun _ _ h=>h,fun _ _ _=>rfl,fun n h=>by show G.bm (τ n)=_;rw[Px n h],fun n h=> .inl ⟨by show G.fl (τ n)=_;rw[Px n h],by show G.sg (τ n)=_;rw[Px n h]⟩,fZ rfl,fun _ _=>rfl,rfl,rfl,rfl,fun _ _ h=> .inl h⟩;have dV:∀(n:Nat)(B:aq),s'.h[n]?=some B→∃m B0,m<G.N∧σ m=n∧s.h[m]?=some B0∧B=B0.aP σ:=fun n B hB=>by
  have eG:n<G.N:=by have:=(akf.1 hB).1;omega
  have h1:=hh (τ n) (hτ n eG);rw[gj n eG,hB]at h1;cases h2:s.h[τ n]? with
  |none=>rw[h2]at h1;cases h1
  |some B0=>rw[h2]at h1;cases h1;exact⟨τ n,B0,hτ n eG,gj n eG,h2,rfl⟩
 have dB:∀(n b:Nat),b6 s'.h G' n=some b→∃m,m<G.N∧σ m=n∧b6 s.h G m=some b:=fun n b hb=>by
  obtain⟨B,hB,hb⟩:=m4 hb;obtain⟨m,B0,k1,k2,k3,rfl⟩:=dV n B hB;subst k2;rw[N2 hR k1]at hb;exact⟨m,k1,rfl,by rw[dm k3];exact hb⟩
 refine⟨G',hE,hN,hs.size.trans hn,fun i=> ?_,⟨hlen,hs.inv.z,hs.inv.S,fun n B hB=> ?_,fun m n b hm eG=> ?_,hs.inv.gl.bo hE⟩,hs.df.bo hE⟩
 ·have hv:=hs.tmp i;rcases ht i hv.low with e|e
  ·rw[e];exact hv.aP hR
  ·rw[e];exact .dead _
 ·obtain⟨m,B0,k1,k2,k3,rfl⟩:=dV n B hB;subst k2;have hb:=hs.inv.cW m B0 k3;exact dE.aP hR k1 (fun b h1=>hb.lI h1) hb
 ·obtain⟨m',k1,k2,k3⟩:=dB m b hm;obtain⟨n',j1,j2,j3⟩:=dB n b eG;have:=hs.inv.inj m' n' b k3 j3;rw[←k2,←j2,this]
def MJ:ak7→ak7→Bool
 | .bool a, .bool b=>a==b
 | .int k a, .int l b=>decide (k=l)&&decide (a=b)
 | .string a, .string b=>bL a==bL b
 | .pointer none, .pointer none=>true
 | .slice none a b, .slice none c d=>a==c&&b==d
 | .map none, .map none=>true
 | .nilFunc, .nilFunc=>true
 | .nilIface, .nilIface=>true
 | .tuple a, .tuple b=>a.size==0&&b.size==0
 |_,_=>false
theorem afF{u v:ak7}(h:MJ u v=true):u=v:=by
 unfold MJ at h;split at h
 ·rw[beq_iff_eq]at h;subst h;rfl
 ·rw[akh,decide_eq_true_eq,decide_eq_true_eq]at h;obtain⟨h1,h2⟩:=h;subst h1;subst h2;rfl
 ·rw[beq_iff_eq]at h;rw[OF h]
 ·rfl
 ·rw[akh,beq_iff_eq,beq_iff_eq]at h;obtain⟨h1,h2⟩:=h;subst h1;subst h2;rfl
 ·rfl
 ·rfl
 ·rfl
 ·rw[akh,beq_iff_eq,beq_iff_eq]at h;rw[Array.eq_empty_of_size_eq_zero h.1,Array.eq_empty_of_size_eq_zero h.2]
 ·cases h
mutual
def D.sV:D→D→Bool
 | .v a, .v b=>MJ a b
 | .sl xs, .sl ys=>D.qQ xs ys
 |_,_=>false
def D.qQ:ak3 (ak3 D)→ak3 (ak3 D)→Bool
 |[],[]=>true
 |x::xs,y::ys=>D.dH x y&&D.qQ xs ys
 |_,_=>false
def D.dH:ak3 D→ak3 D→Bool
 |[],[]=>true
 |x::xs,y::ys=>D.sV x y&&D.dH xs ys
 |_,_=>false
end
mutual
theorem D.NX:∀x y:D,D.sV x y=true→x=y
 | .v a, .v b,h=>by rw[D.sV]at h;rw[afF h]
 | .sl xs, .sl ys,h=>by rw[D.sV]at h;rw[D.DE xs ys h]
 | .v _, .sl _,h=>by simp [D.sV]at h
 | .sl _, .v _,h=>by simp [D.sV]at h
theorem D.DE:∀x y:ak3 (ak3 D),D.qQ x y=true→x=y
 |[],[],_=>rfl
 |x::xs,y::ys,h=>by rw[D.qQ,akh]at h;rw[D.RQ x y h.1,D.DE xs ys h.2]
 |[],_::_,h=>by simp [D.qQ]at h
 |_::_,[],h=>by simp [D.qQ]at h
theorem D.RQ:∀x y:ak3 D,D.dH x y=true→x=y
 |[],[],_=>rfl
 |x::xs,y::ys,h=>by rw[D.dH,akh]at h;rw[D.NX x y h.1,D.RQ xs ys h.2]
 |[],_::_,h=>by simp [D.dH]at h
 |_::_,[],h=>by simp [D.dH]at h
end
mutual
def AV.ee(σ:Nat→Nat):AV→AV→Bool
 | .d x,y=>(match y with| .d y=>D.sV x y|_=>false)
 | .agg a,y=>(match y with| .agg b=>AV.nX σ a b|_=>false)
 | .bk a,y=>(match y with| .bk b=>AV.nX σ a b|_=>false)
 | .fn f a,y=>(match y with| .fn g b=>f==g&&AV.nX σ a b|_=>false)
 | .ptr n o,y=>(match y with| .ptr m p=>σ n==m&&o==p|_=>false)
 | .bE xs i o,y=>(match y with| .bE ys j p=>D.qQ xs ys&&(i==j&&o==p)|_=>false)
 | .own n xs,y=>(match y with| .own m ys=>σ n==m&&D.qQ xs ys|_=>false)
 | .full xs,y=>(match y with| .full ys=>D.qQ xs ys|_=>false)
 | .row n i1 i2 i3 i4,y=>(match y with| .row m j1 j2 j3 j4=>σ n==m&&(i1==j1&&(i2==j2&&(i3==j3&&i4==j4)))|_=>false)
 | .mp n,y=>(match y with| .mp m=>σ n==m|_=>false)
 | .cH n,y=>(match y with| .cH m=>σ n==m|_=>false)
 | .vec n i1 i2 i3 i4,y=>(match y with| .vec m j1 j2 j3 j4=>σ n==m&&(i1==j1&&(i2==j2&&(i3==j3&&i4==j4)))|_=>false)
 | .cQ n i1 i2 i3 i4,y=>(match y with| .cQ m j1 j2 j3 j4=>σ n==m&&(i1==j1&&(i2==j2&&(i3==j3&&i4==j4)))|_=>false)
 | .dead,y=>(match y with| .dead=>true|_=>false)
 | .hid _,_=>false
def AV.nX(σ:Nat→Nat):ak3 AV→ak3 AV→Bool
 |[],y=>(match y with|[]=>true|_=>false)
 |x::xs,l=>(match l with|y::ys=>AV.ee σ x y&&AV.nX σ xs ys|_=>false)
end
mutual
theorem AV.FY(σ:Nat→Nat):∀x y:AV,AV.ee σ x y=true→y=x.aP σ
 | .d x,y,h=>by
   cases y with
   |d y=>simp only[AV.ee,akh,beq_iff_eq]at h;rw[AV.aP,D.NX _ _ h]
   |_=>simp [AV.ee]at h
 | .agg a,y,h=>by
   cases y with
   |agg b=>simp only[AV.ee,akh,beq_iff_eq]at h;rw[AV.aP,AV.vh σ _ _ h]
   |_=>simp [AV.ee]at h
 | .bk a,y,h=>by
   cases y with
   |bk b=>simp only[AV.ee,akh,beq_iff_eq]at h;rw[AV.aP,AV.vh σ _ _ h]
   |_=>simp [AV.ee]at h
 | .fn f a,y,h=>by
   cases y with
   |fn g b=>simp only[AV.ee,akh,beq_iff_eq]at h;rw[AV.aP,AV.vh σ _ _ h.2,h.1]
   |_=>simp [AV.ee]at h
 | .ptr n o,y,h=>by
   cases y with
   |ptr m p=>simp only[AV.ee,akh,beq_iff_eq]at h;rw[AV.aP,h.1,h.2]
   |_=>simp [AV.ee]at h
 | .bE xs i o,y,h=>by
   cases y with
   |bE ys j p=>simp only[AV.ee,akh,beq_iff_eq]at h;rw[AV.aP,D.DE _ _ h.1,h.2.1,h.2.2]
   |_=>simp [AV.ee]at h
 | .own n xs,y,h=>by
   cases y with
   |own m ys=>simp only[AV.ee,akh,beq_iff_eq]at h;rw[AV.aP,D.DE _ _ h.2,h.1]
   |_=>simp [AV.ee]at h
 | .full xs,y,h=>by
   cases y with
   |full ys=>simp only[AV.ee,akh,beq_iff_eq]at h;rw[AV.aP,D.DE _ _ h]
   |_=>simp [AV.ee]at h
 | .row n i1 i2 i3 i4,y,h=>by
   cases y with
   |row m j1 j2 j3 j4=>simp only[AV.ee,akh,beq_iff_eq]at h;rw[AV.aP,h.1,h.2.1,h.2.2.1,h.2.2.2.1,h.2.2.2.2]
   |_=>simp [AV.ee]at h
 | .vec n i1 i2 i3 i4,y,h=>by
   cases y with
   |vec m j1 j2 j3 j4=>simp only[AV.ee,akh,beq_iff_eq]at h;rw[AV.aP,h.1,h.2.1,h.2.2.1,h.2.2.2.1,h.2.2.2.2]
   |_=>simp [AV.ee]at h
 | .cQ n i1 i2 i3 i4,y,h=>by
   cases y with
   |cQ m j1 j2 j3 j4=>simp only[AV.ee,akh,beq_iff_eq]at h;rw[AV.aP,h.1,h.2.1,h.2.2.1,h.2.2.2.1,h.2.2.2.2]
   |_=>simp [AV.ee]at h
 | .mp n,y,h=>by
   cases y with
   |mp m=>simp only[AV.ee,akh,beq_iff_eq]at h;rw[AV.aP,h]
   |_=>simp [AV.ee]at h
 | .cH n,y,h=>by
   cases y with
   |cH m=>simp only[AV.ee,akh,beq_iff_eq]at h;rw[AV.aP,h]
   |_=>simp [AV.ee]at h
 | .dead,y,h=>by
   cases y with
   |dead=>rw[AV.aP]
   |_=>simp [AV.ee]at h
 | .hid _,y,h=>by simp [AV.ee]at h
theorem AV.vh(σ:Nat→Nat):∀x y:ak3 AV,AV.nX σ x y=true→y=AV.eN σ x
 |[],y,h=>by
  cases y with
  |nil=>rw[AV.eN]
  |cons=>simp [AV.nX]at h
 |x::xs,l,h=>by
  cases l with
  |nil=>simp [AV.nX]at h
  |cons y ys=>simp only[AV.nX,akh]at h;rw[AV.eN,AV.FY σ _ _ h.1,AV.vh σ _ _ h.2]
end
def y5:ak3 (ak4×D)→ak3 (ak4×D)→Bool
 |[],[]=>true
 |(k,d)::l,(k',d')::l'=>bL k==bL k'&&D.sV d d'&&y5 l l'
 |_,_=>false
theorem UF:∀x y,y5 x y=true→x=y
 |[],[],_=>rfl
 |(k,d)::l,(k',d')::l',h=>by
  rw[y5,akh,akh]at h;rw[OF (beq_iff_eq.1 h.1.1),D.NX _ _ h.1.2,UF l l' h.2]
 |[],_::_,h=>by simp [y5]at h
 |_::_,[],h=>by simp [y5]at h
def xW(σ:Nat→Nat):ak3 (ak3 AV)→ak3 (ak3 AV)→Bool
 |[],[]=>true
 |x::xs,y::ys=>AV.nX σ x y&&xW σ xs ys
 |_,_=>false
theorem Tt(σ:Nat→Nat):∀x y,xW σ x y=true→y=x.map (AV.eN σ)
 |[],[],_=>rfl
 |x::xs,y::ys,h=>by
  rw[xW,akh]at h;rw[akE,AV.vh σ x y h.1,Tt σ xs ys h.2]
 |[],_::_,h=>by simp [xW]at h
 |_::_,[],h=>by simp [xW]at h
def aq.ee(σ:Nat→Nat):aq→aq→Bool
 | .cells a,y=>(match y with| .cells b=>AV.nX σ a b|_=>false)
 | .front e k l,y=>(match y with| .front e' k' l'=>e==e'&&(k==k'&&l==l')|_=>false)
 | .vec e k cs,y=>(match y with| .vec e' k' ds=>e==e'&&(k==k'&&xW σ cs ds)|_=>false)
 | .map kv,y=>(match y with| .map Y4=>y5 kv Y4|_=>false)
 | .it sn cs,y=>(match y with| .it sn' ds=>sn==sn'&&AV.nX σ cs ds|_=>false)
 | .gone,y=>(match y with| .gone=>true|_=>false)
 | .lp ..,_=>false
theorem aq.FY(σ:Nat→Nat)(x y:aq)(h:aq.ee σ x y=true):y=x.aP σ:=by
 cases x<;>cases y<;>simp only[aq.ee,akh,beq_iff_eq,Bool.false_eq_true]at h
 ·rw[aq.aP,AV.vh σ _ _ h]
 ·rw[aq.aP,h.1,h.2.1,h.2.2]
 ·rw[aq.aP,h.1,h.2.1,Tt σ _ _ h.2.2]
 ·rw[aq.aP,UF _ _ h]
 ·rw[aq.aP,h.1,AV.vh σ _ _ h.2]
 ·rfl
def eg(h0:Nat)(p:ak3 Nat)(i:Nat):Nat:=bif cf h0 i then p.getD (i-h0) i else i
def Bo(ts zO:ak3 (Nat×AV))(ks:ak3 Nat)(i:Nat):Nat:=
 match ks with
 |[]=>i
 |d::ks=>match bB ts d,bB zO d with
  | .ptr n _, .ptr m _=>bif n==i then m else Bo ts zO ks i
  | .own n _, .own m _=>bif n==i then m else Bo ts zO ks i
  | .vec n _ _ _ _, .vec m _ _ _ _=>bif n==i then m else Bo ts zO ks i
  | .mp n, .mp m=>bif n==i then m else Bo ts zO ks i
  |_,_=>Bo ts zO ks i
def Ei(s s':St)(ks:ak3 Nat)(h0:Nat):Nat→ak3 Nat
 |0=>[]
 |k+1=>Bo s.t s'.t ks h0::Ei s s' ks (h0+1) k
def Rc(h0:Nat)(ks:ak3 Nat)(s s':St)(p q:ak3 Nat):Bool:=
 (s'.h.length==s.h.length)&&(((List.range s.h.length).all fun i=>cf (eg h0 p i+1) s.h.length&&cf (eg h0 q i+1) s.h.length&&eg h0 q (eg h0 p i)==i&&eg h0 p (eg h0 q i)==i)&&(ks.all (fun d=>AV.ee (eg h0 p) (bB s.t d) (bB s'.t d))&&
  ((List.range s.h.length).all fun i=>match s.h[i]?,s'.h[eg h0 p i]? with
    |some B,some B'=>aq.ee (eg h0 p) B B'
    |_,_=>false)))
def S1(h0:Nat)(ks:ak3 Nat)(s s':St):Bool:=Rc h0 ks s s' (Ei s s' ks h0 (s.h.length-h0)) (Ei s' s ks h0 (s.h.length-h0))
structure kx(ks:List Nat)(s0 s:St):Prop where
 n:s.n=s0.n
 t:∀d,d ∉ ks→bB s.t d=bB s0.t d
theorem kx.refl(ks:ak3 Nat)(s:St):kx ks s s:=⟨rfl,fun _ _=>rfl⟩
theorem kx.put{ks:ak3 Nat}{s0 s:St}(h:kx ks s0 s)(h1:ak3 aq){d:ak5 Nat}(x:AV)(hd:∀k,d=some k→k∈ks):kx ks s0 ((s.wh h1).put d x):=
 ⟨by rw[oU];exact h.n,fun i hi=>by
  rw[rY,if_neg]
  ·exact h.t i hi
  ·rintro⟨e,_⟩;exact hi (hd i e)⟩
theorem aj5{N0 h0:Nat}{ks:ak3 Nat}{s0 s s':St}(hN:N0≤h0)(wz:∀i,(bB s0.t i).aT h0=true)(hb:kx ks s0 s)(eW:kx ks s0 s')(h:S1 h0 ks s s'=true):gp N0 s s':=by
 unfold S1 at h;generalize Ei s s' ks h0 (s.h.length-h0)=p at h;generalize Ei s' s ks h0 (s.h.length-h0)=q at h;unfold Rc at h;simp only[akh,beq_iff_eq,akF,List.mem_range,dk]at h;obtain⟨h1,h2,h3,h4⟩:=h;have xp:∀i,i<h0→eg h0 p i=i:=fun i hi=>by
  unfold eg;have:cf h0 i=false:=by rw[←Bool.not_eq_true,dk];omega
  rw[this];rfl
 refine gp.aP (eg h0 p) (eg h0 q) (hb.n.trans eW.n.symm) h1 (fun i hi=>(h2 i hi).1.1.1) (fun i hi=>(h2 i hi).1.1.2) (fun i hi=>(h2 i hi).1.2) (fun i hi=>(h2 i hi).2) (fun i hi=>xp i (by omega)) (fun i _=> ?_) fun i hi=> ?_
 ·left
  by_cases hk:i∈ks
  ·exact AV.FY _ _ _ (h3 i hk)
  ·rw[hb.t i hk,eW.t i hk,wg (τ:=id) xp _ (wz i),DY]
 ·have h5:=h4 i hi;split at h5
  ·next B B' e1 e2=>rw[e1,e2,aq.FY _ _ _ h5];rfl
  ·cases h5
def FZ(N0:Nat)(K:St→Prop):Prop:=∀s s',gp N0 s s'→K s'→K s
theorem FZ.c{N0:Nat}{K:St→Prop}(h:FZ N0 K):tS K:=fun s s' e hk=>h s' s (gp.of_eq e.symm) hk
theorem ajk{P:ak6}{r:ak5 Nat}{N0:Nat}{s:St}{Q:Exit→St→Prop}{m:Bool}{id:Nat}{ops:Array Oper}(hm:P.follows .mixedOrders=true)
 (h:N0≤s.h.length→(∀i,(bB s.t i).aT s.h.length=true)→mz m P ops (fun s1=>∃s2,gp N0 s1 s2∧Q .normal s2) ops.size (Array.replicate ops.size false) s):bJ P r N0 (.region id ops true) Q s:=by
 constructor
 intro G w a n hs hN;obtain⟨d1,d2⟩:=hs.drew;refine wpIn_region_any hm ?_;have hl:=hs.inv.len;refine DQ (G:=G) (w:=w) (N0:=N0) (K:=fun s1=>∃s2,gp N0 s1 s2∧Q .normal s2) (fun a' w' hn=> ?_) ops.size _ G _ a s (d1.less hN) hN d2 (h (by omega) fun i=>by rw[hl];exact(hs.tmp i).low);obtain⟨G',s',x1,x2,x3,s2,e0,x4⟩:=hn;obtain⟨G2,y1,y2,y3⟩:=e0 G' w' a' x2 x3;exact⟨G2,s2,x1.trans y1,y2,y3,x4⟩
theorem YR{N0:Nat}(Q:St→Prop):FZ N0 (fun s1=>∃s2,gp N0 s1 s2∧Q s2):=fun _ _ h ⟨s2,h1,h2⟩=>⟨s2,h.trans h1,h2⟩
def xU(f:Nat→Bool):Nat→Nat
 |0=>0
 |n+1=>bif f n then xU f n|||(1<<<n)else xU f n
theorem Gg(f:Nat→Bool):∀(n j:Nat),Nat.testBit (xU f n) j=(decide (j<n)&&f j)
 |0,j=>by simp [xU]
 |n+1,j=>by
  unfold xU;have ih:=Gg f n j;cases hf:f n with
  |true=>
   simp only[cond_true,Nat.testBit_or,ih,Nat.one_shiftLeft,Nat.testBit_two_pow];by_cases e:n=j
   ·subst e;simp [hf]
   ·have:decide (j<n+1)=decide (j<n):=by simp;omega
    rw[this];simp [e]
  |false=>
   simp only[cond_false,ih];by_cases e:n=j
   ·subst e;simp [hf]
   ·have:decide (j<n+1)=decide (j<n):=by simp;omega
    rw[this]
def fN{α:Type}(n:Nat)(f:Nat→α):α:=Nat.casesOn (Nat.succ n) (f 0) f
theorem FE{α:Type}(n:Nat)(f:Nat→α):fN n f=f n:=rfl
def fL{α:Type}:ak3 Nat→(ak3 Nat→α)→α
 |[],f=>f []
 |n::l,f=>fN n fun n=>fL l fun l=>f (n::l)
theorem DT{α:Type}:∀(l:ak3 Nat)(f:ak3 Nat→α),fL l f=f l
 |[],_=>rfl
 |n::l,f=>by rw[fL,FE,DT l]
section
variable (ops:Array Oper)
def yH(o:Oper)(n j:Nat):Bool:=o.after.any fun e=>Region.binds .any e&&(e.on==j||(j==n&&cf n e.on))
def IQ(k:Nat):Nat:=match ops[k]? with
 |some o=>xU (yH o ops.size) (ops.size+1)
 |none=>1<<<ops.size
def Wd(m:Bool)(M:Array Nat)(k j:Nat):Bool:= !(j==k)&&(!((M.getD j 0).testBit k)&&match ops[k]?,ops[j]? with
 |some oi,some oj=> !(oi.apart ops oj&&yD m oi oj)
 |_,_=>true)
def B9(m:Bool)(M:Array Nat)(k:Nat):Nat:=xU (Wd ops m M k) ops.size
def qI:Nat→Nat→ak3 Nat
 |_,0=>[]
 |k,n+1=>IQ ops k::qI (k+1) n
def o0(m:Bool)(M:Array Nat):Nat→Nat→ak3 Nat
 |_,0=>[]
 |k,n+1=>B9 ops m M k::o0 m M (k+1) n
end
def qz:ak3 Nat→Nat→Nat→ak3 Nat
 |[],_,_=>[]
 |a::A,L,k=>bif !(Nat.testBit L k)&&(L&&&a==a)then k::qz A L (k+1)else qz A L (k+1)
def B6(C:ak3 Nat)(L:Nat):ak3 Nat→ak5 Nat
 |[]=>none
 |k::r=>bif (C.getD k 0)|||L==L then some k else B6 C L r
section
variable (ops:Array Oper) (st:Oper→St→ak5 St) (h0:Nat) (ks A C:ak3 Nat)
def m9:ak3 Oper→ak3 Nat
 |[]=>[]
 |o::l=>match o.dst with
  |some d=>d::m9 l
  |none=>m9 l
end
theorem J7:∀{l:ak3 Oper}{o:Oper},o∈l→∀d,o.dst=some d→d∈m9 l
 |[],_,h,_,_=>by cases h
 |a::l,o,h,d,hd=>by
  unfold m9;rcases akJ.1 h with rfl|h
  ·rw[hd];simp
  ·split
   ·exact ako _ (J7 h d hd)
   ·exact J7 h d hd
theorem SI(ops:Array Oper):∀(n k i:Nat),(qI ops k n)[i]?=if i<n then some (IQ ops (k+i))else none
 |0,k,i=>by simp [qI]
 |n+1,k,0=>by simp [qI]
 |n+1,k,i+1=>by rw[qI,akQ,SI ops n (k+1) i];simp only[Nat.add_lt_add_iff_right];rw[show k+1+i=k+(i+1) by omega]
theorem Sx(ops:Array Oper)(m:Bool)(M:Array Nat):∀(n k i:Nat),(o0 ops m M k n)[i]?=if i<n then some (B9 ops m M (k+i))else none
 |0,k,i=>by simp [o0]
 |n+1,k,0=>by simp [o0]
 |n+1,k,i+1=>by rw[o0,akQ,Sx ops m M n (k+1) i];simp only[Nat.add_lt_add_iff_right];rw[show k+1+i=k+(i+1) by omega]
theorem V5{L:Nat}:∀(A:ak3 Nat)(k i:Nat),i∈qz A L k↔k≤i∧Nat.testBit L i=false∧∃a,A[i-k]?=some a∧L&&&a=a
 |[],k,i=>by simp [qz]
 |a::A,k,i=>by
  have ih:=V5 (L:=L) A (k+1) i;unfold qz;have key:i∈qz A L (k+1)↔k<i∧Nat.testBit L i=false∧∃b,(a::A)[i-k]?=some b∧L&&&b=b:=by
   rw[ih];constructor
   ·rintro⟨h1,h2,b,h3,h4⟩;refine⟨h1,h2,b,?_,h4⟩;rw[show i-k=(i-(k+1))+1 by omega,akQ];exact h3
   ·rintro⟨h1,h2,b,h3,h4⟩;refine⟨h1,h2,b,?_,h4⟩;rw[show i-k=(i-(k+1))+1 by omega,akQ]at h3;exact h3
  cases hb:(!(Nat.testBit L k)&&(L&&&a==a))with
  |true=>
   simp only[cond_true,akJ,key];simp only[akh,Bool.not_eq_true',beq_iff_eq]at hb;constructor
   ·rintro(rfl|⟨h1,h2⟩)
    ·exact⟨akq _,hb.1,a,by simp,hb.2⟩
    ·exact⟨by omega,h2⟩
   ·rintro⟨h1,h2⟩;rcases Nat.lt_or_eq_of_le h1 with h|h
    ·exact .inr ⟨h,h2⟩
    ·exact .inl h.symm
  |false=>
   simp only[cond_false,key];constructor
   ·rintro⟨h1,h2⟩;exact⟨by omega,h2⟩
   ·rintro⟨h1,h2,b,h3,h4⟩;rcases Nat.lt_or_eq_of_le h1 with h|h
    ·exact⟨h,h2,b,h3,h4⟩
    ·subst h;simp at h3;subst h3;rw[h2]at hb;simp at hb;exact absurd h4 hb
theorem TR{C:ak3 Nat}{L:Nat}:∀{r:ak3 Nat}{k:Nat},B6 C L r=some k→k∈r∧(C.getD k 0)|||L=L
 |[],k,h=>by cases h
 |a::r,k,h=>by
  unfold B6 at h;cases hb:((C.getD a 0)|||L==L)with
  |true=>rw[hb]at h;cases h;exact⟨by simp,by simpa using hb⟩
  |false=>rw[hb]at h;have:=TR h;exact⟨ako _ this.1,this.2⟩
structure LM(ops:Array Oper)(L:Nat)(listed:Array Bool):Prop where
 sz:listed.size=ops.size
 b:∀i,Nat.testBit L i=listed.getD i false
theorem LM.set{ops:Array Oper}{L:Nat}{listed:Array Bool}(h:LM ops L listed){k:Nat}(hk:k<ops.size):LM ops (L|||(1<<<k)) (listed.setIfInBounds k true):=by
 refine⟨by simp [h.sz],fun i=> ?_⟩;rw[Nat.testBit_or,Nat.one_shiftLeft,Nat.testBit_two_pow,h.b i];by_cases e:k=i
 ·subst e;have:k<listed.size:=by rw[h.sz];exact hk
  simp [this]
 ·rw[getD_set_ne false e];simp [e]
theorem LM.ready{ops:Array Oper}{L:Nat}{listed:Array Bool}(h:LM ops L listed)(i:Nat):i∈Region.ready .any ops listed↔i∈qz (qI ops 0 ops.size) L 0:=by
 rw[mem_ready,V5];simp only[Nat.zero_le,true_and,Nat.sub_zero,SI,akz];have VW:∀j,ops.size≤j→Nat.testBit L j=false:=fun j hj=>by
   rw[h.b,Array.getD_eq_getD_getElem?,Array.getElem?_eq_none (by rw[h.sz];exact hj)];rfl
 constructor
 ·rintro⟨h1,o,ho,h2⟩;have hi:=(aku.1 ho).1;have hgd:listed.getD i false=false:=by
   have di:i<listed.size:=by rw[h.sz];exact hi
   simpa [di]using h1
  refine⟨by rw[h.b];exact hgd,_,by rw[if_pos hi],?_⟩;apply Nat.eq_of_testBit_eq;intro j;rw[Nat.testBit_and];unfold IQ;rw[ho];simp only[Gg];cases hb:(decide (j<ops.size+1)&&yH o ops.size j)with
  |false=>simp
  |true=>
   simp only[Bool.and_true];rw[akh]at hb;have hb:=hb.2;unfold yH at hb;rw[Array.any_eq_true']at hb;obtain⟨e,he,hb⟩:=hb;simp only[akh,Bool.or_eq_true,beq_iff_eq,dk]at hb;have h3:=h2 e he hb.1;have:e.on<ops.size:=by
    rcases Nat.lt_or_ge e.on ops.size with hl|hl
    ·exact hl
    ·have:=VW e.on hl;rw[h.b]at this;rw[this]at h3;cases h3
   rcases hb.2 with hj|⟨_,hj⟩
   ·rw[←hj,h.b];exact h3
   ·omega
 ·rintro⟨h1,a,ha,h2⟩;split at ha
  ·next hi=>
   cases ha
   have ho:ops[i]?=some ops[i]:=akB hi;refine⟨?_,ops[i],ho,fun e he JV=> ?_⟩
   ·rw[h.b]at h1;have di:i<listed.size:=by rw[h.sz];exact hi
    simpa [di]using h1
   ·have j9:∀j,j<ops.size+1→yH ops[i] ops.size j=true→Nat.testBit L j=true:=fun j hj hf=>by
     have:=congrArg (fun n=>Nat.testBit n j) h2;simp only[Nat.testBit_and]at this;unfold IQ at this;rw[ho]at this;simp only[Gg]at this;rw[hf]at this
     simpa [hj]using this
    have Xo:∀j,(e.on==j||(j==ops.size&&cf ops.size e.on))=true→yH ops[i] ops.size j=true:=fun j hj=>by
     unfold yH;rw[Array.any_eq_true'];exact⟨e,he,by rw[JV,hj];rfl⟩
    rcases Nat.lt_or_ge e.on ops.size with hl|hl
    ·rw[←h.b];exact j9 e.on (by omega) (Xo _ (by simp))
    ·have:=j9 ops.size (by omega) (Xo _ (by simp [dk.2 hl]));rw[VW _ (akq _)]at this;cases this
  ·cases ha
section
variable {P:ak6} {ops:Array Oper} {st:Oper→St→ak5 St} {h0:Nat} {m:Bool} {N0:Nat} {K:St→Prop} {s0:St}
end
end Go.Proofs.YtpgmcallngdceaaGreatDoor
namespace Go.Proofs.YtpgmcallngdceaaGreatDoor
open Go.RowKit
inductive Ex
 |n
 |r
 |x (id:Nat)
def Pp{α:Type}(n:Nat)(f:Nat→α):α:=Nat.casesOn (Nat.succ n) (f 0) f
theorem afx{α:Type}(n:Nat)(f:Nat→α):Pp n f=f n:=rfl
def AV.force{α:Type}(x:AV)(f:AV→α):α:=
 match x with
 | .d (.v (.int k (.ofNat n)))=>Pp n fun n=>f (.d (.v (.int k (.ofNat n))))
 | .d (.v (.bool b))=>bif b then f (.d (.v (.bool true)))else f (.d (.v (.bool false)))
 |x=>f x
theorem AV.force_eq{α:Type}(x:AV)(f:AV→α):x.force f=f x:=by
 unfold AV.force;split
 ·rw[afx]
 ·next b=>cases b<;>rfl
 ·rfl
def IP{α:Type}:ak3 aq→(ak3 aq→α)→α
 |[],f=>f []
 |b::l,f=>IP l fun r=>f (b::r)
theorem Tm{α:Type}:∀(l:ak3 aq)(f:ak3 aq→α),IP l f=f l
 |[],_=>rfl
 |b::l,f=>by rw[IP,Tm l]
abbrev KL:=Bool→Nat→Code→St→ak5 (Ex×St)
abbrev M6:=FuncId→ak3 AV→ak5 (ak5 AV)
def aj7:ak5 (ak5 AV)→Bool
 |some none=>true
 |_=>false
mutual
def AV.Vp:AV→ak3 Nat
 | .fn _ cs=>AV.Mp cs
 |_=>[]
def AV.Mp:ak3 AV→ak3 Nat
 |[]=>[]
 | .ptr n _::l=>n::AV.Mp l
 |x::l=>x.Vp++AV.Mp l
end
def F8:ak3 Nat→AV→ak3 aq→ak5 (AV×ak3 aq)
 |[],r,h=>some (r,h)
 |b::l,r,h=>match h[b]? with
  |some (.cells cs)=>match lY cs with
   |some ds=>F8 l (r.dR b ds) ((h.map (aq.dR b ds)).set b .gone)
   |none=>none
  |_=>none
def Vc:AV→ak5 D
 | .d x=>some x
 |_=>none
def Iy:ak3 AV→ak5 (ak3 D)
 |[]=>some []
 |x::l=>match Vc x,Iy l with
  |some d,some r=>some (d::r)
  |_,_=>none
def J5:ak3 (ak3 AV)→ak5 (ak3 (ak3 D))
 |[]=>some []
 |x::l=>match Iy x,J5 l with
  |some d,some r=>some (d::r)
  |_,_=>none
mutual
def AV.UB:AV→Bool
 | .vec .. =>true
 | .agg cs=>AV.Hl cs
 | .bk cs=>AV.Hl cs
 | .fn _ cs=>AV.Hl cs
 |_=>false
def AV.Hl:ak3 AV→Bool
 |[]=>false
 |x::l=>x.UB||AV.Hl l
end
def tK:ak3 Nat→AV→ak3 aq→AV×ak3 aq
 |[],r,h=>(r,h)
 |b::l,r,h=>match h[b]? with
  |some (.vec _ k cs)=>match J5 cs with
   |some xs=>bif xs.all (fun c=>c.all D.uf)then(r.cw b k xs).force fun r=>IP ((h.map (aq.jr (AV.cw b k xs))).set b .gone) fun h=>tK l r h else tK l r h
   |none=>tK l r h
  |_=>tK l r h
def Yz(h:ak3 aq):ak3 Nat:=(List.range h.length).reverse++(List.range h.length).reverse
def HS(r:AV)(h:ak3 aq):ak5 AV:=
 match F8 r.Vp r h with
 |some (r,_)=>some (r.bA 0)
 |none=>none
def Tc(r:AV)(h:ak3 aq):ak5 AV:=
 bif r.UB then(match tK (Yz h) r h with|(r,h)=>HS r h)else HS r h
section
variable (run:KL) (P:ak6) (R3:M6)
def aiA(lo:Nat)(f:FuncId)(args:ak3 AV)(h:ak3 aq):ak5 (AV×ak3 aq):=
 match P.funcs[f]? with
 |some fn=>match fn.body with
  |some c=>Pp (args.length+(fn.ntmps-args.length)) fun n=>match run true lo c ⟨n,jR 0 args,h⟩with
   |some (.x _,_)=>none
   |some (_,s)=>match p6 P s fn.results.toList with
    |some l=>some (iE l,s.h)
    |none=>none
   |none=>none
  |none=>none
 |none=>none
end
section
variable {run:KL} {P:ak6} {R3:M6} {lo:Nat} {s s':St}
end
mutual
theorem CC(m:Nat):∀x:AV,x.aT m=true→x.bA m=x
 | .own n xs,h=>by
   rw[AV.aT]at h;rw[AV.bA];cases e:cf m n with
   |true=>rw[e]at h;cases h
   |false=>rfl
 | .agg cs,h=>by rw[AV.aT]at h;rw[AV.bA,Hw m cs h]
 | .bk cs,h=>by rw[AV.aT]at h;rw[AV.bA,Hw m cs h]
 | .fn f cs,h=>by rw[AV.aT]at h;rw[AV.bA,Hw m cs h]
 | .d _,_=>by simp only[AV.bA]
 | .ptr ..,_=>by simp only[AV.bA]
 | .bE ..,_=>by simp only[AV.bA]
 | .full _,_=>by simp only[AV.bA]
 | .row ..,_=>by simp only[AV.bA]
 | .mp _,_=>by simp only[AV.bA]
 | .cH _,_=>by simp only[AV.bA]
 | .vec ..,_=>by simp only[AV.bA]
 | .cQ ..,_=>by simp only[AV.bA]
 | .hid _,_=>by simp only[AV.bA]
 | .dead,_=>by simp only[AV.bA]
theorem Hw(m:Nat):∀l:ak3 AV,AV.lS m l=true→AV.nZ m l=l
 |[],_=>by simp [AV.nZ]
 |x::l,h=>by
  rw[AV.lS,akh]at h;rw[AV.nZ,CC m x h.1,Hw m l h.2]
end
theorem ahl{m:Nat}{B:aq}(h:B.aT m=true):B.bA m=B:=by
 cases B with
 |cells cs=>
  simp only[aq.aT,akF]at h;simp only[aq.bA]
  congr 1
  exact(akK fun x hx=>CC m x (h x hx)).trans (List.map_id _)
 |lp ls p as bd cs=>
  simp only[aq.aT,akF]at h;simp only[aq.bA]
  congr 1
  exact(akK fun x hx=>CC m x (h x hx)).trans (List.map_id _)
 |it sn cs=>
  simp only[aq.aT,akF]at h;simp only[aq.bA]
  congr 1
  exact(akK fun x hx=>CC m x (h x hx)).trans (List.map_id _)
 |vec e k cs=>
  simp only[aq.aT,akF]at h;simp only[aq.bA]
  congr 1
  exact(akK fun x hx=>(akK fun y hy=>CC m y (h x hx y hy)).trans (List.map_id _)).trans (List.map_id _)
 |front e k len=>rfl
 |map kv=>rfl
 |gone=>rfl
theorem Od{m:Nat}{h:ak3 aq}(e:h.all (aq.aT m)=true):h.map (aq.bA m)=h:=
 (akK fun B hB=>ahl (akF.1 e B hB)).trans (List.map_id _)
end Go.Proofs.YtpgmcallngdceaaGreatDoor
namespace Go.Proofs.YtpgmcallngdceaaGreatDoor
open Go.RowKit
section
variable {P:ak6} {r:ak5 Nat} {n N0:Nat} {G:Gh} {w:ak8} {a:Act} {s:St} {o:Oper} {Q:Exit→St→Prop}
end
theorem bQ.cut{P:ak6}{f:FuncId}{args:ak3 AV}{h h':ak3 aq}{r:AV}(m:Nat)(hc:bQ P f args h fun r1 h1=>r1=r∧h1=h')(h1:h.length≤m)(h2:m≤h'.length)(hb:(((h'.take m).map (aq.bA m)).all (aq.aT m))=true)(hr:(r.bA m).aT m=true):
 bQ P f args h fun r1 h1=>r1=r.bA m∧h1=(h'.take m).map (aq.bA m):=by
 refine⟨hc.1,fun G w vs hi hl hv=>(hc.2 G w vs hi hl hv).mono fun e w' hp=> ?_⟩;obtain⟨v,G',_,_,rfl,hE,hN,di,Nx,rfl,rfl⟩:=hp;exact⟨v,G'.cut m,_,_,rfl,hE.trans (nT _ _ _ _),by rw[←hi.len];exact h1,Lw di h2 hb,(Nx.bA m).cut hr,rfl,rfl⟩
section
variable {run:KL} {P:ak6} {R3:M6} {lo:Nat} {s s':St}
theorem bQ.RZ{f:FuncId}{args:ak3 AV}{h0 h h2:ak3 aq}{r r2:AV}{tl:ak3 (Nat×AV)}(hc:bQ P f args h0 fun r1 h1=>r1=r∧h1=h)
 (hT:∀(G:Gh)(w:ak8)(a:Act),cx G w a ⟨1,[(0,r)],h⟩→∃G',bR G.N G w G' w∧G'.N=G.N∧cx G' w a ⟨1,(0,r2)::tl,h2⟩):bQ P f args h0 fun r1 h1=>r1=r2∧h1=h2:=by
 refine⟨hc.1,fun G w vs hi hl hv=>(hc.2 G w vs hi hl hv).mono fun e w' hp=> ?_⟩;obtain⟨v,G',_,_,rfl,hE,hN,di,Nx,rfl,rfl⟩:=hp;obtain⟨G2,e1,e2,e3⟩:=hT G' w' {tmps:= #[v],defers:=[]} ⟨rfl,fun i=>by
  show aN G' w' _ (bB [(0,_)] i);rw[kN];split
  ·next ei=>subst ei;exact Nx
  ·exact .dead _,di,pY.nil _ _⟩
 exact⟨v,G2,r2,h2,rfl,hE.trans (e1.less hN),by rw[e2];exact hN,e3.inv,e3.tmp 0,rfl,rfl⟩
theorem Xk{f:FuncId}{args:ak3 AV}{h0:ak3 aq}:∀(l:ak3 Nat){h h2:ak3 aq}{r r2:AV},(bQ P f args h0 fun r1 h1=>r1=r∧h1=h)→F8 l r h=some (r2,h2)→bQ P f args h0 fun r1 h1=>r1=r2∧h1=h2
 |[],h,h2,r,r2,hc,e=>by cases e;exact hc
 |b::l,h,h2,r,r2,hc,e=>by
  unfold F8 at e;split at e
  ·next cs e1=>
   split at e
   ·next ds e2=>
    refine Xk l (bQ.RZ (tl:=[]) hc fun G w a hs=> ?_) e;refine hs.C2 (b:=b) ?_;simp only[Go.Proofs.YtpgmcallngdceaaGreatDoor.C2,e1,e2];rfl
   ·cases e
  ·cases e
theorem WE:∀{l:ak3 AV}{ds:ak3 D},Iy l=some ds→l=ds.map AV.d
 |[],ds,h=>by cases h;rfl
 |x::l,ds,h=>by
  unfold Iy at h;split at h
  ·next d r e1 e2=>
   cases h
   rw[WE e2];cases x<;>simp [Vc]at e1
   subst e1;rfl
  ·cases h
theorem Q3:∀{l:ak3 (ak3 AV)}{xs:ak3 (ak3 D)},J5 l=some xs→l=bq xs
 |[],xs,h=>by cases h;rfl
 |x::l,xs,h=>by
  unfold J5 at h;split at h
  ·next d r e1 e2=>cases h;rw[Q3 e2,WE e1];rfl
  ·cases h
theorem E3{f:FuncId}{args:ak3 AV}{h0:ak3 aq}:∀(l:ak3 Nat){h:ak3 aq}{r:AV},(bQ P f args h0 fun r1 h1=>r1=r∧h1=h)→bQ P f args h0 fun r1 h1=>r1=(tK l r h).1∧h1=(tK l r h).2
 |[],h,r,hc=>hc
 |b::l,h,r,hc=>by
  unfold tK;split
  ·next e k cs e1=>
   split
   ·next xs e2=>
    rw[AV.force_eq,Tm,cond_eq_ite];split
    ·next h1=>
     refine E3 l (bQ.RZ (tl:=[]) hc fun G w a hs=> ?_);have e3:=Q3 e2;exact hs.KB xs (by show h[b]?=_;rw[e1,e3]) (fun c hc=>akF.1 h1 c hc)
    ·exact E3 l hc
   ·exact E3 l hc
  ·exact E3 l hc
theorem U5{f:FuncId}{args:ak3 AV}{h:ak3 aq}{r r2:AV}(hc:bQ P f args [] fun r1 h1=>r1=r∧h1=h)(e:Tc r h=some r2)(hb:r2.aT 0=true):aG P f args (·=r2):=by
 have fin:∀{r:AV}{h:ak3 aq},(bQ P f args [] fun r1 h1=>r1=r∧h1=h)→(r.bA 0).aT 0=true→aG P f args (·=r.bA 0):=fun hc hb=>
  (hc.cut 0 (akq _) (Nat.zero_le _) (by simp) hb).mono fun r1 h1 ⟨k1,k2⟩=>⟨by simpa using k2,k1⟩
 have gen:∀{r:AV}{h:ak3 aq},(bQ P f args [] fun r1 h1=>r1=r∧h1=h)→HS r h=some r2→aG P f args (·=r2):=fun hc e=>by
  unfold HS at e;split at e
  ·next r3 h3 e1=>
   cases e
   exact fin (Xk _ hc e1) hb
  ·cases e
 unfold Tc at e;rcases ahs e with⟨_,e⟩|⟨_,e⟩
 ·exact gen (E3 _ hc) e
 ·exact gen hc e
end
theorem TG:∀(H' H e:ak3 aq),H'.length=H.length→fB (List.range H.length) H' (H++e)=H'++e:=by
 intro H' H e hl;have gen:∀(n:Nat)(a b B r:ak3 aq),b.length=n→B.length=n→fB ((List.range n).map (a.length+·)) B (a++(b++r))=a++(B++r):=by
  intro n
  induction n with
  |zero=>intro a b B r hb hB;rw[List.length_eq_zero_iff.1 hb,List.length_eq_zero_iff.1 hB];simp [fB]
  |succ n ih=>
   intro a b B r hb hB;cases b with
   |nil=>simp at hb
   |cons b0 b=>
    cases B with
    |nil=>simp at hB
    |cons B0 B=>
     rw[List.range_succ_eq_map,akE,List.map_map,fB];have e1:(a++(b0::b++r)).set (a.length+0) B0=(a++[B0])++(b++r):=by
       rw[Nat.add_zero,List.set_append_right _ _ (akq _),Nat.sub_self];simp
     have e2:(fun x=>a.length+x)∘Nat.succ=fun x=>(a++[B0]).length+x:=by
      funext x
      simp only[Function.comp_apply,akg,aki,akr];omega
     rw[e1,e2,ih (a++[B0]) b B r (by simpa using hb) (by simpa using hB)];simp
 have:=gen H.length [] H H' e rfl hl
 simpa using this
theorem Pf{P:ak6}{k:Nat}{x:AV}{H:ak3 aq}{C:Bool→ak3 aq→Prop}(hy:YS P k x H C)(e:ak3 aq)(hb:H.all (aq.aT H.length)=true)(hx:x.aT H.length=true)
 (hC:∀b h',C b h'→h'.length=H.length∧h'.all (aq.aT H.length)=true):YS P k x (H++e) fun b h'=>∃H',C b H'∧h'=H'++e:=by
 intro G w v r n hi hv;have xl:∀i,i<H.length→rn (List.range H.length) (H++e).length i=i:=fun i h=>Au (List.range H.length) _ i i (by rw[List.getElem?_range h]);have J4:∀y:AV,y.aT H.length=true→y.aP (rn (List.range H.length) (H++e).length)=y:=fun y hy=>(wg (τ:=id) xl y hy).trans (DY y);have CH:∀B:aq,B.aT H.length=true→B.aP (rn (List.range H.length) (H++e).length)=B:=fun B hB=>(Nq (τ:=id) xl B hB).trans (KV B);obtain⟨G0,cn,ql,qW,Pk⟩:=Ru (H:=H) (l:=List.range H.length) (h:=H++e) List.nodup_range (fun j hj=>by have:=List.mem_range.1 hj;simp;omega) (fun i j pv=>by
  obtain⟨a7,rfl⟩:i<H.length∧j=i:=by
   have h1:=(akf.1 pv).1;rw[List.length_range]at h1;rw[List.getElem?_range h1]at pv;exact⟨h1,(aky pv).symm⟩
  rw[akp a7,akj a7,Option.map_some,CH _ (akF.1 hb _ (List.getElem_mem a7))]) (by simp) hb hi
 obtain⟨hk,p,as,bd,fn,tm,D,h1,h2⟩:=hy G0 w v r n ql (aN.ua qW (by rw[J4 x hx];exact hv) x rfl (by rw[cn];exact hx));have hJ:k<H.length:=cn▸hk;have iq:G.bm k=G0.bm k:=by
  have:=qW.bm k hk
  rwa [xl k hJ]at this
 refine⟨by have:=qW.lt k hk;rwa [xl k hJ]at this,p,as,bd,fn,tm,D,by rw[iq];exact h1,?_⟩;rw[iq];refine h2.mono fun e1 w' hp=> ?_;obtain⟨b,G1,H',rfl,hE,eZ,ik,hc⟩:=hp;rw[cn]at hE eZ;obtain⟨G2,a1,a2,a3,_⟩:=Pk G1 w' H' hE eZ ik;obtain⟨c1,c2⟩:=hC b H' hc;refine⟨b,G2,H'++e,rfl,a1,a2,?_,H',hc,rfl⟩;have hm:H'.map (aq.aP (rn (List.range H.length) (H++e).length))=H':=(akK fun B hB=>CH B (akF.1 c2 B hB)).trans (List.map_id _);rw[hm,TG H' H e c1]at a3;exact a3
def lJ(P:ak6)(k:Nat):ak3 AV→(Bool→ak3 aq→Prop)→ak3 aq→Prop
 |[],C,h=>C true h
 |x::l,C,h=>YS P k x h fun b h1=>(h1.length=h.length∧h1.all (aq.aT h.length)=true)∧bif b then lJ P k l C h1 else C false h1
theorem Ut{P:ak6}{k:Nat}:∀(l:ak3 AV){C C':Bool→ak3 aq→Prop}{h:ak3 aq},(∀b h1,C b h1→C' b h1)→lJ P k l C h→lJ P k l C' h
 |[],_,_,_,hc,hs=>hc _ _ hs
 |x::l,C,C',h,hc,hs=>YS.mono hs fun b h1 ⟨h2,h3⟩=>⟨h2,by
  cases b with
  |true=>exact Ut l hc h3
  |false=>exact hc _ _ h3⟩
theorem Rl{P:ak6}{k:Nat}:∀(l l':ak3 AV){C:Bool→ak3 aq→Prop}{h:ak3 aq},lJ P k (l++l') C h→lJ P k l (fun b h1=>bif b then lJ P k l' C h1 else C false h1) h
 |[],_,_,_,hs=>hs
 |x::l,l',C,h,hs=>YS.mono hs fun b h1 ⟨h2,h3⟩=>⟨h2,by
  cases b with
  |true=>exact Rl l l' h3
  |false=>exact h3⟩
def sD(h h1:ak3 aq):Prop:=h1.length=h.length∧h1.all (aq.aT h.length)=true
def OG(P:ak6)(gf:FuncId)(cY:ak3 AV)(xs:ak3 AV):Prop:=
 ∀(k:Nat)(h:ak3 aq)(C:Bool→ak3 aq→Prop),h.all (aq.aT h.length)=true→k<h.length→lJ P k xs C h→bQ P gf (.cH k::cY) h fun _ h1=>∃b,C b h1
def Wz(P:ak6)(T:TypeId):ak3 AV:=match gH P T with|some z=>z.cells.toList.map fun u=> .d (.v u)|none=>[]
section
variable {P:ak6} {r:ak5 Nat} {N0:Nat} {Q:Exit→St→Prop} {ops:Array Oper} {o o1 o2 o3 o4 o5:Oper} {s:St} {K:St→Prop} {id:Nat}
theorem cv{rest:ak3 Oper}(hg:o.guard=none)(h:oJ P o (qJ P ops rest K) s):qJ P ops (o::rest) K s:=by
 unfold qJ gW;rw[hg];exact h
theorem ER{n d:Nat}{t:ak3 (Nat×AV)}{h h':ak3 aq}{x:AV}{hd:HD}(hx:kX P o.op (ev ⟨n,t,h⟩) h=some (x,hd))(iA:o.dst=some d)(hn:Nat.ble n d=false)(he:hd.app h=h')(hK:K ⟨n,(d,x)::t,h'⟩):oJ P o K ⟨n,t,h⟩:=by
 refine .inr (.inr (.inl (UR hx ?_)));show K ((St.wh ⟨n,t,h⟩ (hd.app h)).put o.dst x);rw[iA,he];have a7:d<n:=Nat.lt_of_not_le fun hle=>by rw[Nat.ble_eq_true_of_le hle]at hn;cases hn
 rw[tT (s:=St.wh ⟨n,t,h⟩ h') a7];exact hK
theorem dd{n d:Nat}{t:ak3 (Nat×AV)}{h:ak3 aq}{x:AV}(hx:kX P o.op (ev ⟨n,t,h⟩) h=some (x, .same))(iA:o.dst=some d)(hn:Nat.ble n d=false)(hK:K ⟨n,(d,x)::t,h⟩):oJ P o K ⟨n,t,h⟩:=ER hx iA hn rfl hK
theorem KA{n:Nat}{t:ak3 (Nat×AV)}{h h':ak3 aq}{x:AV}{hd:HD}(hx:kX P o.op (ev ⟨n,t,h⟩) h=some (x,hd))(iA:o.dst=none)(he:hd.app h=h')(hK:K ⟨n,t,h'⟩):oJ P o K ⟨n,t,h⟩:=by
 refine .inr (.inr (.inl (UR hx ?_)));show K ((St.wh ⟨n,t,h⟩ (hd.app h)).put o.dst x);rw[iA,he];exact hK
theorem aed{h l:ak3 aq}{i off:Nat}{cs:ak3 AV}(hi:l[i]?=some (.cells cs)):vD (h++l) (.ptr (h.length+i) off)=some (cs,off):=by
 unfold vD;simp only;rw[akv (akU _ _),Nat.add_sub_cancel_left,hi]
theorem zJ{ρ:Operand→AV}{h l:ak3 aq}{T:TypeId}{p:Operand}{i off:Nat}{cs:ak3 AV}{x:AV}(hp:ρ p= .ptr (h.length+i) off)(hi:l[i]?=some (.cells cs))(hl:xY P T cs off=some x):kX P (.load T p) ρ (h++l)=some (x, .same):=by
 unfold kX;simp only[hp,aed hi,hl,pX]
theorem ajv{ρ:Operand→AV}{h l:ak3 aq}{T:TypeId}{y:Operand}{v:AV}(hv:ρ y=v)(hb:v.gZ=true):kX P (.box T y) ρ (h++l)=some (.ptr (h.length+l.length) 0, .push (.cells v.cells)):=by
 subst hv;unfold kX;simp only[hb,cond_true,akg]
theorem Ky{ρ:Operand→AV}{h l:ak3 aq}{T:TypeId}(hz:(gH P T).isSome=true):kX P (.alloc T) ρ (h++l)=some (.ptr (h.length+l.length) 0, .push (.cells (Wz P T))):=by
 unfold kX Wz;cases e:gH P T with
 |none=>rw[e]at hz;cases hz
 |some z=>simp only[e,akg]
theorem Jf{h l:ak3 aq}{B:aq}:(HD.push B).app (h++l)=h++(l++[B]):=by simp [HD.app]
theorem M1{ρ:Operand→AV}{h l:ak3 aq}{T:TypeId}{p y:Operand}{i off k:Nat}{cs:ak3 AV}{v:AV}(hp:ρ p= .ptr (h.length+i) off)(hi:l[i]?=some (.cells cs))(hk:eJ P T=some k)(hv:ρ y=v)(hb:(k==v.cells.length&&v.gZ&&cf (off+v.cells.length) cs.length)=true){b7:ak3 AV}(fi:fO cs off v.cells=b7):
 kX P (.store T p y) ρ (h++l)=some (.d (.v undef), .set (h.length+i) (.cells b7)):=by
 subst hv fi;unfold kX;simp only[hp,hk];rw[akv (akU _ _),Nat.add_sub_cancel_left,hi];simp only[hb,cond_true]
theorem L4{ρ:Operand→AV}{h:ak3 aq}{T:TypeId}{a i:Operand}{xs:ak3 (ak3 D)}{q e k:Nat}{c:ak3 D}(hx:ρ a= .d (.sl xs))(hi:ρ i= .d (.v (.int .i64 (Int.ofNat q))))(hT:dG P T=some (e,k))(hc:xs[q]?=some c)(hk:(c.length==k)=true):kX P (.indexAddr T a i) ρ h=some (.bE [c] 0 0, .same):=by
 unfold kX;simp only[hx,hi];unfold IK;simp only[hT,AV.er,AV.int?,zN,hc,hk,cond_true,pX]
theorem Nn{h l:ak3 aq}{B:aq}{i:Nat}:(HD.set (h.length+i) B).app (h++l)=h++l.set i B:=by
 simp only[HD.app];rw[List.set_append_right _ _ (akU _ _),Nat.add_sub_cancel_left]
theorem Io{n d:Nat}{t:ak3 (Nat×AV)}{h:ak3 aq}{T:TypeId}{x y:Operand}{p:TypeId}{xs:ak3 (ak3 D)}{q:TypeId×Nat}(ho:o.op= .binOp .eql T x y p)(hx:(ev ⟨n,t,h⟩ x).er=some xs)(hy:ev ⟨n,t,h⟩ y= .d (.v (.slice none 0 0)))(hT:dG P T=some q)(iA:o.dst=some d)(hn:Nat.ble n d=false)
 (h1:xs=[]→K ⟨n,(d, .d (.v (.bool true)))::t,h⟩) (h2:K ⟨n,(d, .d (.v (.bool false)))::t,h⟩):oJ P o K ⟨n,t,h⟩:=by
 refine .inr (.inl ?_);have a7:d<n:=Nat.lt_of_not_le fun hle=>by rw[Nat.ble_eq_true_of_le hle]at hn;cases hn
 unfold DD;simp only[ho,hx,hy,hT,xA,iA,tT (s:=⟨n,t,h⟩) a7];exact⟨h1,h2⟩
theorem Ho{n d k:Nat}{t:ak3 (Nat×AV)}{h:ak3 aq}{c:Call}{f:Operand}{x:AV}(ho:o.op= .call c)(hc:c.callee= .value f)(hf:ev ⟨n,t,h⟩ f= .cH k)(hx:c.args.toList.map (ev ⟨n,t,h⟩)=[x])(iA:o.dst=some d)(hn:Nat.ble n d=false)
 (hy:YS P k x h fun b h'=>K ⟨n,(d, .d (.v (.bool b)))::t,h'⟩):oJ P o K ⟨n,t,h⟩:=by
 refine .inr (.inr (.inr (.inl ?_)));unfold HT;simp only[ho,hc,hf,hx];refine hy.mono fun b h' hK=> ?_;have a7:d<n:=Nat.lt_of_not_le fun hle=>by rw[Nat.ble_eq_true_of_le hle]at hn;cases hn
 rw[iA,tT (s:=St.wh ⟨n,t,h⟩ h') a7];exact hK
theorem TC{n:Nat}{t:ak3 (Nat×AV)}{h:ak3 aq}{c:Call}{f:Operand}{g:FuncId}{cY:ak3 AV}(ho:o.op= .call c)(hc:c.callee= .value f)(hf:ev ⟨n,t,h⟩ f= .fn g cY)
 (hA:bQ P g (c.args.toList.map (ev ⟨n,t,h⟩)++cY) h fun x h'=>K ((St.wh ⟨n,t,h⟩ h').put o.dst x)):oJ P o K ⟨n,t,h⟩:=by
 refine .inr (.inr (.inl ?_));unfold oY cp;simp only[ho,hc,hf];exact hA
end
theorem ZO{P:ak6}{f:FuncId}{args:ak3 AV}{H:ak3 aq}{K:AV→ak3 aq→Prop}(hc:bQ P f args H K)(e:ak3 aq)(hb:H.all (aq.aT H.length)=true)(ha:args.all (AV.aT H.length)=true)
 (hK:∀r h',K r h'→h'.length=H.length∧h'.all (aq.aT H.length)=true∧r.aT H.length=true):bQ P f args (H++e) fun r h'=>∃H',K r H'∧h'=H'++e:=by
 have xl:∀i,i<H.length→rn (List.range H.length) (H++e).length i=i:=fun i h=>Au (List.range H.length) _ i i (by rw[List.getElem?_range h]);have J4:∀y:AV,y.aT H.length=true→y.aP (rn (List.range H.length) (H++e).length)=y:=fun y hy=>(wg (τ:=id) xl y hy).trans (DY y);have CH:∀B:aq,B.aT H.length=true→B.aP (rn (List.range H.length) (H++e).length)=B:=fun B hB=>(Nq (τ:=id) xl B hB).trans (KV B);have:=hc.US (l:=List.range H.length) (h:=H++e) List.nodup_range (fun j hj=>by have:=List.mem_range.1 hj;simp;omega) (fun i j pv=>by
  obtain⟨a7,rfl⟩:i<H.length∧j=i:=by
   have h1:=(akf.1 pv).1;rw[List.length_range]at h1;rw[List.getElem?_range h1]at pv;exact⟨h1,(aky pv).symm⟩
  rw[akp a7,akj a7,Option.map_some,CH _ (akF.1 hb _ (List.getElem_mem a7))]) (by simp) ha hb
 have ea:args.map (AV.aP (rn (List.range H.length) (H++e).length))=args:=(akK fun x hx=>J4 x (akF.1 ha x hx)).trans (List.map_id _);rw[ea]at this;refine this.mono fun r' h' ⟨r,H',k1,k2,k3⟩=> ?_;obtain⟨c1,c2,c3⟩:=hK r H' k1;have hm:H'.map (aq.aP (rn (List.range H.length) (H++e).length))=H':=(akK fun B hB=>CH B (akF.1 c2 B hB)).trans (List.map_id _);rw[hm,TG H' H e c1]at k3;rw[J4 r c3]at k2;exact⟨H',by rw[k2];exact k1,k3⟩
theorem aga{h:ak3 aq}{p:AV}{K K':ak3 AV→Nat→Prop}(hk:∀cs off,K cs off→K' cs off)(hp:qO h p K):qO h p K':=by
 unfold qO at hp ⊢;split at hp
 ·next n off=>
  split at hp
  ·next cs e=>(try simp only[e]);exact hk _ _ hp
  ·exact hp.elim
 ·next xs i off=>
  split at hp
  ·next cs e=>(try simp only[e]);exact hk _ _ hp
  ·exact hp.elim
 ·exact hp.elim
theorem Ym{P:ak6}{T:TypeId}{h:ak3 aq}{p:AV}{K K':AV→Prop}(hk:∀x,K x→K' x)(hp:ml P T h p K):ml P T h p K':=
 aga (fun cs off hc=>by
  split at hc
  ·next k e1 e2=>
   try simp only[e1,e2]
   exact bO.2 ⟨(bO.1 hc).1,hk _ (bO.1 hc).2⟩
  ·next k e1 e2=>
   try simp only[e1,e2]
   split at hc
   ·next c e3=>(try simp only[e3]);exact hk _ hc
   ·exact hc.elim
  ·exact hc.elim) hp
theorem aab{P:ak6}{fn:Func}{n:Nat}{t:ak3 (Nat×AV)}{H l:ak3 aq}{K:AV→ak3 aq→Prop}(hb:H.all (aq.aT H.length)=true)(hr:lu P ⟨n,t,H++l⟩ fn.results.toList fun rs=>((iE rs).bA H.length).aT H.length=true∧K ((iE rs).bA H.length) H):oW P fn H.length K ⟨n,t,H++l⟩:=by
 have ht:(((H++l).take H.length).map (aq.bA H.length))=H:=by rw[List.take_left];exact Od hb
 unfold oW;show lu P ⟨n,t,H++l⟩ fn.results.toList fun rs=>H.length≤(H++l).length∧_;simp only[ht];have gen:∀(rv:ak3 ResultVar){C C':ak3 AV→Prop},(∀x,C x→C' x)→lu P ⟨n,t,H++l⟩ rv C→lu P ⟨n,t,H++l⟩ rv C':=by
  intro rv
  induction rv with
  |nil=>intro C C' hc h;exact hc _ h
  |cons x rv ih=>
   intro C C' hc h;cases x with
   |tmp t=>exact ih (fun y hy=>hc _ hy) h
   |cell p t=>exact Ym (fun x h=>ih (fun y hy=>hc _ hy) h) h
 exact gen _ (fun rs ⟨h1,h2⟩=>⟨by simp,h1,hb,h2⟩) hr
theorem D4{n:Nat}{t:ak3 (Nat×AV)}{H l:ak3 aq}(live:ak3 Nat)(hb:H.all (aq.aT H.length)=true):(⟨n,t,H++l⟩:St).mask live H.length=⟨n,live.map fun k=>(k,(bB t k).bA H.length),H⟩:=by
 unfold St.mask;rw[show((H++l).take H.length).map (aq.bA H.length)=H by rw[List.take_left];exact Od hb]
theorem BX{n:Nat}{t:ak3 (Nat×AV)}{H l:ak3 aq}(live:ak3 Nat)(hb:H.all (aq.aT H.length)=true)(hl:(live.all fun k=>((bB t k).bA H.length).aT H.length)=true):(⟨n,t,H++l⟩:St).Ao live H.length:=
 ⟨by simp,hl,by rw[show((H++l).take H.length).map (aq.bA H.length)=H by rw[List.take_left];exact Od hb];exact hb⟩
theorem Xp{n:Nat}{t:ak3 (Nat×AV)}{H:ak3 aq}(live:ak3 Nat)(hb:H.all (aq.aT H.length)=true):(⟨n,t,H⟩:St).mask live H.length=⟨n,live.map fun k=>(k,(bB t k).bA H.length),H⟩:=by
 have:=D4 (n:=n) (t:=t) (l:=[]) live hb
 rwa [akA]at this
theorem Ud{n:Nat}{t:ak3 (Nat×AV)}{H:ak3 aq}(live:ak3 Nat)(hb:H.all (aq.aT H.length)=true)(hl:(live.all fun k=>((bB t k).bA H.length).aT H.length)=true):(⟨n,t,H⟩:St).Ao live H.length:=by
 have:=BX (n:=n) (t:=t) (l:=[]) live hb hl
 rwa [akA]at this
theorem Jh{k m:Nat}(h:k<m):((AV.cH k).bA m).aT m=true:=by simp [AV.bA,AV.aT,cf];omega
structure GG(s:St)(m:Nat)(s':St):Prop where
 cut:∀{G:Gh}{w:World}{a:Act},cx G w a s→cx (G.cut m) w a s'
theorem GG.S{s s':St}{live:ak3 Nat}{m:Nat}(h:iu s live m=some s'):GG s m s':=⟨fun hs=>hs.iu h⟩
theorem agp{P:ak6}{r:ak5 Nat}{N0 m:Nat}{c:Code}{s:St}{R R':Exit→St→Prop}(hm:N0≤m)(h:bJ P r N0 c R s)(hR:∀e s2,R e s2→∃s',GG s2 m s'∧R' e s'):bJ P r N0 c R' s:=by
 constructor
 intro G w a n hs hN;refine wpIn_mono (h.run G w a n hs hN) fun e a1 w1 hn=> ?_;obtain⟨G1,s1,hE,_,dO,hq⟩:=hn;obtain⟨s',k1,k2⟩:=hR e s1 hq;exact⟨G1.cut m,s',hE.trans (nT _ _ _ _),hm,k1.cut dO,k2⟩
def Jd(m:Nat)(n:Nat)(T:ak3 (Nat×AV))(LP:aq)(next:ak3 aq→Prop)(Q:Exit→St→Prop)(e:Exit)(s:St):Prop:=
 ∃hs,hs.length=m∧hs.all (aq.aT (m+1))=true∧GG s (m+1) ⟨s.n,[],hs++[LP]⟩∧match e with
  | .normal=>next hs
  | .ret=>Q .ret ⟨n,T,hs++[.gone]⟩
  | .exit i=>Q (.exit i) ⟨n,T,hs++[.gone]⟩
  |_=>False
theorem OI{P:ak6}{N0 n m:Nat}{T:ak3 (Nat×AV)}{H:ak3 aq}{Q:Exit→St→Prop}{g:Operand}{p:Nat}{as bd:Code}{gf:FuncId}{cY:ak3 AV}(hg:ev ⟨n,T,H⟩ g= .fn gf cY){α:Type}{enc:α→AV}{xs:ak3 α}(hI:OG P gf cY (xs.map enc))
 {ι:Type} (Hs:ι→ak3 aq) (I:ι→ak3 α→Prop) (i0:ι) (h0:H=Hs i0) (ql:I i0 xs) (hl:∀i,(Hs i).length=m) (nP:∀i,(Hs i).all (aq.aT (m+1))=true) (hT:(dz n T).all (AV.aT (m+1))=true) (hp:Nat.ble n p=false)
 (round:∀i x l,I i (x::l)→∀(rr:Nat)(a b:Code),bJ P (some rr) (m+1) as (gy (fun s1=>∃hs e,hs.length=m∧s1.h=hs++ .lp .ready p a b (dz n T)::e∧
  bJ P (some rr) (m+1) bd (Jd m n T (.lp .busy p a b (dz n T)) (fun ck=>∃i',ck=Hs i'∧I i' l) Q) ⟨s1.n,s1.t,hs++ .lp .busy p a b (dz n T)::e⟩) (fun _ _=>False)) ⟨n,(p,enc x)::jR 0 (dz n T),Hs i++[.lp .ready p a b (dz n T)]⟩)
 (done:∀i,I i []→Q .normal ⟨n,T,Hs i++[.gone]⟩):bJ P none N0 (.rangeFunc g #[p] as bd) Q ⟨n,T,H⟩:=by
 subst h0;have hm:(Hs i0).length=m:=hl i0;have XG:(dz n T).length=n:=by simp [dz]
 have Ji:∀ls,(aq.lp ls p as bd (dz n T)).aT (m+1)=true:=fun ls=>hT;refine agl hg ?_;show bQ P gf (.cH (Hs i0).length::cY) (Hs i0++[.lp .ready p as bd (dz n T)]) _;have JN:∀(hs:ak3 aq)(B B':aq),hs.length=m→(hs++[B]).set m B'=hs++[B']:=fun hs B B' h=>by
  rw[List.set_append_right _ _ (Nat.le_of_eq h),h,Nat.sub_self];rfl
 have dV:∀(hs:ak3 aq)(B:aq)(e:ak3 aq),hs.length=m→(hs++B::e)[m]?=some B:=fun hs B e h=>by
  rw[akv (Nat.le_of_eq h),h,Nat.sub_self];rfl
 have seq:∀(l:ak3 α)(i:ι),I i l→lJ P m (l.map enc) (fun b h1=>∃(hs:ak3 aq)(ls:LS),hs.length=m∧h1=hs++[.lp ls p as bd (dz n T)]∧Ox P N0 Q ⟨n,T,hs++[.gone]⟩ ls) (Hs i++[.lp .ready p as bd (dz n T)]):=by
  intro l
  induction l with
  |nil=>intro i hi;exact⟨Hs i, .ready,hl i,rfl,done i hi⟩
  |cons x l ih=>
   intro i hi;have hlen:(Hs i++[aq.lp .ready p as bd (dz n T)]).length=m+1:=by simp [hl i]
   refine aex ⟨p,as,bd,dz n T,dV _ _ [] (hl i),?_,fun rr=> ?_⟩
   ·rw[XG];exact Nat.lt_of_not_le fun hle=>by rw[Nat.ble_eq_true_of_le hle]at hp;cases hp
   ·rw[hlen,XG];refine(round i x l hi rr as bd).mono fun e s1 dO=> ?_;cases e with
    |normal=>
     obtain⟨hs,e',k1,k2,k3⟩:=dO;refine⟨p,as,bd,dz n T,by rw[k2];exact dV _ _ _ k1,?_⟩;have hse:s1.h.set m (.lp .busy p as bd (dz n T))=hs++ .lp .busy p as bd (dz n T)::e':=by
      rw[k2,List.set_append_right _ _ (Nat.le_of_eq k1),k1,Nat.sub_self];rfl
     rw[hse];refine agp (akq _) k3 fun e2 s2 hr=> ?_;obtain⟨Bj,c2,c5,c3,c4⟩:=hr;refine⟨_,c3,?_⟩;have ep:∀B,B.aT (m+1)=true→(Bj++[B]).all (aq.aT (m+1))=true:=fun B hB=>by
       rw[List.all_append,c5];simp [hB]
     have Ff:(Bj++[aq.lp .busy p as bd (dz n T)])[m]?=some (.lp .busy p as bd (dz n T)):=dV _ _ [] c2;cases e2 with
     |normal=>
      obtain⟨i',rfl,di⟩:=c4;refine⟨p,as,bd,dz n T,Ff,?_⟩;simp only[JN _ _ _ c2];exact⟨⟨by simp [hl],ep _ (Ji _)⟩,ih i' di⟩
     |ret=>
      refine⟨p,as,bd,dz n T,Ff,?_⟩;simp only[JN _ _ _ c2];exact⟨⟨by simp [c2],ep _ (Ji _)⟩,Bj, .done .ret,c2,rfl,dU c4⟩
     |exit j=>
      refine⟨p,as,bd,dz n T,Ff,?_⟩;simp only[JN _ _ _ c2];exact⟨⟨by simp [c2],ep _ (Ji _)⟩,Bj, .done (.exit j),c2,rfl,pC c4⟩
     |_=>exact c4.elim
    |_=>exact dO.elim
 have RH:(Hs i0++[aq.lp .ready p as bd (dz n T)]).length=m+1:=by simp [hm]
 refine(hI (Hs i0).length _ _ (by rw[RH,List.all_append,nP i0];simp [Ji]) (by rw[RH,hm];exact ak1 m) (by rw[hm];exact seq xs i0 ql)).mono fun _ h1 hb=> ?_;obtain⟨b,hs,ls,k1,rfl,k2⟩:=hb;refine⟨ls,p,as,bd,dz n T,?_,?_⟩
 ·show(hs++[aq.lp ls p as bd (dz n T)])[(Hs i0).length]?=_;rw[hm];exact dV _ _ [] k1
 ·show Ox P N0 Q ⟨n,T,(hs++[aq.lp ls p as bd (dz n T)]).set (Hs i0).length .gone⟩ ls;rw[hm,JN _ _ _ k1];exact k2
section
variable {m n:Nat} {T:ak3 (Nat×AV)} {LP:aq} {next:ak3 aq→Prop} {Q:Exit→St→Prop} {s:St}
theorem MI(hs:ak3 aq)(hl:hs.length=m)(hb:hs.all (aq.aT (m+1))=true)(hc:iu s [] (m+1)=some ⟨s.n,[],hs++[LP]⟩)(hn:next hs):Jd m n T LP next Q .normal s:=⟨hs,hl,hb, .S hc,hn⟩
theorem UZ(hs:ak3 aq)(hl:hs.length=m)(hb:hs.all (aq.aT (m+1))=true)(hc:iu s [] (m+1)=some ⟨s.n,[],hs++[LP]⟩)(hq:Q .ret ⟨n,T,hs++[.gone]⟩):Jd m n T LP next Q .ret s:=⟨hs,hl,hb, .S hc,hq⟩
theorem afD{i:Nat}(hs:ak3 aq)(hl:hs.length=m)(hb:hs.all (aq.aT (m+1))=true)(hc:iu s [] (m+1)=some ⟨s.n,[],hs++[LP]⟩)(hq:Q (.exit i) ⟨n,T,hs++[.gone]⟩):Jd m n T LP next Q (.exit i) s:=⟨hs,hl,hb, .S hc,hq⟩
end
set_option linter.unusedSimpArgs false
set_option linter.unusedVariables false
abbrev Lf:=St×ak3 Nat×ak3 (Nat×ak3 (In×bZ))
def ta(go:Nat→ak5 (ak3 Lf)):ak3 Nat→ak5 (ak3 Lf)
 |[]=>some []
 |k::r=>match go k with
  |some a=>match ta go r with
   |some b=>some (a++b)
   |none=>none
  |none=>none
def x8(P:ak6)(ops:Array Oper)(A C:ak3 Nat)(as:ak3 (Nat×bZ)):Nat→Nat→ak3 Nat→ak3 (Nat×ak3 (In×bZ))→St→ak5 (ak3 Lf)
 |0,L,al,acc,s=>match qz A L 0 with
  |[]=>some [(s,al,acc)]
  |_=>none
 |f+1,L,al,acc,s=>match qz A L 0 with
  |[]=>some [(s,al,acc)]
  |k0::r=>ta (fun k=>match ops[k]? with
     |some o=>match mo P ops true o k as s with
      |some (s1,l)=>fN (L|||(1<<<k)) fun L=>x8 P ops A C as f L (al++List.replicate (s1.h.length-s.h.length) k) ((k,l)::acc) s1
      |none=>none
     |none=>none) (match B6 C L (k0::r)with
      |some k=>[k]
      |none=>k0::r)
theorem VT{go:Nat→ak5 (ak3 Lf)}:∀{l:ak3 Nat}{ls:ak3 Lf},ta go l=some ls→∀k∈l,∃a,go k=some a∧∀x∈a,x∈ls
 |[],_,_,k,hk=>by cases hk
 |j::r,ls,h,k,hk=>by
  unfold ta at h;split at h
  ·next a e1=>
   split at h
   ·next b e2=>
    cases h
    rcases akJ.1 hk with rfl|hk
    ·exact⟨a,e1,fun x hx=>List.mem_append_left _ hx⟩
    ·obtain⟨a',e3,h3⟩:=VT e2 k hk;exact⟨a',e3,fun x hx=>List.mem_append_right _ (h3 x hx)⟩
   ·cases h
  ·cases h
section
variable {P:ak6} {ops:Array Oper} {as:ak3 (Nat×bZ)} {K:St→Prop} {s0:St}
theorem abb{o:Oper}{j:Nat}{dr:Bool}{s s1:St}{l:ak3 (In×bZ)}(h:mo P ops dr o j as s=some (s1,l))(ho:o∈ops.toList)(hB:kx (m9 ops.toList) s0 s):kx (m9 ops.toList) s0 s1:=by
 have cI:∀{i a r l},s6 i a r=some (s1,l)→∃m,r=some (s1,m):=fun{i a r l} h=>by
  unfold s6 at h;split at h
  ·exact⟨_,h⟩
  ·split at h
   ·cases h;exact⟨_,rfl⟩
   ·cases h
 have cR:∀{m r l},oS m r=some (s1,l)→∃m,r=some (s1,m):=fun{m r l} h=>by
  unfold oS at h;split at h
  ·cases h;exact⟨_,rfl⟩
  ·cases h
 have VB:kx (m9 ops.toList) s0 (Cv o s):=hB.put s.h (.d (.v undef)) (J7 ho);have st:∀l,o6 P dr o j as s=some (s1,l)→kx (m9 ops.toList) s0 s1:=fun l h=>by
  unfold o6 at h;cases hd:dr&&Fc (gR as (3*j+1))&& !zp o (gR as (3*j+1))with
  |true=>rw[hd]at h;cases h
  |false=>
   rw[hd]at h;simp only[cond_false]at h;split at h
   ·split at h<;>(obtain⟨m,e⟩:=cI h;cases e;exact hB.put _ _ (J7 ho))
   ·cases h
 unfold mo at h;split at h
 ·exact st _ h
 ·split at h
  ·obtain⟨m,e⟩:=cR h;revert e;generalize ((_:Bool)==_)=q;intro e;cases q with
   |true=>exact st _ e
   |false=>cases e;exact VB
  ·obtain⟨m,e⟩:=cR h;cases e;exact VB
  ·cases h
theorem V6(hK:tS K)(hM:rb (Region.before ops) ops=true)(t0:ak3 (Nat×AV)):
 ∀(fuel L:Nat)(listed:Array Bool)(al:ak3 Nat)(acc:ak3 (Nat×ak3 (In×bZ)))(s:St)(ls:ak3 Lf),LM ops L listed→Dn ops listed→x8 P ops (qI ops 0 ops.size) (o0 ops false (Region.before ops) 0 ops.size) as fuel L al acc s=some ls→
  (∃x,x∈ls)∧(∀x∈ls,(∀p∈acc,p∈x.2.2)∧((∃pre,s.t=pre++t0)→∃pre,x.1.t=pre++t0)∧(kx (m9 ops.toList) s0 s→kx (m9 ops.toList) s0 x.1))∧((∀x∈ls,(∀p∈x.2.2,fU P p.2)∧K x.1)→mz false P ops K fuel listed s)
 |0,L,listed,al,acc,s,ls,hL,hD,h=>by
  unfold x8 at h;split at h
  ·next hr=>
   cases h
   refine⟨⟨_,akl⟩,fun x hx=> ?_,fun hk=>⟨?_,(hk _ akl).2⟩⟩
   ·rw[List.mem_singleton]at hx;subst hx;exact⟨fun _ h=>h,fun h=>h,fun h=>h⟩
   ·rw[List.eq_nil_iff_forall_not_mem];intro i hi;have:=(hL.ready i).1 hi;rw[hr]at this;cases this
  ·cases h
 |fuel+1,L,listed,al,acc,s,ls,hL,hD,h=>by
  have mem:∀{k:Nat}{o:Oper},ops[k]?=some o→o∈ops.toList:=fun ho=>Array.mem_toList_iff.2 (Array.mem_of_getElem? ho);unfold x8 at h;split at h
  ·next hr=>
   cases h
   refine⟨⟨_,akl⟩,fun x hx=> ?_,fun hk=>⟨fun _=>(hk _ akl).2,fun i hi=> ?_⟩⟩
   ·rw[List.mem_singleton]at hx;subst hx;exact⟨fun _ h=>h,fun h=>h,fun h=>h⟩
   ·have:=(hL.ready i).1 hi;rw[hr]at this;cases this
  ·next k0 r hr=>
   generalize X9:(fun k:Nat=>(match ops[k]? with
    |some o=>match mo P ops true o k as s with
     |some (s1,l)=>fN (L|||(1<<<k)) fun L=>x8 P ops (qI ops 0 ops.size) (o0 ops false (Region.before ops) 0 ops.size) as fuel L (al++List.replicate (s1.h.length-s.h.length) k) ((k,l)::acc) s1
     |none=>none
    |none=>none:ak5 (ak3 Lf)))=go at h
   have one:∀k a,k∈Region.ready .any ops listed→go k=some a→∃o s1 l,ops[k]?=some o∧mo P ops true o k as s=some (s1,l)∧(∃x,x∈a)∧(∀x∈a,(∀p∈(k,l)::acc,p∈x.2.2)∧((∃pre,s.t=pre++t0)→∃pre,x.1.t=pre++t0)∧(kx (m9 ops.toList) s0 s→kx (m9 ops.toList) s0 x.1))∧
       ((∀x∈a,(∀p∈x.2.2,fU P p.2)∧K x.1)→∃y h1,lV false P ops o s y h1∧mz false P ops K fuel (listed.setIfInBounds k true) ((s.wh h1).put o.dst y)):=fun k a Hg sk=>by
    rw[←X9]at sk;simp only at sk;split at sk
    ·next o ho=>
     split at sk
     ·next s1 l hg=>
      rw[FE]at sk;obtain⟨h1,h2,h3⟩:=V6 hK hM t0 fuel _ _ _ _ s1 a (hL.set (aku.1 ho).1) (hD.set Hg) sk;refine⟨o,s1,l,ho,hg,h1,fun x hx=>⟨(h2 x hx).1,fun⟨pre,hp⟩=> ?_,fun hB=>(h2 x hx).2.2 (abb hg (mem ho) hB)⟩,fun hk=> ?_⟩
      ·obtain⟨⟨p1,e1⟩,_⟩:=Ri hg;exact(h2 x hx).2.1 ⟨p1++pre,by rw[e1,hp,akw]⟩
      ·obtain⟨x,hx⟩:=h1;have hl:fU P l:=(hk x hx).1 (k,l) ((h2 x hx).1 _ akl);have h4:=Mr (K:=(·=s1)) hg hl rfl;have h5:=h3 hk;have:∃y h1,lV false P ops o s y h1∧(s.wh h1).put o.dst y=s1:=by
        rcases KU h4 with⟨g,hd⟩|⟨g,hd⟩
        ·obtain⟨y,h1,h2,h3⟩:=MZ hd;exact⟨y,h1, .inl ⟨g,h2⟩,h3⟩
        ·exact⟨_,s.h, .inr ⟨g,rfl,rfl⟩,hd⟩
       obtain⟨y,hh,q1,rfl⟩:=this;exact⟨y,hh,q1,h5⟩
     ·cases sk
    ·cases sk
   cases hf:B6 (o0 ops false (Region.before ops) 0 ops.size) L (k0::r)with
   |some k=>
    rw[hf]at h;obtain⟨uD,GJ⟩:=TR hf;have Hg:k∈Region.ready .any ops listed:=(hL.ready k).2 (by rw[hr];exact uD);unfold ta at h;split at h
    ·next a e1=>
     unfold ta at h;simp only[akA]at h;cases h
     obtain⟨o,s1,l,ho,hg,h1,h2,h3⟩:=one k _ Hg e1;refine⟨h1,fun x hx=>⟨fun p hp=>(h2 x hx).1 p (ako _ hp),(h2 x hx).2⟩,fun hk=> ?_⟩;obtain⟨y,hh,q1,q2⟩:=h3 hk;refine Nj hK hM ho fuel listed s hD (fun j oj hj cu q8 uT=> ?_) Hg q1 q2;have RK:=(aku.1 hj).1;have BG:=(aku.1 ho).1;have adt:Nat.testBit L j=false:=by
      rw[hL.b];have hX:j<listed.size:=by rw[hL.sz];exact RK
      simpa [hX]using q8
     have yv:Nat.testBit (B9 ops false (Region.before ops) k) j=false:=by
      rw[←Bool.not_eq_true];intro hc;have h5:(o0 ops false (Region.before ops) 0 ops.size).getD k 0=B9 ops false (Region.before ops) k:=by
        rw[List.getD_eq_getElem?_getD,Sx,if_pos BG,akz];rfl
      rw[h5]at GJ;have:=congrArg (fun n=>Nat.testBit n j) GJ;simp only[Nat.testBit_or,hc,adt]at this;cases this
     unfold B9 at yv;rw[Gg]at yv;unfold Wd at yv;rw[uT,ho,hj]at yv;simp [RK,cu]at yv;exact yv
    ·cases h
   |none=>
    rw[hf]at h;have P5:=VT h;have M5:k0∈Region.ready .any ops listed:=(hL.ready k0).2 (by rw[hr];simp);have back:∀(l:ak3 Nat)(ls:ak3 Lf),ta go l=some ls→∀x∈ls,∃k∈l,∃a,go k=some a∧x∈a:=by
      intro l
      induction l with
      |nil=>intro ls h x hx;cases h;cases hx
      |cons j r ih=>
       intro ls h x hx;unfold ta at h;split at h
       ·next a e1=>
        split at h
        ·next b e2=>
         cases h
         rcases akR.1 hx with hx|hx
         ·exact⟨j,akl,a,e1,hx⟩
         ·obtain⟨k,hk,a',h1,h2⟩:=ih b e2 x hx;exact⟨k,ako _ hk,a',h1,h2⟩
        ·cases h
       ·cases h
    refine⟨?_,fun x hx=> ?_,fun hk=>⟨fun e=>(by rw[e]at M5;cases M5),fun i hi oi Wa=> ?_⟩⟩
    ·obtain⟨a,e1,h1⟩:=P5 k0 akl;obtain⟨o,s1,l,ho,hg,⟨x,hx⟩,_⟩:=one k0 a M5 e1;exact⟨x,h1 x hx⟩
    ·obtain⟨k,hk,a,e1,P7⟩:=back _ _ h x hx;obtain⟨o,s1,l,ho,hg,h1,h2,h3⟩:=one k a ((hL.ready k).2 (by rw[hr];exact hk)) e1;exact⟨fun p hp=>(h2 x P7).1 p (ako _ hp),(h2 x P7).2⟩
    ·have di:i∈k0::r:=by rw[←hr];exact(hL.ready i).1 hi
     obtain⟨a,e1,h1⟩:=P5 i di;obtain⟨o,s1,l,ho,hg,_,_,h3⟩:=one i a hi e1;rw[ho]at Wa;cases Wa;exact h3 fun x hx=>hk x (h1 x hx)
end
def LQ(k:Nat):ak3 Nat→Nat
 |[]=>0
 |j::l=>bif cf (j+1) k then LQ k l+1 else LQ k l
def Pt(k:Nat):ak3 Nat→Nat
 |[]=>0
 |j::l=>bif j==k then Pt k l+1 else Pt k l
def Nh(h0:Nat)(all:ak3 Nat):ak3 Nat→ak3 Nat→ak3 Nat
 |_,[]=>[]
 |pre,k::l=>fN (h0+LQ k all+Pt k pre) fun q=>q::Nh h0 all (k::pre) l
def RX(q:Nat):ak3 Nat→Nat→Nat
 |[],i=>i
 |x::l,i=>bif x==q then i else RX q l (i+1)
def PC(h0:Nat)(p:ak3 Nat):Nat→Nat→ak3 Nat
 |0,_=>[]
 |n+1,q=>fN (RX q p h0) fun i=>i::PC h0 p n (q+1)
def Cl(a:Nat×ak3 (In×bZ)):ak3 (Nat×ak3 (In×bZ))→ak3 (Nat×ak3 (In×bZ))
 |[]=>[a]
 |b::l=>bif cf a.1 b.1 then a::b::l else b::Cl a l
def E5:ak3 (Nat×ak3 (In×bZ))→ak3 (Nat×ak3 (In×bZ))
 |[]=>[]
 |a::l=>Cl a (E5 l)
def Hz:ak3 (Nat×ak3 (In×bZ))→ak3 (In×bZ)
 |[]=>[]
 |a::l=>a.2++Hz l
def qM(p q:ak3 Nat)(h0:Nat)(h:ak3 aq):Nat→Nat→ak3 aq
 |0,_=>[]
 |n+1,i=>(match h[eg h0 q i]? with|some B=>B.aP (eg h0 p)|none=> .gone)::qM p q h0 h n (i+1)
def Bl(h0:Nat)(p:ak3 Nat):Bool:=(List.range p.length).all fun i=>p.getD i 0==h0+i
theorem YV{h0:Nat}{p:ak3 Nat}(h:Bl h0 p=true):eg h0 p=id:=by
 funext i
 unfold eg;cases e:cf h0 i with
 |false=>rfl
 |true=>
  rw[dk]at e;simp only[cond_true,id];by_cases hi:i-h0<p.length
  ·unfold Bl at h;rw[akF]at h;have:=h (i-h0) (List.mem_range.2 hi);rw[beq_iff_eq,List.getD_eq_getElem?_getD,akj hi]at this;rw[List.getD_eq_getElem?_getD,akj hi];simp only[Option.getD_some]at this ⊢;omega
  ·rw[List.getD_eq_getElem?_getD,akL (by omega)];rfl
def PR(bo:ak3 Nat)(s:St)(x:Lf)(p q:ak3 Nat):ak5 (ak3 (Nat×AV)×ak3 aq×ak3 (In×bZ)):=
 bif (x.1.t.take (x.1.t.length-s.t.length)).all (fun p=>bo.any (·==p.1)||S8 (bB s.t p.1))&&(List.range x.1.h.length).all (fun i=>cf (eg s.h.length p i+1) x.1.h.length&&cf (eg s.h.length q i+1) x.1.h.length&&eg s.h.length q (eg s.h.length p i)==i&&eg s.h.length p (eg s.h.length q i)==i)
 then some (bo.map fun k=>(k,(bB x.1.t k).aP (eg s.h.length p)),bif Bl s.h.length p then x.1.h else qM p q s.h.length x.1.h x.1.h.length 0,Hz (E5 x.2.2))else none
def Ga(bo:ak3 Nat)(s:St)(x:Lf):ak5 (ak3 (Nat×AV)×ak3 aq×ak3 (In×bZ)):=
 fL (Nh s.h.length x.2.1 [] x.2.1) fun p=>fL (PC s.h.length p p.length s.h.length) fun q=>PR bo s x p q
def Ko(bo:ak3 Nat)(s:St):ak3 Lf→ak5 (ak3 (ak3 (Nat×AV)×ak3 aq×ak3 (In×bZ)))
 |[]=>some []
 |x::l=>match Ga bo s x with
  |some a=>match Ko bo s l with
   |some b=>some (a::b)
   |none=>none
  |none=>none
def Gb(P:ak6)(ol:ak3 Oper)(as:ak3 (Nat×bZ))(bo:ak3 Nat)(s:St):ak5 (ak3 (ak3 (Nat×AV)×ak3 aq×ak3 (In×bZ))):=
 bif rb (Region.before ol.toArray) ol.toArray then fL (qI ol.toArray 0 ol.toArray.size) fun A=>fL (o0 ol.toArray false (Region.before ol.toArray) 0 ol.toArray.size) fun C=>
  match x8 P ol.toArray A C as ol.toArray.size 0 [] [] s with
  |some ls=>Ko bo s ls
  |none=>none
 else none
theorem Te{bo:ak3 Nat}{s:St}:∀{ls:ak3 Lf}{r},Ko bo s ls=some r→∀x∈ls,∃a∈r,Ga bo s x=some a
 |[],_,_,x,hx=>by cases hx
 |y::l,r,h,x,hx=>by
  unfold Ko at h;split at h
  ·next a e1=>
   split at h
   ·next b e2=>
    cases h
    rcases akJ.1 hx with rfl|hx
    ·exact⟨a,akl,e1⟩
    ·obtain⟨a',h1,h2⟩:=Te e2 x hx;exact⟨a',ako _ h1,h2⟩
   ·cases h
  ·cases h
theorem T5{a x:Nat×ak3 (In×bZ)}:∀{l:ak3 (Nat×ak3 (In×bZ))},x∈Cl a l↔x=a∨x∈l
 |[]=>by simp [Cl]
 |b::l=>by
  unfold Cl;cases cf a.1 b.1 with
  |true=>simp
  |false=>
   simp only[cond_false,akJ,T5 (l:=l)];constructor
   ·rintro(h|h|h)
    ·exact .inr (.inl h)
    ·exact .inl h
    ·exact .inr (.inr h)
   ·rintro(h|h|h)
    ·exact .inr (.inl h)
    ·exact .inl h
    ·exact .inr (.inr h)
theorem PM{x:Nat×ak3 (In×bZ)}:∀{l:ak3 (Nat×ak3 (In×bZ))},x∈E5 l↔x∈l
 |[]=>by simp [E5]
 |a::l=>by rw[E5,T5,PM (l:=l),akJ]
theorem SG{P:ak6}:∀{l:ak3 (Nat×ak3 (In×bZ))},fU P (Hz l)→∀p∈l,fU P p.2
 |[],_,p,hp=>by cases hp
 |a::l,h,p,hp=>by
  unfold Hz at h;rcases akJ.1 hp with rfl|hp
  ·exact fun q hq=>h q (List.mem_append_left _ hq)
  ·exact SG (fun q hq=>h q (List.mem_append_right _ hq)) p hp
theorem Xi{p q:ak3 Nat}{h0:Nat}{h:ak3 aq}:∀(n i j:Nat),(qM p q h0 h n i)[j]?=if j<n then some (match h[eg h0 q (i+j)]? with|some B=>B.aP (eg h0 p)|none=> .gone)else none
 |0,i,j=>by simp [qM]
 |n+1,i,0=>by simp [qM]
 |n+1,i,j+1=>by
  rw[qM,akQ,Xi n (i+1) j];simp only[Nat.add_lt_add_iff_right];rw[show i+1+j=i+(j+1) by omega]
theorem RJ{p q:ak3 Nat}{h0:Nat}{h:ak3 aq}:∀(n i:Nat),(qM p q h0 h n i).length=n
 |0,_=>rfl
 |n+1,i=>by rw[qM,aki,RJ n]
theorem adB{P:ak6}{ops:Array Oper}{N0:Nat}{bo:ak3 Nat}{s:St}{x:Lf}{Δ:ak3 (Nat×AV)}{h':ak3 aq}{ps:ak3 (In×bZ)}(h:Ga bo s x=some (Δ,h',ps))(hN:N0≤s.h.length)(wz:∀i,(bB s.t i).aT s.h.length=true)
 (hn:x.1.n=s.n) (hp:∃pre,x.1.t=pre++s.t) (b4:fU P ps):gp N0 x.1 ⟨s.n,Δ++s.t,h'⟩∧∀p∈x.2.2,fU P p.2:=by
 unfold Ga at h;rw[DT,DT]at h;generalize Nh s.h.length x.2.1 [] x.2.1=p at h;generalize PC s.h.length p p.length s.h.length=q at h;unfold PR at h;obtain⟨hb,he⟩:=dt h;cases he
 rw[akh]at hb;obtain⟨hb,hc⟩:=hb;simp only[akF,List.mem_range,akh,beq_iff_eq,dk]at hc;have xp:∀i,i<s.h.length→eg s.h.length p i=i:=fun i hi=>by
   unfold eg;have:cf s.h.length i=false:=by rw[←Bool.not_eq_true,dk];omega
   rw[this];rfl
 refine⟨?_,fun y hy=>SG b4 y (PM.2 hy)⟩;refine gp.aP (eg s.h.length p) (eg s.h.length q) hn (by
  cases Bl s.h.length p with
  |true=>rfl
  |false=>exact RJ _ _) (fun i hi=>(hc i hi).1.1.1) (fun i hi=>(hc i hi).1.1.2) (fun i hi=>(hc i hi).1.2) (fun i hi=>(hc i hi).2) (fun i hi=>xp i (by omega)) (fun i _=> ?_) fun i hi=> ?_
 ·obtain⟨pre,e1⟩:=hp;have Da:∀(f:Nat→AV),(bo.map fun k=>(k,f k)).map (·.1)=bo:=fun f=>by rw[List.map_map];exact List.map_id _
  show bB ((bo.map fun k=>(k,(bB x.1.t k).aP (eg s.h.length p)))++s.t) i=_∨_;rcases Eh (bo.map fun k=>(k,(bB x.1.t k).aP (eg s.h.length p))) s.t i with⟨h1,h2⟩|⟨h1,h2⟩
  ·rw[Da]at h1;rw[h2,oV (fun k=>(bB x.1.t k).aP (eg s.h.length p)),if_pos h1];exact .inl rfl
  ·rw[Da]at h1;show _∨bB ((bo.map fun k=>(k,(bB x.1.t k).aP (eg s.h.length p)))++s.t) i=_;rw[h2];rw[e1,akg,Nat.add_sub_cancel,List.take_left']at hb
   ·rw[e1];rcases Eh pre s.t i with⟨h3,h4⟩|⟨h3,h4⟩
    ·right
     obtain⟨y,hy,rfl⟩:=List.mem_map.1 h3;have:=akF.1 hb y hy;rw[Bool.or_eq_true]at this;rcases this with this|this
     ·exfalso;obtain⟨k,hk,e⟩:=List.any_eq_true.1 this;rw[beq_iff_eq]at e;exact h1 (e▸hk)
     ·generalize bB s.t y.1=z at this;cases z<;>first|rfl|cases this
    ·left
     rw[h4,wg (τ:=id) xp _ (wz i),DY]
   ·rfl
 ·show(bif Bl s.h.length p then x.1.h else qM p q s.h.length x.1.h x.1.h.length 0)[eg s.h.length p i]?=_;cases hid:Bl s.h.length p with
  |true=>rw[YV hid];simp only[cond_true,id];rw[akj hi,Option.map_some,KV]
  |false=>
  simp only[cond_false];rw[Xi,if_pos (Nat.lt_of_succ_le (hc i hi).1.1.1),akz,(hc i hi).1.2,akj hi];rfl
theorem aaj{P:ak6}{ol:ak3 Oper}{as:ak3 (Nat×bZ)}{bo:ak3 Nat}{s:St}{Δ:ak3 (Nat×AV)}{h':ak3 aq}{ps:ak3 (In×bZ)}{m N0:Nat}{K:St→Prop}(h:Gb P ol as bo s=some (List.replicate m (Δ,h',ps)))(b4:fU P ps)(hN:N0≤s.h.length)(wz:∀i,(bB s.t i).aT s.h.length=true)(hK:FZ N0 K)(hk:K ⟨s.n,Δ++s.t,h'⟩):
 mz false P ol.toArray K ol.toArray.size (Array.replicate ol.toArray.size false) s:=by
 unfold Gb at h;obtain⟨hM,h⟩:=mP h;rw[DT,DT]at h;split at h
 ·next ls e1=>
  obtain⟨_,h2,h3⟩:=V6 (s0:=s) hK.c hM s.t _ 0 (Array.replicate ol.toArray.size false) _ _ s ls ⟨by simp,fun i=>by
   rw[Nat.zero_testBit,Array.getD_eq_getD_getElem?,Array.getElem?_replicate];split<;>rfl⟩ (fun j o ho hj=>by
   exfalso;rw[Array.getD_eq_getD_getElem?]at hj;rw[Array.getElem?_replicate]at hj;split at hj<;>simp at hj) e1
  refine h3 fun x hx=> ?_;obtain⟨a,ha,e2⟩:=Te h x hx;rw[List.mem_replicate]at ha;obtain⟨_,rfl⟩:=ha;obtain⟨k1,k2⟩:=adB (P:=P) (ops:=ol.toArray) e2 hN wz ((h2 x hx).2.2 (kx.refl _ _)).n ((h2 x hx).2.1 ⟨[],rfl⟩) b4;exact⟨k2,hK _ _ k1 hk⟩
 ·cases h
section
variable {P:ak6} {r:ak5 Nat} {N0 id n:Nat} {ol:ak3 Oper} {y:Code} {t:ak3 (Nat×AV)} {h:ak3 aq} {Q Q':Exit→St→Prop}
theorem rte(m:Nat)(hm:P.follows .mixedOrders=true)(aW:ak3 (Nat×Ob P))(Δ:ak3 (Nat×AV))(h':ak3 aq)(e:Gb P ol (kg aW) (Δ.map (·.1)) ⟨n,t,h⟩=some (List.replicate m (Δ,h',jC aW)))(k:Q .normal ⟨n,Δ++t,h'⟩):bJ P r N0 (.region id ol.toArray true) Q ⟨n,t,h⟩:=
 ajk hm fun hN wz=>aaj e (xO aW) hN wz (YR _) ⟨_,gp.refl _ _,k⟩
end
theorem xV{f:AV→AV}(hf:∀d,f (.d d)= .d d)(xs:ak3 (ak3 D)):(bq xs).map (·.map f)=bq xs:=by
 unfold bq;rw[List.map_map];refine akK fun c _=> ?_;simp only[Function.comp,List.map_map];exact akK fun d _=>hf d
theorem Fv(xs:ak3 (ak3 D)):(bq xs).length=xs.length:=by unfold bq;rw[akk]
theorem LY{xs:ak3 (ak3 D)}{i:Nat}{c:ak3 D}(h:xs[i]?=some c):(bq xs)[i]?=some (c.map .d):=by unfold bq;rw[akm,h];rfl
theorem Vh(xs:ak3 (ak3 D))(i:Nat)(c:ak3 D):bq (xs.set i c)=(bq xs).set i (c.map .d):=by unfold bq;rw[List.map_set]
theorem ahF(xs ys:ak3 (ak3 D)):bq (xs++ys)=bq xs++bq ys:=by unfold bq;rw[List.map_append]
def aq.ox(m:Nat):aq→aq
 | .vec e k cs=> .vec e k cs
 |B=>B.bA m
def aq.zK:aq→aq
 | .vec e k cs=> .vec e k cs
 |B=>B.nE
def aq.E0(m:Nat):aq→Prop
 | .vec _ _ cs=>cs.map (·.map (AV.bA m))=cs∧cs.all (·.all (AV.aT m))=true
 |_=>True
def gu(m:Nat):ak3 aq→Prop
 |[]=>True
 |B::l=>B.E0 m∧gu m l
section
variable {m:Nat} {l:ak3 aq}
theorem vmN:gu m []:=trivial
theorem Uc(xs:ak3 (ak3 D)):(bq xs).all (·.all (AV.aT m))=true:=by simp [bq,AV.aT]
theorem iL{e k:Nat}{xs:ak3 (ak3 D)}(h:gu m l):gu m (.vec e k (bq xs)::l):=⟨⟨xV (fun d=>by simp [AV.bA]) _,Uc _⟩,h⟩
theorem Y1{e k i:Nat}{xs:ak3 (ak3 D)}{r:ak3 AV}(h1:r.map (AV.bA m)=r)(h2:r.all (AV.aT m)=true)(h:gu m l):gu m (.vec e k ((bq xs).set i r)::l):=by
 refine⟨⟨by rw[List.map_set,xV (fun d=>by simp [AV.bA]),h1],?_⟩,h⟩;rw[akF];intro c hc;rcases List.mem_or_eq_of_mem_set hc with hc|rfl
 ·exact akF.1 (Uc (m:=m) xs) c hc
 ·exact h2
theorem gu.mem:∀{l:ak3 aq},gu m l→∀B∈l,B.E0 m
 |[],_,B,hB=>by cases hB
 |_::_,h,B,hB=>by
  rcases akJ.1 hB with rfl|hB
  ·exact h.1
  ·exact gu.mem h.2 B hB
end
theorem aek{m:Nat}{B:aq}(h:B.E0 m):B.ox m=B.bA m:=by
 cases B with
 |vec e k cs=>simp only[aq.ox,aq.bA];rw[h.1]
 |_=>rfl
theorem aez{m:Nat}{B:aq}(h:B.E0 m)(hl:(B.ox m).tQ m=true):(B.bA m).aT m=true:=by
 cases B with
 |vec e k cs=>simp only[aq.bA,aq.aT];rw[h.1];exact h.2
 |_=>exact hl
theorem UG{G:Gh}{w:ak8}{h:ak3 aq}(hi:bW G w h):bW G w (h.map aq.zK):=by
 have dB:∀n,b6 (h.map aq.zK) G n=b6 h G n:=fun n=>by
  unfold b6;rw[akm];cases h[n]? with
  |none=>rfl
  |some B=>cases B<;>rfl
 have h2:=Pr hi;refine⟨by rw[akk];exact hi.len,hi.z,hi.S,fun n B hB=> ?_,fun m n x hm hn=>hi.inj m n x (by rw[←dB];exact hm) (by rw[←dB];exact hn),hi.gl⟩;rw[akm]at hB;cases h1:h[n]? with
 |none=>rw[h1]at hB;cases hB
 |some B'=>
  rw[h1]at hB;cases hB
  have h3:=h2.cW n B'.nE (by rw[akm,h1];rfl);cases B' with
  |vec e k cs=>exact hi.cW n _ h1
  |_=>exact h3
def ue(kn:ak3 (Nat×Nat))(n:Nat):Nat→ak3 AV→ak3 AV
 |_,[]=>[]
 |i,x::l=>(bif kn.any (fun p=>p.1==n&&p.2==i)then x else x.nrm)::ue kn n (i+1) l
def aq.QV(kn:ak3 (Nat×Nat))(n:Nat):aq→aq
 | .cells cs=> .cells (ue kn n 0 cs)
 |B=>B.zK
def ny(kn:ak3 (Nat×Nat)):Nat→ak3 aq→ak3 aq
 |_,[]=>[]
 |n,B::l=>B.QV kn n::ny kn (n+1) l
theorem XD(kn:ak3 (Nat×Nat))(n:Nat):∀(j:Nat)(cs:ak3 AV),(ue kn n j cs).length=cs.length
 |_,[]=>rfl
 |j,x::l=>by rw[ue,aki,XD kn n (j+1) l,aki]
theorem RL(kn:ak3 (Nat×Nat))(n:Nat):∀(j:Nat)(cs:ak3 AV)(i:Nat)(c':AV),(ue kn n j cs)[i]?=some c'→∃c,cs[i]?=some c∧(c'=c∨c'=c.nrm)
 |_,[],i,c',h=>by simp [ue]at h
 |j,x::l,0,c',h=>by
  simp only[ue,List.getElem?_cons_zero,Option.some.injEq]at h;refine⟨x,rfl,?_⟩;cases hk:kn.any (fun p=>p.1==n&&p.2==j)with
  |true=>rw[hk]at h;exact .inl h.symm
  |false=>rw[hk]at h;exact .inr h.symm
 |j,x::l,i+1,c',h=>by
  simp only[ue,akQ]at h;obtain⟨c,h1,h2⟩:=RL kn n (j+1) l i c' h;exact⟨c,by simpa using h1,h2⟩
theorem Pq(kn:ak3 (Nat×Nat)):∀(j:Nat)(h:ak3 aq)(i:Nat)(B':aq),(ny kn j h)[i]?=some B'→∃B,h[i]?=some B∧B'=B.QV kn (j+i)
 |_,[],i,B',h=>by simp [ny]at h
 |j,B::l,0,B',h=>by simp only[ny,List.getElem?_cons_zero,Option.some.injEq]at h;exact⟨B,rfl,h.symm⟩
 |j,B::l,i+1,B',h=>by
  simp only[ny,akQ]at h;obtain⟨C,h1,h2⟩:=Pq kn (j+1) l i B' h;exact⟨C,by simpa using h1,by rw[h2];congr 1;omega⟩
theorem Xt(kn:ak3 (Nat×Nat)):∀(j:Nat)(h:ak3 aq),(ny kn j h).length=h.length
 |_,[]=>rfl
 |j,B::l=>by rw[ny,aki,Xt kn (j+1) l,aki]
theorem adR{G:Gh}{w:ak8}{h:ak3 aq}(kn:ak3 (Nat×Nat))(hi:bW G w h):bW G w (ny kn 0 h):=by
 have dB:∀n x,b6 (ny kn 0 h) G n=some x→b6 h G n=some x:=fun n x hx=>by
  obtain⟨B',hB,h1⟩:=m4 hx;obtain⟨B,h2,rfl⟩:=Pq kn 0 h n B' hB;rw[dm h2,←h1];cases B<;>rfl
 have h2:=UG hi;refine⟨by rw[Xt];exact hi.len,hi.z,hi.S,fun n B' hB=> ?_,fun m n x hm hn=>hi.inj m n x (dB m x hm) (dB n x hn),hi.gl⟩;obtain⟨B,h1,rfl⟩:=Pq kn 0 h n B' hB;cases B with
 |cells cs=>
  obtain⟨c1,c2,vs,T,c3,c4,c5⟩:=hi.cW n _ h1;refine⟨c1,c2,vs,T,c3,by rw[XD];exact c4,fun i u c hu hc=> ?_⟩;obtain⟨c0,h3,h4|h4⟩:=RL _ _ _ _ _ _ hc
  ·rw[h4];exact c5 i u c0 hu h3
  ·rw[h4];exact(c5 i u c0 hu h3).nrm
 |_=>exact h2.cW n _ (by rw[akm,h1];rfl)
def lz(s:St)(live:ak3 Nat)(m:Nat)(ks:ak3 Nat)(kn:ak3 (Nat×Nat)):ak5 St:=
 bif cf m s.h.length&&(live.all fun k=>((bB s.t k).bA m).aT m)&&(((s.h.take m).map (aq.ox m)).all (aq.tQ m))then some ⟨s.n,live.map fun k=>(k,bif ks.any (·==k)then(bB s.t k).bA m else(bB s.t k).fin m),ny kn 0 ((s.h.take m).map (aq.ox m))⟩else none
theorem Ul{h:ak3 aq}{m:Nat}(hd:gu m (h.take m)):(h.take m).map (aq.ox m)=(h.take m).map (aq.bA m):=akK fun B hB=>aek (hd.mem B hB)
theorem V2{h:ak3 aq}{m:Nat}(hd:gu m (h.take m))(hl:((h.take m).map (aq.ox m)).all (aq.tQ m)=true):((h.take m).map (aq.bA m)).all (aq.aT m)=true:=by
 rw[akF]at hl ⊢;intro B hB;obtain⟨B',h1,rfl⟩:=List.mem_map.1 hB;exact aez (hd.mem B' h1) (hl _ (List.mem_map.2 ⟨B',h1,rfl⟩))
section
variable {P:ak6} {r:ak5 Nat} {n N0:Nat} {G:Gh} {w:ak8} {a:Act} {s s':St} {Q Q':Exit→St→Prop} {live:ak3 Nat} {m:Nat} {ks:ak3 Nat} {kn:ak3 (Nat×Nat)}
theorem cx.lz(hs:cx G w a s)(hd:gu m (s.h.take m))(h:lz s live m ks kn=some s'):cx (G.cut m) w a s':=by
 unfold Go.Proofs.YtpgmcallngdceaaGreatDoor.lz at h;obtain⟨hb,rfl⟩:=dt h;rw[akh,akh]at hb;have hm:=hs.mask (live:=live) ⟨dk.1 hb.1.1,hb.1.2,V2 hd hb.2⟩;refine⟨hs.size,fun i=> ?_,by show bW _ _ (ny kn 0 ((s.h.take m).map (aq.ox m)));rw[Ul hd];exact adR kn hm.inv,hs.df⟩;have:=hm.tmp i
 change aN _ _ _ (bB (live.map fun k=>(k,(bB s.t k).bA m)) i)at this
 rw[oV (fun k=>(bB s.t k).bA m)]at this;show aN _ _ _ (bB (live.map fun k=>(k,bif ks.any (·==k)then(bB s.t k).bA m else(bB s.t k).fin m)) i);rw[oV (fun k=>bif ks.any (·==k)then(bB s.t k).bA m else(bB s.t k).fin m)];split at this
 ·rename_i hi
  rw[if_pos hi];cases ks.any (·==i)with
  |true=>exact this
  |false=>exact this.nrm
 ·rename_i hi;rw[if_neg hi];exact .dead _
theorem CA{c:Code}{ι:Type}(live:ak3 Nat)(m:Nat)(ks:ak3 Nat)(kn:ak3 (Nat×Nat))(st:ι→St)(I:ι→Prop)(μ:ι→Nat)(i0:ι)(hm:N0≤m)(h0:gu m (s.h.take m)∧Go.Proofs.YtpgmcallngdceaaGreatDoor.lz s live m ks kn=some (st i0))(hI:I i0)
 (round:∀i,I i→bJ P r N0 c (gy (fun s'=>∃i',(gu m (s'.h.take m)∧Go.Proofs.YtpgmcallngdceaaGreatDoor.lz s' live m ks kn=some (st i'))∧I i'∧μ i'<μ i) Q) (st i)):bJ P r N0 (.loop c) Q s:=by
 constructor
 intro G w a n hs _;refine NP (fun(i:ι) a' w'=>∃G',I i∧bR N0 G w G' w'∧N0≤G'.N∧cx G' w' a' (st i)) μ i0 ⟨G.cut m,hI,nT _ _ _ _,hm,hs.lz h0.1 h0.2⟩ ?_;rintro i a' w' ⟨G',hi,hE,hN,ck⟩;refine wpIn_mono ((round i hi).run G' w' a' n ck hN) fun e a1 w1 hn=> ?_;obtain⟨G1,s1,iV,eZ,dO,hq⟩:=hn;cases e with
 |normal=>
  obtain⟨i',h1,h2,h3⟩:=hq;exact⟨i',⟨G1.cut m,h2,(hE.trans iV).trans (nT _ _ _ _),hm,dO.lz h1.1 h1.2⟩,h3⟩
 |_=>exact⟨G1,s1,hE.trans iV,eZ,dO,hq⟩
theorem agY{c:Code}(live:ak3 Nat)(m:Nat)(ks:ak3 Nat)(kn:ak3 (Nat×Nat))(hm:N0≤m)(h0:gu m (s.h.take m)∧Go.Proofs.YtpgmcallngdceaaGreatDoor.lz s live m ks kn=some s')(h:bJ P r N0 c Q s'):bJ P r N0 c Q s:=by
 constructor
 intro G w a n hs _;exact wpIn_mono (h.run (G.cut m) w a n (hs.lz h0.1 h0.2) hm) fun _ _ _ hn=>hn.trans (nT N0 G w m)
theorem ads{c y:Code}{ι:Type}(live:ak3 Nat)(m:Nat)(ks:ak3 Nat)(kn:ak3 (Nat×Nat))(st:ι→St)(I:ι→Prop)(hm:N0≤m)(hc:bJ P r N0 c (gy (fun s'=>∃i,(gu m (s'.h.take m)∧Go.Proofs.YtpgmcallngdceaaGreatDoor.lz s' live m ks kn=some (st i))∧I i) Q) s)(hy:∀i,I i→bJ P r N0 y Q' (st i)):bJ P r N0 c (gy (fun s=>bJ P r N0 y Q' s) Q) s:=by
 refine hc.mono fun e s' h=> ?_;cases e with
 |normal=>obtain⟨i,h1,h2⟩:=h;exact agY live m ks kn hm h1 (hy i h2)
 |_=>exact h
end
def Ea(P:ak6)(rs:ak3 ResultVar)(m:Nat)(s:St):ak5 (AV×ak3 aq):=
 match p6 P s rs with
 |some l=>bif cf m s.h.length&&((iE l).bA m).aT m&&(((s.h.take m).map (aq.ox m)).all (aq.tQ m))then some (((iE l).bA m).nrm,((s.h.take m).map (aq.ox m)).map aq.zK)else none
 |none=>none
def RO(P:ak6)(fn:Func)(m:Nat)(R:AV)(H:ak3 aq):Exit→St→Prop
 | .normal,s=>gu m (s.h.take m)∧Ea P fn.results.toList m s=some (R,H)
 | .ret,s=>gu m (s.h.take m)∧Ea P fn.results.toList m s=some (R,H)
 |_,_=>False
theorem Vb{P:ak6}{s:St}{fn:Func}{m:Nat}{R:AV}{H:ak3 aq}(h:gu m (s.h.take m)∧Ea P fn.results.toList m s=some (R,H)):oW P fn m (fun r h'=>r.nrm=R∧h'.map aq.zK=H) s:=by
 obtain⟨hd,h⟩:=h;unfold Ea at h;split at h
 ·next l e=>
  obtain⟨hb,he⟩:=dt h;cases he
  simp only[akh,dk]at hb;exact Dw _ _ _ e ⟨hb.1.1,hb.1.2,V2 hd hb.2,rfl,by rw[Ul hd]⟩
 ·cases h
theorem o9{P:ak6}{s:St}{fn:Func}{m:Nat}{R:AV}{H:ak3 aq}(hd:gu m (s.h.take m))(h:Ea P fn.results.toList m s=some (R,H)):RO P fn m R H .ret s:=⟨hd,h⟩
theorem D9{P:ak6}{f:FuncId}{fn:Func}{c:Code}{args:ak3 AV}{h H:ak3 aq}{R:AV}(m:Nat)(hf:P.funcs[f]?=some fn)(hb:fn.body=some c)(hn:(fn.name== "runtime.NumGoroutine")=false)(hm:h.length≤m)
 (hw:bJ P none h.length c (RO P fn m R H) {n:=args.length+(fn.ntmps-args.length),t:=jR 0 args,h:=h}):bQ P f args h fun r1 h1=>r1=R∧h1=H:=by
 have h0:=zL (P:=P) (f:=f) (args:=args) (h:=h) (K:=fun r h'=>r.nrm=R∧h'.map aq.zK=H) m hf hb hn hm (hw.mono fun e s hq=>by
  cases e with
  |normal=>exact Vb hq
  |ret=>exact Vb hq
  |_=>exact hq.elim)
 refine⟨h0.1,fun G w vs hi hl hr=>(h0.2 G w vs hi hl hr).mono fun e w' hp=> ?_⟩;obtain⟨v,G',x,h',rfl,hE,hN,di,hv,rfl,rfl⟩:=hp;exact⟨v,G',x.nrm,_,rfl,hE,hN,UG di,hv.nrm,rfl,rfl⟩
mutual
def AV.oy(b:Nat):AV→ak3 (Nat×Nat×Nat×Nat)
 | .vec n o len L k=>bif n==b then[(o,len,L,k)]else[]
 | .agg cs=>AV.n3 b cs
 | .bk cs=>AV.n3 b cs
 | .fn _ cs=>AV.n3 b cs
 |_=>[]
def AV.n3(b:Nat):ak3 AV→ak3 (Nat×Nat×Nat×Nat)
 |[]=>[]
 |x::l=>x.oy b++AV.n3 b l
end
mutual
def AV.mlt(b:Nat)(xs:ak3 (ak3 D)):AV→AV
 | .vec n o len L k=>bif n==b then .d (.sl xs)else .vec n o len L k
 | .cQ n i j L k=>bif n==b then .dead else .cQ n i j L k
 | .agg cs=> .agg (AV.lk b xs cs)
 | .bk cs=> .bk (AV.lk b xs cs)
 | .fn f cs=> .fn f (AV.lk b xs cs)
 |x=>x
def AV.lk(b:Nat)(xs:ak3 (ak3 D)):ak3 AV→ak3 AV
 |[]=>[]
 |x::l=>x.mlt b xs::AV.lk b xs l
end
mutual
theorem Mw{b kk:Nat}{xs:ak3 (ak3 D)}:∀x:AV,(∀q∈x.oy b,q=(0,xs.length,xs.length,kk))→x.cw b kk xs=x.mlt b xs
 | .vec n o len L k,h=>by
   unfold AV.cw AV.mlt;unfold AV.oy at h;cases e:n==b with
   |false=>rfl
   |true=>
    rw[e]at h;have:=h _ akl;cases this
    simp
 | .agg cs,h=>by unfold AV.cw AV.mlt;rw[rW cs (by unfold AV.oy at h;exact h)]
 | .bk cs,h=>by unfold AV.cw AV.mlt;rw[rW cs (by unfold AV.oy at h;exact h)]
 | .fn f cs,h=>by unfold AV.cw AV.mlt;rw[rW cs (by unfold AV.oy at h;exact h)]
 | .cQ n i j L k,h=>by unfold AV.cw AV.mlt;rfl
 | .d _,_=>by simp [AV.cw,AV.mlt]
 | .ptr ..,_=>by simp [AV.cw,AV.mlt]
 | .bE ..,_=>by simp [AV.cw,AV.mlt]
 | .own ..,_=>by simp [AV.cw,AV.mlt]
 | .full _,_=>by simp [AV.cw,AV.mlt]
 | .row ..,_=>by simp [AV.cw,AV.mlt]
 | .mp _,_=>by simp [AV.cw,AV.mlt]
 | .cH _,_=>by simp [AV.cw,AV.mlt]
 | .hid _,_=>by simp [AV.cw,AV.mlt]
 | .dead,_=>by simp [AV.cw,AV.mlt]
theorem rW{b kk:Nat}{xs:ak3 (ak3 D)}:∀l:ak3 AV,(∀q∈AV.n3 b l,q=(0,xs.length,xs.length,kk))→AV.nK b kk xs l=AV.lk b xs l
 |[],_=>by simp [AV.nK,AV.lk]
 |x::l,h=>by
  unfold AV.n3 at h;unfold AV.nK AV.lk;rw[Mw x fun q hq=>h q (List.mem_append_left _ hq),rW l fun q hq=>h q (List.mem_append_right _ hq)]
end
inductive jE(b L kk:Nat)(xs:List (List D)):List aq→List aq→Prop
 |nil:jE b L kk xs [] []
 |cells {cs b7:List AV} {l l':List aq} (c:Nat) (h:AV.n3 b cs=List.replicate c (0,L,L,kk)) (e:AV.lk b xs cs=b7) (t:jE b L kk xs l l'):jE b L kk xs (.cells cs::l) (.cells b7::l')
 |jm {e k:Nat} {ys:List (List D)} {l l':List aq} (t:jE b L kk xs l l'):jE b L kk xs (.vec e k (bq ys)::l) (.vec e k (bq ys)::l')
 |row {e k i:Nat} {ys:List (List D)} {cs b7:List AV} {l l':List aq} (c:Nat) (h:AV.n3 b cs=List.replicate c (0,L,L,kk)) (e1:AV.lk b xs cs=b7) (t:jE b L kk xs l l'):jE b L kk xs (.vec e k ((bq ys).set i cs)::l) (.vec e k ((bq ys).set i b7)::l')
 |front {e k n:Nat} {l l':List aq} (t:jE b L kk xs l l'):jE b L kk xs (.front e k n::l) (.front e k n::l')
 |map {kv:List (ByteArray×D)} {l l':List aq} (t:jE b L kk xs l l'):jE b L kk xs (.map kv::l) (.map kv::l')
 |gone {l l':List aq} (t:jE b L kk xs l l'):jE b L kk xs (.gone::l) (.gone::l')
theorem ym{c L kk:Nat}{xs:ak3 (ak3 D)}(hL:xs.length=L){l:ak3 (Nat×Nat×Nat×Nat)}(h:l=List.replicate c (0,L,L,kk)):∀q∈l,q=(0,xs.length,xs.length,kk):=fun q hq=>by
 rw[h,List.mem_replicate]at hq;rw[hq.2,hL]
theorem jE.eq{b L kk:Nat}{xs:ak3 (ak3 D)}(hL:xs.length=L){l l':ak3 aq}(h:jE b L kk xs l l'):l'=l.map (aq.jr (AV.cw b kk xs)):=by
 have hd:∀d,AV.cw b kk xs (.d d)= .d d:=fun d=>by simp [AV.cw]
 induction h with
 |nil=>rfl
 |cells c h e t ih=>rw[akE,←ih,←e];simp only[aq.jr];rw[←pJ,rW _ (ym hL h)]
 |jm t ih=>rw[akE,←ih];simp only[aq.jr];rw[xV hd]
 |row c h e1 t ih=>rw[akE,←ih,←e1];simp only[aq.jr];rw[List.map_set,xV hd,←pJ,rW _ (ym hL h)]
 |front t ih=>rw[akE,←ih];rfl
 |map t ih=>rw[akE,←ih];rfl
 |gone t ih=>rw[akE,←ih];rfl
theorem afu{P:ak6}{r:ak5 Nat}{N0:Nat}{c:Code}{s:St}{Q:Exit→St→Prop}(live:ak3 Nat)(b:Nat)(xs:ak3 (ak3 D)){e k L:Nat}(h':ak3 aq)(c1:Nat)(hb:s.h[b]?=some (.vec e k (bq xs)))(fF:∀c∈xs,c.all D.uf=true)(hL:xs.length=L)
 (ho:(live.flatMap fun i=>(bB s.t i).oy b)=List.replicate c1 (0,L,L,k)) (hh:jE b L k xs s.h h') (K:bJ P r N0 c Q ⟨s.n,live.map (fun i=>(i,(bB s.t i).mlt b xs)),h'.set b .gone⟩):bJ P r N0 c Q s:=by
 constructor
 intro G w a n hs hN;obtain⟨G',hE,e1,ck⟩:=hs.KB xs hb fF;refine wpIn_mono (K.run G' w a n (ck.less rfl (by rw[hh.eq hL]) fun i=> ?_) (by rw[e1];exact hN)) fun _ _ _ hn=>hn.trans (hE.less hN);show bB (live.map (fun i=>(i,(bB s.t i).mlt b xs))) i=bB (s.t.map fun p=>(p.1,p.2.cw b k xs)) i∨_;rw[oV (fun k=>(bB s.t k).mlt b xs),D7 (AV.cw b k xs) (by simp [AV.cw])];split
 ·next hi=>
  left
  refine(Mw _ fun q hq=>ym hL ho q ?_).symm;exact List.mem_flatMap.2 ⟨i,hi,hq⟩
 ·exact .inr rfl
theorem ajg{G:Gh}{w:ak8}{h:ak3 aq}(hi:bW G w h)(e k:Nat):bR G.N G w (G.dL (.slice none 0 0) 0 none) w∧G.N≤(G.dL (.slice none 0 0) 0 none).N∧bW (G.dL (.slice none 0 0) 0 none) w (h++[.vec e k []])∧aN (G.dL (.slice none 0 0) 0 none) w (.slice none 0 0) (.vec h.length 0 0 0 k):=by
 obtain⟨a1,a2⟩:=Pa (w':=w) hi (.vec e k []) (fun _ _=>rfl) (.slice none 0 0) 0 none ⟨fun _ _=>rfl,akq _,rfl,rfl,rfl⟩ (fun _ h=>by cases h)
  ⟨by simp [Gh.dL],Nat.zero_le _,fun c hc=>absurd hc akV, .inl ⟨by simp [Gh.dL],rfl,none,by simp [Gh.dL]⟩⟩
 refine⟨a1,Nat.le_succ _,a2, .vec _ 0 0 0 k (by rw[hi.len];exact ak1 _) ⟨none,0,0,rfl⟩ (Nat.zero_le _) fun _=>⟨akq _,⟨none,0,rfl,akq _,Nat.zero_le _,akq _,fun h=>absurd h (akT _)⟩,fun _ _=> ?_⟩⟩;simp [Gh.dL,hi.len]
section
variable {P:ak6} {r:ak5 Nat} {N0:Nat} {s:St} {Q:Exit→St→Prop} {c:Code}
theorem HJ(t e k:Nat)(hx:bB s.t t= .d (.v (.slice none 0 0)))(h:bJ P r N0 c Q ⟨s.n,(t, .vec s.h.length 0 0 0 k)::s.t,s.h++[.vec e k []]⟩):bJ P r N0 c Q s:=by
 constructor
 intro G w a n hs hN;obtain⟨a1,a2,a3,a4⟩:=ajg hs.inv e k;have hv:=hs.tmp t;rw[hx]at hv;have hv:=hv.val;have ck:cx (G.dL (.slice none 0 0) 0 none) w a ⟨s.n,(t, .vec s.h.length 0 0 0 k)::s.t,s.h++[.vec e k []]⟩:=by
  refine⟨hs.size,fun i=> ?_,a3,hs.df.bo a1⟩;show aN _ _ _ (bB ((t, .vec s.h.length 0 0 0 k)::s.t) i);rw[kN];split
  ·next e=>exact e▸hv▸a4
  ·exact(hs.tmp i).bo a1 a2
 exact wpIn_mono (h.run _ w a n ck (akx hN a2)) fun _ _ _ hn=>hn.trans (a1.less hN)
end
theorem gK{α:Type}{f:α→ak3 D}{E:ak3 α}{L:Nat}(h:E.length=L):(bq (E.map f)).length=L:=by rw[Fv,akk,h]
theorem lB{cs:ak3 (ak3 AV)}{z:Int}{L i:Nat}(h:cs.length=L)(h0:0≤z)(h1:z<(L:Int))(h2:z.toNat=i):cs.length=L∧0≤z∧z<(L:Int)∧i=0+z.toNat:=⟨h,h0,h1,by rw[h2,akz]⟩
theorem CJ{α:Type}{f:α→ak3 D}{E:ak3 α}{L i:Nat}{x:α}(h:E.length=L)(hx:E[i]?=some x):(bq (E.map f)).length=L∧(bq (E.map f))[i]?=some ((f x).map .d):=⟨gK h,LY (by rw[akm,hx];rfl)⟩
theorem vt{α:Type}{f:α→ak3 D}{E:ak3 α}{L i j:Nat}{x y:α}{zs:ak3 AV}(h:E.length=L)(hx:E[i]?=some x)(hy:(f y).map AV.d=fO ((f x).map .d) j zs):(bq (E.map f)).length=L∧(bq (E.map f))[i]?=some ((f x).map .d)∧bq ((E.set i y).map f)=(bq (E.map f)).set i (fO ((f x).map .d) j zs):=
 ⟨gK h,LY (by rw[akm,hx];rfl),by rw[List.map_set,Vh,hy]⟩
theorem afe{α:Type}{f:α→ak3 D}{E ys:ak3 α}{h:ak3 aq}{k L fv L' ct:Nat}{y:AV}(hE:E.length=L)(hy:y.er=some (ys.map f))(hk:∀c∈ys.map f,c.length=k)(hn:ys.length=fv)(hL:L+ys.length=L')(hm:L'≤maxLen)(hb:L'*ct≤140737488355328):
 (bq (E.map f)).length=L∧vU h k y (bq (ys.map f))∧L'=L+(bq (ys.map f)).length∧((0+L+(bq (ys.map f)).length≤L∧L'=L∧bq ((E++ys).map f)=(bq (E.map f)).take (0+L)++bq (ys.map f)++(bq (E.map f)).drop (0+L+(bq (ys.map f)).length))∨(0=0∧L=L∧L'=L+(bq (ys.map f)).length∧bq ((E++ys).map f)=bq (E.map f)++bq (ys.map f)∧L'≤maxLen∧L'*ct≤140737488355328)):=by
 have hl:(bq (ys.map f)).length=ys.length:=by rw[Fv,akk]
 refine⟨gK hE, .inl ⟨_,hy,hk,rfl⟩,by rw[hl,hL], .inr ⟨rfl,rfl,by rw[hl,hL],by rw[List.map_append,ahF],hm,hb⟩⟩
theorem Nk{xs:ak3 (ak3 D)}{h:ak3 aq}{k ct:Nat}{y:AV}(hk:∀c∈xs,c.length=k)(hy:y.er=some xs)(hm:xs.length≤maxLen)(hb:xs.length*ct≤140737488355328):
 ([]:ak3 (ak3 D))=[]∧vU h k y (bq xs)∧bq xs=bq xs∧xs.length=(bq xs).length∧xs.length=(bq xs).length∧xs.length≤maxLen∧xs.length*ct≤140737488355328:=⟨rfl, .inl ⟨xs,hy,hk,rfl⟩,rfl,(Fv xs).symm,(Fv xs).symm,hm,hb⟩
theorem X8{α:Type}{f:α→ak3 D}{E:ak3 α}{L i:Nat}{x:α}(r:ak3 AV)(h:E.length=L)(hx:E[i]?=some x):((bq (E.map f)).set i r).length=L∧((bq (E.map f)).set i r)[i]?=some r:=
 ⟨by rw[List.length_set];exact gK h,by rw[akI (by rw[gK rfl];exact(akf.1 hx).1)]⟩
theorem aic{α:Type}{f:α→ak3 D}{E:ak3 α}{L i:Nat}{r:ak3 AV}(h:E.length=L):((bq (E.map f)).set i r).length=L:=by rw[List.length_set];exact gK h
theorem ai7{α:Type}{f:α→ak3 D}{E:ak3 α}{L i j:Nat}{x:α}{zs r:ak3 AV}(h:E.length=L)(hx:E[i]?=some x)(hy:r=fO ((f x).map .d) j zs):(bq (E.map f)).length=L∧(bq (E.map f))[i]?=some ((f x).map .d)∧(bq (E.map f)).set i r=(bq (E.map f)).set i (fO ((f x).map .d) j zs):=
 ⟨gK h,LY (by rw[akm,hx];rfl),by rw[hy]⟩
theorem aeg{α:Type}{f:α→ak3 D}{E:ak3 α}{i:Nat}{y:α}{r:ak3 AV}(hy:(f y).map AV.d=r):(bq (E.map f)).set i r=bq ((E.set i y).map f):=by rw[←hy,List.map_set,Vh]
theorem ac1{P:ak6}{r:ak5 Nat}{N0:Nat}{c:Code}{s:St}{Q:Exit→St→Prop}(live:ak3 Nat)(b:Nat)(xs ys:ak3 (ak3 D)){e k L:Nat}(h':ak3 aq)(c1:Nat)(hb:s.h[b]?=some (.vec e k (bq xs)))(fF:∀c∈xs,c.all D.uf=true)(hL:xs.length=L)(hy:ys=xs)
 (ho:(live.flatMap fun i=>(bB s.t i).oy b)=List.replicate c1 (0,L,L,k)) (hh:jE b L k ys s.h h') (K:bJ P r N0 c Q ⟨s.n,live.map (fun i=>(i,(bB s.t i).mlt b ys)),h'.set b .gone⟩):bJ P r N0 c Q s:=by
 subst hy;exact afu live b _ h' c1 hb fF hL ho hh K
theorem yq{α:Type}{f:α→ak3 D}(hf:∀x,(f x).all D.uf=true)(E:ak3 α):∀c∈E.map f,c.all D.uf=true:=fun c hc=>by
 obtain⟨x,_,rfl⟩:=List.mem_map.1 hc;exact hf x
theorem yt{α:Type}{f:α→ak3 D}{E:ak3 α}{L:Nat}(h:E.length=L):(E.map f).length=L:=by rw[akk,h]
theorem WX{α:Type}{E:ak3 α}{i:Nat}{x y:α}(h:E[i]?=some x):(E.set i y)[i]?=some y:=by
 rw[akI (akf.1 h).1]
def K9(o:Oper):Bool:=
 match o.op with
 | .call c=>match c.callee with
   | .value _=>false
   |_=>true
 |_=>true
def QI:bZ→Bool
 | .va _=>true
 |_=>false
def IB(o:Oper)(a:bZ):Bool:=na true o||(K9 o&&(iD o|| !QI a))
def JU(as:ak3 (Nat×bZ)):Nat→ak3 Oper→Bool
 |_,[]=>true
 |j,o::l=>IB o (gR as (3*j+1))&&JU as (j+1) l
section
variable {P:ak6} {ops:Array Oper} {o:Oper} {j:Nat} {as:ak3 (Nat×bZ)} {s s1:St} {l:ak3 (In×bZ)} {K:St→Prop}
theorem Zn(hn:K9 o=true)(h:oY P o K s):yn P o K s:=by
 unfold yn;unfold K9 at hn;split
 ·next c fm=>
  rw[fm]at hn;split
  ·next f hc=>simp only[hc]at hn;cases hn
  ·exact h
 ·exact h
theorem WH(h:o6 P false o j as s=some (s1,l))(b4:fU P l)(hK:K s1)(hL:IB o (gR as (3*j+1))=true):yI true P o K s:=by
 unfold o6 at h;simp only[Bool.false_and,cond_false]at h;split at h
 ·next x h' i hr=>
  have fin:OK P i (gR as (3*j+1))→K ((s.wh h').put o.dst x)→yI true P o K s:=fun h1 h2=>by
   unfold IB at hL;rw[Bool.or_eq_true]at hL;unfold Ib at hr;split at hr
   ·next va e=>
    simp only[Bool.false_and,cond_false]at hr;split at hr
    ·next x2 Dg p e2=>
     cases hr
     rcases hL with hL|hL
     ·exfalso;rw[e]at h1;unfold na at hL;simp only[Bool.true_and]at hL;split at hL
      ·next c fm=>
       split at hL
       ·next t hc=>
        rw[fm]at e2;unfold gC at e2;simp only[hc]at e2;cases e2
       ·cases hL
      ·cases hL
     ·rw[e]at h1 hL;simp only[QI,Bool.not_true,Bool.or_false,akh]at hL;cases h1 with|pr _ hp=>exact .inr (.inr (.inl ⟨hL.2,va,x,h',p,e2,hp,h2⟩))
    ·cases hr
   ·rcases hL with hL|hL
    ·exact .inr (.inl ⟨hL,x,h',h2,fun C hC=>Ac hr h1 hC⟩)
    ·rw[akh]at hL;exact .inl (Zn hL.1 (Ac (C:=fun x h'=>K ((s.wh h').put o.dst x)) hr h1 h2))
  split at h
  ·next y hy=>
   obtain⟨m,e,h2,h3⟩:=Gq h b4;cases e
   have:=h2 (.eq x, .eq y) akl;cases this with|eq e=>subst e;exact fin h3 hK
  ·obtain⟨m,e,h2,h3⟩:=Gq h b4;cases e
   exact fin h3 hK
 ·cases h
theorem ag9(h:mo P ops false o j as s=some (s1,l))(b4:fU P l)(hK:K s1)(hL:IB o (gR as (3*j+1))=true):gW ops o s (yI true P o K s) (K (s.put o.dst (.d (.v undef)))):=by
 unfold mo at h;split at h
 ·next hg=>unfold gW;rw[hg];exact WH h b4 hK hL
 ·next g want hg=>
  obtain⟨dst,op,ty,pos,after,guard⟩:=o;simp only at hg;subst hg;split at h
  ·next b hb=>
   obtain⟨n,e,h2,h3⟩:=Az h b4;have h4:=OK.FR (h3 (_,_) akl);rw[Ir,h4];refine⟨fun e2=> ?_,fun e2=> ?_⟩
   ·subst e2;simp only[BEq.rfl,cond_true]at e;exact WH e h2 hK hL
   ·subst e2;have:((!want)==want)=false:=by cases want<;>rfl
    rw[this]at e;simp only[cond_false]at e;cases e
    exact hK
  ·next hb=>
   obtain⟨n,e,h2,h3⟩:=Az h b4;cases e
   have h4:=h3 (_,_) akl;have h5:sN ops g s.t= .d (.v undef):=by
    generalize sN ops g s.t=z at h4;cases h4;rfl
   rw[Ir,h5];exact hK
  ·cases h
theorem SD:∀(ol:ak3 Oper)(j:Nat)(s:St)(l:ak3 (In×bZ)),mu P ops false ol j as s=some (s1,l)→fU P l→JU as j ol=true→K s1→uC true P ops ol K s
 |[],_,s,l,h,_,_,hK=>by cases h;exact hK
 |o::rest,j,s,l,h,b4,hL,hK=>by
  unfold JU at hL;rw[akh]at hL;unfold mu at h;split at h
  ·next s2 m hg=>
   obtain⟨n,e,h2,h3⟩:=Az h b4;exact ag9 (K:=uC true P ops rest K) hg h3 (SD rest (j+1) s2 n e h2 hL.2 hK) hL.1
  ·cases h
theorem Rv:∀(ol pre:ak3 Oper),rS (pre++ol).toArray ((List.range ol.length).map (pre.length+·))=ol
 |[],_=>rfl
 |o::l,pre=>by
  rw[aki,List.range_succ_eq_map,akE,List.map_map];unfold rS;have h1:(pre++o::l).toArray[pre.length+0]?=some o:=by simp
  rw[h1];simp only;have h2:=Rv l (pre++[o]);rw[akw]at h2;simp only[List.singleton_append,akg,aki,akr,akz]at h2
  congr 1
  rw[show(pre.length+·)∘Nat.succ=(pre.length+1+·)from by funext i;simp only[Function.comp];omega];exact h2
theorem abM(ol:ak3 Oper):rS ol.toArray (List.range ol.length)=ol:=by
 have:=Rv ol []
 simpa using this
end
section
variable {P:ak6} {r:ak5 Nat} {N0 id n:Nat} {ol:ak3 Oper} {y:Code} {t:ak3 (Nat×AV)} {h:ak3 aq} {Q Q':Exit→St→Prop}
end
section
variable {P:ak6} {r:ak5 Nat} {N0:Nat} {Q:Exit→St→Prop} {c:Code} {o:Oper} {K:St→Prop}
end
end Go.Proofs.YtpgmcallngdceaaGreatDoor
namespace Go.Proofs.YtpgmcallngdceaaGreatDoor.MK
open Go.RowKit
set_option linter.unusedVariables false
def aq(w:ak8)(g:Nat)(t:TypeId)(cs:ak3 ak7):Prop:=w.heap[g]?=some (.cells cs.toArray t (0,0))
section
variable {w w':ak8} {g:Nat} {t:TypeId} {cs:ak3 ak7}
end
section
variable {P:ak6} (w:ak8)
end
section
variable {P:ak6} {w:ak8}
end
section
variable {S E base:Nat} {w w' w'':ak8}
end
end Go.Proofs.YtpgmcallngdceaaGreatDoor.MK
namespace Go.Proofs.YtpgmcallngdceaaGreatDoor
open Go.RowKit
set_option linter.unusedSimpArgs false
set_option linter.unusedVariables false
section
variable {P:ak6}
end
def H9{α:Type}(x:AV)(k:AV→α):α:=
 match x with
 | .d y=>k (.d y)
 | .agg cs=>k (.agg cs)
 | .bk cs=>k (.bk cs)
 | .ptr n o=>fN n fun n=>fN o fun o=>k (.ptr n o)
 | .own n xs=>fN n fun n=>k (.own n xs)
 | .fn f cs=>k (.fn f cs)
 | .mp n=>fN n fun n=>k (.mp n)
 |x=>k x
theorem Uw{α:Type}(x:AV)(k:AV→α):H9 x k=k x:=by cases x<;>simp [H9,FE]
def fT{α:Type}:ak3 (Nat×AV)→(ak3 (Nat×AV)→α)→α
 |[],k=>k []
 |(d,x)::l,k=>fN d fun d=>H9 x fun x=>fT l fun l=>k ((d,x)::l)
theorem Vs{α:Type}:∀(l:ak3 (Nat×AV))(k:ak3 (Nat×AV)→α),fT l k=k l
 |[],k=>rfl
 |(d,x)::l,k=>by rw[fT,FE,Uw,Vs l]
def fC{α:Type}:ak3 AV→(ak3 AV→α)→α
 |[],k=>k []
 |x::l,k=>H9 x fun x=>fC l fun l=>k (x::l)
theorem Tf{α:Type}:∀(l:ak3 AV)(k:ak3 AV→α),fC l k=k l
 |[],k=>rfl
 |x::l,k=>by rw[fC,Uw,Tf l]
def fH{α:Type}:ak3 aq→(ak3 aq→α)→α
 |[],k=>k []
 | .cells cs::l,k=>fC cs fun cs=>fH l fun l=>k (.cells cs::l)
 | .front e z n::l,k=>fH l fun l=>k (.front e z n::l)
 | .map kv::l,k=>fH l fun l=>k (.map kv::l)
 | .gone::l,k=>fH l fun l=>k (.gone::l)
 |B::l,k=>fH l fun l=>k (B::l)
theorem uj{α:Type}:∀(l:ak3 aq)(k:ak3 aq→α),fH l k=k l
 |[],k=>rfl
 | .cells cs::l,k=>by rw[fH,Tf,uj l]
 | .front e z n::l,k=>by rw[fH,uj l]
 | .map kv::l,k=>by rw[fH,uj l]
 | .gone::l,k=>by rw[fH,uj l]
 | .vec .. ::l,k=>by rw[fH,uj l]<;>simp
 | .lp .. ::l,k=>by rw[fH,uj l]<;>simp
 | .it .. ::l,k=>by rw[fH,uj l]<;>simp
def NZ{α:Type}(s:St)(k:St→α):α:=fN s.n fun n=>fT s.t fun t=>fH s.h fun h=>k ⟨n,t,h⟩
theorem aae{α:Type}(s:St)(k:St→α):NZ s k=k s:=by unfold NZ;rw[FE,Vs,uj]
inductive Fr
 |S (y:Code)
 |B (id:Nat)
 |F (k:Nat) (f:St→Prop)
def fz(P:ak6)(r:ak5 Nat)(N0:Nat)(Q:Exit→St→Prop):ak3 Fr→Exit→St→Prop
 |[]=>Q
 | .S y::K=>gy (fun s=>bJ P r N0 y (fz P r N0 Q K) s) (fz P r N0 Q K)
 | .B id::K=>po id (fz P r N0 Q K)
 | .F _ f::K=>gy f (fz P r N0 Q K)
inductive Md
 |c (c:Code)
 |n
 |x (id:Nat)
inductive WR
 |at (c:Code) (K:List Fr) (s:St)
 |ret (s:St)
 |nrm (s:St)
 |fin (k:Nat) (s:St)
abbrev WO:=ak5 (WR×ak3 (In×bZ))
def Iu(l:ak3 (In×bZ)):WO→WO
 |some (w,m)=>some (w,l++m)
 |none=>none
def la(P:ak6):Nat→Md→ak3 Fr→ak3 (ak3 (Nat×bZ))→St→WO
 |0,_,_,_,_=>none
 |F+1,m,K,A,s=>match m with
  | .n=>match K with
    |[]=>some (.nrm s,[])
    | .S y::K=>la P F (.c y) K A s
    | .B _::K=>la P F .n K A s
    | .F k _::_=>some (.fin k s,[])
  | .x id=>match K with
    |[]=>none
    | .S _::K=>la P F (.x id) K A s
    | .B pz::K=>la P F (bif id==pz then .n else .x id) K A s
    | .F _ _::K=>la P F (.x id) K A s
  | .c c=>match c with
    | .seq a b=>la P F (.c a) (.S b::K) A s
    | .block id b=>la P F (.c b) (.B id::K) A s
    | .skip=>la P F .n K A s
    | .ret=>some (.ret s,[])
    | .exit id=>la P F (.x id) K A s
    | .region id ops dr=>match A with
      |[]=>some (.at (.region id ops dr) K s,[])
      |as::A=>bif !dr||rB ops then match mu P ops dr ops.toList 0 as s with
         |some (s1,l)=>NZ s1 fun s1=>Iu l (la P F .n K A s1)
         |none=>none
       else none
    | .cond o x y=>match A with
      |[]=>some (.at (.cond o x y) K s,[])
      |as::A=>match gR as 0 with
       | .bit b=>Iu [(.bit (ev s o), .bit b)] (la P F (.c (bif b then x else y)) K A s)
       |_=>none
    |c=>match A with
     |[]=>some (.at c K s,[])
     |_=>none
section
variable {P:ak6} {r:ak5 Nat} {N0:Nat} {Q:Exit→St→Prop}
theorem JH:∀(K:ak3 Fr)(s:St),Q .ret s→fz P r N0 Q K .ret s
 |[],_,h=>h
 | .S _::K,s,h=>JH K s h
 | .B _::K,s,h=>JH K s h
 | .F _ _::K,s,h=>JH K s h
def acT(P:ak6)(r:ak5 Nat)(N0:Nat)(Q:Exit→St→Prop)(m:Md)(K:ak3 Fr)(s:St):Prop:=
 match m with
 | .c c=>bJ P r N0 c (fz P r N0 Q K) s
 | .n=>fz P r N0 Q K .normal s
 | .x id=>fz P r N0 Q K (.exit id) s
def Ef(P:ak6)(r:ak5 Nat)(N0:Nat)(Q:Exit→St→Prop)(K0:ak3 Fr):WR→Prop
 | .at c K s=>bJ P r N0 c (fz P r N0 Q K) s
 | .ret s=>Q .ret s
 | .nrm s=>Q .normal s
 | .fin k s=>∀f,Fr.F k f∈K0→f s
theorem Ef.sub{K K':ak3 Fr}(h:∀k f,Fr.F k f∈K'→Fr.F k f∈K):∀{w:WR},Ef P r N0 Q K w→Ef P r N0 Q K' w
 | .at _ _ _,hp=>hp
 | .ret _,hp=>hp
 | .nrm _,hp=>hp
 | .fin k _,hp=>fun f hf=>hp f (h k f hf)
theorem SY{l m:ak3 (In×bZ)}{x:WO}{w:WR}(h:Iu l x=some (w,m))(b4:fU P m):∃n,x=some (w,n)∧fU P n∧fU P l:=by
 unfold Iu at h;split at h
 ·next w' n=>
  cases h
  exact⟨n,rfl,fun p hp=>b4 p (List.mem_append_right _ hp),fun p hp=>b4 p (List.mem_append_left _ hp)⟩
 ·cases h
theorem We(hm:P.follows .mixedOrders=true):∀(F:Nat)(m:Md)(K:ak3 Fr)(A:ak3 (ak3 (Nat×bZ)))(s:St)(w:WR)(l:ak3 (In×bZ)),la P F m K A s=some (w,l)→fU P l→Ef P r N0 Q K w→acT P r N0 Q m K s
 |0,_,_,_,_,_,_,h,_,_=>by simp [la]at h
 |F+1,m,K,A,s,w,l,h,b4,hp=>by
  have ih:=We hm F;have tl:∀{x:Fr}{K:ak3 Fr},∀k f,Fr.F k f∈K→Fr.F k f∈x::K:=fun _ _ h=>ako _ h;have pS:∀{y:Code}{K:ak3 Fr},∀k f,Fr.F k f∈Fr.S y::K→Fr.F k f∈K:=fun k f h=>by
   rcases akJ.1 h with h|h
   ·cases h
   ·exact h
  have pB:∀{y:Nat}{K:ak3 Fr},∀k f,Fr.F k f∈Fr.B y::K→Fr.F k f∈K:=fun k f h=>by
   rcases akJ.1 h with h|h
   ·cases h
   ·exact h
  unfold la at h;cases m with
  |n=>
   cases K with
   |nil=>cases h;exact hp
   |cons x K=>
    cases x with
    |S y=>exact ih (.c y) K _ _ _ _ h b4 (hp.sub tl)
    |B id=>exact ih .n K _ _ _ _ h b4 (hp.sub tl)
    |F k f=>cases h;exact hp _ akl
  |x id=>
   cases K with
   |nil=>cases h
   |cons x K=>
    cases x with
    |S y=>exact ih (.x id) K _ _ _ _ h b4 (hp.sub tl)
    |B pz=>
     show(bif id==pz then fz P r N0 Q K .normal s else fz P r N0 Q K (.exit id) s);simp only at h;cases e:id==pz with
     |true=>rw[e]at h;exact ih .n K _ _ _ _ h b4 (hp.sub tl)
     |false=>rw[e]at h;exact ih (.x id) K _ _ _ _ h b4 (hp.sub tl)
    |F k f=>exact ih (.x id) K _ _ _ _ h b4 (hp.sub tl)
  |c c=>
   simp only at h;split at h
   ·exact bH (ih (.c _) (.S _::K) _ _ _ _ h b4 (hp.sub pS))
   ·exact gO (ih (.c _) (.B _::K) _ _ _ _ h b4 (hp.sub pB))
   ·exact fM (ih .n _ _ _ _ _ h b4 hp)
   ·cases h;exact dU (JH K s hp)
   ·exact pC (ih (.x _) _ _ _ _ _ h b4 hp)
   ·next id ops dr=>
    split at h
    ·cases h;exact hp
    ·next as A=>
     obtain⟨hb,h⟩:=mP h;split at h
     ·next s1 l1 e=>
      rw[aae]at h;obtain⟨n,e2,h2,h3⟩:=SY h b4;have hk:=ih .n _ _ _ _ _ e2 h2 hp;have de:=zY (P:=P) (ops:=ops) (dr:=dr) (K:=fz P r N0 Q K .normal) ops.toList 0 s l1 e h3 hk;cases dr with
      |false=>exact fg de
      |true=>
       have hl:rB ops.toList.toArray=true:=by simpa using hb
       have:=O2 (P:=P) (r:=r) (N0:=N0) (Q:=fz P r N0 Q K) (s:=s) (id:=id) (l:=ops.toList) hm hl (by simpa using de);show bJ P r N0 (.region id ops true) (fz P r N0 Q K) s
       simpa using this
     ·cases h
   ·next o x y=>
    split at h
    ·cases h;exact hp
    ·next as A=>
     split at h
     ·next b e=>
      obtain⟨n,e2,h2,h3⟩:=SY h b4;have h4:=OK.FR (h3 (_,_) akl);have hk:=ih (.c _) _ _ _ _ _ e2 h2 hp;exact O5 h4 (fun e=>by subst e;exact hk) (fun e=>by subst e;exact hk)
     ·cases h
   ·split at h
    ·cases h;exact hp
    ·cases h
end
def wK:WO→ak3 Fr
 |some (.at _ K _,_)=>K
 |_=>[]
def wS:WO→St
 |some (.at _ _ s,_)=>s
 |_=>⟨0,[],[]⟩
def kM(k:Nat):ak3 Fr→ak3 (St→Prop)
 |[]=>[]
 | .F k' f::K=>bif k'==k then f::kM k K else kM k K
 |_::K=>kM k K
theorem BD{k:Nat}{f:St→Prop}:∀{K:ak3 Fr},Fr.F k f∈K→f∈kM k K
 |[],h=>by cases h
 | .S _::K,h=>by
   rcases akJ.1 h with h|h
   ·cases h
   ·exact BD (K:=K) h
 | .B _::K,h=>by
   rcases akJ.1 h with h|h
   ·cases h
   ·exact BD (K:=K) h
 | .F k' g::K,h=>by
   rcases akJ.1 h with h|h
   ·cases h;simp [kM]
   ·unfold kM;cases k'==k with
    |true=>exact ako _ (BD h)
    |false=>exact BD h
def vB:WO→ak5 (ak3 (In×bZ))
 |some (.at _ _ _,l)=>some l
 |_=>none
def tG(live:ak3 Nat)(m:Nat):WO→ak5 (St×ak3 (In×bZ))
 |some (.at (.loop _) _ s,l)=>(iu s live m).map (·,l)
 |_=>none
def Qt(live:ak3 Nat)(m:Nat)(ks:ak3 Nat)(kn:ak3 (Nat×Nat)):WO→ak5 (St×ak3 (In×bZ))
 |some (.at (.loop _) _ s,l)=>(lz s live m ks kn).map (·,l)
 |_=>none
def uQ:WO→ak5 (ak3 (In×bZ))
 |some (.at _ (.S _::_) _,l)=>some l
 |_=>none
def ud(k:Nat)(live:ak3 Nat)(m:Nat):WO→ak5 (St×ak3 (In×bZ))
 |some (.fin k' s,l)=>bif k'==k then(iu s live m).map (·,l)else none
 |_=>none
def JX(k:Nat)(live:ak3 Nat)(m:Nat)(ks:ak3 Nat)(kn:ak3 (Nat×Nat)):WO→ak5 (St×ak3 (In×bZ))
 |some (.fin k' s,l)=>bif k'==k then(lz s live m ks kn).map (·,l)else none
 |_=>none
def ML(P:ak6)(rs:ak3 ResultVar):WO→ak5 (AV×ak3 (In×bZ))
 |some (.ret s,l)=>(wo P rs s).map (·,l)
 |some (.nrm s,l)=>(wo P rs s).map (·,l)
 |_=>none
def Mb(P:ak6)(rs:ak3 ResultVar)(m:Nat):WO→ak5 ((AV×ak3 aq)×ak3 (In×bZ))
 |some (.ret s,l)=>(xm P rs m s).map (·,l)
 |some (.nrm s,l)=>(xm P rs m s).map (·,l)
 |_=>none
def A2:ak3 Fr→ak5 (Code×ak3 Fr)
 | .S y::K=>some (y,K)
 | .B _::K=>A2 K
 |_=>none
def Ow(P:ak6)(bo:ak3 Nat)(as:ak3 (Nat×bZ)):WO→ak5 (ak3 (Nat×AV)×ak3 aq×ak3 (In×bZ))
 |some (.at (.region _ ops dr) K s,_)=>bif (!dr||rB ops)&&(A2 K).isSome then od P dr ops.toList as bo s else none
 |_=>none
def og(k:Nat)(f:St→Prop)(s:St):WO→WO
 |some (.at (.loop b) K _,_)=>some (.at b (.F k f::K) s,[])
 |_=>none
def Bv(k:Nat)(f:St→Prop):WO→WO
 |some (.at c (.S _::K) s,_)=>some (.at c (.F k f::K) s,[])
 |_=>none
def EK(s:St):WO→WO
 |some (.at _ (.S y::K) _,_)=>some (.at y K s,[])
 |_=>none
def tc(Δ:ak3 (Nat×AV))(h':ak3 aq):WO→WO
 |some (.at _ K s,_)=>match A2 K with
  |some (y,K')=>some (.at y K' ⟨s.n,Δ++s.t,h'⟩,[])
  |none=>none
 |_=>none
def GH(f:St→St):WO→WO
 |some (.at c K s,l)=>some (.at c K (f s),l)
 |_=>none
def V1:Nat:=4000
def wk(P:ak6)(w:WO)(aW:ak3 (ak3 (Nat×Ob P))):WO:=
 match w with
 |some (.at c K s,_)=>la P V1 (.c c) K (aW.map kg) s
 |_=>none
def fp{P:ak6}(aW:ak3 (ak3 (Nat×Ob P))):ak3 (In×bZ):=aW.flatMap jC
theorem ace{P:ak6}(aW:ak3 (ak3 (Nat×Ob P))):fU P (fp aW):=fun p hp=>by
 obtain⟨l,_,h⟩:=List.mem_flatMap.1 hp;exact xO l p h
theorem pV{α β:Type}{x:ak5 α}{l:β}{y:α}{m:β}(h:x.map (·,l)=some (y,m)):x=some y∧l=m:=by
 cases x with
 |none=>cases h
 |some z=>cases h;exact⟨rfl,rfl⟩
def Af(P:ak6)(r:ak5 Nat)(N0:Nat)(Q:Exit→St→Prop):WO→Prop
 |some (.at c K s,_)=>bJ P r N0 c (fz P r N0 Q K) s
 |_=>True
structure GW(P:Program)(r:Option Nat)(N0:Nat)(Q:Exit→St→Prop)(w:WO):Prop where
 run:Af P r N0 Q w
section
variable {P:ak6} {r:ak5 Nat} {N0:Nat} {Q:Exit→St→Prop} {w0:WO}
theorem lP{aW:ak3 (ak3 (Nat×Ob P))}(hm:P.follows .mixedOrders=true){w:WR}(e:wk P w0 aW=some (w,fp aW))(hp:∀K,(∀k f,Fr.F k f∈K→Fr.F k f∈wK w0)→Ef P r N0 Q K w):GW P r N0 Q w0:=by
 constructor
 unfold wk at e;split at e
 ·next c K s l=>exact We hm V1 (.c c) K _ s w _ e (ace aW) (hp K fun k f h=>h)
 ·cases e
theorem au(hm:P.follows .mixedOrders=true)(aW:ak3 (ak3 (Nat×Ob P)))(k:GW P r N0 Q (wk P w0 aW))(e:vB (wk P w0 aW)=some (fp aW):=by kernel_rfl):GW P r N0 Q w0:=by
 generalize hw:wk P w0 aW=w at e k;unfold vB at e;split at e
 ·cases e;exact lP hm hw fun K _=>k.run
 ·cases e
theorem agc(hm:P.follows .mixedOrders=true){fn:Func}{R:AV}(aW:ak3 (ak3 (Nat×Ob P)))(e:ML P fn.results.toList (wk P w0 aW)=some (R,fp aW)):GW P r N0 (yS P fn R) w0:=by
 generalize hw:wk P w0 aW=w at e;unfold ML at e;split at e
 ·obtain⟨e1,rfl⟩:=pV e;exact lP hm hw fun K _=>e1
 ·obtain⟨e1,rfl⟩:=pV e;exact lP hm hw fun K _=>e1
 ·cases e
theorem abl(hm:P.follows .mixedOrders=true){fn:Func}{m:Nat}{R:AV}{H:ak3 aq}(aW:ak3 (ak3 (Nat×Ob P)))(e:Mb P fn.results.toList m (wk P w0 aW)=some ((R,H),fp aW)):GW P r N0 (zQ P fn m R H) w0:=by
 generalize hw:wk P w0 aW=w at e;unfold Mb at e;split at e
 ·obtain⟨e1,rfl⟩:=pV e;exact lP hm hw fun K _=>e1
 ·obtain⟨e1,rfl⟩:=pV e;exact lP hm hw fun K _=>e1
 ·cases e
theorem wr(hm:P.follows .mixedOrders=true){fn:Func}{R:AV}(aW:ak3 (ak3 (Nat×Ob P)))(e:ML P fn.results.toList (wk P w0 aW)=some (R,fp aW):=by kernel_rfl):GW P r N0 (yS P fn R) w0:=agc hm aW e
theorem cK(hm:P.follows .mixedOrders=true){fn:Func}{m:Nat}{R:AV}{H:ak3 aq}(aW:ak3 (ak3 (Nat×Ob P)))(e:Mb P fn.results.toList m (wk P w0 aW)=some ((R,H),fp aW):=by kernel_rfl):GW P r N0 (zQ P fn m R H) w0:=abl hm aW e
structure I1{ι:Type}(k:Nat)(live:List Nat)(m:Nat)(st:ι→St)(I:ι→Prop)(μ:ι→Nat)(i0:ι)(f:St→Prop):Prop where
 h:∀s' i',iu s' live m=some (st i')→I i'→μ i'<μ i0→f s'
structure T2{ι:Type}(k:Nat)(live:List Nat)(m:Nat)(ks:List Nat)(kn:List (Nat×Nat))(st:ι→St)(I:ι→Prop)(μ:ι→Nat)(i0:ι)(f:St→Prop):Prop where
 h:∀s' i',gu m (s'.h.take m)→lz s' live m ks kn=some (st i')→I i'→μ i'<μ i0→f s'
structure Cr{ι:Type}(k:Nat)(live:List Nat)(m:Nat)(st:ι→St)(I:ι→Prop)(f:St→Prop):Prop where
 h:∀s' i',iu s' live m=some (st i')→I i'→f s'
structure RB{ι:Type}(k:Nat)(live:List Nat)(m:Nat)(ks:List Nat)(kn:List (Nat×Nat))(st:ι→St)(I:ι→Prop)(f:St→Prop):Prop where
 h:∀s' i',gu m (s'.h.take m)→lz s' live m ks kn=some (st i')→I i'→f s'
theorem FV(hm:P.follows .mixedOrders=true){k:Nat}{s1:St}{f:St→Prop}(aW:ak3 (ak3 (Nat×Ob P)))(e1:kM k (wK w0)=[f])(e:wk P w0 aW=some (.fin k s1,fp aW))(hf:f s1):GW P r N0 Q w0:=
 lP hm e fun K hK g hg=>by
  have:=BD (hK k g hg);rw[e1,List.mem_singleton]at this;subst this;exact hf
theorem B4(hm:P.follows .mixedOrders=true){ι:Type}{live:ak3 Nat}{m k:Nat}{st:ι→St}{I:ι→Prop}{μ:ι→Nat}{i0:ι}{f:St→Prop}(hf:I1 k live m st I μ i0 f)(i:ι)(aW:ak3 (ak3 (Nat×Ob P)))(hI:I i)(hμ:μ i<μ i0:=by exact ak1 _)(e1:kM k (wK w0)=[f]:=by kernel_rfl)(e:ud k live m (wk P w0 aW)=some (st i,fp aW):=by kernel_rfl):GW P r N0 Q w0:=by
 generalize hw:wk P w0 aW=w at e;unfold ud at e;split at e
 ·next k' s' l=>
  obtain⟨hb,e⟩:=mP e;obtain⟨e2,rfl⟩:=pV e;rw[beq_iff_eq]at hb;subst hb;exact FV hm aW e1 hw (hf.h _ i e2 hI hμ)
 ·cases e
def sI:ak3 aq→ak3 (ak3 (ak3 AV))
 |[]=>[]
 | .vec _ _ cs::l=>cs::sI l
 |_::l=>sI l
structure VE(m:Nat) where
 x:List (List AV)
 ok:∀e k,(aq.vec e k x).E0 m
def VE.jm{m:Nat}(xs:ak3 (ak3 D)):VE m:=⟨bq xs,fun _ _=>(iL (m:=m) (l:=[]) vmN).1⟩
def VE.row{m:Nat}(xs:ak3 (ak3 D))(i:Nat)(r:ak3 AV)(h1:r.map (AV.bA m)=r:=by kernel_rfl)(h2:r.all (AV.aT m)=true:=by kernel_rfl):VE m:=⟨(bq xs).set i r,fun _ _=>(Y1 (m:=m) (l:=[]) h1 h2 vmN).1⟩
theorem ET{m:Nat}:∀(l:ak3 aq)(iT:ak3 (VE m)),sI l=iT.map VE.x→gu m l
 |[],_,_=>vmN
 |B::l,iT,h=>by
  cases B with
  |vec e k cs=>
   cases iT with
   |nil=>cases h
   |cons v vs=>
    have h1:cs=v.x:=(List.cons.inj h).1;subst h1;exact⟨v.ok e k,ET l vs (List.cons.inj h).2⟩
  |_=>exact⟨trivial,ET l iT h⟩
def Pj(m:Nat):WO→ak3 (ak3 (ak3 AV))
 |some (.fin _ s,_)=>sI (s.h.take m)
 |some (.at _ _ s,_)=>sI (s.h.take m)
 |_=>[]
theorem ni(hm:P.follows .mixedOrders=true){ι:Type}{live:ak3 Nat}{m k:Nat}{ks:ak3 Nat}{kn:ak3 (Nat×Nat)}{st:ι→St}{I:ι→Prop}{μ:ι→Nat}{i0:ι}{f:St→Prop}(hf:T2 k live m ks kn st I μ i0 f)(i:ι)(aW:ak3 (ak3 (Nat×Ob P)))(hI:I i)(hμ:μ i<μ i0:=by exact ak1 _)(e1:kM k (wK w0)=[f]:=by kernel_rfl)(iT:ak3 (VE m):=[])(e0:Pj m (wk P w0 aW)=iT.map VE.x:=by kernel_rfl)(e:JX k live m ks kn (wk P w0 aW)=some (st i,fp aW):=by kernel_rfl):GW P r N0 Q w0:=by
 generalize hw:wk P w0 aW=w at e e0;unfold JX at e;split at e
 ·next k' s' l=>
  obtain⟨hb,e⟩:=mP e;obtain⟨e2,rfl⟩:=pV e;rw[beq_iff_eq]at hb;subst hb;exact FV hm aW e1 hw (hf.h _ i (ET _ iT e0) e2 hI hμ)
 ·cases e
theorem bP(hm:P.follows .mixedOrders=true){ι:Type}{live:ak3 Nat}{m k:Nat}{st:ι→St}{I:ι→Prop}{f:St→Prop}(hf:Cr k live m st I f)(i:ι)(aW:ak3 (ak3 (Nat×Ob P)))(hI:I i)(e1:kM k (wK w0)=[f]:=by kernel_rfl)(e:ud k live m (wk P w0 aW)=some (st i,fp aW):=by kernel_rfl):GW P r N0 Q w0:=by
 generalize hw:wk P w0 aW=w at e;unfold ud at e;split at e
 ·next k' s' l=>
  obtain⟨hb,e⟩:=mP e;obtain⟨e2,rfl⟩:=pV e;rw[beq_iff_eq]at hb;subst hb;exact FV hm aW e1 hw (hf.h _ i e2 hI)
 ·cases e
theorem Om(hm:P.follows .mixedOrders=true){ι:Type}(k:Nat)(aW:ak3 (ak3 (Nat×Ob P)))(live:ak3 Nat)(m:Nat)(st:ι→St)(I:ι→Prop)(μ:ι→Nat)(i0:ι)(hI:I i0)
 (body:∀i,I i→∀f:St→Prop,I1 k live m st I μ i f→GW P r N0 Q (og k f (st i) (wk P w0 aW)))
 (hN:N0≤m:=by exact akn rfl) (e:tG live m (wk P w0 aW)=some (st i0,fp aW):=by kernel_rfl):GW P r N0 Q w0:=by
 generalize hw:wk P w0 aW=w at e body;unfold tG at e;split at e
 ·next b K' s' l=>
  obtain⟨e2,rfl⟩:=pV e;refine lP hm hw fun K _=> ?_;refine adz live m st I μ i0 hN e2 hI fun i hi=> ?_;exact(body i hi _ ⟨fun s' i' h1 h2 h3=>⟨i',h1,h2,h3⟩⟩).run
 ·cases e
theorem pP(hm:P.follows .mixedOrders=true){ι:Type}(k:Nat)(aW:ak3 (ak3 (Nat×Ob P)))(live:ak3 Nat)(m:Nat)(ks:ak3 Nat)(kn:ak3 (Nat×Nat))(st:ι→St)(I:ι→Prop)(μ:ι→Nat)(i0:ι)(hI:I i0)
 (body:∀i,I i→∀f:St→Prop,T2 k live m ks kn st I μ i f→GW P r N0 Q (og k f (st i) (wk P w0 aW)))
 (hN:N0≤m:=by exact akn rfl) (iT:ak3 (VE m):=[]) (e0:Pj m (wk P w0 aW)=iT.map VE.x:=by kernel_rfl) (e:Qt live m ks kn (wk P w0 aW)=some (st i0,fp aW):=by kernel_rfl):GW P r N0 Q w0:=by
 generalize hw:wk P w0 aW=w at e e0 body;unfold Qt at e;split at e
 ·next b K' s' l=>
  obtain⟨e2,rfl⟩:=pV e;refine lP hm hw fun K _=> ?_;refine CA live m ks kn st I μ i0 hN ⟨ET _ iT e0,e2⟩ hI fun i hi=> ?_;exact(body i hi _ ⟨fun s' i' h0 h1 h2 h3=>⟨i',⟨h0,h1⟩,h2,h3⟩⟩).run
 ·cases e
theorem Jl(hm:P.follows .mixedOrders=true){ι:Type}(k:Nat)(aW:ak3 (ak3 (Nat×Ob P)))(live:ak3 Nat)(m:Nat)(st:ι→St)(I:ι→Prop)
 (br:∀f:St→Prop,Cr k live m st I f→GW P r N0 Q (Bv k f (wk P w0 aW)))
 (rest:∀i,I i→GW P r N0 Q (EK (st i) (wk P w0 aW))) (hN:N0≤m:=by exact akn rfl) (e:uQ (wk P w0 aW)=some (fp aW):=by kernel_rfl):GW P r N0 Q w0:=by
 generalize hw:wk P w0 aW=w at e br rest;unfold uQ at e;split at e
 ·cases e
  refine lP hm hw fun K _=> ?_;exact adj live m st I hN (br _ ⟨fun s' i' h1 h2=>⟨i',h1,h2⟩⟩).run fun i hi=>(rest i hi).run
 ·cases e
theorem lM(hm:P.follows .mixedOrders=true){ι:Type}{live:ak3 Nat}{m k:Nat}{ks:ak3 Nat}{kn:ak3 (Nat×Nat)}{st:ι→St}{I:ι→Prop}{f:St→Prop}(hf:RB k live m ks kn st I f)(i:ι)(aW:ak3 (ak3 (Nat×Ob P)))(hI:I i)(iT:ak3 (VE m):=[])(e0:Pj m (wk P w0 aW)=iT.map VE.x:=by kernel_rfl)(e1:kM k (wK w0)=[f]:=by kernel_rfl)(e:JX k live m ks kn (wk P w0 aW)=some (st i,fp aW):=by kernel_rfl):GW P r N0 Q w0:=by
 generalize hw:wk P w0 aW=w at e e0;unfold JX at e;split at e
 ·next k' s' l=>
  obtain⟨hb,e⟩:=mP e;obtain⟨e2,rfl⟩:=pV e;rw[beq_iff_eq]at hb;subst hb;exact FV hm aW e1 hw (hf.h _ i (ET _ iT e0) e2 hI)
 ·cases e
theorem EL(hm:P.follows .mixedOrders=true){ι:Type}(k:Nat)(aW:ak3 (ak3 (Nat×Ob P)))(live:ak3 Nat)(m:Nat)(ks:ak3 Nat)(kn:ak3 (Nat×Nat))(st:ι→St)(I:ι→Prop)
 (br:∀f:St→Prop,RB k live m ks kn st I f→GW P r N0 Q (Bv k f (wk P w0 aW)))
 (rest:∀i,I i→GW P r N0 Q (EK (st i) (wk P w0 aW))) (hN:N0≤m:=by exact akn rfl) (e:uQ (wk P w0 aW)=some (fp aW):=by kernel_rfl):GW P r N0 Q w0:=by
 generalize hw:wk P w0 aW=w at e br rest;unfold uQ at e;split at e
 ·cases e
  refine lP hm hw fun K _=> ?_;exact ads live m ks kn st I hN (br _ ⟨fun s' i' h0 h1 h2=>⟨i',⟨h0,h1⟩,h2⟩⟩).run fun i hi=>(rest i hi).run
 ·cases e
theorem JD:∀{K:ak3 Fr}{y:Code}{K':ak3 Fr}{s:St},A2 K=some (y,K')→bJ P r N0 y (fz P r N0 Q K') s→fz P r N0 Q K .normal s
 |[],_,_,_,h,_=>by cases h
 | .S y::K,_,_,_,h,k=>by cases h;exact k
 | .B _::K,_,_,s,h,k=>JD (K:=K) (s:=s) h k
 | .F _ _::K,_,_,_,h,_=>by cases h
theorem Za(hm:P.follows .mixedOrders=true)(Δ:ak3 (Nat×AV))(h':ak3 aq)(e:∃aW:ak3 (Nat×Ob P),Ow P (Δ.map (·.1)) (kg aW) (wk P w0 [])=some (Δ,h',jC aW))(k:GW P r N0 Q (tc Δ h' (wk P w0 [])))(e0:vB (wk P w0 [])=some []:=by kernel_rfl):GW P r N0 Q w0:=by
 generalize hw:wk P w0 []=w at e k e0;obtain⟨aW,e⟩:=e;unfold Ow at e;split at e
 ·next id ops dr K' s' l=>
  obtain⟨hb,e⟩:=mP e;rw[akh]at hb;cases e0
  refine lP hm hw fun K _=> ?_;obtain⟨s1,h1,h2,h3,h4⟩:=Gy e;obtain⟨p,hp⟩:=Option.isSome_iff_exists.1 hb.2;obtain⟨y,K2⟩:=p;have hk:fz P r N0 Q K' .normal s1:=by
   refine JD hp (Gl (s:=s1) (s':=⟨s'.n,Δ++s'.t,h'⟩) h2.symm h3.symm h4 ?_);have k:=k.run;simp only[tc,hp]at k;exact k
  show bJ P r N0 (.region id ops dr) (fz P r N0 Q K') s';have de:=zY (P:=P) (ops:=ops.toList.toArray) (dr:=dr) (K:=fz P r N0 Q K' .normal) ops.toList 0 s' _ h1 (xO aW) hk;cases dr with
  |false=>exact fg (by simpa using de)
  |true=>
   have hl:rB ops.toList.toArray=true:=by simpa using hb.1
   have:=O2 (P:=P) (r:=r) (N0:=N0) (Q:=fz P r N0 Q K') (s:=s') (id:=id) (l:=ops.toList) hm hl (by simpa using de)
   simpa using this
 ·cases e
def Oz(P:ak6)(bo:ak3 Nat)(as:ak3 (Nat×bZ)):WO→ak5 (ak3 (ak3 (Nat×AV)×ak3 aq×ak3 (In×bZ)))
 |some (.at (.region _ ops true) K s,_)=>bif (A2 K).isSome then Gb P ops.toList as bo s else none
 |_=>none
theorem mq(m:Nat)(hm:P.follows .mixedOrders=true)(Δ:ak3 (Nat×AV))(h':ak3 aq)(e:∃aW:ak3 (Nat×Ob P),Oz P (Δ.map (·.1)) (kg aW) (wk P w0 [])=some (List.replicate m (Δ,h',jC aW)))(k:GW P r N0 Q (tc Δ h' (wk P w0 [])))(e0:vB (wk P w0 [])=some []:=by kernel_rfl):GW P r N0 Q w0:=by
 generalize hw:wk P w0 []=w at e k e0;obtain⟨aW,e⟩:=e;unfold Oz at e;split at e
 ·next id ops K' s' l=>
  obtain⟨hb,e⟩:=mP e;cases e0
  refine lP hm hw fun K _=> ?_;obtain⟨p,hp⟩:=Option.isSome_iff_exists.1 hb;obtain⟨y,K2⟩:=p;show bJ P r N0 (.region id ops true) (fz P r N0 Q K') s';have:=rte (r:=r) (N0:=N0) (Q:=fz P r N0 Q K') (id:=id) (ol:=ops.toList) (n:=s'.n) (t:=s'.t) (h:=s'.h) m hm aW Δ h' e (JD hp (by
   have k:=k.run;simp only[tc,hp]at k;exact k))
  simpa using this
 ·cases e
def S6(P:ak6)(bo:ak3 Nat)(as:ak3 (Nat×bZ)):WO→ak5 (ak3 (Nat×AV)×ak3 aq×ak3 (In×bZ))
 |some (.at (.region _ ops true) K s,_)=>bif (A2 K).isSome&&H8 true ops (List.range ops.toList.length)&&JU as 0 ops.toList then od P false ops.toList as bo s else none
 |_=>none
theorem K7(hm:P.follows .mixedOrders=true)(aW:ak3 (Nat×Ob P))(Δ:ak3 (Nat×AV))(h':ak3 aq)(k:GW P r N0 Q (tc Δ h' (wk P w0 [])))(e:S6 P (Δ.map (·.1)) (kg aW) (wk P w0 [])=some (Δ,h',jC aW):=by kernel_rfl)(e0:vB (wk P w0 [])=some []:=by kernel_rfl):GW P r N0 Q w0:=by
 generalize hw:wk P w0 []=w at e k e0;unfold S6 at e;split at e
 ·next id ops K' s' l=>
  obtain⟨hb,e⟩:=mP e;rw[akh,akh]at hb;cases e0
  refine lP hm hw fun K _=> ?_;obtain⟨p,hp⟩:=Option.isSome_iff_exists.1 hb.1.1;obtain⟨y,K2⟩:=p;show bJ P r N0 (.region id ops true) (fz P r N0 Q K') s';have hk:bJ P r N0 y (fz P r N0 Q K2) ⟨s'.n,Δ++s'.t,h'⟩:=by
   have k:=k.run;simp only[tc,hp]at k;exact k
  obtain⟨s1,h1,h2,h3,h4⟩:=Gy e;have GJ:fz P r N0 Q K' .normal s1:=JD hp (Gl (s:=s1) (s':=⟨s'.n,Δ++s'.t,h'⟩) h2.symm h3.symm h4 hk);have hl:H8 true ops.toList.toArray (List.range ops.toList.length)=true:=by simpa using hb.1.2
  have:bJ P r N0 (.region id ops.toList.toArray true) (fz P r N0 Q K') s':=by
   refine afq (m:=true) (List.range ops.toList.length) hm (by simp) hl ?_;rw[abM];exact SD ops.toList 0 _ _ h1 (xO aW) hb.2 GJ
  simpa using this
 ·cases e
def Pl(b:Nat):aq→ak3 (Nat×Nat×Nat×Nat)
 | .cells cs=>AV.n3 b cs
 | .lp .. =>[(1,0,0,0)]
 | .it .. =>[(1,0,0,0)]
 |_=>[]
structure VM(b L kk:Nat)(ys:List (List D)) where
 x:List (List AV)
 y:List (List AV)
 ok:ys.length=L→y=x.map (·.map (AV.cw b kk ys))
def VM.jm{b L kk:Nat}{ys:ak3 (ak3 D)}(zs:ak3 (ak3 D)):VM b L kk ys:=⟨bq zs,bq zs,fun _=>(xV (fun d=>by simp [AV.cw]) zs).symm⟩
def VM.rw{b L kk:Nat}{ys:ak3 (ak3 D)}(zs:ak3 (ak3 D))(i:Nat)(cs b7:ak3 AV)(c:Nat)(h:AV.n3 b cs=List.replicate c (0,L,L,kk):=by kernel_rfl)(e:AV.lk b ys cs=b7:=by kernel_rfl):VM b L kk ys:=
 ⟨(bq zs).set i cs,(bq zs).set i b7,fun hL=>by rw[List.map_set,xV (fun d=>by simp [AV.cw]),←pJ,rW _ (ym hL h),e]⟩
def VM.row{b L kk:Nat}{ys:ak3 (ak3 D)}{α:Type}(f:α→ak3 D)(E:ak3 α)(i:Nat)(cs:ak3 AV)(y:α)(c:Nat)(h:AV.n3 b cs=List.replicate c (0,L,L,kk):=by kernel_rfl)(e:AV.lk b ys cs=(f y).map AV.d:=by kernel_rfl):VM b L kk ys:=
 ⟨(bq (E.map f)).set i cs,bq ((E.set i y).map f),fun hL=>by
   have h1:((bq (E.map f)).set i cs).map (·.map (AV.cw b kk ys))=(bq (E.map f)).set i (cs.map (AV.cw b kk ys)):=by rw[List.map_set,xV (fun d=>by simp [AV.cw])]
   have h2:cs.map (AV.cw b kk ys)=(f y).map AV.d:=by rw[←pJ,rW _ (ym hL h),e]
   rw[h1,h2];exact(aeg rfl).symm⟩
def qY(b:Nat)(ys:ak3 (ak3 D)):ak3 aq→ak3 (ak3 (ak3 AV))→ak3 aq
 |[],_=>[]
 |B::l,vs=>match B with
  | .vec e k cs=>match vs with
    |v::vs=> .vec e k v::qY b ys l vs
    |[]=> .vec e k cs::qY b ys l []
  | .cells cs=> .cells (AV.lk b ys cs)::qY b ys l vs
  |B=>B::qY b ys l vs
theorem Sw{b L kk:Nat}{ys:ak3 (ak3 D)}(hL:ys.length=L):∀(h:ak3 aq)(vs:ak3 (VM b L kk ys)),sI h=vs.map VM.x→(∀q∈h.flatMap (Pl b),q=(0,ys.length,ys.length,kk))→qY b ys h (vs.map VM.y)=h.map (aq.jr (AV.cw b kk ys))
 |[],_,_,_=>rfl
 |B::l,vs,hv,ho=>by
  have hl:∀vs:ak3 (VM b L kk ys),sI l=vs.map VM.x→qY b ys l (vs.map VM.y)=l.map (aq.jr (AV.cw b kk ys)):=fun vs hv=>Sw hL l vs hv fun q hq=>ho q (by rw[List.flatMap_cons];exact List.mem_append_right _ hq);have hb:∀q∈Pl b B,q=(0,ys.length,ys.length,kk):=fun q hq=>ho q (by rw[List.flatMap_cons];exact List.mem_append_left _ hq);cases B with
  |vec e k cs=>
   cases vs with
   |nil=>cases hv
   |cons v vs=>
    have hv1:cs=v.x:=(List.cons.inj hv).1;have e1:(aq.vec e k cs).jr (AV.cw b kk ys)= .vec e k v.y:=by rw[v.ok hL,hv1];rfl
    show aq.vec e k v.y::qY b ys l (vs.map VM.y)=aq.jr (AV.cw b kk ys) (.vec e k cs)::l.map _;rw[hl vs (List.cons.inj hv).2,e1]
  |cells cs=>
   have e1:(aq.cells cs).jr (AV.cw b kk ys)= .cells (AV.lk b ys cs):=by
    rw[←rW cs hb,pJ];rfl
   show aq.cells (AV.lk b ys cs)::qY b ys l (vs.map VM.y)=aq.jr (AV.cw b kk ys) (.cells cs)::l.map _;rw[hl vs hv,e1]
  |front e k n=>exact congrArg (aq.front e k n::·) (hl vs hv)
  |map kv=>exact congrArg (aq.map kv::·) (hl vs hv)
  |gone=>exact congrArg (aq.gone::·) (hl vs hv)
  |lp ls p as bd cs=>have:=congrArg Prod.fst (hb (1,0,0,0) akl);cases this
  |it sn cs=>have:=congrArg Prod.fst (hb (1,0,0,0) akl);cases this
theorem aiw{c:Code}{s:St}(live:ak3 Nat)(b:Nat)(xs:ak3 (ak3 D)){e k L:Nat}(h':ak3 aq)(hb:s.h[b]?=some (.vec e k (bq xs)))(fF:∀c∈xs,c.all D.uf=true)(hL:xs.length=L)
 (ho:∀q∈live.flatMap fun i=>(bB s.t i).oy b,q=(0,xs.length,xs.length,k)) (hh:h'=s.h.map (aq.jr (AV.cw b k xs))) (K:bJ P r N0 c Q ⟨s.n,live.map (fun i=>(i,(bB s.t i).mlt b xs)),h'.set b .gone⟩):bJ P r N0 c Q s:=by
 constructor
 intro G w a n hs hN;obtain⟨G',hE,e1,ck⟩:=hs.KB xs hb fF;refine wpIn_mono (K.run G' w a n (ck.less rfl (by rw[hh]) fun i=> ?_) (by rw[e1];exact hN)) fun _ _ _ hn=>hn.trans (hE.less hN);show bB (live.map (fun i=>(i,(bB s.t i).mlt b xs))) i=bB (s.t.map fun p=>(p.1,p.2.cw b k xs)) i∨_;rw[oV (fun k=>(bB s.t k).mlt b xs),D7 (AV.cw b k xs) (by simp [AV.cw])];split
 ·next hi=>
  left
  refine(Mw _ fun q hq=>ho q ?_).symm;exact List.mem_flatMap.2 ⟨i,hi,hq⟩
 ·exact .inr rfl
def aej(live:ak3 Nat)(b:Nat)(s:St):ak3 (Nat×Nat×Nat×Nat):=(live.flatMap fun i=>(bB s.t i).oy b)++s.h.flatMap (Pl b)
def ahj(live:ak3 Nat)(b:Nat)(ys:ak3 (ak3 D))(vs:ak3 (ak3 (ak3 AV)))(s:St):St:=⟨s.n,live.map (fun i=>(i,(bB s.t i).mlt b ys)),(qY b ys s.h vs).set b .gone⟩
theorem BY(live:ak3 Nat)(b:Nat){xs:ak3 (ak3 D)}(ys:ak3 (ak3 D))(L c e k:Nat)(vs:ak3 (VM b L k ys))(hL:xs.length=L)(hy:ys=xs)(fF:∀c∈xs,c.all D.uf=true)(K:GW P r N0 Q (GH (ahj live b ys (vs.map VM.y)) w0))(hb:(wS w0).h[b]?=some (.vec e k (bq xs)):=by kernel_rfl)(ho:aej live b (wS w0)=List.replicate c (0,L,L,k):=by kernel_rfl)(hv:sI (wS w0).h=vs.map VM.x:=by kernel_rfl):GW P r N0 Q w0:=by
 subst hy;constructor
 unfold Af;split
 ·next c K' s l=>
  have fk:=ym hL ho;exact aiw live b ys _ hb fF hL (fun q hq=>fk q (List.mem_append_left _ hq)) (Sw hL s.h vs hv fun q hq=>fk q (List.mem_append_right _ hq)) K.run
 ·trivial
theorem ahG(k:Nat)(xs:ak3 (ak3 D))(hx:(bB (wS w0).t k).er=some xs)(h:tn (.sl xs)→GW P r N0 Q w0):GW P r N0 Q w0:=by
 constructor
 unfold Af;split
 ·next c K s l=>exact yM k xs hx fun hl=>(h hl).run
 ·trivial
theorem OJ(b i:Nat)(xs:ak3 (ak3 D))(hx:(((wS w0).h[b]?).bind fun B=>match B with| .cells cs=>(cs[i]?).bind AV.er|_=>none)=some xs)(h:tn (.sl xs)→GW P r N0 Q w0):GW P r N0 Q w0:=by
 constructor
 unfold Af;split
 ·next c K s l=>exact YI b i xs hx fun hl=>(h hl).run
 ·trivial
def J6(b i e sz:Nat)(xs:ak3 (ak3 D))(s:St):St:=match s.h[b]? with
 |some (.cells cs)=>⟨s.n,s.t,(s.h++[aq.front e sz xs.length]).set b (aq.cells (cs.set i (AV.own s.h.length xs)))⟩
 |_=>s
def PI(xs:ak3 (ak3 D)):AV→Bool
 | .d (.v (.slice none 0 0))=>xs.isEmpty
 |_=>false
theorem aao{xs:ak3 (ak3 D)}{x:AV}(h:PI xs x=true):x= .d (.v (.slice none 0 0))∧xs=[]:=by
 unfold PI at h;split at h
 ·exact⟨rfl,List.isEmpty_iff.1 h⟩
 ·cases h
def Kp(b i:Nat)(s:St):AV:=match s.h[b]? with
 |some (.cells cs)=>(cs[i]?).getD .dead
 |_=> .dead
theorem Qa{b i:Nat}{s:St}{x:AV}(h:Kp b i s=x)(hx:x≠ .dead):∃cs,s.h[b]?=some (.cells cs)∧cs[i]?=some x:=by
 unfold Kp at h;split at h
 ·next cs hb=>
  refine⟨cs,hb,?_⟩;cases hq:cs[i]? with
  |none=>rw[hq]at h;exact absurd h.symm hx
  |some y=>rw[hq]at h;rw[←h];rfl
 ·exact absurd h.symm hx
theorem Ki(b i e sz:Nat)(xs:ak3 (ak3 D))(hx:Kp b i (wS w0)= .full xs∨PI xs (Kp b i (wS w0))=true)(h:GW P r N0 Q (GH (J6 b i e sz xs) w0)):GW P r N0 Q w0:=by
 constructor
 unfold Af;split
 ·next c K s l=>
  have h':bJ P r N0 c (fz P r N0 Q K) (J6 b i e sz xs s):=h.run;rcases hx with hx|hx
  ·obtain⟨cs,h1,h2⟩:=Qa hx (fun h=>by cases h);unfold J6 at h';rw[show s.h[b]?=some (.cells cs)from h1]at h';exact T7 b i e sz xs h1 (.inl h2) h'
  ·obtain⟨h3,rfl⟩:=aao hx;obtain⟨cs,h1,h2⟩:=Qa h3 (fun h=>by cases h);unfold J6 at h';rw[show s.h[b]?=some (.cells cs)from h1]at h';exact T7 b i e sz [] h1 (.inr ⟨h2,rfl⟩) h'
 ·trivial
end
theorem bc{α:Type}{c:Bool}{a b x:α}{G:Prop}(h:(bif c then a else b)=x)(t:c=true→a=x→G)(f:c=false→b=x→G):G:=by
 cases c with
 |true=>exact t rfl h
 |false=>exact f rfl h
theorem sj{α:Type}{a b:α}(h:some a=some b):a=b:=aky h
theorem dp{α:Type}{c:Bool}{x:ak5 α}{r:α}(h:(bif c then x else none)=some r):c=true∧x=some r:=by
 cases c with
 |true=>exact⟨rfl,h⟩
 |false=>cases h
def G9(fn:Func)(args:ak3 AV)(h:ak3 aq):WO:=some (.at (fn.body.getD .skip) [] {n:=args.length+(fn.ntmps-args.length),t:=jR 0 args,h:=h},[])
theorem XU{P:ak6}{f:FuncId}{fn:Func}{args:ak3 AV}{R:AV}(hf:P.funcs[f]?=some fn)(hb:fn.body.isSome=true)(hn:(fn.name== "runtime.NumGoroutine")=false)
 (hw:GW P none 0 (yS P fn R) (G9 fn args [])):aG P f args (·=R):=by
 obtain⟨c,hc⟩:=Option.isSome_iff_exists.1 hb;refine AG hf hc hn ?_;have:fn.body.getD .skip=c:=by rw[hc];rfl
 rw[←this];exact hw.run
theorem abE{P:ak6}{f:FuncId}{fn:Func}{args:ak3 AV}{h H:ak3 aq}{R:AV}(m:Nat)(hf:P.funcs[f]?=some fn)(hb:fn.body.isSome=true)(hn:(fn.name== "runtime.NumGoroutine")=false)(hm:h.length≤m)
 (hw:GW P none h.length (zQ P fn m R H) (G9 fn args h)):bQ P f args h fun r1 h1=>r1=R∧h1=H:=by
 obtain⟨c,hc⟩:=Option.isSome_iff_exists.1 hb;refine LH m hf hc hn hm ?_;have:fn.body.getD .skip=c:=by rw[hc];rfl
 rw[←this];exact hw.run
section ajM
variable {P:ak6}
def oL{α:Type}{f:ak3 α→ak3 (ak3 D)}(l:ak3 α)(h:(f l).length=l.length):Ob P:=⟨_,_, .len h⟩
def oE{xs:ak3 (ak3 D)}{k:Nat}{c:ak3 D}(h:xs[k]?=some c):Ob P:=⟨_,_, .el (xs:=xs) (i:=(k:Int)) (Int.natCast_nonneg _) h⟩
def oq{a b:AV}(h:a=b):Ob P:=⟨_,_, .eq h⟩
def os(ks:ak3 Nat)(o:Ob P)(l:ak3 (Nat×Ob P)):ak3 (Nat×Ob P):=ks.foldr (fun k t=>(k,o)::t) l
noncomputable def ZH(x:Nat×Ob P)(l:ak3 (Nat×Ob P)):ak3 (Nat×Ob P):=List.rec [x] (fun y t r=>bif Nat.ble x.1 y.1 then x::y::t else y::r) l
noncomputable def so(l:ak3 (Nat×Ob P)):ak3 (Nat×Ob P):=l.foldr ZH []
theorem Kx{xs:ak3 (ak3 D)}{n:Nat}(e:xs.length=n)(h:tn (.sl xs)):n≤maxLen:=e▸xq h
end ajM
inductive eK(P:Program):TypeId→List D→Prop
 |bool {t:TypeId} (b:Bool) (h:P.underlying t=some .bool):eK P t [.v (.bool b)]
 |int {t:TypeId} {k:IntKind} (n:Int) (h:P.underlying t=some (.int k)) (w:(Lit.int k n).wf=true):eK P t [.v (.int k n)]
 |str {t:TypeId} (s:ByteArray) (h:P.underlying t=some .string) (w:s.size≤maxLen):eK P t [.v (.string s)]
 |sl {t e:TypeId} (xs:List (List D)) (h:P.underlying t=some (.slice e)) (w:xs.length≤140737488355328) (hx:∀x∈xs,eK P e x):eK P t [.sl xs]
 |struct {t:TypeId} {fs:Array Field} (parts:List (List D)) (h:P.underlying t=some (.struct fs)) (hl:parts.length=fs.size) (hx:∀(i:Nat)(f:Field)(x:List D),fs[i]?=some f→parts[i]?=some x→eK P f.type x):eK P t parts.flatten
section
variable {P:ak6} {t:TypeId} {xs:ak3 D}
theorem eK.oC{k:IntKind}(h:eK P t xs)(ht:P.underlying t=some (.int k)):∃n,xs=[.v (.int k n)]∧k.min≤n∧n≤k.max:=by
 cases h with
 |bool b h=>rw[ht]at h;cases h
 |int n h w=>
  rw[ht]at h;cases h;unfold Lit.wf at w;simp only[akh,decide_eq_true_eq]at w;exact⟨n,rfl,w⟩
 |str s h=>rw[ht]at h;cases h
 |sl l h=>rw[ht]at h;cases h
 |struct p h=>rw[ht]at h;cases h
theorem eK.N8(h:eK P t xs)(ht:P.underlying t=some .string):∃s,xs=[.v (.string s)]∧s.size≤maxLen:=by
 cases h with
 |bool b h=>rw[ht]at h;cases h
 |int n h=>rw[ht]at h;cases h
 |str s h w=>exact⟨s,rfl,w⟩
 |sl l h=>rw[ht]at h;cases h
 |struct p h=>rw[ht]at h;cases h
theorem eK.Jk{e:TypeId}(h:eK P t xs)(ht:P.underlying t=some (.slice e)):∃l,xs=[.sl l]∧l.length≤140737488355328∧∀x∈l,eK P e x:=by
 cases h with
 |bool b h=>rw[ht]at h;cases h
 |int n h=>rw[ht]at h;cases h
 |str s h=>rw[ht]at h;cases h
 |sl l h w hx=>rw[ht]at h;cases h;exact⟨l,rfl,w,hx⟩
 |struct p h=>rw[ht]at h;cases h
theorem eK.Ag{fs:Array Field}(h:eK P t xs)(ht:P.underlying t=some (.struct fs)):∃parts:ak3 (ak3 D),xs=parts.flatten∧parts.length=fs.size∧∀(i:Nat)(f:Field)(x:ak3 D),fs[i]?=some f→parts[i]?=some x→eK P f.type x:=by
 cases h with
 |bool b h=>rw[ht]at h;cases h
 |int n h=>rw[ht]at h;cases h
 |str s h=>rw[ht]at h;cases h
 |sl l h=>rw[ht]at h;cases h
 |struct p h hl hx=>rw[ht]at h;cases h;exact⟨p,rfl,hl,hx⟩
theorem Ch{α:Type}{f:α→ak3 D}{Q:α→Prop}:∀l:ak3 (ak3 D),(∀x∈l,∃a,x=f a∧Q a)→∃r:ak3 α,l=r.map f∧∀a∈r,Q a
 |[],_=>⟨[],rfl,fun _ h=>by cases h⟩
 |x::l,h=>by
  obtain⟨a,rfl,ha⟩:=h x akl;obtain⟨r,rfl,hr⟩:=Ch l fun y hy=>h y (ako _ hy);refine⟨a::r,rfl,fun b hb=> ?_⟩;rcases akJ.1 hb with rfl|hb
  ·exact ha
  ·exact hr b hb
end
def NH(P:ak6)(S:ak3 TypeId):Bool:=S.all fun t=>match P.underlying t with
 |some .bool|some (.int _)|some .string=>true
 |some (.slice e)=>S.contains e&&(decide (0<P.cellsOf e)&&decide (0<P.bytesOf e))
 |some (.struct fs)=>P.consecB fs.toList 0 (P.cellsOf t)&&fs.toList.all fun f=>S.contains f.type
 |_=>false
def ic(S:Nat→Nat→Prop)(w:ak8)(cs:ak3 ak7)(xs:ak3 D):Prop:=xs.length=cs.length∧∀(i:Nat)(u:ak7)(x:D),cs[i]?=some u→xs[i]?=some x→dc S w u x∧u.oneCell'=true
theorem ic.nil{S:Nat→Nat→Prop}{w:ak8}:ic S w [] []:=⟨rfl,fun i u x h=>by simp at h⟩
theorem ic.one{S:Nat→Nat→Prop}{w:ak8}{u:ak7}{x:D}(h:dc S w u x)(h1:u.oneCell'=true):ic S w [u] [x]:=⟨rfl,fun i v y hv hy=>by
 cases i with
 |zero=>cases hv;cases hy;exact⟨h,h1⟩
 |succ i=>simp at hv⟩
theorem ic.app{S:Nat→Nat→Prop}{w:ak8}{a b:ak3 ak7}{x y:ak3 D}(h:ic S w a x)(k:ic S w b y):ic S w (a++b) (x++y):=by
 refine⟨by simp [h.1,k.1],fun i u z hu hz=> ?_⟩;by_cases hi:i<a.length
 ·rw[akp hi]at hu;rw[akp (by rw[h.1];exact hi)]at hz;exact h.2 i u z hu hz
 ·rw[akv (by omega)]at hu;rw[akv (by rw[h.1];omega),h.1]at hz;exact k.2 _ u z hu hz
theorem Se{α:Type}{Q:Nat→α→Prop}:∀n:Nat,(∀i,i<n→∃x,Q i x)→∃l:ak3 α,l.length=n∧∀i x,l[i]?=some x→Q i x
 |0,_=>⟨[],rfl,fun i x h=>by simp at h⟩
 |n+1,h=>by
  obtain⟨l,h1,h2⟩:=Se n fun i hi=>h i (by omega);obtain⟨x,hx⟩:=h n (by omega);refine⟨l++[x],by simp [h1],fun i y hy=> ?_⟩;by_cases hi:i<l.length
  ·rw[akp hi]at hy;exact h2 i y hy
  ·rw[akv (by omega)]at hy;have:i-l.length=0:=by
     by_cases e:i-l.length=0
     ·exact e
     ·rw[akL (by simp;omega)]at hy;cases hy
   rw[this]at hy;cases hy;have:i=n:=by omega
   rw[this];exact hx
theorem XJ{a:Addr}(h:a.spot=none)(n:Nat):a.add n=⟨a.block,a.off+n,none⟩:=by
 unfold Addr.add;split
 ·next e=>subst e;cases a;simp only at h;subst h;rfl
 ·rfl
section
variable {H:Type} {enc:TypeId×ak7→H} {P:ak6} {W:ak8} {Ts:ak3 TypeId}
abbrev uH(W:ak8):Nat→Nat→Prop:=fun b _=>b<W.heap.size
theorem abW{S:Nat→Nat→Prop}{w:ak8}:dc S w (.slice none 0 0) (.sl []):=
 .sl none 0 0 0 0 [] (fun _ _=>undef) (fun h=>absurd rfl h) (akq _) (by simp) (fun _ h=>by cases h) (fun i j hi=>by simp at hi) (fun i j x d hx=>by simp at hx)
theorem VU{e:TypeId}:∀{l:ak3 (DataW H)}{d:DataW H},d∈l→∀n∈d.weights P e,n∈DataW.weightsAll P e l
 |[],_,h,_,_=>by cases h
 |x::l,d,h,n,hn=>by
  simp only[DataW.weightsAll,akR];rcases akJ.1 h with rfl|h
  ·exact .inl hn
  ·exact .inr (VU h n hn)
theorem Wr{fuel:Nat}(IH:∀(t:TypeId)(cs:ak3 ak7)(d:DataW H)(ps:ak3 MemPlace),t∈Ts→(∀n∈d.weights P t,n≤reachBytes)→DataW.trod enc P W 0 (fun _=>true) true fuel t cs=some (d,ps)→∃xs,eK P t xs∧ic (uH W) W cs xs)(cs:ak3 ak7):
 ∀(fs:ak3 Field)(off:Nat)(ys:ak3 (DataW H×ak3 MemPlace)),P.consecB fs off cs.length=true→(∀f∈fs,f.type∈Ts)→(∀n∈DataW.weightsEach P (fs.map (·.type)) (ys.map (·.1)),n≤reachBytes)→
  fs.mapM (fun f=>DataW.trod enc P W 0 (fun _=>true) true fuel f.type ((cs.drop f.offset).take (P.cellsOf f.type)))=some ys→
  ∃parts:ak3 (ak3 D),parts.length=fs.length∧(∀(i:Nat)(f:Field)(x:ak3 D),fs[i]?=some f→parts[i]?=some x→eK P f.type x)∧ic (uH W) W (cs.drop off) parts.flatten
 |[],off,ys,hc,_,_,_=>by
  simp only[Program.consecB,beq_iff_eq]at hc;refine⟨[],rfl,fun i f x h=>by simp at h,?_⟩;rw[List.drop_eq_nil_iff.2 (by omega)];exact ic.nil
 |f::fs,off,ys,hc,hS,hw,hm=>by
  simp only[Program.consecB,akh,beq_iff_eq]at hc;obtain⟨adu,hc⟩:=hc;rw[List.mapM_cons]at hm;cases hx:DataW.trod enc P W 0 (fun _=>true) true fuel f.type ((cs.drop f.offset).take (P.cellsOf f.type))with
  |none=>simp [hx]at hm
  |some p=>
   cases j0:fs.mapM (fun f=>DataW.trod enc P W 0 (fun _=>true) true fuel f.type ((cs.drop f.offset).take (P.cellsOf f.type)))with
   |none=>simp [hx,j0]at hm
   |some ps=>
    obtain⟨d,q⟩:=p;obtain rfl:(d,q)::ps=ys:=by simpa [hx,j0]using hm
    simp only[akE,DataW.weightsEach,akR]at hw;obtain⟨x,h1,h2⟩:=IH f.type _ d q (hS f akl) (fun n hn=>hw n (.inl hn)) hx;obtain⟨parts,k1,k2,k3⟩:=Wr IH cs fs (off+P.cellsOf f.type) ps hc (fun g hg=>hS g (ako _ hg)) (fun n hn=>hw n (.inr hn)) j0;refine⟨x::parts,by simp [k1],fun i g y hg hy=> ?_,?_⟩
    ·cases i with
     |zero=>cases hg;cases hy;exact h1
     |succ i=>exact k2 i g y (by simpa using hg) (by simpa using hy)
    ·rw[List.flatten_cons];rw[adu]at h2;have:=h2.app k3
     rwa [take_drop_step]at this
theorem PS(hT:NH P Ts=true):∀(fuel:Nat)(t:TypeId)(cs:ak3 ak7)(d:DataW H)(ps:ak3 MemPlace),t∈Ts→(∀n∈d.weights P t,n≤reachBytes)→DataW.trod enc P W 0 (fun _=>true) true fuel t cs=some (d,ps)→∃xs,eK P t xs∧ic (uH W) W cs xs
 |0,t,cs,d,ps,_,_,h=>by simp [DataW.trod]at h
 |fuel+1,t,cs,d,ps,ht,uB,h=>by
  have IH:=PS hT fuel;have lD:=akF.1 hT t ht;unfold DataW.trod at h;split at h
  ·next b e=>exact⟨_, .bool b e,ic.one (.v _) rfl⟩
  ·next k k' n e=>
   split at h
   ·next hk=>obtain⟨rfl,hw⟩:=hk;exact⟨_, .int n e hw,ic.one (.v _) rfl⟩
   ·cases h
  ·next e=>rw[e]at lD;cases lD
  ·next s e=>
   split at h
   ·next hw=>exact⟨_, .str s e hw,ic.one (.v _) rfl⟩
   ·cases h
  ·next e=>rw[e]at lD;cases lD
  ·next e=>rw[e]at lD;cases lD
  ·next e e1=>exact⟨_, .sl [] e1 (Nat.zero_le _) (fun x hx=>absurd hx akV),ic.one abW rfl⟩
  ·next e a len cap e1=>
   rw[e1]at lD;simp only[akh,List.contains_iff_mem,decide_eq_true_eq]at lD;obtain⟨Yq,KQ,n9⟩:=lD;simp only at h;split at h
   ·next hb=>
    obtain⟨_,jJ,p5⟩:=hb;rw[Option.bind_eq_some_iff]at h;obtain⟨elems,Ce,yO⟩:=h;rw[Option.map_eq_some_iff]at yO;obtain⟨rest,_,yO⟩:=yO;cases yO
    simp only[DataW.weights,e1,akJ,akR,akk]at uB;have hlen:elems.length=len:=by simpa using mapM_some_length Ce
    have hQ:∀i,i<len→∃x:ak3 D,eK P e x∧∃b7,W.cells? 0 (a.add (i*P.cellsOf e)) (P.cellsOf e)=some b7∧ic (uH W) W b7 x:=fun i hi=>by
     have h1:=mapM_some_get Ce i i (by simp [hi]);rw[akj (by omega)]at h1;rw[Option.bind_eq_some_iff]at h1;obtain⟨b7,h2,h3⟩:=h1;obtain⟨x,h4,h5⟩:=IH e b7 elems[i].1 elems[i].2 Yq (fun n hn=>uB n (.inr (.inl (VU (List.mem_map.2 ⟨_,List.getElem_mem _,rfl⟩) n hn)))) h3;exact⟨x,h4,b7,h2,h5⟩
    obtain⟨xs,vX,QE⟩:=Se len hQ;have RR:xs≠ []→a.spot=none:=fun cu=>by
     have h0:0<len:=by cases xs with|nil=>exact(cu rfl).elim|cons x l=>simp at vX;omega
     obtain⟨x,_,b7,h2,_⟩:=hQ 0 h0;obtain⟨_,h3,h4⟩:=World.cells?_some h2;have h5:=h4 0 KQ;rw[Nat.zero_mul]at h5;have e0:(a.add 0).add 0=a:=by simp [Addr.add]
     rw[e0,akj (by omega)]at h5;unfold World.cell? at h5;split at h5
     ·split at h5
      ·cases h5
      ·next hn=>simpa using hn
     ·cases h5
    have gb:∀i x,xs[i]?=some x→x.length=P.cellsOf e∧∀j,j<P.cellsOf e→∃u,W.cell? ⟨a.block,a.off+i*P.cellsOf e+j,none⟩=some u∧u.oneCell'=true∧∀d,x[j]?=some d→dc (uH W) W u d:=fun i x hx=>by
     obtain⟨_,b7,h2,h3⟩:=QE i x hx;obtain⟨_,h4,h5⟩:=World.cells?_some h2;have hs:=RR (fun e=>by rw[e]at hx;simp at hx);refine⟨h3.1.trans h4,fun j hj=> ?_⟩;have h6:=h5 j hj;rw[XJ hs,XJ rfl,akj (by omega)]at h6;have hjx:j<x.length:=by rw[h3.1,h4];exact hj
     have hd:x[j]?=some x[j]:=akj hjx;have h7:=h3.2 j _ _ (akj (by omega)) hd;exact⟨_,h6,h7.2,fun d iA=>by rw[hd]at iA;cases iA;exact h7.1⟩
    have Z7:xs.length≤140737488355328:=by
     have h1:=uB _ (.inl rfl);have h2:(elems.length+rest.length)*1≤(elems.length+rest.length)*P.bytesOf e:=Nat.mul_le_mul_left _ n9;have h3:reachBytes≤140737488355328:=by decide
     omega
    refine⟨[.sl xs], .sl xs e1 Z7 (fun x hx=> ?_),ic.one ?_ rfl⟩
    ·obtain⟨i,hi,rfl⟩:=List.mem_iff_getElem.1 hx;exact(QE i _ (akj hi)).1
    ·rw[←vX];refine .sl (some a) a.block a.off cap (P.cellsOf e) xs (fun i j=>(W.cell? ⟨a.block,a.off+i*P.cellsOf e+j,none⟩).getD undef) (fun cu=> ?_) (by omega) p5 (fun x hx=> ?_) (fun i j hi hj=> ?_) fun i j x d hx hd=> ?_
     ·have:=RR cu;cases a;simp only at this;subst this;rfl
     ·obtain⟨i,hi,rfl⟩:=List.mem_iff_getElem.1 hx;exact(gb i _ (akj hi)).1
     ·obtain⟨u,h1,h2,_⟩:=(gb i _ (akj hi)).2 j hj;refine⟨World.block_lt_of_cell? W ⟨a.block,a.off+i*P.cellsOf e+j,none⟩ h1,?_,?_⟩
      ·rw[h1];rfl
      ·rw[h1];exact h2
     ·obtain⟨hl,hc⟩:=gb i x hx;obtain⟨u,h1,_,h3⟩:=hc j (by rw[←hl];exact(akf.1 hd).1);simp only[h1,Option.getD_some];exact h3 d hd
   ·cases h
  ·next b7 fs e1=>
   rw[e1]at lD;simp only[akh,akF,List.contains_iff_mem]at lD;split at h
   ·next hl=>
    rw[Option.map_eq_some_iff]at h;obtain⟨ys,hm,yO⟩:=h;cases yO
    simp only[DataW.weights,e1]at uB;obtain⟨parts,k1,k2,k3⟩:=Wr IH _ fs.toList 0 ys (by rw[hl];exact lD.1) lD.2 uB hm;exact⟨_, .struct parts e1 (by simpa using k1) (fun i f x hf=>k2 i f x (by simpa using hf)),by simpa using k3⟩
   ·cases h
  all_goals first|(cases h;done)|(exfalso;revert lD;(next e=>rw[e];intro h0;cases h0))
theorem QR{t:TypeId}{v:ak7}{d:DataW H}{ps:ak3 MemPlace}(hT:NH P Ts=true)(hm:t∈Ts)(hw:∀n∈d.weights P t,n≤reachBytes)(h:DataW.Trod enc P W 0 (fun _=>true) true t v d ps):∃xs,eK P t xs∧ic (uH W) W v.cells.toList xs:=
 let ⟨fuel,h⟩:=h
 PS hT fuel t _ d ps hm hw h
theorem XL{t:TypeId}{fs:Array Field}{v:ak7}{r:Reach}{base:Nat}(ht:P.underlying t=some (.struct fs))(h:Value.okWide P W r base t v):∃cs,v= .agg cs:=by
 unfold Value.okWide at h;rw[ht]at h;obtain⟨cs,rfl,_⟩:=h;exact⟨cs,rfl⟩
theorem Vk{G:Gh}(hS:G.S=uH W){cs:Array ak7}{xs:ak3 D}(h:ic (uH W) W cs.toList xs):aN G W (.agg cs) (.agg (xs.map .d)):=by
 refine .agg cs _ (by rw[akk,h.1,akM]) fun i u c hu hc=> ?_;rw[akm]at hc;cases hx:xs[i]? with
 |none=>rw[hx]at hc;cases hc
 |some x=>
  rw[hx]at hc;cases hc
  exact .d (hS▸(h.2 i u x (by rw[akC];exact hu) hx).1)
end
end Go.Proofs.YtpgmcallngdceaaGreatDoor
