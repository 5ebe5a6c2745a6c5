/-
  Part 3 of the proof: AbsExec, AbsExecV, AbsRange, AbsAny, AbsExec2, AbsExec3, AbsYield, AbsTree, AbsVecX, MemK, AbsVecD, AbsWk, OpenD.
-/
import Derived.Test.YtpgmcallngdceaaGreatDoorSp2
import Derived.WalkKit
import Derived.Laws.CopyOwn
import Derived.Deep.AppendLies
import Derived.Lib.AppendZerosOnto
import Derived.Lib.Overlaps
import Derived.Lib.Hide
import Derived.ProofKit
import Derived.DataOpen
import Derived.SizedLaws
namespace Go.Proofs.YtpgmcallngdceaaGreatDoor
open Go.RowKit
theorem afz{α:Type}{c:Bool}{x y z:α}(h:(bif c then x else y)=z):(c=true∧x=z)∨(c=false∧y=z):=by
 cases c with
 |true=>exact .inl ⟨rfl,h⟩
 |false=>exact .inr ⟨rfl,h⟩
inductive HD
 |same
 |push (B:aq)
 |set (n:Nat) (B:aq)
def HD.app:HD→akb aq→akb aq
 | .same,h=>h
 | .push B,h=>h++[B]
 | .set n B,h=>h.set n B
def zN:Int→akd Nat
 | .ofNat n=>some n
 | .negSucc _=>none
theorem AY{z:Int}{n:Nat}(h:zN z=some n):0≤z∧z.toNat=n:=by
 cases z with
 |ofNat m=>cases h;exact⟨Int.natCast_nonneg _,rfl⟩
 |negSucc m=>cases h
def tG(ρ:Operand→AV)(d:Nat):akd Operand→akd Nat
 |none=>some d
 |some y=>match (ρ y).int? with
  |some z=>zN z
  |none=>none
def BJ(k:Nat)(xs:akb (akb D)):Bool:=xs.all fun c=>c.length==k
def HJ(P:ake)(T:TypeId)(x i:AV):akd AV:=
 match dF P T with
 |some (_,k)=>match x with
  | .row n off len _ k'=>match i.int? with
    |some z=>match zN z with
     |some q=>bif k'==k&&cf (q+1) len then some (.ptr n (off+q*k))else none
     |none=>none
    |none=>none
  |x=>match x.ej,i.int? with
   |some xs,some z=>match zN z with
    |some q=>match xs[q]? with
     |some c=>bif c.length==k then some (.bD [c] 0 0)else none
     |none=>none
    |none=>none
   |_,_=>none
 |none=>match rK P T,x,i.int? with
  |some (n,_,k), .ptr b off,some z=>match zN z with
   |some q=>bif cf (q+1) n then some (.ptr b (off+q*k))else none
   |none=>none
  |some (n,_,k), .bD xs e off,some z=>match zN z with
   |some q=>bif k==1&&cf (q+1) n then match xs[e]? with
    |some c=>match c[off+q]? with
     |some d=>some (.bD [[d]] 0 0)
     |none=>none
    |none=>none
    else none
   |none=>none
  |_,_,_=>none
theorem acC{P:ake}{T:TypeId}{x i y:AV}{K:AV→Prop}(h:HJ P T x i=some y)(hK:K y):pG P T x i K:=by
 unfold HJ at h;unfold pG;split at h
 ·next e k eT=>
  simp only[eT];split at h
  ·next n off len cap k'=>
   simp only;split at h
   ·next z ez=>
    simp only[ez];split at h
    ·next q eq=>
     obtain⟨h0,h1⟩:=AY eq;obtain⟨hb,he⟩:=dq h;rw[ajp,di]at hb;refine bN.2 ⟨hb.1,h0,by omega,?_⟩;rw[h1,he];exact hK
    ·cases h
   ·cases h
  ·next x' l7=>
   split at h
   ·next xs z e1 e2=>
    split at h
    ·next q eq=>
     obtain⟨h0,h1⟩:=AY eq;split at h
     ·next c ec=>
      obtain⟨hb,he⟩:=dq h;simp only[e1,e2];refine⟨h0,?_⟩;rw[h1,ec];exact⟨by simpa using hb,by rw[he];exact hK⟩
     ·cases h
    ·cases h
   ·cases h
 ·next eT=>
  simp only[eT];split at h
  ·next n e k b off z e1 e2=>
   simp only[e1,e2];split at h
   ·next q eq=>
    obtain⟨h0,h1⟩:=AY eq;obtain⟨hb,he⟩:=dq h;rw[di]at hb;exact⟨h0,by omega,by rw[h1,he];exact hK⟩
   ·cases h
  ·next n e0 k xs e off z e1 e2=>
   simp only[e1,e2];split at h
   ·next q eq=>
    obtain⟨h0,h1⟩:=AY eq;obtain⟨hb,h⟩:=l5 h;rw[ajp,di]at hb;split at h
    ·next c ec=>
     split at h
     ·next d ed=>
      cases h
      refine bN.2 ⟨hb.1,h0,by omega,?_⟩;rw[ec];simp only;rw[h1,ed];exact hK
     ·cases h
    ·cases h
   ·cases h
  ·cases h
def ajj(P:ake)(T:TypeId)(ρ:Operand→AV)(x:AV)(lo hi mx:akd Operand):akd AV:=
 match mx with
 |none=>
  match x with
  | .d (.v (.string b))=>match tG ρ b.size hi,tG ρ 0 lo with
    |some h,some l=>bif fA P T&&cf h b.size&&cf l h then some (.d (.v (.string (b.extract l h))))else none
    |_,_=>none
  | .ptr n off=>match rK P T with
    |some (m,_,k)=>match tG ρ m hi,tG ρ 0 lo with
     |some h,some l=>bif cf m 4096&&cf h m&&(cf l h&& !cf m l)then some (.row n (off+l*k) (h-l) (m-l) k)else none
     |_,_=>none
    |none=>none
  |x=>match x.ej,dF P T with
   |some xs,some (_,k)=>match tG ρ xs.length hi,tG ρ 0 lo with
    |some h,some l=>bif BJ k xs&&cf h xs.length&&cf l h then some (.d (.sl ((xs.take h).drop l)))else none
    |_,_=>none
   |_,_=>none
 |some m=>match lo,hi with
  |none,some y=>match x.ej,dF P T with
   |some xs,some (_,k)=>match tG ρ 0 (some m),tG ρ 0 (some y)with
    |some c,some h=>bif BJ k xs&&cf c xs.length&&h==c then some (.full (xs.take h))else none
    |_,_=>none
   |_,_=>none
  |_,_=>none
def aji(P:ake)(T:TypeId)(h:akb aq)(x y:AV):akd (AV×HD):=
 match dF P T with
 |some (e,k)=>match gD P e,qS P e with
  |some z,some ct=>match F1 h k y with
   |some ys=>bif cf 1 k&&z.cells.toList.length==k&&BJ k ys then
    match x with
    | .own n xs=>match h[n]? with
      |some (.front e' k' len)=>bif e'==e&&k'==k&&len==xs.length&&BJ k xs&&cf (xs.length+ys.length) maxLen&&cf ((xs.length+ys.length)*ct) 140737488355328 then some (.own n (xs++ys), .set n (.front e k (xs.length+ys.length)))else none
      |_=>none
    | .d (.v (.slice none 0 0))=>bif cf ys.length maxLen&&cf (ys.length*ct) 140737488355328 then some (.own h.length ys, .push (.front e k ys.length))else none
    | .full xs=>bif BJ k xs&&cf (xs.length+ys.length) maxLen&&cf ((xs.length+ys.length)*ct) 140737488355328 then some (.own h.length (xs++ys), .push (.front e k (xs.length+ys.length)))else none
    |_=>none
    else none
   |none=>none
  |_,_=>none
 |none=>none
def TA:akb (akb D)→akd (akb Int)
 |[]=>some []
 |[.v (.int .u8 n)]::l=>match TA l with
  |some ns=>some (n::ns)
  |none=>none
 |_=>none
def Ni:akd (AV×In)→akd AV
 |some (x, .none)=>some x
 |some (x, .nz b)=>bif b==0 then none else some x
 |some (x, .nn b)=>match zN b with
  |some _=>some x
  |none=>none
 |some (x, .cat n)=>bif cf n maxLen then some x else none
 |_=>none
theorem af9{r:akd (AV×In)}{x:AV}(P:ake)(h:Ni r=some x):∃i,r=some (x,i)∧OK P i .ok:=by
 unfold Ni at h;split at h
 ·cases h;exact⟨_,rfl, .none⟩
 ·next b=>
  cases hb:b==0 with
  |true=>rw[hb]at h;cases h
  |false=>rw[hb]at h;cases h;exact⟨_,rfl, .nz (by simpa using hb)⟩
 ·next b=>
  split at h
  ·next e=>cases h;exact⟨_,rfl, .nn (AY e).1⟩
  ·cases h
 ·obtain⟨hb,he⟩:=dq h;cases he
  exact⟨_,rfl, .cat (di.1 hb)⟩
 ·cases h
def pX(r:akd AV):akd (AV×HD):=
 match r with
 |some x=>some (x, .same)
 |none=>none
def ajh(P:ake)(src dst:TypeId)(x:AV):akd AV:=
 match Fp P src dst x .none with
 |some (y, .none)=>some y
 |_=>match x.ej,dF P src with
  |some xs,some (e,_)=>match TA xs with
   |some ns=>match x with
    | .d (.v _)=>none
    |_=>bif EG P e&&fA P dst then some (.d (.v (.string (aaS ns))))else none
   |none=>none
  |_,_=>none
def kx(P:ake)(op:Op)(ρ:Operand→AV)(h:akb aq):akd (AV×HD):=
 match op with
 | .move x| .assign x=>some (ρ x, .same)
 | .pick c x y=>match ρ c with
   | .d (.v (.bool b))=>some (bif b then ρ x else ρ y, .same)
   |_=>none
 | .alloc e=>match gD P e with
   |some z=>some (.ptr h.length 0, .push (.cells (z.cells.toList.map fun u=> .d (.v u))))
   |none=>none
 | .box _ x=>bif (ρ x).gR then some (.ptr h.length 0, .push (.cells (ρ x).cells))else none
 | .load t p=>match w9 h (ρ p)with
   |some (cs,off)=>pX (Ad P t cs off)
   |none=>none
 | .store t p x=>match ρ p with
   | .ptr n off=>match h[n]? with
     |some (.cells cs)=>match eF P t with
      |some k=>bif k==(ρ x).cells.length&&(ρ x).gR&&cf (off+(ρ x).cells.length) cs.length then some (.d (.v undef), .set n (.cells (fI cs off (ρ x).cells)))else none
      |none=>none
     |_=>none
   |_=>none
 | .nilCheck x=>match ρ x with
   | .ptr n off=>some (.ptr n off, .same)
   | .bD xs i off=>some (.bD xs i off, .same)
   | .fn f cs=>some (.fn f cs, .same)
   |_=>none
 | .fieldAddr S x f=>match rj P S f with
   |some (fo,_,_)=>match ρ x with
    | .ptr n off=>some (.ptr n (off+fo), .same)
    | .bD xs i off=>some (.bD xs i (off+fo), .same)
    |_=>none
   |none=>none
 | .field T x f=>pX (HG P T (ρ x) f)
 | .indexAddr T x i=>pX (HJ P T (ρ x) (ρ i))
 | .extract x i=>match ρ x with
   | .bk cs=>match cs[i]? with
     |some c=>some (c, .same)
     |none=>none
   |_=>none
 | .makeFunc (.func f) first cV=>match first.toList with
   |[]=>some (.fn f (cV.toList.map ρ), .same)
   |_=>none
 | .binOp op T x y _=>pX (Ni (FC P T op (ρ x) (ρ y)))
 | .unOp op _ x=>match ρ x with
   | .d (.v u)=>match FW op u with
     |some v=>some (.d (.v v), .same)
     |none=>none
   |_=>none
 | .call c=>match c.callee with
   | .builtin .len=>match c.args.toList,c.argTypes.toList with
     |[x],[T]=>match ρ x with
      | .d (.v (.string s))=>bif fA P T then some (.d (.v (.int .i64 s.size)), .same)else none
      | .row _ _ len _ _=>bif (dF P T).isSome then some (.d (.v (.int .i64 len)), .same)else none
      |x=>match x.ej with
       |some xs=>bif (dF P T).isSome then some (.d (.v (.int .i64 xs.length)), .same)else none
       |none=>none
     |_,_=>none
   |_=>none
 |_=>none
theorem HZ{r:akd AV}{x:AV}{d:HD}(h:pX r=some (x,d)):r=some x∧d= .same:=by
 unfold pX at h;split at h
 ·cases h;exact⟨rfl,rfl⟩
 ·cases h
theorem UB{P:ake}{o:Oper}{ρ:Operand→AV}{h:akb aq}{x:AV}{d:HD}{C:AV→akb aq→Prop}(h1:kx P o.op ρ h=some (x,d))(hC:C x (d.app h)):cn P o ρ h C:=by
 obtain⟨dst,op,type,pos,after,guard⟩:=o;simp only at h1;unfold kx at h1;unfold cn;split at h1
 ·cases h1;exact hC
 ·cases h1;exact hC
 ·next c y z=>
  split at h1
  ·next b e=>
   cases h1
   simp only[e];cases b with
   |true=>exact⟨fun _=>hC,fun h=>Bool.noConfusion h⟩
   |false=>exact⟨fun h=>Bool.noConfusion h,fun _=>hC⟩
  ·cases h1
 ·split at h1
  ·next z e=>cases h1;simp only[e];exact hC
  ·cases h1
 ·obtain⟨hb,he⟩:=dq h1;cases he;exact bN.2 ⟨hb,hC⟩
 ·split at h1
  ·next cs off e=>
   obtain⟨e2,rfl⟩:=HZ h1;exact Kx e e2 hC
  ·cases h1
 ·split at h1
  ·next n off e=>
   split at h1
   ·next cs e2=>
    split at h1
    ·next k e3=>obtain⟨hb,he⟩:=dq h1;cases he;simp only[e,vR,e2,e3];exact bN.2 ⟨hb,hC⟩
    ·cases h1
   ·cases h1
  ·cases h1
 ·split at h1
  ·next e=>cases h1;simp only[e];exact hC
  ·next e=>cases h1;simp only[e];exact hC
  ·next e=>cases h1;simp only[e];exact hC
  ·cases h1
 ·split at h1
  ·next e=>
   simp only[e];split at h1
   ·next e2=>cases h1;simp only[e2];exact hC
   ·next e2=>cases h1;simp only[e2];exact hC
   ·cases h1
  ·cases h1
 ·obtain⟨e,rfl⟩:=HZ h1;exact Tn e hC
 ·obtain⟨e,rfl⟩:=HZ h1;exact acC e hC
 ·split at h1
  ·next e=>
   split at h1
   ·next e2=>cases h1;simp only[e,e2];exact hC
   ·cases h1
  ·cases h1
 ·split at h1
  ·next e=>cases h1;simp only[e];exact hC
  ·cases h1
 ·obtain⟨e,rfl⟩:=HZ h1;obtain⟨i,e2,bY⟩:=af9 P e;exact Rp e2 bY hC
 ·unfold uX;split at h1
  ·next e=>
   split at h1
   ·next e2=>cases h1;simp only[e,e2];exact hC
   ·cases h1
  ·cases h1
 ·next c=>
  split at h1
  ·next hc=>
   simp only[hc];split at h1
   ·next y T e1 e2=>
    simp only[e1,e2];unfold qq;split at h1
    ·next s e=>obtain⟨hb,he⟩:=dq h1;cases he;simp only[e];exact bN.2 ⟨hb,hC⟩
    ·next e=>obtain⟨hb,he⟩:=dq h1;cases he;simp only[e];exact bN.2 ⟨hb,hC⟩
    ·next n1 n2=>
     split at h1
     ·next xs e=>
      obtain⟨hb,he⟩:=dq h1;cases he;split
      ·next s e'=>exact absurd e' (n1 s)
      ·next e'=>exact absurd e' (n2 _ _ _ _ _)
      ·simp only[e];exact bN.2 ⟨hb,hC⟩
     ·cases h1
   ·cases h1
  ·cases h1
 ·cases h1
def dy(n:Nat)(t:akb (Nat×AV)):akb AV:=(List.range n).map (bB t)
theorem acd{n:Nat}{t:akb (Nat×AV)}{i:Nat}{c:AV}(h:(dy n t)[i]?=some c):bB t i=c:=by
 unfold dy at h;rw[aju]at h;by_cases hi:i<n
 ·rw[List.getElem?_range hi]at h;exact ajG h
 ·rw[ajT (by simpa using hi)]at h;cases h
def KR(P:ake)(N0:Nat)(Q:Exit→St→Prop)(s:St):LS→Prop
 | .ready=>Q .normal s
 | .done c=>bJ P none N0 c Q s
 | .busy=>False
theorem age{P:ake}{N0:Nat}{s:St}{Q:Exit→St→Prop}{g:Operand}{p:Nat}{assign body:Code}{gf:FuncId}{cV:akb AV}(hg:ev s g= .fn gf cV)
 (hc:bO P gf (.cE s.h.length::cV) (s.h++[.lp .ready p assign body (dy s.n s.t)]) fun _ h'=>∃(ls:LS)(p1:Nat)(pQ rE:Code)(vp:akb AV),h'[s.h.length]?=some (.lp ls p1 pQ rE vp)∧KR P N0 Q ⟨s.n,s.t,h'.set s.h.length .gone⟩ ls):
 bJ P none N0 (.rangeFunc g #[p] assign body) Q s:=by
 constructor
 intro G w a n hs hN;have hv:=hs.ev g;rw[hg]at hv;obtain⟨lb,ea,hl,hr⟩:∃lb:Array akf,a.eval g= .func (.func gf) #[] lb∧lb.size=cV.length∧∀(i:Nat)(u:akf)(c:AV),lb[i]?=some u→cV[i]?=some c→aL G w u c:=by
  generalize a.eval g=u at hv;cases hv with|fn _ vs _ hl hr=>exact⟨vs,rfl,hl,hr⟩
 obtain⟨LY,jd⟩:=hc;refine wpIn_rangeFunc (F:=WF none) ?_;intro fn _;obtain⟨Cj,Rh⟩:=ab0 hs.inv;obtain⟨G0,je⟩:∃G0:Gh,G0={G with Z:=fun b=>G.Z b∨b=w.heap.size}:=⟨_,rfl⟩;obtain⟨w0,pa⟩:∃w0,w0=w.alloc (.deferred (some [])):=⟨_,rfl⟩;rw[←je,←pa]at Cj Rh;have cm:G0.N=G.N:=by rw[je]
 have gz:w0.heap.size=w.heap.size+1:=by rw[pa];simp
 obtain⟨iA,Uc,L9⟩:=ZG Rh fn a.tmps w.heap.size p assign body (dy s.n s.t) (by simp [dy,hs.size]) fun i u c hu hc=>by
  have h9:=hs.tmp i;rw[acd hc]at h9;have e:a.tmps.getD i undef=u:=by
   have aX:=(ajC.1 hu).1;rw[ajJ aX]at hu;simp [Array.getD,aX];exact ajG hu
  rw[e]at h9;exact h9.bn Cj (Nat.le_of_eq cm.symm)
 obtain⟨w1,WG⟩:∃w1,w1=w0.alloc (.loop {state:= .ready,pending:=none,fn:=fn,tmps:=a.tmps,params:= #[p],assign:=assign,body:=body,defers:=w.heap.size}):=⟨_,rfl⟩;obtain⟨G1,OH⟩:∃G1:Gh,G1=G0.dx w0.heap.size:=⟨_,rfl⟩;rw[←WG,←OH]at iA Uc L9;have fb:G1.N=G.N+1:=by rw[OH,←cm];rfl
 have afK:G1.bm s.h.length=w.heap.size+1:=by rw[OH,hs.inv.len,←cm];simp [Gh.dx,gz]
 rw[gz]at L9;have Ph:bP G.N G w G1 w1:=Cj.trans (iA.less (Nat.le_of_eq cm.symm));refine⟨w.heap.size+1,[{target:= .collected w.heap.size,args:= #[]}],w1,{target:= .fn (.func gf) lb,args:= #[.func (.yield (w.heap.size+1)) #[] #[]]},w1,gf, #[.func (.yield (w.heap.size+1)) #[] #[]]++lb,w1,?_,?_,fun _ _=>trivial,?_,fun h=>(by simp [WF,Fence.wide]at h),?_⟩
 ·rw[WG,pa];exact run_enterLoop_outer _ _ _ _ _
 ·simp only[resolve,ea];simp [Deferred.ofValue,go_sem]
 ·simp [invoke,V4 LY]
 have hK:=jd G1 w1 (#[.func (.yield (w.heap.size+1)) #[] #[]]++lb) Uc (by simp [hl];omega) (fun i u c hu hc=>by
  match i with
  |0=>
   rw[Array.getElem?_append_left (by simp)]at hu;simp at hu hc;subst hu;subst hc;exact L9
  |i+1=>
   rw[Array.getElem?_append_right (by simp)]at hu;simp at hu hc;exact(hr i u c hu hc).bn Ph (by rw[fb];exact Nat.le_succ _))
 refine CallsIn.mono (F:=WF none) (callsIn_wide (n:=n-1).2 hK) ?_;rintro e w2 ⟨v,G2,r,h',rfl,jh,hN2,RE,_,ls,p1,pQ,rE,vp,hk,Ll⟩;have zT:s.h.length<G1.N:=by rw[hs.inv.len,fb];exact aj9 _
 have Hb:G2.bm s.h.length=w.heap.size+1:=(jh.bm _ zT).trans afK;obtain⟨_,fn2,Xz,D2,g3,g4,g5,SJ⟩:=Gi RE hk;rw[Hb]at g3;have hEa:bP G.N G w G2 w2:=Ph.trans (jh.less (by rw[fb];exact Nat.le_succ _));have HP:G.N≤G2.N:=by rw[fb]at hN2;omega
 obtain⟨ob,l9⟩:∃ob:Obj,ob= .loop {state:= .exhausted,pending:=ls.pd,fn:=fn2,tmps:=Xz,params:= #[p1],assign:=pQ,body:=rE,defers:=D2}:=⟨_,rfl⟩;obtain⟨zE,zI⟩:=Yz RE hk ob;rw[Hb]at zE zI;have EO:bP G.N G w G2 (w2.putObj (w.heap.size+1) ob):=hEa.trans (zE.less HP);have hM:=hs.inv.gl.2;have Mo:G0.Z w.heap.size:=by rw[je];exact .inr rfl
 have UT:G2.Z w.heap.size:=jh.Z.1.1 _ (iA.Z.1.1 _ Mo);have hDh:(w2.putObj (w.heap.size+1) ob).heap[w.heap.size]?=some (.deferred (some [])):=by
  rw[zE.old _ UT,jh.old _ (iA.Z.1.1 _ Mo),iA.old _ Mo,pa];exact World.alloc_heap_new w _
 have cp:cx G2 (w2.putObj (w.heap.size+1) ob) {a with defers:=[{target:= .collected w.heap.size,args:= #[]}]++a.defers} ⟨s.n,s.t,h'.set s.h.length .gone⟩:=by
  refine⟨hs.size,fun i=>(hs.tmp i).bn EO HP,zI,?_⟩;obtain⟨l,l1,l2,l3⟩:=hs.df.bn EO;obtain⟨l',l1',Q1,l3'⟩:=hs.df;have DZ:l=l':=by
   rw[l2]at Q1;have Zd:∀(x y:akb Nat),x.map (fun D=>({target:= .collected D,args:= #[]}:Deferred))=y.map (fun D=>{target:= .collected D,args:= #[]})→x=y:=by
     intro x
     induction x with
     |nil=>intro y h;cases y with
      |nil=>rfl
      |cons b y=>simp at h
     |cons a x ih=>intro y h;cases y with
      |nil=>simp at h
      |cons b y=>simp at h;rw[h.1,ih y (by simpa using h.2)]
   exact Zd _ _ Q1
  refine⟨w.heap.size::l,?_,by rw[ajM,←l2];rfl,fun D hD=> ?_⟩
  ·rw[List.nodup_cons];exact⟨fun h=>aj1 _ (hs.inv.z _ (l3' _ (DZ▸h)).2.1),l1⟩
  ·rcases ajR.1 hD with rfl|hD
   ·exact⟨by rw[EO.Z.2];exact hM,UT,hDh⟩
   ·exact l3 D hD
 subst l9;have DO:=fun hb=>run_endLoop (P:=P) g3 hb;cases ls with
 |busy=>exact Ll.elim
 |ready=>
  refine⟨_,_,DO (by simp [LS.st]),?_⟩;exact⟨G2,_,EO.less hN,ajF hN HP,cp,Ll⟩
 |done c=>
  refine⟨_,_,DO (by simp [LS.st]),?_⟩;refine wpIn_mono (Ll.run G2 _ _ n (cp) (ajF hN HP)) fun _ _ _ hn=> ?_;exact hn.trans (EO.less hN)
set_option linter.unusedSimpArgs false
set_option linter.unusedVariables false
mutual
theorem DE:∀x:AV,x.aQ id=x
 | .agg cs=>by rw[AV.aQ,tr cs]
 | .bk cs=>by rw[AV.aQ,tr cs]
 | .fn f cs=>by rw[AV.aQ,tr cs]
 | .own .. =>by simp [AV.aQ]
 | .d _=>by simp [AV.aQ]
 | .ptr .. =>by simp [AV.aQ]
 | .bD .. =>by simp [AV.aQ]
 | .full _=>by simp [AV.aQ]
 | .row .. =>by simp [AV.aQ]
 | .mp _=>by simp [AV.aQ]
 | .cE _=>by simp [AV.aQ]
 | .vec .. =>by simp [AV.aQ]
 | .cN .. =>by simp [AV.aQ]
 | .hid _=>by simp [AV.aQ]
 | .dead=>by simp [AV.aQ]
theorem tr:∀l:akb AV,AV.eH id l=l
 |[]=>by simp [AV.eH]
 |x::l=>by rw[AV.eH,DE x,tr l]
end
theorem Nh(B:aq):B.aQ id=B:=by
 cases B with
 |cells cs=>simp only[aq.aQ,tr]
 |lp ls p as bd cs=>simp only[aq.aQ,tr]
 |it sn cs=>simp only[aq.aQ,tr]
 |vec e k cs=>simp only[aq.aQ];congr 1;exact(ajS fun x _=>tr x).trans (List.map_id _)
 |_=>rfl
theorem aL.low{G:Gh}{w:akg}{u:akf}{x:AV}(h:aL G w u x):x.aT G.N=true:=by
 have lt:∀{n:Nat},n<G.N→(!cf G.N n)=true:=fun{n} hn=>by
  rw[Bool.not_eq_true',←Bool.not_eq_true,di];omega
 have eZ:∀(vs:Array akf)(cs:akb AV),vs.size=cs.length→(∀(i:Nat)(u:akf)(c:AV),vs[i]?=some u→cs[i]?=some c→c.aT G.N=true)→AV.lV G.N cs=true:=fun vs cs hl h=>by
  rw[lH,ajN];intro c hc;obtain⟨i,hi,rfl⟩:=List.mem_iff_getElem.1 hc;exact h i vs[i] _ (ajJ (by omega)) (ajr hi)
 induction h with
 |agg vs cs hl _ ih=>rw[AV.aT];exact eZ vs cs hl ih
 |bk vs cs hl _ ih=>rw[AV.aT];exact eZ vs cs hl ih
 |fn f vs cs hl _ ih=>rw[AV.aT];exact eZ vs cs hl ih
 |ptr n off h=>rw[AV.aT];exact lt h
 |own n xs h=>rw[AV.aT];exact lt h
 |row n off len cap k h=>rw[AV.aT];exact lt h
 |mp n h=>rw[AV.aT];exact lt h
 |cE n h=>rw[AV.aT];exact lt h
 |vec n o len L k h=>rw[AV.aT];exact lt h
 |cN n i j L k h=>rw[AV.aT];exact lt h
 |_=>simp [AV.aT]
def ig(N0:Nat)(s s':St):Prop:=∀(G:Gh)(w:akg)(a:Act),N0≤G.N→cx G w a s→∃G',bP N0 G w G' w∧N0≤G'.N∧cx G' w a s'
theorem ig.refl(N0:Nat)(s:St):ig N0 s s:=fun G _ _ hN hs=>⟨G,bP.refl _ _ _,hN,hs⟩
theorem ig.trans{N0:Nat}{s1 s2 s3:St}(h:ig N0 s1 s2)(k:ig N0 s2 s3):ig N0 s1 s3:=fun G w a hN hs=>by
 obtain⟨G1,e1,n1,h1⟩:=h G w a hN hs;obtain⟨G2,e2,n2,h2⟩:=k G1 w a n1 h1;exact⟨G2,e1.trans e2,n2,h2⟩
theorem ig.of_eq{N0:Nat}{s s':St}(h:gr s s'):ig N0 s s':=fun G _ _ hN hs=>
 ⟨G,bP.refl _ _ _,hN,hs.size.trans h.n,fun i=>by rw[←h.t i];exact hs.tmp i,by rw[←h.h];exact hs.inv,hs.df⟩
theorem ig.aQ{N0:Nat}{s s':St}(σ τ:Nat→Nat)(hn:s.n=s'.n)(hlen:s'.h.length=s.h.length)(aX:∀i,i<s.h.length→σ i<s.h.length)(hτ:∀i,i<s.h.length→τ i<s.h.length)
 (sK:∀i,i<s.h.length→τ (σ i)=i) (fD:∀i,i<s.h.length→σ (τ i)=i) (uu:∀i,i<N0→σ i=i)
 (ht:∀i,(bB s.t i).aT s.h.length=true→bB s'.t i=(bB s.t i).aQ σ∨bB s'.t i= .dead) (hh:∀i,i<s.h.length→s'.h[σ i]?=(s.h[i]?).map (aq.aQ σ)):ig N0 s s':=fun G w a hN hs=>by
 have hl:s.h.length=G.N:=hs.inv.len;rw[hl]at aX hτ sK fD hh hlen ht;have LZ:∀i,i<N0→τ i=i:=fun i hi=>by
  have h1:=sK i (by omega);rw[uu i hi]at h1;exact h1
 let G':Gh:={G with bm:=fun n=>G.bm (τ n),sg:=fun n=>G.sg (τ n),ow:=fun n=>G.ow (τ n),fl:=fun n=>G.fl (τ n)}
 have hR:oz σ G G':=⟨aX,fun n h=>by show G.bm (τ (σ n))=_;rw[sK n h],fun n h=>by show G.sg (τ (σ n))=_;rw[sK n h],fun n h=>by show G.fl (τ (σ n))=_;rw[sK n h],fun n h=>by show G.ow (τ (σ n))=_;rw[sK n h],fun _ _=>Iff.rfl⟩;have hE:bP N0 G w G' w:=⟨ajy _,fun _ _ h=>h,fun _ _ _=>rfl,fun n h=>by show G.bm (τ n)=_;rw[LZ n h],fun n h=> .inl ⟨by show G.fl (τ n)=_;rw[LZ n h],by show G.sg (τ n)=_;rw[LZ n h]⟩,fJ rfl,fun _ _=>rfl,rfl,rfl,rfl,fun _ _ h=> .inl h⟩;have dT:∀(n:Nat)(B:aq),s'.h[n]?=some B→∃m B0,m<G.N∧σ m=n∧s.h[m]?=some B0∧B=B0.aQ σ:=fun n B hB=>by
  have eE:n<G.N:=by have:=(ajn.1 hB).1;omega
  have h1:=hh (τ n) (hτ n eE);rw[fD n eE,hB]at h1;cases h2:s.h[τ n]? with
  |none=>rw[h2]at h1;cases h1
  |some B0=>rw[h2]at h1;cases h1;exact⟨τ n,B0,hτ n eE,fD n eE,h2,rfl⟩
 have dE:∀(n b:Nat),b6 s'.h G' n=some b→∃m,m<G.N∧σ m=n∧b6 s.h G m=some b:=fun n b hb=>by
  obtain⟨B,hB,hb⟩:=mr hb;obtain⟨m,B0,k1,k2,k3,rfl⟩:=dT n B hB;subst k2;rw[Lr hR k1]at hb;exact⟨m,k1,rfl,by rw[dm k3];exact hb⟩
 refine⟨G',hE,hN,hs.size.trans hn,fun i=> ?_,⟨hlen,hs.inv.z,hs.inv.S,fun n B hB=> ?_,fun m n b hm eE=> ?_,hs.inv.gl.bn hE⟩,hs.df.bn hE⟩
 ·have hv:=hs.tmp i;rcases ht i hv.low with e|e
  ·rw[e];exact hv.aQ hR
  ·rw[e];exact .dead _
 ·obtain⟨m,B0,k1,k2,k3,rfl⟩:=dT n B hB;subst k2;have hb:=hs.inv.cU m B0 k3;exact dC.aQ hR k1 (fun b h1=>hb.kV h1) hb
 ·obtain⟨m',k1,k2,k3⟩:=dE m b hm;obtain⟨n',j1,j2,j3⟩:=dE n b eE;have:=hs.inv.inj m' n' b k3 j3;rw[←k2,←j2,this]
def OB:akf→akf→Bool
 | .bool a, .bool b=>a==b
 | .int k a, .int l b=>decide (k=l)&&decide (a=b)
 | .string a, .string b=>bL a==bL b
 | .pointer none, .pointer none=>true
 | .slice none a b, .slice none c d=>a==c&&b==d
 | .map none, .map none=>true
 | .nilFunc, .nilFunc=>true
 | .nilIface, .nilIface=>true
 | .tuple a, .tuple b=>a.size==0&&b.size==0
 |_,_=>false
theorem adE{u v:akf}(h:OB u v=true):u=v:=by
 unfold OB at h;split at h
 ·rw[beq_iff_eq]at h;subst h;rfl
 ·rw[ajp,decide_eq_true_eq,decide_eq_true_eq]at h;obtain⟨h1,h2⟩:=h;subst h1;subst h2;rfl
 ·rw[beq_iff_eq]at h;rw[NH h]
 ·rfl
 ·rw[ajp,beq_iff_eq,beq_iff_eq]at h;obtain⟨h1,h2⟩:=h;subst h1;subst h2;rfl
 ·rfl
 ·rfl
 ·rfl
 ·rw[ajp,beq_iff_eq,beq_iff_eq]at h;rw[Array.eq_empty_of_size_eq_zero h.1,Array.eq_empty_of_size_eq_zero h.2]
 ·cases h
mutual
def D.sC:D→D→Bool
 | .v a, .v b=>OB a b
 | .sl xs, .sl ys=>D.pK xs ys
 |_,_=>false
def D.pK:akb (akb D)→akb (akb D)→Bool
 |[],[]=>true
 |x::xs,y::ys=>D.dG x y&&D.pK xs ys
 |_,_=>false
def D.dG:akb D→akb D→Bool
 |[],[]=>true
 |x::xs,y::ys=>D.sC x y&&D.dG xs ys
 |_,_=>false
end
mutual
theorem D.M8:∀x y:D,D.sC x y=true→x=y
 | .v a, .v b,h=>by rw[D.sC]at h;rw[adE h]
 | .sl xs, .sl ys,h=>by rw[D.sC]at h;rw[D.CT xs ys h]
 | .v _, .sl _,h=>by simp [D.sC]at h
 | .sl _, .v _,h=>by simp [D.sC]at h
theorem D.CT:∀x y:akb (akb D),D.pK x y=true→x=y
 |[],[],_=>rfl
 |x::xs,y::ys,h=>by rw[D.pK,ajp]at h;rw[D.Sy x y h.1,D.CT xs ys h.2]
 |[],_::_,h=>by simp [D.pK]at h
 |_::_,[],h=>by simp [D.pK]at h
theorem D.Sy:∀x y:akb D,D.dG x y=true→x=y
 |[],[],_=>rfl
 |x::xs,y::ys,h=>by rw[D.dG,ajp]at h;rw[D.M8 x y h.1,D.Sy xs ys h.2]
 |[],_::_,h=>by simp [D.dG]at h
 |_::_,[],h=>by simp [D.dG]at h
end
mutual
def AV.dX(σ:Nat→Nat):AV→AV→Bool
 | .d x,y=>(match y with| .d y=>D.sC x y|_=>false)
 | .agg a,y=>(match y with| .agg b=>AV.m9 σ a b|_=>false)
 | .bk a,y=>(match y with| .bk b=>AV.m9 σ a b|_=>false)
 | .fn f a,y=>(match y with| .fn g b=>f==g&&AV.m9 σ a b|_=>false)
 | .ptr n o,y=>(match y with| .ptr m p=>σ n==m&&o==p|_=>false)
 | .bD xs i o,y=>(match y with| .bD ys j p=>D.pK xs ys&&(i==j&&o==p)|_=>false)
 | .own n xs,y=>(match y with| .own m ys=>σ n==m&&D.pK xs ys|_=>false)
 | .full xs,y=>(match y with| .full ys=>D.pK xs ys|_=>false)
 | .row n i1 i2 i3 i4,y=>(match y with| .row m j1 j2 j3 j4=>σ n==m&&(i1==j1&&(i2==j2&&(i3==j3&&i4==j4)))|_=>false)
 | .mp n,y=>(match y with| .mp m=>σ n==m|_=>false)
 | .cE n,y=>(match y with| .cE m=>σ n==m|_=>false)
 | .vec n i1 i2 i3 i4,y=>(match y with| .vec m j1 j2 j3 j4=>σ n==m&&(i1==j1&&(i2==j2&&(i3==j3&&i4==j4)))|_=>false)
 | .cN n i1 i2 i3 i4,y=>(match y with| .cN m j1 j2 j3 j4=>σ n==m&&(i1==j1&&(i2==j2&&(i3==j3&&i4==j4)))|_=>false)
 | .dead,y=>(match y with| .dead=>true|_=>false)
 | .hid _,_=>false
def AV.m9(σ:Nat→Nat):akb AV→akb AV→Bool
 |[],y=>(match y with|[]=>true|_=>false)
 |x::xs,l=>(match l with|y::ys=>AV.dX σ x y&&AV.m9 σ xs ys|_=>false)
end
mutual
theorem AV.GV(σ:Nat→Nat):∀x y:AV,AV.dX σ x y=true→y=x.aQ σ
 | .d x,y,h=>by
   cases y with
   |d y=>simp only[AV.dX,ajp,beq_iff_eq]at h;rw[AV.aQ,D.M8 _ _ h]
   |_=>simp [AV.dX]at h
 | .agg a,y,h=>by
   cases y with
   |agg b=>simp only[AV.dX,ajp,beq_iff_eq]at h;rw[AV.aQ,AV.vl σ _ _ h]
   |_=>simp [AV.dX]at h
 | .bk a,y,h=>by
   cases y with
   |bk b=>simp only[AV.dX,ajp,beq_iff_eq]at h;rw[AV.aQ,AV.vl σ _ _ h]
   |_=>simp [AV.dX]at h
 | .fn f a,y,h=>by
   cases y with
   |fn g b=>simp only[AV.dX,ajp,beq_iff_eq]at h;rw[AV.aQ,AV.vl σ _ _ h.2,h.1]
   |_=>simp [AV.dX]at h
 | .ptr n o,y,h=>by
   cases y with
   |ptr m p=>simp only[AV.dX,ajp,beq_iff_eq]at h;rw[AV.aQ,h.1,h.2]
   |_=>simp [AV.dX]at h
 | .bD xs i o,y,h=>by
   cases y with
   |bD ys j p=>simp only[AV.dX,ajp,beq_iff_eq]at h;rw[AV.aQ,D.CT _ _ h.1,h.2.1,h.2.2]
   |_=>simp [AV.dX]at h
 | .own n xs,y,h=>by
   cases y with
   |own m ys=>simp only[AV.dX,ajp,beq_iff_eq]at h;rw[AV.aQ,D.CT _ _ h.2,h.1]
   |_=>simp [AV.dX]at h
 | .full xs,y,h=>by
   cases y with
   |full ys=>simp only[AV.dX,ajp,beq_iff_eq]at h;rw[AV.aQ,D.CT _ _ h]
   |_=>simp [AV.dX]at h
 | .row n i1 i2 i3 i4,y,h=>by
   cases y with
   |row m j1 j2 j3 j4=>simp only[AV.dX,ajp,beq_iff_eq]at h;rw[AV.aQ,h.1,h.2.1,h.2.2.1,h.2.2.2.1,h.2.2.2.2]
   |_=>simp [AV.dX]at h
 | .vec n i1 i2 i3 i4,y,h=>by
   cases y with
   |vec m j1 j2 j3 j4=>simp only[AV.dX,ajp,beq_iff_eq]at h;rw[AV.aQ,h.1,h.2.1,h.2.2.1,h.2.2.2.1,h.2.2.2.2]
   |_=>simp [AV.dX]at h
 | .cN n i1 i2 i3 i4,y,h=>by
   cases y with
   |cN m j1 j2 j3 j4=>simp only[AV.dX,ajp,beq_iff_eq]at h;rw[AV.aQ,h.1,h.2.1,h.2.2.1,h.2.2.2.1,h.2.2.2.2]
   |_=>simp [AV.dX]at h
 | .mp n,y,h=>by
   cases y with
   |mp m=>simp only[AV.dX,ajp,beq_iff_eq]at h;rw[AV.aQ,h]
   |_=>simp [AV.dX]at h
 | .cE n,y,h=>by
   cases y with
   |cE m=>simp only[AV.dX,ajp,beq_iff_eq]at h;rw[AV.aQ,h]
   |_=>simp [AV.dX]at h
 | .dead,y,h=>by
   cases y with
   |dead=>rw[AV.aQ]
   |_=>simp [AV.dX]at h
 | .hid _,y,h=>by simp [AV.dX]at h
theorem AV.vl(σ:Nat→Nat):∀x y:akb AV,AV.m9 σ x y=true→y=AV.eH σ x
 |[],y,h=>by
  cases y with
  |nil=>rw[AV.eH]
  |cons=>simp [AV.m9]at h
 |x::xs,l,h=>by
  cases l with
  |nil=>simp [AV.m9]at h
  |cons y ys=>simp only[AV.m9,ajp]at h;rw[AV.eH,AV.GV σ _ _ h.1,AV.vl σ _ _ h.2]
end
def xF:akb (akc×D)→akb (akc×D)→Bool
 |[],[]=>true
 |(k,d)::l,(k',d')::l'=>bL k==bL k'&&D.sC d d'&&xF l l'
 |_,_=>false
theorem S0:∀x y,xF x y=true→x=y
 |[],[],_=>rfl
 |(k,d)::l,(k',d')::l',h=>by
  rw[xF,ajp,ajp]at h;rw[NH (beq_iff_eq.1 h.1.1),D.M8 _ _ h.1.2,S0 l l' h.2]
 |[],_::_,h=>by simp [xF]at h
 |_::_,[],h=>by simp [xF]at h
def Ay(σ:Nat→Nat):akb (akb AV)→akb (akb AV)→Bool
 |[],[]=>true
 |x::xs,y::ys=>AV.m9 σ x y&&Ay σ xs ys
 |_,_=>false
theorem TN(σ:Nat→Nat):∀x y,Ay σ x y=true→y=x.map (AV.eH σ)
 |[],[],_=>rfl
 |x::xs,y::ys,h=>by
  rw[Ay,ajp]at h;rw[ajM,AV.vl σ x y h.1,TN σ xs ys h.2]
 |[],_::_,h=>by simp [Ay]at h
 |_::_,[],h=>by simp [Ay]at h
def aq.dX(σ:Nat→Nat):aq→aq→Bool
 | .cells a,y=>(match y with| .cells b=>AV.m9 σ a b|_=>false)
 | .front e k l,y=>(match y with| .front e' k' l'=>e==e'&&(k==k'&&l==l')|_=>false)
 | .vec e k cs,y=>(match y with| .vec e' k' ds=>e==e'&&(k==k'&&Ay σ cs ds)|_=>false)
 | .map kv,y=>(match y with| .map Zs=>xF kv Zs|_=>false)
 | .it sn cs,y=>(match y with| .it Y3 ds=>sn==Y3&&AV.m9 σ cs ds|_=>false)
 | .gone,y=>(match y with| .gone=>true|_=>false)
 | .lp ..,_=>false
theorem aq.GV(σ:Nat→Nat)(x y:aq)(h:aq.dX σ x y=true):y=x.aQ σ:=by
 cases x<;>cases y<;>simp only[aq.dX,ajp,beq_iff_eq,Bool.false_eq_true]at h
 ·rw[aq.aQ,AV.vl σ _ _ h]
 ·rw[aq.aQ,h.1,h.2.1,h.2.2]
 ·rw[aq.aQ,h.1,h.2.1,TN σ _ _ h.2.2]
 ·rw[aq.aQ,S0 _ _ h]
 ·rw[aq.aQ,h.1,AV.vl σ _ _ h.2]
 ·rfl
def dZ(h0:Nat)(p:akb Nat)(i:Nat):Nat:=bif cf h0 i then p.getD (i-h0) i else i
def yz(ts yl:akb (Nat×AV))(ks:akb Nat)(i:Nat):Nat:=
 match ks with
 |[]=>i
 |d::ks=>match bB ts d,bB yl d with
  | .ptr n _, .ptr m _=>bif n==i then m else yz ts yl ks i
  | .own n _, .own m _=>bif n==i then m else yz ts yl ks i
  | .vec n _ _ _ _, .vec m _ _ _ _=>bif n==i then m else yz ts yl ks i
  | .mp n, .mp m=>bif n==i then m else yz ts yl ks i
  |_,_=>yz ts yl ks i
def EZ(s s':St)(ks:akb Nat)(h0:Nat):Nat→akb Nat
 |0=>[]
 |k+1=>yz s.t s'.t ks h0::EZ s s' ks (h0+1) k
def T1(h0:Nat)(ks:akb Nat)(s s':St)(p q:akb Nat):Bool:=
 (s'.h.length==s.h.length)&&(((List.range s.h.length).all fun i=>cf (dZ h0 p i+1) s.h.length&&cf (dZ h0 q i+1) s.h.length&&dZ h0 q (dZ h0 p i)==i&&dZ h0 p (dZ h0 q i)==i)&&(ks.all (fun d=>AV.dX (dZ h0 p) (bB s.t d) (bB s'.t d))&&
  ((List.range s.h.length).all fun i=>match s.h[i]?,s'.h[dZ h0 p i]? with
    |some B,some B'=>aq.dX (dZ h0 p) B B'
    |_,_=>false)))
def QR(h0:Nat)(ks:akb Nat)(s s':St):Bool:=T1 h0 ks s s' (EZ s s' ks h0 (s.h.length-h0)) (EZ s' s ks h0 (s.h.length-h0))
structure j0(ks:List Nat)(s0 s:St):Prop where
 n:s.n=s0.n
 t:∀d,d ∉ ks→bB s.t d=bB s0.t d
theorem j0.refl(ks:akb Nat)(s:St):j0 ks s s:=⟨rfl,fun _ _=>rfl⟩
theorem j0.put{ks:akb Nat}{s0 s:St}(h:j0 ks s0 s)(h1:akb aq){d:akd Nat}(x:AV)(hd:∀k,d=some k→k∈ks):j0 ks s0 ((s.wh h1).put d x):=
 ⟨by rw[n8];exact h.n,fun i hi=>by
  rw[pI,if_neg]
  ·exact h.t i hi
  ·rintro⟨e,_⟩;exact hi (hd i e)⟩
theorem ai8{N0 h0:Nat}{ks:akb Nat}{s0 s s':St}(hN:N0≤h0)(wM:∀i,(bB s0.t i).aT h0=true)(hb:j0 ks s0 s)(eP:j0 ks s0 s')(h:QR h0 ks s s'=true):ig N0 s s':=by
 unfold QR at h;generalize EZ s s' ks h0 (s.h.length-h0)=p at h;generalize EZ s' s ks h0 (s.h.length-h0)=q at h;unfold T1 at h;simp only[ajp,beq_iff_eq,ajN,List.mem_range,di]at h;obtain⟨h1,h2,h3,h4⟩:=h;have uu:∀i,i<h0→dZ h0 p i=i:=fun i hi=>by
  unfold dZ;have:cf h0 i=false:=by rw[←Bool.not_eq_true,di];omega
  rw[this];rfl
 refine ig.aQ (dZ h0 p) (dZ h0 q) (hb.n.trans eP.n.symm) h1 (fun i hi=>(h2 i hi).1.1.1) (fun i hi=>(h2 i hi).1.1.2) (fun i hi=>(h2 i hi).1.2) (fun i hi=>(h2 i hi).2) (fun i hi=>uu i (by omega)) (fun i _=> ?_) fun i hi=> ?_
 ·left
  by_cases hk:i∈ks
  ·exact AV.GV _ _ _ (h3 i hk)
  ·rw[hb.t i hk,eP.t i hk,wU (τ:=id) uu _ (wM i),DE]
 ·have h5:=h4 i hi;split at h5
  ·next B B' e1 e2=>rw[e1,e2,aq.GV _ _ _ h5];rfl
  ·cases h5
def HW(N0:Nat)(K:St→Prop):Prop:=∀s s',ig N0 s s'→K s'→K s
theorem HW.c{N0:Nat}{K:St→Prop}(h:HW N0 K):sJ K:=fun s s' e hk=>h s' s (ig.of_eq e.symm) hk
theorem ah0{P:ake}{r:akd Nat}{N0:Nat}{s:St}{Q:Exit→St→Prop}{m:Bool}{id:Nat}{ops:Array Oper}(hm:P.follows .mixedOrders=true)
 (h:N0≤s.h.length→(∀i,(bB s.t i).aT s.h.length=true)→l6 m P ops (fun s1=>∃s2,ig N0 s1 s2∧Q .normal s2) ops.size (Array.replicate ops.size false) s):bJ P r N0 (.region id ops true) Q s:=by
 constructor
 intro G w a n hs hN;obtain⟨d1,d2⟩:=hs.drew;refine wpIn_region_any hm ?_;have hl:=hs.inv.len;refine EA (G:=G) (w:=w) (N0:=N0) (K:=fun s1=>∃s2,ig N0 s1 s2∧Q .normal s2) (fun a' w' hn=> ?_) ops.size _ G _ a s (d1.less hN) hN d2 (h (by omega) fun i=>by rw[hl];exact(hs.tmp i).low);obtain⟨G',s',x1,x2,x3,s2,e0,x4⟩:=hn;obtain⟨G2,y1,y2,y3⟩:=e0 G' w' a' x2 x3;exact⟨G2,s2,x1.trans y1,y2,y3,x4⟩
theorem acT{N0:Nat}(Q:St→Prop):HW N0 (fun s1=>∃s2,ig N0 s1 s2∧Q s2):=fun _ _ h ⟨s2,h1,h2⟩=>⟨s2,h.trans h1,h2⟩
def xh(f:Nat→Bool):Nat→Nat
 |0=>0
 |n+1=>bif f n then xh f n|||(1<<<n)else xh f n
theorem HF(f:Nat→Bool):∀(n j:Nat),Nat.testBit (xh f n) j=(decide (j<n)&&f j)
 |0,j=>by simp [xh]
 |n+1,j=>by
  unfold xh;have ih:=HF f n j;cases hf:f n with
  |true=>
   simp only[cond_true,Nat.testBit_or,ih,Nat.one_shiftLeft,Nat.testBit_two_pow];by_cases e:n=j
   ·subst e;simp [hf]
   ·have:decide (j<n+1)=decide (j<n):=by simp;omega
    rw[this];simp [e]
  |false=>
   simp only[cond_false,ih];by_cases e:n=j
   ·subst e;simp [hf]
   ·have:decide (j<n+1)=decide (j<n):=by simp;omega
    rw[this]
def fN{α:Type}(n:Nat)(f:Nat→α):α:=Nat.casesOn (Nat.succ n) (f 0) f
theorem DA{α:Type}(n:Nat)(f:Nat→α):fN n f=f n:=rfl
def fL{α:Type}:akb Nat→(akb Nat→α)→α
 |[],f=>f []
 |n::l,f=>fN n fun n=>fL l fun l=>f (n::l)
theorem Co{α:Type}:∀(l:akb Nat)(f:akb Nat→α),fL l f=f l
 |[],_=>rfl
 |n::l,f=>by rw[fL,DA,Co l]
section
variable (ops:Array Oper)
def zG(o:Oper)(n j:Nat):Bool:=o.after.any fun e=>Region.binds .any e&&(e.on==j||(j==n&&cf n e.on))
def Ge(k:Nat):Nat:=match ops[k]? with
 |some o=>xh (zG o ops.size) (ops.size+1)
 |none=>1<<<ops.size
def RS(m:Bool)(M:Array Nat)(k j:Nat):Bool:= !(j==k)&&(!((M.getD j 0).testBit k)&&match ops[k]?,ops[j]? with
 |some oi,some oj=> !(oi.apart ops oj&&As m oi oj)
 |_,_=>true)
def Ep(m:Bool)(M:Array Nat)(k:Nat):Nat:=xh (RS ops m M k) ops.size
def rl:Nat→Nat→akb Nat
 |_,0=>[]
 |k,n+1=>Ge ops k::rl (k+1) n
def oO(m:Bool)(M:Array Nat):Nat→Nat→akb Nat
 |_,0=>[]
 |k,n+1=>Ep ops m M k::oO m M (k+1) n
end
def pM:akb Nat→Nat→Nat→akb Nat
 |[],_,_=>[]
 |a::A,L,k=>bif !(Nat.testBit L k)&&(L&&&a==a)then k::pM A L (k+1)else pM A L (k+1)
def B7(C:akb Nat)(L:Nat):akb Nat→akd Nat
 |[]=>none
 |k::r=>bif (C.getD k 0)|||L==L then some k else B7 C L r
section
variable (ops:Array Oper) (st:Oper→St→akd St) (h0:Nat) (ks A C:akb Nat)
def me:akb Oper→akb Nat
 |[]=>[]
 |o::l=>match o.dst with
  |some d=>d::me l
  |none=>me l
end
theorem Io:∀{l:akb Oper}{o:Oper},o∈l→∀d,o.dst=some d→d∈me l
 |[],_,h,_,_=>by cases h
 |a::l,o,h,d,hd=>by
  unfold me;rcases ajR.1 h with rfl|h
  ·rw[hd];simp
  ·split
   ·exact ajw _ (Io h d hd)
   ·exact Io h d hd
theorem R1(ops:Array Oper):∀(n k i:Nat),(rl ops k n)[i]?=if i<n then some (Ge ops (k+i))else none
 |0,k,i=>by simp [rl]
 |n+1,k,0=>by simp [rl]
 |n+1,k,i+1=>by rw[rl,ajY,R1 ops n (k+1) i];simp only[Nat.add_lt_add_iff_right];rw[show k+1+i=k+(i+1) by omega]
theorem S8(ops:Array Oper)(m:Bool)(M:Array Nat):∀(n k i:Nat),(oO ops m M k n)[i]?=if i<n then some (Ep ops m M (k+i))else none
 |0,k,i=>by simp [oO]
 |n+1,k,0=>by simp [oO]
 |n+1,k,i+1=>by rw[oO,ajY,S8 ops m M n (k+1) i];simp only[Nat.add_lt_add_iff_right];rw[show k+1+i=k+(i+1) by omega]
theorem Pp{L:Nat}:∀(A:akb Nat)(k i:Nat),i∈pM A L k↔k≤i∧Nat.testBit L i=false∧∃a,A[i-k]?=some a∧L&&&a=a
 |[],k,i=>by simp [pM]
 |a::A,k,i=>by
  have ih:=Pp (L:=L) A (k+1) i;unfold pM;have key:i∈pM A L (k+1)↔k<i∧Nat.testBit L i=false∧∃b,(a::A)[i-k]?=some b∧L&&&b=b:=by
   rw[ih];constructor
   ·rintro⟨h1,h2,b,h3,h4⟩;refine⟨h1,h2,b,?_,h4⟩;rw[show i-k=(i-(k+1))+1 by omega,ajY];exact h3
   ·rintro⟨h1,h2,b,h3,h4⟩;refine⟨h1,h2,b,?_,h4⟩;rw[show i-k=(i-(k+1))+1 by omega,ajY]at h3;exact h3
  cases hb:(!(Nat.testBit L k)&&(L&&&a==a))with
  |true=>
   simp only[cond_true,ajR,key];simp only[ajp,Bool.not_eq_true',beq_iff_eq]at hb;constructor
   ·rintro(rfl|⟨h1,h2⟩)
    ·exact⟨ajy _,hb.1,a,by simp,hb.2⟩
    ·exact⟨by omega,h2⟩
   ·rintro⟨h1,h2⟩;rcases Nat.lt_or_eq_of_le h1 with h|h
    ·exact .inr ⟨h,h2⟩
    ·exact .inl h.symm
  |false=>
   simp only[cond_false,key];constructor
   ·rintro⟨h1,h2⟩;exact⟨by omega,h2⟩
   ·rintro⟨h1,h2,b,h3,h4⟩;rcases Nat.lt_or_eq_of_le h1 with h|h
    ·exact⟨h,h2,b,h3,h4⟩
    ·subst h;simp at h3;subst h3;rw[h2]at hb;simp at hb;exact absurd h4 hb
theorem RG{C:akb Nat}{L:Nat}:∀{r:akb Nat}{k:Nat},B7 C L r=some k→k∈r∧(C.getD k 0)|||L=L
 |[],k,h=>by cases h
 |a::r,k,h=>by
  unfold B7 at h;cases hb:((C.getD a 0)|||L==L)with
  |true=>rw[hb]at h;cases h;exact⟨by simp,by simpa using hb⟩
  |false=>rw[hb]at h;have:=RG h;exact⟨ajw _ this.1,this.2⟩
structure LM(ops:Array Oper)(L:Nat)(listed:Array Bool):Prop where
 sz:listed.size=ops.size
 b:∀i,Nat.testBit L i=listed.getD i false
theorem LM.set{ops:Array Oper}{L:Nat}{listed:Array Bool}(h:LM ops L listed){k:Nat}(hk:k<ops.size):LM ops (L|||(1<<<k)) (listed.setIfInBounds k true):=by
 refine⟨by simp [h.sz],fun i=> ?_⟩;rw[Nat.testBit_or,Nat.one_shiftLeft,Nat.testBit_two_pow,h.b i];by_cases e:k=i
 ·subst e;have:k<listed.size:=by rw[h.sz];exact hk
  simp [this]
 ·rw[getD_set_ne false e];simp [e]
theorem LM.ready{ops:Array Oper}{L:Nat}{listed:Array Bool}(h:LM ops L listed)(i:Nat):i∈Region.ready .any ops listed↔i∈pM (rl ops 0 ops.size) L 0:=by
 rw[mem_ready,Pp];simp only[Nat.zero_le,true_and,Nat.sub_zero,R1,ajH];have UZ:∀j,ops.size≤j→Nat.testBit L j=false:=fun j hj=>by
   rw[h.b,Array.getD_eq_getD_getElem?,Array.getElem?_eq_none (by rw[h.sz];exact hj)];rfl
 constructor
 ·rintro⟨h1,o,ho,h2⟩;have hi:=(ajC.1 ho).1;have hgd:listed.getD i false=false:=by
   have dg:i<listed.size:=by rw[h.sz];exact hi
   simpa [dg]using h1
  refine⟨by rw[h.b];exact hgd,_,by rw[if_pos hi],?_⟩;apply Nat.eq_of_testBit_eq;intro j;rw[Nat.testBit_and];unfold Ge;rw[ho];simp only[HF];cases hb:(decide (j<ops.size+1)&&zG o ops.size j)with
  |false=>simp
  |true=>
   simp only[Bool.and_true];rw[ajp]at hb;have hb:=hb.2;unfold zG at hb;rw[Array.any_eq_true']at hb;obtain⟨e,he,hb⟩:=hb;simp only[ajp,Bool.or_eq_true,beq_iff_eq,di]at hb;have h3:=h2 e he hb.1;have:e.on<ops.size:=by
    rcases Nat.lt_or_ge e.on ops.size with hl|hl
    ·exact hl
    ·have:=UZ e.on hl;rw[h.b]at this;rw[this]at h3;cases h3
   rcases hb.2 with hj|⟨_,hj⟩
   ·rw[←hj,h.b];exact h3
   ·omega
 ·rintro⟨h1,a,ha,h2⟩;split at ha
  ·next hi=>
   cases ha
   have ho:ops[i]?=some ops[i]:=ajJ hi;refine⟨?_,ops[i],ho,fun e he Ii=> ?_⟩
   ·rw[h.b]at h1;have dg:i<listed.size:=by rw[h.sz];exact hi
    simpa [dg]using h1
   ·have jM:∀j,j<ops.size+1→zG ops[i] ops.size j=true→Nat.testBit L j=true:=fun j hj hf=>by
     have:=congrArg (fun n=>Nat.testBit n j) h2;simp only[Nat.testBit_and]at this;unfold Ge at this;rw[ho]at this;simp only[HF]at this;rw[hf]at this
     simpa [hj]using this
    have QZ:∀j,(e.on==j||(j==ops.size&&cf ops.size e.on))=true→zG ops[i] ops.size j=true:=fun j hj=>by
     unfold zG;rw[Array.any_eq_true'];exact⟨e,he,by rw[Ii,hj];rfl⟩
    rcases Nat.lt_or_ge e.on ops.size with hl|hl
    ·rw[←h.b];exact jM e.on (by omega) (QZ _ (by simp))
    ·have:=jM ops.size (by omega) (QZ _ (by simp [di.2 hl]));rw[UZ _ (ajy _)]at this;cases this
  ·cases ha
section
variable {P:ake} {ops:Array Oper} {st:Oper→St→akd St} {h0:Nat} {m:Bool} {N0:Nat} {K:St→Prop} {s0:St}
end
end Go.Proofs.YtpgmcallngdceaaGreatDoor
namespace Go.Proofs.YtpgmcallngdceaaGreatDoor
open Go.RowKit
inductive Ex
 |n
 |r
 |x (id:Nat)
def KG{α:Type}(n:Nat)(f:Nat→α):α:=Nat.casesOn (Nat.succ n) (f 0) f
theorem Xr{α:Type}(n:Nat)(f:Nat→α):KG n f=f n:=rfl
def AV.force{α:Type}(x:AV)(f:AV→α):α:=
 match x with
 | .d (.v (.int k (.ofNat n)))=>KG n fun n=>f (.d (.v (.int k (.ofNat n))))
 | .d (.v (.bool b))=>bif b then f (.d (.v (.bool true)))else f (.d (.v (.bool false)))
 |x=>f x
theorem AV.force_eq{α:Type}(x:AV)(f:AV→α):x.force f=f x:=by
 unfold AV.force;split
 ·rw[Xr]
 ·next b=>cases b<;>rfl
 ·rfl
def Fs{α:Type}:akb aq→(akb aq→α)→α
 |[],f=>f []
 |b::l,f=>Fs l fun r=>f (b::r)
theorem VP{α:Type}:∀(l:akb aq)(f:akb aq→α),Fs l f=f l
 |[],_=>rfl
 |b::l,f=>by rw[Fs,VP l]
abbrev M7:=Bool→Nat→Code→St→akd (Ex×St)
abbrev OW:=FuncId→akb AV→akd (akd AV)
def ajd:akd (akd AV)→Bool
 |some none=>true
 |_=>false
mutual
def AV.SW:AV→akb Nat
 | .fn _ cs=>AV.Kt cs
 |_=>[]
def AV.Kt:akb AV→akb Nat
 |[]=>[]
 | .ptr n _::l=>n::AV.Kt l
 |x::l=>x.SW++AV.Kt l
end
def HM:akb Nat→AV→akb aq→akd (AV×akb aq)
 |[],r,h=>some (r,h)
 |b::l,r,h=>match h[b]? with
  |some (.cells cs)=>match lX cs with
   |some ds=>HM l (r.dQ b ds) ((h.map (aq.dQ b ds)).set b .gone)
   |none=>none
  |_=>none
def SK:AV→akd D
 | .d x=>some x
 |_=>none
def FU:akb AV→akd (akb D)
 |[]=>some []
 |x::l=>match SK x,FU l with
  |some d,some r=>some (d::r)
  |_,_=>none
def I7:akb (akb AV)→akd (akb (akb D))
 |[]=>some []
 |x::l=>match FU x,I7 l with
  |some d,some r=>some (d::r)
  |_,_=>none
mutual
def AV.Tm:AV→Bool
 | .vec .. =>true
 | .agg cs=>AV.Hx cs
 | .bk cs=>AV.Hx cs
 | .fn _ cs=>AV.Hx cs
 |_=>false
def AV.Hx:akb AV→Bool
 |[]=>false
 |x::l=>x.Tm||AV.Hx l
end
def ud:akb Nat→AV→akb aq→AV×akb aq
 |[],r,h=>(r,h)
 |b::l,r,h=>match h[b]? with
  |some (.vec _ k cs)=>match I7 cs with
   |some xs=>bif xs.all (fun c=>c.all D.te)then(r.cw b k xs).force fun r=>Fs ((h.map (aq.iV (AV.cw b k xs))).set b .gone) fun h=>ud l r h else ud l r h
   |none=>ud l r h
  |_=>ud l r h
def agU(h:akb aq):akb Nat:=(List.range h.length).reverse++(List.range h.length).reverse
def F3(r:AV)(h:akb aq):akd AV:=
 match HM r.SW r h with
 |some (r,_)=>some (r.bA 0)
 |none=>none
def S9(r:AV)(h:akb aq):akd AV:=
 bif r.Tm then(match ud (agU h) r h with|(r,h)=>F3 r h)else F3 r h
section
variable (run:M7) (P:ake) (UF:OW)
def ZV(lo:Nat)(f:FuncId)(args:akb AV)(h:akb aq):akd (AV×akb aq):=
 match P.funcs[f]? with
 |some fn=>match fn.body with
  |some c=>KG (args.length+(fn.ntmps-args.length)) fun n=>match run true lo c ⟨n,jH 0 args,h⟩with
   |some (.x _,_)=>none
   |some (_,s)=>match rB P s fn.results.toList with
    |some l=>some (iu l,s.h)
    |none=>none
   |none=>none
  |none=>none
 |none=>none
end
section
variable {run:M7} {P:ake} {UF:OW} {lo:Nat} {s s':St}
end
mutual
theorem B6(m:Nat):∀x:AV,x.aT m=true→x.bA m=x
 | .own n xs,h=>by
   rw[AV.aT]at h;rw[AV.bA];cases e:cf m n with
   |true=>rw[e]at h;cases h
   |false=>rfl
 | .agg cs,h=>by rw[AV.aT]at h;rw[AV.bA,IC m cs h]
 | .bk cs,h=>by rw[AV.aT]at h;rw[AV.bA,IC m cs h]
 | .fn f cs,h=>by rw[AV.aT]at h;rw[AV.bA,IC m cs h]
 | .d _,_=>by simp only[AV.bA]
 | .ptr ..,_=>by simp only[AV.bA]
 | .bD ..,_=>by simp only[AV.bA]
 | .full _,_=>by simp only[AV.bA]
 | .row ..,_=>by simp only[AV.bA]
 | .mp _,_=>by simp only[AV.bA]
 | .cE _,_=>by simp only[AV.bA]
 | .vec ..,_=>by simp only[AV.bA]
 | .cN ..,_=>by simp only[AV.bA]
 | .hid _,_=>by simp only[AV.bA]
 | .dead,_=>by simp only[AV.bA]
theorem IC(m:Nat):∀l:akb AV,AV.lV m l=true→AV.nC m l=l
 |[],_=>by simp [AV.nC]
 |x::l,h=>by
  rw[AV.lV,ajp]at h;rw[AV.nC,B6 m x h.1,IC m l h.2]
end
theorem ad4{m:Nat}{B:aq}(h:B.aT m=true):B.bA m=B:=by
 cases B with
 |cells cs=>
  simp only[aq.aT,ajN]at h;simp only[aq.bA]
  congr 1
  exact(ajS fun x hx=>B6 m x (h x hx)).trans (List.map_id _)
 |lp ls p as bd cs=>
  simp only[aq.aT,ajN]at h;simp only[aq.bA]
  congr 1
  exact(ajS fun x hx=>B6 m x (h x hx)).trans (List.map_id _)
 |it sn cs=>
  simp only[aq.aT,ajN]at h;simp only[aq.bA]
  congr 1
  exact(ajS fun x hx=>B6 m x (h x hx)).trans (List.map_id _)
 |vec e k cs=>
  simp only[aq.aT,ajN]at h;simp only[aq.bA]
  congr 1
  exact(ajS fun x hx=>(ajS fun y hy=>B6 m y (h x hx y hy)).trans (List.map_id _)).trans (List.map_id _)
 |front e k len=>rfl
 |map kv=>rfl
 |gone=>rfl
theorem Mu{m:Nat}{h:akb aq}(e:h.all (aq.aT m)=true):h.map (aq.bA m)=h:=
 (ajS fun B hB=>ad4 (ajN.1 e B hB)).trans (List.map_id _)
end Go.Proofs.YtpgmcallngdceaaGreatDoor
namespace Go.Proofs.YtpgmcallngdceaaGreatDoor
open Go.RowKit
section
variable {P:ake} {r:akd Nat} {n N0:Nat} {G:Gh} {w:akg} {a:Act} {s:St} {o:Oper} {Q:Exit→St→Prop}
end
theorem bO.cut{P:ake}{f:FuncId}{args:akb AV}{h h':akb aq}{r:AV}(m:Nat)(hc:bO P f args h fun r1 h1=>r1=r∧h1=h')(h1:h.length≤m)(h2:m≤h'.length)(hb:(((h'.take m).map (aq.bA m)).all (aq.aT m))=true)(hr:(r.bA m).aT m=true):
 bO P f args h fun r1 h1=>r1=r.bA m∧h1=(h'.take m).map (aq.bA m):=by
 refine⟨hc.1,fun G w vs hi hl hv=>(hc.2 G w vs hi hl hv).mono fun e w' hp=> ?_⟩;obtain⟨v,G',_,_,rfl,hE,hN,dg,Ki,rfl,rfl⟩:=hp;exact⟨v,G'.cut m,_,_,rfl,hE.trans (ni _ _ _ _),by rw[←hi.len];exact h1,Oc dg h2 hb,(Ki.bA m).cut hr,rfl,rfl⟩
section
variable {run:M7} {P:ake} {UF:OW} {lo:Nat} {s s':St}
theorem bO.PM{f:FuncId}{args:akb AV}{h0 h h2:akb aq}{r r2:AV}{tl:akb (Nat×AV)}(hc:bO P f args h0 fun r1 h1=>r1=r∧h1=h)
 (hT:∀(G:Gh)(w:akg)(a:Act),cx G w a ⟨1,[(0,r)],h⟩→∃G',bP G.N G w G' w∧G'.N=G.N∧cx G' w a ⟨1,(0,r2)::tl,h2⟩):bO P f args h0 fun r1 h1=>r1=r2∧h1=h2:=by
 refine⟨hc.1,fun G w vs hi hl hv=>(hc.2 G w vs hi hl hv).mono fun e w' hp=> ?_⟩;obtain⟨v,G',_,_,rfl,hE,hN,dg,Ki,rfl,rfl⟩:=hp;obtain⟨G2,e1,e2,e3⟩:=hT G' w' {tmps:= #[v],defers:=[]} ⟨rfl,fun i=>by
  show aL G' w' _ (bB [(0,_)] i);rw[lK];split
  ·next ei=>subst ei;exact Ki
  ·exact .dead _,dg,pF.nil _ _⟩
 exact⟨v,G2,r2,h2,rfl,hE.trans (e1.less hN),by rw[e2];exact hN,e3.inv,e3.tmp 0,rfl,rfl⟩
theorem Vj{f:FuncId}{args:akb AV}{h0:akb aq}:∀(l:akb Nat){h h2:akb aq}{r r2:AV},(bO P f args h0 fun r1 h1=>r1=r∧h1=h)→HM l r h=some (r2,h2)→bO P f args h0 fun r1 h1=>r1=r2∧h1=h2
 |[],h,h2,r,r2,hc,e=>by cases e;exact hc
 |b::l,h,h2,r,r2,hc,e=>by
  unfold HM at e;split at e
  ·next cs e1=>
   split at e
   ·next ds e2=>
    refine Vj l (bO.PM (tl:=[]) hc fun G w a hs=> ?_) e;refine hs.D5 (b:=b) ?_;simp only[Go.Proofs.YtpgmcallngdceaaGreatDoor.D5,e1,e2];rfl
   ·cases e
  ·cases e
theorem T0:∀{l:akb AV}{ds:akb D},FU l=some ds→l=ds.map AV.d
 |[],ds,h=>by cases h;rfl
 |x::l,ds,h=>by
  unfold FU at h;split at h
  ·next d r e1 e2=>
   cases h
   rw[T0 e2];cases x<;>simp [SK]at e1
   subst e1;rfl
  ·cases h
theorem T8:∀{l:akb (akb AV)}{xs:akb (akb D)},I7 l=some xs→l=bo xs
 |[],xs,h=>by cases h;rfl
 |x::l,xs,h=>by
  unfold I7 at h;split at h
  ·next d r e1 e2=>cases h;rw[T8 e2,T0 e1];rfl
  ·cases h
theorem Ce{f:FuncId}{args:akb AV}{h0:akb aq}:∀(l:akb Nat){h:akb aq}{r:AV},(bO P f args h0 fun r1 h1=>r1=r∧h1=h)→bO P f args h0 fun r1 h1=>r1=(ud l r h).1∧h1=(ud l r h).2
 |[],h,r,hc=>hc
 |b::l,h,r,hc=>by
  unfold ud;split
  ·next e k cs e1=>
   split
   ·next xs e2=>
    rw[AV.force_eq,VP,cond_eq_ite];split
    ·next h1=>
     refine Ce l (bO.PM (tl:=[]) hc fun G w a hs=> ?_);have e3:=T8 e2;exact hs.L1 xs (by show h[b]?=_;rw[e1,e3]) (fun c hc=>ajN.1 h1 c hc)
    ·exact Ce l hc
   ·exact Ce l hc
  ·exact Ce l hc
theorem QK{f:FuncId}{args:akb AV}{h:akb aq}{r r2:AV}(hc:bO P f args [] fun r1 h1=>r1=r∧h1=h)(e:S9 r h=some r2)(hb:r2.aT 0=true):aG P f args (·=r2):=by
 have fin:∀{r:AV}{h:akb aq},(bO P f args [] fun r1 h1=>r1=r∧h1=h)→(r.bA 0).aT 0=true→aG P f args (·=r.bA 0):=fun hc hb=>
  (hc.cut 0 (ajy _) (Nat.zero_le _) (by simp) hb).mono fun r1 h1 ⟨k1,k2⟩=>⟨by simpa using k2,k1⟩
 have gen:∀{r:AV}{h:akb aq},(bO P f args [] fun r1 h1=>r1=r∧h1=h)→F3 r h=some r2→aG P f args (·=r2):=fun hc e=>by
  unfold F3 at e;split at e
  ·next r3 h3 e1=>
   cases e
   exact fin (Vj _ hc e1) hb
  ·cases e
 unfold S9 at e;rcases afz e with⟨_,e⟩|⟨_,e⟩
 ·exact gen (Ce _ hc) e
 ·exact gen hc e
end
theorem Wv:∀(H' H e:akb aq),H'.length=H.length→fv (List.range H.length) H' (H++e)=H'++e:=by
 intro H' H e hl;have gen:∀(n:Nat)(a b B r:akb aq),b.length=n→B.length=n→fv ((List.range n).map (a.length+·)) B (a++(b++r))=a++(B++r):=by
  intro n
  induction n with
  |zero=>intro a b B r hb hB;rw[List.length_eq_zero_iff.1 hb,List.length_eq_zero_iff.1 hB];simp [fv]
  |succ n ih=>
   intro a b B r hb hB;cases b with
   |nil=>simp at hb
   |cons b0 b=>
    cases B with
    |nil=>simp at hB
    |cons B0 B=>
     rw[List.range_succ_eq_map,ajM,List.map_map,fv];have e1:(a++(b0::b++r)).set (a.length+0) B0=(a++[B0])++(b++r):=by
       rw[Nat.add_zero,List.set_append_right _ _ (ajy _),Nat.sub_self];simp
     have e2:(fun x=>a.length+x)∘Nat.succ=fun x=>(a++[B0]).length+x:=by
      funext x
      simp only[Function.comp_apply,ajo,ajq,ajz];omega
     rw[e1,e2,ih (a++[B0]) b B r (by simpa using hb) (by simpa using hB)];simp
 have:=gen H.length [] H H' e rfl hl
 simpa using this
theorem Kb{P:ake}{k:Nat}{x:AV}{H:akb aq}{C:Bool→akb aq→Prop}(hy:YS P k x H C)(e:akb aq)(hb:H.all (aq.aT H.length)=true)(hx:x.aT H.length=true)
 (hC:∀b h',C b h'→h'.length=H.length∧h'.all (aq.aT H.length)=true):YS P k x (H++e) fun b h'=>∃H',C b H'∧h'=H'++e:=by
 intro G w v r n hi hv;have vf:∀i,i<H.length→rn (List.range H.length) (H++e).length i=i:=fun i h=>zZ (List.range H.length) _ i i (by rw[List.getElem?_range h]);have Jn:∀y:AV,y.aT H.length=true→y.aQ (rn (List.range H.length) (H++e).length)=y:=fun y hy=>(wU (τ:=id) vf y hy).trans (DE y);have A8:∀B:aq,B.aT H.length=true→B.aQ (rn (List.range H.length) (H++e).length)=B:=fun B hB=>(Kr (τ:=id) vf B hB).trans (Nh B);obtain⟨G0,cm,ra,qZ,Kh⟩:=R9 (H:=H) (l:=List.range H.length) (h:=H++e) List.nodup_range (fun j hj=>by have:=List.mem_range.1 hj;simp;omega) (fun i j nV=>by
  obtain⟨aX,rfl⟩:i<H.length∧j=i:=by
   have h1:=(ajn.1 nV).1;rw[List.length_range]at h1;rw[List.getElem?_range h1]at nV;exact⟨h1,(ajG nV).symm⟩
  rw[ajx aX,ajr aX,Option.map_some,A8 _ (ajN.1 hb _ (List.getElem_mem aX))]) (by simp) hb hi
 obtain⟨hk,p,as,bd,fn,tm,D,h1,h2⟩:=hy G0 w v r n ra (aL.rJ qZ (by rw[Jn x hx];exact hv) x rfl (by rw[cm];exact hx));have gO:k<H.length:=cm▸hk;have ib:G.bm k=G0.bm k:=by
  have:=qZ.bm k hk
  rwa [vf k gO]at this
 refine⟨by have:=qZ.lt k hk;rwa [vf k gO]at this,p,as,bd,fn,tm,D,by rw[ib];exact h1,?_⟩;rw[ib];refine h2.mono fun e1 w' hp=> ?_;obtain⟨b,G1,H',rfl,hE,fb,iq,hc⟩:=hp;rw[cm]at hE fb;obtain⟨G2,a1,a2,a3,_⟩:=Kh G1 w' H' hE fb iq;obtain⟨c1,c2⟩:=hC b H' hc;refine⟨b,G2,H'++e,rfl,a1,a2,?_,H',hc,rfl⟩;have hm:H'.map (aq.aQ (rn (List.range H.length) (H++e).length))=H':=(ajS fun B hB=>A8 B (ajN.1 c2 B hB)).trans (List.map_id _);rw[hm,Wv H' H e c1]at a3;exact a3
def kY(P:ake)(k:Nat):akb AV→(Bool→akb aq→Prop)→akb aq→Prop
 |[],C,h=>C true h
 |x::l,C,h=>YS P k x h fun b h1=>(h1.length=h.length∧h1.all (aq.aT h.length)=true)∧bif b then kY P k l C h1 else C false h1
theorem S3{P:ake}{k:Nat}:∀(l:akb AV){C C':Bool→akb aq→Prop}{h:akb aq},(∀b h1,C b h1→C' b h1)→kY P k l C h→kY P k l C' h
 |[],_,_,_,hc,hs=>hc _ _ hs
 |x::l,C,C',h,hc,hs=>YS.mono hs fun b h1 ⟨h2,h3⟩=>⟨h2,by
  cases b with
  |true=>exact S3 l hc h3
  |false=>exact hc _ _ h3⟩
theorem SY{P:ake}{k:Nat}:∀(l l':akb AV){C:Bool→akb aq→Prop}{h:akb aq},kY P k (l++l') C h→kY P k l (fun b h1=>bif b then kY P k l' C h1 else C false h1) h
 |[],_,_,_,hs=>hs
 |x::l,l',C,h,hs=>YS.mono hs fun b h1 ⟨h2,h3⟩=>⟨h2,by
  cases b with
  |true=>exact SY l l' h3
  |false=>exact h3⟩
def tq(h h1:akb aq):Prop:=h1.length=h.length∧h1.all (aq.aT h.length)=true
def J6(P:ake)(gf:FuncId)(cV:akb AV)(xs:akb AV):Prop:=
 ∀(k:Nat)(h:akb aq)(C:Bool→akb aq→Prop),h.all (aq.aT h.length)=true→k<h.length→kY P k xs C h→bO P gf (.cE k::cV) h fun _ h1=>∃b,C b h1
def R6(P:ake)(T:TypeId):akb AV:=match gD P T with|some z=>z.cells.toList.map fun u=> .d (.v u)|none=>[]
section
variable {P:ake} {r:akd Nat} {N0:Nat} {Q:Exit→St→Prop} {ops:Array Oper} {o o1 o2 o3 o4 o5:Oper} {s:St} {K:St→Prop} {id:Nat}
theorem cv{rest:akb Oper}(hg:o.guard=none)(h:pD P o (qf P ops rest K) s):qf P ops (o::rest) K s:=by
 unfold qf aGuard;rw[hg];exact h
theorem Ed{n d:Nat}{t:akb (Nat×AV)}{h h':akb aq}{x:AV}{hd:HD}(hx:kx P o.op (ev ⟨n,t,h⟩) h=some (x,hd))(hY:o.dst=some d)(hn:Nat.ble n d=false)(he:hd.app h=h')(hK:K ⟨n,(d,x)::t,h'⟩):pD P o K ⟨n,t,h⟩:=by
 refine .inr (.inr (.inl (UB hx ?_)));show K ((St.wh ⟨n,t,h⟩ (hd.app h)).put o.dst x);rw[hY,he];have aX:d<n:=Nat.lt_of_not_le fun hle=>by rw[Nat.ble_eq_true_of_le hle]at hn;cases hn
 rw[rS (s:=St.wh ⟨n,t,h⟩ h') aX];exact hK
theorem cZ{n d:Nat}{t:akb (Nat×AV)}{h:akb aq}{x:AV}(hx:kx P o.op (ev ⟨n,t,h⟩) h=some (x, .same))(hY:o.dst=some d)(hn:Nat.ble n d=false)(hK:K ⟨n,(d,x)::t,h⟩):pD P o K ⟨n,t,h⟩:=Ed hx hY hn rfl hK
theorem MN{n:Nat}{t:akb (Nat×AV)}{h h':akb aq}{x:AV}{hd:HD}(hx:kx P o.op (ev ⟨n,t,h⟩) h=some (x,hd))(hY:o.dst=none)(he:hd.app h=h')(hK:K ⟨n,t,h'⟩):pD P o K ⟨n,t,h⟩:=by
 refine .inr (.inr (.inl (UB hx ?_)));show K ((St.wh ⟨n,t,h⟩ (hd.app h)).put o.dst x);rw[hY,he];exact hK
theorem Yh{h l:akb aq}{i off:Nat}{cs:akb AV}(hi:l[i]?=some (.cells cs)):w9 (h++l) (.ptr (h.length+i) off)=some (cs,off):=by
 unfold w9;simp only;rw[ajD (aj2 _ _),Nat.add_sub_cancel_left,hi]
theorem ze{ρ:Operand→AV}{h l:akb aq}{T:TypeId}{p:Operand}{i off:Nat}{cs:akb AV}{x:AV}(hp:ρ p= .ptr (h.length+i) off)(hi:l[i]?=some (.cells cs))(hl:Ad P T cs off=some x):kx P (.load T p) ρ (h++l)=some (x, .same):=by
 unfold kx;simp only[hp,Yh hi,hl,pX]
theorem abU{ρ:Operand→AV}{h l:akb aq}{T:TypeId}{y:Operand}{v:AV}(hv:ρ y=v)(hb:v.gR=true):kx P (.box T y) ρ (h++l)=some (.ptr (h.length+l.length) 0, .push (.cells v.cells)):=by
 subst hv;unfold kx;simp only[hb,cond_true,ajo]
theorem Nn{ρ:Operand→AV}{h l:akb aq}{T:TypeId}(hz:(gD P T).isSome=true):kx P (.alloc T) ρ (h++l)=some (.ptr (h.length+l.length) 0, .push (.cells (R6 P T))):=by
 unfold kx R6;cases e:gD P T with
 |none=>rw[e]at hz;cases hz
 |some z=>simp only[e,ajo]
theorem GI{h l:akb aq}{B:aq}:(HD.push B).app (h++l)=h++(l++[B]):=by simp [HD.app]
theorem Nv{ρ:Operand→AV}{h l:akb aq}{T:TypeId}{p y:Operand}{i off k:Nat}{cs:akb AV}{v:AV}(hp:ρ p= .ptr (h.length+i) off)(hi:l[i]?=some (.cells cs))(hk:eF P T=some k)(hv:ρ y=v)(hb:(k==v.cells.length&&v.gR&&cf (off+v.cells.length) cs.length)=true){ca:akb AV}(fg:fI cs off v.cells=ca):
 kx P (.store T p y) ρ (h++l)=some (.d (.v undef), .set (h.length+i) (.cells ca)):=by
 subst hv fg;unfold kx;simp only[hp,hk];rw[ajD (aj2 _ _),Nat.add_sub_cancel_left,hi];simp only[hb,cond_true]
theorem LV{ρ:Operand→AV}{h:akb aq}{T:TypeId}{a i:Operand}{xs:akb (akb D)}{q e k:Nat}{c:akb D}(hx:ρ a= .d (.sl xs))(hi:ρ i= .d (.v (.int .i64 (Int.ofNat q))))(hT:dF P T=some (e,k))(hc:xs[q]?=some c)(hk:(c.length==k)=true):kx P (.indexAddr T a i) ρ h=some (.bD [c] 0 0, .same):=by
 unfold kx;simp only[hx,hi];unfold HJ;simp only[hT,AV.ej,AV.int?,zN,hc,hk,cond_true,pX]
theorem M6{h l:akb aq}{B:aq}{i:Nat}:(HD.set (h.length+i) B).app (h++l)=h++l.set i B:=by
 simp only[HD.app];rw[List.set_append_right _ _ (aj2 _ _),Nat.add_sub_cancel_left]
theorem HU{n d:Nat}{t:akb (Nat×AV)}{h:akb aq}{T:TypeId}{x y:Operand}{p:TypeId}{xs:akb (akb D)}{q:TypeId×Nat}(ho:o.op= .binOp .eql T x y p)(hx:(ev ⟨n,t,h⟩ x).ej=some xs)(hy:ev ⟨n,t,h⟩ y= .d (.v (.slice none 0 0)))(hT:dF P T=some q)(hY:o.dst=some d)(hn:Nat.ble n d=false)
 (h1:xs=[]→K ⟨n,(d, .d (.v (.bool true)))::t,h⟩) (h2:K ⟨n,(d, .d (.v (.bool false)))::t,h⟩):pD P o K ⟨n,t,h⟩:=by
 refine .inr (.inl ?_);have aX:d<n:=Nat.lt_of_not_le fun hle=>by rw[Nat.ble_eq_true_of_le hle]at hn;cases hn
 unfold Em;simp only[ho,hx,hy,hT,wm,hY,rS (s:=⟨n,t,h⟩) aX];exact⟨h1,h2⟩
theorem Iu{n d k:Nat}{t:akb (Nat×AV)}{h:akb aq}{c:Call}{f:Operand}{x:AV}(ho:o.op= .call c)(hc:c.callee= .value f)(hf:ev ⟨n,t,h⟩ f= .cE k)(hx:c.args.toList.map (ev ⟨n,t,h⟩)=[x])(hY:o.dst=some d)(hn:Nat.ble n d=false)
 (hy:YS P k x h fun b h'=>K ⟨n,(d, .d (.v (.bool b)))::t,h'⟩):pD P o K ⟨n,t,h⟩:=by
 refine .inr (.inr (.inr (.inl ?_)));unfold H3;simp only[ho,hc,hf,hx];refine hy.mono fun b h' hK=> ?_;have aX:d<n:=Nat.lt_of_not_le fun hle=>by rw[Nat.ble_eq_true_of_le hle]at hn;cases hn
 rw[hY,rS (s:=St.wh ⟨n,t,h⟩ h') aX];exact hK
theorem Uj{n:Nat}{t:akb (Nat×AV)}{h:akb aq}{c:Call}{f:Operand}{g:FuncId}{cV:akb AV}(ho:o.op= .call c)(hc:c.callee= .value f)(hf:ev ⟨n,t,h⟩ f= .fn g cV)
 (hA:bO P g (c.args.toList.map (ev ⟨n,t,h⟩)++cV) h fun x h'=>K ((St.wh ⟨n,t,h⟩ h').put o.dst x)):pD P o K ⟨n,t,h⟩:=by
 refine .inr (.inr (.inl ?_));unfold n5 cn;simp only[ho,hc,hf];exact hA
end
theorem abI{P:ake}{f:FuncId}{args:akb AV}{H:akb aq}{K:AV→akb aq→Prop}(hc:bO P f args H K)(e:akb aq)(hb:H.all (aq.aT H.length)=true)(ha:args.all (AV.aT H.length)=true)
 (hK:∀r h',K r h'→h'.length=H.length∧h'.all (aq.aT H.length)=true∧r.aT H.length=true):bO P f args (H++e) fun r h'=>∃H',K r H'∧h'=H'++e:=by
 have vf:∀i,i<H.length→rn (List.range H.length) (H++e).length i=i:=fun i h=>zZ (List.range H.length) _ i i (by rw[List.getElem?_range h]);have Jn:∀y:AV,y.aT H.length=true→y.aQ (rn (List.range H.length) (H++e).length)=y:=fun y hy=>(wU (τ:=id) vf y hy).trans (DE y);have A8:∀B:aq,B.aT H.length=true→B.aQ (rn (List.range H.length) (H++e).length)=B:=fun B hB=>(Kr (τ:=id) vf B hB).trans (Nh B);have:=hc.Rf (l:=List.range H.length) (h:=H++e) List.nodup_range (fun j hj=>by have:=List.mem_range.1 hj;simp;omega) (fun i j nV=>by
  obtain⟨aX,rfl⟩:i<H.length∧j=i:=by
   have h1:=(ajn.1 nV).1;rw[List.length_range]at h1;rw[List.getElem?_range h1]at nV;exact⟨h1,(ajG nV).symm⟩
  rw[ajx aX,ajr aX,Option.map_some,A8 _ (ajN.1 hb _ (List.getElem_mem aX))]) (by simp) ha hb
 have ea:args.map (AV.aQ (rn (List.range H.length) (H++e).length))=args:=(ajS fun x hx=>Jn x (ajN.1 ha x hx)).trans (List.map_id _);rw[ea]at this;refine this.mono fun r' h' ⟨r,H',k1,k2,k3⟩=> ?_;obtain⟨c1,c2,c3⟩:=hK r H' k1;have hm:H'.map (aq.aQ (rn (List.range H.length) (H++e).length))=H':=(ajS fun B hB=>A8 B (ajN.1 c2 B hB)).trans (List.map_id _);rw[hm,Wv H' H e c1]at k3;rw[Jn r c3]at k2;exact⟨H',by rw[k2];exact k1,k3⟩
theorem ahl{h:akb aq}{p:AV}{K K':akb AV→Nat→Prop}(hk:∀cs off,K cs off→K' cs off)(hp:qk h p K):qk h p K':=by
 unfold qk at hp ⊢;split at hp
 ·next n off=>
  split at hp
  ·next cs e=>(try simp only[e]);exact hk _ _ hp
  ·exact hp.elim
 ·next xs i off=>
  split at hp
  ·next cs e=>(try simp only[e]);exact hk _ _ hp
  ·exact hp.elim
 ·exact hp.elim
theorem Zv{P:ake}{T:TypeId}{h:akb aq}{p:AV}{K K':AV→Prop}(hk:∀x,K x→K' x)(hp:mm P T h p K):mm P T h p K':=
 ahl (fun cs off hc=>by
  split at hc
  ·next k e1 e2=>
   try simp only[e1,e2]
   exact bN.2 ⟨(bN.1 hc).1,hk _ (bN.1 hc).2⟩
  ·next k e1 e2=>
   try simp only[e1,e2]
   split at hc
   ·next c e3=>(try simp only[e3]);exact hk _ hc
   ·exact hc.elim
  ·exact hc.elim) hp
theorem XT{P:ake}{fn:Func}{n:Nat}{t:akb (Nat×AV)}{H l:akb aq}{K:AV→akb aq→Prop}(hb:H.all (aq.aT H.length)=true)(hr:kO P ⟨n,t,H++l⟩ fn.results.toList fun rs=>((iu rs).bA H.length).aT H.length=true∧K ((iu rs).bA H.length) H):ou P fn H.length K ⟨n,t,H++l⟩:=by
 have ht:(((H++l).take H.length).map (aq.bA H.length))=H:=by rw[List.take_left];exact Mu hb
 unfold ou;show kO P ⟨n,t,H++l⟩ fn.results.toList fun rs=>H.length≤(H++l).length∧_;simp only[ht];have gen:∀(rv:akb ResultVar){C C':akb AV→Prop},(∀x,C x→C' x)→kO P ⟨n,t,H++l⟩ rv C→kO P ⟨n,t,H++l⟩ rv C':=by
  intro rv
  induction rv with
  |nil=>intro C C' hc h;exact hc _ h
  |cons x rv ih=>
   intro C C' hc h;cases x with
   |tmp t=>exact ih (fun y hy=>hc _ hy) h
   |cell p t=>exact Zv (fun x h=>ih (fun y hy=>hc _ hy) h) h
 exact gen _ (fun rs ⟨h1,h2⟩=>⟨by simp,h1,hb,h2⟩) hr
theorem Eh{n:Nat}{t:akb (Nat×AV)}{H l:akb aq}(live:akb Nat)(hb:H.all (aq.aT H.length)=true):(⟨n,t,H++l⟩:St).mask live H.length=⟨n,live.map fun k=>(k,(bB t k).bA H.length),H⟩:=by
 unfold St.mask;rw[show((H++l).take H.length).map (aq.bA H.length)=H by rw[List.take_left];exact Mu hb]
theorem Dj{n:Nat}{t:akb (Nat×AV)}{H l:akb aq}(live:akb Nat)(hb:H.all (aq.aT H.length)=true)(hl:(live.all fun k=>((bB t k).bA H.length).aT H.length)=true):(⟨n,t,H++l⟩:St).zp live H.length:=
 ⟨by simp,hl,by rw[show((H++l).take H.length).map (aq.bA H.length)=H by rw[List.take_left];exact Mu hb];exact hb⟩
theorem Pu{n:Nat}{t:akb (Nat×AV)}{H:akb aq}(live:akb Nat)(hb:H.all (aq.aT H.length)=true):(⟨n,t,H⟩:St).mask live H.length=⟨n,live.map fun k=>(k,(bB t k).bA H.length),H⟩:=by
 have:=Eh (n:=n) (t:=t) (l:=[]) live hb
 rwa [ajI]at this
theorem VI{n:Nat}{t:akb (Nat×AV)}{H:akb aq}(live:akb Nat)(hb:H.all (aq.aT H.length)=true)(hl:(live.all fun k=>((bB t k).bA H.length).aT H.length)=true):(⟨n,t,H⟩:St).zp live H.length:=by
 have:=Dj (n:=n) (t:=t) (l:=[]) live hb hl
 rwa [ajI]at this
theorem GC{k m:Nat}(h:k<m):((AV.cE k).bA m).aT m=true:=by simp [AV.bA,AV.aT,cf];omega
structure Ij(s:St)(m:Nat)(s':St):Prop where
 cut:∀{G:Gh}{w:World}{a:Act},cx G w a s→cx (G.cut m) w a s'
theorem Ij.S{s s':St}{live:akb Nat}{m:Nat}(h:ia s live m=some s'):Ij s m s':=⟨fun hs=>hs.ia h⟩
theorem aaR{P:ake}{r:akd Nat}{N0 m:Nat}{c:Code}{s:St}{R R':Exit→St→Prop}(hm:N0≤m)(h:bJ P r N0 c R s)(hR:∀e s2,R e s2→∃s',Ij s2 m s'∧R' e s'):bJ P r N0 c R' s:=by
 constructor
 intro G w a n hs hN;refine wpIn_mono (h.run G w a n hs hN) fun e a1 w1 hn=> ?_;obtain⟨G1,s1,hE,_,dS,hq⟩:=hn;obtain⟨s',k1,k2⟩:=hR e s1 hq;exact⟨G1.cut m,s',hE.trans (ni _ _ _ _),hm,k1.cut dS,k2⟩
def II(m:Nat)(n:Nat)(T:akb (Nat×AV))(LP:aq)(next:akb aq→Prop)(Q:Exit→St→Prop)(e:Exit)(s:St):Prop:=
 ∃hs,hs.length=m∧hs.all (aq.aT (m+1))=true∧Ij s (m+1) ⟨s.n,[],hs++[LP]⟩∧match e with
  | .normal=>next hs
  | .ret=>Q .ret ⟨n,T,hs++[.gone]⟩
  | .exit i=>Q (.exit i) ⟨n,T,hs++[.gone]⟩
  |_=>False
theorem N9{P:ake}{N0 n m:Nat}{T:akb (Nat×AV)}{H:akb aq}{Q:Exit→St→Prop}{g:Operand}{p:Nat}{as bd:Code}{gf:FuncId}{cV:akb AV}(hg:ev ⟨n,T,H⟩ g= .fn gf cV){α:Type}{enc:α→AV}{xs:akb α}(hI:J6 P gf cV (xs.map enc))
 {ι:Type} (Hs:ι→akb aq) (I:ι→akb α→Prop) (i0:ι) (h0:H=Hs i0) (ra:I i0 xs) (hl:∀i,(Hs i).length=m) (nc:∀i,(Hs i).all (aq.aT (m+1))=true) (hT:(dy n T).all (AV.aT (m+1))=true) (hp:Nat.ble n p=false)
 (round:∀i x l,I i (x::l)→∀(rr:Nat)(a b:Code),bJ P (some rr) (m+1) as (gA (fun s1=>∃hs e,hs.length=m∧s1.h=hs++ .lp .ready p a b (dy n T)::e∧
  bJ P (some rr) (m+1) bd (II m n T (.lp .busy p a b (dy n T)) (fun cp=>∃i',cp=Hs i'∧I i' l) Q) ⟨s1.n,s1.t,hs++ .lp .busy p a b (dy n T)::e⟩) (fun _ _=>False)) ⟨n,(p,enc x)::jH 0 (dy n T),Hs i++[.lp .ready p a b (dy n T)]⟩)
 (done:∀i,I i []→Q .normal ⟨n,T,Hs i++[.gone]⟩):bJ P none N0 (.rangeFunc g #[p] as bd) Q ⟨n,T,H⟩:=by
 subst h0;have hm:(Hs i0).length=m:=hl i0;have UP:(dy n T).length=n:=by simp [dy]
 have JC:∀ls,(aq.lp ls p as bd (dy n T)).aT (m+1)=true:=fun ls=>hT;refine age hg ?_;show bO P gf (.cE (Hs i0).length::cV) (Hs i0++[.lp .ready p as bd (dy n T)]) _;have IU:∀(hs:akb aq)(B B':aq),hs.length=m→(hs++[B]).set m B'=hs++[B']:=fun hs B B' h=>by
  rw[List.set_append_right _ _ (Nat.le_of_eq h),h,Nat.sub_self];rfl
 have dT:∀(hs:akb aq)(B:aq)(e:akb aq),hs.length=m→(hs++B::e)[m]?=some B:=fun hs B e h=>by
  rw[ajD (Nat.le_of_eq h),h,Nat.sub_self];rfl
 have seq:∀(l:akb α)(i:ι),I i l→kY P m (l.map enc) (fun b h1=>∃(hs:akb aq)(ls:LS),hs.length=m∧h1=hs++[.lp ls p as bd (dy n T)]∧KR P N0 Q ⟨n,T,hs++[.gone]⟩ ls) (Hs i++[.lp .ready p as bd (dy n T)]):=by
  intro l
  induction l with
  |nil=>intro i hi;exact⟨Hs i, .ready,hl i,rfl,done i hi⟩
  |cons x l ih=>
   intro i hi;have hlen:(Hs i++[aq.lp .ready p as bd (dy n T)]).length=m+1:=by simp [hl i]
   refine afi ⟨p,as,bd,dy n T,dT _ _ [] (hl i),?_,fun rr=> ?_⟩
   ·rw[UP];exact Nat.lt_of_not_le fun hle=>by rw[Nat.ble_eq_true_of_le hle]at hp;cases hp
   ·rw[hlen,UP];refine(round i x l hi rr as bd).mono fun e s1 dS=> ?_;cases e with
    |normal=>
     obtain⟨hs,e',k1,k2,k3⟩:=dS;refine⟨p,as,bd,dy n T,by rw[k2];exact dT _ _ _ k1,?_⟩;have hse:s1.h.set m (.lp .busy p as bd (dy n T))=hs++ .lp .busy p as bd (dy n T)::e':=by
      rw[k2,List.set_append_right _ _ (Nat.le_of_eq k1),k1,Nat.sub_self];rfl
     rw[hse];refine aaR (ajy _) k3 fun e2 s2 hr=> ?_;obtain⟨yQ,c2,c5,c3,c4⟩:=hr;refine⟨_,c3,?_⟩;have dW:∀B,B.aT (m+1)=true→(yQ++[B]).all (aq.aT (m+1))=true:=fun B hB=>by
       rw[List.all_append,c5];simp [hB]
     have ES:(yQ++[aq.lp .busy p as bd (dy n T)])[m]?=some (.lp .busy p as bd (dy n T)):=dT _ _ [] c2;cases e2 with
     |normal=>
      obtain⟨i',rfl,dg⟩:=c4;refine⟨p,as,bd,dy n T,ES,?_⟩;simp only[IU _ _ _ c2];exact⟨⟨by simp [hl],dW _ (JC _)⟩,ih i' dg⟩
     |ret=>
      refine⟨p,as,bd,dy n T,ES,?_⟩;simp only[IU _ _ _ c2];exact⟨⟨by simp [c2],dW _ (JC _)⟩,yQ, .done .ret,c2,rfl,dV c4⟩
     |exit j=>
      refine⟨p,as,bd,dy n T,ES,?_⟩;simp only[IU _ _ _ c2];exact⟨⟨by simp [c2],dW _ (JC _)⟩,yQ, .done (.exit j),c2,rfl,pk c4⟩
     |_=>exact c4.elim
    |_=>exact dS.elim
 have RU:(Hs i0++[aq.lp .ready p as bd (dy n T)]).length=m+1:=by simp [hm]
 refine(hI (Hs i0).length _ _ (by rw[RU,List.all_append,nc i0];simp [JC]) (by rw[RU,hm];exact aj9 m) (by rw[hm];exact seq xs i0 ra)).mono fun _ h1 hb=> ?_;obtain⟨b,hs,ls,k1,rfl,k2⟩:=hb;refine⟨ls,p,as,bd,dy n T,?_,?_⟩
 ·show(hs++[aq.lp ls p as bd (dy n T)])[(Hs i0).length]?=_;rw[hm];exact dT _ _ [] k1
 ·show KR P N0 Q ⟨n,T,(hs++[aq.lp ls p as bd (dy n T)]).set (Hs i0).length .gone⟩ ls;rw[hm,IU _ _ _ k1];exact k2
section
variable {m n:Nat} {T:akb (Nat×AV)} {LP:aq} {next:akb aq→Prop} {Q:Exit→St→Prop} {s:St}
theorem MC(hs:akb aq)(hl:hs.length=m)(hb:hs.all (aq.aT (m+1))=true)(hc:ia s [] (m+1)=some ⟨s.n,[],hs++[LP]⟩)(hn:next hs):II m n T LP next Q .normal s:=⟨hs,hl,hb, .S hc,hn⟩
theorem Vg(hs:akb aq)(hl:hs.length=m)(hb:hs.all (aq.aT (m+1))=true)(hc:ia s [] (m+1)=some ⟨s.n,[],hs++[LP]⟩)(hq:Q .ret ⟨n,T,hs++[.gone]⟩):II m n T LP next Q .ret s:=⟨hs,hl,hb, .S hc,hq⟩
theorem abQ{i:Nat}(hs:akb aq)(hl:hs.length=m)(hb:hs.all (aq.aT (m+1))=true)(hc:ia s [] (m+1)=some ⟨s.n,[],hs++[LP]⟩)(hq:Q (.exit i) ⟨n,T,hs++[.gone]⟩):II m n T LP next Q (.exit i) s:=⟨hs,hl,hb, .S hc,hq⟩
end
set_option linter.unusedSimpArgs false
set_option linter.unusedVariables false
abbrev Lf:=St×akb Nat×akb (Nat×akb (In×bX))
def tM(go:Nat→akd (akb Lf)):akb Nat→akd (akb Lf)
 |[]=>some []
 |k::r=>match go k with
  |some a=>match tM go r with
   |some b=>some (a++b)
   |none=>none
  |none=>none
def yn(P:ake)(ops:Array Oper)(A C:akb Nat)(as:akb (Nat×bX)):Nat→Nat→akb Nat→akb (Nat×akb (In×bX))→St→akd (akb Lf)
 |0,L,al,acc,s=>match pM A L 0 with
  |[]=>some [(s,al,acc)]
  |_=>none
 |f+1,L,al,acc,s=>match pM A L 0 with
  |[]=>some [(s,al,acc)]
  |k0::r=>tM (fun k=>match ops[k]? with
     |some o=>match mK P ops true o k as s with
      |some (s1,l)=>fN (L|||(1<<<k)) fun L=>yn P ops A C as f L (al++List.replicate (s1.h.length-s.h.length) k) ((k,l)::acc) s1
      |none=>none
     |none=>none) (match B7 C L (k0::r)with
      |some k=>[k]
      |none=>k0::r)
theorem Qw{go:Nat→akd (akb Lf)}:∀{l:akb Nat}{ls:akb Lf},tM go l=some ls→∀k∈l,∃a,go k=some a∧∀x∈a,x∈ls
 |[],_,_,k,hk=>by cases hk
 |j::r,ls,h,k,hk=>by
  unfold tM at h;split at h
  ·next a e1=>
   split at h
   ·next b e2=>
    cases h
    rcases ajR.1 hk with rfl|hk
    ·exact⟨a,e1,fun x hx=>List.mem_append_left _ hx⟩
    ·obtain⟨a',e3,h3⟩:=Qw e2 k hk;exact⟨a',e3,fun x hx=>List.mem_append_right _ (h3 x hx)⟩
   ·cases h
  ·cases h
section
variable {P:ake} {ops:Array Oper} {as:akb (Nat×bX)} {K:St→Prop} {s0:St}
theorem ahN{o:Oper}{j:Nat}{dr:Bool}{s s1:St}{l:akb (In×bX)}(h:mK P ops dr o j as s=some (s1,l))(ho:o∈ops.toList)(hB:j0 (me ops.toList) s0 s):j0 (me ops.toList) s0 s1:=by
 have cI:∀{i a r l},s7 i a r=some (s1,l)→∃m,r=some (s1,m):=fun{i a r l} h=>by
  unfold s7 at h;split at h
  ·exact⟨_,h⟩
  ·split at h
   ·cases h;exact⟨_,rfl⟩
   ·cases h
 have cR:∀{m r l},oK m r=some (s1,l)→∃m,r=some (s1,m):=fun{m r l} h=>by
  unfold oK at h;split at h
  ·cases h;exact⟨_,rfl⟩
  ·cases h
 have Qi:j0 (me ops.toList) s0 (DU o s):=hB.put s.h (.d (.v undef)) (Io ho);have st:∀l,nX P dr o j as s=some (s1,l)→j0 (me ops.toList) s0 s1:=fun l h=>by
  unfold nX at h;cases hd:dr&&CI (gM as (3*j+1))&& !Aq o (gM as (3*j+1))with
  |true=>rw[hd]at h;cases h
  |false=>
   rw[hd]at h;simp only[cond_false]at h;split at h
   ·split at h<;>(obtain⟨m,e⟩:=cI h;cases e;exact hB.put _ _ (Io ho))
   ·cases h
 unfold mK at h;split at h
 ·exact st _ h
 ·split at h
  ·obtain⟨m,e⟩:=cR h;revert e;generalize ((_:Bool)==_)=q;intro e;cases q with
   |true=>exact st _ e
   |false=>cases e;exact Qi
  ·obtain⟨m,e⟩:=cR h;cases e;exact Qi
  ·cases h
theorem Uu(hK:sJ K)(hM:pJ (Region.before ops) ops=true)(t0:akb (Nat×AV)):
 ∀(fuel L:Nat)(listed:Array Bool)(al:akb Nat)(acc:akb (Nat×akb (In×bX)))(s:St)(ls:akb Lf),LM ops L listed→Dn ops listed→yn P ops (rl ops 0 ops.size) (oO ops false (Region.before ops) 0 ops.size) as fuel L al acc s=some ls→
  (∃x,x∈ls)∧(∀x∈ls,(∀p∈acc,p∈x.2.2)∧((∃pre,s.t=pre++t0)→∃pre,x.1.t=pre++t0)∧(j0 (me ops.toList) s0 s→j0 (me ops.toList) s0 x.1))∧((∀x∈ls,(∀p∈x.2.2,fS P p.2)∧K x.1)→l6 false P ops K fuel listed s)
 |0,L,listed,al,acc,s,ls,hL,hD,h=>by
  unfold yn at h;split at h
  ·next hr=>
   cases h
   refine⟨⟨_,ajt⟩,fun x hx=> ?_,fun hk=>⟨?_,(hk _ ajt).2⟩⟩
   ·rw[List.mem_singleton]at hx;subst hx;exact⟨fun _ h=>h,fun h=>h,fun h=>h⟩
   ·rw[List.eq_nil_iff_forall_not_mem];intro i hi;have:=(hL.ready i).1 hi;rw[hr]at this;cases this
  ·cases h
 |fuel+1,L,listed,al,acc,s,ls,hL,hD,h=>by
  have mem:∀{k:Nat}{o:Oper},ops[k]?=some o→o∈ops.toList:=fun ho=>Array.mem_toList_iff.2 (Array.mem_of_getElem? ho);unfold yn at h;split at h
  ·next hr=>
   cases h
   refine⟨⟨_,ajt⟩,fun x hx=> ?_,fun hk=>⟨fun _=>(hk _ ajt).2,fun i hi=> ?_⟩⟩
   ·rw[List.mem_singleton]at hx;subst hx;exact⟨fun _ h=>h,fun h=>h,fun h=>h⟩
   ·have:=(hL.ready i).1 hi;rw[hr]at this;cases this
  ·next k0 r hr=>
   generalize hgo:(fun k:Nat=>(match ops[k]? with
    |some o=>match mK P ops true o k as s with
     |some (s1,l)=>fN (L|||(1<<<k)) fun L=>yn P ops (rl ops 0 ops.size) (oO ops false (Region.before ops) 0 ops.size) as fuel L (al++List.replicate (s1.h.length-s.h.length) k) ((k,l)::acc) s1
     |none=>none
    |none=>none:akd (akb Lf)))=go at h
   have one:∀k a,k∈Region.ready .any ops listed→go k=some a→∃o s1 l,ops[k]?=some o∧mK P ops true o k as s=some (s1,l)∧(∃x,x∈a)∧(∀x∈a,(∀p∈(k,l)::acc,p∈x.2.2)∧((∃pre,s.t=pre++t0)→∃pre,x.1.t=pre++t0)∧(j0 (me ops.toList) s0 s→j0 (me ops.toList) s0 x.1))∧
       ((∀x∈a,(∀p∈x.2.2,fS P p.2)∧K x.1)→∃y h1,lM false P ops o s y h1∧l6 false P ops K fuel (listed.setIfInBounds k true) ((s.wh h1).put o.dst y)):=fun k a Jx tK=>by
    rw[←hgo]at tK;simp only at tK;split at tK
    ·next o ho=>
     split at tK
     ·next s1 l hg=>
      rw[DA]at tK;obtain⟨h1,h2,h3⟩:=Uu hK hM t0 fuel _ _ _ _ s1 a (hL.set (ajC.1 ho).1) (hD.set Jx) tK;refine⟨o,s1,l,ho,hg,h1,fun x hx=>⟨(h2 x hx).1,fun⟨pre,hp⟩=> ?_,fun hB=>(h2 x hx).2.2 (ahN hg (mem ho) hB)⟩,fun hk=> ?_⟩
      ·obtain⟨⟨p1,e1⟩,_⟩:=TJ hg;exact(h2 x hx).2.1 ⟨p1++pre,by rw[e1,hp,ajE]⟩
      ·obtain⟨x,hx⟩:=h1;have hl:fS P l:=(hk x hx).1 (k,l) ((h2 x hx).1 _ ajt);have h4:=Mi (K:=(·=s1)) hg hl rfl;have h5:=h3 hk;have:∃y h1,lM false P ops o s y h1∧(s.wh h1).put o.dst y=s1:=by
        rcases Mp h4 with⟨g,hd⟩|⟨g,hd⟩
        ·obtain⟨y,h1,h2,h3⟩:=MD hd;exact⟨y,h1, .inl ⟨g,h2⟩,h3⟩
        ·exact⟨_,s.h, .inr ⟨g,rfl,rfl⟩,hd⟩
       obtain⟨y,hh,q1,rfl⟩:=this;exact⟨y,hh,q1,h5⟩
     ·cases tK
    ·cases tK
   cases hf:B7 (oO ops false (Region.before ops) 0 ops.size) L (k0::r)with
   |some k=>
    rw[hf]at h;obtain⟨sG,Jg⟩:=RG hf;have Jx:k∈Region.ready .any ops listed:=(hL.ready k).2 (by rw[hr];exact sG);unfold tM at h;split at h
    ·next a e1=>
     unfold tM at h;simp only[ajI]at h;cases h
     obtain⟨o,s1,l,ho,hg,h1,h2,h3⟩:=one k _ Jx e1;refine⟨h1,fun x hx=>⟨fun p hp=>(h2 x hx).1 p (ajw _ hp),(h2 x hx).2⟩,fun hk=> ?_⟩;obtain⟨y,hh,q1,q2⟩:=h3 hk;refine N3 hK hM ho fuel listed s hD (fun j oj hj cu pY uz=> ?_) Jx q1 q2;have P5:=(ajC.1 hj).1;have Dg:=(ajC.1 ho).1;have ac3:Nat.testBit L j=false:=by
      rw[hL.b];have gY:j<listed.size:=by rw[hL.sz];exact P5
      simpa [gY]using pY
     have Ai:Nat.testBit (Ep ops false (Region.before ops) k) j=false:=by
      rw[←Bool.not_eq_true];intro hc;have h5:(oO ops false (Region.before ops) 0 ops.size).getD k 0=Ep ops false (Region.before ops) k:=by
        rw[List.getD_eq_getElem?_getD,S8,if_pos Dg,ajH];rfl
      rw[h5]at Jg;have:=congrArg (fun n=>Nat.testBit n j) Jg;simp only[Nat.testBit_or,hc,ac3]at this;cases this
     unfold Ep at Ai;rw[HF]at Ai;unfold RS at Ai;rw[uz,ho,hj]at Ai;simp [P5,cu]at Ai;exact Ai
    ·cases h
   |none=>
    rw[hf]at h;have Q2:=Qw h;have LQ:k0∈Region.ready .any ops listed:=(hL.ready k0).2 (by rw[hr];simp);have back:∀(l:akb Nat)(ls:akb Lf),tM go l=some ls→∀x∈ls,∃k∈l,∃a,go k=some a∧x∈a:=by
      intro l
      induction l with
      |nil=>intro ls h x hx;cases h;cases hx
      |cons j r ih=>
       intro ls h x hx;unfold tM at h;split at h
       ·next a e1=>
        split at h
        ·next b e2=>
         cases h
         rcases ajZ.1 hx with hx|hx
         ·exact⟨j,ajt,a,e1,hx⟩
         ·obtain⟨k,hk,a',h1,h2⟩:=ih b e2 x hx;exact⟨k,ajw _ hk,a',h1,h2⟩
        ·cases h
       ·cases h
    refine⟨?_,fun x hx=> ?_,fun hk=>⟨fun e=>(by rw[e]at LQ;cases LQ),fun i hi oi UK=> ?_⟩⟩
    ·obtain⟨a,e1,h1⟩:=Q2 k0 ajt;obtain⟨o,s1,l,ho,hg,⟨x,hx⟩,_⟩:=one k0 a LQ e1;exact⟨x,h1 x hx⟩
    ·obtain⟨k,hk,a,e1,PL⟩:=back _ _ h x hx;obtain⟨o,s1,l,ho,hg,h1,h2,h3⟩:=one k a ((hL.ready k).2 (by rw[hr];exact hk)) e1;exact⟨fun p hp=>(h2 x PL).1 p (ajw _ hp),(h2 x PL).2⟩
    ·have dg:i∈k0::r:=by rw[←hr];exact(hL.ready i).1 hi
     obtain⟨a,e1,h1⟩:=Q2 i dg;obtain⟨o,s1,l,ho,hg,_,_,h3⟩:=one i a hi e1;rw[ho]at UK;cases UK;exact h3 fun x hx=>hk x (h1 x hx)
end
def MH(k:Nat):akb Nat→Nat
 |[]=>0
 |j::l=>bif cf (j+1) k then MH k l+1 else MH k l
def N4(k:Nat):akb Nat→Nat
 |[]=>0
 |j::l=>bif j==k then N4 k l+1 else N4 k l
def MA(h0:Nat)(all:akb Nat):akb Nat→akb Nat→akb Nat
 |_,[]=>[]
 |pre,k::l=>fN (h0+MH k all+N4 k pre) fun q=>q::MA h0 all (k::pre) l
def Qc(q:Nat):akb Nat→Nat→Nat
 |[],i=>i
 |x::l,i=>bif x==q then i else Qc q l (i+1)
def KD(h0:Nat)(p:akb Nat):Nat→Nat→akb Nat
 |0,_=>[]
 |n+1,q=>fN (Qc q p h0) fun i=>i::KD h0 p n (q+1)
def EF(a:Nat×akb (In×bX)):akb (Nat×akb (In×bX))→akb (Nat×akb (In×bX))
 |[]=>[a]
 |b::l=>bif cf a.1 b.1 then a::b::l else b::EF a l
def Eu:akb (Nat×akb (In×bX))→akb (Nat×akb (In×bX))
 |[]=>[]
 |a::l=>EF a (Eu l)
def Jc:akb (Nat×akb (In×bX))→akb (In×bX)
 |[]=>[]
 |a::l=>a.2++Jc l
def qb(p q:akb Nat)(h0:Nat)(h:akb aq):Nat→Nat→akb aq
 |0,_=>[]
 |n+1,i=>(match h[dZ h0 q i]? with|some B=>B.aQ (dZ h0 p)|none=> .gone)::qb p q h0 h n (i+1)
def Au(h0:Nat)(p:akb Nat):Bool:=(List.range p.length).all fun i=>p.getD i 0==h0+i
theorem abr{h0:Nat}{p:akb Nat}(h:Au h0 p=true):dZ h0 p=id:=by
 funext i
 unfold dZ;cases e:cf h0 i with
 |false=>rfl
 |true=>
  rw[di]at e;simp only[cond_true,id];by_cases hi:i-h0<p.length
  ·unfold Au at h;rw[ajN]at h;have:=h (i-h0) (List.mem_range.2 hi);rw[beq_iff_eq,List.getD_eq_getElem?_getD,ajr hi]at this;rw[List.getD_eq_getElem?_getD,ajr hi];simp only[Option.getD_some]at this ⊢;omega
  ·rw[List.getD_eq_getElem?_getD,ajT (by omega)];rfl
def Th(bn:akb Nat)(s:St)(x:Lf)(p q:akb Nat):akd (akb (Nat×AV)×akb aq×akb (In×bX)):=
 bif (x.1.t.take (x.1.t.length-s.t.length)).all (fun p=>bn.any (·==p.1)||VY (bB s.t p.1))&&(List.range x.1.h.length).all (fun i=>cf (dZ s.h.length p i+1) x.1.h.length&&cf (dZ s.h.length q i+1) x.1.h.length&&dZ s.h.length q (dZ s.h.length p i)==i&&dZ s.h.length p (dZ s.h.length q i)==i)
 then some (bn.map fun k=>(k,(bB x.1.t k).aQ (dZ s.h.length p)),bif Au s.h.length p then x.1.h else qb p q s.h.length x.1.h x.1.h.length 0,Jc (Eu x.2.2))else none
def FF(bn:akb Nat)(s:St)(x:Lf):akd (akb (Nat×AV)×akb aq×akb (In×bX)):=
 fL (MA s.h.length x.2.1 [] x.2.1) fun p=>fL (KD s.h.length p p.length s.h.length) fun q=>Th bn s x p q
def JP(bn:akb Nat)(s:St):akb Lf→akd (akb (akb (Nat×AV)×akb aq×akb (In×bX)))
 |[]=>some []
 |x::l=>match FF bn s x with
  |some a=>match JP bn s l with
   |some b=>some (a::b)
   |none=>none
  |none=>none
def IW(P:ake)(ol:akb Oper)(as:akb (Nat×bX))(bn:akb Nat)(s:St):akd (akb (akb (Nat×AV)×akb aq×akb (In×bX))):=
 bif pJ (Region.before ol.toArray) ol.toArray then fL (rl ol.toArray 0 ol.toArray.size) fun A=>fL (oO ol.toArray false (Region.before ol.toArray) 0 ol.toArray.size) fun C=>
  match yn P ol.toArray A C as ol.toArray.size 0 [] [] s with
  |some ls=>JP bn s ls
  |none=>none
 else none
theorem PN{bn:akb Nat}{s:St}:∀{ls:akb Lf}{r},JP bn s ls=some r→∀x∈ls,∃a∈r,FF bn s x=some a
 |[],_,_,x,hx=>by cases hx
 |y::l,r,h,x,hx=>by
  unfold JP at h;split at h
  ·next a e1=>
   split at h
   ·next b e2=>
    cases h
    rcases ajR.1 hx with rfl|hx
    ·exact⟨a,ajt,e1⟩
    ·obtain⟨a',h1,h2⟩:=PN e2 x hx;exact⟨a',ajw _ h1,h2⟩
   ·cases h
  ·cases h
theorem Py{a x:Nat×akb (In×bX)}:∀{l:akb (Nat×akb (In×bX))},x∈EF a l↔x=a∨x∈l
 |[]=>by simp [EF]
 |b::l=>by
  unfold EF;cases cf a.1 b.1 with
  |true=>simp
  |false=>
   simp only[cond_false,ajR,Py (l:=l)];constructor
   ·rintro(h|h|h)
    ·exact .inr (.inl h)
    ·exact .inl h
    ·exact .inr (.inr h)
   ·rintro(h|h|h)
    ·exact .inr (.inl h)
    ·exact .inl h
    ·exact .inr (.inr h)
theorem P3{x:Nat×akb (In×bX)}:∀{l:akb (Nat×akb (In×bX))},x∈Eu l↔x∈l
 |[]=>by simp [Eu]
 |a::l=>by rw[Eu,Py,P3 (l:=l),ajR]
theorem Pb{P:ake}:∀{l:akb (Nat×akb (In×bX))},fS P (Jc l)→∀p∈l,fS P p.2
 |[],_,p,hp=>by cases hp
 |a::l,h,p,hp=>by
  unfold Jc at h;rcases ajR.1 hp with rfl|hp
  ·exact fun q hq=>h q (List.mem_append_left _ hq)
  ·exact Pb (fun q hq=>h q (List.mem_append_right _ hq)) p hp
theorem Qs{p q:akb Nat}{h0:Nat}{h:akb aq}:∀(n i j:Nat),(qb p q h0 h n i)[j]?=if j<n then some (match h[dZ h0 q (i+j)]? with|some B=>B.aQ (dZ h0 p)|none=> .gone)else none
 |0,i,j=>by simp [qb]
 |n+1,i,0=>by simp [qb]
 |n+1,i,j+1=>by
  rw[qb,ajY,Qs n (i+1) j];simp only[Nat.add_lt_add_iff_right];rw[show i+1+j=i+(j+1) by omega]
theorem Qx{p q:akb Nat}{h0:Nat}{h:akb aq}:∀(n i:Nat),(qb p q h0 h n i).length=n
 |0,_=>rfl
 |n+1,i=>by rw[qb,ajq,Qx n]
theorem ais{P:ake}{ops:Array Oper}{N0:Nat}{bn:akb Nat}{s:St}{x:Lf}{Δ:akb (Nat×AV)}{h':akb aq}{ps:akb (In×bX)}(h:FF bn s x=some (Δ,h',ps))(hN:N0≤s.h.length)(wM:∀i,(bB s.t i).aT s.h.length=true)
 (hn:x.1.n=s.n) (hp:∃pre,x.1.t=pre++s.t) (bY:fS P ps):ig N0 x.1 ⟨s.n,Δ++s.t,h'⟩∧∀p∈x.2.2,fS P p.2:=by
 unfold FF at h;rw[Co,Co]at h;generalize MA s.h.length x.2.1 [] x.2.1=p at h;generalize KD s.h.length p p.length s.h.length=q at h;unfold Th at h;obtain⟨hb,he⟩:=dq h;cases he
 rw[ajp]at hb;obtain⟨hb,hc⟩:=hb;simp only[ajN,List.mem_range,ajp,beq_iff_eq,di]at hc;have uu:∀i,i<s.h.length→dZ s.h.length p i=i:=fun i hi=>by
   unfold dZ;have:cf s.h.length i=false:=by rw[←Bool.not_eq_true,di];omega
   rw[this];rfl
 refine⟨?_,fun y hy=>Pb bY y (P3.2 hy)⟩;refine ig.aQ (dZ s.h.length p) (dZ s.h.length q) hn (by
  cases Au s.h.length p with
  |true=>rfl
  |false=>exact Qx _ _) (fun i hi=>(hc i hi).1.1.1) (fun i hi=>(hc i hi).1.1.2) (fun i hi=>(hc i hi).1.2) (fun i hi=>(hc i hi).2) (fun i hi=>uu i (by omega)) (fun i _=> ?_) fun i hi=> ?_
 ·obtain⟨pre,e1⟩:=hp;have Bl:∀(f:Nat→AV),(bn.map fun k=>(k,f k)).map (·.1)=bn:=fun f=>by rw[List.map_map];exact List.map_id _
  show bB ((bn.map fun k=>(k,(bB x.1.t k).aQ (dZ s.h.length p)))++s.t) i=_∨_;rcases Cg (bn.map fun k=>(k,(bB x.1.t k).aQ (dZ s.h.length p))) s.t i with⟨h1,h2⟩|⟨h1,h2⟩
  ·rw[Bl]at h1;rw[h2,pz (fun k=>(bB x.1.t k).aQ (dZ s.h.length p)),if_pos h1];exact .inl rfl
  ·rw[Bl]at h1;show _∨bB ((bn.map fun k=>(k,(bB x.1.t k).aQ (dZ s.h.length p)))++s.t) i=_;rw[h2];rw[e1,ajo,Nat.add_sub_cancel,List.take_left']at hb
   ·rw[e1];rcases Cg pre s.t i with⟨h3,h4⟩|⟨h3,h4⟩
    ·right
     obtain⟨y,hy,rfl⟩:=List.mem_map.1 h3;have:=ajN.1 hb y hy;rw[Bool.or_eq_true]at this;rcases this with this|this
     ·exfalso;obtain⟨k,hk,e⟩:=List.any_eq_true.1 this;rw[beq_iff_eq]at e;exact h1 (e▸hk)
     ·generalize bB s.t y.1=z at this;cases z<;>first|rfl|cases this
    ·left
     rw[h4,wU (τ:=id) uu _ (wM i),DE]
   ·rfl
 ·show(bif Au s.h.length p then x.1.h else qb p q s.h.length x.1.h x.1.h.length 0)[dZ s.h.length p i]?=_;cases hid:Au s.h.length p with
  |true=>rw[abr hid];simp only[cond_true,id];rw[ajr hi,Option.map_some,Nh]
  |false=>
  simp only[cond_false];rw[Qs,if_pos (Nat.lt_of_succ_le (hc i hi).1.1.1),ajH,(hc i hi).1.2,ajr hi];rfl
theorem ab5{P:ake}{ol:akb Oper}{as:akb (Nat×bX)}{bn:akb Nat}{s:St}{Δ:akb (Nat×AV)}{h':akb aq}{ps:akb (In×bX)}{m N0:Nat}{K:St→Prop}(h:IW P ol as bn s=some (List.replicate m (Δ,h',ps)))(bY:fS P ps)(hN:N0≤s.h.length)(wM:∀i,(bB s.t i).aT s.h.length=true)(hK:HW N0 K)(hk:K ⟨s.n,Δ++s.t,h'⟩):
 l6 false P ol.toArray K ol.toArray.size (Array.replicate ol.toArray.size false) s:=by
 unfold IW at h;obtain⟨hM,h⟩:=l5 h;rw[Co,Co]at h;split at h
 ·next ls e1=>
  obtain⟨_,h2,h3⟩:=Uu (s0:=s) hK.c hM s.t _ 0 (Array.replicate ol.toArray.size false) _ _ s ls ⟨by simp,fun i=>by
   rw[Nat.zero_testBit,Array.getD_eq_getD_getElem?,Array.getElem?_replicate];split<;>rfl⟩ (fun j o ho hj=>by
   exfalso;rw[Array.getD_eq_getD_getElem?]at hj;rw[Array.getElem?_replicate]at hj;split at hj<;>simp at hj) e1
  refine h3 fun x hx=> ?_;obtain⟨a,ha,e2⟩:=PN h x hx;rw[List.mem_replicate]at ha;obtain⟨_,rfl⟩:=ha;obtain⟨k1,k2⟩:=ais (P:=P) (ops:=ol.toArray) e2 hN wM ((h2 x hx).2.2 (j0.refl _ _)).n ((h2 x hx).2.1 ⟨[],rfl⟩) bY;exact⟨k2,hK _ _ k1 hk⟩
 ·cases h
section
variable {P:ake} {r:akd Nat} {N0 id n:Nat} {ol:akb Oper} {y:Code} {t:akb (Nat×AV)} {h:akb aq} {Q Q':Exit→St→Prop}
theorem rte(m:Nat)(hm:P.follows .mixedOrders=true)(aW:akb (Nat×Ob P))(Δ:akb (Nat×AV))(h':akb aq)(e:IW P ol (jX aW) (Δ.map (·.1)) ⟨n,t,h⟩=some (List.replicate m (Δ,h',jv aW)))(k:Q .normal ⟨n,Δ++t,h'⟩):bJ P r N0 (.region id ol.toArray true) Q ⟨n,t,h⟩:=
 ah0 hm fun hN wM=>ab5 e (uV aW) hN wM (acT _) ⟨_,ig.refl _ _,k⟩
end
theorem xg{f:AV→AV}(hf:∀d,f (.d d)= .d d)(xs:akb (akb D)):(bo xs).map (·.map f)=bo xs:=by
 unfold bo;rw[List.map_map];refine ajS fun c _=> ?_;simp only[Function.comp,List.map_map];exact ajS fun d _=>hf d
theorem Ds(xs:akb (akb D)):(bo xs).length=xs.length:=by unfold bo;rw[ajs]
theorem Kg{xs:akb (akb D)}{i:Nat}{c:akb D}(h:xs[i]?=some c):(bo xs)[i]?=some (c.map .d):=by unfold bo;rw[aju,h];rfl
theorem Ru(xs:akb (akb D))(i:Nat)(c:akb D):bo (xs.set i c)=(bo xs).set i (c.map .d):=by unfold bo;rw[List.map_set]
theorem Xj(xs ys:akb (akb D)):bo (xs++ys)=bo xs++bo ys:=by unfold bo;rw[List.map_append]
def aq.oh(m:Nat):aq→aq
 | .vec e k cs=> .vec e k cs
 |B=>B.bA m
def aq.xI:aq→aq
 | .vec e k cs=> .vec e k cs
 |B=>B.nv
def aq.EK(m:Nat):aq→Prop
 | .vec _ _ cs=>cs.map (·.map (AV.bA m))=cs∧cs.all (·.all (AV.aT m))=true
 |_=>True
def gj(m:Nat):akb aq→Prop
 |[]=>True
 |B::l=>B.EK m∧gj m l
section
variable {m:Nat} {l:akb aq}
theorem gU:gj m []:=trivial
theorem Sr(xs:akb (akb D)):(bo xs).all (·.all (AV.aT m))=true:=by simp [bo,AV.aT]
theorem iL{e k:Nat}{xs:akb (akb D)}(h:gj m l):gj m (.vec e k (bo xs)::l):=⟨⟨xg (fun d=>by simp [AV.bA]) _,Sr _⟩,h⟩
theorem vmR{e k i:Nat}{xs:akb (akb D)}{r:akb AV}(h1:r.map (AV.bA m)=r)(h2:r.all (AV.aT m)=true)(h:gj m l):gj m (.vec e k ((bo xs).set i r)::l):=by
 refine⟨⟨by rw[List.map_set,xg (fun d=>by simp [AV.bA]),h1],?_⟩,h⟩;rw[ajN];intro c hc;rcases List.mem_or_eq_of_mem_set hc with hc|rfl
 ·exact ajN.1 (Sr (m:=m) xs) c hc
 ·exact h2
theorem gj.mem:∀{l:akb aq},gj m l→∀B∈l,B.EK m
 |[],_,B,hB=>by cases hB
 |_::_,h,B,hB=>by
  rcases ajR.1 hB with rfl|hB
  ·exact h.1
  ·exact gj.mem h.2 B hB
end
theorem acx{m:Nat}{B:aq}(h:B.EK m):B.oh m=B.bA m:=by
 cases B with
 |vec e k cs=>simp only[aq.oh,aq.bA];rw[h.1]
 |_=>rfl
theorem abT{m:Nat}{B:aq}(h:B.EK m)(hl:(B.oh m).sH m=true):(B.bA m).aT m=true:=by
 cases B with
 |vec e k cs=>simp only[aq.bA,aq.aT];rw[h.1];exact h.2
 |_=>exact hl
theorem RB{G:Gh}{w:akg}{h:akb aq}(hi:bV G w h):bV G w (h.map aq.xI):=by
 have dE:∀n,b6 (h.map aq.xI) G n=b6 h G n:=fun n=>by
  unfold b6;rw[aju];cases h[n]? with
  |none=>rfl
  |some B=>cases B<;>rfl
 have h2:=OF hi;refine⟨by rw[ajs];exact hi.len,hi.z,hi.S,fun n B hB=> ?_,fun m n x hm hn=>hi.inj m n x (by rw[←dE];exact hm) (by rw[←dE];exact hn),hi.gl⟩;rw[aju]at hB;cases h1:h[n]? with
 |none=>rw[h1]at hB;cases hB
 |some B'=>
  rw[h1]at hB;cases hB
  have h3:=h2.cU n B'.nv (by rw[aju,h1];rfl);cases B' with
  |vec e k cs=>exact hi.cU n _ h1
  |_=>exact h3
def tD(kn:akb (Nat×Nat))(n:Nat):Nat→akb AV→akb AV
 |_,[]=>[]
 |i,x::l=>(bif kn.any (fun p=>p.1==n&&p.2==i)then x else x.nrm)::tD kn n (i+1) l
def aq.SQ(kn:akb (Nat×Nat))(n:Nat):aq→aq
 | .cells cs=> .cells (tD kn n 0 cs)
 |B=>B.xI
def nt(kn:akb (Nat×Nat)):Nat→akb aq→akb aq
 |_,[]=>[]
 |n,B::l=>B.SQ kn n::nt kn (n+1) l
theorem Sv(kn:akb (Nat×Nat))(n:Nat):∀(j:Nat)(cs:akb AV),(tD kn n j cs).length=cs.length
 |_,[]=>rfl
 |j,x::l=>by rw[tD,ajq,Sv kn n (j+1) l,ajq]
theorem WA(kn:akb (Nat×Nat))(n:Nat):∀(j:Nat)(cs:akb AV)(i:Nat)(c':AV),(tD kn n j cs)[i]?=some c'→∃c,cs[i]?=some c∧(c'=c∨c'=c.nrm)
 |_,[],i,c',h=>by simp [tD]at h
 |j,x::l,0,c',h=>by
  simp only[tD,List.getElem?_cons_zero,Option.some.injEq]at h;refine⟨x,rfl,?_⟩;cases hk:kn.any (fun p=>p.1==n&&p.2==j)with
  |true=>rw[hk]at h;exact .inl h.symm
  |false=>rw[hk]at h;exact .inr h.symm
 |j,x::l,i+1,c',h=>by
  simp only[tD,ajY]at h;obtain⟨c,h1,h2⟩:=WA kn n (j+1) l i c' h;exact⟨c,by simpa using h1,h2⟩
theorem Ov(kn:akb (Nat×Nat)):∀(j:Nat)(h:akb aq)(i:Nat)(B':aq),(nt kn j h)[i]?=some B'→∃B,h[i]?=some B∧B'=B.SQ kn (j+i)
 |_,[],i,B',h=>by simp [nt]at h
 |j,B::l,0,B',h=>by simp only[nt,List.getElem?_cons_zero,Option.some.injEq]at h;exact⟨B,rfl,h.symm⟩
 |j,B::l,i+1,B',h=>by
  simp only[nt,ajY]at h;obtain⟨C,h1,h2⟩:=Ov kn (j+1) l i B' h;exact⟨C,by simpa using h1,by rw[h2];congr 1;omega⟩
theorem PO(kn:akb (Nat×Nat)):∀(j:Nat)(h:akb aq),(nt kn j h).length=h.length
 |_,[]=>rfl
 |j,B::l=>by rw[nt,ajq,PO kn (j+1) l,ajq]
theorem agF{G:Gh}{w:akg}{h:akb aq}(kn:akb (Nat×Nat))(hi:bV G w h):bV G w (nt kn 0 h):=by
 have dE:∀n x,b6 (nt kn 0 h) G n=some x→b6 h G n=some x:=fun n x hx=>by
  obtain⟨B',hB,h1⟩:=mr hx;obtain⟨B,h2,rfl⟩:=Ov kn 0 h n B' hB;rw[dm h2,←h1];cases B<;>rfl
 have h2:=RB hi;refine⟨by rw[PO];exact hi.len,hi.z,hi.S,fun n B' hB=> ?_,fun m n x hm hn=>hi.inj m n x (dE m x hm) (dE n x hn),hi.gl⟩;obtain⟨B,h1,rfl⟩:=Ov kn 0 h n B' hB;cases B with
 |cells cs=>
  obtain⟨c1,c2,vs,T,c3,c4,c5⟩:=hi.cU n _ h1;refine⟨c1,c2,vs,T,c3,by rw[Sv];exact c4,fun i u c hu hc=> ?_⟩;obtain⟨c0,h3,h4|h4⟩:=WA _ _ _ _ _ _ hc
  ·rw[h4];exact c5 i u c0 hu h3
  ·rw[h4];exact(c5 i u c0 hu h3).nrm
 |_=>exact h2.cU n _ (by rw[aju,h1];rfl)
def kR(s:St)(live:akb Nat)(m:Nat)(ks:akb Nat)(kn:akb (Nat×Nat)):akd St:=
 bif cf m s.h.length&&(live.all fun k=>((bB s.t k).bA m).aT m)&&(((s.h.take m).map (aq.oh m)).all (aq.sH m))then some ⟨s.n,live.map fun k=>(k,bif ks.any (·==k)then(bB s.t k).bA m else(bB s.t k).fin m),nt kn 0 ((s.h.take m).map (aq.oh m))⟩else none
theorem U6{h:akb aq}{m:Nat}(hd:gj m (h.take m)):(h.take m).map (aq.oh m)=(h.take m).map (aq.bA m):=ajS fun B hB=>acx (hd.mem B hB)
theorem RO{h:akb aq}{m:Nat}(hd:gj m (h.take m))(hl:((h.take m).map (aq.oh m)).all (aq.sH m)=true):((h.take m).map (aq.bA m)).all (aq.aT m)=true:=by
 rw[ajN]at hl ⊢;intro B hB;obtain⟨B',h1,rfl⟩:=List.mem_map.1 hB;exact abT (hd.mem B' h1) (hl _ (List.mem_map.2 ⟨B',h1,rfl⟩))
section
variable {P:ake} {r:akd Nat} {n N0:Nat} {G:Gh} {w:akg} {a:Act} {s s':St} {Q Q':Exit→St→Prop} {live:akb Nat} {m:Nat} {ks:akb Nat} {kn:akb (Nat×Nat)}
theorem cx.kR(hs:cx G w a s)(hd:gj m (s.h.take m))(h:kR s live m ks kn=some s'):cx (G.cut m) w a s':=by
 unfold Go.Proofs.YtpgmcallngdceaaGreatDoor.kR at h;obtain⟨hb,rfl⟩:=dq h;rw[ajp,ajp]at hb;have hm:=hs.mask (live:=live) ⟨di.1 hb.1.1,hb.1.2,RO hd hb.2⟩;refine⟨hs.size,fun i=> ?_,by show bV _ _ (nt kn 0 ((s.h.take m).map (aq.oh m)));rw[U6 hd];exact agF kn hm.inv,hs.df⟩;have:=hm.tmp i
 change aL _ _ _ (bB (live.map fun k=>(k,(bB s.t k).bA m)) i)at this
 rw[pz (fun k=>(bB s.t k).bA m)]at this;show aL _ _ _ (bB (live.map fun k=>(k,bif ks.any (·==k)then(bB s.t k).bA m else(bB s.t k).fin m)) i);rw[pz (fun k=>bif ks.any (·==k)then(bB s.t k).bA m else(bB s.t k).fin m)];split at this
 ·rename_i hi
  rw[if_pos hi];cases ks.any (·==i)with
  |true=>exact this
  |false=>exact this.nrm
 ·rename_i hi;rw[if_neg hi];exact .dead _
theorem E1{c:Code}{ι:Type}(live:akb Nat)(m:Nat)(ks:akb Nat)(kn:akb (Nat×Nat))(st:ι→St)(I:ι→Prop)(μ:ι→Nat)(i0:ι)(hm:N0≤m)(h0:gj m (s.h.take m)∧Go.Proofs.YtpgmcallngdceaaGreatDoor.kR s live m ks kn=some (st i0))(hI:I i0)
 (round:∀i,I i→bJ P r N0 c (gA (fun s'=>∃i',(gj m (s'.h.take m)∧Go.Proofs.YtpgmcallngdceaaGreatDoor.kR s' live m ks kn=some (st i'))∧I i'∧μ i'<μ i) Q) (st i)):bJ P r N0 (.loop c) Q s:=by
 constructor
 intro G w a n hs _;refine OI (fun(i:ι) a' w'=>∃G',I i∧bP N0 G w G' w'∧N0≤G'.N∧cx G' w' a' (st i)) μ i0 ⟨G.cut m,hI,ni _ _ _ _,hm,hs.kR h0.1 h0.2⟩ ?_;rintro i a' w' ⟨G',hi,hE,hN,cp⟩;refine wpIn_mono ((round i hi).run G' w' a' n cp hN) fun e a1 w1 hn=> ?_;obtain⟨G1,s1,iA,fb,dS,hq⟩:=hn;cases e with
 |normal=>
  obtain⟨i',h1,h2,h3⟩:=hq;exact⟨i',⟨G1.cut m,h2,(hE.trans iA).trans (ni _ _ _ _),hm,dS.kR h1.1 h1.2⟩,h3⟩
 |_=>exact⟨G1,s1,hE.trans iA,fb,dS,hq⟩
theorem Xm{c:Code}(live:akb Nat)(m:Nat)(ks:akb Nat)(kn:akb (Nat×Nat))(hm:N0≤m)(h0:gj m (s.h.take m)∧Go.Proofs.YtpgmcallngdceaaGreatDoor.kR s live m ks kn=some s')(h:bJ P r N0 c Q s'):bJ P r N0 c Q s:=by
 constructor
 intro G w a n hs _;exact wpIn_mono (h.run (G.cut m) w a n (hs.kR h0.1 h0.2) hm) fun _ _ _ hn=>hn.trans (ni N0 G w m)
theorem aeh{c y:Code}{ι:Type}(live:akb Nat)(m:Nat)(ks:akb Nat)(kn:akb (Nat×Nat))(st:ι→St)(I:ι→Prop)(hm:N0≤m)(hc:bJ P r N0 c (gA (fun s'=>∃i,(gj m (s'.h.take m)∧Go.Proofs.YtpgmcallngdceaaGreatDoor.kR s' live m ks kn=some (st i))∧I i) Q) s)(hy:∀i,I i→bJ P r N0 y Q' (st i)):bJ P r N0 c (gA (fun s=>bJ P r N0 y Q' s) Q) s:=by
 refine hc.mono fun e s' h=> ?_;cases e with
 |normal=>obtain⟨i,h1,h2⟩:=h;exact Xm live m ks kn hm h1 (hy i h2)
 |_=>exact h
end
def E3(P:ake)(rs:akb ResultVar)(m:Nat)(s:St):akd (AV×akb aq):=
 match rB P s rs with
 |some l=>bif cf m s.h.length&&((iu l).bA m).aT m&&(((s.h.take m).map (aq.oh m)).all (aq.sH m))then some (((iu l).bA m).nrm,((s.h.take m).map (aq.oh m)).map aq.xI)else none
 |none=>none
def PW(P:ake)(fn:Func)(m:Nat)(R:AV)(H:akb aq):Exit→St→Prop
 | .normal,s=>gj m (s.h.take m)∧E3 P fn.results.toList m s=some (R,H)
 | .ret,s=>gj m (s.h.take m)∧E3 P fn.results.toList m s=some (R,H)
 |_,_=>False
theorem VT{P:ake}{s:St}{fn:Func}{m:Nat}{R:AV}{H:akb aq}(h:gj m (s.h.take m)∧E3 P fn.results.toList m s=some (R,H)):ou P fn m (fun r h'=>r.nrm=R∧h'.map aq.xI=H) s:=by
 obtain⟨hd,h⟩:=h;unfold E3 at h;split at h
 ·next l e=>
  obtain⟨hb,he⟩:=dq h;cases he
  simp only[ajp,di]at hb;exact C8 _ _ _ e ⟨hb.1.1,hb.1.2,RO hd hb.2,rfl,by rw[U6 hd]⟩
 ·cases h
theorem pn{P:ake}{s:St}{fn:Func}{m:Nat}{R:AV}{H:akb aq}(hd:gj m (s.h.take m))(h:E3 P fn.results.toList m s=some (R,H)):PW P fn m R H .ret s:=⟨hd,h⟩
theorem Cn{P:ake}{f:FuncId}{fn:Func}{c:Code}{args:akb AV}{h H:akb aq}{R:AV}(m:Nat)(hf:P.funcs[f]?=some fn)(hb:fn.body=some c)(hn:(fn.name== "runtime.NumGoroutine")=false)(hm:h.length≤m)
 (hw:bJ P none h.length c (PW P fn m R H) {n:=args.length+(fn.ntmps-args.length),t:=jH 0 args,h:=h}):bO P f args h fun r1 h1=>r1=R∧h1=H:=by
 have h0:=zn (P:=P) (f:=f) (args:=args) (h:=h) (K:=fun r h'=>r.nrm=R∧h'.map aq.xI=H) m hf hb hn hm (hw.mono fun e s hq=>by
  cases e with
  |normal=>exact VT hq
  |ret=>exact VT hq
  |_=>exact hq.elim)
 refine⟨h0.1,fun G w vs hi hl hr=>(h0.2 G w vs hi hl hr).mono fun e w' hp=> ?_⟩;obtain⟨v,G',x,h',rfl,hE,hN,dg,hv,rfl,rfl⟩:=hp;exact⟨v,G',x.nrm,_,rfl,hE,hN,RB dg,hv.nrm,rfl,rfl⟩
mutual
def AV.nZ(b:Nat):AV→akb (Nat×Nat×Nat×Nat)
 | .vec n o len L k=>bif n==b then[(o,len,L,k)]else[]
 | .agg cs=>AV.nf b cs
 | .bk cs=>AV.nf b cs
 | .fn _ cs=>AV.nf b cs
 |_=>[]
def AV.nf(b:Nat):akb AV→akb (Nat×Nat×Nat×Nat)
 |[]=>[]
 |x::l=>x.nZ b++AV.nf b l
end
mutual
def AV.mlt(b:Nat)(xs:akb (akb D)):AV→AV
 | .vec n o len L k=>bif n==b then .d (.sl xs)else .vec n o len L k
 | .cN n i j L k=>bif n==b then .dead else .cN n i j L k
 | .agg cs=> .agg (AV.lv b xs cs)
 | .bk cs=> .bk (AV.lv b xs cs)
 | .fn f cs=> .fn f (AV.lv b xs cs)
 |x=>x
def AV.lv(b:Nat)(xs:akb (akb D)):akb AV→akb AV
 |[]=>[]
 |x::l=>x.mlt b xs::AV.lv b xs l
end
mutual
theorem NI{b kk:Nat}{xs:akb (akb D)}:∀x:AV,(∀q∈x.nZ b,q=(0,xs.length,xs.length,kk))→x.cw b kk xs=x.mlt b xs
 | .vec n o len L k,h=>by
   unfold AV.cw AV.mlt;unfold AV.nZ at h;cases e:n==b with
   |false=>rfl
   |true=>
    rw[e]at h;have:=h _ ajt;cases this
    simp
 | .agg cs,h=>by unfold AV.cw AV.mlt;rw[qm cs (by unfold AV.nZ at h;exact h)]
 | .bk cs,h=>by unfold AV.cw AV.mlt;rw[qm cs (by unfold AV.nZ at h;exact h)]
 | .fn f cs,h=>by unfold AV.cw AV.mlt;rw[qm cs (by unfold AV.nZ at h;exact h)]
 | .cN n i j L k,h=>by unfold AV.cw AV.mlt;rfl
 | .d _,_=>by simp [AV.cw,AV.mlt]
 | .ptr ..,_=>by simp [AV.cw,AV.mlt]
 | .bD ..,_=>by simp [AV.cw,AV.mlt]
 | .own ..,_=>by simp [AV.cw,AV.mlt]
 | .full _,_=>by simp [AV.cw,AV.mlt]
 | .row ..,_=>by simp [AV.cw,AV.mlt]
 | .mp _,_=>by simp [AV.cw,AV.mlt]
 | .cE _,_=>by simp [AV.cw,AV.mlt]
 | .hid _,_=>by simp [AV.cw,AV.mlt]
 | .dead,_=>by simp [AV.cw,AV.mlt]
theorem qm{b kk:Nat}{xs:akb (akb D)}:∀l:akb AV,(∀q∈AV.nf b l,q=(0,xs.length,xs.length,kk))→AV.nE b kk xs l=AV.lv b xs l
 |[],_=>by simp [AV.nE,AV.lv]
 |x::l,h=>by
  unfold AV.nf at h;unfold AV.nE AV.lv;rw[NI x fun q hq=>h q (List.mem_append_left _ hq),qm l fun q hq=>h q (List.mem_append_right _ hq)]
end
inductive jz(b L kk:Nat)(xs:List (List D)):List aq→List aq→Prop
 |nil:jz b L kk xs [] []
 |cells {cs ca:List AV} {l l':List aq} (c:Nat) (h:AV.nf b cs=List.replicate c (0,L,L,kk)) (e:AV.lv b xs cs=ca) (t:jz b L kk xs l l'):jz b L kk xs (.cells cs::l) (.cells ca::l')
 |iY {e k:Nat} {ys:List (List D)} {l l':List aq} (t:jz b L kk xs l l'):jz b L kk xs (.vec e k (bo ys)::l) (.vec e k (bo ys)::l')
 |row {e k i:Nat} {ys:List (List D)} {cs ca:List AV} {l l':List aq} (c:Nat) (h:AV.nf b cs=List.replicate c (0,L,L,kk)) (e1:AV.lv b xs cs=ca) (t:jz b L kk xs l l'):jz b L kk xs (.vec e k ((bo ys).set i cs)::l) (.vec e k ((bo ys).set i ca)::l')
 |front {e k n:Nat} {l l':List aq} (t:jz b L kk xs l l'):jz b L kk xs (.front e k n::l) (.front e k n::l')
 |map {kv:List (ByteArray×D)} {l l':List aq} (t:jz b L kk xs l l'):jz b L kk xs (.map kv::l) (.map kv::l')
 |gone {l l':List aq} (t:jz b L kk xs l l'):jz b L kk xs (.gone::l) (.gone::l')
theorem z7{c L kk:Nat}{xs:akb (akb D)}(hL:xs.length=L){l:akb (Nat×Nat×Nat×Nat)}(h:l=List.replicate c (0,L,L,kk)):∀q∈l,q=(0,xs.length,xs.length,kk):=fun q hq=>by
 rw[h,List.mem_replicate]at hq;rw[hq.2,hL]
theorem jz.eq{b L kk:Nat}{xs:akb (akb D)}(hL:xs.length=L){l l':akb aq}(h:jz b L kk xs l l'):l'=l.map (aq.iV (AV.cw b kk xs)):=by
 have hd:∀d,AV.cw b kk xs (.d d)= .d d:=fun d=>by simp [AV.cw]
 induction h with
 |nil=>rfl
 |cells c h e t ih=>rw[ajM,←ih,←e];simp only[aq.iV];rw[←oU,qm _ (z7 hL h)]
 |iY t ih=>rw[ajM,←ih];simp only[aq.iV];rw[xg hd]
 |row c h e1 t ih=>rw[ajM,←ih,←e1];simp only[aq.iV];rw[List.map_set,xg hd,←oU,qm _ (z7 hL h)]
 |front t ih=>rw[ajM,←ih];rfl
 |map t ih=>rw[ajM,←ih];rfl
 |gone t ih=>rw[ajM,←ih];rfl
theorem af5{P:ake}{r:akd Nat}{N0:Nat}{c:Code}{s:St}{Q:Exit→St→Prop}(live:akb Nat)(b:Nat)(xs:akb (akb D)){e k L:Nat}(h':akb aq)(c1:Nat)(hb:s.h[b]?=some (.vec e k (bo xs)))(fB:∀c∈xs,c.all D.te=true)(hL:xs.length=L)
 (ho:(live.flatMap fun i=>(bB s.t i).nZ b)=List.replicate c1 (0,L,L,k)) (hh:jz b L k xs s.h h') (K:bJ P r N0 c Q ⟨s.n,live.map (fun i=>(i,(bB s.t i).mlt b xs)),h'.set b .gone⟩):bJ P r N0 c Q s:=by
 constructor
 intro G w a n hs hN;obtain⟨G',hE,e1,cp⟩:=hs.L1 xs hb fB;refine wpIn_mono (K.run G' w a n (cp.less rfl (by rw[hh.eq hL]) fun i=> ?_) (by rw[e1];exact hN)) fun _ _ _ hn=>hn.trans (hE.less hN);show bB (live.map (fun i=>(i,(bB s.t i).mlt b xs))) i=bB (s.t.map fun p=>(p.1,p.2.cw b k xs)) i∨_;rw[pz (fun k=>(bB s.t k).mlt b xs),E2 (AV.cw b k xs) (by simp [AV.cw])];split
 ·next hi=>
  left
  refine(NI _ fun q hq=>z7 hL ho q ?_).symm;exact List.mem_flatMap.2 ⟨i,hi,hq⟩
 ·exact .inr rfl
theorem aiY{G:Gh}{w:akg}{h:akb aq}(hi:bV G w h)(e k:Nat):bP G.N G w (G.dK (.slice none 0 0) 0 none) w∧G.N≤(G.dK (.slice none 0 0) 0 none).N∧bV (G.dK (.slice none 0 0) 0 none) w (h++[.vec e k []])∧aL (G.dK (.slice none 0 0) 0 none) w (.slice none 0 0) (.vec h.length 0 0 0 k):=by
 obtain⟨a1,a2⟩:=Lu (w':=w) hi (.vec e k []) (fun _ _=>rfl) (.slice none 0 0) 0 none ⟨fun _ _=>rfl,ajy _,rfl,rfl,rfl⟩ (fun _ h=>by cases h)
  ⟨by simp [Gh.dK],Nat.zero_le _,fun c hc=>absurd hc aj3, .inl ⟨by simp [Gh.dK],rfl,none,by simp [Gh.dK]⟩⟩
 refine⟨a1,Nat.le_succ _,a2, .vec _ 0 0 0 k (by rw[hi.len];exact aj9 _) ⟨none,0,0,rfl⟩ (Nat.zero_le _) fun _=>⟨ajy _,⟨none,0,rfl,ajy _,Nat.zero_le _,ajy _,fun h=>absurd h (aj1 _)⟩,fun _ _=> ?_⟩⟩;simp [Gh.dK,hi.len]
section
variable {P:ake} {r:akd Nat} {N0:Nat} {s:St} {Q:Exit→St→Prop} {c:Code}
theorem Jm(t e k:Nat)(hx:bB s.t t= .d (.v (.slice none 0 0)))(h:bJ P r N0 c Q ⟨s.n,(t, .vec s.h.length 0 0 0 k)::s.t,s.h++[.vec e k []]⟩):bJ P r N0 c Q s:=by
 constructor
 intro G w a n hs hN;obtain⟨a1,a2,a3,a4⟩:=aiY hs.inv e k;have hv:=hs.tmp t;rw[hx]at hv;have hv:=hv.val;have cp:cx (G.dK (.slice none 0 0) 0 none) w a ⟨s.n,(t, .vec s.h.length 0 0 0 k)::s.t,s.h++[.vec e k []]⟩:=by
  refine⟨hs.size,fun i=> ?_,a3,hs.df.bn a1⟩;show aL _ _ _ (bB ((t, .vec s.h.length 0 0 0 k)::s.t) i);rw[lK];split
  ·next e=>exact e▸hv▸a4
  ·exact(hs.tmp i).bn a1 a2
 exact wpIn_mono (h.run _ w a n cp (ajF hN a2)) fun _ _ _ hn=>hn.trans (a1.less hN)
end
theorem gK{α:Type}{f:α→akb D}{E:akb α}{L:Nat}(h:E.length=L):(bo (E.map f)).length=L:=by rw[Ds,ajs,h]
theorem kZ{cs:akb (akb AV)}{z:Int}{L i:Nat}(h:cs.length=L)(h0:0≤z)(h1:z<(L:Int))(h2:z.toNat=i):cs.length=L∧0≤z∧z<(L:Int)∧i=0+z.toNat:=⟨h,h0,h1,by rw[h2,ajH]⟩
theorem Bv{α:Type}{f:α→akb D}{E:akb α}{L i:Nat}{x:α}(h:E.length=L)(hx:E[i]?=some x):(bo (E.map f)).length=L∧(bo (E.map f))[i]?=some ((f x).map .d):=⟨gK h,Kg (by rw[aju,hx];rfl)⟩
theorem vV{α:Type}{f:α→akb D}{E:akb α}{L i j:Nat}{x y:α}{zs:akb AV}(h:E.length=L)(hx:E[i]?=some x)(hy:(f y).map AV.d=fI ((f x).map .d) j zs):(bo (E.map f)).length=L∧(bo (E.map f))[i]?=some ((f x).map .d)∧bo ((E.set i y).map f)=(bo (E.map f)).set i (fI ((f x).map .d) j zs):=
 ⟨gK h,Kg (by rw[aju,hx];rfl),by rw[List.map_set,Ru,hy]⟩
theorem agD{α:Type}{f:α→akb D}{E ys:akb α}{h:akb aq}{k L fj L' ct:Nat}{y:AV}(hE:E.length=L)(hy:y.ej=some (ys.map f))(hk:∀c∈ys.map f,c.length=k)(hn:ys.length=fj)(hL:L+ys.length=L')(hm:L'≤maxLen)(hb:L'*ct≤140737488355328):
 (bo (E.map f)).length=L∧vz h k y (bo (ys.map f))∧L'=L+(bo (ys.map f)).length∧((0+L+(bo (ys.map f)).length≤L∧L'=L∧bo ((E++ys).map f)=(bo (E.map f)).take (0+L)++bo (ys.map f)++(bo (E.map f)).drop (0+L+(bo (ys.map f)).length))∨(0=0∧L=L∧L'=L+(bo (ys.map f)).length∧bo ((E++ys).map f)=bo (E.map f)++bo (ys.map f)∧L'≤maxLen∧L'*ct≤140737488355328)):=by
 have hl:(bo (ys.map f)).length=ys.length:=by rw[Ds,ajs]
 refine⟨gK hE, .inl ⟨_,hy,hk,rfl⟩,by rw[hl,hL], .inr ⟨rfl,rfl,by rw[hl,hL],by rw[List.map_append,Xj],hm,hb⟩⟩
theorem Oy{xs:akb (akb D)}{h:akb aq}{k ct:Nat}{y:AV}(hk:∀c∈xs,c.length=k)(hy:y.ej=some xs)(hm:xs.length≤maxLen)(hb:xs.length*ct≤140737488355328):
 ([]:akb (akb D))=[]∧vz h k y (bo xs)∧bo xs=bo xs∧xs.length=(bo xs).length∧xs.length=(bo xs).length∧xs.length≤maxLen∧xs.length*ct≤140737488355328:=⟨rfl, .inl ⟨xs,hy,hk,rfl⟩,rfl,(Ds xs).symm,(Ds xs).symm,hm,hb⟩
theorem aad{α:Type}{f:α→akb D}{E:akb α}{L i:Nat}{x:α}(r:akb AV)(h:E.length=L)(hx:E[i]?=some x):((bo (E.map f)).set i r).length=L∧((bo (E.map f)).set i r)[i]?=some r:=
 ⟨by rw[List.length_set];exact gK h,by rw[ajQ (by rw[gK rfl];exact(ajn.1 hx).1)]⟩
theorem aa6{α:Type}{f:α→akb D}{E:akb α}{L i:Nat}{r:akb AV}(h:E.length=L):((bo (E.map f)).set i r).length=L:=by rw[List.length_set];exact gK h
theorem Y4{α:Type}{f:α→akb D}{E:akb α}{L i j:Nat}{x:α}{zs r:akb AV}(h:E.length=L)(hx:E[i]?=some x)(hy:r=fI ((f x).map .d) j zs):(bo (E.map f)).length=L∧(bo (E.map f))[i]?=some ((f x).map .d)∧(bo (E.map f)).set i r=(bo (E.map f)).set i (fI ((f x).map .d) j zs):=
 ⟨gK h,Kg (by rw[aju,hx];rfl),by rw[hy]⟩
theorem abh{α:Type}{f:α→akb D}{E:akb α}{i:Nat}{y:α}{r:akb AV}(hy:(f y).map AV.d=r):(bo (E.map f)).set i r=bo ((E.set i y).map f):=by rw[←hy,List.map_set,Ru]
theorem ahD{P:ake}{r:akd Nat}{N0:Nat}{c:Code}{s:St}{Q:Exit→St→Prop}(live:akb Nat)(b:Nat)(xs ys:akb (akb D)){e k L:Nat}(h':akb aq)(c1:Nat)(hb:s.h[b]?=some (.vec e k (bo xs)))(fB:∀c∈xs,c.all D.te=true)(hL:xs.length=L)(hy:ys=xs)
 (ho:(live.flatMap fun i=>(bB s.t i).nZ b)=List.replicate c1 (0,L,L,k)) (hh:jz b L k ys s.h h') (K:bJ P r N0 c Q ⟨s.n,live.map (fun i=>(i,(bB s.t i).mlt b ys)),h'.set b .gone⟩):bJ P r N0 c Q s:=by
 subst hy;exact af5 live b _ h' c1 hb fB hL ho hh K
theorem xy{α:Type}{f:α→akb D}(hf:∀x,(f x).all D.te=true)(E:akb α):∀c∈E.map f,c.all D.te=true:=fun c hc=>by
 obtain⟨x,_,rfl⟩:=List.mem_map.1 hc;exact hf x
theorem y9{α:Type}{f:α→akb D}{E:akb α}{L:Nat}(h:E.length=L):(E.map f).length=L:=by rw[ajs,h]
theorem P8{α:Type}{E:akb α}{i:Nat}{x y:α}(h:E[i]?=some x):(E.set i y)[i]?=some y:=by
 rw[ajQ (ajn.1 h).1]
def J7(o:Oper):Bool:=
 match o.op with
 | .call c=>match c.callee with
   | .value _=>false
   |_=>true
 |_=>true
def VF:bX→Bool
 | .va _=>true
 |_=>false
def I0(o:Oper)(a:bX):Bool:=mV true o||(J7 o&&(iz o|| !VF a))
def Jw(as:akb (Nat×bX)):Nat→akb Oper→Bool
 |_,[]=>true
 |j,o::l=>I0 o (gM as (3*j+1))&&Jw as (j+1) l
section
variable {P:ake} {ops:Array Oper} {o:Oper} {j:Nat} {as:akb (Nat×bX)} {s s1:St} {l:akb (In×bX)} {K:St→Prop}
theorem acG(hn:J7 o=true)(h:n5 P o K s):AL P o K s:=by
 unfold AL;unfold J7 at hn;split
 ·next c fa=>
  rw[fa]at hn;split
  ·next f hc=>simp only[hc]at hn;cases hn
  ·exact h
 ·exact h
theorem Wy(h:nX P false o j as s=some (s1,l))(bY:fS P l)(hK:K s1)(hL:I0 o (gM as (3*j+1))=true):xU true P o K s:=by
 unfold nX at h;simp only[Bool.false_and,cond_false]at h;split at h
 ·next x h' i hr=>
  have fin:OK P i (gM as (3*j+1))→K ((s.wh h').put o.dst x)→xU true P o K s:=fun h1 h2=>by
   unfold I0 at hL;rw[Bool.or_eq_true]at hL;unfold G8 at hr;split at hr
   ·next va e=>
    simp only[Bool.false_and,cond_false]at hr;split at hr
    ·next x2 Q3 p e2=>
     cases hr
     rcases hL with hL|hL
     ·exfalso;rw[e]at h1;unfold mV at hL;simp only[Bool.true_and]at hL;split at hL
      ·next c fa=>
       split at hL
       ·next t hc=>
        rw[fa]at e2;unfold gJ at e2;simp only[hc]at e2;cases e2
       ·cases hL
      ·cases hL
     ·rw[e]at h1 hL;simp only[VF,Bool.not_true,Bool.or_false,ajp]at hL;cases h1 with|pr _ hp=>exact .inr (.inr (.inl ⟨hL.2,va,x,h',p,e2,hp,h2⟩))
    ·cases hr
   ·rcases hL with hL|hL
    ·exact .inr (.inl ⟨hL,x,h',h2,fun C hC=>AF hr h1 hC⟩)
    ·rw[ajp]at hL;exact .inl (acG hL.1 (AF (C:=fun x h'=>K ((s.wh h').put o.dst x)) hr h1 h2))
  split at h
  ·next y hy=>
   obtain⟨m,e,h2,h3⟩:=Jt h bY;cases e
   have:=h2 (.eq x, .eq y) ajt;cases this with|eq e=>subst e;exact fin h3 hK
  ·obtain⟨m,e,h2,h3⟩:=Jt h bY;cases e
   exact fin h3 hK
 ·cases h
theorem aiL(h:mK P ops false o j as s=some (s1,l))(bY:fS P l)(hK:K s1)(hL:I0 o (gM as (3*j+1))=true):aGuard ops o s (xU true P o K s) (K (s.put o.dst (.d (.v undef)))):=by
 unfold mK at h;split at h
 ·next hg=>unfold aGuard;rw[hg];exact Wy h bY hK hL
 ·next g want hg=>
  obtain⟨dst,op,ty,pos,after,guard⟩:=o;simp only at hg;subst hg;split at h
  ·next b hb=>
   obtain⟨n,e,h2,h3⟩:=yo h bY;have h4:=OK.F7 (h3 (_,_) ajt);rw[Ju,h4];refine⟨fun e2=> ?_,fun e2=> ?_⟩
   ·subst e2;simp only[BEq.rfl,cond_true]at e;exact Wy e h2 hK hL
   ·subst e2;have:((!want)==want)=false:=by cases want<;>rfl
    rw[this]at e;simp only[cond_false]at e;cases e
    exact hK
  ·next hb=>
   obtain⟨n,e,h2,h3⟩:=yo h bY;cases e
   have h4:=h3 (_,_) ajt;have h5:su ops g s.t= .d (.v undef):=by
    generalize su ops g s.t=z at h4;cases h4;rfl
   rw[Ju,h5];exact hK
  ·cases h
theorem To:∀(ol:akb Oper)(j:Nat)(s:St)(l:akb (In×bX)),mF P ops false ol j as s=some (s1,l)→fS P l→Jw as j ol=true→K s1→tJ true P ops ol K s
 |[],_,s,l,h,_,_,hK=>by cases h;exact hK
 |o::rest,j,s,l,h,bY,hL,hK=>by
  unfold Jw at hL;rw[ajp]at hL;unfold mF at h;split at h
  ·next s2 m hg=>
   obtain⟨n,e,h2,h3⟩:=yo h bY;exact aiL (K:=tJ true P ops rest K) hg h3 (To rest (j+1) s2 n e h2 hL.2 hK) hL.1
  ·cases h
theorem Qo:∀(ol pre:akb Oper),qI (pre++ol).toArray ((List.range ol.length).map (pre.length+·))=ol
 |[],_=>rfl
 |o::l,pre=>by
  rw[ajq,List.range_succ_eq_map,ajM,List.map_map];unfold qI;have h1:(pre++o::l).toArray[pre.length+0]?=some o:=by simp
  rw[h1];simp only;have h2:=Qo l (pre++[o]);rw[ajE]at h2;simp only[List.singleton_append,ajo,ajq,ajz,ajH]at h2
  congr 1
  rw[show(pre.length+·)∘Nat.succ=(pre.length+1+·)from by funext i;simp only[Function.comp];omega];exact h2
theorem aal(ol:akb Oper):qI ol.toArray (List.range ol.length)=ol:=by
 have:=Qo ol []
 simpa using this
end
section
variable {P:ake} {r:akd Nat} {N0 id n:Nat} {ol:akb Oper} {y:Code} {t:akb (Nat×AV)} {h:akb aq} {Q Q':Exit→St→Prop}
end
section
variable {P:ake} {r:akd Nat} {N0:Nat} {Q:Exit→St→Prop} {c:Code} {o:Oper} {K:St→Prop}
end
end Go.Proofs.YtpgmcallngdceaaGreatDoor
namespace Go.Proofs.YtpgmcallngdceaaGreatDoor.MK
open Go.RowKit
set_option linter.unusedVariables false
def aq(w:akg)(g:Nat)(t:TypeId)(cs:akb akf):Prop:=w.heap[g]?=some (.cells cs.toArray t (0,0))
section
variable {w w':akg} {g:Nat} {t:TypeId} {cs:akb akf}
end
section
variable {P:ake} (w:akg)
end
section
variable {P:ake} {w:akg}
end
section
variable {S E base:Nat} {w w' w'':akg}
end
end Go.Proofs.YtpgmcallngdceaaGreatDoor.MK
namespace Go.Proofs.YtpgmcallngdceaaGreatDoor
open Go.RowKit
set_option linter.unusedSimpArgs false
set_option linter.unusedVariables false
section
variable {P:ake}
end
def Iy{α:Type}(x:AV)(k:AV→α):α:=
 match x with
 | .d y=>k (.d y)
 | .agg cs=>k (.agg cs)
 | .bk cs=>k (.bk cs)
 | .ptr n o=>fN n fun n=>fN o fun o=>k (.ptr n o)
 | .own n xs=>fN n fun n=>k (.own n xs)
 | .fn f cs=>k (.fn f cs)
 | .mp n=>fN n fun n=>k (.mp n)
 |x=>k x
theorem Sl{α:Type}(x:AV)(k:AV→α):Iy x k=k x:=by cases x<;>simp [Iy,DA]
def fT{α:Type}:akb (Nat×AV)→(akb (Nat×AV)→α)→α
 |[],k=>k []
 |(d,x)::l,k=>fN d fun d=>Iy x fun x=>fT l fun l=>k ((d,x)::l)
theorem Rv{α:Type}:∀(l:akb (Nat×AV))(k:akb (Nat×AV)→α),fT l k=k l
 |[],k=>rfl
 |(d,x)::l,k=>by rw[fT,DA,Sl,Rv l]
def fC{α:Type}:akb AV→(akb AV→α)→α
 |[],k=>k []
 |x::l,k=>Iy x fun x=>fC l fun l=>k (x::l)
theorem Vb{α:Type}:∀(l:akb AV)(k:akb AV→α),fC l k=k l
 |[],k=>rfl
 |x::l,k=>by rw[fC,Sl,Vb l]
def fH{α:Type}:akb aq→(akb aq→α)→α
 |[],k=>k []
 | .cells cs::l,k=>fC cs fun cs=>fH l fun l=>k (.cells cs::l)
 | .front e z n::l,k=>fH l fun l=>k (.front e z n::l)
 | .map kv::l,k=>fH l fun l=>k (.map kv::l)
 | .gone::l,k=>fH l fun l=>k (.gone::l)
 |B::l,k=>fH l fun l=>k (B::l)
theorem tB{α:Type}:∀(l:akb aq)(k:akb aq→α),fH l k=k l
 |[],k=>rfl
 | .cells cs::l,k=>by rw[fH,Vb,tB l]
 | .front e z n::l,k=>by rw[fH,tB l]
 | .map kv::l,k=>by rw[fH,tB l]
 | .gone::l,k=>by rw[fH,tB l]
 | .vec .. ::l,k=>by rw[fH,tB l]<;>simp
 | .lp .. ::l,k=>by rw[fH,tB l]<;>simp
 | .it .. ::l,k=>by rw[fH,tB l]<;>simp
def ME{α:Type}(s:St)(k:St→α):α:=fN s.n fun n=>fT s.t fun t=>fH s.h fun h=>k ⟨n,t,h⟩
theorem Xp{α:Type}(s:St)(k:St→α):ME s k=k s:=by unfold ME;rw[DA,Rv,tB]
inductive Fr
 |S (y:Code)
 |B (id:Nat)
 |F (k:Nat) (f:St→Prop)
def fq(P:ake)(r:akd Nat)(N0:Nat)(Q:Exit→St→Prop):akb Fr→Exit→St→Prop
 |[]=>Q
 | .S y::K=>gA (fun s=>bJ P r N0 y (fq P r N0 Q K) s) (fq P r N0 Q K)
 | .B id::K=>pc id (fq P r N0 Q K)
 | .F _ f::K=>gA f (fq P r N0 Q K)
inductive Md
 |c (c:Code)
 |n
 |x (id:Nat)
inductive WR
 |at (c:Code) (K:List Fr) (s:St)
 |ret (s:St)
 |nrm (s:St)
 |fin (k:Nat) (s:St)
abbrev WO:=akd (WR×akb (In×bX))
def Je(l:akb (In×bX)):WO→WO
 |some (w,m)=>some (w,l++m)
 |none=>none
def kN(P:ake):Nat→Md→akb Fr→akb (akb (Nat×bX))→St→WO
 |0,_,_,_,_=>none
 |F+1,m,K,A,s=>match m with
  | .n=>match K with
    |[]=>some (.nrm s,[])
    | .S y::K=>kN P F (.c y) K A s
    | .B _::K=>kN P F .n K A s
    | .F k _::_=>some (.fin k s,[])
  | .x id=>match K with
    |[]=>none
    | .S _::K=>kN P F (.x id) K A s
    | .B oy::K=>kN P F (bif id==oy then .n else .x id) K A s
    | .F _ _::K=>kN P F (.x id) K A s
  | .c c=>match c with
    | .seq a b=>kN P F (.c a) (.S b::K) A s
    | .block id b=>kN P F (.c b) (.B id::K) A s
    | .skip=>kN P F .n K A s
    | .ret=>some (.ret s,[])
    | .exit id=>kN P F (.x id) K A s
    | .region id ops dr=>match A with
      |[]=>some (.at (.region id ops dr) K s,[])
      |as::A=>bif !dr||q9 ops then match mF P ops dr ops.toList 0 as s with
         |some (s1,l)=>ME s1 fun s1=>Je l (kN P F .n K A s1)
         |none=>none
       else none
    | .cond o x y=>match A with
      |[]=>some (.at (.cond o x y) K s,[])
      |as::A=>match gM as 0 with
       | .bit b=>Je [(.bit (ev s o), .bit b)] (kN P F (.c (bif b then x else y)) K A s)
       |_=>none
    |c=>match A with
     |[]=>some (.at c K s,[])
     |_=>none
section
variable {P:ake} {r:akd Nat} {N0:Nat} {Q:Exit→St→Prop}
theorem I5:∀(K:akb Fr)(s:St),Q .ret s→fq P r N0 Q K .ret s
 |[],_,h=>h
 | .S _::K,s,h=>I5 K s h
 | .B _::K,s,h=>I5 K s h
 | .F _ _::K,s,h=>I5 K s h
def agP(P:ake)(r:akd Nat)(N0:Nat)(Q:Exit→St→Prop)(m:Md)(K:akb Fr)(s:St):Prop:=
 match m with
 | .c c=>bJ P r N0 c (fq P r N0 Q K) s
 | .n=>fq P r N0 Q K .normal s
 | .x id=>fq P r N0 Q K (.exit id) s
def Eg(P:ake)(r:akd Nat)(N0:Nat)(Q:Exit→St→Prop)(K0:akb Fr):WR→Prop
 | .at c K s=>bJ P r N0 c (fq P r N0 Q K) s
 | .ret s=>Q .ret s
 | .nrm s=>Q .normal s
 | .fin k s=>∀f,Fr.F k f∈K0→f s
theorem Eg.sub{K K':akb Fr}(h:∀k f,Fr.F k f∈K'→Fr.F k f∈K):∀{w:WR},Eg P r N0 Q K w→Eg P r N0 Q K' w
 | .at _ _ _,hp=>hp
 | .ret _,hp=>hp
 | .nrm _,hp=>hp
 | .fin k _,hp=>fun f hf=>hp f (h k f hf)
theorem U3{l m:akb (In×bX)}{x:WO}{w:WR}(h:Je l x=some (w,m))(bY:fS P m):∃n,x=some (w,n)∧fS P n∧fS P l:=by
 unfold Je at h;split at h
 ·next w' n=>
  cases h
  exact⟨n,rfl,fun p hp=>bY p (List.mem_append_right _ hp),fun p hp=>bY p (List.mem_append_left _ hp)⟩
 ·cases h
theorem RV(hm:P.follows .mixedOrders=true):∀(F:Nat)(m:Md)(K:akb Fr)(A:akb (akb (Nat×bX)))(s:St)(w:WR)(l:akb (In×bX)),kN P F m K A s=some (w,l)→fS P l→Eg P r N0 Q K w→agP P r N0 Q m K s
 |0,_,_,_,_,_,_,h,_,_=>by simp [kN]at h
 |F+1,m,K,A,s,w,l,h,bY,hp=>by
  have ih:=RV hm F;have tl:∀{x:Fr}{K:akb Fr},∀k f,Fr.F k f∈K→Fr.F k f∈x::K:=fun _ _ h=>ajw _ h;have pS:∀{y:Code}{K:akb Fr},∀k f,Fr.F k f∈Fr.S y::K→Fr.F k f∈K:=fun k f h=>by
   rcases ajR.1 h with h|h
   ·cases h
   ·exact h
  have pB:∀{y:Nat}{K:akb Fr},∀k f,Fr.F k f∈Fr.B y::K→Fr.F k f∈K:=fun k f h=>by
   rcases ajR.1 h with h|h
   ·cases h
   ·exact h
  unfold kN at h;cases m with
  |n=>
   cases K with
   |nil=>cases h;exact hp
   |cons x K=>
    cases x with
    |S y=>exact ih (.c y) K _ _ _ _ h bY (hp.sub tl)
    |B id=>exact ih .n K _ _ _ _ h bY (hp.sub tl)
    |F k f=>cases h;exact hp _ ajt
  |x id=>
   cases K with
   |nil=>cases h
   |cons x K=>
    cases x with
    |S y=>exact ih (.x id) K _ _ _ _ h bY (hp.sub tl)
    |B oy=>
     show(bif id==oy then fq P r N0 Q K .normal s else fq P r N0 Q K (.exit id) s);simp only at h;cases e:id==oy with
     |true=>rw[e]at h;exact ih .n K _ _ _ _ h bY (hp.sub tl)
     |false=>rw[e]at h;exact ih (.x id) K _ _ _ _ h bY (hp.sub tl)
    |F k f=>exact ih (.x id) K _ _ _ _ h bY (hp.sub tl)
  |c c=>
   simp only at h;split at h
   ·exact bG (ih (.c _) (.S _::K) _ _ _ _ h bY (hp.sub pS))
   ·exact gv (ih (.c _) (.B _::K) _ _ _ _ h bY (hp.sub pB))
   ·exact fG (ih .n _ _ _ _ _ h bY hp)
   ·cases h;exact dV (I5 K s hp)
   ·exact pk (ih (.x _) _ _ _ _ _ h bY hp)
   ·next id ops dr=>
    split at h
    ·cases h;exact hp
    ·next as A=>
     obtain⟨hb,h⟩:=l5 h;split at h
     ·next s1 l1 e=>
      rw[Xp]at h;obtain⟨n,e2,h2,h3⟩:=U3 h bY;have hk:=ih .n _ _ _ _ _ e2 h2 hp;have dc:=y5 (P:=P) (ops:=ops) (dr:=dr) (K:=fq P r N0 Q K .normal) ops.toList 0 s l1 e h3 hk;cases dr with
      |false=>exact eW dc
      |true=>
       have hl:q9 ops.toList.toArray=true:=by simpa using hb
       have:=Kl (P:=P) (r:=r) (N0:=N0) (Q:=fq P r N0 Q K) (s:=s) (id:=id) (l:=ops.toList) hm hl (by simpa using dc);show bJ P r N0 (.region id ops true) (fq P r N0 Q K) s
       simpa using this
     ·cases h
   ·next o x y=>
    split at h
    ·cases h;exact hp
    ·next as A=>
     split at h
     ·next b e=>
      obtain⟨n,e2,h2,h3⟩:=U3 h bY;have h4:=OK.F7 (h3 (_,_) ajt);have hk:=ih (.c _) _ _ _ _ _ e2 h2 hp;exact Mr h4 (fun e=>by subst e;exact hk) (fun e=>by subst e;exact hk)
     ·cases h
   ·split at h
    ·cases h;exact hp
    ·cases h
end
def wK:WO→akb Fr
 |some (.at _ K _,_)=>K
 |_=>[]
def wS:WO→St
 |some (.at _ _ s,_)=>s
 |_=>⟨0,[],[]⟩
def kJ(k:Nat):akb Fr→akb (St→Prop)
 |[]=>[]
 | .F k' f::K=>bif k'==k then f::kJ k K else kJ k K
 |_::K=>kJ k K
theorem Ez{k:Nat}{f:St→Prop}:∀{K:akb Fr},Fr.F k f∈K→f∈kJ k K
 |[],h=>by cases h
 | .S _::K,h=>by
   rcases ajR.1 h with h|h
   ·cases h
   ·exact Ez (K:=K) h
 | .B _::K,h=>by
   rcases ajR.1 h with h|h
   ·cases h
   ·exact Ez (K:=K) h
 | .F k' g::K,h=>by
   rcases ajR.1 h with h|h
   ·cases h;simp [kJ]
   ·unfold kJ;cases k'==k with
    |true=>exact ajw _ (Ez h)
    |false=>exact Ez h
def vu:WO→akd (akb (In×bX))
 |some (.at _ _ _,l)=>some l
 |_=>none
def tt(live:akb Nat)(m:Nat):WO→akd (St×akb (In×bX))
 |some (.at (.loop _) _ s,l)=>(ia s live m).map (·,l)
 |_=>none
def S7(live:akb Nat)(m:Nat)(ks:akb Nat)(kn:akb (Nat×Nat)):WO→akd (St×akb (In×bX))
 |some (.at (.loop _) _ s,l)=>(kR s live m ks kn).map (·,l)
 |_=>none
def vY:WO→akd (akb (In×bX))
 |some (.at _ (.S _::_) _,l)=>some l
 |_=>none
def tA(k:Nat)(live:akb Nat)(m:Nat):WO→akd (St×akb (In×bX))
 |some (.fin k' s,l)=>bif k'==k then(ia s live m).map (·,l)else none
 |_=>none
def GO(k:Nat)(live:akb Nat)(m:Nat)(ks:akb Nat)(kn:akb (Nat×Nat)):WO→akd (St×akb (In×bX))
 |some (.fin k' s,l)=>bif k'==k then(kR s live m ks kn).map (·,l)else none
 |_=>none
def Mm(P:ake)(rs:akb ResultVar):WO→akd (AV×akb (In×bX))
 |some (.ret s,l)=>(wE P rs s).map (·,l)
 |some (.nrm s,l)=>(wE P rs s).map (·,l)
 |_=>none
def Mk(P:ake)(rs:akb ResultVar)(m:Nat):WO→akd ((AV×akb aq)×akb (In×bX))
 |some (.ret s,l)=>(uh P rs m s).map (·,l)
 |some (.nrm s,l)=>(uh P rs m s).map (·,l)
 |_=>none
def xV:akb Fr→akd (Code×akb Fr)
 | .S y::K=>some (y,K)
 | .B _::K=>xV K
 |_=>none
def MS(P:ake)(bn:akb Nat)(as:akb (Nat×bX)):WO→akd (akb (Nat×AV)×akb aq×akb (In×bX))
 |some (.at (.region _ ops dr) K s,_)=>bif (!dr||q9 ops)&&(xV K).isSome then nR P dr ops.toList as bn s else none
 |_=>none
def nU(k:Nat)(f:St→Prop)(s:St):WO→WO
 |some (.at (.loop b) K _,_)=>some (.at b (.F k f::K) s,[])
 |_=>none
def B5(k:Nat)(f:St→Prop):WO→WO
 |some (.at c (.S _::K) s,_)=>some (.at c (.F k f::K) s,[])
 |_=>none
def CB(s:St):WO→WO
 |some (.at _ (.S y::K) _,_)=>some (.at y K s,[])
 |_=>none
def sk(Δ:akb (Nat×AV))(h':akb aq):WO→WO
 |some (.at _ K s,_)=>match xV K with
  |some (y,K')=>some (.at y K' ⟨s.n,Δ++s.t,h'⟩,[])
  |none=>none
 |_=>none
def Vw(f:St→St):WO→WO
 |some (.at c K s,l)=>some (.at c K (f s),l)
 |_=>none
def U1:Nat:=4000
def wk(P:ake)(w:WO)(aW:akb (akb (Nat×Ob P))):WO:=
 match w with
 |some (.at c K s,_)=>kN P U1 (.c c) K (aW.map jX) s
 |_=>none
def ff{P:ake}(aW:akb (akb (Nat×Ob P))):akb (In×bX):=aW.flatMap jv
theorem aeP{P:ake}(aW:akb (akb (Nat×Ob P))):fS P (ff aW):=fun p hp=>by
 obtain⟨l,_,h⟩:=List.mem_flatMap.1 hp;exact uV l p h
theorem o6{α β:Type}{x:akd α}{l:β}{y:α}{m:β}(h:x.map (·,l)=some (y,m)):x=some y∧l=m:=by
 cases x with
 |none=>cases h
 |some z=>cases h;exact⟨rfl,rfl⟩
def C3(P:ake)(r:akd Nat)(N0:Nat)(Q:Exit→St→Prop):WO→Prop
 |some (.at c K s,_)=>bJ P r N0 c (fq P r N0 Q K) s
 |_=>True
structure GW(P:Program)(r:Option Nat)(N0:Nat)(Q:Exit→St→Prop)(w:WO):Prop where
 run:C3 P r N0 Q w
section
variable {P:ake} {r:akd Nat} {N0:Nat} {Q:Exit→St→Prop} {w0:WO}
theorem lC{aW:akb (akb (Nat×Ob P))}(hm:P.follows .mixedOrders=true){w:WR}(e:wk P w0 aW=some (w,ff aW))(hp:∀K,(∀k f,Fr.F k f∈K→Fr.F k f∈wK w0)→Eg P r N0 Q K w):GW P r N0 Q w0:=by
 constructor
 unfold wk at e;split at e
 ·next c K s l=>exact RV hm U1 (.c c) K _ s w _ e (aeP aW) (hp K fun k f h=>h)
 ·cases e
theorem au(hm:P.follows .mixedOrders=true)(aW:akb (akb (Nat×Ob P)))(k:GW P r N0 Q (wk P w0 aW))(e:vu (wk P w0 aW)=some (ff aW):=by kernel_rfl):GW P r N0 Q w0:=by
 generalize hw:wk P w0 aW=w at e k;unfold vu at e;split at e
 ·cases e;exact lC hm hw fun K _=>k.run
 ·cases e
theorem acZ(hm:P.follows .mixedOrders=true){fn:Func}{R:AV}(aW:akb (akb (Nat×Ob P)))(e:Mm P fn.results.toList (wk P w0 aW)=some (R,ff aW)):GW P r N0 (Ae P fn R) w0:=by
 generalize hw:wk P w0 aW=w at e;unfold Mm at e;split at e
 ·obtain⟨e1,rfl⟩:=o6 e;exact lC hm hw fun K _=>e1
 ·obtain⟨e1,rfl⟩:=o6 e;exact lC hm hw fun K _=>e1
 ·cases e
theorem abS(hm:P.follows .mixedOrders=true){fn:Func}{m:Nat}{R:AV}{H:akb aq}(aW:akb (akb (Nat×Ob P)))(e:Mk P fn.results.toList m (wk P w0 aW)=some ((R,H),ff aW)):GW P r N0 (yj P fn m R H) w0:=by
 generalize hw:wk P w0 aW=w at e;unfold Mk at e;split at e
 ·obtain⟨e1,rfl⟩:=o6 e;exact lC hm hw fun K _=>e1
 ·obtain⟨e1,rfl⟩:=o6 e;exact lC hm hw fun K _=>e1
 ·cases e
theorem wr(hm:P.follows .mixedOrders=true){fn:Func}{R:AV}(aW:akb (akb (Nat×Ob P)))(e:Mm P fn.results.toList (wk P w0 aW)=some (R,ff aW):=by kernel_rfl):GW P r N0 (Ae P fn R) w0:=acZ hm aW e
theorem cG(hm:P.follows .mixedOrders=true){fn:Func}{m:Nat}{R:AV}{H:akb aq}(aW:akb (akb (Nat×Ob P)))(e:Mk P fn.results.toList m (wk P w0 aW)=some ((R,H),ff aW):=by kernel_rfl):GW P r N0 (yj P fn m R H) w0:=abS hm aW e
structure FG{ι:Type}(k:Nat)(live:List Nat)(m:Nat)(st:ι→St)(I:ι→Prop)(μ:ι→Nat)(i0:ι)(f:St→Prop):Prop where
 h:∀s' i',ia s' live m=some (st i')→I i'→μ i'<μ i0→f s'
structure PH{ι:Type}(k:Nat)(live:List Nat)(m:Nat)(ks:List Nat)(kn:List (Nat×Nat))(st:ι→St)(I:ι→Prop)(μ:ι→Nat)(i0:ι)(f:St→Prop):Prop where
 h:∀s' i',gj m (s'.h.take m)→kR s' live m ks kn=some (st i')→I i'→μ i'<μ i0→f s'
structure Bo{ι:Type}(k:Nat)(live:List Nat)(m:Nat)(st:ι→St)(I:ι→Prop)(f:St→Prop):Prop where
 h:∀s' i',ia s' live m=some (st i')→I i'→f s'
structure Qg{ι:Type}(k:Nat)(live:List Nat)(m:Nat)(ks:List Nat)(kn:List (Nat×Nat))(st:ι→St)(I:ι→Prop)(f:St→Prop):Prop where
 h:∀s' i',gj m (s'.h.take m)→kR s' live m ks kn=some (st i')→I i'→f s'
theorem Fo(hm:P.follows .mixedOrders=true){k:Nat}{s1:St}{f:St→Prop}(aW:akb (akb (Nat×Ob P)))(e1:kJ k (wK w0)=[f])(e:wk P w0 aW=some (.fin k s1,ff aW))(hf:f s1):GW P r N0 Q w0:=
 lC hm e fun K hK g hg=>by
  have:=Ez (hK k g hg);rw[e1,List.mem_singleton]at this;subst this;exact hf
theorem Di(hm:P.follows .mixedOrders=true){ι:Type}{live:akb Nat}{m k:Nat}{st:ι→St}{I:ι→Prop}{μ:ι→Nat}{i0:ι}{f:St→Prop}(hf:FG k live m st I μ i0 f)(i:ι)(aW:akb (akb (Nat×Ob P)))(hI:I i)(hμ:μ i<μ i0:=by exact aj9 _)(e1:kJ k (wK w0)=[f]:=by kernel_rfl)(e:tA k live m (wk P w0 aW)=some (st i,ff aW):=by kernel_rfl):GW P r N0 Q w0:=by
 generalize hw:wk P w0 aW=w at e;unfold tA at e;split at e
 ·next k' s' l=>
  obtain⟨hb,e⟩:=l5 e;obtain⟨e2,rfl⟩:=o6 e;rw[beq_iff_eq]at hb;subst hb;exact Fo hm aW e1 hw (hf.h _ i e2 hI hμ)
 ·cases e
def ub:akb aq→akb (akb (akb AV))
 |[]=>[]
 | .vec _ _ cs::l=>cs::ub l
 |_::l=>ub l
structure VE(m:Nat) where
 x:List (List AV)
 ok:∀e k,(aq.vec e k x).EK m
def VE.iY{m:Nat}(xs:akb (akb D)):VE m:=⟨bo xs,fun _ _=>(iL (m:=m) (l:=[]) gU).1⟩
def VE.row{m:Nat}(xs:akb (akb D))(i:Nat)(r:akb AV)(h1:r.map (AV.bA m)=r:=by kernel_rfl)(h2:r.all (AV.aT m)=true:=by kernel_rfl):VE m:=⟨(bo xs).set i r,fun _ _=>(vmR (m:=m) (l:=[]) h1 h2 gU).1⟩
theorem El{m:Nat}:∀(l:akb aq)(iE:akb (VE m)),ub l=iE.map VE.x→gj m l
 |[],_,_=>gU
 |B::l,iE,h=>by
  cases B with
  |vec e k cs=>
   cases iE with
   |nil=>cases h
   |cons v vs=>
    have h1:cs=v.x:=(List.cons.inj h).1;subst h1;exact⟨v.ok e k,El l vs (List.cons.inj h).2⟩
  |_=>exact⟨trivial,El l iE h⟩
def MT(m:Nat):WO→akb (akb (akb AV))
 |some (.fin _ s,_)=>ub (s.h.take m)
 |some (.at _ _ s,_)=>ub (s.h.take m)
 |_=>[]
theorem ot(hm:P.follows .mixedOrders=true){ι:Type}{live:akb Nat}{m k:Nat}{ks:akb Nat}{kn:akb (Nat×Nat)}{st:ι→St}{I:ι→Prop}{μ:ι→Nat}{i0:ι}{f:St→Prop}(hf:PH k live m ks kn st I μ i0 f)(i:ι)(aW:akb (akb (Nat×Ob P)))(hI:I i)(hμ:μ i<μ i0:=by exact aj9 _)(e1:kJ k (wK w0)=[f]:=by kernel_rfl)(iE:akb (VE m):=[])(e0:MT m (wk P w0 aW)=iE.map VE.x:=by kernel_rfl)(e:GO k live m ks kn (wk P w0 aW)=some (st i,ff aW):=by kernel_rfl):GW P r N0 Q w0:=by
 generalize hw:wk P w0 aW=w at e e0;unfold GO at e;split at e
 ·next k' s' l=>
  obtain⟨hb,e⟩:=l5 e;obtain⟨e2,rfl⟩:=o6 e;rw[beq_iff_eq]at hb;subst hb;exact Fo hm aW e1 hw (hf.h _ i (El _ iE e0) e2 hI hμ)
 ·cases e
theorem bM(hm:P.follows .mixedOrders=true){ι:Type}{live:akb Nat}{m k:Nat}{st:ι→St}{I:ι→Prop}{f:St→Prop}(hf:Bo k live m st I f)(i:ι)(aW:akb (akb (Nat×Ob P)))(hI:I i)(e1:kJ k (wK w0)=[f]:=by kernel_rfl)(e:tA k live m (wk P w0 aW)=some (st i,ff aW):=by kernel_rfl):GW P r N0 Q w0:=by
 generalize hw:wk P w0 aW=w at e;unfold tA at e;split at e
 ·next k' s' l=>
  obtain⟨hb,e⟩:=l5 e;obtain⟨e2,rfl⟩:=o6 e;rw[beq_iff_eq]at hb;subst hb;exact Fo hm aW e1 hw (hf.h _ i e2 hI)
 ·cases e
theorem LA(hm:P.follows .mixedOrders=true){ι:Type}(k:Nat)(aW:akb (akb (Nat×Ob P)))(live:akb Nat)(m:Nat)(st:ι→St)(I:ι→Prop)(μ:ι→Nat)(i0:ι)(hI:I i0)
 (body:∀i,I i→∀f:St→Prop,FG k live m st I μ i f→GW P r N0 Q (nU k f (st i) (wk P w0 aW)))
 (hN:N0≤m:=by exact ajv rfl) (e:tt live m (wk P w0 aW)=some (st i0,ff aW):=by kernel_rfl):GW P r N0 Q w0:=by
 generalize hw:wk P w0 aW=w at e body;unfold tt at e;split at e
 ·next b K' s' l=>
  obtain⟨e2,rfl⟩:=o6 e;refine lC hm hw fun K _=> ?_;refine adx live m st I μ i0 hN e2 hI fun i hi=> ?_;exact(body i hi _ ⟨fun s' i' h1 h2 h3=>⟨i',h1,h2,h3⟩⟩).run
 ·cases e
theorem rp(hm:P.follows .mixedOrders=true){ι:Type}(k:Nat)(aW:akb (akb (Nat×Ob P)))(live:akb Nat)(m:Nat)(ks:akb Nat)(kn:akb (Nat×Nat))(st:ι→St)(I:ι→Prop)(μ:ι→Nat)(i0:ι)(hI:I i0)
 (body:∀i,I i→∀f:St→Prop,PH k live m ks kn st I μ i f→GW P r N0 Q (nU k f (st i) (wk P w0 aW)))
 (hN:N0≤m:=by exact ajv rfl) (iE:akb (VE m):=[]) (e0:MT m (wk P w0 aW)=iE.map VE.x:=by kernel_rfl) (e:S7 live m ks kn (wk P w0 aW)=some (st i0,ff aW):=by kernel_rfl):GW P r N0 Q w0:=by
 generalize hw:wk P w0 aW=w at e e0 body;unfold S7 at e;split at e
 ·next b K' s' l=>
  obtain⟨e2,rfl⟩:=o6 e;refine lC hm hw fun K _=> ?_;refine E1 live m ks kn st I μ i0 hN ⟨El _ iE e0,e2⟩ hI fun i hi=> ?_;exact(body i hi _ ⟨fun s' i' h0 h1 h2 h3=>⟨i',⟨h0,h1⟩,h2,h3⟩⟩).run
 ·cases e
theorem JJ(hm:P.follows .mixedOrders=true){ι:Type}(k:Nat)(aW:akb (akb (Nat×Ob P)))(live:akb Nat)(m:Nat)(st:ι→St)(I:ι→Prop)
 (br:∀f:St→Prop,Bo k live m st I f→GW P r N0 Q (B5 k f (wk P w0 aW)))
 (rest:∀i,I i→GW P r N0 Q (CB (st i) (wk P w0 aW))) (hN:N0≤m:=by exact ajv rfl) (e:vY (wk P w0 aW)=some (ff aW):=by kernel_rfl):GW P r N0 Q w0:=by
 generalize hw:wk P w0 aW=w at e br rest;unfold vY at e;split at e
 ·cases e
  refine lC hm hw fun K _=> ?_;exact aag live m st I hN (br _ ⟨fun s' i' h1 h2=>⟨i',h1,h2⟩⟩).run fun i hi=>(rest i hi).run
 ·cases e
theorem lI(hm:P.follows .mixedOrders=true){ι:Type}{live:akb Nat}{m k:Nat}{ks:akb Nat}{kn:akb (Nat×Nat)}{st:ι→St}{I:ι→Prop}{f:St→Prop}(hf:Qg k live m ks kn st I f)(i:ι)(aW:akb (akb (Nat×Ob P)))(hI:I i)(iE:akb (VE m):=[])(e0:MT m (wk P w0 aW)=iE.map VE.x:=by kernel_rfl)(e1:kJ k (wK w0)=[f]:=by kernel_rfl)(e:GO k live m ks kn (wk P w0 aW)=some (st i,ff aW):=by kernel_rfl):GW P r N0 Q w0:=by
 generalize hw:wk P w0 aW=w at e e0;unfold GO at e;split at e
 ·next k' s' l=>
  obtain⟨hb,e⟩:=l5 e;obtain⟨e2,rfl⟩:=o6 e;rw[beq_iff_eq]at hb;subst hb;exact Fo hm aW e1 hw (hf.h _ i (El _ iE e0) e2 hI)
 ·cases e
theorem BY(hm:P.follows .mixedOrders=true){ι:Type}(k:Nat)(aW:akb (akb (Nat×Ob P)))(live:akb Nat)(m:Nat)(ks:akb Nat)(kn:akb (Nat×Nat))(st:ι→St)(I:ι→Prop)
 (br:∀f:St→Prop,Qg k live m ks kn st I f→GW P r N0 Q (B5 k f (wk P w0 aW)))
 (rest:∀i,I i→GW P r N0 Q (CB (st i) (wk P w0 aW))) (hN:N0≤m:=by exact ajv rfl) (e:vY (wk P w0 aW)=some (ff aW):=by kernel_rfl):GW P r N0 Q w0:=by
 generalize hw:wk P w0 aW=w at e br rest;unfold vY at e;split at e
 ·cases e
  refine lC hm hw fun K _=> ?_;exact aeh live m ks kn st I hN (br _ ⟨fun s' i' h0 h1 h2=>⟨i',⟨h0,h1⟩,h2⟩⟩).run fun i hi=>(rest i hi).run
 ·cases e
theorem GQ:∀{K:akb Fr}{y:Code}{K':akb Fr}{s:St},xV K=some (y,K')→bJ P r N0 y (fq P r N0 Q K') s→fq P r N0 Q K .normal s
 |[],_,_,_,h,_=>by cases h
 | .S y::K,_,_,_,h,k=>by cases h;exact k
 | .B _::K,_,_,s,h,k=>GQ (K:=K) (s:=s) h k
 | .F _ _::K,_,_,_,h,_=>by cases h
theorem ahJ(hm:P.follows .mixedOrders=true)(Δ:akb (Nat×AV))(h':akb aq)(e:∃aW:akb (Nat×Ob P),MS P (Δ.map (·.1)) (jX aW) (wk P w0 [])=some (Δ,h',jv aW))(k:GW P r N0 Q (sk Δ h' (wk P w0 [])))(e0:vu (wk P w0 [])=some []:=by kernel_rfl):GW P r N0 Q w0:=by
 generalize hw:wk P w0 []=w at e k e0;obtain⟨aW,e⟩:=e;unfold MS at e;split at e
 ·next id ops dr K' s' l=>
  obtain⟨hb,e⟩:=l5 e;rw[ajp]at hb;cases e0
  refine lC hm hw fun K _=> ?_;obtain⟨s1,h1,h2,h3,h4⟩:=FB e;obtain⟨p,hp⟩:=Option.isSome_iff_exists.1 hb.2;obtain⟨y,K2⟩:=p;have hk:fq P r N0 Q K' .normal s1:=by
   refine GQ hp (JD (s:=s1) (s':=⟨s'.n,Δ++s'.t,h'⟩) h2.symm h3.symm h4 ?_);have k:=k.run;simp only[sk,hp]at k;exact k
  show bJ P r N0 (.region id ops dr) (fq P r N0 Q K') s';have dc:=y5 (P:=P) (ops:=ops.toList.toArray) (dr:=dr) (K:=fq P r N0 Q K' .normal) ops.toList 0 s' _ h1 (uV aW) hk;cases dr with
  |false=>exact eW (by simpa using dc)
  |true=>
   have hl:q9 ops.toList.toArray=true:=by simpa using hb.1
   have:=Kl (P:=P) (r:=r) (N0:=N0) (Q:=fq P r N0 Q K') (s:=s') (id:=id) (l:=ops.toList) hm hl (by simpa using dc)
   simpa using this
 ·cases e
def LL(P:ake)(bn:akb Nat)(as:akb (Nat×bX)):WO→akd (akb (akb (Nat×AV)×akb aq×akb (In×bX)))
 |some (.at (.region _ ops true) K s,_)=>bif (xV K).isSome then IW P ops.toList as bn s else none
 |_=>none
theorem mo(m:Nat)(hm:P.follows .mixedOrders=true)(Δ:akb (Nat×AV))(h':akb aq)(e:∃aW:akb (Nat×Ob P),LL P (Δ.map (·.1)) (jX aW) (wk P w0 [])=some (List.replicate m (Δ,h',jv aW)))(k:GW P r N0 Q (sk Δ h' (wk P w0 [])))(e0:vu (wk P w0 [])=some []:=by kernel_rfl):GW P r N0 Q w0:=by
 generalize hw:wk P w0 []=w at e k e0;obtain⟨aW,e⟩:=e;unfold LL at e;split at e
 ·next id ops K' s' l=>
  obtain⟨hb,e⟩:=l5 e;cases e0
  refine lC hm hw fun K _=> ?_;obtain⟨p,hp⟩:=Option.isSome_iff_exists.1 hb;obtain⟨y,K2⟩:=p;show bJ P r N0 (.region id ops true) (fq P r N0 Q K') s';have:=rte (r:=r) (N0:=N0) (Q:=fq P r N0 Q K') (id:=id) (ol:=ops.toList) (n:=s'.n) (t:=s'.t) (h:=s'.h) m hm aW Δ h' e (GQ hp (by
   have k:=k.run;simp only[sk,hp]at k;exact k))
  simpa using this
 ·cases e
def Q8(P:ake)(bn:akb Nat)(as:akb (Nat×bX)):WO→akd (akb (Nat×AV)×akb aq×akb (In×bX))
 |some (.at (.region _ ops true) K s,_)=>bif (xV K).isSome&&IM true ops (List.range ops.toList.length)&&Jw as 0 ops.toList then nR P false ops.toList as bn s else none
 |_=>none
theorem Mn(hm:P.follows .mixedOrders=true)(aW:akb (Nat×Ob P))(Δ:akb (Nat×AV))(h':akb aq)(k:GW P r N0 Q (sk Δ h' (wk P w0 [])))(e:Q8 P (Δ.map (·.1)) (jX aW) (wk P w0 [])=some (Δ,h',jv aW):=by kernel_rfl)(e0:vu (wk P w0 [])=some []:=by kernel_rfl):GW P r N0 Q w0:=by
 generalize hw:wk P w0 []=w at e k e0;unfold Q8 at e;split at e
 ·next id ops K' s' l=>
  obtain⟨hb,e⟩:=l5 e;rw[ajp,ajp]at hb;cases e0
  refine lC hm hw fun K _=> ?_;obtain⟨p,hp⟩:=Option.isSome_iff_exists.1 hb.1.1;obtain⟨y,K2⟩:=p;show bJ P r N0 (.region id ops true) (fq P r N0 Q K') s';have hk:bJ P r N0 y (fq P r N0 Q K2) ⟨s'.n,Δ++s'.t,h'⟩:=by
   have k:=k.run;simp only[sk,hp]at k;exact k
  obtain⟨s1,h1,h2,h3,h4⟩:=FB e;have Jg:fq P r N0 Q K' .normal s1:=GQ hp (JD (s:=s1) (s':=⟨s'.n,Δ++s'.t,h'⟩) h2.symm h3.symm h4 hk);have hl:IM true ops.toList.toArray (List.range ops.toList.length)=true:=by simpa using hb.1.2
  have:bJ P r N0 (.region id ops.toList.toArray true) (fq P r N0 Q K') s':=by
   refine Y6 (m:=true) (List.range ops.toList.length) hm (by simp) hl ?_;rw[aal];exact To ops.toList 0 _ _ h1 (uV aW) hb.2 Jg
  simpa using this
 ·cases e
def K1(b:Nat):aq→akb (Nat×Nat×Nat×Nat)
 | .cells cs=>AV.nf b cs
 | .lp .. =>[(1,0,0,0)]
 | .it .. =>[(1,0,0,0)]
 |_=>[]
structure VM(b L kk:Nat)(ys:List (List D)) where
 x:List (List AV)
 y:List (List AV)
 ok:ys.length=L→y=x.map (·.map (AV.cw b kk ys))
def VM.iY{b L kk:Nat}{ys:akb (akb D)}(zs:akb (akb D)):VM b L kk ys:=⟨bo zs,bo zs,fun _=>(xg (fun d=>by simp [AV.cw]) zs).symm⟩
def VM.rw{b L kk:Nat}{ys:akb (akb D)}(zs:akb (akb D))(i:Nat)(cs ca:akb AV)(c:Nat)(h:AV.nf b cs=List.replicate c (0,L,L,kk):=by kernel_rfl)(e:AV.lv b ys cs=ca:=by kernel_rfl):VM b L kk ys:=
 ⟨(bo zs).set i cs,(bo zs).set i ca,fun hL=>by rw[List.map_set,xg (fun d=>by simp [AV.cw]),←oU,qm _ (z7 hL h),e]⟩
def VM.row{b L kk:Nat}{ys:akb (akb D)}{α:Type}(f:α→akb D)(E:akb α)(i:Nat)(cs:akb AV)(y:α)(c:Nat)(h:AV.nf b cs=List.replicate c (0,L,L,kk):=by kernel_rfl)(e:AV.lv b ys cs=(f y).map AV.d:=by kernel_rfl):VM b L kk ys:=
 ⟨(bo (E.map f)).set i cs,bo ((E.set i y).map f),fun hL=>by
   have h1:((bo (E.map f)).set i cs).map (·.map (AV.cw b kk ys))=(bo (E.map f)).set i (cs.map (AV.cw b kk ys)):=by rw[List.map_set,xg (fun d=>by simp [AV.cw])]
   have h2:cs.map (AV.cw b kk ys)=(f y).map AV.d:=by rw[←oU,qm _ (z7 hL h),e]
   rw[h1,h2];exact(abh rfl).symm⟩
def ql(b:Nat)(ys:akb (akb D)):akb aq→akb (akb (akb AV))→akb aq
 |[],_=>[]
 |B::l,vs=>match B with
  | .vec e k cs=>match vs with
    |v::vs=> .vec e k v::ql b ys l vs
    |[]=> .vec e k cs::ql b ys l []
  | .cells cs=> .cells (AV.lv b ys cs)::ql b ys l vs
  |B=>B::ql b ys l vs
theorem WI{b L kk:Nat}{ys:akb (akb D)}(hL:ys.length=L):∀(h:akb aq)(vs:akb (VM b L kk ys)),ub h=vs.map VM.x→(∀q∈h.flatMap (K1 b),q=(0,ys.length,ys.length,kk))→ql b ys h (vs.map VM.y)=h.map (aq.iV (AV.cw b kk ys))
 |[],_,_,_=>rfl
 |B::l,vs,hv,ho=>by
  have hl:∀vs:akb (VM b L kk ys),ub l=vs.map VM.x→ql b ys l (vs.map VM.y)=l.map (aq.iV (AV.cw b kk ys)):=fun vs hv=>WI hL l vs hv fun q hq=>ho q (by rw[List.flatMap_cons];exact List.mem_append_right _ hq);have hb:∀q∈K1 b B,q=(0,ys.length,ys.length,kk):=fun q hq=>ho q (by rw[List.flatMap_cons];exact List.mem_append_left _ hq);cases B with
  |vec e k cs=>
   cases vs with
   |nil=>cases hv
   |cons v vs=>
    have hv1:cs=v.x:=(List.cons.inj hv).1;have e1:(aq.vec e k cs).iV (AV.cw b kk ys)= .vec e k v.y:=by rw[v.ok hL,hv1];rfl
    show aq.vec e k v.y::ql b ys l (vs.map VM.y)=aq.iV (AV.cw b kk ys) (.vec e k cs)::l.map _;rw[hl vs (List.cons.inj hv).2,e1]
  |cells cs=>
   have e1:(aq.cells cs).iV (AV.cw b kk ys)= .cells (AV.lv b ys cs):=by
    rw[←qm cs hb,oU];rfl
   show aq.cells (AV.lv b ys cs)::ql b ys l (vs.map VM.y)=aq.iV (AV.cw b kk ys) (.cells cs)::l.map _;rw[hl vs hv,e1]
  |front e k n=>exact congrArg (aq.front e k n::·) (hl vs hv)
  |map kv=>exact congrArg (aq.map kv::·) (hl vs hv)
  |gone=>exact congrArg (aq.gone::·) (hl vs hv)
  |lp ls p as bd cs=>have:=congrArg Prod.fst (hb (1,0,0,0) ajt);cases this
  |it sn cs=>have:=congrArg Prod.fst (hb (1,0,0,0) ajt);cases this
theorem ZT{c:Code}{s:St}(live:akb Nat)(b:Nat)(xs:akb (akb D)){e k L:Nat}(h':akb aq)(hb:s.h[b]?=some (.vec e k (bo xs)))(fB:∀c∈xs,c.all D.te=true)(hL:xs.length=L)
 (ho:∀q∈live.flatMap fun i=>(bB s.t i).nZ b,q=(0,xs.length,xs.length,k)) (hh:h'=s.h.map (aq.iV (AV.cw b k xs))) (K:bJ P r N0 c Q ⟨s.n,live.map (fun i=>(i,(bB s.t i).mlt b xs)),h'.set b .gone⟩):bJ P r N0 c Q s:=by
 constructor
 intro G w a n hs hN;obtain⟨G',hE,e1,cp⟩:=hs.L1 xs hb fB;refine wpIn_mono (K.run G' w a n (cp.less rfl (by rw[hh]) fun i=> ?_) (by rw[e1];exact hN)) fun _ _ _ hn=>hn.trans (hE.less hN);show bB (live.map (fun i=>(i,(bB s.t i).mlt b xs))) i=bB (s.t.map fun p=>(p.1,p.2.cw b k xs)) i∨_;rw[pz (fun k=>(bB s.t k).mlt b xs),E2 (AV.cw b k xs) (by simp [AV.cw])];split
 ·next hi=>
  left
  refine(NI _ fun q hq=>ho q ?_).symm;exact List.mem_flatMap.2 ⟨i,hi,hq⟩
 ·exact .inr rfl
def aev(live:akb Nat)(b:Nat)(s:St):akb (Nat×Nat×Nat×Nat):=(live.flatMap fun i=>(bB s.t i).nZ b)++s.h.flatMap (K1 b)
def ZD(live:akb Nat)(b:Nat)(ys:akb (akb D))(vs:akb (akb (akb AV)))(s:St):St:=⟨s.n,live.map (fun i=>(i,(bB s.t i).mlt b ys)),(ql b ys s.h vs).set b .gone⟩
theorem A9(live:akb Nat)(b:Nat){xs:akb (akb D)}(ys:akb (akb D))(L c e k:Nat)(vs:akb (VM b L k ys))(hL:xs.length=L)(hy:ys=xs)(fB:∀c∈xs,c.all D.te=true)(K:GW P r N0 Q (Vw (ZD live b ys (vs.map VM.y)) w0))(hb:(wS w0).h[b]?=some (.vec e k (bo xs)):=by kernel_rfl)(ho:aev live b (wS w0)=List.replicate c (0,L,L,k):=by kernel_rfl)(hv:ub (wS w0).h=vs.map VM.x:=by kernel_rfl):GW P r N0 Q w0:=by
 subst hy;constructor
 unfold C3;split
 ·next c K' s l=>
  have fh:=z7 hL ho;exact ZT live b ys _ hb fB hL (fun q hq=>fh q (List.mem_append_left _ hq)) (WI hL s.h vs hv fun q hq=>fh q (List.mem_append_right _ hq)) K.run
 ·trivial
theorem aiN(k:Nat)(xs:akb (akb D))(hx:(bB (wS w0).t k).ej=some xs)(h:rW (.sl xs)→GW P r N0 Q w0):GW P r N0 Q w0:=by
 constructor
 unfold C3;split
 ·next c K s l=>exact xk k xs hx fun hl=>(h hl).run
 ·trivial
theorem Lo(b i:Nat)(xs:akb (akb D))(hx:(((wS w0).h[b]?).bind fun B=>match B with| .cells cs=>(cs[i]?).bind AV.ej|_=>none)=some xs)(h:rW (.sl xs)→GW P r N0 Q w0):GW P r N0 Q w0:=by
 constructor
 unfold C3;split
 ·next c K s l=>exact afO b i xs hx fun hl=>(h hl).run
 ·trivial
def Ia(b i e sz:Nat)(xs:akb (akb D))(s:St):St:=match s.h[b]? with
 |some (.cells cs)=>⟨s.n,s.t,(s.h++[aq.front e sz xs.length]).set b (aq.cells (cs.set i (AV.own s.h.length xs)))⟩
 |_=>s
def O2(xs:akb (akb D)):AV→Bool
 | .d (.v (.slice none 0 0))=>xs.isEmpty
 |_=>false
theorem ag5{xs:akb (akb D)}{x:AV}(h:O2 xs x=true):x= .d (.v (.slice none 0 0))∧xs=[]:=by
 unfold O2 at h;split at h
 ·exact⟨rfl,List.isEmpty_iff.1 h⟩
 ·cases h
def JQ(b i:Nat)(s:St):AV:=match s.h[b]? with
 |some (.cells cs)=>(cs[i]?).getD .dead
 |_=> .dead
theorem Uh{b i:Nat}{s:St}{x:AV}(h:JQ b i s=x)(hx:x≠ .dead):∃cs,s.h[b]?=some (.cells cs)∧cs[i]?=some x:=by
 unfold JQ at h;split at h
 ·next cs hb=>
  refine⟨cs,hb,?_⟩;cases hq:cs[i]? with
  |none=>rw[hq]at h;exact absurd h.symm hx
  |some y=>rw[hq]at h;rw[←h];rfl
 ·exact absurd h.symm hx
theorem JI(b i e sz:Nat)(xs:akb (akb D))(hx:JQ b i (wS w0)= .full xs∨O2 xs (JQ b i (wS w0))=true)(h:GW P r N0 Q (Vw (Ia b i e sz xs) w0)):GW P r N0 Q w0:=by
 constructor
 unfold C3;split
 ·next c K s l=>
  have h':bJ P r N0 c (fq P r N0 Q K) (Ia b i e sz xs s):=h.run;rcases hx with hx|hx
  ·obtain⟨cs,h1,h2⟩:=Uh hx (fun h=>by cases h);unfold Ia at h';rw[show s.h[b]?=some (.cells cs)from h1]at h';exact P2 b i e sz xs h1 (.inl h2) h'
  ·obtain⟨h3,rfl⟩:=ag5 hx;obtain⟨cs,h1,h2⟩:=Uh h3 (fun h=>by cases h);unfold Ia at h';rw[show s.h[b]?=some (.cells cs)from h1]at h';exact P2 b i e sz [] h1 (.inr ⟨h2,rfl⟩) h'
 ·trivial
end
theorem bc{α:Type}{c:Bool}{a b x:α}{G:Prop}(h:(bif c then a else b)=x)(t:c=true→a=x→G)(f:c=false→b=x→G):G:=by
 cases c with
 |true=>exact t rfl h
 |false=>exact f rfl h
theorem sj{α:Type}{a b:α}(h:some a=some b):a=b:=ajG h
theorem dn{α:Type}{c:Bool}{x:akd α}{r:α}(h:(bif c then x else none)=some r):c=true∧x=some r:=by
 cases c with
 |true=>exact⟨rfl,h⟩
 |false=>cases h
def IB(fn:Func)(args:akb AV)(h:akb aq):WO:=some (.at (fn.body.getD .skip) [] {n:=args.length+(fn.ntmps-args.length),t:=jH 0 args,h:=h},[])
theorem ahX{P:ake}{f:FuncId}{fn:Func}{args:akb AV}{R:AV}(hf:P.funcs[f]?=some fn)(hb:fn.body.isSome=true)(hn:(fn.name== "runtime.NumGoroutine")=false)
 (hw:GW P none 0 (Ae P fn R) (IB fn args [])):aG P f args (·=R):=by
 obtain⟨c,hc⟩:=Option.isSome_iff_exists.1 hb;refine yW hf hc hn ?_;have:fn.body.getD .skip=c:=by rw[hc];rfl
 rw[←this];exact hw.run
theorem ahu{P:ake}{f:FuncId}{fn:Func}{args:akb AV}{h H:akb aq}{R:AV}(m:Nat)(hf:P.funcs[f]?=some fn)(hb:fn.body.isSome=true)(hn:(fn.name== "runtime.NumGoroutine")=false)(hm:h.length≤m)
 (hw:GW P none h.length (yj P fn m R H) (IB fn args h)):bO P f args h fun r1 h1=>r1=R∧h1=H:=by
 obtain⟨c,hc⟩:=Option.isSome_iff_exists.1 hb;refine J5 m hf hc hn hm ?_;have:fn.body.getD .skip=c:=by rw[hc];rfl
 rw[←this];exact hw.run
section aeM
variable {P:ake}
def oL{α:Type}{f:akb α→akb (akb D)}(l:akb α)(h:(f l).length=l.length):Ob P:=⟨_,_, .len h⟩
def oE{xs:akb (akb D)}{k:Nat}{c:akb D}(h:xs[k]?=some c):Ob P:=⟨_,_, .el (xs:=xs) (i:=(k:Int)) (Int.natCast_nonneg _) h⟩
def oq{a b:AV}(h:a=b):Ob P:=⟨_,_, .eq h⟩
def os(ks:akb Nat)(o:Ob P)(l:akb (Nat×Ob P)):akb (Nat×Ob P):=ks.foldr (fun k t=>(k,o)::t) l
noncomputable def Z5(x:Nat×Ob P)(l:akb (Nat×Ob P)):akb (Nat×Ob P):=List.rec [x] (fun y t r=>bif Nat.ble x.1 y.1 then x::y::t else y::r) l
noncomputable def so(l:akb (Nat×Ob P)):akb (Nat×Ob P):=l.foldr Z5 []
theorem JV{xs:akb (akb D)}{n:Nat}(e:xs.length=n)(h:rW (.sl xs)):n≤maxLen:=e▸uy h
end aeM
inductive eJ(P:Program):TypeId→List D→Prop
 |bool {t:TypeId} (b:Bool) (h:P.underlying t=some .bool):eJ P t [.v (.bool b)]
 |int {t:TypeId} {k:IntKind} (n:Int) (h:P.underlying t=some (.int k)) (w:(Lit.int k n).wf=true):eJ P t [.v (.int k n)]
 |str {t:TypeId} (s:ByteArray) (h:P.underlying t=some .string) (w:s.size≤maxLen):eJ P t [.v (.string s)]
 |sl {t e:TypeId} (xs:List (List D)) (h:P.underlying t=some (.slice e)) (w:xs.length≤140737488355328) (hx:∀x∈xs,eJ P e x):eJ P t [.sl xs]
 |struct {t:TypeId} {fs:Array Field} (parts:List (List D)) (h:P.underlying t=some (.struct fs)) (hl:parts.length=fs.size) (hx:∀(i:Nat)(f:Field)(x:List D),fs[i]?=some f→parts[i]?=some x→eJ P f.type x):eJ P t parts.flatten
section
variable {P:ake} {t:TypeId} {xs:akb D}
theorem eJ.oP{k:IntKind}(h:eJ P t xs)(ht:P.underlying t=some (.int k)):∃n,xs=[.v (.int k n)]∧k.min≤n∧n≤k.max:=by
 cases h with
 |bool b h=>rw[ht]at h;cases h
 |int n h w=>
  rw[ht]at h;cases h;unfold Lit.wf at w;simp only[ajp,decide_eq_true_eq]at w;exact⟨n,rfl,w⟩
 |str s h=>rw[ht]at h;cases h
 |sl l h=>rw[ht]at h;cases h
 |struct p h=>rw[ht]at h;cases h
theorem eJ.Nd(h:eJ P t xs)(ht:P.underlying t=some .string):∃s,xs=[.v (.string s)]∧s.size≤maxLen:=by
 cases h with
 |bool b h=>rw[ht]at h;cases h
 |int n h=>rw[ht]at h;cases h
 |str s h w=>exact⟨s,rfl,w⟩
 |sl l h=>rw[ht]at h;cases h
 |struct p h=>rw[ht]at h;cases h
theorem eJ.FI{e:TypeId}(h:eJ P t xs)(ht:P.underlying t=some (.slice e)):∃l,xs=[.sl l]∧l.length≤140737488355328∧∀x∈l,eJ P e x:=by
 cases h with
 |bool b h=>rw[ht]at h;cases h
 |int n h=>rw[ht]at h;cases h
 |str s h=>rw[ht]at h;cases h
 |sl l h w hx=>rw[ht]at h;cases h;exact⟨l,rfl,w,hx⟩
 |struct p h=>rw[ht]at h;cases h
theorem eJ.yv{fs:Array Field}(h:eJ P t xs)(ht:P.underlying t=some (.struct fs)):∃parts:akb (akb D),xs=parts.flatten∧parts.length=fs.size∧∀(i:Nat)(f:Field)(x:akb D),fs[i]?=some f→parts[i]?=some x→eJ P f.type x:=by
 cases h with
 |bool b h=>rw[ht]at h;cases h
 |int n h=>rw[ht]at h;cases h
 |str s h=>rw[ht]at h;cases h
 |sl l h=>rw[ht]at h;cases h
 |struct p h hl hx=>rw[ht]at h;cases h;exact⟨p,rfl,hl,hx⟩
theorem Ea{α:Type}{f:α→akb D}{Q:α→Prop}:∀l:akb (akb D),(∀x∈l,∃a,x=f a∧Q a)→∃r:akb α,l=r.map f∧∀a∈r,Q a
 |[],_=>⟨[],rfl,fun _ h=>by cases h⟩
 |x::l,h=>by
  obtain⟨a,rfl,ha⟩:=h x ajt;obtain⟨r,rfl,hr⟩:=Ea l fun y hy=>h y (ajw _ hy);refine⟨a::r,rfl,fun b hb=> ?_⟩;rcases ajR.1 hb with rfl|hb
  ·exact ha
  ·exact hr b hb
end
def Kp(P:ake)(S:akb TypeId):Bool:=S.all fun t=>match P.underlying t with
 |some .bool|some (.int _)|some .string=>true
 |some (.slice e)=>S.contains e&&(decide (0<P.cellsOf e)&&decide (0<P.bytesOf e))
 |some (.struct fs)=>P.consecB fs.toList 0 (P.cellsOf t)&&fs.toList.all fun f=>S.contains f.type
 |_=>false
def PRs(S:Nat→Nat→Prop)(w:akg)(cs:akb akf)(xs:akb D):Prop:=xs.length=cs.length∧∀(i:Nat)(u:akf)(x:D),cs[i]?=some u→xs[i]?=some x→cY S w u x∧u.oneCell'=true
theorem PRs.nil{S:Nat→Nat→Prop}{w:akg}:PRs S w [] []:=⟨rfl,fun i u x h=>by simp at h⟩
theorem PRs.one{S:Nat→Nat→Prop}{w:akg}{u:akf}{x:D}(h:cY S w u x)(h1:u.oneCell'=true):PRs S w [u] [x]:=⟨rfl,fun i v y hv hy=>by
 cases i with
 |zero=>cases hv;cases hy;exact⟨h,h1⟩
 |succ i=>simp at hv⟩
theorem PRs.app{S:Nat→Nat→Prop}{w:akg}{a b:akb akf}{x y:akb D}(h:PRs S w a x)(k:PRs S w b y):PRs S w (a++b) (x++y):=by
 refine⟨by simp [h.1,k.1],fun i u z hu hz=> ?_⟩;by_cases hi:i<a.length
 ·rw[ajx hi]at hu;rw[ajx (by rw[h.1];exact hi)]at hz;exact h.2 i u z hu hz
 ·rw[ajD (by omega)]at hu;rw[ajD (by rw[h.1];omega),h.1]at hz;exact k.2 _ u z hu hz
theorem Ux{α:Type}{Q:Nat→α→Prop}:∀n:Nat,(∀i,i<n→∃x,Q i x)→∃l:akb α,l.length=n∧∀i x,l[i]?=some x→Q i x
 |0,_=>⟨[],rfl,fun i x h=>by simp at h⟩
 |n+1,h=>by
  obtain⟨l,h1,h2⟩:=Ux n fun i hi=>h i (by omega);obtain⟨x,hx⟩:=h n (by omega);refine⟨l++[x],by simp [h1],fun i y hy=> ?_⟩;by_cases hi:i<l.length
  ·rw[ajx hi]at hy;exact h2 i y hy
  ·rw[ajD (by omega)]at hy;have:i-l.length=0:=by
     by_cases e:i-l.length=0
     ·exact e
     ·rw[ajT (by simp;omega)]at hy;cases hy
   rw[this]at hy;cases hy;have:i=n:=by omega
   rw[this];exact hx
theorem WT{a:Addr}(h:a.spot=none)(n:Nat):a.add n=⟨a.block,a.off+n,none⟩:=by
 unfold Addr.add;split
 ·next e=>subst e;cases a;simp only at h;subst h;rfl
 ·rfl
section
variable {H:Type} {enc:TypeId×akf→H} {P:ake} {W:akg} {Ts:akb TypeId}
abbrev rP(W:akg):Nat→Nat→Prop:=fun b _=>b<W.heap.size
theorem Xh{S:Nat→Nat→Prop}{w:akg}:cY S w (.slice none 0 0) (.sl []):=
 .sl none 0 0 0 0 [] (fun _ _=>undef) (fun h=>absurd rfl h) (ajy _) (by simp) (fun _ h=>by cases h) (fun i j hi=>by simp at hi) (fun i j x d hx=>by simp at hx)
theorem S6{e:TypeId}:∀{l:akb (DataW H)}{d:DataW H},d∈l→∀n∈d.weights P e,n∈DataW.weightsAll P e l
 |[],_,h,_,_=>by cases h
 |x::l,d,h,n,hn=>by
  simp only[DataW.weightsAll,ajZ];rcases ajR.1 h with rfl|h
  ·exact .inl hn
  ·exact .inr (S6 h n hn)
theorem SH{fuel:Nat}(IH:∀(t:TypeId)(cs:akb akf)(d:DataW H)(ps:akb MemPlace),t∈Ts→(∀n∈d.weights P t,n≤reachBytes)→DataW.trod enc P W 0 (fun _=>true) true fuel t cs=some (d,ps)→∃xs,eJ P t xs∧PRs (rP W) W cs xs)(cs:akb akf):
 ∀(fs:akb Field)(off:Nat)(ys:akb (DataW H×akb MemPlace)),P.consecB fs off cs.length=true→(∀f∈fs,f.type∈Ts)→(∀n∈DataW.weightsEach P (fs.map (·.type)) (ys.map (·.1)),n≤reachBytes)→
  fs.mapM (fun f=>DataW.trod enc P W 0 (fun _=>true) true fuel f.type ((cs.drop f.offset).take (P.cellsOf f.type)))=some ys→
  ∃parts:akb (akb D),parts.length=fs.length∧(∀(i:Nat)(f:Field)(x:akb D),fs[i]?=some f→parts[i]?=some x→eJ P f.type x)∧PRs (rP W) W (cs.drop off) parts.flatten
 |[],off,ys,hc,_,_,_=>by
  simp only[Program.consecB,beq_iff_eq]at hc;refine⟨[],rfl,fun i f x h=>by simp at h,?_⟩;rw[List.drop_eq_nil_iff.2 (by omega)];exact PRs.nil
 |f::fs,off,ys,hc,hS,hw,hm=>by
  simp only[Program.consecB,ajp,beq_iff_eq]at hc;obtain⟨adg,hc⟩:=hc;rw[List.mapM_cons]at hm;cases hx:DataW.trod enc P W 0 (fun _=>true) true fuel f.type ((cs.drop f.offset).take (P.cellsOf f.type))with
  |none=>simp [hx]at hm
  |some p=>
   cases jV:fs.mapM (fun f=>DataW.trod enc P W 0 (fun _=>true) true fuel f.type ((cs.drop f.offset).take (P.cellsOf f.type)))with
   |none=>simp [hx,jV]at hm
   |some ps=>
    obtain⟨d,q⟩:=p;obtain rfl:(d,q)::ps=ys:=by simpa [hx,jV]using hm
    simp only[ajM,DataW.weightsEach,ajZ]at hw;obtain⟨x,h1,h2⟩:=IH f.type _ d q (hS f ajt) (fun n hn=>hw n (.inl hn)) hx;obtain⟨parts,k1,k2,k3⟩:=SH IH cs fs (off+P.cellsOf f.type) ps hc (fun g hg=>hS g (ajw _ hg)) (fun n hn=>hw n (.inr hn)) jV;refine⟨x::parts,by simp [k1],fun i g y hg hy=> ?_,?_⟩
    ·cases i with
     |zero=>cases hg;cases hy;exact h1
     |succ i=>exact k2 i g y (by simpa using hg) (by simpa using hy)
    ·rw[List.flatten_cons];rw[adg]at h2;have:=h2.app k3
     rwa [take_drop_step]at this
theorem Pm(hT:Kp P Ts=true):∀(fuel:Nat)(t:TypeId)(cs:akb akf)(d:DataW H)(ps:akb MemPlace),t∈Ts→(∀n∈d.weights P t,n≤reachBytes)→DataW.trod enc P W 0 (fun _=>true) true fuel t cs=some (d,ps)→∃xs,eJ P t xs∧PRs (rP W) W cs xs
 |0,t,cs,d,ps,_,_,h=>by simp [DataW.trod]at h
 |fuel+1,t,cs,d,ps,ht,rT,h=>by
  have IH:=Pm hT fuel;have lq:=ajN.1 hT t ht;unfold DataW.trod at h;split at h
  ·next b e=>exact⟨_, .bool b e,PRs.one (.v _) rfl⟩
  ·next k k' n e=>
   split at h
   ·next hk=>obtain⟨rfl,hw⟩:=hk;exact⟨_, .int n e hw,PRs.one (.v _) rfl⟩
   ·cases h
  ·next e=>rw[e]at lq;cases lq
  ·next s e=>
   split at h
   ·next hw=>exact⟨_, .str s e hw,PRs.one (.v _) rfl⟩
   ·cases h
  ·next e=>rw[e]at lq;cases lq
  ·next e=>rw[e]at lq;cases lq
  ·next e e1=>exact⟨_, .sl [] e1 (Nat.zero_le _) (fun x hx=>absurd hx aj3),PRs.one Xh rfl⟩
  ·next e a len cap e1=>
   rw[e1]at lq;simp only[ajp,List.contains_iff_mem,decide_eq_true_eq]at lq;obtain⟨hme,MY,nT⟩:=lq;simp only at h;split at h
   ·next hb=>
    obtain⟨_,jD,qz⟩:=hb;rw[Option.bind_eq_some_iff]at h;obtain⟨elems,Ef,AH⟩:=h;rw[Option.map_eq_some_iff]at AH;obtain⟨rest,_,AH⟩:=AH;cases AH
    simp only[DataW.weights,e1,ajR,ajZ,ajs]at rT;have hlen:elems.length=len:=by simpa using mapM_some_length Ef
    have hQ:∀i,i<len→∃x:akb D,eJ P e x∧∃ca,W.cells? 0 (a.add (i*P.cellsOf e)) (P.cellsOf e)=some ca∧PRs (rP W) W ca x:=fun i hi=>by
     have h1:=mapM_some_get Ef i i (by simp [hi]);rw[ajr (by omega)]at h1;rw[Option.bind_eq_some_iff]at h1;obtain⟨ca,h2,h3⟩:=h1;obtain⟨x,h4,h5⟩:=IH e ca elems[i].1 elems[i].2 hme (fun n hn=>rT n (.inr (.inl (S6 (List.mem_map.2 ⟨_,List.getElem_mem _,rfl⟩) n hn)))) h3;exact⟨x,h4,ca,h2,h5⟩
    obtain⟨xs,wG,Sx⟩:=Ux len hQ;have Tw:xs≠ []→a.spot=none:=fun cu=>by
     have h0:0<len:=by cases xs with|nil=>exact(cu rfl).elim|cons x l=>simp at wG;omega
     obtain⟨x,_,ca,h2,_⟩:=hQ 0 h0;obtain⟨_,h3,h4⟩:=World.cells?_some h2;have h5:=h4 0 MY;rw[Nat.zero_mul]at h5;have e0:(a.add 0).add 0=a:=by simp [Addr.add]
     rw[e0,ajr (by omega)]at h5;unfold World.cell? at h5;split at h5
     ·split at h5
      ·cases h5
      ·next hn=>simpa using hn
     ·cases h5
    have fY:∀i x,xs[i]?=some x→x.length=P.cellsOf e∧∀j,j<P.cellsOf e→∃u,W.cell? ⟨a.block,a.off+i*P.cellsOf e+j,none⟩=some u∧u.oneCell'=true∧∀d,x[j]?=some d→cY (rP W) W u d:=fun i x hx=>by
     obtain⟨_,ca,h2,h3⟩:=Sx i x hx;obtain⟨_,h4,h5⟩:=World.cells?_some h2;have hs:=Tw (fun e=>by rw[e]at hx;simp at hx);refine⟨h3.1.trans h4,fun j hj=> ?_⟩;have h6:=h5 j hj;rw[WT hs,WT rfl,ajr (by omega)]at h6;have hjx:j<x.length:=by rw[h3.1,h4];exact hj
     have hd:x[j]?=some x[j]:=ajr hjx;have h7:=h3.2 j _ _ (ajr (by omega)) hd;exact⟨_,h6,h7.2,fun d hY=>by rw[hd]at hY;cases hY;exact h7.1⟩
    have aiK:xs.length≤140737488355328:=by
     have h1:=rT _ (.inl rfl);have h2:(elems.length+rest.length)*1≤(elems.length+rest.length)*P.bytesOf e:=Nat.mul_le_mul_left _ nT;have h3:reachBytes≤140737488355328:=by decide
     omega
    refine⟨[.sl xs], .sl xs e1 aiK (fun x hx=> ?_),PRs.one ?_ rfl⟩
    ·obtain⟨i,hi,rfl⟩:=List.mem_iff_getElem.1 hx;exact(Sx i _ (ajr hi)).1
    ·rw[←wG];refine .sl (some a) a.block a.off cap (P.cellsOf e) xs (fun i j=>(W.cell? ⟨a.block,a.off+i*P.cellsOf e+j,none⟩).getD undef) (fun cu=> ?_) (by omega) qz (fun x hx=> ?_) (fun i j hi hj=> ?_) fun i j x d hx hd=> ?_
     ·have:=Tw cu;cases a;simp only at this;subst this;rfl
     ·obtain⟨i,hi,rfl⟩:=List.mem_iff_getElem.1 hx;exact(fY i _ (ajr hi)).1
     ·obtain⟨u,h1,h2,_⟩:=(fY i _ (ajr hi)).2 j hj;refine⟨World.block_lt_of_cell? W ⟨a.block,a.off+i*P.cellsOf e+j,none⟩ h1,?_,?_⟩
      ·rw[h1];rfl
      ·rw[h1];exact h2
     ·obtain⟨hl,hc⟩:=fY i x hx;obtain⟨u,h1,_,h3⟩:=hc j (by rw[←hl];exact(ajn.1 hd).1);simp only[h1,Option.getD_some];exact h3 d hd
   ·cases h
  ·next ca fs e1=>
   rw[e1]at lq;simp only[ajp,ajN,List.contains_iff_mem]at lq;split at h
   ·next hl=>
    rw[Option.map_eq_some_iff]at h;obtain⟨ys,hm,AH⟩:=h;cases AH
    simp only[DataW.weights,e1]at rT;obtain⟨parts,k1,k2,k3⟩:=SH IH _ fs.toList 0 ys (by rw[hl];exact lq.1) lq.2 rT hm;exact⟨_, .struct parts e1 (by simpa using k1) (fun i f x hf=>k2 i f x (by simpa using hf)),by simpa using k3⟩
   ·cases h
  all_goals first|(cases h;done)|(exfalso;revert lq;(next e=>rw[e];intro h0;cases h0))
theorem PC{t:TypeId}{v:akf}{d:DataW H}{ps:akb MemPlace}(hT:Kp P Ts=true)(hm:t∈Ts)(hw:∀n∈d.weights P t,n≤reachBytes)(h:DataW.Trod enc P W 0 (fun _=>true) true t v d ps):∃xs,eJ P t xs∧PRs (rP W) W v.cells.toList xs:=
 let ⟨fuel,h⟩:=h
 Pm hT fuel t _ d ps hm hw h
theorem WU{t:TypeId}{fs:Array Field}{v:akf}{r:Reach}{base:Nat}(ht:P.underlying t=some (.struct fs))(h:Value.okWide P W r base t v):∃cs,v= .agg cs:=by
 unfold Value.okWide at h;rw[ht]at h;obtain⟨cs,rfl,_⟩:=h;exact⟨cs,rfl⟩
theorem UU{G:Gh}(hS:G.S=rP W){cs:Array akf}{xs:akb D}(h:PRs (rP W) W cs.toList xs):aL G W (.agg cs) (.agg (xs.map .d)):=by
 refine .agg cs _ (by rw[ajs,h.1,ajU]) fun i u c hu hc=> ?_;rw[aju]at hc;cases hx:xs[i]? with
 |none=>rw[hx]at hc;cases hc
 |some x=>
  rw[hx]at hc;cases hc
  exact .d (hS▸(h.2 i u x (by rw[ajK];exact hu) hx).1)
end
end Go.Proofs.YtpgmcallngdceaaGreatDoor
