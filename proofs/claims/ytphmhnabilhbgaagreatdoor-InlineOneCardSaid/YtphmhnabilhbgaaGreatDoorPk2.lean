/-
  Part 2 of the proof: AbsZero, AbsIter, AbsCode, AbsWalk, GrowF, AbsDraw, AbsFrame, AbsRun.
-/
import Derived.Test.YtphmhnabilhbgaaGreatDoorPk1
import Derived.Lib.AppendZeros
import Derived.Maps.RangeRun
namespace Go.Proofs.YtphmhnabilhbgaaGreatDoor
open Go.RowKit Go.Lib
def AV.isNil:AV→Bool
 | .d (.v (.slice none 0 0))=>true
 |_=>false
theorem ad1{x:AV}(h:x.isNil=true):x= .d (.v (.slice none 0 0)):=by
 unfold AV.isNil at h;split at h
 ·rfl
 ·cases h
def p8(P:Program)(op:Op)(ρ:Operand→AV)(h:List ak):Option (AV×List ak):=
 match op with
 | .slice T x lo hi none=>match dY P T,oM ρ 0 lo,oM ρ 0 hi with
   |some _,some 0,some 0=>bif (ρ x).isNil then some (.d (.v (.slice none 0 0)),h)else none
   |_,_,_=>none
 | .call c=>match c.callee with
   | .builtin .cap=>match c.args.toList,c.argTypes.toList with
     |[x],[T]=>bif (ρ x).isNil&&(dY P T).isSome then some (.d (.v (.int .i64 0)),h)else none
     |_,_=>none
   | .builtin .append=>match c.args.toList,c.argTypes.toList with
     |[x,y],[T,U]=>match dY P T,oz P U,ρ y with
      |some (e,k),some _, .d (.v (.int _ (.ofNat m)))=>match gO P e,mw P e with
       |some z,some c9=>bif (ρ x).isNil&&cd 1 m&&cd 1 k&&z.cells.toList.length==k&&cd m maxLen&&cd (m*c9) 140737488355328 then some (.vec h.length 0 m m k,h++[.vec e k (List.replicate m (z.cells.toList.map fun u=> .d (.v u)))])else none
       |_,_=>none
      |_,_,_=>none
     |_,_=>none
   |_=>none
 |_=>none
section
variable {P:Program} {r:Option Nat} {n N0:Nat} {G:Gh} {w:World} {a:Act} {s:St} {o:Oper} {K:St→Prop} {Q:Exit→Act→World→Prop}
theorem acR{x:Operand}{T:TypeId}(c:Call)(hc:c.callee= .builtin .cap)(h1:c.args.toList=[x])(h2:c.argTypes.toList=[T])(ho:o.op= .call c):
 (execOp a.eval o).run P w=((Builtin.cap_ #[T] o.type #[a.eval x]).run P w).andThen fun v w'=> .ok (.value v) w':=by
 have e1:c.args= #[x]:=by rw[←Array.toList_inj];exact h1
 have e2:c.argTypes= #[T]:=by rw[←Array.toList_inj];exact h2
 unfold execOp;simp only[ho,resolve,hc,e1,e2,invoke,builtin,Sem.run_bind,Sem.run_pure,Result.andThen_ok,List.map_toArray,agS,List.map_nil]
theorem Tw(hs:c7 G w a s){x:Option Operand}(h:oM (ev s) 0 x=some 0):AF a x 0 0:=by
 cases x with
 |none=>rfl
 |some y=>exact L9 (d:=0) hs h (Int.le_refl _)
theorem acZ{x:AV}{h':List ak}(hs:c7 G w a s)(cJ:N0≤G.N)(hx:p8 P o.op (ev s) s.h=some (x,h'))(hK:K ((s.wh h').put o.dst x)):o.wpIn (WF r) n P a w (iq N0 G w K) Q:=by
 have dz:=hs.ev;have nil:∀{y:Operand},(ev s y).isNil=true→a.eval y= .slice none 0 0:=fun{y} h=>by
  have:=dz y;rw[ad1 h]at this;exact this.val
 unfold p8 at hx;split at hx
 next T y lo hi ho=>
  split at hx
  ·next ek e1 e2 e3=>
   obtain⟨hb,he⟩:=lg hx;cases he
   obtain⟨ff,fB⟩:=jm e1;refine fc (by rw[ho];simp) hs cJ (v:= .slice none 0 0) ?_ (.d (.v _)) hK;have ju:=CS (P:=P) (zo:=true) (Tw hs e2) (Tw hs e3) (agE _) (agE 0) w;unfold execOp;simp [ho,nil hb,Instr.sliceAt,Instr.slice,run_underlying ff,ju,lC fB]
  ·cases hx
 next c ho=>
  split at hx
  ·next hc=>
   split at hx
   ·next y T e1 e2=>
    obtain⟨hb,he⟩:=lg hx;cases he
    rw[agv]at hb;cases hT:dY P T with
    |none=>rw[hT]at hb;cases hb.2
    |some ek=>
     obtain⟨ff,fB⟩:=jm hT;refine fc (by rw[ho];simp) hs cJ (v:= .int .i64 0) ?_ (.d (.v _)) hK;rw[acR c hc e1 e2 ho,nil hb.1];simp [Builtin.cap_,run_underlying ff,goInt]
   ·cases hx
  ·next hc=>
   split at hx
   ·next y z T U e1 e2=>
    split at hx
    ·next e k kn kq m f1 f2 f3=>
     split at hx
     ·next zz c9 g1 g2=>
      obtain⟨hb,he⟩:=lg hx;cases he
      simp only[agv,cZ,beq_iff_eq]at hb;obtain⟨⟨⟨⟨⟨hb1,ju⟩,Dl⟩,nX⟩,Aa⟩,DL⟩:=hb;clear hx;obtain⟨ff,fB⟩:=jm f1;obtain⟨i,j9,iU⟩:∃i,P.info? e=some i∧i.size=k:=by
       unfold fA at fB;cases hq:P.info? e with
       |none=>rw[hq]at fB;cases fB
       |some i=>rw[hq]at fB;exact⟨i,rfl,agM fB⟩
      have hz:i.zero=some zz:=by unfold gO at g1;rw[j9]at g1;exact g1
      have hbt:i.bytes=c9:=by unfold mw at g2;rw[j9]at g2;exact agM g2
      subst iU;subst hbt;have hy:=dz z;rw[f3]at hy;have ey:a.eval z= .int kq (m:Nat):=hy.val;have dL:=run_append_nil_zeros (P:=P) w T U o.type e i zz kq kn ff (FG f2) j9 hz m (by omega) (by omega) (by have:=Aa;simp [maxLen]at this;omega) (by omega);have jd:zz.cells.size=i.size:=by rw[←ag0];exact nX
      have fY:(List.replicate m (zz.cells.toList.map fun u=>AV.d (.v u))).length=m:=ag3;obtain⟨cap,jc⟩:∃cap,cap=grownCap w m 0 e:=⟨_,rfl⟩;have jr:m≤cap:=by rw[jc];exact grownCap_ge _ _ _ _
      have hle:cap≤maxLen:=by rw[jc];exact grownCap_le_maxLen _ _ _ _ Aa
      rw[←jc]at dL;obtain⟨cur,jE⟩:∃cur,cur=Builtin.zeroCells zz.cells m++Builtin.zeroCells zz.cells (cap-m):=⟨_,rfl⟩;rw[←jE]at dL;have fK:cur.size=cap*i.size:=by
        rw[jE,Array.size_append,size_zeroCells,size_zeroCells,jd,←Nat.add_mul]
        congr 1
        omega
      obtain⟨G',q1,q2,q3,q4⟩:=Lm (e:=e) (k:=i.size) (cap:=cap) (cs:=List.replicate m (zz.cells.toList.map fun u=>AV.d (.v u))) (cur:=cur) hs.inv (by rw[fY];exact jr) hle fK (fun c hc=>by
       rw[List.eq_of_mem_replicate hc,agy];exact nX) w.drew ⟨rfl,rfl,rfl,rfl⟩ (fun a' b c x u hc hx hu=>by
       have:=List.eq_of_mem_replicate (agG hc);subst this;rw[agA]at hx;cases hq:zz.cells.toList[b]? with
       |none=>rw[hq]at hx;cases hx
       |some y=>
        rw[hq]at hx;cases hx
        have iv:b<i.size:=by rw[←nX];exact(agt.1 hq).1
        have MD:a'<m:=by have:=(agt.1 hc).1;rwa [fY]at this
        have aO:a'*i.size+b<m*i.size:=jG MD iv;rw[jE,Array.getElem?_append_left (by rw[size_zeroCells,jd];exact aO)]at hu;unfold Builtin.zeroCells at hu;rw[Array.getElem?_map,Array.getElem?_range,jd,if_pos aO]at hu;simp only[Option.map_some,Option.some.injEq]at hu;rw[(Fc (i:=a') iv).2]at hu;have CY:zz.cells[b]?=some y:=by rw[←agQ];exact hq
        rw[getElem!_pos zz.cells b (by rw[jd];exact iv)]at hu;rw[agP (by rw[jd];exact iv)]at CY;cases CY
        subst hu;exact .d (.v _))
      rw[fY]at q4;refine l8 (by rw[ho];simp) hs cJ (by rw[Be c hc e1 e2 ho,nil hb1,ey,dL];rfl) q1 q2 q3 (q4 m (agE _)) hK
     ·cases hx
    ·cases hx
   ·cases hx
  ·cases hx
 next=>cases hx
end
end Go.Proofs.YtphmhnabilhbgaaGreatDoor
namespace Go.Proofs.YtphmhnabilhbgaaGreatDoor
open Go.RowKit
theorem aaV{α:Type}{c:Bool}{x y:α}(h:(bif c then some x else none)=some y):c=true∧x=y:=by cases c<;>cases h;exact⟨rfl,rfl⟩
section
variable {G:Gh} {w:World} {h:List ak}
theorem aa9(hi:cf G w h){b mb:Nat}(hr:aG G w (.map (some b)) (.mp mb)):bZ G.N G w (G.dD w.heap.size) (w.alloc (.mapIter (some b) 1 #[] 1))∧cf (G.dD w.heap.size) (w.alloc (.mapIter (some b) 1 #[] 1)) (h++[.it false [.mp mb]])∧aG (G.dD w.heap.size) (w.alloc (.mapIter (some b) 1 #[] 1)) (.pointer (some ⟨w.heap.size,0,none⟩)) (.ptr h.length 0):=by
 have hE:=Aj G w hi.z hi.S (.mapIter (some b) 1 #[] 1);have hN:G.N≤(G.dD w.heap.size).N:=Nat.le_succ _;have gR:(G.dD w.heap.size).bo h.length=w.heap.size:=by simp [Gh.dD,hi.len]
 have lh:∀n(B:ak),n<G.N→B.ep (G.dD w.heap.size) n=B.ep G n:=fun n B hn=>by
  cases B<;>simp [ak.ep,Gh.dD,Nat.ne_of_lt hn]
 have gh:∀n,n<G.N→cl (h++[.it false [.mp mb]]) (G.dD w.heap.size) n=cl h G n:=fun n hn=>by
  have aO:n<h.length:=by rw[hi.len];exact hn
  unfold cl;rw[agD aO,agx aO];exact lh n _ hn
 have xc:cl (h++[.it false [.mp mb]]) (G.dD w.heap.size) h.length=some w.heap.size:=by
  rw[dU (B:= .it false [.mp mb]) (by simp)];exact congrArg some gR
 refine⟨hE,⟨by simp [Gh.dD,hi.len],fun b hb=>agR (hi.z b hb) hE.size,fun b o hs=>agR (hi.S b o hs) hE.size,fun n B hB=> ?_,fun m n b hm hn=> ?_,hi.gl.ba hE⟩,?_⟩
 ·by_cases hn:n<h.length
  ·rw[agD hn]at hB;have eS:n<G.N:=hi.len▸hn;exact eB.ba eS hE hN ⟨rfl,rfl,rfl⟩ (fun b hb=>⟨Below.heap_alloc w _ _ (hi.hO (n:=n) ((dU hB).trans hb)),fun o h=>h⟩) (hi.dp n B hB)
  ·have k9:n=h.length:=by
    have:=(agt.1 hB).1;simp at this;omega
   subst k9;simp at hB;subst hB;exact⟨by rw[gR];exact fun hz=>ag7 _ (hi.z _ hz),fun o hs=>by rw[gR]at hs;exact ag7 _ (hi.S _ _ hs),b, #[.map (some b)],(),by rw[gR];exact World.alloc_heap_new w _,⟨rfl,rfl⟩,fun i u c hu hc=>by
    match i with
    |0=>cases hu;cases hc;exact hr.ba hE hN
    |i+1=>simp at hu⟩
 ·have key:∀n b,cl (h++[.it false [.mp mb]]) (G.dD w.heap.size) n=some b→(n<G.N∧cl h G n=some b)∨(n=h.length∧b=w.heap.size):=fun n b hn=>by
   by_cases aO:n<G.N
   ·exact .inl ⟨aO,by rw[←gh n aO];exact hn⟩
   ·by_cases e:n=h.length
    ·subst e;rw[xc]at hn;cases hn;exact .inr ⟨rfl,rfl⟩
    ·rw[xm (agZ (by simp;have:=hi.len;omega))]at hn;cases hn
  rcases key m b hm with⟨_,jD⟩|⟨rfl,rfl⟩<;>rcases key n _ hn with⟨_,eS⟩|⟨rfl,hb⟩
  ·exact hi.inj m n b jD eS
  ·have:=hi.hO jD;omega
  ·have:=hi.hO eS;omega
  ·rfl
 ·have:=aG.ptr (G:=G.dD w.heap.size) (w:=w.alloc (.mapIter (some b) 1 #[] 1)) h.length 0 (by simp [Gh.dD,hi.len])
  rwa [gR]at this
theorem Kf{mb:Nat}{s:ByteArray}{d:D}(hi:cf G w h)(hb:h[mb]?=some (.map [(s,d)])):∃e:MapEntry,w.heap[G.bo mb]?=some (.map #[e] 1)∧e.key= .string s∧dC G.S w e.val d∧e.born=0:=by
 obtain⟨_,_,es,clock,hh,hm⟩:=hi.dp mb _ hb;have hg:jL [(s,d)] s=some d:=by simp [jL]
 obtain⟨e,he,hk⟩:=hm.all s d hg;have hl:es.toList=[e]:=by
  have h1:=hm.len;cases hq:es.toList with
  |nil=>rw[hq]at he;cases he
  |cons x l=>
   have h2:es.size=(x::l).length:=by rw[←hq];simp
   have h3:l=[]:=by
    apply List.eq_nil_of_length_eq_zero;simp at h1 h2;omega
   subst h3;rw[hq]at he;rw[List.mem_singleton.1 he]
 have X4:es= #[e]:=by rw[←Array.toList_inj];exact hl
 subst X4;have hc:=hm.Cv;simp at hc;subst hc;obtain⟨s',d',k1,k2,k3⟩:=hm.xe e he;have hs:s'=s:=by rw[hk]at k1;injection k1 with k1;exact k1.symm
 subst hs;rw[hg]at k2;cases k2
 exact⟨e,hh,hk,k3,hm.born 0 e rfl⟩
theorem Fu{n mb:Nat}{sn:Bool}(hi:cf G w h)(hb:h[n]?=some (.it sn [.mp mb])):(∀o,¬G.S (G.bo n) o)∧w.heap[G.bo n]?=some (.mapIter (some (G.bo mb)) 1 (if sn then #[0]else #[]) 1)∧aG G w (.map (some (G.bo mb))) (.mp mb):=by
 obtain⟨h1,h2,fn,vs,_,h3,⟨_,h4⟩,h5⟩:=hi.dp n _ hb;have:=h5 0 (.map (some fn)) (.mp mb) (by rw[h4];rfl) rfl;cases this with
 |mp _ aO=>exact⟨h2,h3, .mp mb aO⟩
theorem ZK(hi:cf G w h):bZ G.N G w G w.drew∧cf G w.drew h:=by
 have hE:bZ G.N G w G w.drew:=⟨agE _,fun _ _ h=>h,fun _ _ _=>rfl,fun _ _=>rfl,fun _ _=> .inl ⟨rfl,rfl⟩,gq rfl,fun _ _=>rfl,rfl,rfl,rfl,fun _ _ h=> .inl h⟩;exact⟨hE,hi.len,hi.z,hi.S,fun n B hB=>eB.ba (hi.lt hB) hE (agE _) ⟨rfl,rfl,rfl⟩ (fun _ _=>⟨rfl,fun _ h=>h⟩) (hi.dp n B hB),hi.inj,hi.gl.ba hE⟩
end
def yO(P:Program)(lo:Nat)(op:Op)(ρ:Operand→AV)(h:List ak):Option (AV×List ak):=
 match op with
 | .range T m=>match o6 P T,ρ m with
   |some _, .mp mb=>match h[mb]? with
    |some (.map [_])=>some (.ptr h.length 0,h++[.it false [.mp mb]])
    |_=>none
   |_,_=>none
 | .next it false=>match ρ it with
   | .ptr n 0=>match h[n]? with
     |some (.it sn [.mp mb])=>match h[mb]? with
      |some (.map [(s,d)])=>match sn with
       |true=>some (.bX [.d (.v (.bool false))],h)
       |false=>bif cd lo n then some (.bX [.d (.v (.bool true)), .d (.v (.string s)), .d d],h.set n (.it true [.mp mb]))else none
      |_=>none
     |_=>none
   |_=>none
 | .entry it=>match ρ it with
   | .ptr n 0=>match h[n]? with
     |some (.it true [.mp mb])=>match h[mb]? with
      |some (.map [(s,d)])=>some (.bX [.d (.v (.string s)), .d d],h)
      |_=>none
     |_=>none
   |_=>none
 |_=>none
section
variable {P:Program} {r:Option Nat} {n N0:Nat} {G:Gh} {w:World} {a:Act} {s:St} {o:Oper} {K:St→Prop} {Q:Exit→Act→World→Prop}
theorem WK{x:AV}{h':List ak}{lo:Nat}(hs:c7 G w a s)(cJ:N0≤G.N)(hx:yO P lo o.op (ev s) s.h=some (x,h'))(hK:K ((s.wh h').put o.dst x)):o.wpIn (WF r) n P a w (iq N0 G w K) Q:=by
 have dz:=hs.ev;have ptr:∀{y:Operand}{n:Nat},ev s y= .ptr n 0→a.eval y= .pointer (some ⟨G.bo n,0,none⟩):=fun{y n} h=>by
  have:=dz y;rw[h]at this;generalize a.eval y=u at this;cases this;rfl
 unfold yO at hx;split at hx
 next T m ho=>
  split at hx
  ·next ke mb e1 e2=>
   split at hx
   ·next p hb=>
    cases hx
    obtain⟨s0,d⟩:=p;obtain⟨e,h1,h2,h3,h4⟩:=Kf hs.inv hb;have hv:=dz m;rw[e2]at hv;have ea:a.eval m= .map (some (G.bo mb)):=by
     generalize a.eval m=u at hv;cases hv;rfl
    rw[ea]at hv;obtain⟨i1,i2,i3⟩:=aa9 hs.inv hv;obtain⟨k0,el⟩:=ke;refine l8 (by rw[ho];simp) hs cJ (v:= .pointer (some ⟨w.heap.size,0,none⟩)) (w':=w.alloc (.mapIter (some (G.bo mb)) 1 #[] 1)) ?_ i1 (Nat.le_succ _) i2 i3 hK;unfold execOp;simp [ho,ea,Instr.range,run_underlying (Cy e1),MapKept.run_getObj_map h1,Result.andThen]
   ·cases hx
  ·cases hx
 next it ho=>
  split at hx
  ·next m e1=>
   split at hx
   ·next sn mb hn=>
    split at hx
    ·next s0 d hb=>
     obtain⟨e,h1,h2,h3,h4⟩:=Kf hs.inv hb;obtain⟨t1,t2,t3⟩:=Fu hs.inv hn;have hr:=run_next_at (P:=P) w o.type _ _ _ _ _ _ _ t2 h1 (fun x hx=>by simp at hx;subst hx;rw[h4];exact Nat.one_pos) (agE 1);split at hx
     ·cases hx
      rcases hr with⟨_,hr⟩|⟨e',s6,_⟩
      ·refine fc (by rw[ho];simp) hs cJ (v:= .tuple #[.bool false]) ?_ (.bX _ _ rfl fun i u c hu hc=> ?_) hK
       ·unfold execOp;simp [ho,ptr e1,hr]
       ·match i with
        |0=>cases hu;cases hc;exact .d (.v _)
        |i+1=>simp at hu
      ·exfalso;simp [leftOf,h4]at s6
     ·have hx:=(congrArg some (aaV hx).2);cases hx
      rcases hr with⟨h0,_⟩|⟨e',s6,w1,F8,hr⟩
      ·exfalso;simp [leftOf]at h0
      ·have Vp:e'=e:=by simpa [leftOf]using s6
       subst Vp;obtain⟨ia,ve⟩:bZ G.N G w G w1∧cf G w1 s.h:=by
        rcases F8 with rfl|rfl
        ·exact⟨bZ.refl _ _ _,hs.inv⟩
        ·exact ZK hs.inv
       obtain⟨t1',t2',_⟩:=Fu ve hn;obtain⟨z1,z2,z3,z4,z5,z6,z7⟩:=ve.dp m _ hn;obtain⟨gY,Hz⟩:=J3 (B':= .it true [.mp mb]) (ur:= .mapIter (some (G.bo mb)) 1 #[0] 1) ve hn rfl t1' t2' (.inr rfl) fun w' hc eH hE=>by
        have Zh:=(Fu ve hn).2.2;exact⟨z1,z2,G.bo mb, #[.map (some (G.bo mb))],(),eH,⟨rfl,rfl⟩,fun i u c hu hc=>by
         match i with
         |0=>cases hu;cases hc;exact Zh.ba hE (agE _)
         |i+1=>simp at hu⟩
       refine l8 (by rw[ho];simp) hs cJ (v:= .tuple #[.bool true,e'.key,e'.val]) ?_ (ia.trans gY) (agE _) Hz (.bX _ _ rfl fun i u c hu hc=> ?_) hK
       ·unfold execOp;simp only[ho,ptr e1];rw[h4]at hr;simp [hr];rfl
       ·match i with
        |0=>cases hu;cases hc;exact .d (.v _)
        |1=>cases hu;cases hc;rw[h2];exact .d (.v _)
        |2=>cases hu;cases hc;exact .d (h3.ba (ia.trans gY).S (ia.trans gY).cell)
        |i+3=>simp at hu
    ·cases hx
   ·cases hx
  ·cases hx
 next it ho=>
  split at hx
  ·next m e1=>
   split at hx
   ·next mb hn=>
    split at hx
    ·next s0 d hb=>
     cases hx
     obtain⟨e,h1,h2,h3,h4⟩:=Kf hs.inv hb;obtain⟨t1,t2,t3⟩:=Fu hs.inv hn;have hr:=run_entry_at (P:=P) w _ _ _ #[] _ _ e (by rw[h4];exact t2) h1 (by simp) (by simp);refine fc (by rw[ho];simp) hs cJ (v:= .tuple #[e.key,e.val]) ?_ (.bX _ _ rfl fun i u c hu hc=> ?_) hK
     ·unfold execOp;simp [ho,ptr e1,hr]
     ·match i with
      |0=>cases hu;cases hc;rw[h2];exact .d (.v _)
      |1=>cases hu;cases hc;exact .d h3
      |i+2=>simp at hu
    ·cases hx
   ·cases hx
  ·cases hx
 next=>cases hx
end
def gM(ops:Array Oper)(o:Oper)(s:St)(yes no:Prop):Prop:=
 match o.guard with
 |none=>yes
 |some (j,want)=>match (ops[j]?).bind (·.dst)with
  |some d=>match bz s.t d with
   | .d (.v (.bool b))=>(b=want→yes)∧(b= !want→no)
   | .d (.v (.tuple _))=>no
   |_=>False
  |none=>False
structure bH(P:Program)(r:Option Nat)(N0:Nat)(c:Code)(Q:Exit→St→Prop)(s:St):Prop where
 run:∀(G:Gh)(w:World)(a:Act)(n:Nat),c7 G w a s→N0≤G.N→c.wpIn (WF r) n P (fun e a' w'=>iq N0 G w (Q e) a' w') a w
def gN(K:St→Prop)(Q:Exit→St→Prop):Exit→St→Prop
 | .normal,s=>K s
 |e,s=>Q e s
def iN:Nat→List AV→List (Nat×AV)
 |_,[]=>[]
 |k,x::l=>(k,x)::iN (k+1) l
theorem Hu:∀(l:List AV)(k i:Nat),bz (iN k l) i=if k≤i then(l[i-k]?).getD .dead else .dead
 |[],k,i=>by simp [iN,bz]
 |x::l,k,i=>by
  rw[iN,jX,Hu l (k+1) i];by_cases h:i=k
  ·subst h;simp
  ·rw[if_neg h];by_cases h2:k≤i
   ·rw[if_pos (by omega),if_pos h2,show i-k=i-(k+1)+1 by omega,ag4]
   ·rw[if_neg (by omega),if_neg h2]
def YS(P:Program)(k:Nat)(x:AV)(h:List ak)(C:Bool→List ak→Prop):Prop:=
 ∀(G:Gh)(w:World)(v:Value)(r:Option Nat)(n:Nat),cf G w h→aG G w v x→k<G.N∧∃(p:Nat)(as bd:Code)(fn:FuncId)(tm:Array Value)(D:Nat),
  w.heap[G.bo k]?=some (.loop {state:= .ready,pending:=none,fn:=fn,tmps:=tm,params:= #[p],assign:=as,body:=bd,defers:=D})∧
  RoundIn (WF r) n P (G.bo k) fn (tm.setIfInBounds p v) as bd w fun e w'=>∃(b:Bool)(G':Gh)(h':List ak),e= .returned (.bool b)∧bZ G.N G w G' w'∧G.N≤G'.N∧cf G' w' h'∧C b h'
def Sn(C:Bool→List ak→Prop)(k:Nat):Exit→St→Prop
 | .normal,s2=>∃p as bd gH,s2.h[k]?=some (.lp .busy p as bd gH)∧C true (s2.h.set k (.lp .ready p as bd gH))
 | .ret,s2=>∃p as bd gH,s2.h[k]?=some (.lp .busy p as bd gH)∧C false (s2.h.set k (.lp (.done .ret) p as bd gH))
 | .exit i,s2=>∃p as bd gH,s2.h[k]?=some (.lp .busy p as bd gH)∧C false (s2.h.set k (.lp (.done (.exit i)) p as bd gH))
 |_,_=>False
def AW(P:Program)(o:Oper)(K:St→Prop)(s:St):Prop:=
 match o.op with
 | .call c=>match c.callee with
   | .value f=>match ev s f,c.args.toList.map (ev s)with
     | .dj k,[x]=>YS P k x s.h fun b h'=>K ((s.wh h').put o.dst (.d (.v (.bool b))))
     |_,_=>False
   |_=>False
 |_=>False
def Ni(P:Program)(o:Oper)(K:St→Prop)(s:St):Prop:=∃x h',(p8 P o.op (ev s) s.h=some (x,h')∨∃lo,yO P lo o.op (ev s) s.h=some (x,h'))∧K ((s.wh h').put o.dst x)
def lF(P:Program)(o:Oper)(K:St→Prop)(s:St):Prop:=vL P o K s∨uX P o K s∨kX P o K s∨AW P o K s∨Ni P o K s
def nR(P:Program)(ops:Array Oper):List Oper→(St→Prop)→St→Prop
 |[],K,s=>K s
 |o::rest,K,s=>gM ops o s (lF P o (nR P ops rest K) s) (nR P ops rest K (s.put o.dst (.d (.v undef))))
def n8(id:Nat)(Q:Exit→St→Prop):Exit→St→Prop
 | .exit ou,s=>bif ou==id then Q .normal s else Q (.exit ou) s
 |e,s=>Q e s
section
variable {P:Program} {r:Option Nat} {n N0:Nat} {G:Gh} {w:World} {a:Act} {s:St} {o:Oper} {Q:Exit→St→Prop}
theorem iq.mono{K K':St→Prop}(h:∀s,K s→K' s){a':Act}{w':World}(hn:iq N0 G w K a' w'):iq N0 G w K' a' w':=
 let ⟨G',s',h1,h2,h3,h4⟩:=hn;⟨G',s',h1,h2,h3,h _ h4⟩
theorem iq.trans{K:St→Prop}{G1:Gh}{w1:World}(hE:bZ N0 G w G1 w1){a':Act}{w':World}(hn:iq N0 G1 w1 K a' w'):iq N0 G w K a' w':=
 let ⟨G',s',h1,h2,h3,h4⟩:=hn;⟨G',s',hE.trans h1,h2,h3,h4⟩
theorem bH.mono{c:Code}{Q':Exit→St→Prop}(h:bH P r N0 c Q s)(hq:∀e s,Q e s→Q' e s):bH P r N0 c Q' s:=
 ⟨fun G w a n hs hN=>wpIn_mono (h.run G w a n hs hN) fun e _ _ hn=>hn.mono (hq e)⟩
theorem ML{ops:Array Oper}{yes no:Prop}(hs:c7 G w a s)(h:gM ops o s yes no):if Region.wanted o (yielded ops a.tmps)then yes else no:=by
 unfold gM at h;split at h
 ·rename_i hg
  rw[if_pos (by simp [Region.wanted,hg])];exact h
 ·rename_i j want hg
  split at h
  ·rename_i d hd
   have hv:=hs.tmp d;split at h
   ·rename_i b hb
    rw[hb]at hv;have e:=hv.bool;have hy:yielded ops a.tmps j=some b:=by
      unfold yielded;rw[hd,ags];by_cases aO:d<a.tmps.size
      ·rw[agP aO];have:a.tmps.getD d undef=a.tmps[d]:=by simp [Array.getD,aO]
       rw[this]at e;rw[e]
      ·have:a.tmps.getD d undef=undef:=by simp [Array.getD,aO]
       rw[this]at e;cases e
    by_cases m7:b=want
    ·rw[if_pos (by simp [Region.wanted,hg,hy,m7])];exact h.1 m7
    ·rw[if_neg (by simp [Region.wanted,hg,hy,m7])];exact h.2 (by cases b<;>cases want<;>simp_all)
   ·rename_i vs hb
    rw[hb]at hv;have e:=hv.val;have hy:yielded ops a.tmps j=none:=by
      unfold yielded;rw[hd,ags];by_cases aO:d<a.tmps.size
      ·rw[agP aO];have:a.tmps.getD d undef=a.tmps[d]:=by simp [Array.getD,aO]
       rw[this]at e;rw[e]
      ·rw[Array.getElem?_eq_none (Nat.le_of_not_lt aO)]
    rw[if_neg (by simp [Region.wanted,hg,hy])];exact h
   ·exact h.elim
  ·exact h.elim
theorem YS.mono{k:Nat}{x:AV}{h:List ak}{C C':Bool→List ak→Prop}(hy:YS P k x h C)(hc:∀b h',C b h'→C' b h'):YS P k x h C':=fun G w v r n hi hv=>
 let ⟨h0,p,as,bd,fn,tm,D,h1,h2⟩:=hy G w v r n hi hv
 ⟨h0,p,as,bd,fn,tm,D,h1,h2.mono fun _ _ ⟨b,G',h',a1,a2,a3,a4,a5⟩=>⟨b,G',h',a1,a2,a3,a4,hc _ _ a5⟩⟩
theorem N7{k:Nat}{x:AV}{h:List ak}{C:Bool→List ak→Prop}
 (hA:∃p as bd cs,h[k]?=some (.lp .ready p as bd cs)∧p<cs.length∧∀(l:Nat),bH P (some l) h.length as (gN (fun s1=>∃p1 jj jo jS,s1.h[k]?=some (.lp .ready p1 jj jo jS)∧bH P (some l) h.length bd (Sn C k) ⟨s1.n,s1.t,s1.h.set k (.lp .busy p1 jj jo jS)⟩) (fun _ _=>False)) ⟨cs.length,(p,x)::iN 0 cs,h⟩):YS P k x h C:=by
 intro G w v r n hi I4;obtain⟨p,as,bd,cs,hk,hp,hA⟩:=hA;have zU:k<G.N:=hi.lt hk;obtain⟨hS,fn,tm,D,h3,h4,h5,agq⟩:=Gm hi hk;refine⟨zU,p,as,bd,fn,tm,D,h3,?_⟩;refine roundIn_of_wpIn (F:=WF r) trivial ?_;have Jk:c7 G w {tmps:=tm.setIfInBounds p v,defers:=[]} ⟨cs.length,(p,x)::iN 0 cs,h⟩:=by
  refine⟨by simp [h4],fun i=> ?_,hi,n7.nil _ _⟩;show aG _ _ _ (bz ((p,x)::iN 0 cs) i);rw[jX];split
  ·next e=>
   subst e;have:(tm.setIfInBounds i v).getD i undef=v:=by simp [Array.getD,h4,hp]
   rw[this];exact I4
  ·next e=>
   rw[Hu];simp only[Nat.zero_le,if_true,Nat.sub_zero];cases jx:cs[i]? with
   |none=>exact .dead _
   |some y=>
    have aO:i<tm.size:=by rw[h4];exact(agt.1 jx).1
    have:(tm.setIfInBounds p v).getD i undef=tm[i]:=by
     simp [Array.getD,aO,Ne.symm e]
    rw[this];exact h5 i _ y (agP aO) jx
 have tB:=hA (G.bo k);rw[hi.len]at tB;refine wpIn_mono (tB.run G w _ n Jk (agE _)) fun e1 a1 w1 uS=> ?_;obtain⟨G1,s1,ia,fJ,eX,Oe⟩:=uS;cases e1 with
 |normal=>
  obtain⟨p1,jj,jo,jS,mD,hb1⟩:=Oe;have sZ:G1.bo k=G.bo k:=ia.bo k zU;obtain⟨_,fn1,tm1,D1,g3,g4,g5,NB⟩:=Gm eX.inv mD;obtain⟨gE,gI⟩:=NB .busy;rw[sZ]at g3 gE gI;refine⟨_,run_beginRound g3 rfl,?_⟩;have qM:c7 G1 (w1.putObj (G.bo k) (.loop {state:= .busy,pending:=none,fn:=fn1,tmps:=tm1,params:= #[p1],assign:=jj,body:=jo,defers:=D1})) a1 ⟨s1.n,s1.t,s1.h.set k (.lp .busy p1 jj jo jS)⟩:=eX.move gE (agE _) gI;refine wpIn_mono (hb1.run G1 _ a1 n qM fJ) fun e3 a3 w3 Y2=> ?_;obtain⟨G3,s3,UM,NV,hs3,Gc⟩:=Y2;have fin:∀(jump:Option Code)(ls:LS)(b:Bool)(p:Nat)(as bd:Code)(gH:List AV),s3.h[k]?=some (.lp .busy p as bd gH)→ls.pd=jump→ls.st=(if jump.isNone then .ready else .done)→jump.isNone=b→C b (s3.h.set k (.lp ls p as bd gH))→
   ∃v w',(Instr.endRound (G.bo k) jump).run P w3= .ok v w'∧∃(b:Bool)(G':Gh)(h':List ak),(Ending.returned v:Ending)= .returned (.bool b)∧bZ G.N G w G' w'∧G.N≤G'.N∧cf G' w' h'∧C b h':=fun jump ls b p as bd gH WA q1 q2 q3 hK=>by
   have hr3:G3.bo k=G.bo k:=(UM.bo k zU).trans sZ;obtain⟨_,fn3,tm3,D3,z3,z4,z5,ace⟩:=Gm hs3.inv WA;obtain⟨zE,zI⟩:=ace ls;rw[hr3]at z3 zE zI;subst q1;have A4:=run_endRound (P:=P) ls.pd z3;rw[←q2]at A4;refine⟨_,_,A4,b,G3,_,by rw[q3],?_,NV,zI,hK⟩;exact(ia.trans ((gE.less fJ).trans UM)).trans (zE.less NV)
  cases e3 with
  |normal=>obtain⟨p2,mv,ml,gH,y1,y2⟩:=Gc;exact fin none .ready true p2 mv ml gH y1 rfl rfl rfl y2
  |ret=>obtain⟨p2,mv,ml,gH,y1,y2⟩:=Gc;exact fin (some .ret) (.done .ret) false p2 mv ml gH y1 rfl rfl rfl y2
  |exit i=>obtain⟨p2,mv,ml,gH,y1,y2⟩:=Gc;exact fin (some (.exit i)) (.done (.exit i)) false p2 mv ml gH y1 rfl rfl rfl y2
  |_=>exact Gc.elim
 |_=>exact Oe.elim
theorem aag{K:St→Prop}{Q:Exit→Act→World→Prop}(hs:c7 G w a s)(hN:N0≤G.N)(h:AW P o K s):o.wpIn (WF r) n P a w (iq N0 G w K) Q:=by
 unfold AW at h;split at h
 ·next c ho=>
  split at h
  ·next f hc=>
   split at h
   ·next k x hf hx=>
    have hv:=hs.ev f;rw[hf]at hv;have ea:a.eval f= .func (.yield (G.bo k)) #[] #[]:=by
     generalize a.eval f=u at hv;cases hv;rfl
    obtain⟨p1,p2⟩:=DF hs c.args;obtain⟨v,xJ⟩:∃v,c.args.map a.eval= #[v]:=by
     have:(c.args.map a.eval).size=1:=by rw[p1,hx];rfl
     exact⟨(c.args.map a.eval)[0],Array.ext (by simp [this]) fun i h1 h2=>by
      have:i=0:=by simp at h2;exact h2
      subst this;rfl⟩
    have I4:aG G w v x:=p2 0 v x (by rw[xJ];rfl) (by rw[hx];rfl);obtain⟨zU,p,as,bd,fn,tm,D,h3,hA⟩:=h G w v r (n-1) hs.inv I4;have jK:∀c',o.op≠ .defer c':=fun c' e=>by rw[ho]at e;cases e
    have hy:=run_yield (P:=P) (args:= #[v]) h3 rfl;have dL:(o.semAt (WF r).round a.eval).run P w= .ok (.round (G.bo k) fn (tm.setIfInBounds p v) as bd) w:=by
     rw[Oper.semAt_eq _ _ _ jK];unfold execOp;simp only[ho,resolve,hc,ea];simp [Deferred.ofValue,invoke,xJ,hy]
    unfold Oper.wpIn;refine⟨fun g hg=>trivial,?_⟩;rw[dL,Oper.uponIn_round];refine⟨fun h=>(by simp [WF,Fence.wide]at h),hA.mono fun e w' hp=> ?_⟩;obtain⟨b,G',h',rfl,hE,Ab,dR,hK⟩:=hp;exact⟨G',_,hE.less hN,agL hN Ab,(hs.move hE Ab dR).put (.d (.v _)) o.dst,hK⟩
   ·exact h.elim
  ·exact h.elim
 ·exact h.elim
theorem Xi{K:St→Prop}{Q:Exit→Act→World→Prop}(hs:c7 G w a s)(hN:N0≤G.N)(h:lF P o K s):o.wpIn (WF r) n P a w (iq N0 G w K) Q:=by
 rcases h with h|h|h|h|⟨x,h',h|⟨lo,h⟩,hK⟩
 ·exact Jl hs hN (.inl h)
 ·exact Jl hs hN (.inr (.inl h))
 ·exact Jl hs hN (.inr (.inr h))
 ·exact aag hs hN h
 ·exact acZ hs hN h hK
 ·exact WK hs hN h hK
theorem LO{ops:Array Oper}{K:St→Prop}{Q':Exit→Act→World→Prop}(hQ:∀a' w',iq N0 G w K a' w'→Q' .normal a' w'):∀(l:List Oper)(k:Nat),(∀j,l[j]?=ops[k+j]?)→∀(G1:Gh)(w1:World)(a:Act)(s:St),
 bZ N0 G w G1 w1→N0≤G1.N→c7 G1 w1 a s→nR P ops l K s→wpOpsIn (WF r) n P ops Q' (List.range' k l.length) a w1
 |[],k,_,G1,w1,a,s,hE,hN,hs,h=>hQ _ _ ⟨G1,s,hE,hN,hs,h⟩
 |o::l,k,hl,G1,w1,a,s,hE,hN,hs,h=>by
  have h0:ops[k]?=some o:=by simpa using (hl 0).symm
  have nv:∀j,l[j]?=ops[k+1+j]?:=fun j=>by have:=hl (j+1);simpa [Nat.add_assoc,Nat.add_comm 1 j]using this
  have hg:=ML hs h;simp only[agw,List.range'_succ,wpOpsIn,h0];split
  ·rename_i hw
   rw[if_pos hw]at hg;exact Oper.wpIn_mono (fun a' w' hn=>by
     obtain⟨G2,s2,e2,n2,MO,k2⟩:=hn;exact LO hQ l (k+1) nv G2 w' a' s2 (hE.trans e2) n2 MO k2) (Xi hs hN hg)
  ·rename_i hw
   rw[if_neg hw]at hg;exact⟨fun _ _=>trivial,LO hQ l (k+1) nv G1 w1 _ _ hE hN (hs.put (.d (.v undef)) o.dst) hg⟩
theorem fq{id:Nat}{ops:Array Oper}(h:nR P ops ops.toList (Q .normal) s):bH P r N0 (.region id ops false) Q s:=by
 constructor
 intro G w a n hs hN;refine wpIn_region ?_;rw[List.range_eq_range',←ag0];exact LO (G:=G) (w:=w) (K:=Q .normal) (fun _ _ h=>h) ops.toList 0 (by simp) G w a s (bZ.refl _ _ _) hN hs h
theorem et(h:Q .normal s):bH P r N0 .skip Q s:=⟨fun G _ _ _ hs hN=>wpIn_skip ⟨G,s,bZ.refl _ _ _,hN,hs,h⟩⟩
theorem dM(h:Q .ret s):bH P r N0 .ret Q s:=⟨fun G _ _ _ hs hN=>wpIn_ret ⟨G,s,bZ.refl _ _ _,hN,hs,h⟩⟩
theorem jZ{id:Nat}(h:Q (.exit id) s):bH P r N0 (.exit id) Q s:=⟨fun G _ _ _ hs hN=>wpIn_exit ⟨G,s,bZ.refl _ _ _,hN,hs,h⟩⟩
theorem aN{x y:Code}(h:bH P r N0 x (gN (fun s'=>bH P r N0 y Q s') Q) s):bH P r N0 (.seq x y) Q s:=by
 constructor
 intro G w a n hs hN;refine wpIn_seq (wpIn_mono (h.run G w a n hs hN) fun e a1 w1 hn=> ?_);obtain⟨G1,s1,hE,fJ,eX,hq⟩:=hn;cases e with
 |normal=>exact wpIn_mono (hq.run G1 w1 a1 n eX fJ) fun _ _ _ hn=>hn.trans hE
 |_=>exact⟨G1,s1,hE,fJ,eX,hq⟩
theorem Kp{c:Operand}{x y:Code}{t:Bool}(hc:ev s c= .d (.v (.bool t)))(h1:t=true→bH P r N0 x Q s)(h2:t=false→bH P r N0 y Q s):bH P r N0 (.cond c x y) Q s:=by
 constructor
 intro G w a n hs hN;have hb:=hs.ev c;rw[hc]at hb;exact wpIn_cond_split hb.bool (fun e=>(h1 e).run G w a n hs hN) (fun e=>(h2 e).run G w a n hs hN)
theorem e6{id:Nat}{c:Code}(h:bH P r N0 c (n8 id Q) s):bH P r N0 (.block id c) Q s:=by
 constructor
 intro G w a n hs hN;refine wpIn_block (wpIn_mono (h.run G w a n hs hN) fun e a1 w1 hn=> ?_);obtain⟨G1,s1,hE,fJ,eX,hq⟩:=hn;cases e with
 |exit ou=>
  by_cases he:ou=id
  ·simp only[n8,he,BEq.rfl,cond_true]at hq;simp only[Exit.inBlock,if_pos he];exact⟨G1,s1,hE,fJ,eX,hq⟩
  ·have hbe:(ou==id)=false:=by simpa using he
   simp only[n8,hbe,cond_false]at hq;simp only[Exit.inBlock,if_neg he];exact⟨G1,s1,hE,fJ,eX,hq⟩
 |_=>exact⟨G1,s1,hE,fJ,eX,hq⟩
theorem Gi{F:Fence}{c:Code}{Q:Exit→Act→World→Prop}{ι:Type}(I:ι→Act→World→Prop)(μ:ι→Nat)(i0:ι)(h₀:I i0 a w)
 (round:∀i a w,I i a w→c.wpIn F n P (Exit.then (fun a' w'=>∃i',I i' a' w'∧μ i'<μ i) Q) a w):(Code.loop c).wpIn F n P Q a w:=by
 intro b k cs zy hb hr;have key:∀j i a w,μ i=j→I i a w→
  ∃e a' w',Q e a' w'∧ArrivesIn (Machine.fenced P F) P (lone (b.atR a (.code c:: .inLoop c::k)) cs w) b k cs e a' w':=by
  intro j
  induction j using Nat.strongRecOn with
  |_ j ih=>
   intro i a w hn hI;obtain⟨e,a₁,w₁,hq,s5⟩:=round i a w hI b (.inLoop c::k) cs zy hb hr;cases e with
   |normal=>
    obtain⟨i',hI₁,aO⟩:=hq;obtain⟨e₂,a₂,w₂,Wf,XP⟩:=ih (μ i') (hn▸aO) i' a₁ w₁ rfl hI₁;exact⟨e₂,a₂,w₂,Wf, .of_steps (StepsIn.trans s5 (.one (fenced_calm hb hr rfl) stepR_inLoop)) XP⟩
   |exit id=>exact⟨_,a₁,w₁,hq, .pass (x:= .inLoop c) rfl (fun _ _=> .inl (by simp)) s5⟩
   |goto l=>exact⟨_,a₁,w₁,hq, .pass (x:= .inLoop c) rfl (fun _ _=> .inl (by simp)) s5⟩
   |ret=>exact⟨_,a₁,w₁,hq, .pass (x:= .inLoop c) rfl (fun _ _=> .inl (by simp)) s5⟩
   |panic ch=>exact⟨_,a₁,w₁,hq, .pass (x:= .inLoop c) rfl (fun _ _=> .inl (by simp)) s5⟩
   |outgrown=>exact⟨_,a₁,w₁,hq, .pass (x:= .inLoop c) rfl (fun _ _=> .inl (by simp)) s5⟩
 obtain⟨e,a',w',hq,s5⟩:=key _ i0 a w rfl h₀;exact⟨e,a',w',hq, .of_steps (.one (fenced_calm hb hr rfl) stepR_loop) s5⟩
end
mutual
def AV.bI(m:Nat):AV→AV
 | .own n xs=>bif cd m n then .d (.sl xs)else .own n xs
 | .agg cs=> .agg (AV.m9 m cs)
 | .bX cs=> .bX (AV.m9 m cs)
 | .fn f cs=> .fn f (AV.m9 m cs)
 |x=>x
def AV.m9(m:Nat):List AV→List AV
 |[]=>[]
 |x::l=>x.bI m::AV.m9 m l
end
mutual
def AV.aS(m:Nat):AV→Bool
 | .own n _| .ptr n _| .row n _ _ _ _| .mp n| .dj n| .vec n _ _ _ _| .di n _ _ _ _=> !cd m n
 | .agg cs=>AV.mg m cs
 | .bX cs=>AV.mg m cs
 | .fn _ cs=>AV.mg m cs
 |_=>true
def AV.mg(m:Nat):List AV→Bool
 |[]=>true
 |x::l=>x.aS m&&AV.mg m l
end
theorem B8(m:Nat):∀l,AV.m9 m l=l.map (AV.bI m)
 |[]=>by simp [AV.m9]
 |x::l=>by simp [AV.m9,B8 m l]
theorem mh(m:Nat):∀l,AV.mg m l=l.all (AV.aS m)
 |[]=>by simp [AV.mg]
 |x::l=>by simp [AV.mg,mh m l]
def ak.bI(m:Nat):ak→ak
 | .cells cs=> .cells (cs.map (AV.bI m))
 | .lp ls p as bd cs=> .lp ls p as bd (cs.map (AV.bI m))
 | .it sn cs=> .it sn (cs.map (AV.bI m))
 | .vec e k cs=> .vec e k (cs.map (·.map (AV.bI m)))
 |B=>B
def ak.aS(m:Nat):ak→Bool
 | .cells cs=>cs.all (AV.aS m)
 | .lp _ _ _ _ cs=>cs.all (AV.aS m)
 | .it _ cs=>cs.all (AV.aS m)
 | .vec _ _ cs=>cs.all (·.all (AV.aS m))
 |_=>true
theorem aG.bI{G:Gh}{w:World}(m:Nat){u:Value}{x:AV}(h:aG G w u x):aG G w u (x.bI m):=by
 have fI:∀(vs:Array Value)(cs:List AV),(∀(i:Nat)(u:Value)(c:AV),vs[i]?=some u→cs[i]?=some c→aG G w u (c.bI m))→∀(i:Nat)(u:Value)(c:AV),vs[i]?=some u→(AV.m9 m cs)[i]?=some c→aG G w u c:=by
  intro vs cs ih i u c hu hc;rw[B8,agA]at hc;cases hx:cs[i]? with
  |none=>rw[hx]at hc;cases hc
  |some x=>rw[hx]at hc;cases hc;exact ih i u x hu hx
 induction h with
 |agg vs cs hl _ ih=>rw[AV.bI];exact .agg vs _ (by rw[B8,agy];exact hl) (fI vs cs ih)
 |bX vs cs hl _ ih=>rw[AV.bI];exact .bX vs _ (by rw[B8,agy];exact hl) (fI vs cs ih)
 |fn f vs cs hl _ ih=>rw[AV.bI];exact .fn f vs _ (by rw[B8,agy];exact hl) (fI vs cs ih)
 |own n xs h hp hle hf=>
  rw[AV.bI,cond_eq_ite];split
  ·exact .d hp
  ·exact .own n xs h hp hle hf
 |d h=>simp only[AV.bI];exact .d h
 |ptr n off h=>simp only[AV.bI];exact .ptr n off h
 |bn xs i off b o u x hx hS hu=>simp only[AV.bI];exact .bn xs i off b o u x hx hS hu
 |full xs hp hf=>simp only[AV.bI];exact .full xs hp hf
 |row n off len cap k h hl hm=>simp only[AV.bI];exact .row n off len cap k h hl hm
 |mp n h=>simp only[AV.bI];exact .mp n h
 |dj n h=>simp only[AV.bI];exact .dj n h
 |vec n o len L k h hs hL hf=>simp only[AV.bI];exact .vec n o len L k h hs hL hf
 |di n i j L k h hs hL hf=>simp only[AV.bI];exact .di n i j L k h hs hL hf
 |hid h h1=>simp only[AV.bI];exact .hid h h1
 |dead u=>simp only[AV.bI];exact .dead u
def Gh.cut(G:Gh)(m:Nat):Gh:={G with N:=m}
theorem aG.cut{G:Gh}{w:World}{m:Nat}{u:Value}{x:AV}(h:aG G w u x)(hb:x.aS m=true):aG (G.cut m) w u x:=by
 induction h with
 |agg vs cs hl _ ih=>
  rw[AV.aS,mh,agT]at hb;exact .agg vs cs hl fun i u c hu hc=>ih i u c hu hc (hb c (agG hc))
 |bX vs cs hl _ ih=>
  rw[AV.aS,mh,agT]at hb;exact .bX vs cs hl fun i u c hu hc=>ih i u c hu hc (hb c (agG hc))
 |fn f vs cs hl _ ih=>
  rw[AV.aS,mh,agT]at hb;exact .fn f vs cs hl fun i u c hu hc=>ih i u c hu hc (hb c (agG hc))
 |own n xs h hp hle hf=>rw[AV.aS]at hb;exact .own n xs (show n<m by rw[Bool.not_eq_true',←Bool.not_eq_true,cZ]at hb;omega) hp hle hf
 |ptr n off h=>rw[AV.aS]at hb;exact .ptr (G:=G.cut m) n off (show n<m by rw[Bool.not_eq_true',←Bool.not_eq_true,cZ]at hb;omega)
 |row n off len cap k h hl hm=>rw[AV.aS]at hb;exact .row (G:=G.cut m) n off len cap k (show n<m by rw[Bool.not_eq_true',←Bool.not_eq_true,cZ]at hb;omega) hl hm
 |mp n h=>rw[AV.aS]at hb;exact .mp (G:=G.cut m) n (show n<m by rw[Bool.not_eq_true',←Bool.not_eq_true,cZ]at hb;omega)
 |dj n h=>rw[AV.aS]at hb;exact .dj (G:=G.cut m) n (show n<m by rw[Bool.not_eq_true',←Bool.not_eq_true,cZ]at hb;omega)
 |vec n o len L k h hs hL hf=>rw[AV.aS]at hb;exact .vec (G:=G.cut m) n o len L k (show n<m by rw[Bool.not_eq_true',←Bool.not_eq_true,cZ]at hb;omega) hs hL hf
 |di n i j L k h hs hL hf=>rw[AV.aS]at hb;exact .di (G:=G.cut m) n i j L k (show n<m by rw[Bool.not_eq_true',←Bool.not_eq_true,cZ]at hb;omega) hs hL hf
 |hid h h1=>exact .hid (G:=G.cut m) h h1
 |d h=>exact .d h
 |bn xs i off b o u x hx hS hu=>exact .bn xs i off b o u x hx hS hu
 |full xs hp hf=>exact .full xs hp hf
 |dead u=>exact .dead u
def St.mask(s:St)(live:List Nat)(m:Nat):St:={s with t:=live.map fun k=>(k,(bz s.t k).bI m),h:=(s.h.take m).map (ak.bI m)}
def St.yG(s:St)(live:List Nat)(m:Nat):Prop:=m≤s.h.length∧(live.all fun k=>((bz s.t k).bI m).aS m)=true∧(((s.h.take m).map (ak.bI m)).all (ak.aS m))=true
theorem nA(f:Nat→AV):∀(live:List Nat)(i:Nat),bz (live.map fun k=>(k,f k)) i=if i∈live then f i else .dead
 |[],i=>by simp [bz]
 |k::l,i=>by
  simp only[agS,jX,nA f l i,agX];by_cases h:i=k
  ·subst h;simp
  ·simp [h]
theorem Kj{G:Gh}{w:World}{h:List ak}(hi:cf G w h){m:Nat}(hm:m≤h.length)(hb:(((h.take m).map (ak.bI m)).all (ak.aS m))=true):cf (G.cut m) w ((h.take m).map (ak.bI m)):=by
 have e8:∀(n:Nat)(B:ak),((h.take m).map (ak.bI m))[n]?=some B→n<m∧∃B',h[n]?=some B'∧B=B'.bI m∧(B'.bI m).aS m=true:=fun n B hB=>by
  have wc:=agT.1 hb B (agG hB);rw[agA,List.getElem?_take]at hB;split at hB
  ·rename_i hn
   cases hx:h[n]? with
   |none=>rw[hx]at hB;cases hB
   |some B'=>rw[hx]at hB;cases hB;exact⟨hn,B',rfl,rfl,wc⟩
  ·cases hB
 have eh:∀n b,cl ((h.take m).map (ak.bI m)) (G.cut m) n=some b→cl h G n=some b:=fun n b hb=>by
  obtain⟨B,hB,hb⟩:=kI hb;obtain⟨_,B',h1,rfl,_⟩:=e8 n B hB;rw[dU h1,←hb];cases B'<;>rfl
 refine⟨by simp [Gh.cut];omega,hi.z,hi.S,fun n B hB=> ?_,fun i j b h1 h2=>hi.inj i j b (eh i b h1) (eh j b h2),hi.gl⟩;obtain⟨hn,B',h1,rfl,wc⟩:=e8 n B hB;have eF:=hi.dp n B' h1;cases B' with
 |gone=>trivial
 |front e k len=>exact eF
 |map kv=>exact eF
 |vec e k cs=>
  obtain⟨c1,c2,c3,c4⟩:=eF;refine⟨by rw[agy];exact c1,by rw[agy];exact c2,fun c hc=> ?_,?_⟩
  ·obtain⟨x,hx,rfl⟩:=List.mem_map.1 hc;rw[agy];exact c3 x hx
  ·rcases c4 with⟨d1,d2,A,d3⟩|⟨g,cap,cur,d1,d2,d3,d4,d5,d6,d7,d8,d9⟩
   ·exact .inl ⟨d1,by rw[d2];rfl,A,d3⟩
   ·refine .inr ⟨g,cap,cur,d1,by rw[agy];exact d2,d3,d4,by rw[agy];exact d5,d6,d7,d8,fun i j c x u hc hx hu=> ?_⟩;simp only[ak.bI,ak.aS,agT]at wc;rw[agA]at hc;cases hy:cs[i]? with
    |none=>rw[hy]at hc;cases hc
    |some y=>
     rw[hy]at hc;cases hc
     have hz:=hx;rw[agA]at hx;cases hw:y[j]? with
     |none=>rw[hw]at hx;cases hx
     |some z=>
      rw[hw]at hx;cases hx
      exact((d9 i j y z u hy hw hu).bI m).cut (wc _ (List.mem_map.2 ⟨y,agG hy,rfl⟩) _ (agG hz))
 |cells cs=>
  obtain⟨c1,c2,vs,T,c3,c4,c5⟩:=eF;refine⟨c1,c2,vs,T,c3,by rw[agy];exact c4,fun i u c hu hc=> ?_⟩;have iC:=agG hc;rw[agA]at hc;cases hx:cs[i]? with
  |none=>rw[hx]at hc;cases hc
  |some x=>
   rw[hx]at hc;cases hc
   exact((c5 i u x hu hx).bI m).cut (agT.1 wc _ iC)
 |lp ls p as bd cs=>
  obtain⟨c1,c2,fn,vs,T,c3,c4,c5⟩:=eF;refine⟨c1,c2,fn,vs,T,c3,by rw[agy];exact c4,fun i u c hu hc=> ?_⟩;have iC:=agG hc;rw[agA]at hc;cases hx:cs[i]? with
  |none=>rw[hx]at hc;cases hc
  |some x=>
   rw[hx]at hc;cases hc
   exact((c5 i u x hu hx).bI m).cut (agT.1 wc _ iC)
 |it sn cs=>
  obtain⟨c1,c2,fn,vs,T,c3,c4,c5⟩:=eF;refine⟨c1,c2,fn,vs,T,c3,by rw[agy];exact c4,fun i u c hu hc=> ?_⟩;have iC:=agG hc;rw[agA]at hc;cases hx:cs[i]? with
  |none=>rw[hx]at hc;cases hc
  |some x=>
   rw[hx]at hc;cases hc
   exact((c5 i u x hu hx).bI m).cut (agT.1 wc _ iC)
theorem nM(N:Nat)(G:Gh)(w:World)(m:Nat):bZ N G w (G.cut m) w:=
 ⟨agE _,fun _ _ h=>h,fun _ _ _=>rfl,fun _ _=>rfl,fun _ _=> .inl ⟨rfl,rfl⟩,gq rfl,fun _ _=>rfl,rfl,rfl,rfl,fun _ _ h=> .inl h⟩
section
variable {P:Program} {r:Option Nat} {n N0:Nat} {G:Gh} {w:World} {a:Act} {s:St} {o:Oper} {Q:Exit→St→Prop}
theorem c7.mask(hs:c7 G w a s){live:List Nat}{m:Nat}(h:s.yG live m):c7 (G.cut m) w a (s.mask live m):=by
 obtain⟨h1,h2,h3⟩:=h;refine⟨hs.size,fun i=> ?_,Kj hs.inv h1 h3,hs.df⟩;show aG _ _ _ (bz (live.map fun k=>(k,(bz s.t k).bI m)) i);rw[nA (fun k=>(bz s.t k).bI m)];split
 ·rename_i hi
  exact((hs.tmp i).bI m).cut (agT.1 h2 i hi)
 ·exact .dead _
theorem KG{c:Code}{ι:Type}(live:List Nat)(m:Nat)(st:ι→St)(I:ι→Prop)(μ:ι→Nat)(i0:ι)(hm:N0≤m)(cu:s.yG live m)(h0:s.mask live m=st i0)(hI:I i0)
 (round:∀i,I i→bH P r N0 c (gN (fun s'=>s'.yG live m∧∃i',s'.mask live m=st i'∧I i'∧μ i'<μ i) Q) (st i)):bH P r N0 (.loop c) Q s:=by
 constructor
 intro G w a n hs _;refine Gi (fun(i:ι) a' w'=>∃G',I i∧bZ N0 G w G' w'∧N0≤G'.N∧c7 G' w' a' (st i)) μ i0 ⟨G.cut m,hI,nM _ _ _ _,hm,h0▸hs.mask cu⟩ ?_;rintro i a' w' ⟨G',hi,hE,hN,cM⟩;refine wpIn_mono ((round i hi).run G' w' a' n cM hN) fun e a1 w1 hn=> ?_;obtain⟨G1,s1,ia,fJ,eX,hq⟩:=hn;cases e with
 |normal=>
  obtain⟨aaE,i',h1,h2,h3⟩:=hq;exact⟨i',⟨G1.cut m,h2,(hE.trans ia).trans (nM _ _ _ _),hm,h1▸eX.mask aaE⟩,h3⟩
 |_=>exact⟨G1,s1,hE.trans ia,fJ,eX,hq⟩
def jU(P:Program)(s:St):List ResultVar→(List AV→Prop)→Prop
 |[],C=>C []
 | .tmp t::l,C=>jU P s l fun xs=>C (bz s.t t::xs)
 | .cell p t::l,C=>mG P t s.h (bz s.t p) fun x=>jU P s l fun xs=>C (x::xs)
def gJ:List AV→AV
 |[x]=>x
 |l=> .bX l
def pv(P:Program)(fn:Func)(m:Nat)(K:AV→List ak→Prop)(s:St):Prop:=
 jU P s fn.results.toList fun l=>m≤s.h.length∧((gJ l).bI m).aS m=true∧(((s.h.take m).map (ak.bI m)).all (ak.aS m))=true∧K ((gJ l).bI m) ((s.h.take m).map (ak.bI m))
def Fh(P:Program)(fn:Func)(m:Nat)(K:AV→List ak→Prop):Exit→St→Prop
 | .normal,s=>pv P fn m K s
 | .ret,s=>pv P fn m K s
 |_,_=>False
theorem NR{C:List AV→Prop}(hs:c7 G w a s)(g:ResultVar→Sem Value)(WB:∀t,g (.tmp t)=pure (a.tmps.getD t undef))(vR:∀p t,g (.cell p t)=(do loadVar t (←asAddr (a.tmps.getD p undef)))):
 ∀(l:List ResultVar),jU P s l C→∃(vs:List Value)(xs:List AV),(l.mapM g).run P w= .ok vs w∧vs.length=xs.length∧(∀(i:Nat)(u:Value)(c:AV),vs[i]?=some u→xs[i]?=some c→aG G w u c)∧C xs:=by
 intro l
 induction l generalizing C with
 |nil=>exact fun h=>⟨[],[],by simp,rfl,fun i u c hu=>by simp at hu,h⟩
 |cons x l ih=>
  intro h;cases x with
  |tmp t=>
   obtain⟨vs,xs,h1,h2,h3,h4⟩:=ih h;refine⟨a.tmps.getD t undef::vs,bz s.t t::xs,by simp only[List.mapM_cons,WB,Sem.run_bind,Sem.run_pure,Result.andThen_ok,h1],by simp [h2],fun i u c hu hc=> ?_,h4⟩
   match i with
   |0=>simp only[List.getElem?_cons_zero,Option.some.injEq]at hu hc;subst hu;subst hc;exact hs.tmp t
   |i+1=>exact h3 i u c (by simpa using hu) (by simpa using hc)
  |cell p t=>
   obtain⟨u0,x0,r1,r2,r3⟩:=Nm (P:=P) hs.inv (hs.tmp p) h;obtain⟨vs,xs,h1,h2,h3,h4⟩:=ih r3;have hv:=hs.tmp p;have e:∃ad,a.tmps.getD p undef= .pointer (some ad):=by
    have h':mG P t s.h (bz s.t p) fun x=>jU P s l fun xs=>C (x::xs):=h;generalize a.tmps.getD p undef=v at hv r1;generalize bz s.t p=y at hv h';cases hv with
    |ptr=>exact⟨_,rfl⟩
    |bn=>exact⟨_,rfl⟩
    |_=>exact(show False from h').elim
   obtain⟨ad,e⟩:=e;rw[e]at r1;have r1':(loadVar t ad).run P w= .ok u0 w:=by simpa [Instr.loadAt,Instr.sureAddr]using r1
   have ha:(asAddr (a.tmps.getD p undef)).run P w= .ok ad w:=by rw[e];rfl
   refine⟨u0::vs,x0::xs,by simp only[List.mapM_cons,vR,Sem.run_bind,Sem.run_pure,Result.andThen_ok,h1,ha,r1'],by simp [h2],fun i u c hu hc=> ?_,h4⟩
   match i with
   |0=>simp only[List.getElem?_cons_zero,Option.some.injEq]at hu hc;subst hu;subst hc;exact r2
   |i+1=>exact h3 i u c (by simpa using hu) (by simpa using hc)
theorem Ol:∀(vs:List Value)(xs:List AV),vs.length=xs.length→(∀(i:Nat)(u:Value)(c:AV),vs[i]?=some u→xs[i]?=some c→aG G w u c)→aG G w (if h:vs.toArray.size=1 then vs.toArray[0]else .tuple vs.toArray) (gJ xs)
 |[v],[x],_,h=>h 0 v x rfl rfl
 |[],[],_,_=> .bX _ _ rfl fun i u c hu=>by simp at hu
 |v::u::vs,x::y::xs,hl,h=>by
  have:¬(v::u::vs).toArray.size=1:=by simp
  rw[dif_neg this];exact .bX _ _ (by simpa using hl) fun i p q hp hq=>h i p q (by simpa using hp) hq
 |[],_::_,hl,_=>by simp at hl
 |_::_,[],hl,_=>by simp at hl
 |[_],_::_::_,hl,_=>by simp at hl
 |_::_::_,[_],hl,_=>by simp at hl
theorem WX{fn:Func}{m:Nat}{K:AV→List ak→Prop}(hs:c7 G w a s)(h:pv P fn m K s):∃v G' r h',(results fn a.tmps).run P w= .ok v w∧bZ N0 G w G' w∧m≤G'.N∧cf G' w h'∧aG G' w v r∧K r h':=by
 obtain⟨g,hg⟩:∃g:ResultVar→Sem Value,results fn a.tmps=(do let vs ←fn.results.mapM g;pure (if h:vs.size=1 then vs[0]else .tuple vs))∧(∀t,g (.tmp t)=pure (a.tmps.getD t undef))∧(∀p t,g (.cell p t)=(do loadVar t (←asAddr (a.tmps.getD p undef)))):=
  ⟨_,rfl,fun _=>rfl,fun _ _=>rfl⟩
 obtain⟨vs,xs,h1,h2,h3,h4,h5,h6,h7⟩:=NR hs g hg.2.1 hg.2.2 fn.results.toList h;have hr:(results fn a.tmps).run P w= .ok (if h:vs.toArray.size=1 then vs.toArray[0]else .tuple vs.toArray) w:=by
  rw[hg.1,Sem.run_bind,Array.mapM_eq_mapM_toList];have e:∀X:Sem (List Value),(Functor.map List.toArray X:Sem _)=X>>=fun l=>pure l.toArray:=fun _=>rfl;rw[e,Sem.run_bind,h1];rfl
 have hv:=Ol vs xs h2 h3;exact⟨_,G.cut m,_,_,hr,nM _ _ _ _,agE _,Kj hs.inv h4 h6,(hv.bI m).cut h5,h7⟩
theorem yR{f:FuncId}{fn:Func}{c:Code}{args:List AV}{h:List ak}{K:AV→List ak→Prop}(m:Nat)(hf:P.funcs[f]?=some fn)(hb:fn.body=some c)(hn:(fn.name== "runtime.NumGoroutine")=false)(hm:h.length≤m)
 (hw:bH P none h.length c (Fh P fn m K) {n:=args.length+(fn.ntmps-args.length),t:=iN 0 args,h:=h}):bW P f args h K:=by
 refine⟨by unfold ym;rw[hf];simp [hb];simpa using hn,fun G w vs hi hl hr=> ?_⟩;refine callsIn_wide (n:=8).1 (callsIn_of_wp_marks (F:=Fence.wide) hf hb trivial ?_);have hs:c7 {G with M:=w.heap.size} w {tmps:=vs++Array.replicate (fn.ntmps-vs.size) undef,defers:=[]} {n:=args.length+(fn.ntmps-args.length),t:=iN 0 args,h:=h}:=by
  refine⟨by simp [hl],fun i=> ?_,hi.zm G.Z _ (fun _ h=>h) (agE _),n7.nil _ _⟩;show aG _ _ _ (bz (iN 0 args) i);rw[Hu];simp only[Nat.zero_le,if_true,Nat.sub_zero];cases hx:args[i]? with
  |none=>exact .dead _
  |some x=>
   have aO:i<vs.size:=by rw[hl];exact(agt.1 hx).1
   have:(vs++Array.replicate (fn.ntmps-vs.size) undef).getD i undef=vs[i]:=by
    simp [Array.getElem?_append_left aO,agP aO]
   simp only[this,Option.getD_some];exact(hr i _ x (agP aO) hx).zm G.Z _
 refine wpIn_mono (hw.run _ w _ 8 hs (by rw[hi.len];exact agE _)) fun e a' w' hn=> ?_;obtain⟨G1,s1,hE,fJ,eX,hq⟩:=hn;have key:pv P fn m K s1→LeavesInM Fence.wide 8 P fn a'.tmps (fun e w'=>∃v G' r h',e= .returned v∧bZ G.N G w G' w'∧G.N≤G'.N∧cf G' w' h'∧aG G' w' v r∧K r h') a'.defers .returning w':=fun hq=>by
  obtain⟨w2,G2,k1,k2,k3,k4⟩:=PR hE fJ hi.z hi.gl.2 eX;obtain⟨v,G',r,h',r1,r2,r3,r4,r5,r6⟩:=WX (N0:=h.length) k4 hq;exact k1 _ _ _ _ _ ⟨v,r1,v,G',r,h',rfl,by rw[←hi.len];exact k2.trans r2,by rw[←hi.len];exact agL hm r3,r4,r5,r6⟩
 cases e with
 |normal=>exact key hq
 |ret=>exact key hq
 |_=>exact hq.elim
end
end Go.Proofs.YtphmhnabilhbgaaGreatDoor
namespace Go.Proofs.YtphmhnabilhbgaaGreatDoor
open Go.RowKit
section
variable {P:Program} {r:Option Nat} {N0:Nat} {s:St} {Q:Exit→St→Prop}
end
theorem bW.frame{P:Program}{f:FuncId}{args:List AV}{K:AV→Prop}(hc:bW P f args [] fun r h=>h=[]∧K r)(ha:args.all (AV.aS 0)=true)(hK:∀r,K r→r.aS 0=true)(h:List ak):
 bW P f args h fun r h'=>h'=h∧K r:=by
 refine⟨hc.1,fun G w vs hi hl hr=> ?_⟩;have qz:cf {G with N:=0,Z:=fun b=>b<w.heap.size} w []:=⟨rfl,fun b hb=>hb,hi.S,fun n B hB=>by simp at hB,fun m n b h1=>by simp [cl]at h1,hi.gl⟩;refine(hc.2 {G with N:=0,Z:=fun b=>b<w.heap.size} w vs qz hl fun i u c hu hx=> ?_).mono fun e w' hp=> ?_
 ·have:=(hr i u c hu hx).cut (agT.1 ha c (agG hx));clear hc;generalize hG:({G with N:=0,Z:=fun b=>b<w.heap.size}:Gh)=G0;have e:∀{v y},aG (G.cut 0) w v y→aG G0 w v y:=by
   intro v y hv;subst hG
   induction hv with
   |agg vs cs hl _ ih=>exact .agg vs cs hl ih
   |bX vs cs hl _ ih=>exact .bX vs cs hl ih
   |fn f vs cs hl _ ih=>exact .fn f vs cs hl ih
   |own n xs h hp hle hf=>exact absurd h (agV _)
   |ptr n off h=>exact absurd h (agV _)
   |row n off len cap k h hl hm=>exact absurd h (agV _)
   |mp n h=>exact absurd h (agV _)
   |dj n h=>exact absurd h (agV _)
   |vec n o len L k h=>exact absurd h (agV _)
   |di n i j L k h=>exact absurd h (agV _)
   |hid h h1=>exact .hid h h1
   |d h=>exact .d h
   |bn xs i off b o u x hx hS hu=>exact .bn xs i off b o u x hx hS hu
   |full xs hp hf=>exact .full xs hp hf
   |dead u=>exact .dead u
  exact e this
 ·obtain⟨v,G',r,h',rfl,hE,hN,dR,hv,rfl,hk⟩:=hp;have agf:G'.N=0:=dR.len.symm;have gh:∀b o,G'.S b o→G.S b o∨w.heap.size≤b:=fun b o hs=>(hE.new b o hs).imp id Nat.le_of_not_lt;have gY:bZ G.N G w {G with S:=G'.S} w':=
   ⟨hE.size,hE.S,hE.cell,fun _ _=>rfl,fun _ _=> .inl ⟨rfl,rfl⟩,gq rfl,fun b hb=>hE.old b (hi.z b hb),hE.os,hE.tape,hE.output,fun b o hs=>(gh b o hs).imp id fun jr hz=>by have:=hi.z b hz;omega⟩
  refine⟨v,{G with S:=G'.S},r,h,rfl,gY,agE _,⟨hi.len,fun b hb=>agR (hi.z b hb) hE.size,dR.S,fun n B hB=> ?_,fun m n b h1 h2=>hi.inj m n b h1 h2,hi.gl.ba gY⟩,?_,rfl,hk⟩
  ·refine eB.ba (hi.lt hB) gY (agE _) ⟨rfl,rfl,rfl⟩ (fun b hb=> ?_) (hi.dp n B hB);have aO:=hi.hO (n:=n) (b:=b) ((dU hB).trans hb);refine⟨hE.old _ aO,fun o kx hs=> ?_⟩;rcases gh _ o hs with hs|hs
   ·exact kx hs
   ·omega
  ·have hr:=hK r hk;clear hk gY
   induction hv with
   |agg vs cs hl _ ih=>
    rw[AV.aS,mh,agT]at hr;exact .agg vs cs hl fun i u c hu hc=>ih i u c hu hc (hr c (agG hc))
   |bX vs cs hl _ ih=>
    rw[AV.aS,mh,agT]at hr;exact .bX vs cs hl fun i u c hu hc=>ih i u c hu hc (hr c (agG hc))
   |fn f vs cs hl _ ih=>
    rw[AV.aS,mh,agT]at hr;exact .fn f vs cs hl fun i u c hu hc=>ih i u c hu hc (hr c (agG hc))
   |own n xs h hp hle hf=>simp [AV.aS,cd]at hr
   |ptr n off h=>simp [AV.aS,cd]at hr
   |row n off len cap k h hl hm=>simp [AV.aS,cd]at hr
   |mp n h=>simp [AV.aS,cd]at hr
   |dj n h=>simp [AV.aS,cd]at hr
   |vec n o len L k h=>simp [AV.aS,cd]at hr
   |di n i j L k h=>simp [AV.aS,cd]at hr
   |hid h h1=>exact .hid h h1
   |d h=>exact .d h
   |bn xs i off b o u x hx hS hu=>exact .bn xs i off b o u x hx hS hu
   |full xs hp hf=>exact .full xs hp hf
   |dead u=>exact .dead u
def bm(P:Program)(f:FuncId)(args:List AV)(K:AV→Prop):Prop:=bW P f args [] fun r h=>h=[]∧K r
theorem bm.use{P:Program}{f:FuncId}{args:List AV}{r:AV}{h:List ak}{C:AV→List ak→Prop}(hc:bm P f args (·=r))(ha:args.all (AV.aS 0)=true)(hr:r.aS 0=true)(hC:C r h):bW P f args h C:=
 (hc.frame ha (fun _ e=>e▸hr) h).mono fun _ _ ⟨e1,e2⟩=>by subst e1;subst e2;exact hC
def abo:List FuncId:=[51,85,120,121,122]
def m4:Operand→Bool
 | .func g=>abo.any (·==g)
 |_=>false
def cB(o:Oper):Nat:=
 match o.op with
 | .move _| .assign _| .pick .. | .nilCheck _| .fieldAddr .. | .field .. | .indexAddr .. | .index .. | .build .. | .buildSlice .. | .slice .. | .extract .. | .makeFunc .. | .binOp .. | .unOp .. | .convert .. =>0
 | .load .. | .lookup .. =>1
 | .alloc _| .box .. =>2
 | .store .. | .makeMap .. | .mapUpdate .. =>3
 | .call c=>match c.callee with
   | .builtin .len| .builtin .max| .builtin .min=>0
   | .builtin .append=>5
   | .value f=>bif m4 f then 6 else 4
   |_=>9
 |_=>9
def S8(P:Program)(g:FuncId)(args:List AV)(h:List ak)(C:AV→Prop):Prop:=∃r,C r∧∀e,bW P g args (h++e) fun r' h'=>r'=r∧h'=h++e
def pj(P:Program)(o:Oper)(K:St→Prop)(s:St):Prop:=
 match o.op with
 | .call c=>match c.callee with
   | .value f=>match ev s f with
     | .fn g dt=>S8 P g (c.args.toList.map (ev s)++dt) s.h fun r=>K (s.put o.dst r)
     | .hid q=>∃g cs,q= .fn g cs∧S8 P g (c.args.toList.map (ev s)++cs.map gG.av) s.h fun r=>K (s.put o.dst r)
     |_=>False
   |_=>kX P o K s
 |_=>kX P o K s
def ie(o:Oper):Bool:=
 match o.op with
 | .indexAddr .. | .fieldAddr .. | .nilCheck .. | .load .. | .store .. =>true
 | .call c=>match c.callee with
   | .builtin .len=>true
   |_=>false
 |_=>false
def l0(m:Bool)(o:Oper):Bool:=m&&match o.op with
 | .call c=>match c.callee with
   | .value (.tmp _)=>true
   |_=>false
 |_=>false
def oC(m:Bool)(P:Program)(o:Oper)(K:St→Prop)(s:St):Prop:=
 pj P o K s∨(l0 m o=true∧∃x h1,K ((s.wh h1).put o.dst x)∧∀C:AV→List ak→Prop,C x h1→cO P o (ev s) s.h C)∨(ie o=true∧vL P o K s)∨(cB o=6∧∃x e0,K ((s.wh (s.h++e0)).put o.dst x)∧∀C:AV→List ak→Prop,C x (s.h++e0)→cO P o (ev s) s.h C)
def ja(P:Program)(o:Oper)(ρ:Operand→AV)(h:List ak)(C:AV→List ak→Prop):Prop:=
 cO P o ρ h C∨(ie o=true∧∃a x h' p,fm P o.op ρ h a=some (x,h',p)∧p∧C x h')
def po(m:Bool)(P:Program)(ops:Array Oper):List Oper→(St→Prop)→St→Prop
 |[],K,s=>K s
 |o::rest,K,s=>gM ops o s (oC m P o (po m P ops rest K) s) (po m P ops rest K (s.put o.dst (.d (.v undef))))
abbrev S7(P:Program)(o:Oper)(K:St→Prop)(s:St):Prop:=oC false P o K s
abbrev Cw(P:Program)(ops:Array Oper)(l:List Oper)(K:St→Prop)(s:St):Prop:=po false P ops l K s
section
variable {P:Program} {o:Oper} {ρ ρ':Operand→AV} {h:List ak} {C:AV→List ak→Prop}
theorem Lx(x:Option Operand)(hx:∀y∈x.toArray,ρ y=ρ' y)(d:Nat)(F:Nat→Prop):iu ρ x d F=iu ρ' x d F:=by
 cases x with
 |none=>rfl
 |some y=>simp only[iu,hx y (by simp)]
theorem VL(hρ:∀x∈o.op.operands,ρ x=ρ' x):cO P o ρ h C=cO P o ρ' h C:=by
 obtain⟨dst,op,type,pos,after,guard⟩:=o;have NY:∀ps:Array (Nat×Operand),(∀x∈ps.map (·.2),ρ x=ρ' x)→(ps.toList.map fun p=>(p.1,ρ p.2))=(ps.toList.map fun p=>(p.1,ρ' p.2)):=fun ps hp=>
  agY fun p hm=>by rw[hp p.2 (Array.mem_map.2 ⟨p,Array.mem_toList_iff.1 hm,rfl⟩)]
 have fI:∀l:Array Operand,(∀x∈l,ρ x=ρ' x)→l.toList.map ρ=l.toList.map ρ':=fun l hl=>agY fun x hm=>hl x (Array.mem_toList_iff.1 hm);cases op with
 |build t ps=>simp only[cO,NY ps fun x hx=>hρ x (by simpa [Op.operands]using hx)]
 |buildSlice t n ps=>simp only[cO,NY ps fun x hx=>hρ x (by simpa [Op.operands]using hx)]
 |makeFunc fn first captured=>
  cases fn with
  |func f=>simp only[cO,fI captured fun x hx=>hρ x (by simp [Op.operands,hx])]
  |_=>rfl
 |slice t x lo hi mx=>
  have e1:ρ x=ρ' x:=hρ x (by simp [Op.operands]);have e2:=fun d F=>Lx (ρ:=ρ) (ρ':=ρ') lo (fun y hy=>hρ y (by simp at hy;simp [Op.operands,hy])) d F;have e3:=fun d F=>Lx (ρ:=ρ) (ρ':=ρ') hi (fun y hy=>hρ y (by simp at hy;simp [Op.operands,hy])) d F;have e4:=fun d F=>Lx (ρ:=ρ) (ρ':=ρ') mx (fun y hy=>hρ y (by simp at hy;simp [Op.operands,hy])) d F;cases lo<;>cases hi<;>cases mx<;>simp only[cO,o9,e1,e2,e3,e4]
 |call c=>
  have ha:c.args.toList.map ρ=c.args.toList.map ρ':=fI c.args fun x hx=>hρ x (by simp [Op.operands,Call.operands,hx]);have hm:∀x,x∈c.args.toList→ρ x=ρ' x:=fun x hx=>hρ x (by simp [Op.operands,Call.operands];right;exact Array.mem_toList_iff.1 hx);cases hc:c.callee with
  |value f=>
   have hf:ρ f=ρ' f:=hρ f (by simp [Op.operands,Call.operands,hc]);simp only[cO,hc,hf,ha]
  |invoke=>simp only[cO,hc]
  |builtin b=>
   cases b with
   |len=>
    simp only[cO,hc];split
    ·rename_i x _ heq _
     rw[hm x (by rw[heq];simp)]
    ·rfl
   |append=>
    simp only[cO,hc];split
    ·rename_i x y _ _ heq _
     rw[hm x (by rw[heq];simp),hm y (by rw[heq];simp)]
    ·rfl
   |max=>simp only[cO,hc,ha]
   |min=>simp only[cO,hc,ha]
   |_=>simp only[cO,hc]
 |makeMap t r=>cases r<;>rfl
 |lookup t a b ok=>simp only[cO,lq,hρ a (by simp [Op.operands]),hρ b (by simp [Op.operands])]
 |mapUpdate t a b c=>simp only[cO,lq,hρ a (by simp [Op.operands]),hρ b (by simp [Op.operands]),hρ c (by simp [Op.operands])]
 |pick c a b=>simp only[cO,hρ c (by simp [Op.operands]),hρ a (by simp [Op.operands]),hρ b (by simp [Op.operands])]
 |store t a b=>simp only[cO,hρ a (by simp [Op.operands]),hρ b (by simp [Op.operands])]
 |binOp op t a b u=>simp only[cO,hρ a (by simp [Op.operands]),hρ b (by simp [Op.operands])]
 |indexAddr t a b=>simp only[cO,hρ a (by simp [Op.operands]),hρ b (by simp [Op.operands])]
 |index t a b=>simp only[cO,hρ a (by simp [Op.operands]),hρ b (by simp [Op.operands])]
 |move a|assign a|box t a|load t a|nilCheck a|fieldAddr t a f|field t a f|extract a i|unOp op t a|convert t u a=>simp only[cO,hρ a (by simp [Op.operands])]
 |_=>rfl
theorem XZ(hv:ie o=true)(hρ:∀x∈o.op.operands,ρ x=ρ' x)(a:VA):fm P o.op ρ h a=fm P o.op ρ' h a:=by
 obtain⟨dst,op,type,pos,after,guard⟩:=o;cases op with
 |store t a b=>simp only[fm,hρ a (by simp [Op.operands]),hρ b (by simp [Op.operands])]
 |indexAddr t a b=>simp only[fm,hρ a (by simp [Op.operands]),hρ b (by simp [Op.operands])]
 |load t a|nilCheck a|fieldAddr t a f=>simp only[fm,hρ a (by simp [Op.operands])]
 |call c=>
  have hm:∀x,x∈c.args.toList→ρ x=ρ' x:=fun x hx=>hρ x (by simp [Op.operands,Call.operands];right;exact Array.mem_toList_iff.1 hx);cases hc:c.callee with
  |builtin b=>
   cases b with
   |len=>
    simp only[fm,hc];split
    ·rename_i x _ heq _
     rw[hm x (by rw[heq];simp)]
    ·rfl
   |_=>simp [ie,hc]at hv
  |_=>simp [ie,hc]at hv
 |_=>simp [ie]at hv
theorem Lk(hρ:∀x∈o.op.operands,ρ x=ρ' x):ja P o ρ h C=ja P o ρ' h C:=by
 unfold ja;rw[VL hρ];by_cases hv:ie o=true
 ·simp only[XZ hv hρ]
 ·simp only[hv,Bool.false_eq_true,false_and]
end
def X3:ak→Bool
 | .cells _| .map _| .vec .. =>true
 |_=>false
def mr:Option ak→Option (Nat×Nat)
 |some (.vec _ k cs)=>some (k,cs.length)
 |_=>none
def ig(h h':List ak):Prop:=∀(m:Nat)(q:Nat×Nat),mr h[m]?=some q→mr h'[m]?=some q
def g9(h h':List ak):Prop:=∀m:Nat,mr h[m]?=mr h'[m]?
theorem g9.i{h h':List ak}(e:g9 h h'):ig h h':=fun m q hq=>by rw[←e m];exact hq
theorem g9.j{h h':List ak}(e:g9 h h'):ig h' h:=fun m q hq=>by rw[e m];exact hq
theorem ig.refl(h:List ak):ig h h:=fun _ _ e=>e
theorem ig.trans{a b c:List ak}(x:ig a b)(y:ig b c):ig a c:=fun m q e=>y m q (x m q e)
theorem ig.app(h e:List ak):ig h (h++e):=fun m q hq=>by
 by_cases hl:m<h.length
 ·rw[agD hl];exact hq
 ·rw[agZ (by omega)]at hq;cases hq
theorem g9.app{h:List ak}{B:ak}(hB:mr (some B)=none):g9 h (h++[B]):=fun m=>by
 by_cases hl:m<h.length
 ·rw[agD hl]
 ·rw[agJ (by omega),agZ (by omega:h.length≤m)];by_cases h0:m-h.length=0
  ·rw[h0];exact hB.symm
  ·rw[agZ (by simp;omega)]
theorem g9.set{h:List ak}{n:Nat}{B B':ak}(hn:h[n]?=some B)(hB:mr (some B)=mr (some B')):g9 h (h.set n B'):=fun m=>by
 by_cases e:n=m
 ·subst e;rw[agW (agt.1 hn).1,hn];exact hB
 ·rw[ag1 e]
def im(h h':List ak):Prop:=∀(n:Nat)(B:ak),h[n]?=some B→X3 B=true→h'[n]?=some B
theorem im.app(h e:List ak):im h (h++e):=fun n cs hn _=>by
 rw[agD (agt.1 hn).1];exact hn
theorem im.refl(h:List ak):im h h:=fun _ _ hn _=>hn
theorem YW{P:Program}{ρ:Operand→AV}{h h1:List ak}{T:TypeId}{m i:Operand}{ok:Bool}{x:AV}{p:Sd}(hx:lq P (.lookup T m i ok) ρ h=some (x,h1,p)):h1=h∧∀h',im h h'→lq P (.lookup T m i ok) ρ h'=some (x,h',p):=by
 simp only[lq]at hx ⊢;split at hx
 ·next k e hT=>
  split at hx
  ·next z hz=>
   split at hx
   ·next b s' hm hi=>
    split at hx
    ·next kv hn=>
     cases hc:gr P k&&z.oneCell' with
     |false=>rw[hc]at hx;cases hx
     |true=>
      rw[hc]at hx;cases hx
      refine⟨rfl,fun h' hh=> ?_⟩;rw[hh b _ hn rfl];simp only[cond_true]
    ·cases hx
   ·cases hx
  ·cases hx
 ·cases hx
theorem Sq{h:List ak}{n e k:Nat}{cs:List (List AV)}(hn:h[n]?=some (.vec e k cs)):mr h[n]?=some (k,cs.length):=by rw[hn];rfl
theorem OO{h:List ak}{n k l:Nat}(hq:mr h[n]?=some (k,l)):∃e cs,h[n]?=some (.vec e k cs)∧cs.length=l:=by
 unfold mr at hq;split at hq
 ·next e k' cs e1=>cases hq;exact⟨e,cs,e1,rfl⟩
 ·cases hq
theorem Y6{P:Program}{o:Oper}{ρ:Operand→AV}{h h1:List ak}{a:VA}{x:AV}{p:Prop}(hv:ie o=true)(hk:cB o=0)(hx:fm P o.op ρ h a=some (x,h1,p))(hp:p):h1=h∧∀h',ig h h'→∃p',fm P o.op ρ h' a=some (x,h',p')∧p':=by
 obtain⟨dst,op,type,pos,after,guard⟩:=o;cases op with
 |indexAddr T y i=>
  simp only[fm]at hx ⊢;split at hx
  ·next n o len L k z e k' i' e1 e2 e3=>
   split at hx
   ·next e4 k2 cs hn=>
    obtain⟨hb,he⟩:=lg hx;cases he
    rw[agv,beq_iff_eq,beq_iff_eq]at hb;obtain⟨rfl,rfl⟩:=hb;refine⟨rfl,fun h' hh=> ?_⟩;obtain⟨e5,ZA,q1,q2⟩:=OO (hh n _ (Sq hn));simp only[q1,ahc,Bool.and_self,cond_true];exact⟨_,rfl,by rw[q2];exact hp.1,hp.2⟩
   ·cases hx
  ·cases hx
 |fieldAddr T y f=>
  simp only[fm]at hx ⊢;split at hx
  ·next e1 e2=>cases hx;exact⟨rfl,fun h' _=>⟨_,rfl,trivial⟩⟩
  ·cases hx
 |nilCheck y=>
  simp only[fm]at hx ⊢;split at hx
  ·next e1=>cases hx;exact⟨rfl,fun h' _=>⟨_,rfl,trivial⟩⟩
  ·cases hx
 |call c=>
  cases hc:c.callee with
  |builtin b=>
   cases b with
   |len=>
    simp only[fm,hc]at hx ⊢;split at hx
    ·split at hx
     ·next n o len L k e1=>
      split at hx
      ·next e2 k2 cs hn=>
       obtain⟨hb,he⟩:=lg hx;cases he
       rw[agv,beq_iff_eq]at hb;obtain⟨hb1,rfl⟩:=hb;refine⟨rfl,fun h' hh=> ?_⟩;obtain⟨e5,ZA,q1,q2⟩:=OO (hh n _ (Sq hn));simp only[q1,hb1,ahc,Bool.and_self,cond_true];exact⟨_,rfl,by rw[q2];exact hp⟩
      ·cases hx
     ·cases hx
    ·cases hx
   |_=>simp [ie,hc]at hv
  |_=>simp [ie,hc]at hv
 |load t y=>simp [cB]at hk
 |store t y z=>simp [cB]at hk
 |_=>simp [ie]at hv
theorem aeF{P:Program}{o:Oper}{ρ:Operand→AV}{h h1:List ak}{a:VA}{x:AV}{p:Prop}(hv:ie o=true)(hk:cB o=1)(hx:fm P o.op ρ h a=some (x,h1,p))(hp:p):h1=h∧∀h',im h h'→∃p',fm P o.op ρ h' a=some (x,h',p')∧p':=by
 obtain⟨dst,op,type,pos,after,guard⟩:=o;cases op with
 |load t y=>
  simp only[fm]at hx ⊢;split at hx
  ·next n i j L k c e1=>
   split at hx
   ·next e2 k' cs z hn hz=>
    obtain⟨hb,he⟩:=lg hx;cases he
    refine⟨rfl,fun h' hh=> ?_⟩;simp only[hh n _ hn rfl,hz,hb,cond_true];exact⟨_,rfl,hp⟩
   ·cases hx
  ·cases hx
 |indexAddr T y i=>simp [cB]at hk
 |fieldAddr T y f=>simp [cB]at hk
 |nilCheck y=>simp [cB]at hk
 |call c=>
  cases hc:c.callee with
  |builtin b=>cases b<;>simp [cB,hc]at hk
  |value f=>cases k8:m4 f<;>simp [cB,hc,k8]at hk
  |invoke=>simp [cB,hc]at hk
 |store t y z=>simp [cB]at hk
 |_=>simp [ie]at hv
theorem acp{P:Program}{o:Oper}{ρ:Operand→AV}{h h1:List ak}{a:VA}{x:AV}{p:Prop}(hv:ie o=true)(hk:cB o=3)(hx:fm P o.op ρ h a=some (x,h1,p))(hp:p):g9 h h1:=by
 obtain⟨dst,op,type,pos,after,guard⟩:=o;cases op with
 |store t y z=>
  simp only[fm]at hx;split at hx
  ·next n i j L k c cp e1=>
   split at hx
   ·next e k' cs q hn hz=>
    obtain⟨hb,he⟩:=lg hx;cases he
    simp only[agv,beq_iff_eq]at hb;refine g9.set hn ?_;simp only[mr,List.length_set,hp.2.2,hb.1.1.1.1]
   ·cases hx
  ·cases hx
 |load t y=>simp [cB]at hk
 |indexAddr T y i=>simp [cB]at hk
 |fieldAddr T y f=>simp [cB]at hk
 |nilCheck y=>simp [cB]at hk
 |call c=>
  cases hc:c.callee with
  |builtin b=>cases b<;>simp [cB,hc]at hk
  |value f=>cases k8:m4 f<;>simp [cB,hc,k8]at hk
  |invoke=>simp [cB,hc]at hk
 |_=>simp [ie]at hv
def mj(m:Bool)(o:Oper):Nat:=bif l0 m o then 7 else cB o
def eI(m:Bool)(P:Program)(o:Oper)(ρ:Operand→AV)(h:List ak)(x:AV)(h1:List ak):Prop:=
 match mj m o with
 |0=>h1=h∧∀h',ig h h'→∀C:AV→List ak→Prop,C x h'→ja P o ρ h' C
 |1=>h1=h∧∀h',im h h'→∀C:AV→List ak→Prop,C x h'→ja P o ρ h' C
 |2=>∃B,mr (some B)=none∧x= .ptr h.length 0∧h1=h++[B]∧∀h'(C:AV→List ak→Prop),C (.ptr h'.length 0) (h'++[B])→ja P o ρ h' C
 |3=>g9 h h1∧∀C:AV→List ak→Prop,C x h1→ja P o ρ h C
 |4=>h1=h∧∀e(C:AV→List ak→Prop),C x (h++e)→ja P o ρ (h++e) C
 |5=>(im h h1∧im h1 h∧g9 h h1)∧∀C:AV→List ak→Prop,C x h1→ja P o ρ h C
 |6=>∃e0,h1=h++e0∧∀C:AV→List ak→Prop,C x h1→ja P o ρ h C
 |7=>∀C:AV→List ak→Prop,C x h1→ja P o ρ h C
 |_=>False
section
variable {P:Program} {o:Oper} {ρ ρ':Operand→AV} {h:List ak} {C:AV→List ak→Prop}
theorem Ws{p:AV}{K:List AV→Nat→Prop}(hp:qV h p K):∃cs off,K cs off∧∀h',im h h'→∀K':List AV→Nat→Prop,K' cs off→qV h' p K':=by
 unfold qV at hp ⊢;split at hp
 ·rename_i n off
  split at hp
  ·rename_i cs fK
   refine⟨cs,off,hp,fun h' hh K' hk=> ?_⟩;rw[hh n _ fK rfl];exact hk
  ·exact hp.elim
 ·rename_i xs i off
  split at hp
  ·rename_i cs fK
   refine⟨_,off,hp,fun h' _ K' hk=> ?_⟩;exact hk
  ·exact hp.elim
 ·exact hp.elim
theorem ab0{t:Nat}{p:AV}{K:AV→Prop}(hp:mG P t h p K):∃x,K x∧∀h',im h h'→∀K':AV→Prop,K' x→mG P t h' p K':=by
 unfold mG at hp ⊢;obtain⟨cs,off,h1,h2⟩:=Ws hp;split at h1
 ·rw[bY]at h1;refine⟨_,h1.2,fun h' hh K' lJ=>h2 h' hh _ ?_⟩;exact bY.2 ⟨h1.1,lJ⟩
 ·split at h1
  ·rename_i c hc
   refine⟨c,h1,fun h' hh K' lJ=>h2 h' hh _ ?_⟩;simp only[hc];exact lJ
  ·exact h1.elim
 ·exact h1.elim
theorem sf{x:Option Operand}{d:Nat}{F:Nat→Prop}(hx:iu ρ x d F):∃m,F m∧∀F':Nat→Prop,F' m→iu ρ x d F':=by
 cases x with
 |none=>exact⟨d,hx,fun _ h=>h⟩
 |some y=>
  simp only[iu]at hx;split at hx
  ·rename_i z hz
   exact⟨_,hx.2,fun F' J=>by simp only[iu,hz];exact⟨hx.1,J⟩⟩
  ·exact hx.elim
theorem ZR(hk:cB o=0)(hc:cO P o ρ h C):∃x,C x h∧∀h'(C':AV→List ak→Prop),C' x h'→cO P o ρ h' C':=by
 have sC:∀(F:(AV→Prop)→Prop),(∀K,F K→∃x,K x∧∀K',K' x→F K')→F (fun x=>C x h)→(∀h' C',cO P o ρ h' C'=F (fun x=>C' x h'))→∃x,C x h∧∀h'(C':AV→List ak→Prop),C' x h'→cO P o ρ h' C':=fun F J h0 he=>by
  obtain⟨x,h1,h2⟩:=J _ h0;exact⟨x,h1,fun h' C' dH=>by rw[he];exact h2 _ dH⟩
 obtain⟨dst,op,type,pos,after,guard⟩:=o;cases op with
 |move a=>exact⟨ρ a,hc,fun _ _ h=>h⟩
 |assign a=>exact⟨ρ a,hc,fun _ _ h=>h⟩
 |pick c a b=>
  simp only[cO]at hc;split at hc
  ·rename_i t ht
   cases t with
   |true=>exact⟨ρ a,hc.1 rfl,fun h' C' dH=>by simp only[cO,ht];exact⟨fun _=>dH,fun e=>by cases e⟩⟩
   |false=>exact⟨ρ b,hc.2 rfl,fun h' C' dH=>by simp only[cO,ht];exact⟨fun e=>(by cases e),fun _=>dH⟩⟩
  ·exact hc.elim
 |nilCheck a=>
  simp only[cO]at hc;split at hc
  ·rename_i m off e;exact⟨_,hc,fun h' C' dH=>by simp only[cO,e];exact dH⟩
  ·rename_i xs i off e;exact⟨_,hc,fun h' C' dH=>by simp only[cO,e];exact dH⟩
  ·rename_i f cs e;exact⟨_,hc,fun h' C' dH=>by simp only[cO,e];exact dH⟩
  ·exact hc.elim
 |fieldAddr t a f=>
  simp only[cO]at hc;split at hc
  ·rename_i fo k g hf
   split at hc
   ·rename_i m off e;exact⟨_,hc,fun h' C' dH=>by simp only[cO,hf,e];exact dH⟩
   ·rename_i xs i off e;exact⟨_,hc,fun h' C' dH=>by simp only[cO,hf,e];exact dH⟩
   ·exact hc.elim
  ·exact hc.elim
 |field t a f=>
  refine sC (wF P t (ρ a) f) (fun K hK=> ?_) hc (fun _ _=>rfl);unfold wF at hK ⊢;split at hK
  ·rw[bY]at hK;exact⟨_,hK.2,fun K' eu=>bY.2 ⟨hK.1,eu⟩⟩
  ·split at hK
   ·rename_i c jx;exact⟨c,hK,fun K' eu=>eu⟩
   ·exact hK.elim
  ·exact hK.elim
 |indexAddr t a b=>
  refine sC (qD P t (ρ a) (ρ b)) (fun K hK=> ?_) hc (fun _ _=>rfl);unfold qD at hK ⊢;split at hK
  ·rename_i e k hT
   split at hK
   ·rename_i n off len cap k'
    split at hK
    ·rename_i z hz
     rw[bY]at hK;obtain⟨h1,h2,h3,h4⟩:=hK;exact⟨_,h4,fun K' eu=>bY.2 ⟨h1,h2,h3,eu⟩⟩
    ·exact hK.elim
   ·split at hK
    ·rename_i xs z kR hz
     obtain⟨h0,hK⟩:=hK;split at hK
     ·rename_i c jx
      exact⟨_,hK.2,fun K' eu=>⟨h0,hK.1,eu⟩⟩
     ·exact hK.elim
    ·exact hK.elim
  ·split at hK
   ·rename_i n e k b' off z hT hz
    obtain⟨h1,h2,h3⟩:=hK;exact⟨_,h3,fun K' eu=>⟨h1,h2,eu⟩⟩
   ·rename_i n e k xs i' off z hT hz
    rw[bY]at hK;obtain⟨h0,h1,h2,h3⟩:=hK;split at h3
    ·rename_i c jx
     split at h3
     ·rename_i d hd
      exact⟨_,h3,fun K' eu=>bY.2 ⟨h0,h1,h2,eu⟩⟩
     ·exact h3.elim
    ·exact h3.elim
   ·exact hK.elim
 |index t a b=>
  simp only[cO]at hc;split at hc
  ·rename_i bb z e1 e2
   rw[bY]at hc;obtain⟨h1,h2,h3⟩:=hc;split at h3
   ·rename_i c jx
    exact⟨_,h3,fun h' C' dH=>by simp only[cO,e1,e2];exact bY.2 ⟨h1,h2,by simp only[jx];exact dH⟩⟩
   ·exact h3.elim
  ·exact hc.elim
 |build t ps=>
  refine sC (wL P t (ps.toList.map fun p:Nat×Operand=>(p.1,ρ p.2))) (fun K hK=> ?_) hc (fun _ _=>rfl);unfold wL at hK ⊢;split at hK
  ·split at hK
   ·rename_i cs fK
    rw[bY]at hK;exact⟨_,hK.2,fun K' eu=>bY.2 ⟨hK.1,eu⟩⟩
   ·exact hK.elim
  ·exact hK.elim
 |buildSlice t n ps=>
  refine sC (wJ P t n (ps.toList.map fun p:Nat×Operand=>(p.1,ρ p.2))) (fun K hK=> ?_) hc (fun _ _=>rfl);unfold wJ at hK ⊢;split at hK
  ·split at hK
   ·split at hK
    ·rename_i cs fK
     split at hK
     ·rename_i ds s7
      rw[bY]at hK;exact⟨_,hK.2,fun K' eu=>bY.2 ⟨hK.1,eu⟩⟩
     ·exact hK.elim
    ·exact hK.elim
   ·exact hK.elim
  ·exact hK.elim
 |slice t a lo hi mx=>
  refine sC (o9 P t ρ (ρ a) lo hi mx) (fun K hK=> ?_) hc (fun _ _=>rfl);unfold o9 at hK ⊢;split at hK
  ·split at hK
   ·rw[bY]at hK;obtain⟨h0,hK⟩:=hK;obtain⟨m1,hK,j1⟩:=sf hK;obtain⟨h1,hK⟩:=hK;obtain⟨m2,hK,j2⟩:=sf hK;obtain⟨h2,hK⟩:=hK;exact⟨_,hK,fun K' eu=>bY.2 ⟨h0,j1 _ ⟨h1,j2 _ ⟨h2,eu⟩⟩⟩⟩
   ·split at hK
    ·rw[bY]at hK;obtain⟨h0,hK⟩:=hK;obtain⟨m1,hK,j1⟩:=sf hK;rw[bY]at hK;obtain⟨h1,hK⟩:=hK;obtain⟨m2,hK,j2⟩:=sf hK;rw[bY]at hK;obtain⟨h2,hK⟩:=hK;exact⟨_,hK,fun K' eu=>by rw[bY];exact⟨h0,j1 _ (by rw[bY];exact⟨h1,j2 _ (by rw[bY];exact⟨h2,eu⟩)⟩)⟩⟩
    ·exact hK.elim
   ·split at hK
    ·obtain⟨h0,hK⟩:=hK;obtain⟨m1,hK,j1⟩:=sf hK;obtain⟨h1,hK⟩:=hK;obtain⟨m2,hK,j2⟩:=sf hK;obtain⟨h2,hK⟩:=hK;exact⟨_,hK,fun K' eu=>⟨h0,j1 _ ⟨h1,j2 _ ⟨h2,eu⟩⟩⟩⟩
    ·exact hK.elim
  ·split at hK
   ·split at hK
    ·obtain⟨h0,hK⟩:=hK;obtain⟨m1,hK,j1⟩:=sf hK;obtain⟨h1,hK⟩:=hK;obtain⟨m2,hK,j2⟩:=sf hK;obtain⟨h2,hK⟩:=hK;exact⟨_,hK,fun K' eu=>⟨h0,j1 _ ⟨h1,j2 _ ⟨h2,eu⟩⟩⟩⟩
    ·exact hK.elim
   ·exact hK.elim
 |extract a i=>
  simp only[cO]at hc;split at hc
  ·rename_i cs e
   split at hc
   ·rename_i c jx;exact⟨c,hc,fun h' C' dH=>by simp only[cO,e,jx];exact dH⟩
   ·exact hc.elim
  ·exact hc.elim
 |makeFunc fn first dt=>
  cases fn with
  |func f=>
   simp only[cO]at hc;split at hc
   ·rename_i e;exact⟨_,hc,fun h' C' dH=>by simp only[cO,e];exact dH⟩
   ·exact hc.elim
  |_=>exact hc.elim
 |binOp op t a b u=>
  refine sC (wq P t op (ρ a) (ρ b)) (fun K hK=> ?_) hc (fun _ _=>rfl);unfold wq at hK ⊢;split at hK
  ·split at hK
   ·rw[bY]at hK;exact⟨_,hK.2.2,fun K' eu=>bY.2 ⟨hK.1,hK.2.1,eu⟩⟩
   ·split at hK
    ·exact⟨_,hK.2,fun K' eu=>⟨hK.1,eu⟩⟩
    ·split at hK
     ·rw[bY]at hK;exact⟨_,hK.2,fun K' eu=>bY.2 ⟨hK.1,eu⟩⟩
     ·exact hK.elim
  ·split at hK
   ·exact⟨_,hK,fun K' eu=>eu⟩
   ·split at hK
    ·exact⟨_,hK.2,fun K' eu=>⟨hK.1,eu⟩⟩
    ·exact hK.elim
  ·split at hK
   ·rw[bY]at hK;exact⟨_,hK.2,fun K' eu=>bY.2 ⟨hK.1,eu⟩⟩
   ·exact hK.elim
  ·split at hK
   ·split at hK
    ·exact⟨_,hK,fun K' eu=>eu⟩
    ·exact hK.elim
   ·exact hK.elim
  ·exact hK.elim
 |unOp op t a=>
  refine sC (w5 op (ρ a)) (fun K hK=> ?_) hc (fun _ _=>rfl);unfold w5 at hK ⊢;split at hK
  ·split at hK
   ·exact⟨_,hK,fun K' eu=>eu⟩
   ·exact hK.elim
  ·exact hK.elim
 |convert t u a=>
  refine sC (qp P t u (ρ a)) (fun K hK=> ?_) hc (fun _ _=>rfl);unfold qp at hK ⊢;split at hK
  ·split at hK
   ·exact⟨_,hK,fun K' eu=>eu⟩
   ·exact hK.elim
  ·rw[bY]at hK;exact⟨_,hK.2,fun K' eu=>bY.2 ⟨hK.1,eu⟩⟩
  ·split at hK
   ·rw[bY]at hK;obtain⟨h1,ns,h2,h3⟩:=hK;exact⟨_,h3,fun K' eu=>bY.2 ⟨h1,ns,h2,eu⟩⟩
   ·exact hK.elim
 |call c=>
  simp only[cB]at hk;cases eV:c.callee with
  |value f=>cases k8:m4 f<;>simp [eV,k8]at hk
  |invoke=>simp [eV]at hk
  |builtin b=>
   cases b with
   |len=>
    simp only[cO,eV]at hc;split at hc
    ·rename_i x T e1 e2
     have key:∀F:Nat→Prop,qf P T (ρ x) F→∃m,F m∧∀F':Nat→Prop,F' m→qf P T (ρ x) F':=fun F J=>by
      unfold qf at J ⊢;split at J
      ·rw[bY]at J;exact⟨_,J.2,fun F' j6=>bY.2 ⟨J.1,j6⟩⟩
      ·rw[bY]at J;exact⟨_,J.2,fun F' j6=>bY.2 ⟨J.1,j6⟩⟩
      ·split at J
       ·rw[bY]at J;exact⟨_,J.2,fun F' j6=>bY.2 ⟨J.1,j6⟩⟩
       ·exact J.elim
     obtain⟨m,h1,h2⟩:=key _ hc;exact⟨_,h1,fun h' C' dH=>by simp only[cO,eV,e1,e2];exact h2 _ dH⟩
    ·exact hc.elim
   |max=>
    simp only[cO,eV]at hc;split at hc
    ·rename_i e1
     exact⟨_,hc,fun h' C' dH=>by simp only[cO,eV,e1];exact dH⟩
    ·exact hc.elim
   |min=>
    simp only[cO,eV]at hc;split at hc
    ·rename_i e1
     exact⟨_,hc,fun h' C' dH=>by simp only[cO,eV,e1];exact dH⟩
    ·exact hc.elim
   |_=>simp [eV]at hk
 |_=>simp [cB]at hk
theorem aav(hk:cB o=2)(hc:cO P o ρ h C):∃B,mr (some B)=none∧C (.ptr h.length 0) (h++[B])∧∀h'(C':AV→List ak→Prop),C' (.ptr h'.length 0) (h'++[B])→cO P o ρ h' C':=by
 obtain⟨dst,op,type,pos,after,guard⟩:=o;cases op with
 |alloc e=>
  simp only[cO]at hc;split at hc
  ·rename_i z hz;exact⟨_,rfl,hc,fun h' C' dH=>by simp only[cO,hz];exact dH⟩
  ·exact hc.elim
 |box e x=>
  simp only[cO]at hc;rw[bY]at hc;exact⟨_,rfl,hc.2,fun h' C' dH=>by simp only[cO];rw[bY];exact⟨hc.1,dH⟩⟩
 |call c=>
  simp only[cB]at hk;cases eV:c.callee with
  |value f=>cases k8:m4 f<;>simp [eV,k8]at hk
  |invoke=>simp [eV]at hk
  |builtin b=>cases b<;>simp [eV]at hk
 |_=>simp [cB]at hk
theorem abv(hk:cB o=3)(hc:cO P o ρ h C):∃x h1,C x h1∧g9 h h1∧∀C':AV→List ak→Prop,C' x h1→cO P o ρ h C':=by
 obtain⟨dst,op,type,pos,after,guard⟩:=o;cases op with
 |store t a b=>
  simp only[cO]at hc;have key:∀F:List ak→Prop,vg P t h (ρ a) (ρ b) F→∃h1,F h1∧g9 h h1∧∀F':List ak→Prop,F' h1→vg P t h (ρ a) (ρ b) F':=fun F J=>by
   unfold vg at J ⊢;split at J
   ·split at J
    ·next hn=>
     split at J
     ·rw[bY]at J;exact⟨_,J.2,g9.set hn rfl,fun F' j6=>bY.2 ⟨J.1,j6⟩⟩
     ·exact J.elim
    ·exact J.elim
   ·exact J.elim
  obtain⟨h1,k1,kv,k2⟩:=key _ hc;exact⟨_,h1,k1,kv,fun C' dH=>by simp only[cO];exact k2 _ dH⟩
 |makeMap t r=>
  simp only[cO]at hc;split at hc
  ·rename_i x h' p hx
   refine⟨x,h',hc.2,?_,fun C' dH=>by simp only[cO,hx];exact⟨hc.1,dH⟩⟩;unfold lq at hx;cases r with
   |none=>
    simp only at hx;split at hx
    ·cases hx;exact g9.app rfl
    ·cases hx
   |some r=>cases hx
  ·exact hc.elim
 |mapUpdate t a b c=>
  simp only[cO]at hc;split at hc
  ·rename_i x h' p hx
   refine⟨x,h',hc.2,?_,fun C' dH=>by simp only[cO,hx];exact⟨hc.1,dH⟩⟩;unfold lq at hx;simp only at hx;split at hx
   ·split at hx
    ·split at hx
     ·next hn=>
      obtain⟨hb,he⟩:=lg hx;cases he
      exact g9.set hn rfl
     ·cases hx
    ·cases hx
   ·cases hx
  ·exact hc.elim
 |call c=>
  simp only[cB]at hk;cases eV:c.callee with
  |value f=>cases k8:m4 f<;>simp [eV,k8]at hk
  |invoke=>simp [eV]at hk
  |builtin b=>cases b<;>simp [eV]at hk
 |_=>simp [cB]at hk
theorem UE{n:Nat}{e:TypeId}{k l e' k' l':Nat}(hn:h[n]?=some (.front e' k' l')):im h (h.set n (.front e k l))∧im (h.set n (.front e k l)) h:=by
 refine⟨fun m cs hm hc=> ?_,fun m cs hm hc=> ?_⟩
 ·have:n≠m:=fun e=>by subst e;rw[hn]at hm;cases hm;cases hc
  rw[ag1 this];exact hm
 ·by_cases e:n=m
  ·subst e;rw[agW (agt.1 hn).1]at hm;cases hm;cases hc
  ·rw[ag1 e]at hm;exact hm
theorem Fj{e:TypeId}{k l:Nat}:im h (h++[.front e k l])∧im (h++[.front e k l]) h:=by
 refine⟨im.app _ _,fun m cs hm hc=> ?_⟩;by_cases hl:m<h.length
 ·rw[agD hl]at hm;exact hm
 ·rw[agJ (by omega)]at hm;by_cases h0:m-h.length=0
  ·rw[h0]at hm;cases hm;cases hc
  ·rw[agZ (by simp;omega)]at hm;cases hm
theorem aeD(hk:cB o=5)(hc:cO P o ρ h C):∃x h1,C x h1∧(im h h1∧im h1 h∧g9 h h1)∧∀C':AV→List ak→Prop,C' x h1→cO P o ρ h C':=by
 obtain⟨dst,op,type,pos,after,guard⟩:=o;cases op with
 |call c=>
  simp only[cB]at hk;cases eV:c.callee with
  |value f=>cases k8:m4 f<;>simp [eV,k8]at hk
  |invoke=>simp [eV]at hk
  |builtin b=>
   cases b with
   |append=>
    simp only[cO,eV]at hc;split at hc
    ·rename_i x y T U e1 e2
     rw[bY]at hc;have afy:∀(k:Nat)(y:AV)(F:List (List D)→Prop),rD h k y F→∃ys,F ys∧∀F':List (List D)→Prop,F' ys→rD h k y F':=fun k y F J=>by
       unfold rD at J ⊢;split at J
       ·split at J
        ·split at J
         ·rw[bY]at J;exact⟨_,J.2,fun F' j6=>bY.2 ⟨J.1,j6⟩⟩
         ·exact J.elim
        ·exact J.elim
       ·split at J
        ·exact⟨_,J.2,fun F' j6=>⟨J.1,j6⟩⟩
        ·exact J.elim
     have key:∀F:AV→List ak→Prop,py P T h (ρ x) (ρ y) F→∃v h1,F v h1∧(im h h1∧im h1 h∧g9 h h1)∧∀F':AV→List ak→Prop,F' v h1→py P T h (ρ x) (ρ y) F':=fun F J=>by
      unfold py at J ⊢;split at J
      ·split at J
       ·rw[bY]at J;obtain⟨h0,J⟩:=J;obtain⟨ys,J,hs⟩:=afy _ _ _ J;split at J
        ·split at J
         ·rename_i hn
          rw[bY]at J;obtain⟨g1,g2,g3,g4,g5,g6⟩:=J;exact⟨_,_,g6,⟨(UE hn).1,(UE hn).2,g9.set hn rfl⟩,fun F' j6=>bY.2 ⟨h0,hs _ (bY.2 ⟨g1,g2,g3,g4,g5,j6⟩)⟩⟩
         ·exact J.elim
        ·obtain⟨g4,g5,g6⟩:=J;exact⟨_,_,g6,⟨Fj.1,Fj.2,g9.app rfl⟩,fun F' j6=>bY.2 ⟨h0,hs _ ⟨g4,g5,j6⟩⟩⟩
        ·obtain⟨g3,g4,g5,g6⟩:=J;exact⟨_,_,g6,⟨Fj.1,Fj.2,g9.app rfl⟩,fun F' j6=>bY.2 ⟨h0,hs _ ⟨g3,g4,g5,j6⟩⟩⟩
        ·exact J.elim
       ·exact J.elim
      ·exact J.elim
     obtain⟨v,h1,k1,c1,k2⟩:=key _ hc.2;exact⟨v,h1,k1,c1,fun C' dH=>by simp only[cO,eV,e1,e2];rw[bY];exact⟨hc.1,k2 _ dH⟩⟩
    ·exact hc.elim
   |_=>simp [eV]at hk
 |_=>simp [cB]at hk
theorem PH{m:Bool}(hY:l0 m o=false){s:St}{K:St→Prop}(hd:pj P o K s):∃x h1,eI m P o (ev s) s.h x h1∧K ((s.wh h1).put o.dst x):=by
 have km:mj m o=cB o:=by unfold mj;rw[hY];rfl
 have plain:kX P o K s→cB o≠4→cB o≠6→∃x h1,eI m P o (ev s) s.h x h1∧K ((s.wh h1).put o.dst x):=fun ha U3 u6=>by
  unfold kX at ha;by_cases h0:cB o=0
  ·obtain⟨x,h1,h2⟩:=ZR h0 ha;exact⟨x,s.h,by unfold eI;rw[km,h0];exact⟨rfl,fun h' _ C' dH=> .inl (h2 h' C' dH)⟩,h1⟩
  ·by_cases h1:cB o=1
   ·obtain⟨dst,op,type,pos,after,guard⟩:=o;cases op with
    |load t a=>
     simp only[cO]at ha;obtain⟨x,k1,k2⟩:=ab0 ha;exact⟨x,s.h,by unfold eI;rw[km,h1];exact⟨rfl,fun h' hh C' dH=> .inl (by simp only[cO];exact k2 h' hh _ dH)⟩,k1⟩
    |lookup t a b ok=>
     simp only[cO]at ha;split at ha
     ·rename_i x h' p hx
      obtain⟨rfl,k2⟩:=YW hx;exact⟨x,s.h,by unfold eI;rw[km,h1];exact⟨rfl,fun h' hh C' dH=> .inl (by simp only[cO,k2 h' hh];exact⟨ha.1,dH⟩)⟩,ha.2⟩
     ·exact ha.elim
    |call c=>
     simp only[cB]at h1;cases eV:c.callee with
     |value f=>cases k8:m4 f<;>simp [eV,k8]at h1
     |invoke=>simp [eV]at h1
     |builtin b=>cases b<;>simp [eV]at h1
    |_=>simp [cB]at h1
   ·by_cases h2:cB o=2
    ·obtain⟨B,kB,k1,k2⟩:=aav h2 ha;exact⟨_,_,by unfold eI;rw[km,h2];exact⟨B,kB,rfl,rfl,fun h' C' dH=> .inl (k2 h' C' dH)⟩,k1⟩
    ·by_cases h3:cB o=3
     ·obtain⟨x,mY,k1,kv,k2⟩:=abv h3 ha;exact⟨x,mY,by unfold eI;rw[km,h3];exact⟨kv,fun C' dH=> .inl (k2 C' dH)⟩,k1⟩
     ·by_cases h5:cB o=5
      ·obtain⟨x,mY,k1,c1,k2⟩:=aeD h5 ha;exact⟨x,mY,by unfold eI;rw[km,h5];exact⟨c1,fun C' dH=> .inl (k2 C' dH)⟩,k1⟩
      exfalso;obtain⟨dst,op,type,pos,after,guard⟩:=o;cases op with
      |call c=>
       simp only[cB]at h0 h3 U3 u6 h5;simp only[cO]at ha;cases eV:c.callee with
       |value f=>cases k8:m4 f<;>simp [eV,k8]at U3 u6
       |invoke=>simp only[eV]at ha
       |builtin b=>cases b<;>simp only[eV]at ha h0 h3 h5<;>first|exact ha|exact absurd rfl h0|exact absurd rfl h3|exact absurd rfl h5|exact h3 trivial|exact h0 trivial|exact h5 trivial
      |_=>first|exact absurd rfl h0|exact absurd rfl h1|exact absurd rfl h2|exact absurd rfl h3|exact ha
 unfold pj at hd;split at hd
 ·rename_i c eW
  split at hd
  ·rename_i f eV
   have fin:∀x:AV,(∀e,∀C':AV→List ak→Prop,C' x (s.h++e)→cO P o (ev s) (s.h++e) C')→eI m P o (ev s) s.h x s.h:=fun x hx=>by
    have hk:cB o=4∨cB o=6:=by
     unfold cB;simp only[eW,eV];cases m4 f<;>simp
    unfold eI;rw[km];rcases hk with hk|hk
    ·rw[hk];exact⟨rfl,fun e C' dH=> .inl (hx e C' dH)⟩
    ·rw[hk];refine⟨[],(agO _).symm,fun C' dH=> .inl ?_⟩;have:=hx [] C' (by rw[agO];exact dH)
     rwa [agO]at this
   split at hd
   ·rename_i g dt hg
    obtain⟨x,hK,jC⟩:=hd;refine⟨x,s.h,fin x fun e C' dH=> ?_,hK⟩;unfold cO;simp only[eW,eV,hg];exact(jC e).mono fun r' h' ⟨e1,e2⟩=>by subst e1;subst e2;exact dH
   ·rename_i q hg
    obtain⟨g,cs,rfl,x,hK,jC⟩:=hd;refine⟨x,s.h,fin x fun e C' dH=> ?_,hK⟩;unfold cO;simp only[eW,eV,hg];exact⟨g,cs,rfl,(jC e).mono fun r' h' ⟨e1,e2⟩=>by subst e1;subst e2;exact dH⟩
   ·exact hd.elim
  ·rename_i eV
   exact plain hd (by
    unfold cB;simp only[eW];cases hc:c.callee with
    |value f=>exact absurd hc (eV f)
    |invoke=>simp
    |builtin b=>cases b<;>simp) (by
    unfold cB;simp only[eW];cases hc:c.callee with
    |value f=>exact absurd hc (eV f)
    |invoke=>simp
    |builtin b=>cases b<;>simp)
 ·rename_i eW
  exact plain hd (by
   unfold cB;split<;>first|(rename_i c hc;exact(eW c hc).elim)|simp) (by
   unfold cB;split<;>first|(rename_i c hc;exact(eW c hc).elim)|simp)
theorem QT{m:Bool}{h1:List ak}{x:AV}(h0:eI m P o ρ h x h1):∀C:AV→List ak→Prop,C x h1→ja P o ρ h C:=fun C hC=>by
 unfold eI at h0;split at h0
 ·obtain⟨e,h0⟩:=h0;subst e;exact h0 _ (ig.refl _) _ hC
 ·obtain⟨e,h0⟩:=h0;subst e;exact h0 _ (im.refl _) _ hC
 ·obtain⟨B,_,rfl,rfl,h0⟩:=h0;exact h0 _ _ hC
 ·exact h0.2 _ hC
 ·obtain⟨e,h0⟩:=h0;subst e;have:=h0 [] C (by rw[agO];exact hC)
  rwa [agO]at this
 ·exact h0.2 _ hC
 ·obtain⟨e0,_,h0⟩:=h0;exact h0 _ hC
 ·exact h0 _ hC
 ·exact h0.elim
theorem GC{m:Bool}{s:St}{K:St→Prop}(hd:oC m P o K s):∃x h1,eI m P o (ev s) s.h x h1∧K ((s.wh h1).put o.dst x):=by
 cases hY:l0 m o with
 |true=>
  have k7:mj m o=7:=by unfold mj;rw[hY];rfl
  rcases hd with hd|⟨_,x,h1,hK,hc⟩|⟨hv,_⟩|⟨_,x,e0,hK,hc⟩
  ·obtain⟨x,h1,h2,hK⟩:=PH (m:=false) rfl hd;refine⟨x,h1,?_,hK⟩;have:=QT h2;unfold eI;rw[k7];exact this
  ·exact⟨x,h1,by unfold eI;rw[k7];exact fun C hC=> .inl (hc C hC),hK⟩
  ·exfalso;unfold l0 at hY;rw[agv]at hY;unfold ie at hv;have hY:=hY.2;split at hY
   ·next c e=>
    rw[e]at hv;split at hY
    ·next f e2=>simp only[e2]at hv;cases hv
    ·cases hY
   ·cases hY
  ·exact⟨x,_,by unfold eI;rw[k7];exact fun C hC=> .inl (hc C hC),hK⟩
 |false=>
 have km:mj m o=cB o:=by unfold mj;rw[hY];rfl
 rcases hd with hd|⟨hb,_⟩|⟨hv,a,x,h',p,hx,hp,hK⟩|⟨hk,x,e0,hK,hc⟩
 ·exact PH hY hd
 ·rw[hY]at hb;cases hb
 ·have hk:cB o=0∨cB o=1∨cB o=3:=by
   unfold ie at hv;unfold cB;split at hv
   all_goals first|(next e=>simp only[e];simp)|skip
   ·next c e=>
    split at hv
    ·next e2=>simp only[e,e2];simp
    ·cases hv
   ·cases hv
  rcases hk with hk|hk|hk
  ·obtain⟨rfl,h2⟩:=Y6 hv hk hx hp;refine⟨x,_,?_,hK⟩;unfold eI;rw[km,hk];exact⟨rfl,fun h' hh C hC=> .inr ⟨hv,a,x,h',by obtain⟨p',q1,q2⟩:=h2 h' hh;exact⟨p',q1,q2,hC⟩⟩⟩
  ·obtain⟨rfl,h2⟩:=aeF hv hk hx hp;refine⟨x,_,?_,hK⟩;unfold eI;rw[km,hk];exact⟨rfl,fun h' hh C hC=> .inr ⟨hv,a,x,h',by obtain⟨p',q1,q2⟩:=h2 h' hh;exact⟨p',q1,q2,hC⟩⟩⟩
  ·refine⟨x,h',?_,hK⟩;unfold eI;rw[km,hk];exact⟨acp hv hk hx hp,fun C hC=> .inr ⟨hv,a,x,h',p,hx,hp,hC⟩⟩
 ·refine⟨x,_,?_,hK⟩;unfold eI;rw[km,hk];exact⟨e0,rfl,fun C hC=> .inl (hc C hC)⟩
end
structure iB(s s':St):Prop where
 n:s.n=s'.n
 h:s.h=s'.h
 t:∀i,bz s.t i=bz s'.t i
theorem iB.refl(s:St):iB s s:=⟨rfl,rfl,fun _=>rfl⟩
theorem iB.symm{s s':St}(h:iB s s'):iB s' s:=⟨h.n.symm,h.h.symm,fun i=>(h.t i).symm⟩
theorem iB.trans{a b c:St}(h:iB a b)(k:iB b c):iB a c:=⟨h.n.trans k.n,h.h.trans k.h,fun i=>(h.t i).trans (k.t i)⟩
theorem pN(s:St)(d:Option Nat)(x:AV)(i:Nat):bz (s.put d x).t i=if d=some i∧i<s.n then x else bz s.t i:=by
 cases d with
 |none=>simp [St.put]
 |some k=>
  by_cases hk:k<s.n
  ·rw[pD hk,jX];by_cases hi:i=k
   ·subst hi;simp [hk]
   ·rw[if_neg hi,if_neg (by simp;intro e;exact absurd e.symm hi)]
  ·rw[Bm hk];rw[if_neg (by rintro⟨e,aO⟩;cases e;exact hk aO)]
theorem om(s:St)(d:Option Nat)(x:AV):(s.put d x).n=s.n:=by
 cases d with
 |none=>rfl
 |some k=>
  by_cases hk:k<s.n
  ·rw[pD hk]
  ·rw[Bm hk]
theorem kC(s:St)(d:Option Nat)(x:AV):(s.put d x).h=s.h:=by
 cases d with
 |none=>rfl
 |some k=>
  by_cases hk:k<s.n
  ·rw[pD hk]
  ·rw[Bm hk]
theorem iB.put{s s':St}(h:iB s s')(h1:List ak)(d:Option Nat)(x:AV):iB ((s.wh h1).put d x) ((s'.wh h1).put d x):=
 ⟨by rw[om,om];exact h.n,by rw[kC,kC];rfl,fun i=>by
  rw[pN,pN];show(if d=some i∧i<s.n then x else bz s.t i)=(if d=some i∧i<s'.n then x else bz s'.t i);rw[h.n,h.t]⟩
theorem acN(s:St)(h1 mY h2:List ak){d d':Option Nat}(x x':AV)(da:∀k,d=some k→d'≠some k):iB ((((s.wh h1).put d x).wh h2).put d' x') ((((s.wh mY).put d' x').wh h2).put d x):=by
 refine⟨by simp only[om];show((s.wh h1).put d x).n=((s.wh mY).put d' x').n;simp only[om];rfl,by simp only[kC];rfl,fun i=> ?_⟩;rw[pN,pN];show(if d'=some i∧i<((s.wh h1).put d x).n then x' else bz ((s.wh h1).put d x).t i)=(if d=some i∧i<((s.wh mY).put d' x').n then x else bz ((s.wh mY).put d' x').t i);rw[om,om,pN,pN];show(if d'=some i∧i<s.n then x' else(if d=some i∧i<s.n then x else bz s.t i))=(if d=some i∧i<s.n then x else(if d'=some i∧i<s.n then x' else bz s.t i));by_cases a:d=some i
 ·have:=da i a;simp [a,this]
 ·simp [a]
section
variable {P:Program} {ops:Array Oper}
def kY(m:Bool)(P:Program)(ops:Array Oper)(o:Oper)(s:St)(x:AV)(h1:List ak):Prop:=
 (gM ops o s True False∧eI m P o (ev s) s.h x h1)∨(gM ops o s False True∧x= .d (.v undef)∧h1=s.h)
theorem Gl{o:Oper}{s:St}{yes no:Prop}(h:gM ops o s yes no):(gM ops o s True False∧yes)∨(gM ops o s False True∧no):=by
 unfold gM at h ⊢;split at h
 ·exact .inl ⟨trivial,h⟩
 ·rename_i j want hg
  split at h
  ·rename_i d hd
   split at h
   ·rename_i b hb
    by_cases m7:b=want
    ·exact .inl ⟨⟨fun _=>trivial,fun e=>by subst m7;cases b<;>cases e⟩,h.1 m7⟩
    ·have hbn:b= !want:=by cases b<;>cases want<;>simp_all
     exact .inr ⟨⟨fun e=>(m7 e).elim,fun _=>trivial⟩,h.2 hbn⟩
   ·exact .inr ⟨trivial,h⟩
   ·exact h.elim
  ·exact h.elim
theorem AG{o:Oper}{s s':St}{yes no:Prop}(ht:∀d,d∈o.looksAt ops→bz s'.t d=bz s.t d)(h:gM ops o s yes no):gM ops o s' yes no:=by
 unfold gM at h ⊢;split at h
 ·exact h
 ·rename_i j want hg
  split at h
  ·rename_i d hd
   have:bz s'.t d=bz s.t d:=ht d (by unfold Oper.looksAt;rw[hg];simp [hd]);rw[this];exact h
  ·exact h.elim
theorem JI{m:Bool}{o:Oper}{s s':St}{x:AV}{h1:List ak}(ht:∀d,d∈o.looksAt ops→bz s'.t d=bz s.t d)(hh:s'.h=s.h)(h:kY m P ops o s x h1):kY m P ops o s' x h1:=by
 have dz:∀y∈o.op.operands,ev s y=ev s' y:=fun y hy=>by
  cases y with
  |tmp t=>exact(ht t (by unfold Oper.looksAt;refine ag5.2 (.inl (List.mem_filterMap.2 ⟨.tmp t,Array.mem_toList_iff.2 hy,rfl⟩)))).symm
  |_=>rfl
 rcases h with⟨g,hc⟩|⟨g,e1,e2⟩
 ·refine .inl ⟨AG ht g,?_⟩;rw[hh];have sY:∀h C,ja P o (ev s) h C=ja P o (ev s') h C:=fun h C=>Lk dz;unfold eI at hc ⊢;split at hc
  ·exact⟨hc.1,fun h' hh C hC=>sY h' C▸hc.2 h' hh C hC⟩
  ·exact⟨hc.1,fun h' hh C hC=>sY _ C▸hc.2 h' hh C hC⟩
  ·obtain⟨B,kB,a,b,c⟩:=hc;exact⟨B,kB,a,b,fun h' C hC=>sY h' C▸c h' C hC⟩
  ·exact⟨hc.1,fun C hC=>sY _ C▸hc.2 C hC⟩
  ·exact⟨hc.1,fun e C hC=>sY _ C▸hc.2 e C hC⟩
  ·exact⟨hc.1,fun C hC=>sY _ C▸hc.2 C hC⟩
  ·obtain⟨e0,a,b⟩:=hc;exact⟨e0,a,fun C hC=>sY _ C▸b C hC⟩
  ·exact fun C hC=>sY _ C▸hc C hC
  ·exact hc.elim
 ·exact .inr ⟨AG ht g,e1,e2.trans hh.symm⟩
theorem M0{o:Oper}(h:cB o=7):False:=by
 unfold cB at h
 repeat' (first|(split at h)|cases h)
 all_goals (cases hg:m4 _<;>rw[hg]at h<;>cases h)
theorem X5{m:Bool}{o:Oper}{ρ:Operand→AV}{h h1:List ak}{x:AV}(h7:l0 m o=false)(h0:eI m P o ρ h x h1):ig h h1:=by
 unfold eI at h0;unfold mj at h0;rw[h7]at h0;simp only[cond_false]at h0;split at h0
 ·rw[h0.1];exact ig.refl _
 ·rw[h0.1];exact ig.refl _
 ·obtain⟨B,kB,_,e,_⟩:=h0;rw[e];exact(g9.app kB).i
 ·exact h0.1.i
 ·rw[h0.1];exact ig.refl _
 ·exact h0.1.2.2.i
 ·obtain⟨e0,e,_⟩:=h0;rw[e];exact ig.app _ _
 ·next e=>exact(M0 e).elim
 ·exact h0.elim
theorem ZS{m:Bool}{o:Oper}{ρ:Operand→AV}{h h1:List ak}{x:AV}(h7:l0 m o=false)(hk:cB o≠6)(h0:eI m P o ρ h x h1):ig h1 h:=by
 unfold eI at h0;unfold mj at h0;rw[h7]at h0;simp only[cond_false]at h0;split at h0
 ·rw[h0.1];exact ig.refl _
 ·rw[h0.1];exact ig.refl _
 ·obtain⟨B,kB,_,e,_⟩:=h0;rw[e];exact(g9.app kB).j
 ·exact h0.1.j
 ·rw[h0.1];exact ig.refl _
 ·exact h0.1.2.2.j
 ·next e=>exact(hk e).elim
 ·next e=>exact(M0 e).elim
 ·exact h0.elim
def yE(m:Bool)(a b:Oper):Bool:= !l0 m a&& !l0 m b&&(cB a==0||(cB b==0&& !(cB a==6))||((cB a==1||cB a==4)&&(cB b==1||cB b==4||cB b==2||cB b==6))||(cB a==1&&cB b==5)||(cB a==5&&cB b==1))
theorem af4{m:Bool}{oi oj:Oper}{s:St}{xi xj:AV}{hi hj:List ak}(EW:oi.apart ops oj=true)(kP:yE m oi oj=true)(h1:kY m P ops oi s xi hi)(h2:kY m P ops oj ((s.wh hi).put oi.dst xi) xj hj):
 ∃ib,kY m P ops oj s xj ib∧kY m P ops oi ((s.wh ib).put oj.dst xj) xi hj:=by
 obtain⟨a1,a2,a3⟩:=Oper.apart_spec EW;unfold yE at kP;rw[agv,agv,Bool.not_eq_true',Bool.not_eq_true']at kP;obtain⟨⟨li,lj⟩,kP⟩:=kP;have nD:mj m oi=cB oi:=by unfold mj;rw[li];rfl
 have rf:mj m oj=cB oj:=by unfold mj;rw[lj];rfl
 have tj:∀d,d∈oj.looksAt ops→bz s.t d=bz ((s.wh hi).put oi.dst xi).t d:=fun d hd=>by
  rw[pN,if_neg (fun e=>a1 d e.1 hd)];rfl
 have ti:∀(h':List ak) d,d∈oi.looksAt ops→bz ((s.wh h').put oj.dst xj).t d=bz s.t d:=fun h' d hd=>by
  rw[pN,if_neg (fun e=>a3 d e.1 hd)];rfl
 have eX:((s.wh hi).put oi.dst xi).h=hi:=by rw[kC];rfl
 have qd:∀h',((s.wh h').put oj.dst xj).h=h':=fun h'=>by rw[kC];rfl
 have same:hi=s.h→kY m P ops oj s xj hj:=fun e=>JI tj (by rw[eX,e]) h2;have evi:∀h',∀y∈oi.op.operands,ev ((s.wh h').put oj.dst xj) y=ev s y:=fun h' y hy=>by
  cases y with
  |tmp t=>exact ti h' t (by unfold Oper.looksAt;refine ag5.2 (.inl (List.mem_filterMap.2 ⟨.tmp t,Array.mem_toList_iff.2 hy,rfl⟩)))
  |_=>rfl
 have Xh:∀y∈oj.op.operands,ev ((s.wh hi).put oi.dst xi) y=ev s y:=fun y hy=>by
  cases y with
  |tmp t=>exact(tj t (by unfold Oper.looksAt;refine ag5.2 (.inl (List.mem_filterMap.2 ⟨.tmp t,Array.mem_toList_iff.2 hy,rfl⟩)))).symm
  |_=>rfl
 have ci:∀h' h C,ja P oi (ev ((s.wh h').put oj.dst xj)) h C=ja P oi (ev s) h C:=fun h' h C=>Lk (evi h');have cj:∀h C,ja P oj (ev ((s.wh hi).put oi.dst xi)) h C=ja P oj (ev s) h C:=fun h C=>Lk Xh;rcases h1 with⟨g1,o1⟩|⟨g1,e1,e2⟩
 ·rcases h2 with⟨g2,o2⟩|⟨g2,f1,f2⟩
  ·
   have BR:∀h',gM ops oi ((s.wh h').put oj.dst xj) True False:=fun h'=>AG (ti h') g1;have Se:gM ops oj s True False:=AG tj g2;by_cases k0:cB oi=0
   ·unfold eI at o1;rw[nD,k0]at o1;simp only at o1;obtain⟨e,o1⟩:=o1;refine⟨hj,same e, .inl ⟨BR hj,?_⟩⟩;unfold eI;rw[nD,k0];have hv:ig s.h hj:=by
     have:=X5 lj o2;rw[eX,e]at this;exact this
    exact⟨(qd hj).symm,fun h' hh C hC=>by rw[qd]at hh;rw[ci];exact o1 h' (hv.trans hh) C hC⟩
   ·by_cases k1:cB oj=0
    ·unfold eI at o2;rw[rf,k1]at o2;simp only at o2;obtain⟨e,o2⟩:=o2;rw[eX]at e o2;have k6:cB oi≠6:=fun k6=>by
      simp [k6,k1]at kP
     have hv:=ZS li k6 o1;refine⟨s.h, .inl ⟨Se,?_⟩, .inl ⟨BR s.h,?_⟩⟩
     ·unfold eI;rw[rf,k1];exact⟨rfl,fun h' hh C hC=>by rw[←cj];exact o2 h' (hv.trans hh) C hC⟩
     ·rw[e];unfold eI at o1 ⊢;rw[qd];simp only[ci];exact o1
    ·by_cases P9:cB oi=1∧cB oj=5
     ·obtain⟨ka,kb⟩:=P9;unfold eI at o1 o2;rw[nD,ka]at o1;rw[rf,kb]at o2;simp only at o1 o2;obtain⟨e,o1⟩:=o1;obtain⟨⟨c1,c2,_⟩,o2⟩:=o2;rw[eX,e]at c1 c2;refine⟨hj,same e, .inl ⟨BR hj,?_⟩⟩;unfold eI;rw[nD,ka];simp only;refine⟨(qd hj).symm,fun h' hh C hC=> ?_⟩;rw[qd]at hh;rw[ci];exact o1 h' (fun n cs hn hq=>hh n cs (c1 n cs hn hq) hq) C hC
     by_cases NP:cB oi=5∧cB oj=1
     ·obtain⟨ka,kb⟩:=NP;unfold eI at o1 o2;rw[nD,ka]at o1;rw[rf,kb]at o2;simp only at o1 o2;obtain⟨⟨c1,c2,c3⟩,o1⟩:=o1;obtain⟨e,o2⟩:=o2;rw[eX]at e o2;refine⟨s.h, .inl ⟨Se,?_⟩, .inl ⟨BR s.h,?_⟩⟩
      ·unfold eI;rw[rf,kb];simp only;exact⟨trivial,fun h' hh C hC=>by rw[←cj];exact o2 h' (fun n cs hn hq=>hh n cs (c2 n cs hn hq) hq) C hC⟩
      ·rw[e];unfold eI;rw[nD,ka];simp only;rw[qd];exact⟨⟨c1,c2,c3⟩,fun C hC=>by rw[ci];exact o1 C hC⟩
     have hc:(cB oi=1∨cB oi=4)∧(cB oj=1∨cB oj=4∨cB oj=2∨cB oj=6):=by
      simp only[Bool.or_eq_true,agv,beq_iff_eq,k0,k1,false_or,false_and]at kP;rcases kP with(kP|kP)|kP
      ·refine⟨kP.1,?_⟩;rcases kP.2 with((h|h)|h)|h
       ·exact .inl h
       ·exact .inr (.inl h)
       ·exact .inr (.inr (.inl h))
       ·exact .inr (.inr (.inr h))
      ·exact absurd kP P9
      ·exact absurd kP NP
     have q1:hi=s.h∧∀e(C:AV→List ak→Prop),C xi (s.h++e)→ja P oi (ev s) (s.h++e) C:=by
      unfold eI at o1;rcases hc.1 with k|k
      ·rw[nD,k]at o1;exact⟨o1.1,fun e C hC=>o1.2 _ (im.app _ _) C hC⟩
      ·rw[nD,k]at o1;exact o1
     have q2:∃e0,hj=s.h++e0:=by
      have q9:=o2;unfold eI at q9;rcases hc.2 with k|k|k|k
      ·rw[rf,k]at q9;exact⟨[],by rw[q9.1,eX,q1.1,agO]⟩
      ·rw[rf,k]at q9;exact⟨[],by rw[q9.1,eX,q1.1,agO]⟩
      ·rw[rf,k]at q9;obtain⟨B,_,_,b,_⟩:=q9;exact⟨[B],by rw[b,eX,q1.1]⟩
      ·rw[rf,k]at q9;obtain⟨e0,b,_⟩:=q9;exact⟨e0,by rw[b,eX,q1.1]⟩
     obtain⟨e0,Cc⟩:=q2;refine⟨hj,same q1.1, .inl ⟨BR hj,?_⟩⟩;have:∀e(C:AV→List ak→Prop),C xi (hj++e)→ja P oi (ev ((s.wh hj).put oj.dst xj)) (hj++e) C:=fun e C hC=>by
      rw[ci,Cc,agK];rw[Cc,agK]at hC;exact q1.2 _ C hC
     unfold eI;rw[qd];rcases hc.1 with k|k
     ·rw[nD,k];simp only;refine⟨trivial,fun h' hh C hC=> ?_⟩;rw[ci];unfold eI at o1;rw[nD,k]at o1;exact o1.2 h' (fun n cs hn hq=>hh n cs (by rw[Cc];exact im.app _ _ n cs hn hq) hq) C hC
     ·rw[nD,k];exact⟨rfl,this⟩
  ·
   subst f1;rw[eX]at f2;refine⟨s.h, .inr ⟨AG tj g2,rfl,rfl⟩,?_⟩;rw[f2];exact JI (ti s.h) (by rw[qd]) (.inl ⟨g1,o1⟩)
 ·
  subst e1;refine⟨hj,same e2, .inr ⟨AG (ti hj) g1,rfl,(qd hj).symm⟩⟩
def rT(K:St→Prop):Prop:=∀s s',iB s s'→K s→K s'
def ly(m:Bool)(P:Program)(ops:Array Oper)(K:St→Prop):Nat→Array Bool→St→Prop
 |0,listed,s=>Region.ready .any ops listed=[]∧K s
 |fuel+1,listed,s=>
  (Region.ready .any ops listed=[]→K s)∧
  ∀i∈Region.ready .any ops listed,∀o,ops[i]?=some o→∃x h1,kY m P ops o s x h1∧ly m P ops K fuel (listed.setIfInBounds i true) ((s.wh h1).put o.dst x)
theorem Pg{m:Bool}{K:St→Prop}(hK:rT K):∀(fuel:Nat)(listed:Array Bool)(s s':St),iB s s'→ly m P ops K fuel listed s→ly m P ops K fuel listed s'
 |0,_,s,s',hs,h=>⟨h.1,hK s s' hs h.2⟩
 |fuel+1,_,s,s',hs,h=>⟨fun h0=>hK s s' hs (h.1 h0),fun i hi o ho=>by
  obtain⟨x,h1,h2,h3⟩:=h.2 i hi o ho;exact⟨x,h1,JI (fun d _=>(hs.t d).symm) hs.h.symm h2,Pg hK fuel _ _ _ (hs.put h1 o.dst x) h3⟩⟩
def nQ(M:Array Nat)(ops:Array Oper):Bool:=
 (List.range ops.size).all fun j=>(List.range ops.size).all fun i=> !(M.getD j 0).testBit i||match ops[j]? with
  |some o=>o.after.any fun e=>Region.binds .any e&&decide (e.on<j)&&(e.on==i||(M.getD e.on 0).testBit i)
  |none=>false
def Dn(ops:Array Oper)(listed:Array Bool):Prop:=∀(j:Nat)(o:Oper),ops[j]?=some o→listed.getD j false=true→∀e∈o.after,Region.binds .any e=true→listed.getD e.on false=true
theorem YZ{M:Array Nat}(hM:nQ M ops=true){listed:Array Bool}(hD:Dn ops listed):∀(j i:Nat)(o:Oper),i<ops.size→ops[j]?=some o→(∀e∈o.after,Region.binds .any e=true→listed.getD e.on false=true)→(M.getD j 0).testBit i=true→listed.getD i false=true:=by
 intro j
 induction j using Nat.strongRecOn with
 |_ j ih=>
  intro i o hi ho hp hb;unfold nQ at hM;simp only[agT,List.mem_range]at hM;have h1:=hM j (agI.1 ho).1 i hi;rw[hb,ho]at h1;simp only[Bool.not_true,Bool.false_or]at h1;rw[Array.any_eq_true']at h1;obtain⟨e,he,h2⟩:=h1;simp only[agv,decide_eq_true_eq,Bool.or_eq_true,beq_iff_eq]at h2;obtain⟨⟨Jy,aO⟩,h3⟩:=h2;have hl:=hp e he Jy;rcases h3 with h3|h3
  ·rw[←h3];exact hl
  ·have Ht:e.on<ops.size:=Nat.lt_trans aO (agI.1 ho).1;exact ih e.on aO i ops[e.on] hi (agP Ht) (hD e.on _ (agP Ht) hl) h3
theorem Dn.set{listed:Array Bool}(hD:Dn ops listed){i:Nat}(hr:i∈Region.ready .any ops listed):Dn ops (listed.setIfInBounds i true):=by
 intro j o ho hj e he hb;refine getD_set_true ?_;by_cases nq:i=j
 ·subst nq;obtain⟨_,o',CR,eZ⟩:=mem_ready.1 hr;rw[ho]at CR;cases CR;exact eZ e he hb
 ·rw[getD_set_ne false nq]at hj;exact hD j o ho hj e he hb
theorem F9{m:Bool}{K:St→Prop}(hK:rT K){M:Array Nat}(hM:nQ M ops=true){i:Nat}{oi:Oper}{x:AV}{h1:List ak}(hi:ops[i]?=some oi):
 ∀(fuel:Nat)(listed:Array Bool)(s:St),Dn ops listed→
  (∀j oj,ops[j]?=some oj→j≠i→listed.getD j true=false→(M.getD j 0).testBit i=false→oi.apart ops oj=true∧yE m oi oj=true)→
  i∈Region.ready .any ops listed→kY m P ops oi s x h1→ly m P ops K fuel (listed.setIfInBounds i true) ((s.wh h1).put oi.dst x)→ly m P ops K (fuel+1) listed s:=by
 intro fuel
 induction fuel generalizing x h1 with
 |zero=>
  intro listed s _ _ hr hy H;refine⟨fun h=>(by rw[h]at hr;cases hr),fun j hj o ho=> ?_⟩;by_cases n9:j=i
  ·subst n9;rw[hi]at ho;cases ho;exact⟨x,h1,hy,H⟩
  ·have:=ready_mono hj n9;rw[H.1]at this;cases this
 |succ fuel ih=>
  intro listed s hD Ok hr hy H;refine⟨fun h=>(by rw[h]at hr;cases hr),fun j hj oj zO=> ?_⟩;by_cases n9:j=i
  ·subst n9;rw[hi]at zO;cases zO;exact⟨x,h1,hy,H⟩
  ·obtain⟨xj,ZO,Kq,H2⟩:=H.2 j (ready_mono hj n9) oj zO;obtain⟨SB,oj',QK,eZ⟩:=mem_ready.1 hj;rw[zO]at QK;cases QK;have Kh:=(agI.1 hi).1;have nc:listed.getD i false=false:=by
    have h0:=(mem_ready.1 hr).1;rcases Nat.lt_or_ge i listed.size with h'|h'
    ·simpa [h']using h0
    ·simp [Array.getElem?_eq_none h']at h0
   have jK:(M.getD j 0).testBit i=false:=by
    cases hb:(M.getD j 0).testBit i with
    |false=>rfl
    |true=>rw[YZ hM hD j i oj Kh zO eZ hb]at nc;cases nc
   obtain⟨EW,kP⟩:=Ok j oj zO n9 SB jK;obtain⟨ib,s1,s2⟩:=af4 EW kP hy Kq;obtain⟨_,a2,_⟩:=Oper.apart_spec EW;refine⟨xj,ib,s1,ih (listed.setIfInBounds j true) _ (hD.set hj) (fun k ok hk Iw Ps qS=> ?_) (ready_mono hr (Ne.symm n9)) s2 ?_⟩
   ·refine Ok k ok hk Iw ?_ qS;by_cases Fy:j=k
    ·subst Fy;exact SB
    ·rw[getD_set_ne true Fy]at Ps;exact Ps
   ·rw[Array.setIfInBounds_comm _ _ n9];exact Pg hK _ _ _ _ (acN s h1 ib ZO x xj (fun k hk=>a2 k hk)) H2
def Rn(M:Array Nat)(ops:Array Oper)(k:Nat):Bool:=
 match ops[k]? with
 |none=>false
 |some oi=>(List.range ops.size).all fun j=>decide (j≤k)||(M.getD j 0).testBit k||match ops[j]? with
  |some oj=>oi.apart ops oj&&yE false oi oj
  |none=>true
def BW(M:Array Nat)(ops:Array Oper):Nat→Nat→Array Bool→Bool
 |0,_,listed=>(Region.ready .any ops listed).isEmpty
 |fuel+1,k,listed=>(Region.ready .any ops listed).contains k&&Rn M ops k&&BW M ops fuel (k+1) (listed.setIfInBounds k true)
def mi(ops:Array Oper):Bool:=nQ (Region.before ops) ops&&BW (Region.before ops) ops ops.size 0 (Array.replicate ops.size false)
theorem Si{K K':St→Prop}(hK:rT K')(A7:∀s,K s→K' s){M:Array Nat}(hM:nQ M ops=true):∀(l:List Oper)(k:Nat)(listed:Array Bool)(s:St),(∀j,l[j]?=ops[k+j]?)→(∀j,j<k→listed.getD j true=true)→Dn ops listed→
 BW M ops l.length k listed=true→Cw P ops l K s→ly false P ops K' l.length listed s
 |[],_,_,_,_,_,_,hB,h=>⟨by simpa [BW]using hB,A7 _ h⟩
 |o::l,k,listed,s,hl,nI,hD,hB,h=>by
  have h0:ops[k]?=some o:=by simpa using (hl 0).symm
  simp only[agw,BW,agv]at hB;obtain⟨⟨hr,hf⟩,eF⟩:=hB;have l5:k∈Region.ready .any ops listed:=by simpa using hr
  have nv:∀j,l[j]?=ops[k+1+j]?:=fun j=>by have:=hl (j+1);simpa [Nat.add_assoc,Nat.add_comm 1 j]using this
  have VJ:∀j,j<k+1→(listed.setIfInBounds k true).getD j true=true:=fun j hj=>by
   by_cases e:k=j
   ·subst e;rcases Nat.lt_or_ge k listed.size with h'|h'
    ·simp [h']
    ·have:(listed.setIfInBounds k true)[k]?=none:=Array.getElem?_eq_none (by simpa using h');rw[Array.getD_eq_getD_getElem?,this];rfl
   ·rw[getD_set_ne true e];exact nI j (by omega)
  obtain⟨x,h1,hy,zY⟩:∃x h1,kY false P ops o s x h1∧Cw P ops l K ((s.wh h1).put o.dst x):=by
   rcases Gl h with⟨g,hd⟩|⟨g,hd⟩
   ·obtain⟨x,h1,h2,h3⟩:=GC hd;exact⟨x,h1, .inl ⟨g,h2⟩,h3⟩
   ·exact⟨_,s.h, .inr ⟨g,rfl,rfl⟩,hd⟩
  refine F9 hK hM h0 l.length listed s hD (fun j oj hj da nc qS=> ?_) l5 hy (Si hK A7 hM l (k+1) _ _ nv VJ (hD.set l5) eF zY);unfold Rn at hf;rw[h0]at hf;simp only[agT,List.mem_range]at hf;have:=hf j (agI.1 hj).1;rw[qS,hj]at this;simp only[Bool.or_false,Bool.or_eq_true,agv,decide_eq_true_eq]at this;rcases this with this|this
  ·exfalso;have:=nI j (by omega);rw[this]at nc;cases nc
  ·exact this
def AJ(ops:Array Oper):Nat→Array Bool→List Nat
 |0,_=>[]
 |f+1,listed=>match (Region.ready .any ops listed).find? (fun k=>match ops[k]? with|some o=> !(cB o==6)&& !l0 true o|none=>false)with
  |some k=>k::AJ ops f (listed.setIfInBounds k true)
  |none=>match Region.ready .any ops listed with
   |k::_=>k::AJ ops f (listed.setIfInBounds k true)
   |[]=>[]
def Et(m:Bool)(M:Array Nat)(ops:Array Oper):List Nat→Array Bool→Bool
 |[],listed=>(Region.ready .any ops listed).isEmpty
 |k::l,listed=>(Region.ready .any ops listed).contains k&&(match ops[k]? with
  |none=>false
  |some oi=>(List.range ops.size).all fun j=>j==k||listed.getD j true||(M.getD j 0).testBit k||match ops[j]? with
   |some oj=>oi.apart ops oj&&yE m oi oj
   |none=>true)&&Et m M ops l (listed.setIfInBounds k true)
def Eh(m:Bool)(ops:Array Oper)(p:List Nat):Bool:=nQ (Region.before ops) ops&&Et m (Region.before ops) ops p (Array.replicate ops.size false)
def oH(ops:Array Oper):List Nat→List Oper
 |[]=>[]
 |k::l=>match ops[k]? with
  |some o=>o::oH ops l
  |none=>oH ops l
theorem P2{m:Bool}{K K':St→Prop}(hK:rT K')(A7:∀s,K s→K' s){M:Array Nat}(hM:nQ M ops=true):∀(l:List Nat)(listed:Array Bool)(s:St),Dn ops listed→
 Et m M ops l listed=true→po m P ops (oH ops l) K s→ly m P ops K' l.length listed s
 |[],_,_,_,hB,h=>⟨by simpa [Et]using hB,A7 _ h⟩
 |k::l,listed,s,hD,hB,h=>by
  simp only[Et,agv]at hB;obtain⟨⟨hr,hf⟩,eF⟩:=hB;have l5:k∈Region.ready .any ops listed:=by simpa using hr
  obtain⟨_,o,h0,_⟩:=mem_ready.1 l5;rw[h0]at hf;simp only[agT,List.mem_range]at hf;simp only[oH,h0]at h;obtain⟨x,h1,hy,zY⟩:∃x h1,kY m P ops o s x h1∧po m P ops (oH ops l) K ((s.wh h1).put o.dst x):=by
   rcases Gl h with⟨g,hd⟩|⟨g,hd⟩
   ·obtain⟨x,h1,h2,h3⟩:=GC hd;exact⟨x,h1, .inl ⟨g,h2⟩,h3⟩
   ·exact⟨_,s.h, .inr ⟨g,rfl,rfl⟩,hd⟩
  refine F9 hK hM h0 l.length listed s hD (fun j oj hj da nc qS=> ?_) l5 hy (P2 hK A7 hM l _ _ (hD.set l5) eF zY);have:=hf j (agI.1 hj).1;rw[qS,nc,hj]at this;simp only[Bool.or_false,Bool.or_eq_true,agv,beq_iff_eq]at this;rcases this with this|this
  ·exact absurd this da
  ·exact this
end
section
variable {P:Program} {r:Option Nat} {n N0:Nat} {G:Gh} {w:World} {a:Act} {s:St} {o:Oper} {Q:Exit→St→Prop}
theorem c7.drew(hs:c7 G w a s):bZ G.N G w G {w with drawn:=w.drawn+1}∧c7 G {w with drawn:=w.drawn+1} a s:=by
 have hE:bZ G.N G w G {w with drawn:=w.drawn+1}:=⟨agE _,fun _ _ h=>h,fun _ _ _=>rfl,fun _ _=>rfl,fun _ _=> .inl ⟨rfl,rfl⟩,gq rfl,fun _ _=>rfl,rfl,rfl,rfl,fun _ _ h=> .inl h⟩;have hi:cf G {w with drawn:=w.drawn+1} s.h:=⟨hs.inv.len,hs.inv.z,hs.inv.S,fun n B hB=>eB.ba (hs.inv.lt hB) hE (agE _) ⟨rfl,rfl,rfl⟩ (fun _ _=>⟨rfl,fun _ h=>h⟩) (hs.inv.dp n B hB),hs.inv.inj,hs.inv.gl.ba hE⟩;exact⟨hE,hs.move hE (agE _) hi⟩
theorem V8{m:Bool}{x:AV}{h1:List ak}(h:eI m P o (ev s) s.h x h1):ja P o (ev s) s.h (fun x' h'=>(s.wh h').put o.dst x'=(s.wh h1).put o.dst x):=QT h _ rfl
theorem BM{m:Bool}{ops:Array Oper}{K:St→Prop}{Q':Exit→Act→World→Prop}(hQ:∀a' w',iq N0 G w K a' w'→Q' .normal a' w'):∀(fuel:Nat)(listed:Array Bool)(G1:Gh)(w1:World)(a:Act)(s:St),
 bZ N0 G w G1 w1→N0≤G1.N→c7 G1 w1 a s→ly m P ops K fuel listed s→wpAnyIn (WF r) n P .any ops Q' fuel listed a w1
 |0,_,G1,w1,a,s,hE,hN,hs,h=>⟨h.1,hQ _ _ ⟨G1,s,hE,hN,hs,h.2⟩⟩
 |fuel+1,listed,G1,w1,a,s,hE,hN,hs,h=>by
  refine⟨fun h0=>hQ _ _ ⟨G1,s,hE,hN,hs,h.1 h0⟩,fun i hi=> ?_⟩;obtain⟨_,o,ho,_⟩:=mem_ready.1 hi;obtain⟨x,h1,hy,zY⟩:=h.2 i hi o ho;unfold wpOpIn;rw[ho];simp only;rcases hy with⟨g,hc⟩|⟨g,rfl,rfl⟩
  ·have hg:=ML hs g;split at hg
   ·rename_i hw
    rw[if_pos hw];refine Oper.wpIn_mono (fun a' w' hn=> ?_) ((V8 hc).elim (fun k=>P8 (K:=fun s'=>s'=(s.wh h1).put o.dst x) (r:=r) (n:=n) (N0:=N0) (Q:=Q') hs hN k) fun⟨_,va,x',h',p,k1,k2,k3⟩=>UQ (K:=fun s'=>s'=(s.wh h1).put o.dst x) (r:=r) (n:=n) (N0:=N0) (Q:=Q') hs hN ⟨va,x',h',p,k1,k2,k3⟩);obtain⟨G2,s2,e2,n2,MO,rfl⟩:=hn;exact BM hQ fuel _ G2 w' a' _ (hE.trans e2) n2 MO zY
   ·exact hg.elim
  ·have hg:=ML hs g;split at hg
   ·exact hg.elim
   ·rename_i hw
    rw[if_neg hw];exact⟨fun _ _=>trivial,BM hQ fuel _ G1 w1 _ _ hE hN (hs.put (.d (.v undef)) o.dst) zY⟩
theorem AH{id:Nat}{l:List Oper}(hm:P.follows .mixedOrders=true)(hl:mi l.toArray=true)(h:Cw P l.toArray l (Q .normal) s):bH P r N0 (.region id l.toArray true) Q s:=by
 constructor
 intro G w a n hs hN;unfold mi at hl;rw[agv]at hl;obtain⟨d1,d2⟩:=hs.drew;refine wpIn_region_any hm ?_;have hC:rT (fun s=>∃s',iB s' s∧Q .normal s'):=fun s s' e ⟨s0,e0,h0⟩=>⟨s0,e0.trans e,h0⟩;have:=Si (K:=Q .normal) hC (fun s h=>⟨s,iB.refl s,h⟩) hl.1 l 0 (Array.replicate l.toArray.size false) s (by simp) (fun j hj=>absurd hj (agV _)) (fun j o ho hj=>by
  exfalso;rw[Array.getD_eq_getD_getElem?]at hj;rw[Array.getElem?_replicate]at hj;split at hj<;>simp at hj) (by simpa using hl.2) h
 refine BM (G:=G) (w:=w) (N0:=N0) (K:=fun s=>∃s',iB s' s∧Q .normal s') (fun a' w' hn=> ?_) l.toArray.size _ G _ a s (d1.less hN) hN d2 (by simpa using this);obtain⟨G',s',x1,x2,x3,s0,e0,x4⟩:=hn;refine⟨G',s0,x1,x2,⟨x3.size.trans e0.n.symm,fun i=>by rw[e0.t i];exact x3.tmp i,by rw[e0.h];exact x3.inv,x3.df⟩,x4⟩
theorem T1{m:Bool}{id:Nat}{ops:Array Oper}(p:List Nat)(hm:P.follows .mixedOrders=true)(hz:p.length=ops.size)(hl:Eh m ops p=true)(h:po m P ops (oH ops p) (Q .normal) s):bH P r N0 (.region id ops true) Q s:=by
 constructor
 intro G w a n hs hN;unfold Eh at hl;rw[agv]at hl;obtain⟨d1,d2⟩:=hs.drew;refine wpIn_region_any hm ?_;have hC:rT (fun s=>∃s',iB s' s∧Q .normal s'):=fun s s' e ⟨s0,e0,h0⟩=>⟨s0,e0.trans e,h0⟩;have:=P2 (K:=Q .normal) hC (fun s h=>⟨s,iB.refl s,h⟩) hl.1 p (Array.replicate ops.size false) s (fun j o ho hj=>by
  exfalso;rw[Array.getD_eq_getD_getElem?]at hj;rw[Array.getElem?_replicate]at hj;split at hj<;>simp at hj) hl.2 h
 rw[hz]at this;refine BM (G:=G) (w:=w) (N0:=N0) (K:=fun s=>∃s',iB s' s∧Q .normal s') (fun a' w' hn=> ?_) ops.size _ G _ a s (d1.less hN) hN d2 this;obtain⟨G',s',x1,x2,x3,s0,e0,x4⟩:=hn;refine⟨G',s0,x1,x2,⟨x3.size.trans e0.n.symm,fun i=>by rw[e0.t i];exact x3.tmp i,by rw[e0.h];exact x3.inv,x3.df⟩,x4⟩
end
def agb(want:Bool):AV→Bool
 | .d (.v (.bool b))=>b==want
 |_=>false
def gNo(want:Bool):AV→Bool
 | .d (.v (.bool b))=>b== !want
 | .d (.v (.tuple _))=>true
 |_=>false
def Xm(t:List (Nat×AV)):Option Nat→AV
 |some d=>bz t d
 |none=> .dead
def sN(ops:Array Oper)(j:Nat)(t:List (Nat×AV)):AV:=Xm t ((ops[j]?).bind (·.dst))
section
variable {P:Program} {ops:Array Oper} {dst:Option Nat} {op:Op} {ty:TypeId} {pos:String} {after:Array Edge} {j:Nat} {w:Bool} {s:St} {rest:List Oper} {K:St→Prop} {y n:Prop}
theorem Gd:gM ops ⟨dst,op,ty,pos,after,some (j,w)⟩ s y n=(match sN ops j s.t with
 | .d (.v (.bool b))=>(b=w→y)∧(b= !w→n)
 | .d (.v (.tuple _))=>n
 |_=>False):=by
 show(match (ops[j]?).bind (·.dst)with
  |some d=>match bz s.t d with
   | .d (.v (.bool b))=>(b=w→y)∧(b= !w→n)
   | .d (.v (.tuple _))=>n
   |_=>False
  |none=>False)=_
 unfold sN;cases (ops[j]?).bind (·.dst)<;>rfl
end
section
variable {P:Program} {r:Option Nat} {n N0:Nat} {G:Gh} {w:World} {a:Act} {s:St} {o:Oper} {Q:Exit→St→Prop}
theorem cm{K:St→Prop}(h:K s):gN K Q .normal s:=h
theorem gK{K:St→Prop}{i:Nat}(h:Q (.exit i) s):gN K Q (.exit i) s:=h
theorem ej{K:St→Prop}(h:Q .ret s):gN K Q .ret s:=h
theorem iJ{id:Nat}(h:Q .normal s):n8 id Q .normal s:=h
theorem fg{id:Nat}(h:Q .ret s):n8 id Q .ret s:=h
theorem kZ{id i:Nat}(e:(i==id)=true)(h:Q .normal s):n8 id Q (.exit i) s:=by simpa only[n8,e,cond_true]using h
theorem Sm{id i:Nat}(e:(i==id)=false)(h:Q (.exit i) s):n8 id Q (.exit i) s:=by simpa only[n8,e,cond_false]using h
theorem lA{c:Operand}{x y:Code}(hc:ev s c= .d (.v (.bool true)))(h:bH P r N0 x Q s):bH P r N0 (.cond c x y) Q s:=Kp hc (fun _=>h) fun h=>Bool.noConfusion h
theorem ld{c:Operand}{x y:Code}(hc:ev s c= .d (.v (.bool false)))(h:bH P r N0 y Q s):bH P r N0 (.cond c x y) Q s:=Kp hc (fun h=>Bool.noConfusion h) fun _=>h
theorem fz{c:Operand}{x y:Code}{t:Bool}(hc:ev s c= .d (.v (.bool t)))(e:t=true)(h:bH P r N0 x Q s):bH P r N0 (.cond c x y) Q s:=lA (by rw[hc,e]) h
theorem ft{c:Operand}{x y:Code}{t:Bool}(hc:ev s c= .d (.v (.bool t)))(e:t=false)(h:bH P r N0 y Q s):bH P r N0 (.cond c x y) Q s:=ld (by rw[hc,e]) h
theorem Tz{c:Code}(k:Nat)(e:TypeId)(sz:Nat)(xs:List (List D))(hx:bz s.t k= .full xs∨(bz s.t k= .d (.v (.slice none 0 0))∧xs=[]))
 (h:bH P r N0 c Q ⟨s.n,(k, .own s.h.length xs)::s.t,s.h++[.front e sz xs.length]⟩):bH P r N0 c Q s:=by
 constructor
 intro G w a n hs hN;have hp:dC G.S w (a.tmps.getD k undef) (.sl xs)∧∃A,a.tmps.getD k undef= .slice A xs.length xs.length:=by
  have hv:=hs.tmp k;revert hv;generalize a.tmps.getD k undef=u;intro hv;rcases hx with hx|⟨hx,rfl⟩
  ·rw[hx]at hv;cases hv with|full _ hp hf=>exact⟨hp,hf⟩
  ·rw[hx]at hv;rw[hv.val];exact⟨BQ,none,rfl⟩
 obtain⟨a1,a2,a3,a4⟩:=KO hs.inv hp.1 hp.2 e sz;have cM:c7 (G.gL (a.tmps.getD k undef) xs.length) w a ⟨s.n,(k, .own s.h.length xs)::s.t,s.h++[.front e sz xs.length]⟩:=by
  refine⟨hs.size,fun i=> ?_,a3,hs.df.ba a1⟩;show aG _ _ _ (bz ((k, .own s.h.length xs)::s.t) i);rw[jX];split
  ·next e=>exact e▸a4
  ·exact(hs.tmp i).ba a1 a2
 exact wpIn_mono (h.run _ w a n cM (agL hN a2)) fun _ _ _ hn=>hn.trans (a1.less hN)
end
theorem Ti{G:Gh}{w:World}{h:List ak}{b:Nat}{cs cp:List AV}(hi:cf G w h)(hb:h[b]?=some (.cells cs))(hl:cp.length=cs.length)
 (hc:∀(vs:Array Value)(T:TypeId),w.heap[G.bo b]?=some (.cells vs T (0,0))→∀(i:Nat)(u:Value)(c:AV),vs[i]?=some u→cp[i]?=some c→aG G w u c):cf G w (h.set b (ak.cells cp)):=by
 have ho:∀n,cl (h.set b (ak.cells cp)) G n=cl h G n:=fun n=>by
  have aO:=(agt.1 hb).1;unfold cl;by_cases e:b=n
  ·subst e;rw[agW aO,hb];rfl
  ·rw[ag1 e]
 refine⟨by rw[List.length_set];exact hi.len,hi.z,hi.S,fun n B hB=> ?_,fun m n x hm hn=>hi.inj m n x (by rw[←ho];exact hm) (by rw[←ho];exact hn),hi.gl⟩;have aO:=(agt.1 hb).1;by_cases e:b=n
 ·subst e;rw[agW aO]at hB;cases hB
  obtain⟨h1,h2,vs,T,h3,h4,_⟩:=hi.dp _ _ hb;exact⟨h1,h2,vs,T,h3,h4.trans hl.symm,hc vs T h3⟩
 ·rw[ag1 e]at hB;exact hi.dp n B hB
theorem HL{P:Program}{r:Option Nat}{N0:Nat}{s:St}{Q:Exit→St→Prop}{c:Code}(b i:Nat)(e:TypeId)(sz:Nat)(xs:List (List D)){cs:List AV}(hb:s.h[b]?=some (.cells cs))(hx:cs[i]?=some (.full xs)∨(cs[i]?=some (.d (.v (.slice none 0 0)))∧xs=[]))
 (h:bH P r N0 c Q ⟨s.n,s.t,(s.h++[ak.front e sz xs.length]).set b (ak.cells (cs.set i (AV.own s.h.length xs)))⟩):bH P r N0 c Q s:=by
 constructor
 intro G w a n hs hN;obtain⟨h1,h2,vs,T,h3,h4,h5⟩:=hs.inv.dp _ _ hb;have hi:i<cs.length:=by rcases hx with hx|⟨hx,_⟩<;>exact(agt.1 hx).1
 have hv:vs[i]?=some vs[i]:=agP (by omega);have hp:dC G.S w vs[i] (.sl xs)∧∃A,vs[i]= .slice A xs.length xs.length:=by
  rcases hx with hx|⟨hx,rfl⟩
  ·have:=h5 i _ _ hv hx;generalize vs[i]=u at this;cases this with|full _ hp hf=>exact⟨hp,hf⟩
  ·have:=h5 i _ _ hv hx;rw[this.val];exact⟨BQ,none,rfl⟩
 obtain⟨a1,a2,a3,a4⟩:=KO hs.inv hp.1 hp.2 e sz;have aO:=(agt.1 hb).1;have cM:c7 (G.gL vs[i] xs.length) w a ⟨s.n,s.t,(s.h++[ak.front e sz xs.length]).set b (ak.cells (cs.set i (AV.own s.h.length xs)))⟩:=by
  refine⟨hs.size,fun j=>(hs.tmp j).ba a1 a2,Ti a3 (by rw[agD aO];exact hb) (by rw[List.length_set]) fun fW T' vq j u c hu hc=> ?_,hs.df.ba a1⟩;have e1:(G.gL vs[i] xs.length).bo b=G.bo b:=by
   have:b≠G.N:=by have:=hs.inv.len;omega
   simp [Gh.gL]
  rw[e1,h3]at vq;cases vq
  by_cases e2:i=j
  ·subst e2;rw[agW hi]at hc;cases hc
   rw[hv]at hu;cases hu
   exact a4
  ·rw[ag1 e2]at hc;exact(h5 j u c hu hc).ba a1 a2
 exact wpIn_mono (h.run _ w a n cM (agL hN a2)) fun _ _ _ hn=>hn.trans (a1.less hN)
def AV.Le(x y:AV):Prop:=∀(G:Gh)(w:World)(u:Value),aG G w u x→aG G w u y
theorem AV.Le.refl(x:AV):AV.Le x x:=fun _ _ _ h=>h
theorem AV.Le.full(xs:List (List D)):AV.Le (.full xs) (.d (.sl xs)):=fun _ _ _ h=>by
 cases h with|full _ hp _=>exact .d hp
theorem AV.Le.nil:AV.Le (.d (.v (.slice none 0 0))) (.d (.sl [])):=fun _ _ _ h=>by
 rw[h.val];exact .d BQ
theorem AV.Le.agg{cs ds:List AV}(hl:cs.length=ds.length)(h:∀(i:Nat)(c d:AV),cs[i]?=some c→ds[i]?=some d→AV.Le c d):AV.Le (.agg cs) (.agg ds):=fun G w u hu=>by
 cases hu with
 |agg vs _ nv hv=>
  refine .agg vs ds (nv.trans hl) fun i u d ZN hd=> ?_;have aO:i<cs.length:=by rw[hl];exact(agt.1 hd).1
  exact h i _ d (agx aO) hd G w u (hv i u _ ZN (agx aO))
set_option linter.unusedSimpArgs false
set_option linter.unusedVariables false
def rn:List Nat→Nat→Nat→Nat
 |[],base,i=>base+i
 |j::_,_,0=>j
 |_::l,base,i+1=>rn l base i
theorem xa:∀(l:List Nat)(base i:Nat)(j:Nat),l[i]?=some j→rn l base i=j
 |[],_,i,j,h=>by simp at h
 |a::l,base,0,j,h=>by simpa [rn]using h
 |a::l,base,i+1,j,h=>by rw[rn];exact xa l base i j (by simpa using h)
theorem FL:∀(l:List Nat)(base i:Nat),l.length≤i→rn l base i=base+(i-l.length)
 |[],base,i,_=>by simp [rn]
 |a::l,base,0,h=>by simp at h
 |a::l,base,i+1,h=>by rw[rn,FL l base i (by simpa using h)];simp
mutual
def AV.aR(σ:Nat→Nat):AV→AV
 | .ptr n off=> .ptr (σ n) off
 | .own n xs=> .own (σ n) xs
 | .row n off len cap k=> .row (σ n) off len cap k
 | .mp n=> .mp (σ n)
 | .dj n=> .dj (σ n)
 | .vec n o len L k=> .vec (σ n) o len L k
 | .di n i j L k=> .di (σ n) i j L k
 | .agg cs=> .agg (AV.fi σ cs)
 | .bX cs=> .bX (AV.fi σ cs)
 | .fn f cs=> .fn f (AV.fi σ cs)
 | .d x=> .d x
 | .bn xs i off=> .bn xs i off
 | .full xs=> .full xs
 | .hid c=> .hid c
 | .dead=> .dead
def AV.fi(σ:Nat→Nat):List AV→List AV
 |[]=>[]
 |x::l=>x.aR σ::AV.fi σ l
end
theorem gW(σ:Nat→Nat):∀l,AV.fi σ l=l.map (AV.aR σ)
 |[]=>by simp [AV.fi]
 |x::l=>by simp [AV.fi,gW σ l]
def ak.aR(σ:Nat→Nat):ak→ak
 | .cells cs=> .cells (AV.fi σ cs)
 | .lp ls p as bd cs=> .lp ls p as bd (AV.fi σ cs)
 | .it sn cs=> .it sn (AV.fi σ cs)
 | .vec e k cs=> .vec e k (cs.map (AV.fi σ))
 | .front e k len=> .front e k len
 | .map kv=> .map kv
 | .gone=> .gone
def gz:List Nat→List ak→List ak→List ak
 |[],Bs,h=>h++Bs
 |_::_,[],h=>h
 |i::l,B::Bs,h=>gz l Bs (h.set i B)
structure pn(σ:Nat→Nat)(G G2:Gh):Prop where
 lt:∀n,n<G.N→σ n<G2.N
 bo:∀n,n<G.N→G2.bo (σ n)=G.bo n
 sg:∀n,n<G.N→G2.sg (σ n)=G.sg n
 fl:∀n,n<G.N→G2.fl (σ n)=G.fl n
 ow:∀n,n<G.N→G2.ow (σ n)=G.ow n
 S:∀b o,G2.S b o↔G.S b o
theorem dC.ub{S S':Nat→Nat→Prop}{w:World}(hS:∀b o,S b o→S' b o){u:Value}{x:D}(h:dC S w u x):dC S' w u x:=h.ba hS (fun _ _ _=>rfl)
theorem aG.aR{σ:Nat→Nat}{G G2:Gh}{w:World}(hR:pn σ G G2){u:Value}{x:AV}(h:aG G w u x):aG G2 w u (x.aR σ):=by
 have hS:∀b o,G.S b o→G2.S b o:=fun b o h=>(hR.S b o).2 h;have fI:∀(vs:Array Value)(cs:List AV),(∀(i:Nat)(u:Value)(c:AV),vs[i]?=some u→cs[i]?=some c→aG G2 w u (c.aR σ))→∀(i:Nat)(u:Value)(c:AV),vs[i]?=some u→(AV.fi σ cs)[i]?=some c→aG G2 w u c:=by
  intro vs cs ih i u c hu hc;rw[gW,agA]at hc;cases hx:cs[i]? with
  |none=>rw[hx]at hc;cases hc
  |some x=>rw[hx]at hc;cases hc;exact ih i u x hu hx
 induction h with
 |agg vs cs hl _ ih=>rw[AV.aR];exact .agg vs _ (by rw[gW,agy];exact hl) (fI vs cs ih)
 |bX vs cs hl _ ih=>rw[AV.aR];exact .bX vs _ (by rw[gW,agy];exact hl) (fI vs cs ih)
 |fn f vs cs hl _ ih=>rw[AV.aR];exact .fn f vs _ (by rw[gW,agy];exact hl) (fI vs cs ih)
 |d h=>rw[AV.aR];exact .d (h.ub hS)
 |full xs hp hf=>rw[AV.aR];exact .full xs (hp.ub hS) hf
 |ptr n off h=>rw[AV.aR,←hR.bo n h];exact .ptr _ off (hR.lt n h)
 |row n off len cap k h hl hm=>rw[AV.aR,←hR.bo n h];exact .row _ off len cap k (hR.lt n h) hl hm
 |mp n h=>rw[AV.aR,←hR.bo n h];exact .mp _ (hR.lt n h)
 |dj n h=>rw[AV.aR,←hR.bo n h];exact .dj _ (hR.lt n h)
 |own n xs h hp hle hf=>rw[AV.aR];exact .own _ xs (hR.lt n h) (hp.ub hS) (by rw[hR.fl n h];exact hle) (by rw[hR.fl n h,hR.sg n h];exact hf)
 |vec n o len L k h hs hL hf=>rw[AV.aR];exact .vec _ o len L k (hR.lt n h) hs (by rw[hR.fl n h];exact hL) (by rw[hR.fl n h,hR.sg n h];exact hf)
 |di n i j L k h hs hL hf=>rw[AV.aR];exact .di _ i j L k (hR.lt n h) hs (by rw[hR.fl n h];exact hL) (by rw[hR.fl n h,hR.sg n h];exact hf)
 |bn xs i off b o u x hx oS hu=>rw[AV.aR];exact .bn xs i off b o u x hx (fun j hj=>⟨hS _ _ (oS j hj).1,(oS j hj).2⟩) (fun j d hd=>(hu j d hd).ub hS)
 |hid h h1=>rw[AV.aR];exact .hid (h.ba hS (fun _ _ _=>rfl)) h1
 |dead u=>rw[AV.aR];exact .dead u
theorem aG.sL{σ:Nat→Nat}{G G2:Gh}{w:World}(hR:pn σ G G2){u:Value}{y:AV}(h:aG G2 w u y):∀x:AV,x.aR σ=y→x.aS G.N=true→aG G w u x:=by
 have hS:∀b o,G2.S b o→G.S b o:=fun b o h=>(hR.S b o).1 h;have lt:∀n,(!cd G.N n)=true→n<G.N:=fun n h=>by rw[Bool.not_eq_true',←Bool.not_eq_true,cZ]at h;omega
 have fI:∀(vs:Array Value)(cs xs:List AV),(∀(i:Nat)(u:Value)(c:AV),vs[i]?=some u→cs[i]?=some c→∀x:AV,x.aR σ=c→x.aS G.N=true→aG G w u x)→AV.fi σ xs=cs→AV.mg G.N xs=true→∀(i:Nat)(u:Value)(c:AV),vs[i]?=some u→xs[i]?=some c→aG G w u c:=by
  intro vs cs xs ih e hb i u c hu hc;subst e;rw[mh,agT]at hb;exact ih i u (c.aR σ) hu (by rw[gW,agA,hc];rfl) c rfl (hb c (agG hc))
 induction h with
 |agg vs cs hl _ ih=>
  intro x e hb;cases x<;>simp only[AV.aR,AV.agg.injEq,reduceCtorEq]at e
  next xs=>
   rw[AV.aS]at hb;exact .agg vs xs (by rw[hl,←e,gW,agy]) (fI vs cs xs ih e hb)
 |bX vs cs hl _ ih=>
  intro x e hb;cases x<;>simp only[AV.aR,AV.bX.injEq,reduceCtorEq]at e
  next xs=>
   rw[AV.aS]at hb;exact .bX vs xs (by rw[hl,←e,gW,agy]) (fI vs cs xs ih e hb)
 |fn f vs cs hl _ ih=>
  intro x e hb;cases x<;>simp only[AV.aR,AV.fn.injEq,reduceCtorEq]at e
  next g xs=>
   obtain⟨rfl,e⟩:=e;rw[AV.aS]at hb;exact .fn _ vs xs (by rw[hl,←e,gW,agy]) (fI vs cs xs ih e hb)
 |d h=>
  intro x e hb;cases x<;>simp only[AV.aR,AV.d.injEq,reduceCtorEq]at e
  next y=>subst e;exact .d (h.ub hS)
 |full xs hp hf=>
  intro x e hb;cases x<;>simp only[AV.aR,AV.full.injEq,reduceCtorEq]at e
  next y=>subst e;exact .full y (hp.ub hS) hf
 |ptr n off h=>
  intro x e hb;cases x<;>simp only[AV.aR,AV.ptr.injEq,reduceCtorEq]at e
  next m o=>
   obtain⟨e1,rfl⟩:=e;rw[AV.aS]at hb;have hm:=lt _ hb;rw[←e1,hR.bo _ hm];exact .ptr _ _ hm
 |row n off len cap k h hl jD=>
  intro x e hb;cases x<;>simp only[AV.aR,AV.row.injEq,reduceCtorEq]at e
  next m o l c q=>
   obtain⟨e1,rfl,rfl,rfl,rfl⟩:=e;rw[AV.aS]at hb;have hm:=lt _ hb;rw[←e1,hR.bo _ hm];exact .row _ _ _ _ _ hm hl jD
 |mp n h=>
  intro x e hb;cases x<;>simp only[AV.aR,AV.mp.injEq,reduceCtorEq]at e
  next m=>
   rw[AV.aS]at hb;have hm:=lt _ hb;rw[←e,hR.bo _ hm];exact .mp _ hm
 |dj n h=>
  intro x e hb;cases x<;>simp only[AV.aR,AV.dj.injEq,reduceCtorEq]at e
  next m=>
   rw[AV.aS]at hb;have hm:=lt _ hb;rw[←e,hR.bo _ hm];exact .dj _ hm
 |own n xs h hp hle hf=>
  intro x e hb;cases x<;>simp only[AV.aR,AV.own.injEq,reduceCtorEq]at e
  next m l=>
   obtain⟨e1,rfl⟩:=e;rw[AV.aS]at hb;have hm:=lt _ hb;rw[←e1]at hle hf;exact .own _ _ hm (hp.ub hS) (by rw[←hR.fl _ hm];exact hle) (by rw[←hR.fl _ hm,←hR.sg _ hm];exact hf)
 |vec n o len L k h hs hL hf=>
  intro x e hb;cases x<;>simp only[AV.aR,AV.vec.injEq,reduceCtorEq]at e
  next m a1 a2 a3 a4=>
   obtain⟨e1,rfl,rfl,rfl,rfl⟩:=e;rw[AV.aS]at hb;have hm:=lt _ hb;rw[←e1]at hL hf;exact .vec _ _ _ _ _ hm hs (by rw[←hR.fl _ hm];exact hL) (by rw[←hR.fl _ hm,←hR.sg _ hm];exact hf)
 |di n i j L k h hs hL hf=>
  intro x e hb;cases x<;>simp only[AV.aR,AV.di.injEq,reduceCtorEq]at e
  next m a1 a2 a3 a4=>
   obtain⟨e1,rfl,rfl,rfl,rfl⟩:=e;rw[AV.aS]at hb;have hm:=lt _ hb;rw[←e1]at hL hf;exact .di _ _ _ _ _ hm hs (by rw[←hR.fl _ hm];exact hL) (by rw[←hR.fl _ hm,←hR.sg _ hm];exact hf)
 |bn xs i off b o u y hx oS hu=>
  intro x e hb;cases x<;>simp only[AV.aR,AV.bn.injEq,reduceCtorEq]at e
  next a1 a2 a3=>
   obtain⟨rfl,rfl,rfl⟩:=e;exact .bn _ _ _ b o u y hx (fun j hj=>⟨hS _ _ (oS j hj).1,(oS j hj).2⟩) (fun j d hd=>(hu j d hd).ub hS)
 |hid h h1=>
  intro x e hb;cases x<;>simp only[AV.aR,AV.hid.injEq,reduceCtorEq]at e
  next c=>subst e;exact .hid (h.ba hS (fun _ _ _=>rfl)) h1
 |dead u=>
  intro x e hb;cases x<;>simp only[AV.aR,reduceCtorEq]at e
  exact .dead u
theorem LJ{σ:Nat→Nat}{G G2:Gh}(hR:pn σ G G2){n:Nat}(hn:n<G.N)(B:ak):(B.aR σ).ep G2 (σ n)=B.ep G n:=by
 cases B<;>simp only[ak.aR,ak.ep,hR.bo n hn,hR.ow n hn]
theorem eB.aR{σ:Nat→Nat}{G G2:Gh}{w:World}(hR:pn σ G G2){n:Nat}(hn:n<G.N){B:ak}(hz:∀b,B.ep G n=some b→¬G2.Z b)(h:eB G w n B):eB G2 w (σ n) (B.aR σ):=by
 have hS:∀b o,¬G.S b o→¬G2.S b o:=fun b o h h2=>h ((hR.S b o).1 h2);cases B with
 |gone=>trivial
 |cells cs=>
  obtain⟨h1,h2,vs,T,h3,h4,h5⟩:=h;rw[ak.aR];refine⟨by rw[hR.bo n hn];exact hz _ rfl,by rw[hR.bo n hn];exact fun o=>hS _ _ (h2 o),vs,T,by rw[hR.bo n hn];exact h3,by rw[gW,agy];exact h4,fun i u c hu hc=> ?_⟩;rw[gW,agA]at hc;cases hx:cs[i]? with
  |none=>rw[hx]at hc;cases hc
  |some x=>rw[hx]at hc;cases hc;exact(h5 i u x hu hx).aR hR
 |lp ls p as bd cs=>
  obtain⟨h1,h2,fn,vs,T,h3,h4,h5⟩:=h;rw[ak.aR];refine⟨by rw[hR.bo n hn];exact hz _ rfl,by rw[hR.bo n hn];exact fun o=>hS _ _ (h2 o),fn,vs,T,by rw[hR.bo n hn];exact h3,by rw[gW,agy];exact h4,fun i u c hu hc=> ?_⟩;rw[gW,agA]at hc;cases hx:cs[i]? with
  |none=>rw[hx]at hc;cases hc
  |some x=>rw[hx]at hc;cases hc;exact(h5 i u x hu hx).aR hR
 |it sn cs=>
  obtain⟨h1,h2,fn,vs,T,h3,h4,h5⟩:=h;rw[ak.aR];refine⟨by rw[hR.bo n hn];exact hz _ rfl,by rw[hR.bo n hn];exact fun o=>hS _ _ (h2 o),fn,vs,T,by rw[hR.bo n hn];exact h3,by rw[gW,agy];exact h4,fun i u c hu hc=> ?_⟩;rw[gW,agA]at hc;cases hx:cs[i]? with
  |none=>rw[hx]at hc;cases hc
  |some x=>rw[hx]at hc;cases hc;exact(h5 i u x hu hx).aR hR
 |map kv=>
  obtain⟨h1,h2,es,c,h3,h4⟩:=h;exact⟨by rw[hR.bo n hn];exact hz _ rfl,by rw[hR.bo n hn];exact fun o=>hS _ _ (h2 o),es,c,by rw[hR.bo n hn];exact h3,h4.ba (fun b o h=>(hR.S b o).2 h) (fun _ _ _=>rfl)⟩
 |front e k len=>
  obtain⟨h1,hm,h2⟩:=h;refine⟨(hR.fl n hn).trans h1,hm,?_⟩;rcases h2 with⟨h2,A,h3⟩|⟨g,cap,cur,h2,h3,h4,h5,h6,h7,h8,h9⟩
  ·exact .inl ⟨(hR.ow n hn).trans h2,A,(hR.sg n hn).trans h3⟩
  ·exact .inr ⟨g,cap,cur,(hR.ow n hn).trans h2,(hR.sg n hn).trans h3,hz g h2,h5,h6,h7,h8,fun o ho=>hS _ _ (h9 o ho)⟩
 |vec e k cs=>
  obtain⟨h1,hm,hk,h2⟩:=h;rw[ak.aR];refine⟨by rw[agy];exact(hR.fl n hn).trans h1,by rw[agy];exact hm,fun c hc=> ?_,?_⟩
  ·obtain⟨x,hx,rfl⟩:=List.mem_map.1 hc;rw[gW,agy];exact hk x hx
  ·rcases h2 with⟨h2,e2,A,h3⟩|⟨g,cap,cur,h2,h3,h4,h5,h6,h7,h8,h9,az⟩
   ·exact .inl ⟨(hR.ow n hn).trans h2,by rw[e2];rfl,A,(hR.sg n hn).trans h3⟩
   ·refine .inr ⟨g,cap,cur,(hR.ow n hn).trans h2,by rw[agy];exact(hR.sg n hn).trans h3,hz g h2,h5,by rw[agy];exact h6,h7,h8,fun o=>hS _ _ (h9 o),fun i j c x u hc hx hu=> ?_⟩;rw[agA]at hc;cases hy:cs[i]? with
    |none=>rw[hy]at hc;cases hc
    |some y=>
     rw[hy]at hc;cases hc
     rw[gW,agA]at hx;cases hw:y[j]? with
     |none=>rw[hw]at hx;cases hx
     |some z=>rw[hw]at hx;cases hx;exact(az i j y z u hy hw hu).aR hR
theorem eB.sL{σ:Nat→Nat}{G G2:Gh}{w:World}(hR:pn σ G G2){n:Nat}(hn:n<G.N){B:ak}(hb:B.aS G.N=true)(hz:∀b,B.ep G n=some b→¬G.Z b)(h:eB G2 w (σ n) (B.aR σ)):eB G w n B:=by
 have hS:∀b o,¬G2.S b o→¬G.S b o:=fun b o h h2=>h ((hR.S b o).2 h2);cases B with
 |gone=>trivial
 |cells cs=>
  rw[ak.aR]at h;obtain⟨h1,h2,vs,T,h3,h4,h5⟩:=h;rw[hR.bo n hn]at h2 h3;rw[gW,agy]at h4;simp only[ak.aS,agT]at hb;exact⟨hz _ rfl,fun o=>hS _ _ (h2 o),vs,T,h3,h4,fun i u c hu hc=>aG.sL hR (h5 i u (c.aR σ) hu (by rw[gW,agA,hc];rfl)) c rfl (hb c (agG hc))⟩
 |lp ls p as bd cs=>
  rw[ak.aR]at h;obtain⟨h1,h2,fn,vs,T,h3,h4,h5⟩:=h;rw[hR.bo n hn]at h2 h3;rw[gW,agy]at h4;simp only[ak.aS,agT]at hb;exact⟨hz _ rfl,fun o=>hS _ _ (h2 o),fn,vs,T,h3,h4,fun i u c hu hc=>aG.sL hR (h5 i u (c.aR σ) hu (by rw[gW,agA,hc];rfl)) c rfl (hb c (agG hc))⟩
 |it sn cs=>
  rw[ak.aR]at h;obtain⟨h1,h2,fn,vs,T,h3,h4,h5⟩:=h;rw[hR.bo n hn]at h2 h3;rw[gW,agy]at h4;simp only[ak.aS,agT]at hb;exact⟨hz _ rfl,fun o=>hS _ _ (h2 o),fn,vs,T,h3,h4,fun i u c hu hc=>aG.sL hR (h5 i u (c.aR σ) hu (by rw[gW,agA,hc];rfl)) c rfl (hb c (agG hc))⟩
 |map kv=>
  obtain⟨h1,h2,es,c,h3,h4⟩:=h;rw[hR.bo n hn]at h2 h3;exact⟨hz _ rfl,fun o=>hS _ _ (h2 o),es,c,h3,h4.ba (fun b o h=>(hR.S b o).1 h) (fun _ _ _=>rfl)⟩
 |front e k len=>
  obtain⟨h1,hm,h2⟩:=h;rw[hR.fl n hn]at h1;rw[hR.ow n hn,hR.sg n hn]at h2;refine⟨h1,hm,?_⟩;rcases h2 with⟨h2,A,h3⟩|⟨g,cap,cur,h2,h3,h4,h5,h6,h7,h8,h9⟩
  ·exact .inl ⟨h2,A,h3⟩
  ·exact .inr ⟨g,cap,cur,h2,h3,hz g h2,h5,h6,h7,h8,fun o ho=>hS _ _ (h9 o ho)⟩
 |vec e k cs=>
  rw[ak.aR]at h;obtain⟨h1,hm,hk,h2⟩:=h;rw[hR.fl n hn,agy]at h1;rw[agy]at hm;rw[hR.ow n hn,hR.sg n hn,agy]at h2;simp only[ak.aS,agT]at hb;refine⟨h1,hm,fun c hc=> ?_,?_⟩
  ·have:=hk _ (List.mem_map.2 ⟨c,hc,rfl⟩)
   rwa [gW,agy]at this
  ·rcases h2 with⟨h2,e2,A,h3⟩|⟨g,cap,cur,h2,h3,h4,h5,h6,h7,h8,h9,az⟩
   ·exact .inl ⟨h2,List.map_eq_nil_iff.1 e2,A,h3⟩
   ·refine .inr ⟨g,cap,cur,h2,h3,hz g h2,h5,h6,h7,h8,fun o=>hS _ _ (h9 o),fun i j c x u hc hx hu=> ?_⟩;exact aG.sL hR (az i j (AV.fi σ c) (x.aR σ) u (by rw[agA,hc];rfl) (by rw[gW,agA,hx];rfl) hu) x rfl (hb c (agG hc) x (agG hx))
theorem Od:∀(l:List Nat)(Bs h:List ak),l.length≤Bs.length→(gz l Bs h).length=h.length+(Bs.length-l.length)
 |[],Bs,h,_=>by simp [gz]
 |j::l,[],h,hl=>by simp at hl
 |j::l,B::Bs,h,hl=>by rw[gz,Od l Bs _ (by simpa using hl),List.length_set];simp
theorem Js:∀(l:List Nat)(Bs h:List ak)(n:Nat),l.length≤Bs.length→n<h.length→n ∉ l→(gz l Bs h)[n]?=h[n]?
 |[],Bs,h,n,_,hn,_=>by rw[gz,agD hn]
 |j::l,[],h,n,hl,_,_=>by simp at hl
 |j::l,B::Bs,h,n,hl,hn,hm=>by
  simp only[agX,not_or]at hm;rw[gz,Js l Bs _ n (by simpa using hl) (by rw[List.length_set];exact hn) hm.2,ag1 (Ne.symm hm.1)]
theorem TW:∀(l:List Nat)(Bs h:List ak)(i:Nat),l.length≤Bs.length→l.Nodup→(∀j∈l,j<h.length)→i<Bs.length→(gz l Bs h)[rn l h.length i]?=Bs[i]?
 |[],Bs,h,i,_,_,_,hi=>by rw[gz,rn,agJ (ag8 _ _),Nat.add_sub_cancel_left]
 |j::l,[],h,i,hl,_,_,_=>by simp at hl
 |j::l,B::Bs,h,0,hl,hd,aO,_=>by
  rw[List.nodup_cons]at hd;rw[gz,rn,Js l Bs _ j (by simpa using hl) (by rw[List.length_set];exact aO j (by simp)) hd.1,agW (aO j (by simp))];rfl
 |j::l,B::Bs,h,i+1,hl,hd,aO,hi=>by
  rw[List.nodup_cons]at hd;have:=TW l Bs (h.set j B) i (by simpa using hl) hd.2 (fun x hx=>by rw[List.length_set];exact aO x (by simp [hx])) (by simpa using hi);rw[List.length_set]at this;rw[gz,rn,this];simp
def xx(l:List Nat)(base n:Nat):Option Nat:=if n∈l then some (l.idxOf n)else if base≤n then some (l.length+(n-base))else none
theorem Mb{l:List Nat}{base:Nat}(hd:l.Nodup)(aO:∀j∈l,j<base)(i:Nat):xx l base (rn l base i)=some i:=by
 unfold xx;by_cases hi:i<l.length
 ·have e:l[i]?=some l[i]:=agx hi;rw[xa l base i _ e,if_pos (List.getElem_mem _),List.Nodup.idxOf_getElem hd i hi]
 ·rw[FL l base i (by omega),if_neg (fun h=>by have:=aO _ h;omega),if_pos (ag8 _ _)]
  congr 1;omega
theorem J5{l:List Nat}{base n i:Nat}(h:xx l base n=some i):rn l base i=n:=by
 unfold xx at h;split at h
 ·rename_i hm
  cases h
  have aO:=List.idxOf_lt_length_of_mem hm;refine xa l base _ n ?_;rw[agx aO,List.getElem_idxOf]
 ·split at h
  ·cases h
   rw[FL _ _ _ (by omega)];omega
  ·cases h
theorem aan{l:List Nat}{base n:Nat}(h:xx l base n=none):n<base∧n ∉ l:=by
 unfold xx at h;split at h
 ·cases h
 ·split at h
  ·cases h
  ·rename_i h1 h2;exact⟨by omega,h1⟩
def qy{α:Type}(o:Option Nat)(f:Nat→α)(d:α):α:=match o with|some i=>f i|none=>d
theorem SZ{H:List ak}{l:List Nat}{h:List ak}
 (hd:l.Nodup) (aO:∀j∈l,j<h.length) (hH:∀(i j:Nat),l[i]?=some j→h[j]?=(H[i]?).map (ak.aR (rn l h.length))) (hk:l.length=H.length)
 (hb:H.all (ak.aS H.length)=true) {G:Gh} {w:World} (hi:cf G w h):
 ∃G0:Gh,G0.N=H.length∧cf G0 w H∧pn (rn l h.length) G0 G∧∀(G1:Gh)(w':World)(H':List ak),bZ H.length G0 w G1 w'→H.length≤G1.N→cf G1 w' H'→
  ∃G2:Gh,bZ G.N G w G2 w'∧G.N≤G2.N∧cf G2 w' (gz l (H'.map (ak.aR (rn l h.length))) h)∧pn (rn l h.length) G1 G2:=by
 obtain⟨σ,hσ⟩:∃σ,σ=rn l h.length:=⟨_,rfl⟩;rw[←hσ]at hH ⊢;have EF:h.length=G.N:=hi.len;obtain⟨own,eh⟩:∃own:Nat→Prop,own=fun b=>∃j∈l,cl h G j=some b:=⟨_,rfl⟩;obtain⟨G0,jM⟩:∃G0:Gh,G0={N:=H.length,Z:=fun b=>b<w.heap.size∧¬own b,S:=G.S,bo:=fun i=>G.bo (σ i),sg:=fun i=>G.sg (σ i),ow:=fun i=>G.ow (σ i),fl:=fun i=>G.fl (σ i),M:=G.M}:=⟨_,rfl⟩;have Fb:∀i,i<H.length→∃j,l[i]?=some j∧σ i=j∧j∈l:=fun i dR=>by
  have je:i<l.length:=by rw[hk];exact dR
  exact⟨l[i],agx je,by rw[hσ];exact xa l _ i _ (agx je),List.getElem_mem _⟩
 have qF:pn σ G0 G:=by
  subst jM;refine⟨fun n hn=> ?_,fun _ _=>rfl,fun _ _=>rfl,fun _ _=>rfl,fun _ _=>rfl,fun _ _=>Iff.rfl⟩;obtain⟨j,_,e,hj⟩:=Fb n hn;rw[e,←EF];exact aO j hj
 have cJ:G0.N=H.length:=by rw[jM]
 have Qw:∀(i:Nat)(B:ak),H[i]?=some B→h[σ i]?=some (B.aR σ):=fun i B hB=>by
  obtain⟨j,e1,e2,_⟩:=Fb i (agt.1 hB).1;rw[e2,hH i j e1,hB];rfl
 have IA:∀(i:Nat)(B:ak)(b:Nat),H[i]?=some B→B.ep G0 i=some b→cl h G (σ i)=some b:=fun i B b hB fU=>by
  rw[dU (Qw i B hB),LJ qF (by rw[cJ];exact(agt.1 hB).1) B];exact fU
 have w9:∀(i:Nat)(B:ak)(b:Nat),H[i]?=some B→B.ep G0 i=some b→¬G0.Z b:=fun i B b hB fU hz=>by
  rw[jM]at hz;refine hz.2 ?_;rw[eh];obtain⟨j,_,e2,hj⟩:=Fb i (agt.1 hB).1;exact⟨j,hj,by rw[←e2];exact IA i B b hB fU⟩
 have aea:∀i i',σ i=σ i'→i=i':=fun i i' e=>by
  have h1:=Mb hd aO i;have h2:=Mb hd aO i';rw[hσ]at e;rw[e,h2]at h1;exact(agM h1).symm
 have qz:cf G0 w H:=by
  refine⟨cJ.symm,fun b hz=> ?_,fun b o hs=> ?_,fun i B hB=> ?_,fun m n b h1 h2=> ?_,by rw[jM];exact hi.gl⟩
  ·rw[jM]at hz;exact hz.1
  ·rw[jM]at hs;exact hi.S b o hs
  ·have Z3:i<G0.N:=by rw[cJ];exact(agt.1 hB).1
   rw[agT]at hb;exact eB.sL qF Z3 (by rw[cJ];exact hb B (agG hB)) (fun b fU=>w9 i B b hB fU) (hi.dp (σ i) _ (Qw i B hB))
  ·obtain⟨B1,px,hb1⟩:=kI h1;obtain⟨B2,Lt,ju⟩:=kI h2;exact aea m n (hi.inj _ _ b (IA m B1 b px hb1) (IA n B2 b Lt ju))
 refine⟨G0,cJ,qz,qF,fun G1 w' H' hE fJ iU=> ?_⟩;have DY:H'.length=G1.N:=iU.len;obtain⟨ps,we⟩:∃ps,ps=xx l h.length:=⟨_,rfl⟩;obtain⟨G2,g0⟩:∃G2:Gh,G2={N:=G.N+(G1.N-H.length),Z:=G.Z,S:=G1.S,bo:=fun n=>qy (ps n) G1.bo (G.bo n),sg:=fun n=>qy (ps n) G1.sg (G.sg n),ow:=fun n=>qy (ps n) G1.ow (G.ow n),fl:=fun n=>qy (ps n) G1.fl (G.fl n),M:=G.M}:=⟨_,rfl⟩;have FO:∀i,ps (σ i)=some i:=fun i=>by rw[we,hσ];exact Mb hd aO i
 have EP:∀i,H.length≤i→σ i=G.N+(i-H.length):=fun i jr=>by rw[hσ,FL l _ i (by omega),EF,hk]
 have Vr:∀i,i<H.length→σ i<G.N:=fun i Ht=>by
  obtain⟨j,_,e,hj⟩:=Fb i Ht;rw[e,←EF];exact aO j hj
 have KV:pn σ G1 G2:=by
  subst g0;refine⟨fun n hn=> ?_,fun n _=>by simp only[FO];rfl,fun n _=>by simp only[FO];rfl,fun n _=>by simp only[FO];rfl,fun n _=>by simp only[FO];rfl,fun _ _=>Iff.rfl⟩;show σ n<G.N+(G1.N-H.length);by_cases eS:n<H.length
  ·have:=Vr n eS;omega
  ·rw[EP n (by omega)];omega
 have Sx:∀b,G0.Z b→G1.Z b:=hE.Z.1.1;have J7:∀b,G.Z b→G0.Z b:=fun b hz=>by
  rw[jM];refine⟨hi.z b hz,fun ho=> ?_⟩;rw[eh]at ho;obtain⟨j,_,ho⟩:=ho;obtain⟨B,hB,fU⟩:=kI ho;exact(hi.dp j B hB).lv fU hz
 have gY:bZ G.N G w G2 w':=by
  refine⟨hE.size,fun b o hs=> ?_,fun b o hs=> ?_,fun n hn=> ?_,fun n hn=> ?_,gq (by rw[g0]) (by rw[g0]),fun b hz=>hE.old b (J7 b hz),hE.os,hE.tape,hE.output,fun b o hs=> ?_⟩
  ·rw[g0];exact hE.S b o (by rw[jM];exact hs)
  ·exact hE.cell b o (by rw[jM];exact hs)
  ·rw[g0];show qy (ps n) G1.bo (G.bo n)=G.bo n;cases hp:ps n with
   |none=>rfl
   |some i=>
    have e:σ i=n:=by rw[hσ];rw[we]at hp;exact J5 hp
    have dR:i<H.length:=Nat.lt_of_not_le fun jr=>by rw[EP i jr]at e;omega
    show G1.bo i=G.bo n;rw[hE.bo i dR,jM,←e]
  ·rw[g0];show(qy (ps n) G1.fl (G.fl n)=G.fl n∧qy (ps n) G1.sg (G.sg n)=G.sg n)∨G.fl n<qy (ps n) G1.fl (G.fl n);cases hp:ps n with
   |none=>exact .inl ⟨rfl,rfl⟩
   |some i=>
    have e:σ i=n:=by rw[hσ];rw[we]at hp;exact J5 hp
    have dR:i<H.length:=Nat.lt_of_not_le fun jr=>by rw[EP i jr]at e;omega
    have:=hE.fr i dR;rw[jM]at this;simp only[e]at this;exact this
  ·rw[g0]at hs;rcases hE.new b o hs with h1|h1
   ·rw[jM]at h1;exact .inl h1
   ·exact .inr fun hz=>h1 (J7 b hz)
 have hlen:(gz l (H'.map (ak.aR σ)) h).length=G2.N:=by
  rw[Od _ _ _ (by rw[agy,hk,DY];omega),agy,DY,hk,EF,g0]
 have adH:∀i,i<G1.N→(gz l (H'.map (ak.aR σ)) h)[σ i]?=(H'[i]?).map (ak.aR σ):=fun i dR=>by
  rw[←agA,hσ];exact TW l _ h i (by rw[agy,hk,DY];omega) hd aO (by rw[agy,DY];exact dR)
 have Gj:∀(n:Nat)(B:ak),(gz l (H'.map (ak.aR σ)) h)[n]?=some B→(∃i B',i<G1.N∧n=σ i∧H'[i]?=some B'∧B=B'.aR σ)∨(ps n=none∧n ∉ l∧h[n]?=some B):=fun n B hB=>by
  have SA:n<G2.N:=by rw[←hlen];exact(agt.1 hB).1
  cases hp:ps n with
  |none=>
   rw[we]at hp;obtain⟨h1,h2⟩:=aan hp;exact .inr ⟨rfl,h2,by rw[←Js l (H'.map (ak.aR σ)) h n (by rw[agy,hk,DY];omega) h1 h2];exact hB⟩
  |some i=>
   have e:σ i=n:=by rw[hσ];rw[we]at hp;exact J5 hp
   have dR:i<G1.N:=Nat.lt_of_not_le fun jr=>by
    rw[EP i (by omega)]at e;rw[g0]at SA;have:n<G.N+(G1.N-H.length):=SA;omega
   rw[←e,adH i dR]at hB;cases hx:H'[i]? with
   |none=>rw[hx]at hB;cases hB
   |some B'=>rw[hx]at hB;cases hB;exact .inl ⟨i,B',dR,e.symm,hx,rfl⟩
 have hold:∀(n b:Nat),n ∉ l→cl h G n=some b→G0.Z b:=fun n b hn fU=>by
  rw[jM];refine⟨hi.hO fU,fun ho=> ?_⟩;rw[eh]at ho;obtain⟨j,hj,ho⟩:=ho;exact hn ((hi.inj n j b fU ho)▸hj)
 have C6:∀(n b:Nat),cl (gz l (H'.map (ak.aR σ)) h) G2 n=some b→(∃i,n=σ i∧cl H' G1 i=some b∧¬G0.Z b)∨(n ∉ l∧cl h G n=some b∧G0.Z b):=fun n b fU=>by
  obtain⟨B,hB,hb1⟩:=kI fU;rcases Gj n B hB with⟨i,B',dR,rfl,eF,rfl⟩|⟨hp,hn,eF⟩
  ·rw[LJ KV dR]at hb1;exact .inl ⟨i,rfl,(dU eF).trans hb1,fun hz=>(iU.dp i B' eF).lv hb1 (Sx _ hz)⟩
  ·have e:B.ep G2 n=B.ep G n:=by
    subst g0;cases B<;>simp only[ak.ep,hp,qy]
   have:=(dU eF).trans (e▸hb1);exact .inr ⟨hn,this,hold n b hn this⟩
 refine⟨G2,gY,by rw[g0];exact ag8 _ _,⟨hlen,fun b hz=> ?_,fun b o hs=> ?_,fun n B hB=> ?_,fun m n b h1 h2=> ?_,hi.gl.ba gY⟩,KV⟩
 ·rw[g0]at hz;exact agR (hi.z b hz) hE.size
 ·rw[g0]at hs;exact iU.S b o hs
 ·rcases Gj n B hB with⟨i,B',dR,rfl,eF,rfl⟩|⟨hp,hn,eF⟩
  ·refine eB.aR KV dR (fun b fU hz=> ?_) (iU.dp i B' eF);have:=(iU.dp i B' eF).lv fU;rw[g0]at hz;exact this (Sx b (J7 b hz))
  ·have mz:n<G.N:=by rw[←hi.len];exact(agt.1 eF).1
   refine eB.ba mz gY (by rw[g0];exact ag8 _ _) (by rw[g0];simp only[hp];exact⟨rfl,rfl,rfl⟩) (fun b fU=> ?_) (hi.dp n B eF);have hz:=hold n b hn ((dU eF).trans fU);refine⟨hE.old b hz,fun o kx hs=> ?_⟩;rw[g0]at hs;rcases hE.new b o hs with h1|h1
   ·rw[jM]at h1;exact kx h1
   ·exact h1 hz
 ·rcases C6 m b h1 with⟨i,rfl,a1,a2⟩|⟨a0,a1,a2⟩<;>rcases C6 n b h2 with⟨j,rfl,b1,b2⟩|⟨b0,b1,b2⟩
  ·rw[iU.inj i j b a1 b1]
  ·exact absurd b2 a2
  ·exact absurd a2 b2
  ·exact hi.inj m n b a1 b1
theorem bW.Ua{P:Program}{f:FuncId}{args:List AV}{H:List ak}{K:AV→List ak→Prop}(hc:bW P f args H K){l:List Nat}{h:List ak}
 (hd:l.Nodup) (aO:∀j∈l,j<h.length) (hH:∀(i j:Nat),l[i]?=some j→h[j]?=(H[i]?).map (ak.aR (rn l h.length))) (hk:l.length=H.length)
 (ha:args.all (AV.aS H.length)=true) (hb:H.all (ak.aS H.length)=true):
 bW P f (args.map (AV.aR (rn l h.length))) h fun r' h'=>∃r H',K r H'∧r'=r.aR (rn l h.length)∧h'=gz l (H'.map (ak.aR (rn l h.length))) h:=by
 refine⟨hc.1,fun G w vs hi vC hvr=> ?_⟩;obtain⟨G0,cJ,qz,qF,K3⟩:=SZ hd aO hH hk hb hi;refine(hc.2 G0 w vs qz (by rw[vC,agy]) fun i u c hu hx=> ?_).mono fun e w' hp=> ?_
 ·rw[agT]at ha;exact aG.sL qF (hvr i u (c.aR (rn l h.length)) hu (by rw[agA,hx];rfl)) c rfl (by rw[cJ];exact ha c (agG hx))
 ·obtain⟨v,G1,r,H',rfl,hE,fJ,iU,hv,hK⟩:=hp;rw[cJ]at fJ hE;obtain⟨G2,e1,e2,e3,e4⟩:=K3 G1 w' H' hE fJ iU;exact⟨v,G2,r.aR _,_,rfl,e1,e2,e3,hv.aR e4,r,H',hK,rfl,rfl⟩
mutual
theorem rm{σ τ:Nat→Nat}{k:Nat}(h:∀i,i<k→σ i=τ i):∀x:AV,x.aS k=true→x.aR σ=x.aR τ
 | .ptr n off,hb=>by rw[AV.aS]at hb;rw[AV.aR,AV.aR,h n (by rw[Bool.not_eq_true',←Bool.not_eq_true,cZ]at hb;omega)]
 | .own n xs,hb=>by rw[AV.aS]at hb;rw[AV.aR,AV.aR,h n (by rw[Bool.not_eq_true',←Bool.not_eq_true,cZ]at hb;omega)]
 | .row n off len cap q,hb=>by rw[AV.aS]at hb;rw[AV.aR,AV.aR,h n (by rw[Bool.not_eq_true',←Bool.not_eq_true,cZ]at hb;omega)]
 | .mp n,hb=>by rw[AV.aS]at hb;rw[AV.aR,AV.aR,h n (by rw[Bool.not_eq_true',←Bool.not_eq_true,cZ]at hb;omega)]
 | .dj n,hb=>by rw[AV.aS]at hb;rw[AV.aR,AV.aR,h n (by rw[Bool.not_eq_true',←Bool.not_eq_true,cZ]at hb;omega)]
 | .vec n o len L q,hb=>by rw[AV.aS]at hb;rw[AV.aR,AV.aR,h n (by rw[Bool.not_eq_true',←Bool.not_eq_true,cZ]at hb;omega)]
 | .di n i j L q,hb=>by rw[AV.aS]at hb;rw[AV.aR,AV.aR,h n (by rw[Bool.not_eq_true',←Bool.not_eq_true,cZ]at hb;omega)]
 | .agg cs,hb=>by rw[AV.aS]at hb;rw[AV.aR,AV.aR,sa h cs hb]
 | .bX cs,hb=>by rw[AV.aS]at hb;rw[AV.aR,AV.aR,sa h cs hb]
 | .fn f cs,hb=>by rw[AV.aS]at hb;rw[AV.aR,AV.aR,sa h cs hb]
 | .d x,_=>by rw[AV.aR,AV.aR]
 | .bn xs i off,_=>by rw[AV.aR,AV.aR]
 | .full xs,_=>by rw[AV.aR,AV.aR]
 | .hid c,_=>by rw[AV.aR,AV.aR]
 | .dead,_=>by rw[AV.aR,AV.aR]
theorem sa{σ τ:Nat→Nat}{k:Nat}(h:∀i,i<k→σ i=τ i):∀l:List AV,AV.mg k l=true→AV.fi σ l=AV.fi τ l
 |[],_=>by rw[AV.fi,AV.fi]
 |x::l,hb=>by
  rw[AV.mg,agv]at hb;rw[AV.fi,AV.fi,rm h x hb.1,sa h l hb.2]
end
theorem GQ{σ τ:Nat→Nat}{k:Nat}(h:∀i,i<k→σ i=τ i)(B:ak)(hb:B.aS k=true):B.aR σ=B.aR τ:=by
 cases B with
 |cells cs=>rw[ak.aR,ak.aR,sa h cs (by rw[mh];exact hb)]
 |lp ls p as bd cs=>rw[ak.aR,ak.aR,sa h cs (by rw[mh];exact hb)]
 |it sn cs=>rw[ak.aR,ak.aR,sa h cs (by rw[mh];exact hb)]
 |vec e q cs=>
  rw[ak.aR,ak.aR]
  congr 1
  refine agY fun c hc=>sa h c ?_;simp only[ak.aS,agT]at hb;rw[mh,agT];exact hb c hc
 |_=>rfl
theorem N5:∀(l:List Nat)(b c i:Nat),i<l.length→rn l b i=rn l c i
 |[],b,c,i,h=>by simp at h
 |a::l,b,c,0,_=>by rw[rn,rn]
 |a::l,b,c,i+1,h=>by rw[rn,rn];exact N5 l b c i (by simpa using h)
def na:List Nat→Bool
 |[]=>true
 |a::l=> !l.any (·==a)&&na l
theorem PG:∀{l:List Nat},na l=true→l.Nodup
 |[],_=>List.nodup_nil
 |a::l,h=>by
  rw[na,agv,Bool.not_eq_true',←Bool.not_eq_true]at h;rw[List.nodup_cons];exact⟨fun hm=>h.1 (List.any_eq_true.2 ⟨a,hm,by simp⟩),PG h.2⟩
theorem Nn:∀(l:List Nat)(h Bs:List ak),l.map (fun j=>h[j]?)=Bs.map some→gz l Bs h=h
 |[],h,Bs,e=>by
  cases Bs with
  |nil=>rw[gz,agO]
  |cons=>simp at e
 |j::l,h,Bs,e=>by
  cases Bs with
  |nil=>simp at e
  |cons B Bs=>
   rw[agS,agS]at e;injection e with e1 e2;have hs:h.set j B=h:=by
     refine List.ext_getElem? fun m=> ?_;by_cases em:j=m
     ·subst em;rw[agW (agt.1 e1).1,e1]
     ·rw[ag1 em]
   rw[gz,hs];exact Nn l h Bs e2
section
variable {P:Program} {f:FuncId} {fF:List AV} {H:List ak} {l:List Nat} {h:List ak}
theorem QQ{l:List Nat}{h H:List ak}{σ:Nat→Nat}(hb:l.map (fun j=>h[j]?)=H.map fun B=>some (B.aR σ)):l.length=H.length∧(∀j∈l,j<h.length)∧∀(i j:Nat),l[i]?=some j→h[j]?=(H[i]?).map (ak.aR σ):=by
 have h1:l.length=H.length:=by simpa using congrArg List.length hb
 have key:∀(i j:Nat),l[i]?=some j→∃B,H[i]?=some B∧h[j]?=some (B.aR σ):=fun i j e=>by
  have aO:i<H.length:=by rw[←h1];exact(agt.1 e).1
  have:=congrArg (·[i]?) hb;simp only[agA,e,agx aO,Option.map_some,Option.some.injEq]at this;exact⟨_,agx aO,this⟩
 refine⟨h1,fun j hj=> ?_,fun i j e=> ?_⟩
 ·obtain⟨i,hi⟩:=List.mem_iff_getElem?.1 hj;obtain⟨B,_,h2⟩:=key i j hi;exact(agt.1 h2).1
 ·obtain⟨B,h2,h3⟩:=key i j e;rw[h2,h3];rfl
theorem bW.jf{r:AV}{H':List ak}(hc:bW P f fF H fun r1 h1=>r1=r∧h1=H')(hd:na l=true)(hb:l.map (fun j=>h[j]?)=H.map fun B=>some (B.aR (rn l h.length)))(hl:(fF.all (AV.aS H.length)&&H.all (ak.aS H.length))=true):
 bW P f (fF.map (AV.aR (rn l h.length))) h fun r1 h1=>r1=r.aR (rn l h.length)∧h1=gz l (H'.map (ak.aR (rn l h.length))) h:=by
 rw[agv]at hl;obtain⟨h1,h2,h3⟩:=QQ hb;exact(hc.Ua (PG hd) h2 h3 h1 hl.1 hl.2).mono fun r1 h1 ⟨r2,H2,⟨e1,e2⟩,e3,e4⟩=>by subst e1;subst e2;exact⟨e3,e4⟩
theorem bW.rq{r:AV}(hc:bW P f fF H fun r1 h1=>r1=r∧h1=H)(hd:na l=true)(hb:l.map (fun j=>h[j]?)=H.map fun B=>some (B.aR (rn l 0)))(hl:(fF.all (AV.aS H.length)&&H.all (ak.aS H.length)&&r.aS H.length)=true)(e:List ak):
 bW P f (fF.map (AV.aR (rn l 0))) (h++e) fun r1 h1=>r1=r.aR (rn l 0)∧h1=h++e:=by
 rw[agv,agv]at hl;obtain⟨⟨l1,l2⟩,l3⟩:=hl;obtain⟨h1,h2,_⟩:=QQ hb;have Ky:∀i,i<H.length→rn l (h++e).length i=rn l 0 i:=fun i hi=>N5 l _ _ i (by rw[h1];exact hi);have hb1:H.map (fun B=>some (B.aR (rn l (h++e).length)))=H.map fun B=>some (B.aR (rn l 0)):=by
   refine agY fun B hB=> ?_;rw[agT]at l2;rw[GQ Ky B (l2 B hB)]
 have ju:l.map (fun j=>(h++e)[j]?)=H.map fun B=>some (B.aR (rn l (h++e).length)):=by
  rw[hb1,←hb];refine agY fun j hj=> ?_;rw[agD (h2 j hj)]
 have:=hc.jf hd ju (by rw[l1,l2];rfl);have ha:fF.map (AV.aR (rn l (h++e).length))=fF.map (AV.aR (rn l 0)):=by
  refine agY fun x hx=> ?_;rw[agT]at l1;exact rm Ky x (l1 x hx)
 rw[ha,rm Ky r l3]at this;refine this.mono fun r1 h1 ⟨e1,e2⟩=>⟨e1,?_⟩;rw[e2];refine Nn l _ _ ?_;rw[ju,List.map_map];rfl
end
end Go.Proofs.YtphmhnabilhbgaaGreatDoor
namespace Go.Proofs.YtphmhnabilhbgaaGreatDoor
open Go.RowKit
def ak.vd:ak→Prop
 | .vec _ _ cs=>(∀f,cs.map (AV.fi f)=cs)∧∀m,cs.all (·.all (AV.aS m))=true
 |_=>True
theorem ac9(f:Nat→Nat)(c:List D):AV.fi f (c.map AV.d)=c.map AV.d:=by
 induction c with
 |nil=>simp [AV.fi]
 |cons x c ih=>simp only[agS,AV.fi,AV.aR,ih]
theorem JE(xs:List (List D)):(∀f,(aK xs).map (AV.fi f)=aK xs)∧∀m,(aK xs).all (·.all (AV.aS m))=true:=by
 refine⟨fun f=> ?_,fun m=>by simp [aK,AV.aS]⟩;unfold aK;rw[List.map_map];exact agY fun c _=>ac9 f c
theorem UP(k:Nat):(∀f,AV.fi f (List.replicate k .dead)=List.replicate k .dead)∧∀m,(List.replicate k AV.dead).all (AV.aS m)=true:=by
 refine⟨fun f=> ?_,fun m=>by simp [AV.aS]⟩
 induction k with
 |zero=>simp [AV.fi]
 |succ k ih=>simp only[List.replicate_succ,AV.fi,AV.aR,ih]
def VD:List ak→Prop
 |[]=>True
 |B::l=>B.vd∧VD l
theorem hX:VD []:=trivial
theorem kF{e k:Nat}{xs:List (List D)}{l:List ak}(h:VD l):VD (.vec e k (aK xs)::l):=⟨JE xs,h⟩
theorem vdP{e k q:Nat}{xs:List (List D)}{l:List ak}(h:VD l):VD (.vec e k (aK xs++[List.replicate q .dead])::l):=
 ⟨⟨fun f=>by rw[List.map_append,(JE xs).1 f,agS,(UP q).1 f];rfl,fun m=>by rw[List.all_append,(JE xs).2 m,ahd,(UP q).2 m];rfl⟩,h⟩
theorem VD.mem:∀{l:List ak},VD l→∀B∈l,B.vd
 |[],_,B,hB=>by cases hB
 |_::_,h,B,hB=>by
  rcases agX.1 hB with rfl|hB
  ·exact h.1
  ·exact VD.mem h.2 B hB
def ak.qZ(f:Nat→Nat):ak→ak
 | .vec e k cs=> .vec e k cs
 |B=>B.aR f
theorem RQ{f:Nat→Nat}{B:ak}(h:B.vd):B.qZ f=B.aR f:=by
 cases B with
 |vec e k cs=>simp only[ak.qZ,ak.aR];rw[h.1 f]
 |_=>rfl
theorem WZ{f:Nat→Nat}{l:List ak}(h:VD l):l.map (ak.qZ f)=l.map (ak.aR f):=agY fun B hB=>RQ (h.mem B hB)
def ak.vK(m:Nat):ak→Bool
 | .vec .. =>true
 |B=>B.aS m
theorem WN{m:Nat}{B:ak}(h:B.vd)(hl:B.vK m=true):B.aS m=true:=by
 cases B with
 |vec e k cs=>exact h.2 m
 |_=>exact hl
theorem Yo{m:Nat}{l:List ak}(h:VD l)(hl:l.all (ak.vK m)=true):l.all (ak.aS m)=true:=by
 rw[agT]at hl ⊢;exact fun B hB=>WN (h.mem B hB) (hl B hB)
theorem abN{f:Nat→Nat}{l:List ak}(h:VD l):(l.map fun B=>some (B.qZ f))=l.map fun B=>some (B.aR f):=agY fun B hB=>congrArg some (RQ (h.mem B hB))
inductive In
 |none
 |bit (x:AV)
 |eq (x:AV)
 |el (xs:List (List D)) (i:Int)
 |lt (z:Int) (n:Nat)
 |len (xs:List (List D))
 |sub (xs:List (List D)) (lo:Int) (hi:Option Int) (k:Nat)
 |app (xs ys:List (List D)) (len k c9:Nat)
 |nz (b:Int)
 |nn (b:Int)
 |str (b:ByteArray) (lo hi:Int)
 |cat (n:Nat)
 |pr (p:Prop)
 |sd (p:Sd)
 |G7 (xs:List (List D))
 |Gg (c:List D) (z:Int) (n:Nat)
 |ch (b:ByteArray) (i:Int)
 |call (f:FuncId) (args:List AV)
 |jC (f:FuncId) (args:List AV) (h:List ak)
 |DQ (c:gG) (args:List AV)
 |jf (f:FuncId) (args:List AV) (h:List ak)
def KT(P:Program)(c:gG)(args:List AV)(r:AV):Prop:=∃g cs,c= .fn g cs∧bm P g (args++cs.map gG.av) (·=r)
inductive ct
 |none
 |bit (b:Bool)
 |CL
 |eq (y:AV)
 |el (c:List D)
 |ok
 |nat (n:Nat)
 |list (ys:List (List D))
 |Nw (ys:List (List D)) (n:Nat)
 |byte (c:UInt8)
 |bytes (s:ByteArray)
 |one (d:D)
 |va (a:VA)
 |ret (r:AV)
 |Jb (r:AV) (h:List ak)
 |LG (l:List Nat) (fF:List AV) (H:List ak) (r:AV) (H':List ak)
 |rq (l:List Nat) (fF:List AV) (H:List ak) (r:AV)
 |CJ (l:List Nat) (fF:List AV) (H:List ak) (r:AV) (H':List ak)
inductive OK(P:Program):In→ct→Prop
 |none {o:ct}:OK P .none o
 |bit {e b:Bool} (h:e=b):OK P (.bit (.d (.v (.bool e)))) (.bit b)
 |CL:OK P (.bit (.d (.v undef))) .CL
 |eq {x y:AV} (h:x=y):OK P (.eq x) (.eq y)
 |el {xs:List (List D)} {i:Int} {c:List D} (h0:0≤i) (h:xs[i.toNat]?=some c):OK P (.el xs i) (.el c)
 |lt {z:Int} {n:Nat} (h0:0≤z) (h:z<n):OK P (.lt z n) .ok
 |len {xs:List (List D)} {n:Nat} (h:xs.length=n):OK P (.len xs) (.nat n)
 |sub {xs ys:List (List D)} {lo hi:Int} {k:Nat} (h0:0≤lo) (h1:lo.toNat≤hi.toNat) (h2:0≤hi) (h3:hi.toNat≤xs.length) (hk:∀c∈xs,c.length=k) (h:(xs.take hi.toNat).drop lo.toNat=ys):OK P (.sub xs lo (some hi) k) (.list ys)
 |Dq {xs ys:List (List D)} {lo:Int} {k:Nat} (h0:0≤lo) (h1:lo.toNat≤xs.length) (hk:∀c∈xs,c.length=k) (h:xs.drop lo.toNat=ys):OK P (.sub xs lo .none k) (.list ys)
 |app {xs ys zs:List (List D)} {len k c9 n:Nat} (hl:len=xs.length) (hx:∀c∈xs,c.length=k) (hy:∀c∈ys,c.length=k) (hm:xs.length+ys.length≤maxLen) (hb:(xs.length+ys.length)*c9≤140737488355328) (hz:xs++ys=zs) (hn:xs.length+ys.length=n):OK P (.app xs ys len k c9) (.Nw zs n)
 |nz {b:Int} (h:b≠0):OK P (.nz b) .ok
 |nn {b:Int} (h:0≤b):OK P (.nn b) .ok
 |str {b:ByteArray} {lo hi:Int} (h0:0≤lo) (h1:lo.toNat≤hi.toNat) (h2:0≤hi) (h3:hi.toNat≤b.size):OK P (.str b lo hi) .ok
 |ch {b:ByteArray} {i:Int} {c:UInt8} (h0:0≤i) (h:b[i.toNat]?=some c):OK P (.ch b i) (.byte c)
 |cat {n:Nat} (h:n≤maxLen):OK P (.cat n) .ok
 |pr {p:Prop} (a:VA) (h:p):OK P (.pr p) (.va a)
 |sd {p:Sd} {o:ct} (h:p.ok):OK P (.sd p) o
 |G7 {xs:List (List D)} {s:ByteArray} (h:∃ns:List Int,xs=ns.map (fun n=>[.v (.int .u8 n)])∧s=⟨(ns.map fun n=>UInt8.ofNat n.toNat).toArray⟩):OK P (.G7 xs) (.bytes s)
 |Gg {c:List D} {z:Int} {n:Nat} {d:D} (h0:0≤z) (h1:z<n) (h:c[z.toNat]?=some d):OK P (.Gg c z n) (.one d)
 |call {f:FuncId} {args:List AV} {r:AV} (h:bm P f args (·=r)):OK P (.call f args) (.ret r)
 |DQ {c:gG} {args:List AV} {r:AV} (h:KT P c args r):OK P (.DQ c args) (.ret r)
 |jf {f:FuncId} {db fF:List AV} {h H H':List ak} {l:List Nat} {r:AV} (ha:db=fF.map (AV.aR (rn l h.length))) (hd:na l=true) (hb:l.map (fun j=>h[j]?)=H.map fun B=>some (B.aR (rn l h.length))) (hl:(fF.all (AV.aS H.length)&&H.all (ak.aS H.length))=true)
  (hc:bW P f fF H fun r1 h1=>r1=r∧h1=H'):OK P (.jf f db h) (.LG l fF H r H')
 |l7 {f:FuncId} {db fF:List AV} {h H H':List ak} {l:List Nat} {r:AV} (tD:VD H) (hv:VD H') (ha:db=fF.map (AV.aR (rn l h.length))) (hd:na l=true) (hb:l.map (fun j=>h[j]?)=H.map fun B=>some (B.qZ (rn l h.length))) (hl:(fF.all (AV.aS H.length)&&H.all (ak.vK H.length))=true)
  (hc:bW P f fF H fun r1 h1=>r1=r∧h1=H'):OK P (.jf f db h) (.CJ l fF H r H')
 |rq {f:FuncId} {db fF:List AV} {h H:List ak} {l:List Nat} {r:AV} (ha:db=fF.map (AV.aR (rn l 0))) (hd:na l=true) (hb:l.map (fun j=>h[j]?)=H.map fun B=>some (B.aR (rn l 0))) (hl:(fF.all (AV.aS H.length)&&H.all (ak.aS H.length)&&r.aS H.length)=true)
    (hc:bW P f fF H fun r1 h1=>r1=r∧h1=H):OK P (.jf f db h) (.rq l fF H r)
 |jC {f:FuncId} {args:List AV} {h h':List ak} {r:AV} (hc:bW P f args h fun r1 h1=>r1=r∧h1=h'):OK P (.jC f args h) (.Jb r h')
def yp(P:Program)(t:TypeId)(cs:List AV)(off:Nat):Option AV:=
 match kW P t,fA P t with
 |some true,some k=>bif cd (off+k) cs.length then some (.agg ((cs.drop off).take k))else none
 |some false,some _=>cs[off]?
 |_,_=>none
def vn(h:List ak)(p:AV):Option (List AV×Nat):=
 match p with
 | .ptr n off=>match h[n]? with
   |some (.cells cs)=>some (cs,off)
   |_=>none
 | .bn xs i off=>match xs[i]? with
   |some c=>some (c.map .d,off)
   |none=>none
 |_=>none
def IQ(x:AV)(i:Option Int)(k:Nat)(a:ct):Option (AV×In):=
 match x.fG,i,a with
 |some xs,some z, .el c=>bif c.length==k then some (.bn [c] 0 0, .el xs z)else none
 |_,_,_=>none
def Jv(P:Program)(T:TypeId)(x i:AV)(a:ct):Option (AV×In):=
 match dY P T with
 |some (_,k)=>
  match x with
  | .row n off len _ k'=>match i.int? with
    |some z=>bif k'==k then some (.ptr n (off+z.toNat*k), .lt z len)else none
    |none=>none
  |x=>IQ x i.int? k a
 |none=>match rV P T,x,i.int? with
  |some (n,_,k), .ptr b off,some z=>some (.ptr b (off+z.toNat*k), .lt z n)
  |some (n,_,k), .bn [c] 0 0,some z=>match a with
   | .one d=>bif k==1 then some (.bn [[d]] 0 0, .Gg c z n)else none
   |_=>none
  |_,_,_=>none
def KA(P:Program)(T:TypeId)(x:AV)(a:ct):Option (AV×In):=
 match x with
 | .d (.v (.string s))=>bif gr P T then some (.d (.v (.int .i64 s.size)), .none)else none
 | .row _ _ len _ _=>bif (dY P T).isSome then some (.d (.v (.int .i64 len)), .none)else none
 |x=>match x.fG,a with
  |some xs, .nat n=>bif (dY P T).isSome then some (.d (.v (.int .i64 n)), .len xs)else none
  |_,_=>none
def oN(l:Option Int)(d:Nat):Nat:=match l with|some z=>z.toNat|none=>d
def Df(ρ:Operand→AV):Option Operand→Option (Option Int)
 |none=>some none
 |some y=>match (ρ y).int? with
  |some z=>some (some z)
  |none=>none
def KS(P:Program)(T:TypeId)(ρ:Operand→AV)(x:AV)(lo hi mx:Option Operand)(a:ct):Option (AV×In):=
 match mx with
 |none=>match Df ρ lo,Df ρ hi with
  |some l,some h=>match x with
   | .d (.v (.string b))=>bif gr P T then some (.d (.v (.string (b.extract (oN l 0) (oN h b.size)))), .str b (l.getD 0) (h.getD b.size))else none
   | .ptr n off=>match rV P T,l,h with
     |some (m,_,k),none,none=>bif cd m 4096&& !cd m 0 then some (.row n off m m k, .none)else none
     |_,_,_=>none
   |x=>match x.fG,dY P T,a with
    |some xs,some (_,k), .list ys=>some (.d (.sl ys), .sub xs (l.getD 0) h k)
    |_,_,_=>none
  |_,_=>none
 |some m=>match lo,hi,ρ m with
  |none,some y, .d (.v (.int _ 0))=>match x.fG,dY P T,ρ y,a with
   |some xs,some (_,k), .d (.v (.int _ 0)), .list _=>some (.full [], .sub xs 0 (some 0) k)
   |_,_,_,_=>none
  |_,_,_=>none
def Ii(h:List ak)(k:Nat)(x:AV):Option (List (List D)):=
 match x with
 | .row n off len _ k'=>match h[n]? with
   |some (.cells cs)=>match mq ((cs.drop off).take (len*k))with
    |some ds=>bif k'==k&&cd (off+len*k) cs.length&&((cs.drop off).take (len*k)).all AV.iS then some (my k len ds)else none
    |none=>none
   |_=>none
 |x=>x.fG
def Mi(P:Program)(T:TypeId)(h:List ak)(x y:AV)(a:ct):Option (AV×List ak×In):=
 match dY P T,a with
 |some (e,k), .Nw zs n'=>match gO P e,mw P e with
  |some z,some c9=>bif cd 1 k&&z.cells.toList.length==k then
   match Ii h k y with
   |some ys=>match x with
    | .own n xs=>match h[n]? with
      |some (.front e' k' len)=>bif e'==e&&k'==k then some (.own n zs,h.set n (.front e k n'), .app xs ys len k c9)else none
      |_=>none
    | .d (.v (.slice none 0 0))=>some (.own h.length zs,h++[.front e k n'], .app [] ys 0 k c9)
    | .full xs=>some (.own h.length zs,h++[.front e k n'], .app xs ys xs.length k c9)
    |_=>none
   |none=>none
   else none
  |_,_=>none
 |_,_=>none
def Hi(P:Program)(T:TypeId)(ps:List (Nat×AV)):Option AV:=
 match LL P T,gO P T with
 |some places,some z=>match ni places (z.cells.toList.map fun u=> .d (.v u)) ps with
  |some cs=>bif (ps.all fun p=>p.2.iy)&&z.cells.toList.all Value.oneCell' then some (.agg cs)else none
  |none=>none
 |_,_=>none
def Fq(P:Program)(T:TypeId)(len:Nat)(ps:List (Nat×AV)):Option AV:=
 match dY P T with
 |some (e,k)=>match gO P e with
  |some z=>match ni (rO k 0 len) (qI len (z.cells.toList.map fun u=> .d (.v u))) ps with
   |some cs=>match mq cs with
    |some ds=>bif cd 1 k&&cd (len*k) 16777216&&z.cells.toList.length==k&&z.cells.toList.all Value.oneCell'&&(ps.all fun p=>p.2.iy)then some (.full (my k len ds))else none
    |none=>none
   |none=>none
  |none=>none
 |none=>none
def Gr(P:Program)(T:TypeId)(op:BinOp)(x y:AV):Option (AV×In):=
 match x,y with
 | .d (.v (.int k a)), .d (.v (.int k' b))=>
   match I6 op k a b with
   |some v=>bif xu k k' then some (.d (.v v), .nz b)else none
   |none=>match KX op k a b with
    |some v=>some (.d (.v v), .nn b)
    |none=>match Ll op k a b with
     |some v=>bif xu k k' then some (.d (.v v), .none)else none
     |none=>none
 | .d (.v (.string a)), .d (.v (.string b))=>match Kx op a b with
   |some v=>some (.d (.v v), .none)
   |none=>match op with
    | .add=>some (.d (.v (.string (a++b))), .cat (a.size+b.size))
    |_=>none
 | .d (.v (.bool a)), .d (.v (.bool b))=>match L2 op a b with
   |some v=>bif yI P T then some (.d (.v v), .none)else none
   |none=>none
 | .agg xs, .agg ys=>match Gn P T xs ys with
   |some b=>match ql op b with
    |some v=>some (.d (.v v), .none)
    |none=>none
   |none=>none
 |_,_=>none
def GM(P:Program)(src dst:TypeId)(x:AV)(a:ct):Option (AV×In):=
 match x with
 | .d (.v (.int _ n))=>match oz P src,oz P dst with
   |some _,some k=>some (.d (.v (.int k (k.wrap n))), .none)
   |_,_=>none
 | .d (.v (.string b))=>bif gr P src&&gr P dst then some (.d (.v (.string b)), .none)else none
 |x=>match x.fG,dY P src,a with
  |some xs,some (e,_), .bytes s=>bif DR P e&&gr P dst then some (.d (.v (.string s)), .G7 xs)else none
  |_,_,_=>none
def HR(P:Program)(T:TypeId)(x:AV)(f:Nat):Option AV:=
 match pe P T f,x with
 |some (off,k,true), .agg cs=>bif cd (off+k) cs.length then some (.agg ((cs.drop off).take k))else none
 |some (off,_,false), .agg cs=>cs[off]?
 |_,_=>none
def HQ(h:List ak):Option AV→Option (AV×List ak×In)
 |some x=>some (x,h, .none)
 |none=>none
def yD(h:List ak):Option (AV×In)→Option (AV×List ak×In)
 |some (x,i)=>some (x,h,i)
 |none=>none
mutual
def AV.nrm:AV→AV
 | .full xs=> .d (.sl xs)
 | .d (.v (.slice none 0 0))=> .d (.sl [])
 | .agg cs=> .agg (AV.vT cs)
 | .bX cs=> .bX (AV.vT cs)
 |x=>x
def AV.vT:List AV→List AV
 |[]=>[]
 |x::l=>x.nrm::AV.vT l
end
mutual
def AV.cap:AV→Option gG
 | .d x=>some (.d x)
 | .own _ xs=>some (.d (.sl xs))
 | .full xs=>some (.d (.sl xs))
 | .bn xs i off=>match xs[i]? with
   |some c=>some (.bn c off)
   |none=>none
 | .fn f cs=>match AV.yx cs with
   |some l=>some (.fn f l)
   |none=>none
 | .hid c=>some c
 |_=>none
def AV.yx:List AV→Option (List gG)
 |[]=>some []
 |x::l=>match x.cap,AV.yx l with
  |some c,some l=>some (c::l)
  |_,_=>none
end
def AV.DZ:AV→AV
 | .fn f cs=>match AV.yx cs with
   |some l=> .hid (.fn f l)
   |none=> .fn f cs
 |x=>x
def AV.arg(x:AV):AV:=((x.bI 0).nrm).DZ
def AV.uh(x:AV):AV:=(x.bI 0).nrm
def sdI:Sd→In
 | .no=> .none
 |p=> .sd p
def xR:Option (AV×List ak×Sd)→Option (AV×List ak×In)
 |some (x,h,p)=>some (x,h,sdI p)
 |none=>none
def vS(P:Program)(op:Op)(ρ:Operand→AV)(h:List ak)(a:ct):Option (AV×List ak×In):=
 match op with
 | .move x| .assign x=>some (ρ x,h, .none)
 | .pick c x y=>match a with
   | .bit b=>some (bif b then ρ x else ρ y,h, .bit (ρ c))
   |_=>none
 | .alloc e=>match gO P e with
   |some z=>some (.ptr h.length 0,h++[ak.cells (z.cells.toList.map fun u=> .d (.v u))], .none)
   |none=>none
 | .box _ x=>bif (ρ x).iy then some (.ptr h.length 0,h++[ak.cells (ρ x).cells], .none)else none
 | .load t p=>match vn h (ρ p)with
   |some (cs,off)=>match yp P t cs off with
    |some x=>some (x,h, .none)
    |none=>none
   |none=>none
 | .store t p x=>match ρ p with
   | .ptr n off=>match h[n]? with
     |some (.cells cs)=>match fA P t with
      |some k=>bif k==(ρ x).cells.length&&(ρ x).iy&&cd (off+(ρ x).cells.length) cs.length then some (.d (.v undef),h.set n (.cells (gy cs off (ρ x).cells)), .none)else none
      |none=>none
     |_=>none
   |_=>none
 | .nilCheck x=>match ρ x with
   | .ptr n off=>some (.ptr n off,h, .none)
   | .bn xs i off=>some (.bn xs i off,h, .none)
   | .fn f cs=>some (.fn f cs,h, .none)
   |_=>none
 | .fieldAddr S x f=>match pe P S f with
   |some (fo,_,_)=>match ρ x with
    | .ptr n off=>some (.ptr n (off+fo),h, .none)
    | .bn xs i off=>some (.bn xs i (off+fo),h, .none)
    |_=>none
   |none=>none
 | .field T x f=>HQ h (HR P T (ρ x) f)
 | .indexAddr T x i=>yD h (Jv P T (ρ x) (ρ i) a)
 | .index T x i=>match ρ x,(ρ i).int?,a with
   | .d (.v (.string b)),some z, .byte c=>bif gr P T then some (.d (.v (.int .u8 c.toNat)),h, .ch b z)else none
   |_,_,_=>none
 | .build T ps=>HQ h (Hi P T (ps.toList.map fun p=>(p.1,ρ p.2)))
 | .buildSlice T len ps=>HQ h (Fq P T len (ps.toList.map fun p=>(p.1,ρ p.2)))
 | .slice T x lo hi mx=>yD h (KS P T ρ (ρ x) lo hi mx a)
 | .extract x i=>match ρ x with
   | .bX cs=>match cs[i]? with
     |some c=>some (c,h, .none)
     |none=>none
   |_=>none
 | .makeFunc (.func f) first dt=>match first.toList with
   |[]=>some (.fn f (dt.toList.map ρ),h, .none)
   |_=>none
 | .binOp op T x y _=>yD h (Gr P T op (ρ x) (ρ y))
 | .unOp op _ x=>match ρ x with
   | .d (.v u)=>match Ho op u with
     |some v=>some (.d (.v v),h, .none)
     |none=>none
   |_=>none
 | .convert s t x=>yD h (GM P s t (ρ x) a)
 | .call c=>match c.callee with
   | .builtin .len=>match c.args.toList,c.argTypes.toList with
     |[x],[T]=>yD h (KA P T (ρ x) a)
     |_,_=>none
   | .builtin .append=>match c.args.toList,c.argTypes.toList with
     |[x,y],[T,U]=>bif (dY P U).isSome then Mi P T h (ρ x) (ρ y) a else none
     |_,_=>none
   | .builtin .max=>match uf true (c.args.toList.map ρ)with
     |some (k,a)=>some (.d (.v (.int k a)),h, .none)
     |none=>none
   | .builtin .min=>match uf false (c.args.toList.map ρ)with
     |some (k,a)=>some (.d (.v (.int k a)),h, .none)
     |none=>none
   | .value f=>match ρ f,a with
     | .fn g dt, .ret r=>bif ((c.args.toList.map ρ++dt).map AV.arg).all (AV.aS 0)&&r.aS 0 then some (r,h, .call g ((c.args.toList.map ρ++dt).map AV.arg))else none
     | .fn g dt, .Jb r h'=>some (r,h', .jC g (c.args.toList.map ρ++dt) h)
     | .fn g dt, .LG l _ _ r H'=>some (r.aR (rn l h.length),gz l (H'.map (ak.aR (rn l h.length))) h, .jf g ((c.args.toList.map ρ++dt).map AV.uh) h)
     | .fn g dt, .CJ l _ _ r H'=>some (r.aR (rn l h.length),gz l (H'.map (ak.qZ (rn l h.length))) h, .jf g ((c.args.toList.map ρ++dt).map AV.uh) h)
     | .fn g dt, .rq l _ _ r=>some (r.aR (rn l 0),h, .jf g ((c.args.toList.map ρ++dt).map AV.uh) h)
     | .hid q, .ret r=>bif ((c.args.toList.map ρ).map AV.arg).all (AV.aS 0)&&r.aS 0 then some (r,h, .DQ q ((c.args.toList.map ρ).map AV.arg))else none
     |_,_=>none
   |_=>none
 |op=>xR (lq P op ρ h)
theorem GV:∀l,AV.vT l=l.map AV.nrm
 |[]=>by simp [AV.vT]
 |x::l=>by simp [AV.vT,GV l]
theorem aG.nrm{G:Gh}{w:World}{u:Value}{x:AV}(h:aG G w u x):aG G w u x.nrm:=by
 have fI:∀(vs:Array Value)(cs:List AV),(∀(i:Nat)(u:Value)(c:AV),vs[i]?=some u→cs[i]?=some c→aG G w u c.nrm)→∀(i:Nat)(u:Value)(c:AV),vs[i]?=some u→(AV.vT cs)[i]?=some c→aG G w u c:=by
  intro vs cs ih i u c hu hc;rw[GV,agA]at hc;cases hx:cs[i]? with
  |none=>rw[hx]at hc;cases hc
  |some x=>rw[hx]at hc;cases hc;exact ih i u x hu hx
 induction h with
 |agg vs cs hl _ ih=>rw[AV.nrm];exact .agg vs _ (by rw[GV,agy];exact hl) (fI vs cs ih)
 |bX vs cs hl _ ih=>rw[AV.nrm];exact .bX vs _ (by rw[GV,agy];exact hl) (fI vs cs ih)
 |full xs hp hf=>rw[AV.nrm];exact .d hp
 | @d u x h=>
   by_cases hx:x= .v (.slice none 0 0)
   ·subst hx;cases h with|v=>simp only[AV.nrm];exact .d BQ
   ·have:(AV.d x).nrm= .d x:=by
     unfold AV.nrm;split<;>simp_all
    rw[this];exact .d h
 |own n xs h hp hle hf=>simp only[AV.nrm];exact .own n xs h hp hle hf
 |ptr n off h=>simp only[AV.nrm];exact .ptr n off h
 |bn xs i off b o u x hx hS hu=>simp only[AV.nrm];exact .bn xs i off b o u x hx hS hu
 |row n off len cap k h hl hm=>simp only[AV.nrm];exact .row n off len cap k h hl hm
 |fn f vs cs hl h=>simp only[AV.nrm];exact .fn f vs cs hl h
 |mp n h=>simp only[AV.nrm];exact .mp n h
 |dj n h=>simp only[AV.nrm];exact .dj n h
 |vec n o len L k h hs hL hf=>simp only[AV.nrm];exact .vec n o len L k h hs hL hf
 |di n i j L k h hs hL hf=>simp only[AV.nrm];exact .di n i j L k h hs hL hf
 |hid h h1=>simp only[AV.nrm];exact .hid h h1
 |dead u=>simp only[AV.nrm];exact .dead u
theorem SP:∀(cs:List AV)(l:List gG),AV.yx cs=some l→cs.length=l.length∧∀(i:Nat)(x:AV)(c:gG),cs[i]?=some x→l[i]?=some c→x.cap=some c
 |[],l,h=>by
  unfold AV.yx at h;cases h;exact⟨rfl,fun i x c hx=>by simp at hx⟩
 |x::cs,l,h=>by
  unfold AV.yx at h;split at h
  ·next c l' e1 e2=>
   cases h
   obtain⟨h1,h2⟩:=SP cs l' e2;refine⟨by simp [h1],fun i y d hy hd=> ?_⟩
   match i with
   |0=>simp only[List.getElem?_cons_zero,Option.some.injEq]at hy hd;subst hy;subst hd;exact e1
   |i+1=>exact h2 i y d (by simpa using hy) (by simpa using hd)
  ·cases h
theorem aG.cap{G:Gh}{w:World}{u:Value}{x:AV}(h:aG G w u x):∀c,x.cap=some c→nS G.S w u c:=by
 induction h with
 |d h=>intro c hc;simp only[AV.cap]at hc;cases hc;exact .d h
 |own n xs h hp hle hf=>intro c hc;simp only[AV.cap]at hc;cases hc;exact .d hp
 |full xs hp hf=>intro c hc;simp only[AV.cap]at hc;cases hc;exact .d hp
 |bn xs i off b o u x hx hS hu=>
  intro c hc;simp only[AV.cap,hx]at hc;cases hc
  exact .bn x off b o u hS hu
 |fn f vs cs hl h ih=>
  intro c hc;simp only[AV.cap]at hc;split at hc
  ·next l e=>
   cases hc
   obtain⟨h1,h2⟩:=SP cs l e;refine .fn f vs l (hl.trans h1) fun i v d hv hd=> ?_;have aO:i<cs.length:=by rw[h1];exact(agt.1 hd).1
   exact ih i v _ hv (agx aO) d (h2 i _ d (agx aO) hd)
  ·cases hc
 |hid h h1=>intro c hc;simp only[AV.cap]at hc;cases hc;exact h
 |agg=>intro c hc;simp [AV.cap]at hc
 |bX=>intro c hc;simp [AV.cap]at hc
 |ptr=>intro c hc;simp [AV.cap]at hc
 |row=>intro c hc;simp [AV.cap]at hc
 |mp=>intro c hc;simp [AV.cap]at hc
 |dj=>intro c hc;simp [AV.cap]at hc
 |vec=>intro c hc;simp [AV.cap]at hc
 |di=>intro c hc;simp [AV.cap]at hc
 |dead=>intro c hc;simp [AV.cap]at hc
theorem AV.Le.DZ(x:AV):AV.Le x x.DZ:=fun G w u h=>by
 unfold AV.DZ;split
 ·next f cs=>
  split
  ·next l e=>
   have:=h.cap (.fn f l) (by simp only[AV.cap,e]);cases h with|fn=>exact .hid this rfl
  ·exact h
 ·exact h
theorem AV.Le.arg(x:AV):AV.Le x x.arg:=fun _ _ _ h=>AV.Le.DZ _ _ _ _ (h.bI 0).nrm
theorem bW.args{P:Program}{f:FuncId}{as:List AV}{h:List ak}{K:AV→List ak→Prop}(hc:bW P f as h K)(bs:List AV)(hl:as.length=bs.length)(hle:∀(i:Nat)(c d:AV),bs[i]?=some c→as[i]?=some d→AV.Le c d):bW P f bs h K:=
 ⟨hc.1,fun G w vs hi hs hr=>hc.2 G w vs hi (hs.trans hl.symm) fun i u d hu hd=>by
  have aO:i<bs.length:=by rw[←hl];exact(agt.1 hd).1
  exact hle i _ d (agx aO) hd G w u (hr i u _ hu (agx aO))⟩
theorem bW.T6{P:Program}{f:FuncId}{as:List AV}{h:List ak}{K:AV→List ak→Prop}(hc:bW P f (as.map AV.arg) h K):bW P f as h K:=
 hc.args as (by rw[agy]) fun i c d hc hd=>by
  rw[agA,hc]at hd;cases hd;exact AV.Le.arg c
theorem AV.Le.uh(x:AV):AV.Le x x.uh:=fun _ _ _ h=>(h.bI 0).nrm
theorem bW.HV{P:Program}{f:FuncId}{as:List AV}{h:List ak}{K:AV→List ak→Prop}(hc:bW P f (as.map AV.uh) h K):bW P f as h K:=
 hc.args as (by rw[agy]) fun i c d hc hd=>by
  rw[agA,hc]at hd;cases hd;exact AV.Le.uh c
theorem adT(l:List gG):(l.map gG.av).all (AV.aS 0)=true:=by
 rw[agT];intro x hx;obtain⟨c,_,rfl⟩:=List.mem_map.1 hx;cases c<;>rfl
theorem KT.use{P:Program}{q:gG}{args:List AV}{r:AV}{h:List ak}{C:AV→List ak→Prop}(hc:KT P q (args.map AV.arg) r)(ha:(args.map AV.arg).all (AV.aS 0)=true)(hr:r.aS 0=true)(hC:C r h):∃g cs,q= .fn g cs∧bW P g (args++cs.map gG.av) h C:=by
 obtain⟨g,cs,rfl,hc⟩:=hc;refine⟨g,cs,rfl,bW.args (hc.use (h:=h) (C:=C) (by rw[List.all_append,ha,adT];rfl) hr hC) _ (by simp) fun i c d h1 h2=> ?_⟩;by_cases hi:i<args.length
 ·rw[agD hi]at h1;rw[agD (by simpa using hi),agA,h1]at h2;cases h2;exact AV.Le.arg c
 ·rw[agJ (by omega)]at h1;rw[agJ (by simpa using hi),agy,h1]at h2;cases h2;exact AV.Le.refl c
theorem cV{α:Type}{b:Bool}{x y:α}(h:(bif b then some x else none)=some y):b=true∧x=y:=by
 cases b with
 |true=>exact⟨rfl,agM h⟩
 |false=>cases h
theorem gk{α:Type}{b:Bool}{x:Option α}{y:α}(h:(bif b then x else none)=some y):b=true∧x=some y:=by
 cases b with
 |true=>exact⟨rfl,h⟩
 |false=>cases h
section
variable {P:Program} {ρ:Operand→AV} {h h':List ak} {a:ct} {i:In} {x:AV} {C:AV→List ak→Prop}
theorem OK.FM{x:AV}{b:Bool}(h:OK P (.bit x) (.bit b)):x= .d (.v (.bool b)):=by
 cases h with|bit h=>subst h;rfl
theorem K5{t:TypeId}{p:AV}{cs:List AV}{off:Nat}{K:AV→Prop}(h1:vn h p=some (cs,off))(h2:yp P t cs off=some x)(hK:K x):mG P t h p K:=by
 have key:(match kW P t,fA P t with
     |some true,some k=>gd (cd (off+k) cs.length) (K (.agg ((cs.drop off).take k)))
     |some false,some _=>match cs[off]? with
      |some c=>K c
      |none=>False
     |_,_=>False):=by
  unfold yp at h2;split at h2
  ·next k e1 e2=>
   obtain⟨h3,rfl⟩:=cV h2;exact bY.2 ⟨h3,hK⟩
  ·next k e1 e2=>rw[h2];exact hK
  ·cases h2
 unfold mG qV;unfold vn at h1;split at h1
 ·split at h1
  ·next cp e=>cases h1;simp only[e];exact key
  ·cases h1
 ·split at h1
  ·next c e=>cases h1;simp only[e];exact key
  ·cases h1
 ·cases h1
theorem afo{y:AV}{z:Option Int}{k:Nat}(h1:IQ y z k a=some (x,i))(cu:OK P i a):∃xs w c,y.fG=some xs∧z=some w∧0≤w∧xs[w.toNat]?=some c∧c.length=k∧x= .bn [c] 0 0:=by
 unfold IQ at h1;split at h1
 ·next xs w c hx=>
  obtain⟨hk,he⟩:=cV h1;cases he
  cases cu with
  |el h0 hc=>exact⟨_,_,_,hx,rfl,h0,hc,by simpa using hk,rfl⟩
 ·cases h1
theorem Zn{T:TypeId}{y z:AV}{K:AV→Prop}(h1:Jv P T y z a=some (x,i))(cu:OK P i a)(hK:K x):qD P T y z K:=by
 unfold Jv at h1;unfold qD;cases hT:dY P T with
 |some p=>
  obtain⟨e,k⟩:=p;simp only[hT]at h1 ⊢;cases y with
  |row n off len cap k'=>
   simp only at h1 ⊢;split at h1
   ·next w hw=>
    obtain⟨hk,he⟩:=cV h1;cases he
    cases cu with|lt h0 hl=>simp only[hw];exact bY.2 ⟨hk,h0,hl,hK⟩
   ·cases h1
  |_=>
   obtain⟨xs,w,c,e1,e2,e3,e4,e5,rfl⟩:=afo h1 cu;simp only[e1,e2,e4,e5];exact⟨e3,trivial,hK⟩
 |none=>
  simp only[hT]at h1 ⊢;split at h1
  ·next n e k b off w hA hw=>
   cases h1
   simp only[hA,hw];cases cu with|lt h0 hl=>exact⟨h0,hl,hK⟩
  ·next n e k c w hA hw=>
   split at h1
   ·next d=>
    obtain⟨hb,he⟩:=cV h1;cases he;simp only[hA,hw];cases cu with|Gg h0 hl h=>exact bY.2 ⟨hb,h0,hl,by simp only[List.getElem?_cons_zero,agN,h];exact hK⟩
   ·cases h1
  ·cases h1
theorem acd{T:TypeId}{y:AV}{K:Nat→Prop}{C:AV→Prop}(h1:KA P T y a=some (x,i))(cu:OK P i a)(hK:C x)(hc:∀n:Nat,C (.d (.v (.int .i64 n)))→K n):qf P T y K:=by
 unfold KA at h1;unfold qf;split at h1
 ·obtain⟨hb,he⟩:=cV h1;cases he;exact bY.2 ⟨hb,hc _ hK⟩
 ·obtain⟨hb,he⟩:=cV h1;cases he;exact bY.2 ⟨hb,hc _ hK⟩
 ·next n1 n2=>
  split at h1
  ·next xs n hx=>
   obtain⟨hb,he⟩:=cV h1;cases he;cases cu with
   |len hl=>
    subst hl;split
    ·next s=>exact absurd rfl (n1 s)
    ·next a b c d e=>exact absurd rfl (n2 a b c d e)
    ·simp only[hx];exact bY.2 ⟨hb,hc _ hK⟩
  ·cases h1
theorem Yw{y:Option Operand}{l:Option Int}(h1:Df ρ y=some l):(y=none∧l=none)∨∃o z,y=some o∧l=some z∧(ρ o).int?=some z:=by
 unfold Df at h1;cases y with
 |none=>cases h1;exact .inl ⟨rfl,rfl⟩
 |some o=>
  simp only at h1;split at h1
  ·next z hz=>cases h1;exact .inr ⟨o,z,rfl,rfl,hz⟩
  ·cases h1
theorem rK{y:Option Operand}{l:Option Int}{d:Nat}{K:Nat→Prop}(h1:Df ρ y=some l)(h0:∀z,l=some z→0≤z)(hK:K (oN l d)):iu ρ y d K:=by
 rcases Yw h1 with⟨rfl,rfl⟩|⟨o,z,rfl,rfl,hz⟩
 ·exact hK
 ·simp only[iu,hz];exact⟨h0 z rfl,hK⟩
theorem adu{T:TypeId}{y:AV}{lo hi mx:Option Operand}{K:AV→Prop}(h1:KS P T ρ y lo hi mx a=some (x,i))(cu:OK P i a)(hK:K x):o9 P T ρ y lo hi mx K:=by
 unfold KS at h1;unfold o9;split at h1
 ·split at h1
  ·next l hh hl oK=>
   split at h1
   ·next b=>
    obtain⟨hb,he⟩:=cV h1;cases he;cases cu with
    |str h0 h2 h3 h4=>
     refine bY.2 ⟨hb,rK oK (fun z e=>by subst e;exact h3) ?_⟩;have e1:oN hh b.size=(hh.getD b.size).toNat:=by cases hh<;>simp [oN]
     have e2:oN l 0=(l.getD 0).toNat:=by cases l<;>simp [oN]
     rw[e1];refine⟨h4,rK hl (fun z e=>by subst e;exact h0) ?_⟩;rw[e2];rw[e1,e2]at hK;exact⟨h2,hK⟩
   ·next n off=>
    split at h1
    ·next m e k hT=>
     obtain⟨hb,he⟩:=cV h1;cases he;simp only[hT];generalize cd m 4096=q at hb ⊢;rw[agv]at hb;refine bY.2 ⟨hb.1,rK oK (fun z e=>by cases e) (bY.2 ⟨cZ.2 (agE _),rK hl (fun z e=>by cases e) (bY.2 ⟨?_,?_⟩)⟩)⟩
     ·rw[agv];exact⟨cZ.2 (Nat.zero_le _),hb.2⟩
     ·show K (.row n (off+0*k) (m-0) (m-0) k);rw[Nat.zero_mul,Nat.add_zero,Nat.sub_zero];exact hK
    ·cases h1
   ·next uS k9=>
    split at h1
    ·next xs e k ys hx hT=>
     cases h1
     dsimp only;split
     ·next b=>exact absurd rfl (uS b)
     ·next n off=>exact absurd rfl (k9 n off)
     ·simp only[hx,hT];cases hh with
      |none=>
       cases cu with
       |Dq h0 h2 hk he=>
        refine⟨hk,rK oK (fun z e=>by cases e) ⟨agE _,rK hl (fun z e=>by subst e;exact h0) ?_⟩⟩;have e2:oN l 0=(l.getD 0).toNat:=by cases l<;>simp [oN]
        rw[e2];refine⟨h2,?_⟩;rw[show oN none xs.length=xs.length from rfl,List.take_length,he];exact hK
      |some z=>
       cases cu with
       |sub h0 h2 h3 h4 hk he=>
        refine⟨hk,rK oK (fun z e=>by cases e;exact h3) ⟨h4,rK hl (fun z e=>by subst e;exact h0) ?_⟩⟩;have e2:oN l 0=(l.getD 0).toNat:=by cases l<;>simp [oN]
        rw[e2];refine⟨h2,?_⟩;rw[show oN (some z) xs.length=z.toNat from rfl,he];exact hK
    ·cases h1
  ·cases h1
 ·split at h1
  ·next m _ _ y' _ hm=>
   split at h1
   ·next xs e k _ _ ys hx hT hy=>
    cases h1
    cases cu with
    |sub h0 h2 h3 h4 hk he=>
     simp only[hx,hT];refine⟨hk,?_⟩;simp only[iu,hm,hy,AV.int?];refine⟨Int.le_refl _,Nat.zero_le _,Int.le_refl _,?_,by simpa using hK⟩;first|rfl|trivial
   ·cases h1
  ·cases h1
theorem FD{k:Nat}{y:AV}{ys:List (List D)}{K:List (List D)→Prop}(h1:Ii h k y=some ys)(hy:∀c∈ys,c.length=k)(hK:K ys):rD h k y K:=by
 unfold Ii at h1;unfold rD;split at h1
 ·split at h1
  ·next cs e=>
   split at h1
   ·next ds e2=>
    obtain⟨hb,rfl⟩:=cV h1;simp only[e,e2];exact bY.2 ⟨hb,hK⟩
   ·cases h1
  ·cases h1
 ·next hn=>
  split
  ·next n off len cap k'=>exact absurd rfl (hn n off len cap k')
  ·simp only[h1];exact⟨hy,hK⟩
theorem aay{T:TypeId}{y z:AV}(h1:Mi P T h y z a=some (x,h',i))(cu:OK P i a)(hC:C x h'):py P T h y z C:=by
 unfold Mi at h1;unfold py;split at h1
 ·next e k zs n' hT=>
  simp only[hT];split at h1
  ·next zv c9 hz nG=>
   simp only[hz,nG];obtain⟨hb,h1⟩:=gk h1;refine bY.2 ⟨hb,?_⟩;split at h1
   ·next ys iF=>
    split at h1
    ·next n xs=>
     split at h1
     ·next e' k' len hn=>
      obtain⟨hc,he⟩:=cV h1;cases he;cases cu with
      |app hl hx hy hm lV jd rW=>
       subst jd;subst rW;refine FD iF hy ?_;simp only[hn];exact bY.2 ⟨hc,hl,hx,hm,lV,hC⟩
     ·cases h1
    ·cases h1
     cases cu with
     |app hl hx hy hm lV jd rW=>
      subst jd;subst rW;refine FD iF hy ?_;simp only[List.nil_append,agF,agN]at hC hm lV ⊢;exact⟨hm,lV,hC⟩
    ·cases h1
     cases cu with
     |app hl hx hy hm lV jd rW=>
      subst jd;subst rW;exact FD iF hy ⟨hx,hm,lV,hC⟩
    ·cases h1
   ·cases h1
  ·cases h1
 ·cases h1
theorem UO{T:TypeId}{ps:List (Nat×AV)}{K:AV→Prop}(h1:Hi P T ps=some x)(hK:K x):wL P T ps K:=by
 unfold Hi at h1;unfold wL;split at h1
 ·next pl z e1 e2=>
  simp only[e1,e2];split at h1
  ·next cs e3=>obtain⟨hb,rfl⟩:=cV h1;simp only[e3];exact bY.2 ⟨hb,hK⟩
  ·cases h1
 ·cases h1
theorem Pu{T:TypeId}{len:Nat}{ps:List (Nat×AV)}{K:AV→Prop}(h1:Fq P T len ps=some x)(hK:K x):wJ P T len ps K:=by
 unfold Fq at h1;unfold wJ;split at h1
 ·next e k hT=>
  simp only[hT];split at h1
  ·next z hz=>
   simp only[hz];split at h1
   ·next cs fK=>
    simp only[fK];split at h1
    ·next ds s7=>obtain⟨hb,rfl⟩:=cV h1;simp only[s7];exact bY.2 ⟨hb,hK⟩
    ·cases h1
   ·cases h1
  ·cases h1
 ·cases h1
theorem UY{T:TypeId}{op:BinOp}{y z:AV}{K:AV→Prop}(h1:Gr P T op y z=some (x,i))(cu:OK P i a)(hK:K x):wq P T op y z K:=by
 unfold Gr at h1;unfold wq;split at h1
 ·split at h1
  ·next v e=>
   obtain⟨hb,he⟩:=cV h1;cases he;cases cu with|nz h0=>simp only[e];exact bY.2 ⟨hb,h0,hK⟩
  ·next e=>
   simp only[e];split at h1
   ·next v e2=>
    cases h1
    cases cu with|nn h0=>simp only[e2];exact⟨h0,hK⟩
   ·next e2=>
    simp only[e2];split at h1
    ·next v e3=>obtain⟨hb,he⟩:=cV h1;cases he;simp only[e3];exact bY.2 ⟨hb,hK⟩
    ·cases h1
 ·split at h1
  ·next v e=>cases h1;simp only[e];exact hK
  ·next e=>
   simp only[e];split at h1
   ·cases h1;cases cu with|cat h=>exact⟨h,hK⟩
   ·cases h1
 ·split at h1
  ·next v e=>obtain⟨hb,he⟩:=cV h1;cases he;simp only[e];exact bY.2 ⟨hb,hK⟩
  ·cases h1
 ·split at h1
  ·next b e=>
   simp only[e];split at h1
   ·next v e2=>cases h1;simp only[e2];exact hK
   ·cases h1
  ·cases h1
 ·cases h1
theorem S0{s t:TypeId}{y:AV}{K:AV→Prop}(h1:GM P s t y a=some (x,i))(cu:OK P i a)(hK:K x):qp P s t y K:=by
 unfold GM at h1;unfold qp;split at h1
 ·split at h1
  ·next e1 e2=>cases h1;simp only[e1,e2];exact hK
  ·cases h1
 ·obtain⟨hb,he⟩:=cV h1;cases he;exact bY.2 ⟨hb,hK⟩
 ·next h8 h9=>
  split at h1
  ·next xs e k s' e1 e2=>
   obtain⟨hb,he⟩:=cV h1;cases he;cases cu with
   |G7 h=>
    obtain⟨ns,k1,k2⟩:=h;subst k2;split
    ·next k' n=>exact absurd rfl (h8 k' n)
    ·next b'=>exact absurd rfl (h9 b')
    ·simp only[e1,e2];exact bY.2 ⟨hb,ns,k1,hK⟩
  ·cases h1
theorem QM{T:TypeId}{y:AV}{f:Nat}{K:AV→Prop}(h1:HR P T y f=some x)(hK:K x):wF P T y f K:=by
 unfold HR at h1;unfold wF;split at h1
 ·next e=>obtain⟨hb,rfl⟩:=cV h1;simp only[e];exact bY.2 ⟨hb,hK⟩
 ·next e=>simp only[e,h1];exact hK
 ·cases h1
theorem Ku{y:Option AV}(h1:HQ h y=some (x,h',i)):y=some x∧h'=h:=by
 cases y with
 |none=>cases h1
 |some y=>cases h1;exact⟨rfl,rfl⟩
theorem BP{y:Option (AV×In)}(h1:yD h y=some (x,h',i)):y=some (x,i)∧h'=h:=by
 cases y with
 |none=>cases h1
 |some y=>cases h1;exact⟨rfl,rfl⟩
theorem zt{o:Oper}(h1:vS P o.op ρ h a=some (x,h',i))(cu:OK P i a)(hC:C x h'):cO P o ρ h C:=by
 obtain⟨dst,op,type,pos,after,guard⟩:=o;simp only at h1;unfold vS at h1;unfold cO;split at h1
 ·cases h1;exact hC
 ·cases h1;exact hC
 ·next c y z=>
  split at h1
  ·next b=>
   cases h1
   simp only[OK.FM cu];cases b<;>simp_all
  ·cases h1
 ·split at h1
  ·next z e=>cases h1;simp only[e];exact hC
  ·cases h1
 ·obtain⟨hb,he⟩:=cV h1;cases he;exact bY.2 ⟨hb,hC⟩
 ·split at h1
  ·next cs off e=>
   split at h1
   ·next y e2=>cases h1;exact K5 e e2 hC
   ·cases h1
  ·cases h1
 ·split at h1
  ·next n off e=>
   split at h1
   ·next cs e2=>
    split at h1
    ·next k e3=>obtain⟨hb,he⟩:=cV h1;cases he;simp only[e,vg,e2,e3];exact bY.2 ⟨hb,hC⟩
    ·cases h1
   ·cases h1
  ·cases h1
 ·split at h1
  ·next e=>cases h1;simp only[e];exact hC
  ·next e=>cases h1;simp only[e];exact hC
  ·next e=>cases h1;simp only[e];exact hC
  ·cases h1
 ·split at h1
  ·next e=>
   simp only[e];split at h1
   ·next e2=>cases h1;simp only[e2];exact hC
   ·next e2=>cases h1;simp only[e2];exact hC
   ·cases h1
  ·cases h1
 ·obtain⟨e,rfl⟩:=Ku h1;exact QM e hC
 ·obtain⟨e,rfl⟩:=BP h1;exact Zn e cu hC
 ·split at h1
  ·next b z c e1 e2=>
   obtain⟨hb,he⟩:=cV h1;cases he;cases cu with
   |ch h0 hc=>simp only[e1,e2];refine bY.2 ⟨hb,h0,?_⟩;simp only[hc];exact hC
  ·cases h1
 ·obtain⟨e,rfl⟩:=Ku h1;exact UO e hC
 ·obtain⟨e,rfl⟩:=Ku h1;exact Pu e hC
 ·obtain⟨e,rfl⟩:=BP h1;exact adu e cu hC
 ·split at h1
  ·next e=>
   split at h1
   ·next e2=>cases h1;simp only[e,e2];exact hC
   ·cases h1
  ·cases h1
 ·split at h1
  ·next e=>cases h1;simp only[e];exact hC
  ·cases h1
 ·obtain⟨e,rfl⟩:=BP h1;exact UY e cu hC
 ·unfold w5;split at h1
  ·next e=>
   split at h1
   ·next e2=>cases h1;simp only[e,e2];exact hC
   ·cases h1
  ·cases h1
 ·obtain⟨e,rfl⟩:=BP h1;exact S0 e cu hC
 ·next c=>
  split at h1
  ·next hc=>
   simp only[hc];split at h1
   ·next e1 e2=>obtain⟨e,rfl⟩:=BP h1;simp only[e1,e2];exact acd (C:=fun x=>C x _) e cu hC (fun n hn=>hn)
   ·cases h1
  ·next hc=>
   simp only[hc];split at h1
   ·next e1 e2=>obtain⟨hb,h1⟩:=gk h1;simp only[e1,e2];exact bY.2 ⟨hb,aay h1 cu hC⟩
   ·cases h1
  ·next hc=>
   simp only[hc];split at h1
   ·next e1=>cases h1;simp only[e1];exact hC
   ·cases h1
  ·next hc=>
   simp only[hc];split at h1
   ·next e1=>cases h1;simp only[e1];exact hC
   ·cases h1
  ·next f hc=>
   simp only[hc];split at h1
   ·next g dt r e=>
    obtain⟨hb,he⟩:=cV h1;cases he;simp only[agv]at hb;simp only[e];cases cu with|call jC=>exact(jC.use hb.1 hb.2 hC).T6
   ·next g dt r h2 e=>
    cases h1
    simp only[e];cases cu with|jC jC=>exact jC.mono fun r1 h1 ⟨e1,e2⟩=>by subst e1;subst e2;exact hC
   ·next g dt l fF H r H' e=>
    cases h1
    simp only[e];cases cu with|jf ha hd hb hl hc=>exact(ha▸(hc.jf hd hb hl).mono fun r1 h1 ⟨e1,e2⟩=>by subst e1;subst e2;exact hC:bW P g _ _ _).HV
   ·next g dt l fF H r H' e=>
    cases h1
    simp only[e];cases cu with|l7 tD hv ha hd hb hl hc=>exact(ha▸(hc.jf hd (by rw[hb,abN tD]) (by rw[agv]at hl ⊢;exact⟨hl.1,Yo tD hl.2⟩)).mono fun r1 h1 ⟨e1,e2⟩=>by subst e1;subst e2;rw[←WZ hv];exact hC:bW P g _ _ _).HV
   ·next g dt l fF H r e=>
    cases h1
    simp only[e];cases cu with|rq ha hd hb hl hc=>exact(ha▸(by have:=hc.rq hd hb hl [];rw[agO]at this;exact this.mono fun r1 h1 ⟨e1,e2⟩=>by subst e1;subst e2;exact hC):bW P g _ _ _).HV
   ·next q r e=>
    obtain⟨hb,he⟩:=cV h1;cases he;simp only[agv]at hb;simp only[e];cases cu with|DQ hq=>exact hq.use hb.1 hb.2 hC
   ·cases h1
  ·cases h1
 ·next op _=>
  unfold xR at h1;split at h1
  ·next y h2 p e=>
   cases h1
   simp only[e];refine⟨?_,hC⟩;cases p with
   |no=>trivial
   |lt n=>cases cu with|sd h=>exact h
  ·cases h1
end
def iL:List (Nat×ct)→Nat→ct
 |[],_=> .none
 |(k,x)::l,i=>bif k==i then x else iL l i
def sq(i:In)(a:ct)(r:Option (St×List (In×ct))):Option (St×List (In×ct)):=
 match i with
 | .none=>r
 |i=>match r with
  |some (s,l)=>some (s,(i,a)::l)
  |none=>none
def Di:ct→Bool
 | .Jb .. | .LG .. | .CJ .. =>true
 |_=>false
def zC(o:Oper):ct→Bool
 | .CJ [] .. =>cB o==6
 |_=>false
def GY(P:Program)(dr vk:Bool)(op:Op)(ρ:Operand→AV)(h:List ak)(a:ct):Option (AV×List ak×In):=
 match a with
 | .va va=>bif dr&& !vk then none else match fm P op ρ h va with
   |some (x,h',p)=>some (x,h', .pr p)
   |none=>none
 |a=>vS P op ρ h a
def oa(P:Program)(dr:Bool)(o:Oper)(j:Nat)(as:List (Nat×ct))(s:St):Option (St×List (In×ct)):=
 bif dr&&Di (iL as (3*j+1))&& !zC o (iL as (3*j+1))then none else
 match GY P dr (ie o) o.op (ev s) s.h (iL as (3*j+1))with
 |some (x,h',i)=>match iL as (3*j+2)with
  | .eq y=>sq i (iL as (3*j+1)) (some ((s.wh h').put o.dst y,[(.eq x, .eq y)]))
  |_=>sq i (iL as (3*j+1)) (some ((s.wh h').put o.dst x,[]))
 |none=>none
def AK(o:Oper)(s:St):St:=s.put o.dst (.d (.v undef))
def pE(l:List (In×ct)):Option (St×List (In×ct))→Option (St×List (In×ct))
 |some (s,m)=>some (s,l++m)
 |none=>none
def mF(P:Program)(ops:Array Oper)(dr:Bool)(o:Oper)(j:Nat)(as:List (Nat×ct))(s:St):Option (St×List (In×ct)):=
 match o.guard with
 |none=>oa P dr o j as s
 |some (g,want)=>match iL as (3*j)with
  | .bit b=>pE [(.bit (sN ops g s.t), .bit b)] (bif b==want then oa P dr o j as s else some (AK o s,[]))
  | .CL=>pE [(.bit (sN ops g s.t), .CL)] (some (AK o s,[]))
  |_=>none
def mE(P:Program)(ops:Array Oper)(dr:Bool):List Oper→Nat→List (Nat×ct)→St→Option (St×List (In×ct))
 |[],_,_,s=>some (s,[])
 |o::rest,j,as,s=>match mF P ops dr o j as s with
  |some (s1,l)=>pE l (mE P ops dr rest (j+1) as s1)
  |none=>none
def gT(P:Program)(l:List (In×ct)):Prop:=∀p∈l,OK P p.1 p.2
section
variable {P:Program} {ops:Array Oper} {dr:Bool} {o:Oper} {j:Nat} {as:List (Nat×ct)} {s s1:St} {l:List (In×ct)} {K:St→Prop}
theorem Ha{i:In}{a:ct}{r:Option (St×List (In×ct))}(h:sq i a r=some (s1,l))(cu:gT P l):∃m,r=some (s1,m)∧gT P m∧OK P i a:=by
 unfold sq at h;split at h
 ·exact⟨l,h,cu, .none⟩
 ·split at h
  ·next s2 m=>
   cases h
   exact⟨m,rfl,fun p hp=>cu p (agC _ hp),cu (i,a) agz⟩
  ·cases h
theorem zJ{r:Option (St×List (In×ct))}{m:List (In×ct)}(h:pE m r=some (s1,l))(cu:gT P l):∃n,r=some (s1,n)∧gT P n∧gT P m:=by
 unfold pE at h;split at h
 ·next s2 n=>
  cases h
  exact⟨n,rfl,fun p hp=>cu p (List.mem_append_right _ hp),fun p hp=>cu p (List.mem_append_left _ hp)⟩
 ·cases h
def Gz(P:Program)(dr:Bool)(o:Oper)(K:St→Prop)(s:St):Prop:=bif dr then S7 P o K s else lF P o K s
theorem aed{x:AV}{h':List ak}{i:In}{a:ct}(h1:vS P o.op (ev s) s.h a=some (x,h',i))(cu:OK P i a)(hh:Di a=false)(hK:K ((s.wh h').put o.dst x)):S7 P o K s:=by
 refine .inl ?_;unfold pj;split
 ·next c eW=>
  split
  ·next f hc=>
   rw[eW]at h1;unfold vS at h1;simp only[hc]at h1;split at h1
   ·next g dt r e=>
    obtain⟨hb,he⟩:=cV h1;cases he;simp only[agv]at hb;simp only[e];cases cu with
    |call jC=>exact⟨_,hK,fun e=>(jC.use hb.1 hb.2 ⟨rfl,rfl⟩).T6⟩
   ·cases hh
   ·cases hh
   ·cases hh
   ·next g dt l fF H r e=>
    cases h1
    simp only[e];cases cu with|rq ha hd hb hl hc=>exact⟨_,hK,fun e=>(ha▸hc.rq hd hb hl e:bW P g _ _ _).HV⟩
   ·next q r e=>
    obtain⟨hb,he⟩:=cV h1;cases he;simp only[agv]at hb;simp only[e];cases cu with
    |DQ hq=>
     have:=fun h=>hq.use (h:=h) (C:=fun r' h'=>r'=x∧h'=h) hb.1 hb.2 ⟨rfl,rfl⟩;obtain⟨g,cs,e1,_⟩:=this [];refine⟨g,cs,e1,x,hK,fun e=> ?_⟩;obtain⟨g',cp,e2,h9⟩:=this (s.h++e);rw[e1]at e2;cases e2
     exact h9
   ·cases h1
  ·exact zt (C:=fun x h'=>K ((s.wh h').put o.dst x)) h1 cu hK
 ·exact zt (C:=fun x h'=>K ((s.wh h').put o.dst x)) h1 cu hK
theorem Z1{o:Oper}{ρ:Operand→AV}{h h':List ak}{fF:List AV}{H H':List ak}{r x:AV}{i:In}(hk:cB o=6)(hr:vS P o.op ρ h (.CJ [] fF H r H')=some (x,h',i)):h'=h++H'.map (ak.qZ (rn [] h.length)):=by
 unfold cB at hk;split at hk
 all_goals first|(cases hk;done)|skip
 next c eW=>
  split at hk
  all_goals first|(cases hk;done)|skip
  next f hc=>
   rw[eW]at hr;unfold vS at hr;simp only[hc]at hr;generalize ρ f=v at hr;cases v<;>first|(cases hr;rfl)|cases hr
theorem RA(h:oa P dr o j as s=some (s1,l))(cu:gT P l)(hK:K s1):Gz P dr o K s:=by
 unfold oa at h;cases hd:dr&&Di (iL as (3*j+1))&& !zC o (iL as (3*j+1))with
 |true=>rw[hd]at h;cases h
 |false=>
  rw[hd]at h;simp only[cond_false]at h;split at h
  ·next x h' i hr=>
   have fin:OK P i (iL as (3*j+1))→K ((s.wh h').put o.dst x)→Gz P dr o K s:=fun h1 h2=>by
    unfold Gz;cases dr with
    |true=>
     unfold GY at hr;split at hr
     ·next va e=>
      cases hv:ie o with
      |false=>rw[hv]at hr;cases hr
      |true=>
       rw[hv]at hr;simp only[Bool.not_true,Bool.and_false,cond_false]at hr;split at hr
       ·next x2 GJ p e2=>
        cases hr
        rw[e]at h1;cases h1 with|pr _ hp=>exact .inr (.inr (.inl ⟨hv,va,x,h',p,e2,hp,h2⟩))
       ·cases hr
     ·by_cases hx:zC o (iL as (3*j+1))=true
      ·refine .inr (.inr (.inr ?_));generalize iL as (3*j+1)=a at hx h1 hr;unfold zC at hx;split at hx
       ·next fF H r H'=>
        have u6:cB o=6:=by simpa using hx
        have this:h'=s.h++H'.map (ak.qZ (rn [] s.h.length)):=Z1 u6 hr;refine⟨u6,x,H'.map (ak.qZ (rn [] s.h.length)),?_,fun C hC=> ?_⟩
        ·rw[←this];exact h2
        ·rw[←this]at hC;exact zt hr h1 hC
       ·cases hx
      ·exact aed hr h1 (by simpa [hx]using hd) h2
    |false=>
     unfold GY at hr;split at hr
     ·next va e=>
      simp only[Bool.false_and,cond_false]at hr;split at hr
      ·next x2 GJ p e2=>
       cases hr
       rw[e]at h1;cases h1 with|pr _ hp=>exact .inl ⟨va,x,h',p,e2,hp,h2⟩
      ·cases hr
     ·exact .inr (.inr (.inl (zt (C:=fun x h'=>K ((s.wh h').put o.dst x)) hr h1 h2)))
   split at h
   ·next y hy=>
    obtain⟨m,e,h2,h3⟩:=Ha h cu;cases e
    have:=h2 (.eq x, .eq y) agz;cases this with|eq e=>subst e;exact fin h3 hK
   ·obtain⟨m,e,h2,h3⟩:=Ha h cu;cases e
    exact fin h3 hK
  ·cases h
theorem I8(h:mF P ops dr o j as s=some (s1,l))(cu:gT P l)(hK:K s1):gM ops o s (Gz P dr o K s) (K (s.put o.dst (.d (.v undef)))):=by
 unfold mF at h;split at h
 ·next hg=>unfold gM;rw[hg];exact RA h cu hK
 ·next g want hg=>
  obtain⟨dst,op,ty,pos,after,guard⟩:=o;simp only at hg;subst hg;split at h
  ·next b hb=>
   obtain⟨n,e,h2,h3⟩:=zJ h cu;have h4:=OK.FM (h3 (_,_) agz);rw[Gd,h4];refine⟨fun e2=> ?_,fun e2=> ?_⟩
   ·subst e2;simp only[BEq.rfl,cond_true]at e;exact RA e h2 hK
   ·subst e2;have:((!want)==want)=false:=by cases want<;>rfl
    rw[this]at e;simp only[cond_false]at e;cases e
    exact hK
  ·next hb=>
   obtain⟨n,e,h2,h3⟩:=zJ h cu;cases e
   have h4:=h3 (_,_) agz;have h5:sN ops g s.t= .d (.v undef):=by
    generalize sN ops g s.t=z at h4;cases h4;rfl
   rw[Gd,h5];exact hK
  ·cases h
theorem uQ:∀(ol:List Oper)(j:Nat)(s:St)(l:List (In×ct)),mE P ops dr ol j as s=some (s1,l)→gT P l→K s1→(bif dr then Cw P ops ol K s else nR P ops ol K s)
 |[],_,s,l,h,_,hK=>by cases h;cases dr<;>exact hK
 |o::rest,j,s,l,h,cu,hK=>by
  unfold mE at h;split at h
  ·next s2 m hg=>
   obtain⟨n,e,h2,h3⟩:=zJ h cu;have ih:=uQ rest (j+1) s2 n e h2 hK;cases dr with
   |true=>exact I8 (K:=Cw P ops rest K) hg h3 ih
   |false=>exact I8 (K:=nR P ops rest K) hg h3 ih
  ·cases h
theorem Mt(s:St)(d:Option Nat)(x:AV):∃pre,(s.put d x).t=pre++s.t:=by
 cases d with
 |none=>exact⟨[],rfl⟩
 |some k=>
  by_cases hk:k<s.n
  ·exact⟨[(k,x)],by rw[pD hk];rfl⟩
  ·exact⟨[],by rw[Bm hk];rfl⟩
theorem SH(h:mF P ops dr o j as s=some (s1,l)):(∃pre,s1.t=pre++s.t)∧s1.n=s.n:=by
 have cI:∀{i a r l},sq i a r=some (s1,l)→∃m,r=some (s1,m):=fun{i a r l} h=>by
  unfold sq at h;split at h
  ·exact⟨_,h⟩
  ·split at h
   ·cases h;exact⟨_,rfl⟩
   ·cases h
 have cR:∀{m r l},pE m r=some (s1,l)→∃m,r=some (s1,m):=fun{m r l} h=>by
  unfold pE at h;split at h
  ·cases h;exact⟨_,rfl⟩
  ·cases h
 have st:∀l,oa P dr o j as s=some (s1,l)→(∃pre,s1.t=pre++s.t)∧s1.n=s.n:=fun l h=>by
  unfold oa at h;cases hd:dr&&Di (iL as (3*j+1))&& !zC o (iL as (3*j+1))with
  |true=>rw[hd]at h;cases h
  |false=>
   rw[hd]at h;simp only[cond_false]at h;split at h
   ·split at h<;>(obtain⟨m,e⟩:=cI h;cases e;exact⟨Mt _ _ _,by rw[om];rfl⟩)
   ·cases h
 unfold mF at h;split at h
 ·exact st _ h
 ·split at h
  ·obtain⟨m,e⟩:=cR h;revert e;generalize ((_:Bool)==_)=q;intro e;cases q with
   |true=>exact st _ e
   |false=>cases e;exact⟨Mt _ _ _,by unfold AK;rw[om]⟩
  ·obtain⟨m,e⟩:=cR h;cases e;exact⟨Mt _ _ _,by unfold AK;rw[om]⟩
  ·cases h
theorem Mo:∀(ol:List Oper)(j:Nat)(s:St)(l:List (In×ct)),mE P ops dr ol j as s=some (s1,l)→(∃pre,s1.t=pre++s.t)∧s1.n=s.n
 |[],_,s,l,h=>by cases h;exact⟨⟨[],rfl⟩,rfl⟩
 |o::rest,j,s,l,h=>by
  unfold mE at h;split at h
  ·next s2 m hg=>
   unfold pE at h;split at h
   ·next s3 n e=>
    cases h
    obtain⟨⟨p1,e1⟩,n1⟩:=SH hg;obtain⟨⟨p2,e2⟩,n2⟩:=Mo rest (j+1) s2 n e;exact⟨⟨p2++p1,by rw[e2,e1,agK]⟩,n2.trans n1⟩
   ·cases h
  ·cases h
end
def No:AV→Bool
 | .dead=>true
 |_=>false
def mP(P:Program)(dr:Bool)(l:List Oper)(as:List (Nat×ct))(ba:List Nat)(s:St):Option (List (Nat×AV)×List ak×List (In×ct)):=
 match mE P l.toArray dr l 0 as s with
 |some (s1,ps)=>bif (s1.t.take (s1.t.length-s.t.length)).all (fun p=>ba.any (·==p.1)||No (bz s.t p.1))then some (ba.map fun k=>(k,bz s1.t k),s1.h,ps)else none
 |none=>none
theorem CO:∀(a b:List (Nat×AV))(i:Nat),(i∈a.map (·.1)∧bz (a++b) i=bz a i)∨(i ∉ a.map (·.1)∧bz (a++b) i=bz b i)
 |[],b,i=> .inr ⟨by simp,rfl⟩
 |(k,x)::a,b,i=>by
  by_cases e:i=k
  ·subst e;exact .inl ⟨by simp,by simp [jX]⟩
  ·rcases CO a b i with⟨h1,h2⟩|⟨h1,h2⟩
   ·exact .inl ⟨by simp at h1 ⊢;exact .inr h1,by rw[List.cons_append,jX,if_neg e,h2,jX,if_neg e]⟩
   ·exact .inr ⟨by simp at h1 ⊢;exact⟨e,h1⟩,by rw[List.cons_append,jX,if_neg e,h2]⟩
section
variable {P:Program} {dr:Bool} {as:List (Nat×ct)} {s s1 s':St} {ps:List (In×ct)} {ba:List Nat} {ol:List Oper} {Δ:List (Nat×AV)} {h':List ak}
theorem EU(h:mP P dr ol as ba s=some (Δ,h',ps)):∃s1,mE P ol.toArray dr ol 0 as s=some (s1,ps)∧s1.n=s.n∧s1.h=h'∧∀i,bz (Δ++s.t) i=bz s1.t i∨bz (Δ++s.t) i= .dead:=by
 unfold mP at h;split at h
 ·next s1 ps' hr=>
  obtain⟨hb,he⟩:=cV h;cases he
  obtain⟨⟨pre,e1⟩,n1⟩:=Mo _ _ _ _ hr;refine⟨s1,hr,n1,rfl,fun i=> ?_⟩;have B9:∀(f:Nat→AV),(ba.map fun k=>(k,f k)).map (·.1)=ba:=fun f=>by rw[List.map_map];exact List.map_id _
  rcases CO (ba.map fun k=>(k,bz s1.t k)) s.t i with⟨h1,h2⟩|⟨h1,h2⟩
  ·rw[B9]at h1;rw[h2,nA (fun k=>bz s1.t k),if_pos h1];exact .inl rfl
  ·rw[B9]at h1;rw[h2];rw[e1,agu,Nat.add_sub_cancel,List.take_left']at hb
   ·rw[e1];rcases CO pre s.t i with⟨h3,h4⟩|⟨h3,h4⟩
    ·right
     obtain⟨p,hp,rfl⟩:=List.mem_map.1 h3;have:=agT.1 hb p hp;rw[Bool.or_eq_true]at this;rcases this with this|this
     ·exfalso;obtain⟨k,hk,e⟩:=List.any_eq_true.1 this;rw[beq_iff_eq]at e;exact h1 (e▸hk)
     ·generalize bz s.t p.1=z at this;cases z<;>first|rfl|cases this
    ·exact .inl h4.symm
   ·rfl
 ·cases h
theorem c7.less{G:Gh}{w:World}{a:Act}(hs:c7 G w a s1)(hn:s'.n=s1.n)(hh:s'.h=s1.h)(ht:∀i,bz s'.t i=bz s1.t i∨bz s'.t i= .dead):c7 G w a s':=
 ⟨hs.size.trans hn.symm,fun i=>by
  rcases ht i with e|e
  ·rw[e];exact hs.tmp i
  ·rw[e];exact .dead _,by rw[hh];exact hs.inv,hs.df⟩
end
structure Ob(P:Program) where
 i:In
 o:ct
 ok:OK P i o
def bT{P:Program}{e:Bool}(h:e=true):Ob P:=⟨_,_, .bit (b:=true) h⟩
def bF{P:Program}{e:Bool}(h:e=false):Ob P:=⟨_,_, .bit (b:=false) h⟩
def uN{P:Program}:Ob P:=⟨_,_, .CL⟩
def cL{P:Program}{f:FuncId}{args:List AV}{r:AV}(h:bm P f args (·=r)):Ob P:=⟨_,_, .call h⟩
def jw{P:Program}(l:List (Nat×Ob P)):List (Nat×ct):=l.map fun b=>(b.1,b.2.o)
def jl{P:Program}(l:List (Nat×Ob P)):List (In×ct):=l.map fun b=>(b.2.i,b.2.o)
theorem qK{P:Program}(l:List (Nat×Ob P)):gT P (jl l):=fun p hp=>by
 obtain⟨b,_,rfl⟩:=List.mem_map.1 hp;exact b.2.ok
section
variable {P:Program} {r:Option Nat} {N0 id:Nat} {ol:List Oper} {y:Code} {s:St} {Q Q':Exit→St→Prop} {bC:List (Nat×Ob P)} {Δ:List (Nat×AV)} {h':List ak}
theorem EX{c:Code}{s':St}(hn:s'.n=s.n)(hh:s'.h=s.h)(ht:∀i,bz s'.t i=bz s.t i∨bz s'.t i= .dead)(h:bH P r N0 c Q s'):bH P r N0 c Q s:=
 ⟨fun G w a n hs hN=>h.run G w a n (hs.less hn hh ht) hN⟩
theorem TC(bC:List (Nat×Ob P))(Δ:List (Nat×AV))(h':List ak)(h:mP P false ol (jw bC) (Δ.map (·.1)) s=some (Δ,h',jl bC))(k:bH P r N0 y Q' ⟨s.n,Δ++s.t,h'⟩):bH P r N0 (.region id ol.toArray false) (gN (fun s=>bH P r N0 y Q' s) Q) s:=by
 obtain⟨s1,h1,h2,h3,h4⟩:=EU h;refine fq ?_;exact uQ (dr:=false) ol 0 s _ h1 (qK bC) (EX (s:=s1) (s':=⟨s.n,Δ++s.t,h'⟩) h2.symm h3.symm h4 k)
theorem UC(hm:P.follows .mixedOrders=true)(hl:mi ol.toArray=true)(bC:List (Nat×Ob P))(Δ:List (Nat×AV))(h':List ak)(h:mP P true ol (jw bC) (Δ.map (·.1)) s=some (Δ,h',jl bC))(k:bH P r N0 y Q' ⟨s.n,Δ++s.t,h'⟩):bH P r N0 (.region id ol.toArray true) (gN (fun s=>bH P r N0 y Q' s) Q) s:=by
 obtain⟨s1,h1,h2,h3,h4⟩:=EU h;refine AH hm hl ?_;exact uQ (dr:=true) ol 0 s _ h1 (qK bC) (EX (s:=s1) (s':=⟨s.n,Δ++s.t,h'⟩) h2.symm h3.symm h4 k)
def Ay(P:Program)(dr:Bool)(l:List Oper)(as:List (Nat×ct))(s:St):Option (List (Nat×AV)×List ak×List (In×ct)):=
 match mE P l.toArray dr l 0 as s with
 |some (s1,ps)=>some (s1.t,s1.h,ps)
 |none=>none
theorem T5{dr:Bool}{as:List (Nat×ct)}{t:List (Nat×AV)}{ps:List (In×ct)}(h:Ay P dr ol as s=some (t,h',ps)):mE P ol.toArray dr ol 0 as s=some (⟨s.n,t,h'⟩,ps):=by
 unfold Ay at h;split at h
 ·next s1 ps' hr=>
  cases h
  obtain⟨_,n1⟩:=Mo _ _ _ _ hr;rw[hr,←n1]
 ·cases h
theorem ac1(bC:List (Nat×Ob P))(Δ:List (Nat×AV))(h':List ak)(h:Ay P false ol (jw bC) s=some (Δ++s.t,h',jl bC))(k:Q .normal ⟨s.n,Δ++s.t,h'⟩):bH P r N0 (.region id ol.toArray false) Q s:=
 fq (uQ (dr:=false) ol 0 s _ (T5 h) (qK bC) k)
theorem abR(hm:P.follows .mixedOrders=true)(hl:mi ol.toArray=true)(bC:List (Nat×Ob P))(Δ:List (Nat×AV))(h':List ak)(h:Ay P true ol (jw bC) s=some (Δ++s.t,h',jl bC))(k:Q .normal ⟨s.n,Δ++s.t,h'⟩):bH P r N0 (.region id ol.toArray true) Q s:=
 AH hm hl (uQ (dr:=true) ol 0 s _ (T5 h) (qK bC) k)
end
def AV.fin(m:Nat)(x:AV):AV:=(x.bI m).nrm
def ak.nE:ak→ak
 | .cells cs=> .cells (cs.map AV.nrm)
 | .lp ls p as bd cs=> .lp ls p as bd (cs.map AV.nrm)
 | .it sn cs=> .it sn (cs.map AV.nrm)
 | .vec e k cs=> .vec e k (cs.map (·.map AV.nrm))
 |B=>B
def iD(s:St)(live:List Nat)(m:Nat):Option St:=
 bif cd m s.h.length&&(live.all fun k=>((bz s.t k).bI m).aS m)&&(((s.h.take m).map (ak.bI m)).all (ak.aS m))then some ⟨s.n,live.map fun k=>(k,(bz s.t k).fin m),((s.h.take m).map (ak.bI m)).map ak.nE⟩else none
theorem LY{G:Gh}{w:World}{h:List ak}(hi:cf G w h):cf G w (h.map ak.nE):=by
 have e8:∀(n:Nat)(B:ak),(h.map ak.nE)[n]?=some B→∃B',h[n]?=some B'∧B=B'.nE:=fun n B hB=>by
  rw[agA]at hB;cases hx:h[n]? with
  |none=>rw[hx]at hB;cases hB
  |some B'=>rw[hx]at hB;cases hB;exact⟨B',rfl,rfl⟩
 have eh:∀n b,cl (h.map ak.nE) G n=some b→cl h G n=some b:=fun n b hb=>by
  obtain⟨B,hB,hb⟩:=kI hb;obtain⟨B',h1,rfl⟩:=e8 n B hB;rw[dU h1,←hb];cases B'<;>rfl
 refine⟨by rw[agy];exact hi.len,hi.z,hi.S,fun n B hB=> ?_,fun i j b h1 h2=>hi.inj i j b (eh i b h1) (eh j b h2),hi.gl⟩;obtain⟨B',h1,rfl⟩:=e8 n B hB;have eF:=hi.dp n B' h1;cases B' with
 |gone=>trivial
 |front e k len=>exact eF
 |map kv=>exact eF
 |vec e k cs=>
  obtain⟨c1,c2,c3,c4⟩:=eF;refine⟨by rw[agy];exact c1,by rw[agy];exact c2,fun c hc=> ?_,?_⟩
  ·obtain⟨x,hx,rfl⟩:=List.mem_map.1 hc;rw[agy];exact c3 x hx
  ·rcases c4 with⟨d1,d2,A,d3⟩|⟨g,cap,cur,d1,d2,d3,d4,d5,d6,d7,d8,d9⟩
   ·exact .inl ⟨d1,by rw[d2];rfl,A,d3⟩
   ·refine .inr ⟨g,cap,cur,d1,by rw[agy];exact d2,d3,d4,by rw[agy];exact d5,d6,d7,d8,fun i j c x u hc hx hu=> ?_⟩;rw[agA]at hc;cases hy:cs[i]? with
    |none=>rw[hy]at hc;cases hc
    |some y=>
     rw[hy]at hc;cases hc
     rw[agA]at hx;cases hw:y[j]? with
     |none=>rw[hw]at hx;cases hx
     |some z=>rw[hw]at hx;cases hx;exact(d9 i j y z u hy hw hu).nrm
 |cells cs=>
  obtain⟨c1,c2,vs,T,c3,c4,c5⟩:=eF;refine⟨c1,c2,vs,T,c3,by rw[agy];exact c4,fun i u c hu hc=> ?_⟩;rw[agA]at hc;cases hx:cs[i]? with
  |none=>rw[hx]at hc;cases hc
  |some x=>rw[hx]at hc;cases hc;exact(c5 i u x hu hx).nrm
 |lp ls p as bd cs=>
  obtain⟨c1,c2,fn,vs,T,c3,c4,c5⟩:=eF;refine⟨c1,c2,fn,vs,T,c3,by rw[agy];exact c4,fun i u c hu hc=> ?_⟩;rw[agA]at hc;cases hx:cs[i]? with
  |none=>rw[hx]at hc;cases hc
  |some x=>rw[hx]at hc;cases hc;exact(c5 i u x hu hx).nrm
 |it sn cs=>
  obtain⟨c1,c2,fn,vs,T,c3,c4,c5⟩:=eF;refine⟨c1,c2,fn,vs,T,c3,by rw[agy];exact c4,fun i u c hu hc=> ?_⟩;rw[agA]at hc;cases hx:cs[i]? with
  |none=>rw[hx]at hc;cases hc
  |some x=>rw[hx]at hc;cases hc;exact(c5 i u x hu hx).nrm
section
variable {P:Program} {r:Option Nat} {n N0:Nat} {G:Gh} {w:World} {a:Act} {s s':St} {Q Q':Exit→St→Prop} {live:List Nat} {m:Nat}
theorem aeJ(h:iD s live m=some s'):s.yG live m∧s'.n=s.n∧s'.t=(live.map fun k=>(k,(bz s.t k).fin m))∧s'.h=((s.h.take m).map (ak.bI m)).map ak.nE:=by
 unfold iD at h;obtain⟨hb,rfl⟩:=cV h;rw[agv,agv]at hb;exact⟨⟨cZ.1 hb.1.1,hb.1.2,hb.2⟩,rfl,rfl,rfl⟩
theorem c7.iD(hs:c7 G w a s)(h:iD s live m=some s'):c7 (G.cut m) w a s':=by
 obtain⟨h1,h2,h3,h4⟩:=aeJ h;have hm:=hs.mask h1;refine⟨hs.size.trans h2.symm,fun i=> ?_,by rw[h4];exact LY hm.inv,hs.df⟩;have:=hm.tmp i
 change aG _ _ _ (bz (live.map fun k=>(k,(bz s.t k).bI m)) i)at this
 rw[nA (fun k=>(bz s.t k).bI m)]at this;rw[h3,nA (fun k=>(bz s.t k).fin m)];split at this
 ·rename_i hi;rw[if_pos hi];exact this.nrm
 ·rename_i hi;rw[if_neg hi];exact .dead _
theorem OS{c:Code}{ι:Type}(live:List Nat)(m:Nat)(st:ι→St)(I:ι→Prop)(μ:ι→Nat)(i0:ι)(hm:N0≤m)(h0:Go.Proofs.YtphmhnabilhbgaaGreatDoor.iD s live m=some (st i0))(hI:I i0)
 (round:∀i,I i→bH P r N0 c (gN (fun s'=>∃i',Go.Proofs.YtphmhnabilhbgaaGreatDoor.iD s' live m=some (st i')∧I i'∧μ i'<μ i) Q) (st i)):bH P r N0 (.loop c) Q s:=by
 constructor
 intro G w a n hs _;refine Gi (fun(i:ι) a' w'=>∃G',I i∧bZ N0 G w G' w'∧N0≤G'.N∧c7 G' w' a' (st i)) μ i0 ⟨G.cut m,hI,nM _ _ _ _,hm,hs.iD h0⟩ ?_;rintro i a' w' ⟨G',hi,hE,hN,cM⟩;refine wpIn_mono ((round i hi).run G' w' a' n cM hN) fun e a1 w1 hn=> ?_;obtain⟨G1,s1,ia,fJ,eX,hq⟩:=hn;cases e with
 |normal=>
  obtain⟨i',h1,h2,h3⟩:=hq;exact⟨i',⟨G1.cut m,h2,(hE.trans ia).trans (nM _ _ _ _),hm,eX.iD h1⟩,h3⟩
 |_=>exact⟨G1,s1,hE.trans ia,fJ,eX,hq⟩
theorem gP{c:Code}(live:List Nat)(m:Nat)(hm:N0≤m)(h0:Go.Proofs.YtphmhnabilhbgaaGreatDoor.iD s live m=some s')(h:bH P r N0 c Q s'):bH P r N0 c Q s:=by
 constructor
 intro G w a n hs _;exact wpIn_mono (h.run (G.cut m) w a n (hs.iD h0) hm) fun _ _ _ hn=>hn.trans (nM N0 G w m)
theorem XD{c y:Code}{ι:Type}(live:List Nat)(m:Nat)(st:ι→St)(I:ι→Prop)(hm:N0≤m)(hc:bH P r N0 c (gN (fun s'=>∃i,Go.Proofs.YtphmhnabilhbgaaGreatDoor.iD s' live m=some (st i)∧I i) Q) s)(hy:∀i,I i→bH P r N0 y Q' (st i)):bH P r N0 c (gN (fun s=>bH P r N0 y Q' s) Q) s:=by
 refine hc.mono fun e s' h=> ?_;cases e with
 |normal=>obtain⟨i,h1,h2⟩:=h;exact gP live m hm h1 (hy i h2)
 |_=>exact h
def qg(P:Program)(s:St):List ResultVar→Option (List AV)
 |[]=>some []
 | .tmp t::l=>match qg P s l with
   |some xs=>some (bz s.t t::xs)
   |none=>none
 | .cell p t::l=>match vn s.h (bz s.t p)with
   |some (cs,off)=>match yp P t cs off,qg P s l with
    |some x,some xs=>some (x::xs)
    |_,_=>none
   |none=>none
def xf(P:Program)(rs:List ResultVar)(s:St):Option AV:=
 match qg P s rs with
 |some l=>bif ((gJ l).bI 0).aS 0 then some ((gJ l).fin 0)else none
 |none=>none
def CX(P:Program)(fn:Func)(R:AV):Exit→St→Prop
 | .normal,s=>xf P fn.results.toList s=some R
 | .ret,s=>xf P fn.results.toList s=some R
 |_,_=>False
theorem Aq:∀(l:List ResultVar)(xs:List AV)(C:List AV→Prop),qg P s l=some xs→C xs→jU P s l C
 |[],xs,C,h,hC=>by cases h;exact hC
 | .tmp t::l,xs,C,h,hC=>by
   unfold qg at h;split at h
   ·next ys e=>cases h;exact Aq l ys _ e hC
   ·cases h
 | .cell p t::l,xs,C,h,hC=>by
   unfold qg at h;split at h
   ·next cs off e=>
    split at h
    ·next x ys e1 e2=>cases h;exact K5 e e1 (Aq l ys _ e2 hC)
    ·cases h
   ·cases h
theorem Up{fn:Func}{R:AV}(h:xf P fn.results.toList s=some R):pv P fn 0 (fun r h'=>h'=[]∧r.nrm=R) s:=by
 unfold xf at h;split at h
 ·next l e=>
  obtain⟨hb,rfl⟩:=cV h;exact Aq _ l _ e ⟨Nat.zero_le _,hb,by simp,by simp,rfl⟩
 ·cases h
theorem gi{fn:Func}{R:AV}(h:xf P fn.results.toList s=some R):CX P fn R .ret s:=h
theorem pY{f:FuncId}{fn:Func}{c:Code}{args:List AV}{R:AV}(hf:P.funcs[f]?=some fn)(hb:fn.body=some c)(hn:(fn.name== "runtime.NumGoroutine")=false)
 (hw:bH P none 0 c (CX P fn R) {n:=args.length+(fn.ntmps-args.length),t:=iN 0 args,h:=[]}):bm P f args (·=R):=by
 have h:=yR (P:=P) (f:=f) (args:=args) (h:=[]) (K:=fun r h'=>h'=[]∧r.nrm=R) 0 hf hb hn (agE _) (hw.mono fun e s hq=>by
  cases e with
  |normal=>exact Up hq
  |ret=>exact Up hq
  |_=>exact hq.elim)
 refine⟨h.1,fun G w vs hi hl hr=>(h.2 G w vs hi hl hr).mono fun e w' hp=> ?_⟩;obtain⟨v,G',x,h',rfl,hE,hN,dR,hv,rfl,rfl⟩:=hp;exact⟨v,G',x.nrm,[],rfl,hE,hN,dR,hv.nrm,rfl,rfl⟩
theorem af6{c:Code}(b i:Nat)(xs:List (List D))(hx:((s.h[b]?).bind fun B=>match B with| .cells cs=>(cs[i]?).bind AV.fG|_=>none)=some xs)(h:xs.length≤maxLen→bH P r N0 c Q s):bH P r N0 c Q s:=by
 constructor
 intro G w a n hs hN;cases hb:s.h[b]? with
 |none=>rw[hb]at hx;cases hx
 |some B=>
  rw[hb]at hx;cases B with
  |cells cs=>
   simp only[ags]at hx;obtain⟨_,_,vs,T,_,hl,hr⟩:=hs.inv.dp b _ hb;cases hc:cs[i]? with
   |none=>rw[hc]at hx;cases hx
   |some x=>
    rw[hc]at hx;have aO:i<vs.size:=by rw[hl];exact(agt.1 hc).1
    obtain⟨A,b',o,c',k',us,_,_,h1,h2,_⟩:=((hr i _ x (agP aO) hc).list hx).nW;exact(h (agL h1 h2)).run G w a n hs hN
  |_=>cases hx
end
theorem aeh{P:Program}{r:Option Nat}{N0 id:Nat}{ol:List Oper}{y:Code}{s:St}{Q Q':Exit→St→Prop}(Δ:List (Nat×AV))(h':List ak)(h:∃bC:List (Nat×Ob P),mP P false ol (jw bC) (Δ.map (·.1)) s=some (Δ,h',jl bC))(k:bH P r N0 y Q' ⟨s.n,Δ++s.t,h'⟩):bH P r N0 (.region id ol.toArray false) (gN (fun s=>bH P r N0 y Q' s) Q) s:=
 let ⟨bC,h⟩:=h;TC bC Δ h' h k
theorem aeP{P:Program}{r:Option Nat}{N0 id:Nat}{ol:List Oper}{y:Code}{s:St}{Q Q':Exit→St→Prop}(hm:P.follows .mixedOrders=true)(hl:mi ol.toArray=true)(Δ:List (Nat×AV))(h':List ak)(h:∃bC:List (Nat×Ob P),mP P true ol (jw bC) (Δ.map (·.1)) s=some (Δ,h',jl bC))(k:bH P r N0 y Q' ⟨s.n,Δ++s.t,h'⟩):bH P r N0 (.region id ol.toArray true) (gN (fun s=>bH P r N0 y Q' s) Q) s:=
 let ⟨bC,h⟩:=h;UC hm hl bC Δ h' h k
theorem dx{α:Type}{c:Bool}{a b:α}(h:c=true):cond c a b=a:=by rw[h];rfl
theorem fR{α:Type}{c:Bool}{a b:α}(h:c=false):cond c a b=b:=by rw[h];rfl
theorem ar{α β:Type}{x:Option α}{f:α→Option β}{b:β}(h:Option.bind x f=some b):∃a,x=some a∧f a=some b:=by
 cases x with
 |none=>cases h
 |some a=>exact⟨a,rfl,h⟩
theorem fP(b:Bool):b=true∨b=false:=by cases b<;>simp
theorem cG{b:Bool}(h:b=true):(!b)=false:=by rw[h];rfl
theorem cT{b:Bool}(h:b=false):(!b)=true:=by rw[h];rfl
theorem fv{α:Type}{c:Bool}{x:Option α}{r:α}(h:(bif c then x else none)=some r):c=true:=by
 cases c with
 |true=>rfl
 |false=>cases h
section
variable {P:Program} {r:Option Nat} {N0 id n:Nat} {ol:List Oper} {y:Code} {t:List (Nat×AV)} {h:List ak} {Q Q':Exit→St→Prop}
theorem rg(bC:List (Nat×Ob P))(Δ:List (Nat×AV))(h':List ak)(e:mP P false ol (jw bC) (Δ.map (·.1)) ⟨n,t,h⟩=some (Δ,h',jl bC))(k:bH P r N0 y Q' ⟨n,Δ++t,h'⟩):bH P r N0 (.region id ol.toArray false) (gN (fun s=>bH P r N0 y Q' s) Q) ⟨n,t,h⟩:=TC bC Δ h' e k
theorem rd(hm:P.follows .mixedOrders=true)(hl:mi ol.toArray=true)(bC:List (Nat×Ob P))(Δ:List (Nat×AV))(h':List ak)(e:mP P true ol (jw bC) (Δ.map (·.1)) ⟨n,t,h⟩=some (Δ,h',jl bC))(k:bH P r N0 y Q' ⟨n,Δ++t,h'⟩):bH P r N0 (.region id ol.toArray true) (gN (fun s=>bH P r N0 y Q' s) Q) ⟨n,t,h⟩:=UC hm hl bC Δ h' e k
theorem re(bC:List (Nat×Ob P))(Δ:List (Nat×AV))(h':List ak)(e:Ay P false ol (jw bC) ⟨n,t,h⟩=some (Δ++t,h',jl bC))(k:Q .normal ⟨n,Δ++t,h'⟩):bH P r N0 (.region id ol.toArray false) Q ⟨n,t,h⟩:=ac1 bC Δ h' e k
theorem rde(hm:P.follows .mixedOrders=true)(hl:mi ol.toArray=true)(bC:List (Nat×Ob P))(Δ:List (Nat×AV))(h':List ak)(e:Ay P true ol (jw bC) ⟨n,t,h⟩=some (Δ++t,h',jl bC))(k:Q .normal ⟨n,Δ++t,h'⟩):bH P r N0 (.region id ol.toArray true) Q ⟨n,t,h⟩:=abR hm hl bC Δ h' e k
theorem PL(Δ:List (Nat×AV))(h':List ak)(e:∃bC:List (Nat×Ob P),mP P false ol (jw bC) (Δ.map (·.1)) ⟨n,t,h⟩=some (Δ,h',jl bC))(k:bH P r N0 y Q' ⟨n,Δ++t,h'⟩):bH P r N0 (.region id ol.toArray false) (gN (fun s=>bH P r N0 y Q' s) Q) ⟨n,t,h⟩:=aeh Δ h' e k
theorem rdE(hm:P.follows .mixedOrders=true)(hl:mi ol.toArray=true)(Δ:List (Nat×AV))(h':List ak)(e:∃bC:List (Nat×Ob P),mP P true ol (jw bC) (Δ.map (·.1)) ⟨n,t,h⟩=some (Δ,h',jl bC))(k:bH P r N0 y Q' ⟨n,Δ++t,h'⟩):bH P r N0 (.region id ol.toArray true) (gN (fun s=>bH P r N0 y Q' s) Q) ⟨n,t,h⟩:=aeP hm hl Δ h' e k
end
def bs(l:List UInt8):ByteArray:=⟨l.toArray⟩
def tv(x:D):Prop:=∃(S:Nat→Nat→Prop)(w:World)(u:Value),dC S w u x
theorem rb{xs:List (List D)}(h:tv (.sl xs)):xs.length≤maxLen:=by
 obtain⟨S,w,u,h⟩:=h;obtain⟨A,b',o,c',k',us,_,_,h1,h2,_⟩:=h.nW;exact agL h1 h2
theorem A2{xs:List (List D)}{i j:Nat}{c:List D}{d:D}(h:tv (.sl xs))(hc:xs[i]?=some c)(hd:c[j]?=some d):tv d:=by
 obtain⟨S,w,u,h⟩:=h;obtain⟨A,b',o,c',k',us,_,_,h1,h2,h3,h4,h5⟩:=h.nW;exact⟨S,w,_,h5 i j c d hc hd⟩
section
variable {P:Program} {r:Option Nat} {n N0:Nat} {s:St} {Q:Exit→St→Prop}
theorem oe{c:Code}(k:Nat)(xs:List (List D))(hx:(bz s.t k).fG=some xs)(h:tv (.sl xs)→bH P r N0 c Q s):bH P r N0 c Q s:=by
 constructor
 intro G w a n hs hN;exact(h ⟨_,_,_,(hs.tmp k).list hx⟩).run G w a n hs hN
theorem VI{c:Code}(b i:Nat)(xs:List (List D))(hx:((s.h[b]?).bind fun B=>match B with| .cells cs=>(cs[i]?).bind AV.fG|_=>none)=some xs)(h:tv (.sl xs)→bH P r N0 c Q s):bH P r N0 c Q s:=by
 constructor
 intro G w a n hs hN;cases hb:s.h[b]? with
 |none=>rw[hb]at hx;cases hx
 |some B=>
  rw[hb]at hx;cases B with
  |cells cs=>
   simp only[ags]at hx;obtain⟨_,_,vs,T,_,hl,hr⟩:=hs.inv.dp b _ hb;cases hc:cs[i]? with
   |none=>rw[hc]at hx;cases hx
   |some x=>
    rw[hc]at hx;have aO:i<vs.size:=by rw[hl];exact(agt.1 hc).1
    exact(h ⟨_,_,_,(hr i _ x (agP aO) hc).list hx⟩).run G w a n hs hN
  |_=>cases hx
end
end Go.Proofs.YtphmhnabilhbgaaGreatDoor
