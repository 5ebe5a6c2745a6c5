/-
  Part 2 of the proof: AbsZero, AbsIter, AbsCode, AbsWalk, GrowF, AbsDraw, AbsFrame, AbsRun.
-/
import Derived.Test.YtmkmibahjanejaaGreatDoorPp1
import Derived.Lib.AppendZeros
import Derived.Maps.RangeRun
namespace Go.Proofs.YtmkmibahjanejaaGreatDoor
open Go.RowKit Go.Lib
def J.isNil:J->Bool
 | .d (.v (.slice none 0 0))=>true
 |_=>false
theorem adL{x:J}(h:x.isNil=true):x= .d (.v (.slice none 0 0)):=by
 unfold J.isNil at h;split at h
 ·rfl
 ·cases h
def vV(P:agN)(op:Op)(ρ:Operand->J)(h:agK aj):agM (J×agK aj):=
 match op with
 | .slice T x lo hi none=>match dn P T,rT ρ 0 lo,rT ρ 0 hi with
   |some _,some 0,some 0=>bif (ρ x).isNil then some (.d (.v (.slice none 0 0)),h)else none
   |_,_,_=>none
 | .call c=>match c.callee with
   | .builtin .cap=>match c.args.toList,c.argTypes.toList with
     |[x],[T]=>bif (ρ x).isNil&&(dn P T).isSome then some (.d (.v (.int .i64 0)),h)else none
     |_,_=>none
   | .builtin .append=>match c.args.toList,c.argTypes.toList with
     |[x,y],[T,U]=>match dn P T,np P U,ρ y with
      |some (e,k),some _, .d (.v (.int _ (.ofNat m)))=>match gi P e,nV P e with
       |some z,some cq=>bif (ρ x).isNil&&bB 1 m&&bB 1 k&&z.cells.toList.length==k&&bB m maxLen&&bB (m*cq) 140737488355328 then some (.vec h.length 0 m m k,h++[.vec e k (List.replicate m (z.cells.toList.map λu=> .d (.v u)))])else none
       |_,_=>none
      |_,_,_=>none
     |_,_=>none
   |_=>none
 |_=>none
section
variable {P:agN} {r:agM Nat} {n N0:Nat} {G:Gh} {w:agP} {a:Act} {s:St} {o:Oper} {K:St->Prop} {Q:Exit->Act->agP->Prop}
theorem Ve{x:Operand}{T:TypeId}(c:Call)(hc:c.callee= .builtin .cap)(h1:c.args.toList=[x])(h2:c.argTypes.toList=[T])(ho:o.op= .call c):
 (execOp a.eval o).run P w=((Builtin.cap_ #[T] o.type #[a.eval x]).run P w).andThen λv w'=> .ok (.value v) w':=by
 have e1:c.args= #[x]:=by rw[<-Array.toList_inj];exact h1
 have e2:c.argTypes= #[T]:=by rw[<-Array.toList_inj];exact h2
 unfold execOp;simp only[ho,resolve,hc,e1,e2,invoke,builtin,Sem.run_bind,Sem.run_pure,Result.andThen_ok,List.map_toArray,agl,List.map_nil]
theorem Rj(hs:bU G w a s){x:agM Operand}(h:rT (ev s) 0 x=some 0):wX a x 0 0:=by
 cases x with
 |none=>rfl
 |some y=>exact Km (d:=0) hs h (Int.le_refl _)
theorem VJ{x:J}{h':agK aj}(hs:bU G w a s)(bE:N0<=G.N)(hx:vV P o.op (ev s) s.h=some (x,h'))(hK:K ((s.wh h').put o.dst x)):o.wpIn (WF r) n P a w (gw N0 G w K) Q:=by
 have cr:=hs.ev;have nil:∀{y:Operand},(ev s y).isNil=true->a.eval y= .slice none 0 0:=fun{y} h=>by
  have:=cr y;rw[adL h]at this;exact this.val
 unfold vV at hx;split at hx
 next T y lo hi ho=>
  split at hx
  ·next ek e1 e2 e3=>
   obtain⟨hb,he⟩:=jR hx;cases he
   obtain⟨dX,eC⟩:=elmT_spec e1;refine dQ (by rw[ho];simp) hs bE (v:= .slice none 0 0) ?_ (.d (.v _)) hK;have jh:=x7 (P:=P) (uH:=true) (Rj hs e2) (Rj hs e3) (af6 _) (af6 0) w;unfold execOp;simp [ho,nil hb,Instr.sliceAt,Instr.slice,run_underlying dX,jh,jX eC]
  ·cases hx
 next c ho=>
  split at hx
  ·next hc=>
   split at hx
   ·next y T e1 e2=>
    obtain⟨hb,he⟩:=jR hx;cases he
    rw[afX]at hb;cases hT:dn P T with
    |none=>rw[hT]at hb;cases hb.2
    |some ek=>
     obtain⟨dX,eC⟩:=elmT_spec hT;refine dQ (by rw[ho];simp) hs bE (v:= .int .i64 0) ?_ (.d (.v _)) hK;rw[Ve c hc e1 e2 ho,nil hb.1];simp [Builtin.cap_,run_underlying dX,goInt]
   ·cases hx
  ·next hc=>
   split at hx
   ·next y z T U e1 e2=>
    split at hx
    ·next e k kn kq m f1 f2 f3=>
     split at hx
     ·next zz cq g1 g2=>
      obtain⟨hb,he⟩:=jR hx;cases he
      simp only[afX,cN,beq_iff_eq]at hb;obtain⟨⟨⟨⟨⟨iT,jh⟩,vA⟩,nF⟩,IB⟩,J6⟩:=hb;clear hx;obtain⟨dX,eC⟩:=elmT_spec f1;obtain⟨i,iZ,hi1⟩:∃i,P.info? e=some i/\i.size=k:=by
       unfold eD at eC;cases hq:P.info? e with
       |none=>rw[hq]at eC;cases eC
       |some i=>rw[hq]at eC;exact⟨i,rfl,age eC⟩
      have hz:i.zero=some zz:=by unfold gi at g1;rw[iZ]at g1;exact g1
      have T6:i.bytes=cq:=by unfold nV at g2;rw[iZ]at g2;exact age g2
      subst hi1;subst T6;have hy:=cr z;rw[f3]at hy;have ey:a.eval z= .int kq (m:Nat):=hy.val;have cG:=run_append_nil_zeros (P:=P) w T U o.type e i zz kq kn dX (ED f2) iZ hz m (by omega) (by omega) (by have:=IB;simp [maxLen]at this;omega) (by omega);have gV:zz.cells.size=i.size:=by rw[<-agt];exact nF
      have e9:(List.replicate m (zz.cells.toList.map λu=>J.d (.v u))).length=m:=agw;obtain⟨cap,iy⟩:∃cap,cap=grownCap w m 0 e:=⟨_,rfl⟩;have iN:m<=cap:=by rw[iy];exact grownCap_ge _ _ _ _
      have hle:cap<=maxLen:=by rw[iy];exact grownCap_le_maxLen _ _ _ _ IB
      rw[<-iy]at cG;obtain⟨cur,ir⟩:∃cur,cur=Builtin.zeroCells zz.cells m++Builtin.zeroCells zz.cells (cap-m):=⟨_,rfl⟩;rw[<-ir]at cG;have eN:cur.size=cap*i.size:=by
        rw[ir,Array.size_append,size_zeroCells,size_zeroCells,gV,<-Nat.add_mul]
        congr 1
        omega
      obtain⟨G',q1,q2,q3,q4⟩:=K7 (e:=e) (k:=i.size) (cap:=cap) (cs:=List.replicate m (zz.cells.toList.map λu=>J.d (.v u))) (cur:=cur) hs.inv (by rw[e9];exact iN) hle eN (λc hc=>by
       rw[List.eq_of_mem_replicate hc,af0];exact nF) w.drew ⟨rfl,rfl,rfl,rfl⟩ (λa' b c x u hc hx hu=>by
       have:=List.eq_of_mem_replicate (af8 hc);subst this;rw[af2]at hx;cases hq:zz.cells.toList[b]? with
       |none=>rw[hq]at hx;cases hx
       |some y=>
        rw[hq]at hx;cases hx
        have gF:b<i.size:=by rw[<-nF];exact(afV.1 hq).1
        have IG:a'<m:=by have:=(afV.1 hc).1;rwa [e9]at this
        have az:a'*i.size+b<m*i.size:=kh IG gF;rw[ir,Array.getElem?_append_left (by rw[size_zeroCells,gV];exact az)]at hu;unfold Builtin.zeroCells at hu;rw[Array.getElem?_map,Array.getElem?_range,gV,if_pos az]at hu;simp only[Option.map_some,Option.some.injEq]at hu;rw[(Ca (i:=a') gF).2]at hu;have pn:zz.cells[b]?=some y:=by rw[<-agj];exact hq
        rw[getElem!_pos zz.cells b (by rw[gV];exact gF)]at hu;rw[agi (by rw[gV];exact gF)]at pn;cases pn
        subst hu;exact .d (.v _))
      rw[e9]at q4;refine kY (by rw[ho];simp) hs bE (by rw[yB c hc e1 e2 ho,nil iT,ey,cG];rfl) q1 q2 q3 (q4 m (af6 _)) hK
     ·cases hx
    ·cases hx
   ·cases hx
  ·cases hx
 next=>cases hx
end
end Go.Proofs.YtmkmibahjanejaaGreatDoor
namespace Go.Proofs.YtmkmibahjanejaaGreatDoor
open Go.RowKit
section
variable {G:Gh} {w:agP} {h:agK aj}
theorem Vl(hi:bg G w h){b mb c:Nat}(hr:ax G w (.map (some b)) (.mp mb)):a7 G.N G w (G.cA w.heap.size) (w.alloc (.mapIter (some b) c #[] c))/\bg (G.cA w.heap.size) (w.alloc (.mapIter (some b) c #[] c)) (h++[.it (c,[]) [.mp mb]])/\ax (G.cA w.heap.size) (w.alloc (.mapIter (some b) c #[] c)) (.pointer (some ⟨w.heap.size,0,none⟩)) (.ptr h.length 0):=by
 have hE:=wI G w hi.z hi.S (.mapIter (some b) c #[] c);have hN:G.N<=(G.cA w.heap.size).N:=Nat.le_succ _;have fq:(G.cA w.heap.size).aF h.length=w.heap.size:=by simp [Gh.cA,hi.len]
 have j7:∀n(B:aj),n<G.N->B.cS (G.cA w.heap.size) n=B.cS G n:=λn B hn=>by
  cases B<;>simp [aj.cS,Gh.cA,Nat.ne_of_lt hn]
 have eo:∀n,n<G.N->bj (h++[.it (c,[]) [.mp mb]]) (G.cA w.heap.size) n=bj h G n:=λn hn=>by
  have az:n<h.length:=by rw[hi.len];exact hn
  unfold bj;rw[af5 az,afZ az];exact j7 n _ hn
 have tG:bj (h++[.it (c,[]) [.mp mb]]) (G.cA w.heap.size) h.length=some w.heap.size:=by
  rw[cJ (B:= .it (c,[]) [.mp mb]) (by simp)];exact congrArg some fq
 refine⟨hE,⟨by simp [Gh.cA,hi.len],λb hb=>agk (hi.z b hb) hE.size,λb o hs=>agk (hi.S b o hs) hE.size,λn B hB=> ?_,λm n b hm hn=> ?_,hi.gl.aG hE⟩,?_⟩
 ·by_cases hn:n<h.length
  ·rw[af5 hn]at hB;have dA:n<G.N:=hi.len▸hn;exact cX.aG dA hE hN ⟨rfl,rfl,rfl⟩ (λb hb=>⟨Below.heap_alloc w _ _ (hi.fR (n:=n) ((cJ hB).trans hb)),λo h=>h⟩) (hi.b6 n B hB)
  ·have jH:n=h.length:=by
    have:=(afV.1 hB).1;simp at this;omega
   subst jH;simp at hB;subst hB;exact⟨by rw[fq];exact λhz=>agA _ (hi.z _ hz),λo hs=>by rw[fq]at hs;exact agA _ (hi.S _ _ hs),b, #[.map (some b)],(),by rw[fq];exact World.alloc_heap_new w _,⟨rfl,rfl⟩,λi u c hu hc=>by
    match i with
    |0=>cases hu;cases hc;exact hr.aG hE hN
    |i+1=>simp at hu⟩
 ·have key:∀n b,bj (h++[.it (c,[]) [.mp mb]]) (G.cA w.heap.size) n=some b->(n<G.N/\bj h G n=some b)\/(n=h.length/\b=w.heap.size):=λn b hn=>by
   by_cases az:n<G.N
   ·exact .inl ⟨az,by rw[<-eo n az];exact hn⟩
   ·by_cases e:n=h.length
    ·subst e;rw[tG]at hn;cases hn;exact .inr ⟨rfl,rfl⟩
    ·rw[ss (ags (by simp;have:=hi.len;omega))]at hn;cases hn
  rcases key m b hm with⟨_,iE⟩|⟨rfl,rfl⟩<;>rcases key n _ hn with⟨_,dA⟩|⟨rfl,hb⟩
  ·exact hi.inj m n b iE dA
  ·have:=hi.fR iE;omega
  ·have:=hi.fR dA;omega
  ·rfl
 ·have:=ax.ptr (G:=G.cA w.heap.size) (w:=w.alloc (.mapIter (some b) c #[] c)) h.length 0 (by simp [Gh.cA,hi.len])
  rwa [fq]at this
theorem CE{n mb:Nat}{sn:Nat×agK Nat}(hi:bg G w h)(hb:h[n]?=some (.it sn [.mp mb])):(∀o,¬G.S (G.aF n) o)/\w.heap[G.aF n]?=some (.mapIter (some (G.aF mb)) sn.1 sn.2.toArray sn.1)/\ax G w (.map (some (G.aF mb))) (.mp mb):=by
 obtain⟨h1,h2,fn,vs,_,h3,⟨_,h4⟩,h5⟩:=hi.b6 n _ hb;have:=h5 0 (.map (some fn)) (.mp mb) (by rw[h4];rfl) rfl;cases this with
 |mp _ az=>exact⟨h2,h3, .mp mb az⟩
theorem X0(hi:bg G w h):a7 G.N G w G w.drew/\bg G w.drew h:=by
 have hE:a7 G.N G w G w.drew:=⟨af6 _,λ_ _ h=>h,λ_ _ _=>rfl,λ_ _=>rfl,λ_ _=> .inl ⟨rfl,rfl⟩,fi rfl,λ_ _=>rfl,rfl,rfl,rfl,λ_ _ h=> .inl h⟩;exact⟨hE,hi.len,hi.z,hi.S,λn B hB=>cX.aG (hi.lt hB) hE (af6 _) ⟨rfl,rfl,rfl⟩ (λ_ _=>⟨rfl,λ_ h=>h⟩) (hi.b6 n B hB),hi.inj,hi.gl.aG hE⟩
end
def rC(P:agN)(o:Oper)(K:St->Prop)(s:St):Prop:=
 match o.op with
 | .range T m=>match pA P T,ev s m with
   |some _, .mp mb=>match s.h[mb]? with
    |some (.eE kv)=>K ((s.wh (s.h++[.it (kv.length,[]) [.mp mb]])).put o.dst (.ptr s.h.length 0))
    |_=>False
   |_,_=>False
 | .next it false=>match ev s it with
   | .ptr m 0=>match s.h[m]? with
     |some (.it sn [.mp mb])=>match s.h[mb]? with
      |some (.eE kv)=>sn.1=kv.length/\(∀b p,kv[b]?=some p->b ∉ sn.2->K ((s.wh (s.h.set m (.it (sn.1,sn.2++[b]) [.mp mb]))).put o.dst (.bp [.d (.v (.bool true)), .d (.v (.string p.1)), .d p.2])))/\((∀b,b<kv.length->b∈sn.2)->K (s.put o.dst (.bp [.d (.v (.bool false))])))
      |_=>False
     |_=>False
   |_=>False
 | .entry it=>match ev s it with
   | .ptr m 0=>match s.h[m]? with
     |some (.it sn [.mp mb])=>match s.h[mb]? with
      |some (.eE kv)=>sn.1=kv.length/\∃l b p,sn.2=l++[b]/\kv[b]?=some p/\K (s.put o.dst (.bp [.d (.v (.string p.1)), .d p.2]))
      |_=>False
     |_=>False
   |_=>False
 |_=>False
section
variable {P:agN} {r:agM Nat} {n N0:Nat} {G:Gh} {w:agP} {a:Act} {s:St} {o:Oper} {K:St->Prop} {Q:Exit->Act->agP->Prop}
theorem JL{mb:Nat}{kv:agK (agL×D)}(hi:bg G w s.h)(hb:s.h[mb]?=some (.eE kv)):∃es:Array MapEntry,w.heap[G.aF mb]?=some (.map es kv.length)/\rH G.S w es kv.length kv:=by
 obtain⟨_,_,es,c,h1,h2⟩:=hi.b6 mb _ hb;have:c=kv.length:=h2.ok.wO.trans h2.all.symm;subst this;exact⟨es,h1,h2⟩
theorem rH.mem{S:Nat->Nat->Prop}{es:Array MapEntry}{c:Nat}{kv:agK (agL×D)}(h:rH S w es c kv){e:MapEntry}(he:e∈es.toList):es[e.born]?=some e/\e.born<kv.length:=by
 obtain⟨i,hi,rfl⟩:=List.getElem_of_mem he;have hs:es[i]?=some es.toList[i]:=by simp
 have hb:=h.ok.born i _ hs;rw[hb];exact⟨hs,by rw[h.all];simpa using hi⟩
theorem acB(hs:bU G w a s)(bE:N0<=G.N)(hx:rC P o K s):o.wpIn (WF r) n P a w (gw N0 G w K) Q:=by
 have cr:=hs.ev;have ptr:∀{y:Operand}{n:Nat},ev s y= .ptr n 0->a.eval y= .pointer (some ⟨G.aF n,0,none⟩):=fun{y n} h=>by
  have:=cr y;rw[h]at this;generalize a.eval y=u at this;cases this;rfl
 unfold rC at hx;split at hx
 next T m ho=>
  split at hx
  ·next ke mb e1 e2=>
   split at hx
   ·next kv hb=>
    obtain⟨es,h1,h2⟩:=JL hs.inv hb;have hv:=cr m;rw[e2]at hv;have ea:a.eval m= .map (some (G.aF mb)):=by
     generalize a.eval m=u at hv;cases hv;rfl
    rw[ea]at hv;obtain⟨i1,i2,i3⟩:=Vl (c:=kv.length) hs.inv hv;obtain⟨k0,el⟩:=ke;refine kY (by rw[ho];simp) hs bE (v:= .pointer (some ⟨w.heap.size,0,none⟩)) (w':=w.alloc (.mapIter (some (G.aF mb)) kv.length #[] kv.length)) ?_ i1 (Nat.le_succ _) i2 i3 hx;unfold execOp;simp [ho,ea,Instr.range,run_underlying (zg e1),MapKept.run_getObj_map h1,Result.andThen]
   ·cases hx
  ·cases hx
 next it ho=>
  split at hx
  ·next m e1=>
   split at hx
   ·next sn mb hn=>
    split at hx
    ·next kv hb=>
     obtain⟨hc,Z8,hK2⟩:=hx;obtain⟨es,h1,h2⟩:=JL hs.inv hb;obtain⟨t1,t2,t3⟩:=CE hs.inv hn;rw[hc]at t2;have hr:=run_next_at (P:=P) w o.type _ _ _ _ _ _ _ t2 h1 (λx hx=>(h2.mem hx).2) (af6 _);rcases hr with⟨h0,hr⟩|⟨e',oH,w1,Di,hr⟩
     ·refine dQ (by rw[ho];simp) hs bE (v:= .tuple #[.bool false]) ?_ (.bp _ _ rfl λi u c hu hc=> ?_) (hK2 λb dZ=> ?_)
      ·unfold execOp;simp [ho,ptr e1,hr]
      ·match i with
       |0=>cases hu;cases hc;exact .d (.v _)
       |i+1=>simp at hu
      ·have az:b<es.size:=by rw[<-h2.all];exact dZ
       have CA:es[b]?=some es[b]:=agi az;have Ab:=h2.ok.born b _ CA;have Lu:leftOf es sn.2.toArray= #[]:=Array.eq_empty_of_size_eq_zero h0;unfold leftOf at Lu;rw[Array.filter_eq_empty_iff]at Lu;have:=Lu es[b] (Array.getElem_mem az);rw[Ab]at this
       simpa using this
     ·have hm:e'∈es.toList/\e'.born ∉ sn.2:=by
       unfold leftOf at oH;simp only[Array.toList_filter,List.mem_filter]at oH;exact⟨oH.1,by simpa using oH.2⟩
      obtain⟨q1,q2⟩:=h2.mem hm.1;obtain⟨p,p1,p2,p3⟩:=h2.ord _ _ q1;have hK:=Z8 e'.born p p1 hm.2;obtain⟨gg,s5⟩:a7 G.N G w G w1/\bg G w1 s.h:=by
       rcases Di with rfl|rfl
       ·exact⟨a7.refl _ _ _,hs.inv⟩
       ·exact X0 hs.inv
      obtain⟨U5,Zy,_⟩:=CE s5 hn;obtain⟨z1,z2,z3,z4,z5,z6,z7⟩:=s5.b6 m _ hn;obtain⟨gy,Ez⟩:=HO (B':= .it (sn.1,sn.2++[e'.born]) [.mp mb]) (uj:= .mapIter (some (G.aF mb)) kv.length (sn.2.toArray.push e'.born) kv.length) s5 hn rfl U5 Zy (.inr rfl) λw' fy dq hE=>by
       have hvv:=(CE s5 hn).2.2;refine⟨z1,z2,G.aF mb, #[.map (some (G.aF mb))],(),?_,⟨rfl,rfl⟩,λi u c hu hc=> ?_⟩
       ·rw[dq];simp [hc]
       ·match i with
        |0=>cases hu;cases hc;exact hvv.aG hE (af6 _)
        |i+1=>simp at hu
      refine kY (by rw[ho];simp) hs bE (v:= .tuple #[.bool true,e'.key,e'.val]) ?_ (gg.trans gy) (af6 _) Ez (.bp _ _ rfl λi u c hu hc=> ?_) hK
      ·unfold execOp;simp only[ho,ptr e1];simp [hr];rfl
      ·match i with
       |0=>cases hu;cases hc;exact .d (.v _)
       |1=>cases hu;cases hc;rw[p2];exact .d (.v _)
       |2=>cases hu;cases hc;exact .d (p3.aG (gg.trans gy).S (gg.trans gy).cell)
       |i+3=>simp at hu
    ·cases hx
   ·cases hx
  ·cases hx
 next it ho=>
  split at hx
  ·next m e1=>
   split at hx
   ·next sn mb hn=>
    split at hx
    ·next kv hb=>
     obtain⟨hc,l,b,p,hl,hp,hK⟩:=hx;obtain⟨es,h1,h2⟩:=JL hs.inv hb;obtain⟨t1,t2,t3⟩:=CE hs.inv hn;have az:b<es.size:=by rw[<-h2.all];exact(afV.1 hp).1
     have CA:es[b]?=some es[b]:=agi az;have Ab:=h2.ok.born b _ CA;obtain⟨p',p1,p2,p3⟩:=h2.ord _ _ CA;rw[hp]at p1;cases p1
     have gC:(es.toList.map (·.born)).Nodup:=by
      have e:es.toList.map (·.born)=List.range es.size:=by
       apply List.ext_getElem?;intro i;rw[af2,agj];by_cases hi:i<es.size
       ·rw[agi hi,Option.map_some,h2.ok.born i _ (agi hi),List.getElem?_range hi]
       ·rw[Array.getElem?_eq_none (by omega),ags (by simp;omega)];rfl
      rw[e];exact List.nodup_range
     have hr:=run_entry_at (P:=P) w (G.aF m) (G.aF mb) sn.1 l.toArray es kv.length es[b] (by rw[t2,hl,Ab,hc];simp) h1 (by simp) gC;refine dQ (by rw[ho];simp) hs bE (v:= .tuple #[es[b].key,es[b].val]) ?_ (.bp _ _ rfl λi u c hu hc=> ?_) hK
     ·unfold execOp;simp [ho,ptr e1,hr]
     ·match i with
      |0=>cases hu;cases hc;rw[p2];exact .d (.v _)
      |1=>cases hu;cases hc;exact .d p3
      |i+2=>simp at hu
    ·cases hx
   ·cases hx
  ·cases hx
 ·cases hx
end
def fk(ops:Array Oper)(o:Oper)(s:St)(yes no:Prop):Prop:=
 match o.guard with
 |none=>yes
 |some (j,want)=>match (ops[j]?).bind (·.dst)with
  |some d=>match aQ s.t d with
   | .d (.v (.bool b))=>(b=want->yes)/\(b= !want->no)
   | .d (.v (.tuple _))=>no
   |_=>False
  |none=>False
structure aX(P:Program)(r:Option Nat)(N0:Nat)(c:Code)(Q:Exit->St->Prop)(s:St):Prop where
 run:∀(G:Gh)(w:World)(a:Act)(n:Nat),bU G w a s->N0<=G.N->c.wpIn (WF r) n P (λe a' w'=>gw N0 G w (Q e) a' w') a w
def fA(K:St->Prop)(Q:Exit->St->Prop):Exit->St->Prop
 | .normal,s=>K s
 |e,s=>Q e s
def jU:Nat->agK J->agK (Nat×J)
 |_,[]=>[]
 |k,x::l=>(k,x)::jU (k+1) l
theorem KG:∀(l:agK J)(k i:Nat),aQ (jU k l) i=if k<=i then(l[i-k]?).getD .dead else .dead
 |[],k,i=>by simp [jU,aQ]
 |x::l,k,i=>by
  rw[jU,kF,KG l (k+1) i];by_cases h:i=k
  ·subst h;simp
  ·rw[if_neg h];by_cases h2:k<=i
   ·rw[if_pos (by omega),if_pos h2,show i-k=i-(k+1)+1 by omega,agx]
   ·rw[if_neg (by omega),if_neg h2]
def YS(P:agN)(k:Nat)(x:J)(h:agK aj)(C:Bool->agK aj->Prop):Prop:=
 ∀(G:Gh)(w:agP)(v:agO)(r:agM Nat)(n:Nat),bg G w h->ax G w v x->k<G.N/\∃(p:Nat)(as bd:Code)(fn:FuncId)(tm:Array agO)(D:Nat),
  w.heap[G.aF k]?=some (.loop {state:= .ready,pending:=none,fn:=fn,tmps:=tm,params:= #[p],assign:=as,body:=bd,defers:=D})/\
  RoundIn (WF r) n P (G.aF k) fn (tm.setIfInBounds p v) as bd w λe w'=>∃(b:Bool)(G':Gh)(h':agK aj),e= .returned (.bool b)/\a7 G.N G w G' w'/\G.N<=G'.N/\bg G' w' h'/\C b h'
def adw(C:Bool->agK aj->Prop)(k:Nat):Exit->St->Prop
 | .normal,s2=>∃p as bd iP,s2.h[k]?=some (.lp .busy p as bd iP)/\C true (s2.h.set k (.lp .ready p as bd iP))
 | .ret,s2=>∃p as bd iP,s2.h[k]?=some (.lp .busy p as bd iP)/\C false (s2.h.set k (.lp (.done .ret) p as bd iP))
 | .exit i,s2=>∃p as bd iP,s2.h[k]?=some (.lp .busy p as bd iP)/\C false (s2.h.set k (.lp (.done (.exit i)) p as bd iP))
 |_,_=>False
def FV(P:agN)(o:Oper)(K:St->Prop)(s:St):Prop:=
 match o.op with
 | .call c=>match c.callee with
   | .value f=>match ev s f,c.args.toList.map (ev s)with
     | .cm k,[x]=>YS P k x s.h λb h'=>K ((s.wh h').put o.dst (.d (.v (.bool b))))
     |_,_=>False
   |_=>False
 |_=>False
def Up(P:agN)(o:Oper)(K:St->Prop)(s:St):Prop:=∃x h',vV P o.op (ev s) s.h=some (x,h')/\K ((s.wh h').put o.dst x)
def lu(P:agN)(o:Oper)(K:St->Prop)(s:St):Prop:=Dt P o K s\/AO P o K s\/nC P o K s\/FV P o K s\/Up P o K s\/rC P o K s
def jk(P:agN)(ops:Array Oper):agK Oper->(St->Prop)->St->Prop
 |[],K,s=>K s
 |o::rest,K,s=>fk ops o s (lu P o (jk P ops rest K) s) (jk P ops rest K (s.put o.dst (.d (.v undef))))
def nB(id:Nat)(Q:Exit->St->Prop):Exit->St->Prop
 | .exit nr,s=>bif nr==id then Q .normal s else Q (.exit nr) s
 |e,s=>Q e s
section
variable {P:agN} {r:agM Nat} {n N0:Nat} {G:Gh} {w:agP} {a:Act} {s:St} {o:Oper} {Q:Exit->St->Prop}
theorem gw.mono{K K':St->Prop}(h:∀s,K s->K' s){a':Act}{w':agP}(hn:gw N0 G w K a' w'):gw N0 G w K' a' w':=
 let ⟨G',s',h1,h2,h3,h4⟩:=hn;⟨G',s',h1,h2,h3,h _ h4⟩
theorem gw.trans{K:St->Prop}{G1:Gh}{w1:agP}(hE:a7 N0 G w G1 w1){a':Act}{w':agP}(hn:gw N0 G1 w1 K a' w'):gw N0 G w K a' w':=
 let ⟨G',s',h1,h2,h3,h4⟩:=hn;⟨G',s',hE.trans h1,h2,h3,h4⟩
theorem aX.mono{c:Code}{Q':Exit->St->Prop}(h:aX P r N0 c Q s)(hq:∀e s,Q e s->Q' e s):aX P r N0 c Q' s:=
 ⟨λG w a n hs hN=>wpIn_mono (h.run G w a n hs hN) λe _ _ hn=>hn.mono (hq e)⟩
theorem He{ops:Array Oper}{yes no:Prop}(hs:bU G w a s)(h:fk ops o s yes no):if Region.wanted o (yielded ops a.tmps)then yes else no:=by
 unfold fk at h;split at h
 ·rename_i hg
  rw[if_pos (by simp [Region.wanted,hg])];exact h
 ·rename_i j want hg
  split at h
  ·rename_i d hd
   have hv:=hs.tmp d;split at h
   ·rename_i b hb
    rw[hb]at hv;have e:=hv.bool;have hy:yielded ops a.tmps j=some b:=by
      unfold yielded;rw[hd,afU];by_cases az:d<a.tmps.size
      ·rw[agi az];have:a.tmps.getD d undef=a.tmps[d]:=by simp [Array.getD,az]
       rw[this]at e;rw[e]
      ·have:a.tmps.getD d undef=undef:=by simp [Array.getD,az]
       rw[this]at e;cases e
    by_cases tZ:b=want
    ·rw[if_pos (by simp [Region.wanted,hg,hy,tZ])];exact h.1 tZ
    ·rw[if_neg (by simp [Region.wanted,hg,hy,tZ])];exact h.2 (by cases b<;>cases want<;>simp_all)
   ·rename_i vs hb
    rw[hb]at hv;have e:=hv.val;have hy:yielded ops a.tmps j=none:=by
      unfold yielded;rw[hd,afU];by_cases az:d<a.tmps.size
      ·rw[agi az];have:a.tmps.getD d undef=a.tmps[d]:=by simp [Array.getD,az]
       rw[this]at e;rw[e]
      ·rw[Array.getElem?_eq_none (Nat.le_of_not_lt az)]
    rw[if_neg (by simp [Region.wanted,hg,hy])];exact h
   ·exact h.elim
  ·exact h.elim
theorem YS.mono{k:Nat}{x:J}{h:agK aj}{C C':Bool->agK aj->Prop}(hy:YS P k x h C)(hc:∀b h',C b h'->C' b h'):YS P k x h C':=λG w v r n hi hv=>
 let ⟨h0,p,as,bd,fn,tm,D,h1,h2⟩:=hy G w v r n hi hv
 ⟨h0,p,as,bd,fn,tm,D,h1,h2.mono λ_ _ ⟨b,G',h',a1,a2,a3,a4,a5⟩=>⟨b,G',h',a1,a2,a3,a4,hc _ _ a5⟩⟩
theorem X9{k:Nat}{x:J}{h:agK aj}{C:Bool->agK aj->Prop}
 (hA:∃p as bd cs,h[k]?=some (.lp .ready p as bd cs)/\p<cs.length/\∀(l:Nat),aX P (some l) h.length as (fA (λs1=>∃p1 pY pP sr,s1.h[k]?=some (.lp .ready p1 pY pP sr)/\aX P (some l) h.length bd (adw C k) ⟨s1.n,s1.t,s1.h.set k (.lp .busy p1 pY pP sr)⟩) (λ_ _=>False)) ⟨cs.length,(p,x)::jU 0 cs,h⟩):YS P k x h C:=by
 intro G w v r n hi HY;obtain⟨p,as,bd,cs,hk,hp,hA⟩:=hA;have vo:k<G.N:=hi.lt hk;obtain⟨hS,fn,tm,D,h3,h4,h5,afT⟩:=Fk hi hk;refine⟨vo,p,as,bd,fn,tm,D,h3,?_⟩;refine roundIn_of_wpIn (F:=WF r) trivial ?_;have Kn:bU G w {tmps:=tm.setIfInBounds p v,defers:=[]} ⟨cs.length,(p,x)::jU 0 cs,h⟩:=by
  refine⟨by simp [h4],λi=> ?_,hi,n4.nil _ _⟩;show ax _ _ _ (aQ ((p,x)::jU 0 cs) i);rw[kF];split
  ·next e=>
   subst e;have:(tm.setIfInBounds i v).getD i undef=v:=by simp [Array.getD,h4,hp]
   rw[this];exact HY
  ·next e=>
   rw[KG];simp only[Nat.zero_le,if_true,Nat.sub_zero];cases fy:cs[i]? with
   |none=>exact .dead _
   |some y=>
    have az:i<tm.size:=by rw[h4];exact(afV.1 fy).1
    have:(tm.setIfInBounds p v).getD i undef=tm[i]:=by
     simp [Array.getD,az,Ne.symm e]
    rw[this];exact h5 i _ y (agi az) fy
 have BC:=hA (G.aF k);rw[hi.len]at BC;refine wpIn_mono (BC.run G w _ n Kn (af6 _)) λe1 a1 w1 zT=> ?_;obtain⟨G1,s1,gg,eO,dK,wx⟩:=zT;cases e1 with
 |normal=>
  obtain⟨p1,pY,pP,sr,qa,iT⟩:=wx;have FR:G1.aF k=G.aF k:=gg.aF k vo;obtain⟨_,Zv,ZV,D1,g3,g4,g5,QC⟩:=Fk dK.inv qa;obtain⟨gE,gI⟩:=QC .busy;rw[FR]at g3 gE gI;refine⟨_,run_beginRound g3 rfl,?_⟩;have wm:bU G1 (w1.putObj (G.aF k) (.loop {state:= .busy,pending:=none,fn:=Zv,tmps:=ZV,params:= #[p1],assign:=pY,body:=pP,defers:=D1})) a1 ⟨s1.n,s1.t,s1.h.set k (.lp .busy p1 pY pP sr)⟩:=dK.move gE (af6 _) gI;refine wpIn_mono (iT.run G1 _ a1 n wm eO) λe3 a3 w3 Xg=> ?_;obtain⟨G3,s3,ND,NV,hs3,nM⟩:=Xg;have fin:∀(jump:agM Code)(ls:LS)(b:Bool)(p:Nat)(as bd:Code)(iP:agK J),s3.h[k]?=some (.lp .busy p as bd iP)->ls.pd=jump->ls.st=(if jump.isNone then .ready else .done)->jump.isNone=b->C b (s3.h.set k (.lp ls p as bd iP))->
   ∃v w',(Instr.endRound (G.aF k) jump).run P w3= .ok v w'/\∃(b:Bool)(G':Gh)(h':agK aj),(Ending.returned v:Ending)= .returned (.bool b)/\a7 G.N G w G' w'/\G.N<=G'.N/\bg G' w' h'/\C b h':=λjump ls b p as bd iP hk3 q1 q2 q3 hK=>by
   have WU:G3.aF k=G.aF k:=(ND.aF k vo).trans FR;obtain⟨_,fn3,tm3,D3,z3,z4,z5,adl⟩:=Fk hs3.inv hk3;obtain⟨zE,zI⟩:=adl ls;rw[WU]at z3 zE zI;subst q1;have Aq:=run_endRound (P:=P) ls.pd z3;rw[<-q2]at Aq;refine⟨_,_,Aq,b,G3,_,by rw[q3],?_,NV,zI,hK⟩;exact(gg.trans ((gE.less eO).trans ND)).trans (zE.less NV)
  cases e3 with
  |normal=>obtain⟨p2,zH,zo,iP,y1,y2⟩:=nM;exact fin none .ready true p2 zH zo iP y1 rfl rfl rfl y2
  |ret=>obtain⟨p2,zH,zo,iP,y1,y2⟩:=nM;exact fin (some .ret) (.done .ret) false p2 zH zo iP y1 rfl rfl rfl y2
  |exit i=>obtain⟨p2,zH,zo,iP,y1,y2⟩:=nM;exact fin (some (.exit i)) (.done (.exit i)) false p2 zH zo iP y1 rfl rfl rfl y2
  |_=>exact nM.elim
 |_=>exact wx.elim
theorem ad7{K:St->Prop}{Q:Exit->Act->agP->Prop}(hs:bU G w a s)(hN:N0<=G.N)(h:FV P o K s):o.wpIn (WF r) n P a w (gw N0 G w K) Q:=by
 unfold FV at h;split at h
 ·next c ho=>
  split at h
  ·next f hc=>
   split at h
   ·next k x hf hx=>
    have hv:=hs.ev f;rw[hf]at hv;have ea:a.eval f= .func (.yield (G.aF k)) #[] #[]:=by
     generalize a.eval f=u at hv;cases hv;rfl
    obtain⟨p1,p2⟩:=yT hs c.args;obtain⟨v,mY⟩:∃v,c.args.map a.eval= #[v]:=by
     have:(c.args.map a.eval).size=1:=by rw[p1,hx];rfl
     exact⟨(c.args.map a.eval)[0],Array.ext (by simp [this]) λi h1 h2=>by
      have:i=0:=by simp at h2;exact h2
      subst this;rfl⟩
    have HY:ax G w v x:=p2 0 v x (by rw[mY];rfl) (by rw[hx];rfl);obtain⟨vo,p,as,bd,fn,tm,D,h3,hA⟩:=h G w v r (n-1) hs.inv HY;have gC:∀c',o.op≠ .defer c':=λc' e=>by rw[ho]at e;cases e
    have hy:=run_yield (P:=P) (args:= #[v]) h3 rfl;have cG:(o.semAt (WF r).round a.eval).run P w= .ok (.round (G.aF k) fn (tm.setIfInBounds p v) as bd) w:=by
     rw[Oper.semAt_eq _ _ _ gC];unfold execOp;simp only[ho,resolve,hc,ea];simp [Deferred.ofValue,invoke,mY,hy]
    unfold Oper.wpIn;refine⟨λg hg=>trivial,?_⟩;rw[cG,Oper.uponIn_round];refine⟨λh=>(by simp [WF,Fence.wide]at h),hA.mono λe w' hp=> ?_⟩;obtain⟨b,G',h',rfl,hE,QK,cy,hK⟩:=hp;exact⟨G',_,hE.less hN,agd hN QK,(hs.move hE QK cy).put (.d (.v _)) o.dst,hK⟩
   ·exact h.elim
  ·exact h.elim
 ·exact h.elim
theorem Yq{K:St->Prop}{Q:Exit->Act->agP->Prop}(hs:bU G w a s)(hN:N0<=G.N)(h:lu P o K s):o.wpIn (WF r) n P a w (gw N0 G w K) Q:=by
 rcases h with h|h|h|h|⟨x,h',h,hK⟩|h
 ·exact Ig hs hN (.inl h)
 ·exact Ig hs hN (.inr (.inl h))
 ·exact Ig hs hN (.inr (.inr h))
 ·exact ad7 hs hN h
 ·exact VJ hs hN h hK
 ·exact acB hs hN h
theorem GF{ops:Array Oper}{K:St->Prop}{Q':Exit->Act->agP->Prop}(hQ:∀a' w',gw N0 G w K a' w'->Q' .normal a' w'):∀(l:agK Oper)(k:Nat),(∀j,l[j]?=ops[k+j]?)->∀(G1:Gh)(w1:agP)(a:Act)(s:St),
 a7 N0 G w G1 w1->N0<=G1.N->bU G1 w1 a s->jk P ops l K s->wpOpsIn (WF r) n P ops Q' (List.range' k l.length) a w1
 |[],k,_,G1,w1,a,s,hE,hN,hs,h=>hQ _ _ ⟨G1,s,hE,hN,hs,h⟩
 |o::l,k,hl,G1,w1,a,s,hE,hN,hs,h=>by
  have h0:ops[k]?=some o:=by simpa using (hl 0).symm
  have mE:∀j,l[j]?=ops[k+1+j]?:=λj=>by have:=hl (j+1);simpa [Nat.add_assoc,Nat.add_comm 1 j]using this
  have hg:=He hs h;simp only[afY,List.range'_succ,wpOpsIn,h0];split
  ·rename_i hw
   rw[if_pos hw]at hg;exact Oper.wpIn_mono (λa' w' hn=>by
     obtain⟨G2,s2,e2,n2,Hp,k2⟩:=hn;exact GF hQ l (k+1) mE G2 w' a' s2 (hE.trans e2) n2 Hp k2) (Yq hs hN hg)
  ·rename_i hw
   rw[if_neg hw]at hg;exact⟨λ_ _=>trivial,GF hQ l (k+1) mE G1 w1 _ _ hE hN (hs.put (.d (.v undef)) o.dst) hg⟩
theorem er{id:Nat}{ops:Array Oper}(h:jk P ops ops.toList (Q .normal) s):aX P r N0 (.region id ops false) Q s:=by
 constructor
 intro G w a n hs hN;refine wpIn_region ?_;rw[List.range_eq_range',<-agt];exact GF (G:=G) (w:=w) (K:=Q .normal) (λ_ _ h=>h) ops.toList 0 (by simp) G w a s (a7.refl _ _ _) hN hs h
theorem gQ(h:Q .normal s):aX P r N0 .skip Q s:=⟨λG _ _ _ hs hN=>wpIn_skip ⟨G,s,a7.refl _ _ _,hN,hs,h⟩⟩
theorem e7(h:Q .ret s):aX P r N0 .ret Q s:=⟨λG _ _ _ hs hN=>wpIn_ret ⟨G,s,a7.refl _ _ _,hN,hs,h⟩⟩
theorem qQ{id:Nat}(h:Q (.exit id) s):aX P r N0 (.exit id) Q s:=⟨λG _ _ _ hs hN=>wpIn_exit ⟨G,s,a7.refl _ _ _,hN,hs,h⟩⟩
theorem bA{x y:Code}(h:aX P r N0 x (fA (λs'=>aX P r N0 y Q s') Q) s):aX P r N0 (.seq x y) Q s:=by
 constructor
 intro G w a n hs hN;refine wpIn_seq (wpIn_mono (h.run G w a n hs hN) λe a1 w1 hn=> ?_);obtain⟨G1,s1,hE,eO,dK,hq⟩:=hn;cases e with
 |normal=>exact wpIn_mono (hq.run G1 w1 a1 n dK eO) λ_ _ _ hn=>hn.trans hE
 |_=>exact⟨G1,s1,hE,eO,dK,hq⟩
theorem xc{c:Operand}{x y:Code}{t:Bool}(hc:ev s c= .d (.v (.bool t)))(h1:t=true->aX P r N0 x Q s)(h2:t=false->aX P r N0 y Q s):aX P r N0 (.cond c x y) Q s:=by
 constructor
 intro G w a n hs hN;have hb:=hs.ev c;rw[hc]at hb;exact wpIn_cond_split hb.bool (λe=>(h1 e).run G w a n hs hN) (λe=>(h2 e).run G w a n hs hN)
theorem iS{id:Nat}{c:Code}(h:aX P r N0 c (nB id Q) s):aX P r N0 (.block id c) Q s:=by
 constructor
 intro G w a n hs hN;refine wpIn_block (wpIn_mono (h.run G w a n hs hN) λe a1 w1 hn=> ?_);obtain⟨G1,s1,hE,eO,dK,hq⟩:=hn;cases e with
 |exit nr=>
  by_cases he:nr=id
  ·simp only[nB,he,BEq.rfl,cond_true]at hq;simp only[Exit.inBlock,if_pos he];exact⟨G1,s1,hE,eO,dK,hq⟩
  ·have WY:(nr==id)=false:=by simpa using he
   simp only[nB,WY,cond_false]at hq;simp only[Exit.inBlock,if_neg he];exact⟨G1,s1,hE,eO,dK,hq⟩
 |_=>exact⟨G1,s1,hE,eO,dK,hq⟩
theorem Iq{F:Fence}{c:Code}{Q:Exit->Act->agP->Prop}{ι:Type}(I:ι->Act->agP->Prop)(μ:ι->Nat)(i0:ι)(h₀:I i0 a w)
 (round:∀i a w,I i a w->c.wpIn F n P (Exit.then (λa' w'=>∃i',I i' a' w'/\μ i'<μ i) Q) a w):(Code.loop c).wpIn F n P Q a w:=by
 intro b k cs wA hb hr;have key:∀j i a w,μ i=j->I i a w->
  ∃e a' w',Q e a' w'/\ArrivesIn (Machine.fenced P F) P (lone (b.atR a (.code c:: .inLoop c::k)) cs w) b k cs e a' w':=by
  intro j
  induction j using Nat.strongRecOn with
  |_ j ih=>
   intro i a w hn hI;obtain⟨e,a₁,w₁,hq,rN⟩:=round i a w hI b (.inLoop c::k) cs wA hb hr;cases e with
   |normal=>
    obtain⟨i',ZR,az⟩:=hq;obtain⟨e₂,a₂,w₂,XF,Ud⟩:=ih (μ i') (hn▸az) i' a₁ w₁ rfl ZR;exact⟨e₂,a₂,w₂,XF, .of_steps (StepsIn.trans rN (.one (fenced_calm hb hr rfl) stepR_inLoop)) Ud⟩
   |exit id=>exact⟨_,a₁,w₁,hq, .pass (x:= .inLoop c) rfl (λ_ _=> .inl (by simp)) rN⟩
   |goto l=>exact⟨_,a₁,w₁,hq, .pass (x:= .inLoop c) rfl (λ_ _=> .inl (by simp)) rN⟩
   |ret=>exact⟨_,a₁,w₁,hq, .pass (x:= .inLoop c) rfl (λ_ _=> .inl (by simp)) rN⟩
   |panic ch=>exact⟨_,a₁,w₁,hq, .pass (x:= .inLoop c) rfl (λ_ _=> .inl (by simp)) rN⟩
   |outgrown=>exact⟨_,a₁,w₁,hq, .pass (x:= .inLoop c) rfl (λ_ _=> .inl (by simp)) rN⟩
 obtain⟨e,a',w',hq,rN⟩:=key _ i0 a w rfl h₀;exact⟨e,a',w',hq, .of_steps (.one (fenced_calm hb hr rfl) stepR_loop) rN⟩
end
mutual
def J.aS(m:Nat):J->J
 | .own n xs=>bif bB m n then .d (.sl xs)else .own n xs
 | .agg cs=> .agg (J.mn m cs)
 | .bp cs=> .bp (J.mn m cs)
 | .fn f cs=> .fn f (J.mn m cs)
 |x=>x
def J.mn(m:Nat):agK J->agK J
 |[]=>[]
 |x::l=>x.aS m::J.mn m l
end
mutual
def J.aA(m:Nat):J->Bool
 | .own n _| .ptr n _| .row n _ _ _ _| .mp n| .cm n| .vec n _ _ _ _| .cz n _ _ _ _=> !bB m n
 | .agg cs=>J.kK m cs
 | .bp cs=>J.kK m cs
 | .fn _ cs=>J.kK m cs
 |_=>true
def J.kK(m:Nat):agK J->Bool
 |[]=>true
 |x::l=>x.aA m&&J.kK m l
end
theorem Ad(m:Nat):∀l,J.mn m l=l.map (J.aS m)
 |[]=>by simp [J.mn]
 |x::l=>by simp [J.mn,Ad m l]
theorem kW(m:Nat):∀l,J.kK m l=l.all (J.aA m)
 |[]=>by simp [J.kK]
 |x::l=>by simp [J.kK,kW m l]
def aj.aS(m:Nat):aj->aj
 | .cells cs=> .cells (cs.map (J.aS m))
 | .lp ls p as bd cs=> .lp ls p as bd (cs.map (J.aS m))
 | .it sn cs=> .it sn (cs.map (J.aS m))
 | .vec e k cs=> .vec e k (cs.map (·.map (J.aS m)))
 |B=>B
def aj.aA(m:Nat):aj->Bool
 | .cells cs=>cs.all (J.aA m)
 | .lp _ _ _ _ cs=>cs.all (J.aA m)
 | .it _ cs=>cs.all (J.aA m)
 | .vec _ _ cs=>cs.all (·.all (J.aA m))
 |_=>true
theorem ax.aS{G:Gh}{w:agP}(m:Nat){u:agO}{x:J}(h:ax G w u x):ax G w u (x.aS m):=by
 have eP:∀(vs:Array agO)(cs:agK J),(∀(i:Nat)(u:agO)(c:J),vs[i]?=some u->cs[i]?=some c->ax G w u (c.aS m))->∀(i:Nat)(u:agO)(c:J),vs[i]?=some u->(J.mn m cs)[i]?=some c->ax G w u c:=by
  intro vs cs ih i u c hu hc;rw[Ad,af2]at hc;cases hx:cs[i]? with
  |none=>rw[hx]at hc;cases hc
  |some x=>rw[hx]at hc;cases hc;exact ih i u x hu hx
 induction h with
 |agg vs cs hl _ ih=>rw[J.aS];exact .agg vs _ (by rw[Ad,af0];exact hl) (eP vs cs ih)
 |bp vs cs hl _ ih=>rw[J.aS];exact .bp vs _ (by rw[Ad,af0];exact hl) (eP vs cs ih)
 |fn f vs cs hl _ ih=>rw[J.aS];exact .fn f vs _ (by rw[Ad,af0];exact hl) (eP vs cs ih)
 |own n xs h hp hle hf=>
  rw[J.aS,cond_eq_ite];split
  ·exact .d hp
  ·exact .own n xs h hp hle hf
 |d h=>simp only[J.aS];exact .d h
 |ptr n off h=>simp only[J.aS];exact .ptr n off h
 |aY xs i off b o u x hx hS hu=>simp only[J.aS];exact .aY xs i off b o u x hx hS hu
 |full xs hp hf=>simp only[J.aS];exact .full xs hp hf
 |row n off len cap k h hl hm=>simp only[J.aS];exact .row n off len cap k h hl hm
 |mp n h=>simp only[J.aS];exact .mp n h
 |cm n h=>simp only[J.aS];exact .cm n h
 |vec n o len L k h hs hL hf=>simp only[J.aS];exact .vec n o len L k h hs hL hf
 |cz n i j L k h hs hL hf=>simp only[J.aS];exact .cz n i j L k h hs hL hf
 |hid h h1=>simp only[J.aS];exact .hid h h1
 |dead u=>simp only[J.aS];exact .dead u
def Gh.cut(G:Gh)(m:Nat):Gh:={G with N:=m}
theorem ax.cut{G:Gh}{w:agP}{m:Nat}{u:agO}{x:J}(h:ax G w u x)(hb:x.aA m=true):ax (G.cut m) w u x:=by
 induction h with
 |agg vs cs hl _ ih=>
  rw[J.aA,kW,agm]at hb;exact .agg vs cs hl λi u c hu hc=>ih i u c hu hc (hb c (af8 hc))
 |bp vs cs hl _ ih=>
  rw[J.aA,kW,agm]at hb;exact .bp vs cs hl λi u c hu hc=>ih i u c hu hc (hb c (af8 hc))
 |fn f vs cs hl _ ih=>
  rw[J.aA,kW,agm]at hb;exact .fn f vs cs hl λi u c hu hc=>ih i u c hu hc (hb c (af8 hc))
 |own n xs h hp hle hf=>rw[J.aA]at hb;exact .own n xs (show n<m by rw[Bool.not_eq_true',<-Bool.not_eq_true,cN]at hb;omega) hp hle hf
 |ptr n off h=>rw[J.aA]at hb;exact .ptr (G:=G.cut m) n off (show n<m by rw[Bool.not_eq_true',<-Bool.not_eq_true,cN]at hb;omega)
 |row n off len cap k h hl hm=>rw[J.aA]at hb;exact .row (G:=G.cut m) n off len cap k (show n<m by rw[Bool.not_eq_true',<-Bool.not_eq_true,cN]at hb;omega) hl hm
 |mp n h=>rw[J.aA]at hb;exact .mp (G:=G.cut m) n (show n<m by rw[Bool.not_eq_true',<-Bool.not_eq_true,cN]at hb;omega)
 |cm n h=>rw[J.aA]at hb;exact .cm (G:=G.cut m) n (show n<m by rw[Bool.not_eq_true',<-Bool.not_eq_true,cN]at hb;omega)
 |vec n o len L k h hs hL hf=>rw[J.aA]at hb;exact .vec (G:=G.cut m) n o len L k (show n<m by rw[Bool.not_eq_true',<-Bool.not_eq_true,cN]at hb;omega) hs hL hf
 |cz n i j L k h hs hL hf=>rw[J.aA]at hb;exact .cz (G:=G.cut m) n i j L k (show n<m by rw[Bool.not_eq_true',<-Bool.not_eq_true,cN]at hb;omega) hs hL hf
 |hid h h1=>exact .hid (G:=G.cut m) h h1
 |d h=>exact .d h
 |aY xs i off b o u x hx hS hu=>exact .aY xs i off b o u x hx hS hu
 |full xs hp hf=>exact .full xs hp hf
 |dead u=>exact .dead u
def St.mask(s:St)(live:agK Nat)(m:Nat):St:={s with t:=live.map λk=>(k,(aQ s.t k).aS m),h:=(s.h.take m).map (aj.aS m)}
def St.wT(s:St)(live:agK Nat)(m:Nat):Prop:=m<=s.h.length/\(live.all λk=>((aQ s.t k).aS m).aA m)=true/\(((s.h.take m).map (aj.aS m)).all (aj.aA m))=true
theorem oG(f:Nat->J):∀(live:agK Nat)(i:Nat),aQ (live.map λk=>(k,f k)) i=if i∈live then f i else .dead
 |[],i=>by simp [aQ]
 |k::l,i=>by
  simp only[agl,kF,oG f l i,agq];by_cases h:i=k
  ·subst h;simp
  ·simp [h]
theorem H4{G:Gh}{w:agP}{h:agK aj}(hi:bg G w h){m:Nat}(hm:m<=h.length)(hb:(((h.take m).map (aj.aS m)).all (aj.aA m))=true):bg (G.cut m) w ((h.take m).map (aj.aS m)):=by
 have dt:∀(n:Nat)(B:aj),((h.take m).map (aj.aS m))[n]?=some B->n<m/\∃B',h[n]?=some B'/\B=B'.aS m/\(B'.aS m).aA m=true:=λn B hB=>by
  have s7:=agm.1 hb B (af8 hB);rw[af2,List.getElem?_take]at hB;split at hB
  ·rename_i hn
   cases hx:h[n]? with
   |none=>rw[hx]at hB;cases hB
   |some B'=>rw[hx]at hB;cases hB;exact⟨hn,B',rfl,rfl,s7⟩
  ·cases hB
 have db:∀n b,bj ((h.take m).map (aj.aS m)) (G.cut m) n=some b->bj h G n=some b:=λn b hb=>by
  obtain⟨B,hB,hb⟩:=ly hb;obtain⟨_,B',h1,rfl,_⟩:=dt n B hB;rw[cJ h1,<-hb];cases B'<;>rfl
 refine⟨by simp [Gh.cut];omega,hi.z,hi.S,λn B hB=> ?_,λi j b h1 h2=>hi.inj i j b (db i b h1) (db j b h2),hi.gl⟩;obtain⟨hn,B',h1,rfl,s7⟩:=dt n B hB;have c8:=hi.b6 n B' h1;cases B' with
 |gone=>trivial
 |front e k len=>exact c8
 |map kv=>exact c8
 |eE kv=>exact c8
 |vec e k cs=>
  obtain⟨c1,c2,c3,c4⟩:=c8;refine⟨by rw[af0];exact c1,by rw[af0];exact c2,λc hc=> ?_,?_⟩
  ·obtain⟨x,hx,rfl⟩:=List.mem_map.1 hc;rw[af0];exact c3 x hx
  ·rcases c4 with⟨d1,d2,A,d3⟩|⟨g,cap,cur,d1,d2,d3,d4,d5,d6,d7,d8,d9⟩
   ·exact .inl ⟨d1,by rw[d2];rfl,A,d3⟩
   ·refine .inr ⟨g,cap,cur,d1,by rw[af0];exact d2,d3,d4,by rw[af0];exact d5,d6,d7,d8,λi j c x u hc hx hu=> ?_⟩;simp only[aj.aS,aj.aA,agm]at s7;rw[af2]at hc;cases hy:cs[i]? with
    |none=>rw[hy]at hc;cases hc
    |some y=>
     rw[hy]at hc;cases hc
     have hz:=hx;rw[af2]at hx;cases hw:y[j]? with
     |none=>rw[hw]at hx;cases hx
     |some z=>
      rw[hw]at hx;cases hx
      exact((d9 i j y z u hy hw hu).aS m).cut (s7 _ (List.mem_map.2 ⟨y,af8 hy,rfl⟩) _ (af8 hz))
 |cells cs=>
  obtain⟨c1,c2,vs,T,c3,c4,c5⟩:=c8;refine⟨c1,c2,vs,T,c3,by rw[af0];exact c4,λi u c hu hc=> ?_⟩;have iF:=af8 hc;rw[af2]at hc;cases hx:cs[i]? with
  |none=>rw[hx]at hc;cases hc
  |some x=>
   rw[hx]at hc;cases hc
   exact((c5 i u x hu hx).aS m).cut (agm.1 s7 _ iF)
 |lp ls p as bd cs=>
  obtain⟨c1,c2,fn,vs,T,c3,c4,c5⟩:=c8;refine⟨c1,c2,fn,vs,T,c3,by rw[af0];exact c4,λi u c hu hc=> ?_⟩;have iF:=af8 hc;rw[af2]at hc;cases hx:cs[i]? with
  |none=>rw[hx]at hc;cases hc
  |some x=>
   rw[hx]at hc;cases hc
   exact((c5 i u x hu hx).aS m).cut (agm.1 s7 _ iF)
 |it sn cs=>
  obtain⟨c1,c2,fn,vs,T,c3,c4,c5⟩:=c8;refine⟨c1,c2,fn,vs,T,c3,by rw[af0];exact c4,λi u c hu hc=> ?_⟩;have iF:=af8 hc;rw[af2]at hc;cases hx:cs[i]? with
  |none=>rw[hx]at hc;cases hc
  |some x=>
   rw[hx]at hc;cases hc
   exact((c5 i u x hu hx).aS m).cut (agm.1 s7 _ iF)
theorem mO(N:Nat)(G:Gh)(w:agP)(m:Nat):a7 N G w (G.cut m) w:=
 ⟨af6 _,λ_ _ h=>h,λ_ _ _=>rfl,λ_ _=>rfl,λ_ _=> .inl ⟨rfl,rfl⟩,fi rfl,λ_ _=>rfl,rfl,rfl,rfl,λ_ _ h=> .inl h⟩
section
variable {P:agN} {r:agM Nat} {n N0:Nat} {G:Gh} {w:agP} {a:Act} {s:St} {o:Oper} {Q:Exit->St->Prop}
theorem bU.mask(hs:bU G w a s){live:agK Nat}{m:Nat}(h:s.wT live m):bU (G.cut m) w a (s.mask live m):=by
 obtain⟨h1,h2,h3⟩:=h;refine⟨hs.size,λi=> ?_,H4 hs.inv h1 h3,hs.df⟩;show ax _ _ _ (aQ (live.map λk=>(k,(aQ s.t k).aS m)) i);rw[oG (λk=>(aQ s.t k).aS m)];split
 ·rename_i hi
  exact((hs.tmp i).aS m).cut (agm.1 h2 i hi)
 ·exact .dead _
theorem LB{c:Code}{ι:Type}(live:agK Nat)(m:Nat)(st:ι->St)(I:ι->Prop)(μ:ι->Nat)(i0:ι)(hm:N0<=m)(bh:s.wT live m)(h0:s.mask live m=st i0)(hI:I i0)
 (round:∀i,I i->aX P r N0 c (fA (λs'=>s'.wT live m/\∃i',s'.mask live m=st i'/\I i'/\μ i'<μ i) Q) (st i)):aX P r N0 (.loop c) Q s:=by
 constructor
 intro G w a n hs _;refine Iq (λ(i:ι) a' w'=>∃G',I i/\a7 N0 G w G' w'/\N0<=G'.N/\bU G' w' a' (st i)) μ i0 ⟨G.cut m,hI,mO _ _ _ _,hm,h0▸hs.mask bh⟩ ?_;rintro i a' w' ⟨G',hi,hE,hN,bR⟩;refine wpIn_mono ((round i hi).run G' w' a' n bR hN) λe a1 w1 hn=> ?_;obtain⟨G1,s1,gg,eO,dK,hq⟩:=hn;cases e with
 |normal=>
  obtain⟨Yn,i',h1,h2,h3⟩:=hq;exact⟨i',⟨G1.cut m,h2,(hE.trans gg).trans (mO _ _ _ _),hm,h1▸dK.mask Yn⟩,h3⟩
 |_=>exact⟨G1,s1,hE.trans gg,eO,dK,hq⟩
def kr(P:agN)(s:St):agK ResultVar->(agK J->Prop)->Prop
 |[],C=>C []
 | .tmp t::l,C=>kr P s l λxs=>C (aQ s.t t::xs)
 | .cell p t::l,C=>lH P t s.h (aQ s.t p) λx=>kr P s l λxs=>C (x::xs)
def iO:agK J->J
 |[x]=>x
 |l=> .bp l
def o8(P:agN)(fn:Func)(m:Nat)(K:J->agK aj->Prop)(s:St):Prop:=
 kr P s fn.results.toList λl=>m<=s.h.length/\((iO l).aS m).aA m=true/\(((s.h.take m).map (aj.aS m)).all (aj.aA m))=true/\K ((iO l).aS m) ((s.h.take m).map (aj.aS m))
def Ce(P:agN)(fn:Func)(m:Nat)(K:J->agK aj->Prop):Exit->St->Prop
 | .normal,s=>o8 P fn m K s
 | .ret,s=>o8 P fn m K s
 |_,_=>False
theorem W7{C:agK J->Prop}(hs:bU G w a s)(g:ResultVar->Sem agO)(hg1:∀t,g (.tmp t)=pure (a.tmps.getD t undef))(yY:∀p t,g (.cell p t)=(do loadVar t (<-asAddr (a.tmps.getD p undef)))):
 ∀(l:agK ResultVar),kr P s l C->∃(vs:agK agO)(xs:agK J),(l.mapM g).run P w= .ok vs w/\vs.length=xs.length/\(∀(i:Nat)(u:agO)(c:J),vs[i]?=some u->xs[i]?=some c->ax G w u c)/\C xs:=by
 intro l
 induction l generalizing C with
 |nil=>exact λh=>⟨[],[],by simp,rfl,λi u c hu=>by simp at hu,h⟩
 |cons x l ih=>
  intro h;cases x with
  |tmp t=>
   obtain⟨vs,xs,h1,h2,h3,h4⟩:=ih h;refine⟨a.tmps.getD t undef::vs,aQ s.t t::xs,by simp only[List.mapM_cons,hg1,Sem.run_bind,Sem.run_pure,Result.andThen_ok,h1],by simp [h2],λi u c hu hc=> ?_,h4⟩
   match i with
   |0=>simp only[List.getElem?_cons_zero,Option.some.injEq]at hu hc;subst hu;subst hc;exact hs.tmp t
   |i+1=>exact h3 i u c (by simpa using hu) (by simpa using hc)
  |cell p t=>
   obtain⟨u0,x0,r1,r2,r3⟩:=No (P:=P) hs.inv (hs.tmp p) h;obtain⟨vs,xs,h1,h2,h3,h4⟩:=ih r3;have hv:=hs.tmp p;have e:∃ad,a.tmps.getD p undef= .pointer (some ad):=by
    have h':lH P t s.h (aQ s.t p) λx=>kr P s l λxs=>C (x::xs):=h;generalize a.tmps.getD p undef=v at hv r1;generalize aQ s.t p=y at hv h';cases hv with
    |ptr=>exact⟨_,rfl⟩
    |aY=>exact⟨_,rfl⟩
    |_=>exact(show False from h').elim
   obtain⟨ad,e⟩:=e;rw[e]at r1;have Zr:(loadVar t ad).run P w= .ok u0 w:=by simpa [Instr.loadAt,Instr.sureAddr]using r1
   have ha:(asAddr (a.tmps.getD p undef)).run P w= .ok ad w:=by rw[e];rfl
   refine⟨u0::vs,x0::xs,by simp only[List.mapM_cons,yY,Sem.run_bind,Sem.run_pure,Result.andThen_ok,h1,ha,Zr],by simp [h2],λi u c hu hc=> ?_,h4⟩
   match i with
   |0=>simp only[List.getElem?_cons_zero,Option.some.injEq]at hu hc;subst hu;subst hc;exact r2
   |i+1=>exact h3 i u c (by simpa using hu) (by simpa using hc)
theorem aac:∀(vs:agK agO)(xs:agK J),vs.length=xs.length->(∀(i:Nat)(u:agO)(c:J),vs[i]?=some u->xs[i]?=some c->ax G w u c)->ax G w (if h:vs.toArray.size=1 then vs.toArray[0]else .tuple vs.toArray) (iO xs)
 |[v],[x],_,h=>h 0 v x rfl rfl
 |[],[],_,_=> .bp _ _ rfl λi u c hu=>by simp at hu
 |v::u::vs,x::y::xs,hl,h=>by
  have:¬(v::u::vs).toArray.size=1:=by simp
  rw[dif_neg this];exact .bp _ _ (by simpa using hl) λi p q hp hq=>h i p q (by simpa using hp) hq
 |[],_::_,hl,_=>by simp at hl
 |_::_,[],hl,_=>by simp at hl
 |[_],_::_::_,hl,_=>by simp at hl
 |_::_::_,[_],hl,_=>by simp at hl
theorem aeu{fn:Func}{m:Nat}{K:J->agK aj->Prop}(hs:bU G w a s)(h:o8 P fn m K s):∃v G' r h',(results fn a.tmps).run P w= .ok v w/\a7 N0 G w G' w/\m<=G'.N/\bg G' w h'/\ax G' w v r/\K r h':=by
 obtain⟨g,hg⟩:∃g:ResultVar->Sem agO,results fn a.tmps=(do let vs <-fn.results.mapM g;pure (if h:vs.size=1 then vs[0]else .tuple vs))/\(∀t,g (.tmp t)=pure (a.tmps.getD t undef))/\(∀p t,g (.cell p t)=(do loadVar t (<-asAddr (a.tmps.getD p undef)))):=
  ⟨_,rfl,λ_=>rfl,λ_ _=>rfl⟩
 obtain⟨vs,xs,h1,h2,h3,h4,h5,h6,h7⟩:=W7 hs g hg.2.1 hg.2.2 fn.results.toList h;have hr:(results fn a.tmps).run P w= .ok (if h:vs.toArray.size=1 then vs.toArray[0]else .tuple vs.toArray) w:=by
  rw[hg.1,Sem.run_bind,Array.mapM_eq_mapM_toList];have e:∀X:Sem (agK agO),(Functor.map List.toArray X:Sem _)=X>>=λl=>pure l.toArray:=λ_=>rfl;rw[e,Sem.run_bind,h1];rfl
 have hv:=aac vs xs h2 h3;exact⟨_,G.cut m,_,_,hr,mO _ _ _ _,af6 _,H4 hs.inv h4 h6,(hv.aS m).cut h5,h7⟩
theorem zb{f:FuncId}{fn:Func}{c:Code}{args:agK J}{h:agK aj}{K:J->agK aj->Prop}(m:Nat)(hf:P.funcs[f]?=some fn)(hb:fn.body=some c)(hn:(fn.name== "runtime.NumGoroutine")=false)(hm:h.length<=m)
 (hw:aX P none h.length c (Ce P fn m K) {n:=args.length+(fn.ntmps-args.length),t:=jU 0 args,h:=h}):b5 P f args h K:=by
 refine⟨by unfold Dj;rw[hf];simp [hb];simpa using hn,λG w vs hi hl hr=> ?_⟩;refine callsIn_wide (n:=8).1 (callsIn_of_wp_marks (F:=Fence.wide) hf hb trivial ?_);have hs:bU {G with M:=w.heap.size} w {tmps:=vs++Array.replicate (fn.ntmps-vs.size) undef,defers:=[]} {n:=args.length+(fn.ntmps-args.length),t:=jU 0 args,h:=h}:=by
  refine⟨by simp [hl],λi=> ?_,hi.zm G.Z _ (λ_ h=>h) (af6 _),n4.nil _ _⟩;show ax _ _ _ (aQ (jU 0 args) i);rw[KG];simp only[Nat.zero_le,if_true,Nat.sub_zero];cases hx:args[i]? with
  |none=>exact .dead _
  |some x=>
   have az:i<vs.size:=by rw[hl];exact(afV.1 hx).1
   have:(vs++Array.replicate (fn.ntmps-vs.size) undef).getD i undef=vs[i]:=by
    simp [Array.getElem?_append_left az,agi az]
   simp only[this,Option.getD_some];exact(hr i _ x (agi az) hx).zm G.Z _
 refine wpIn_mono (hw.run _ w _ 8 hs (by rw[hi.len];exact af6 _)) λe a' w' hn=> ?_;obtain⟨G1,s1,hE,eO,dK,hq⟩:=hn;have key:o8 P fn m K s1->LeavesInM Fence.wide 8 P fn a'.tmps (λe w'=>∃v G' r h',e= .returned v/\a7 G.N G w G' w'/\G.N<=G'.N/\bg G' w' h'/\ax G' w' v r/\K r h') a'.defers .returning w':=λhq=>by
  obtain⟨w2,G2,k1,k2,k3,k4⟩:=adf hE eO hi.z hi.gl.2 dK;obtain⟨v,G',r,h',r1,r2,r3,r4,r5,r6⟩:=aeu (N0:=h.length) k4 hq;exact k1 _ _ _ _ _ ⟨v,r1,v,G',r,h',rfl,by rw[<-hi.len];exact k2.trans r2,by rw[<-hi.len];exact agd hm r3,r4,r5,r6⟩
 cases e with
 |normal=>exact key hq
 |ret=>exact key hq
 |_=>exact hq.elim
end
end Go.Proofs.YtmkmibahjanejaaGreatDoor
namespace Go.Proofs.YtmkmibahjanejaaGreatDoor
open Go.RowKit
section
variable {P:agN} {r:agM Nat} {N0:Nat} {s:St} {Q:Exit->St->Prop}
end
theorem b5.frame{P:agN}{f:FuncId}{args:agK J}{K:J->Prop}(hc:b5 P f args [] λr h=>h=[]/\K r)(ha:args.all (J.aA 0)=true)(hK:∀r,K r->r.aA 0=true)(h:agK aj):
 b5 P f args h λr h'=>h'=h/\K r:=by
 refine⟨hc.1,λG w vs hi hl hr=> ?_⟩;have oT:bg {G with N:=0,Z:=λb=>b<w.heap.size} w []:=⟨rfl,λb hb=>hb,hi.S,λn B hB=>by simp at hB,λm n b h1=>by simp [bj]at h1,hi.gl⟩;refine(hc.2 {G with N:=0,Z:=λb=>b<w.heap.size} w vs oT hl λi u c hu hx=> ?_).mono λe w' hp=> ?_
 ·have:=(hr i u c hu hx).cut (agm.1 ha c (af8 hx));clear hc;generalize hG:({G with N:=0,Z:=λb=>b<w.heap.size}:Gh)=G0;have e:∀{v y},ax (G.cut 0) w v y->ax G0 w v y:=by
   intro v y hv;subst hG
   induction hv with
   |agg vs cs hl _ ih=>exact .agg vs cs hl ih
   |bp vs cs hl _ ih=>exact .bp vs cs hl ih
   |fn f vs cs hl _ ih=>exact .fn f vs cs hl ih
   |own n xs h hp hle hf=>exact absurd h (ago _)
   |ptr n off h=>exact absurd h (ago _)
   |row n off len cap k h hl hm=>exact absurd h (ago _)
   |mp n h=>exact absurd h (ago _)
   |cm n h=>exact absurd h (ago _)
   |vec n o len L k h=>exact absurd h (ago _)
   |cz n i j L k h=>exact absurd h (ago _)
   |hid h h1=>exact .hid h h1
   |d h=>exact .d h
   |aY xs i off b o u x hx hS hu=>exact .aY xs i off b o u x hx hS hu
   |full xs hp hf=>exact .full xs hp hf
   |dead u=>exact .dead u
  exact e this
 ·obtain⟨v,G',r,h',rfl,hE,hN,cy,hv,rfl,hk⟩:=hp;have afL:G'.N=0:=cy.len.symm;have eo:∀b o,G'.S b o->G.S b o\/w.heap.size<=b:=λb o hs=>(hE.new b o hs).imp id Nat.le_of_not_lt;have gy:a7 G.N G w {G with S:=G'.S} w':=
   ⟨hE.size,hE.S,hE.cell,λ_ _=>rfl,λ_ _=> .inl ⟨rfl,rfl⟩,fi rfl,λb hb=>hE.old b (hi.z b hb),hE.os,hE.tape,hE.output,λb o hs=>(eo b o hs).imp id λiN hz=>by have:=hi.z b hz;omega⟩
  refine⟨v,{G with S:=G'.S},r,h,rfl,gy,af6 _,⟨hi.len,λb hb=>agk (hi.z b hb) hE.size,cy.S,λn B hB=> ?_,λm n b h1 h2=>hi.inj m n b h1 h2,hi.gl.aG gy⟩,?_,rfl,hk⟩
  ·refine cX.aG (hi.lt hB) gy (af6 _) ⟨rfl,rfl,rfl⟩ (λb hb=> ?_) (hi.b6 n B hB);have az:=hi.fR (n:=n) (b:=b) ((cJ hB).trans hb);refine⟨hE.old _ az,λo iC hs=> ?_⟩;rcases eo _ o hs with hs|hs
   ·exact iC hs
   ·omega
  ·have hr:=hK r hk;clear hk gy
   induction hv with
   |agg vs cs hl _ ih=>
    rw[J.aA,kW,agm]at hr;exact .agg vs cs hl λi u c hu hc=>ih i u c hu hc (hr c (af8 hc))
   |bp vs cs hl _ ih=>
    rw[J.aA,kW,agm]at hr;exact .bp vs cs hl λi u c hu hc=>ih i u c hu hc (hr c (af8 hc))
   |fn f vs cs hl _ ih=>
    rw[J.aA,kW,agm]at hr;exact .fn f vs cs hl λi u c hu hc=>ih i u c hu hc (hr c (af8 hc))
   |own n xs h hp hle hf=>simp [J.aA,bB]at hr
   |ptr n off h=>simp [J.aA,bB]at hr
   |row n off len cap k h hl hm=>simp [J.aA,bB]at hr
   |mp n h=>simp [J.aA,bB]at hr
   |cm n h=>simp [J.aA,bB]at hr
   |vec n o len L k h=>simp [J.aA,bB]at hr
   |cz n i j L k h=>simp [J.aA,bB]at hr
   |hid h h1=>exact .hid h h1
   |d h=>exact .d h
   |aY xs i off b o u x hx hS hu=>exact .aY xs i off b o u x hx hS hu
   |full xs hp hf=>exact .full xs hp hf
   |dead u=>exact .dead u
def gj(P:agN)(f:FuncId)(args:agK J)(K:J->Prop):Prop:=b5 P f args [] λr h=>h=[]/\K r
theorem gj.use{P:agN}{f:FuncId}{args:agK J}{r:J}{h:agK aj}{C:J->agK aj->Prop}(hc:gj P f args (·=r))(ha:args.all (J.aA 0)=true)(hr:r.aA 0=true)(hC:C r h):b5 P f args h C:=
 (hc.frame ha (λ_ e=>e▸hr) h).mono λ_ _ ⟨e1,e2⟩=>by subst e1;subst e2;exact hC
def aaX:agK FuncId:=[267]
def mU:Operand->Bool
 | .func g=>aaX.any (·==g)
 |_=>false
def bw(o:Oper):Nat:=
 match o.op with
 | .move _| .assign _| .pick .. | .nilCheck _| .fieldAddr .. | .field .. | .indexAddr .. | .index .. | .build .. | .buildSlice .. | .slice .. | .extract .. | .makeFunc .. | .binOp .. | .unOp .. | .convert .. =>0
 | .load .. | .lookup .. =>1
 | .alloc _| .box .. =>2
 | .store .. | .makeMap .. | .mapUpdate .. =>3
 | .call c=>match c.callee with
   | .builtin .len| .builtin .max| .builtin .min=>0
   | .builtin .append=>5
   | .value f=>bif mU f then 6 else 4
   |_=>9
 |_=>9
def OW(P:agN)(g:FuncId)(args:agK J)(h:agK aj)(C:J->Prop):Prop:=∃r,C r/\∀e,b5 P g args (h++e) λr' h'=>r'=r/\h'=h++e
def vG(P:agN)(o:Oper)(K:St->Prop)(s:St):Prop:=
 match o.op with
 | .call c=>match c.callee with
   | .value f=>match ev s f with
     | .fn g cF=>OW P g (c.args.toList.map (ev s)++cF) s.h λr=>K (s.put o.dst r)
     | .hid q=>∃g cs,q= .fn g cs/\OW P g (c.args.toList.map (ev s)++cs.map fD.av) s.h λr=>K (s.put o.dst r)
     |_=>False
   |_=>nC P o K s
 |_=>nC P o K s
def gN(o:Oper):Bool:=
 match o.op with
 | .indexAddr .. | .fieldAddr .. | .nilCheck .. | .load .. | .store .. =>true
 | .call c=>match c.callee with
   | .builtin .len=>true
   |_=>false
 |_=>false
def F2(o:Oper):Bool:=match o.op with
 | .call c=>match c.callee with
   | .value (.tmp _)=>true
   |_=>false
 |_=>false
def nh(o:Oper):Bool:=match o.op with
 | .call c=>match c.callee with
   | .builtin .append=>true
   |_=>false
 |_=>false
def kJ(m:Bool)(o:Oper):Bool:=m&&(F2 o||nh o)
def tu(m:Bool)(P:agN)(o:Oper)(K:St->Prop)(s:St):Prop:=
 vG P o K s\/(kJ m o=true/\∃x h1,K ((s.wh h1).put o.dst x)/\∀C:J->agK aj->Prop,C x h1->bM P o (ev s) s.h C)\/((gN o=true/\(m&&bw o==0)=false\/(m&&nh o)=true)/\Dt P o K s)\/(bw o=6/\∃x e0,K ((s.wh (s.h++e0)).put o.dst x)/\∀C:J->agK aj->Prop,C x (s.h++e0)->bM P o (ev s) s.h C)
def gU(P:agN)(o:Oper)(ρ:Operand->J)(h:agK aj)(C:J->agK aj->Prop):Prop:=
 bM P o ρ h C\/((gN o=true\/nh o=true)/\∃a x h' p,fM P o.op ρ h a=some (x,h',p)/\p/\C x h')
def rf(m:Bool)(P:agN)(ops:Array Oper):agK Oper->(St->Prop)->St->Prop
 |[],K,s=>K s
 |o::rest,K,s=>fk ops o s (tu m P o (rf m P ops rest K) s) (rf m P ops rest K (s.put o.dst (.d (.v undef))))
abbrev OS(P:agN)(o:Oper)(K:St->Prop)(s:St):Prop:=tu false P o K s
abbrev w6(P:agN)(ops:Array Oper)(l:agK Oper)(K:St->Prop)(s:St):Prop:=rf false P ops l K s
section
variable {P:agN} {o:Oper} {ρ ρ':Operand->J} {h:agK aj} {C:J->agK aj->Prop}
theorem JD(x:agM Operand)(hx:∀y∈x.toArray,ρ y=ρ' y)(d:Nat)(F:Nat->Prop):optInt ρ x d F=optInt ρ' x d F:=by
 cases x with
 |none=>rfl
 |some y=>simp only[optInt,hx y (by simp)]
theorem aeP(hρ:∀x∈o.op.operands,ρ x=ρ' x):bM P o ρ h C=bM P o ρ' h C:=by
 obtain⟨dst,op,type,pos,after,guard⟩:=o;have O7:∀ps:Array (Nat×Operand),(∀x∈ps.map (·.2),ρ x=ρ' x)->(ps.toList.map λp=>(p.1,ρ p.2))=(ps.toList.map λp=>(p.1,ρ' p.2)):=λps hp=>
  agr λp hm=>by rw[hp p.2 (Array.mem_map.2 ⟨p,Array.mem_toList_iff.1 hm,rfl⟩)]
 have eP:∀l:Array Operand,(∀x∈l,ρ x=ρ' x)->l.toList.map ρ=l.toList.map ρ':=λl hl=>agr λx hm=>hl x (Array.mem_toList_iff.1 hm);cases op with
 |build t ps=>simp only[bM,O7 ps λx hx=>hρ x (by simpa [Op.operands]using hx)]
 |buildSlice t n ps=>simp only[bM,O7 ps λx hx=>hρ x (by simpa [Op.operands]using hx)]
 |makeFunc fn first captured=>
  cases fn with
  |func f=>simp only[bM,eP captured λx hx=>hρ x (by simp [Op.operands,hx])]
  |_=>rfl
 |slice t x lo hi mx=>
  have e1:ρ x=ρ' x:=hρ x (by simp [Op.operands]);have e2:=λd F=>JD (ρ:=ρ) (ρ':=ρ') lo (λy hy=>hρ y (by simp at hy;simp [Op.operands,hy])) d F;have e3:=λd F=>JD (ρ:=ρ) (ρ':=ρ') hi (λy hy=>hρ y (by simp at hy;simp [Op.operands,hy])) d F;have e4:=λd F=>JD (ρ:=ρ) (ρ':=ρ') mx (λy hy=>hρ y (by simp at hy;simp [Op.operands,hy])) d F;cases lo<;>cases hi<;>cases mx<;>simp only[bM,q6,e1,e2,e3,e4]
 |call c=>
  have ha:c.args.toList.map ρ=c.args.toList.map ρ':=eP c.args λx hx=>hρ x (by simp [Op.operands,Call.operands,hx]);have hm:∀x,x∈c.args.toList->ρ x=ρ' x:=λx hx=>hρ x (by simp [Op.operands,Call.operands];right;exact Array.mem_toList_iff.1 hx);cases hc:c.callee with
  |value f=>
   have hf:ρ f=ρ' f:=hρ f (by simp [Op.operands,Call.operands,hc]);simp only[bM,hc,hf,ha]
  |invoke=>simp only[bM,hc]
  |builtin b=>
   cases b with
   |len=>
    simp only[bM,hc];split
    ·rename_i x _ heq _
     rw[hm x (by rw[heq];simp)]
    ·rfl
   |append=>
    simp only[bM,hc];split
    ·rename_i x y _ _ heq _
     rw[hm x (by rw[heq];simp),hm y (by rw[heq];simp)]
    ·rfl
   |max=>simp only[bM,hc,ha]
   |min=>simp only[bM,hc,ha]
   |_=>simp only[bM,hc]
 |makeMap t r=>cases r<;>rfl
 |lookup t a b ok=>simp only[bM,mC,hρ a (by simp [Op.operands]),hρ b (by simp [Op.operands])]
 |mapUpdate t a b c=>simp only[bM,mC,hρ a (by simp [Op.operands]),hρ b (by simp [Op.operands]),hρ c (by simp [Op.operands])]
 |pick c a b=>simp only[bM,hρ c (by simp [Op.operands]),hρ a (by simp [Op.operands]),hρ b (by simp [Op.operands])]
 |store t a b=>simp only[bM,hρ a (by simp [Op.operands]),hρ b (by simp [Op.operands])]
 |binOp op t a b u=>simp only[bM,hρ a (by simp [Op.operands]),hρ b (by simp [Op.operands])]
 |indexAddr t a b=>simp only[bM,hρ a (by simp [Op.operands]),hρ b (by simp [Op.operands])]
 |index t a b=>simp only[bM,hρ a (by simp [Op.operands]),hρ b (by simp [Op.operands])]
 |move a|assign a|box t a|load t a|nilCheck a|fieldAddr t a f|field t a f|extract a i|unOp op t a|convert t u a=>simp only[bM,hρ a (by simp [Op.operands])]
 |_=>rfl
theorem aca(hv:gN o=true\/nh o=true)(hρ:∀x∈o.op.operands,ρ x=ρ' x)(a:VA):fM P o.op ρ h a=fM P o.op ρ' h a:=by
 obtain⟨dst,op,type,pos,after,guard⟩:=o;cases op with
 |store t a b=>simp only[fM,hρ a (by simp [Op.operands]),hρ b (by simp [Op.operands])]
 |indexAddr t a b=>simp only[fM,hρ a (by simp [Op.operands]),hρ b (by simp [Op.operands])]
 |load t a|nilCheck a|fieldAddr t a f=>simp only[fM,hρ a (by simp [Op.operands])]
 |call c=>
  have hm:∀x,x∈c.args.toList->ρ x=ρ' x:=λx hx=>hρ x (by simp [Op.operands,Call.operands];right;exact Array.mem_toList_iff.1 hx);cases hc:c.callee with
  |builtin b=>
   cases b with
   |len=>
    simp only[fM,hc];split
    ·rename_i x _ heq _
     rw[hm x (by rw[heq];simp)]
    ·rfl
   |append=>
    simp only[fM,hc];split
    ·rename_i x y _ _ heq _
     rw[hm x (by rw[heq];simp),hm y (by rw[heq];simp)]
    ·rfl
   |_=>simp [gN,nh,hc]at hv
  |_=>simp [gN,nh,hc]at hv
 |_=>simp [gN,nh]at hv
theorem It(hρ:∀x∈o.op.operands,ρ x=ρ' x):gU P o ρ h C=gU P o ρ' h C:=by
 unfold gU;rw[aeP hρ];by_cases hv:gN o=true\/nh o=true
 ·simp only[aca hv hρ]
 ·simp only[hv,false_and]
end
def adQ:aj->Bool
 | .cells _| .map _| .vec .. =>true
 |_=>false
def kZ:agM aj->agM (Nat×Nat)
 |some (.vec _ k cs)=>some (k,cs.length)
 |_=>none
def fX(h h':agK aj):Prop:=∀(m:Nat)(q:Nat×Nat),kZ h[m]?=some q->kZ h'[m]?=some q
def fK(h h':agK aj):Prop:=∀m:Nat,kZ h[m]?=kZ h'[m]?
theorem fK.i{h h':agK aj}(e:fK h h'):fX h h':=λm q hq=>by rw[<-e m];exact hq
theorem fK.j{h h':agK aj}(e:fK h h'):fX h' h:=λm q hq=>by rw[e m];exact hq
theorem fX.refl(h:agK aj):fX h h:=λ_ _ e=>e
theorem fX.trans{a b c:agK aj}(x:fX a b)(y:fX b c):fX a c:=λm q e=>y m q (x m q e)
theorem fX.app(h e:agK aj):fX h (h++e):=λm q hq=>by
 by_cases hl:m<h.length
 ·rw[af5 hl];exact hq
 ·rw[ags (by omega)]at hq;cases hq
theorem fK.app{h:agK aj}{B:aj}(hB:kZ (some B)=none):fK h (h++[B]):=λm=>by
 by_cases hl:m<h.length
 ·rw[af5 hl]
 ·rw[agb (by omega),ags (by omega:h.length<=m)];by_cases h0:m-h.length=0
  ·rw[h0];exact hB.symm
  ·rw[ags (by simp;omega)]
theorem fK.set{h:agK aj}{n:Nat}{B B':aj}(hn:h[n]?=some B)(hB:kZ (some B)=kZ (some B')):fK h (h.set n B'):=λm=>by
 by_cases e:n=m
 ·subst e;rw[agp (afV.1 hn).1,hn];exact hB
 ·rw[agu e]
def gk(h h':agK aj):Prop:=∀(n:Nat)(B:aj),h[n]?=some B->adQ B=true->h'[n]?=some B
theorem gk.app(h e:agK aj):gk h (h++e):=λn cs hn _=>by
 rw[af5 (afV.1 hn).1];exact hn
theorem gk.refl(h:agK aj):gk h h:=λ_ _ hn _=>hn
theorem abp{P:agN}{ρ:Operand->J}{h h1:agK aj}{T:TypeId}{m i:Operand}{ok:Bool}{x:J}{p:Sd}(hx:mC P (.lookup T m i ok) ρ h=some (x,h1,p)):h1=h/\∀h',gk h h'->mC P (.lookup T m i ok) ρ h'=some (x,h',p):=by
 simp only[mC]at hx ⊢;split at hx
 ·next k e hT=>
  split at hx
  ·next z hz=>
   split at hx
   ·next b s' hm hi=>
    split at hx
    ·next kv hn=>
     cases hc:fu P k&&z.oneCell' with
     |false=>rw[hc]at hx;cases hx
     |true=>
      rw[hc]at hx;cases hx
      refine⟨rfl,λh' hh=> ?_⟩;rw[hh b _ hn rfl];simp only[cond_true]
    ·cases hx
   ·cases hx
  ·cases hx
 ·cases hx
theorem RL{h:agK aj}{n e k:Nat}{cs:agK (agK J)}(hn:h[n]?=some (.vec e k cs)):kZ h[n]?=some (k,cs.length):=by rw[hn];rfl
theorem PR{h:agK aj}{n k l:Nat}(hq:kZ h[n]?=some (k,l)):∃e cs,h[n]?=some (.vec e k cs)/\cs.length=l:=by
 unfold kZ at hq;split at hq
 ·next e k' cs e1=>cases hq;exact⟨e,cs,e1,rfl⟩
 ·cases hq
theorem abT{P:agN}{o:Oper}{ρ:Operand->J}{h h1:agK aj}{a:VA}{x:J}{p:Prop}(hv:gN o=true)(hk:bw o=0)(hx:fM P o.op ρ h a=some (x,h1,p))(hp:p):h1=h/\∀h',fX h h'->∃p',fM P o.op ρ h' a=some (x,h',p')/\p':=by
 obtain⟨dst,op,type,pos,after,guard⟩:=o;cases op with
 |indexAddr T y i=>
  simp only[fM]at hx ⊢;split at hx
  ·next n o len L k z e k' i' e1 e2 e3=>
   split at hx
   ·next e4 k2 cs hn=>
    obtain⟨hb,he⟩:=jR hx;cases he
    rw[afX,beq_iff_eq,beq_iff_eq]at hb;obtain⟨rfl,rfl⟩:=hb;refine⟨rfl,λh' hh=> ?_⟩;obtain⟨e5,UF,q1,q2⟩:=PR (hh n _ (RL hn));simp only[q1,agF,Bool.and_self,cond_true];exact⟨_,rfl,by rw[q2];exact hp.1,hp.2⟩
   ·cases hx
  ·cases hx
 |fieldAddr T y f=>
  simp only[fM]at hx ⊢;split at hx
  ·next e1 e2=>cases hx;exact⟨rfl,λh' _=>⟨_,rfl,trivial⟩⟩
  ·cases hx
 |nilCheck y=>
  simp only[fM]at hx ⊢;split at hx
  ·next e1=>cases hx;exact⟨rfl,λh' _=>⟨_,rfl,trivial⟩⟩
  ·cases hx
 |call c=>
  cases hc:c.callee with
  |builtin b=>
   cases b with
   |len=>
    simp only[fM,hc]at hx ⊢;split at hx
    ·split at hx
     ·next n o len L k e1=>
      split at hx
      ·next e2 k2 cs hn=>
       obtain⟨hb,he⟩:=jR hx;cases he
       rw[afX,beq_iff_eq]at hb;obtain⟨iT,rfl⟩:=hb;refine⟨rfl,λh' hh=> ?_⟩;obtain⟨e5,UF,q1,q2⟩:=PR (hh n _ (RL hn));simp only[q1,iT,agF,Bool.and_self,cond_true];exact⟨_,rfl,by rw[q2];exact hp⟩
      ·cases hx
     ·cases hx
    ·cases hx
   |_=>simp [gN,hc]at hv
  |_=>simp [gN,hc]at hv
 |load t y=>simp [bw]at hk
 |store t y z=>simp [bw]at hk
 |_=>simp [gN]at hv
theorem Ye{P:agN}{o:Oper}{ρ:Operand->J}{h h1:agK aj}{a:VA}{x:J}{p:Prop}(hv:gN o=true)(hk:bw o=1)(hx:fM P o.op ρ h a=some (x,h1,p))(hp:p):h1=h/\∀h',gk h h'->∃p',fM P o.op ρ h' a=some (x,h',p')/\p':=by
 obtain⟨dst,op,type,pos,after,guard⟩:=o;cases op with
 |load t y=>
  simp only[fM]at hx ⊢;split at hx
  ·next n i j L k c e1=>
   split at hx
   ·next e2 k' cs z hn hz=>
    obtain⟨hb,he⟩:=jR hx;cases he
    refine⟨rfl,λh' hh=> ?_⟩;simp only[hh n _ hn rfl,hz,hb,cond_true];exact⟨_,rfl,hp⟩
   ·cases hx
  ·cases hx
 |indexAddr T y i=>simp [bw]at hk
 |fieldAddr T y f=>simp [bw]at hk
 |nilCheck y=>simp [bw]at hk
 |call c=>
  cases hc:c.callee with
  |builtin b=>cases b<;>simp [bw,hc]at hk
  |value f=>cases jN:mU f<;>simp [bw,hc,jN]at hk
  |invoke=>simp [bw,hc]at hk
 |store t y z=>simp [bw]at hk
 |_=>simp [gN]at hv
theorem VR{P:agN}{o:Oper}{ρ:Operand->J}{h h1:agK aj}{a:VA}{x:J}{p:Prop}(hv:gN o=true)(hk:bw o=3)(hx:fM P o.op ρ h a=some (x,h1,p))(hp:p):fK h h1:=by
 obtain⟨dst,op,type,pos,after,guard⟩:=o;cases op with
 |store t y z=>
  simp only[fM]at hx;split at hx
  ·next n i j L k c bC e1=>
   split at hx
   ·next e k' cs q hn hz=>
    obtain⟨hb,he⟩:=jR hx;cases he
    simp only[afX,beq_iff_eq]at hb;refine fK.set hn ?_;simp only[kZ,List.length_set,hp.2.2,hb.1.1.1.1]
   ·cases hx
  ·cases hx
 |load t y=>simp [bw]at hk
 |indexAddr T y i=>simp [bw]at hk
 |fieldAddr T y f=>simp [bw]at hk
 |nilCheck y=>simp [bw]at hk
 |call c=>
  cases hc:c.callee with
  |builtin b=>cases b<;>simp [bw,hc]at hk
  |value f=>cases jN:mU f<;>simp [bw,hc,jN]at hk
  |invoke=>simp [bw,hc]at hk
 |_=>simp [gN]at hv
def gP(m:Bool)(o:Oper):Nat:=bif kJ m o then 7 else bw o
def c7(m:Bool)(P:agN)(o:Oper)(ρ:Operand->J)(h:agK aj)(x:J)(h1:agK aj):Prop:=
 match gP m o with
 |0=>h1=h/\∀h',(m=true\/fX h h')->∀C:J->agK aj->Prop,C x h'->gU P o ρ h' C
 |1=>h1=h/\∀h',gk h h'->∀C:J->agK aj->Prop,C x h'->gU P o ρ h' C
 |2=>∃B,kZ (some B)=none/\x= .ptr h.length 0/\h1=h++[B]/\∀h'(C:J->agK aj->Prop),C (.ptr h'.length 0) (h'++[B])->gU P o ρ h' C
 |3=>fK h h1/\∀C:J->agK aj->Prop,C x h1->gU P o ρ h C
 |4=>h1=h/\∀e(C:J->agK aj->Prop),C x (h++e)->gU P o ρ (h++e) C
 |5=>(gk h h1/\gk h1 h/\fK h h1)/\∀C:J->agK aj->Prop,C x h1->gU P o ρ h C
 |6=>∃e0,h1=h++e0/\∀C:J->agK aj->Prop,C x h1->gU P o ρ h C
 |7=>∀C:J->agK aj->Prop,C x h1->gU P o ρ h C
 |_=>False
section
variable {P:agN} {o:Oper} {ρ ρ':Operand->J} {h:agK aj} {C:J->agK aj->Prop}
theorem ab5{p:J}{K:agK J->Nat->Prop}(hp:oK h p K):∃cs off,K cs off/\∀h',gk h h'->∀K':agK J->Nat->Prop,K' cs off->oK h' p K':=by
 unfold oK at hp ⊢;split at hp
 ·rename_i n off
  split at hp
  ·rename_i cs eN
   refine⟨cs,off,hp,λh' hh K' hk=> ?_⟩;rw[hh n _ eN rfl];exact hk
  ·exact hp.elim
 ·rename_i xs i off
  split at hp
  ·rename_i cs eN
   refine⟨_,off,hp,λh' _ K' hk=> ?_⟩;exact hk
  ·exact hp.elim
 ·exact hp.elim
theorem Yc{t:Nat}{p:J}{K:J->Prop}(hp:lH P t h p K):∃x,K x/\∀h',gk h h'->∀K':J->Prop,K' x->lH P t h' p K':=by
 unfold lH at hp ⊢;obtain⟨cs,off,h1,h2⟩:=ab5 hp;split at h1
 ·rw[bf]at h1;refine⟨_,h1.2,λh' hh K' kt=>h2 h' hh _ ?_⟩;exact bf.2 ⟨h1.1,kt⟩
 ·split at h1
  ·rename_i c hc
   refine⟨c,h1,λh' hh K' kt=>h2 h' hh _ ?_⟩;simp only[hc];exact kt
  ·exact h1.elim
 ·exact h1.elim
theorem qw{x:agM Operand}{d:Nat}{F:Nat->Prop}(hx:optInt ρ x d F):∃m,F m/\∀F':Nat->Prop,F' m->optInt ρ x d F':=by
 cases x with
 |none=>exact⟨d,hx,λ_ h=>h⟩
 |some y=>
  simp only[optInt]at hx;split at hx
  ·rename_i z hz
   exact⟨_,hx.2,λF' hF=>by simp only[optInt,hz];exact⟨hx.1,hF⟩⟩
  ·exact hx.elim
theorem ad1(hk:bw o=0)(hc:bM P o ρ h C):∃x,C x h/\∀h'(C':J->agK aj->Prop),C' x h'->bM P o ρ h' C':=by
 have qP:∀(F:(J->Prop)->Prop),(∀K,F K->∃x,K x/\∀K',K' x->F K')->F (λx=>C x h)->(∀h' C',bM P o ρ h' C'=F (λx=>C' x h'))->∃x,C x h/\∀h'(C':J->agK aj->Prop),C' x h'->bM P o ρ h' C':=λF hF h0 he=>by
  obtain⟨x,h1,h2⟩:=hF _ h0;exact⟨x,h1,λh' C' cB=>by rw[he];exact h2 _ cB⟩
 obtain⟨dst,op,type,pos,after,guard⟩:=o;cases op with
 |move a=>exact⟨ρ a,hc,λ_ _ h=>h⟩
 |assign a=>exact⟨ρ a,hc,λ_ _ h=>h⟩
 |pick c a b=>
  simp only[bM]at hc;split at hc
  ·rename_i t ht
   cases t with
   |true=>exact⟨ρ a,hc.1 rfl,λh' C' cB=>by simp only[bM,ht];exact⟨λ_=>cB,λe=>by cases e⟩⟩
   |false=>exact⟨ρ b,hc.2 rfl,λh' C' cB=>by simp only[bM,ht];exact⟨λe=>(by cases e),λ_=>cB⟩⟩
  ·exact hc.elim
 |nilCheck a=>
  simp only[bM]at hc;split at hc
  ·rename_i m off e;exact⟨_,hc,λh' C' cB=>by simp only[bM,e];exact cB⟩
  ·rename_i xs i off e;exact⟨_,hc,λh' C' cB=>by simp only[bM,e];exact cB⟩
  ·rename_i f cs e;exact⟨_,hc,λh' C' cB=>by simp only[bM,e];exact cB⟩
  ·exact hc.elim
 |fieldAddr t a f=>
  simp only[bM]at hc;split at hc
  ·rename_i fo k g hf
   split at hc
   ·rename_i m off e;exact⟨_,hc,λh' C' cB=>by simp only[bM,hf,e];exact cB⟩
   ·rename_i xs i off e;exact⟨_,hc,λh' C' cB=>by simp only[bM,hf,e];exact cB⟩
   ·exact hc.elim
  ·exact hc.elim
 |field t a f=>
  refine qP (ux P t (ρ a) f) (λK hK=> ?_) hc (λ_ _=>rfl);unfold ux at hK ⊢;split at hK
  ·rw[bf]at hK;exact⟨_,hK.2,λK' dg=>bf.2 ⟨hK.1,dg⟩⟩
  ·split at hK
   ·rename_i c fy;exact⟨c,hK,λK' dg=>dg⟩
   ·exact hK.elim
  ·exact hK.elim
 |indexAddr t a b=>
  refine qP (pN P t (ρ a) (ρ b)) (λK hK=> ?_) hc (λ_ _=>rfl);unfold pN at hK ⊢;split at hK
  ·rename_i e k hT
   split at hK
   ·rename_i n off len cap k'
    split at hK
    ·rename_i z hz
     rw[bf]at hK;obtain⟨h1,h2,h3,h4⟩:=hK;exact⟨_,h4,λK' dg=>bf.2 ⟨h1,h2,h3,dg⟩⟩
    ·exact hK.elim
   ·split at hK
    ·rename_i xs z jn hz
     obtain⟨h0,hK⟩:=hK;split at hK
     ·rename_i c fy
      exact⟨_,hK.2,λK' dg=>⟨h0,hK.1,dg⟩⟩
     ·exact hK.elim
    ·exact hK.elim
  ·split at hK
   ·rename_i n e k b' off z hT hz
    obtain⟨h1,h2,h3⟩:=hK;exact⟨_,h3,λK' dg=>⟨h1,h2,dg⟩⟩
   ·rename_i n e k xs i' off z hT hz
    rw[bf]at hK;obtain⟨h0,h1,h2,h3⟩:=hK;split at h3
    ·rename_i c fy
     split at h3
     ·rename_i d hd
      exact⟨_,h3,λK' dg=>bf.2 ⟨h0,h1,h2,dg⟩⟩
     ·exact h3.elim
    ·exact h3.elim
   ·exact hK.elim
 |index t a b=>
  simp only[bM]at hc;split at hc
  ·rename_i bb z e1 e2
   rw[bf]at hc;obtain⟨h1,h2,h3⟩:=hc;split at h3
   ·rename_i c fy
    exact⟨_,h3,λh' C' cB=>by simp only[bM,e1,e2];exact bf.2 ⟨h1,h2,by simp only[fy];exact cB⟩⟩
   ·exact h3.elim
  ·exact hc.elim
 |build t ps=>
  refine qP (ur P t (ps.toList.map λp:Nat×Operand=>(p.1,ρ p.2))) (λK hK=> ?_) hc (λ_ _=>rfl);unfold ur at hK ⊢;split at hK
  ·split at hK
   ·rename_i cs eN
    rw[bf]at hK;exact⟨_,hK.2,λK' dg=>bf.2 ⟨hK.1,dg⟩⟩
   ·exact hK.elim
  ·exact hK.elim
 |buildSlice t n ps=>
  refine qP (sE P t n (ps.toList.map λp:Nat×Operand=>(p.1,ρ p.2))) (λK hK=> ?_) hc (λ_ _=>rfl);unfold sE at hK ⊢;split at hK
  ·split at hK
   ·split at hK
    ·rename_i cs eN
     split at hK
     ·rename_i ds oz
      rw[bf]at hK;exact⟨_,hK.2,λK' dg=>bf.2 ⟨hK.1,dg⟩⟩
     ·exact hK.elim
    ·exact hK.elim
   ·exact hK.elim
  ·exact hK.elim
 |slice t a lo hi mx=>
  refine qP (q6 P t ρ (ρ a) lo hi mx) (λK hK=> ?_) hc (λ_ _=>rfl);unfold q6 at hK ⊢;split at hK
  ·split at hK
   ·rw[bf]at hK;obtain⟨h0,hK⟩:=hK;obtain⟨m1,hK,j1⟩:=qw hK;obtain⟨h1,hK⟩:=hK;obtain⟨m2,hK,j2⟩:=qw hK;obtain⟨h2,hK⟩:=hK;exact⟨_,hK,λK' dg=>bf.2 ⟨h0,j1 _ ⟨h1,j2 _ ⟨h2,dg⟩⟩⟩⟩
   ·split at hK
    ·rw[bf]at hK;obtain⟨h0,hK⟩:=hK;obtain⟨m1,hK,j1⟩:=qw hK;rw[bf]at hK;obtain⟨h1,hK⟩:=hK;obtain⟨m2,hK,j2⟩:=qw hK;rw[bf]at hK;obtain⟨h2,hK⟩:=hK;exact⟨_,hK,λK' dg=>by rw[bf];exact⟨h0,j1 _ (by rw[bf];exact⟨h1,j2 _ (by rw[bf];exact⟨h2,dg⟩)⟩)⟩⟩
    ·exact hK.elim
   ·split at hK
    ·obtain⟨h0,hK⟩:=hK;obtain⟨m1,hK,j1⟩:=qw hK;obtain⟨h1,hK⟩:=hK;obtain⟨m2,hK,j2⟩:=qw hK;obtain⟨h2,hK⟩:=hK;exact⟨_,hK,λK' dg=>⟨h0,j1 _ ⟨h1,j2 _ ⟨h2,dg⟩⟩⟩⟩
    ·exact hK.elim
  ·split at hK
   ·split at hK
    ·obtain⟨h0,hK⟩:=hK;obtain⟨m1,hK,j1⟩:=qw hK;obtain⟨h1,hK⟩:=hK;obtain⟨m2,hK,j2⟩:=qw hK;obtain⟨h2,hK⟩:=hK;exact⟨_,hK,λK' dg=>⟨h0,j1 _ ⟨h1,j2 _ ⟨h2,dg⟩⟩⟩⟩
    ·exact hK.elim
   ·exact hK.elim
 |extract a i=>
  simp only[bM]at hc;split at hc
  ·rename_i cs e
   split at hc
   ·rename_i c fy;exact⟨c,hc,λh' C' cB=>by simp only[bM,e,fy];exact cB⟩
   ·exact hc.elim
  ·exact hc.elim
 |makeFunc fn first cF=>
  cases fn with
  |func f=>
   simp only[bM]at hc;split at hc
   ·rename_i e;exact⟨_,hc,λh' C' cB=>by simp only[bM,e];exact cB⟩
   ·exact hc.elim
  |_=>exact hc.elim
 |binOp op t a b u=>
  refine qP (tv P t op (ρ a) (ρ b)) (λK hK=> ?_) hc (λ_ _=>rfl);unfold tv at hK ⊢;split at hK
  ·split at hK
   ·rw[bf]at hK;exact⟨_,hK.2.2,λK' dg=>bf.2 ⟨hK.1,hK.2.1,dg⟩⟩
   ·split at hK
    ·exact⟨_,hK.2,λK' dg=>⟨hK.1,dg⟩⟩
    ·split at hK
     ·rw[bf]at hK;exact⟨_,hK.2,λK' dg=>bf.2 ⟨hK.1,dg⟩⟩
     ·exact hK.elim
  ·split at hK
   ·exact⟨_,hK,λK' dg=>dg⟩
   ·split at hK
    ·exact⟨_,hK.2,λK' dg=>⟨hK.1,dg⟩⟩
    ·exact hK.elim
  ·split at hK
   ·rw[bf]at hK;exact⟨_,hK.2,λK' dg=>bf.2 ⟨hK.1,dg⟩⟩
   ·exact hK.elim
  ·split at hK
   ·split at hK
    ·exact⟨_,hK,λK' dg=>dg⟩
    ·exact hK.elim
   ·exact hK.elim
  ·exact hK.elim
 |unOp op t a=>
  refine qP (tC op (ρ a)) (λK hK=> ?_) hc (λ_ _=>rfl);unfold tC at hK ⊢;split at hK
  ·split at hK
   ·exact⟨_,hK,λK' dg=>dg⟩
   ·exact hK.elim
  ·exact hK.elim
 |convert t u a=>
  refine qP (sW P t u (ρ a)) (λK hK=> ?_) hc (λ_ _=>rfl);unfold sW at hK ⊢;split at hK
  ·split at hK
   ·exact⟨_,hK,λK' dg=>dg⟩
   ·exact hK.elim
  ·rw[bf]at hK;exact⟨_,hK.2,λK' dg=>bf.2 ⟨hK.1,dg⟩⟩
  ·split at hK
   ·rw[bf]at hK;obtain⟨h1,ns,h2,h3⟩:=hK;exact⟨_,h3,λK' dg=>bf.2 ⟨h1,ns,h2,dg⟩⟩
   ·exact hK.elim
 |call c=>
  simp only[bw]at hk;cases dE:c.callee with
  |value f=>cases jN:mU f<;>simp [dE,jN]at hk
  |invoke=>simp [dE]at hk
  |builtin b=>
   cases b with
   |len=>
    simp only[bM,dE]at hc;split at hc
    ·rename_i x T e1 e2
     have key:∀F:Nat->Prop,od P T (ρ x) F->∃m,F m/\∀F':Nat->Prop,F' m->od P T (ρ x) F':=λF hF=>by
      unfold od at hF ⊢;split at hF
      ·rw[bf]at hF;exact⟨_,hF.2,λF' jb=>bf.2 ⟨hF.1,jb⟩⟩
      ·rw[bf]at hF;exact⟨_,hF.2,λF' jb=>bf.2 ⟨hF.1,jb⟩⟩
      ·split at hF
       ·rw[bf]at hF;exact⟨_,hF.2,λF' jb=>bf.2 ⟨hF.1,jb⟩⟩
       ·exact hF.elim
     obtain⟨m,h1,h2⟩:=key _ hc;exact⟨_,h1,λh' C' cB=>by simp only[bM,dE,e1,e2];exact h2 _ cB⟩
    ·exact hc.elim
   |max=>
    simp only[bM,dE]at hc;split at hc
    ·rename_i e1
     exact⟨_,hc,λh' C' cB=>by simp only[bM,dE,e1];exact cB⟩
    ·exact hc.elim
   |min=>
    simp only[bM,dE]at hc;split at hc
    ·rename_i e1
     exact⟨_,hc,λh' C' cB=>by simp only[bM,dE,e1];exact cB⟩
    ·exact hc.elim
   |_=>simp [dE]at hk
 |_=>simp [bw]at hk
theorem WT(hk:bw o=2)(hc:bM P o ρ h C):∃B,kZ (some B)=none/\C (.ptr h.length 0) (h++[B])/\∀h'(C':J->agK aj->Prop),C' (.ptr h'.length 0) (h'++[B])->bM P o ρ h' C':=by
 obtain⟨dst,op,type,pos,after,guard⟩:=o;cases op with
 |alloc e=>
  simp only[bM]at hc;split at hc
  ·rename_i z hz;exact⟨_,rfl,hc,λh' C' cB=>by simp only[bM,hz];exact cB⟩
  ·exact hc.elim
 |box e x=>
  simp only[bM]at hc;rw[bf]at hc;exact⟨_,rfl,hc.2,λh' C' cB=>by simp only[bM];rw[bf];exact⟨hc.1,cB⟩⟩
 |call c=>
  simp only[bw]at hk;cases dE:c.callee with
  |value f=>cases jN:mU f<;>simp [dE,jN]at hk
  |invoke=>simp [dE]at hk
  |builtin b=>cases b<;>simp [dE]at hk
 |_=>simp [bw]at hk
theorem YZ(hk:bw o=3)(hc:bM P o ρ h C):∃x h1,C x h1/\fK h h1/\∀C':J->agK aj->Prop,C' x h1->bM P o ρ h C':=by
 obtain⟨dst,op,type,pos,after,guard⟩:=o;cases op with
 |store t a b=>
  simp only[bM]at hc;have key:∀F:agK aj->Prop,ua P t h (ρ a) (ρ b) F->∃h1,F h1/\fK h h1/\∀F':agK aj->Prop,F' h1->ua P t h (ρ a) (ρ b) F':=λF hF=>by
   unfold ua at hF ⊢;split at hF
   ·split at hF
    ·next hn=>
     split at hF
     ·rw[bf]at hF;exact⟨_,hF.2,fK.set hn rfl,λF' jb=>bf.2 ⟨hF.1,jb⟩⟩
     ·exact hF.elim
    ·exact hF.elim
   ·exact hF.elim
  obtain⟨h1,k1,kv,k2⟩:=key _ hc;exact⟨_,h1,k1,kv,λC' cB=>by simp only[bM];exact k2 _ cB⟩
 |makeMap t r=>
  simp only[bM]at hc;split at hc
  ·rename_i x h' p hx
   refine⟨x,h',hc.2,?_,λC' cB=>by simp only[bM,hx];exact⟨hc.1,cB⟩⟩;unfold mC at hx;cases r with
   |none=>
    simp only at hx;split at hx
    ·cases hx;exact fK.app rfl
    ·cases hx
   |some r=>cases hx
  ·exact hc.elim
 |mapUpdate t a b c=>
  simp only[bM]at hc;split at hc
  ·rename_i x h' p hx
   refine⟨x,h',hc.2,?_,λC' cB=>by simp only[bM,hx];exact⟨hc.1,cB⟩⟩;unfold mC at hx;simp only at hx;split at hx
   ·split at hx
    ·split at hx
     ·next hn=>
      obtain⟨hb,he⟩:=jR hx;cases he
      exact fK.set hn rfl
     ·cases hx
    ·cases hx
   ·cases hx
  ·exact hc.elim
 |call c=>
  simp only[bw]at hk;cases dE:c.callee with
  |value f=>cases jN:mU f<;>simp [dE,jN]at hk
  |invoke=>simp [dE]at hk
  |builtin b=>cases b<;>simp [dE]at hk
 |_=>simp [bw]at hk
theorem Nu{n:Nat}{e:TypeId}{k l e' k' l':Nat}(hn:h[n]?=some (.front e' k' l')):gk h (h.set n (.front e k l))/\gk (h.set n (.front e k l)) h:=by
 refine⟨λm cs hm hc=> ?_,λm cs hm hc=> ?_⟩
 ·have:n≠m:=λe=>by subst e;rw[hn]at hm;cases hm;cases hc
  rw[agu this];exact hm
 ·by_cases e:n=m
  ·subst e;rw[agp (afV.1 hn).1]at hm;cases hm;cases hc
  ·rw[agu e]at hm;exact hm
theorem CK{e:TypeId}{k l:Nat}:gk h (h++[.front e k l])/\gk (h++[.front e k l]) h:=by
 refine⟨gk.app _ _,λm cs hm hc=> ?_⟩;by_cases hl:m<h.length
 ·rw[af5 hl]at hm;exact hm
 ·rw[agb (by omega)]at hm;by_cases h0:m-h.length=0
  ·rw[h0]at hm;cases hm;cases hc
  ·rw[ags (by simp;omega)]at hm;cases hm
theorem V5(hk:bw o=5)(hc:bM P o ρ h C):∃x h1,C x h1/\(gk h h1/\gk h1 h/\fK h h1)/\∀C':J->agK aj->Prop,C' x h1->bM P o ρ h C':=by
 obtain⟨dst,op,type,pos,after,guard⟩:=o;cases op with
 |call c=>
  simp only[bw]at hk;cases dE:c.callee with
  |value f=>cases jN:mU f<;>simp [dE,jN]at hk
  |invoke=>simp [dE]at hk
  |builtin b=>
   cases b with
   |append=>
    simp only[bM,dE]at hc;split at hc
    ·rename_i x y T U e1 e2
     rw[bf]at hc;have ae6:∀(k:Nat)(y:J)(F:agK (agK D)->Prop),qL h k y F->∃ys,F ys/\∀F':agK (agK D)->Prop,F' ys->qL h k y F':=λk y F hF=>by
       unfold qL at hF ⊢;split at hF
       ·split at hF
        ·split at hF
         ·rw[bf]at hF;exact⟨_,hF.2,λF' jb=>bf.2 ⟨hF.1,jb⟩⟩
         ·exact hF.elim
        ·exact hF.elim
       ·split at hF
        ·exact⟨_,hF.2,λF' jb=>⟨hF.1,jb⟩⟩
        ·exact hF.elim
     have key:∀F:J->agK aj->Prop,sb P T h (ρ x) (ρ y) F->∃v h1,F v h1/\(gk h h1/\gk h1 h/\fK h h1)/\∀F':J->agK aj->Prop,F' v h1->sb P T h (ρ x) (ρ y) F':=λF hF=>by
      unfold sb at hF ⊢;split at hF
      ·split at hF
       ·rw[bf]at hF;obtain⟨h0,hF⟩:=hF;obtain⟨ys,hF,hs⟩:=ae6 _ _ _ hF;split at hF
        ·split at hF
         ·rename_i hn
          rw[bf]at hF;obtain⟨g1,g2,g3,g4,g5,g6⟩:=hF;exact⟨_,_,g6,⟨(Nu hn).1,(Nu hn).2,fK.set hn rfl⟩,λF' jb=>bf.2 ⟨h0,hs _ (bf.2 ⟨g1,g2,g3,g4,g5,jb⟩)⟩⟩
         ·exact hF.elim
        ·obtain⟨g4,g5,g6⟩:=hF;exact⟨_,_,g6,⟨CK.1,CK.2,fK.app rfl⟩,λF' jb=>bf.2 ⟨h0,hs _ ⟨g4,g5,jb⟩⟩⟩
        ·obtain⟨g3,g4,g5,g6⟩:=hF;exact⟨_,_,g6,⟨CK.1,CK.2,fK.app rfl⟩,λF' jb=>bf.2 ⟨h0,hs _ ⟨g3,g4,g5,jb⟩⟩⟩
        ·exact hF.elim
       ·exact hF.elim
      ·exact hF.elim
     obtain⟨v,h1,k1,c1,k2⟩:=key _ hc.2;exact⟨v,h1,k1,c1,λC' cB=>by simp only[bM,dE,e1,e2];rw[bf];exact⟨hc.1,k2 _ cB⟩⟩
    ·exact hc.elim
   |_=>simp [dE]at hk
 |_=>simp [bw]at hk
theorem RV{m:Bool}(iD:kJ m o=false){s:St}{K:St->Prop}(hd:vG P o K s):∃x h1,c7 m P o (ev s) s.h x h1/\K ((s.wh h1).put o.dst x):=by
 have km:gP m o=bw o:=by unfold gP;rw[iD];rfl
 have plain:nC P o K s->bw o≠4->bw o≠6->∃x h1,c7 m P o (ev s) s.h x h1/\K ((s.wh h1).put o.dst x):=λha NI zp=>by
  unfold nC at ha;by_cases h0:bw o=0
  ·obtain⟨x,h1,h2⟩:=ad1 h0 ha;exact⟨x,s.h,by unfold c7;rw[km,h0];exact⟨rfl,λh' _ C' cB=> .inl (h2 h' C' cB)⟩,h1⟩
  ·by_cases h1:bw o=1
   ·obtain⟨dst,op,type,pos,after,guard⟩:=o;cases op with
    |load t a=>
     simp only[bM]at ha;obtain⟨x,k1,k2⟩:=Yc ha;exact⟨x,s.h,by unfold c7;rw[km,h1];exact⟨rfl,λh' hh C' cB=> .inl (by simp only[bM];exact k2 h' hh _ cB)⟩,k1⟩
    |lookup t a b ok=>
     simp only[bM]at ha;split at ha
     ·rename_i x h' p hx
      obtain⟨rfl,k2⟩:=abp hx;exact⟨x,s.h,by unfold c7;rw[km,h1];exact⟨rfl,λh' hh C' cB=> .inl (by simp only[bM,k2 h' hh];exact⟨ha.1,cB⟩)⟩,ha.2⟩
     ·exact ha.elim
    |call c=>
     simp only[bw]at h1;cases dE:c.callee with
     |value f=>cases jN:mU f<;>simp [dE,jN]at h1
     |invoke=>simp [dE]at h1
     |builtin b=>cases b<;>simp [dE]at h1
    |_=>simp [bw]at h1
   ·by_cases h2:bw o=2
    ·obtain⟨B,kB,k1,k2⟩:=WT h2 ha;exact⟨_,_,by unfold c7;rw[km,h2];exact⟨B,kB,rfl,rfl,λh' C' cB=> .inl (k2 h' C' cB)⟩,k1⟩
    ·by_cases h3:bw o=3
     ·obtain⟨x,nI,k1,kv,k2⟩:=YZ h3 ha;exact⟨x,nI,by unfold c7;rw[km,h3];exact⟨kv,λC' cB=> .inl (k2 C' cB)⟩,k1⟩
     ·by_cases h5:bw o=5
      ·obtain⟨x,nI,k1,c1,k2⟩:=V5 h5 ha;exact⟨x,nI,by unfold c7;rw[km,h5];exact⟨c1,λC' cB=> .inl (k2 C' cB)⟩,k1⟩
      exfalso;obtain⟨dst,op,type,pos,after,guard⟩:=o;cases op with
      |call c=>
       simp only[bw]at h0 h3 NI zp h5;simp only[bM]at ha;cases dE:c.callee with
       |value f=>cases jN:mU f<;>simp [dE,jN]at NI zp
       |invoke=>simp only[dE]at ha
       |builtin b=>cases b<;>simp only[dE]at ha h0 h3 h5<;>first|exact ha|exact absurd rfl h0|exact absurd rfl h3|exact absurd rfl h5|exact h3 trivial|exact h0 trivial|exact h5 trivial
      |_=>first|exact absurd rfl h0|exact absurd rfl h1|exact absurd rfl h2|exact absurd rfl h3|exact ha
 unfold vG at hd;split at hd
 ·rename_i c fm
  split at hd
  ·rename_i f dE
   have fin:∀x:J,(∀e,∀C':J->agK aj->Prop,C' x (s.h++e)->bM P o (ev s) (s.h++e) C')->c7 m P o (ev s) s.h x s.h:=λx hx=>by
    have hk:bw o=4\/bw o=6:=by
     unfold bw;simp only[fm,dE];cases mU f<;>simp
    unfold c7;rw[km];rcases hk with hk|hk
    ·rw[hk];exact⟨rfl,λe C' cB=> .inl (hx e C' cB)⟩
    ·rw[hk];refine⟨[],(agh _).symm,λC' cB=> .inl ?_⟩;have:=hx [] C' (by rw[agh];exact cB)
     rwa [agh]at this
   split at hd
   ·rename_i g cF hg
    obtain⟨x,hK,iq⟩:=hd;refine⟨x,s.h,fin x λe C' cB=> ?_,hK⟩;unfold bM;simp only[fm,dE,hg];exact(iq e).mono λr' h' ⟨e1,e2⟩=>by subst e1;subst e2;exact cB
   ·rename_i q hg
    obtain⟨g,cs,rfl,x,hK,iq⟩:=hd;refine⟨x,s.h,fin x λe C' cB=> ?_,hK⟩;unfold bM;simp only[fm,dE,hg];exact⟨g,cs,rfl,(iq e).mono λr' h' ⟨e1,e2⟩=>by subst e1;subst e2;exact cB⟩
   ·exact hd.elim
  ·rename_i dE
   exact plain hd (by
    unfold bw;simp only[fm];cases hc:c.callee with
    |value f=>exact absurd hc (dE f)
    |invoke=>simp
    |builtin b=>cases b<;>simp) (by
    unfold bw;simp only[fm];cases hc:c.callee with
    |value f=>exact absurd hc (dE f)
    |invoke=>simp
    |builtin b=>cases b<;>simp)
 ·rename_i fm
  exact plain hd (by
   unfold bw;split<;>first|(rename_i c hc;exact(fm c hc).elim)|simp) (by
   unfold bw;split<;>first|(rename_i c hc;exact(fm c hc).elim)|simp)
theorem S8{m:Bool}{h1:agK aj}{x:J}(h0:c7 m P o ρ h x h1):∀C:J->agK aj->Prop,C x h1->gU P o ρ h C:=λC hC=>by
 unfold c7 at h0;split at h0
 ·obtain⟨e,h0⟩:=h0;subst e;exact h0 _ (.inr (fX.refl _)) _ hC
 ·obtain⟨e,h0⟩:=h0;subst e;exact h0 _ (gk.refl _) _ hC
 ·obtain⟨B,_,rfl,rfl,h0⟩:=h0;exact h0 _ _ hC
 ·exact h0.2 _ hC
 ·obtain⟨e,h0⟩:=h0;subst e;have:=h0 [] C (by rw[agh];exact hC)
  rwa [agh]at this
 ·exact h0.2 _ hC
 ·obtain⟨e0,_,h0⟩:=h0;exact h0 _ hC
 ·exact h0 _ hC
 ·exact h0.elim
theorem Io{m:Bool}{s:St}{K:St->Prop}(hd:tu m P o K s):∃x h1,c7 m P o (ev s) s.h x h1/\K ((s.wh h1).put o.dst x):=by
 cases iD:kJ m o with
 |true=>
  have k7:gP m o=7:=by unfold gP;rw[iD];rfl
  rcases hd with hd|⟨_,x,h1,hK,hc⟩|⟨hv,a,x,h',p,hx,hp,hK⟩|⟨_,x,e0,hK,hc⟩
  ·obtain⟨x,h1,h2,hK⟩:=RV (m:=false) rfl hd;refine⟨x,h1,?_,hK⟩;have:=S8 h2;unfold c7;rw[k7];exact this
  ·exact⟨x,h1,by unfold c7;rw[k7];exact λC hC=> .inl (hc C hC),hK⟩
  ·exact⟨x,h',by unfold c7;rw[k7];exact λC hC=> .inr ⟨hv.imp (·.1) (λe=>(afX _ _▸e).2),a,x,h',p,hx,hp,hC⟩,hK⟩
  ·exact⟨x,_,by unfold c7;rw[k7];exact λC hC=> .inl (hc C hC),hK⟩
 |false=>
 have km:gP m o=bw o:=by unfold gP;rw[iD];rfl
 rcases hd with hd|⟨hb,_⟩|⟨hv,a,x,h',p,hx,hp,hK⟩|⟨hk,x,e0,hK,hc⟩
 ·exact RV iD hd
 ·rw[iD]at hb;cases hb
 ·obtain⟨hv,OB⟩:gN o=true/\(m&&bw o==0)=false:=hv.resolve_right λe=>by
   rw[afX]at e;unfold kJ at iD;rw[e.1,e.2]at iD;simp at iD
  have hk:bw o=0\/bw o=1\/bw o=3:=by
   unfold gN at hv;unfold bw;split at hv
   all_goals first|(next e=>simp only[e];simp)|skip
   ·next c e=>
    split at hv
    ·next e2=>simp only[e,e2];simp
    ·cases hv
   ·cases hv
  rcases hk with hk|hk|hk
  ·obtain⟨rfl,h2⟩:=abT hv hk hx hp;refine⟨x,_,?_,hK⟩;unfold c7;rw[km,hk];exact⟨rfl,λh' hh C hC=> .inr ⟨.inl hv,a,x,h',by obtain⟨p',q1,q2⟩:=h2 h' (hh.resolve_left λe=>by rw[e,hk]at OB;cases OB);exact⟨p',q1,q2,hC⟩⟩⟩
  ·obtain⟨rfl,h2⟩:=Ye hv hk hx hp;refine⟨x,_,?_,hK⟩;unfold c7;rw[km,hk];exact⟨rfl,λh' hh C hC=> .inr ⟨.inl hv,a,x,h',by obtain⟨p',q1,q2⟩:=h2 h' hh;exact⟨p',q1,q2,hC⟩⟩⟩
  ·refine⟨x,h',?_,hK⟩;unfold c7;rw[km,hk];exact⟨VR hv hk hx hp,λC hC=> .inr ⟨.inl hv,a,x,h',p,hx,hp,hC⟩⟩
 ·refine⟨x,_,?_,hK⟩;unfold c7;rw[km,hk];exact⟨e0,rfl,λC hC=> .inl (hc C hC)⟩
end
structure gJ(s s':St):Prop where
 n:s.n=s'.n
 h:s.h=s'.h
 t:∀i,aQ s.t i=aQ s'.t i
theorem gJ.refl(s:St):gJ s s:=⟨rfl,rfl,λ_=>rfl⟩
theorem gJ.symm{s s':St}(h:gJ s s'):gJ s' s:=⟨h.n.symm,h.h.symm,λi=>(h.t i).symm⟩
theorem gJ.trans{a b c:St}(h:gJ a b)(k:gJ b c):gJ a c:=⟨h.n.trans k.n,h.h.trans k.h,λi=>(h.t i).trans (k.t i)⟩
theorem o7(s:St)(d:agM Nat)(x:J)(i:Nat):aQ (s.put d x).t i=if d=some i/\i<s.n then x else aQ s.t i:=by
 cases d with
 |none=>simp [St.put]
 |some k=>
  by_cases hk:k<s.n
  ·rw[nQ hk,kF];by_cases hi:i=k
   ·subst hi;simp [hk]
   ·rw[if_neg hi,if_neg (by simp;intro e;exact absurd e.symm hi)]
  ·rw[zD hk];rw[if_neg (by rintro⟨e,az⟩;cases e;exact hk az)]
theorem nZ(s:St)(d:agM Nat)(x:J):(s.put d x).n=s.n:=by
 cases d with
 |none=>rfl
 |some k=>
  by_cases hk:k<s.n
  ·rw[nQ hk]
  ·rw[zD hk]
theorem xO(s:St)(d:agM Nat)(x:J):(s.put d x).h=s.h:=by
 cases d with
 |none=>rfl
 |some k=>
  by_cases hk:k<s.n
  ·rw[nQ hk]
  ·rw[zD hk]
theorem gJ.put{s s':St}(h:gJ s s')(h1:agK aj)(d:agM Nat)(x:J):gJ ((s.wh h1).put d x) ((s'.wh h1).put d x):=
 ⟨by rw[nZ,nZ];exact h.n,by rw[xO,xO];rfl,λi=>by
  rw[o7,o7];show(if d=some i/\i<s.n then x else aQ s.t i)=(if d=some i/\i<s'.n then x else aQ s'.t i);rw[h.n,h.t]⟩
theorem T0(s:St)(h1 nI h2:agK aj){d d':agM Nat}(x x':J)(bQ:∀k,d=some k->d'≠some k):gJ ((((s.wh h1).put d x).wh h2).put d' x') ((((s.wh nI).put d' x').wh h2).put d x):=by
 refine⟨by simp only[nZ];show((s.wh h1).put d x).n=((s.wh nI).put d' x').n;simp only[nZ];rfl,by simp only[xO];rfl,λi=> ?_⟩;rw[o7,o7];show(if d'=some i/\i<((s.wh h1).put d x).n then x' else aQ ((s.wh h1).put d x).t i)=(if d=some i/\i<((s.wh nI).put d' x').n then x else aQ ((s.wh nI).put d' x').t i);rw[nZ,nZ,o7,o7];show(if d'=some i/\i<s.n then x' else(if d=some i/\i<s.n then x else aQ s.t i))=(if d=some i/\i<s.n then x else(if d'=some i/\i<s.n then x' else aQ s.t i));by_cases a:d=some i
 ·have:=bQ i a;simp [a,this]
 ·simp [a]
section
variable {P:agN} {ops:Array Oper}
def lr(m:Bool)(P:agN)(ops:Array Oper)(o:Oper)(s:St)(x:J)(h1:agK aj):Prop:=
 (fk ops o s True False/\c7 m P o (ev s) s.h x h1)\/(fk ops o s False True/\x= .d (.v undef)/\h1=s.h)
theorem Ll{o:Oper}{s:St}{yes no:Prop}(h:fk ops o s yes no):(fk ops o s True False/\yes)\/(fk ops o s False True/\no):=by
 unfold fk at h ⊢;split at h
 ·exact .inl ⟨trivial,h⟩
 ·rename_i j want hg
  split at h
  ·rename_i d hd
   split at h
   ·rename_i b hb
    by_cases tZ:b=want
    ·exact .inl ⟨⟨λ_=>trivial,λe=>by subst tZ;cases b<;>cases e⟩,h.1 tZ⟩
    ·have Ab:b= !want:=by cases b<;>cases want<;>simp_all
     exact .inr ⟨⟨λe=>(tZ e).elim,λ_=>trivial⟩,h.2 Ab⟩
   ·exact .inr ⟨trivial,h⟩
   ·exact h.elim
  ·exact h.elim
theorem sm{o:Oper}{s s':St}{yes no:Prop}(ht:∀d,d∈o.looksAt ops->aQ s'.t d=aQ s.t d)(h:fk ops o s yes no):fk ops o s' yes no:=by
 unfold fk at h ⊢;split at h
 ·exact h
 ·rename_i j want hg
  split at h
  ·rename_i d hd
   have:aQ s'.t d=aQ s.t d:=ht d (by unfold Oper.looksAt;rw[hg];simp [hd]);rw[this];exact h
  ·exact h.elim
theorem K5{m:Bool}{o:Oper}{s s':St}{x:J}{h1:agK aj}(ht:∀d,d∈o.looksAt ops->aQ s'.t d=aQ s.t d)(hh:s'.h=s.h)(h:lr m P ops o s x h1):lr m P ops o s' x h1:=by
 have cr:∀y∈o.op.operands,ev s y=ev s' y:=λy hy=>by
  cases y with
  |tmp t=>exact(ht t (by unfold Oper.looksAt;refine agy.2 (.inl (List.mem_filterMap.2 ⟨.tmp t,Array.mem_toList_iff.2 hy,rfl⟩)))).symm
  |_=>rfl
 rcases h with⟨g,hc⟩|⟨g,e1,e2⟩
 ·refine .inl ⟨sm ht g,?_⟩;rw[hh];have rb:∀h C,gU P o (ev s) h C=gU P o (ev s') h C:=λh C=>It cr;unfold c7 at hc ⊢;split at hc
  ·exact⟨hc.1,λh' hh C hC=>rb h' C▸hc.2 h' hh C hC⟩
  ·exact⟨hc.1,λh' hh C hC=>rb _ C▸hc.2 h' hh C hC⟩
  ·obtain⟨B,kB,a,b,c⟩:=hc;exact⟨B,kB,a,b,λh' C hC=>rb h' C▸c h' C hC⟩
  ·exact⟨hc.1,λC hC=>rb _ C▸hc.2 C hC⟩
  ·exact⟨hc.1,λe C hC=>rb _ C▸hc.2 e C hC⟩
  ·exact⟨hc.1,λC hC=>rb _ C▸hc.2 C hC⟩
  ·obtain⟨e0,a,b⟩:=hc;exact⟨e0,a,λC hC=>rb _ C▸b C hC⟩
  ·exact λC hC=>rb _ C▸hc C hC
  ·exact hc.elim
 ·exact .inr ⟨sm ht g,e1,e2.trans hh.symm⟩
theorem RZ{o:Oper}(h:bw o=7):False:=by
 unfold bw at h
 repeat' (first|(split at h)|cases h)
 all_goals (cases hg:mU _<;>rw[hg]at h<;>cases h)
theorem aaC{m:Bool}{o:Oper}{ρ:Operand->J}{h h1:agK aj}{x:J}(h7:kJ m o=false)(h0:c7 m P o ρ h x h1):fX h h1:=by
 unfold c7 at h0;unfold gP at h0;rw[h7]at h0;simp only[cond_false]at h0;split at h0
 ·rw[h0.1];exact fX.refl _
 ·rw[h0.1];exact fX.refl _
 ·obtain⟨B,kB,_,e,_⟩:=h0;rw[e];exact(fK.app kB).i
 ·exact h0.1.i
 ·rw[h0.1];exact fX.refl _
 ·exact h0.1.2.2.i
 ·obtain⟨e0,e,_⟩:=h0;rw[e];exact fX.app _ _
 ·next e=>exact(RZ e).elim
 ·exact h0.elim
theorem acJ{m:Bool}{o:Oper}{ρ:Operand->J}{h h1:agK aj}{x:J}(h7:kJ m o=false)(hk:bw o≠6)(h0:c7 m P o ρ h x h1):fX h1 h:=by
 unfold c7 at h0;unfold gP at h0;rw[h7]at h0;simp only[cond_false]at h0;split at h0
 ·rw[h0.1];exact fX.refl _
 ·rw[h0.1];exact fX.refl _
 ·obtain⟨B,kB,_,e,_⟩:=h0;rw[e];exact(fK.app kB).j
 ·exact h0.1.j
 ·rw[h0.1];exact fX.refl _
 ·exact h0.1.2.2.j
 ·next e=>exact(hk e).elim
 ·next e=>exact(RZ e).elim
 ·exact h0.elim
def vL(m:Bool)(a b:Oper):Bool:=(m&&((nh a&&(!kJ m b&&bw b==0))||(nh b&&(!kJ m a&&bw a==0))))|| !kJ m a&& !kJ m b&&(bw a==0||(bw b==0&& !(bw a==6))||((bw a==1||bw a==4)&&(bw b==1||bw b==4||bw b==2||bw b==6))||(bw a==1&&bw b==5)||(bw a==5&&bw b==1))
theorem afr{m:Bool}{oi oj:Oper}{s:St}{xi xj:J}{hi hj:agK aj}(Bo:oi.apart ops oj=true)(fU:vL m oi oj=true)(h1:lr m P ops oi s xi hi)(h2:lr m P ops oj ((s.wh hi).put oi.dst xi) xj hj):
 ∃fI,lr m P ops oj s xj fI/\lr m P ops oi ((s.wh fI).put oj.dst xj) xi hj:=by
 obtain⟨a1,a2,a3⟩:=Oper.apart_spec Bo;have tj:∀d,d∈oj.looksAt ops->aQ s.t d=aQ ((s.wh hi).put oi.dst xi).t d:=λd hd=>by
  rw[o7,if_neg (λe=>a1 d e.1 hd)];rfl
 have ti:∀(h':agK aj) d,d∈oi.looksAt ops->aQ ((s.wh h').put oj.dst xj).t d=aQ s.t d:=λh' d hd=>by
  rw[o7,if_neg (λe=>a3 d e.1 hd)];rfl
 have dK:((s.wh hi).put oi.dst xi).h=hi:=by rw[xO];rfl
 have mz:∀h',((s.wh h').put oj.dst xj).h=h':=λh'=>by rw[xO];rfl
 have same:hi=s.h->lr m P ops oj s xj hj:=λe=>K5 tj (by rw[dK,e]) h2;have evi:∀h',∀y∈oi.op.operands,ev ((s.wh h').put oj.dst xj) y=ev s y:=λh' y hy=>by
  cases y with
  |tmp t=>exact ti h' t (by unfold Oper.looksAt;refine agy.2 (.inl (List.mem_filterMap.2 ⟨.tmp t,Array.mem_toList_iff.2 hy,rfl⟩)))
  |_=>rfl
 have evj:∀y∈oj.op.operands,ev ((s.wh hi).put oi.dst xi) y=ev s y:=λy hy=>by
  cases y with
  |tmp t=>exact(tj t (by unfold Oper.looksAt;refine agy.2 (.inl (List.mem_filterMap.2 ⟨.tmp t,Array.mem_toList_iff.2 hy,rfl⟩)))).symm
  |_=>rfl
 have ci:∀h' h C,gU P oi (ev ((s.wh h').put oj.dst xj)) h C=gU P oi (ev s) h C:=λh' h C=>It (evi h');have cj:∀h C,gU P oj (ev ((s.wh hi).put oi.dst xi)) h C=gU P oj (ev s) h C:=λh C=>It evj;unfold vL at fU;rw[Bool.or_eq_true]at fU;rcases h1 with⟨g1,o1⟩|⟨g1,e1,e2⟩
 ·rcases h2 with⟨g2,o2⟩|⟨g2,f1,f2⟩
  ·rcases fU with fU|fU
   ·
    rw[afX,Bool.or_eq_true,afX,afX,afX,afX,Bool.not_eq_true',Bool.not_eq_true',beq_iff_eq,beq_iff_eq]at fU;obtain⟨hm,fU⟩:=fU;have qC:∀h',fk ops oi ((s.wh h').put oj.dst xj) True False:=λh'=>sm (ti h') g1;have F4:fk ops oj s True False:=sm tj g2;rcases fU with⟨WS,lj,kj⟩|⟨haj,li,ki⟩
    ·have lf:gP m oj=0:=by unfold gP;rw[lj];exact kj
     have jc:gP m oi=7:=by unfold gP kJ;rw[hm,WS,Bool.or_true];rfl
     unfold c7 at o1 o2;rw[jc]at o1;rw[lf]at o2;simp only at o1 o2;obtain⟨e,o2⟩:=o2;rw[dK]at e;refine⟨s.h, .inl ⟨F4,?_⟩, .inl ⟨qC s.h,?_⟩⟩
     ·unfold c7;rw[lf];exact⟨rfl,λh' _ C hC=>by rw[<-cj];exact o2 h' (.inl hm) C hC⟩
     ·unfold c7;rw[jc,mz];exact λC hC=>by rw[ci];exact o1 C (e▸hC)
    ·have jc:gP m oi=0:=by unfold gP;rw[li];exact ki
     have lf:gP m oj=7:=by unfold gP kJ;rw[hm,haj,Bool.or_true];rfl
     unfold c7 at o1;rw[jc]at o1;simp only at o1;obtain⟨e,o1⟩:=o1;refine⟨hj,same e, .inl ⟨qC hj,?_⟩⟩;unfold c7;rw[jc];exact⟨(mz hj).symm,λh' _ C hC=>by rw[ci];exact o1 h' (.inl hm) C hC⟩
   rw[afX,afX,Bool.not_eq_true',Bool.not_eq_true']at fU;obtain⟨⟨li,lj⟩,fU⟩:=fU;have jc:gP m oi=bw oi:=by unfold gP;rw[li];rfl
   have lf:gP m oj=bw oj:=by unfold gP;rw[lj];rfl
   have qC:∀h',fk ops oi ((s.wh h').put oj.dst xj) True False:=λh'=>sm (ti h') g1;have F4:fk ops oj s True False:=sm tj g2;by_cases k0:bw oi=0
   ·unfold c7 at o1;rw[jc,k0]at o1;simp only at o1;obtain⟨e,o1⟩:=o1;refine⟨hj,same e, .inl ⟨qC hj,?_⟩⟩;unfold c7;rw[jc,k0];have hv:fX s.h hj:=by
     have:=aaC lj o2;rw[dK,e]at this;exact this
    exact⟨(mz hj).symm,λh' hh C hC=>by rw[mz]at hh;rw[ci];exact o1 h' (hh.imp id λhh=>hv.trans hh) C hC⟩
   ·by_cases k1:bw oj=0
    ·unfold c7 at o2;rw[lf,k1]at o2;simp only at o2;obtain⟨e,o2⟩:=o2;rw[dK]at e o2;have k6:bw oi≠6:=λk6=>by
      simp [k6,k1]at fU
     have hv:=acJ li k6 o1;refine⟨s.h, .inl ⟨F4,?_⟩, .inl ⟨qC s.h,?_⟩⟩
     ·unfold c7;rw[lf,k1];exact⟨rfl,λh' hh C hC=>by rw[<-cj];exact o2 h' (hh.imp id λhh=>hv.trans hh) C hC⟩
     ·rw[e];unfold c7 at o1 ⊢;rw[mz];simp only[ci];exact o1
    ·by_cases Tf:bw oi=1/\bw oj=5
     ·obtain⟨ka,kb⟩:=Tf;unfold c7 at o1 o2;rw[jc,ka]at o1;rw[lf,kb]at o2;simp only at o1 o2;obtain⟨e,o1⟩:=o1;obtain⟨⟨c1,c2,_⟩,o2⟩:=o2;rw[dK,e]at c1 c2;refine⟨hj,same e, .inl ⟨qC hj,?_⟩⟩;unfold c7;rw[jc,ka];simp only;refine⟨(mz hj).symm,λh' hh C hC=> ?_⟩;rw[mz]at hh;rw[ci];exact o1 h' (λn cs hn hq=>hh n cs (c1 n cs hn hq) hq) C hC
     by_cases Tc:bw oi=5/\bw oj=1
     ·obtain⟨ka,kb⟩:=Tc;unfold c7 at o1 o2;rw[jc,ka]at o1;rw[lf,kb]at o2;simp only at o1 o2;obtain⟨⟨c1,c2,c3⟩,o1⟩:=o1;obtain⟨e,o2⟩:=o2;rw[dK]at e o2;refine⟨s.h, .inl ⟨F4,?_⟩, .inl ⟨qC s.h,?_⟩⟩
      ·unfold c7;rw[lf,kb];simp only;exact⟨trivial,λh' hh C hC=>by rw[<-cj];exact o2 h' (λn cs hn hq=>hh n cs (c2 n cs hn hq) hq) C hC⟩
      ·rw[e];unfold c7;rw[jc,ka];simp only;rw[mz];exact⟨⟨c1,c2,c3⟩,λC hC=>by rw[ci];exact o1 C hC⟩
     have hc:(bw oi=1\/bw oi=4)/\(bw oj=1\/bw oj=4\/bw oj=2\/bw oj=6):=by
      simp only[Bool.or_eq_true,afX,beq_iff_eq,k0,k1,false_or,false_and]at fU;rcases fU with(fU|fU)|fU
      ·refine⟨fU.1,?_⟩;rcases fU.2 with((h|h)|h)|h
       ·exact .inl h
       ·exact .inr (.inl h)
       ·exact .inr (.inr (.inl h))
       ·exact .inr (.inr (.inr h))
      ·exact absurd fU Tf
      ·exact absurd fU Tc
     have q1:hi=s.h/\∀e(C:J->agK aj->Prop),C xi (s.h++e)->gU P oi (ev s) (s.h++e) C:=by
      unfold c7 at o1;rcases hc.1 with k|k
      ·rw[jc,k]at o1;exact⟨o1.1,λe C hC=>o1.2 _ (gk.app _ _) C hC⟩
      ·rw[jc,k]at o1;exact o1
     have q2:∃e0,hj=s.h++e0:=by
      have ot:=o2;unfold c7 at ot;rcases hc.2 with k|k|k|k
      ·rw[lf,k]at ot;exact⟨[],by rw[ot.1,dK,q1.1,agh]⟩
      ·rw[lf,k]at ot;exact⟨[],by rw[ot.1,dK,q1.1,agh]⟩
      ·rw[lf,k]at ot;obtain⟨B,_,_,b,_⟩:=ot;exact⟨[B],by rw[b,dK,q1.1]⟩
      ·rw[lf,k]at ot;obtain⟨e0,b,_⟩:=ot;exact⟨e0,by rw[b,dK,q1.1]⟩
     obtain⟨e0,zj⟩:=q2;refine⟨hj,same q1.1, .inl ⟨qC hj,?_⟩⟩;have:∀e(C:J->agK aj->Prop),C xi (hj++e)->gU P oi (ev ((s.wh hj).put oj.dst xj)) (hj++e) C:=λe C hC=>by
      rw[ci,zj,agc];rw[zj,agc]at hC;exact q1.2 _ C hC
     unfold c7;rw[mz];rcases hc.1 with k|k
     ·rw[jc,k];simp only;refine⟨trivial,λh' hh C hC=> ?_⟩;rw[ci];unfold c7 at o1;rw[jc,k]at o1;exact o1.2 h' (λn cs hn hq=>hh n cs (by rw[zj];exact gk.app _ _ n cs hn hq) hq) C hC
     ·rw[jc,k];exact⟨rfl,this⟩
  ·
   subst f1;rw[dK]at f2;refine⟨s.h, .inr ⟨sm tj g2,rfl,rfl⟩,?_⟩;rw[f2];exact K5 (ti s.h) (by rw[mz]) (.inl ⟨g1,o1⟩)
 ·
  subst e1;refine⟨hj,same e2, .inr ⟨sm (ti hj) g1,rfl,(mz hj).symm⟩⟩
def sh(K:St->Prop):Prop:=∀s s',gJ s s'->K s->K s'
def lG(m:Bool)(P:agN)(ops:Array Oper)(K:St->Prop):Nat->Array Bool->St->Prop
 |0,listed,s=>Region.ready .any ops listed=[]/\K s
 |fuel+1,listed,s=>
  (Region.ready .any ops listed=[]->K s)/\
  ∀i∈Region.ready .any ops listed,∀o,ops[i]?=some o->∃x h1,lr m P ops o s x h1/\lG m P ops K fuel (listed.setIfInBounds i true) ((s.wh h1).put o.dst x)
theorem Ns{m:Bool}{K:St->Prop}(hK:sh K):∀(fuel:Nat)(listed:Array Bool)(s s':St),gJ s s'->lG m P ops K fuel listed s->lG m P ops K fuel listed s'
 |0,_,s,s',hs,h=>⟨h.1,hK s s' hs h.2⟩
 |fuel+1,_,s,s',hs,h=>⟨λh0=>hK s s' hs (h.1 h0),λi hi o ho=>by
  obtain⟨x,h1,h2,h3⟩:=h.2 i hi o ho;exact⟨x,h1,K5 (λd _=>(hs.t d).symm) hs.h.symm h2,Ns hK fuel _ _ _ (hs.put h1 o.dst x) h3⟩⟩
def oC(M:Array Nat)(ops:Array Oper):Bool:=
 (List.range ops.size).all λj=>(List.range ops.size).all λi=> !(M.getD j 0).testBit i||match ops[j]? with
  |some o=>o.after.any λe=>Region.binds .any e&&decide (e.on<j)&&(e.on==i||(M.getD e.on 0).testBit i)
  |none=>false
def Dn(ops:Array Oper)(listed:Array Bool):Prop:=∀(j:Nat)(o:Oper),ops[j]?=some o->listed.getD j false=true->∀e∈o.after,Region.binds .any e=true->listed.getD e.on false=true
theorem aad{M:Array Nat}(hM:oC M ops=true){listed:Array Bool}(hD:Dn ops listed):∀(j i:Nat)(o:Oper),i<ops.size->ops[j]?=some o->(∀e∈o.after,Region.binds .any e=true->listed.getD e.on false=true)->(M.getD j 0).testBit i=true->listed.getD i false=true:=by
 intro j
 induction j using Nat.strongRecOn with
 |_ j ih=>
  intro i o hi ho hp hb;unfold oC at hM;simp only[agm,List.mem_range]at hM;have h1:=hM j (aga.1 ho).1 i hi;rw[hb,ho]at h1;simp only[Bool.not_true,Bool.false_or]at h1;rw[Array.any_eq_true']at h1;obtain⟨e,he,h2⟩:=h1;simp only[afX,decide_eq_true_eq,Bool.or_eq_true,beq_iff_eq]at h2;obtain⟨⟨I5,az⟩,h3⟩:=h2;have hl:=hp e he I5;rcases h3 with h3|h3
  ·rw[<-h3];exact hl
  ·have DY:e.on<ops.size:=Nat.lt_trans az (aga.1 ho).1;exact ih e.on az i ops[e.on] hi (agi DY) (hD e.on _ (agi DY) hl) h3
theorem Dn.set{listed:Array Bool}(hD:Dn ops listed){i:Nat}(hr:i∈Region.ready .any ops listed):Dn ops (listed.setIfInBounds i true):=by
 intro j o ho hj e he hb;refine getD_set_true ?_;by_cases lq:i=j
 ·subst lq;obtain⟨_,o',NJ,dw⟩:=mem_ready.1 hr;rw[ho]at NJ;cases NJ;exact dw e he hb
 ·rw[getD_set_ne false lq]at hj;exact hD j o ho hj e he hb
theorem JW{m:Bool}{K:St->Prop}(hK:sh K){M:Array Nat}(hM:oC M ops=true){i:Nat}{oi:Oper}{x:J}{h1:agK aj}(hi:ops[i]?=some oi):
 ∀(fuel:Nat)(listed:Array Bool)(s:St),Dn ops listed->
  (∀j oj,ops[j]?=some oj->j≠i->listed.getD j true=false->(M.getD j 0).testBit i=false->oi.apart ops oj=true/\vL m oi oj=true)->
  i∈Region.ready .any ops listed->lr m P ops oi s x h1->lG m P ops K fuel (listed.setIfInBounds i true) ((s.wh h1).put oi.dst x)->lG m P ops K (fuel+1) listed s:=by
 intro fuel
 induction fuel generalizing x h1 with
 |zero=>
  intro listed s _ _ hr hy H;refine⟨λh=>(by rw[h]at hr;cases hr),λj hj o ho=> ?_⟩;by_cases p9:j=i
  ·subst p9;rw[hi]at ho;cases ho;exact⟨x,h1,hy,H⟩
  ·have:=ready_mono hj p9;rw[H.1]at this;cases this
 |succ fuel ih=>
  intro listed s hD P8 hr hy H;refine⟨λh=>(by rw[h]at hr;cases hr),λj hj oj wq=> ?_⟩;by_cases p9:j=i
  ·subst p9;rw[hi]at wq;cases wq;exact⟨x,h1,hy,H⟩
  ·obtain⟨xj,hj1,G5,H2⟩:=H.2 j (ready_mono hj p9) oj wq;obtain⟨Ru,oj',PY,dw⟩:=mem_ready.1 hj;rw[wq]at PY;cases PY;have afa:=(aga.1 hi).1;have px:listed.getD i false=false:=by
    have h0:=(mem_ready.1 hr).1;rcases Nat.lt_or_ge i listed.size with h'|h'
    ·simpa [h']using h0
    ·simp [Array.getElem?_eq_none h']at h0
   have gC:(M.getD j 0).testBit i=false:=by
    cases hb:(M.getD j 0).testBit i with
    |false=>rfl
    |true=>rw[aad hM hD j i oj afa wq dw hb]at px;cases px
   obtain⟨Bo,fU⟩:=P8 j oj wq p9 Ru gC;obtain⟨fI,s1,s2⟩:=afr Bo fU hy G5;obtain⟨_,a2,_⟩:=Oper.apart_spec Bo;refine⟨xj,fI,s1,ih (listed.setIfInBounds j true) _ (hD.set hj) (λk ok hk GZ Mg uv=> ?_) (ready_mono hr (Ne.symm p9)) s2 ?_⟩
   ·refine P8 k ok hk GZ ?_ uv;by_cases FZ:j=k
    ·subst FZ;exact Ru
    ·rw[getD_set_ne true FZ]at Mg;exact Mg
   ·rw[Array.setIfInBounds_comm _ _ p9];exact Ns hK _ _ _ _ (T0 s h1 fI hj1 x xj (λk hk=>a2 k hk)) H2
def OY(M:Array Nat)(ops:Array Oper)(k:Nat):Bool:=
 match ops[k]? with
 |none=>false
 |some oi=>(List.range ops.size).all λj=>decide (j<=k)||(M.getD j 0).testBit k||match ops[j]? with
  |some oj=>oi.apart ops oj&&vL false oi oj
  |none=>true
def Ae(M:Array Nat)(ops:Array Oper):Nat->Nat->Array Bool->Bool
 |0,_,listed=>(Region.ready .any ops listed).isEmpty
 |fuel+1,k,listed=>(Region.ready .any ops listed).contains k&&OY M ops k&&Ae M ops fuel (k+1) (listed.setIfInBounds k true)
def uX(ops:Array Oper):Bool:=oC (Region.before ops) ops&&Ae (Region.before ops) ops ops.size 0 (Array.replicate ops.size false)
theorem Tl{K K':St->Prop}(hK:sh K')(xr:∀s,K s->K' s){M:Array Nat}(hM:oC M ops=true):∀(l:agK Oper)(k:Nat)(listed:Array Bool)(s:St),(∀j,l[j]?=ops[k+j]?)->(∀j,j<k->listed.getD j true=true)->Dn ops listed->
 Ae M ops l.length k listed=true->w6 P ops l K s->lG false P ops K' l.length listed s
 |[],_,_,_,_,_,_,hB,h=>⟨by simpa [Ae]using hB,xr _ h⟩
 |o::l,k,listed,s,hl,na,hD,hB,h=>by
  have h0:ops[k]?=some o:=by simpa using (hl 0).symm
  simp only[afY,Ae,afX]at hB;obtain⟨⟨hr,hf⟩,c8⟩:=hB;have mF:k∈Region.ready .any ops listed:=by simpa using hr
  have mE:∀j,l[j]?=ops[k+1+j]?:=λj=>by have:=hl (j+1);simpa [Nat.add_assoc,Nat.add_comm 1 j]using this
  have U7:∀j,j<k+1->(listed.setIfInBounds k true).getD j true=true:=λj hj=>by
   by_cases e:k=j
   ·subst e;rcases Nat.lt_or_ge k listed.size with h'|h'
    ·simp [h']
    ·have:(listed.setIfInBounds k true)[k]?=none:=Array.getElem?_eq_none (by simpa using h');rw[Array.getD_eq_getD_getElem?,this];rfl
   ·rw[getD_set_ne true e];exact na j (by omega)
  obtain⟨x,h1,hy,we⟩:∃x h1,lr false P ops o s x h1/\w6 P ops l K ((s.wh h1).put o.dst x):=by
   rcases Ll h with⟨g,hd⟩|⟨g,hd⟩
   ·obtain⟨x,h1,h2,h3⟩:=Io hd;exact⟨x,h1, .inl ⟨g,h2⟩,h3⟩
   ·exact⟨_,s.h, .inr ⟨g,rfl,rfl⟩,hd⟩
  refine JW hK hM h0 l.length listed s hD (λj oj hj bQ px uv=> ?_) mF hy (Tl hK xr hM l (k+1) _ _ mE U7 (hD.set mF) c8 we);unfold OY at hf;rw[h0]at hf;simp only[agm,List.mem_range]at hf;have:=hf j (aga.1 hj).1;rw[uv,hj]at this;simp only[Bool.or_false,Bool.or_eq_true,afX,decide_eq_true_eq]at this;rcases this with this|this
  ·exfalso;have:=na j (by omega);rw[this]at px;cases px
  ·exact this
def N9(ops:Array Oper):Nat->Array Bool->agK Nat
 |0,_=>[]
 |f+1,listed=>match (Region.ready .any ops listed).find? (λk=>match ops[k]? with|some o=> !(bw o==6)&& !F2 o|none=>false)with
  |some k=>k::N9 ops f (listed.setIfInBounds k true)
  |none=>match Region.ready .any ops listed with
   |k::_=>k::N9 ops f (listed.setIfInBounds k true)
   |[]=>[]
def z8(m:Bool)(M:Array Nat)(ops:Array Oper):agK Nat->Array Bool->Bool
 |[],listed=>(Region.ready .any ops listed).isEmpty
 |k::l,listed=>(Region.ready .any ops listed).contains k&&(match ops[k]? with
  |none=>false
  |some oi=>(List.range ops.size).all λj=>j==k||listed.getD j true||(M.getD j 0).testBit k||match ops[j]? with
   |some oj=>oi.apart ops oj&&vL m oi oj
   |none=>true)&&z8 m M ops l (listed.setIfInBounds k true)
def Gv(m:Bool)(ops:Array Oper)(p:agK Nat):Bool:=oC (Region.before ops) ops&&z8 m (Region.before ops) ops p (Array.replicate ops.size false)
def n9(ops:Array Oper):agK Nat->agK Oper
 |[]=>[]
 |k::l=>match ops[k]? with
  |some o=>o::n9 ops l
  |none=>n9 ops l
theorem MI{m:Bool}{K K':St->Prop}(hK:sh K')(xr:∀s,K s->K' s){M:Array Nat}(hM:oC M ops=true):∀(l:agK Nat)(listed:Array Bool)(s:St),Dn ops listed->
 z8 m M ops l listed=true->rf m P ops (n9 ops l) K s->lG m P ops K' l.length listed s
 |[],_,_,_,hB,h=>⟨by simpa [z8]using hB,xr _ h⟩
 |k::l,listed,s,hD,hB,h=>by
  simp only[z8,afX]at hB;obtain⟨⟨hr,hf⟩,c8⟩:=hB;have mF:k∈Region.ready .any ops listed:=by simpa using hr
  obtain⟨_,o,h0,_⟩:=mem_ready.1 mF;rw[h0]at hf;simp only[agm,List.mem_range]at hf;simp only[n9,h0]at h;obtain⟨x,h1,hy,we⟩:∃x h1,lr m P ops o s x h1/\rf m P ops (n9 ops l) K ((s.wh h1).put o.dst x):=by
   rcases Ll h with⟨g,hd⟩|⟨g,hd⟩
   ·obtain⟨x,h1,h2,h3⟩:=Io hd;exact⟨x,h1, .inl ⟨g,h2⟩,h3⟩
   ·exact⟨_,s.h, .inr ⟨g,rfl,rfl⟩,hd⟩
  refine JW hK hM h0 l.length listed s hD (λj oj hj bQ px uv=> ?_) mF hy (MI hK xr hM l _ _ (hD.set mF) c8 we);have:=hf j (aga.1 hj).1;rw[uv,px,hj]at this;simp only[Bool.or_false,Bool.or_eq_true,afX,beq_iff_eq]at this;rcases this with this|this
  ·exact absurd this bQ
  ·exact this
end
section
variable {P:agN} {r:agM Nat} {n N0:Nat} {G:Gh} {w:agP} {a:Act} {s:St} {o:Oper} {Q:Exit->St->Prop}
theorem bU.drew(hs:bU G w a s):a7 G.N G w G {w with drawn:=w.drawn+1}/\bU G {w with drawn:=w.drawn+1} a s:=by
 have hE:a7 G.N G w G {w with drawn:=w.drawn+1}:=⟨af6 _,λ_ _ h=>h,λ_ _ _=>rfl,λ_ _=>rfl,λ_ _=> .inl ⟨rfl,rfl⟩,fi rfl,λ_ _=>rfl,rfl,rfl,rfl,λ_ _ h=> .inl h⟩;have hi:bg G {w with drawn:=w.drawn+1} s.h:=⟨hs.inv.len,hs.inv.z,hs.inv.S,λn B hB=>cX.aG (hs.inv.lt hB) hE (af6 _) ⟨rfl,rfl,rfl⟩ (λ_ _=>⟨rfl,λ_ h=>h⟩) (hs.inv.b6 n B hB),hs.inv.inj,hs.inv.gl.aG hE⟩;exact⟨hE,hs.move hE (af6 _) hi⟩
theorem ZK{m:Bool}{x:J}{h1:agK aj}(h:c7 m P o (ev s) s.h x h1):gU P o (ev s) s.h (λx' h'=>(s.wh h').put o.dst x'=(s.wh h1).put o.dst x):=S8 h _ rfl
theorem AQ{m:Bool}{ops:Array Oper}{K:St->Prop}{Q':Exit->Act->agP->Prop}(hQ:∀a' w',gw N0 G w K a' w'->Q' .normal a' w'):∀(fuel:Nat)(listed:Array Bool)(G1:Gh)(w1:agP)(a:Act)(s:St),
 a7 N0 G w G1 w1->N0<=G1.N->bU G1 w1 a s->lG m P ops K fuel listed s->wpAnyIn (WF r) n P .any ops Q' fuel listed a w1
 |0,_,G1,w1,a,s,hE,hN,hs,h=>⟨h.1,hQ _ _ ⟨G1,s,hE,hN,hs,h.2⟩⟩
 |fuel+1,listed,G1,w1,a,s,hE,hN,hs,h=>by
  refine⟨λh0=>hQ _ _ ⟨G1,s,hE,hN,hs,h.1 h0⟩,λi hi=> ?_⟩;obtain⟨_,o,ho,_⟩:=mem_ready.1 hi;obtain⟨x,h1,hy,we⟩:=h.2 i hi o ho;unfold wpOpIn;rw[ho];simp only;rcases hy with⟨g,hc⟩|⟨g,rfl,rfl⟩
  ·have hg:=He hs g;split at hg
   ·rename_i hw
    rw[if_pos hw];refine Oper.wpIn_mono (λa' w' hn=> ?_) ((ZK hc).elim (λk=>PV (K:=λs'=>s'=(s.wh h1).put o.dst x) (r:=r) (n:=n) (N0:=N0) (Q:=Q') hs hN k) fun⟨_,va,x',h',p,k1,k2,k3⟩=>RQ (K:=λs'=>s'=(s.wh h1).put o.dst x) (r:=r) (n:=n) (N0:=N0) (Q:=Q') hs hN ⟨va,x',h',p,k1,k2,k3⟩);obtain⟨G2,s2,e2,n2,Hp,rfl⟩:=hn;exact AQ hQ fuel _ G2 w' a' _ (hE.trans e2) n2 Hp we
   ·exact hg.elim
  ·have hg:=He hs g;split at hg
   ·exact hg.elim
   ·rename_i hw
    rw[if_neg hw];exact⟨λ_ _=>trivial,AQ hQ fuel _ G1 w1 _ _ hE hN (hs.put (.d (.v undef)) o.dst) we⟩
theorem Mw{id:Nat}{l:agK Oper}(hm:P.follows .mixedOrders=true)(hl:uX l.toArray=true)(h:w6 P l.toArray l (Q .normal) s):aX P r N0 (.region id l.toArray true) Q s:=by
 constructor
 intro G w a n hs hN;unfold uX at hl;rw[afX]at hl;obtain⟨d1,d2⟩:=hs.drew;refine wpIn_region_any hm ?_;have hC:sh (λs=>∃s',gJ s' s/\Q .normal s'):=λs s' e ⟨s0,e0,h0⟩=>⟨s0,e0.trans e,h0⟩;have:=Tl (K:=Q .normal) hC (λs h=>⟨s,gJ.refl s,h⟩) hl.1 l 0 (Array.replicate l.toArray.size false) s (by simp) (λj hj=>absurd hj (ago _)) (λj o ho hj=>by
  exfalso;rw[Array.getD_eq_getD_getElem?]at hj;rw[Array.getElem?_replicate]at hj;split at hj<;>simp at hj) (by simpa using hl.2) h
 refine AQ (G:=G) (w:=w) (N0:=N0) (K:=λs=>∃s',gJ s' s/\Q .normal s') (λa' w' hn=> ?_) l.toArray.size _ G _ a s (d1.less hN) hN d2 (by simpa using this);obtain⟨G',s',x1,x2,x3,s0,e0,x4⟩:=hn;refine⟨G',s0,x1,x2,⟨x3.size.trans e0.n.symm,λi=>by rw[e0.t i];exact x3.tmp i,by rw[e0.h];exact x3.inv,x3.df⟩,x4⟩
theorem ZX{m:Bool}{id:Nat}{ops:Array Oper}(p:agK Nat)(hm:P.follows .mixedOrders=true)(hz:p.length=ops.size)(hl:Gv m ops p=true)(h:rf m P ops (n9 ops p) (Q .normal) s):aX P r N0 (.region id ops true) Q s:=by
 constructor
 intro G w a n hs hN;unfold Gv at hl;rw[afX]at hl;obtain⟨d1,d2⟩:=hs.drew;refine wpIn_region_any hm ?_;have hC:sh (λs=>∃s',gJ s' s/\Q .normal s'):=λs s' e ⟨s0,e0,h0⟩=>⟨s0,e0.trans e,h0⟩;have:=MI (K:=Q .normal) hC (λs h=>⟨s,gJ.refl s,h⟩) hl.1 p (Array.replicate ops.size false) s (λj o ho hj=>by
  exfalso;rw[Array.getD_eq_getD_getElem?]at hj;rw[Array.getElem?_replicate]at hj;split at hj<;>simp at hj) hl.2 h
 rw[hz]at this;refine AQ (G:=G) (w:=w) (N0:=N0) (K:=λs=>∃s',gJ s' s/\Q .normal s') (λa' w' hn=> ?_) ops.size _ G _ a s (d1.less hN) hN d2 this;obtain⟨G',s',x1,x2,x3,s0,e0,x4⟩:=hn;refine⟨G',s0,x1,x2,⟨x3.size.trans e0.n.symm,λi=>by rw[e0.t i];exact x3.tmp i,by rw[e0.h];exact x3.inv,x3.df⟩,x4⟩
end
def afC(want:Bool):J->Bool
 | .d (.v (.bool b))=>b==want
 |_=>false
def gNo(want:Bool):J->Bool
 | .d (.v (.bool b))=>b== !want
 | .d (.v (.tuple _))=>true
 |_=>false
def acb(t:agK (Nat×J)):agM Nat->J
 |some d=>aQ t d
 |none=> .dead
def qz(ops:Array Oper)(j:Nat)(t:agK (Nat×J)):J:=acb t ((ops[j]?).bind (·.dst))
section
variable {P:agN} {ops:Array Oper} {dst:agM Nat} {op:Op} {ty:TypeId} {pos:String} {after:Array Edge} {j:Nat} {w:Bool} {s:St} {rest:agK Oper} {K:St->Prop} {y n:Prop}
theorem CT:fk ops ⟨dst,op,ty,pos,after,some (j,w)⟩ s y n=(match qz ops j s.t with
 | .d (.v (.bool b))=>(b=w->y)/\(b= !w->n)
 | .d (.v (.tuple _))=>n
 |_=>False):=by
 show(match (ops[j]?).bind (·.dst)with
  |some d=>match aQ s.t d with
   | .d (.v (.bool b))=>(b=w->y)/\(b= !w->n)
   | .d (.v (.tuple _))=>n
   |_=>False
  |none=>False)=_
 unfold qz;cases (ops[j]?).bind (·.dst)<;>rfl
end
section
variable {P:agN} {r:agM Nat} {n N0:Nat} {G:Gh} {w:agP} {a:Act} {s:St} {o:Oper} {Q:Exit->St->Prop}
theorem cT{K:St->Prop}(h:K s):fA K Q .normal s:=h
theorem q7{K:St->Prop}{i:Nat}(h:Q (.exit i) s):fA K Q (.exit i) s:=h
theorem hY{K:St->Prop}(h:Q .ret s):fA K Q .ret s:=h
theorem mA{id:Nat}(h:Q .normal s):nB id Q .normal s:=h
theorem je{id:Nat}(h:Q .ret s):nB id Q .ret s:=h
theorem A3{id i:Nat}(e:(i==id)=true)(h:Q .normal s):nB id Q (.exit i) s:=by simpa only[nB,e,cond_true]using h
theorem acd{id i:Nat}(e:(i==id)=false)(h:Q (.exit i) s):nB id Q (.exit i) s:=by simpa only[nB,e,cond_false]using h
theorem nP{c:Operand}{x y:Code}(hc:ev s c= .d (.v (.bool true)))(h:aX P r N0 x Q s):aX P r N0 (.cond c x y) Q s:=xc hc (λ_=>h) λh=>Bool.noConfusion h
theorem nO{c:Operand}{x y:Code}(hc:ev s c= .d (.v (.bool false)))(h:aX P r N0 y Q s):aX P r N0 (.cond c x y) Q s:=xc hc (λh=>Bool.noConfusion h) λ_=>h
theorem lO{c:Operand}{x y:Code}{t:Bool}(hc:ev s c= .d (.v (.bool t)))(e:t=true)(h:aX P r N0 x Q s):aX P r N0 (.cond c x y) Q s:=nP (by rw[hc,e]) h
theorem lk{c:Operand}{x y:Code}{t:Bool}(hc:ev s c= .d (.v (.bool t)))(e:t=false)(h:aX P r N0 y Q s):aX P r N0 (.cond c x y) Q s:=nO (by rw[hc,e]) h
theorem QY{c:Code}(k:Nat)(e:TypeId)(sz:Nat)(xs:agK (agK D))(hx:aQ s.t k= .full xs\/(aQ s.t k= .d (.v (.slice none 0 0))/\xs=[]))
 (h:aX P r N0 c Q ⟨s.n,(k, .own s.h.length xs)::s.t,s.h++[.front e sz xs.length]⟩):aX P r N0 c Q s:=by
 constructor
 intro G w a n hs hN;have hp:cx G.S w (a.tmps.getD k undef) (.sl xs)/\∃A,a.tmps.getD k undef= .slice A xs.length xs.length:=by
  have hv:=hs.tmp k;revert hv;generalize a.tmps.getD k undef=u;intro hv;rcases hx with hx|⟨hx,rfl⟩
  ·rw[hx]at hv;cases hv with|full _ hp hf=>exact⟨hp,hf⟩
  ·rw[hx]at hv;rw[hv.val];exact⟨yo,none,rfl⟩
 obtain⟨a1,a2,a3,a4⟩:=LL hs.inv hp.1 hp.2 e sz;have bR:bU (G.fp (a.tmps.getD k undef) xs.length) w a ⟨s.n,(k, .own s.h.length xs)::s.t,s.h++[.front e sz xs.length]⟩:=by
  refine⟨hs.size,λi=> ?_,a3,hs.df.aG a1⟩;show ax _ _ _ (aQ ((k, .own s.h.length xs)::s.t) i);rw[kF];split
  ·next e=>exact e▸a4
  ·exact(hs.tmp i).aG a1 a2
 exact wpIn_mono (h.run _ w a n bR (agd hN a2)) λ_ _ _ hn=>hn.trans (a1.less hN)
end
theorem HB{G:Gh}{w:agP}{h:agK aj}{b:Nat}{cs bC:agK J}(hi:bg G w h)(hb:h[b]?=some (.cells cs))(hl:bC.length=cs.length)
 (hc:∀(vs:Array agO)(T:TypeId),w.heap[G.aF b]?=some (.cells vs T (0,0))->∀(i:Nat)(u:agO)(c:J),vs[i]?=some u->bC[i]?=some c->ax G w u c):bg G w (h.set b (aj.cells bC)):=by
 have ho:∀n,bj (h.set b (aj.cells bC)) G n=bj h G n:=λn=>by
  have az:=(afV.1 hb).1;unfold bj;by_cases e:b=n
  ·subst e;rw[agp az,hb];rfl
  ·rw[agu e]
 refine⟨by rw[List.length_set];exact hi.len,hi.z,hi.S,λn B hB=> ?_,λm n x hm hn=>hi.inj m n x (by rw[<-ho];exact hm) (by rw[<-ho];exact hn),hi.gl⟩;have az:=(afV.1 hb).1;by_cases e:b=n
 ·subst e;rw[agp az]at hB;cases hB
  obtain⟨h1,h2,vs,T,h3,h4,_⟩:=hi.b6 _ _ hb;exact⟨h1,h2,vs,T,h3,h4.trans hl.symm,hc vs T h3⟩
 ·rw[agu e]at hB;exact hi.b6 n B hB
theorem MB{P:agN}{r:agM Nat}{N0:Nat}{s:St}{Q:Exit->St->Prop}{c:Code}(b i:Nat)(e:TypeId)(sz:Nat)(xs:agK (agK D)){cs:agK J}(hb:s.h[b]?=some (.cells cs))(hx:cs[i]?=some (.full xs)\/(cs[i]?=some (.d (.v (.slice none 0 0)))/\xs=[]))
 (h:aX P r N0 c Q ⟨s.n,s.t,(s.h++[aj.front e sz xs.length]).set b (aj.cells (cs.set i (J.own s.h.length xs)))⟩):aX P r N0 c Q s:=by
 constructor
 intro G w a n hs hN;obtain⟨h1,h2,vs,T,h3,h4,h5⟩:=hs.inv.b6 _ _ hb;have hi:i<cs.length:=by rcases hx with hx|⟨hx,_⟩<;>exact(afV.1 hx).1
 have hv:vs[i]?=some vs[i]:=agi (by omega);have hp:cx G.S w vs[i] (.sl xs)/\∃A,vs[i]= .slice A xs.length xs.length:=by
  rcases hx with hx|⟨hx,rfl⟩
  ·have:=h5 i _ _ hv hx;generalize vs[i]=u at this;cases this with|full _ hp hf=>exact⟨hp,hf⟩
  ·have:=h5 i _ _ hv hx;rw[this.val];exact⟨yo,none,rfl⟩
 obtain⟨a1,a2,a3,a4⟩:=LL hs.inv hp.1 hp.2 e sz;have az:=(afV.1 hb).1;have bR:bU (G.fp vs[i] xs.length) w a ⟨s.n,s.t,(s.h++[aj.front e sz xs.length]).set b (aj.cells (cs.set i (J.own s.h.length xs)))⟩:=by
  refine⟨hs.size,λj=>(hs.tmp j).aG a1 a2,HB a3 (by rw[af5 az];exact hb) (by rw[List.length_set]) λeF T' qc j u c hu hc=> ?_,hs.df.aG a1⟩;have e1:(G.fp vs[i] xs.length).aF b=G.aF b:=by
   have:b≠G.N:=by have:=hs.inv.len;omega
   simp [Gh.fp]
  rw[e1,h3]at qc;cases qc
  by_cases e2:i=j
  ·subst e2;rw[agp hi]at hc;cases hc
   rw[hv]at hu;cases hu
   exact a4
  ·rw[agu e2]at hc;exact(h5 j u c hu hc).aG a1 a2
 exact wpIn_mono (h.run _ w a n bR (agd hN a2)) λ_ _ _ hn=>hn.trans (a1.less hN)
def J.Le(x y:J):Prop:=∀(G:Gh)(w:agP)(u:agO),ax G w u x->ax G w u y
theorem J.Le.refl(x:J):J.Le x x:=λ_ _ _ h=>h
theorem J.Le.full(xs:agK (agK D)):J.Le (.full xs) (.d (.sl xs)):=λ_ _ _ h=>by
 cases h with|full _ hp _=>exact .d hp
theorem J.Le.nil:J.Le (.d (.v (.slice none 0 0))) (.d (.sl [])):=λ_ _ _ h=>by
 rw[h.val];exact .d yo
theorem J.Le.agg{cs ds:agK J}(hl:cs.length=ds.length)(h:∀(i:Nat)(c d:J),cs[i]?=some c->ds[i]?=some d->J.Le c d):J.Le (.agg cs) (.agg ds):=λG w u hu=>by
 cases hu with
 |agg vs _ mE hv=>
  refine .agg vs ds (mE.trans hl) λi u d Vz hd=> ?_;have az:i<cs.length:=by rw[hl];exact(afV.1 hd).1
  exact h i _ d (afZ az) hd G w u (hv i u _ Vz (afZ az))
set_option linter.unusedSimpArgs false
set_option linter.unusedVariables false
def rn:agK Nat->Nat->Nat->Nat
 |[],base,i=>base+i
 |j::_,_,0=>j
 |_::l,base,i+1=>rn l base i
theorem vw:∀(l:agK Nat)(base i:Nat)(j:Nat),l[i]?=some j->rn l base i=j
 |[],_,i,j,h=>by simp at h
 |a::l,base,0,j,h=>by simpa [rn]using h
 |a::l,base,i+1,j,h=>by rw[rn];exact vw l base i j (by simpa using h)
theorem Ei:∀(l:agK Nat)(base i:Nat),l.length<=i->rn l base i=base+(i-l.length)
 |[],base,i,_=>by simp [rn]
 |a::l,base,0,h=>by simp at h
 |a::l,base,i+1,h=>by rw[rn,Ei l base i (by simpa using h)];simp
mutual
def J.ay(σ:Nat->Nat):J->J
 | .ptr n off=> .ptr (σ n) off
 | .own n xs=> .own (σ n) xs
 | .row n off len cap k=> .row (σ n) off len cap k
 | .mp n=> .mp (σ n)
 | .cm n=> .cm (σ n)
 | .vec n o len L k=> .vec (σ n) o len L k
 | .cz n i j L k=> .cz (σ n) i j L k
 | .agg cs=> .agg (J.cZ σ cs)
 | .bp cs=> .bp (J.cZ σ cs)
 | .fn f cs=> .fn f (J.cZ σ cs)
 | .d x=> .d x
 | .aY xs i off=> .aY xs i off
 | .full xs=> .full xs
 | .hid c=> .hid c
 | .dead=> .dead
def J.cZ(σ:Nat->Nat):agK J->agK J
 |[]=>[]
 |x::l=>x.ay σ::J.cZ σ l
end
theorem fB(σ:Nat->Nat):∀l,J.cZ σ l=l.map (J.ay σ)
 |[]=>by simp [J.cZ]
 |x::l=>by simp [J.cZ,fB σ l]
def aj.ay(σ:Nat->Nat):aj->aj
 | .cells cs=> .cells (J.cZ σ cs)
 | .lp ls p as bd cs=> .lp ls p as bd (J.cZ σ cs)
 | .it sn cs=> .it sn (J.cZ σ cs)
 | .vec e k cs=> .vec e k (cs.map (J.cZ σ))
 | .front e k len=> .front e k len
 | .map kv=> .map kv
 | .eE kv=> .eE kv
 | .gone=> .gone
def fg:agK Nat->agK aj->agK aj->agK aj
 |[],Bs,h=>h++Bs
 |_::_,[],h=>h
 |i::l,B::Bs,h=>fg l Bs (h.set i B)
structure nu(σ:Nat->Nat)(G G2:Gh):Prop where
 lt:∀n,n<G.N->σ n<G2.N
 aF:∀n,n<G.N->G2.aF (σ n)=G.aF n
 sg:∀n,n<G.N->G2.sg (σ n)=G.sg n
 fl:∀n,n<G.N->G2.fl (σ n)=G.fl n
 ow:∀n,n<G.N->G2.ow (σ n)=G.ow n
 S:∀b o,G2.S b o↔G.S b o
theorem cx.rX{S S':Nat->Nat->Prop}{w:agP}(hS:∀b o,S b o->S' b o){u:agO}{x:D}(h:cx S w u x):cx S' w u x:=h.aG hS (λ_ _ _=>rfl)
theorem ax.ay{σ:Nat->Nat}{G G2:Gh}{w:agP}(hR:nu σ G G2){u:agO}{x:J}(h:ax G w u x):ax G2 w u (x.ay σ):=by
 have hS:∀b o,G.S b o->G2.S b o:=λb o h=>(hR.S b o).2 h;have eP:∀(vs:Array agO)(cs:agK J),(∀(i:Nat)(u:agO)(c:J),vs[i]?=some u->cs[i]?=some c->ax G2 w u (c.ay σ))->∀(i:Nat)(u:agO)(c:J),vs[i]?=some u->(J.cZ σ cs)[i]?=some c->ax G2 w u c:=by
  intro vs cs ih i u c hu hc;rw[fB,af2]at hc;cases hx:cs[i]? with
  |none=>rw[hx]at hc;cases hc
  |some x=>rw[hx]at hc;cases hc;exact ih i u x hu hx
 induction h with
 |agg vs cs hl _ ih=>rw[J.ay];exact .agg vs _ (by rw[fB,af0];exact hl) (eP vs cs ih)
 |bp vs cs hl _ ih=>rw[J.ay];exact .bp vs _ (by rw[fB,af0];exact hl) (eP vs cs ih)
 |fn f vs cs hl _ ih=>rw[J.ay];exact .fn f vs _ (by rw[fB,af0];exact hl) (eP vs cs ih)
 |d h=>rw[J.ay];exact .d (h.rX hS)
 |full xs hp hf=>rw[J.ay];exact .full xs (hp.rX hS) hf
 |ptr n off h=>rw[J.ay,<-hR.aF n h];exact .ptr _ off (hR.lt n h)
 |row n off len cap k h hl hm=>rw[J.ay,<-hR.aF n h];exact .row _ off len cap k (hR.lt n h) hl hm
 |mp n h=>rw[J.ay,<-hR.aF n h];exact .mp _ (hR.lt n h)
 |cm n h=>rw[J.ay,<-hR.aF n h];exact .cm _ (hR.lt n h)
 |own n xs h hp hle hf=>rw[J.ay];exact .own _ xs (hR.lt n h) (hp.rX hS) (by rw[hR.fl n h];exact hle) (by rw[hR.fl n h,hR.sg n h];exact hf)
 |vec n o len L k h hs hL hf=>rw[J.ay];exact .vec _ o len L k (hR.lt n h) hs (by rw[hR.fl n h];exact hL) (by rw[hR.fl n h,hR.sg n h];exact hf)
 |cz n i j L k h hs hL hf=>rw[J.ay];exact .cz _ i j L k (hR.lt n h) hs (by rw[hR.fl n h];exact hL) (by rw[hR.fl n h,hR.sg n h];exact hf)
 |aY xs i off b o u x hx nY hu=>rw[J.ay];exact .aY xs i off b o u x hx (λj hj=>⟨hS _ _ (nY j hj).1,(nY j hj).2⟩) (λj d hd=>(hu j d hd).rX hS)
 |hid h h1=>rw[J.ay];exact .hid (h.aG hS (λ_ _ _=>rfl)) h1
 |dead u=>rw[J.ay];exact .dead u
theorem ax.rR{σ:Nat->Nat}{G G2:Gh}{w:agP}(hR:nu σ G G2){u:agO}{y:J}(h:ax G2 w u y):∀x:J,x.ay σ=y->x.aA G.N=true->ax G w u x:=by
 have hS:∀b o,G2.S b o->G.S b o:=λb o h=>(hR.S b o).1 h;have lt:∀n,(!bB G.N n)=true->n<G.N:=λn h=>by rw[Bool.not_eq_true',<-Bool.not_eq_true,cN]at h;omega
 have eP:∀(vs:Array agO)(cs xs:agK J),(∀(i:Nat)(u:agO)(c:J),vs[i]?=some u->cs[i]?=some c->∀x:J,x.ay σ=c->x.aA G.N=true->ax G w u x)->J.cZ σ xs=cs->J.kK G.N xs=true->∀(i:Nat)(u:agO)(c:J),vs[i]?=some u->xs[i]?=some c->ax G w u c:=by
  intro vs cs xs ih e hb i u c hu hc;subst e;rw[kW,agm]at hb;exact ih i u (c.ay σ) hu (by rw[fB,af2,hc];rfl) c rfl (hb c (af8 hc))
 induction h with
 |agg vs cs hl _ ih=>
  intro x e hb;cases x<;>simp only[J.ay,J.agg.injEq,reduceCtorEq]at e
  next xs=>
   rw[J.aA]at hb;exact .agg vs xs (by rw[hl,<-e,fB,af0]) (eP vs cs xs ih e hb)
 |bp vs cs hl _ ih=>
  intro x e hb;cases x<;>simp only[J.ay,J.bp.injEq,reduceCtorEq]at e
  next xs=>
   rw[J.aA]at hb;exact .bp vs xs (by rw[hl,<-e,fB,af0]) (eP vs cs xs ih e hb)
 |fn f vs cs hl _ ih=>
  intro x e hb;cases x<;>simp only[J.ay,J.fn.injEq,reduceCtorEq]at e
  next g xs=>
   obtain⟨rfl,e⟩:=e;rw[J.aA]at hb;exact .fn _ vs xs (by rw[hl,<-e,fB,af0]) (eP vs cs xs ih e hb)
 |d h=>
  intro x e hb;cases x<;>simp only[J.ay,J.d.injEq,reduceCtorEq]at e
  next y=>subst e;exact .d (h.rX hS)
 |full xs hp hf=>
  intro x e hb;cases x<;>simp only[J.ay,J.full.injEq,reduceCtorEq]at e
  next y=>subst e;exact .full y (hp.rX hS) hf
 |ptr n off h=>
  intro x e hb;cases x<;>simp only[J.ay,J.ptr.injEq,reduceCtorEq]at e
  next m o=>
   obtain⟨e1,rfl⟩:=e;rw[J.aA]at hb;have hm:=lt _ hb;rw[<-e1,hR.aF _ hm];exact .ptr _ _ hm
 |row n off len cap k h hl iE=>
  intro x e hb;cases x<;>simp only[J.ay,J.row.injEq,reduceCtorEq]at e
  next m o l c q=>
   obtain⟨e1,rfl,rfl,rfl,rfl⟩:=e;rw[J.aA]at hb;have hm:=lt _ hb;rw[<-e1,hR.aF _ hm];exact .row _ _ _ _ _ hm hl iE
 |mp n h=>
  intro x e hb;cases x<;>simp only[J.ay,J.mp.injEq,reduceCtorEq]at e
  next m=>
   rw[J.aA]at hb;have hm:=lt _ hb;rw[<-e,hR.aF _ hm];exact .mp _ hm
 |cm n h=>
  intro x e hb;cases x<;>simp only[J.ay,J.cm.injEq,reduceCtorEq]at e
  next m=>
   rw[J.aA]at hb;have hm:=lt _ hb;rw[<-e,hR.aF _ hm];exact .cm _ hm
 |own n xs h hp hle hf=>
  intro x e hb;cases x<;>simp only[J.ay,J.own.injEq,reduceCtorEq]at e
  next m l=>
   obtain⟨e1,rfl⟩:=e;rw[J.aA]at hb;have hm:=lt _ hb;rw[<-e1]at hle hf;exact .own _ _ hm (hp.rX hS) (by rw[<-hR.fl _ hm];exact hle) (by rw[<-hR.fl _ hm,<-hR.sg _ hm];exact hf)
 |vec n o len L k h hs hL hf=>
  intro x e hb;cases x<;>simp only[J.ay,J.vec.injEq,reduceCtorEq]at e
  next m a1 a2 a3 a4=>
   obtain⟨e1,rfl,rfl,rfl,rfl⟩:=e;rw[J.aA]at hb;have hm:=lt _ hb;rw[<-e1]at hL hf;exact .vec _ _ _ _ _ hm hs (by rw[<-hR.fl _ hm];exact hL) (by rw[<-hR.fl _ hm,<-hR.sg _ hm];exact hf)
 |cz n i j L k h hs hL hf=>
  intro x e hb;cases x<;>simp only[J.ay,J.cz.injEq,reduceCtorEq]at e
  next m a1 a2 a3 a4=>
   obtain⟨e1,rfl,rfl,rfl,rfl⟩:=e;rw[J.aA]at hb;have hm:=lt _ hb;rw[<-e1]at hL hf;exact .cz _ _ _ _ _ hm hs (by rw[<-hR.fl _ hm];exact hL) (by rw[<-hR.fl _ hm,<-hR.sg _ hm];exact hf)
 |aY xs i off b o u y hx nY hu=>
  intro x e hb;cases x<;>simp only[J.ay,J.aY.injEq,reduceCtorEq]at e
  next a1 a2 a3=>
   obtain⟨rfl,rfl,rfl⟩:=e;exact .aY _ _ _ b o u y hx (λj hj=>⟨hS _ _ (nY j hj).1,(nY j hj).2⟩) (λj d hd=>(hu j d hd).rX hS)
 |hid h h1=>
  intro x e hb;cases x<;>simp only[J.ay,J.hid.injEq,reduceCtorEq]at e
  next c=>subst e;exact .hid (h.aG hS (λ_ _ _=>rfl)) h1
 |dead u=>
  intro x e hb;cases x<;>simp only[J.ay,reduceCtorEq]at e
  exact .dead u
theorem JV{σ:Nat->Nat}{G G2:Gh}(hR:nu σ G G2){n:Nat}(hn:n<G.N)(B:aj):(B.ay σ).cS G2 (σ n)=B.cS G n:=by
 cases B<;>simp only[aj.ay,aj.cS,hR.aF n hn,hR.ow n hn]
theorem cX.ay{σ:Nat->Nat}{G G2:Gh}{w:agP}(hR:nu σ G G2){n:Nat}(hn:n<G.N){B:aj}(hz:∀b,B.cS G n=some b->¬G2.Z b)(h:cX G w n B):cX G2 w (σ n) (B.ay σ):=by
 have hS:∀b o,¬G.S b o->¬G2.S b o:=λb o h h2=>h ((hR.S b o).1 h2);cases B with
 |gone=>trivial
 |cells cs=>
  obtain⟨h1,h2,vs,T,h3,h4,h5⟩:=h;rw[aj.ay];refine⟨by rw[hR.aF n hn];exact hz _ rfl,by rw[hR.aF n hn];exact λo=>hS _ _ (h2 o),vs,T,by rw[hR.aF n hn];exact h3,by rw[fB,af0];exact h4,λi u c hu hc=> ?_⟩;rw[fB,af2]at hc;cases hx:cs[i]? with
  |none=>rw[hx]at hc;cases hc
  |some x=>rw[hx]at hc;cases hc;exact(h5 i u x hu hx).ay hR
 |lp ls p as bd cs=>
  obtain⟨h1,h2,fn,vs,T,h3,h4,h5⟩:=h;rw[aj.ay];refine⟨by rw[hR.aF n hn];exact hz _ rfl,by rw[hR.aF n hn];exact λo=>hS _ _ (h2 o),fn,vs,T,by rw[hR.aF n hn];exact h3,by rw[fB,af0];exact h4,λi u c hu hc=> ?_⟩;rw[fB,af2]at hc;cases hx:cs[i]? with
  |none=>rw[hx]at hc;cases hc
  |some x=>rw[hx]at hc;cases hc;exact(h5 i u x hu hx).ay hR
 |it sn cs=>
  obtain⟨h1,h2,fn,vs,T,h3,h4,h5⟩:=h;rw[aj.ay];refine⟨by rw[hR.aF n hn];exact hz _ rfl,by rw[hR.aF n hn];exact λo=>hS _ _ (h2 o),fn,vs,T,by rw[hR.aF n hn];exact h3,by rw[fB,af0];exact h4,λi u c hu hc=> ?_⟩;rw[fB,af2]at hc;cases hx:cs[i]? with
  |none=>rw[hx]at hc;cases hc
  |some x=>rw[hx]at hc;cases hc;exact(h5 i u x hu hx).ay hR
 |map kv=>
  obtain⟨h1,h2,es,c,h3,h4⟩:=h;exact⟨by rw[hR.aF n hn];exact hz _ rfl,by rw[hR.aF n hn];exact λo=>hS _ _ (h2 o),es,c,by rw[hR.aF n hn];exact h3,h4.aG (λb o h=>(hR.S b o).2 h) (λ_ _ _=>rfl)⟩
 |eE kv=>
  obtain⟨h1,h2,es,c,h3,h4⟩:=h;exact⟨by rw[hR.aF n hn];exact hz _ rfl,by rw[hR.aF n hn];exact λo=>hS _ _ (h2 o),es,c,by rw[hR.aF n hn];exact h3,h4.aG (λb o h=>(hR.S b o).2 h) (λ_ _ _=>rfl)⟩
 |front e k len=>
  obtain⟨h1,hm,h2⟩:=h;refine⟨(hR.fl n hn).trans h1,hm,?_⟩;rcases h2 with⟨h2,A,h3⟩|⟨g,cap,cur,h2,h3,h4,h5,h6,h7,h8,h9⟩
  ·exact .inl ⟨(hR.ow n hn).trans h2,A,(hR.sg n hn).trans h3⟩
  ·exact .inr ⟨g,cap,cur,(hR.ow n hn).trans h2,(hR.sg n hn).trans h3,hz g h2,h5,h6,h7,h8,λo ho=>hS _ _ (h9 o ho)⟩
 |vec e k cs=>
  obtain⟨h1,hm,hk,h2⟩:=h;rw[aj.ay];refine⟨by rw[af0];exact(hR.fl n hn).trans h1,by rw[af0];exact hm,λc hc=> ?_,?_⟩
  ·obtain⟨x,hx,rfl⟩:=List.mem_map.1 hc;rw[fB,af0];exact hk x hx
  ·rcases h2 with⟨h2,e2,A,h3⟩|⟨g,cap,cur,h2,h3,h4,h5,h6,h7,h8,h9,bn⟩
   ·exact .inl ⟨(hR.ow n hn).trans h2,by rw[e2];rfl,A,(hR.sg n hn).trans h3⟩
   ·refine .inr ⟨g,cap,cur,(hR.ow n hn).trans h2,by rw[af0];exact(hR.sg n hn).trans h3,hz g h2,h5,by rw[af0];exact h6,h7,h8,λo=>hS _ _ (h9 o),λi j c x u hc hx hu=> ?_⟩;rw[af2]at hc;cases hy:cs[i]? with
    |none=>rw[hy]at hc;cases hc
    |some y=>
     rw[hy]at hc;cases hc
     rw[fB,af2]at hx;cases hw:y[j]? with
     |none=>rw[hw]at hx;cases hx
     |some z=>rw[hw]at hx;cases hx;exact(bn i j y z u hy hw hu).ay hR
theorem cX.rR{σ:Nat->Nat}{G G2:Gh}{w:agP}(hR:nu σ G G2){n:Nat}(hn:n<G.N){B:aj}(hb:B.aA G.N=true)(hz:∀b,B.cS G n=some b->¬G.Z b)(h:cX G2 w (σ n) (B.ay σ)):cX G w n B:=by
 have hS:∀b o,¬G2.S b o->¬G.S b o:=λb o h h2=>h ((hR.S b o).2 h2);cases B with
 |gone=>trivial
 |cells cs=>
  rw[aj.ay]at h;obtain⟨h1,h2,vs,T,h3,h4,h5⟩:=h;rw[hR.aF n hn]at h2 h3;rw[fB,af0]at h4;simp only[aj.aA,agm]at hb;exact⟨hz _ rfl,λo=>hS _ _ (h2 o),vs,T,h3,h4,λi u c hu hc=>ax.rR hR (h5 i u (c.ay σ) hu (by rw[fB,af2,hc];rfl)) c rfl (hb c (af8 hc))⟩
 |lp ls p as bd cs=>
  rw[aj.ay]at h;obtain⟨h1,h2,fn,vs,T,h3,h4,h5⟩:=h;rw[hR.aF n hn]at h2 h3;rw[fB,af0]at h4;simp only[aj.aA,agm]at hb;exact⟨hz _ rfl,λo=>hS _ _ (h2 o),fn,vs,T,h3,h4,λi u c hu hc=>ax.rR hR (h5 i u (c.ay σ) hu (by rw[fB,af2,hc];rfl)) c rfl (hb c (af8 hc))⟩
 |it sn cs=>
  rw[aj.ay]at h;obtain⟨h1,h2,fn,vs,T,h3,h4,h5⟩:=h;rw[hR.aF n hn]at h2 h3;rw[fB,af0]at h4;simp only[aj.aA,agm]at hb;exact⟨hz _ rfl,λo=>hS _ _ (h2 o),fn,vs,T,h3,h4,λi u c hu hc=>ax.rR hR (h5 i u (c.ay σ) hu (by rw[fB,af2,hc];rfl)) c rfl (hb c (af8 hc))⟩
 |map kv=>
  obtain⟨h1,h2,es,c,h3,h4⟩:=h;rw[hR.aF n hn]at h2 h3;exact⟨hz _ rfl,λo=>hS _ _ (h2 o),es,c,h3,h4.aG (λb o h=>(hR.S b o).1 h) (λ_ _ _=>rfl)⟩
 |eE kv=>
  obtain⟨h1,h2,es,c,h3,h4⟩:=h;rw[hR.aF n hn]at h2 h3;exact⟨hz _ rfl,λo=>hS _ _ (h2 o),es,c,h3,h4.aG (λb o h=>(hR.S b o).1 h) (λ_ _ _=>rfl)⟩
 |front e k len=>
  obtain⟨h1,hm,h2⟩:=h;rw[hR.fl n hn]at h1;rw[hR.ow n hn,hR.sg n hn]at h2;refine⟨h1,hm,?_⟩;rcases h2 with⟨h2,A,h3⟩|⟨g,cap,cur,h2,h3,h4,h5,h6,h7,h8,h9⟩
  ·exact .inl ⟨h2,A,h3⟩
  ·exact .inr ⟨g,cap,cur,h2,h3,hz g h2,h5,h6,h7,h8,λo ho=>hS _ _ (h9 o ho)⟩
 |vec e k cs=>
  rw[aj.ay]at h;obtain⟨h1,hm,hk,h2⟩:=h;rw[hR.fl n hn,af0]at h1;rw[af0]at hm;rw[hR.ow n hn,hR.sg n hn,af0]at h2;simp only[aj.aA,agm]at hb;refine⟨h1,hm,λc hc=> ?_,?_⟩
  ·have:=hk _ (List.mem_map.2 ⟨c,hc,rfl⟩)
   rwa [fB,af0]at this
  ·rcases h2 with⟨h2,e2,A,h3⟩|⟨g,cap,cur,h2,h3,h4,h5,h6,h7,h8,h9,bn⟩
   ·exact .inl ⟨h2,List.map_eq_nil_iff.1 e2,A,h3⟩
   ·refine .inr ⟨g,cap,cur,h2,h3,hz g h2,h5,h6,h7,h8,λo=>hS _ _ (h9 o),λi j c x u hc hx hu=> ?_⟩;exact ax.rR hR (bn i j (J.cZ σ c) (x.ay σ) u (by rw[af2,hc];rfl) (by rw[fB,af2,hx];rfl) hu) x rfl (hb c (af8 hc) x (af8 hx))
theorem NX:∀(l:agK Nat)(Bs h:agK aj),l.length<=Bs.length->(fg l Bs h).length=h.length+(Bs.length-l.length)
 |[],Bs,h,_=>by simp [fg]
 |j::l,[],h,hl=>by simp at hl
 |j::l,B::Bs,h,hl=>by rw[fg,NX l Bs _ (by simpa using hl),List.length_set];simp
theorem KK:∀(l:agK Nat)(Bs h:agK aj)(n:Nat),l.length<=Bs.length->n<h.length->n ∉ l->(fg l Bs h)[n]?=h[n]?
 |[],Bs,h,n,_,hn,_=>by rw[fg,af5 hn]
 |j::l,[],h,n,hl,_,_=>by simp at hl
 |j::l,B::Bs,h,n,hl,hn,hm=>by
  simp only[agq,not_or]at hm;rw[fg,KK l Bs _ n (by simpa using hl) (by rw[List.length_set];exact hn) hm.2,agu (Ne.symm hm.1)]
theorem Pw:∀(l:agK Nat)(Bs h:agK aj)(i:Nat),l.length<=Bs.length->l.Nodup->(∀j∈l,j<h.length)->i<Bs.length->(fg l Bs h)[rn l h.length i]?=Bs[i]?
 |[],Bs,h,i,_,_,_,hi=>by rw[fg,rn,agb (agB _ _),Nat.add_sub_cancel_left]
 |j::l,[],h,i,hl,_,_,_=>by simp at hl
 |j::l,B::Bs,h,0,hl,hd,az,_=>by
  rw[List.nodup_cons]at hd;rw[fg,rn,KK l Bs _ j (by simpa using hl) (by rw[List.length_set];exact az j (by simp)) hd.1,agp (az j (by simp))];rfl
 |j::l,B::Bs,h,i+1,hl,hd,az,hi=>by
  rw[List.nodup_cons]at hd;have:=Pw l Bs (h.set j B) i (by simpa using hl) hd.2 (λx hx=>by rw[List.length_set];exact az x (by simp [hx])) (by simpa using hi);rw[List.length_set]at this;rw[fg,rn,this];simp
def sS(l:agK Nat)(base n:Nat):agM Nat:=if n∈l then some (l.idxOf n)else if base<=n then some (l.length+(n-base))else none
theorem G4{l:agK Nat}{base:Nat}(hd:l.Nodup)(az:∀j∈l,j<base)(i:Nat):sS l base (rn l base i)=some i:=by
 unfold sS;by_cases hi:i<l.length
 ·have e:l[i]?=some l[i]:=afZ hi;rw[vw l base i _ e,if_pos (List.getElem_mem _),List.Nodup.idxOf_getElem hd i hi]
 ·rw[Ei l base i (by omega),if_neg (λh=>by have:=az _ h;omega),if_pos (agB _ _)]
  congr 1;omega
theorem JP{l:agK Nat}{base n i:Nat}(h:sS l base n=some i):rn l base i=n:=by
 unfold sS at h;split at h
 ·rename_i hm
  cases h
  have az:=List.idxOf_lt_length_of_mem hm;refine vw l base _ n ?_;rw[afZ az,List.getElem_idxOf]
 ·split at h
  ·cases h
   rw[Ei _ _ _ (by omega)];omega
  ·cases h
theorem Vr{l:agK Nat}{base n:Nat}(h:sS l base n=none):n<base/\n ∉ l:=by
 unfold sS at h;split at h
 ·cases h
 ·split at h
  ·cases h
  ·rename_i h1 h2;exact⟨by omega,h1⟩
def oa{α:Type}(o:agM Nat)(f:Nat->α)(d:α):α:=match o with|some i=>f i|none=>d
theorem NN{H:agK aj}{l:agK Nat}{h:agK aj}
 (hd:l.Nodup) (az:∀j∈l,j<h.length) (hH:∀(i j:Nat),l[i]?=some j->h[j]?=(H[i]?).map (aj.ay (rn l h.length))) (hk:l.length=H.length)
 (hb:H.all (aj.aA H.length)=true) {G:Gh} {w:agP} (hi:bg G w h):
 ∃G0:Gh,G0.N=H.length/\bg G0 w H/\nu (rn l h.length) G0 G/\∀(G1:Gh)(w':agP)(H':agK aj),a7 H.length G0 w G1 w'->H.length<=G1.N->bg G1 w' H'->
  ∃G2:Gh,a7 G.N G w G2 w'/\G.N<=G2.N/\bg G2 w' (fg l (H'.map (aj.ay (rn l h.length))) h)/\nu (rn l h.length) G1 G2:=by
 obtain⟨σ,hσ⟩:∃σ,σ=rn l h.length:=⟨_,rfl⟩;rw[<-hσ]at hH ⊢;have CM:h.length=G.N:=hi.len;obtain⟨own,db⟩:∃own:Nat->Prop,own=λb=>∃j∈l,bj h G j=some b:=⟨_,rfl⟩;obtain⟨G0,iR⟩:∃G0:Gh,G0={N:=H.length,Z:=λb=>b<w.heap.size/\¬own b,S:=G.S,aF:=λi=>G.aF (σ i),sg:=λi=>G.sg (σ i),ow:=λi=>G.ow (σ i),fl:=λi=>G.fl (σ i),M:=G.M}:=⟨_,rfl⟩;have BU:∀i,i<H.length->∃j,l[i]?=some j/\σ i=j/\j∈l:=λi cy=>by
  have iu:i<l.length:=by rw[hk];exact cy
  exact⟨l[i],afZ iu,by rw[hσ];exact vw l _ i _ (afZ iu),List.getElem_mem _⟩
 have pC:nu σ G0 G:=by
  subst iR;refine⟨λn hn=> ?_,λ_ _=>rfl,λ_ _=>rfl,λ_ _=>rfl,λ_ _=>rfl,λ_ _=>Iff.rfl⟩;obtain⟨j,_,e,hj⟩:=BU n hn;rw[e,<-CM];exact az j hj
 have bE:G0.N=H.length:=by rw[iR]
 have Qc:∀(i:Nat)(B:aj),H[i]?=some B->h[σ i]?=some (B.ay σ):=λi B hB=>by
  obtain⟨j,e1,e2,_⟩:=BU i (afV.1 hB).1;rw[e2,hH i j e1,hB];rfl
 have Gy:∀(i:Nat)(B:aj)(b:Nat),H[i]?=some B->B.cS G0 i=some b->bj h G (σ i)=some b:=λi B b hB dZ=>by
  rw[cJ (Qc i B hB),JV pC (by rw[bE];exact(afV.1 hB).1) B];exact dZ
 have tn:∀(i:Nat)(B:aj)(b:Nat),H[i]?=some B->B.cS G0 i=some b->¬G0.Z b:=λi B b hB dZ hz=>by
  rw[iR]at hz;refine hz.2 ?_;rw[db];obtain⟨j,_,e2,hj⟩:=BU i (afV.1 hB).1;exact⟨j,hj,by rw[<-e2];exact Gy i B b hB dZ⟩
 have Zc:∀i i',σ i=σ i'->i=i':=λi i' e=>by
  have h1:=G4 hd az i;have h2:=G4 hd az i';rw[hσ]at e;rw[e,h2]at h1;exact(age h1).symm
 have oT:bg G0 w H:=by
  refine⟨bE.symm,λb hz=> ?_,λb o hs=> ?_,λi B hB=> ?_,λm n b h1 h2=> ?_,by rw[iR];exact hi.gl⟩
  ·rw[iR]at hz;exact hz.1
  ·rw[iR]at hs;exact hi.S b o hs
  ·have TW:i<G0.N:=by rw[bE];exact(afV.1 hB).1
   rw[agm]at hb;exact cX.rR pC TW (by rw[bE];exact hb B (af8 hB)) (λb dZ=>tn i B b hB dZ) (hi.b6 (σ i) _ (Qc i B hB))
  ·obtain⟨B1,qH,iT⟩:=ly h1;obtain⟨B2,GO,jh⟩:=ly h2;exact Zc m n (hi.inj _ _ b (Gy m B1 b qH iT) (Gy n B2 b GO jh))
 refine⟨G0,bE,oT,pC,λG1 w' H' hE eO hi1=> ?_⟩;have Bc:H'.length=G1.N:=hi1.len;obtain⟨ps,yv⟩:∃ps,ps=sS l h.length:=⟨_,rfl⟩;obtain⟨G2,fx⟩:∃G2:Gh,G2={N:=G.N+(G1.N-H.length),Z:=G.Z,S:=G1.S,aF:=λn=>oa (ps n) G1.aF (G.aF n),sg:=λn=>oa (ps n) G1.sg (G.sg n),ow:=λn=>oa (ps n) G1.ow (G.ow n),fl:=λn=>oa (ps n) G1.fl (G.fl n),M:=G.M}:=⟨_,rfl⟩;have Eh:∀i,ps (σ i)=some i:=λi=>by rw[yv,hσ];exact G4 hd az i
 have Cv:∀i,H.length<=i->σ i=G.N+(i-H.length):=λi iN=>by rw[hσ,Ei l _ i (by omega),CM,hk]
 have VH:∀i,i<H.length->σ i<G.N:=λi DY=>by
  obtain⟨j,_,e,hj⟩:=BU i DY;rw[e,<-CM];exact az j hj
 have Jh:nu σ G1 G2:=by
  subst fx;refine⟨λn hn=> ?_,λn _=>by simp only[Eh];rfl,λn _=>by simp only[Eh];rfl,λn _=>by simp only[Eh];rfl,λn _=>by simp only[Eh];rfl,λ_ _=>Iff.rfl⟩;show σ n<G.N+(G1.N-H.length);by_cases dA:n<H.length
  ·have:=VH n dA;omega
  ·rw[Cv n (by omega)];omega
 have P6:∀b,G0.Z b->G1.Z b:=hE.Z.1.1;have Lm:∀b,G.Z b->G0.Z b:=λb hz=>by
  rw[iR];refine⟨hi.z b hz,λho=> ?_⟩;rw[db]at ho;obtain⟨j,_,ho⟩:=ho;obtain⟨B,hB,dZ⟩:=ly ho;exact(hi.b6 j B hB).jD dZ hz
 have gy:a7 G.N G w G2 w':=by
  refine⟨hE.size,λb o hs=> ?_,λb o hs=> ?_,λn hn=> ?_,λn hn=> ?_,fi (by rw[fx]) (by rw[fx]),λb hz=>hE.old b (Lm b hz),hE.os,hE.tape,hE.output,λb o hs=> ?_⟩
  ·rw[fx];exact hE.S b o (by rw[iR];exact hs)
  ·exact hE.cell b o (by rw[iR];exact hs)
  ·rw[fx];show oa (ps n) G1.aF (G.aF n)=G.aF n;cases hp:ps n with
   |none=>rfl
   |some i=>
    have e:σ i=n:=by rw[hσ];rw[yv]at hp;exact JP hp
    have cy:i<H.length:=Nat.lt_of_not_le λiN=>by rw[Cv i iN]at e;omega
    show G1.aF i=G.aF n;rw[hE.aF i cy,iR,<-e]
  ·rw[fx];show(oa (ps n) G1.fl (G.fl n)=G.fl n/\oa (ps n) G1.sg (G.sg n)=G.sg n)\/G.fl n<oa (ps n) G1.fl (G.fl n);cases hp:ps n with
   |none=>exact .inl ⟨rfl,rfl⟩
   |some i=>
    have e:σ i=n:=by rw[hσ];rw[yv]at hp;exact JP hp
    have cy:i<H.length:=Nat.lt_of_not_le λiN=>by rw[Cv i iN]at e;omega
    have:=hE.fr i cy;rw[iR]at this;simp only[e]at this;exact this
  ·rw[fx]at hs;rcases hE.new b o hs with h1|h1
   ·rw[iR]at h1;exact .inl h1
   ·exact .inr λhz=>h1 (Lm b hz)
 have hlen:(fg l (H'.map (aj.ay σ)) h).length=G2.N:=by
  rw[NX _ _ _ (by rw[af0,hk,Bc];omega),af0,Bc,hk,CM,fx]
 have aeG:∀i,i<G1.N->(fg l (H'.map (aj.ay σ)) h)[σ i]?=(H'[i]?).map (aj.ay σ):=λi cy=>by
  rw[<-af2,hσ];exact Pw l _ h i (by rw[af0,hk,Bc];omega) hd az (by rw[af0,Bc];exact cy)
 have EE:∀(n:Nat)(B:aj),(fg l (H'.map (aj.ay σ)) h)[n]?=some B->(∃i B',i<G1.N/\n=σ i/\H'[i]?=some B'/\B=B'.ay σ)\/(ps n=none/\n ∉ l/\h[n]?=some B):=λn B hB=>by
  have L2:n<G2.N:=by rw[<-hlen];exact(afV.1 hB).1
  cases hp:ps n with
  |none=>
   rw[yv]at hp;obtain⟨h1,h2⟩:=Vr hp;exact .inr ⟨rfl,h2,by rw[<-KK l (H'.map (aj.ay σ)) h n (by rw[af0,hk,Bc];omega) h1 h2];exact hB⟩
  |some i=>
   have e:σ i=n:=by rw[hσ];rw[yv]at hp;exact JP hp
   have cy:i<G1.N:=Nat.lt_of_not_le λiN=>by
    rw[Cv i (by omega)]at e;rw[fx]at L2;have:n<G.N+(G1.N-H.length):=L2;omega
   rw[<-e,aeG i cy]at hB;cases hx:H'[i]? with
   |none=>rw[hx]at hB;cases hB
   |some B'=>rw[hx]at hB;cases hB;exact .inl ⟨i,B',cy,e.symm,hx,rfl⟩
 have hold:∀(n b:Nat),n ∉ l->bj h G n=some b->G0.Z b:=λn b hn dZ=>by
  rw[iR];refine⟨hi.fR dZ,λho=> ?_⟩;rw[db]at ho;obtain⟨j,hj,ho⟩:=ho;exact hn ((hi.inj n j b dZ ho)▸hj)
 have zi:∀(n b:Nat),bj (fg l (H'.map (aj.ay σ)) h) G2 n=some b->(∃i,n=σ i/\bj H' G1 i=some b/\¬G0.Z b)\/(n ∉ l/\bj h G n=some b/\G0.Z b):=λn b dZ=>by
  obtain⟨B,hB,iT⟩:=ly dZ;rcases EE n B hB with⟨i,B',cy,rfl,c8,rfl⟩|⟨hp,hn,c8⟩
  ·rw[JV Jh cy]at iT;exact .inl ⟨i,rfl,(cJ c8).trans iT,λhz=>(hi1.b6 i B' c8).jD iT (P6 _ hz)⟩
  ·have e:B.cS G2 n=B.cS G n:=by
    subst fx;cases B<;>simp only[aj.cS,hp,oa]
   have:=(cJ c8).trans (e▸iT);exact .inr ⟨hn,this,hold n b hn this⟩
 refine⟨G2,gy,by rw[fx];exact agB _ _,⟨hlen,λb hz=> ?_,λb o hs=> ?_,λn B hB=> ?_,λm n b h1 h2=> ?_,hi.gl.aG gy⟩,Jh⟩
 ·rw[fx]at hz;exact agk (hi.z b hz) hE.size
 ·rw[fx]at hs;exact hi1.S b o hs
 ·rcases EE n B hB with⟨i,B',cy,rfl,c8,rfl⟩|⟨hp,hn,c8⟩
  ·refine cX.ay Jh cy (λb dZ hz=> ?_) (hi1.b6 i B' c8);have:=(hi1.b6 i B' c8).jD dZ;rw[fx]at hz;exact this (P6 b (Lm b hz))
  ·have lL:n<G.N:=by rw[<-hi.len];exact(afV.1 c8).1
   refine cX.aG lL gy (by rw[fx];exact agB _ _) (by rw[fx];simp only[hp];exact⟨rfl,rfl,rfl⟩) (λb dZ=> ?_) (hi.b6 n B c8);have hz:=hold n b hn ((cJ c8).trans dZ);refine⟨hE.old b hz,λo iC hs=> ?_⟩;rw[fx]at hs;rcases hE.new b o hs with h1|h1
   ·rw[iR]at h1;exact iC h1
   ·exact h1 hz
 ·rcases zi m b h1 with⟨i,rfl,a1,a2⟩|⟨a0,a1,a2⟩<;>rcases zi n b h2 with⟨j,rfl,b1,b2⟩|⟨b0,b1,b2⟩
  ·rw[hi1.inj i j b a1 b1]
  ·exact absurd b2 a2
  ·exact absurd a2 b2
  ·exact hi.inj m n b a1 b1
theorem b5.Mx{P:agN}{f:FuncId}{args:agK J}{H:agK aj}{K:J->agK aj->Prop}(hc:b5 P f args H K){l:agK Nat}{h:agK aj}
 (hd:l.Nodup) (az:∀j∈l,j<h.length) (hH:∀(i j:Nat),l[i]?=some j->h[j]?=(H[i]?).map (aj.ay (rn l h.length))) (hk:l.length=H.length)
 (ha:args.all (J.aA H.length)=true) (hb:H.all (aj.aA H.length)=true):
 b5 P f (args.map (J.ay (rn l h.length))) h λr' h'=>∃r H',K r H'/\r'=r.ay (rn l h.length)/\h'=fg l (H'.map (aj.ay (rn l h.length))) h:=by
 refine⟨hc.1,λG w vs hi tU hvr=> ?_⟩;obtain⟨G0,bE,oT,pC,LK⟩:=NN hd az hH hk hb hi;refine(hc.2 G0 w vs oT (by rw[tU,af0]) λi u c hu hx=> ?_).mono λe w' hp=> ?_
 ·rw[agm]at ha;exact ax.rR pC (hvr i u (c.ay (rn l h.length)) hu (by rw[af2,hx];rfl)) c rfl (by rw[bE];exact ha c (af8 hx))
 ·obtain⟨v,G1,r,H',rfl,hE,eO,hi1,hv,hK⟩:=hp;rw[bE]at eO hE;obtain⟨G2,e1,e2,e3,e4⟩:=LK G1 w' H' hE eO hi1;exact⟨v,G2,r.ay _,_,rfl,e1,e2,e3,hv.ay e4,r,H',hK,rfl,rfl⟩
mutual
theorem sX{σ τ:Nat->Nat}{k:Nat}(h:∀i,i<k->σ i=τ i):∀x:J,x.aA k=true->x.ay σ=x.ay τ
 | .ptr n off,hb=>by rw[J.aA]at hb;rw[J.ay,J.ay,h n (by rw[Bool.not_eq_true',<-Bool.not_eq_true,cN]at hb;omega)]
 | .own n xs,hb=>by rw[J.aA]at hb;rw[J.ay,J.ay,h n (by rw[Bool.not_eq_true',<-Bool.not_eq_true,cN]at hb;omega)]
 | .row n off len cap q,hb=>by rw[J.aA]at hb;rw[J.ay,J.ay,h n (by rw[Bool.not_eq_true',<-Bool.not_eq_true,cN]at hb;omega)]
 | .mp n,hb=>by rw[J.aA]at hb;rw[J.ay,J.ay,h n (by rw[Bool.not_eq_true',<-Bool.not_eq_true,cN]at hb;omega)]
 | .cm n,hb=>by rw[J.aA]at hb;rw[J.ay,J.ay,h n (by rw[Bool.not_eq_true',<-Bool.not_eq_true,cN]at hb;omega)]
 | .vec n o len L q,hb=>by rw[J.aA]at hb;rw[J.ay,J.ay,h n (by rw[Bool.not_eq_true',<-Bool.not_eq_true,cN]at hb;omega)]
 | .cz n i j L q,hb=>by rw[J.aA]at hb;rw[J.ay,J.ay,h n (by rw[Bool.not_eq_true',<-Bool.not_eq_true,cN]at hb;omega)]
 | .agg cs,hb=>by rw[J.aA]at hb;rw[J.ay,J.ay,sa h cs hb]
 | .bp cs,hb=>by rw[J.aA]at hb;rw[J.ay,J.ay,sa h cs hb]
 | .fn f cs,hb=>by rw[J.aA]at hb;rw[J.ay,J.ay,sa h cs hb]
 | .d x,_=>by rw[J.ay,J.ay]
 | .aY xs i off,_=>by rw[J.ay,J.ay]
 | .full xs,_=>by rw[J.ay,J.ay]
 | .hid c,_=>by rw[J.ay,J.ay]
 | .dead,_=>by rw[J.ay,J.ay]
theorem sa{σ τ:Nat->Nat}{k:Nat}(h:∀i,i<k->σ i=τ i):∀l:agK J,J.kK k l=true->J.cZ σ l=J.cZ τ l
 |[],_=>by rw[J.cZ,J.cZ]
 |x::l,hb=>by
  rw[J.kK,afX]at hb;rw[J.cZ,J.cZ,sX h x hb.1,sa h l hb.2]
end
theorem I4{σ τ:Nat->Nat}{k:Nat}(h:∀i,i<k->σ i=τ i)(B:aj)(hb:B.aA k=true):B.ay σ=B.ay τ:=by
 cases B with
 |cells cs=>rw[aj.ay,aj.ay,sa h cs (by rw[kW];exact hb)]
 |lp ls p as bd cs=>rw[aj.ay,aj.ay,sa h cs (by rw[kW];exact hb)]
 |it sn cs=>rw[aj.ay,aj.ay,sa h cs (by rw[kW];exact hb)]
 |vec e q cs=>
  rw[aj.ay,aj.ay]
  congr 1
  refine agr λc hc=>sa h c ?_;simp only[aj.aA,agm]at hb;rw[kW,agm];exact hb c hc
 |_=>rfl
theorem Rv:∀(l:agK Nat)(b c i:Nat),i<l.length->rn l b i=rn l c i
 |[],b,c,i,h=>by simp at h
 |a::l,b,c,0,_=>by rw[rn,rn]
 |a::l,b,c,i+1,h=>by rw[rn,rn];exact Rv l b c i (by simpa using h)
def nL:agK Nat->Bool
 |[]=>true
 |a::l=> !l.any (·==a)&&nL l
theorem SB:∀{l:agK Nat},nL l=true->l.Nodup
 |[],_=>List.nodup_nil
 |a::l,h=>by
  rw[nL,afX,Bool.not_eq_true',<-Bool.not_eq_true]at h;rw[List.nodup_cons];exact⟨λhm=>h.1 (List.any_eq_true.2 ⟨a,hm,by simp⟩),SB h.2⟩
theorem QA:∀(l:agK Nat)(h Bs:agK aj),l.map (λj=>h[j]?)=Bs.map some->fg l Bs h=h
 |[],h,Bs,e=>by
  cases Bs with
  |nil=>rw[fg,agh]
  |cons=>simp at e
 |j::l,h,Bs,e=>by
  cases Bs with
  |nil=>simp at e
  |cons B Bs=>
   rw[agl,agl]at e;injection e with e1 e2;have hs:h.set j B=h:=by
     refine List.ext_getElem? λm=> ?_;by_cases em:j=m
     ·subst em;rw[agp (afV.1 e1).1,e1]
     ·rw[agu em]
   rw[fg,hs];exact QA l h Bs e2
section
variable {P:agN} {f:FuncId} {dB:agK J} {H:agK aj} {l:agK Nat} {h:agK aj}
theorem M8{l:agK Nat}{h H:agK aj}{σ:Nat->Nat}(hb:l.map (λj=>h[j]?)=H.map λB=>some (B.ay σ)):l.length=H.length/\(∀j∈l,j<h.length)/\∀(i j:Nat),l[i]?=some j->h[j]?=(H[i]?).map (aj.ay σ):=by
 have h1:l.length=H.length:=by simpa using congrArg List.length hb
 have key:∀(i j:Nat),l[i]?=some j->∃B,H[i]?=some B/\h[j]?=some (B.ay σ):=λi j e=>by
  have az:i<H.length:=by rw[<-h1];exact(afV.1 e).1
  have:=congrArg (·[i]?) hb;simp only[af2,e,afZ az,Option.map_some,Option.some.injEq]at this;exact⟨_,afZ az,this⟩
 refine⟨h1,λj hj=> ?_,λi j e=> ?_⟩
 ·obtain⟨i,hi⟩:=List.mem_iff_getElem?.1 hj;obtain⟨B,_,h2⟩:=key i j hi;exact(afV.1 h2).1
 ·obtain⟨B,h2,h3⟩:=key i j e;rw[h2,h3];rfl
theorem b5.k9{r:J}{H':agK aj}(hc:b5 P f dB H λr1 h1=>r1=r/\h1=H')(hd:nL l=true)(hb:l.map (λj=>h[j]?)=H.map λB=>some (B.ay (rn l h.length)))(hl:(dB.all (J.aA H.length)&&H.all (aj.aA H.length))=true):
 b5 P f (dB.map (J.ay (rn l h.length))) h λr1 h1=>r1=r.ay (rn l h.length)/\h1=fg l (H'.map (aj.ay (rn l h.length))) h:=by
 rw[afX]at hl;obtain⟨h1,h2,h3⟩:=M8 hb;exact(hc.Mx (SB hd) h2 h3 h1 hl.1 hl.2).mono λr1 h1 ⟨r2,H2,⟨e1,e2⟩,e3,e4⟩=>by subst e1;subst e2;exact⟨e3,e4⟩
theorem b5.rq{r:J}(hc:b5 P f dB H λr1 h1=>r1=r/\h1=H)(hd:nL l=true)(hb:l.map (λj=>h[j]?)=H.map λB=>some (B.ay (rn l 0)))(hl:(dB.all (J.aA H.length)&&H.all (aj.aA H.length)&&r.aA H.length)=true)(e:agK aj):
 b5 P f (dB.map (J.ay (rn l 0))) (h++e) λr1 h1=>r1=r.ay (rn l 0)/\h1=h++e:=by
 rw[afX,afX]at hl;obtain⟨⟨l1,l2⟩,l3⟩:=hl;obtain⟨h1,h2,_⟩:=M8 hb;have Ly:∀i,i<H.length->rn l (h++e).length i=rn l 0 i:=λi hi=>Rv l _ _ i (by rw[h1];exact hi);have iT:H.map (λB=>some (B.ay (rn l (h++e).length)))=H.map λB=>some (B.ay (rn l 0)):=by
   refine agr λB hB=> ?_;rw[agm]at l2;rw[I4 Ly B (l2 B hB)]
 have jh:l.map (λj=>(h++e)[j]?)=H.map λB=>some (B.ay (rn l (h++e).length)):=by
  rw[iT,<-hb];refine agr λj hj=> ?_;rw[af5 (h2 j hj)]
 have:=hc.k9 hd jh (by rw[l1,l2];rfl);have ha:dB.map (J.ay (rn l (h++e).length))=dB.map (J.ay (rn l 0)):=by
  refine agr λx hx=> ?_;rw[agm]at l1;exact sX Ly x (l1 x hx)
 rw[ha,sX Ly r l3]at this;refine this.mono λr1 h1 ⟨e1,e2⟩=>⟨e1,?_⟩;rw[e2];refine QA l _ _ ?_;rw[jh,List.map_map];rfl
end
end Go.Proofs.YtmkmibahjanejaaGreatDoor
namespace Go.Proofs.YtmkmibahjanejaaGreatDoor
open Go.RowKit
def aj.vd:aj->Prop
 | .vec _ _ cs=>(∀f,cs.map (J.cZ f)=cs)/\∀m,cs.all (·.all (J.aA m))=true
 |_=>True
theorem T1(f:Nat->Nat)(c:agK D):J.cZ f (c.map J.d)=c.map J.d:=by
 induction c with
 |nil=>simp [J.cZ]
 |cons x c ih=>simp only[agl,J.cZ,J.ay,ih]
theorem aa6(xs:agK (agK D)):(∀f,(bW xs).map (J.cZ f)=bW xs)/\∀m,(bW xs).all (·.all (J.aA m))=true:=by
 refine⟨λf=> ?_,λm=>by simp [bW,J.aA]⟩;unfold bW;rw[List.map_map];exact agr λc _=>T1 f c
def VD:agK aj->Prop
 |[]=>True
 |B::l=>B.vd/\VD l
theorem RO:VD []:=trivial
theorem Sa{e k:Nat}{xs:agK (agK D)}{l:agK aj}(h:VD l):VD (.vec e k (bW xs)::l):=⟨aa6 xs,h⟩
theorem VD.mem:∀{l:agK aj},VD l->∀B∈l,B.vd
 |[],_,B,hB=>by cases hB
 |_::_,h,B,hB=>by
  rcases agq.1 hB with rfl|hB
  ·exact h.1
  ·exact VD.mem h.2 B hB
def aj.jt(f:Nat->Nat):aj->aj
 | .vec e k cs=> .vec e k cs
 |B=>B.ay f
theorem RS{f:Nat->Nat}{B:aj}(h:B.vd):B.jt f=B.ay f:=by
 cases B with
 |vec e k cs=>simp only[aj.jt,aj.ay];rw[h.1 f]
 |_=>rfl
theorem Wl{f:Nat->Nat}{l:agK aj}(h:VD l):l.map (aj.jt f)=l.map (aj.ay f):=agr λB hB=>RS (h.mem B hB)
def aj.wi(m:Nat):aj->Bool
 | .vec .. =>true
 |B=>B.aA m
theorem aeo{m:Nat}{B:aj}(h:B.vd)(hl:B.wi m=true):B.aA m=true:=by
 cases B with
 |vec e k cs=>exact h.2 m
 |_=>exact hl
theorem ac3{m:Nat}{l:agK aj}(h:VD l)(hl:l.all (aj.wi m)=true):l.all (aj.aA m)=true:=by
 rw[agm]at hl ⊢;exact λB hB=>aeo (h.mem B hB) (hl B hB)
theorem ad9{f:Nat->Nat}{l:agK aj}(h:VD l):(l.map λB=>some (B.jt f))=l.map λB=>some (B.ay f):=agr λB hB=>congrArg some (RS (h.mem B hB))
inductive In
 |none
 |bit (x:J)
 |eq (x:J)
 |el (xs:List (List D)) (i:Int)
 |lt (z:Int) (n:Nat)
 |len (xs:List (List D))
 |sub (xs:List (List D)) (lo:Int) (hi:Option Int) (k:Nat)
 |app (xs ys:List (List D)) (len k cq:Nat)
 |nz (b:Int)
 |nn (b:Int)
 |str (b:ByteArray) (lo hi:Int)
 |cat (n:Nat)
 |pr (p:Prop)
 |sd (p:Sd)
 |Db (xs:List (List D))
 |CR (c:List D) (z:Int) (n:Nat)
 |ch (b:ByteArray) (i:Int)
 |call (f:FuncId) (args:List J)
 |iq (f:FuncId) (args:List J) (h:List aj)
 |xf (c:fD) (args:List J)
 |k9 (f:FuncId) (args:List J) (h:List aj)
def LU(P:agN)(c:fD)(args:agK J)(r:J):Prop:=∃g cs,c= .fn g cs/\gj P g (args++cs.map fD.av) (·=r)
inductive bm
 |none
 |bit (b:Bool)
 |zO
 |eq (y:J)
 |el (c:List D)
 |ok
 |nat (n:Nat)
 |list (ys:List (List D))
 |Tq (ys:List (List D)) (n:Nat)
 |byte (c:UInt8)
 |bytes (s:ByteArray)
 |one (d:D)
 |va (a:VA)
 |ret (r:J)
 |Ib (r:J) (h:List aj)
 |Gz (l:List Nat) (dB:List J) (H:List aj) (r:J) (H':List aj)
 |rq (l:List Nat) (dB:List J) (H:List aj) (r:J)
 |zh (l:List Nat) (dB:List J) (H:List aj) (r:J) (H':List aj)
inductive OK(P:Program):In->bm->Prop
 |none {o:bm}:OK P .none o
 |bit {e b:Bool} (h:e=b):OK P (.bit (.d (.v (.bool e)))) (.bit b)
 |zO:OK P (.bit (.d (.v undef))) .zO
 |eq {x y:J} (h:x=y):OK P (.eq x) (.eq y)
 |el {xs:List (List D)} {i:Int} {c:List D} (h0:0<=i) (h:xs[i.toNat]?=some c):OK P (.el xs i) (.el c)
 |lt {z:Int} {n:Nat} (h0:0<=z) (h:z<n):OK P (.lt z n) .ok
 |len {xs:List (List D)} {n:Nat} (h:xs.length=n):OK P (.len xs) (.nat n)
 |sub {xs ys:List (List D)} {lo hi:Int} {k:Nat} (h0:0<=lo) (h1:lo.toNat<=hi.toNat) (h2:0<=hi) (h3:hi.toNat<=xs.length) (hk:∀c∈xs,c.length=k) (h:(xs.take hi.toNat).drop lo.toNat=ys):OK P (.sub xs lo (some hi) k) (.list ys)
 |GL {xs ys:List (List D)} {lo:Int} {k:Nat} (h0:0<=lo) (h1:lo.toNat<=xs.length) (hk:∀c∈xs,c.length=k) (h:xs.drop lo.toNat=ys):OK P (.sub xs lo .none k) (.list ys)
 |app {xs ys zs:List (List D)} {len k cq n:Nat} (hl:len=xs.length) (hx:∀c∈xs,c.length=k) (hy:∀c∈ys,c.length=k) (hm:xs.length+ys.length<=maxLen) (hb:(xs.length+ys.length)*cq<=140737488355328) (hz:xs++ys=zs) (hn:xs.length+ys.length=n):OK P (.app xs ys len k cq) (.Tq zs n)
 |nz {b:Int} (h:b≠0):OK P (.nz b) .ok
 |nn {b:Int} (h:0<=b):OK P (.nn b) .ok
 |str {b:ByteArray} {lo hi:Int} (h0:0<=lo) (h1:lo.toNat<=hi.toNat) (h2:0<=hi) (h3:hi.toNat<=b.size):OK P (.str b lo hi) .ok
 |ch {b:ByteArray} {i:Int} {c:UInt8} (h0:0<=i) (h:b[i.toNat]?=some c):OK P (.ch b i) (.byte c)
 |cat {n:Nat} (h:n<=maxLen):OK P (.cat n) .ok
 |pr {p:Prop} (a:VA) (h:p):OK P (.pr p) (.va a)
 |sd {p:Sd} {o:bm} (h:p.ok):OK P (.sd p) o
 |Db {xs:List (List D)} {s:ByteArray} (h:∃ns:List Int,xs=ns.map (λn=>[.v (.int .u8 n)])/\s=⟨(ns.map λn=>UInt8.ofNat n.toNat).toArray⟩):OK P (.Db xs) (.bytes s)
 |CR {c:List D} {z:Int} {n:Nat} {d:D} (h0:0<=z) (h1:z<n) (h:c[z.toNat]?=some d):OK P (.CR c z n) (.one d)
 |call {f:FuncId} {args:List J} {r:J} (h:gj P f args (·=r)):OK P (.call f args) (.ret r)
 |xf {c:fD} {args:List J} {r:J} (h:LU P c args r):OK P (.xf c args) (.ret r)
 |k9 {f:FuncId} {lg dB:List J} {h H H':List aj} {l:List Nat} {r:J} (ha:lg=dB.map (J.ay (rn l h.length))) (hd:nL l=true) (hb:l.map (λj=>h[j]?)=H.map λB=>some (B.ay (rn l h.length))) (hl:(dB.all (J.aA H.length)&&H.all (aj.aA H.length))=true)
  (hc:b5 P f dB H λr1 h1=>r1=r/\h1=H'):OK P (.k9 f lg h) (.Gz l dB H r H')
 |Q8 {f:FuncId} {lg dB:List J} {h H H':List aj} {l:List Nat} {r:J} (vN:VD H) (hv:VD H') (ha:lg=dB.map (J.ay (rn l h.length))) (hd:nL l=true) (hb:l.map (λj=>h[j]?)=H.map λB=>some (B.jt (rn l h.length))) (hl:(dB.all (J.aA H.length)&&H.all (aj.wi H.length))=true)
  (hc:b5 P f dB H λr1 h1=>r1=r/\h1=H'):OK P (.k9 f lg h) (.zh l dB H r H')
 |rq {f:FuncId} {lg dB:List J} {h H:List aj} {l:List Nat} {r:J} (ha:lg=dB.map (J.ay (rn l 0))) (hd:nL l=true) (hb:l.map (λj=>h[j]?)=H.map λB=>some (B.ay (rn l 0))) (hl:(dB.all (J.aA H.length)&&H.all (aj.aA H.length)&&r.aA H.length)=true)
    (hc:b5 P f dB H λr1 h1=>r1=r/\h1=H):OK P (.k9 f lg h) (.rq l dB H r)
 |iq {f:FuncId} {args:List J} {h h':List aj} {r:J} (hc:b5 P f args h λr1 h1=>r1=r/\h1=h'):OK P (.iq f args h) (.Ib r h')
def vK(P:agN)(t:TypeId)(cs:agK J)(off:Nat):agM J:=
 match jS P t,eD P t with
 |some true,some k=>bif bB (off+k) cs.length then some (.agg ((cs.drop off).take k))else none
 |some false,some _=>cs[off]?
 |_,_=>none
def sT(h:agK aj)(p:J):agM (agK J×Nat):=
 match p with
 | .ptr n off=>match h[n]? with
   |some (.cells cs)=>some (cs,off)
   |_=>none
 | .aY xs i off=>match xs[i]? with
   |some c=>some (c.map .d,off)
   |none=>none
 |_=>none
def Ky(x:J)(i:agM Int)(k:Nat)(a:bm):agM (J×In):=
 match x.ep,i,a with
 |some xs,some z, .el c=>bif c.length==k then some (.aY [c] 0 0, .el xs z)else none
 |_,_,_=>none
def Ih(P:agN)(T:TypeId)(x i:J)(a:bm):agM (J×In):=
 match dn P T with
 |some (_,k)=>
  match x with
  | .row n off len _ k'=>match i.int? with
    |some z=>bif k'==k then some (.ptr n (off+z.toNat*k), .lt z len)else none
    |none=>none
  |x=>Ky x i.int? k a
 |none=>match rj P T,x,i.int? with
  |some (n,_,k), .ptr b off,some z=>some (.ptr b (off+z.toNat*k), .lt z n)
  |some (n,_,k), .aY [c] 0 0,some z=>match a with
   | .one d=>bif k==1 then some (.aY [[d]] 0 0, .CR c z n)else none
   |_=>none
  |_,_,_=>none
def Ho(P:agN)(T:TypeId)(x:J)(a:bm):agM (J×In):=
 match x with
 | .d (.v (.string s))=>bif fu P T then some (.d (.v (.int .i64 s.size)), .none)else none
 | .row _ _ len _ _=>bif (dn P T).isSome then some (.d (.v (.int .i64 len)), .none)else none
 |x=>match x.ep,a with
  |some xs, .nat n=>bif (dn P T).isSome then some (.d (.v (.int .i64 n)), .len xs)else none
  |_,_=>none
def oN(l:agM Int)(d:Nat):Nat:=match l with|some z=>z.toNat|none=>d
def Ah(ρ:Operand->J):agM Operand->agM (agM Int)
 |none=>some none
 |some y=>match (ρ y).int? with
  |some z=>some (some z)
  |none=>none
def Kl(P:agN)(T:TypeId)(ρ:Operand->J)(x:J)(lo hi mx:agM Operand)(a:bm):agM (J×In):=
 match mx with
 |none=>match Ah ρ lo,Ah ρ hi with
  |some l,some h=>match x with
   | .d (.v (.string b))=>bif fu P T then some (.d (.v (.string (b.extract (oN l 0) (oN h b.size)))), .str b (l.getD 0) (h.getD b.size))else none
   | .ptr n off=>match rj P T,l,h with
     |some (m,_,k),none,none=>bif bB m 4096&& !bB m 0 then some (.row n off m m k, .none)else none
     |_,_,_=>none
   |x=>match x.ep,dn P T,a with
    |some xs,some (_,k), .list ys=>some (.d (.sl ys), .sub xs (l.getD 0) h k)
    |_,_,_=>none
  |_,_=>none
 |some m=>match lo,hi,ρ m with
  |none,some y, .d (.v (.int _ 0))=>match x.ep,dn P T,ρ y,a with
   |some xs,some (_,k), .d (.v (.int _ 0)), .list _=>some (.full [], .sub xs 0 (some 0) k)
   |_,_,_,_=>none
  |_,_,_=>none
def C8(h:agK aj)(k:Nat)(x:J):agM (agK (agK D)):=
 match x with
 | .row n off len _ k'=>match h[n]? with
   |some (.cells cs)=>match lv ((cs.drop off).take (len*k))with
    |some ds=>bif k'==k&&bB (off+len*k) cs.length&&((cs.drop off).take (len*k)).all J.iJ then some (lC k len ds)else none
    |none=>none
   |_=>none
 |x=>x.ep
def HT(P:agN)(T:TypeId)(h:agK aj)(x y:J)(a:bm):agM (J×agK aj×In):=
 match dn P T,a with
 |some (e,k), .Tq zs n'=>match gi P e,nV P e with
  |some z,some cq=>bif bB 1 k&&z.cells.toList.length==k then
   match C8 h k y with
   |some ys=>match x with
    | .own n xs=>match h[n]? with
      |some (.front e' k' len)=>bif e'==e&&k'==k then some (.own n zs,h.set n (.front e k n'), .app xs ys len k cq)else none
      |_=>none
    | .d (.v (.slice none 0 0))=>some (.own h.length zs,h++[.front e k n'], .app [] ys 0 k cq)
    | .full xs=>some (.own h.length zs,h++[.front e k n'], .app xs ys xs.length k cq)
    |_=>none
   |none=>none
   else none
  |_,_=>none
 |_,_=>none
def KU(P:agN)(T:TypeId)(ps:agK (Nat×J)):agM J:=
 match Jq P T,gi P T with
 |some places,some z=>match mD places (z.cells.toList.map λu=> .d (.v u)) ps with
  |some cs=>bif (ps.all λp=>p.2.gZ)&&z.cells.toList.all Value.oneCell' then some (.agg cs)else none
  |none=>none
 |_,_=>none
def HM(P:agN)(T:TypeId)(len:Nat)(ps:agK (Nat×J)):agM J:=
 match dn P T with
 |some (e,k)=>match gi P e with
  |some z=>match mD (rO k 0 len) (oM len (z.cells.toList.map λu=> .d (.v u))) ps with
   |some cs=>match lv cs with
    |some ds=>bif bB 1 k&&bB (len*k) 16777216&&z.cells.toList.length==k&&z.cells.toList.all Value.oneCell'&&(ps.all λp=>p.2.gZ)then some (.full (lC k len ds))else none
    |none=>none
   |none=>none
  |none=>none
 |none=>none
def F0(P:agN)(T:TypeId)(op:BinOp)(x y:J):agM (J×In):=
 match x,y with
 | .d (.v (.int k a)), .d (.v (.int k' b))=>
   match GH op k a b with
   |some v=>bif uf k k' then some (.d (.v v), .nz b)else none
   |none=>match KM op k a b with
    |some v=>some (.d (.v v), .nn b)
    |none=>match IP op k a b with
     |some v=>bif uf k k' then some (.d (.v v), .none)else none
     |none=>none
 | .d (.v (.string a)), .d (.v (.string b))=>match IK op a b with
   |some v=>some (.d (.v v), .none)
   |none=>match op with
    | .add=>some (.d (.v (.string (a++b))), .cat (a.size+b.size))
    |_=>none
 | .d (.v (.bool a)), .d (.v (.bool b))=>match Jt op a b with
   |some v=>bif vT P T then some (.d (.v v), .none)else none
   |none=>none
 | .agg xs, .agg ys=>match EV P T xs ys with
   |some b=>match uw op b with
    |some v=>some (.d (.v v), .none)
    |none=>none
   |none=>none
 |_,_=>none
def DX(P:agN)(src dst:TypeId)(x:J)(a:bm):agM (J×In):=
 match x with
 | .d (.v (.int _ n))=>match np P src,np P dst with
   |some _,some k=>some (.d (.v (.int k (k.wrap n))), .none)
   |_,_=>none
 | .d (.v (.string b))=>bif fu P src&&fu P dst then some (.d (.v (.string b)), .none)else none
 |x=>match x.ep,dn P src,a with
  |some xs,some (e,_), .bytes s=>bif yk P e&&fu P dst then some (.d (.v (.string s)), .Db xs)else none
  |_,_,_=>none
def DJ(P:agN)(T:TypeId)(x:J)(f:Nat):agM J:=
 match oS P T f,x with
 |some (off,k,true), .agg cs=>bif bB (off+k) cs.length then some (.agg ((cs.drop off).take k))else none
 |some (off,_,false), .agg cs=>cs[off]?
 |_,_=>none
def Fo(h:agK aj):agM J->agM (J×agK aj×In)
 |some x=>some (x,h, .none)
 |none=>none
def uT(h:agK aj):agM (J×In)->agM (J×agK aj×In)
 |some (x,i)=>some (x,h,i)
 |none=>none
mutual
def J.nrm:J->J
 | .full xs=> .d (.sl xs)
 | .d (.v (.slice none 0 0))=> .d (.sl [])
 | .agg cs=> .agg (J.tN cs)
 | .bp cs=> .bp (J.tN cs)
 |x=>x
def J.tN:agK J->agK J
 |[]=>[]
 |x::l=>x.nrm::J.tN l
end
mutual
def J.cap:J->agM fD
 | .d x=>some (.d x)
 | .own _ xs=>some (.d (.sl xs))
 | .full xs=>some (.d (.sl xs))
 | .aY xs i off=>match xs[i]? with
   |some c=>some (.aY c off)
   |none=>none
 | .fn f cs=>match J.vq cs with
   |some l=>some (.fn f l)
   |none=>none
 | .hid c=>some c
 |_=>none
def J.vq:agK J->agM (agK fD)
 |[]=>some []
 |x::l=>match x.cap,J.vq l with
  |some c,some l=>some (c::l)
  |_,_=>none
end
def J.yI:J->J
 | .fn f cs=>match J.vq cs with
   |some l=> .hid (.fn f l)
   |none=> .fn f cs
 |x=>x
def J.arg(x:J):J:=((x.aS 0).nrm).yI
def J.th(x:J):J:=(x.aS 0).nrm
def sdI:Sd->In
 | .no=> .none
 |p=> .sd p
def xR:agM (J×agK aj×Sd)->agM (J×agK aj×In)
 |some (x,h,p)=>some (x,h,sdI p)
 |none=>none
def rU(P:agN)(op:Op)(ρ:Operand->J)(h:agK aj)(a:bm):agM (J×agK aj×In):=
 match op with
 | .move x| .assign x=>some (ρ x,h, .none)
 | .pick c x y=>match a with
   | .bit b=>some (bif b then ρ x else ρ y,h, .bit (ρ c))
   |_=>none
 | .alloc e=>match gi P e with
   |some z=>some (.ptr h.length 0,h++[aj.cells (z.cells.toList.map λu=> .d (.v u))], .none)
   |none=>none
 | .box _ x=>bif (ρ x).gZ then some (.ptr h.length 0,h++[aj.cells (ρ x).cells], .none)else none
 | .load t p=>match sT h (ρ p)with
   |some (cs,off)=>match vK P t cs off with
    |some x=>some (x,h, .none)
    |none=>none
   |none=>none
 | .store t p x=>match ρ p with
   | .ptr n off=>match h[n]? with
     |some (.cells cs)=>match eD P t with
      |some k=>bif k==(ρ x).cells.length&&(ρ x).gZ&&bB (off+(ρ x).cells.length) cs.length then some (.d (.v undef),h.set n (.cells (gM cs off (ρ x).cells)), .none)else none
      |none=>none
     |_=>none
   |_=>none
 | .nilCheck x=>match ρ x with
   | .ptr n off=>some (.ptr n off,h, .none)
   | .aY xs i off=>some (.aY xs i off,h, .none)
   | .fn f cs=>some (.fn f cs,h, .none)
   |_=>none
 | .fieldAddr S x f=>match oS P S f with
   |some (fo,_,_)=>match ρ x with
    | .ptr n off=>some (.ptr n (off+fo),h, .none)
    | .aY xs i off=>some (.aY xs i (off+fo),h, .none)
    |_=>none
   |none=>none
 | .field T x f=>Fo h (DJ P T (ρ x) f)
 | .indexAddr T x i=>uT h (Ih P T (ρ x) (ρ i) a)
 | .index T x i=>match ρ x,(ρ i).int?,a with
   | .d (.v (.string b)),some z, .byte c=>bif fu P T then some (.d (.v (.int .u8 c.toNat)),h, .ch b z)else none
   |_,_,_=>none
 | .build T ps=>Fo h (KU P T (ps.toList.map λp=>(p.1,ρ p.2)))
 | .buildSlice T len ps=>Fo h (HM P T len (ps.toList.map λp=>(p.1,ρ p.2)))
 | .slice T x lo hi mx=>uT h (Kl P T ρ (ρ x) lo hi mx a)
 | .extract x i=>match ρ x with
   | .bp cs=>match cs[i]? with
     |some c=>some (c,h, .none)
     |none=>none
   |_=>none
 | .makeFunc (.func f) first cF=>match first.toList with
   |[]=>some (.fn f (cF.toList.map ρ),h, .none)
   |_=>none
 | .binOp op T x y _=>uT h (F0 P T op (ρ x) (ρ y))
 | .unOp op _ x=>match ρ x with
   | .d (.v u)=>match Eu op u with
     |some v=>some (.d (.v v),h, .none)
     |none=>none
   |_=>none
 | .convert s t x=>uT h (DX P s t (ρ x) a)
 | .call c=>match c.callee with
   | .builtin .len=>match c.args.toList,c.argTypes.toList with
     |[x],[T]=>uT h (Ho P T (ρ x) a)
     |_,_=>none
   | .builtin .append=>match c.args.toList,c.argTypes.toList with
     |[x,y],[T,U]=>bif (dn P U).isSome then HT P T h (ρ x) (ρ y) a else none
     |_,_=>none
   | .builtin .max=>match wY true (c.args.toList.map ρ)with
     |some (k,a)=>some (.d (.v (.int k a)),h, .none)
     |none=>none
   | .builtin .min=>match wY false (c.args.toList.map ρ)with
     |some (k,a)=>some (.d (.v (.int k a)),h, .none)
     |none=>none
   | .value f=>match ρ f,a with
     | .fn g cF, .ret r=>bif ((c.args.toList.map ρ++cF).map J.arg).all (J.aA 0)&&r.aA 0 then some (r,h, .call g ((c.args.toList.map ρ++cF).map J.arg))else none
     | .fn g cF, .Ib r h'=>some (r,h', .iq g (c.args.toList.map ρ++cF) h)
     | .fn g cF, .Gz l _ _ r H'=>some (r.ay (rn l h.length),fg l (H'.map (aj.ay (rn l h.length))) h, .k9 g ((c.args.toList.map ρ++cF).map J.th) h)
     | .fn g cF, .zh l _ _ r H'=>some (r.ay (rn l h.length),fg l (H'.map (aj.jt (rn l h.length))) h, .k9 g ((c.args.toList.map ρ++cF).map J.th) h)
     | .fn g cF, .rq l _ _ r=>some (r.ay (rn l 0),h, .k9 g ((c.args.toList.map ρ++cF).map J.th) h)
     | .hid q, .ret r=>bif ((c.args.toList.map ρ).map J.arg).all (J.aA 0)&&r.aA 0 then some (r,h, .xf q ((c.args.toList.map ρ).map J.arg))else none
     |_,_=>none
   |_=>none
 |op=>xR (mC P op ρ h)
theorem D8:∀l,J.tN l=l.map J.nrm
 |[]=>by simp [J.tN]
 |x::l=>by simp [J.tN,D8 l]
theorem ax.nrm{G:Gh}{w:agP}{u:agO}{x:J}(h:ax G w u x):ax G w u x.nrm:=by
 have eP:∀(vs:Array agO)(cs:agK J),(∀(i:Nat)(u:agO)(c:J),vs[i]?=some u->cs[i]?=some c->ax G w u c.nrm)->∀(i:Nat)(u:agO)(c:J),vs[i]?=some u->(J.tN cs)[i]?=some c->ax G w u c:=by
  intro vs cs ih i u c hu hc;rw[D8,af2]at hc;cases hx:cs[i]? with
  |none=>rw[hx]at hc;cases hc
  |some x=>rw[hx]at hc;cases hc;exact ih i u x hu hx
 induction h with
 |agg vs cs hl _ ih=>rw[J.nrm];exact .agg vs _ (by rw[D8,af0];exact hl) (eP vs cs ih)
 |bp vs cs hl _ ih=>rw[J.nrm];exact .bp vs _ (by rw[D8,af0];exact hl) (eP vs cs ih)
 |full xs hp hf=>rw[J.nrm];exact .d hp
 | @d u x h=>
   by_cases hx:x= .v (.slice none 0 0)
   ·subst hx;cases h with|v=>simp only[J.nrm];exact .d yo
   ·have:(J.d x).nrm= .d x:=by
     unfold J.nrm;split<;>simp_all
    rw[this];exact .d h
 |own n xs h hp hle hf=>simp only[J.nrm];exact .own n xs h hp hle hf
 |ptr n off h=>simp only[J.nrm];exact .ptr n off h
 |aY xs i off b o u x hx hS hu=>simp only[J.nrm];exact .aY xs i off b o u x hx hS hu
 |row n off len cap k h hl hm=>simp only[J.nrm];exact .row n off len cap k h hl hm
 |fn f vs cs hl h=>simp only[J.nrm];exact .fn f vs cs hl h
 |mp n h=>simp only[J.nrm];exact .mp n h
 |cm n h=>simp only[J.nrm];exact .cm n h
 |vec n o len L k h hs hL hf=>simp only[J.nrm];exact .vec n o len L k h hs hL hf
 |cz n i j L k h hs hL hf=>simp only[J.nrm];exact .cz n i j L k h hs hL hf
 |hid h h1=>simp only[J.nrm];exact .hid h h1
 |dead u=>simp only[J.nrm];exact .dead u
theorem ME:∀(cs:agK J)(l:agK fD),J.vq cs=some l->cs.length=l.length/\∀(i:Nat)(x:J)(c:fD),cs[i]?=some x->l[i]?=some c->x.cap=some c
 |[],l,h=>by
  unfold J.vq at h;cases h;exact⟨rfl,λi x c hx=>by simp at hx⟩
 |x::cs,l,h=>by
  unfold J.vq at h;split at h
  ·next c l' e1 e2=>
   cases h
   obtain⟨h1,h2⟩:=ME cs l' e2;refine⟨by simp [h1],λi y d hy hd=> ?_⟩
   match i with
   |0=>simp only[List.getElem?_cons_zero,Option.some.injEq]at hy hd;subst hy;subst hd;exact e1
   |i+1=>exact h2 i y d (by simpa using hy) (by simpa using hd)
  ·cases h
theorem ax.cap{G:Gh}{w:agP}{u:agO}{x:J}(h:ax G w u x):∀c,x.cap=some c->mX G.S w u c:=by
 induction h with
 |d h=>intro c hc;simp only[J.cap]at hc;cases hc;exact .d h
 |own n xs h hp hle hf=>intro c hc;simp only[J.cap]at hc;cases hc;exact .d hp
 |full xs hp hf=>intro c hc;simp only[J.cap]at hc;cases hc;exact .d hp
 |aY xs i off b o u x hx hS hu=>
  intro c hc;simp only[J.cap,hx]at hc;cases hc
  exact .aY x off b o u hS hu
 |fn f vs cs hl h ih=>
  intro c hc;simp only[J.cap]at hc;split at hc
  ·next l e=>
   cases hc
   obtain⟨h1,h2⟩:=ME cs l e;refine .fn f vs l (hl.trans h1) λi v d hv hd=> ?_;have az:i<cs.length:=by rw[h1];exact(afV.1 hd).1
   exact ih i v _ hv (afZ az) d (h2 i _ d (afZ az) hd)
  ·cases hc
 |hid h h1=>intro c hc;simp only[J.cap]at hc;cases hc;exact h
 |agg=>intro c hc;simp [J.cap]at hc
 |bp=>intro c hc;simp [J.cap]at hc
 |ptr=>intro c hc;simp [J.cap]at hc
 |row=>intro c hc;simp [J.cap]at hc
 |mp=>intro c hc;simp [J.cap]at hc
 |cm=>intro c hc;simp [J.cap]at hc
 |vec=>intro c hc;simp [J.cap]at hc
 |cz=>intro c hc;simp [J.cap]at hc
 |dead=>intro c hc;simp [J.cap]at hc
theorem J.Le.yI(x:J):J.Le x x.yI:=λG w u h=>by
 unfold J.yI;split
 ·next f cs=>
  split
  ·next l e=>
   have:=h.cap (.fn f l) (by simp only[J.cap,e]);cases h with|fn=>exact .hid this rfl
  ·exact h
 ·exact h
theorem J.Le.arg(x:J):J.Le x x.arg:=λ_ _ _ h=>J.Le.yI _ _ _ _ (h.aS 0).nrm
theorem b5.args{P:agN}{f:FuncId}{as:agK J}{h:agK aj}{K:J->agK aj->Prop}(hc:b5 P f as h K)(bs:agK J)(hl:as.length=bs.length)(hle:∀(i:Nat)(c d:J),bs[i]?=some c->as[i]?=some d->J.Le c d):b5 P f bs h K:=
 ⟨hc.1,λG w vs hi hs hr=>hc.2 G w vs hi (hs.trans hl.symm) λi u d hu hd=>by
  have az:i<bs.length:=by rw[<-hl];exact(afV.1 hd).1
  exact hle i _ d (afZ az) hd G w u (hr i u _ hu (afZ az))⟩
theorem b5.RA{P:agN}{f:FuncId}{as:agK J}{h:agK aj}{K:J->agK aj->Prop}(hc:b5 P f (as.map J.arg) h K):b5 P f as h K:=
 hc.args as (by rw[af0]) λi c d hc hd=>by
  rw[af2,hc]at hd;cases hd;exact J.Le.arg c
theorem J.Le.th(x:J):J.Le x x.th:=λ_ _ _ h=>(h.aS 0).nrm
theorem b5.BS{P:agN}{f:FuncId}{as:agK J}{h:agK aj}{K:J->agK aj->Prop}(hc:b5 P f (as.map J.th) h K):b5 P f as h K:=
 hc.args as (by rw[af0]) λi c d hc hd=>by
  rw[af2,hc]at hd;cases hd;exact J.Le.th c
theorem Wr(l:agK fD):(l.map fD.av).all (J.aA 0)=true:=by
 rw[agm];intro x hx;obtain⟨c,_,rfl⟩:=List.mem_map.1 hx;cases c<;>rfl
theorem LU.use{P:agN}{q:fD}{args:agK J}{r:J}{h:agK aj}{C:J->agK aj->Prop}(hc:LU P q (args.map J.arg) r)(ha:(args.map J.arg).all (J.aA 0)=true)(hr:r.aA 0=true)(hC:C r h):∃g cs,q= .fn g cs/\b5 P g (args++cs.map fD.av) h C:=by
 obtain⟨g,cs,rfl,hc⟩:=hc;refine⟨g,cs,rfl,b5.args (hc.use (h:=h) (C:=C) (by rw[List.all_append,ha,Wr];rfl) hr hC) _ (by simp) λi c d h1 h2=> ?_⟩;by_cases hi:i<args.length
 ·rw[af5 hi]at h1;rw[af5 (by simpa using hi),af2,h1]at h2;cases h2;exact J.Le.arg c
 ·rw[agb (by omega)]at h1;rw[agb (by simpa using hi),af0,h1]at h2;cases h2;exact J.Le.refl c
theorem di{α:Type}{b:Bool}{x y:α}(h:(bif b then some x else none)=some y):b=true/\x=y:=by
 cases b with
 |true=>exact⟨rfl,age h⟩
 |false=>cases h
theorem mh{α:Type}{b:Bool}{x:agM α}{y:α}(h:(bif b then x else none)=some y):b=true/\x=some y:=by
 cases b with
 |true=>exact⟨rfl,h⟩
 |false=>cases h
section
variable {P:agN} {ρ:Operand->J} {h h':agK aj} {a:bm} {i:In} {x:J} {C:J->agK aj->Prop}
theorem OK.DE{x:J}{b:Bool}(h:OK P (.bit x) (.bit b)):x= .d (.v (.bool b)):=by
 cases h with|bit h=>subst h;rfl
theorem I9{t:TypeId}{p:J}{cs:agK J}{off:Nat}{K:J->Prop}(h1:sT h p=some (cs,off))(h2:vK P t cs off=some x)(hK:K x):lH P t h p K:=by
 have key:(match jS P t,eD P t with
     |some true,some k=>eW (bB (off+k) cs.length) (K (.agg ((cs.drop off).take k)))
     |some false,some _=>match cs[off]? with
      |some c=>K c
      |none=>False
     |_,_=>False):=by
  unfold vK at h2;split at h2
  ·next k e1 e2=>
   obtain⟨h3,rfl⟩:=di h2;exact bf.2 ⟨h3,hK⟩
  ·next k e1 e2=>rw[h2];exact hK
  ·cases h2
 unfold lH oK;unfold sT at h1;split at h1
 ·split at h1
  ·next bC e=>cases h1;simp only[e];exact key
  ·cases h1
 ·split at h1
  ·next c e=>cases h1;simp only[e];exact key
  ·cases h1
 ·cases h1
theorem acY{y:J}{z:agM Int}{k:Nat}(h1:Ky y z k a=some (x,i))(bh:OK P i a):∃xs w c,y.ep=some xs/\z=some w/\0<=w/\xs[w.toNat]?=some c/\c.length=k/\x= .aY [c] 0 0:=by
 unfold Ky at h1;split at h1
 ·next xs w c hx=>
  obtain⟨hk,he⟩:=di h1;cases he
  cases bh with
  |el h0 hc=>exact⟨_,_,_,hx,rfl,h0,hc,by simpa using hk,rfl⟩
 ·cases h1
theorem aal{T:TypeId}{y z:J}{K:J->Prop}(h1:Ih P T y z a=some (x,i))(bh:OK P i a)(hK:K x):pN P T y z K:=by
 unfold Ih at h1;unfold pN;cases hT:dn P T with
 |some p=>
  obtain⟨e,k⟩:=p;simp only[hT]at h1 ⊢;cases y with
  |row n off len cap k'=>
   simp only at h1 ⊢;split at h1
   ·next w hw=>
    obtain⟨hk,he⟩:=di h1;cases he
    cases bh with|lt h0 hl=>simp only[hw];exact bf.2 ⟨hk,h0,hl,hK⟩
   ·cases h1
  |_=>
   obtain⟨xs,w,c,e1,e2,e3,e4,e5,rfl⟩:=acY h1 bh;simp only[e1,e2,e4,e5];exact⟨e3,trivial,hK⟩
 |none=>
  simp only[hT]at h1 ⊢;split at h1
  ·next n e k b off w hA hw=>
   cases h1
   simp only[hA,hw];cases bh with|lt h0 hl=>exact⟨h0,hl,hK⟩
  ·next n e k c w hA hw=>
   split at h1
   ·next d=>
    obtain⟨hb,he⟩:=di h1;cases he;simp only[hA,hw];cases bh with|CR h0 hl h=>exact bf.2 ⟨hb,h0,hl,by simp only[List.getElem?_cons_zero,agf,h];exact hK⟩
   ·cases h1
  ·cases h1
theorem acR{T:TypeId}{y:J}{K:Nat->Prop}{C:J->Prop}(h1:Ho P T y a=some (x,i))(bh:OK P i a)(hK:C x)(hc:∀n:Nat,C (.d (.v (.int .i64 n)))->K n):od P T y K:=by
 unfold Ho at h1;unfold od;split at h1
 ·obtain⟨hb,he⟩:=di h1;cases he;exact bf.2 ⟨hb,hc _ hK⟩
 ·obtain⟨hb,he⟩:=di h1;cases he;exact bf.2 ⟨hb,hc _ hK⟩
 ·next n1 n2=>
  split at h1
  ·next xs n hx=>
   obtain⟨hb,he⟩:=di h1;cases he;cases bh with
   |len hl=>
    subst hl;split
    ·next s=>exact absurd rfl (n1 s)
    ·next a b c d e=>exact absurd rfl (n2 a b c d e)
    ·simp only[hx];exact bf.2 ⟨hb,hc _ hK⟩
  ·cases h1
theorem U9{y:agM Operand}{l:agM Int}(h1:Ah ρ y=some l):(y=none/\l=none)\/∃o z,y=some o/\l=some z/\(ρ o).int?=some z:=by
 unfold Ah at h1;cases y with
 |none=>cases h1;exact .inl ⟨rfl,rfl⟩
 |some o=>
  simp only at h1;split at h1
  ·next z hz=>cases h1;exact .inr ⟨o,z,rfl,rfl,hz⟩
  ·cases h1
theorem rW{y:agM Operand}{l:agM Int}{d:Nat}{K:Nat->Prop}(h1:Ah ρ y=some l)(h0:∀z,l=some z->0<=z)(hK:K (oN l d)):optInt ρ y d K:=by
 rcases U9 h1 with⟨rfl,rfl⟩|⟨o,z,rfl,rfl,hz⟩
 ·exact hK
 ·simp only[optInt,hz];exact⟨h0 z rfl,hK⟩
theorem Wo{T:TypeId}{y:J}{lo hi mx:agM Operand}{K:J->Prop}(h1:Kl P T ρ y lo hi mx a=some (x,i))(bh:OK P i a)(hK:K x):q6 P T ρ y lo hi mx K:=by
 unfold Kl at h1;unfold q6;split at h1
 ·split at h1
  ·next l hh hl n3=>
   split at h1
   ·next b=>
    obtain⟨hb,he⟩:=di h1;cases he;cases bh with
    |str h0 h2 h3 h4=>
     refine bf.2 ⟨hb,rW n3 (λz e=>by subst e;exact h3) ?_⟩;have e1:oN hh b.size=(hh.getD b.size).toNat:=by cases hh<;>simp [oN]
     have e2:oN l 0=(l.getD 0).toNat:=by cases l<;>simp [oN]
     rw[e1];refine⟨h4,rW hl (λz e=>by subst e;exact h0) ?_⟩;rw[e2];rw[e1,e2]at hK;exact⟨h2,hK⟩
   ·next n off=>
    split at h1
    ·next m e k hT=>
     obtain⟨hb,he⟩:=di h1;cases he;simp only[hT];generalize bB m 4096=q at hb ⊢;rw[afX]at hb;refine bf.2 ⟨hb.1,rW n3 (λz e=>by cases e) (bf.2 ⟨cN.2 (af6 _),rW hl (λz e=>by cases e) (bf.2 ⟨?_,?_⟩)⟩)⟩
     ·rw[afX];exact⟨cN.2 (Nat.zero_le _),hb.2⟩
     ·show K (.row n (off+0*k) (m-0) (m-0) k);rw[Nat.zero_mul,Nat.add_zero,Nat.sub_zero];exact hK
    ·cases h1
   ·next zT jH=>
    split at h1
    ·next xs e k ys hx hT=>
     cases h1
     dsimp only;split
     ·next b=>exact absurd rfl (zT b)
     ·next n off=>exact absurd rfl (jH n off)
     ·simp only[hx,hT];cases hh with
      |none=>
       cases bh with
       |GL h0 h2 hk he=>
        refine⟨hk,rW n3 (λz e=>by cases e) ⟨af6 _,rW hl (λz e=>by subst e;exact h0) ?_⟩⟩;have e2:oN l 0=(l.getD 0).toNat:=by cases l<;>simp [oN]
        rw[e2];refine⟨h2,?_⟩;rw[show oN none xs.length=xs.length from rfl,List.take_length,he];exact hK
      |some z=>
       cases bh with
       |sub h0 h2 h3 h4 hk he=>
        refine⟨hk,rW n3 (λz e=>by cases e;exact h3) ⟨h4,rW hl (λz e=>by subst e;exact h0) ?_⟩⟩;have e2:oN l 0=(l.getD 0).toNat:=by cases l<;>simp [oN]
        rw[e2];refine⟨h2,?_⟩;rw[show oN (some z) xs.length=z.toNat from rfl,he];exact hK
    ·cases h1
  ·cases h1
 ·split at h1
  ·next m _ _ y' _ hm=>
   split at h1
   ·next xs e k _ _ ys hx hT hy=>
    cases h1
    cases bh with
    |sub h0 h2 h3 h4 hk he=>
     simp only[hx,hT];refine⟨hk,?_⟩;simp only[optInt,hm,hy,J.int?];refine⟨Int.le_refl _,Nat.zero_le _,Int.le_refl _,?_,by simpa using hK⟩;first|rfl|trivial
   ·cases h1
  ·cases h1
theorem HV{k:Nat}{y:J}{ys:agK (agK D)}{K:agK (agK D)->Prop}(h1:C8 h k y=some ys)(hy:∀c∈ys,c.length=k)(hK:K ys):qL h k y K:=by
 unfold C8 at h1;unfold qL;split at h1
 ·split at h1
  ·next cs e=>
   split at h1
   ·next ds e2=>
    obtain⟨hb,rfl⟩:=di h1;simp only[e,e2];exact bf.2 ⟨hb,hK⟩
   ·cases h1
  ·cases h1
 ·next hn=>
  split
  ·next n off len cap k'=>exact absurd rfl (hn n off len cap k')
  ·simp only[h1];exact⟨hy,hK⟩
theorem TL{T:TypeId}{y z:J}(h1:HT P T h y z a=some (x,h',i))(bh:OK P i a)(hC:C x h'):sb P T h y z C:=by
 unfold HT at h1;unfold sb;split at h1
 ·next e k zs n' hT=>
  simp only[hT];split at h1
  ·next zv cq hz mi=>
   simp only[hz,mi];obtain⟨hb,h1⟩:=mh h1;refine bf.2 ⟨hb,?_⟩;split at h1
   ·next ys jg=>
    split at h1
    ·next n xs=>
     split at h1
     ·next e' k' len hn=>
      obtain⟨hc,he⟩:=di h1;cases he;cases bh with
      |app hl hx hy hm kG gV AD=>
       subst gV;subst AD;refine HV jg hy ?_;simp only[hn];exact bf.2 ⟨hc,hl,hx,hm,kG,hC⟩
     ·cases h1
    ·cases h1
     cases bh with
     |app hl hx hy hm kG gV AD=>
      subst gV;subst AD;refine HV jg hy ?_;simp only[List.nil_append,af7,agf]at hC hm kG ⊢;exact⟨hm,kG,hC⟩
    ·cases h1
     cases bh with
     |app hl hx hy hm kG gV AD=>
      subst gV;subst AD;exact HV jg hy ⟨hx,hm,kG,hC⟩
    ·cases h1
   ·cases h1
  ·cases h1
 ·cases h1
theorem XT{T:TypeId}{ps:agK (Nat×J)}{K:J->Prop}(h1:KU P T ps=some x)(hK:K x):ur P T ps K:=by
 unfold KU at h1;unfold ur;split at h1
 ·next pl z e1 e2=>
  simp only[e1,e2];split at h1
  ·next cs e3=>obtain⟨hb,rfl⟩:=di h1;simp only[e3];exact bf.2 ⟨hb,hK⟩
  ·cases h1
 ·cases h1
theorem Zb{T:TypeId}{len:Nat}{ps:agK (Nat×J)}{K:J->Prop}(h1:HM P T len ps=some x)(hK:K x):sE P T len ps K:=by
 unfold HM at h1;unfold sE;split at h1
 ·next e k hT=>
  simp only[hT];split at h1
  ·next z hz=>
   simp only[hz];split at h1
   ·next cs eN=>
    simp only[eN];split at h1
    ·next ds oz=>obtain⟨hb,rfl⟩:=di h1;simp only[oz];exact bf.2 ⟨hb,hK⟩
    ·cases h1
   ·cases h1
  ·cases h1
 ·cases h1
theorem MR{T:TypeId}{op:BinOp}{y z:J}{K:J->Prop}(h1:F0 P T op y z=some (x,i))(bh:OK P i a)(hK:K x):tv P T op y z K:=by
 unfold F0 at h1;unfold tv;split at h1
 ·split at h1
  ·next v e=>
   obtain⟨hb,he⟩:=di h1;cases he;cases bh with|nz h0=>simp only[e];exact bf.2 ⟨hb,h0,hK⟩
  ·next e=>
   simp only[e];split at h1
   ·next v e2=>
    cases h1
    cases bh with|nn h0=>simp only[e2];exact⟨h0,hK⟩
   ·next e2=>
    simp only[e2];split at h1
    ·next v e3=>obtain⟨hb,he⟩:=di h1;cases he;simp only[e3];exact bf.2 ⟨hb,hK⟩
    ·cases h1
 ·split at h1
  ·next v e=>cases h1;simp only[e];exact hK
  ·next e=>
   simp only[e];split at h1
   ·cases h1;cases bh with|cat h=>exact⟨h,hK⟩
   ·cases h1
 ·split at h1
  ·next v e=>obtain⟨hb,he⟩:=di h1;cases he;simp only[e];exact bf.2 ⟨hb,hK⟩
  ·cases h1
 ·split at h1
  ·next b e=>
   simp only[e];split at h1
   ·next v e2=>cases h1;simp only[e2];exact hK
   ·cases h1
  ·cases h1
 ·cases h1
theorem ZS{s t:TypeId}{y:J}{K:J->Prop}(h1:DX P s t y a=some (x,i))(bh:OK P i a)(hK:K x):sW P s t y K:=by
 unfold DX at h1;unfold sW;split at h1
 ·split at h1
  ·next e1 e2=>cases h1;simp only[e1,e2];exact hK
  ·cases h1
 ·obtain⟨hb,he⟩:=di h1;cases he;exact bf.2 ⟨hb,hK⟩
 ·next h8 h9=>
  split at h1
  ·next xs e k s' e1 e2=>
   obtain⟨hb,he⟩:=di h1;cases he;cases bh with
   |Db h=>
    obtain⟨ns,k1,k2⟩:=h;subst k2;split
    ·next k' n=>exact absurd rfl (h8 k' n)
    ·next b'=>exact absurd rfl (h9 b')
    ·simp only[e1,e2];exact bf.2 ⟨hb,ns,k1,hK⟩
  ·cases h1
theorem Nd{T:TypeId}{y:J}{f:Nat}{K:J->Prop}(h1:DJ P T y f=some x)(hK:K x):ux P T y f K:=by
 unfold DJ at h1;unfold ux;split at h1
 ·next e=>obtain⟨hb,rfl⟩:=di h1;simp only[e];exact bf.2 ⟨hb,hK⟩
 ·next e=>simp only[e,h1];exact hK
 ·cases h1
theorem Lc{y:agM J}(h1:Fo h y=some (x,h',i)):y=some x/\h'=h:=by
 cases y with
 |none=>cases h1
 |some y=>cases h1;exact⟨rfl,rfl⟩
theorem yy{y:agM (J×In)}(h1:uT h y=some (x,h',i)):y=some (x,i)/\h'=h:=by
 cases y with
 |none=>cases h1
 |some y=>cases h1;exact⟨rfl,rfl⟩
theorem vW{o:Oper}(h1:rU P o.op ρ h a=some (x,h',i))(bh:OK P i a)(hC:C x h'):bM P o ρ h C:=by
 obtain⟨dst,op,type,pos,after,guard⟩:=o;simp only at h1;unfold rU at h1;unfold bM;split at h1
 ·cases h1;exact hC
 ·cases h1;exact hC
 ·next c y z=>
  split at h1
  ·next b=>
   cases h1
   simp only[OK.DE bh];cases b<;>simp_all
  ·cases h1
 ·split at h1
  ·next z e=>cases h1;simp only[e];exact hC
  ·cases h1
 ·obtain⟨hb,he⟩:=di h1;cases he;exact bf.2 ⟨hb,hC⟩
 ·split at h1
  ·next cs off e=>
   split at h1
   ·next y e2=>cases h1;exact I9 e e2 hC
   ·cases h1
  ·cases h1
 ·split at h1
  ·next n off e=>
   split at h1
   ·next cs e2=>
    split at h1
    ·next k e3=>obtain⟨hb,he⟩:=di h1;cases he;simp only[e,ua,e2,e3];exact bf.2 ⟨hb,hC⟩
    ·cases h1
   ·cases h1
  ·cases h1
 ·split at h1
  ·next e=>cases h1;simp only[e];exact hC
  ·next e=>cases h1;simp only[e];exact hC
  ·next e=>cases h1;simp only[e];exact hC
  ·cases h1
 ·split at h1
  ·next e=>
   simp only[e];split at h1
   ·next e2=>cases h1;simp only[e2];exact hC
   ·next e2=>cases h1;simp only[e2];exact hC
   ·cases h1
  ·cases h1
 ·obtain⟨e,rfl⟩:=Lc h1;exact Nd e hC
 ·obtain⟨e,rfl⟩:=yy h1;exact aal e bh hC
 ·split at h1
  ·next b z c e1 e2=>
   obtain⟨hb,he⟩:=di h1;cases he;cases bh with
   |ch h0 hc=>simp only[e1,e2];refine bf.2 ⟨hb,h0,?_⟩;simp only[hc];exact hC
  ·cases h1
 ·obtain⟨e,rfl⟩:=Lc h1;exact XT e hC
 ·obtain⟨e,rfl⟩:=Lc h1;exact Zb e hC
 ·obtain⟨e,rfl⟩:=yy h1;exact Wo e bh hC
 ·split at h1
  ·next e=>
   split at h1
   ·next e2=>cases h1;simp only[e,e2];exact hC
   ·cases h1
  ·cases h1
 ·split at h1
  ·next e=>cases h1;simp only[e];exact hC
  ·cases h1
 ·obtain⟨e,rfl⟩:=yy h1;exact MR e bh hC
 ·unfold tC;split at h1
  ·next e=>
   split at h1
   ·next e2=>cases h1;simp only[e,e2];exact hC
   ·cases h1
  ·cases h1
 ·obtain⟨e,rfl⟩:=yy h1;exact ZS e bh hC
 ·next c=>
  split at h1
  ·next hc=>
   simp only[hc];split at h1
   ·next e1 e2=>obtain⟨e,rfl⟩:=yy h1;simp only[e1,e2];exact acR (C:=λx=>C x _) e bh hC (λn hn=>hn)
   ·cases h1
  ·next hc=>
   simp only[hc];split at h1
   ·next e1 e2=>obtain⟨hb,h1⟩:=mh h1;simp only[e1,e2];exact bf.2 ⟨hb,TL h1 bh hC⟩
   ·cases h1
  ·next hc=>
   simp only[hc];split at h1
   ·next e1=>cases h1;simp only[e1];exact hC
   ·cases h1
  ·next hc=>
   simp only[hc];split at h1
   ·next e1=>cases h1;simp only[e1];exact hC
   ·cases h1
  ·next f hc=>
   simp only[hc];split at h1
   ·next g cF r e=>
    obtain⟨hb,he⟩:=di h1;cases he;simp only[afX]at hb;simp only[e];cases bh with|call iq=>exact(iq.use hb.1 hb.2 hC).RA
   ·next g cF r h2 e=>
    cases h1
    simp only[e];cases bh with|iq iq=>exact iq.mono λr1 h1 ⟨e1,e2⟩=>by subst e1;subst e2;exact hC
   ·next g cF l dB H r H' e=>
    cases h1
    simp only[e];cases bh with|k9 ha hd hb hl hc=>exact(ha▸(hc.k9 hd hb hl).mono λr1 h1 ⟨e1,e2⟩=>by subst e1;subst e2;exact hC:b5 P g _ _ _).BS
   ·next g cF l dB H r H' e=>
    cases h1
    simp only[e];cases bh with|Q8 vN hv ha hd hb hl hc=>exact(ha▸(hc.k9 hd (by rw[hb,ad9 vN]) (by rw[afX]at hl ⊢;exact⟨hl.1,ac3 vN hl.2⟩)).mono λr1 h1 ⟨e1,e2⟩=>by subst e1;subst e2;rw[<-Wl hv];exact hC:b5 P g _ _ _).BS
   ·next g cF l dB H r e=>
    cases h1
    simp only[e];cases bh with|rq ha hd hb hl hc=>exact(ha▸(by have:=hc.rq hd hb hl [];rw[agh]at this;exact this.mono λr1 h1 ⟨e1,e2⟩=>by subst e1;subst e2;exact hC):b5 P g _ _ _).BS
   ·next q r e=>
    obtain⟨hb,he⟩:=di h1;cases he;simp only[afX]at hb;simp only[e];cases bh with|xf hq=>exact hq.use hb.1 hb.2 hC
   ·cases h1
  ·cases h1
 ·next op _=>
  unfold xR at h1;split at h1
  ·next y h2 p e=>
   cases h1
   simp only[e];refine⟨?_,hC⟩;cases p with
   |no=>trivial
   |lt n=>cases bh with|sd h=>exact h
  ·cases h1
end
def gn:agK (Nat×bm)->Nat->bm
 |[],_=> .none
 |(k,x)::l,i=>bif k==i then x else gn l i
def qN(i:In)(a:bm)(r:agM (St×agK (In×bm))):agM (St×agK (In×bm)):=
 match i with
 | .none=>r
 |i=>match r with
  |some (s,l)=>some (s,(i,a)::l)
  |none=>none
def uS:bm->Bool
 | .Ib .. | .Gz .. | .zh .. =>true
 |_=>false
def vE(o:Oper):bm->Bool
 | .zh [] .. =>bw o==6
 |_=>false
def Ba(P:agN)(dr vk:Bool)(op:Op)(ρ:Operand->J)(h:agK aj)(a:bm):agM (J×agK aj×In):=
 match a with
 | .va va=>bif dr&& !vk then none else match fM P op ρ h va with
   |some (x,h',p)=>some (x,h', .pr p)
   |none=>none
 |a=>rU P op ρ h a
def kP(P:agN)(dr:Bool)(o:Oper)(j:Nat)(as:agK (Nat×bm))(s:St):agM (St×agK (In×bm)):=
 bif dr&&uS (gn as (3*j+1))&& !vE o (gn as (3*j+1))then none else
 match Ba P dr (gN o) o.op (ev s) s.h (gn as (3*j+1))with
 |some (x,h',i)=>match gn as (3*j+2)with
  | .eq y=>qN i (gn as (3*j+1)) (some ((s.wh h').put o.dst y,[(.eq x, .eq y)]))
  |_=>qN i (gn as (3*j+1)) (some ((s.wh h').put o.dst x,[]))
 |none=>none
def zf(o:Oper)(s:St):St:=s.put o.dst (.d (.v undef))
def nq(l:agK (In×bm)):agM (St×agK (In×bm))->agM (St×agK (In×bm))
 |some (s,m)=>some (s,l++m)
 |none=>none
def lV(P:agN)(ops:Array Oper)(dr:Bool)(o:Oper)(j:Nat)(as:agK (Nat×bm))(s:St):agM (St×agK (In×bm)):=
 match o.guard with
 |none=>kP P dr o j as s
 |some (g,want)=>match gn as (3*j)with
  | .bit b=>nq [(.bit (qz ops g s.t), .bit b)] (bif b==want then kP P dr o j as s else some (zf o s,[]))
  | .zO=>nq [(.bit (qz ops g s.t), .zO)] (some (zf o s,[]))
  |_=>none
def iK(P:agN)(ops:Array Oper)(dr:Bool):agK Oper->Nat->agK (Nat×bm)->St->agM (St×agK (In×bm))
 |[],_,_,s=>some (s,[])
 |o::rest,j,as,s=>match lV P ops dr o j as s with
  |some (s1,l)=>nq l (iK P ops dr rest (j+1) as s1)
  |none=>none
def fb(P:agN)(l:agK (In×bm)):Prop:=∀p∈l,OK P p.1 p.2
section
variable {P:agN} {ops:Array Oper} {dr:Bool} {o:Oper} {j:Nat} {as:agK (Nat×bm)} {s s1:St} {l:agK (In×bm)} {K:St->Prop}
theorem BB{i:In}{a:bm}{r:agM (St×agK (In×bm))}(h:qN i a r=some (s1,l))(bh:fb P l):∃m,r=some (s1,m)/\fb P m/\OK P i a:=by
 unfold qN at h;split at h
 ·exact⟨l,h,bh, .none⟩
 ·split at h
  ·next s2 m=>
   cases h
   exact⟨m,rfl,λp hp=>bh p (af4 _ hp),bh (i,a) af1⟩
  ·cases h
theorem tM{r:agM (St×agK (In×bm))}{m:agK (In×bm)}(h:nq m r=some (s1,l))(bh:fb P l):∃n,r=some (s1,n)/\fb P n/\fb P m:=by
 unfold nq at h;split at h
 ·next s2 n=>
  cases h
  exact⟨n,rfl,λp hp=>bh p (List.mem_append_right _ hp),λp hp=>bh p (List.mem_append_left _ hp)⟩
 ·cases h
def Co(P:agN)(dr:Bool)(o:Oper)(K:St->Prop)(s:St):Prop:=bif dr then OS P o K s else lu P o K s
theorem Z6{x:J}{h':agK aj}{i:In}{a:bm}(h1:rU P o.op (ev s) s.h a=some (x,h',i))(bh:OK P i a)(hh:uS a=false)(hK:K ((s.wh h').put o.dst x)):OS P o K s:=by
 refine .inl ?_;unfold vG;split
 ·next c fm=>
  split
  ·next f hc=>
   rw[fm]at h1;unfold rU at h1;simp only[hc]at h1;split at h1
   ·next g cF r e=>
    obtain⟨hb,he⟩:=di h1;cases he;simp only[afX]at hb;simp only[e];cases bh with
    |call iq=>exact⟨_,hK,λe=>(iq.use hb.1 hb.2 ⟨rfl,rfl⟩).RA⟩
   ·cases hh
   ·cases hh
   ·cases hh
   ·next g cF l dB H r e=>
    cases h1
    simp only[e];cases bh with|rq ha hd hb hl hc=>exact⟨_,hK,λe=>(ha▸hc.rq hd hb hl e:b5 P g _ _ _).BS⟩
   ·next q r e=>
    obtain⟨hb,he⟩:=di h1;cases he;simp only[afX]at hb;simp only[e];cases bh with
    |xf hq=>
     have:=λh=>hq.use (h:=h) (C:=λr' h'=>r'=x/\h'=h) hb.1 hb.2 ⟨rfl,rfl⟩;obtain⟨g,cs,e1,_⟩:=this [];refine⟨g,cs,e1,x,hK,λe=> ?_⟩;obtain⟨g',bC,e2,h9⟩:=this (s.h++e);rw[e1]at e2;cases e2
     exact h9
   ·cases h1
  ·exact vW (C:=λx h'=>K ((s.wh h').put o.dst x)) h1 bh hK
 ·exact vW (C:=λx h'=>K ((s.wh h').put o.dst x)) h1 bh hK
theorem abf{o:Oper}{ρ:Operand->J}{h h':agK aj}{dB:agK J}{H H':agK aj}{r x:J}{i:In}(hk:bw o=6)(hr:rU P o.op ρ h (.zh [] dB H r H')=some (x,h',i)):h'=h++H'.map (aj.jt (rn [] h.length)):=by
 unfold bw at hk;split at hk
 all_goals first|(cases hk;done)|skip
 next c fm=>
  split at hk
  all_goals first|(cases hk;done)|skip
  next f hc=>
   rw[fm]at hr;unfold rU at hr;simp only[hc]at hr;generalize ρ f=v at hr;cases v<;>first|(cases hr;rfl)|cases hr
theorem Hy(h:kP P dr o j as s=some (s1,l))(bh:fb P l)(hK:K s1):Co P dr o K s:=by
 unfold kP at h;cases hd:dr&&uS (gn as (3*j+1))&& !vE o (gn as (3*j+1))with
 |true=>rw[hd]at h;cases h
 |false=>
  rw[hd]at h;simp only[cond_false]at h;split at h
  ·next x h' i hr=>
   have fin:OK P i (gn as (3*j+1))->K ((s.wh h').put o.dst x)->Co P dr o K s:=λh1 h2=>by
    unfold Co;cases dr with
    |true=>
     unfold Ba at hr;split at hr
     ·next va e=>
      cases hv:gN o with
      |false=>rw[hv]at hr;cases hr
      |true=>
       rw[hv]at hr;simp only[Bool.not_true,Bool.and_false,cond_false]at hr;split at hr
       ·next x2 Sl p e2=>
        cases hr
        rw[e]at h1;cases h1 with|pr _ hp=>exact .inr (.inr (.inl ⟨.inl ⟨hv,rfl⟩,va,x,h',p,e2,hp,h2⟩))
       ·cases hr
     ·by_cases hx:vE o (gn as (3*j+1))=true
      ·refine .inr (.inr (.inr ?_));generalize gn as (3*j+1)=a at hx h1 hr;unfold vE at hx;split at hx
       ·next dB H r H'=>
        have zp:bw o=6:=by simpa using hx
        have this:h'=s.h++H'.map (aj.jt (rn [] s.h.length)):=abf zp hr;refine⟨zp,x,H'.map (aj.jt (rn [] s.h.length)),?_,λC hC=> ?_⟩
        ·rw[<-this];exact h2
        ·rw[<-this]at hC;exact vW hr h1 hC
       ·cases hx
      ·exact Z6 hr h1 (by simpa [hx]using hd) h2
    |false=>
     unfold Ba at hr;split at hr
     ·next va e=>
      simp only[Bool.false_and,cond_false]at hr;split at hr
      ·next x2 Sl p e2=>
       cases hr
       rw[e]at h1;cases h1 with|pr _ hp=>exact .inl ⟨va,x,h',p,e2,hp,h2⟩
      ·cases hr
     ·exact .inr (.inr (.inl (vW (C:=λx h'=>K ((s.wh h').put o.dst x)) hr h1 h2)))
   split at h
   ·next y hy=>
    obtain⟨m,e,h2,h3⟩:=BB h bh;cases e
    have:=h2 (.eq x, .eq y) af1;cases this with|eq e=>subst e;exact fin h3 hK
   ·obtain⟨m,e,h2,h3⟩:=BB h bh;cases e
    exact fin h3 hK
  ·cases h
theorem E6(h:lV P ops dr o j as s=some (s1,l))(bh:fb P l)(hK:K s1):fk ops o s (Co P dr o K s) (K (s.put o.dst (.d (.v undef)))):=by
 unfold lV at h;split at h
 ·next hg=>unfold fk;rw[hg];exact Hy h bh hK
 ·next g want hg=>
  obtain⟨dst,op,ty,pos,after,guard⟩:=o;simp only at hg;subst hg;split at h
  ·next b hb=>
   obtain⟨n,e,h2,h3⟩:=tM h bh;have h4:=OK.DE (h3 (_,_) af1);rw[CT,h4];refine⟨λe2=> ?_,λe2=> ?_⟩
   ·subst e2;simp only[BEq.rfl,cond_true]at e;exact Hy e h2 hK
   ·subst e2;have:((!want)==want)=false:=by cases want<;>rfl
    rw[this]at e;simp only[cond_false]at e;cases e
    exact hK
  ·next hb=>
   obtain⟨n,e,h2,h3⟩:=tM h bh;cases e
   have h4:=h3 (_,_) af1;have h5:qz ops g s.t= .d (.v undef):=by
    generalize qz ops g s.t=z at h4;cases h4;rfl
   rw[CT,h5];exact hK
  ·cases h
theorem vR:∀(ol:agK Oper)(j:Nat)(s:St)(l:agK (In×bm)),iK P ops dr ol j as s=some (s1,l)->fb P l->K s1->(bif dr then w6 P ops ol K s else jk P ops ol K s)
 |[],_,s,l,h,_,hK=>by cases h;cases dr<;>exact hK
 |o::rest,j,s,l,h,bh,hK=>by
  unfold iK at h;split at h
  ·next s2 m hg=>
   obtain⟨n,e,h2,h3⟩:=tM h bh;have ih:=vR rest (j+1) s2 n e h2 hK;cases dr with
   |true=>exact E6 (K:=w6 P ops rest K) hg h3 ih
   |false=>exact E6 (K:=jk P ops rest K) hg h3 ih
  ·cases h
theorem JR(s:St)(d:agM Nat)(x:J):∃pre,(s.put d x).t=pre++s.t:=by
 cases d with
 |none=>exact⟨[],rfl⟩
 |some k=>
  by_cases hk:k<s.n
  ·exact⟨[(k,x)],by rw[nQ hk];rfl⟩
  ·exact⟨[],by rw[zD hk];rfl⟩
theorem Nn(h:lV P ops dr o j as s=some (s1,l)):(∃pre,s1.t=pre++s.t)/\s1.n=s.n:=by
 have cI:∀{i a r l},qN i a r=some (s1,l)->∃m,r=some (s1,m):=fun{i a r l} h=>by
  unfold qN at h;split at h
  ·exact⟨_,h⟩
  ·split at h
   ·cases h;exact⟨_,rfl⟩
   ·cases h
 have cR:∀{m r l},nq m r=some (s1,l)->∃m,r=some (s1,m):=fun{m r l} h=>by
  unfold nq at h;split at h
  ·cases h;exact⟨_,rfl⟩
  ·cases h
 have st:∀l,kP P dr o j as s=some (s1,l)->(∃pre,s1.t=pre++s.t)/\s1.n=s.n:=λl h=>by
  unfold kP at h;cases hd:dr&&uS (gn as (3*j+1))&& !vE o (gn as (3*j+1))with
  |true=>rw[hd]at h;cases h
  |false=>
   rw[hd]at h;simp only[cond_false]at h;split at h
   ·split at h<;>(obtain⟨m,e⟩:=cI h;cases e;exact⟨JR _ _ _,by rw[nZ];rfl⟩)
   ·cases h
 unfold lV at h;split at h
 ·exact st _ h
 ·split at h
  ·obtain⟨m,e⟩:=cR h;revert e;generalize ((_:Bool)==_)=q;intro e;cases q with
   |true=>exact st _ e
   |false=>cases e;exact⟨JR _ _ _,by unfold zf;rw[nZ]⟩
  ·obtain⟨m,e⟩:=cR h;cases e;exact⟨JR _ _ _,by unfold zf;rw[nZ]⟩
  ·cases h
theorem Li:∀(ol:agK Oper)(j:Nat)(s:St)(l:agK (In×bm)),iK P ops dr ol j as s=some (s1,l)->(∃pre,s1.t=pre++s.t)/\s1.n=s.n
 |[],_,s,l,h=>by cases h;exact⟨⟨[],rfl⟩,rfl⟩
 |o::rest,j,s,l,h=>by
  unfold iK at h;split at h
  ·next s2 m hg=>
   unfold nq at h;split at h
   ·next s3 n e=>
    cases h
    obtain⟨⟨p1,e1⟩,n1⟩:=Nn hg;obtain⟨⟨p2,e2⟩,n2⟩:=Li rest (j+1) s2 n e;exact⟨⟨p2++p1,by rw[e2,e1,agc]⟩,n2.trans n1⟩
   ·cases h
  ·cases h
end
def RR:J->Bool
 | .dead=>true
 |_=>false
def tI(P:agN)(dr:Bool)(l:agK Oper)(as:agK (Nat×bm))(aG:agK Nat)(s:St):agM (agK (Nat×J)×agK aj×agK (In×bm)):=
 match iK P l.toArray dr l 0 as s with
 |some (s1,ps)=>bif (s1.t.take (s1.t.length-s.t.length)).all (λp=>aG.any (·==p.1)||RR (aQ s.t p.1))then some (aG.map λk=>(k,aQ s1.t k),s1.h,ps)else none
 |none=>none
theorem yU:∀(a b:agK (Nat×J))(i:Nat),(i∈a.map (·.1)/\aQ (a++b) i=aQ a i)\/(i ∉ a.map (·.1)/\aQ (a++b) i=aQ b i)
 |[],b,i=> .inr ⟨by simp,rfl⟩
 |(k,x)::a,b,i=>by
  by_cases e:i=k
  ·subst e;exact .inl ⟨by simp,by simp [kF]⟩
  ·rcases yU a b i with⟨h1,h2⟩|⟨h1,h2⟩
   ·exact .inl ⟨by simp at h1 ⊢;exact .inr h1,by rw[List.cons_append,kF,if_neg e,h2,kF,if_neg e]⟩
   ·exact .inr ⟨by simp at h1 ⊢;exact⟨e,h1⟩,by rw[List.cons_append,kF,if_neg e,h2]⟩
section
variable {P:agN} {dr:Bool} {as:agK (Nat×bm)} {s s1 s':St} {ps:agK (In×bm)} {aG:agK Nat} {ol:agK Oper} {Δ:agK (Nat×J)} {h':agK aj}
theorem Th(h:tI P dr ol as aG s=some (Δ,h',ps)):∃s1,iK P ol.toArray dr ol 0 as s=some (s1,ps)/\s1.n=s.n/\s1.h=h'/\∀i,aQ (Δ++s.t) i=aQ s1.t i\/aQ (Δ++s.t) i= .dead:=by
 unfold tI at h;split at h
 ·next s1 Ue hr=>
  obtain⟨hb,he⟩:=di h;cases he
  obtain⟨⟨pre,e1⟩,n1⟩:=Li _ _ _ _ hr;refine⟨s1,hr,n1,rfl,λi=> ?_⟩;have tD:∀(f:Nat->J),(aG.map λk=>(k,f k)).map (·.1)=aG:=λf=>by rw[List.map_map];exact List.map_id _
  rcases yU (aG.map λk=>(k,aQ s1.t k)) s.t i with⟨h1,h2⟩|⟨h1,h2⟩
  ·rw[tD]at h1;rw[h2,oG (λk=>aQ s1.t k),if_pos h1];exact .inl rfl
  ·rw[tD]at h1;rw[h2];rw[e1,afW,Nat.add_sub_cancel,List.take_left']at hb
   ·rw[e1];rcases yU pre s.t i with⟨h3,h4⟩|⟨h3,h4⟩
    ·right
     obtain⟨p,hp,rfl⟩:=List.mem_map.1 h3;have:=agm.1 hb p hp;rw[Bool.or_eq_true]at this;rcases this with this|this
     ·exfalso;obtain⟨k,hk,e⟩:=List.any_eq_true.1 this;rw[beq_iff_eq]at e;exact h1 (e▸hk)
     ·generalize aQ s.t p.1=z at this;cases z<;>first|rfl|cases this
    ·exact .inl h4.symm
   ·rfl
 ·cases h
theorem bU.less{G:Gh}{w:agP}{a:Act}(hs:bU G w a s1)(hn:s'.n=s1.n)(hh:s'.h=s1.h)(ht:∀i,aQ s'.t i=aQ s1.t i\/aQ s'.t i= .dead):bU G w a s':=
 ⟨hs.size.trans hn.symm,λi=>by
  rcases ht i with e|e
  ·rw[e];exact hs.tmp i
  ·rw[e];exact .dead _,by rw[hh];exact hs.inv,hs.df⟩
end
structure Ob(P:Program) where
 i:In
 o:bm
 ok:OK P i o
def bT{P:agN}{e:Bool}(h:e=true):Ob P:=⟨_,_, .bit (b:=true) h⟩
def bF{P:agN}{e:Bool}(h:e=false):Ob P:=⟨_,_, .bit (b:=false) h⟩
def uN{P:agN}:Ob P:=⟨_,_, .zO⟩
def cL{P:agN}{f:FuncId}{args:agK J}{r:J}(h:gj P f args (·=r)):Ob P:=⟨_,_, .call h⟩
def jC{P:agN}(l:agK (Nat×Ob P)):agK (Nat×bm):=l.map λb=>(b.1,b.2.o)
def jW{P:agN}(l:agK (Nat×Ob P)):agK (In×bm):=l.map λb=>(b.2.i,b.2.o)
theorem tc{P:agN}(l:agK (Nat×Ob P)):fb P (jW l):=λp hp=>by
 obtain⟨b,_,rfl⟩:=List.mem_map.1 hp;exact b.2.ok
section
variable {P:agN} {r:agM Nat} {N0 id:Nat} {ol:agK Oper} {y:Code} {s:St} {Q Q':Exit->St->Prop} {ar:agK (Nat×Ob P)} {Δ:agK (Nat×J)} {h':agK aj}
theorem RC{c:Code}{s':St}(hn:s'.n=s.n)(hh:s'.h=s.h)(ht:∀i,aQ s'.t i=aQ s.t i\/aQ s'.t i= .dead)(h:aX P r N0 c Q s'):aX P r N0 c Q s:=
 ⟨λG w a n hs hN=>h.run G w a n (hs.less hn hh ht) hN⟩
theorem PD(ar:agK (Nat×Ob P))(Δ:agK (Nat×J))(h':agK aj)(h:tI P false ol (jC ar) (Δ.map (·.1)) s=some (Δ,h',jW ar))(k:aX P r N0 y Q' ⟨s.n,Δ++s.t,h'⟩):aX P r N0 (.region id ol.toArray false) (fA (λs=>aX P r N0 y Q' s) Q) s:=by
 obtain⟨s1,h1,h2,h3,h4⟩:=Th h;refine er ?_;exact vR (dr:=false) ol 0 s _ h1 (tc ar) (RC (s:=s1) (s':=⟨s.n,Δ++s.t,h'⟩) h2.symm h3.symm h4 k)
def AI(P:agN)(dr:Bool)(l:agK Oper)(as:agK (Nat×bm))(s:St):agM (agK (Nat×J)×agK aj×agK (In×bm)):=
 match iK P l.toArray dr l 0 as s with
 |some (s1,ps)=>some (s1.t,s1.h,ps)
 |none=>none
theorem Qt{dr:Bool}{as:agK (Nat×bm)}{t:agK (Nat×J)}{ps:agK (In×bm)}(h:AI P dr ol as s=some (t,h',ps)):iK P ol.toArray dr ol 0 as s=some (⟨s.n,t,h'⟩,ps):=by
 unfold AI at h;split at h
 ·next s1 Ue hr=>
  cases h
  obtain⟨_,n1⟩:=Li _ _ _ _ hr;rw[hr,<-n1]
 ·cases h
theorem acq(ar:agK (Nat×Ob P))(Δ:agK (Nat×J))(h':agK aj)(h:AI P false ol (jC ar) s=some (Δ++s.t,h',jW ar))(k:Q .normal ⟨s.n,Δ++s.t,h'⟩):aX P r N0 (.region id ol.toArray false) Q s:=
 er (vR (dr:=false) ol 0 s _ (Qt h) (tc ar) k)
end
def J.fin(m:Nat)(x:J):J:=(x.aS m).nrm
def aj.ml:aj->aj
 | .cells cs=> .cells (cs.map J.nrm)
 | .lp ls p as bd cs=> .lp ls p as bd (cs.map J.nrm)
 | .it sn cs=> .it sn (cs.map J.nrm)
 | .vec e k cs=> .vec e k (cs.map (·.map J.nrm))
 |B=>B
def gr(s:St)(live:agK Nat)(m:Nat):agM St:=
 bif bB m s.h.length&&(live.all λk=>((aQ s.t k).aS m).aA m)&&(((s.h.take m).map (aj.aS m)).all (aj.aA m))then some ⟨s.n,live.map λk=>(k,(aQ s.t k).fin m),((s.h.take m).map (aj.aS m)).map aj.ml⟩else none
theorem I8{G:Gh}{w:agP}{h:agK aj}(hi:bg G w h):bg G w (h.map aj.ml):=by
 have dt:∀(n:Nat)(B:aj),(h.map aj.ml)[n]?=some B->∃B',h[n]?=some B'/\B=B'.ml:=λn B hB=>by
  rw[af2]at hB;cases hx:h[n]? with
  |none=>rw[hx]at hB;cases hB
  |some B'=>rw[hx]at hB;cases hB;exact⟨B',rfl,rfl⟩
 have db:∀n b,bj (h.map aj.ml) G n=some b->bj h G n=some b:=λn b hb=>by
  obtain⟨B,hB,hb⟩:=ly hb;obtain⟨B',h1,rfl⟩:=dt n B hB;rw[cJ h1,<-hb];cases B'<;>rfl
 refine⟨by rw[af0];exact hi.len,hi.z,hi.S,λn B hB=> ?_,λi j b h1 h2=>hi.inj i j b (db i b h1) (db j b h2),hi.gl⟩;obtain⟨B',h1,rfl⟩:=dt n B hB;have c8:=hi.b6 n B' h1;cases B' with
 |gone=>trivial
 |front e k len=>exact c8
 |map kv=>exact c8
 |eE kv=>exact c8
 |vec e k cs=>
  obtain⟨c1,c2,c3,c4⟩:=c8;refine⟨by rw[af0];exact c1,by rw[af0];exact c2,λc hc=> ?_,?_⟩
  ·obtain⟨x,hx,rfl⟩:=List.mem_map.1 hc;rw[af0];exact c3 x hx
  ·rcases c4 with⟨d1,d2,A,d3⟩|⟨g,cap,cur,d1,d2,d3,d4,d5,d6,d7,d8,d9⟩
   ·exact .inl ⟨d1,by rw[d2];rfl,A,d3⟩
   ·refine .inr ⟨g,cap,cur,d1,by rw[af0];exact d2,d3,d4,by rw[af0];exact d5,d6,d7,d8,λi j c x u hc hx hu=> ?_⟩;rw[af2]at hc;cases hy:cs[i]? with
    |none=>rw[hy]at hc;cases hc
    |some y=>
     rw[hy]at hc;cases hc
     rw[af2]at hx;cases hw:y[j]? with
     |none=>rw[hw]at hx;cases hx
     |some z=>rw[hw]at hx;cases hx;exact(d9 i j y z u hy hw hu).nrm
 |cells cs=>
  obtain⟨c1,c2,vs,T,c3,c4,c5⟩:=c8;refine⟨c1,c2,vs,T,c3,by rw[af0];exact c4,λi u c hu hc=> ?_⟩;rw[af2]at hc;cases hx:cs[i]? with
  |none=>rw[hx]at hc;cases hc
  |some x=>rw[hx]at hc;cases hc;exact(c5 i u x hu hx).nrm
 |lp ls p as bd cs=>
  obtain⟨c1,c2,fn,vs,T,c3,c4,c5⟩:=c8;refine⟨c1,c2,fn,vs,T,c3,by rw[af0];exact c4,λi u c hu hc=> ?_⟩;rw[af2]at hc;cases hx:cs[i]? with
  |none=>rw[hx]at hc;cases hc
  |some x=>rw[hx]at hc;cases hc;exact(c5 i u x hu hx).nrm
 |it sn cs=>
  obtain⟨c1,c2,fn,vs,T,c3,c4,c5⟩:=c8;refine⟨c1,c2,fn,vs,T,c3,by rw[af0];exact c4,λi u c hu hc=> ?_⟩;rw[af2]at hc;cases hx:cs[i]? with
  |none=>rw[hx]at hc;cases hc
  |some x=>rw[hx]at hc;cases hc;exact(c5 i u x hu hx).nrm
section
variable {P:agN} {r:agM Nat} {n N0:Nat} {G:Gh} {w:agP} {a:Act} {s s':St} {Q Q':Exit->St->Prop} {live:agK Nat} {m:Nat}
theorem aaW(h:gr s live m=some s'):s.wT live m/\s'.n=s.n/\s'.t=(live.map λk=>(k,(aQ s.t k).fin m))/\s'.h=((s.h.take m).map (aj.aS m)).map aj.ml:=by
 unfold gr at h;obtain⟨hb,rfl⟩:=di h;rw[afX,afX]at hb;exact⟨⟨cN.1 hb.1.1,hb.1.2,hb.2⟩,rfl,rfl,rfl⟩
theorem bU.gr(hs:bU G w a s)(h:gr s live m=some s'):bU (G.cut m) w a s':=by
 obtain⟨h1,h2,h3,h4⟩:=aaW h;have hm:=hs.mask h1;refine⟨hs.size.trans h2.symm,λi=> ?_,by rw[h4];exact I8 hm.inv,hs.df⟩;have:=hm.tmp i
 change ax _ _ _ (aQ (live.map λk=>(k,(aQ s.t k).aS m)) i)at this
 rw[oG (λk=>(aQ s.t k).aS m)]at this;rw[h3,oG (λk=>(aQ s.t k).fin m)];split at this
 ·rename_i hi;rw[if_pos hi];exact this.nrm
 ·rename_i hi;rw[if_neg hi];exact .dead _
theorem Pl{c:Code}{ι:Type}(live:agK Nat)(m:Nat)(st:ι->St)(I:ι->Prop)(μ:ι->Nat)(i0:ι)(hm:N0<=m)(h0:Go.Proofs.YtmkmibahjanejaaGreatDoor.gr s live m=some (st i0))(hI:I i0)
 (round:∀i,I i->aX P r N0 c (fA (λs'=>∃i',Go.Proofs.YtmkmibahjanejaaGreatDoor.gr s' live m=some (st i')/\I i'/\μ i'<μ i) Q) (st i)):aX P r N0 (.loop c) Q s:=by
 constructor
 intro G w a n hs _;refine Iq (λ(i:ι) a' w'=>∃G',I i/\a7 N0 G w G' w'/\N0<=G'.N/\bU G' w' a' (st i)) μ i0 ⟨G.cut m,hI,mO _ _ _ _,hm,hs.gr h0⟩ ?_;rintro i a' w' ⟨G',hi,hE,hN,bR⟩;refine wpIn_mono ((round i hi).run G' w' a' n bR hN) λe a1 w1 hn=> ?_;obtain⟨G1,s1,gg,eO,dK,hq⟩:=hn;cases e with
 |normal=>
  obtain⟨i',h1,h2,h3⟩:=hq;exact⟨i',⟨G1.cut m,h2,(hE.trans gg).trans (mO _ _ _ _),hm,dK.gr h1⟩,h3⟩
 |_=>exact⟨G1,s1,hE.trans gg,eO,dK,hq⟩
theorem jG{c:Code}(live:agK Nat)(m:Nat)(hm:N0<=m)(h0:Go.Proofs.YtmkmibahjanejaaGreatDoor.gr s live m=some s')(h:aX P r N0 c Q s'):aX P r N0 c Q s:=by
 constructor
 intro G w a n hs _;exact wpIn_mono (h.run (G.cut m) w a n (hs.gr h0) hm) λ_ _ _ hn=>hn.trans (mO N0 G w m)
theorem V4{c y:Code}{ι:Type}(live:agK Nat)(m:Nat)(st:ι->St)(I:ι->Prop)(hm:N0<=m)(hc:aX P r N0 c (fA (λs'=>∃i,Go.Proofs.YtmkmibahjanejaaGreatDoor.gr s' live m=some (st i)/\I i) Q) s)(hy:∀i,I i->aX P r N0 y Q' (st i)):aX P r N0 c (fA (λs=>aX P r N0 y Q' s) Q) s:=by
 refine hc.mono λe s' h=> ?_;cases e with
 |normal=>obtain⟨i,h1,h2⟩:=h;exact jG live m hm h1 (hy i h2)
 |_=>exact h
def qi(P:agN)(s:St):agK ResultVar->agM (agK J)
 |[]=>some []
 | .tmp t::l=>match qi P s l with
   |some xs=>some (aQ s.t t::xs)
   |none=>none
 | .cell p t::l=>match sT s.h (aQ s.t p)with
   |some (cs,off)=>match vK P t cs off,qi P s l with
    |some x,some xs=>some (x::xs)
    |_,_=>none
   |none=>none
def sB(P:agN)(rs:agK ResultVar)(s:St):agM J:=
 match qi P s rs with
 |some l=>bif ((iO l).aS 0).aA 0 then some ((iO l).fin 0)else none
 |none=>none
def iM(P:agN)(fn:Func)(R:J):Exit->St->Prop
 | .normal,s=>sB P fn.results.toList s=some R
 | .ret,s=>sB P fn.results.toList s=some R
 |_,_=>False
theorem Cw:∀(l:agK ResultVar)(xs:agK J)(C:agK J->Prop),qi P s l=some xs->C xs->kr P s l C
 |[],xs,C,h,hC=>by cases h;exact hC
 | .tmp t::l,xs,C,h,hC=>by
   unfold qi at h;split at h
   ·next ys e=>cases h;exact Cw l ys _ e hC
   ·cases h
 | .cell p t::l,xs,C,h,hC=>by
   unfold qi at h;split at h
   ·next cs off e=>
    split at h
    ·next x ys e1 e2=>cases h;exact I9 e e1 (Cw l ys _ e2 hC)
    ·cases h
   ·cases h
theorem Nj{fn:Func}{R:J}(h:sB P fn.results.toList s=some R):o8 P fn 0 (λr h'=>h'=[]/\r.nrm=R) s:=by
 unfold sB at h;split at h
 ·next l e=>
  obtain⟨hb,rfl⟩:=di h;exact Cw _ l _ e ⟨Nat.zero_le _,hb,by simp,by simp,rfl⟩
 ·cases h
theorem jJ{fn:Func}{R:J}(h:sB P fn.results.toList s=some R):iM P fn R .ret s:=h
theorem yR{f:FuncId}{fn:Func}{c:Code}{args:agK J}{R:J}(hf:P.funcs[f]?=some fn)(hb:fn.body=some c)(hn:(fn.name== "runtime.NumGoroutine")=false)
 (hw:aX P none 0 c (iM P fn R) {n:=args.length+(fn.ntmps-args.length),t:=jU 0 args,h:=[]}):gj P f args (·=R):=by
 have h:=zb (P:=P) (f:=f) (args:=args) (h:=[]) (K:=λr h'=>h'=[]/\r.nrm=R) 0 hf hb hn (af6 _) (hw.mono λe s hq=>by
  cases e with
  |normal=>exact Nj hq
  |ret=>exact Nj hq
  |_=>exact hq.elim)
 refine⟨h.1,λG w vs hi hl hr=>(h.2 G w vs hi hl hr).mono λe w' hp=> ?_⟩;obtain⟨v,G',x,h',rfl,hE,hN,cy,hv,rfl,rfl⟩:=hp;exact⟨v,G',x.nrm,[],rfl,hE,hN,cy,hv.nrm,rfl,rfl⟩
theorem afS{c:Code}(b i:Nat)(xs:agK (agK D))(hx:((s.h[b]?).bind λB=>match B with| .cells cs=>(cs[i]?).bind J.ep|_=>none)=some xs)(h:xs.length<=maxLen->aX P r N0 c Q s):aX P r N0 c Q s:=by
 constructor
 intro G w a n hs hN;cases hb:s.h[b]? with
 |none=>rw[hb]at hx;cases hx
 |some B=>
  rw[hb]at hx;cases B with
  |cells cs=>
   simp only[afU]at hx;obtain⟨_,_,vs,T,_,hl,hr⟩:=hs.inv.b6 b _ hb;cases hc:cs[i]? with
   |none=>rw[hc]at hx;cases hx
   |some x=>
    rw[hc]at hx;have az:i<vs.size:=by rw[hl];exact(afV.1 hc).1
    obtain⟨A,b',o,c',k',us,_,_,h1,h2,_⟩:=((hr i _ x (agi az) hc).list hx).mL;exact(h (agd h1 h2)).run G w a n hs hN
  |_=>cases hx
end
theorem aaJ{P:agN}{r:agM Nat}{N0 id:Nat}{ol:agK Oper}{y:Code}{s:St}{Q Q':Exit->St->Prop}(Δ:agK (Nat×J))(h':agK aj)(h:∃ar:agK (Nat×Ob P),tI P false ol (jC ar) (Δ.map (·.1)) s=some (Δ,h',jW ar))(k:aX P r N0 y Q' ⟨s.n,Δ++s.t,h'⟩):aX P r N0 (.region id ol.toArray false) (fA (λs=>aX P r N0 y Q' s) Q) s:=
 let ⟨ar,h⟩:=h;PD ar Δ h' h k
theorem kx{α:Type}{c:Bool}{a b:α}(h:c=true):cond c a b=a:=by rw[h];rfl
theorem mW{α:Type}{c:Bool}{a b:α}(h:c=false):cond c a b=b:=by rw[h];rfl
theorem gL{α β:Type}{x:agM α}{f:α->agM β}{b:β}(h:Option.bind x f=some b):∃a,x=some a/\f a=some b:=by
 cases x with
 |none=>cases h
 |some a=>exact⟨a,rfl,h⟩
theorem my(b:Bool):b=true\/b=false:=by cases b<;>simp
theorem b9{b:Bool}(h:b=true):(!b)=false:=by rw[h];rfl
theorem dm{b:Bool}(h:b=false):(!b)=true:=by rw[h];rfl
theorem G6{α:Type}{c:Bool}{x:agM α}{r:α}(h:(bif c then x else none)=some r):c=true:=by
 cases c with
 |true=>rfl
 |false=>cases h
section
variable {P:agN} {r:agM Nat} {N0 id n:Nat} {ol:agK Oper} {y:Code} {t:agK (Nat×J)} {h:agK aj} {Q Q':Exit->St->Prop}
theorem rg(ar:agK (Nat×Ob P))(Δ:agK (Nat×J))(h':agK aj)(e:tI P false ol (jC ar) (Δ.map (·.1)) ⟨n,t,h⟩=some (Δ,h',jW ar))(k:aX P r N0 y Q' ⟨n,Δ++t,h'⟩):aX P r N0 (.region id ol.toArray false) (fA (λs=>aX P r N0 y Q' s) Q) ⟨n,t,h⟩:=PD ar Δ h' e k
theorem re(ar:agK (Nat×Ob P))(Δ:agK (Nat×J))(h':agK aj)(e:AI P false ol (jC ar) ⟨n,t,h⟩=some (Δ++t,h',jW ar))(k:Q .normal ⟨n,Δ++t,h'⟩):aX P r N0 (.region id ol.toArray false) Q ⟨n,t,h⟩:=acq ar Δ h' e k
theorem VY(Δ:agK (Nat×J))(h':agK aj)(e:∃ar:agK (Nat×Ob P),tI P false ol (jC ar) (Δ.map (·.1)) ⟨n,t,h⟩=some (Δ,h',jW ar))(k:aX P r N0 y Q' ⟨n,Δ++t,h'⟩):aX P r N0 (.region id ol.toArray false) (fA (λs=>aX P r N0 y Q' s) Q) ⟨n,t,h⟩:=aaJ Δ h' e k
end
theorem Sm{P:agN}{ops:Array Oper}{as:agK (Nat×bm)}{s1:St}:∀(ol:agK Oper)(j:Nat)(s:St)(l:agK (In×bm))(K:St->Prop),iK P ops false ol j as s=some (s1,l)->fb P l->∀o,(fk ops o s1 (lu P o K s1) (K (s1.put o.dst (.d (.v undef)))))->jk P ops (ol++[o]) K s
 |[],_,s,l,K,h,_,o,hK=>by cases h;exact hK
 |q::rest,j,s,l,K,h,bh,o,hK=>by
  unfold iK at h;split at h
  ·next s2 m hg=>
   obtain⟨n,e,h2,h3⟩:=tM h bh;exact E6 (dr:=false) (K:=jk P ops (rest++[o]) K) hg h3 (Sm rest (j+1) s2 n K e h2 o hK)
  ·cases h
def bs(l:agK UInt8):agL:=⟨l.toArray⟩
def ra(x:D):Prop:=∃(S:Nat->Nat->Prop)(w:agP)(u:agO),cx S w u x
theorem BV{xs:agK (agK D)}(h:ra (.sl xs)):xs.length<=maxLen:=by
 obtain⟨S,w,u,h⟩:=h;obtain⟨A,b',o,c',k',us,_,_,h1,h2,_⟩:=h.mL;exact agd h1 h2
theorem Ij{xs:agK (agK D)}{i j:Nat}{c:agK D}{d:D}(h:ra (.sl xs))(hc:xs[i]?=some c)(hd:c[j]?=some d):ra d:=by
 obtain⟨S,w,u,h⟩:=h;obtain⟨A,b',o,c',k',us,_,_,h1,h2,h3,h4,h5⟩:=h.mL;exact⟨S,w,_,h5 i j c d hc hd⟩
section
variable {P:agN} {r:agM Nat} {n N0:Nat} {s:St} {Q:Exit->St->Prop}
theorem yr{c:Code}(k:Nat)(xs:agK (agK D))(hx:(aQ s.t k).ep=some xs)(h:ra (.sl xs)->aX P r N0 c Q s):aX P r N0 c Q s:=by
 constructor
 intro G w a n hs hN;exact(h ⟨_,_,_,(hs.tmp k).list hx⟩).run G w a n hs hN
theorem Uv{c:Code}(b i:Nat)(xs:agK (agK D))(hx:((s.h[b]?).bind λB=>match B with| .cells cs=>(cs[i]?).bind J.ep|_=>none)=some xs)(h:ra (.sl xs)->aX P r N0 c Q s):aX P r N0 c Q s:=by
 constructor
 intro G w a n hs hN;cases hb:s.h[b]? with
 |none=>rw[hb]at hx;cases hx
 |some B=>
  rw[hb]at hx;cases B with
  |cells cs=>
   simp only[afU]at hx;obtain⟨_,_,vs,T,_,hl,hr⟩:=hs.inv.b6 b _ hb;cases hc:cs[i]? with
   |none=>rw[hc]at hx;cases hx
   |some x=>
    rw[hc]at hx;have az:i<vs.size:=by rw[hl];exact(afV.1 hc).1
    exact(h ⟨_,_,_,(hr i _ x (agi az) hc).list hx⟩).run G w a n hs hN
  |_=>cases hx
end
end Go.Proofs.YtmkmibahjanejaaGreatDoor
