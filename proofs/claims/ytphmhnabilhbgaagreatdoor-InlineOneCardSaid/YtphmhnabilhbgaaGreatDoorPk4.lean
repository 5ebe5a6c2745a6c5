/-
  Part 4 of the proof: AbsVecD, AbsWk, OpenD.
-/
import Derived.Test.YtphmhnabilhbgaaGreatDoorPk3
import Derived.Laws.CopyOwn
import Derived.ProofKit
import Derived.DataOpen
import Derived.SizedLaws
namespace Go.Proofs.YtphmhnabilhbgaaGreatDoor
open Go.RowKit
set_option linter.unusedSimpArgs false
set_option linter.unusedVariables false
theorem abd{α:Type}(cur n z:List α)(a:Nat)(h:a+n.length+z.length≤cur.length):Go.splice (Go.splice cur a n) (a+n.length) z=cur.take a++(n++z)++cur.drop (a+(n++z).length):=by
 unfold Go.splice;have l1:(cur.take a).length=a:=by rw[List.length_take];omega
 have e1:(cur.take a++(n++cur.drop (a+n.length))).take (a+n.length)=cur.take a++n:=by
  rw[←agK,List.take_append_of_le_length (by rw[agu,l1];exact agE _),List.take_of_length_le (by rw[agu,l1];exact agE _)]
 have e2:(cur.take a++(n++cur.drop (a+n.length))).drop (a+n.length+z.length)=cur.drop (a+(n++z).length):=by
  rw[←agK,List.drop_append,List.drop_eq_nil_of_le (by rw[agu,l1];omega),List.nil_append,agu,l1,List.drop_drop,agu]
  congr 1;omega
 rw[e1,e2];simp [agK]
section
variable {P:Program}
theorem cf.abU{G:Gh}{w:World}{h:List ak}(hi:cf G w h):bZ G.N G w G w.drew∧cf G w.drew h:=by
 have hE:bZ G.N G w G w.drew:=⟨agE _,fun _ _ h=>h,fun _ _ _=>rfl,fun _ _=>rfl,fun _ _=> .inl ⟨rfl,rfl⟩,gq rfl,fun _ _=>rfl,rfl,rfl,rfl,fun _ _ h=> .inl h⟩;refine⟨hE,hi.len,hi.z,hi.S,fun n B hB=> ?_,hi.inj,hi.gl.ba hE⟩;exact eB.ba (hi.lt hB) hE (agE _) ⟨rfl,rfl,rfl⟩ (fun c hc=>⟨rfl,fun o h=>h⟩) (hi.dp n B hB)
theorem YH{f:FuncId}{E K:Nat}(CB:ym P f=true)(hK:0<K)
 (walk:∀(g n cap i j:Nat)(cur:List Value)(w:World),w.heap[g]?=some (.cells cur.toArray E (0,0))→cur.length=cap*K→i<j→j≤n→n≤cap→cap≤maxLen→(∀u∈cur.take (n*K),u.oneCell'=true)→
  Calls P f #[.slice (some ⟨g,0,none⟩) n cap, .int .i64 i, .int .i64 j] w fun e w'=>∃zs:List Value,zs.length=(j-i)*K∧e= .returned (.slice (some ⟨g,0,none⟩) (n-(j-i)) cap)∧w'=w.drew.setRow g (Go.splice (Go.splice cur (i*K) ((cur.take (n*K)).drop (j*K))) ((n-(j-i))*K) zs).toArray)
 {xs:List (List D)} {i L:Nat} (hi:i<L) (hL:xs.length=L) (fw:∀c∈xs,c.all D.mV=true):
 bW P f [.vec 0 0 L L K, .d (.v (.int .i64 (i:Int))), .d (.v (.int .i64 ((i+1:Nat):Int)))] [.vec E K (aK xs)] fun r1 h1=>r1= .vec 0 0 (L-1) L K∧h1=[.vec E K (aK (xs.take i++xs.drop (i+1))++[List.replicate K .dead])]:=by
 refine⟨CB,fun G w vs hinv g7 hr=> ?_⟩;have sb:([ak.vec E K (aK xs)]:List ak)[0]?=some (.vec E K (aK xs)):=rfl;have iR:(aK xs).length=L:=by rw[nb,hL]
 obtain⟨v0,v1,v2,rfl⟩:∃v0 v1 v2,vs= #[v0,v1,v2]:=by
  obtain⟨l⟩:=vs
  match l,g7 with
  |[a,b,c],_=>exact⟨a,b,c,rfl⟩
 have r0:=hr 0 v0 _ rfl rfl;have e1:=(hr 1 v1 _ rfl rfl).val;have e2:=(hr 2 v2 _ rfl rfl).val;subst e1;subst e2;obtain⟨wI,⟨A,cc,q1,q2,q3,q4,q5⟩,_⟩:=r0.qQ hinv sb iR;obtain⟨g,cap,s1,rfl,s3⟩:=q5 (by omega);obtain⟨g',xZ,cur,t1,t2,t3,t4,t5,t6,t7,t8,t9⟩:=Ax hinv sb (fun e=>by rw[e]at iR;simp at iR;omega);rw[t2,iR]at s1;cases s1
 have Xf:cc=cap:=by omega
 subst Xf;rw[iR]at t5;have gS:=xk hinv sb;have iH:∀d∈xs,d.length=K:=fun d hd=>by
  have:=gS (d.map .d) (by unfold aK;exact List.mem_map.2 ⟨d,hd,rfl⟩)
  rwa [agy]at this
 have O7:L*K≤cur.size:=by rw[t7];exact Nat.mul_le_mul_right K t5
 have fV:∀(a b:Nat),a<L→b<K→∃(d:D)(u:Value),(∃x,xs[a]?=some x∧x[b]?=some d)∧cur[a*K+b]?=some u∧aG G w u (.d d)∧u.oneCell'=true:=fun a b ha hb=>by
  have hx:xs[a]?=some xs[a]:=agx (by omega);have rN:xs[a].length=K:=iH _ (List.getElem_mem _);have hd:xs[a][b]?=some (xs[a][b]'(by omega)):=agx (by omega);have aO:a*K+b<cur.size:=agR (jG ha hb) O7;have hu:cur[a*K+b]?=some cur[a*K+b]:=agP aO;have hv:=t9 a b (xs[a].map .d) (.d (xs[a][b]'(by omega))) _ (Da hx) (by rw[agA,hd];rfl) hu;refine⟨_,_,⟨_,hx,hd⟩,hu,hv,hv.iS ?_⟩;have h1:=fw _ (List.getElem_mem (l:=xs) (n:=a) (by omega));rw[agT]at h1;have h2:=h1 _ (agG hd);generalize (xs[a][b]'(by omega))=d at h2;cases d with
  |v u=>exact h2
  |sl l=>rfl
 have W6:∀q,q<L*K→q / K<L∧q%K<K∧q / K*K+q%K=q:=fun q hq=>⟨(Nat.div_lt_iff_lt_mul hK).2 hq,Nat.mod_lt _ hK,by rw[Nat.mul_comm];exact Nat.div_add_mod q K⟩;rw[q1];have hzm:(⟨g,0*K,none⟩:Addr)=⟨g,0,none⟩:=by rw[Nat.zero_mul]
 rw[hzm];refine(walk g L cc i (i+1) cur.toList w (by simpa using t4) (by simpa using t7) (ahf i) hi t5 t6 (fun u hu=> ?_)).mono fun e w' hp=> ?_
 ·obtain⟨q,hq⟩:=List.mem_iff_getElem?.1 hu;rw[List.getElem?_take]at hq;split at hq
  ·next aO=>
   obtain⟨h1,h2,h3⟩:=W6 q aO;obtain⟨d,u',_,zZ,_,ho⟩:=fV _ _ h1 h2;rw[h3,←agQ,hq]at zZ;cases zZ
   exact ho
  ·cases hq
 ·obtain⟨zs,hz,rfl,rfl⟩:=hp;have n9:i+1-i=1:=by omega
  rw[n9]at hz ⊢;rw[Nat.one_mul]at hz;obtain⟨news,mA⟩:∃x,x=(cur.toList.take (L*K)).drop ((i+1)*K):=⟨_,rfl⟩;have hLm:(L-1-i)*K+(i+1)*K=L*K:=by rw[←Nat.add_mul];congr 1;omega
  have sQ:news.length=(L-1-i)*K:=by rw[mA,List.length_drop,List.length_take,ag0];omega
  have J2:(L-1)*K=i*K+news.length:=by rw[sQ,←Nat.add_mul];congr 1;omega
  have iU:(i+1)*K=i*K+K:=by rw[Nat.add_mul,Nat.one_mul]
  have aem:i*K+news.length+zs.length=L*K:=by rw[sQ,hz];omega
  rw[←mA,J2,abd cur.toList news zs (i*K) (agL (Nat.le_of_eq aem) (by rw[ag0];exact O7))];obtain⟨dE,dI⟩:=hinv.abU;have kM:(news++zs).length=(L-i)*K:=by
    rw[agu,sQ,hz];have:(L-i)*K=(L-1-i)*K+K:=by rw[show L-i=(L-1-i)+1 by omega,Nat.add_mul,Nat.one_mul]
    omega
  obtain⟨G',f1,f2,f3,f4,f5⟩:=Mq (us:=news++zs) (off:=i*K) (cp:=aK (xs.take i++xs.drop (i+1))++[List.replicate K .dead]) (w:=w.drew) dI sb hK t1 t2 t3 (by exact t4) (by rw[iR];exact t5) t6 t7 t8
   (by rw[agu];omega)
   (by rw[agu,nb,agu,List.length_take,List.length_drop,iR,List.length_singleton,hL];omega)
   (fun c hc=>by
    rcases ag5.1 hc with hc|hc
    ·obtain⟨x,hx,rfl⟩:=List.mem_map.1 (show c∈List.map _ _ from hc);rw[agy];rcases ag5.1 hx with hx|hx
     ·exact iH x (List.mem_of_mem_take hx)
     ·exact iH x (List.mem_of_mem_drop hx)
    ·rw[List.mem_singleton]at hc;rw[hc,ag3])
   (fun a b c x u hc hx hu=>by
    have hlen:(aK (xs.take i++xs.drop (i+1))).length=L-1:=by rw[nb,agu,List.length_take,List.length_drop,hL];omega
    by_cases ha:a<L-1
    ·rw[agD (by omega)]at hc;unfold aK at hc;rw[agA]at hc;cases hy:(xs.take i++xs.drop (i+1))[a]? with
     |none=>rw[hy]at hc;cases hc
     |some y=>
      rw[hy]at hc;cases hc
      rw[agA]at hx;cases hd:y[b]? with
      |none=>rw[hd]at hx;cases hx
      |some d=>
       rw[hd]at hx;cases hx
       have hym:y∈xs:=by
        rcases ag5.1 (agG hy)with h|h
        ·exact List.mem_of_mem_take h
        ·exact List.mem_of_mem_drop h
       have MP:b<K:=by rw[←iH y hym];exact(agt.1 hd).1
       have key:∀a',a'<L→xs[a']?=some y→cur[a'*K+b]?=some u→aG G w.drew u (.d d):=fun a' We lM zZ=>by
        obtain⟨d',u',⟨x',k1,k2⟩,k3,k4,_⟩:=fV a' b We MP;rw[lM]at k1;cases k1
        rw[hd]at k2;cases k2
        rw[zZ]at k3;cases k3
        exact k4.ba dE (agE _)
       by_cases Ra:a<i
       ·have aO:=jG Ra MP;rw[if_neg (by omega)]at hu;rw[agD (by rw[List.length_take];omega),List.getElem?_take_of_lt Ra]at hy;exact key a (by omega) hy hu
       ·have jr:i*K≤a*K:=Nat.mul_le_mul_right K (by omega);have hup:a*K+b<(L-1)*K:=jG ha MP;have hL1:(L-1)*K+K=L*K:=by
         rw[←Nat.succ_mul];congr 1;omega
        have hza:i*K≤a*K+b∧a*K+b<i*K+(news++zs).length:=⟨by omega,by rw[agu];omega⟩;have Xj:a*K+b-i*K<news.length:=by omega
        have hlb:(i+1)*K+(a*K+b-i*K)<L*K:=by omega
        rw[if_pos hza,agD Xj,mA,List.getElem?_drop,List.getElem?_take_of_lt hlb,agQ]at hu;have e3:(i+1)*K+(a*K+b-i*K)=(a+1)*K+b:=by rw[Nat.add_mul a 1 K,Nat.one_mul];omega
        rw[e3]at hu;have aO:(xs.take i).length=i:=by rw[List.length_take];omega
        rw[agJ (by omega),aO,List.getElem?_drop,show i+1+(a-i)=a+1 by omega]at hy;exact key (a+1) (by omega) hy hu
    ·have YT:a=L-1:=by
      have:=(agt.1 hc).1;rw[agu,hlen,List.length_singleton]at this;omega
     rw[agJ (by omega),hlen,YT,Nat.sub_self]at hc;simp only[List.getElem?_cons_zero,Option.some.injEq]at hc;subst hc;have:=List.eq_of_mem_replicate (agG hx);subst this;exact .dead u)
  refine⟨_,G',_,_,rfl,dE.trans f1,by rw[f2];exact agE _,f3,?_,rfl,rfl⟩;have fM:G'.fl 0=L:=by rw[f5,(hinv.dp 0 _ sb).1,iR]
  refine .vec 0 0 (L-1) L K (by rw[f2];have:=hinv.len;simp at this;omega) ⟨_,_,_,rfl⟩ (by rw[fM];exact agE _) fun _=>⟨by omega,⟨_,_,rfl,by omega,t6,by omega,fun _=>⟨g,cc,by rw[f4,t2,iR],by rw[Nat.zero_mul],by omega⟩⟩,fun _ h=>by omega⟩
end
mutual
def AV.eg(b kk L0:Nat)(ys:List (List D)):AV→AV
 | .vec n o len L k=>bif n==b then(bif o==0&&len==ys.length&&L==L0&&k==kk then .d (.sl ys)else .dead)else .vec n o len L k
 | .di n i j L k=>bif n==b then .dead else .di n i j L k
 | .agg cs=> .agg (AV.nd b kk L0 ys cs)
 | .bX cs=> .bX (AV.nd b kk L0 ys cs)
 | .fn f cs=> .fn f (AV.nd b kk L0 ys cs)
 |x=>x
def AV.nd(b kk L0:Nat)(ys:List (List D)):List AV→List AV
 |[]=>[]
 |x::l=>x.eg b kk L0 ys::AV.nd b kk L0 ys l
end
theorem zp(b kk L0:Nat)(ys:List (List D)):∀l,AV.nd b kk L0 ys l=l.map (AV.eg b kk L0 ys)
 |[]=>by simp [AV.nd]
 |x::l=>by simp [AV.nd,zp b kk L0 ys l]
theorem aG.eg{G G':Gh}{w:World}{b kk L0:Nat}{ys:List (List D)}(hE:bZ G.N G w G' w)(hN:G'.N=G.N)(hp:∀(u:Value),aG G w u (.vec b 0 ys.length L0 kk)→dC G'.S w u (.sl ys)){u:Value}{x:AV}(h:aG G w u x):aG G' w u (x.eg b kk L0 ys):=by
 have ba:∀{u:Value}{x:AV},aG G w u x→aG G' w u x:=fun h=>h.ba hE (Nat.le_of_eq hN.symm);have fI:∀(vs:Array Value)(cs:List AV),(∀(i:Nat)(u:Value)(c:AV),vs[i]?=some u→cs[i]?=some c→aG G' w u (c.eg b kk L0 ys))→∀(i:Nat)(u:Value)(c:AV),vs[i]?=some u→(AV.nd b kk L0 ys cs)[i]?=some c→aG G' w u c:=by
  intro vs cs ih i u c hu hc;rw[zp,agA]at hc;cases hx:cs[i]? with
  |none=>rw[hx]at hc;cases hc
  |some x=>rw[hx]at hc;cases hc;exact ih i u x hu hx
 induction h with
 |agg vs cs hl _ ih=>rw[AV.eg];exact .agg vs _ (by rw[zp,agy];exact hl) (fI vs cs ih)
 |bX vs cs hl _ ih=>rw[AV.eg];exact .bX vs _ (by rw[zp,agy];exact hl) (fI vs cs ih)
 |fn f vs cs hl _ ih=>rw[AV.eg];exact .fn f vs _ (by rw[zp,agy];exact hl) (fI vs cs ih)
 |vec n o len L k h hs hL hf=>
  rw[AV.eg,cond_eq_ite];split
  ·next e=>
   have e:n=b:=by simpa using e
   subst e;rw[cond_eq_ite];split
   ·next e2=>
    simp only[agv,beq_iff_eq]at e2;obtain⟨⟨⟨rfl,rfl⟩,rfl⟩,rfl⟩:=e2;exact .d (hp _ (.vec n 0 _ _ _ h hs hL hf))
   ·exact .dead _
  ·exact ba (.vec n o len L k h hs hL hf)
 |di n i j L k h hs hL hf=>
  rw[AV.eg,cond_eq_ite];split
  ·exact .dead _
  ·exact ba (.di n i j L k h hs hL hf)
 |ptr n off h=>simp only[AV.eg];exact ba (.ptr n off h)
 |own n xs h hp hle hf=>simp only[AV.eg];exact ba (.own n xs h hp hle hf)
 |d h=>simp only[AV.eg];exact ba (.d h)
 |bn xs i off b o u x hx hS hu=>simp only[AV.eg];exact ba (.bn xs i off b o u x hx hS hu)
 |full xs hp hf=>simp only[AV.eg];exact ba (.full xs hp hf)
 |row n off len cap k h hl hm=>simp only[AV.eg];exact ba (.row n off len cap k h hl hm)
 |mp n h=>simp only[AV.eg];exact ba (.mp n h)
 |dj n h=>simp only[AV.eg];exact ba (.dj n h)
 |hid h h1=>simp only[AV.eg];exact ba (.hid h h1)
 |dead u=>simp only[AV.eg];exact .dead u
theorem c7.Zv{G:Gh}{w:World}{a:Act}{s:St}(hs:c7 G w a s)(xs:List (List D)){b e k L:Nat}{cs:List (List AV)}(hb:s.h[b]?=some (.vec e k cs))(iR:cs.length=L)(hy:cs.take xs.length=aK xs)(fw:∀c∈xs,c.all D.mV=true)
 :∃G',bZ G.N G w G' w∧G'.N=G.N∧c7 G' w a ⟨s.n,s.t.map fun p=>(p.1,p.2.eg b k L xs),(s.h.map (ak.ij (AV.eg b k L xs))).set b .gone⟩:=by
 have gS:=xk hs.inv hb;have hlen:xs.length≤L:=by
  have:=congrArg List.length hy;rw[nb,List.length_take]at this;omega
 have fK:∀(i:Nat)(x:List D),xs[i]?=some x→cs[i]?=some (x.map .d):=fun i x hx=>by
  have h1:=Da hx;rw[←hy,List.getElem?_take_of_lt (agt.1 hx).1]at h1;exact h1
 have iH:∀d∈xs,d.length=k:=fun d hd=>by
  obtain⟨i,hi⟩:=List.mem_iff_getElem?.1 hd;have:=gS (d.map .d) (agG (fK i d hi))
  rwa [agy]at this
 obtain⟨S,hS⟩:∃S:Nat→Nat→Prop,S=fun c o=>G.S c o∨(cl s.h G b=some c∧o<xs.length*k):=⟨_,rfl⟩;have hE:bZ G.N G w {G with S:=S} w:=⟨agE _,fun b o h=>by show S b o;rw[hS];exact .inl h,fun _ _ _=>rfl,fun _ _=>rfl,fun _ _=> .inl ⟨rfl,rfl⟩,gq rfl,fun _ _=>rfl,rfl,rfl,rfl,fun c o hq=>by
  have cM:S c o:=hq;rw[hS]at cM;rcases cM with h|⟨h,_⟩
  ·exact .inl h
  ·obtain⟨B,hB,fU⟩:=kI h;exact .inr ((hs.inv.dp b B hB).lv fU)⟩
 have Ds:∀(u:Value),aG G w u (.vec b 0 xs.length L k)→dC S w u (.sl xs):=fun u tD=>by
  have jR:=tD.qQ hs.inv hb iR;obtain⟨wI,⟨A,cc,q1,q2,q3,q4,q5⟩,_⟩:=jR;rw[q1];by_cases h0:xs.length=0
  ·have:xs=[]:=List.eq_nil_of_length_eq_zero h0;subst this;exact .sl A 0 0 cc 0 [] (fun _ _=>undef) (fun h=>absurd rfl h) (Nat.zero_le _) q3 (fun _ h=>absurd h ag9) (fun i j hi=>absurd hi (agV _)) (fun i j x d hx=>by simp at hx)
  ·obtain⟨g,cap,s1,rfl,s3⟩:=q5 (by omega);obtain⟨g',xZ,cur,r1,r2,r3,r4,r5,r6,r7,r8,r9⟩:=Ax hs.inv hb (fun e=>by rw[e]at iR;simp at iR;omega);rw[r2]at s1;cases s1
   have lG:cl s.h G b=some g:=(dU hb).trans r1;have fV:∀i j,i<xs.length→j<k→i*k+j<cur.size:=fun i j hi hj=>by
    have:=jG (i:=i) (k:=k) (L:=cs.length) (j:=j) (by omega) hj;have h2:cs.length*k≤cap*k:=Nat.mul_le_mul_right k (by omega);rw[r7];omega
   have nV:∀(i j:Nat)(x:List D)(d:D),xs[i]?=some x→x[j]?=some d→aG G w (cur.getD (i*k+j) undef) (.d d):=fun i j x d hx hd=>by
    have hj:j<k:=by rw[←iH x (agG hx)];exact(agt.1 hd).1
    refine r9 i j (x.map .d) (.d d) _ (fK i x hx) (by rw[agA,hd];rfl) ?_;have hc:=fV i j (agt.1 hx).1 hj;simp [Array.getD,hc]
   have e0:∀i j,0*k+i*k+j=i*k+j:=fun i j=>by rw[Nat.zero_mul,agN]
   refine .sl _ g (0*k) cc k xs (fun i j=>cur.getD (i*k+j) undef) (fun _=>rfl) (by omega) q3 iH (fun i j hi hj=>⟨?_,?_,?_⟩) (fun i j x d hx hd=> ?_)
   ·rw[hS,e0];exact .inr ⟨lG,jG hi hj⟩
   ·rw[e0,cell_of_row w g _ cur e (0,0) r4];have hc:=fV i j hi hj;simp [Array.getD,hc]
   ·obtain⟨x,hx⟩:∃x,xs[i]?=some x:=⟨_,agx hi⟩;have iC:=agG hx;obtain⟨d,hd⟩:∃d,x[j]?=some d:=⟨_,agx (by rw[iH x iC];exact hj)⟩;refine(nV i j x d hx hd).iS ?_;have h1:=fw x iC;rw[agT]at h1;have h2:=h1 d (agG hd);cases d with
    |v u=>exact h2
    |sl l=>rfl
   ·have:=nV i j x d hx hd;generalize cur.getD (i*k+j) undef=q at this;cases this with|d h=>exact h.ba hE.S hE.cell
 have hinv:=Ux (b:=b) (f:=AV.eg b k L xs) hs.inv hE (fun c o hq=>by rw[hS]at hq;exact hq.imp id And.left) (fun hq=>hq.eg hE rfl Ds);refine⟨_,hE,rfl,hs.size,fun i=> ?_,hinv,hs.df⟩;show aG _ _ _ (bz (s.t.map fun p=>(p.1,p.2.eg b k L xs)) i);rw[wA (AV.eg b k L xs) (by simp [AV.eg])];exact(hs.tmp i).eg hE rfl Ds
mutual
theorem S6{b kk L:Nat}{xs:List (List D)}:∀x:AV,(∀q∈x.kH b,q=(0,xs.length,L,kk))→x.eg b kk L xs=x.mlt b xs
 | .vec n o len L k,h=>by
   unfold AV.eg AV.mlt;unfold AV.kH at h;cases e:n==b with
   |false=>rfl
   |true=>
    rw[e]at h;have:=h _ agz;cases this
    simp
 | .agg cs,h=>by unfold AV.eg AV.mlt;rw[AT cs (by unfold AV.kH at h;exact h)]
 | .bX cs,h=>by unfold AV.eg AV.mlt;rw[AT cs (by unfold AV.kH at h;exact h)]
 | .fn f cs,h=>by unfold AV.eg AV.mlt;rw[AT cs (by unfold AV.kH at h;exact h)]
 | .di n i j L k,h=>by unfold AV.eg AV.mlt;rfl
 | .d _,_=>by simp [AV.eg,AV.mlt]
 | .ptr ..,_=>by simp [AV.eg,AV.mlt]
 | .bn ..,_=>by simp [AV.eg,AV.mlt]
 | .own ..,_=>by simp [AV.eg,AV.mlt]
 | .full _,_=>by simp [AV.eg,AV.mlt]
 | .row ..,_=>by simp [AV.eg,AV.mlt]
 | .mp _,_=>by simp [AV.eg,AV.mlt]
 | .dj _,_=>by simp [AV.eg,AV.mlt]
 | .hid _,_=>by simp [AV.eg,AV.mlt]
 | .dead,_=>by simp [AV.eg,AV.mlt]
theorem AT{b kk L:Nat}{xs:List (List D)}:∀l:List AV,(∀q∈AV.lZ b l,q=(0,xs.length,L,kk))→AV.nd b kk L xs l=AV.jT b xs l
 |[],_=>by simp [AV.nd,AV.jT]
 |x::l,h=>by
  unfold AV.lZ at h;unfold AV.nd AV.jT;rw[S6 x fun q hq=>h q (List.mem_append_left _ hq),AT l fun q hq=>h q (List.mem_append_right _ hq)]
end
inductive kN(b ln L kk:Nat)(xs:List (List D)):List ak→List ak→Prop
 |nil:kN b ln L kk xs [] []
 |cells {cs cp:List AV} {l l':List ak} (c:Nat) (h:AV.lZ b cs=List.replicate c (0,ln,L,kk)) (e:AV.jT b xs cs=cp) (t:kN b ln L kk xs l l'):kN b ln L kk xs (.cells cs::l) (.cells cp::l')
 |iE {e k:Nat} {ys:List (List D)} {l l':List ak} (t:kN b ln L kk xs l l'):kN b ln L kk xs (.vec e k (aK ys)::l) (.vec e k (aK ys)::l')
 |front {e k n:Nat} {l l':List ak} (t:kN b ln L kk xs l l'):kN b ln L kk xs (.front e k n::l) (.front e k n::l')
 |map {kv:List (ByteArray×D)} {l l':List ak} (t:kN b ln L kk xs l l'):kN b ln L kk xs (.map kv::l) (.map kv::l')
 |gone {l l':List ak} (t:kN b ln L kk xs l l'):kN b ln L kk xs (.gone::l) (.gone::l')
 |drop {B:ak} {l l':List ak} (t:kN b ln L kk xs l l'):kN b ln L kk xs (B::l) (.gone::l')
def zg(l l':List ak):Prop:=l'.length=l.length∧∀(n:Nat)(B':ak),l'[n]?=some B'→B'= .gone∨l[n]?=some B'
theorem zg.cons{B B':ak}{l l':List ak}(h:B'= .gone∨B'=B)(t:zg l l'):zg (B::l) (B'::l'):=by
 refine⟨by rw[agw,agw,t.1],fun n C hC=> ?_⟩
 match n with
 |0=>
  simp only[List.getElem?_cons_zero,Option.some.injEq]at hC ⊢;subst hC;exact h.imp id Eq.symm
 |n+1=>simpa using t.2 n C (by simpa using hC)
theorem ZD{G:Gh}{w:World}{h h':List ak}(hi:cf G w h)(hg:zg h h'):cf G w h':=by
 obtain⟨hl,hg⟩:=hg;have eh:∀n x,cl h' G n=some x→cl h G n=some x:=fun n x hx=>by
  obtain⟨B,hB,h1⟩:=kI hx;rcases hg n B hB with rfl|h2
  ·cases h1
  ·rw[dU h2];exact h1
 refine⟨by rw[hl];exact hi.len,hi.z,hi.S,fun n B hB=> ?_,fun m n x h1 h2=>hi.inj m n x (eh m x h1) (eh n x h2),hi.gl⟩;rcases hg n B hB with rfl|h2
 ·trivial
 ·exact hi.dp n B h2
theorem O2{c ln L kk:Nat}{xs:List (List D)}(hL:xs.length=ln){l:List (Nat×Nat×Nat×Nat)}(h:l=List.replicate c (0,ln,L,kk)):∀q∈l,q=(0,xs.length,L,kk):=fun q hq=>by
 rw[h,List.mem_replicate]at hq;rw[hq.2,hL]
theorem kN.gns{b ln L kk:Nat}{xs:List (List D)}(hL:xs.length=ln){l l':List ak}(h:kN b ln L kk xs l l'):zg (l.map (ak.ij (AV.eg b kk L xs))) l':=by
 have hd:∀d,AV.eg b kk L xs (.d d)= .d d:=fun d=>by simp [AV.eg]
 induction h with
 |nil=>exact⟨rfl,fun n B' h=>by simp at h⟩
 |cells c h e t ih=>
  rw[agS,←e];simp only[ak.ij];rw[←zp,AT _ (O2 hL h)];exact .cons (.inr rfl) ih
 |iE t ih=>rw[agS];simp only[ak.ij];rw[ue hd];exact .cons (.inr rfl) ih
 |front t ih=>exact .cons (.inr rfl) ih
 |map t ih=>exact .cons (.inr rfl) ih
 |gone t ih=>exact .cons (.inr rfl) ih
 |drop t ih=>exact .cons (.inl rfl) ih
theorem aeM{P:Program}{r:Option Nat}{N0:Nat}{c:Code}{s:St}{Q:Exit→St→Prop}(live:List Nat)(b:Nat)(xs ys:List (List D)){e k L ln:Nat}{cs:List (List AV)}(h':List ak)(c1:Nat)(hb:s.h[b]?=some (.vec e k cs))(iR:cs.length=L)(hq:cs.take xs.length=aK xs)(fw:∀c∈xs,c.all D.mV=true)(hL:xs.length=ln)(hy:ys=xs)(hg:h'[b]?=some .gone)
 (ho:(live.flatMap fun i=>(bz s.t i).kH b)=List.replicate c1 (0,ln,L,k)) (hh:kN b ln L k ys s.h h') (K:bH P r N0 c Q ⟨s.n,live.map (fun i=>(i,(bz s.t i).mlt b ys)),h'⟩):bH P r N0 c Q s:=by
 subst hy;constructor
 intro G w a n hs hN;obtain⟨G',hE,e1,cM⟩:=hs.Zv ys hb iR hq fw;have TF:=hh.gns hL;have vR:zg ((s.h.map (ak.ij (AV.eg b k L ys))).set b .gone) h':=by
  refine⟨by rw[List.length_set];exact TF.1,fun n B' hB=> ?_⟩;by_cases e:b=n
  ·subst e;rw[hg]at hB;cases hB;exact .inl rfl
  ·rw[ag1 e];exact TF.2 n B' hB
 refine wpIn_mono (K.run G' w a n ⟨cM.size,fun i=> ?_,ZD cM.inv vR,cM.df⟩ (by rw[e1];exact hN)) fun _ _ _ hn=>hn.trans (hE.less hN);show aG _ _ _ (bz (live.map (fun i=>(i,(bz s.t i).mlt b ys))) i);have h2:=cM.tmp i
 change aG _ _ _ (bz (s.t.map fun p=>(p.1,p.2.eg b k L ys)) i)at h2
 rw[wA (AV.eg b k L ys) (by simp [AV.eg])]at h2;rw[nA (fun k=>(bz s.t k).mlt b ys)];split
 ·next hi=>
  rw[←S6 _ fun q hq=>O2 hL ho q (List.mem_flatMap.2 ⟨i,hi,hq⟩)];exact h2
 ·exact .dead _
theorem abG{α:Type}(f:α→List D)(E:List α)(i:Nat):(E.map f).take i++(E.map f).drop (i+1)=(E.take i++E.drop (i+1)).map f:=by rw[List.map_append,List.map_take,List.map_drop]
theorem VO{α:Type}{f:α→List D}{E:List α}{L k:Nat}(h:E.length+1=L):(aK (E.map f)++[List.replicate k AV.dead]).length=L:=by rw[agu,nb,agy];exact h
theorem abp{α:Type}{f:α→List D}{E:List α}{k:Nat}:(aK (E.map f)++[List.replicate k AV.dead]).take (E.map f).length=aK (E.map f):=by
 rw[List.take_append_of_le_length (by rw[nb];exact agE _),←nb,List.take_length]
def GH{α:Type}(x:AV)(k:AV→α):α:=
 match x with
 | .d y=>k (.d y)
 | .agg cs=>k (.agg cs)
 | .bX cs=>k (.bX cs)
 | .ptr n o=>fN n fun n=>fN o fun o=>k (.ptr n o)
 | .own n xs=>fN n fun n=>k (.own n xs)
 | .fn f cs=>k (.fn f cs)
 | .mp n=>fN n fun n=>k (.mp n)
 |x=>k x
theorem NM{α:Type}(x:AV)(k:AV→α):GH x k=k x:=by cases x<;>simp [GH,ox]
def fT{α:Type}:List (Nat×AV)→(List (Nat×AV)→α)→α
 |[],k=>k []
 |(d,x)::l,k=>fN d fun d=>GH x fun x=>fT l fun l=>k ((d,x)::l)
theorem QD{α:Type}:∀(l:List (Nat×AV))(k:List (Nat×AV)→α),fT l k=k l
 |[],k=>rfl
 |(d,x)::l,k=>by rw[fT,ox,NM,QD l]
def fC{α:Type}:List AV→(List AV→α)→α
 |[],k=>k []
 |x::l,k=>GH x fun x=>fC l fun l=>k (x::l)
theorem U7{α:Type}:∀(l:List AV)(k:List AV→α),fC l k=k l
 |[],k=>rfl
 |x::l,k=>by rw[fC,NM,U7 l]
def fH{α:Type}:List ak→(List ak→α)→α
 |[],k=>k []
 | .cells cs::l,k=>fC cs fun cs=>fH l fun l=>k (.cells cs::l)
 | .front e z n::l,k=>fH l fun l=>k (.front e z n::l)
 | .map kv::l,k=>fH l fun l=>k (.map kv::l)
 | .gone::l,k=>fH l fun l=>k (.gone::l)
 |B::l,k=>fH l fun l=>k (B::l)
theorem tn{α:Type}:∀(l:List ak)(k:List ak→α),fH l k=k l
 |[],k=>rfl
 | .cells cs::l,k=>by rw[fH,U7,tn l]
 | .front e z n::l,k=>by rw[fH,tn l]
 | .map kv::l,k=>by rw[fH,tn l]
 | .gone::l,k=>by rw[fH,tn l]
 | .vec .. ::l,k=>by rw[fH,tn l]<;>simp
 | .lp .. ::l,k=>by rw[fH,tn l]<;>simp
 | .it .. ::l,k=>by rw[fH,tn l]<;>simp
def Lj{α:Type}(s:St)(k:St→α):α:=fN s.n fun n=>fT s.t fun t=>fH s.h fun h=>k ⟨n,t,h⟩
theorem Z8{α:Type}(s:St)(k:St→α):Lj s k=k s:=by unfold Lj;rw[ox,QD,tn]
inductive Fr
 |S (y:Code)
 |B (id:Nat)
 |F (k:Nat) (f:St→Prop)
def gw(P:Program)(r:Option Nat)(N0:Nat)(Q:Exit→St→Prop):List Fr→Exit→St→Prop
 |[]=>Q
 | .S y::K=>gN (fun s=>bH P r N0 y (gw P r N0 Q K) s) (gw P r N0 Q K)
 | .B id::K=>n8 id (gw P r N0 Q K)
 | .F _ f::K=>gN f (gw P r N0 Q K)
inductive Md
 |c (c:Code)
 |n
 |x (id:Nat)
inductive WR
 |at (c:Code) (K:List Fr) (s:St)
 |ret (s:St)
 |nrm (s:St)
 |fin (k:Nat) (s:St)
abbrev WO:=Option (WR×List (In×ct))
def EY(l:List (In×ct)):WO→WO
 |some (w,m)=>some (w,l++m)
 |none=>none
def walk(P:Program):Nat→Md→List Fr→List (List (Nat×ct))→St→WO
 |0,_,_,_,_=>none
 |F+1,m,K,A,s=>match m with
  | .n=>match K with
    |[]=>some (.nrm s,[])
    | .S y::K=>walk P F (.c y) K A s
    | .B _::K=>walk P F .n K A s
    | .F k _::_=>some (.fin k s,[])
  | .x id=>match K with
    |[]=>none
    | .S _::K=>walk P F (.x id) K A s
    | .B ou::K=>walk P F (bif id==ou then .n else .x id) K A s
    | .F _ _::K=>walk P F (.x id) K A s
  | .c c=>match c with
    | .seq a b=>walk P F (.c a) (.S b::K) A s
    | .block id b=>walk P F (.c b) (.B id::K) A s
    | .skip=>walk P F .n K A s
    | .ret=>some (.ret s,[])
    | .exit id=>walk P F (.x id) K A s
    | .region id ops dr=>match A with
      |[]=>some (.at (.region id ops dr) K s,[])
      |as::A=>bif !dr||mi ops then match mE P ops dr ops.toList 0 as s with
         |some (s1,l)=>Lj s1 fun s1=>EY l (walk P F .n K A s1)
         |none=>none
       else none
    | .cond o x y=>match A with
      |[]=>some (.at (.cond o x y) K s,[])
      |as::A=>match iL as 0 with
       | .bit b=>EY [(.bit (ev s o), .bit b)] (walk P F (.c (bif b then x else y)) K A s)
       |_=>none
    |c=>match A with
     |[]=>some (.at c K s,[])
     |_=>none
section
variable {P:Program} {r:Option Nat} {N0:Nat} {Q:Exit→St→Prop}
theorem FE:∀(K:List Fr)(s:St),Q .ret s→gw P r N0 Q K .ret s
 |[],_,h=>h
 | .S _::K,s,h=>FE K s h
 | .B _::K,s,h=>FE K s h
 | .F _ _::K,s,h=>FE K s h
def VK(P:Program)(r:Option Nat)(N0:Nat)(Q:Exit→St→Prop)(m:Md)(K:List Fr)(s:St):Prop:=
 match m with
 | .c c=>bH P r N0 c (gw P r N0 Q K) s
 | .n=>gw P r N0 Q K .normal s
 | .x id=>gw P r N0 Q K (.exit id) s
def Dh(P:Program)(r:Option Nat)(N0:Nat)(Q:Exit→St→Prop)(K0:List Fr):WR→Prop
 | .at c K s=>bH P r N0 c (gw P r N0 Q K) s
 | .ret s=>Q .ret s
 | .nrm s=>Q .normal s
 | .fin k s=>∀f,Fr.F k f∈K0→f s
theorem Dh.sub{K K':List Fr}(h:∀k f,Fr.F k f∈K'→Fr.F k f∈K):∀{w:WR},Dh P r N0 Q K w→Dh P r N0 Q K' w
 | .at _ _ _,hp=>hp
 | .ret _,hp=>hp
 | .nrm _,hp=>hp
 | .fin k _,hp=>fun f hf=>hp f (h k f hf)
theorem Ul{l m:List (In×ct)}{x:WO}{w:WR}(h:EY l x=some (w,m))(cu:gT P m):∃n,x=some (w,n)∧gT P n∧gT P l:=by
 unfold EY at h;split at h
 ·next w' n=>
  cases h
  exact⟨n,rfl,fun p hp=>cu p (List.mem_append_right _ hp),fun p hp=>cu p (List.mem_append_left _ hp)⟩
 ·cases h
theorem RB(hm:P.follows .mixedOrders=true):∀(F:Nat)(m:Md)(K:List Fr)(A:List (List (Nat×ct)))(s:St)(w:WR)(l:List (In×ct)),walk P F m K A s=some (w,l)→gT P l→Dh P r N0 Q K w→VK P r N0 Q m K s
 |0,_,_,_,_,_,_,h,_,_=>by simp [walk]at h
 |F+1,m,K,A,s,w,l,h,cu,hp=>by
  have ih:=RB hm F;have tl:∀{x:Fr}{K:List Fr},∀k f,Fr.F k f∈K→Fr.F k f∈x::K:=fun _ _ h=>agC _ h;have pS:∀{y:Code}{K:List Fr},∀k f,Fr.F k f∈Fr.S y::K→Fr.F k f∈K:=fun k f h=>by
   rcases agX.1 h with h|h
   ·cases h
   ·exact h
  have pB:∀{y:Nat}{K:List Fr},∀k f,Fr.F k f∈Fr.B y::K→Fr.F k f∈K:=fun k f h=>by
   rcases agX.1 h with h|h
   ·cases h
   ·exact h
  unfold walk at h;cases m with
  |n=>
   cases K with
   |nil=>cases h;exact hp
   |cons x K=>
    cases x with
    |S y=>exact ih (.c y) K _ _ _ _ h cu (hp.sub tl)
    |B id=>exact ih .n K _ _ _ _ h cu (hp.sub tl)
    |F k f=>cases h;exact hp _ agz
  |x id=>
   cases K with
   |nil=>cases h
   |cons x K=>
    cases x with
    |S y=>exact ih (.x id) K _ _ _ _ h cu (hp.sub tl)
    |B ou=>
     show(bif id==ou then gw P r N0 Q K .normal s else gw P r N0 Q K (.exit id) s);simp only at h;cases e:id==ou with
     |true=>rw[e]at h;exact ih .n K _ _ _ _ h cu (hp.sub tl)
     |false=>rw[e]at h;exact ih (.x id) K _ _ _ _ h cu (hp.sub tl)
    |F k f=>exact ih (.x id) K _ _ _ _ h cu (hp.sub tl)
  |c c=>
   simp only at h;split at h
   ·exact aN (ih (.c _) (.S _::K) _ _ _ _ h cu (hp.sub pS))
   ·exact e6 (ih (.c _) (.B _::K) _ _ _ _ h cu (hp.sub pB))
   ·exact et (ih .n _ _ _ _ _ h cu hp)
   ·cases h;exact dM (FE K s hp)
   ·exact jZ (ih (.x _) _ _ _ _ _ h cu hp)
   ·next id ops dr=>
    split at h
    ·cases h;exact hp
    ·next as A=>
     obtain⟨hb,h⟩:=gk h;split at h
     ·next s1 l1 e=>
      rw[Z8]at h;obtain⟨n,e2,h2,h3⟩:=Ul h cu;have hk:=ih .n _ _ _ _ _ e2 h2 hp;have dL:=uQ (P:=P) (ops:=ops) (dr:=dr) (K:=gw P r N0 Q K .normal) ops.toList 0 s l1 e h3 hk;cases dr with
      |false=>exact fq dL
      |true=>
       have hl:mi ops.toList.toArray=true:=by simpa using hb
       have:=AH (P:=P) (r:=r) (N0:=N0) (Q:=gw P r N0 Q K) (s:=s) (id:=id) (l:=ops.toList) hm hl (by simpa using dL);show bH P r N0 (.region id ops true) (gw P r N0 Q K) s
       simpa using this
     ·cases h
   ·next o x y=>
    split at h
    ·cases h;exact hp
    ·next as A=>
     split at h
     ·next b e=>
      obtain⟨n,e2,h2,h3⟩:=Ul h cu;have h4:=OK.FM (h3 (_,_) agz);have hk:=ih (.c _) _ _ _ _ _ e2 h2 hp;exact Kp h4 (fun e=>by subst e;exact hk) (fun e=>by subst e;exact hk)
     ·cases h
   ·split at h
    ·cases h;exact hp
    ·cases h
end
def wK:WO→List Fr
 |some (.at _ K _,_)=>K
 |_=>[]
def wS:WO→St
 |some (.at _ _ s,_)=>s
 |_=>⟨0,[],[]⟩
def m6(k:Nat):List Fr→List (St→Prop)
 |[]=>[]
 | .F k' f::K=>bif k'==k then f::m6 k K else m6 k K
 |_::K=>m6 k K
theorem DW{k:Nat}{f:St→Prop}:∀{K:List Fr},Fr.F k f∈K→f∈m6 k K
 |[],h=>by cases h
 | .S _::K,h=>by
   rcases agX.1 h with h|h
   ·cases h
   ·exact DW (K:=K) h
 | .B _::K,h=>by
   rcases agX.1 h with h|h
   ·cases h
   ·exact DW (K:=K) h
 | .F k' g::K,h=>by
   rcases agX.1 h with h|h
   ·cases h;simp [m6]
   ·unfold m6;cases k'==k with
    |true=>exact agC _ (DW h)
    |false=>exact DW h
def AX:WO→Option (List (In×ct))
 |some (.at _ _ _,l)=>some l
 |_=>none
def Sw(live:List Nat)(m:Nat):WO→Option (St×List (In×ct))
 |some (.at (.loop _) _ s,l)=>(iD s live m).map (·,l)
 |_=>none
def Pb(live:List Nat)(m:Nat)(ks:List Nat)(kn:List (Nat×Nat)):WO→Option (St×List (In×ct))
 |some (.at (.loop _) _ s,l)=>(lI s live m ks kn).map (·,l)
 |_=>none
def Fp:WO→Option (List (In×ct))
 |some (.at _ (.S _::_) _,l)=>some l
 |_=>none
def GU(k:Nat)(live:List Nat)(m:Nat):WO→Option (St×List (In×ct))
 |some (.fin k' s,l)=>bif k'==k then(iD s live m).map (·,l)else none
 |_=>none
def Ic(k:Nat)(live:List Nat)(m:Nat)(ks:List Nat)(kn:List (Nat×Nat)):WO→Option (St×List (In×ct))
 |some (.fin k' s,l)=>bif k'==k then(lI s live m ks kn).map (·,l)else none
 |_=>none
def JW(P:Program)(rs:List ResultVar):WO→Option (AV×List (In×ct))
 |some (.ret s,l)=>(xf P rs s).map (·,l)
 |some (.nrm s,l)=>(xf P rs s).map (·,l)
 |_=>none
def Kw(P:Program)(rs:List ResultVar)(m:Nat):WO→Option ((AV×List ak)×List (In×ct))
 |some (.ret s,l)=>(wa P rs m s).map (·,l)
 |some (.nrm s,l)=>(wa P rs m s).map (·,l)
 |_=>none
def yf:List Fr→Option (Code×List Fr)
 | .S y::K=>some (y,K)
 | .B _::K=>yf K
 |_=>none
def Nd(P:Program)(ba:List Nat)(as:List (Nat×ct)):WO→Option (List (Nat×AV)×List ak×List (In×ct))
 |some (.at (.region _ ops dr) K s,_)=>bif (!dr||mi ops)&&(yf K).isSome then mP P dr ops.toList as ba s else none
 |_=>none
def Ve(k:Nat)(f:St→Prop)(s:St):WO→WO
 |some (.at (.loop b) K _,_)=>some (.at b (.F k f::K) s,[])
 |_=>none
def Nx(k:Nat)(f:St→Prop):WO→WO
 |some (.at c (.S _::K) s,_)=>some (.at c (.F k f::K) s,[])
 |_=>none
def NG(s:St):WO→WO
 |some (.at _ (.S y::K) _,_)=>some (.at y K s,[])
 |_=>none
def x8(Δ:List (Nat×AV))(h':List ak):WO→WO
 |some (.at _ K s,_)=>match yf K with
  |some (y,K')=>some (.at y K' ⟨s.n,Δ++s.t,h'⟩,[])
  |none=>none
 |_=>none
def Hb(f:St→St):WO→WO
 |some (.at c K s,l)=>some (.at c K (f s),l)
 |_=>none
def P1:Nat:=4000
def wk(P:Program)(w:WO)(bC:List (List (Nat×Ob P))):WO:=
 match w with
 |some (.at c K s,_)=>walk P P1 (.c c) K (bC.map jw) s
 |_=>none
def kD{P:Program}(bC:List (List (Nat×Ob P))):List (In×ct):=bC.flatMap jl
theorem aab{P:Program}(bC:List (List (Nat×Ob P))):gT P (kD bC):=fun p hp=>by
 obtain⟨l,_,h⟩:=List.mem_flatMap.1 hp;exact qK l p h
theorem ov{α β:Type}{x:Option α}{l:β}{y:α}{m:β}(h:x.map (·,l)=some (y,m)):x=some y∧l=m:=by
 cases x with
 |none=>cases h
 |some z=>cases h;exact⟨rfl,rfl⟩
def vb(P:Program)(r:Option Nat)(N0:Nat)(Q:Exit→St→Prop):WO→Prop
 |some (.at c K s,_)=>bH P r N0 c (gw P r N0 Q K) s
 |_=>True
structure GW(P:Program)(r:Option Nat)(N0:Nat)(Q:Exit→St→Prop)(w:WO):Prop where
 run:vb P r N0 Q w
section
variable {P:Program} {r:Option Nat} {N0:Nat} {Q:Exit→St→Prop} {w0:WO}
theorem mo{bC:List (List (Nat×Ob P))}(hm:P.follows .mixedOrders=true){w:WR}(e:wk P w0 bC=some (w,kD bC))(hp:∀K,(∀k f,Fr.F k f∈K→Fr.F k f∈wK w0)→Dh P r N0 Q K w):GW P r N0 Q w0:=by
 constructor
 unfold wk at e;split at e
 ·next c K s l=>exact RB hm P1 (.c c) K _ s w _ e (aab bC) (hp K fun k f h=>h)
 ·cases e
theorem au(hm:P.follows .mixedOrders=true)(bC:List (List (Nat×Ob P)))(k:GW P r N0 Q (wk P w0 bC))(e:AX (wk P w0 bC)=some (kD bC):=by kernel_rfl):GW P r N0 Q w0:=by
 generalize hw:wk P w0 bC=w at e k;unfold AX at e;split at e
 ·cases e;exact mo hm hw fun K _=>k.run
 ·cases e
theorem aat(hm:P.follows .mixedOrders=true){fn:Func}{R:AV}(bC:List (List (Nat×Ob P)))(e:JW P fn.results.toList (wk P w0 bC)=some (R,kD bC)):GW P r N0 (CX P fn R) w0:=by
 generalize hw:wk P w0 bC=w at e;unfold JW at e;split at e
 ·obtain⟨e1,rfl⟩:=ov e;exact mo hm hw fun K _=>e1
 ·obtain⟨e1,rfl⟩:=ov e;exact mo hm hw fun K _=>e1
 ·cases e
theorem VX(hm:P.follows .mixedOrders=true){fn:Func}{m:Nat}{R:AV}{H:List ak}(bC:List (List (Nat×Ob P)))(e:Kw P fn.results.toList m (wk P w0 bC)=some ((R,H),kD bC)):GW P r N0 (CV P fn m R H) w0:=by
 generalize hw:wk P w0 bC=w at e;unfold Kw at e;split at e
 ·obtain⟨e1,rfl⟩:=ov e;exact mo hm hw fun K _=>e1
 ·obtain⟨e1,rfl⟩:=ov e;exact mo hm hw fun K _=>e1
 ·cases e
theorem wr(hm:P.follows .mixedOrders=true){fn:Func}{R:AV}(bC:List (List (Nat×Ob P)))(e:JW P fn.results.toList (wk P w0 bC)=some (R,kD bC):=by kernel_rfl):GW P r N0 (CX P fn R) w0:=aat hm bC e
theorem cQ(hm:P.follows .mixedOrders=true){fn:Func}{m:Nat}{R:AV}{H:List ak}(bC:List (List (Nat×Ob P)))(e:Kw P fn.results.toList m (wk P w0 bC)=some ((R,H),kD bC):=by kernel_rfl):GW P r N0 (CV P fn m R H) w0:=VX hm bC e
structure QY{ι:Type}(k:Nat)(live:List Nat)(m:Nat)(st:ι→St)(I:ι→Prop)(μ:ι→Nat)(i0:ι)(f:St→Prop):Prop where
 h:∀s' i',iD s' live m=some (st i')→I i'→μ i'<μ i0→f s'
structure N3{ι:Type}(k:Nat)(live:List Nat)(m:Nat)(ks:List Nat)(kn:List (Nat×Nat))(st:ι→St)(I:ι→Prop)(μ:ι→Nat)(i0:ι)(f:St→Prop):Prop where
 h:∀s' i',gV m (s'.h.take m)→lI s' live m ks kn=some (st i')→I i'→μ i'<μ i0→f s'
structure Qk{ι:Type}(k:Nat)(live:List Nat)(m:Nat)(st:ι→St)(I:ι→Prop)(f:St→Prop):Prop where
 h:∀s' i',iD s' live m=some (st i')→I i'→f s'
structure Tu{ι:Type}(k:Nat)(live:List Nat)(m:Nat)(ks:List Nat)(kn:List (Nat×Nat))(st:ι→St)(I:ι→Prop)(f:St→Prop):Prop where
 h:∀s' i',gV m (s'.h.take m)→lI s' live m ks kn=some (st i')→I i'→f s'
theorem Ij(hm:P.follows .mixedOrders=true){k:Nat}{s1:St}{f:St→Prop}(bC:List (List (Nat×Ob P)))(e1:m6 k (wK w0)=[f])(e:wk P w0 bC=some (.fin k s1,kD bC))(hf:f s1):GW P r N0 Q w0:=
 mo hm e fun K hK g hg=>by
  have:=DW (hK k g hg);rw[e1,List.mem_singleton]at this;subst this;exact hf
theorem cx(hm:P.follows .mixedOrders=true){ι:Type}{live:List Nat}{m k:Nat}{st:ι→St}{I:ι→Prop}{μ:ι→Nat}{i0:ι}{f:St→Prop}(hf:QY k live m st I μ i0 f)(i:ι)(bC:List (List (Nat×Ob P)))(hI:I i)(hμ:μ i<μ i0:=by exact ahf _)(e1:m6 k (wK w0)=[f]:=by kernel_rfl)(e:GU k live m (wk P w0 bC)=some (st i,kD bC):=by kernel_rfl):GW P r N0 Q w0:=by
 generalize hw:wk P w0 bC=w at e;unfold GU at e;split at e
 ·next k' s' l=>
  obtain⟨hb,e⟩:=gk e;obtain⟨e2,rfl⟩:=ov e;rw[beq_iff_eq]at hb;subst hb;exact Ij hm bC e1 hw (hf.h _ i e2 hI hμ)
 ·cases e
def tP:List ak→List (List (List AV))
 |[]=>[]
 | .vec _ _ cs::l=>cs::tP l
 |_::l=>tP l
structure VE(m:Nat) where
 x:List (List AV)
 ok:∀e k,(ak.vec e k x).yS m
def VE.iE{m:Nat}(xs:List (List D)):VE m:=⟨aK xs,fun _ _=>(gb (m:=m) (l:=[]) fh).1⟩
def VE.row{m:Nat}(xs:List (List D))(i:Nat)(r:List AV)(h1:r.map (AV.bI m)=r:=by kernel_rfl)(h2:r.all (AV.aS m)=true:=by kernel_rfl):VE m:=⟨(aK xs).set i r,fun _ _=>(vmR (m:=m) (l:=[]) h1 h2 fh).1⟩
theorem CT{m:Nat}:∀(l:List ak)(jI:List (VE m)),tP l=jI.map VE.x→gV m l
 |[],_,_=>fh
 |B::l,jI,h=>by
  cases B with
  |vec e k cs=>
   cases jI with
   |nil=>cases h
   |cons v vs=>
    have h1:cs=v.x:=(List.cons.inj h).1;subst h1;exact⟨v.ok e k,CT l vs (List.cons.inj h).2⟩
  |_=>exact⟨trivial,CT l jI h⟩
def Jf(m:Nat):WO→List (List (List AV))
 |some (.fin _ s,_)=>tP (s.h.take m)
 |some (.at _ _ s,_)=>tP (s.h.take m)
 |_=>[]
theorem iQ(hm:P.follows .mixedOrders=true){ι:Type}{live:List Nat}{m k:Nat}{ks:List Nat}{kn:List (Nat×Nat)}{st:ι→St}{I:ι→Prop}{μ:ι→Nat}{i0:ι}{f:St→Prop}(hf:N3 k live m ks kn st I μ i0 f)(i:ι)(bC:List (List (Nat×Ob P)))(hI:I i)(hμ:μ i<μ i0:=by exact ahf _)(e1:m6 k (wK w0)=[f]:=by kernel_rfl)(jI:List (VE m):=[])(e0:Jf m (wk P w0 bC)=jI.map VE.x:=by kernel_rfl)(e:Ic k live m ks kn (wk P w0 bC)=some (st i,kD bC):=by kernel_rfl):GW P r N0 Q w0:=by
 generalize hw:wk P w0 bC=w at e e0;unfold Ic at e;split at e
 ·next k' s' l=>
  obtain⟨hb,e⟩:=gk e;obtain⟨e2,rfl⟩:=ov e;rw[beq_iff_eq]at hb;subst hb;exact Ij hm bC e1 hw (hf.h _ i (CT _ jI e0) e2 hI hμ)
 ·cases e
theorem dT(hm:P.follows .mixedOrders=true){ι:Type}{live:List Nat}{m k:Nat}{st:ι→St}{I:ι→Prop}{f:St→Prop}(hf:Qk k live m st I f)(i:ι)(bC:List (List (Nat×Ob P)))(hI:I i)(e1:m6 k (wK w0)=[f]:=by kernel_rfl)(e:GU k live m (wk P w0 bC)=some (st i,kD bC):=by kernel_rfl):GW P r N0 Q w0:=by
 generalize hw:wk P w0 bC=w at e;unfold GU at e;split at e
 ·next k' s' l=>
  obtain⟨hb,e⟩:=gk e;obtain⟨e2,rfl⟩:=ov e;rw[beq_iff_eq]at hb;subst hb;exact Ij hm bC e1 hw (hf.h _ i e2 hI)
 ·cases e
theorem cC(hm:P.follows .mixedOrders=true){ι:Type}(k:Nat)(bC:List (List (Nat×Ob P)))(live:List Nat)(m:Nat)(st:ι→St)(I:ι→Prop)(μ:ι→Nat)(i0:ι)(hI:I i0)
 (body:∀i,I i→∀f:St→Prop,QY k live m st I μ i f→GW P r N0 Q (Ve k f (st i) (wk P w0 bC)))
 (hN:N0≤m:=by exact agB rfl) (e:Sw live m (wk P w0 bC)=some (st i0,kD bC):=by kernel_rfl):GW P r N0 Q w0:=by
 generalize hw:wk P w0 bC=w at e body;unfold Sw at e;split at e
 ·next b K' s' l=>
  obtain⟨e2,rfl⟩:=ov e;refine mo hm hw fun K _=> ?_;refine OS live m st I μ i0 hN e2 hI fun i hi=> ?_;exact(body i hi _ ⟨fun s' i' h1 h2 h3=>⟨i',h1,h2,h3⟩⟩).run
 ·cases e
theorem jQ(hm:P.follows .mixedOrders=true){ι:Type}(k:Nat)(bC:List (List (Nat×Ob P)))(live:List Nat)(m:Nat)(ks:List Nat)(kn:List (Nat×Nat))(st:ι→St)(I:ι→Prop)(μ:ι→Nat)(i0:ι)(hI:I i0)
 (body:∀i,I i→∀f:St→Prop,N3 k live m ks kn st I μ i f→GW P r N0 Q (Ve k f (st i) (wk P w0 bC)))
 (hN:N0≤m:=by exact agB rfl) (jI:List (VE m):=[]) (e0:Jf m (wk P w0 bC)=jI.map VE.x:=by kernel_rfl) (e:Pb live m ks kn (wk P w0 bC)=some (st i0,kD bC):=by kernel_rfl):GW P r N0 Q w0:=by
 generalize hw:wk P w0 bC=w at e e0 body;unfold Pb at e;split at e
 ·next b K' s' l=>
  obtain⟨e2,rfl⟩:=ov e;refine mo hm hw fun K _=> ?_;refine pc live m ks kn st I μ i0 hN ⟨CT _ jI e0,e2⟩ hI fun i hi=> ?_;exact(body i hi _ ⟨fun s' i' h0 h1 h2 h3=>⟨i',⟨h0,h1⟩,h2,h3⟩⟩).run
 ·cases e
theorem ma(hm:P.follows .mixedOrders=true){ι:Type}(k:Nat)(bC:List (List (Nat×Ob P)))(live:List Nat)(m:Nat)(st:ι→St)(I:ι→Prop)
 (br:∀f:St→Prop,Qk k live m st I f→GW P r N0 Q (Nx k f (wk P w0 bC)))
 (rest:∀i,I i→GW P r N0 Q (NG (st i) (wk P w0 bC))) (hN:N0≤m:=by exact agB rfl) (e:Fp (wk P w0 bC)=some (kD bC):=by kernel_rfl):GW P r N0 Q w0:=by
 generalize hw:wk P w0 bC=w at e br rest;unfold Fp at e;split at e
 ·cases e
  refine mo hm hw fun K _=> ?_;exact XD live m st I hN (br _ ⟨fun s' i' h1 h2=>⟨i',h1,h2⟩⟩).run fun i hi=>(rest i hi).run
 ·cases e
theorem Ri(hm:P.follows .mixedOrders=true){ι:Type}{live:List Nat}{m k:Nat}{ks:List Nat}{kn:List (Nat×Nat)}{st:ι→St}{I:ι→Prop}{f:St→Prop}(hf:Tu k live m ks kn st I f)(i:ι)(bC:List (List (Nat×Ob P)))(hI:I i)(jI:List (VE m):=[])(e0:Jf m (wk P w0 bC)=jI.map VE.x:=by kernel_rfl)(e1:m6 k (wK w0)=[f]:=by kernel_rfl)(e:Ic k live m ks kn (wk P w0 bC)=some (st i,kD bC):=by kernel_rfl):GW P r N0 Q w0:=by
 generalize hw:wk P w0 bC=w at e e0;unfold Ic at e;split at e
 ·next k' s' l=>
  obtain⟨hb,e⟩:=gk e;obtain⟨e2,rfl⟩:=ov e;rw[beq_iff_eq]at hb;subst hb;exact Ij hm bC e1 hw (hf.h _ i (CT _ jI e0) e2 hI)
 ·cases e
theorem afi(hm:P.follows .mixedOrders=true){ι:Type}(k:Nat)(bC:List (List (Nat×Ob P)))(live:List Nat)(m:Nat)(ks:List Nat)(kn:List (Nat×Nat))(st:ι→St)(I:ι→Prop)
 (br:∀f:St→Prop,Tu k live m ks kn st I f→GW P r N0 Q (Nx k f (wk P w0 bC)))
 (rest:∀i,I i→GW P r N0 Q (NG (st i) (wk P w0 bC))) (hN:N0≤m:=by exact agB rfl) (e:Fp (wk P w0 bC)=some (kD bC):=by kernel_rfl):GW P r N0 Q w0:=by
 generalize hw:wk P w0 bC=w at e br rest;unfold Fp at e;split at e
 ·cases e
  refine mo hm hw fun K _=> ?_;exact VW live m ks kn st I hN (br _ ⟨fun s' i' h0 h1 h2=>⟨i',⟨h0,h1⟩,h2⟩⟩).run fun i hi=>(rest i hi).run
 ·cases e
theorem Hh:∀{K:List Fr}{y:Code}{K':List Fr}{s:St},yf K=some (y,K')→bH P r N0 y (gw P r N0 Q K') s→gw P r N0 Q K .normal s
 |[],_,_,_,h,_=>by cases h
 | .S y::K,_,_,_,h,k=>by cases h;exact k
 | .B _::K,_,_,s,h,k=>Hh (K:=K) (s:=s) h k
 | .F _ _::K,_,_,_,h,_=>by cases h
theorem cN(hm:P.follows .mixedOrders=true)(Δ:List (Nat×AV))(h':List ak)(e:∃bC:List (Nat×Ob P),Nd P (Δ.map (·.1)) (jw bC) (wk P w0 [])=some (Δ,h',jl bC))(k:GW P r N0 Q (x8 Δ h' (wk P w0 [])))(e0:AX (wk P w0 [])=some []:=by kernel_rfl):GW P r N0 Q w0:=by
 generalize hw:wk P w0 []=w at e k e0;obtain⟨bC,e⟩:=e;unfold Nd at e;split at e
 ·next id ops dr K' s' l=>
  obtain⟨hb,e⟩:=gk e;rw[agv]at hb;cases e0
  refine mo hm hw fun K _=> ?_;obtain⟨s1,h1,h2,h3,h4⟩:=EU e;obtain⟨p,hp⟩:=Option.isSome_iff_exists.1 hb.2;obtain⟨y,K2⟩:=p;have hk:gw P r N0 Q K' .normal s1:=by
   refine Hh hp (EX (s:=s1) (s':=⟨s'.n,Δ++s'.t,h'⟩) h2.symm h3.symm h4 ?_);have k:=k.run;simp only[x8,hp]at k;exact k
  show bH P r N0 (.region id ops dr) (gw P r N0 Q K') s';have dL:=uQ (P:=P) (ops:=ops.toList.toArray) (dr:=dr) (K:=gw P r N0 Q K' .normal) ops.toList 0 s' _ h1 (qK bC) hk;cases dr with
  |false=>exact fq (by simpa using dL)
  |true=>
   have hl:mi ops.toList.toArray=true:=by simpa using hb.1
   have:=AH (P:=P) (r:=r) (N0:=N0) (Q:=gw P r N0 Q K') (s:=s') (id:=id) (l:=ops.toList) hm hl (by simpa using dL)
   simpa using this
 ·cases e
def T4(P:Program)(ba:List Nat)(as:List (Nat×ct)):WO→Option (List (List (Nat×AV)×List ak×List (In×ct)))
 |some (.at (.region _ ops true) K s,_)=>bif (yf K).isSome then zT P ops.toList as ba s else none
 |_=>none
theorem S1(m:Nat)(hm:P.follows .mixedOrders=true)(Δ:List (Nat×AV))(h':List ak)(e:∃bC:List (Nat×Ob P),T4 P (Δ.map (·.1)) (jw bC) (wk P w0 [])=some (List.replicate m (Δ,h',jl bC)))(k:GW P r N0 Q (x8 Δ h' (wk P w0 [])))(e0:AX (wk P w0 [])=some []:=by kernel_rfl):GW P r N0 Q w0:=by
 generalize hw:wk P w0 []=w at e k e0;obtain⟨bC,e⟩:=e;unfold T4 at e;split at e
 ·next id ops K' s' l=>
  obtain⟨hb,e⟩:=gk e;cases e0
  refine mo hm hw fun K _=> ?_;obtain⟨p,hp⟩:=Option.isSome_iff_exists.1 hb;obtain⟨y,K2⟩:=p;show bH P r N0 (.region id ops true) (gw P r N0 Q K') s';have:=VV (r:=r) (N0:=N0) (Q:=gw P r N0 Q K') (id:=id) (ol:=ops.toList) (n:=s'.n) (t:=s'.t) (h:=s'.h) m hm bC Δ h' e (Hh hp (by
   have k:=k.run;simp only[x8,hp]at k;exact k))
  simpa using this
 ·cases e
def OR(P:Program)(ba:List Nat)(as:List (Nat×ct)):WO→Option (List (Nat×AV)×List ak×List (In×ct))
 |some (.at (.region _ ops true) K s,_)=>bif (yf K).isSome&&Eh true ops (List.range ops.toList.length)&&F5 as 0 ops.toList then mP P false ops.toList as ba s else none
 |_=>none
theorem IZ(hm:P.follows .mixedOrders=true)(bC:List (Nat×Ob P))(Δ:List (Nat×AV))(h':List ak)(k:GW P r N0 Q (x8 Δ h' (wk P w0 [])))(e:OR P (Δ.map (·.1)) (jw bC) (wk P w0 [])=some (Δ,h',jl bC):=by kernel_rfl)(e0:AX (wk P w0 [])=some []:=by kernel_rfl):GW P r N0 Q w0:=by
 generalize hw:wk P w0 []=w at e k e0;unfold OR at e;split at e
 ·next id ops K' s' l=>
  obtain⟨hb,e⟩:=gk e;rw[agv,agv]at hb;cases e0
  refine mo hm hw fun K _=> ?_;obtain⟨p,hp⟩:=Option.isSome_iff_exists.1 hb.1.1;obtain⟨y,K2⟩:=p;show bH P r N0 (.region id ops true) (gw P r N0 Q K') s';have hk:bH P r N0 y (gw P r N0 Q K2) ⟨s'.n,Δ++s'.t,h'⟩:=by
   have k:=k.run;simp only[x8,hp]at k;exact k
  obtain⟨s1,h1,h2,h3,h4⟩:=EU e;have nx:gw P r N0 Q K' .normal s1:=Hh hp (EX (s:=s1) (s':=⟨s'.n,Δ++s'.t,h'⟩) h2.symm h3.symm h4 hk);have hl:Eh true ops.toList.toArray (List.range ops.toList.length)=true:=by simpa using hb.1.2
  have:bH P r N0 (.region id ops.toList.toArray true) (gw P r N0 Q K') s':=by
   refine T1 (m:=true) (List.range ops.toList.length) hm (by simp) hl ?_;rw[Zs];exact Uf ops.toList 0 _ _ h1 (qK bC) hb.2 nx
  simpa using this
 ·cases e
def JH(b:Nat):ak→List (Nat×Nat×Nat×Nat)
 | .cells cs=>AV.lZ b cs
 | .lp .. =>[(1,0,0,0)]
 | .it .. =>[(1,0,0,0)]
 |_=>[]
structure VM(b L kk:Nat)(ys:List (List D)) where
 x:List (List AV)
 y:List (List AV)
 ok:ys.length=L→y=x.map (·.map (AV.dm b kk ys))
def VM.iE{b L kk:Nat}{ys:List (List D)}(zs:List (List D)):VM b L kk ys:=⟨aK zs,aK zs,fun _=>(ue (fun d=>by simp [AV.dm]) zs).symm⟩
def VM.rw{b L kk:Nat}{ys:List (List D)}(zs:List (List D))(i:Nat)(cs cp:List AV)(c:Nat)(h:AV.lZ b cs=List.replicate c (0,L,L,kk):=by kernel_rfl)(e:AV.jT b ys cs=cp:=by kernel_rfl):VM b L kk ys:=
 ⟨(aK zs).set i cs,(aK zs).set i cp,fun hL=>by rw[List.map_set,ue (fun d=>by simp [AV.dm]),←oI,pK _ (zS hL h),e]⟩
def VM.row{b L kk:Nat}{ys:List (List D)}{α:Type}(f:α→List D)(E:List α)(i:Nat)(cs:List AV)(y:α)(c:Nat)(h:AV.lZ b cs=List.replicate c (0,L,L,kk):=by kernel_rfl)(e:AV.jT b ys cs=(f y).map AV.d:=by kernel_rfl):VM b L kk ys:=
 ⟨(aK (E.map f)).set i cs,aK ((E.set i y).map f),fun hL=>by
   have h1:((aK (E.map f)).set i cs).map (·.map (AV.dm b kk ys))=(aK (E.map f)).set i (cs.map (AV.dm b kk ys)):=by rw[List.map_set,ue (fun d=>by simp [AV.dm])]
   have h2:cs.map (AV.dm b kk ys)=(f y).map AV.d:=by rw[←oI,pK _ (zS hL h),e]
   rw[h1,h2];exact(XG rfl).symm⟩
def pG(b:Nat)(ys:List (List D)):List ak→List (List (List AV))→List ak
 |[],_=>[]
 |B::l,vs=>match B with
  | .vec e k cs=>match vs with
    |v::vs=> .vec e k v::pG b ys l vs
    |[]=> .vec e k cs::pG b ys l []
  | .cells cs=> .cells (AV.jT b ys cs)::pG b ys l vs
  |B=>B::pG b ys l vs
theorem NO{b L kk:Nat}{ys:List (List D)}(hL:ys.length=L):∀(h:List ak)(vs:List (VM b L kk ys)),tP h=vs.map VM.x→(∀q∈h.flatMap (JH b),q=(0,ys.length,ys.length,kk))→pG b ys h (vs.map VM.y)=h.map (ak.ij (AV.dm b kk ys))
 |[],_,_,_=>rfl
 |B::l,vs,hv,ho=>by
  have hl:∀vs:List (VM b L kk ys),tP l=vs.map VM.x→pG b ys l (vs.map VM.y)=l.map (ak.ij (AV.dm b kk ys)):=fun vs hv=>NO hL l vs hv fun q hq=>ho q (by rw[List.flatMap_cons];exact List.mem_append_right _ hq);have hb:∀q∈JH b B,q=(0,ys.length,ys.length,kk):=fun q hq=>ho q (by rw[List.flatMap_cons];exact List.mem_append_left _ hq);cases B with
  |vec e k cs=>
   cases vs with
   |nil=>cases hv
   |cons v vs=>
    have hv1:cs=v.x:=(List.cons.inj hv).1;have e1:(ak.vec e k cs).ij (AV.dm b kk ys)= .vec e k v.y:=by rw[v.ok hL,hv1];rfl
    show ak.vec e k v.y::pG b ys l (vs.map VM.y)=ak.ij (AV.dm b kk ys) (.vec e k cs)::l.map _;rw[hl vs (List.cons.inj hv).2,e1]
  |cells cs=>
   have e1:(ak.cells cs).ij (AV.dm b kk ys)= .cells (AV.jT b ys cs):=by
    rw[←pK cs hb,oI];rfl
   show ak.cells (AV.jT b ys cs)::pG b ys l (vs.map VM.y)=ak.ij (AV.dm b kk ys) (.cells cs)::l.map _;rw[hl vs hv,e1]
  |front e k n=>exact congrArg (ak.front e k n::·) (hl vs hv)
  |map kv=>exact congrArg (ak.map kv::·) (hl vs hv)
  |gone=>exact congrArg (ak.gone::·) (hl vs hv)
  |lp ls p as bd cs=>have:=congrArg Prod.fst (hb (1,0,0,0) agz);cases this
  |it sn cs=>have:=congrArg Prod.fst (hb (1,0,0,0) agz);cases this
theorem V7{c:Code}{s:St}(live:List Nat)(b:Nat)(xs:List (List D)){e k L:Nat}(h':List ak)(hb:s.h[b]?=some (.vec e k (aK xs)))(fw:∀c∈xs,c.all D.mV=true)(hL:xs.length=L)
 (ho:∀q∈live.flatMap fun i=>(bz s.t i).kH b,q=(0,xs.length,xs.length,k)) (hh:h'=s.h.map (ak.ij (AV.dm b k xs))) (K:bH P r N0 c Q ⟨s.n,live.map (fun i=>(i,(bz s.t i).mlt b xs)),h'.set b .gone⟩):bH P r N0 c Q s:=by
 constructor
 intro G w a n hs hN;obtain⟨G',hE,e1,cM⟩:=hs.Jq xs hb fw;refine wpIn_mono (K.run G' w a n (cM.less rfl (by rw[hh]) fun i=> ?_) (by rw[e1];exact hN)) fun _ _ _ hn=>hn.trans (hE.less hN);show bz (live.map (fun i=>(i,(bz s.t i).mlt b xs))) i=bz (s.t.map fun p=>(p.1,p.2.dm b k xs)) i∨_;rw[nA (fun k=>(bz s.t k).mlt b xs),wA (AV.dm b k xs) (by simp [AV.dm])];split
 ·next hi=>
  left
  refine(Ks _ fun q hq=>ho q ?_).symm;exact List.mem_flatMap.2 ⟨i,hi,hq⟩
 ·exact .inr rfl
def aez(live:List Nat)(b:Nat)(s:St):List (Nat×Nat×Nat×Nat):=(live.flatMap fun i=>(bz s.t i).kH b)++s.h.flatMap (JH b)
def YO(live:List Nat)(b:Nat)(ys:List (List D))(vs:List (List (List AV)))(s:St):St:=⟨s.n,live.map (fun i=>(i,(bz s.t i).mlt b ys)),(pG b ys s.h vs).set b .gone⟩
def abE(live:List Nat)(m:Nat):WO→Option St
 |some (.at _ _ s,_)=>Go.Proofs.YtphmhnabilhbgaaGreatDoor.iD s live m
 |_=>none
theorem aeB(live:List Nat)(m:Nat)(s1:St)(hN:N0≤m)(k:GW P r N0 Q (Hb (fun _=>s1) w0))(e:abE live m w0=some s1:=by kernel_rfl):GW P r N0 Q w0:=by
 constructor
 unfold vb;split
 ·exact gP live m hN e k.run
 ·trivial
theorem Hx(live:List Nat)(b:Nat){xs:List (List D)}(ys:List (List D))(L c e k:Nat)(vs:List (VM b L k ys))(hL:xs.length=L)(hy:ys=xs)(fw:∀c∈xs,c.all D.mV=true)(K:GW P r N0 Q (Hb (YO live b ys (vs.map VM.y)) w0))(hb:(wS w0).h[b]?=some (.vec e k (aK xs)):=by kernel_rfl)(ho:aez live b (wS w0)=List.replicate c (0,L,L,k):=by kernel_rfl)(hv:tP (wS w0).h=vs.map VM.x:=by kernel_rfl):GW P r N0 Q w0:=by
 subst hy;constructor
 unfold vb;split
 ·next c K' s l=>
  have CR:=zS hL ho;exact V7 live b ys _ hb fw hL (fun q hq=>CR q (List.mem_append_left _ hq)) (NO hL s.h vs hv fun q hq=>CR q (List.mem_append_right _ hq)) K.run
 ·trivial
theorem dP(k:Nat)(xs:List (List D))(hx:(bz (wS w0).t k).fG=some xs)(h:tv (.sl xs)→GW P r N0 Q w0):GW P r N0 Q w0:=by
 constructor
 unfold vb;split
 ·next c K s l=>exact oe k xs hx fun hl=>(h hl).run
 ·trivial
theorem eo(b i:Nat)(xs:List (List D))(hx:(((wS w0).h[b]?).bind fun B=>match B with| .cells cs=>(cs[i]?).bind AV.fG|_=>none)=some xs)(h:tv (.sl xs)→GW P r N0 Q w0):GW P r N0 Q w0:=by
 constructor
 unfold vb;split
 ·next c K s l=>exact VI b i xs hx fun hl=>(h hl).run
 ·trivial
def adS(k e sz:Nat)(xs:List (List D))(s:St):St:=⟨s.n,(k, .own s.h.length xs)::s.t,s.h++[.front e sz xs.length]⟩
def E6(b i e sz:Nat)(xs:List (List D))(s:St):St:=match s.h[b]? with
 |some (.cells cs)=>⟨s.n,s.t,(s.h++[ak.front e sz xs.length]).set b (ak.cells (cs.set i (AV.own s.h.length xs)))⟩
 |_=>s
def Io(xs:List (List D)):AV→Bool
 | .d (.v (.slice none 0 0))=>xs.isEmpty
 |_=>false
theorem Qj{xs:List (List D)}{x:AV}(h:Io xs x=true):x= .d (.v (.slice none 0 0))∧xs=[]:=by
 unfold Io at h;split at h
 ·exact⟨rfl,List.isEmpty_iff.1 h⟩
 ·cases h
theorem m8(k e sz:Nat)(xs:List (List D))(hx:bz (wS w0).t k= .full xs∨Io xs (bz (wS w0).t k)=true)(h:GW P r N0 Q (Hb (adS k e sz xs) w0)):GW P r N0 Q w0:=by
 constructor
 unfold vb;split
 ·next c K s l=>exact Tz k e sz xs (hx.imp id Qj) h.run
 ·trivial
def Ik(b i:Nat)(s:St):AV:=match s.h[b]? with
 |some (.cells cs)=>(cs[i]?).getD .dead
 |_=> .dead
theorem NZ{b i:Nat}{s:St}{x:AV}(h:Ik b i s=x)(hx:x≠ .dead):∃cs,s.h[b]?=some (.cells cs)∧cs[i]?=some x:=by
 unfold Ik at h;split at h
 ·next cs hb=>
  refine⟨cs,hb,?_⟩;cases hq:cs[i]? with
  |none=>rw[hq]at h;exact absurd h.symm hx
  |some y=>rw[hq]at h;rw[←h];rfl
 ·exact absurd h.symm hx
theorem nO(b i e sz:Nat)(xs:List (List D))(hx:Ik b i (wS w0)= .full xs∨Io xs (Ik b i (wS w0))=true)(h:GW P r N0 Q (Hb (E6 b i e sz xs) w0)):GW P r N0 Q w0:=by
 constructor
 unfold vb;split
 ·next c K s l=>
  have h':bH P r N0 c (gw P r N0 Q K) (E6 b i e sz xs s):=h.run;rcases hx with hx|hx
  ·obtain⟨cs,h1,h2⟩:=NZ hx (fun h=>by cases h);unfold E6 at h';rw[show s.h[b]?=some (.cells cs)from h1]at h';exact HL b i e sz xs h1 (.inl h2) h'
  ·obtain⟨h3,rfl⟩:=Qj hx;obtain⟨cs,h1,h2⟩:=NZ h3 (fun h=>by cases h);unfold E6 at h';rw[show s.h[b]?=some (.cells cs)from h1]at h';exact HL b i e sz [] h1 (.inr ⟨h2,rfl⟩) h'
 ·trivial
end
theorem bc{α:Type}{c:Bool}{a b x:α}{G:Prop}(h:(bif c then a else b)=x)(t:c=true→a=x→G)(f:c=false→b=x→G):G:=by
 cases c with
 |true=>exact t rfl h
 |false=>exact f rfl h
theorem sj{α:Type}{a b:α}(h:some a=some b):a=b:=agM h
theorem c8{α:Type}{c:Bool}{x:Option α}{r:α}(h:(bif c then x else none)=some r):c=true∧x=some r:=by
 cases c with
 |true=>exact⟨rfl,h⟩
 |false=>cases h
def SO(fn:Func)(args:List AV)(h:List ak):WO:=some (.at (fn.body.getD .skip) [] {n:=args.length+(fn.ntmps-args.length),t:=iN 0 args,h:=h},[])
theorem bK{P:Program}{f:FuncId}{fn:Func}{args:List AV}{R:AV}(hf:P.funcs[f]?=some fn)(hb:fn.body.isSome=true)(hn:(fn.name== "runtime.NumGoroutine")=false)
 (hw:GW P none 0 (CX P fn R) (SO fn args [])):bm P f args (·=R):=by
 obtain⟨c,hc⟩:=Option.isSome_iff_exists.1 hb;refine pY hf hc hn ?_;have:fn.body.getD .skip=c:=by rw[hc];rfl
 rw[←this];exact hw.run
theorem fy{P:Program}{f:FuncId}{fn:Func}{args:List AV}{h H:List ak}{R:AV}(m:Nat)(hf:P.funcs[f]?=some fn)(hb:fn.body.isSome=true)(hn:(fn.name== "runtime.NumGoroutine")=false)(hm:h.length≤m)
 (hw:GW P none h.length (CV P fn m R H) (SO fn args h)):bW P f args h fun r1 h1=>r1=R∧h1=H:=by
 obtain⟨c,hc⟩:=Option.isSome_iff_exists.1 hb;refine BX m hf hc hn hm ?_;have:fn.body.getD .skip=c:=by rw[hc];rfl
 rw[←this];exact hw.run
section HO
variable {P:Program}
def oL{α:Type}{f:List α→List (List D)}(l:List α)(h:(f l).length=l.length):Ob P:=⟨_,_, .len h⟩
def oE{xs:List (List D)}{k:Nat}{c:List D}(h:xs[k]?=some c):Ob P:=⟨_,_, .el (xs:=xs) (i:=(k:Int)) (Int.natCast_nonneg _) h⟩
def oq{a b:AV}(h:a=b):Ob P:=⟨_,_, .eq h⟩
def os(ks:List Nat)(o:Ob P)(l:List (Nat×Ob P)):List (Nat×Ob P):=ks.foldr (fun k t=>(k,o)::t) l
noncomputable def soI(x:Nat×Ob P)(l:List (Nat×Ob P)):List (Nat×Ob P):=List.rec [x] (fun y t r=>bif Nat.ble x.1 y.1 then x::y::t else y::r) l
noncomputable def so(l:List (Nat×Ob P)):List (Nat×Ob P):=l.foldr soI []
theorem cr{xs:List (List D)}{n:Nat}(e:xs.length=n)(h:tv (.sl xs)):n≤maxLen:=e▸rb h
end HO
inductive eD(P:Program):TypeId→List D→Prop
 |bool {t:TypeId} (b:Bool) (h:P.underlying t=some .bool):eD P t [.v (.bool b)]
 |int {t:TypeId} {k:IntKind} (n:Int) (h:P.underlying t=some (.int k)) (w:(Lit.int k n).wf=true):eD P t [.v (.int k n)]
 |str {t:TypeId} (s:ByteArray) (h:P.underlying t=some .string) (w:s.size≤maxLen):eD P t [.v (.string s)]
 |sl {t e:TypeId} (xs:List (List D)) (h:P.underlying t=some (.slice e)) (w:xs.length≤140737488355328) (hx:∀x∈xs,eD P e x):eD P t [.sl xs]
 |struct {t:TypeId} {fs:Array Field} (parts:List (List D)) (h:P.underlying t=some (.struct fs)) (hl:parts.length=fs.size) (hx:∀(i:Nat)(f:Field)(x:List D),fs[i]?=some f→parts[i]?=some x→eD P f.type x):eD P t parts.flatten
section
variable {P:Program} {t:TypeId} {xs:List D}
theorem eD.abQ(h:eD P t xs)(ht:P.underlying t=some .bool):∃b,xs=[.v (.bool b)]:=by
 cases h with
 |bool b h=>exact⟨b,rfl⟩
 |int n h=>rw[ht]at h;cases h
 |str s h=>rw[ht]at h;cases h
 |sl l h=>rw[ht]at h;cases h
 |struct p h=>rw[ht]at h;cases h
theorem eD.nB{k:IntKind}(h:eD P t xs)(ht:P.underlying t=some (.int k)):∃n,xs=[.v (.int k n)]∧k.min≤n∧n≤k.max:=by
 cases h with
 |bool b h=>rw[ht]at h;cases h
 |int n h w=>
  rw[ht]at h;cases h;unfold Lit.wf at w;simp only[agv,decide_eq_true_eq]at w;exact⟨n,rfl,w⟩
 |str s h=>rw[ht]at h;cases h
 |sl l h=>rw[ht]at h;cases h
 |struct p h=>rw[ht]at h;cases h
theorem eD.wW(h:eD P t xs)(ht:P.underlying t=some .string):∃s,xs=[.v (.string s)]∧s.size≤maxLen:=by
 cases h with
 |bool b h=>rw[ht]at h;cases h
 |int n h=>rw[ht]at h;cases h
 |str s h w=>exact⟨s,rfl,w⟩
 |sl l h=>rw[ht]at h;cases h
 |struct p h=>rw[ht]at h;cases h
theorem eD.qv{e:TypeId}(h:eD P t xs)(ht:P.underlying t=some (.slice e)):∃l,xs=[.sl l]∧l.length≤140737488355328∧∀x∈l,eD P e x:=by
 cases h with
 |bool b h=>rw[ht]at h;cases h
 |int n h=>rw[ht]at h;cases h
 |str s h=>rw[ht]at h;cases h
 |sl l h w hx=>rw[ht]at h;cases h;exact⟨l,rfl,w,hx⟩
 |struct p h=>rw[ht]at h;cases h
theorem eD.n4{fs:Array Field}(h:eD P t xs)(ht:P.underlying t=some (.struct fs)):∃parts:List (List D),xs=parts.flatten∧parts.length=fs.size∧∀(i:Nat)(f:Field)(x:List D),fs[i]?=some f→parts[i]?=some x→eD P f.type x:=by
 cases h with
 |bool b h=>rw[ht]at h;cases h
 |int n h=>rw[ht]at h;cases h
 |str s h=>rw[ht]at h;cases h
 |sl l h=>rw[ht]at h;cases h
 |struct p h hl hx=>rw[ht]at h;cases h;exact⟨p,rfl,hl,hx⟩
theorem od{α:Type}{f:α→List D}{Q:α→Prop}:∀l:List (List D),(∀x∈l,∃a,x=f a∧Q a)→∃r:List α,l=r.map f∧∀a∈r,Q a
 |[],_=>⟨[],rfl,fun _ h=>by cases h⟩
 |x::l,h=>by
  obtain⟨a,rfl,ha⟩:=h x agz;obtain⟨r,rfl,hr⟩:=od l fun y hy=>h y (agC _ hy);refine⟨a::r,rfl,fun b hb=> ?_⟩;rcases agX.1 hb with rfl|hb
  ·exact ha
  ·exact hr b hb
end
def II(P:Program)(S:List TypeId):Bool:=S.all fun t=>match P.underlying t with
 |some .bool|some (.int _)|some .string=>true
 |some (.slice e)=>S.contains e&&(decide (0<P.cellsOf e)&&decide (0<P.bytesOf e))
 |some (.struct fs)=>P.consecB fs.toList 0 (P.cellsOf t)&&fs.toList.all fun f=>S.contains f.type
 |_=>false
def jq(S:Nat→Nat→Prop)(w:World)(cs:List Value)(xs:List D):Prop:=xs.length=cs.length∧∀(i:Nat)(u:Value)(x:D),cs[i]?=some u→xs[i]?=some x→dC S w u x∧u.oneCell'=true
theorem jq.nil{S:Nat→Nat→Prop}{w:World}:jq S w [] []:=⟨rfl,fun i u x h=>by simp at h⟩
theorem jq.one{S:Nat→Nat→Prop}{w:World}{u:Value}{x:D}(h:dC S w u x)(h1:u.oneCell'=true):jq S w [u] [x]:=⟨rfl,fun i v y hv hy=>by
 cases i with
 |zero=>cases hv;cases hy;exact⟨h,h1⟩
 |succ i=>simp at hv⟩
theorem jq.app{S:Nat→Nat→Prop}{w:World}{a b:List Value}{x y:List D}(h:jq S w a x)(k:jq S w b y):jq S w (a++b) (x++y):=by
 refine⟨by simp [h.1,k.1],fun i u z hu hz=> ?_⟩;by_cases hi:i<a.length
 ·rw[agD hi]at hu;rw[agD (by rw[h.1];exact hi)]at hz;exact h.2 i u z hu hz
 ·rw[agJ (by omega)]at hu;rw[agJ (by rw[h.1];omega),h.1]at hz;exact k.2 _ u z hu hz
theorem UN{α:Type}{Q:Nat→α→Prop}:∀n:Nat,(∀i,i<n→∃x,Q i x)→∃l:List α,l.length=n∧∀i x,l[i]?=some x→Q i x
 |0,_=>⟨[],rfl,fun i x h=>by simp at h⟩
 |n+1,h=>by
  obtain⟨l,h1,h2⟩:=UN n fun i hi=>h i (by omega);obtain⟨x,hx⟩:=h n (by omega);refine⟨l++[x],by simp [h1],fun i y hy=> ?_⟩;by_cases hi:i<l.length
  ·rw[agD hi]at hy;exact h2 i y hy
  ·rw[agJ (by omega)]at hy;have:i-l.length=0:=by
     by_cases e:i-l.length=0
     ·exact e
     ·rw[agZ (by simp;omega)]at hy;cases hy
   rw[this]at hy;cases hy;have:i=n:=by omega
   rw[this];exact hx
theorem Vg{a:Addr}(h:a.spot=none)(n:Nat):a.add n=⟨a.block,a.off+n,none⟩:=by
 unfold Addr.add;split
 ·next e=>subst e;cases a;simp only at h;subst h;rfl
 ·rfl
section
variable {H:Type} {enc:TypeId×Value→H} {P:Program} {W:World} {Ts:List TypeId}
abbrev tC(W:World):Nat→Nat→Prop:=fun b _=>b<W.heap.size
theorem Y3{S:Nat→Nat→Prop}{w:World}:dC S w (.slice none 0 0) (.sl []):=
 .sl none 0 0 0 0 [] (fun _ _=>undef) (fun h=>absurd rfl h) (agE _) (by simp) (fun _ h=>by cases h) (fun i j hi=>by simp at hi) (fun i j x d hx=>by simp at hx)
theorem P7{e:TypeId}:∀{l:List (DataW H)}{d:DataW H},d∈l→∀n∈d.weights P e,n∈DataW.weightsAll P e l
 |[],_,h,_,_=>by cases h
 |x::l,d,h,n,hn=>by
  simp only[DataW.weightsAll,ag5];rcases agX.1 h with rfl|h
  ·exact .inl hn
  ·exact .inr (P7 h n hn)
theorem Uo{fuel:Nat}(IH:∀(t:TypeId)(cs:List Value)(d:DataW H)(ps:List MemPlace),t∈Ts→(∀n∈d.weights P t,n≤reachBytes)→DataW.trod enc P W 0 (fun _=>true) true fuel t cs=some (d,ps)→∃xs,eD P t xs∧jq (tC W) W cs xs)(cs:List Value):
 ∀(fs:List Field)(off:Nat)(ys:List (DataW H×List MemPlace)),P.consecB fs off cs.length=true→(∀f∈fs,f.type∈Ts)→(∀n∈DataW.weightsEach P (fs.map (·.type)) (ys.map (·.1)),n≤reachBytes)→
  fs.mapM (fun f=>DataW.trod enc P W 0 (fun _=>true) true fuel f.type ((cs.drop f.offset).take (P.cellsOf f.type)))=some ys→
  ∃parts:List (List D),parts.length=fs.length∧(∀(i:Nat)(f:Field)(x:List D),fs[i]?=some f→parts[i]?=some x→eD P f.type x)∧jq (tC W) W (cs.drop off) parts.flatten
 |[],off,ys,hc,_,_,_=>by
  simp only[Program.consecB,beq_iff_eq]at hc;refine⟨[],rfl,fun i f x h=>by simp at h,?_⟩;rw[List.drop_eq_nil_iff.2 (by omega)];exact jq.nil
 |f::fs,off,ys,hc,hS,hw,hm=>by
  simp only[Program.consecB,agv,beq_iff_eq]at hc;obtain⟨J2,hc⟩:=hc;rw[List.mapM_cons]at hm;cases hx:DataW.trod enc P W 0 (fun _=>true) true fuel f.type ((cs.drop f.offset).take (P.cellsOf f.type))with
  |none=>simp [hx]at hm
  |some p=>
   cases kR:fs.mapM (fun f=>DataW.trod enc P W 0 (fun _=>true) true fuel f.type ((cs.drop f.offset).take (P.cellsOf f.type)))with
   |none=>simp [hx,kR]at hm
   |some ps=>
    obtain⟨d,q⟩:=p;obtain rfl:(d,q)::ps=ys:=by simpa [hx,kR]using hm
    simp only[agS,DataW.weightsEach,ag5]at hw;obtain⟨x,h1,h2⟩:=IH f.type _ d q (hS f agz) (fun n hn=>hw n (.inl hn)) hx;obtain⟨parts,k1,k2,k3⟩:=Uo IH cs fs (off+P.cellsOf f.type) ps hc (fun g hg=>hS g (agC _ hg)) (fun n hn=>hw n (.inr hn)) kR;refine⟨x::parts,by simp [k1],fun i g y hg hy=> ?_,?_⟩
    ·cases i with
     |zero=>cases hg;cases hy;exact h1
     |succ i=>exact k2 i g y (by simpa using hg) (by simpa using hy)
    ·rw[List.flatten_cons];rw[J2]at h2;have:=h2.app k3
     rwa [take_drop_step]at this
theorem Np(hT:II P Ts=true):∀(fuel:Nat)(t:TypeId)(cs:List Value)(d:DataW H)(ps:List MemPlace),t∈Ts→(∀n∈d.weights P t,n≤reachBytes)→DataW.trod enc P W 0 (fun _=>true) true fuel t cs=some (d,ps)→∃xs,eD P t xs∧jq (tC W) W cs xs
 |0,t,cs,d,ps,_,_,h=>by simp [DataW.trod]at h
 |fuel+1,t,cs,d,ps,ht,xg,h=>by
  have IH:=Np hT fuel;have lO:=agT.1 hT t ht;unfold DataW.trod at h;split at h
  ·next b e=>exact⟨_, .bool b e,jq.one (.v _) rfl⟩
  ·next k k' n e=>
   split at h
   ·next hk=>obtain⟨rfl,hw⟩:=hk;exact⟨_, .int n e hw,jq.one (.v _) rfl⟩
   ·cases h
  ·next e=>rw[e]at lO;cases lO
  ·next s e=>
   split at h
   ·next hw=>exact⟨_, .str s e hw,jq.one (.v _) rfl⟩
   ·cases h
  ·next e=>rw[e]at lO;cases lO
  ·next e=>rw[e]at lO;cases lO
  ·next e e1=>exact⟨_, .sl [] e1 (Nat.zero_le _) (fun x hx=>absurd hx ag9),jq.one Y3 rfl⟩
  ·next e a len cap e1=>
   rw[e1]at lO;simp only[agv,List.contains_iff_mem,decide_eq_true_eq]at lO;obtain⟨ZZ,It,nG⟩:=lO;simp only at h;split at h
   ·next hb=>
    obtain⟨_,kr,qq⟩:=hb;rw[Option.bind_eq_some_iff]at h;obtain⟨elems,Cr,lY⟩:=h;rw[Option.map_eq_some_iff]at lY;obtain⟨rest,_,lY⟩:=lY;cases lY
    simp only[DataW.weights,e1,agX,ag5,agy]at xg;have hlen:elems.length=len:=by simpa using mapM_some_length Cr
    have hQ:∀i,i<len→∃x:List D,eD P e x∧∃cp,W.cells? 0 (a.add (i*P.cellsOf e)) (P.cellsOf e)=some cp∧jq (tC W) W cp x:=fun i hi=>by
     have h1:=mapM_some_get Cr i i (by simp [hi]);rw[agx (by omega)]at h1;rw[Option.bind_eq_some_iff]at h1;obtain⟨cp,h2,h3⟩:=h1;obtain⟨x,h4,h5⟩:=IH e cp elems[i].1 elems[i].2 ZZ (fun n hn=>xg n (.inr (.inl (P7 (List.mem_map.2 ⟨_,List.getElem_mem _,rfl⟩) n hn)))) h3;exact⟨x,h4,cp,h2,h5⟩
    obtain⟨xs,rN,M9⟩:=UN len hQ;have RH:xs≠ []→a.spot=none:=fun da=>by
     have h0:0<len:=by cases xs with|nil=>exact(da rfl).elim|cons x l=>simp at rN;omega
     obtain⟨x,_,cp,h2,_⟩:=hQ 0 h0;obtain⟨_,h3,h4⟩:=World.cells?_some h2;have h5:=h4 0 It;rw[Nat.zero_mul]at h5;have e0:(a.add 0).add 0=a:=by simp [Addr.add]
     rw[e0,agx (by omega)]at h5;unfold World.cell? at h5;split at h5
     ·split at h5
      ·cases h5
      ·next hn=>simpa using hn
     ·cases h5
    have fV:∀i x,xs[i]?=some x→x.length=P.cellsOf e∧∀j,j<P.cellsOf e→∃u,W.cell? ⟨a.block,a.off+i*P.cellsOf e+j,none⟩=some u∧u.oneCell'=true∧∀d,x[j]?=some d→dC (tC W) W u d:=fun i x hx=>by
     obtain⟨_,cp,h2,h3⟩:=M9 i x hx;obtain⟨_,h4,h5⟩:=World.cells?_some h2;have hs:=RH (fun e=>by rw[e]at hx;simp at hx);refine⟨h3.1.trans h4,fun j hj=> ?_⟩;have h6:=h5 j hj;rw[Vg hs,Vg rfl,agx (by omega)]at h6;have Vo:j<x.length:=by rw[h3.1,h4];exact hj
     have hd:x[j]?=some x[j]:=agx Vo;have h7:=h3.2 j _ _ (agx (by omega)) hd;exact⟨_,h6,h7.2,fun d eR=>by rw[hd]at eR;cases eR;exact h7.1⟩
    have YQ:xs.length≤140737488355328:=by
     have h1:=xg _ (.inl rfl);have h2:(elems.length+rest.length)*1≤(elems.length+rest.length)*P.bytesOf e:=Nat.mul_le_mul_left _ nG;have h3:reachBytes≤140737488355328:=by decide
     omega
    refine⟨[.sl xs], .sl xs e1 YQ (fun x hx=> ?_),jq.one ?_ rfl⟩
    ·obtain⟨i,hi,rfl⟩:=List.mem_iff_getElem.1 hx;exact(M9 i _ (agx hi)).1
    ·rw[←rN];refine .sl (some a) a.block a.off cap (P.cellsOf e) xs (fun i j=>(W.cell? ⟨a.block,a.off+i*P.cellsOf e+j,none⟩).getD undef) (fun da=> ?_) (by omega) qq (fun x hx=> ?_) (fun i j hi hj=> ?_) fun i j x d hx hd=> ?_
     ·have:=RH da;cases a;simp only at this;subst this;rfl
     ·obtain⟨i,hi,rfl⟩:=List.mem_iff_getElem.1 hx;exact(fV i _ (agx hi)).1
     ·obtain⟨u,h1,h2,_⟩:=(fV i _ (agx hi)).2 j hj;refine⟨World.block_lt_of_cell? W ⟨a.block,a.off+i*P.cellsOf e+j,none⟩ h1,?_,?_⟩
      ·rw[h1];rfl
      ·rw[h1];exact h2
     ·obtain⟨hl,hc⟩:=fV i x hx;obtain⟨u,h1,_,h3⟩:=hc j (by rw[←hl];exact(agt.1 hd).1);simp only[h1,Option.getD_some];exact h3 d hd
   ·cases h
  ·next cp fs e1=>
   rw[e1]at lO;simp only[agv,agT,List.contains_iff_mem]at lO;split at h
   ·next hl=>
    rw[Option.map_eq_some_iff]at h;obtain⟨ys,hm,lY⟩:=h;cases lY
    simp only[DataW.weights,e1]at xg;obtain⟨parts,k1,k2,k3⟩:=Uo IH _ fs.toList 0 ys (by rw[hl];exact lO.1) lO.2 xg hm;exact⟨_, .struct parts e1 (by simpa using k1) (fun i f x hf=>k2 i f x (by simpa using hf)),by simpa using k3⟩
   ·cases h
  all_goals first|(cases h;done)|(exfalso;revert lO;(next e=>rw[e];intro h0;cases h0))
theorem XB{t:TypeId}{v:Value}{d:DataW H}{ps:List MemPlace}(hT:II P Ts=true)(hm:t∈Ts)(hw:∀n∈d.weights P t,n≤reachBytes)(h:DataW.Trod enc P W 0 (fun _=>true) true t v d ps):∃xs,eD P t xs∧jq (tC W) W v.cells.toList xs:=
 let ⟨fuel,h⟩:=h
 Np hT fuel t _ d ps hm hw h
theorem af0{t:TypeId}{fs:Array Field}{v:Value}{r:Reach}{base:Nat}(ht:P.underlying t=some (.struct fs))(h:Value.okWide P W r base t v):∃cs,v= .agg cs:=by
 unfold Value.okWide at h;rw[ht]at h;obtain⟨cs,rfl,_⟩:=h;exact⟨cs,rfl⟩
theorem Yj{G:Gh}(hS:G.S=tC W){cs:Array Value}{xs:List D}(h:jq (tC W) W cs.toList xs):aG G W (.agg cs) (.agg (xs.map .d)):=by
 refine .agg cs _ (by rw[agy,h.1,ag0]) fun i u c hu hc=> ?_;rw[agA]at hc;cases hx:xs[i]? with
 |none=>rw[hx]at hc;cases hc
 |some x=>
  rw[hx]at hc;cases hc
  exact .d (hS▸(h.2 i u x (by rw[agQ];exact hu) hx).1)
end
end Go.Proofs.YtphmhnabilhbgaaGreatDoor
