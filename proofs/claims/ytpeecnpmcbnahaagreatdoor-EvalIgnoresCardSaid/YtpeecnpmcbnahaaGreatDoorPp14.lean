/-
  Part 14 of the proof: EvK, EvL, EvM, CnB, EvQ, EvN, EvO, EvP, EvR, EvS, EvRl, EvT, SdA, SdB, SdV, EvU, EvW, EvX, OpenT, EvAbs, EvV, EvIgnoresAbs.
-/
import Derived.Test.YtpeecnpmcbnahaaGreatDoorPp13
namespace Go.Proofs.YtpeecnpmcbnahaaGreatDoor
open Go.RowKit
set_option maxRecDepth 100000
set_option linter.unusedSimpArgs false
set_option linter.unusedVariables false
def ic:apf Int->Int->apf Int×Int
 |[],n=>([],n)
 |x::l,n=>((ic l n).2.tmod x::(ic l n).1,(ic l n).2.tdiv x)
def oT(ext:apf Int)(n:Int):apf Int:=(ic ext n).1
theorem Kz:∀(l:apf Int)(n:Int),(ic l n).1.length=l.length
 |[],_=>rfl
 |x::l,n=>by rw[ic];simp only[aou];rw[Kz l n]
theorem aip(l:apf Int)(n:Int):(oT l n).length=l.length:=Kz l n
structure qa(l:List Int):Prop where
 r:∀x∈l,1<=x/\x<=4096
 n:l.length<=16
 p:c8 l<=65536
theorem Kb:∀{l:apf Int}{n:Int},(∀x∈l,1<=x/\x<=4096)->0<=n->n<=65537->(0<=(ic l n).2/\(ic l n).2<=65537)/\∀x∈(ic l n).1,0<=x/\x<4096
 |[],n,_,J,h2=>⟨⟨J,h2⟩,λx hx=>by cases hx⟩
 |x::l,n,h,J,h2=>by
  obtain⟨⟨a1,a2⟩,a3⟩:=Kb (l:=l) (λy hy=>h y (aoA _ hy)) J h2;have hx:=h x aox;rw[ic];refine⟨⟨Int.tdiv_nonneg a1 (by omega),?_⟩,λy hy=> ?_⟩
  ·rw[Int.tdiv_eq_ediv_of_nonneg a1];exact Int.le_trans (Int.ediv_le_self _ a1) a2
  ·rcases aoV.1 hy with rfl|hy
   ·rw[Int.tmod_eq_emod_of_nonneg a1];have:=Int.emod_nonneg (ic l n).2 (show x≠0 by omega);have:=Int.emod_lt_of_pos (ic l n).2 (show 0<x by omega);omega
   ·exact a3 y hy
theorem agK{l:apf Int}{n:Int}(h:∀x∈l,1<=x/\x<=4096)(J:0<=n)(h2:n<=65537):∀x∈oT l n,0<=x/\x<4096:=(Kb h J h2).2
theorem Mv{α:Type}{l:apf α}{j:Nat}{x:α}(h:l[j]?=some x):l.drop j=x::l.drop (j+1):=by
 obtain⟨hj,rfl⟩:=aor.1 h;exact List.drop_eq_getElem_cons hj
theorem ajZ{α:Type}(a b:α)(j:Nat)(l:apf α):(List.replicate (j+1) a++l).set j b=List.replicate j a++(b::l):=by
 rw[List.replicate_succ',aoI,List.set_append_right _ _ (by simp)];simp
theorem aff{α:Type}(a:α)(j:Nat)(l:apf α):(List.replicate (j+1) a++l)[j]?=some a:=by
 rw[aoB (by simp)];simp [List.getElem?_replicate]
theorem aaO{z:Int}(J:0<=z)(h2:z<=65537):IntKind.i64.wrap z=z:=by
 rw[IntKind.wrap_i64];omega
theorem Tj(N:Nat)(ext:apf Int)(n:Int)(h:∀x∈ext,1<=x/\x<=4096)(J:0<=n)(h2:n<=65537):∀(j f:Nat),j<=ext.length->j<f->j<=1000->
 yC N ext f (ic (ext.drop j) n).2 ((j:Int)-1) (List.replicate j 0++(ic (ext.drop j) n).1)=some (oT ext n,true)
 |0,f,hj,hf,_=>by
  obtain⟨f,rfl⟩:∃f',f=f'+1:=⟨f-1,by omega⟩;rw[yC,ao9 (by decide),cond_false,ao0,List.replicate_zero,List.nil_append,show Nat.beq (ic ext n).1.length ext.length=true by rw[Kz];exact Nat.beq_refl _];rfl
 |j+1,f,hj,hf,hs=>by
  obtain⟨f,rfl⟩:∃f',f=f'+1:=⟨f-1,by omega⟩;obtain⟨x,hx⟩:∃x,ext[j]?=some x:=⟨_,aov (by omega)⟩;have hr:=h x (aoE hx);have hd:=Mv hx;have hq:=(Kb (l:=ext.drop (j+1)) (n:=n) (λy hy=>h y (List.mem_of_mem_drop hy)) J h2).1;rw[yC,show((j+1:Nat):Int)-1=(j:Int) by omega,ao8 (show(j:Int)>=0 by omega),cond_true,cond_true,aoS,hx,aoq,bne_iff_ne.2 (show x≠0 by omega),cond_true];have hb:(List.replicate (j+1) (0:Int)++(ic (ext.drop (j+1)) n).1).length=ext.length:=by
   rw[aos,ao1,Kz,List.length_drop];omega
  rw[hb,Nat.beq_refl,cond_true,ao8 (show(j:Int)<(ext.length:Int) by omega),cond_true,aff,aoq,ajZ];have e1:IntKind.i64.wrap ((ic (ext.drop (j+1)) n).2.tdiv x)=(ic (ext.drop j) n).2:=by
    have e:=(Kb (l:=ext.drop j) (n:=n) (λy hy=>h y (List.mem_of_mem_drop hy)) J h2).1;rw[hd,ic]at e ⊢;exact aaO e.1 e.2
  have e2:(ic (ext.drop (j+1)) n).2.tmod x::(ic (ext.drop (j+1)) n).1=(ic (ext.drop j) n).1:=by rw[hd,ic]
  rw[e1,e2,jd (by omega) (by omega)];exact Tj N ext n h J h2 j f (by omega) (by omega) (by omega)
theorem ZS(N:Nat)(ext:apf Int):∀(l:apf Int)(k:Nat),(∀x∈l,1<=x/\x<=4096)->Ji N ext l k false=Be N false ext 0 1
 |[],k,_=>rfl
 |x::l,k,h=>by
  have hx:=h x aox;rw[Ji,ao9 (show ¬x<0 by omega),cond_false,cond_false,aoq];dsimp only;rw[show(x==0)=false by rw[beq_eq_false_iff_ne];omega];exact ZS N ext l (k+1) λy hy=>h y (aoA _ hy)
theorem TH(N:Nat):∀(l:apf Int)(k:Nat)(v:Int),(∀x∈l,1<=x/\x<=4096)->1<=v->v*c8 l<=65536->Be N false l k v=some 0
 |[],k,v,_,_,_=>rfl
 |x::l,k,v,h,J,h2=>by
  have hx:=h x aox;have hp:=sX (l:=l) λy hy=>h y (aoA _ hy);rw[c8,<-Int.mul_assoc]at h2;have lA:1*1<=v*x:=Int.mul_le_mul J hx.1 (by decide) (by omega);have iL:v*x*1<=v*x*c8 l:=Int.mul_le_mul_of_nonneg_left hp (by omega);have jZ:v*1<=v*x:=Int.mul_le_mul_of_nonneg_left hx.1 (by omega);have hd:x<=(65536:Int).tdiv v:=by
   rw[Int.tdiv_eq_ediv_of_nonneg (by decide)];refine(Int.le_ediv_iff_mul_le (by omega)).2 ?_;rw[Int.mul_comm];omega
  have nB:(65536:Int).tdiv v<=65536:=by
   rw[Int.tdiv_eq_ediv_of_nonneg (by decide)];exact Int.ediv_le_self _ (by decide)
  rw[Be,cond_false,bne_iff_ne.2 (show v≠0 by omega),cond_true,aoq,aaO (by omega) (by omega),ao9 (show ¬x>(65536:Int).tdiv v by omega),cond_false,cond_false,jd (by omega) (by omega)];exact TH N l (k+1) (v*x) (λy hy=>h y (aoA _ hy)) (by omega) h2
theorem Uf(N:Nat):∀(l:apf Int)(k:Nat)(v:Int),(∀x∈l,1<=x/\x<=4096)->1<=v->v*c8 l<=65536->Au N l k v=some (v*c8 l)
 |[],k,v,_,_,_=>by rw[Au,c8,Int.mul_one]
 |x::l,k,v,h,J,h2=>by
  have hx:=h x aox;have hp:=sX (l:=l) λy hy=>h y (aoA _ hy);rw[c8,<-Int.mul_assoc]at h2 ⊢;have lA:1*1<=v*x:=Int.mul_le_mul J hx.1 (by decide) (by omega);have iL:v*x*1<=v*x*c8 l:=Int.mul_le_mul_of_nonneg_left hp (by omega);rw[Au,jd (by omega) (by omega)];exact Uf N l (k+1) (v*x) (λy hy=>h y (aoA _ hy)) (by omega) h2
theorem Y0(N:Nat)(ext:apf Int):∀(l:apf Int)(k:Nat),(∀x∈l,1<=x/\x<=4096)->JJ N ext l k=Au N ext 0 1
 |[],k,_=>rfl
 |x::l,k,h=>by
  have hx:=h x aox;rw[JJ,show(x==0)=false by rw[beq_eq_false_iff_ne];omega,cond_false];exact Y0 N ext l (k+1) λy hy=>h y (aoA _ hy)
theorem Vt(N:Nat)(l:apf Int)(h:qa l):EH N l=some (c8 l):=by
 have hn:=h.n;unfold EH Of;rw[ao9 (show ¬(l.length:Int)>16 by omega),cond_false,ZS N l l 0 h.r,TH N l 0 1 h.r (by decide) (by rw[Int.one_mul];exact h.p),aoq,show((0:Int) !=0)=false from rfl,cond_false,Y0 N l l 0 h.r,Uf N l 0 1 h.r (by decide) (by rw[Int.one_mul];exact h.p),Int.one_mul]
theorem adE(N:Nat)(hN:2147483648<N)(l:apf Int)(h:qa l)(n:Int)(J:0<=n)(h2:n<c8 l):E1 N l n=some (oT l n,true):=by
 have hn:=h.n;have hp:=h.p;unfold E1;rw[ao9 (show ¬n<0 by omega),cond_false,Vt N l h,aoq,ao9 (show ¬n>=c8 l by omega),aoq,cond_false,fz (by omega),cond_true];have:=Tj N l n h.r J (by omega) l.length N (aoC _) (by omega) (by omega);rw[List.drop_length,ic]at this;rw[jd (by omega) (by omega)]
 simpa using this
def nf(l:apf Int)(k n:Nat):apf (apf Int):=(List.range' k n).map λ(i:Nat)=>oT l (i:Int)
theorem Lr(l:apf Int)(k n:Nat):nf l k (n+1)=oT l (k:Int)::nf l (k+1) n:=by
 unfold nf;rw[List.range'_succ,aoQ]
theorem Th(N:Nat)(hN:2147483648<N)(l:apf Int)(h:qa l):∀(n k:Nat),(k:Int)+n<=c8 l->BT N l n k=some (nf l k n)
 |0,k,_=>rfl
 |n+1,k,hk=>by
  rw[BT,adE N hN l h (k:Int) (by omega) (by omega),aoq,cond_true,Th N hN l h n (k+1) (by omega),aoq,Lr]
theorem WI(N:Nat)(hN:2147483648<N)(l:apf Int)(h:qa l):EB N l=some (nf l 0 (c8 l).toNat):=by
 have hp:=h.p;have h0:=sX h.r;unfold EB;rw[Vt N l h,aoq,ao8 (show(0:Int)<=c8 l by omega),fz (show(c8 l).toNat<=9223372036854775807 by omega),Bool.and_self,cond_true];exact Th N hN l h _ 0 (by omega)
theorem Xs(N:Nat)(l:apf Int)(h:qa l):BH N l=some l:=by
 have hn:=h.n;unfold BH;rw[fz (by omega),cond_true]
def mr(names:apf apg)(pt:apf Int):apf aI:=List.zipWith (λs v=>(⟨s,Int64.ofInt v⟩:aI)) names pt
theorem agy(names:apf apg)(pt:apf Int)(h:names.length=pt.length):(mr names pt).length=names.length:=by
 unfold mr;rw[List.length_zipWith];omega
theorem aaL(N:Nat)(env:apf aI)(pt:apf Int)(hp:∀x∈pt,0<=x/\x<4096)(he:env.length<=1000000000):∀(l:apf dg)(k:Nat)(acc:apf aI),l.length+k=pt.length->acc.length+l.length<=1000000000->Gc N env pt l k acc=some (acc++mr (l.map (·.au)) (pt.drop k)++env)
 |[],k,acc,_,ha=>by
  rw[Gc,fz (by simp only[aoD]at ha;omega),cond_true];unfold mr;simp
 |x::l,k,acc,hl,ha=>by
  simp only[aou]at hl ha;obtain⟨v,hv⟩:∃v,pt[k]?=some v:=⟨_,aov (by omega)⟩;have hr:=hp v (aoE hv);rw[Gc,aoS,hv,aoq,jd (by omega) (by omega),apa,cond_true,fz (by omega),cond_true];dsimp only;rw[aaL N env pt hp he l (k+1) _ (by omega) (by simp only[aos,aou,aoD];omega),Mv hv];unfold mr;simp
theorem Y3(N:Nat)(l:apf dg)(pt:apf Int)(env:apf aI)(hl:l.length=pt.length)(J:l.length<=1000000)(hp:∀x∈pt,0<=x/\x<4096)(he:env.length<=1000000000):IC N l pt env=some (mr (l.map (·.au)) pt++env):=by
 have:=aaL N env pt hp he l 0 [] (by omega) (by simp only[aoD];omega);rw[ao0,List.nil_append]at this;exact this
theorem abf:∀{ext:apf Int}{n:Int}{e:Int},ext[ext.length-1]?=some e->(oT ext n)[ext.length-1]?=some (n.tmod e)
 |[],n,e,h=>by simp at h
 |[x],n,e,h=>by
  simp only[aou,aoD,aoL,Nat.sub_self,List.getElem?_cons_zero,Option.some.injEq]at h;subst h;rfl
 |x::y::l,n,e,h=>by
  have h':(y::l)[(y::l).length-1]?=some e:=by
   simp only[aou,Nat.add_sub_cancel]at h ⊢
   rwa [ao2]at h
  have:=abf (n:=n) h';simp only[aou,Nat.add_sub_cancel]at this ⊢;show(((ic (y::l) n).2.tmod x::(ic (y::l) n).1):apf Int)[l.length+1]?=_;rw[ao2];exact this
def oK:apf cJ->apf apg
 |[]=>[]
 |x::l=>bif bL x.cP==bL (bs [])then oK l else x.cP::oK l
def SK(e:aw):apf apg:=(bif e.az==3 then[e.au]else[])++oK e.xIdx
def qM:apf aw->apf apg
 |[]=>[]
 |e::l=>SK e++qM l
theorem Tg:∀l:apf cJ,(oK l).length<=l.length
 |[]=>aoC _
 |x::l=>by
  have:=Tg l;rw[oK];cases bL x.cP==bL (bs [])with
  |true=>simp only[cond_true,aou];omega
  |false=>simp only[cond_false,aou];omega
theorem Zn(B:Nat):∀l:apf aw,(∀x∈l,x.xIdx.length<=B)->(qM l).length<=l.length*(B+1)
 |[],_=>by simp [qM]
 |e::l,h=>by
  have J:=Zn B l λx hx=>h x (aoA _ hx);have h2:=h e aox;have h3:=Tg e.xIdx;rw[qM];unfold SK;simp only[aos,aou,Nat.succ_mul];have h4:(bif e.az==3 then[e.au]else[]).length<=1:=by cases e.az==3<;>simp
  omega
theorem Mf(N:Nat)(c:Nat->apf apg->aph (apf apg)):∀(l:apf cJ)(k:Nat)(acc:apf apg),acc.length+(oK l).length<=1000000000->rQ N c l k acc.length acc=c (acc++oK l).length (acc++oK l)
 |[],k,acc,_=>by rw[rQ,oK,aoM]
 |x::l,k,acc,h=>by
  rw[rQ];rw[oK]at h ⊢;cases hb:(bL x.cP==bL (bs []))with
  |true=>
   rw[hb,cond_true]at h;rw[cond_true,cond_true];exact Mf N c l (k+1) acc h
  |false=>
   rw[hb,cond_false,aou]at h;rw[cond_false,cond_false,Nat.beq_refl,cond_true,fz (by omega),cond_true];have:=Mf N c l (k+1) (acc++[x.cP]) (by simp only[aos,aou,aoD];omega);rw[show acc++x.cP::oK l=(acc++[x.cP])++oK l by simp,<-this,aos];rfl
theorem Nx(N:Nat):∀(l:apf aw)(acc:apf apg),acc.length+(qM l).length<=1000000000->nE N l acc.length acc=some (jC (acc++qM l))
 |[],acc,h=>by
  rw[nE,qM,aoM];unfold Pw;rw[Nat.beq_refl,show Nat.blt acc.length 4611686018427387904=true from Nat.ble_eq_true_of_le (by omega)];rfl
 |e::l,acc,h=>by
  rw[nE];rw[qM]at h ⊢;unfold SK at h ⊢;simp only[aos]at h;cases hb:(e.az==3)with
  |true=>
   rw[hb]at h;simp only[cond_true,aou,aoD]at h;rw[cond_true,cond_true,Nat.beq_refl,cond_true,fz (by omega),cond_true];unfold A2;have q:=Mf N (λcg fi=>nE N l cg fi) e.xIdx 0 (acc++[e.au]) (by simp only[aos,aou,aoD];omega);rw[show(acc++[e.au]).length=acc.length+1 by simp]at q;rw[q,Nx N l _ (by simp only[aos,aou,aoD];omega)];simp
  |false=>
   rw[hb]at h;simp only[cond_false,aoD]at h;rw[cond_false,cond_false];unfold A2;have q:=Mf N (λcg fi=>nE N l cg fi) e.xIdx 0 acc (by omega);rw[q,Nx N l _ (by simp only[aos];omega)];simp
theorem amd{e:aw}(h:mu e=0):(dE e).length<=2000:=by
 unfold mu at h;cases J:decide (40<jl 40 e)with
 |true=>rw[J]at h;cases h
 |false=>
  rw[J,cond_false]at h;cases h2:decide (2000<(dE e).length)with
  |true=>rw[h2]at h;cases h
  |false=>rw[decide_eq_false_iff_not]at h2;omega
noncomputable def Ft(e:aw):apf apg:=jC (qM (dE e))
theorem afL(N:Nat)(e:aw)(hv:mu e=0)(hl:ik 400 e):Ed N e=some (Ft e):=by
 have hc:=amd hv;have hb:=Zn 400 (dE e) λx hx=>(hl x hx).idx;have fu:(qM (dE e)).length<=1000000:=by
  have:(dE e).length*(400+1)<=2000*401:=Nat.mul_le_mul hc (aoC _);omega
 unfold Ed yM;rw[aoq];have:=Nx N (dE e) [] (by simp only[aoD];omega);rw[List.nil_append]at this;exact this
def xb(f:Int):Int:=bif f==1||f==5 then 4 else bif f==2 then 6 else bif f==3 then 9 else 10
def yu(f:Int)(t:aM)(a b:aD):Except Int aD:=
 bif decide (1<=f)&&decide (f<=5)then
  (bif dJ t a&&dJ t b then(bif (qc (xb f) t a b).2 !=0 then .error (qc (xb f) t a b).2 else .ok (qc (xb f) t a b).1)else .error 1)
 else .error 1
def AgD(r:Except Int aD)(q:aD×Int):Prop:=match r with
 | .ok x=>q=(x,0)
 | .error z=>q.2=z/\z≠0
theorem aj4(N:Nat)(f:Int):HA N f=some (bif decide (1<=f)&&decide (f<=5)then(xb f,true)else(0,false)):=by
 unfold HA JV xb;by_cases h:1<=f/\f<=5
 ·rw[ao8 h.1,ao8 h.2];have:f=1\/f=2\/f=3\/f=4\/f=5:=by omega
  rcases this with h|h|h|h|h<;>rw[h]<;>rfl
 ·have e:(decide (1<=f)&&decide (f<=5))=false:=by
   by_cases J:1<=f
   ·rw[ao9 (show ¬f<=5 by omega),Bool.and_false]
   ·rw[ao9 J];rfl
  rw[e,show(f==1)=false by rw[beq_eq_false_iff_ne];omega,show(f==2)=false by rw[beq_eq_false_iff_ne];omega,show(f==3)=false by rw[beq_eq_false_iff_ne];omega,show(f==4)=false by rw[beq_eq_false_iff_ne];omega,show(f==5)=false by rw[beq_eq_false_iff_ne];omega];rfl
theorem UY(N:Nat)(hN:9223372036854775808<N)(f:Int)(t:aM)(a b:aD)(ht:db t=true):∃q,B6 N f t [a,b]=some q/\AgD (yu f t a b) q:=by
 unfold B6 yu;rw[aj4,aoq];cases hf:(decide (1<=f)&&decide (f<=5))with
 |false=>exact⟨_,rfl,rfl,by decide⟩
 |true=>
  rw[cond_true,cond_true,cond_true,pw,aoq,ht,cond_true];show ∃q,Option.bind (mD N t a) _=some q/\_;rw[ql N (by omega) t a ht,aoq];cases J:dJ t a with
  |false=>exact⟨_,rfl,rfl,by decide⟩
  |true=>
   rw[cond_true];show ∃q,Option.bind (mD N t b) _=some q/\_;rw[ql N (by omega) t b ht,aoq];cases h2:dJ t b with
   |false=>exact⟨_,rfl,rfl,by decide⟩
   |true=>
    rw[cond_true];show ∃q,Option.bind (vO N (xb f) t a b) _=some q/\_;rw[Nt N hN,aoq];cases h3:((qc (xb f) t a b).2 !=0)with
    |true=>exact⟨_,rfl,rfl,by simpa using h3⟩
    |false=>exact⟨_,rfl,rfl⟩
theorem X6(N:Nat)(v:apf Int):∀(l:apf Int)(k:Nat),LX N v l k=uV N v l k
 |[],_=>rfl
 |x::l,k=>by rw[LX,uV,X6 N v l (k+1)]
theorem acF(N:Nat)(a b:apf Int):JY N a b=uh N a b:=by
 unfold JY uh;rw[X6]
theorem ZK(N:Nat)(v:apf Int):∀(l:apf Int)(k:Nat),l.length+k<=v.length->∃b,uV N v l k=some b
 |[],_,_=>⟨_,rfl⟩
 |x::l,k,h=>by
  simp only[aou]at h;rw[uV,aoS,aov (show k<v.length by omega),aoq];cases x !=v[k]with
  |true=>exact⟨_,rfl⟩
  |false=>exact ZK N v l (k+1) (by omega)
theorem amf(N:Nat)(a b:apf Int):∃q,uh N a b=some q:=by
 unfold uh;cases h:((a.length:Int) !=(b.length:Int))with
 |true=>exact⟨_,rfl⟩
 |false=>
  rw[bne_eq_false_iff_eq]at h;exact ZK N b a 0 (by omega)
theorem XG(N:Nat)(hN:2147483648<N)(mem:apf aG)(s:apg)(t:aM)(d:apf Int):∃x,ui N mem s t d=some x/\(x=0->∃y,eD mem s=some y/\lf y=true/\y.aB=t):=by
 unfold ui;rw[BJ,aoq];cases hf:eD mem s with
 |none=>exact⟨9,rfl,λh=>by cases h⟩
 |some y=>
  simp only[cond_true];obtain⟨e1,J,h2⟩:=Z0 N hN y;rw[J,aoq,h2];cases ht:lf y with
  |false=>exact⟨1,rfl,λh=>by cases h⟩
  |true=>
   simp only[Bool.not_true,cond_false];show ∃x,(bif kR y.aB t then _ else _)=some x/\_;cases nN:kR y.aB t with
   |false=>exact⟨10,rfl,λh=>by cases h⟩
   |true=>
    obtain⟨b,hb⟩:=amf N y.aU d;rw[acF,hb];cases b with
    |true=>exact⟨0,rfl,λ_=>⟨y,rfl,ht,ama.1 nN⟩⟩
    |false=>exact⟨15,rfl,λh=>by cases h⟩
theorem alP(p:aV)(env:apf aI)(s:apg):(gd p env s).2.1=(dN p.aY p.aO s).1:=by
 unfold gd;dsimp only;cases (dN p.aY p.aO s).2.2 with
 |false=>rfl
 |true=>
  rw[cond_true];cases (extE env (dN p.aY p.aO s).2.1 []).2 !=0 with
  |true=>rfl
  |false=>cases decide (c8 (extE env (dN p.aY p.aO s).2.1 []).1>4096)<;>rfl
def E6(p:aV)(mem:apf aG)(s:apg):Prop:=∃y,eD mem s=some y/\lf y=true/\y.aB=(dN p.aY p.aO s).1
theorem Ui(N:Nat)(hN:2147483648<N)(p:aV)(env:apf aI)(mem:apf aG)(hP:lJ p.aY)(hD:gX p.aO):∀(l:apf apg)(k:Nat),∃x,HU N p env mem l k=some x/\(x=0->∀s∈l,E6 p mem s)
 |[],k=>⟨0,rfl,λ_ s hs=>by cases hs⟩
 |s::l,k=>by
  rw[HU,M8 N hN p env s hP hD,aoq];cases J:((gd p env s).2.2 !=0)with
  |true=>exact⟨_,rfl,λh=>by have h':(gd p env s).2.2=0:=h;rw[h']at J;cases J⟩
  |false=>
   rw[cond_false];obtain⟨x,q1,q3⟩:=XG N hN mem s (gd p env s).2.1 (gd p env s).1;rw[q1,aoq];cases hx:x !=0 with
   |true=>exact⟨x,rfl,λh=>by rw[h]at hx;cases hx⟩
   |false=>
    obtain⟨z,z1,z3⟩:=Ui N hN p env mem hP hD l (k+1);refine⟨z,z1,λh u hu=> ?_⟩;rcases aoV.1 hu with rfl|hu
    ·have:=q3 (by simpa using hx)
     rwa [alP]at this
    ·exact z3 h u hu
theorem ail(N:Nat)(hN:2147483648<N)(p:aV)(env:apf aI)(mem:apf aG)(hP:lJ p.aY)(hD:gX p.aO)(d:bD)(hv:mu d.bV=0)(hl:ik 400 d.bV):∃x,KZ N p env mem d.bV=some x/\(x=0->∀s∈Ft d.bV,E6 p mem s):=by
 unfold KZ;rw[afL N d.bV hv hl,aoq];exact Ui N hN p env mem hP hD _ 0
theorem ac6{l:apf apg}{s:apg}:cS l s=true↔s∈l:=by
 unfold cS;rw[List.any_eq_true];constructor
 ·rintro⟨w,hw,e⟩;rw[beq_iff_eq]at e;rw[<-L9 e];exact hw
 ·intro h;exact⟨s,h,by simp⟩
theorem aaY{α:Type}{f:α->Int}:∀{l:apf α},fU f l=0->∀x∈l,f x=0
 |x::l,h,y,hy=>by
  rw[fU]at h;cases e:f x !=0 with
  |true=>rw[e]at h;simp only[cond_true]at h;rw[h]at e;cases e
  |false=>
   rw[e]at h;simp only[cond_false]at h;rcases aoV.1 hy with rfl|hy
   ·exact jr e
   ·exact aaY h y hy
def He(S:apf apg):apf apg->apf dX->Prop
 |_,[]=>True
 |T,x::l=>tW S T x=0/\He S (T++[x.au]) l
def NZ:apf apg->apf bD->Prop
 |_,[]=>True
 |T,d::l=>iI T d.au=0/\NZ (T++[d.au]) l
structure VP(p:aV):Prop where
 names:qV [] p.bm=0
 wh:∀c∈p.dF,iF p.bm c.bx=0
 Yb:He p.bm [] p.aY
 defs:NZ (p.bm++p.aY.map (·.au)) p.aO
 outs:∀s∈p.di,s∈p.aY.map (·.au)++p.aO.map (·.au)
section
variable {N:Nat} {p:aV}
theorem ZP(hD:gX p.aO):∀(l:apf apg)(k:Nat)(at_:Int){a:Int},qo N p l k at_=some (a,0)->∀s∈l,s∈p.aY.map (·.au)++p.aO.map (·.au)
 |s::l,k,at_,a,h,y,hy=>by
  rw[qo,Fe N p s hD,aoq,QR]at h;cases e:cS (p.aY.map (·.au)++p.aO.map (·.au)) s with
  |false=>rw[e]at h;cases h
  |true=>
   rw[e]at h;simp only[cond_true]at h;obtain⟨_,h⟩:=vt h;rw[yV,aoq]at h;cases e2:cS ((p.di.take ((k:Int)).toNat).drop 0) s with
   |true=>rw[e2]at h;cases h
   |false=>
    rw[e2]at h;rcases aoV.1 hy with rfl|hy
    ·exact ac6.1 e
    ·exact ZP hD l (k+1) (aQ (at_+1)) h y hy
theorem adt(hN:16<N){k:Nat}{d:bD}{T:apf apg}(hd:p.aO[k]?=some d)(h:vT N p (k:Int) T=some 0):iI T d.au=0:=by
 unfold vT at h;obtain⟨_,h⟩:=vt h;rw[aoS,hd,aoq,AP N hN,aoq]at h;cases e:iI T d.au !=0 with
 |false=>exact jr e
 |true=>rw[e]at h;simp only[cond_true]at h;rw[aoK h]at e;cases e
theorem Zu(hN:16<N):∀(l:apf bD)(k:Nat)(at_:Int)(T:apf apg){a:Int},p.aO.drop k=l->oP N p l k T at_=some (a,0)->NZ T l/\∃at' a',qo N p p.di 0 at'=some (a',0)
 |[],k,at_,T,a,_,h=>⟨trivial,at_,a,h⟩
 |d::l,k,at_,T,a,hk,h=>by
  rw[oP]at h;obtain⟨x,e,h⟩:=cp h;cases e2:x !=0 with
  |true=>rw[e2]at h;simp only[cond_true]at h;rw[(Prod.mk.inj (aoK h)).2]at e2;cases e2
  |false=>
   rw[e2]at h;obtain⟨_,h⟩:=vt h;have hx:=jr e2;rw[hx]at e;obtain⟨k1,k2⟩:=Zu hN l (k+1) _ _ (pf hk) h;exact⟨⟨adt hN (bI hk) e,k1⟩,k2⟩
theorem ML(hN:16<N):∀(l:apf dX)(k:Nat)(at_:Int)(T:apf apg){a:Int},lJ l->sb N p l k (p.bm++T) at_=some (a,0)->He p.bm T l/\∃at' a',oP N p p.aO 0 (p.bm++(T++l.map (·.au))) at'=some (a',0)
 |[],k,at_,T,a,_,h=>⟨trivial,at_,a,by rw[List.map_nil,aoM];exact h⟩
 |x::l,k,at_,T,a,hl,h=>by
  rw[sb,Ut N hN x p.bm T (λy hy=>(hl.lk x aox y hy).ok),aoq]at h;cases e2:tW p.bm T x !=0 with
  |true=>rw[e2]at h;simp only[cond_true]at h;rw[(Prod.mk.inj (aoK h)).2]at e2;cases e2
  |false=>
   rw[e2]at h;obtain⟨_,h⟩:=vt h;dsimp only at h;rw[aoI]at h;obtain⟨k1,k2⟩:=ML hN l (k+1) _ (T++[x.au]) ⟨λy hy=>hl.len y (aoA _ hy),λy hy=>hl.lk y (aoA _ hy)⟩ h;rw[aoI]at k2;exact⟨⟨jr e2,k1⟩,k2⟩
theorem ajF(hN:16<N)(B:Bd N p){a:Int}(h:yJ N p=some (a,0)):VP p:=by
 have hs:=B.s;unfold yJ K7 at h;rw[Qq,aoq]at h;cases e:wg p with
 |false=>rw[e]at h;cases h
 |true=>
  rw[e]at h;simp only[Bool.not_true,cond_false]at h;rw[Jd hN p.bm 0 rfl,aoq,List.take_zero]at h;cases ez:qV [] p.bm !=0 with
  |true=>rw[ez]at h;simp only[cond_true]at h;rw[(Prod.mk.inj (aoK h)).2]at ez;cases ez
  |false=>
   rw[ez]at h;simp only[cond_false]at h;rw[ID hN hs p.dF 0 B.W]at h;cases ew:fU (λc:gF=>iF p.bm c.bx) p.dF !=0 with
   |true=>rw[ew]at h;simp only[cond_true]at h;rw[(Prod.mk.inj (aoK h)).2]at ew;cases ew
   |false=>
    rw[ew]at h;simp only[cond_false]at h;obtain⟨k1,NW,a1,J⟩:=ML hN p.aY 0 2 [] B.P (by rw[aoM];exact h);rw[List.nil_append]at J;obtain⟨k2,Ep,a2,h2⟩:=Zu hN p.aO 0 NW _ rfl J;exact⟨jr ez,aaY (jr ew),k1,k2,ZP B.D p.di 0 Ep h2⟩
end
structure DQ(N:Nat)(p:aV)(k:Nat)(T:List ByteArray)(d:bD):Prop where
 name:iI T d.au=0
 type:db d.aB=true
 l1:d.aU.length<=6
 l2:d.bY.length<=6
 ami:qC p.bm [] (d.aU++d.bY)=0
 fold:uz d=0
 tp:∃t:aM,vN N (⟨p.bm,[],p.aY,((p.aO.take k).drop 0),[]⟩:aV) (SR d) d.bV=some (t,0)/\((t.bk==d.aB.bk)&&((t.cf==d.aB.cf)&&((t.bQ==d.aB.bQ)&&((t.cq==d.aB.cq)&&((t.ct==d.aB.ct)&&true)))))=true
structure VQ(N:Nat)(p:aV):Prop where
 names:qV [] p.bm=0
 wh:∀c∈p.dF,iF p.bm c.bx=0
 Yb:He p.bm [] p.aY
 defs:∀k d,p.aO[k]?=some d->DQ N p k (p.bm++p.aY.map (·.au)++(p.aO.take k).map (·.au)) d
 outs:∀k s,p.di[k]?=some s->cS (p.aY.map (·.au)++p.aO.map (·.au)) s=true/\cS (p.di.take k) s=false
theorem abT{c m:Nat}{α:Type}{x:aph α}{z:α}(h:(bif Nat.ble c m then x else none)=some z):x=some z:=by
 cases e:Nat.ble c m with
 |false=>rw[e]at h;cases h
 |true=>rw[e]at h;exact h
theorem WX{b:Bool}{α:Type}{x:aph α}{z:α}(h:(bif b then x else none)=some z):b=true/\x=some z:=by
 cases b with
 |false=>cases h
 |true=>exact⟨rfl,h⟩
theorem Kg{a:Int}{x:aph Int}(h:(bif a !=0 then some a else x)=some 0):a=0/\x=some 0:=by
 cases e:a !=0 with
 |true=>rw[e]at h;simp only[cond_true]at h;rw[aoK h]at e;cases e
 |false=>rw[e]at h;exact⟨jr e,h⟩
section
variable {N:Nat} {p:aV}
theorem akn(hN:16<N){k:Nat}{d:bD}{T:apf apg}(hd:p.aO[k]?=some d)(hs:p.bm.length<=1000)(hx:∀x∈d.aU++d.bY,j7 x.dR)(h:vT N p (k:Int) T=some 0):DQ N p k T d:=by
 unfold vT at h;obtain⟨_,h⟩:=WX h;rw[aoS,hd,aoq,AP N hN,aoq]at h;obtain⟨n1,h⟩:=Kg h;rw[Hc,aoq]at h;cases e1:db d.aB with
 |false=>rw[e1]at h;cases h
 |true=>
  rw[e1,cond_true,xJ,xJ,mL,aoq]at h;cases e2: !decide (d.aU.length<=6)|| !decide (d.bY.length<=6)with
  |true=>rw[e2]at h;cases h
  |false=>
   rw[e2,cond_false]at h;simp only[ape,Bool.not_eq_false',decide_eq_true_eq]at e2;have h:=abT (abT h);rw[Uw N hN p.bm _ hx (by rw[aos];omega),aoq]at h;obtain⟨n2,h⟩:=Kg h;rw[aau,aoq]at h;obtain⟨n3,h⟩:=Kg h;obtain⟨_,h⟩:=WX h;rw[aak N d (by omega),aoq]at h;obtain⟨⟨t,x⟩,J,h⟩:=cp h;obtain⟨n4,h⟩:=Kg h;dsimp only at n4 h;subst n4;refine⟨n1,e1,e2.1,e2.2,n2,n3,t,J,?_⟩;cases e3:((t.bk==d.aB.bk)&&((t.cf==d.aB.cf)&&((t.bQ==d.aB.bQ)&&((t.cq==d.aB.cq)&&((t.ct==d.aB.ct)&&true)))))with
   |true=>rfl
   |false=>rw[e3]at h;cases h
theorem ZQ(hD:gX p.aO):∀(l:apf apg)(k:Nat)(at_:Int){a:Int},p.di.drop k=l->qo N p l k at_=some (a,0)->∀i s,k<=i->p.di[i]?=some s->cS (p.aY.map (·.au)++p.aO.map (·.au)) s=true/\cS (p.di.take i) s=false
 |[],k,at_,a,hk,h,i,s,hi,hs=>by
  have:=(aor.1 hs).1;have:=List.drop_eq_nil_iff.1 hk;omega
 |s::l,k,at_,a,hk,h,i,y,hi,hy=>by
  rw[qo,Fe N p s hD,aoq,QR]at h;cases e:cS (p.aY.map (·.au)++p.aO.map (·.au)) s with
  |false=>rw[e]at h;cases h
  |true=>
   rw[e]at h;simp only[cond_true]at h;obtain⟨_,h⟩:=vt h;rw[yV,aoq]at h;cases e2:cS ((p.di.take ((k:Int)).toNat).drop 0) s with
   |true=>rw[e2]at h;cases h
   |false=>
    rw[e2]at h;rcases Nat.lt_or_ge k i with aN|jT
    ·exact ZQ hD l (k+1) (aQ (at_+1)) (pf hk) h i y aN hy
    ·have:i=k:=by omega
     subst this;rw[bI hk]at hy;cases hy
     exact⟨e,e2⟩
theorem Uc(hN:16<N)(hD:gX p.aO)(hs:p.bm.length<=1000):∀(l:apf bD)(k:Nat)(at_:Int){a:Int},p.aO.drop k=l->oP N p l k (p.bm++p.aY.map (·.au)++(p.aO.take k).map (·.au)) at_=some (a,0)->
 (∀i d,k<=i->p.aO[i]?=some d->DQ N p i (p.bm++p.aY.map (·.au)++(p.aO.take i).map (·.au)) d)/\∃at' a',qo N p p.di 0 at'=some (a',0)
 |[],k,at_,a,hk,h=>⟨λi d hi hd=>by
    have:=(aor.1 hd).1;have:=List.drop_eq_nil_iff.1 hk;omega,at_,a,h⟩
 |d::l,k,at_,a,hk,h=>by
  rw[oP]at h;obtain⟨x,e,h⟩:=cp h;cases e2:x !=0 with
  |true=>rw[e2]at h;simp only[cond_true]at h;rw[(Prod.mk.inj (aoK h)).2]at e2;cases e2
  |false=>
   rw[e2]at h;obtain⟨_,h⟩:=vt h;have hx:=jr e2;rw[hx]at e;have et:p.bm++p.aY.map (·.au)++(p.aO.take k).map (·.au)++[d.au]=p.bm++p.aY.map (·.au)++(p.aO.take (k+1)).map (·.au):=by
     rw[SS hk,List.map_append,aoI (p.bm++p.aY.map (·.au))];rfl
   dsimp only at h;rw[et]at h;obtain⟨k1,k2⟩:=Uc hN hD hs l (k+1) _ (pf hk) h;refine⟨λi d' hi iM=> ?_,k2⟩;rcases Nat.lt_or_ge k i with aN|jT
   ·exact k1 i d' aN iM
   ·have:i=k:=by omega
    subst this;rw[bI hk]at iM;cases iM
    exact akn hN (bI hk) hs (λx hx=>(hD.lk d (JX (bI hk)) x hx).ok) e
theorem akj(hN:16<N):∀(l:apf dX)(k:Nat)(at_:Int)(T:apf apg){a:Int},lJ l->sb N p l k (p.bm++T) at_=some (a,0)->∃at' a',oP N p p.aO 0 (p.bm++(T++l.map (·.au))) at'=some (a',0):=λl k at_ T a hl h=>(ML hN l k at_ T hl h).2
theorem WN{α:Type}{f:α->Int}:∀{l:apf α},(∀x∈l,f x=0)->fU f l=0
 |[],_=>rfl
 |x::l,h=>by
  rw[fU,h x aox];exact WN λy hy=>h y (aoA _ hy)
theorem ahS(hN:16<N)(B:Bd N p){a:Int}(h:yJ N p=some (a,0)):VQ N p:=by
 have hs:=B.s;have V:=ajF hN B h;unfold yJ K7 at h;rw[Qq,aoq]at h;cases e:wg p with
 |false=>rw[e]at h;cases h
 |true=>
  rw[e]at h;simp only[Bool.not_true,cond_false]at h;rw[Jd hN p.bm 0 rfl,aoq,List.take_zero,V.names]at h;simp only[bne_self_eq_false,cond_false]at h;rw[ID hN hs p.dF 0 B.W,WN V.wh]at h;simp only[bne_self_eq_false,cond_false]at h;obtain⟨NW,a1,J⟩:=akj hN p.aY 0 2 [] B.P (by rw[aoM];exact h);rw[List.nil_append]at J;obtain⟨k2,Ep,a2,h2⟩:=Uc hN B.D hs p.aO 0 NW rfl (by rw[List.take_zero,List.map_nil,aoM];exact J);exact⟨V.names,V.wh,V.Yb,λk d=>k2 k d (Nat.zero_le _),λk s=>ZQ B.D p.di 0 Ep rfl h2 k s (Nat.zero_le _)⟩
end
structure Df(N:Nat)(d:bD):Prop where
 ty:db d.aB=true
 ev:Ev d.bV
 cond:fY d.bV=false
 size:3*SizeOf.sizeOf d.bV<N
 l1:d.aU.length<=6
 l2:d.bY.length<=6
 plain:(d.dm==0||d.dm==5)=true->d.bY=[]
 scan:d.dm=5->d.aU≠ []
def zj(f:apf Int->Except Int (aD×aM))(d:bD):apf (apf Int)->aph aD->Except Int aD
 |[],acc=> .ok (acc.getD cH)
 |q::l,acc=>match f q with
  | .error z=> .error z
  | .ok x=>match acc with
    |none=>zj f d l (some x.1)
    |some a=>match yu d.dm d.aB a x.1 with
     | .error z=> .error z
     | .ok v=>zj f d l (some v)
def MO(d:bD):apf apg:=d.bY.map (·.au)
def Dg(d:bD):apf apg:=d.aU.map (·.au)
noncomputable def F3(mem:apf aG)(env:apf aI)(d:bD)(q:apf Int):Except Int (aD×aM):=fy mem (mr (MO d) q++env) d.bV
noncomputable def Ld(mem:apf aG)(env:apf aI)(d:bD)(red:apf Int):Except Int aD:=zj (F3 mem env d) d (nf red 0 (c8 red).toNat) none
theorem NO{l:apf Int}(h:qa l):∀(m k:Nat),(k:Int)+m<=c8 l->∀q∈nf l k m,q.length=l.length/\∀x∈q,0<=x/\x<4096
 |0,k,_,q,hq=>by cases hq
 |m+1,k,hk,q,hq=>by
  rw[Lr]at hq;rcases aoV.1 hq with rfl|hq
  ·have:=h.p;exact⟨aip _ _,agK h.r (by omega) (by omega)⟩
  ·exact NO h m (k+1) (by omega) q hq
theorem T8(N:Nat)(hN:9223372036854775808<N)(mem:apf aG)(hm:mem.length<=4611686018427387904)(env:apf aI)(he:env.length<=1000000)(d:bD)(H:Df N d):∀(ju:apf (apf Int))(acc:aph aD)(kv:apf (apg×aT)),(∀q∈ju,q.length=d.bY.length/\∀x∈q,0<=x/\x<4096)->CK mem kv->
 ∃v er dI,tL N d env mem ju (acc.getD cH).xN (acc.getD cH).xD acc.isNone kv=some (v,er,dI)/\CK mem dI/\m5 (zj (F3 mem env d) d ju acc) er v (λa b=>b=a)
 |[],acc,kv,_,hk=>⟨_,_,_,rfl,hk,rfl,rfl⟩
 |q::ju,acc,kv,hp,hk=>by
  have hq:=hp q aox;have Bq:=H.l2;have hs:=H.size;rw[tL,Y3 N d.bY q env hq.1.symm (by omega) hq.2 (by omega),aoq];unfold wm BM;rw[aoq];obtain⟨t,er,dI,J,h2,h3⟩:=(XX N hN mem hm (mr (MO d) q++env) _ d.bV (aoC _) H.ev).v H.cond N kv (by omega) hk;have ml:lM N N d.bV (mr (d.bY.map (·.au)) q++env) mem kv=some (t,er,dI):=J;rw[ml,aoq,zj];unfold F3;cases hv:fy mem (mr (MO d) q++env) d.bV with
  |error z=>
   rw[hv]at h3;obtain⟨rfl,hz⟩:=h3;dsimp only;rw[bne_iff_ne.2 hz,cond_true];exact⟨_,_,_,rfl,h2,rfl,hz⟩
  |ok x=>
   rw[hv]at h3;obtain⟨rfl,e1,e2,e3⟩:=h3;dsimp only;rw[show((0:Int) !=0)=false from rfl,cond_false,e1];have ih:=λacc=>T8 N hN mem hm env he d H ju acc dI (λy hy=>hp y (aoA _ hy)) h2;cases acc with
   |none=>exact ih (some x.1)
   |some a=>
    simp only[Option.isNone_some,cond_false,Option.getD_some];obtain⟨r,r1,r2⟩:=UY N hN d.dm d.aB a x.1 H.ty;rw[r1,aoq];cases hr:yu d.dm d.aB a x.1 with
    |error z=>
     rw[hr]at r2;obtain⟨r3,hz⟩:=r2;rw[r3,bne_iff_ne.2 hz,cond_true];exact⟨_,_,_,rfl,h2,rfl,hz⟩
    |ok v=>
     rw[hr]at r2;have r3:r=(v,0):=r2;subst r3;exact ih (some v)
theorem aeA(N:Nat)(hN:9223372036854775808<N)(mem:apf aG)(hm:mem.length<=4611686018427387904)(env:apf aI)(he:env.length<=1000000)(d:bD)(H:Df N d)(red:apf Int)(hR:qa red)(hl:red.length=d.bY.length)(kv:apf (apg×aT))(hk:CK mem kv):
 ∃v er dI,Bw N d red env mem kv=some (v,er,dI)/\CK mem dI/\m5 (Ld mem env d red) er v (λa b=>b=a):=by
 have hs:=H.size;have hp:=hR.p;have h0:=sX hR.r;unfold Bw Ld;have hf:(bif (d.dm==0)then some true else some (d.dm==5))=some (d.dm==0||d.dm==5):=by cases d.dm==0<;>rfl
 rw[hf,aoq];cases hb:(d.dm==0||d.dm==5)with
 |true=>
  have hr:red=[]:=by
   have:=H.plain hb;rw[this]at hl;exact List.eq_nil_of_length_eq_zero hl
  subst hr;rw[cond_true];unfold wm BM;rw[aoq];obtain⟨t,er,dI,J,h2,h3⟩:=(XX N hN mem hm env _ d.bV (aoC _) H.ev).v H.cond N kv (by omega) hk;rw[J,aoq];refine⟨_,_,_,rfl,h2,?_⟩;have e:nf [] 0 (c8 []).toNat=[[]]:=rfl;rw[e,zj];have e2:F3 mem env d []=fy mem env d.bV:=by
   unfold F3 mr;rw[List.zipWith_nil_right,List.nil_append]
  rw[e2];cases hv:fy mem env d.bV with
  |error z=>rw[hv]at h3;exact h3
  |ok x=>
   rw[hv]at h3;obtain⟨h4,e1,e3,e4⟩:=h3;exact⟨h4,e1⟩
 |false=>
  rw[cond_false,Xs N red hR,aoq,WI N (by omega) red hR,aoq];exact T8 N hN mem hm env he d H _ none kv (by rw[<-hl];exact NO hR _ 0 (by omega)) hk
def HV(q:apf Int):Int:=(q[q.length-1]?).getD 0
noncomputable def I3(mem:apf aG)(env:apf aI)(d:bD)(red:apf Int)(q:apf Int):Except Int aD:=Ld mem (mr (Dg d) q++env) d red
def sZ(f:apf Int->Except Int aD)(d:bD):apf (apf Int)->apf aD->Except Int (apf aD)
 |[],acc=> .ok acc
 |q::l,acc=>match f q with
  | .error z=> .error z
  | .ok v=>bif d.dm==5&&decide (HV q>0)then(match acc[acc.length-1]? with
   |none=> .error 1
   |some w=>match yu 1 d.aB w v with
    | .error z=> .error z
    | .ok u=>sZ f d l (acc++[u]))else sZ f d l (acc++[v])
def abQ(t:aM)(ext:apf Int)(r:Except Int (apf aD)):aT×Int:=match r with
 | .ok vs=>(⟨t,ext,vs⟩,0)
 | .error z=>(mF,z)
theorem amu{ext:apf Int}(h:ext≠ []):∃e,ext[ext.length-1]?=some e:=by
 have:0<ext.length:=List.length_pos_iff.2 h;exact⟨_,aov (by omega)⟩
theorem alI{acc:apf aD}(h:0<acc.length):∃w,acc[acc.length-1]?=some w:=⟨_,aov (by omega)⟩
theorem UN(N:Nat)(hN:9223372036854775808<N)(mem:apf aG)(hm:mem.length<=4611686018427387904)(env:apf aI)(he:env.length<=100000)(d:bD)(H:Df N d)(D:apf Int×aM×Int)(hD:qa D.1)(zf:D.1.length=d.aU.length)(R:apf Int×Int)(hR:qa R.1)(hrl:R.1.length=d.bY.length)(XS:apf (apg×aT)):∀(m k:Nat)(acc:apf aD)(kv:apf (apg×aT)),(k:Int)+m=c8 D.1->acc.length=k->CK mem kv->
 sB N d D env R (mem,XS) (nf D.1 k m) acc kv=some (abQ d.aB D.1 (sZ (I3 mem env d R.1) d (nf D.1 k m) acc))
 |0,k,acc,kv,_,_,_=>rfl
 |m+1,k,acc,kv,hk,ha,hc=>by
  have hp:=hD.p;have KQ:=H.l1;have hq:=NO hD (m+1) k (by omega) (oT D.1 (k:Int)) (by rw[Lr];exact aox);rw[Lr,sB,Y3 N d.aU _ env (by rw[hq.1,zf]) (by omega) hq.2 (by omega),aoq];obtain⟨v,er,dI,J,h2,h3⟩:=aeA N hN mem hm (mr (Dg d) (oT D.1 (k:Int))++env) (by rw[aos,agy _ _ (by unfold Dg;rw[aow,hq.1,zf])];unfold Dg;rw[aow];omega) d H R.1 hR hrl kv hc;have ml:Bw N d R.1 (mr (d.aU.map (·.au)) (oT D.1 (k:Int))++env) mem kv=some (v,er,dI):=J;rw[ml,aoq,sZ];have ih:=λnP(hh:nP.length=k+1)=>UN N hN mem hm env he d H D hD zf R hR hrl XS m (k+1) nP dI (by omega) hh h2;unfold I3;cases hv:Ld mem (mr (Dg d) (oT D.1 (k:Int))++env) d R.1 with
  |error z=>
   rw[hv]at h3;obtain⟨rfl,hz⟩:=h3;dsimp only;rw[show(er==0)=false by rw[beq_eq_false_iff_ne];exact hz,cond_false,aoq,cond_false];unfold uH;rw[bne_iff_ne.2 hz];rfl
  |ok x=>
   rw[hv]at h3;obtain⟨rfl,rfl⟩:=h3;dsimp only;rw[show((0:Int)==0)=true from rfl,cond_true];cases h5:(d.dm==5)with
   |false=>
    rw[cond_false,aoq,cond_false,Bool.false_and,cond_false];unfold uH;rw[show((0:Int) !=0)=false from rfl,cond_false,fz (by omega),cond_true];exact ih _ (by simp [ha])
   |true=>
    have cE:D.1≠ []:=λh=>H.scan (by simpa using h5) (List.eq_nil_of_length_eq_zero (by rw[<-zf,h];rfl));have GR:0<D.1.length:=List.length_pos_iff.2 cE;obtain⟨e,qq⟩:=amu cE;have wA:=abf (n:=(k:Int)) qq;have F5:HV (oT D.1 (k:Int))=(k:Int).tmod e:=by unfold HV;rw[hq.1,wA];rfl
    rw[cond_true,hq.1,jd (by have:=hD.n;omega) (by have:=hD.n;omega),ao8 (show(0:Int)<=(D.1.length:Int)-1 by omega),cond_true,show((D.1.length:Int)-1).toNat=D.1.length-1 by omega,wA,aoq,aoq,F5,Bool.true_and];cases hg:decide ((k:Int).tmod e>0)with
    |false=>
     rw[cond_false,cond_false];unfold uH;rw[show((0:Int) !=0)=false from rfl,cond_false,fz (by omega),cond_true];exact ih _ (by simp [ha])
    |true=>
     have gK:0<acc.length:=by
      rw[ha];refine Classical.byContradiction λh=> ?_;have:k=0:=by omega
      subst this;rw[decide_eq_true_eq]at hg;simp at hg
     obtain⟨w,hw⟩:=alI gK;rw[cond_true,cond_true,jd (by omega) (by omega),ao8 (show(0:Int)<=(acc.length:Int)-1 by omega),cond_true,show((acc.length:Int)-1).toNat=acc.length-1 by omega,hw,aoq];obtain⟨r,r1,r2⟩:=UY N hN 1 d.aB w v H.ty;rw[r1,aoq];unfold uH;dsimp only;cases hr:yu 1 d.aB w v with
     |error z=>
      rw[hr]at r2;obtain⟨r3,hz⟩:=r2;rw[r3,bne_iff_ne.2 hz];rfl
     |ok u=>
      rw[hr]at r2;have r3:r=(u,0):=r2;subst r3;rw[show((0:Int) !=0)=false from rfl,cond_false,fz (by omega),cond_true];exact ih _ (by simp [ha])
theorem IB(env:apf aI):∀(l:apf bp)(acc:apf Int),(extE env l acc).2=0->(extE env l acc).1.length=acc.length+l.length
 |[],acc,_=>rfl
 |f::l,acc,h=>by
  rw[extE]at h ⊢;cases J:(dx f env).2 !=0 with
  |true=>rw[J,cond_true]at h;simp only at h;rw[h]at J;cases J
  |false=>
   rw[J,cond_false]at h;rw[cond_false];cases h2:rY (dx f env).1 with
   |false=>rw[h2,cond_false]at h;cases h
   |true=>
    rw[h2,cond_true]at h;rw[cond_true,IB env l _ h];simp only[aos,aou,aoD];omega
theorem ZE{p:aV}{i:Nat}{d:bD}(hd:p.aO[i]?=some d)(G:qm p i d):dN p.aY p.aO d.au=(d.aB,d.aU.map (·.dR),true):=by
 unfold dN;have J:=E5 (·.au) d.au p.aY;rw[G.par]at J;have h2:=E5 (·.au) d.au (p.aO.take i);rw[G.aj6]at h2;have e1:p.aY.find? (λx=>bL x.au==bL d.au)=none:=by
  cases hh:p.aY.find? (λx=>bL x.au==bL d.au)with
  |none=>rfl
  |some y=>rw[hh]at J;cases J
 rw[e1];have e:p.aO=p.aO.take i++(d::p.aO.drop (i+1)):=by rw[<-Mv hd,ao4]
 have e2:p.aO.find? (kX d.au)=some d:=by
  rw[e,List.find?_append];have:(p.aO.take i).find? (kX d.au)=none:=by
    cases hh:(p.aO.take i).find? (kX d.au)with
    |none=>rfl
    |some y=>
     have h3:false=((p.aO.take i).find? (kX d.au)).isSome:=h2;rw[hh]at h3;cases h3
  rw[this,Option.none_or,List.find?_cons_of_pos];unfold kX;exact apa _
 rw[e2]
theorem Tx{N:Nat}(hN:9223372036854775808<N){p:aV}(B:Bd N p)(V:VQ N p){i:Nat}{d:bD}(hd:p.aO[i]?=some d)(G:qm p i d)(hl:ik 400 d.bV)(hs:3*SizeOf.sizeOf d.bV<N):Df N d:=by
 have Q:=V.defs i d hd;have hm:=aoE hd;have hf:=Q.fold;refine⟨Q.type,hl.ev (by decide) G.body,?_,hs,Q.l1,Q.l2,λh=> ?_,λh=> ?_⟩
 ·obtain⟨t,J,h2⟩:=Q.tp;unfold vN at J;rw[Tw N (by omega) d.bV (by omega) (hl.mZ (by decide)),aoq,G.body,show((0:Int) !=0)=false from rfl,cond_false,GH,aoq]at J;cases hc:fY d.bV with
  |false=>rfl
  |true=>rw[hc,cond_true]at J;cases J
 ·unfold uz at hf;cases h0:(d.dm==0)with
  |true=>
   rw[h0,cond_true]at hf;cases hr:(d.bY.length==0)with
   |true=>rw[beq_iff_eq]at hr;exact List.eq_nil_of_length_eq_zero hr
   |false=>rw[hr]at hf;cases hf
  |false=>
   rw[h0,Bool.false_or,beq_iff_eq]at h;rw[h]at hf;cases hr:(d.bY.length==0)with
   |true=>rw[beq_iff_eq]at hr;exact List.eq_nil_of_length_eq_zero hr
   |false=>rw[hr]at hf;cases hf
 ·unfold uz at hf;rw[h]at hf;intro hn;rw[hn]at hf;simp at hf
theorem Z4(N:Nat):∀(l:apf dg)(k:Nat)(acc:apf bp),acc.length+l.length<=1000000000->Ec N l k acc=some (acc++l.map (·.dR))
 |[],k,acc,_=>by rw[Ec,List.map_nil,aoM]
 |a::l,k,acc,h=>by
  simp only[aou]at h;rw[Ec,fz (by omega),cond_true];dsimp only;rw[Z4 N l (k+1) _ (by simp only[aos,aou,aoD];omega),aoQ,aoI];rfl
theorem Yp:∀a b:apf Int,c8 (a++b)=c8 a*c8 b
 |[],b=>by rw[List.nil_append,c8,Int.one_mul]
 |x::a,b=>by rw[List.cons_append,c8,c8,Yp a b,Int.mul_assoc]
theorem aba(N:Nat)(lim:Int)(hl:lim<=65536)(L:apf Int)(hL:L.length<=1000000):∀(l:apf Int)(k f:Nat)(v:Int),L.drop k=l->k<=L.length->l.length<f->(∀x∈l,1<=x/\x<=4096)->1<=v->v<=lim->tO N L.length L lim f v (k:Int)=some (if v*c8 l<=lim then v*c8 l else lim+1)
 |[],k,f,v,hd,hk,hf,_,J,h2=>by
  obtain⟨f,rfl⟩:∃f',f=f'+1:=⟨f-1,by omega⟩;have:L.length<=k:=List.drop_eq_nil_iff.1 hd;rw[tO,ao9 (show ¬(k:Int)<(L.length:Int) by omega),cond_false,c8,Int.mul_one,if_pos h2]
 |x::l,k,f,v,hd,hk,hf,h,J,h2=>by
  obtain⟨f,rfl⟩:∃f',f=f'+1:=⟨f-1,by omega⟩;have hx:=h x aox;have hp:=sX (l:=l) λy hy=>h y (aoA _ hy);have iL:v*x<=65536*4096:=Int.mul_le_mul (by omega) hx.2 (by omega) (by omega);have lA:1*1<=v*x:=Int.mul_le_mul J hx.1 (by decide) (by omega);have gL:k<L.length:=by
   refine Classical.byContradiction λh=> ?_;rw[List.drop_of_length_le (by omega)]at hd;cases hd
  simp only[aou]at hf;rw[tO,ao8 (show(k:Int)<(L.length:Int) by omega),cond_true,ao8 (show(0:Int)<=(k:Int) by omega),cond_true,aoS,bI hd,aoq,c8,jd (z:=v*x) (by omega) (by omega),<-Int.mul_assoc];by_cases hc:v*x>lim
  ·rw[ao8 hc,cond_true,jd (by omega) (by omega),if_neg];have:v*x*1<=v*x*c8 l:=Int.mul_le_mul_of_nonneg_left hp (by omega);omega
  ·rw[ao9 hc,cond_false,jd (by omega) (by omega),show(k:Int)+1=((k+1:Nat):Int) by omega];exact aba N lim hl L hL l (k+1) f (v*x) (by rw[<-List.drop_drop,hd];rfl) gL (by omega) (λy hy=>h y (aoA _ hy)) (by omega) (by omega)
theorem adn(N:Nat)(hN:2147483648<N)(L:apf Int)(hL:L.length<=1000000)(h:∀x∈L,1<=x/\x<=4096):Cf N L.length 65536 L=some (if c8 L<=65536 then c8 L else 65537):=by
 unfold Cf;rw[Nat.beq_refl,cond_true];have:=aba N 65536 (by decide) L hL L 0 N 1 rfl (by omega) (by omega) h (by decide) (by decide);rw[Int.one_mul]at this;exact this
theorem aaV{p:aV}{env:apf aI}{s:apg}(h:(gd p env s).2.2=0):(gd p env s).1=(extE env (dN p.aY p.aO s).2.1 []).1/\(extE env (dN p.aY p.aO s).2.1 []).2=0/\c8 (gd p env s).1<=4096:=by
 unfold gd at h ⊢;dsimp only at h ⊢;cases J:(dN p.aY p.aO s).2.2 with
 |false=>rw[J]at h;cases h
 |true=>
  rw[J,cond_true]at h;rw[cond_true];cases h2:(extE env (dN p.aY p.aO s).2.1 []).2 !=0 with
  |true=>rw[h2,cond_true]at h;simp only at h;rw[h]at h2;cases h2
  |false=>
   rw[h2,cond_false]at h;rw[cond_false];cases h3:decide (c8 (extE env (dN p.aY p.aO s).2.1 []).1>4096)with
   |true=>rw[h3]at h;cases h
   |false=>
    rw[decide_eq_false_iff_not]at h3;exact⟨rfl,by simpa using h2,by simp only[cond_false];omega⟩
noncomputable def tw(p:aV)(env:apf aI)(mem:apf aG)(d:bD)(rx:Int):aT×Int:=
 bif (gd p env d.au).2.2 !=0 then(mF,(gd p env d.au).2.2)else
 bif (extE env (d.bY.map (·.dR)) []).2 !=0 then(mF,(extE env (d.bY.map (·.dR)) []).2)else
 bif decide (c8 (gd p env d.au).1*c8 (extE env (d.bY.map (·.dR)) []).1>65536)then(mF,2)else
 bif rx !=0 then(mF,rx)else
 abQ d.aB (gd p env d.au).1 (sZ (I3 mem env d (extE env (d.bY.map (·.dR)) []).1) d (nf (gd p env d.au).1 0 (c8 (gd p env d.au).1).toNat) [])
theorem NN(N:Nat)(c:Int64->aph Int)(m:dw)(hc:∀v,∃n,c v=some n):∀(l:apf aI)(k:Nat)(v:Int64),∃n,Ic N c v m l k=some n
 |[],k,v=>hc v
 |b::l,k,v=>by
  rw[Ic];cases bL b.au==bL m.au with
  |false=>exact NN N c m hc l (k+1) v
  |true=>
   rw[cond_true,aoq];cases decide (b.de.toInt> -1000)with
   |true=>exact hc _
   |false=>exact NN N c m hc l (k+1) v
theorem Xh(N:Nat)(env:apf aI):∀(l:apf dw)(k:Nat)(v:Int64),∃n,Dr N env l k v=some n
 |[],k,v=>⟨_,rfl⟩
 |m::l,k,v=>by
  rw[Dr];have go:=NN N (λcg=>Dr N env l (k+1) cg) m (λv=>Xh N env l (k+1) v) env 0 v;cases decide (m.dM.toInt>100)with
  |true=>exact⟨_,rfl⟩
  |false=>
   rw[cond_false,aoq];cases decide (m.dM.toInt< -100)with
   |true=>exact⟨_,rfl⟩
   |false=>exact go
theorem aga(N:Nat)(f:bp)(env:apf aI):∃n,G4 N f env=some n:=by
 unfold G4;cases decide (f.xK.toInt>3000)with
 |true=>exact⟨_,rfl⟩
 |false=>
  rw[cond_false,aoq];cases decide (f.xK.toInt< -3000)with
  |true=>exact⟨_,rfl⟩
  |false=>exact Xh N env f.xL 0 f.xK
theorem Qw(N:Nat)(env:apf aI):∀(l:apf dg)(k:Nat)(v:Int),∃n,GV N env l k v=some n
 |[],k,v=>⟨_,rfl⟩
 |a::l,k,v=>by
  rw[GV];obtain⟨n,hn⟩:=aga N a.dR env;rw[hn,aoq];exact Qw N env l (k+1) _
theorem abg(N:Nat)(env:apf aI):∀(l:apf bD)(k:Nat),∃b,IU N env l k=some b
 |[],k=>⟨_,rfl⟩
 |d::l,k=>by
  rw[IU];unfold H5;obtain⟨a,ha⟩:=Qw N env d.aU 0 1;obtain⟨b,hb⟩:=Qw N env d.bY 0 1;rw[ha,hb,aoq,aoq];cases decide (aQ (a*b)>3000)with
  |true=>exact⟨_,rfl⟩
  |false=>exact abg N env l (k+1)
theorem XI(N:Nat)(env:apf aI)(p:aV)(v:Int64):∀(l:apf aI)(k:Nat),∃b,HN N env p v l k=some b
 |[],k=>abg N env p.aO 0
 |x::l,k=>by
  rw[HN];cases decide (x.de.toInt>v.toInt)with
  |true=>exact⟨_,rfl⟩
  |false=>exact XI N env p v l (k+1)
theorem anC(N:Nat)(hN:1000<N)(p:aV)(env:apf aI)(v:Int64)(hd:∀d∈p.aO,ik px d.bV/\SizeOf.sizeOf d.bV<N):∃b,J3 N p env v=some b/\(b=true->yB p/\(env.length:Int)<=20):=by
 unfold J3;obtain⟨b1,f1,f2⟩:=aja N 400 (by decide) hN p hd;have f1':Db N p 400=some b1:=f1;obtain⟨b2,g1,g2⟩:=acf N env 20;obtain⟨b3,k1⟩:=XI N env p v env 0;rw[f1',g1,k1,aoq];cases b1 with
 |true=>exact⟨false,rfl,λh=>by cases h⟩
 |false=>
  rw[cond_false];cases decide ((p.aO.length:Int)>12)with
  |true=>exact⟨false,rfl,λh=>by cases h⟩
  |false=>
   cases b2 with
   |false=>exact⟨false,rfl,λh=>by cases h⟩
   |true=>exact⟨b3,rfl,λ_=>⟨f2 rfl,g2 rfl⟩⟩
theorem af2(N:Nat)(L:apf aD):EO N L L=some true:=by
 have go:∀(l:apf aD)(k:Nat),L.drop k=l->KS N L l k=some true:=by
  intro l
  induction l with
  |nil=>intro k _;rfl
  |cons x l ih=>intro k h;rw[KS,aoS,bI h,aoq,apa,apa];exact ih (k+1) (pf h)
 unfold EO;rw[SP,cond_false];exact go L 0 rfl
theorem ain(N:Nat)(t:aT):Jv N t t=some true:=by
 unfold Jv;rw[ahG,af2];simp
structure Lw(N:Nat)(p:aV)(env:List aI):Prop where
 hN:9223372036854775808<N
 sh:yB p
 env:env.length<=20
 size:∀d∈p.aO,3*SizeOf.sizeOf d.bV<N
theorem Lw.bd{N:Nat}{p:aV}{env:apf aI}(W:Lw N p env):Bd N p:=ahW W.sh λd h=>by have:=W.size d h;omega
theorem Lw.wh{N:Nat}{p:aV}{env:apf aI}(W:Lw N p env):∀c∈p.dF,c.bx.xL.length<=4611686018427387904:=λc hc=>aoJ (W.sh.W c hc) (by decide)
structure uB(t:aT):Prop where
 d:t.aU.length<=1000000
 v:t.eI.length<=1000000
theorem A4:uB mF:=⟨by decide,by decide⟩
theorem ab6(N:Nat){t:aT}(h:uB t):Gm N t=some t:=by
 have J:=h.d;have h2:=h.v;unfold Gm P1 Se;rw[fz (by omega),cond_true,aoq,fz (by omega),cond_true,aoq]
theorem Sc(f:apf Int->Except Int aD)(d:bD):∀(l:apf (apf Int))(acc vs:apf aD),sZ f d l acc= .ok vs->vs.length=acc.length+l.length
 |[],acc,vs,h=>by rw[sZ]at h;cases h;rfl
 |q::l,acc,vs,h=>by
  rw[sZ]at h;cases hf:f q with
  |error z=>rw[hf]at h;cases h
  |ok v=>
   rw[hf]at h;dsimp only at h;cases hb:(d.dm==5&&decide (HV q>0))with
   |false=>
    rw[hb,cond_false]at h;have:=Sc f d l _ vs h;simp only[aos,aou,aoD]at this ⊢;omega
   |true=>
    rw[hb,cond_true]at h;cases ha:acc[acc.length-1]? with
    |none=>rw[ha]at h;cases h
    |some w=>
     rw[ha]at h;dsimp only at h;cases hr:yu 1 d.aB w v with
     |error z=>rw[hr]at h;cases h
     |ok u=>
      rw[hr]at h;have:=Sc f d l _ vs h;simp only[aos,aou,aoD]at this ⊢;omega
theorem aeD(l:apf Int)(k n:Nat):(nf l k n).length=n:=by unfold nf;rw[aow,List.length_range']
theorem afh{N:Nat}{p:aV}{env:apf aI}{i:Nat}{d:bD}(hd:p.aO[i]?=some d)(G:qm p i d)(H:Df N d)(mem:apf aG)(rx:Int):uB (tw p env mem d rx).1:=by
 unfold tw;cases J:((gd p env d.au).2.2 !=0)with
 |true=>exact A4
 |false=>
  rw[bne_eq_false_iff_eq]at J;obtain⟨d1,d2,d3⟩:=aaV J;rw[ZE hd G]at d1 d2;have N1:(gd p env d.au).1.length=d.aU.length:=by rw[d1,IB env _ [] d2];simp
  have KQ:=H.l1;rw[cond_false];cases (extE env (d.bY.map (·.dR)) []).2 !=0 with
  |true=>exact A4
  |false=>
   rw[cond_false];cases decide (c8 (gd p env d.au).1*c8 (extE env (d.bY.map (·.dR)) []).1>65536)with
   |true=>exact A4
   |false=>
    rw[cond_false];cases rx !=0 with
    |true=>exact A4
    |false=>
     rw[cond_false];cases hf:sZ (I3 mem env d (extE env (d.bY.map (·.dR)) []).1) d (nf (gd p env d.au).1 0 (c8 (gd p env d.au).1).toNat) []with
     |error z=>exact A4
     |ok vs=>
      have:=Sc _ _ _ _ _ hf;rw[aeD,aoD]at this;exact⟨by show(gd p env d.au).1.length<=1000000;omega,by show vs.length<=1000000;omega⟩
def yl(l:apf aG):Prop:=∀x∈l,uB x.fb
def vw(l:apf aG)(s:apg):aT×Bool:=match eD l s with|none=>(mF,false)|some t=>(t,true)
theorem Z2(N:Nat)(l:apf aG)(s:apg):uK N l s=some (vw l s):=by
 rw[BJ];unfold vw;cases eD l s<;>rfl
theorem yl.find{l:apf aG}(h:yl l)(s:apg):uB (vw l s).1:=by
 unfold vw;cases hf:eD l s with
 |none=>exact A4
 |some t=>
  obtain⟨x,hx,e,_⟩:=OQ hf;have:=h x hx;rw[e]at this;exact this
theorem ahf(N:Nat)(L:apf aG):I8 N L L=some true:=by
 have go:∀(l:apf aG)(k:Nat),L.drop k=l->Jl N L l k=some true:=by
  intro l
  induction l with
  |nil=>intro k _;rfl
  |cons x l ih=>intro k h;rw[Jl,aoS,bI h,aoq,apa,cond_true,ain,aoq,aoq,Bool.not_true,cond_false];exact ih (k+1) (pf h)
 unfold I8;rw[SP,cond_false];exact go L 0 rfl
theorem af8(N:Nat)(hN:9223372036854775808<N)(p:aV)(env:apf aI)(he:env.length<=100000)(mem:apf aG)(hm:mem.length<=4611686018427387904)(B:Bd N p){i:Nat}{d:bD}(hd:p.aO[i]?=some d)(G:qm p i d)(H:Df N d)(hl:ik 400 d.bV):∃rx,(rx=0->∀s∈Ft d.bV,E6 p mem s)/\Af N p env mem (i:Int)=some (tw p env mem d rx):=by
 have hs:=H.size;have hi:i<p.aO.length:=(aor.1 hd).1;have jD:=aoE hd;have KQ:=H.l1;have Bq:=H.l2;obtain⟨rx,r1,r3⟩:=ail N (by omega) p env mem B.P B.D d G.body hl;refine⟨rx,r3,?_⟩;unfold Af tw;have Z8:∀y∈d.bY.map (·.dR),lB 1000000000 y:=λy hy=>by
  obtain⟨a,ha,rfl⟩:=List.mem_map.1 hy;exact B.D.lk d jD a (List.mem_append_right _ ha)
 have eR:=Sf N (by omega) env (d.bY.map (·.dR)) 0 [] Z8 (by simp only[aoD,aow];omega);rw[ao9 (show ¬(i:Int)<0 by omega),cond_false,ao9 (show ¬(i:Int)>=(p.aO.length:Int) by omega),aoq,cond_false,ao8 (show(0:Int)<=(i:Int) by omega),cond_true,aoS,hd,aoq,M8 N (by omega) p env d.au B.P B.D,aoq];cases Pq:((gd p env d.au).2.2 !=0)with
 |true=>rfl
 |false=>
  rw[bne_eq_false_iff_eq]at Pq;obtain⟨d1,d2,d3⟩:=aaV Pq;rw[ZE hd G]at d1 d2;have KX:∀x∈(gd p env d.au).1,1<=x/\x<=4096:=by rw[d1];exact IQ env _ [] λx hx=>by cases hx
  have N1:(gd p env d.au).1.length=d.aU.length:=by rw[d1,IB env _ [] d2];simp
  have hD:qa (gd p env d.au).1:=⟨KX,by omega,by omega⟩;have UM:=sX KX;unfold Sk C9;rw[cond_false,cond_false,Z4 N d.bY 0 [] (by simp only[aoD];omega)];simp only[List.nil_append,aoq];rw[eR,aoq];cases nT:((extE env (d.bY.map (·.dR)) []).2 !=0)with
  |true=>rfl
  |false=>
   rw[bne_eq_false_iff_eq]at nT;have Hm:∀x∈(extE env (d.bY.map (·.dR)) []).1,1<=x/\x<=4096:=IQ env _ [] λx hx=>by cases hx
   have UH:(extE env (d.bY.map (·.dR)) []).1.length=d.bY.length:=by rw[IB env _ [] nT];simp
   have hRp:=sX Hm;generalize hRg:extE env (d.bY.map (·.dR)) []=R at Hm UH hRp nT ⊢;generalize hDg:gd p env d.au=D at KX N1 hD UM d3 Pq ⊢;unfold OF;rw[cond_false,cond_false,fz (show D.1.length*8<=140737488355328 by omega),cond_true,aoq,fz (show(D.1.length+R.1.length)*8<=140737488355328 by omega),cond_true];have hc:=adn N (by omega) (D.1++R.1) (by rw[aos];omega) (λx hx=>by
    rcases ao3.1 hx with hx|hx
    ·exact KX x hx
    ·exact Hm x hx)
   rw[aos,Yp]at hc;rw[hc,aoq];have lA:1*c8 R.1<=c8 D.1*c8 R.1:=Int.mul_le_mul_of_nonneg_right UM (by omega);have e1:decide ((if c8 D.1*c8 R.1<=65536 then c8 D.1*c8 R.1 else 65537)>65536)=decide (c8 D.1*c8 R.1>65536):=abd 65536 (by decide) (by decide) _;rw[e1];cases hp:decide (c8 D.1*c8 R.1>65536)with
   |true=>rfl
   |false=>
    rw[decide_eq_false_iff_not]at hp;have hR:qa R.1:=⟨Hm,by omega,by omega⟩;rw[cond_false,cond_false,r1,aoq];cases rx !=0 with
    |true=>rfl
    |false=>
     rw[cond_false,cond_false];unfold Gv;rw[aoq,Xs N D.1 hD,aoq,WI N (by omega) D.1 hD,aoq];exact UN N hN mem hm env he d H D hD N1 R hR UH [] _ 0 [] [] (by omega) rfl (CK.nil mem)
theorem ajH(N:Nat)(hN:2147483648<N)(p:aV)(env:apf aI)(B:Bd N p)(hw:∀c∈p.dF,c.bx.xL.length<=4611686018427387904):∃x,C8 N p env=some x/\(x=0->K1 p env=0/\VQ N p/\∀i d,p.aO[i]?=some d->qm p i d):=by
 obtain⟨a,x,J,h2,h3⟩:=ak5 hN B;unfold C8;rw[J,alW N hN env p hw,aoq];cases hx:(x !=0)with
 |true=>exact⟨x,rfl,λh=>by rw[h]at hx;cases hx⟩
 |false=>
  have kP:x=0:=by simpa using hx
  subst kP;exact⟨K1 p env,rfl,λh=>⟨h,ahS (by omega) B h2,h3 rfl⟩⟩
theorem ajJ{N:Nat}{p:aV}{env:apf aI}(W:Lw N p env)(V:VQ N p)(G:∀i d,p.aO[i]?=some d->qm p i d)(mem:apf aG)(hm:mem.length<=4611686018427387904){i:Nat}{d:bD}(hd:p.aO[i]?=some d):∃rx,(rx=0->∀s∈Ft d.bV,E6 p mem s)/\Af N p env mem (i:Int)=some (tw p env mem d rx):=by
 have gk:=aoE hd;have he:=W.env;exact af8 N W.hN p env (by omega) mem hm W.bd hd (G i d hd) (Tx W.hN W.bd V hd (G i d hd) (W.sh.D d gk).body (W.size d gk)) (W.sh.D d gk).body
theorem ad4(N:Nat){a b:apf aG}{s:apg}(h:eD a s=eD b s)(t:aM)(d:apf Int):ui N a s t d=ui N b s t d:=by
 unfold ui;rw[BJ,BJ,h]
theorem YC(N:Nat)(p:aV)(env:apf aI){a b:apf aG}:∀(l:apf dX)(k:Nat)(acc:apf aG),(∀x∈l,eD a x.au=eD b x.au)->mU N p env a l k acc=mU N p env b l k acc
 |[],k,acc,_=>rfl
 |x::l,k,acc,h=>by
  have hx:=h x aox;have ih:=λacc=>YC N p env l (k+1) acc λy hy=>h y (aoA _ hy);rw[mU,mU];unfold wu;simp only[BJ,ad4 N hx,hx,ih]
theorem anL(N:Nat)(p:aV)(env:apf aI){a b:apf aG}(h:∀x∈p.aY,eD a x.au=eD b x.au):mz N p env a=mz N p env b:=by
 unfold mz EM DS;rw[YC N p env p.aY 0 [] h]
theorem Ov(s:apg):∀a b:apf aG,eD (a++b) s=(eD a s).or (eD b s)
 |[],b=>by rw[List.nil_append,eD,Option.none_or]
 |x::a,b=>by
  rw[List.cons_append,eD,eD,Ov s a b];cases bL x.au==bL s<;>rfl
theorem T4{s:apg}:∀{l:apf aG},(∀x∈l,(bL x.au==bL s)=false)->eD l s=none
 |[],_=>rfl
 |x::l,h=>by rw[eD,h x aox,cond_false];exact T4 λy hy=>h y (aoA _ hy)
theorem aaD(s:apg):∀{l:apf aG},l.Pairwise (λx y=>bL x.au≠bL y.au)->eD l.reverse s=eD l s
 |[],_=>rfl
 |x::l,h=>by
  rw[List.pairwise_cons]at h;rw[List.reverse_cons,Ov,aaD s h.2];cases hb:bL x.au==bL s with
  |false=>simp only[eD,hb,cond_false,Option.or_none]
  |true=>
   have fu:=hb;rw[beq_iff_eq]at fu;rw[T4 (s:=s) (l:=l) λy hy=>by rw[beq_eq_false_iff_ne];intro e;exact h.1 y hy (fu.trans e.symm)];simp only[eD,hb,cond_true,Option.none_or]
set_option linter.unusedSectionVars false
section
variable {t:aM} {a b c:aD} (ht:db t=true) (ha:dJ t a=true) (hb:dJ t b=true)
include ht ha
end
section
variable {t:aM} {a:aD} (ht:db t=true) (ha:dJ t a=true)
include ht ha
end
section
variable {mem:apf aG} {env:apf aI}
end
theorem Vv{l:apf aG}{s:apg}{t:aT}(h:eD l s=some t):vw l s=(t,true):=by unfold vw;rw[h]
theorem VV{N:Nat}{p:aV}{env:apf aI}(W:Lw N p env)(V:VQ N p)(ins:apf aG)(hi:yl ins):∀(l:apf dX)(k:Nat)(acc:apf aG),p.aY.drop k=l->acc.length+l.length<=1000000->
 (∃z,z≠0/\mU N p env ins l k acc=some ([],z))\/(∃m,mU N p env ins l k acc=some (acc++m,0)/\m.map (·.au)=l.map (·.au)/\∀a∈m,eD ins a.au=some a.fb/\lf a.fb=true/\uB a.fb)
 |[],k,acc,_,_=> .inr ⟨[],by rw[aoM];rfl,rfl,λa ha=>by cases ha⟩
 |x::l,k,acc,hd,hl=>by
  simp only[aou]at hl;have hN:=W.hN;have hx:p.aY[k]?=some x:=bI hd;have B:=W.bd;rw[mU,M8 N (by omega) p env x.au B.P B.D,aoq];cases J:((gd p env x.au).2.2 !=0)with
  |true=>
   rw[bne_iff_ne]at J;rw[show((gd p env x.au).2.2==0)=false by rw[beq_eq_false_iff_ne];exact J,cond_false];unfold wu;rw[bne_iff_ne.2 J,cond_true];exact .inl ⟨_,J,rfl⟩
  |false=>
   rw[bne_eq_false_iff_eq]at J;rw[J,show((0:Int)==0)=true from rfl,cond_true];obtain⟨z,m1,m3⟩:=XG N (by omega) ins x.au (gd p env x.au).2.1 (gd p env x.au).1;rw[m1,aoq];unfold wu;cases hz:(z !=0)with
   |true=>exact .inl ⟨z,bne_iff_ne.1 hz,rfl⟩
   |false=>
    obtain⟨y,y1,y2,y3⟩:=m3 (by simpa using hz);have sm:=hi.find x.au;rw[cond_false,Z2,aoq,ab6 N sm,aoq,fz (by omega),cond_true,Vv y1];rcases VV W V ins hi l (k+1) (acc++[⟨x.au,y⟩]) (pf hd) (by simp only[aos,aou,aoD];omega)with⟨z,z1,z2⟩|⟨m,z1,z2,z3⟩
    ·exact .inl ⟨z,z1,z2⟩
    ·refine .inr ⟨⟨x.au,y⟩::m,by refine z1.trans ?_;rw[aoI];rfl,by rw[aoQ,aoQ,z2],λa ha=> ?_⟩;rcases aoV.1 ha with rfl|ha
     ·exact⟨y1,y2,by have h:=sm;rw[Vv y1]at h;exact h⟩
     ·exact z3 a ha
def T6(p:aV)(env:apf aI)(mem:apf aG)(d:bD)(T:aT):Prop:=∃rx,(rx=0->∀s∈Ft d.bV,E6 p mem s)/\tw p env mem d rx=(T,0)
theorem aaQ{N:Nat}{p:aV}{env:apf aI}(W:Lw N p env)(V:VQ N p)(G:∀i d,p.aO[i]?=some d->qm p i d):∀(l:apf bD)(k:Nat)(mem:apf aG),p.aO.drop k=l->mem.length+l.length<=1000000->
 (∃z,z≠0/\Eo N p env l k mem=some ([],z))\/(∃all,Eo N p env l k mem=some (mem++all,0)/\all.map (·.au)=l.map (·.au)/\(∀a∈all,uB a.fb)/\∀(j:Nat)(a:aG)(d:bD),all[j]?=some a->l[j]?=some d->T6 p env (mem++all.take j) d a.fb)
 |[],k,mem,_,_=> .inr ⟨[],by rw[aoM];rfl,rfl,λa ha=>(by cases ha),λj a d ha=>by simp at ha⟩
 |d::l,k,mem,hd,hl=>by
  simp only[aou]at hl;have hk:p.aO[k]?=some d:=bI hd;obtain⟨rx,r0,r1⟩:=ajJ W V G mem (by omega) hk;rw[Eo,r1,aoq];cases hq:((tw p env mem d rx).2 !=0)with
  |true=>exact .inl ⟨_,bne_iff_ne.1 hq,rfl⟩
  |false=>
   rw[bne_eq_false_iff_eq]at hq;rw[cond_false,fz (by omega),cond_true];rcases aaQ W V G l (k+1) (mem++[⟨d.au,(tw p env mem d rx).1⟩]) (pf hd) (by simp only[aos,aou,aoD];omega)with⟨z,z1,z2⟩|⟨all,z1,z2,zs,z3⟩
   ·exact .inl ⟨z,z1,z2⟩
   ·refine .inr ⟨⟨d.au,(tw p env mem d rx).1⟩::all,by refine z1.trans ?_;rw[aoI];rfl,by rw[aoQ,aoQ,z2],λa ha=> ?_,λj a e ha he=> ?_⟩
    ·rcases aoV.1 ha with rfl|ha
     ·have gk:=aoE hk;exact afh hk (G k d hk) (Tx W.hN W.bd V hk (G k d hk) (W.sh.D d gk).body (W.size d gk)) mem rx
     ·exact zs a ha
    cases j with
    |zero=>
     cases ha;cases he
     rw[List.take_zero,aoM];exact⟨rx,r0,Prod.ext rfl hq⟩
    |succ j=>
     have:=z3 j a e (by simpa using ha) (by simpa using he);rw[aoI]at this;exact this
structure an5(N:Nat)(p:aV)(env:List aI)(ins m all:List aG):Prop where
 V:VQ N p
 G:∀i d,p.aO[i]?=some d->qm p i d
 cs:C8 N p env=some 0
 mn:m.map (·.au)=p.aY.map (·.au)
 an:all.map (·.au)=p.aO.map (·.au)
 ins:∀a∈m,eD ins a.au=some a.fb/\lf a.fb=true/\uB a.fb
 made:∀(j:Nat)(a:aG)(d:bD),all[j]?=some a->p.aO[j]?=some d->T6 p env (m++all.take j) d a.fb
def agI(p:aV)(mem:apf aG):apf aG:=p.di.map λs=>⟨s,(vw mem s).1⟩
theorem Tk(N:Nat)(q:apf aG×Int)(hs:yl q.1):∀(l:apf apg)(k:Nat)(acc:apf aG),acc.length+l.length<=1000000->Kv N q l k acc=some (acc++l.map (λs=>(⟨s,(vw q.1 s).1⟩:aG)),0)
 |[],k,acc,_=>by rw[List.map_nil,aoM];rfl
 |s::l,k,acc,hl=>by
  simp only[aou]at hl;rw[Kv,Z2,aoq,ab6 N (hs.find s),aoq,fz (by omega),cond_true];dsimp only;rw[Tk N q hs l (k+1) _ (by simp only[aos,aou,aoD];omega),aoI];rfl
theorem agL{N:Nat}{p:aV}{env:apf aI}(W:Lw N p env)(ins:apf aG)(hi:yl ins):
 (∃z,z≠0/\mz N p env ins=some ([],z)/\Oz N p env ins=some ([],z))\/
 (∃m all,an5 N p env ins m all/\mz N p env ins=some (agI p (m++all),0)/\Oz N p env ins=some (all,0)):=by
 have hN:=W.hN;have bq:=W.sh.d;have HI:=W.sh.q;have ho:=W.sh.o;unfold mz Oz EM;obtain⟨x,J,h3⟩:=ajH N (by omega) p env W.bd W.wh;rw[J,aoq];cases hx:(x !=0)with
 |true=>
  refine .inl ⟨x,bne_iff_ne.1 hx,?_,?_⟩
  ·rw[cond_true,aoq];dsimp only;rw[hx];rfl
  ·rw[cond_true,aoq];dsimp only;rw[hx];rfl
 |false=>
  have NU:x=0:=by simpa using hx
  obtain⟨_,V,G⟩:=h3 NU;rw[cond_false];unfold DS;rcases VV W V ins hi p.aY 0 [] rfl (by simp only[aoD];omega)with⟨z,z1,z2⟩|⟨m,z1,z2,z3⟩
  ·rw[z2,aoq];dsimp only;rw[bne_iff_ne.2 z1,cond_true];refine .inl ⟨z,z1,?_,?_⟩
   ·rw[aoq];dsimp only;rw[bne_iff_ne.2 z1];rfl
   ·rw[aoq];dsimp only;rw[bne_iff_ne.2 z1];rfl
  ·rw[z1,aoq];dsimp only;rw[show((0:Int) !=0)=false from rfl,cond_false,List.nil_append];have hm:m.length=p.aY.length:=by have:=congrArg List.length z2;simpa using this
   rcases aaQ W V G p.aO 0 m rfl (by omega)with⟨z,y1,y2⟩|⟨all,y1,y2,ys,y3⟩
   ·rw[y2];refine .inl ⟨z,y1,?_,?_⟩
    ·rw[aoq];dsimp only;rw[bne_iff_ne.2 y1];rfl
    ·rw[aoq];dsimp only;rw[bne_iff_ne.2 y1];rfl
   ·rw[y1];have sm:yl (m++all):=λa ha=>by
      rcases ao3.1 ha with ha|ha
      ·exact(z3 a ha).2.2
      ·exact ys a ha
    refine .inr ⟨m,all,⟨V,G,by rw[J,NU],z2,y2,z3,y3⟩,?_,?_⟩
    ·rw[aoq];dsimp only;rw[show((0:Int) !=0)=false from rfl,cond_false];exact Tk N (m++all,0) sm p.di 0 [] (by simp only[aoD];omega)
    ·rw[aoq];dsimp only;rw[show((0:Int) !=0)=false from rfl,cond_false,ao8 (show(0:Int)<=(p.aY.length:Int) by omega),cond_true,aoS,ao8 (show p.aY.length<=(m++all).length by rw[aos];omega),cond_true,List.drop_left' hm]
def qb(k:IntKind)(n:Int):Prop:=k.min<=n/\n<=k.max
theorem DY{n:Int}(h:qb .i64 n):∃m:Int64,n=m.toInt:=by
 refine⟨Int64.ofInt n,?_⟩;have J:aQ n=n:=by
  unfold aQ;rw[IntKind.wrap_i64];have h2: -9223372036854775808<=n:=h.1;have h3:n<=9223372036854775807:=h.2;omega
 rw[Int64.toInt_ofInt,<-AQ];exact J.symm
theorem TY{p:apf D}:∀{l:apf (apf D)},p∈l->SizeOf.sizeOf p<=SizeOf.sizeOf l.flatten
 |[],h=>by cases h
 |q::l,h=>by
  have app:∀a b:apf D,SizeOf.sizeOf a<=SizeOf.sizeOf (a++b)/\SizeOf.sizeOf b<=SizeOf.sizeOf (a++b):=by
   intro a b
   induction a with
   |nil=>cases b<;>simp only[List.nil_append,List.nil.sizeOf_spec,List.cons.sizeOf_spec]<;>omega
   |cons x a ih=>simp only[List.cons_append,List.cons.sizeOf_spec];omega
  rw[List.flatten_cons];rcases aoV.1 h with rfl|h
  ·exact(app _ _).1
  ·exact aoJ (TY h) (app _ _).2
theorem Ve{xs:apf D}(h:dQ Tryz.prog 22 xs):∃l:apf apg,xs=[.sl (dS l)]/\(l.length<=140737488355328/\∀a∈l,a.size<=maxLen):=by
 obtain⟨l,rfl,hl,hs⟩:=h.nr Tryz.underlying22;obtain⟨r,rfl,hr⟩:=nk (f:=im) (Q:=λa=>a.size<=maxLen) l (λx hx=>by
  obtain⟨PH,rfl,RX⟩:=(hs x hx).td Tryz.underlying9;exact⟨PH,rfl,RX⟩)
 exact⟨r,by rw[nj],by simpa using hl,hr⟩
structure Im(x:dw):Prop where
 h0:x.au.size<=maxLen
 J:True
theorem aiG{xs:apf D}(h:dQ Tryz.prog 50 xs):∃x:dw,xs=Cg x/\Im x:=by
 obtain⟨parts,rfl,hl,hx⟩:=h.mQ Tryz.underlying50
 match parts,hl with
 |[a0,a1],_=>
 obtain⟨iy,rfl,hY⟩:=(hx 0 _ _ rfl rfl).td Tryz.underlying9;obtain⟨iP,rfl,iC⟩:=(hx 1 _ _ rfl rfl).n7 Tryz.underlying2;obtain⟨BZ,rfl⟩:=DY iC;exact⟨⟨iy,BZ⟩,rfl,⟨hY,trivial⟩⟩
theorem adu{xs:apf D}(h:dQ Tryz.prog 51 xs):∃l:apf dw,xs=[.sl (gv l)]/\(l.length<=140737488355328/\∀a∈l,Im a):=by
 obtain⟨l,rfl,hl,hs⟩:=h.nr Tryz.underlying51;obtain⟨r,rfl,hr⟩:=nk (f:=Cg) (Q:=λa=>Im a) l (λx hx=>aiG (hs x hx));exact⟨r,by rw[wy],by simpa using hl,hr⟩
structure sH(x:bp):Prop where
 h0:True
 J:x.xL.length<=140737488355328/\∀a∈x.xL,Im a
theorem Cu{xs:apf D}(h:dQ Tryz.prog 53 xs):∃x:bp,xs=Fa x/\sH x:=by
 obtain⟨parts,rfl,hl,hx⟩:=h.mQ Tryz.underlying53
 match parts,hl with
 |[a0,a1],_=>
 obtain⟨iy,rfl,hY⟩:=(hx 0 _ _ rfl rfl).n7 Tryz.underlying2;obtain⟨SJ,rfl⟩:=DY hY;obtain⟨iP,rfl,iC⟩:=adu (hx 1 _ _ rfl rfl);exact⟨⟨SJ,iP⟩,rfl,⟨trivial,iC⟩⟩
structure HM(x:gF):Prop where
 h0:sH x.bx
 J:True
theorem acI{xs:apf D}(h:dQ Tryz.prog 93 xs):∃x:gF,xs=CL x/\HM x:=by
 obtain⟨parts,rfl,hl,hx⟩:=h.mQ Tryz.underlying93
 match parts,hl with
 |[a0,a1],_=>
 obtain⟨iy,rfl,hY⟩:=Cu (hx 0 _ _ rfl rfl);obtain⟨iP,rfl⟩:=(hx 1 _ _ rfl rfl).agf Tryz.underlying4;exact⟨⟨iy,iP⟩,rfl,⟨hY,trivial⟩⟩
theorem ah3{xs:apf D}(h:dQ Tryz.prog 23 xs):∃l:apf gF,xs=[.sl (m7 l)]/\(l.length<=140737488355328/\∀a∈l,HM a):=by
 obtain⟨l,rfl,hl,hs⟩:=h.nr Tryz.underlying23;obtain⟨r,rfl,hr⟩:=nk (f:=CL) (Q:=λa=>HM a) l (λx hx=>acI (hs x hx));exact⟨r,by rw[vM],by simpa using hl,hr⟩
structure CO(x:aM):Prop where
 h0:qb .i64 x.bk
 J:qb .i64 x.cf
 h2:qb .i64 x.bQ
 h3:qb .i64 x.cq
 h4:qb .i64 x.ct
theorem Lx{xs:apf D}(h:dQ Tryz.prog 34 xs):∃x:aM,xs=JD x/\CO x:=by
 obtain⟨parts,rfl,hl,hx⟩:=h.mQ Tryz.underlying34
 match parts,hl with
 |[a0,a1,a2,a3,a4],_=>
 obtain⟨iy,rfl,hY⟩:=(hx 0 _ _ rfl rfl).n7 Tryz.underlying3;obtain⟨iP,rfl,iC⟩:=(hx 1 _ _ rfl rfl).n7 Tryz.underlying3;obtain⟨nH,rfl,nx⟩:=(hx 2 _ _ rfl rfl).n7 Tryz.underlying3;obtain⟨vS,rfl,xG⟩:=(hx 3 _ _ rfl rfl).n7 Tryz.underlying3;obtain⟨xk,rfl,yq⟩:=(hx 4 _ _ rfl rfl).n7 Tryz.underlying3;exact⟨⟨iy,iP,nH,vS,xk⟩,rfl,⟨hY,iC,nx,xG,yq⟩⟩
theorem Vy{xs:apf D}(h:dQ Tryz.prog 41 xs):∃l:apf bp,xs=[.sl (fV l)]/\(l.length<=140737488355328/\∀a∈l,sH a):=by
 obtain⟨l,rfl,hl,hs⟩:=h.nr Tryz.underlying41;obtain⟨r,rfl,hr⟩:=nk (f:=Fa) (Q:=λa=>sH a) l (λx hx=>Cu (hs x hx));exact⟨r,by rw[x8],by simpa using hl,hr⟩
structure Hg(x:dX):Prop where
 h0:x.au.size<=maxLen
 J:CO x.aB
 h2:x.aU.length<=140737488355328/\∀a∈x.aU,sH a
theorem akM{xs:apf D}(h:dQ Tryz.prog 43 xs):∃x:dX,xs=Dl x/\Hg x:=by
 obtain⟨parts,rfl,hl,hx⟩:=h.mQ Tryz.underlying43
 match parts,hl with
 |[a0,a1,a2],_=>
 obtain⟨iy,rfl,hY⟩:=(hx 0 _ _ rfl rfl).td Tryz.underlying9;obtain⟨iP,rfl,iC⟩:=Lx (hx 1 _ _ rfl rfl);obtain⟨nH,rfl,nx⟩:=Vy (hx 2 _ _ rfl rfl);exact⟨⟨iy,iP,nH⟩,rfl,⟨hY,iC,nx⟩⟩
theorem afM{xs:apf D}(h:dQ Tryz.prog 24 xs):∃l:apf dX,xs=[.sl (ko l)]/\(l.length<=140737488355328/\∀a∈l,Hg a):=by
 obtain⟨l,rfl,hl,hs⟩:=h.nr Tryz.underlying24;obtain⟨r,rfl,hr⟩:=nk (f:=Dl) (Q:=λa=>Hg a) l (λx hx=>akM (hs x hx));exact⟨r,by rw[wE],by simpa using hl,hr⟩
structure Cj(x:dg):Prop where
 h0:x.au.size<=maxLen
 J:sH x.dR
theorem afr{xs:apf D}(h:dQ Tryz.prog 63 xs):∃x:dg,xs=Cy x/\Cj x:=by
 obtain⟨parts,rfl,hl,hx⟩:=h.mQ Tryz.underlying63
 match parts,hl with
 |[a0,a1],_=>
 obtain⟨iy,rfl,hY⟩:=(hx 0 _ _ rfl rfl).td Tryz.underlying9;obtain⟨iP,rfl,iC⟩:=Cu (hx 1 _ _ rfl rfl);exact⟨⟨iy,iP⟩,rfl,⟨hY,iC⟩⟩
theorem WJ{xs:apf D}(h:dQ Tryz.prog 64 xs):∃l:apf dg,xs=[.sl (hJ l)]/\(l.length<=140737488355328/\∀a∈l,Cj a):=by
 obtain⟨l,rfl,hl,hs⟩:=h.nr Tryz.underlying64;obtain⟨r,rfl,hr⟩:=nk (f:=Cy) (Q:=λa=>Cj a) l (λx hx=>afr (hs x hx));exact⟨r,by rw[vP],by simpa using hl,hr⟩
structure FI(x:aD):Prop where
 h0:True
 J:True
theorem aa6{xs:apf D}(h:dQ Tryz.prog 58 xs):∃x:aD,xs=yH x/\FI x:=by
 obtain⟨parts,rfl,hl,hx⟩:=h.mQ Tryz.underlying58
 match parts,hl with
 |[a0,a1],_=>
 obtain⟨iy,rfl,hY⟩:=(hx 0 _ _ rfl rfl).n7 Tryz.underlying2;obtain⟨SJ,rfl⟩:=DY hY;obtain⟨iP,rfl,iC⟩:=(hx 1 _ _ rfl rfl).n7 Tryz.underlying2;obtain⟨BZ,rfl⟩:=DY iC;exact⟨⟨SJ,BZ⟩,rfl,⟨trivial,trivial⟩⟩
structure Ky(x:cJ):Prop where
 h0:sH x.bx
 J:x.cP.size<=maxLen
 h2:x.cN.length<=140737488355328/\∀a∈x.cN,sH a
theorem agW{xs:apf D}(h:dQ Tryz.prog 55 xs):∃x:cJ,xs=DC x/\Ky x:=by
 obtain⟨parts,rfl,hl,hx⟩:=h.mQ Tryz.underlying55
 match parts,hl with
 |[a0,a1,a2],_=>
 obtain⟨iy,rfl,hY⟩:=Cu (hx 0 _ _ rfl rfl);obtain⟨iP,rfl,iC⟩:=(hx 1 _ _ rfl rfl).td Tryz.underlying9;obtain⟨nH,rfl,nx⟩:=Vy (hx 2 _ _ rfl rfl);exact⟨⟨iy,iP,nH⟩,rfl,⟨hY,iC,nx⟩⟩
theorem akJ{xs:apf D}(h:dQ Tryz.prog 56 xs):∃l:apf cJ,xs=[.sl (eQ l)]/\(l.length<=140737488355328/\∀a∈l,Ky a):=by
 obtain⟨l,rfl,hl,hs⟩:=h.nr Tryz.underlying56;obtain⟨r,rfl,hr⟩:=nk (f:=DC) (Q:=λa=>Ky a) l (λx hx=>agW (hs x hx));exact⟨r,by rw[xd],by simpa using hl,hr⟩
inductive xT:aw->Prop
 |mk (x:aw) (h0:qb .i64 x.az) (J:x.au.size<=maxLen) (h2:FI x.de) (h3:CO x.aB) (h4:sH x.bx) (h5:x.xIdx.length<=140737488355328/\∀a∈x.xIdx,Ky a) (h6:x.bZ.length<=140737488355328) (g6:∀a∈x.bZ,xT a):xT x
theorem aan:∀(n:Nat)(xs:apf D),SizeOf.sizeOf xs<n->dQ Tryz.prog 61 xs->∃x:aw,xs=eJ x/\xT x
 |0,_,h,_=>absurd h (aoT _)
 |n+1,xs,hn,h=>by
  obtain⟨parts,rfl,hl,hx⟩:=h.mQ Tryz.underlying61
  match parts,hl with
  |[a0,a1,a2,a3,a4,a5,a6],_=>
  obtain⟨iy,rfl,hY⟩:=(hx 0 _ _ rfl rfl).n7 Tryz.underlying3;obtain⟨iP,rfl,iC⟩:=(hx 1 _ _ rfl rfl).td Tryz.underlying9;obtain⟨nH,rfl,nx⟩:=aa6 (hx 2 _ _ rfl rfl);obtain⟨vS,rfl,xG⟩:=Lx (hx 3 _ _ rfl rfl);obtain⟨xk,rfl,yq⟩:=Cu (hx 4 _ _ rfl rfl);obtain⟨RT,rfl,Rs⟩:=akJ (hx 5 _ _ rfl rfl);obtain⟨l_,rfl,ajS,hs_⟩:=(hx 6 _ _ rfl rfl).nr Tryz.underlying59;obtain⟨r_,rfl,hr_⟩:=nk (f:=eJ) (Q:=xT) l_ (λx hx=>aan n x (by have J:=List.sizeOf_lt_of_mem hx;have h2:SizeOf.sizeOf [D.sl l_]<n+1:=Nat.lt_of_le_of_lt (TY (by simp)) hn;simp only[List.cons.sizeOf_spec,D.sl.sizeOf_spec,List.nil.sizeOf_spec]at h2;omega) (hs_ x hx));refine⟨⟨iy,iP,nH,vS,xk,RT,r_⟩,?_, .mk _ hY iC nx xG yq Rs (by simpa using ajS) hr_⟩;show _=eJ _;unfold eJ;rw[pI];rfl
theorem ahh{xs:apf D}(h:dQ Tryz.prog 61 xs):∃x:aw,xs=eJ x/\xT x:=aan _ xs (apd _) h
structure Ki(x:bD):Prop where
 h0:x.au.size<=maxLen
 J:CO x.aB
 h2:x.aU.length<=140737488355328/\∀a∈x.aU,Cj a
 h3:x.bY.length<=140737488355328/\∀a∈x.bY,Cj a
 h4:qb .i64 x.dm
 h5:xT x.bV
theorem akL{xs:apf D}(h:dQ Tryz.prog 66 xs):∃x:bD,xs=Gn x/\Ki x:=by
 obtain⟨parts,rfl,hl,hx⟩:=h.mQ Tryz.underlying66
 match parts,hl with
 |[a0,a1,a2,a3,a4,a5],_=>
 obtain⟨iy,rfl,hY⟩:=(hx 0 _ _ rfl rfl).td Tryz.underlying9;obtain⟨iP,rfl,iC⟩:=Lx (hx 1 _ _ rfl rfl);obtain⟨nH,rfl,nx⟩:=WJ (hx 2 _ _ rfl rfl);obtain⟨vS,rfl,xG⟩:=WJ (hx 3 _ _ rfl rfl);obtain⟨xk,rfl,yq⟩:=(hx 4 _ _ rfl rfl).n7 Tryz.underlying3;obtain⟨RT,rfl,Rs⟩:=ahh (hx 5 _ _ rfl rfl);exact⟨⟨iy,iP,nH,vS,xk,RT⟩,rfl,⟨hY,iC,nx,xG,yq,Rs⟩⟩
theorem afU{xs:apf D}(h:dQ Tryz.prog 25 xs):∃l:apf bD,xs=[.sl (iH l)]/\(l.length<=140737488355328/\∀a∈l,Ki a):=by
 obtain⟨l,rfl,hl,hs⟩:=h.nr Tryz.underlying25;obtain⟨r,rfl,hr⟩:=nk (f:=Gn) (Q:=λa=>Ki a) l (λx hx=>akL (hs x hx));exact⟨r,by rw[tq],by simpa using hl,hr⟩
structure YJ(x:aV):Prop where
 h0:x.bm.length<=140737488355328/\∀a∈x.bm,a.size<=maxLen
 J:x.dF.length<=140737488355328/\∀a∈x.dF,HM a
 h2:x.aY.length<=140737488355328/\∀a∈x.aY,Hg a
 h3:x.aO.length<=140737488355328/\∀a∈x.aO,Ki a
 h4:x.di.length<=140737488355328/\∀a∈x.di,a.size<=maxLen
theorem ahb{xs:apf D}(h:dQ Tryz.prog 27 xs):∃x:aV,xs=ajc x/\YJ x:=by
 obtain⟨parts,rfl,hl,hx⟩:=h.mQ Tryz.underlying27
 match parts,hl with
 |[a0,a1,a2,a3,a4],_=>
 obtain⟨iy,rfl,hY⟩:=Ve (hx 0 _ _ rfl rfl);obtain⟨iP,rfl,iC⟩:=ah3 (hx 1 _ _ rfl rfl);obtain⟨nH,rfl,nx⟩:=afM (hx 2 _ _ rfl rfl);obtain⟨vS,rfl,xG⟩:=afU (hx 3 _ _ rfl rfl);obtain⟨xk,rfl,yq⟩:=Ve (hx 4 _ _ rfl rfl);exact⟨⟨iy,iP,nH,vS,xk⟩,rfl,⟨hY,iC,nx,xG,yq⟩⟩
structure GG(x:aI):Prop where
 h0:x.au.size<=maxLen
 J:True
theorem ah8{xs:apf D}(h:dQ Tryz.prog 68 xs):∃x:aI,xs=FV x/\GG x:=by
 obtain⟨parts,rfl,hl,hx⟩:=h.mQ Tryz.underlying68
 match parts,hl with
 |[a0,a1],_=>
 obtain⟨iy,rfl,hY⟩:=(hx 0 _ _ rfl rfl).td Tryz.underlying9;obtain⟨iP,rfl,iC⟩:=(hx 1 _ _ rfl rfl).n7 Tryz.underlying2;obtain⟨BZ,rfl⟩:=DY iC;exact⟨⟨iy,BZ⟩,rfl,⟨hY,trivial⟩⟩
theorem ahM{xs:apf D}(h:dQ Tryz.prog 28 xs):∃l:apf aI,xs=[.sl (aS l)]/\(l.length<=140737488355328/\∀a∈l,GG a):=by
 obtain⟨l,rfl,hl,hs⟩:=h.nr Tryz.underlying28;obtain⟨r,rfl,hr⟩:=nk (f:=FV) (Q:=λa=>GG a) l (λx hx=>ah8 (hs x hx));exact⟨r,by rw[xW],by simpa using hl,hr⟩
theorem acG{xs:apf D}(h:dQ Tryz.prog 35 xs):∃l:apf Int,xs=[.sl (bw l)]/\(l.length<=140737488355328/\∀a∈l,qb .i64 a):=by
 obtain⟨l,rfl,hl,hs⟩:=h.nr Tryz.underlying35;obtain⟨r,rfl,hr⟩:=nk (f:=eF) (Q:=λa=>qb .i64 a) l (λx hx=>by
  obtain⟨PH,rfl,RX⟩:=(hs x hx).n7 Tryz.underlying3;exact⟨PH,rfl,RX⟩)
 exact⟨r,by rw[ny],by simpa using hl,hr⟩
theorem ac7{xs:apf D}(h:dQ Tryz.prog 36 xs):∃l:apf aD,xs=[.sl (dK l)]/\(l.length<=140737488355328/\∀a∈l,FI a):=by
 obtain⟨l,rfl,hl,hs⟩:=h.nr Tryz.underlying36;obtain⟨r,rfl,hr⟩:=nk (f:=yH) (Q:=λa=>FI a) l (λx hx=>aa6 (hs x hx));exact⟨r,by rw[tn],by simpa using hl,hr⟩
structure X7(x:aT):Prop where
 h0:CO x.aB
 J:x.aU.length<=140737488355328/\∀a∈x.aU,qb .i64 a
 h2:x.eI.length<=140737488355328/\∀a∈x.eI,FI a
theorem ajg{xs:apf D}(h:dQ Tryz.prog 38 xs):∃x:aT,xs=bW x/\X7 x:=by
 obtain⟨parts,rfl,hl,hx⟩:=h.mQ Tryz.underlying38
 match parts,hl with
 |[a0,a1,a2],_=>
 obtain⟨iy,rfl,hY⟩:=Lx (hx 0 _ _ rfl rfl);obtain⟨iP,rfl,iC⟩:=acG (hx 1 _ _ rfl rfl);obtain⟨nH,rfl,nx⟩:=ac7 (hx 2 _ _ rfl rfl);exact⟨⟨iy,iP,nH⟩,rfl,⟨hY,iC,nx⟩⟩
structure G6(x:aG):Prop where
 h0:x.au.size<=maxLen
 J:X7 x.fb
theorem agA{xs:apf D}(h:dQ Tryz.prog 40 xs):∃x:aG,xs=Fl x/\G6 x:=by
 obtain⟨parts,rfl,hl,hx⟩:=h.mQ Tryz.underlying40
 match parts,hl with
 |[a0,a1],_=>
 obtain⟨iy,rfl,hY⟩:=(hx 0 _ _ rfl rfl).td Tryz.underlying9;obtain⟨iP,rfl,iC⟩:=ajg (hx 1 _ _ rfl rfl);exact⟨⟨iy,iP⟩,rfl,⟨hY,iC⟩⟩
theorem akG{xs:apf D}(h:dQ Tryz.prog 29 xs):∃l:apf aG,xs=[.sl (aX l)]/\(l.length<=140737488355328/\∀a∈l,G6 a):=by
 obtain⟨l,rfl,hl,hs⟩:=h.nr Tryz.underlying29;obtain⟨r,rfl,hr⟩:=nk (f:=Fl) (Q:=λa=>G6 a) l (λx hx=>agA (hs x hx));exact⟨r,by rw[sc],by simpa using hl,hr⟩
def alY:apf TypeId:=[2,3,4,9,22,23,24,25,27,28,29,34,35,36,38,40,41,43,50,51,53,55,56,58,59,61,63,64,66,68,93]
theorem MN:PW Tryz.prog alY=true:=by kernel_rfl
theorem ajK{e:aw}(h:xT e):ik px e:=by
 induction h with
 |mk x h0 J h2 h3 h4 h5 h6 g6 ih=>
  intro y hy;rcases aoV.1 hy with rfl|hy
  ·exact⟨h4.J.1,h5.1,λz hz=>⟨(h5.2 z hz).h0.J.1,(h5.2 z hz).h2.1,λl hl=>((h5.2 z hz).h2.2 l hl).J.1⟩,h6⟩
  ·obtain⟨a,ha,hy⟩:=Ko hy;exact ih a ha y hy
noncomputable def MX(d:bD):Nat:=3*SizeOf.sizeOf d.bV+2
theorem Ub:∀{l:apf bD}{d:bD},d∈l->MX d<=(l.map MX).sum
 |x::l,d,h=>by
  rw[aoQ,List.sum_cons];rcases aoV.1 h with rfl|h
  ·omega
  ·have:=Ub h;omega
noncomputable def abc(p:aV):Nat:=(p.aO.map MX).sum
theorem Y4{N:Nat}(hN:3000<=N){p:aV}{env:apf aI}{e:aG}{ins:apf aG}(hu:ins.Pairwise λx y=>bL x.au≠bL y.au)(hl:ins.length<=1000000){q:apf aG×Int}(hq:mz N p env ins=some q):∀(l:apf dX)(k:Nat)(done:apf dX),done++l=p.aY->(∀x∈done,(bL x.au==bL e.au)=false)->AY N p env (e::ins) e ins.reverse l k=some true
 |[],k,done,hd,hn=>by
  rw[aoM]at hd;rw[AY];have e1:mz N p env ([e]++ins.reverse)=some q:=by
    rw[<-hq];refine anL N p env λx hx=> ?_;have:=hn x (by rw[hd];exact hx);rw[Ov,aaD _ hu,eD,eD];have h2:(bL e.au==bL x.au)=false:=by rw[beq_eq_false_iff_ne]at this ⊢;exact λh=>this h.symm
    rw[h2];rfl
  have Gd:mz N p env ((e::ins).drop 1)=some q:=hq;rw[Gd,aoq,fz (by rw[List.length_reverse];simp only[aou,aoD];omega),cond_true,e1,aoq,apa,cond_true,ahf,aoq,cond_true,Hu hN];rfl
 |x::l,k,done,hd,hn=>by
  rw[AY];cases hb:bL x.au==bL e.au with
  |true=>rw[cond_true,Hu hN];rfl
  |false=>
   rw[cond_false];exact Y4 hN hu hl hq l (k+1) (done++[x]) (by rw[aoI];exact hd) λy hy=>by
     rcases ao3.1 hy with hy|hy
     ·exact hn y hy
     ·rcases List.mem_singleton.1 hy with rfl;exact hb
theorem Tt{N:Nat}{p:aV}{env:apf aI}{e:aG}{ins:apf aG}(hl:ins.length<=1000000):∀(j f:Nat),j<=ins.length->j<f->Bl N (e::ins) p env e f (ins.drop j).reverse ((j:Int)-1)=AY N p env (e::ins) e ins.reverse p.aY 0
 |0,f,hj,hf=>by
  obtain⟨f,rfl⟩:∃f',f=f'+1:=⟨f-1,by omega⟩;rw[Bl,ao9 (by decide),cond_false,ao0]
 |j+1,f,hj,hf=>by
  obtain⟨f,rfl⟩:∃f',f=f'+1:=⟨f-1,by omega⟩;obtain⟨x,hx⟩:∃x,ins[j]?=some x:=⟨_,aov (by omega)⟩;have kP:((e::ins).drop 1)[((j:Int)).toNat]?=some x:=by rw[aoS];exact hx
  rw[Bl,show((j+1:Nat):Int)-1=(j:Int) by omega,ao8 (show(j:Int)>=0 by omega),cond_true,cond_true,kP,aoq,fz (by rw[List.length_reverse,List.length_drop];omega),cond_true,jd (by omega) (by omega),<-List.reverse_cons,<-Mv hx];exact Tt hl j f (by omega) (by omega)
theorem Xo{N:Nat}(hN:3000<=N){e y:aG}{ins:apf aG}{n:Nat}(hn:n<=ins.length)(hl:ins.length<=1000000){c:aph Bool}:∀(m k f:Nat),k+m=n->m<f->(∀i x,i<k->ins[i]?=some x->bL x.au≠bL y.au)->((∀i x,i<n->ins[i]?=some x->bL x.au≠bL y.au)->c=some true)->zA N n (e::ins) y c f (k:Int)=some true
 |0,k,f,hk,hf,J,h2=>by
  obtain⟨f,rfl⟩:∃f',f=f'+1:=⟨f-1,by omega⟩;rw[zA,ao9 (show ¬(k:Int)<(n:Int) by omega),cond_false];exact h2 λi x hi hx=>J i x (by omega) hx
 |m+1,k,f,hk,hf,J,h2=>by
  obtain⟨f,rfl⟩:∃f',f=f'+1:=⟨f-1,by omega⟩;obtain⟨x,hx⟩:∃x,ins[k]?=some x:=⟨_,aov (by omega)⟩;have kP:((e::ins).drop 1)[((k:Int)).toNat]?=some x:=by rw[aoS];exact hx
  rw[zA,ao8 (show(k:Int)<(n:Int) by omega),cond_true,ao8 (show(0:Int)<=(k:Int) by omega),cond_true,kP,aoq];cases hb:bL x.au==bL y.au with
  |true=>rw[cond_true,Hu hN];rfl
  |false=>
   rw[cond_false,jd (by omega) (by omega),show(k:Int)+1=((k+1:Nat):Int) by omega];refine Xo hN hn hl m (k+1) f (by omega) (by omega) (λi z hi hz=> ?_) h2;by_cases l7:i=k
   ·subst l7;rw[hx]at hz;cases hz
    simpa using hb
   ·exact J i z (by omega) hz
theorem Tv{N:Nat}(hN:3000<=N)(SL:2000000<N){p:aV}{env:apf aI}{e:aG}{ins:apf aG}(hl:ins.length<=1000000){q:apf aG×Int}(hq:mz N p env ins=some q):∀(l:apf aG)(k:Nat),ins.drop k=l->k<=ins.length->(∀i j x y,i<j->j<k->ins[i]?=some x->ins[j]?=some y->bL x.au≠bL y.au)->yU N (e::ins) p env e l k=some true
 |[],k,hd,hk,hu=>by
  have hlen:ins.length<=k:=List.drop_eq_nil_iff.1 hd;have hp:ins.Pairwise λx y=>bL x.au≠bL y.au:=by
   rw[List.pairwise_iff_getElem];intro i j hi hj l5;exact hu i j _ _ l5 (by omega) (aov hi) (aov hj)
  rw[yU];have e1:=Tt (N:=N) (p:=p) (env:=env) (e:=e) hl ins.length N (aoC _) (by omega);rw[List.drop_length,List.reverse_nil]at e1;have e2:aQ ((((e::ins).drop 1).length:Int)-1)=(ins.length:Int)-1:=jd (by show _<=(ins.length:Int)-1;omega) (by show(ins.length:Int)-1<_;omega);rw[e2,e1];exact Y4 hN hp hl hq p.aY 0 [] rfl λx hx=>by cases hx
 |y::l,k,hd,hk,hu=>by
  rw[yU];have hy:=bI hd;have gL:=N2 hd;refine Xo hN (Nat.le_of_lt gL) hl k 0 N (by omega) (by omega) (λi x hi _=>absurd hi (by omega)) λhn=> ?_;refine Tv hN SL hl hq l (k+1) (pf hd) (by omega) λi j x z l5 hj hx hz=> ?_;by_cases A8:j=k
  ·subst A8;rw[hy]at hz;cases hz
   exact hn i x l5 hx
  ·exact hu i j x z l5 (by omega) hx hz
theorem ad8(N:Nat)(p:aV)(env:apf aI)(mem:apf aG)(hN:9223372036854775808<N)(hd:∀d∈p.aO,ik px d.bV/\3*SizeOf.sizeOf d.bV<N):RB N p env mem=some true:=by
 unfold RB;obtain⟨b1,f1,f2⟩:=anC N (by omega) p env 8 λd h=>⟨(hd d h).1,by have:=(hd d h).2;omega⟩;obtain⟨b2,g1,g2⟩:=ad6 N mem;have L:=Hu (N:=N) (by omega);rw[f1,g1,L,aoq];cases b1 with
 |false=>rfl
 |true=>
  cases b2 with
  |false=>rfl
  |true=>
   cases mem with
   |nil=>rfl
   |cons e ins=>
    obtain⟨Sh,he⟩:=f2 rfl;obtain⟨q1,q2⟩:=g2 rfl;have W:Lw N p env:=⟨hN,Sh,by omega,λd h=>(hd d h).2⟩;have hi:yl ins:=λx hx=>⟨aoJ (q2 x (aoA _ hx)).yR (by decide),aoJ (q2 x (aoA _ hx)).Nd (by decide)⟩;obtain⟨r,r1⟩:∃r,mz N p env ins=some r:=by
     rcases agL W ins hi with⟨z,_,z2,_⟩|⟨m,all,_,z2,_⟩
     ·exact⟨_,z2⟩
     ·exact⟨_,z2⟩
    simp only[aou]at q1;rw[cond_true,aoq,cond_true,show((((e::ins).length:Nat):Int)==0)=false by rw[beq_eq_false_iff_ne];simp only[aou];omega,aoq,cond_false];show Option.bind (some e) _=_;rw[aoq,ao8 (show 1<=(e::ins).length by simp),cond_true];exact Tv (by omega) (by omega) (by omega) r1 ins 0 rfl (by omega) λi j x y _ hj=>absurd hj (by omega)
theorem aed(p:aV)(b:apf aI)(m:apf aG)(h:YJ p)(_:b.length<=140737488355328/\∀a∈b,GG a)(_:m.length<=140737488355328/\∀a∈m,G6 a):ga Tryz.prog 3 [dU p, .d (.sl (aS b)), .d (.sl (aX m))] (·= .d (.v (.bool true))):=by
 refine ajO true (ad8 (9223372036854775900+abc p) p b m (by omega) (λd hd=>⟨ajK (h.h3.2 d hd).h5,?_⟩));have J:3*SizeOf.sizeOf d.bV+2<=abc p:=Ub hd;omega
end Go.Proofs.YtpeecnpmcbnahaaGreatDoor
