/-
  Part 9 of the proof: Sorts, AbsWs, AbsDl, AbsTm, AbsUnr, AbsOT, IterB, RndD.
-/
import Derived.Test.YtnnapanbbbcalaaGreatDoorPd8
import Derived.WalkKit
import Derived.Shelf.Sort.Plain
import Derived.Shelf.Slices.CompactS
import Derived.Shelf.Slices.In.SortNone
import Derived.Sort.OwnSorted
import Derived.LoopNIn
set_option linter.defProp false
namespace Go.Proofs.YtnnapanbbbcalaaGreatDoor
open Tryz
open Go.RowKit Go.Shelf
set_option maxRecDepth 100000
set_option linter.unusedVariables false
def arS:Ren where
 f:=fun
  |190=>256
  |125=>291
  |258=>290
  |128=>318
  |129=>319
  |302=>309
  |303=>310
  |304=>311
  |305=>312
  |306=>313
  |307=>314
  |308=>315
  |309=>316
  |310=>317
  |333=>324
  |329=>325
  |330=>326
  |334=>327
  |335=>328
  |336=>329
  |344=>331
  |n=>n
 t:=fun
  |31=>22
  |9=>9
  |3=>3
  |46=>250
  |0=>0
  |51=>300
  |53=>193
  |4=>4
  |183=>293
  |182=>292
  |131=>177
  |5=>5
  |218=>305
  |222=>309
  |228=>317
  |229=>318
  |n=>n
 g:=λn=>n
def adP:Lays.n190 prog arS:=by
 constructor<;>first|kernel_rfl|(intro w;rfl)
def alq:Ren where
 f:=fun
  |194=>257
  |n=>n
 t:=fun
  |31=>22
  |n=>n
 g:=λn=>n
def acu:Lays.n194 prog alq:=by
 constructor<;>first|kernel_rfl|(intro w;rfl)
def jn(a:I so):I (I UInt8):=(a.map bL).mergeSort λx y=>decide (x<=y)
def jJ(a:I so):I so:=(Lib.compact (jn a)).map λl=>⟨l.toArray⟩
def kNo(ss:I so):(jn ss).length=ss.length:=by unfold jn;rw[List.length_mergeSort,Zq]
def amk(p:U Addr)(cap:Nat)(w:Zz):Calls prog 195 #[.slice p 0 cap] w λe w'=>e= .returned (.slice p 0 cap)/\w'=w:=by
 have a:Calls prog 256 #[.slice p 0 cap] w λe w'=>e= .returned (.tuple #[])/\w'=w:=Any.slices_Sort_string_none adP p cap w;have b:Calls prog 257 #[.slice p 0 cap] w λe w'=>e= .returned (.slice p 0 cap)/\w'=w:=Any.slices_Compact_string_empty acu p cap w
 go_enter func195,ntmps195
 go_wp2_with (first|(go_at_call 256;refine a.mono ?_;rintro e w' ⟨rfl,rfl⟩)|(go_at_call 257;refine b.mono ?_;rintro e w' ⟨rfl,rfl⟩))
 go_ret
 exact⟨rfl,rfl⟩
def atd{w:Zz}{g:Nat}{cur:Array kd}{e:TypeId}{a:Nat×Nat}(b:w.heap[g]?=some (.cells cur e a))(i:Nat):w.cell? ⟨g,i,none⟩=cur[i]?:=by
 simp only[World.cell?,b,Option.isSome_none,Bool.false_eq_true,if_false]
def af6(zs:I (I UInt8)):(Lib.compact zs).length<=zs.length:=by
 have h:∀m,(Lib.compactUpTo zs.toArray m).length<=m:=by
  intro m
  induction m with
  |zero=>exact Zr _
  |succ m a=>
   rw[Lib.compactUpTo_succ,Zj];split;{simp only[Zi,Zc];omega};{simp only[Zc];omega}
 exact h zs.length
def ap5(g cap:Nat)(a:I so)(cur:Array kd)(w:Zz)(z:w.heap[g]?=some (.cells cur 9 (0,0)))(ht:cur.toList.take a.length=(a.map bL).map encStr)(hc:cur.size=cap)(la:a.length<=cap)(hm:cap<=maxLen)(iR:a.length<4611686018427387904):
 Calls prog 195 #[.slice (some ⟨g,0,none⟩) a.length cap] w λe w'=>e= .returned (.slice (some ⟨g,0,none⟩) (jJ a).length cap)/\w.grownBy w' (some g)/\∀(i:Nat)(s:so),(jJ a)[i]?=some s->w'.cell? ⟨g,i,none⟩=some (.string s):=by
 have hg:g<w.heap.size:=(ZT.1 z).1;have E:=kNo a;obtain⟨p,m⟩:∃p:Zz->Prop,p=λw'=>∃n os,w'=Sort.grow (Sort.putRow encStr (Sort.ahead w n) g 0 (jn a).toArray) os:=⟨_,rfl⟩;have h1:Calls prog 256 #[.slice (some ⟨g,0,none⟩) a.length cap] w λe w'=>e= .returned (.tuple #[])/\p w':=by
  have h:=Any.slices_Sort_string adP g 0 cap (a.map bL) w (holds_of_block z (by rw[Zq];exact ht)) hg (by rw[Zq];exact iR);rw[Zq]at h;rw[m];exact h
 have h2:∀b,p b->Calls prog 257 #[.slice (some ⟨g,0,none⟩) a.length cap] b λe w'=>e= .returned (.slice (some ⟨g,0,none⟩) (jJ a).length cap)/\(w.grownBy w' (some g)/\∀(i:Nat)(s:so),(jJ a)[i]?=some s->w'.cell? ⟨g,i,none⟩=some (.string s)):=by
  intro b M;rw[m]at M;obtain⟨n,os,rfl⟩:=M;have N:=heap_sorted (n:=n) (os:=os) (jn a).toArray z;have DP:=grownBy_sorted (w:=w) (g:=g) (n:=n) (os:=os) (jn a).toArray;have fR:(Sort.putCells encStr 0 (jn a).toArray cur).size=cur.size:=by simp [Sort.putCells]
  have F:=take_putCells cur (jn a) (by omega);generalize Sort.grow (Sort.putRow encStr (Sort.ahead w n) g 0 (jn a).toArray) os=b at*;generalize Sort.putCells encStr 0 (jn a).toArray cur=ab6 at*;have h:=Any.slices_Compact_string acu g 0 cap (jn a) b (holds_of_block N F) (by unfold maxLen at hm;omega) (by omega);rw[E]at h;refine h.mono λe w' hp=> ?_;obtain⟨rfl,q,rfl⟩:=hp;have u:(jJ a).length=(Lib.compact (jn a)).length:=by unfold jJ;rw[Zq]
  refine⟨by rw[u],?_⟩;obtain⟨d,J⟩:∃d,d=Lib.compact (jn a)++List.replicate (a.length-(Lib.compact (jn a)).length) []:=⟨_,rfl⟩;rw[<-J];have qT:d.length<=ab6.size:=by
   have:=af6 (jn a);rw[J,Zj,Yd];omega
  have Bx:=grownBy_sorted (w:=b) (g:=g) (n:=q) (os:= #[]) d.toArray;have S:=heap_sorted (n:=q) (os:= #[]) d.toArray N;rw[Sort.grow_empty]at Bx S;have L:=take_putCells ab6 d qT;refine⟨⟨Bx.os.trans DP.os,Bx.tape.trans DP.tape,Bx.output.trans DP.output,Za DP.size Bx.size,λk u T=>(Bx.block k (ZU u DP.size) T).trans (DP.block k u T)⟩,λi s j=> ?_⟩;rw[atd S i];unfold jJ at j;rw[Zm]at j;cases v:(Lib.compact (jn a))[i]? with
  |none=>rw[v]at j;cases j
  |some l=>
   rw[v]at j;cases j;have kX:=(Zk.1 v).1;have W:d[i]?=some l:=by rw[J,ZW kX];exact v
   have:=congrArg (λl:I kd=>l[i]?) L;rw[List.getElem?_take_of_lt (Zk.1 W).1,Zm,W,ZF]at this;exact this
 go_enter func195,ntmps195
 go_wp2_with (first|(go_at_call 256;refine h1.mono ?_;rintro e b ⟨rfl,sy⟩)|(go_at_call 257;refine(h2 _ sy).mono ?_;rintro e w2 ⟨rfl,Uk⟩))
 go_ret
 exact⟨rfl,Uk⟩
def ahz:jJ []=[]:=by kernel_rfl
def ace{G:Gh}{w:Zz}{B:ar}(hi:cu G w [B]):cu G w [.gone]:=by
 refine⟨hi.len,hi.z,hi.S,λn C a=> ?_,λm n b d e=> ?_,hi.gl⟩
 ·match n,a with
  |0,a=>cases a;exact trivial
  |n+1,a=>simp at a
 ·match m,d with
  |0,d=>cases d
  |m+1,d=>simp [ct]at d
def ah3{xs:I so}{L:Nat}(hL:xs.length=L)(iR:L<4611686018427387904):
 dq prog 195 [.vec 0 0 L L 1] [.vec 9 1 (cg (cD xs))] λr1 h1=>r1= .d (.sl (cD (jJ xs)))/\h1=[.gone]:=by
 refine⟨by kernel_rfl,λG w vs p hvs hr=> ?_⟩;have nF:([ar.vec 9 1 (cg (cD xs))]:I ar)[0]?=some (.vec 9 1 (cg (cD xs))):=rfl;have M:(cg (cD xs)).length=L:=by rw[Jv,fB,hL]
 obtain⟨v0,rfl⟩:∃v0,vs= #[v0]:=by
  obtain⟨l⟩:=vs
  match l,hvs with
  |[a],_=>exact⟨a,rfl⟩
 have r0:=hr 0 v0 _ rfl rfl;obtain⟨CP,⟨A,T,rfl,q2,q3,q4,q5⟩,_⟩:=r0.vy p nF M;by_cases h0:L=0;{subst h0;obtain rfl:xs=[]:=W7 hL;refine(amk A T w).mono λe w' J=> ?_;obtain⟨rfl,rfl⟩:=J;refine⟨_,G,_,_,rfl,cn.refl _ _ _,Zr _,ace p,?_,rfl,rfl⟩;rw[ahz];exact .d (.sl A 0 0 T 1 [] (λ_ _=>undef) (λh=>absurd rfl h) (WJ _) q3 (λ_ h=>by cases h) (λ_ _ h=>absurd h (Z5 _)) λ_ _ _ _ h=>by simp at h)}
 ·obtain⟨g,cap,s1,rfl,s3⟩:=q5 (by omega);obtain⟨g',Hw,cur,t1,t2,t3,t4,t5,t6,t7,t8,t9⟩:=IZ p nF (λe=>by rw[e]at M;simp at M;omega);rw[t2,M]at s1;cases s1
  have hcc:T=cap:=by omega
  subst hcc;rw[M]at t5;rw[Nat.mul_one]at t7;have hg:g<w.heap.size:=(ZT.1 t4).1;have ht:cur.toList.take xs.length=(xs.map bL).map encStr:=by
   apply List.ext_getElem?;intro j;by_cases hj:j<xs.length
   ·have q:xs[j]?=some xs[j]:=Zd hj;have W:j<cur.size:=by omega
    have E:cur[j*1+0]?=some cur[j]:=by rw[Nat.mul_one,Nat.add_zero];exact ZH W
    have:=(t9 j 0 [.d (.v (.string xs[j]))] (.d (.v (.string xs[j]))) cur[j] (QR (k9 q)) rfl E).val;rw[List.getElem?_take_of_lt hj,ZF,ZH W,this,Zm,Zm,q];rfl
   ·rw[List.getElem?_take_eq_none (by omega),Yz (by simp;omega)]
  have hw:=ap5 g T xs cur w t4 ht t7 (by omega) t6 (by omega);rw[hL]at hw;rw[show(⟨g,0*1,none⟩:Addr)=⟨g,0,none⟩from rfl];refine hw.mono λe w' J=> ?_;obtain⟨rfl,gb,je⟩:=J;have hK:(jJ xs).length<=L:=by
   have:=af6 (jn xs);rw[kNo]at this;unfold jJ;rw[Zq];omega
  have hE:cn G.N G w (G.sb g (jJ xs).length) w':=
   ⟨gb.size,λ_ _ h=>.inl h,λb o F=>by
    have cX:some b≠some g:=λe=>by cases e;exact t8 o F
    unfold World.cell?;rw[gb.block b (p.S b o F) cX],λ_ _=>rfl,λ_ _=>.inl ⟨rfl,rfl⟩,iO rfl,λb hb=>gb.block b (p.z b hb) (λe=>by cases e;exact t3 hb),gb.os,gb.tape,gb.output,λb o F=>F.imp id fun⟨e,_⟩ hz=>t3 (e▸hz)⟩
  have hI:cu (G.sb g (jJ xs).length) w' [.gone]:=by
   have hi:=ace p;refine⟨hi.len,λb hb=>ZU (hi.z b hb) gb.size,λb o F=> ?_,λn C hC=> ?_,λm n b h1 h2=> ?_,hi.gl.keep hE⟩
   ·rcases F with F|⟨rfl,_⟩
    ·exact ZU (hi.S b o F) gb.size
    ·exact ZU hg gb.size
   ·match n,hC with
    |0,hC=>cases hC;exact trivial
    |n+1,hC=>simp at hC
   ·match m,h1 with
    |0,h1=>cases h1
    |m+1,h1=>simp [ct]at h1
  have yK:Rd (G.sb g (jJ xs).length).S w' 1 (cD (jJ xs)) ((jJ xs).map Value.string):=
   ⟨by rw[Zq,fB,Nat.mul_one],λx q=>(by rw[mS]at q;obtain⟨y,_,rfl⟩:=W1.1 q;rfl),λu E=>(by obtain⟨y,_,rfl⟩:=W1.1 E;rfl),λi j x d q hd=>by
    rw[mS,Zm]at q;cases hk:(jJ xs)[i]? with
    |none=>rw[hk]at q;cases q
    |some y=>
     rw[hk]at q;cases q;cases j with
     |zero=>cases hd;exact⟨.string y,by rw[Nat.mul_one,Nat.add_zero,Zm,hk];rfl,.v _⟩
     |succ j=>cases hd⟩
  have J:=yK.HG g T (by rw[fB];omega) t6 (λo ho=>.inr ⟨rfl,by rw[fB,Nat.mul_one]at ho;exact ho⟩) (λo u E=>by
   rw[Zm]at E;cases hq:(jJ xs)[o]? with
   |none=>rw[hq]at E;cases E
   |some y=>rw[hq]at E;cases E;exact je o y hq)
  rw[fB]at J;exact⟨_,_,_,_,rfl,hE,Zr _,hI,.d J,rfl,rfl⟩
open Go.RowKit
set_option linter.unusedSimpArgs false
structure DL{α:Type}(f:List α->List (List D))(k:Nat):Prop where
 len:∀l,(f l).length=l.length
 all:∀l,∀c∈f l,c.length=k
 app:∀a b,f a++f b=f (a++b)
section
variable {P:dg} {α:Type} {f:I α->I (I D)} {k dy:Nat}
def NR{n:Nat}(a:0<dy)(h:Nat.ble (n*dy) 140737488355328=true):n<=maxLen/\n*dy<=140737488355328:=by
 have b:=Zh h;have d:n*1<=n*dy:=Nat.mul_le_mul_left n a;refine⟨?_,b⟩;unfold maxLen;omega
def oA(F:DL f k)(A B:I α)(h:Nat.ble ((A.length+B.length)*dy) 140737488355328=true)(a:0<dy:=by decide):Ob P:=
 ⟨_,_,.app (xs:=f A) (ys:=f B) (zs:=f (A++B)) (len:=A.length) (n:=(A++B).length) (F.len A).symm (F.all A) (F.all B) (by rw[F.len,F.len];exact(NR a h).1) (by rw[F.len,F.len];exact(NR a h).2) (F.app A B) (by rw[F.len,F.len,Zj])⟩
def oZ(F:DL f k)(B:I α)(h:Nat.ble ((0+B.length)*dy) 140737488355328=true)(a:0<dy:=by decide):Ob P:=
 ⟨_,_,.app (xs:=[]) (ys:=f B) (zs:=f B) (len:=0) (n:=B.length) rfl (λ_ b=>absurd b Yp) (F.all B) (by rw[F.len];exact(NR a h).1) (by rw[F.len];exact(NR a h).2) rfl (by rw[F.len];exact ZJ _)⟩
end
section
variable {P:dg} {f:FuncId} {fK:I AV} {H H':I ar} {r:AV}
def oQ(nA:I AV)(h:I ar)(l:I Nat)(a:dq P f fK H λb h1=>b=r/\h1=H)(d:nA=fK.map (AV.aW (rn l 0)):=by kernel_rfl)(e:qP l=true:=by kernel_rfl)(g:l.map (λj=>h[j]?)=H.map (λB=>some (B.aW (rn l 0))):=by kernel_rfl)(i:(fK.all (AV.aN H.length)&&H.all (ar.aN H.length)&&r.aN H.length)=true:=by kernel_rfl):Ob P:=⟨_,_,.rq d e g i a⟩
def oR(nA:I AV)(h:I ar)(l:I Nat)(a:dq P f fK H λb h1=>b=r/\h1=H')(d:nA=fK.map (AV.aW (rn l h.length)):=by kernel_rfl)(e:qP l=true:=by kernel_rfl)(g:l.map (λj=>h[j]?)=H.map (λB=>some (B.aW (rn l h.length))):=by kernel_rfl)(i:(fK.all (AV.aN H.length)&&H.all (ar.aN H.length))=true:=by kernel_rfl):Ob P:=⟨_,_,.pA d e g i a⟩
def oX(a:VD H)(b:VD H')(nA:I AV)(h:I ar)(l:I Nat)(d:dq P f fK H λe h1=>e=r/\h1=H')(g:nA=fK.map (AV.aW (rn l h.length)):=by kernel_rfl)(i:qP l=true:=by kernel_rfl)(m:l.map (λj=>h[j]?)=H.map (λB=>some (B.te (rn l h.length))):=by kernel_rfl)(p:(fK.all (AV.aN H.length)&&H.all (ar.vC H.length))=true:=by kernel_rfl):Ob P:=⟨_,_,.RN a b g i m p d⟩
end
section
variable {P:dg} {r:U Nat} {N0:Nat} {Q:Exit->St->Prop} {w0:WO}
def Dd{α:Type}{f:I α->I (I D)}{z:Nat}(F:DL f z)(k:Nat)(l:I α)(h:l.length<=maxLen->GW P r N0 Q w0)(a:(bM (wS w0).t k).gN=some (f l):=by kernel_rfl):GW P r N0 Q w0:=
 W8 k (f l) a λe=>h (td (F.len l) e)
def aet{α:Type}{f:I α->I (I D)}{z:Nat}(F:DL f z)(b i:Nat)(l:I α)(h:l.length<=maxLen->GW P r N0 Q w0)(a:(((wS w0).h[b]?).bind λB=>match B with| .cells cs=>(cs[i]?).bind AV.gN|_=>none)=some (f l):=by kernel_rfl):GW P r N0 Q w0:=
 EK b i (f l) a λe=>h (td (F.len l) e)
structure pV{α ι R:Type}(k:Nat)(live:List Nat)(m:Nat)(L:List α)(st:Nat->ι->St)(G:List α->Nat->ι->Option R)(rr:R)(n:Nat)(x:α)(l:List α)(i:ι)(f:St->Prop):Prop where
 h:KW k live m (λz:Nat×List α×ι=>st z.1 z.2.2) (λz=>L.drop z.1=z.2.1/\G z.2.1 z.1 z.2.2=some rr) (λz=>z.2.1.length) (n,x::l,i) f
structure w9{ι R:Type}(k:Nat)(live:List Nat)(m:Nat)(st:ι->St)(G:Nat->ι->Option R)(rr:R)(d:Nat)(f:St->Prop):Prop where
 h:∀i,KW k live m (λz:Nat×ι=>st z.2) (λz=>G z.1 z.2=some rr) (λz=>z.1) (d+1,i) f
def KR(p:P.follows .mixedOrders=true){α ι R:Type}{rr:R}(k:Nat)(a:I (I (Nat×Ob P)))(live:I Nat)(m:Nat)(L:I α)(b:Nat->ι->St)(G:I α->Nat->ι->U R)(d:ι)(q:G L 0 d=some rr)
 (nil:∀n i,L.drop n=[]->G [] n i=some rr->∀f:St->Prop,GW P r N0 Q (iv k f (b n i) (wk P w0 a)))
 (cons:∀n x l i,L.drop n=x::l->G (x::l) n i=some rr->∀f:St->Prop,pV k live m L b G rr n x l i f->GW P r N0 Q (iv k f (b n i) (wk P w0 a)))
 (u:N0<=m) (e:nk live m (wk P w0 a)=some (b 0 d,eG a)):GW P r N0 Q w0:=by
 refine Hn p k a live m (λz:Nat×I α×ι=>b z.1 z.2.2) (λz=>L.drop z.1=z.2.1/\G z.2.1 z.1 z.2.2=some rr) (λz=>z.2.1.length) (0,L,d) ⟨rfl,q⟩ (λz v f w=> ?_) u e;obtain⟨n,l,i⟩:=z;obtain⟨g,j⟩:=v;cases l with
 |nil=>exact nil n i g j f
 |cons x l=>exact cons n x l i g j f ⟨w⟩
def apX(d:P.follows .mixedOrders=true){α ι R:Type}{rr:R}{live:I Nat}{m k:Nat}{L:I α}{b:Nat->ι->St}{G:I α->Nat->ι->U R}{n:Nat}{x:α}{l:I α}{i:ι}{f:St->Prop}(g:pV k live m L b G rr n x l i f)(j:ι)(a:I (I (Nat×Ob P)))(p:L.drop n=x::l)(q:G l (n+1) j=some rr)(u:kN k (wK w0)=[f])(e:rR k live m (wk P w0 a)=some (b (n+1) j,eG a)):GW P r N0 Q w0:=
 Bc d g.h (n+1,l,j) a ⟨kI p,q⟩ (Yu _) u e
def aum(p:P.follows .mixedOrders=true){ι R:Type}{rr:R}(k:Nat)(a:I (I (Nat×Ob P)))(live:I Nat)(m:Nat)(b:ι->St)(G:Nat->ι->U R)(d:Nat)(g:ι)(q:G d g=some rr)(u:∀i,G 0 i=none)
 (succ:∀d i,G (d+1) i=some rr->∀f:St->Prop,w9 k live m b G rr d f->GW P r N0 Q (iv k f (b i) (wk P w0 a)))
 (v:N0<=m) (e:nk live m (wk P w0 a)=some (b g,eG a)):GW P r N0 Q w0:=by
 refine Hn p k a live m (λz:Nat×ι=>b z.2) (λz=>G z.1 z.2=some rr) (λz=>z.1) (d,g) q (λz l f w=> ?_) v e;obtain⟨d,i⟩:=z;cases d with
 |zero=>exact absurd ((u i).symm.trans l) (by simp)
 |succ d=>exact succ d i l f ⟨λj=>⟨λE F J L M=>w.h E F J L M⟩⟩
def anp(g:P.follows .mixedOrders=true){ι R:Type}{rr:R}{live:I Nat}{m k:Nat}{b:ι->St}{G:Nat->ι->U R}{d:Nat}{f:St->Prop}(i:w9 k live m b G rr d f)(j:ι)(a:I (I (Nat×Ob P)))(l:G d j=some rr)(p:kN k (wK w0)=[f])(e:rR k live m (wk P w0 a)=some (b j,eG a)):GW P r N0 Q w0:=
 Bc g (i.h j) (d,j) a l (Yu _) p e
def Ii{P:dg}{f:FuncId}{fn:Func}{args:I AV}{R:AV}(a:P.funcs[f]?=some fn)(b:GW P none 0 (mf P fn R) (DH fn args []))(d:fn.body.isSome=true:=by kernel_rfl)(e:(fn.name== "runtime.NumGoroutine")=false:=by kernel_rfl):gZ P f args (·=R):=arP a d e b
def Gg{P:dg}{f:FuncId}{fn:Func}{args:I AV}{h H:I ar}{R:AV}(m:Nat)(a:P.funcs[f]?=some fn)(b:GW P none h.length (xh P fn m R H) (DH fn args h))(d:fn.body.isSome=true:=by kernel_rfl)(e:(fn.name== "runtime.NumGoroutine")=false:=by kernel_rfl)(g:h.length<=m:=by exact Zh rfl):dq P f args h λi h1=>i=R/\h1=H:=amB m a d e g b
variable {α A B C D' R:Type} {rr:R}
def aul(i:P.follows .mixedOrders=true)(k:Nat)(a:I (I (Nat×Ob P)))(live:I Nat)(m:Nat)(L:I α)(b:Nat->St)(G:I α->Nat->U R)(j:G L 0=some rr)
 (g:∀n,L.drop n=[]->G [] n=some rr->∀f:St->Prop,GW P r N0 Q (iv k f (b n) (wk P w0 a)))
 (d:∀n x l,L.drop n=x::l->G (x::l) n=some rr->∀f:St->Prop,pV k live m L (λn(_:Unit)=>b n) (λl n _=>G l n) rr n x l () f->GW P r N0 Q (iv k f (b n) (wk P w0 a)))
 (p:N0<=m:=by exact Zh rfl) (e:nk live m (wk P w0 a)=some (b 0,eG a):=by kernel_rfl):GW P r N0 Q w0:=
 KR i k a live m L (λn(_:Unit)=>b n) (λl n _=>G l n) () j (λn _=>g n) (λn x l _=>d n x l) p e
def Rj(j:P.follows .mixedOrders=true)(k:Nat)(b:I (I (Nat×Ob P)))(live:I Nat)(m:Nat)(L:I α)(d:Nat->A->St)(G:I α->Nat->A->U R)(a0:A)(p:G L 0 a0=some rr)
 (i:∀n a,L.drop n=[]->G [] n a=some rr->∀f:St->Prop,GW P r N0 Q (iv k f (d n a) (wk P w0 b)))
 (g:∀n x l a,L.drop n=x::l->G (x::l) n a=some rr->∀f:St->Prop,pV k live m L d G rr n x l a f->GW P r N0 Q (iv k f (d n a) (wk P w0 b)))
 (q:N0<=m:=by exact Zh rfl) (e:nk live m (wk P w0 b)=some (d 0 a0,eG b):=by kernel_rfl):GW P r N0 Q w0:=
 KR j k b live m L d G a0 p i g q e
def wl2(u:P.follows .mixedOrders=true)(k:Nat)(d:I (I (Nat×Ob P)))(live:I Nat)(m:Nat)(L:I α)(g:Nat->A->B->St)(G:I α->Nat->A->B->U R)(a0:A)(p:B)(v:G L 0 a0 p=some rr)
 (q:∀n a b,L.drop n=[]->G [] n a b=some rr->∀f:St->Prop,GW P r N0 Q (iv k f (g n a b) (wk P w0 d)))
 (j:∀n x l a b,L.drop n=x::l->G (x::l) n a b=some rr->∀f:St->Prop,pV k live m L (λn(i:A×B)=>g n i.1 i.2) (λl n i=>G l n i.1 i.2) rr n x l (a,b) f->GW P r N0 Q (iv k f (g n a b) (wk P w0 d)))
 (w:N0<=m:=by exact Zh rfl) (e:nk live m (wk P w0 d)=some (g 0 a0 p,eG d):=by kernel_rfl):GW P r N0 Q w0:=
 KR u k d live m L (λn(i:A×B)=>g n i.1 i.2) (λl n i=>G l n i.1 i.2) (a0,p) v (λn i=>q n i.1 i.2) (λn x l i=>j n x l i.1 i.2) w e
def wl3(v:P.follows .mixedOrders=true)(k:Nat)(d:I (I (Nat×Ob P)))(live:I Nat)(m:Nat)(L:I α)(g:Nat->A->B->C->St)(G:I α->Nat->A->B->C->U R)(a0:A)(p:B)(q:C)(w:G L 0 a0 p q=some rr)
 (u:∀n a b c,L.drop n=[]->G [] n a b c=some rr->∀f:St->Prop,GW P r N0 Q (iv k f (g n a b c) (wk P w0 d)))
 (j:∀n x l a b c,L.drop n=x::l->G (x::l) n a b c=some rr->∀f:St->Prop,pV k live m L (λn(i:A×B×C)=>g n i.1 i.2.1 i.2.2) (λl n i=>G l n i.1 i.2.1 i.2.2) rr n x l (a,b,c) f->GW P r N0 Q (iv k f (g n a b c) (wk P w0 d)))
 (z:N0<=m:=by exact Zh rfl) (e:nk live m (wk P w0 d)=some (g 0 a0 p q,eG d):=by kernel_rfl):GW P r N0 Q w0:=
 KR v k d live m L (λn(i:A×B×C)=>g n i.1 i.2.1 i.2.2) (λl n i=>G l n i.1 i.2.1 i.2.2) (a0,p,q) w (λn i=>u n i.1 i.2.1 i.2.2) (λn x l i=>j n x l i.1 i.2.1 i.2.2) z e
def wb(d:P.follows .mixedOrders=true){ι:Type}{live:I Nat}{m k:Nat}{L:I α}{b:Nat->ι->St}{G:I α->Nat->ι->U R}{n:Nat}{x:α}{l:I α}{i:ι}{f:St->Prop}(g:pV k live m L b G rr n x l i f)(j:ι)(a:I (I (Nat×Ob P)))(p:L.drop n=x::l)(q:G l (n+1) j=some rr)(u:kN k (wK w0)=[f]:=by kernel_rfl)(e:rR k live m (wk P w0 a)=some (b (n+1) j,eG a):=by kernel_rfl):GW P r N0 Q w0:=apX d g j a p q u e
def wf1(j:P.follows .mixedOrders=true)(k:Nat)(g:I (I (Nat×Ob P)))(live:I Nat)(m:Nat)(i:A->St)(G:Nat->A->U R)(d:Nat)(a0:A)(l:G d a0=some rr)
 (b:∀d a,G (d+1) a=some rr->∀f:St->Prop,w9 k live m i G rr d f->GW P r N0 Q (iv k f (i a) (wk P w0 g))) (p:∀a,G 0 a=none:=by intros;rfl)
 (q:N0<=m:=by exact Zh rfl) (e:nk live m (wk P w0 g)=some (i a0,eG g):=by kernel_rfl):GW P r N0 Q w0:=
 aum j k g live m i G d a0 l p b q e
def wf2(q:P.follows .mixedOrders=true)(k:Nat)(j:I (I (Nat×Ob P)))(live:I Nat)(m:Nat)(l:A->B->St)(G:Nat->A->B->U R)(d:Nat)(a0:A)(p:B)(u:G d a0 p=some rr)
 (g:∀d a b,G (d+1) a b=some rr->∀f:St->Prop,w9 k live m (λ(i:A×B)=>l i.1 i.2) (λd i=>G d i.1 i.2) rr d f->GW P r N0 Q (iv k f (l a b) (wk P w0 j))) (v:∀a b,G 0 a b=none:=by intros;rfl)
 (w:N0<=m:=by exact Zh rfl) (e:nk live m (wk P w0 j)=some (l a0 p,eG j):=by kernel_rfl):GW P r N0 Q w0:=
 aum q k j live m (λ(i:A×B)=>l i.1 i.2) (λd i=>G d i.1 i.2) d (a0,p) u (λi=>v i.1 i.2) (λd i=>g d i.1 i.2) w e
def wbf(g:P.follows .mixedOrders=true){ι:Type}{live:I Nat}{m k:Nat}{b:ι->St}{G:Nat->ι->U R}{d:Nat}{f:St->Prop}(i:w9 k live m b G rr d f)(j:ι)(a:I (I (Nat×Ob P)))(l:G d j=some rr)(p:kN k (wK w0)=[f]:=by kernel_rfl)(e:rR k live m (wk P w0 a)=some (b j,eG a):=by kernel_rfl):GW P r N0 Q w0:=anp g i j a l p e
def A8(g:Nat)(t:U Nat):I Oper->Nat->I Nat
 |[],_=>[]
 |o::l,j=>match o.guard with
  |some (a,_)=>bif a==g then(3*j)::A8 g t l (j+1)else A8 g t l (j+1)
  |none=>match o.op,t with
   | .pick (.tmp c) _ _,some b=>bif c==b then(3*j+1)::A8 g t l (j+1)else A8 g t l (j+1)
   |_,_=>A8 g t l (j+1)
def ah2(l:I Oper)(g:Nat):U Nat:=match l[g]? with
 |some o=>o.dst
 |none=>none
def NF:WO->I Oper
 |some (.at (.region _ ops _) _ _,_)=>ops.toList
 |_=>[]
noncomputable def J9(ops:I Oper)(a b:I (Nat×Ob P)):I (Nat×Ob P):=aa9 (a.foldr (λx t=>os (A8 x.1 (ah2 ops x.1) ops 0) x.2 t) b)
def wx(d:P.follows .mixedOrders=true)(Δ:I (Nat×AV))(h':I ar)(e:∃a b:I (Nat×Ob P),LJ P (Δ.map (·.1)) (jV (J9 (NF (wk P w0 [])) a b)) (wk P w0 [])=some (Δ,h',kf (J9 (NF (wk P w0 [])) a b)))(k:GW P r N0 Q (vY Δ h' (wk P w0 [])))(e0:tK (wk P w0 [])=some []:=by kernel_rfl):GW P r N0 Q w0:=
 aoN d Δ h' (let ⟨_,_,h⟩:=e;⟨_,h⟩) k e0
def wj0(d:P.follows .mixedOrders=true)(rr:R)(k:Nat)(a:I (I (Nat×Ob P)))(live:I Nat)(m:Nat)(b:St)(G:U R)
 (g:∀f:St->Prop,vZ k live m (λ(_:Unit)=>b) (λ_=>G=some rr) f->GW P r N0 Q (wi k f (wk P w0 a)))
 (rest:G=some rr->GW P r N0 Q (wA b (wk P w0 a))) (i:N0<=m:=by exact Zh rfl) (e:sS (wk P w0 a)=some (eG a):=by kernel_rfl):GW P r N0 Q w0:=
 IQ d k a live m (λ(_:Unit)=>b) (λ_=>G=some rr) g (λ_=>rest) i e
def GR(g:P.follows .mixedOrders=true)(rr:R)(k:Nat)(b:I (I (Nat×Ob P)))(live:I Nat)(m:Nat)(d:A->St)(G:A->U R)
 (i:∀f:St->Prop,vZ k live m d (λa=>G a=some rr) f->GW P r N0 Q (wi k f (wk P w0 b)))
 (rest:∀a,G a=some rr->GW P r N0 Q (wA (d a) (wk P w0 b))) (j:N0<=m:=by exact Zh rfl) (e:sS (wk P w0 b)=some (eG b):=by kernel_rfl):GW P r N0 Q w0:=
 IQ g k b live m d (λa=>G a=some rr) i rest j e
def wj2(j:P.follows .mixedOrders=true)(rr:R)(k:Nat)(d:I (I (Nat×Ob P)))(live:I Nat)(m:Nat)(g:A->B->St)(G:A->B->U R)
 (l:∀f:St->Prop,vZ k live m (λ(i:A×B)=>g i.1 i.2) (λi=>G i.1 i.2=some rr) f->GW P r N0 Q (wi k f (wk P w0 d)))
 (rest:∀a b,G a b=some rr->GW P r N0 Q (wA (g a b) (wk P w0 d))) (p:N0<=m:=by exact Zh rfl) (e:sS (wk P w0 d)=some (eG d):=by kernel_rfl):GW P r N0 Q w0:=
 IQ j k d live m (λ(i:A×B)=>g i.1 i.2) (λi=>G i.1 i.2=some rr) l (λi=>rest i.1 i.2) p e
def tr(i j n:Nat):Nat:=bif n==i then j else bif n==j then i else n
def aaU(i j n:Nat):tr i j (tr i j n)=n:=by
 unfold tr;cases b:n==i with
 |true=>
  rw[Ve]at b;subst b;simp only[V1];cases a:j==n with
  |true=>rw[Ve]at a;subst a;rfl
  |false=>rw[Ys];rfl
 |false=>
  simp only[UQ];cases a:n==j with
  |true=>rw[Ve]at a;subst a;simp only[V1];rw[Ys];rfl
  |false=>simp only[UQ];rw[b,a];rfl
def auk{i j n k:Nat}(hi:i<k)(a:j<k)(b:n<k):tr i j n<k:=by
 unfold tr;cases n==i with
 |true=>exact a
 |false=>cases n==j with
  |true=>exact hi
  |false=>exact b
def VO(i j:Nat)(h:I ar):I ar:=match h[i]?,h[j]? with
 |some a,some b=>((h.set i b).set j a).map (ar.aW (tr i j))
 |_,_=>h
def swS(i j:Nat)(s:St):St:=⟨s.n,s.t.map (λp=>(p.1,p.2.aW (tr i j))),VO i j s.h⟩
def adV(f:AV->AV)(a:f .dead= .dead):∀(t:I (Nat×AV))(i:Nat),bM (t.map λp=>(p.1,f p.2)) i=f (bM t i)
 |[],i=>by rw[a6];show AV.dead=f .dead;rw[a]
 |(k,x)::t,i=>by
  rw[ZS,mi,mi,adV f a t i];by_cases h:i=k;{rw[ZL h,ZL h]};{rw[ZN h,ZN h]}
def abN{i j:Nat}{s:St}(hi:i<s.h.length)(b:j<s.h.length)(p:N0<=i)(q:N0<=j):j5 N0 s (swS i j s):=by
 have g:s.h[i]?=some s.h[i]:=Zd hi;have l:s.h[j]?=some s.h[j]:=Zd b;have m:(swS i j s).h=((s.h.set i s.h[j]).set j s.h[i]).map (ar.aW (tr i j)):=by
  show VO i j s.h=_;unfold VO;rw[g,l]
 refine j5.aW (tr i j) (tr i j) rfl (by rw[m];simp) (λn a=>auk hi b a) (λn a=>auk hi b a) (λn _=>aaU i j n) (λn _=>aaU i j n) (λn a=> ?_) (λn _=>.inl ?_) λn a=> ?_
 ·unfold tr;rw[show(n==i)=false from Vb.2 (by omega),show(n==j)=false from Vb.2 (by omega)];rfl
 ·exact adV (λx=>x.aW (tr i j)) rfl s.t n
 ·rw[m,Zm];refine congrArg (Option.map _) ?_;unfold tr;cases d:n==i with
  |true=>
   rw[Ve]at d;subst d;simp only[V1];rw[Z1 (by rw[YR];exact b),g]
  |false=>
   simp only[UQ];have u:=Vb.1 d;cases e:n==j with
   |true=>
    rw[Ve]at e;subst e;simp only[V1];rw[Z3 (by omega),Z1 hi,l]
   |false=>
    have v:=Vb.1 e;simp only[UQ];rw[Z3 (by omega),Z3 (by omega)]
def abS{c:Code}{s s':St}(h:j5 N0 s s')(k:bQ P r N0 c Q s'):bQ P r N0 c Q s:=⟨λG w a n b d=>by
 obtain⟨e,g,i,j⟩:=h G w a d b;exact wpIn_mono (k.run e w a n j i) λ_ _ _ l=>l.trans g⟩
end
def iG:DL cD 1:=⟨λ_=>fB,λ_=>s9,λ_ _=>as6⟩
def lT:DL bE 1:=⟨λ_=>fF,λ_=>HQ,λ_ _=>ajz⟩
def vz:DL hJ 2:=⟨λ_=>jH,λ_=>szT,λ_ _=>amZ⟩
def uD:DL aT 2:=⟨λ_=>mV,λ_=>aeE,λ_ _=>aiH⟩
def sG:DL eB 2:=⟨λ_=>jK,λ_=>Uv,λ_ _=>ama⟩
def af0:DL pJ 5:=⟨λ_=>aqn,λ_=>asg,λ_ _=>ar7⟩
def F7:DL nZ 3:=⟨λ_=>qe,λ_=>arc,λ_ _=>akm⟩
def m9:DL fA 2:=⟨λ_=>fX,λ_=>asb,λ_ _=>apT⟩
def nO:DL dAxiss 3:=⟨λ_=>gw,λ_=>akn,λ_ _=>aoW⟩
def xe:DL bp 8:=⟨λ_=>vQ,λ_=>ai8,λ_ _=>alg⟩
def aes:DL pQ 1:=⟨λ_=>V5,λ_=>amb,λ_ _=>anB⟩
def Co:DL lL 7:=⟨λ_=>mP,λ_=>ajP,λ_ _=>ah9⟩
def rJ:DL fc 4:=⟨λ_=>gq,λ_=>asT,λ_ _=>ag1⟩
def o0:DL dExprs 13:=⟨λ_=>ji,λ_=>aou,λ_ _=>ajb⟩
def vV:DL iy 22:=⟨λ_=>j6,λ_=>Rf,λ_ _=>aqO⟩
abbrev KF(f:FuncId)(args:I AV)(R:AV):Prop:=gZ prog f args (·=R)
abbrev KH(f:FuncId)(args:I AV)(h:I ar)(R:AV)(H:I ar):Prop:=dq prog f args h λa b=>a=R/\b=H
def KO{α:Type}(f:FuncId)(args:I AV)(a:α->AV)(o:U α):Prop:=∀r:α,o=some r->KF f args (a r)
def KP{α:Type}(f:FuncId)(args:I AV)(h:I ar)(a:α->AV)(b:α->I ar)(o:U α):Prop:=∀r:α,o=some r->KH f args h (a r) (b r)
def cK{α:Type}{f:FuncId}{args:I AV}{a:α->AV}{o:U α}{r:α}(k:KO f args a o)(h:o=some r):Ob prog:=cL (k r h)
def IE{α:Type}(o:U α)(G:α->Prop):Prop:=∀v,o=some v->G v
section
variable {α β:Type} {x:U α} {G:α->Prop}
def au{x:U β}{f:β->U α}(k:∀a,x=some a->IE (f a) G):IE (Option.bind x f) G:=λv h=>
 have ⟨a,b,d⟩:=bz h
 k a b v d
def cH{c:Bool}(k:c=true->IE x G):IE (bif c then x else none) G:=λv h=>
 have ⟨a,b⟩:=xw h
 k a v b
def ax{c:Bool}{a b:U α}(t:c=true->IE a G)(f:c=false->IE b G):IE (bif c then a else b) G:=λv h=>bc h (λi j=>t i v j) λi j=>f i v j
def gE{α β γ:Type}{Φ:α->β->γ->Prop}{x:γ}(a:α)(b:β)(k:Φ a b x:=by kernel_rfl):IE (some x) λy=>∃a b,Φ a b y:=λv h=>sj h▸⟨a,b,k⟩
def cU{α β γ:Type}{Φ:α->I β->γ->Prop}{o:U γ}(x:β)(k:IE o λy=>∃a b,Φ a (x::b) y):IE o λy=>∃a b,Φ a b y:=λv h=>
 have ⟨a,b,c⟩:=k v h
 ⟨a,x::b,c⟩
def cp{α β γ:Type}{Φ:I α->β->γ->Prop}{o:U γ}(x:α)(k:IE o λy=>∃a b,Φ (x::a) b y):IE o λy=>∃a b,Φ a b y:=λv h=>
 have ⟨a,b,c⟩:=k v h
 ⟨x::a,b,c⟩
end
section
variable {α β:Type} {o:U α} {x y:α} {r:U Nat} {N0:Nat} {Q:α->Exit->St->Prop} {w0:WO}
def V(a:I (I (Nat×Ob prog)))(k:IE o λq=>q=y->GW prog r N0 (Q q) (wk prog w0 a))(e:tK (wk prog w0 a)=some (eG a):=by kernel_rfl):IE o λq=>q=y->GW prog r N0 (Q q) w0:=λv h q=>fZ bB a (k v h q) e
def gR{b:α->AV}{fn:Func}(a:I (I (Nat×Ob prog)))(e:ue prog fn.results.toList (wk prog w0 a)=some (b x,eG a):=by kernel_rfl):IE (some x) λq=>q=y->GW prog r N0 (mf prog fn (b q)) w0:=λv h _=>sj h▸wr bB a e
def gH{b:α->AV}{d:α->I ar}{fn:Func}{m:Nat}(a:I (I (Nat×Ob prog)))(e:Ny prog fn.results.toList m (wk prog w0 a)=some ((b x,d x),eG a):=by kernel_rfl):IE (some x) λq=>q=y->GW prog r N0 (xh prog fn m (b q) (d q)) w0:=λv h _=>sj h▸oF bB a e
def gG{x:U β}{f:β->U α}(Δ:β->I (Nat×AV))(h':β->I ar)(e:IE x λv=>∃b d:I (Nat×Ob prog),LJ prog ((Δ v).map (·.1)) (jV (J9 (NF (wk prog w0 [])) b d)) (wk prog w0 [])=some (Δ v,h' v,kf (J9 (NF (wk prog w0 [])) b d)))(k:∀v,IE (f v) λq=>q=y->GW prog r N0 (Q q) (vY (Δ v) (h' v) (wk prog w0 [])))(e0:tK (wk prog w0 [])=some []:=by kernel_rfl):IE (Option.bind x f) λq=>q=y->GW prog r N0 (Q q) w0:=λv h q=>
 have ⟨a,g,i⟩:=bz h
 wx bB (Δ a) (h' a) (e a g) (k a v i q) e0
def bg{c:Bool}{b:U α}{a:α->AV}{fn:Func}(f:c=false->IE b λq=>q=y->GW prog r N0 (mf prog fn (a q)) w0)(e:∀h:c=true,ue prog fn.results.toList (wk prog w0 [[(0,bT h)],[]])=some (a x,eG (P:=prog) [[(0,bT h)],[]]):=by intro h;kernel_rfl):IE (bif c then some x else b) λq=>q=y->GW prog r N0 (mf prog fn (a q)) w0:=ax (λh=>gR [[(0,bT h)],[]] (e h)) (f)
def nc{c:Bool}{b:U α}{a:α->AV}{fn:Func}(f:c=false->IE b λq=>q=y->GW prog r N0 (mf prog fn (a q)) w0)(e:∀h:c=true,ue prog fn.results.toList (wk prog w0 [[(0,bF (cy h))],[]])=some (a x,eG (P:=prog) [[(0,bF (cy h))],[]]):=by intro h;kernel_rfl):IE (bif c then some x else b) λq=>q=y->GW prog r N0 (mf prog fn (a q)) w0:=ax (λh=>gR [[(0,bF (cy h))],[]] (e h)) (f)
def jC{c:Bool}{b:U α}{a:α->AV}{fn:Func}(f:c=true->IE b λq=>q=y->GW prog r N0 (mf prog fn (a q)) w0)(e:∀h:c=false,ue prog fn.results.toList (wk prog w0 [[(0,bF h)],[]])=some (a x,eG (P:=prog) [[(0,bF h)],[]]):=by intro h;kernel_rfl):IE (bif c then b else some x) λq=>q=y->GW prog r N0 (mf prog fn (a q)) w0:=ax (f) (λh=>gR [[(0,bF h)],[]] (e h))
def e9{c:Bool}{b:U α}{a:α->AV}{fn:Func}(f:c=true->IE b λq=>q=y->GW prog r N0 (mf prog fn (a q)) w0)(e:∀h:c=false,ue prog fn.results.toList (wk prog w0 [[(0,bT (dt h))],[]])=some (a x,eG (P:=prog) [[(0,bT (dt h))],[]]):=by intro h;kernel_rfl):IE (bif c then b else some x) λq=>q=y->GW prog r N0 (mf prog fn (a q)) w0:=ax (f) (λh=>gR [[(0,bT (dt h))],[]] (e h))
def e7{c:Bool}{b:U α}{a:α->AV}{fn:Func}(f:∀h:c=false,IE b λq=>q=y->GW prog r N0 (mf prog fn (a q)) (wk prog w0 [[(0,bF h)],[]]))(e:∀h:c=true,ue prog fn.results.toList (wk prog w0 [[(0,bT h)],[]])=some (a x,eG (P:=prog) [[(0,bT h)],[]]):=by intro h;kernel_rfl)(d:∀h:c=false,tK (wk prog w0 [[(0,bF h)],[]])=some (eG (P:=prog) [[(0,bF h)],[]]):=by intro h;kernel_rfl):IE (bif c then some x else b) λq=>q=y->GW prog r N0 (mf prog fn (a q)) w0:=ax (λh=>gR [[(0,bT h)],[]] (e h)) (λh=>V [[(0,bF h)],[]] (f h) (d h))
def t0{c:Bool}(h:c=true):Nat×Ob prog:=(0,bT h)
def f0{c:Bool}(h:c=false):Nat×Ob prog:=(0,bF h)
def li{a:WO}(f:∀q,GW prog r N0 (Q q) a->GW prog r N0 (Q q) w0)(k:IE o λq=>q=y->GW prog r N0 (Q q) a):IE o λq=>q=y->GW prog r N0 (Q q) w0:=λv h q=>f v (k v h q)
def Is{b:WO}{p:Prop}(f:∀q,(p->GW prog r N0 (Q q) b)->GW prog r N0 (Q q) w0)(k:p->IE o λq=>q=y->GW prog r N0 (Q q) b):IE o λq=>q=y->GW prog r N0 (Q q) w0:=λv h q=>f v λa=>k a v h q
def gT{β:Type}{f:I β->I (I D)}{z:Nat}(F:DL f z)(k:Nat)(l:I β)(h:l.length<=maxLen->IE o λq=>q=y->GW prog r N0 (Q q) w0)(b:(bM (wS w0).t k).gN=some (f l):=by kernel_rfl):IE o λq=>q=y->GW prog r N0 (Q q) w0:=λv d q=>Dd F k l (λa=>h a v d q) b
def gB{β:Type}{f:I β->I (I D)}{z:Nat}(F:DL f z)(b i:Nat)(l:I β)(h:l.length<=maxLen->IE o λq=>q=y->GW prog r N0 (Q q) w0)(d:(((wS w0).h[b]?).bind λB=>match B with| .cells cs=>(cs[i]?).bind AV.gN|_=>none)=some (f l):=by kernel_rfl):IE o λq=>q=y->GW prog r N0 (Q q) w0:=λv e q=>aet F b i l (λa=>h a v e q) d
def fw{f:FuncId}{fn:Func}{args:I AV}{a:α->AV}(b:prog.funcs[f]?=some fn)(d:∀{y},IE o λq=>q=y->GW prog none 0 (mf prog fn (a q)) (DH fn args []))(e:fn.body.isSome=true:=by kernel_rfl)(g:(fn.name== "runtime.NumGoroutine")=false:=by kernel_rfl):KO f args a o:=λr h=>Ii b (d r h rfl) e g
def fh{f:FuncId}{fn:Func}{args:I AV}{h:I ar}{a:α->AV}{b:α->I ar}(m:Nat)(d:prog.funcs[f]?=some fn)(e:∀{y},IE o λq=>q=y->GW prog none h.length (xh prog fn m (a q) (b q)) (DH fn args h))(g:fn.body.isSome=true:=by kernel_rfl)(i:(fn.name== "runtime.NumGoroutine")=false:=by kernel_rfl)(j:h.length<=m:=by exact Zh rfl):KP f args h a b o:=λr q=>Gg m d (e r q rfl) g i j
end
section
variable {α A B C D' R:Type} {rr:R} {r:U Nat} {N0:Nat} {Q:R->Exit->St->Prop} {w0:WO}
def dP(k:Nat)(a:I (I (Nat×Ob prog)))(live:I Nat)(m:Nat){L:I α}(b:Nat->St){G:I α->Nat->U R}
 (g:∀n,L.drop n=[]->∀f:St->Prop,IE (G [] n) λq=>q=rr->GW prog r N0 (Q q) (iv k f (b n) (wk prog w0 a)))
 (d:∀n x l,L.drop n=x::l->∀f:St->Prop,pV k live m L (λn(_:Unit)=>b n) (λl n _=>G l n) rr n x l () f->IE (G (x::l) n) λq=>q=rr->GW prog r N0 (Q q) (iv k f (b n) (wk prog w0 a)))
 (p:N0<=m:=by exact Zh rfl) (e:nk live m (wk prog w0 a)=some (b 0,eG a):=by kernel_rfl):IE (G L 0) λq=>q=rr->GW prog r N0 (Q q) w0:=λv h q=>
 aul bB k a live m L b G (q▸h) (λn i j f=>q▸g n i f rr j rfl) (λn x l i j f u=>q▸d n x l i f u rr j rfl) p e
def ft(k:Nat)(b:I (I (Nat×Ob prog)))(live:I Nat)(m:Nat){L:I α}(d:Nat->A->St){G:I α->Nat->A->U R}{a0:A}
 (i:∀n a,L.drop n=[]->∀f:St->Prop,IE (G [] n a) λq=>q=rr->GW prog r N0 (Q q) (iv k f (d n a) (wk prog w0 b)))
 (g:∀n x l a,L.drop n=x::l->∀f:St->Prop,pV k live m L d G rr n x l a f->IE (G (x::l) n a) λq=>q=rr->GW prog r N0 (Q q) (iv k f (d n a) (wk prog w0 b)))
 (w:N0<=m:=by exact Zh rfl) (e:nk live m (wk prog w0 b)=some (d 0 a0,eG b):=by kernel_rfl):IE (G L 0 a0) λq=>q=rr->GW prog r N0 (Q q) w0:=λv h q=>
 Rj bB k b live m L d G a0 (q▸h) (λn j p u f=>q▸i n j p f rr u rfl) (λn x l j p u f z=>q▸g n x l j p f z rr u rfl) w e
def DF(k:Nat)(d:I (I (Nat×Ob prog)))(live:I Nat)(m:Nat){L:I α}(g:Nat->A->B->St){G:I α->Nat->A->B->U R}{a0:A}{p:B}
 (u:∀n a b,L.drop n=[]->∀f:St->Prop,IE (G [] n a b) λq=>q=rr->GW prog r N0 (Q q) (iv k f (g n a b) (wk prog w0 d)))
 (j:∀n x l a b,L.drop n=x::l->∀f:St->Prop,pV k live m L (λn(i:A×B)=>g n i.1 i.2) (λl n i=>G l n i.1 i.2) rr n x l (a,b) f->IE (G (x::l) n a b) λq=>q=rr->GW prog r N0 (Q q) (iv k f (g n a b) (wk prog w0 d)))
 (J:N0<=m:=by exact Zh rfl) (e:nk live m (wk prog w0 d)=some (g 0 a0 p,eG d):=by kernel_rfl):IE (G L 0 a0 p) λq=>q=rr->GW prog r N0 (Q q) w0:=λv h q=>
 wl2 bB k d live m L g G a0 p (q▸h) (λn w z E F f=>q▸u n w z E f rr F rfl) (λn x l w z E F f M=>q▸j n x l w z E f M rr F rfl) J e
def gl3(k:Nat)(d:I (I (Nat×Ob prog)))(live:I Nat)(m:Nat){L:I α}(g:Nat->A->B->C->St){G:I α->Nat->A->B->C->U R}{a0:A}{p:B}{u:C}
 (w:∀n a b c,L.drop n=[]->∀f:St->Prop,IE (G [] n a b c) λq=>q=rr->GW prog r N0 (Q q) (iv k f (g n a b c) (wk prog w0 d)))
 (j:∀n x l a b c,L.drop n=x::l->∀f:St->Prop,pV k live m L (λn(i:A×B×C)=>g n i.1 i.2.1 i.2.2) (λl n i=>G l n i.1 i.2.1 i.2.2) rr n x l (a,b,c) f->IE (G (x::l) n a b c) λq=>q=rr->GW prog r N0 (Q q) (iv k f (g n a b c) (wk prog w0 d)))
 (N:N0<=m:=by exact Zh rfl) (e:nk live m (wk prog w0 d)=some (g 0 a0 p u,eG d):=by kernel_rfl):IE (G L 0 a0 p u) λq=>q=rr->GW prog r N0 (Q q) w0:=λv h q=>
 wl3 bB k d live m L g G a0 p u (q▸h) (λn z E F J M f=>q▸w n z E F J f rr M rfl) (λn x l z E F J M f S=>q▸j n x l z E F J f S rr M rfl) N e
def gb{ι:Type}{live:I Nat}{m k:Nat}{L:I α}{b:Nat->ι->St}{G:I α->Nat->ι->U R}{n:Nat}{x:α}{l:I α}{i:ι}{f:St->Prop}(d:pV k live m L b G rr n x l i f)(j:ι)(a:I (I (Nat×Ob prog)))(g:L.drop n=x::l)(p:kN k (wK w0)=[f]:=by kernel_rfl)(e:rR k live m (wk prog w0 a)=some (b (n+1) j,eG a):=by kernel_rfl):IE (G l (n+1) j) λq=>q=rr->GW prog r N0 (Q q) w0:=λv h q=>wb bB d j a g (q▸h) p e
def Mr(k:Nat)(g:I (I (Nat×Ob prog)))(live:I Nat)(m:Nat)(i:A->St)(G:Nat->A->U R){d:Nat}{a0:A}
 (b:∀d a,∀f:St->Prop,w9 k live m i G rr d f->IE (G (d+1) a) λq=>q=rr->GW prog r N0 (Q q) (iv k f (i a) (wk prog w0 g))) (j:∀a,G 0 a=none:=by intros;rfl)
 (l:N0<=m:=by exact Zh rfl) (e:nk live m (wk prog w0 g)=some (i a0,eG g):=by kernel_rfl):IE (G d a0) λq=>q=rr->GW prog r N0 (Q q) w0:=λv h q=>wf1 bB k g live m i G d a0 (q▸h) (λd p u f w=>q▸b d p f w rr u rfl) j l e
def Hb(k:Nat)(j:I (I (Nat×Ob prog)))(live:I Nat)(m:Nat)(l:A->B->St)(G:Nat->A->B->U R){d:Nat}{a0:A}{p:B}
 (g:∀d a b,∀f:St->Prop,w9 k live m (λ(i:A×B)=>l i.1 i.2) (λd i=>G d i.1 i.2) rr d f->IE (G (d+1) a b) λq=>q=rr->GW prog r N0 (Q q) (iv k f (l a b) (wk prog w0 j))) (u:∀a b,G 0 a b=none:=by intros;rfl)
 (w:N0<=m:=by exact Zh rfl) (e:nk live m (wk prog w0 j)=some (l a0 p,eG j):=by kernel_rfl):IE (G d a0 p) λq=>q=rr->GW prog r N0 (Q q) w0:=λv h q=>wf2 bB k j live m l G d a0 p (q▸h) (λd z E F f J=>q▸g d z E f J rr F rfl) u w e
def rV{ι:Type}{live:I Nat}{m k:Nat}{b:ι->St}{G:Nat->ι->U R}{d:Nat}{f:St->Prop}(g:w9 k live m b G rr d f)(j:ι)(a:I (I (Nat×Ob prog)))(i:kN k (wK w0)=[f]:=by kernel_rfl)(e:rR k live m (wk prog w0 a)=some (b j,eG a):=by kernel_rfl):IE (G d j) λq=>q=rr->GW prog r N0 (Q q) w0:=λv h q=>wbf bB g j a (q▸h) i e
def kO{o:U R}(k:Nat)(b:I (I (Nat×Ob prog)))(live:I Nat)(m:Nat)(d:A->St)(G:A->U R)
 (g:∀f:St->Prop,vZ k live m d (λa=>G a=some rr) f->IE o λq=>q=rr->GW prog r N0 (Q q) (wi k f (wk prog w0 b)))
 (rest:∀a,IE (G a) λq=>q=rr->GW prog r N0 (Q q) (wA (d a) (wk prog w0 b))) (i:N0<=m:=by exact Zh rfl) (e:sS (wk prog w0 b)=some (eG b):=by kernel_rfl):IE o λq=>q=rr->GW prog r N0 (Q q) w0:=λv h q=>GR bB rr k b live m d G (λf a=>g f a v h q) (λj l=>q▸rest j rr l rfl) i e
def Vq{o:U R}(k:Nat)(d:I (I (Nat×Ob prog)))(live:I Nat)(m:Nat)(g:A->B->St)(G:A->B->U R)
 (j:∀f:St->Prop,vZ k live m (λ(i:A×B)=>g i.1 i.2) (λi=>G i.1 i.2=some rr) f->IE o λq=>q=rr->GW prog r N0 (Q q) (wi k f (wk prog w0 d)))
 (rest:∀a b,IE (G a b) λq=>q=rr->GW prog r N0 (Q q) (wA (g a b) (wk prog w0 d))) (l:N0<=m:=by exact Zh rfl) (e:sS (wk prog w0 d)=some (eG d):=by kernel_rfl):IE o λq=>q=rr->GW prog r N0 (Q q) w0:=λv h q=>wj2 bB rr k d live m g G (λf a=>j f a v h q) (λp u w=>q▸rest p u rr w rfl) l e
def gm{ι:Type}{live:I Nat}{m k:Nat}{b:ι->St}{G:ι->U R}{f:St->Prop}(d:vZ k live m b (λi=>G i=some rr) f)(i:ι)(a:I (I (Nat×Ob prog)))(g:kN k (wK w0)=[f]:=by kernel_rfl)(e:rR k live m (wk prog w0 a)=some (b i,eG a):=by kernel_rfl):IE (G i) λq=>q=rr->GW prog r N0 (Q q) w0:=λv h q=>mA bB d i a (q▸h) g e
structure BX{α ι R:Type}(k:Nat)(live:List Nat)(m:Nat)(ks:List Nat)(kn:List (Nat×Nat))(L:List α)(st:Nat->ι->St)(G:List α->Nat->ι->Option R)(rr:R)(n:Nat)(x:α)(l:List α)(i:ι)(f:St->Prop):Prop where
 h:Pq k live m ks kn (λz:Nat×List α×ι=>st z.1 z.2.2) (λz=>L.drop z.1=z.2.1/\G z.2.1 z.1 z.2.2=some rr) (λz=>z.2.1.length) (n,x::l,i) f
structure TW{ι R:Type}(k:Nat)(live:List Nat)(m:Nat)(ks:List Nat)(kn:List (Nat×Nat))(st:ι->St)(G:Nat->ι->Option R)(rr:R)(d:Nat)(f:St->Prop):Prop where
 h:∀i,Pq k live m ks kn (λz:Nat×ι=>st z.2) (λz=>G z.1 z.2=some rr) (λz=>z.1) (d+1,i) f
def gx1(k:Nat)(b:I (I (Nat×Ob prog)))(live:I Nat)(m:Nat)(g:I Nat)(kn:I (Nat×Nat)){L:I α}(d:Nat->A->St){G:I α->Nat->A->U R}{a0:A}
 (nil:∀n a,L.drop n=[]->∀f:St->Prop,IE (G [] n a) λq=>q=rr->GW prog r N0 (Q q) (iv k f (d n a) (wk prog w0 b)))
 (cons:∀n x l a,L.drop n=x::l->∀f:St->Prop,BX k live m g kn L d G rr n x l a f->IE (G (x::l) n a) λq=>q=rr->GW prog r N0 (Q q) (iv k f (d n a) (wk prog w0 b)))
 (u:N0<=m:=by exact Zh rfl) (gC:I (VE m):=[]) (e0:tq m (wk prog w0 b)=gC.map VE.x:=by kernel_rfl) (e:Ba live m g kn (wk prog w0 b)=some (d 0 a0,eG b):=by kernel_rfl):IE (G L 0 a0) λq=>q=rr->GW prog r N0 (Q q) w0:=λv h q=>
 V2 bB k b live m g kn (λz:Nat×I α×A=>d z.1 z.2.2) (λz=>L.drop z.1=z.2.1/\G z.2.1 z.1 z.2.2=some rr) (λz=>z.2.1.length) (0,L,a0) ⟨rfl,q▸h⟩ (λz w f E=>by
  obtain⟨n,l,i⟩:=z;obtain⟨j,p⟩:=w;rw[q];cases l with
  |nil=>exact nil n i j f rr p rfl
  |cons x l=>exact cons n x l i j f ⟨E⟩ rr p rfl) u gC e0 e
def gx0(k:Nat)(a:I (I (Nat×Ob prog)))(live:I Nat)(m:Nat)(g:I Nat)(kn:I (Nat×Nat)){L:I α}(b:Nat->St){G:I α->Nat->U R}
 (j:∀n,L.drop n=[]->∀f:St->Prop,IE (G [] n) λq=>q=rr->GW prog r N0 (Q q) (iv k f (b n) (wk prog w0 a)))
 (d:∀n x l,L.drop n=x::l->∀f:St->Prop,BX k live m g kn L (λn(_:Unit)=>b n) (λl n _=>G l n) rr n x l () f->IE (G (x::l) n) λq=>q=rr->GW prog r N0 (Q q) (iv k f (b n) (wk prog w0 a)))
 (p:N0<=m:=by exact Zh rfl) (gC:I (VE m):=[]) (e0:tq m (wk prog w0 a)=gC.map VE.x:=by kernel_rfl) (e:Ba live m g kn (wk prog w0 a)=some (b 0,eG a):=by kernel_rfl):IE (G L 0) λq=>q=rr->GW prog r N0 (Q q) w0:=
 gx1 k a live m g kn (λn(_:Unit)=>b n) (G:=(λl n _=>G l n)) (a0:=()) (λn i=>j n) (λn x l i=>d n x l) p gC e0 e
def gbX{ι:Type}{live:I Nat}{m k:Nat}{b:I Nat}{kn:I (Nat×Nat)}{L:I α}{d:Nat->ι->St}{G:I α->Nat->ι->U R}{n:Nat}{x:α}{l:I α}{i:ι}{f:St->Prop}(g:BX k live m b kn L d G rr n x l i f)(j:ι)(a:I (I (Nat×Ob prog)))(p:L.drop n=x::l)(u:kN k (wK w0)=[f]:=by kernel_rfl)(gC:I (VE m):=[])(e0:tq m (wk prog w0 a)=gC.map VE.x:=by kernel_rfl)(e:yN k live m b kn (wk prog w0 a)=some (d (n+1) j,eG a):=by kernel_rfl):IE (G l (n+1) j) λq=>q=rr->GW prog r N0 (Q q) w0:=λv h q=>
 ZI bB g.h (n+1,l,j) a ⟨kI p,q▸h⟩ (Yu _) u gC e0 e
def an1(k:Nat)(g:I (I (Nat×Ob prog)))(live:I Nat)(m:Nat)(p:I Nat)(kn:I (Nat×Nat))(l:A->B->St)(G:Nat->A->B->U R){d:Nat}{a0:A}{u:B}
 (succ:∀d a b,∀f:St->Prop,TW k live m p kn (λ(i:A×B)=>l i.1 i.2) (λd i=>G d i.1 i.2) rr d f->IE (G (d+1) a b) λq=>q=rr->GW prog r N0 (Q q) (iv k f (l a b) (wk prog w0 g))) (E:∀a b,G 0 a b=none:=by intros;rfl)
 (F:N0<=m:=by exact Zh rfl) (gC:I (VE m):=[]) (e0:tq m (wk prog w0 g)=gC.map VE.x:=by kernel_rfl) (e:Ba live m p kn (wk prog w0 g)=some (l a0 u,eG g):=by kernel_rfl):IE (G d a0 u) λq=>q=rr->GW prog r N0 (Q q) w0:=λv h q=>
 V2 bB k g live m p kn (λz:Nat×(A×B)=>((λ(i:A×B)=>l i.1 i.2)) z.2) (λz=>((λd i=>G d i.1 i.2)) z.1 z.2=some rr) (λz=>z.1) (d,(a0,u)) (q▸h) (λz w f J=>by
  obtain⟨d,i⟩:=z;rw[q];cases d with
  |zero=>exact absurd ((E i.1 i.2).symm.trans w) (by simp)
  |succ d=>exact succ d i.1 i.2 f ⟨λj=>⟨λL M N S T W=>J.h L M N S T W⟩⟩ rr w rfl) F gC e0 e
def aj1(k:Nat)(g:I (I (Nat×Ob prog)))(live:I Nat)(m:Nat)(p:I Nat)(kn:I (Nat×Nat))(l:A->B->C->St)(G:Nat->A->B->C->U R){d:Nat}{a0:A}{u:B}{w:C}
 (succ:∀d a b c,∀f:St->Prop,TW k live m p kn (λ(i:A×B×C)=>l i.1 i.2.1 i.2.2) (λd i=>G d i.1 i.2.1 i.2.2) rr d f->IE (G (d+1) a b c) λq=>q=rr->GW prog r N0 (Q q) (iv k f (l a b c) (wk prog w0 g))) (F:∀a b c,G 0 a b c=none:=by intros;rfl)
 (J:N0<=m:=by exact Zh rfl) (gC:I (VE m):=[]) (e0:tq m (wk prog w0 g)=gC.map VE.x:=by kernel_rfl) (e:Ba live m p kn (wk prog w0 g)=some (l a0 u w,eG g):=by kernel_rfl):IE (G d a0 u w) λq=>q=rr->GW prog r N0 (Q q) w0:=λv h q=>
 V2 bB k g live m p kn (λz:Nat×(A×B×C)=>((λ(i:A×B×C)=>l i.1 i.2.1 i.2.2)) z.2) (λz=>((λd i=>G d i.1 i.2.1 i.2.2)) z.1 z.2=some rr) (λz=>z.1) (d,(a0,u,w)) (q▸h) (λz E f L=>by
  obtain⟨d,i⟩:=z;rw[q];cases d with
  |zero=>exact absurd ((F i.1 i.2.1 i.2.2).symm.trans E) (by simp)
  |succ d=>exact succ d i.1 i.2.1 i.2.2 f ⟨λj=>⟨λM N S T W z3=>L.h M N S T W z3⟩⟩ rr E rfl) J gC e0 e
def aui{ι:Type}{live:I Nat}{m k:Nat}{b:I Nat}{kn:I (Nat×Nat)}{g:ι->St}{G:Nat->ι->U R}{d:Nat}{f:St->Prop}(i:TW k live m b kn g G rr d f)(j:ι)(a:I (I (Nat×Ob prog)))(l:kN k (wK w0)=[f]:=by kernel_rfl)(gC:I (VE m):=[])(e0:tq m (wk prog w0 a)=gC.map VE.x:=by kernel_rfl)(e:yN k live m b kn (wk prog w0 a)=some (g j,eG a):=by kernel_rfl):IE (G d j) λq=>q=rr->GW prog r N0 (Q q) w0:=λv h q=>
 ZI bB (i.h j) (d,j) a (q▸h) (Yu _) l gC e0 e
def anS{o:U R}(k:Nat)(b:I (I (Nat×Ob prog)))(live:I Nat)(m:Nat)(g:I Nat)(kn:I (Nat×Nat))(d:A->St)(G:A->U R)
 (j:∀f:St->Prop,Lh k live m g kn d (λi=>G i=some rr) f->IE o λq=>q=rr->GW prog r N0 (Q q) (wi k f (wk prog w0 b)))
 (rest:∀a,IE (G a) λq=>q=rr->GW prog r N0 (Q q) (wA (d a) (wk prog w0 b))) (l:N0<=m:=by exact Zh rfl) (e:sS (wk prog w0 b)=some (eG b):=by kernel_rfl):IE o λq=>q=rr->GW prog r N0 (Q q) w0:=λv h q=>
 ajW bB k b live m g kn d (λi=>G i=some rr) (λf a=>j f a v h q) (λi p=>q▸rest i rr p rfl) l e
def aug{ι:Type}{live:I Nat}{m k:Nat}{b:I Nat}{kn:I (Nat×Nat)}{d:ι->St}{G:ι->U R}{f:St->Prop}(g:Lh k live m b kn d (λi=>G i=some rr) f)(i:ι)(a:I (I (Nat×Ob prog)))(j:kN k (wK w0)=[f]:=by kernel_rfl)(gC:I (VE m):=[])(e0:tq m (wk prog w0 a)=gC.map VE.x:=by kernel_rfl)(e:yN k live m b kn (wk prog w0 a)=some (d i,eG a):=by kernel_rfl):IE (G i) λq=>q=rr->GW prog r N0 (Q q) w0:=λv h q=>
 anf bB g i a (q▸h) gC e0 j e
end
section
variable {P:dg} {r:U Nat} {N0:Nat} {Q:Exit->St->Prop} {c:Code}
def Iy(P:dg)(r:U Nat)(N0:Nat)(c:Code)(Q:Exit->St->Prop):Nat->St->Prop
 |0,_=>False
 |m+1,s=>bQ P r N0 c (jk (Iy P r N0 c Q m) Q) s
def aw_rn{m:Nat}{s:St}(h:bQ P r N0 c (jk (Iy P r N0 c Q m) Q) s):Iy P r N0 c Q (m+1) s:=h
def Ga(m:Nat){s:St}(h:Iy P r N0 c Q m s):bQ P r N0 (.loop c) Q s:=by
 constructor
 intro b w0 v n z E;refine wpIn_loop_rounds m ?_;have d:∀(m:Nat)(s:St)(G:Gh)(w:Zz)(a:Act),Iy P r N0 c Q m s->dx G w a s->N0<=G.N->cn N0 b w0 G w->Code.roundsIn (WF r) n P c (λe F J=>jw N0 b w0 (Q e) F J) m a w:=by
  intro m
  induction m with
  |zero=>intro s G w a h _ _ _;exact h.elim
  |succ m L=>
   intro s G w a h M S g;refine wpIn_mono (bQ.run h G w a n M S) λe T W hn=> ?_;obtain⟨i,j,l,p,q,u⟩:=hn;cases e with
   |normal=>exact L j i W T u q p (g.trans l)
   |_=>exact⟨i,j,g.trans l,p,q,u⟩
 exact d m s b w0 v h z E (cn.refl _ _ _)
end
def auf{α:Type}{f:α->I D}{d0:α}{zs:I AV}{n dy:Nat}{l:Int}(a:l=(n:Int))(b:(f d0).map AV.d=zs)(h:n<=maxLen/\n*dy<=140737488355328):
 0<=l/\l<=l/\l.toNat=n/\l.toNat=n/\cg ((List.replicate n d0).map f)=List.replicate n zs/\n<=maxLen/\dy*n<=281474976710656:=by
 subst a;refine⟨Int.natCast_nonneg _,Int.le_refl _,rfl,rfl,?_,h.1,?_⟩;{unfold cg;rw[List.map_replicate,List.map_replicate,b]};{rw[Nat.mul_comm];exact Za h.2 (by decide)}
inductive OT(P:Program) where
 |nil
 |node (k:Nat) (aB:List (Nat×Ob P)) (sub next:OT P)
def OT.ps{P:dg}:OT P->I (In×cB)
 | .nil=>[]
 | .node _ a sub next=>kf a++(sub.ps++next.ps)
def OT.isNil{P:dg}:OT P->Bool
 | .nil=>true
 |_=>false
def rZ(C:I Nat)(L:Nat)(r:I Nat):I Nat:=match yZ C L r with
 |some k=>[k]
 |none=>r
def M1{P:dg}(A C:I Nat)(f:I Nat->Nat->I Nat->St->U (I Lf×I (In×cB)))(a:Bool)(b:I Nat)(s:St)(L:Nat):U (I Lf×I (In×cB)):=
 match rW A L 0 with
 |[]=>bif a then some ([(s,b,[])],[])else none
 |d::r=>f (rZ C L (d::r)) L b s
def tH(P:dg)(ops:Array Oper)(A C:I Nat):OT P->Nat->I Nat->Nat->I Nat->St->U (I Lf×I (In×cB))
 | .nil,_,d,_,_,_=>match d with
   |[]=>some ([],[])
   |_=>none
 | .node k i e next,g,d,L,j,s=>match d with
   |[]=>none
   |c::d=>match g with
    |0=>none
    |f+1=>bif k==c then(match ops[k]? with
     |some o=>bif HF o (jN (jV i) (3*k+1))then(match oM P ops false o k (jV i) s with
      |some (m,l)=>match (fN (L|||(1<<<k)) λp=>M1 (P:=P) A C (tH P ops A C e f) e.isNil (j++List.replicate (m.h.length-s.h.length) k) m p)with
       |some (a,q)=>match tH P ops A C next (f+1) d L j s with
        |some (b,u)=>some (a++b,l++(q++u))
        |none=>none
       |none=>none
      |none=>none)else none
     |none=>none)else none
section
variable {P:dg} {ops:Array Oper} {K:St->Prop}
def aue(J:sB K)(M:qv (Region.before ops) ops=true){f L:Nat}{listed:Array Bool}{s:St}{g:Nat}{r:I Nat}(l:LM ops L listed)(N:Dn ops listed)(m:rW (qA ops 0 ops.size) L 0=g::r)
 (h:∀k∈rZ (lI ops true (Region.before ops) 0 ops.size) L (g::r),∀o,ops[k]?=some o->∃y h1,nt true P ops o s y h1/\l8 true P ops K f (listed.setIfInBounds k true) ((s.wh h1).put o.dst y)):l8 true P ops K (f+1) listed s:=by
 unfold rZ at h;cases q:yZ (lI ops true (Region.before ops) 0 ops.size) L (g::r)with
 |some k=>
  rw[q]at h;obtain⟨v,w⟩:=HU q;have S:k∈Region.ready .any ops listed:=(l.ready k).2 (by rw[m];exact v);have p:k<ops.size:=by
    have:=(Hd _ 0 k).1 (by rw[m];exact v);obtain⟨_,_,a,u,_⟩:=this;rw[Iz]at u;split at u;{next h=>omega};{cases u}
  obtain⟨y,hh,q1,T⟩:=h k Zl ops[k] (ZH p);refine Mg J M (ZH p) f listed s N (λj oj z W sc uy=> ?_) S q1 T;have E:=(ZT.1 z).1;have Qn:Nat.testBit L j=false:=by
   rw[l.b];have iw:j<listed.size:=by rw[l.sz];exact E
   simpa [iw]using sc
  have d:Nat.testBit (xd ops true (Region.before ops) k) j=false:=by
   rw[<-VC];intro hc;have h5:(lI ops true (Region.before ops) 0 ops.size).getD k 0=xd ops true (Region.before ops) k:=by
     rw[List.getD_eq_getElem?_getD,RJ,ZL p,ZJ];rfl
   rw[h5]at w;have:=congrArg (λn=>Nat.testBit n j) w;simp only[Nat.testBit_or,hc,Qn]at this;cases this
  unfold xd at d;rw[EX]at d;unfold T3 at d;rw[uy,ZH p,z]at d;simp [E,W]at d;exact d
 |none=>
  rw[q]at h;have F:g∈Region.ready .any ops listed:=(l.ready g).2 (by rw[m];simp);refine⟨λe=>(by rw[e]at F;cases F),λi hi oi L7=> ?_⟩;exact h i (by rw[<-m];exact(l.ready i).1 hi) oi L7
def amc(hK:sB K)(hM:qv (Region.before ops) ops=true)(t0:I (Nat×AV))(n0:Nat):
 ∀(t:OT P)(m:Nat)(cs:I Nat)(L:Nat)(listed:Array Bool)(al:I Nat)(s:St)(N:I Lf)(ps:I (In×cB)),LM ops L listed->Dn ops listed->(∀c∈cs,c∈Region.ready .any ops listed)->tH P ops (qA ops 0 ops.size) (lI ops true (Region.before ops) 0 ops.size) t m cs L al s=some (N,ps)->hO P ps->(∃j,s.t=j++t0)->s.n=n0->
  (∀x∈N,(∃j,x.1.t=j++t0)/\x.1.n=n0)/\((∀x∈N,K x.1)->∀k∈cs,∀o,ops[k]?=some o->∃f,m=f+1/\∃y h1,nt true P ops o s y h1/\l8 true P ops K f (listed.setIfInBounds k true) ((s.wh h1).put o.dst y)):=by
 intro t
 induction t with
 |nil=>
  intro m cs L listed al s N ps hL hD hc h cA w hn;cases cs with
  |nil=>
   simp only[tH]at h;cases h
   exact⟨λx u=>(by cases u),λ_ k E=>(by cases E)⟩
  |cons=>simp [tH]at h
 |node k aB sub next ihs ihn=>
  intro m cs L listed al s N ps hL hD hc h cA w hn;cases cs with
  |nil=>simp [tH]at h
  |cons c cs=>
   cases m with
   |zero=>simp [tH]at h
   |succ f=>
    rw[tH]at h;have h':=lF h;clear h;obtain⟨S,h⟩:=h';rw[Ve]at S;subst S;split at h
    ·next o ho=>
     have h':=lF h;clear h;obtain⟨aiX,h⟩:=h';split at h
     ·next s1 l hg=>
      rw[AX]at h;split at h
      ·next a pa J=>
       split at h
       ·next b pb hb=>
        cases h
        have hl:hO P l:=λp w=>cA p (aa _ w);have hpa:hO P pa:=λp w=>cA p (Zw _ (aa _ w));have hpb:hO P pb:=λp w=>cA p (Zw _ (Zw _ w));have vD:=hc k Zl;have qG:=(ZT.1 ho).1;obtain⟨zX,lH⟩:=ihn (f+1) cs L listed al s b pb hL hD (λc F=>hc c (Zg _ F)) hb hpb w hn;obtain⟨⟨p1,e1⟩,e2⟩:=RM hg;have X5:∃j,s1.t=j++t0:=by
         obtain⟨j,e⟩:=w;exact⟨p1++j,by rw[e1,e,ZP]⟩
        have T:s1.n=n0:=e2.trans hn;have E1:=hL.set qG;have AW:=hD.set vD;have vr:(∀x∈a,(∃j,x.1.t=j++t0)/\x.1.n=n0)/\((∀x∈a,K x.1)->l8 true P ops K f (listed.setIfInBounds k true) s1):=by
         unfold M1 at J;split at J
         ·next hr=>
          obtain⟨_,J⟩:=lF J;cases J
          have Hq:Region.ready .any ops (listed.setIfInBounds k true)=[]:=by
           rw[List.eq_nil_iff_forall_not_mem];intro i hi;have:=(E1.ready i).1 hi;rw[hr]at this;cases this
          refine⟨λx u=>by rw[ZZ]at u;subst u;exact⟨X5,T⟩,λE=> ?_⟩;have kE:=E _ Zl;cases f with
          |zero=>exact⟨Hq,kE⟩
          |succ f=>exact⟨λ_=>kE,λi hi=>by rw[Hq]at hi;cases hi⟩
         ·next k1 r hr=>
          have HZ:∀c∈rZ (lI ops true (Region.before ops) 0 ops.size) (L|||(1<<<k)) (k1::r),c∈Region.ready .any ops (listed.setIfInBounds k true):=by
           intro c F;rw[E1.ready,hr];unfold rZ at F;split at F
           ·next q hf=>
            rw[ZZ]at F;subst F;exact(HU hf).1
           ·exact F
          obtain⟨q1,q2⟩:=ihs f _ _ _ _ s1 a pa E1 AW HZ J hpa X5 T;refine⟨q1,λE=> ?_⟩;have cX:∃c,c∈rZ (lI ops true (Region.before ops) 0 ops.size) (L|||(1<<<k)) (k1::r):=by
           unfold rZ;split;{exact⟨_,Zl⟩};{exact⟨_,Zl⟩}
          obtain⟨M,zc⟩:=cX;have Up:M<ops.size:=by
           have:=(Hd _ 0 M).1 ((E1.ready M).1 (HZ M zc));obtain⟨_,_,z,hz,_⟩:=this;rw[Iz]at hz;split at hz;{next h=>omega};{cases hz}
          obtain⟨g,rfl,_⟩:=q2 E M zc ops[M] (ZH Up);refine aue hK hM E1 AW hr λk' W o' nN=> ?_;obtain⟨g',e,y,h1,h2,h3⟩:=q2 E k' W o' nN;cases e
          exact⟨y,h1,h2,h3⟩
        refine⟨λx u=>(ZE.1 u).elim (vr.1 x) (zX x),λE k' W o' nN=> ?_⟩;rcases ZY.1 W with rfl|W
        ·rw[ho]at nN;cases nN;have h4:=Yx (K:=(·=s1)) hg hl rfl aiX;have h5:=vr.2 λx u=>E x (aa _ u);rcases LF h4 with⟨g,hd⟩|⟨g,hd⟩
         ·obtain⟨y,h1,h2,h3⟩:=Ml hd;exact⟨f,rfl,y,h1,.inl ⟨g,h2⟩,by rw[h3];exact h5⟩
         ·exact⟨f,rfl,_,s.h,.inr ⟨g,rfl,rfl⟩,by
           have e:(s.wh s.h).put o.dst (.d (.v undef))=s1:=hd;rw[e];exact h5⟩
        ·exact lH (λx u=>E x (Zw _ u)) k' W o' nN
       ·cases h
      ·cases h
     ·cases h
    ·cases h
end
def Vt(P:dg)(ol:I Oper)(t:OT P)(a:I Nat)(s:St):U (I (I (Nat×AV)×I ar×I (In×cB))×I (In×cB)):=
 bif qv (Region.before ol.toArray) ol.toArray then fL (qA ol.toArray 0 ol.toArray.size) λA=>fL (lI ol.toArray true (Region.before ol.toArray) 0 ol.toArray.size) λC=>
  match M1 (P:=P) A C (tH P ol.toArray A C t ol.toArray.size) t.isNil [] s 0 with
  |some (b,d)=>match JD a s b with
   |some r=>some (r,d)
   |none=>none
  |none=>none
 else none
def ak8{P:dg}{ol:I Oper}{t:OT P}{u:I Nat}{s:St}{Δ:I (Nat×AV)}{h':I ar}{m N0:Nat}{K:St->Prop}(h:Vt P ol t u s=some (List.replicate m (Δ,h',[]),t.ps))(cA:hO P t.ps)(hN:N0<=s.h.length)(rY:∀i,(bM s.t i).aN s.h.length=true)(N:HE N0 K)(hk:K ⟨s.n,Δ++s.t,h'⟩):
 l8 true P ol.toArray K ol.toArray.size (Array.replicate ol.toArray.size false) s:=by
 unfold Vt at h;obtain⟨hM,h⟩:=lF h;rw[xS,xS]at h;split at h
 ·next ls ps d=>
  split at h
  ·next r S=>
   cases h
   have v:LM ol.toArray 0 (Array.replicate ol.toArray.size false):=⟨by simp,λi=>by
    rw[Nat.zero_testBit,Array.getD_eq_getD_getElem?,Array.getElem?_replicate];split<;>rfl⟩
   have hD:Dn ol.toArray (Array.replicate ol.toArray.size false):=λj o ho E=>by
    exfalso;rw[Array.getD_eq_getD_getElem?,Array.getElem?_replicate]at E;split at E<;>simp at E
   have b:∀x∈ls,((∃T,x.1.t=T++s.t)/\x.1.n=s.n)->K x.1:=λx F hb=>by
    obtain⟨a,ha,e2⟩:=R2 S x F;rw[List.mem_replicate]at ha;obtain⟨_,rfl⟩:=ha;obtain⟨J,_⟩:=X2 (P:=P) (ops:=ol.toArray) e2 hN rY hb.2 hb.1 (λp hp=>by cases hp);exact N _ _ J hk
   unfold M1 at d;split at d
   ·next L=>
    obtain⟨_,d⟩:=lF d;have W:=Prod.mk.inj (Zs d);obtain⟨W,_⟩:=W;subst W;have Hq:Region.ready .any ol.toArray (Array.replicate ol.toArray.size false)=[]:=by
     rw[List.eq_nil_iff_forall_not_mem];intro i M;have:=(v.ready i).1 M;rw[L]at this;cases this
    have kE:=b _ Zl ⟨⟨[],rfl⟩,rfl⟩;generalize hf:ol.toArray.size=f at*;cases f with
    |zero=>exact⟨Hq,kE⟩
    |succ f=>exact⟨λ_=>kE,λi M=>by rw[Hq]at M;cases M⟩
   ·next J r' L=>
    have HZ:∀c∈rZ (lI ol.toArray true (Region.before ol.toArray) 0 ol.toArray.size) 0 (J::r'),c∈Region.ready .any ol.toArray (Array.replicate ol.toArray.size false):=by
     intro c w;rw[v.ready,L];unfold rZ at w;split at w
     ·next q hf=>
      rw[ZZ]at w;subst w;exact(HU hf).1
     ·exact w
    obtain⟨q1,q2⟩:=amc (K:=K) N.c hM s.t s.n t _ _ _ _ _ s ls _ v hD HZ d cA ⟨[],rfl⟩ rfl;have q3:=q2 λx F=>b x F (q1 x F);have cX:∃c,c∈rZ (lI ol.toArray true (Region.before ol.toArray) 0 ol.toArray.size) 0 (J::r'):=by
     unfold rZ;split;{exact⟨_,Zl⟩};{exact⟨_,Zl⟩}
    obtain⟨l,zc⟩:=cX;have Up:l<ol.toArray.size:=by
     have:=(Hd _ 0 l).1 ((v.ready l).1 (HZ l zc));obtain⟨_,_,z,hz,_⟩:=this;rw[Iz]at hz;split at hz;{next h=>omega};{cases hz}
    obtain⟨g,eg,_⟩:=q3 l zc ol.toArray[l] (ZH Up);have S:=aue (P:=P) (f:=g) (s:=s) (K:=K) N.c hM v hD L λk' iz o' nN=>by
     obtain⟨g',e,y,h1,h2,h3⟩:=q3 k' iz o' nN;rw[eg]at e;cases e
     exact⟨y,h1,h2,h3⟩
    exact(congrArg (λn=>l8 true P ol.toArray K n (Array.replicate ol.toArray.size false) s) eg).mpr S
  ·cases h
 ·cases h
def TB{P:dg}:∀t:OT P,hO P t.ps
 | .nil=>λp a=>by cases a
 | .node _ d b next=>λp a=>by
   unfold OT.ps at a;rcases ZE.1 a with a|a
   ·exact qO d p a
   ·rcases ZE.1 a with a|a
    ·exact TB b p a
    ·exact TB next p a
section
variable {P:dg} {r:U Nat} {N0 id n:Nat} {ol:I Oper} {y:Code} {t:I (Nat×AV)} {h:I ar} {Q Q':Exit->St->Prop}
def ro(m:Nat)(a:P.follows .mixedOrders=true)(T:OT P)(Δ:I (Nat×AV))(h':I ar)(e:Vt P ol T (Δ.map (·.1)) ⟨n,t,h⟩=some (List.replicate m (Δ,h',[]),T.ps))(k:bQ P r N0 y Q' ⟨n,Δ++t,h'⟩):bQ P r N0 (.region id ol.toArray true) (jk (λs=>bQ P r N0 y Q' s) Q) ⟨n,t,h⟩:=
 U0 (m:=true) a λb d=>ak8 e (TB T) b d (RR _) ⟨_,j5.refl _ _,k⟩
end
set_option maxHeartbeats 0
mutual
def Qg{m m':Nat}(hm:m<=m'):∀x:AV,x.aN m=true->x.aN m'=true
 | .own n _,h=>by rw[AV.aN,VJ,<-VC,dS]at h ⊢;omega
 | .ptr n _,h=>by rw[AV.aN,VJ,<-VC,dS]at h ⊢;omega
 | .row n _ _ _ _,h=>by rw[AV.aN,VJ,<-VC,dS]at h ⊢;omega
 | .mp n,h=>by rw[AV.aN,VJ,<-VC,dS]at h ⊢;omega
 | .cF n,h=>by rw[AV.aN,VJ,<-VC,dS]at h ⊢;omega
 | .vec n _ _ _ _,h=>by rw[AV.aN,VJ,<-VC,dS]at h ⊢;omega
 | .eC n _ _ _ _,h=>by rw[AV.aN,VJ,<-VC,dS]at h ⊢;omega
 | .agg cs,h=>by rw[AV.aN]at h ⊢;exact LW hm cs h
 | .bn cs,h=>by rw[AV.aN]at h ⊢;exact LW hm cs h
 | .fn f cs,h=>by rw[AV.aN]at h ⊢;exact LW hm cs h
 | .d _,_=>by simp only[AV.aN]
 | .bK ..,_=>by simp only[AV.aN]
 | .full _,_=>by simp only[AV.aN]
 | .hid _,_=>by simp only[AV.aN]
 | .dead,_=>by simp only[AV.aN]
def LW{m m':Nat}(hm:m<=m'):∀l:I AV,AV.lB m l=true->AV.lB m' l=true
 |[],_=>by simp [AV.lB]
 |x::l,h=>by
  rw[AV.lB,Zo]at h ⊢;exact⟨Qg hm x h.1,LW hm l h.2⟩
end
def ao6{m i:Nat}(l:m<=i){B:ar}(h:B.aN m=true):B.aN i=true:=by
 have g:∀d:I AV,d.all (AV.aN m)=true->d.all (AV.aN i)=true:=λd h=>by
  rw[Zb]at h ⊢;exact λx j=>Qg l x (h x j)
 cases B with
 |cells d=>exact g d h
 |lp w p a b d=>exact g d h
 |it z d=>exact g d h
 |fG E d=>exact g d h
 |vec e k d=>
  simp only[ar.aN,Zb]at h ⊢;exact λc q x j=>Qg l x (h c q x j)
 |front e k u=>rfl
 |jq e b=>rfl
 |map v=>rfl
 |jx v=>rfl
 |gone=>rfl
def VZ{m a:Nat}(b:m<=a){h:I ar}(e:h.all (ar.aN m)=true):h.all (ar.aN a)=true:=by
 rw[Zb]at e ⊢;exact λB d=>ao6 b (e B d)
abbrev rf(ext:I Int):AV:= .bK [[.sl (bE ext)]] 0 0
def rI(p:I Int):AV:= .d (.sl (bE p))
def abY{n i x:Nat}{xs:I Nat}(h:(List.range n).drop i=x::xs):x=i:=by
 have:=aY h;have a:i<(List.range n).length:=(Zk.1 this).1;rw[List.getElem?_range (by simpa using a)]at this;exact(Zs this).symm
def ag3(ext:I Int)(n:Nat)(J:n<=maxLen)(L:gZ prog 198 [.d (.sl (bE ext))] (·=Y n)):BW prog 197 [rf ext] ((List.range n).map λ(k:Nat)=>Y k):=by
 intro k h C m z M;have N:=JB _ m M;refine vU h.length func197 rfl (by kernel_rfl) (Zr _) ?_;show bQ prog none h.length _ _ ⟨14,[(0,.cF k),(1,rf ext)],h⟩
 repeat refine aw ?_
 refine fS ?_;refine cq rfl ?_;refine BR (x:= .d (.sl (bE ext))) rfl rfl ?_;refine cq rfl ?_;refine I2 (g:=198) (dC:=[]) rfl rfl rfl ?_;refine L.use rfl rfl ?_;refine cq rfl ?_;refine BR (x:= .d (.v (.int .i64 0))) rfl rfl ?_;refine aV ?_;refine dI ?_;refine Ph (ι:=Nat×I Nat×I ar) [0,5,6] h.length (λi=>⟨14,[(0,.cF k),(5,.d (.v (.int .i64 n))),(6,.d (.v (.int .i64 i.1)))],i.2.2⟩)
  (λi=>(List.range n).drop i.1=i.2.1/\qx h i.2.2/\mK prog k (i.2.1.map λ(k:Nat)=>Y k) (λb a=>C b a/\qx h a) i.2.2) (λi=>i.2.1.length) (0,List.range n,h) (Zr _) ?_ ?_ ⟨rfl,⟨rfl,m⟩,N⟩ ?_
 ·exact My _ m (by
   show(((AV.cF k).bR h.length).aN h.length&&(true&&(true&&true)))=true;rw[Dq z];rfl)
 ·exact PM _ m
 rintro⟨i,rest,hb⟩ ⟨l,⟨p,E⟩,q⟩;simp only at l p E q ⊢
 repeat refine aw ?_
 refine fS ?_;refine cq rfl ?_;refine BR (x:= .d (.v (.bool (decide ((i:Int)<(n:Int)))))) rfl rfl ?_;refine aV ?_
 repeat refine aw ?_
 have e:((List.range n).length:Int)=(n:Int):=by rw[List.length_range]
 cases rest with
 |nil=>
  rw[<-e,bI l];refine CG ?_;refine lW (iD (iD (mU rfl ?_)));exact M5 p E ⟨rfl,true,q.1⟩
 |cons x rest=>
  rw[<-e,bH l];have S:=abY l;subst S;refine CD ?_;refine cO ?_;refine aV ?_
  repeat refine aw ?_
  refine dI ?_
  repeat refine aw ?_
  refine fS ?_;refine cq rfl ?_;refine BR (x:= .d (.v (.int .i64 x))) rfl rfl ?_;refine cq rfl ?_;refine BR (x:= .d (.v (.int .i64 x))) rfl rfl ?_;refine aV ?_
  repeat refine aw ?_
  refine fS ?_;refine cq rfl ?_;refine BR (x:= .cF k) rfl rfl ?_;refine cq rfl ?_;refine BR (x:= .d (.v (.int .i64 x))) rfl rfl ?_;refine cq rfl ?_;rw[ZS]at q;refine Bn (k:=k) (x:=Y x) rfl rfl (by kernel_rfl) (by kernel_rfl) rfl rfl ?_;refine YS.mono q λb a T=> ?_;obtain⟨⟨W,F⟩,w⟩:=T;have j:a.length=h.length:=by rw[W,p]
  have u:a.all (ar.aN h.length)=true:=by rw[p]at F;exact F
  refine cq rfl ?_;refine BR (x:= .d (.v (.bool (!b)))) rfl rfl ?_;refine aV ?_;cases b with
  |false=>
   refine CD ?_;refine dk ?_
   repeat (first|(with_reducible refine dn ?_)|(with_reducible refine eW ?_))
   exact adH j u ⟨rfl,false,w.1⟩
  |true=>
   refine CG ?_;refine cO ?_;refine eV ?_;refine aV ?_;simp only[V1]at w;refine fS ?_;refine cq rfl ?_;refine c8 (x:= .d (.v (.int .i64 ((x+1:Nat):Int)))) (by
    show some ((.d (.v (.int .i64 (aE ((x:Int)+1)))):AV),HD.same)=_;have:=bV l rfl (by rw[List.length_range];exact J);unfold Y at this;rw[this]) rfl rfl ?_
   refine cq rfl ?_;refine BR (x:= .d (.v (.int .i64 ((x+1:Nat):Int)))) rfl rfl ?_;refine aV ?_;refine⟨?_,(x+1,rest,a),?_,⟨kI l,⟨j,u⟩,w⟩,Yu _⟩
   ·rw[<-j];exact My _ (by rw[j];exact u) (by
      show(((AV.cF k).bR a.length).aN a.length&&(true&&(true&&true)))=true;rw[j,Dq z];rfl)
   ·rw[<-j];exact PM _ (by rw[j];exact u)
def ao8(ext:I Int):gZ prog 114 [.d (.sl (bE ext))] (·= .fn 197 [rf ext]):=by
 refine U8 (r:= .fn 197 [.ptr 0 0]) (h:=[.cells [.d (.sl (bE ext))]]) ?_ (by kernel_rfl) rfl;refine tv 1 func114 rfl (by kernel_rfl) (Zh rfl) ?_;refine mI (s':=⟨4,[(0,.d (.sl (bE ext)))],[]⟩) (by kernel_rfl) ?_;refine aw (CU [] [(1,.ptr 0 0)] [.cells [.d (.sl (bE ext))]] ?_);refine aw (CU [] [(2,.fn 197 [.ptr 0 0])] [.cells [.d (.sl (bE ext))]] ?_);refine dk ?_;exact kt (by kernel_rfl)
def apG{n:Nat}{t:I (Nat×AV)}{H l:I ar}(b:H.all (ar.aN H.length)=true):w8 ⟨n,t,H++l⟩ H.length ⟨n,[],H⟩:=⟨fun{G w a} d=>by
 have e:=d.mask (live:=[]) (Bz (n:=n) (t:=t) (l:=l) [] b rfl)
 rwa [C9 [] b]at e⟩
def ac3{n m:Nat}{t:I (Nat×AV)}{H:I ar}(a:H.length=m)(b:H.all (ar.aN m)=true):w8 ⟨n,t,H⟩ m ⟨n,[],H⟩:=by
 subst a;have:=apG (n:=n) (t:=t) (l:=[]) b
 rwa [ZV]at this
def anr(ext:I Int)(kp:I (I Int))(hn:kp.length<=maxLen)(hc:gZ prog 198 [.d (.sl (bE ext))] (·=Y kp.length))
 (hp:∀(k:Nat)(p:I Int),kp[k]?=some p->gZ prog 115 [.d (.sl (bE ext)),Y k] (·= .bn [rI p,az true])):BW prog 113 [rf ext] (kp.map rI):=by
 intro k h C lE hk qf;have hs:=JB _ lE qf;refine vU h.length func113 rfl (by kernel_rfl) (Zr _) ?_
 suffices hA:bQ prog none h.length _ _ ⟨19,[(0,.cF k),(1,rf ext)],h++[]⟩ by rw[ZV]at hA;exact hA
 have qT:∀u,h.length<=u->(AV.cF k).aN u=true:=λu iE=>by simp [AV.aN,cG];omega
 have w:∀u,h.length<=u->(ar.cells [.cF k]).aN u=true:=λu iE=>by simp [ar.aN,qT u iE]
 repeat refine aw ?_
 refine fS ?_;refine cq rfl ?_;refine DS (XD (l:=[]) (v:= .cF k) rfl (by kernel_rfl)) rfl rfl Hy ?_;refine aV ?_
 repeat refine aw ?_
 refine fS ?_;refine cq rfl ?_;refine BR (x:= .d (.sl (bE ext))) rfl rfl ?_;refine cq rfl ?_;refine I2 (g:=114) (dC:=[]) rfl rfl rfl ?_;refine(ao8 ext).use rfl rfl ?_;refine aV ?_;refine dI ?_;show bQ prog none h.length _ _ ⟨19,[(7,.fn 197 [rf ext]),(6,.d (.sl (bE ext))),(2,.ptr h.length 0),(0,.cF k),(1,rf ext)],h++[.cells [.cF k]]⟩;refine yq (m:=h.length+1) (enc:=λ(q:Nat)=>Y q) (xs:=List.range kp.length) (gf:=197) (dC:=[rf ext]) (by kernel_rfl) (ag3 ext kp.length hn hc) (λ(i:{E:I ar // qx h E})=>i.1++[.cells [.cF k]])
  (λi l=>∃j,(List.range kp.length).drop j=l/\mK prog k ((kp.drop j).map rI) (λb e=>C b e/\qx h e) i.1) ⟨h,rfl,lE⟩ rfl ⟨0,rfl,hs⟩ (λi=>by rw[Zj,i.2.1];rfl) (λi=> ?_) ?_ (by kernel_rfl) ?_ ?_
 ·rw[List.all_append,VZ (Yh _ 2) i.2.2];simp [w (h.length+1+1) (by omega)]
 ·have J:cG (h.length+1+1) k=false:=by rw[<-VC,dS];omega
  have W:cG (h.length+1+1) h.length=false:=by rw[<-VC,dS];omega
  show(([0,1,2,3,4,5,6,7,8,9,10,11,12,13,14,15,16,17,18]:I Nat).map λi=>bM _ i).all _=true;simp only[ZS,a6,bM,Z4,List.all_nil,Nat.reduceBEq,V1,UQ,Bool.and_true,AV.aN,AV.lB];rw[J,W];rfl
 ·rintro⟨L,z,c2⟩ x l ⟨j,M,F⟩ rr a b;have hx:=abY M;subst hx;have hj:x<kp.length:=by
   have:=aY M;have:=(Zk.1 this).1
   simpa using this
  simp only at F ⊢;refine fS ?_;refine cq rfl ?_;refine BR (x:=Y x) rfl rfl ?_;refine aV ?_;refine⟨L++[.cells [.cF k]],[],by rw[Zj,z];rfl,rfl,?_⟩;generalize N:ar.lp .busy 8 a b (dT 19 _)=LP;have apv:LP.aN (h.length+2)=true:=by
   rw[<-N];have J:cG (h.length+2) k=false:=by rw[<-VC,dS];omega
   have W:cG (h.length+2) h.length=false:=by rw[<-VC,dS];omega
   show(([0,1,2,3,4,5,6,7,8,9,10,11,12,13,14,15,16,17,18]:I Nat).map λi=>bM _ i).all _=true;simp only[ZS,a6,bM,Z4,List.all_nil,Nat.reduceBEq,V1,UQ,Bool.and_true,AV.aN,AV.lB];rw[J,W];rfl
  clear N;refine dI ?_
  repeat refine aw ?_
  refine fS ?_;refine cq rfl ?_;refine BR (x:= .d (.sl (bE ext))) rfl rfl ?_;refine cq rfl ?_;refine BR (x:=Y x) rfl rfl ?_;refine cq rfl ?_;refine I2 (g:=115) (dC:=[]) rfl rfl rfl ?_;refine(hp x kp[x] (Zd hj)).use rfl rfl ?_;refine cq rfl ?_;refine BR (x:= .bn [rI kp[x],az true]) rfl rfl ?_;refine cq rfl ?_;refine BR (x:=rI kp[x]) rfl rfl ?_;refine cq rfl ?_;refine BR (x:=az true) rfl rfl ?_;refine cq rfl ?_;refine BR (x:=rI kp[x]) rfl rfl ?_;refine cq rfl ?_;refine BR (x:=az true) rfl rfl ?_;refine aV ?_;rw[show(L++[ar.cells [.cF k]])++[LP]=L++[ar.cells [.cF k],LP] by simp]
  repeat refine aw ?_
  refine fS ?_;refine cq rfl ?_;refine c8 (yn (h:=L) (i:=0) (off:=0) (l:=[.cells [.cF k],LP]) (x:= .cF k) (by rw[z];rfl) rfl (by kernel_rfl)) rfl rfl ?_;refine cq rfl ?_;refine BR (x:=rI kp[x]) rfl rfl ?_;refine cq rfl ?_;rw[List.drop_eq_getElem_cons hj,ZS]at F;have J:=PE F [.cells [.cF k],LP] (by rw[z];exact c2) (by kernel_rfl) (λb h' hh=>hh.1);refine Bn (k:=k) (x:=rI kp[x]) rfl rfl (by kernel_rfl) (by kernel_rfl) rfl rfl ?_;refine J.mono λb h' hh=> ?_;obtain⟨e,⟨⟨p1,p2⟩,p3⟩,rfl⟩:=hh;have S:e.length=h.length:=by rw[p1,z]
  have T:e.all (ar.aN h.length)=true:=by rw[z]at p2;exact p2
  have v1:(e++[ar.cells [.cF k]]).length=h.length+1:=by rw[Zj,S];rfl
  have v2:(e++[ar.cells [.cF k]]).all (ar.aN (h.length+2))=true:=by
   rw[List.all_append,VZ (Yh _ 2) T];simp [w]
  have v3:(e++[ar.cells [.cF k],LP]).all (ar.aN (h.length+2))=true:=by
   rw[List.all_append,VZ (Yh _ 2) T];simp [w,apv]
  have v4:(e++[ar.cells [.cF k],LP]).length=h.length+2:=by rw[Zj,S];rfl
  have v5:e++[ar.cells [.cF k],LP]=(e++[ar.cells [.cF k]])++[LP]:=by simp
  refine cq rfl ?_;refine BR (x:= .d (.v (.bool (!b)))) rfl rfl ?_;refine aV ?_;cases b with
  |false=>
   refine CD ?_;refine dk ?_
   repeat (first|(with_reducible refine dn ?_)|(with_reducible refine eW ?_))
   refine⟨e++[.cells [.cF k]],v1,v2,?_,?_⟩
   ·have R8:∀t,w8 ⟨19,t,e++[ar.cells [.cF k],LP]⟩ (h.length+2) ⟨19,[],(e++[ar.cells [.cF k]])++[LP]⟩:=λt=>by
     rw[<-v5];exact ac3 v4 v3
    exact R8 _
   ·refine eW ?_;rw[ZP];exact CJ S T ⟨rfl,false,p3.1⟩
  |true=>
   refine CG ?_;refine cO ?_;refine eV ?_;simp only[V1]at p3;refine⟨e++[.cells [.cF k]],v1,v2,?_,⟨e,S,T⟩,rfl,x+1,kI M,p3⟩;have R8:∀t,w8 ⟨19,t,e++[ar.cells [.cF k],LP]⟩ (h.length+2) ⟨19,[],(e++[ar.cells [.cF k]])++[LP]⟩:=λt=>by
    rw[<-v5];exact ac3 v4 v3
   exact R8 _
 ·rintro⟨L,z,c2⟩ ⟨j,M,F⟩;have:kp.drop j=[]:=by
   have E:=List.drop_eq_nil_iff.1 M;rw[List.length_range]at E;exact List.drop_eq_nil_iff.2 E
  rw[this,a6]at F;refine eV ?_;rw[ZP];have:=TE (P:=prog) (fn:=f113) (n:=19) (K:=λ_ E=>∃b,C b E) (t:=[(7,.fn 197 [rf ext]),(6,.d (.sl (bE ext))),(2,.ptr h.length 0),(0,.cF k),(1,rf ext)]) (l:=[.cells [.cF k]]++[.gone]) z c2;refine this ?_;exact⟨rfl,true,F.1⟩
def jc(a b:Int)(d:Bool)(how:Int):Bool:=
 let q:=IntKind.u64.wrap (a.tdiv b);let r:=a.tmod b
 (r==0||how==3)||((how==1&& !d)||(how==2&&d))||(how==4&&(decide (IntKind.u64.wrap (2*r)<b)||(IntKind.u64.wrap (2*r)==b&&q.tmod 2==0)))
def um(a b:Int)(d:Bool)(how:Int):Int:=bif jc a b d how then IntKind.u64.wrap (a.tdiv b)else IntKind.u64.wrap (IntKind.u64.wrap (a.tdiv b)+1)
end Go.Proofs.YtnnapanbbbcalaaGreatDoor
