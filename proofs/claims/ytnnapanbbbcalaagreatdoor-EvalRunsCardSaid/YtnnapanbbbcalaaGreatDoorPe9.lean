/-
  Part 9 of the proof: Sorts, AbsWs, AbsDl, AbsTm, AbsUnr, AbsOT, IterB, RndD.
-/
import Derived.Test.YtnnapanbbbcalaaGreatDoorPe8
import Derived.WalkKit
import Derived.Shelf.Sort.Plain
import Derived.Shelf.Slices.CompactS
import Derived.Shelf.Slices.In.SortNone
import Derived.Sort.OwnSorted
import Derived.LoopNIn
set_option linter.defProp false
namespace Go.Proofs.YtnnapanbbbcalaaGreatDoor
open Tryz
open Go.RowKit Go.Shelf
set_option maxRecDepth 100000
set_option linter.unusedVariables false
def aqP:Ren where
 f:=fun
  |190=>256
  |125=>291
  |258=>290
  |128=>318
  |129=>319
  |302=>309
  |303=>310
  |304=>311
  |305=>312
  |306=>313
  |307=>314
  |308=>315
  |309=>316
  |310=>317
  |333=>324
  |329=>325
  |330=>326
  |334=>327
  |335=>328
  |336=>329
  |344=>331
  |n=>n
 t:=fun
  |31=>22
  |9=>9
  |3=>3
  |46=>250
  |0=>0
  |51=>300
  |53=>193
  |4=>4
  |183=>293
  |182=>292
  |131=>177
  |5=>5
  |218=>305
  |222=>309
  |228=>317
  |229=>318
  |n=>n
 g:=λn=>n
def auw:Lays.n190 prog aqP:=by
 constructor<;>first|kernel_rfl|(intro w;rfl)
def ajK:Ren where
 f:=fun
  |194=>257
  |n=>n
 t:=fun
  |31=>22
  |n=>n
 g:=λn=>n
def adh:Lays.n194 prog ajK:=by
 constructor<;>first|kernel_rfl|(intro w;rfl)
def jo(a:I so):I (I UInt8):=(a.map bL).mergeSort λx y=>decide (x<=y)
def jF(a:I so):I so:=(Lib.compact (jo a)).map λl=>⟨l.toArray⟩
def abR(ss:I so):(jo ss).length=ss.length:=by unfold jo;rw[List.length_mergeSort,Zu]
def ako(p:U Addr)(cap:Nat)(w:Zy):Calls prog 195 #[.slice p 0 cap] w λe w'=>e= .returned (.slice p 0 cap)/\w'=w:=by
 have a:Calls prog 256 #[.slice p 0 cap] w λe w'=>e= .returned (.tuple #[])/\w'=w:=Any.slices_Sort_string_none auw p cap w;have b:Calls prog 257 #[.slice p 0 cap] w λe w'=>e= .returned (.slice p 0 cap)/\w'=w:=Any.slices_Compact_string_empty adh p cap w
 go_enter func195,ntmps195
 go_wp2_with (first|(go_at_call 256;refine a.mono ?_;rintro e w' ⟨rfl,rfl⟩)|(go_at_call 257;refine b.mono ?_;rintro e w' ⟨rfl,rfl⟩))
 go_ret
 exact⟨rfl,rfl⟩
def atv{w:Zy}{g:Nat}{cur:Array kd}{e:TypeId}{a:Nat×Nat}(b:w.heap[g]?=some (.cells cur e a))(i:Nat):w.cell? ⟨g,i,none⟩=cur[i]?:=by
 simp only[World.cell?,b,Option.isSome_none,Bool.false_eq_true,if_false]
def agA(zs:I (I UInt8)):(Lib.compact zs).length<=zs.length:=by
 have h:∀m,(Lib.compactUpTo zs.toArray m).length<=m:=by
  intro m
  induction m with
  |zero=>exact Zv _
  |succ m a=>
   rw[Lib.compactUpTo_succ,Zk];split;{simp only[Zl,Zf];omega};{simp only[Zf];omega}
 exact h zs.length
def alr(g cap:Nat)(a:I so)(cur:Array kd)(w:Zy)(z:w.heap[g]?=some (.cells cur 9 (0,0)))(ht:cur.toList.take a.length=(a.map bL).map encStr)(hc:cur.size=cap)(lh:a.length<=cap)(hm:cap<=maxLen)(iV:a.length<4611686018427387904):
 Calls prog 195 #[.slice (some ⟨g,0,none⟩) a.length cap] w λe w'=>e= .returned (.slice (some ⟨g,0,none⟩) (jF a).length cap)/\w.grownBy w' (some g)/\∀(i:Nat)(s:so),(jF a)[i]?=some s->w'.cell? ⟨g,i,none⟩=some (.string s):=by
 have hg:g<w.heap.size:=(ZT.1 z).1;have E:=abR a;obtain⟨p,m⟩:∃p:Zy->Prop,p=λw'=>∃n os,w'=Sort.grow (Sort.putRow encStr (Sort.ahead w n) g 0 (jo a).toArray) os:=⟨_,rfl⟩;have h1:Calls prog 256 #[.slice (some ⟨g,0,none⟩) a.length cap] w λe w'=>e= .returned (.tuple #[])/\p w':=by
  have h:=Any.slices_Sort_string auw g 0 cap (a.map bL) w (holds_of_block z (by rw[Zu];exact ht)) hg (by rw[Zu];exact iV);rw[Zu]at h;rw[m];exact h
 have h2:∀b,p b->Calls prog 257 #[.slice (some ⟨g,0,none⟩) a.length cap] b λe w'=>e= .returned (.slice (some ⟨g,0,none⟩) (jF a).length cap)/\(w.grownBy w' (some g)/\∀(i:Nat)(s:so),(jF a)[i]?=some s->w'.cell? ⟨g,i,none⟩=some (.string s)):=by
  intro b M;rw[m]at M;obtain⟨n,os,rfl⟩:=M;have N:=heap_sorted (n:=n) (os:=os) (jo a).toArray z;have Cj:=grownBy_sorted (w:=w) (g:=g) (n:=n) (os:=os) (jo a).toArray;have fR:(Sort.putCells encStr 0 (jo a).toArray cur).size=cur.size:=by simp [Sort.putCells]
  have F:=take_putCells cur (jo a) (by omega);generalize Sort.grow (Sort.putRow encStr (Sort.ahead w n) g 0 (jo a).toArray) os=b at*;generalize Sort.putCells encStr 0 (jo a).toArray cur=ac8 at*;have h:=Any.slices_Compact_string adh g 0 cap (jo a) b (holds_of_block N F) (by unfold maxLen at hm;omega) (by omega);rw[E]at h;refine h.mono λe w' hp=> ?_;obtain⟨rfl,q,rfl⟩:=hp;have u:(jF a).length=(Lib.compact (jo a)).length:=by unfold jF;rw[Zu]
  refine⟨by rw[u],?_⟩;obtain⟨d,J⟩:∃d,d=Lib.compact (jo a)++List.replicate (a.length-(Lib.compact (jo a)).length) []:=⟨_,rfl⟩;rw[<-J];have rU:d.length<=ac8.size:=by
   have:=agA (jo a);rw[J,Zk,Yq];omega
  have C8:=grownBy_sorted (w:=b) (g:=g) (n:=q) (os:= #[]) d.toArray;have S:=heap_sorted (n:=q) (os:= #[]) d.toArray N;rw[Sort.grow_empty]at C8 S;have L:=take_putCells ac8 d rU;refine⟨⟨C8.os.trans Cj.os,C8.tape.trans Cj.tape,C8.output.trans Cj.output,Zc Cj.size C8.size,λk u T=>(C8.block k (ZU u Cj.size) T).trans (Cj.block k u T)⟩,λi s j=> ?_⟩;rw[atv S i];unfold jF at j;rw[Zs]at j;cases v:(Lib.compact (jo a))[i]? with
  |none=>rw[v]at j;cases j
  |some l=>
   rw[v]at j;cases j;have kQ:=(Zo.1 v).1;have W:d[i]?=some l:=by rw[J,ZX kQ];exact v
   have:=congrArg (λl:I kd=>l[i]?) L;rw[List.getElem?_take_of_lt (Zo.1 W).1,Zs,W,ZP]at this;exact this
 go_enter func195,ntmps195
 go_wp2_with (first|(go_at_call 256;refine h1.mono ?_;rintro e b ⟨rfl,s8⟩)|(go_at_call 257;refine(h2 _ s8).mono ?_;rintro e w2 ⟨rfl,SP⟩))
 go_ret
 exact⟨rfl,SP⟩
def anz:jF []=[]:=by kernel_rfl
def abP{G:Gh}{w:Zy}{B:ar}(hi:cu G w [B]):cu G w [.gone]:=by
 refine⟨hi.len,hi.z,hi.S,λn C a=> ?_,λm n b d e=> ?_,hi.gl⟩
 ·match n,a with
  |0,a=>cases a;exact trivial
  |n+1,a=>simp at a
 ·match m,d with
  |0,d=>cases d
  |m+1,d=>simp [cr]at d
def aqR{xs:I so}{L:Nat}(hL:xs.length=L)(iV:L<4611686018427387904):
 dt prog 195 [.vec 0 0 L L 1] [.vec 9 1 (cg (cD xs))] λr1 h1=>r1= .d (.sl (cD (jF xs)))/\h1=[.gone]:=by
 refine⟨by kernel_rfl,λG w vs p hvs hr=> ?_⟩;have nO:([ar.vec 9 1 (cg (cD xs))]:I ar)[0]?=some (.vec 9 1 (cg (cD xs))):=rfl;have M:(cg (cD xs)).length=L:=by rw[Ii,ft,hL]
 obtain⟨v0,rfl⟩:∃v0,vs= #[v0]:=by
  obtain⟨l⟩:=vs
  match l,hvs with
  |[a],_=>exact⟨a,rfl⟩
 have r0:=hr 0 v0 _ rfl rfl;obtain⟨Dh,⟨A,T,rfl,q2,q3,q4,q5⟩,_⟩:=r0.xe p nO M;by_cases h0:L=0;{subst h0;obtain rfl:xs=[]:=V1 hL;refine(ako A T w).mono λe w' J=> ?_;obtain⟨rfl,rfl⟩:=J;refine⟨_,G,_,_,rfl,cq.refl _ _ _,Zv _,abP p,?_,rfl,rfl⟩;rw[anz];exact .d (.sl A 0 0 T 1 [] (λ_ _=>undef) (λh=>absurd rfl h) (Wv _) q3 (λ_ h=>by cases h) (λ_ _ h=>absurd h (ZG _)) λ_ _ _ _ h=>by simp at h)}
 ·obtain⟨g,cap,s1,rfl,s3⟩:=q5 (by omega);obtain⟨g',Fz,cur,t1,t2,t3,t4,t5,t6,t7,t8,t9⟩:=Gq p nO (λe=>by rw[e]at M;simp at M;omega);rw[t2,M]at s1;cases s1
  have hcc:T=cap:=by omega
  subst hcc;rw[M]at t5;rw[Nat.mul_one]at t7;have hg:g<w.heap.size:=(ZT.1 t4).1;have ht:cur.toList.take xs.length=(xs.map bL).map encStr:=by
   apply List.ext_getElem?;intro j;by_cases hj:j<xs.length
   ·have q:xs[j]?=some xs[j]:=Ze hj;have W:j<cur.size:=by omega
    have E:cur[j*1+0]?=some cur[j]:=by rw[Nat.mul_one,Nat.add_zero];exact ZM W
    have:=(t9 j 0 [.d (.v (.string xs[j]))] (.d (.v (.string xs[j]))) cur[j] (VY (kp q)) rfl E).val;rw[List.getElem?_take_of_lt hj,ZP,ZM W,this,Zs,Zs,q];rfl
   ·rw[List.getElem?_take_eq_none (by omega),Z9 (by simp;omega)]
  have hw:=alr g T xs cur w t4 ht t7 (by omega) t6 (by omega);rw[hL]at hw;rw[show(⟨g,0*1,none⟩:Addr)=⟨g,0,none⟩from rfl];refine hw.mono λe w' J=> ?_;obtain⟨rfl,gb,jc⟩:=J;have hK:(jF xs).length<=L:=by
   have:=agA (jo xs);rw[abR]at this;unfold jF;rw[Zu];omega
  have hE:cq G.N G w (G.rz g (jF xs).length) w':=
   ⟨gb.size,λ_ _ h=>.inl h,λb o F=>by
    have cX:some b≠some g:=λe=>by cases e;exact t8 o F
    unfold World.cell?;rw[gb.block b (p.S b o F) cX],λ_ _=>rfl,λ_ _=>.inl ⟨rfl,rfl⟩,iX rfl,λb hb=>gb.block b (p.z b hb) (λe=>by cases e;exact t3 hb),gb.os,gb.tape,gb.output,λb o F=>F.imp id fun⟨e,_⟩ hz=>t3 (e▸hz)⟩
  have hI:cu (G.rz g (jF xs).length) w' [.gone]:=by
   have hi:=abP p;refine⟨hi.len,λb hb=>ZU (hi.z b hb) gb.size,λb o F=> ?_,λn C hC=> ?_,λm n b h1 h2=> ?_,hi.gl.keep hE⟩
   ·rcases F with F|⟨rfl,_⟩
    ·exact ZU (hi.S b o F) gb.size
    ·exact ZU hg gb.size
   ·match n,hC with
    |0,hC=>cases hC;exact trivial
    |n+1,hC=>simp at hC
   ·match m,h1 with
    |0,h1=>cases h1
    |m+1,h1=>simp [cr]at h1
  have Ab:Rd (G.rz g (jF xs).length).S w' 1 (cD (jF xs)) ((jF xs).map Value.string):=
   ⟨by rw[Zu,ft,Nat.mul_one],λx q=>(by rw[mY]at q;obtain⟨y,_,rfl⟩:=UU.1 q;rfl),λu E=>(by obtain⟨y,_,rfl⟩:=UU.1 E;rfl),λi j x d q hd=>by
    rw[mY,Zs]at q;cases hk:(jF xs)[i]? with
    |none=>rw[hk]at q;cases q
    |some y=>
     rw[hk]at q;cases q;cases j with
     |zero=>cases hd;exact⟨.string y,by rw[Nat.mul_one,Nat.add_zero,Zs,hk];rfl,.v _⟩
     |succ j=>cases hd⟩
  have J:=Ab.FH g T (by rw[ft];omega) t6 (λo ho=>.inr ⟨rfl,by rw[ft,Nat.mul_one]at ho;exact ho⟩) (λo u E=>by
   rw[Zs]at E;cases hq:(jF xs)[o]? with
   |none=>rw[hq]at E;cases E
   |some y=>rw[hq]at E;cases E;exact jc o y hq)
  rw[ft]at J;exact⟨_,_,_,_,rfl,hE,Zv _,hI,.d J,rfl,rfl⟩
open Go.RowKit
set_option linter.unusedSimpArgs false
structure DL{α:Type}(f:List α->List (List D))(k:Nat):Prop where
 len:∀l,(f l).length=l.length
 all:∀l,∀c∈f l,c.length=k
 app:∀a b,f a++f b=f (a++b)
section
variable {P:dg} {α:Type} {f:I α->I (I D)} {k dy:Nat}
def OE{n:Nat}(a:0<dy)(h:Nat.ble (n*dy) 140737488355328=true):n<=maxLen/\n*dy<=140737488355328:=by
 have b:=Zi h;have d:n*1<=n*dy:=Nat.mul_le_mul_left n a;refine⟨?_,b⟩;unfold maxLen;omega
def oA(F:DL f k)(A B:I α)(h:Nat.ble ((A.length+B.length)*dy) 140737488355328=true)(a:0<dy:=by decide):Ob P:=
 ⟨_,_,.app (xs:=f A) (ys:=f B) (zs:=f (A++B)) (len:=A.length) (n:=(A++B).length) (F.len A).symm (F.all A) (F.all B) (by rw[F.len,F.len];exact(OE a h).1) (by rw[F.len,F.len];exact(OE a h).2) (F.app A B) (by rw[F.len,F.len,Zk])⟩
def oZ(F:DL f k)(B:I α)(h:Nat.ble ((0+B.length)*dy) 140737488355328=true)(a:0<dy:=by decide):Ob P:=
 ⟨_,_,.app (xs:=[]) (ys:=f B) (zs:=f B) (len:=0) (n:=B.length) rfl (λ_ b=>absurd b Yx) (F.all B) (by rw[F.len];exact(OE a h).1) (by rw[F.len];exact(OE a h).2) rfl (by rw[F.len];exact ZQ _)⟩
end
section
variable {P:dg} {f:FuncId} {fJ:I AV} {H H':I ar} {r:AV}
def oQ(nW:I AV)(h:I ar)(l:I Nat)(a:dt P f fJ H λb h1=>b=r/\h1=H)(d:nW=fJ.map (AV.aZ (rn l 0)):=by kernel_rfl)(e:qQ l=true:=by kernel_rfl)(g:l.map (λj=>h[j]?)=H.map (λB=>some (B.aZ (rn l 0))):=by kernel_rfl)(i:(fJ.all (AV.aN H.length)&&H.all (ar.aN H.length)&&r.aN H.length)=true:=by kernel_rfl):Ob P:=⟨_,_,.rq d e g i a⟩
def oR(nW:I AV)(h:I ar)(l:I Nat)(a:dt P f fJ H λb h1=>b=r/\h1=H')(d:nW=fJ.map (AV.aZ (rn l h.length)):=by kernel_rfl)(e:qQ l=true:=by kernel_rfl)(g:l.map (λj=>h[j]?)=H.map (λB=>some (B.aZ (rn l h.length))):=by kernel_rfl)(i:(fJ.all (AV.aN H.length)&&H.all (ar.aN H.length))=true:=by kernel_rfl):Ob P:=⟨_,_,.pH d e g i a⟩
def oX(a:VD H)(b:VD H')(nW:I AV)(h:I ar)(l:I Nat)(d:dt P f fJ H λe h1=>e=r/\h1=H')(g:nW=fJ.map (AV.aZ (rn l h.length)):=by kernel_rfl)(i:qQ l=true:=by kernel_rfl)(m:l.map (λj=>h[j]?)=H.map (λB=>some (B.sP (rn l h.length))):=by kernel_rfl)(p:(fJ.all (AV.aN H.length)&&H.all (ar.xA H.length))=true:=by kernel_rfl):Ob P:=⟨_,_,.Tg a b g i m p d⟩
end
section
variable {P:dg} {r:U Nat} {N0:Nat} {Q:Exit->St->Prop} {w0:WO}
def Ds{α:Type}{f:I α->I (I D)}{z:Nat}(F:DL f z)(k:Nat)(l:I α)(h:l.length<=maxLen->GW P r N0 Q w0)(a:(bP (wS w0).t k).gX=some (f l):=by kernel_rfl):GW P r N0 Q w0:=
 unD k (f l) a λe=>h (tv (F.len l) e)
def afO{α:Type}{f:I α->I (I D)}{z:Nat}(F:DL f z)(b i:Nat)(l:I α)(h:l.length<=maxLen->GW P r N0 Q w0)(a:(((wS w0).h[b]?).bind λB=>match B with| .cells cs=>(cs[i]?).bind AV.gX|_=>none)=some (f l):=by kernel_rfl):GW P r N0 Q w0:=
 HR b i (f l) a λe=>h (tv (F.len l) e)
structure qx{α ι R:Type}(k:Nat)(live:List Nat)(m:Nat)(L:List α)(st:Nat->ι->St)(G:List α->Nat->ι->Option R)(rr:R)(n:Nat)(x:α)(l:List α)(i:ι)(f:St->Prop):Prop where
 h:Pq k live m (λz:Nat×List α×ι=>st z.1 z.2.2) (λz=>L.drop z.1=z.2.1/\G z.2.1 z.1 z.2.2=some rr) (λz=>z.2.1.length) (n,x::l,i) f
structure vA{ι R:Type}(k:Nat)(live:List Nat)(m:Nat)(st:ι->St)(G:Nat->ι->Option R)(rr:R)(d:Nat)(f:St->Prop):Prop where
 h:∀i,Pq k live m (λz:Nat×ι=>st z.2) (λz=>G z.1 z.2=some rr) (λz=>z.1) (d+1,i) f
def J2(p:P.follows .mixedOrders=true){α ι R:Type}{rr:R}(k:Nat)(a:I (I (Nat×Ob P)))(live:I Nat)(m:Nat)(L:I α)(b:Nat->ι->St)(G:I α->Nat->ι->U R)(d:ι)(q:G L 0 d=some rr)
 (nil:∀n i,L.drop n=[]->G [] n i=some rr->∀f:St->Prop,GW P r N0 Q (iu k f (b n i) (wk P w0 a)))
 (cons:∀n x l i,L.drop n=x::l->G (x::l) n i=some rr->∀f:St->Prop,qx k live m L b G rr n x l i f->GW P r N0 Q (iu k f (b n i) (wk P w0 a)))
 (u:N0<=m) (e:nk live m (wk P w0 a)=some (b 0 d,eE a)):GW P r N0 Q w0:=by
 refine H9 p k a live m (λz:Nat×I α×ι=>b z.1 z.2.2) (λz=>L.drop z.1=z.2.1/\G z.2.1 z.1 z.2.2=some rr) (λz=>z.2.1.length) (0,L,d) ⟨rfl,q⟩ (λz v f w=> ?_) u e;obtain⟨n,l,i⟩:=z;obtain⟨g,j⟩:=v;cases l with
 |nil=>exact nil n i g j f
 |cons x l=>exact cons n x l i g j f ⟨w⟩
def akb(d:P.follows .mixedOrders=true){α ι R:Type}{rr:R}{live:I Nat}{m k:Nat}{L:I α}{b:Nat->ι->St}{G:I α->Nat->ι->U R}{n:Nat}{x:α}{l:I α}{i:ι}{f:St->Prop}(g:qx k live m L b G rr n x l i f)(j:ι)(a:I (I (Nat×Ob P)))(p:L.drop n=x::l)(q:G l (n+1) j=some rr)(u:kJ k (wK w0)=[f])(e:sa k live m (wk P w0 a)=some (b (n+1) j,eE a)):GW P r N0 Q w0:=
 CM d g.h (n+1,l,j) a ⟨kM p,q⟩ (Z0 _) u e
def auv(p:P.follows .mixedOrders=true){ι R:Type}{rr:R}(k:Nat)(a:I (I (Nat×Ob P)))(live:I Nat)(m:Nat)(b:ι->St)(G:Nat->ι->U R)(d:Nat)(g:ι)(q:G d g=some rr)(u:∀i,G 0 i=none)
 (succ:∀d i,G (d+1) i=some rr->∀f:St->Prop,vA k live m b G rr d f->GW P r N0 Q (iu k f (b i) (wk P w0 a)))
 (v:N0<=m) (e:nk live m (wk P w0 a)=some (b g,eE a)):GW P r N0 Q w0:=by
 refine H9 p k a live m (λz:Nat×ι=>b z.2) (λz=>G z.1 z.2=some rr) (λz=>z.1) (d,g) q (λz l f w=> ?_) v e;obtain⟨d,i⟩:=z;cases d with
 |zero=>exact absurd ((u i).symm.trans l) (by simp)
 |succ d=>exact succ d i l f ⟨λj=>⟨λE F J L M=>w.h E F J L M⟩⟩
def ary(g:P.follows .mixedOrders=true){ι R:Type}{rr:R}{live:I Nat}{m k:Nat}{b:ι->St}{G:Nat->ι->U R}{d:Nat}{f:St->Prop}(i:vA k live m b G rr d f)(j:ι)(a:I (I (Nat×Ob P)))(l:G d j=some rr)(p:kJ k (wK w0)=[f])(e:sa k live m (wk P w0 a)=some (b j,eE a)):GW P r N0 Q w0:=
 CM g (i.h j) (d,j) a l (Z0 _) p e
def IB{P:dg}{f:FuncId}{fn:Func}{args:I AV}{R:AV}(a:P.funcs[f]?=some fn)(b:GW P none 0 (l8 P fn R) (C1 fn args []))(d:fn.body.isSome=true:=by kernel_rfl)(e:(fn.name== "runtime.NumGoroutine")=false:=by kernel_rfl):AFn P f args (·=R):=akF a d e b
def Iq{P:dg}{f:FuncId}{fn:Func}{args:I AV}{h H:I ar}{R:AV}(m:Nat)(a:P.funcs[f]?=some fn)(b:GW P none h.length (xq P fn m R H) (C1 fn args h))(d:fn.body.isSome=true:=by kernel_rfl)(e:(fn.name== "runtime.NumGoroutine")=false:=by kernel_rfl)(g:h.length<=m:=by exact Zi rfl):dt P f args h λi h1=>i=R/\h1=H:=anO m a d e g b
variable {α A B C D' R:Type} {rr:R}
def auu(i:P.follows .mixedOrders=true)(k:Nat)(a:I (I (Nat×Ob P)))(live:I Nat)(m:Nat)(L:I α)(b:Nat->St)(G:I α->Nat->U R)(j:G L 0=some rr)
 (g:∀n,L.drop n=[]->G [] n=some rr->∀f:St->Prop,GW P r N0 Q (iu k f (b n) (wk P w0 a)))
 (d:∀n x l,L.drop n=x::l->G (x::l) n=some rr->∀f:St->Prop,qx k live m L (λn(_:Unit)=>b n) (λl n _=>G l n) rr n x l () f->GW P r N0 Q (iu k f (b n) (wk P w0 a)))
 (p:N0<=m:=by exact Zi rfl) (e:nk live m (wk P w0 a)=some (b 0,eE a):=by kernel_rfl):GW P r N0 Q w0:=
 J2 i k a live m L (λn(_:Unit)=>b n) (λl n _=>G l n) () j (λn _=>g n) (λn x l _=>d n x l) p e
def R9(j:P.follows .mixedOrders=true)(k:Nat)(b:I (I (Nat×Ob P)))(live:I Nat)(m:Nat)(L:I α)(d:Nat->A->St)(G:I α->Nat->A->U R)(a0:A)(p:G L 0 a0=some rr)
 (i:∀n a,L.drop n=[]->G [] n a=some rr->∀f:St->Prop,GW P r N0 Q (iu k f (d n a) (wk P w0 b)))
 (g:∀n x l a,L.drop n=x::l->G (x::l) n a=some rr->∀f:St->Prop,qx k live m L d G rr n x l a f->GW P r N0 Q (iu k f (d n a) (wk P w0 b)))
 (q:N0<=m:=by exact Zi rfl) (e:nk live m (wk P w0 b)=some (d 0 a0,eE b):=by kernel_rfl):GW P r N0 Q w0:=
 J2 j k b live m L d G a0 p i g q e
def wl2(u:P.follows .mixedOrders=true)(k:Nat)(d:I (I (Nat×Ob P)))(live:I Nat)(m:Nat)(L:I α)(g:Nat->A->B->St)(G:I α->Nat->A->B->U R)(a0:A)(p:B)(v:G L 0 a0 p=some rr)
 (q:∀n a b,L.drop n=[]->G [] n a b=some rr->∀f:St->Prop,GW P r N0 Q (iu k f (g n a b) (wk P w0 d)))
 (j:∀n x l a b,L.drop n=x::l->G (x::l) n a b=some rr->∀f:St->Prop,qx k live m L (λn(i:A×B)=>g n i.1 i.2) (λl n i=>G l n i.1 i.2) rr n x l (a,b) f->GW P r N0 Q (iu k f (g n a b) (wk P w0 d)))
 (w:N0<=m:=by exact Zi rfl) (e:nk live m (wk P w0 d)=some (g 0 a0 p,eE d):=by kernel_rfl):GW P r N0 Q w0:=
 J2 u k d live m L (λn(i:A×B)=>g n i.1 i.2) (λl n i=>G l n i.1 i.2) (a0,p) v (λn i=>q n i.1 i.2) (λn x l i=>j n x l i.1 i.2) w e
def wl3(v:P.follows .mixedOrders=true)(k:Nat)(d:I (I (Nat×Ob P)))(live:I Nat)(m:Nat)(L:I α)(g:Nat->A->B->C->St)(G:I α->Nat->A->B->C->U R)(a0:A)(p:B)(q:C)(w:G L 0 a0 p q=some rr)
 (u:∀n a b c,L.drop n=[]->G [] n a b c=some rr->∀f:St->Prop,GW P r N0 Q (iu k f (g n a b c) (wk P w0 d)))
 (j:∀n x l a b c,L.drop n=x::l->G (x::l) n a b c=some rr->∀f:St->Prop,qx k live m L (λn(i:A×B×C)=>g n i.1 i.2.1 i.2.2) (λl n i=>G l n i.1 i.2.1 i.2.2) rr n x l (a,b,c) f->GW P r N0 Q (iu k f (g n a b c) (wk P w0 d)))
 (z:N0<=m:=by exact Zi rfl) (e:nk live m (wk P w0 d)=some (g 0 a0 p q,eE d):=by kernel_rfl):GW P r N0 Q w0:=
 J2 v k d live m L (λn(i:A×B×C)=>g n i.1 i.2.1 i.2.2) (λl n i=>G l n i.1 i.2.1 i.2.2) (a0,p,q) w (λn i=>u n i.1 i.2.1 i.2.2) (λn x l i=>j n x l i.1 i.2.1 i.2.2) z e
def wb(d:P.follows .mixedOrders=true){ι:Type}{live:I Nat}{m k:Nat}{L:I α}{b:Nat->ι->St}{G:I α->Nat->ι->U R}{n:Nat}{x:α}{l:I α}{i:ι}{f:St->Prop}(g:qx k live m L b G rr n x l i f)(j:ι)(a:I (I (Nat×Ob P)))(p:L.drop n=x::l)(q:G l (n+1) j=some rr)(u:kJ k (wK w0)=[f]:=by kernel_rfl)(e:sa k live m (wk P w0 a)=some (b (n+1) j,eE a):=by kernel_rfl):GW P r N0 Q w0:=akb d g j a p q u e
def wf1(j:P.follows .mixedOrders=true)(k:Nat)(g:I (I (Nat×Ob P)))(live:I Nat)(m:Nat)(i:A->St)(G:Nat->A->U R)(d:Nat)(a0:A)(l:G d a0=some rr)
 (b:∀d a,G (d+1) a=some rr->∀f:St->Prop,vA k live m i G rr d f->GW P r N0 Q (iu k f (i a) (wk P w0 g))) (p:∀a,G 0 a=none:=by intros;rfl)
 (q:N0<=m:=by exact Zi rfl) (e:nk live m (wk P w0 g)=some (i a0,eE g):=by kernel_rfl):GW P r N0 Q w0:=
 auv j k g live m i G d a0 l p b q e
def wf2(q:P.follows .mixedOrders=true)(k:Nat)(j:I (I (Nat×Ob P)))(live:I Nat)(m:Nat)(l:A->B->St)(G:Nat->A->B->U R)(d:Nat)(a0:A)(p:B)(u:G d a0 p=some rr)
 (g:∀d a b,G (d+1) a b=some rr->∀f:St->Prop,vA k live m (λ(i:A×B)=>l i.1 i.2) (λd i=>G d i.1 i.2) rr d f->GW P r N0 Q (iu k f (l a b) (wk P w0 j))) (v:∀a b,G 0 a b=none:=by intros;rfl)
 (w:N0<=m:=by exact Zi rfl) (e:nk live m (wk P w0 j)=some (l a0 p,eE j):=by kernel_rfl):GW P r N0 Q w0:=
 auv q k j live m (λ(i:A×B)=>l i.1 i.2) (λd i=>G d i.1 i.2) d (a0,p) u (λi=>v i.1 i.2) (λd i=>g d i.1 i.2) w e
def wbf(g:P.follows .mixedOrders=true){ι:Type}{live:I Nat}{m k:Nat}{b:ι->St}{G:Nat->ι->U R}{d:Nat}{f:St->Prop}(i:vA k live m b G rr d f)(j:ι)(a:I (I (Nat×Ob P)))(l:G d j=some rr)(p:kJ k (wK w0)=[f]:=by kernel_rfl)(e:sa k live m (wk P w0 a)=some (b j,eE a):=by kernel_rfl):GW P r N0 Q w0:=ary g i j a l p e
def A2(g:Nat)(t:U Nat):I Oper->Nat->I Nat
 |[],_=>[]
 |o::l,j=>match o.guard with
  |some (a,_)=>bif a==g then(3*j)::A2 g t l (j+1)else A2 g t l (j+1)
  |none=>match o.op,t with
   | .pick (.tmp c) _ _,some b=>bif c==b then(3*j+1)::A2 g t l (j+1)else A2 g t l (j+1)
   |_,_=>A2 g t l (j+1)
def apF(l:I Oper)(g:Nat):U Nat:=match l[g]? with
 |some o=>o.dst
 |none=>none
def M3:WO->I Oper
 |some (.at (.region _ ops _) _ _,_)=>ops.toList
 |_=>[]
noncomputable def KV(ops:I Oper)(a b:I (Nat×Ob P)):I (Nat×Ob P):=aaL (a.foldr (λx t=>os (A2 x.1 (apF ops x.1) ops 0) x.2 t) b)
def xw(d:P.follows .mixedOrders=true)(Δ:I (Nat×AV))(h':I ar)(e:∃a b:I (Nat×Ob P),KJ P (Δ.map (·.1)) (jZ (KV (M3 (wk P w0 [])) a b)) (wk P w0 [])=some (Δ,h',kC (KV (M3 (wk P w0 [])) a b)))(k:GW P r N0 Q (xz Δ h' (wk P w0 [])))(e0:uL (wk P w0 [])=some []:=by kernel_rfl):GW P r N0 Q w0:=
 aly d Δ h' (let ⟨_,_,h⟩:=e;⟨_,h⟩) k e0
def wj0(d:P.follows .mixedOrders=true)(rr:R)(k:Nat)(a:I (I (Nat×Ob P)))(live:I Nat)(m:Nat)(b:St)(G:U R)
 (g:∀f:St->Prop,wV k live m (λ(_:Unit)=>b) (λ_=>G=some rr) f->GW P r N0 Q (vC k f (wk P w0 a)))
 (rest:G=some rr->GW P r N0 Q (vL b (wk P w0 a))) (i:N0<=m:=by exact Zi rfl) (e:sR (wk P w0 a)=some (eE a):=by kernel_rfl):GW P r N0 Q w0:=
 Fp d k a live m (λ(_:Unit)=>b) (λ_=>G=some rr) g (λ_=>rest) i e
def Ix(g:P.follows .mixedOrders=true)(rr:R)(k:Nat)(b:I (I (Nat×Ob P)))(live:I Nat)(m:Nat)(d:A->St)(G:A->U R)
 (i:∀f:St->Prop,wV k live m d (λa=>G a=some rr) f->GW P r N0 Q (vC k f (wk P w0 b)))
 (rest:∀a,G a=some rr->GW P r N0 Q (vL (d a) (wk P w0 b))) (j:N0<=m:=by exact Zi rfl) (e:sR (wk P w0 b)=some (eE b):=by kernel_rfl):GW P r N0 Q w0:=
 Fp g k b live m d (λa=>G a=some rr) i rest j e
def wj2(j:P.follows .mixedOrders=true)(rr:R)(k:Nat)(d:I (I (Nat×Ob P)))(live:I Nat)(m:Nat)(g:A->B->St)(G:A->B->U R)
 (l:∀f:St->Prop,wV k live m (λ(i:A×B)=>g i.1 i.2) (λi=>G i.1 i.2=some rr) f->GW P r N0 Q (vC k f (wk P w0 d)))
 (rest:∀a b,G a b=some rr->GW P r N0 Q (vL (g a b) (wk P w0 d))) (p:N0<=m:=by exact Zi rfl) (e:sR (wk P w0 d)=some (eE d):=by kernel_rfl):GW P r N0 Q w0:=
 Fp j k d live m (λ(i:A×B)=>g i.1 i.2) (λi=>G i.1 i.2=some rr) l (λi=>rest i.1 i.2) p e
def tr(i j n:Nat):Nat:=bif n==i then j else bif n==j then i else n
def aut(i j n:Nat):tr i j (tr i j n)=n:=by
 unfold tr;cases b:n==i with
 |true=>
  rw[Ua]at b;subst b;simp only[Tq];cases a:j==n with
  |true=>rw[Ua]at a;subst a;rfl
  |false=>rw[Z7];rfl
 |false=>
  simp only[T6];cases a:n==j with
  |true=>rw[Ua]at a;subst a;simp only[Tq];rw[Z7];rfl
  |false=>simp only[T6];rw[b,a];rfl
def aus{i j n k:Nat}(hi:i<k)(a:j<k)(b:n<k):tr i j n<k:=by
 unfold tr;cases n==i with
 |true=>exact a
 |false=>cases n==j with
  |true=>exact hi
  |false=>exact b
def VS(i j:Nat)(h:I ar):I ar:=match h[i]?,h[j]? with
 |some a,some b=>((h.set i b).set j a).map (ar.aZ (tr i j))
 |_,_=>h
def swS(i j:Nat)(s:St):St:=⟨s.n,s.t.map (λp=>(p.1,p.2.aZ (tr i j))),VS i j s.h⟩
def adv(f:AV->AV)(a:f .dead= .dead):∀(t:I (Nat×AV))(i:Nat),bP (t.map λp=>(p.1,f p.2)) i=f (bP t i)
 |[],i=>by rw[ah];show AV.dead=f .dead;rw[a]
 |(k,x)::t,i=>by
  rw[ZS,mE,mE,adv f a t i];by_cases h:i=k;{rw[ab h,ab h]};{rw[ae h,ae h]}
def aav{i j:Nat}{s:St}(hi:i<s.h.length)(b:j<s.h.length)(p:N0<=i)(q:N0<=j):jU N0 s (swS i j s):=by
 have g:s.h[i]?=some s.h[i]:=Ze hi;have l:s.h[j]?=some s.h[j]:=Ze b;have m:(swS i j s).h=((s.h.set i s.h[j]).set j s.h[i]).map (ar.aZ (tr i j)):=by
  show VS i j s.h=_;unfold VS;rw[g,l]
 refine jU.aZ (tr i j) (tr i j) rfl (by rw[m];simp) (λn a=>aus hi b a) (λn a=>aus hi b a) (λn _=>aut i j n) (λn _=>aut i j n) (λn a=> ?_) (λn _=>.inl ?_) λn a=> ?_
 ·unfold tr;rw[show(n==i)=false from Tv.2 (by omega),show(n==j)=false from Tv.2 (by omega)];rfl
 ·exact adv (λx=>x.aZ (tr i j)) rfl s.t n
 ·rw[m,Zs];refine congrArg (Option.map _) ?_;unfold tr;cases d:n==i with
  |true=>
   rw[Ua]at d;subst d;simp only[Tq];rw[ZC (by rw[ZJ];exact b),g]
  |false=>
   simp only[T6];have u:=Tv.1 d;cases e:n==j with
   |true=>
    rw[Ua]at e;subst e;simp only[Tq];rw[ZD (by omega),ZC hi,l]
   |false=>
    have v:=Tv.1 e;simp only[T6];rw[ZD (by omega),ZD (by omega)]
def acM{c:Code}{s s':St}(h:jU N0 s s')(k:bR P r N0 c Q s'):bR P r N0 c Q s:=⟨λG w a n b d=>by
 obtain⟨e,g,i,j⟩:=h G w a d b;exact wpIn_mono (k.run e w a n j i) λ_ _ _ l=>l.trans g⟩
end
def iy:DL cD 1:=⟨λ_=>ft,λ_=>sS,λ_ _=>atg⟩
def lY:DL bH 1:=⟨λ_=>fG,λ_=>GY,λ_ _=>aqY⟩
def vQ:DL dMonos 2:=⟨λ_=>jx,λ_=>aeE,λ_ _=>asR⟩
def uY:DL aS 2:=⟨λ_=>m6,λ_=>aeu,λ_ _=>arW⟩
def tq:DL eC 2:=⟨λ_=>jC,λ_=>TR,λ_ _=>asx⟩
def aur:DL pz 5:=⟨λ_=>apD,λ_=>aoM,λ_ _=>ami⟩
def FB:DL ox 3:=⟨λ_=>pZ,λ_=>al2,λ_ _=>amZ⟩
def mZ:DL fz 2:=⟨λ_=>fW,λ_=>ant,λ_ _=>akW⟩
def nJ:DL gZ 3:=⟨λ_=>gv,λ_=>apC,λ_ _=>akv⟩
def sy:DL bm 8:=⟨λ_=>oG,λ_=>Wa,λ_ _=>ana⟩
def auq:DL qi 1:=⟨λ_=>To,λ_=>akO,λ_ _=>ahX⟩
def yN:DL lB 7:=⟨λ_=>k9,λ_=>apf,λ_ _=>aoB⟩
def sc:DL fc 4:=⟨λ_=>gq,λ_=>amO,λ_ _=>ase⟩
def oT:DL hO 13:=⟨λ_=>jm,λ_=>asH,λ_ _=>aoe⟩
def uj:DL iC 22:=⟨λ_=>jM,λ_=>Sy,λ_ _=>ahG⟩
abbrev KF(f:FuncId)(args:I AV)(R:AV):Prop:=AFn prog f args (·=R)
abbrev KH(f:FuncId)(args:I AV)(h:I ar)(R:AV)(H:I ar):Prop:=dt prog f args h λa b=>a=R/\b=H
def KO{α:Type}(f:FuncId)(args:I AV)(a:α->AV)(o:U α):Prop:=∀r:α,o=some r->KF f args (a r)
def KP{α:Type}(f:FuncId)(args:I AV)(h:I ar)(a:α->AV)(b:α->I ar)(o:U α):Prop:=∀r:α,o=some r->KH f args h (a r) (b r)
def cK{α:Type}{f:FuncId}{args:I AV}{a:α->AV}{o:U α}{r:α}(k:KO f args a o)(h:o=some r):Ob prog:=cL (k r h)
def IE{α:Type}(o:U α)(G:α->Prop):Prop:=∀v,o=some v->G v
section
variable {α β:Type} {x:U α} {G:α->Prop}
def au{x:U β}{f:β->U α}(k:∀a,x=some a->IE (f a) G):IE (Option.bind x f) G:=λv h=>
 have ⟨a,b,d⟩:=bz h
 k a b v d
def cF{c:Bool}(k:c=true->IE x G):IE (bif c then x else none) G:=λv h=>
 have ⟨a,b⟩:=xO h
 k a v b
def ax{c:Bool}{a b:U α}(t:c=true->IE a G)(f:c=false->IE b G):IE (bif c then a else b) G:=λv h=>bc h (λi j=>t i v j) λi j=>f i v j
def gE{α β γ:Type}{Φ:α->β->γ->Prop}{x:γ}(a:α)(b:β)(k:Φ a b x:=by kernel_rfl):IE (some x) λy=>∃a b,Φ a b y:=λv h=>sj h▸⟨a,b,k⟩
def cG{α β γ:Type}{Φ:α->I β->γ->Prop}{o:U γ}(x:β)(k:IE o λy=>∃a b,Φ a (x::b) y):IE o λy=>∃a b,Φ a b y:=λv h=>
 have ⟨a,b,c⟩:=k v h
 ⟨a,x::b,c⟩
def cm{α β γ:Type}{Φ:I α->β->γ->Prop}{o:U γ}(x:α)(k:IE o λy=>∃a b,Φ (x::a) b y):IE o λy=>∃a b,Φ a b y:=λv h=>
 have ⟨a,b,c⟩:=k v h
 ⟨x::a,b,c⟩
end
section
variable {α β:Type} {o:U α} {x y:α} {r:U Nat} {N0:Nat} {Q:α->Exit->St->Prop} {w0:WO}
def V(a:I (I (Nat×Ob prog)))(k:IE o λq=>q=y->GW prog r N0 (Q q) (wk prog w0 a))(e:uL (wk prog w0 a)=some (eE a):=by kernel_rfl):IE o λq=>q=y->GW prog r N0 (Q q) w0:=λv h q=>gp bC a (k v h q) e
def gR{b:α->AV}{fn:Func}(a:I (I (Nat×Ob prog)))(e:vi prog fn.results.toList (wk prog w0 a)=some (b x,eE a):=by kernel_rfl):IE (some x) λq=>q=y->GW prog r N0 (l8 prog fn (b q)) w0:=λv h _=>sj h▸wr bC a e
def gH{b:α->AV}{d:α->I ar}{fn:Func}{m:Nat}(a:I (I (Nat×Ob prog)))(e:KC prog fn.results.toList m (wk prog w0 a)=some ((b x,d x),eE a):=by kernel_rfl):IE (some x) λq=>q=y->GW prog r N0 (xq prog fn m (b q) (d q)) w0:=λv h _=>sj h▸n7 bC a e
def gG{x:U β}{f:β->U α}(Δ:β->I (Nat×AV))(h':β->I ar)(e:IE x λv=>∃b d:I (Nat×Ob prog),KJ prog ((Δ v).map (·.1)) (jZ (KV (M3 (wk prog w0 [])) b d)) (wk prog w0 [])=some (Δ v,h' v,kC (KV (M3 (wk prog w0 [])) b d)))(k:∀v,IE (f v) λq=>q=y->GW prog r N0 (Q q) (xz (Δ v) (h' v) (wk prog w0 [])))(e0:uL (wk prog w0 [])=some []:=by kernel_rfl):IE (Option.bind x f) λq=>q=y->GW prog r N0 (Q q) w0:=λv h q=>
 have ⟨a,g,i⟩:=bz h
 xw bC (Δ a) (h' a) (e a g) (k a v i q) e0
def aY{c:Bool}{b:U α}{a:α->AV}{fn:Func}(f:c=false->IE b λq=>q=y->GW prog r N0 (l8 prog fn (a q)) w0)(e:∀h:c=true,vi prog fn.results.toList (wk prog w0 [[(0,bT h)],[]])=some (a x,eE (P:=prog) [[(0,bT h)],[]]):=by intro h;kernel_rfl):IE (bif c then some x else b) λq=>q=y->GW prog r N0 (l8 prog fn (a q)) w0:=ax (λh=>gR [[(0,bT h)],[]] (e h)) (f)
def nb{c:Bool}{b:U α}{a:α->AV}{fn:Func}(f:c=false->IE b λq=>q=y->GW prog r N0 (l8 prog fn (a q)) w0)(e:∀h:c=true,vi prog fn.results.toList (wk prog w0 [[(0,bF (cx h))],[]])=some (a x,eE (P:=prog) [[(0,bF (cx h))],[]]):=by intro h;kernel_rfl):IE (bif c then some x else b) λq=>q=y->GW prog r N0 (l8 prog fn (a q)) w0:=ax (λh=>gR [[(0,bF (cx h))],[]] (e h)) (f)
def jz{c:Bool}{b:U α}{a:α->AV}{fn:Func}(f:c=true->IE b λq=>q=y->GW prog r N0 (l8 prog fn (a q)) w0)(e:∀h:c=false,vi prog fn.results.toList (wk prog w0 [[(0,bF h)],[]])=some (a x,eE (P:=prog) [[(0,bF h)],[]]):=by intro h;kernel_rfl):IE (bif c then b else some x) λq=>q=y->GW prog r N0 (l8 prog fn (a q)) w0:=ax (f) (λh=>gR [[(0,bF h)],[]] (e h))
def fi{c:Bool}{b:U α}{a:α->AV}{fn:Func}(f:c=true->IE b λq=>q=y->GW prog r N0 (l8 prog fn (a q)) w0)(e:∀h:c=false,vi prog fn.results.toList (wk prog w0 [[(0,bT (dq h))],[]])=some (a x,eE (P:=prog) [[(0,bT (dq h))],[]]):=by intro h;kernel_rfl):IE (bif c then b else some x) λq=>q=y->GW prog r N0 (l8 prog fn (a q)) w0:=ax (f) (λh=>gR [[(0,bT (dq h))],[]] (e h))
def eY{c:Bool}{b:U α}{a:α->AV}{fn:Func}(f:∀h:c=false,IE b λq=>q=y->GW prog r N0 (l8 prog fn (a q)) (wk prog w0 [[(0,bF h)],[]]))(e:∀h:c=true,vi prog fn.results.toList (wk prog w0 [[(0,bT h)],[]])=some (a x,eE (P:=prog) [[(0,bT h)],[]]):=by intro h;kernel_rfl)(d:∀h:c=false,uL (wk prog w0 [[(0,bF h)],[]])=some (eE (P:=prog) [[(0,bF h)],[]]):=by intro h;kernel_rfl):IE (bif c then some x else b) λq=>q=y->GW prog r N0 (l8 prog fn (a q)) w0:=ax (λh=>gR [[(0,bT h)],[]] (e h)) (λh=>V [[(0,bF h)],[]] (f h) (d h))
def t0{c:Bool}(h:c=true):Nat×Ob prog:=(0,bT h)
def f0{c:Bool}(h:c=false):Nat×Ob prog:=(0,bF h)
def li{a:WO}(f:∀q,GW prog r N0 (Q q) a->GW prog r N0 (Q q) w0)(k:IE o λq=>q=y->GW prog r N0 (Q q) a):IE o λq=>q=y->GW prog r N0 (Q q) w0:=λv h q=>f v (k v h q)
def F7{b:WO}{p:Prop}(f:∀q,(p->GW prog r N0 (Q q) b)->GW prog r N0 (Q q) w0)(k:p->IE o λq=>q=y->GW prog r N0 (Q q) b):IE o λq=>q=y->GW prog r N0 (Q q) w0:=λv h q=>f v λa=>k a v h q
def gT{β:Type}{f:I β->I (I D)}{z:Nat}(F:DL f z)(k:Nat)(l:I β)(h:l.length<=maxLen->IE o λq=>q=y->GW prog r N0 (Q q) w0)(b:(bP (wS w0).t k).gX=some (f l):=by kernel_rfl):IE o λq=>q=y->GW prog r N0 (Q q) w0:=λv d q=>Ds F k l (λa=>h a v d q) b
def gB{β:Type}{f:I β->I (I D)}{z:Nat}(F:DL f z)(b i:Nat)(l:I β)(h:l.length<=maxLen->IE o λq=>q=y->GW prog r N0 (Q q) w0)(d:(((wS w0).h[b]?).bind λB=>match B with| .cells cs=>(cs[i]?).bind AV.gX|_=>none)=some (f l):=by kernel_rfl):IE o λq=>q=y->GW prog r N0 (Q q) w0:=λv e q=>afO F b i l (λa=>h a v e q) d
def fw{f:FuncId}{fn:Func}{args:I AV}{a:α->AV}(b:prog.funcs[f]?=some fn)(d:∀{y},IE o λq=>q=y->GW prog none 0 (l8 prog fn (a q)) (C1 fn args []))(e:fn.body.isSome=true:=by kernel_rfl)(g:(fn.name== "runtime.NumGoroutine")=false:=by kernel_rfl):KO f args a o:=λr h=>IB b (d r h rfl) e g
def fh{f:FuncId}{fn:Func}{args:I AV}{h:I ar}{a:α->AV}{b:α->I ar}(m:Nat)(d:prog.funcs[f]?=some fn)(e:∀{y},IE o λq=>q=y->GW prog none h.length (xq prog fn m (a q) (b q)) (C1 fn args h))(g:fn.body.isSome=true:=by kernel_rfl)(i:(fn.name== "runtime.NumGoroutine")=false:=by kernel_rfl)(j:h.length<=m:=by exact Zi rfl):KP f args h a b o:=λr q=>Iq m d (e r q rfl) g i j
end
section
variable {α A B C D' R:Type} {rr:R} {r:U Nat} {N0:Nat} {Q:R->Exit->St->Prop} {w0:WO}
def dN(k:Nat)(a:I (I (Nat×Ob prog)))(live:I Nat)(m:Nat){L:I α}(b:Nat->St){G:I α->Nat->U R}
 (g:∀n,L.drop n=[]->∀f:St->Prop,IE (G [] n) λq=>q=rr->GW prog r N0 (Q q) (iu k f (b n) (wk prog w0 a)))
 (d:∀n x l,L.drop n=x::l->∀f:St->Prop,qx k live m L (λn(_:Unit)=>b n) (λl n _=>G l n) rr n x l () f->IE (G (x::l) n) λq=>q=rr->GW prog r N0 (Q q) (iu k f (b n) (wk prog w0 a)))
 (p:N0<=m:=by exact Zi rfl) (e:nk live m (wk prog w0 a)=some (b 0,eE a):=by kernel_rfl):IE (G L 0) λq=>q=rr->GW prog r N0 (Q q) w0:=λv h q=>
 auu bC k a live m L b G (q▸h) (λn i j f=>q▸g n i f rr j rfl) (λn x l i j f u=>q▸d n x l i f u rr j rfl) p e
def fa(k:Nat)(b:I (I (Nat×Ob prog)))(live:I Nat)(m:Nat){L:I α}(d:Nat->A->St){G:I α->Nat->A->U R}{a0:A}
 (i:∀n a,L.drop n=[]->∀f:St->Prop,IE (G [] n a) λq=>q=rr->GW prog r N0 (Q q) (iu k f (d n a) (wk prog w0 b)))
 (g:∀n x l a,L.drop n=x::l->∀f:St->Prop,qx k live m L d G rr n x l a f->IE (G (x::l) n a) λq=>q=rr->GW prog r N0 (Q q) (iu k f (d n a) (wk prog w0 b)))
 (w:N0<=m:=by exact Zi rfl) (e:nk live m (wk prog w0 b)=some (d 0 a0,eE b):=by kernel_rfl):IE (G L 0 a0) λq=>q=rr->GW prog r N0 (Q q) w0:=λv h q=>
 R9 bC k b live m L d G a0 (q▸h) (λn j p u f=>q▸i n j p f rr u rfl) (λn x l j p u f z=>q▸g n x l j p f z rr u rfl) w e
def CQ(k:Nat)(d:I (I (Nat×Ob prog)))(live:I Nat)(m:Nat){L:I α}(g:Nat->A->B->St){G:I α->Nat->A->B->U R}{a0:A}{p:B}
 (u:∀n a b,L.drop n=[]->∀f:St->Prop,IE (G [] n a b) λq=>q=rr->GW prog r N0 (Q q) (iu k f (g n a b) (wk prog w0 d)))
 (j:∀n x l a b,L.drop n=x::l->∀f:St->Prop,qx k live m L (λn(i:A×B)=>g n i.1 i.2) (λl n i=>G l n i.1 i.2) rr n x l (a,b) f->IE (G (x::l) n a b) λq=>q=rr->GW prog r N0 (Q q) (iu k f (g n a b) (wk prog w0 d)))
 (J:N0<=m:=by exact Zi rfl) (e:nk live m (wk prog w0 d)=some (g 0 a0 p,eE d):=by kernel_rfl):IE (G L 0 a0 p) λq=>q=rr->GW prog r N0 (Q q) w0:=λv h q=>
 wl2 bC k d live m L g G a0 p (q▸h) (λn w z E F f=>q▸u n w z E f rr F rfl) (λn x l w z E F f M=>q▸j n x l w z E f M rr F rfl) J e
def gl3(k:Nat)(d:I (I (Nat×Ob prog)))(live:I Nat)(m:Nat){L:I α}(g:Nat->A->B->C->St){G:I α->Nat->A->B->C->U R}{a0:A}{p:B}{u:C}
 (w:∀n a b c,L.drop n=[]->∀f:St->Prop,IE (G [] n a b c) λq=>q=rr->GW prog r N0 (Q q) (iu k f (g n a b c) (wk prog w0 d)))
 (j:∀n x l a b c,L.drop n=x::l->∀f:St->Prop,qx k live m L (λn(i:A×B×C)=>g n i.1 i.2.1 i.2.2) (λl n i=>G l n i.1 i.2.1 i.2.2) rr n x l (a,b,c) f->IE (G (x::l) n a b c) λq=>q=rr->GW prog r N0 (Q q) (iu k f (g n a b c) (wk prog w0 d)))
 (N:N0<=m:=by exact Zi rfl) (e:nk live m (wk prog w0 d)=some (g 0 a0 p u,eE d):=by kernel_rfl):IE (G L 0 a0 p u) λq=>q=rr->GW prog r N0 (Q q) w0:=λv h q=>
 wl3 bC k d live m L g G a0 p u (q▸h) (λn z E F J M f=>q▸w n z E F J f rr M rfl) (λn x l z E F J M f S=>q▸j n x l z E F J f S rr M rfl) N e
def gb{ι:Type}{live:I Nat}{m k:Nat}{L:I α}{b:Nat->ι->St}{G:I α->Nat->ι->U R}{n:Nat}{x:α}{l:I α}{i:ι}{f:St->Prop}(d:qx k live m L b G rr n x l i f)(j:ι)(a:I (I (Nat×Ob prog)))(g:L.drop n=x::l)(p:kJ k (wK w0)=[f]:=by kernel_rfl)(e:sa k live m (wk prog w0 a)=some (b (n+1) j,eE a):=by kernel_rfl):IE (G l (n+1) j) λq=>q=rr->GW prog r N0 (Q q) w0:=λv h q=>wb bC d j a g (q▸h) p e
def Mj(k:Nat)(g:I (I (Nat×Ob prog)))(live:I Nat)(m:Nat)(i:A->St)(G:Nat->A->U R){d:Nat}{a0:A}
 (b:∀d a,∀f:St->Prop,vA k live m i G rr d f->IE (G (d+1) a) λq=>q=rr->GW prog r N0 (Q q) (iu k f (i a) (wk prog w0 g))) (j:∀a,G 0 a=none:=by intros;rfl)
 (l:N0<=m:=by exact Zi rfl) (e:nk live m (wk prog w0 g)=some (i a0,eE g):=by kernel_rfl):IE (G d a0) λq=>q=rr->GW prog r N0 (Q q) w0:=λv h q=>wf1 bC k g live m i G d a0 (q▸h) (λd p u f w=>q▸b d p f w rr u rfl) j l e
def Nf(k:Nat)(j:I (I (Nat×Ob prog)))(live:I Nat)(m:Nat)(l:A->B->St)(G:Nat->A->B->U R){d:Nat}{a0:A}{p:B}
 (g:∀d a b,∀f:St->Prop,vA k live m (λ(i:A×B)=>l i.1 i.2) (λd i=>G d i.1 i.2) rr d f->IE (G (d+1) a b) λq=>q=rr->GW prog r N0 (Q q) (iu k f (l a b) (wk prog w0 j))) (u:∀a b,G 0 a b=none:=by intros;rfl)
 (w:N0<=m:=by exact Zi rfl) (e:nk live m (wk prog w0 j)=some (l a0 p,eE j):=by kernel_rfl):IE (G d a0 p) λq=>q=rr->GW prog r N0 (Q q) w0:=λv h q=>wf2 bC k j live m l G d a0 p (q▸h) (λd z E F f J=>q▸g d z E f J rr F rfl) u w e
def uK{ι:Type}{live:I Nat}{m k:Nat}{b:ι->St}{G:Nat->ι->U R}{d:Nat}{f:St->Prop}(g:vA k live m b G rr d f)(j:ι)(a:I (I (Nat×Ob prog)))(i:kJ k (wK w0)=[f]:=by kernel_rfl)(e:sa k live m (wk prog w0 a)=some (b j,eE a):=by kernel_rfl):IE (G d j) λq=>q=rr->GW prog r N0 (Q q) w0:=λv h q=>wbf bC g j a (q▸h) i e
def kW{o:U R}(k:Nat)(b:I (I (Nat×Ob prog)))(live:I Nat)(m:Nat)(d:A->St)(G:A->U R)
 (g:∀f:St->Prop,wV k live m d (λa=>G a=some rr) f->IE o λq=>q=rr->GW prog r N0 (Q q) (vC k f (wk prog w0 b)))
 (rest:∀a,IE (G a) λq=>q=rr->GW prog r N0 (Q q) (vL (d a) (wk prog w0 b))) (i:N0<=m:=by exact Zi rfl) (e:sR (wk prog w0 b)=some (eE b):=by kernel_rfl):IE o λq=>q=rr->GW prog r N0 (Q q) w0:=λv h q=>Ix bC rr k b live m d G (λf a=>g f a v h q) (λj l=>q▸rest j rr l rfl) i e
def Sj{o:U R}(k:Nat)(d:I (I (Nat×Ob prog)))(live:I Nat)(m:Nat)(g:A->B->St)(G:A->B->U R)
 (j:∀f:St->Prop,wV k live m (λ(i:A×B)=>g i.1 i.2) (λi=>G i.1 i.2=some rr) f->IE o λq=>q=rr->GW prog r N0 (Q q) (vC k f (wk prog w0 d)))
 (rest:∀a b,IE (G a b) λq=>q=rr->GW prog r N0 (Q q) (vL (g a b) (wk prog w0 d))) (l:N0<=m:=by exact Zi rfl) (e:sR (wk prog w0 d)=some (eE d):=by kernel_rfl):IE o λq=>q=rr->GW prog r N0 (Q q) w0:=λv h q=>wj2 bC rr k d live m g G (λf a=>j f a v h q) (λp u w=>q▸rest p u rr w rfl) l e
def gm{ι:Type}{live:I Nat}{m k:Nat}{b:ι->St}{G:ι->U R}{f:St->Prop}(d:wV k live m b (λi=>G i=some rr) f)(i:ι)(a:I (I (Nat×Ob prog)))(g:kJ k (wK w0)=[f]:=by kernel_rfl)(e:sa k live m (wk prog w0 a)=some (b i,eE a):=by kernel_rfl):IE (G i) λq=>q=rr->GW prog r N0 (Q q) w0:=λv h q=>mu bC d i a (q▸h) g e
structure BX{α ι R:Type}(k:Nat)(live:List Nat)(m:Nat)(ks:List Nat)(kn:List (Nat×Nat))(L:List α)(st:Nat->ι->St)(G:List α->Nat->ι->Option R)(rr:R)(n:Nat)(x:α)(l:List α)(i:ι)(f:St->Prop):Prop where
 h:OO k live m ks kn (λz:Nat×List α×ι=>st z.1 z.2.2) (λz=>L.drop z.1=z.2.1/\G z.2.1 z.1 z.2.2=some rr) (λz=>z.2.1.length) (n,x::l,i) f
structure Vd{ι R:Type}(k:Nat)(live:List Nat)(m:Nat)(ks:List Nat)(kn:List (Nat×Nat))(st:ι->St)(G:Nat->ι->Option R)(rr:R)(d:Nat)(f:St->Prop):Prop where
 h:∀i,OO k live m ks kn (λz:Nat×ι=>st z.2) (λz=>G z.1 z.2=some rr) (λz=>z.1) (d+1,i) f
def gx1(k:Nat)(b:I (I (Nat×Ob prog)))(live:I Nat)(m:Nat)(g:I Nat)(kn:I (Nat×Nat)){L:I α}(d:Nat->A->St){G:I α->Nat->A->U R}{a0:A}
 (nil:∀n a,L.drop n=[]->∀f:St->Prop,IE (G [] n a) λq=>q=rr->GW prog r N0 (Q q) (iu k f (d n a) (wk prog w0 b)))
 (cons:∀n x l a,L.drop n=x::l->∀f:St->Prop,BX k live m g kn L d G rr n x l a f->IE (G (x::l) n a) λq=>q=rr->GW prog r N0 (Q q) (iu k f (d n a) (wk prog w0 b)))
 (u:N0<=m:=by exact Zi rfl) (gC:I (VE m):=[]) (e0:tk m (wk prog w0 b)=gC.map VE.x:=by kernel_rfl) (e:Bk live m g kn (wk prog w0 b)=some (d 0 a0,eE b):=by kernel_rfl):IE (G L 0 a0) λq=>q=rr->GW prog r N0 (Q q) w0:=λv h q=>
 Sp bC k b live m g kn (λz:Nat×I α×A=>d z.1 z.2.2) (λz=>L.drop z.1=z.2.1/\G z.2.1 z.1 z.2.2=some rr) (λz=>z.2.1.length) (0,L,a0) ⟨rfl,q▸h⟩ (λz w f E=>by
  obtain⟨n,l,i⟩:=z;obtain⟨j,p⟩:=w;rw[q];cases l with
  |nil=>exact nil n i j f rr p rfl
  |cons x l=>exact cons n x l i j f ⟨E⟩ rr p rfl) u gC e0 e
def gx0(k:Nat)(a:I (I (Nat×Ob prog)))(live:I Nat)(m:Nat)(g:I Nat)(kn:I (Nat×Nat)){L:I α}(b:Nat->St){G:I α->Nat->U R}
 (j:∀n,L.drop n=[]->∀f:St->Prop,IE (G [] n) λq=>q=rr->GW prog r N0 (Q q) (iu k f (b n) (wk prog w0 a)))
 (d:∀n x l,L.drop n=x::l->∀f:St->Prop,BX k live m g kn L (λn(_:Unit)=>b n) (λl n _=>G l n) rr n x l () f->IE (G (x::l) n) λq=>q=rr->GW prog r N0 (Q q) (iu k f (b n) (wk prog w0 a)))
 (p:N0<=m:=by exact Zi rfl) (gC:I (VE m):=[]) (e0:tk m (wk prog w0 a)=gC.map VE.x:=by kernel_rfl) (e:Bk live m g kn (wk prog w0 a)=some (b 0,eE a):=by kernel_rfl):IE (G L 0) λq=>q=rr->GW prog r N0 (Q q) w0:=
 gx1 k a live m g kn (λn(_:Unit)=>b n) (G:=(λl n _=>G l n)) (a0:=()) (λn i=>j n) (λn x l i=>d n x l) p gC e0 e
def gbX{ι:Type}{live:I Nat}{m k:Nat}{b:I Nat}{kn:I (Nat×Nat)}{L:I α}{d:Nat->ι->St}{G:I α->Nat->ι->U R}{n:Nat}{x:α}{l:I α}{i:ι}{f:St->Prop}(g:BX k live m b kn L d G rr n x l i f)(j:ι)(a:I (I (Nat×Ob prog)))(p:L.drop n=x::l)(u:kJ k (wK w0)=[f]:=by kernel_rfl)(gC:I (VE m):=[])(e0:tk m (wk prog w0 a)=gC.map VE.x:=by kernel_rfl)(e:Ar k live m b kn (wk prog w0 a)=some (d (n+1) j,eE a):=by kernel_rfl):IE (G l (n+1) j) λq=>q=rr->GW prog r N0 (Q q) w0:=λv h q=>
 Z5 bC g.h (n+1,l,j) a ⟨kM p,q▸h⟩ (Z0 _) u gC e0 e
def apm(k:Nat)(g:I (I (Nat×Ob prog)))(live:I Nat)(m:Nat)(p:I Nat)(kn:I (Nat×Nat))(l:A->B->St)(G:Nat->A->B->U R){d:Nat}{a0:A}{u:B}
 (succ:∀d a b,∀f:St->Prop,Vd k live m p kn (λ(i:A×B)=>l i.1 i.2) (λd i=>G d i.1 i.2) rr d f->IE (G (d+1) a b) λq=>q=rr->GW prog r N0 (Q q) (iu k f (l a b) (wk prog w0 g))) (E:∀a b,G 0 a b=none:=by intros;rfl)
 (F:N0<=m:=by exact Zi rfl) (gC:I (VE m):=[]) (e0:tk m (wk prog w0 g)=gC.map VE.x:=by kernel_rfl) (e:Bk live m p kn (wk prog w0 g)=some (l a0 u,eE g):=by kernel_rfl):IE (G d a0 u) λq=>q=rr->GW prog r N0 (Q q) w0:=λv h q=>
 Sp bC k g live m p kn (λz:Nat×(A×B)=>((λ(i:A×B)=>l i.1 i.2)) z.2) (λz=>((λd i=>G d i.1 i.2)) z.1 z.2=some rr) (λz=>z.1) (d,(a0,u)) (q▸h) (λz w f J=>by
  obtain⟨d,i⟩:=z;rw[q];cases d with
  |zero=>exact absurd ((E i.1 i.2).symm.trans w) (by simp)
  |succ d=>exact succ d i.1 i.2 f ⟨λj=>⟨λL M N S T W=>J.h L M N S T W⟩⟩ rr w rfl) F gC e0 e
def arc(k:Nat)(g:I (I (Nat×Ob prog)))(live:I Nat)(m:Nat)(p:I Nat)(kn:I (Nat×Nat))(l:A->B->C->St)(G:Nat->A->B->C->U R){d:Nat}{a0:A}{u:B}{w:C}
 (succ:∀d a b c,∀f:St->Prop,Vd k live m p kn (λ(i:A×B×C)=>l i.1 i.2.1 i.2.2) (λd i=>G d i.1 i.2.1 i.2.2) rr d f->IE (G (d+1) a b c) λq=>q=rr->GW prog r N0 (Q q) (iu k f (l a b c) (wk prog w0 g))) (F:∀a b c,G 0 a b c=none:=by intros;rfl)
 (J:N0<=m:=by exact Zi rfl) (gC:I (VE m):=[]) (e0:tk m (wk prog w0 g)=gC.map VE.x:=by kernel_rfl) (e:Bk live m p kn (wk prog w0 g)=some (l a0 u w,eE g):=by kernel_rfl):IE (G d a0 u w) λq=>q=rr->GW prog r N0 (Q q) w0:=λv h q=>
 Sp bC k g live m p kn (λz:Nat×(A×B×C)=>((λ(i:A×B×C)=>l i.1 i.2.1 i.2.2)) z.2) (λz=>((λd i=>G d i.1 i.2.1 i.2.2)) z.1 z.2=some rr) (λz=>z.1) (d,(a0,u,w)) (q▸h) (λz E f L=>by
  obtain⟨d,i⟩:=z;rw[q];cases d with
  |zero=>exact absurd ((F i.1 i.2.1 i.2.2).symm.trans E) (by simp)
  |succ d=>exact succ d i.1 i.2.1 i.2.2 f ⟨λj=>⟨λM N S T W z3=>L.h M N S T W z3⟩⟩ rr E rfl) J gC e0 e
def aeN{ι:Type}{live:I Nat}{m k:Nat}{b:I Nat}{kn:I (Nat×Nat)}{g:ι->St}{G:Nat->ι->U R}{d:Nat}{f:St->Prop}(i:Vd k live m b kn g G rr d f)(j:ι)(a:I (I (Nat×Ob prog)))(l:kJ k (wK w0)=[f]:=by kernel_rfl)(gC:I (VE m):=[])(e0:tk m (wk prog w0 a)=gC.map VE.x:=by kernel_rfl)(e:Ar k live m b kn (wk prog w0 a)=some (g j,eE a):=by kernel_rfl):IE (G d j) λq=>q=rr->GW prog r N0 (Q q) w0:=λv h q=>
 Z5 bC (i.h j) (d,j) a (q▸h) (Z0 _) l gC e0 e
def apn{o:U R}(k:Nat)(b:I (I (Nat×Ob prog)))(live:I Nat)(m:Nat)(g:I Nat)(kn:I (Nat×Nat))(d:A->St)(G:A->U R)
 (j:∀f:St->Prop,NI k live m g kn d (λi=>G i=some rr) f->IE o λq=>q=rr->GW prog r N0 (Q q) (vC k f (wk prog w0 b)))
 (rest:∀a,IE (G a) λq=>q=rr->GW prog r N0 (Q q) (vL (d a) (wk prog w0 b))) (l:N0<=m:=by exact Zi rfl) (e:sR (wk prog w0 b)=some (eE b):=by kernel_rfl):IE o λq=>q=rr->GW prog r N0 (Q q) w0:=λv h q=>
 aix bC k b live m g kn d (λi=>G i=some rr) (λf a=>j f a v h q) (λi p=>q▸rest i rr p rfl) l e
def gmX{ι:Type}{live:I Nat}{m k:Nat}{b:I Nat}{kn:I (Nat×Nat)}{d:ι->St}{G:ι->U R}{f:St->Prop}(g:NI k live m b kn d (λi=>G i=some rr) f)(i:ι)(a:I (I (Nat×Ob prog)))(j:kJ k (wK w0)=[f]:=by kernel_rfl)(gC:I (VE m):=[])(e0:tk m (wk prog w0 a)=gC.map VE.x:=by kernel_rfl)(e:Ar k live m b kn (wk prog w0 a)=some (d i,eE a):=by kernel_rfl):IE (G i) λq=>q=rr->GW prog r N0 (Q q) w0:=λv h q=>
 akh bC g i a (q▸h) gC e0 j e
end
section
variable {P:dg} {r:U Nat} {N0:Nat} {Q:Exit->St->Prop} {c:Code}
def H4(P:dg)(r:U Nat)(N0:Nat)(c:Code)(Q:Exit->St->Prop):Nat->St->Prop
 |0,_=>False
 |m+1,s=>bR P r N0 c (je (H4 P r N0 c Q m) Q) s
def ia{m:Nat}{s:St}(h:bR P r N0 c (je (H4 P r N0 c Q m) Q) s):H4 P r N0 c Q (m+1) s:=h
def Gd(m:Nat){s:St}(h:H4 P r N0 c Q m s):bR P r N0 (.loop c) Q s:=by
 constructor
 intro b w0 v n z E;refine wpIn_loop_rounds m ?_;have d:∀(m:Nat)(s:St)(G:Gh)(w:Zy)(a:Act),H4 P r N0 c Q m s->dx G w a s->N0<=G.N->cq N0 b w0 G w->Code.roundsIn (WF r) n P c (λe F J=>jw N0 b w0 (Q e) F J) m a w:=by
  intro m
  induction m with
  |zero=>intro s G w a h _ _ _;exact h.elim
  |succ m L=>
   intro s G w a h M S g;refine wpIn_mono (bR.run h G w a n M S) λe T W hn=> ?_;obtain⟨i,j,l,p,q,u⟩:=hn;cases e with
   |normal=>exact L j i W T u q p (g.trans l)
   |_=>exact⟨i,j,g.trans l,p,q,u⟩
 exact d m s b w0 v h z E (cq.refl _ _ _)
end
def aay{α:Type}{f:α->I D}{d0:α}{zs:I AV}{n dy:Nat}{l:Int}(a:l=(n:Int))(b:(f d0).map AV.d=zs)(h:n<=maxLen/\n*dy<=140737488355328):
 0<=l/\l<=l/\l.toNat=n/\l.toNat=n/\cg ((List.replicate n d0).map f)=List.replicate n zs/\n<=maxLen/\dy*n<=281474976710656:=by
 subst a;refine⟨Int.natCast_nonneg _,Int.le_refl _,rfl,rfl,?_,h.1,?_⟩;{unfold cg;rw[List.map_replicate,List.map_replicate,b]};{rw[Nat.mul_comm];exact Zc h.2 (by decide)}
inductive OT(P:Program) where
 |nil
 |node (k:Nat) (aC:List (Nat×Ob P)) (sub next:OT P)
def OT.ps{P:dg}:OT P->I (In×cB)
 | .nil=>[]
 | .node _ a sub next=>kC a++(sub.ps++next.ps)
def OT.isNil{P:dg}:OT P->Bool
 | .nil=>true
 |_=>false
def rl(C:I Nat)(L:Nat)(r:I Nat):I Nat:=match yi C L r with
 |some k=>[k]
 |none=>r
def Kj{P:dg}(A C:I Nat)(f:I Nat->Nat->I Nat->St->U (I Lf×I (In×cB)))(a:Bool)(b:I Nat)(s:St)(L:Nat):U (I Lf×I (In×cB)):=
 match qN A L 0 with
 |[]=>bif a then some ([(s,b,[])],[])else none
 |d::r=>f (rl C L (d::r)) L b s
def uV(P:dg)(ops:Array Oper)(A C:I Nat):OT P->Nat->I Nat->Nat->I Nat->St->U (I Lf×I (In×cB))
 | .nil,_,d,_,_,_=>match d with
   |[]=>some ([],[])
   |_=>none
 | .node k i e next,g,d,L,j,s=>match d with
   |[]=>none
   |c::d=>match g with
    |0=>none
    |f+1=>bif k==c then(match ops[k]? with
     |some o=>bif EA o (jL (jZ i) (3*k+1))then(match pf P ops false o k (jZ i) s with
      |some (m,l)=>match (fN (L|||(1<<<k)) λp=>Kj (P:=P) A C (uV P ops A C e f) e.isNil (j++List.replicate (m.h.length-s.h.length) k) m p)with
       |some (a,q)=>match uV P ops A C next (f+1) d L j s with
        |some (b,u)=>some (a++b,l++(q++u))
        |none=>none
       |none=>none
      |none=>none)else none
     |none=>none)else none
section
variable {P:dg} {ops:Array Oper} {K:St->Prop}
def aup(J:tn K)(M:pL (Region.before ops) ops=true){f L:Nat}{listed:Array Bool}{s:St}{g:Nat}{r:I Nat}(l:LM ops L listed)(N:Dn ops listed)(m:qN (qg ops 0 ops.size) L 0=g::r)
 (h:∀k∈rl (lH ops true (Region.before ops) 0 ops.size) L (g::r),∀o,ops[k]?=some o->∃y h1,nP true P ops o s y h1/\me true P ops K f (listed.setIfInBounds k true) ((s.wh h1).put o.dst y)):me true P ops K (f+1) listed s:=by
 unfold rl at h;cases q:yi (lH ops true (Region.before ops) 0 ops.size) L (g::r)with
 |some k=>
  rw[q]at h;obtain⟨v,w⟩:=G8 q;have S:k∈Region.ready .any ops listed:=(l.ready k).2 (by rw[m];exact v);have p:k<ops.size:=by
    have:=(JF _ 0 k).1 (by rw[m];exact v);obtain⟨_,_,a,u,_⟩:=this;rw[Hb]at u;split at u;{next h=>omega};{cases u}
  obtain⟨y,hh,q1,T⟩:=h k Zq ops[k] (ZM p);refine J9 J M (ZM p) f listed s N (λj oj z W rC ua=> ?_) S q1 T;have E:=(ZT.1 z).1;have T8:Nat.testBit L j=false:=by
   rw[l.b];have iB:j<listed.size:=by rw[l.sz];exact E
   simpa [iB]using rC
  have d:Nat.testBit (wc ops true (Region.before ops) k) j=false:=by
   rw[<-Uq];intro hc;have h5:(lH ops true (Region.before ops) 0 ops.size).getD k 0=wc ops true (Region.before ops) k:=by
     rw[List.getD_eq_getElem?_getD,T5,ab p,ZQ];rfl
   rw[h5]at w;have:=congrArg (λn=>Nat.testBit n j) w;simp only[Nat.testBit_or,hc,T8]at this;cases this
  unfold wc at d;rw[FF]at d;unfold U7 at d;rw[ua,ZM p,z]at d;simp [E,W]at d;exact d
 |none=>
  rw[q]at h;have F:g∈Region.ready .any ops listed:=(l.ready g).2 (by rw[m];simp);refine⟨λe=>(by rw[e]at F;cases F),λi hi oi Kp=> ?_⟩;exact h i (by rw[<-m];exact(l.ready i).1 hi) oi Kp
def apk(hK:tn K)(hM:pL (Region.before ops) ops=true)(t0:I (Nat×AV))(n0:Nat):
 ∀(t:OT P)(m:Nat)(cs:I Nat)(L:Nat)(listed:Array Bool)(al:I Nat)(s:St)(N:I Lf)(ps:I (In×cB)),LM ops L listed->Dn ops listed->(∀c∈cs,c∈Region.ready .any ops listed)->uV P ops (qg ops 0 ops.size) (lH ops true (Region.before ops) 0 ops.size) t m cs L al s=some (N,ps)->AllOK P ps->(∃j,s.t=j++t0)->s.n=n0->
  (∀x∈N,(∃j,x.1.t=j++t0)/\x.1.n=n0)/\((∀x∈N,K x.1)->∀k∈cs,∀o,ops[k]?=some o->∃f,m=f+1/\∃y h1,nP true P ops o s y h1/\me true P ops K f (listed.setIfInBounds k true) ((s.wh h1).put o.dst y)):=by
 intro t
 induction t with
 |nil=>
  intro m cs L listed al s N ps hL hD hc h cy w hn;cases cs with
  |nil=>
   simp only[uV]at h;cases h
   exact⟨λx u=>(by cases u),λ_ k E=>(by cases E)⟩
  |cons=>simp [uV]at h
 |node k aC sub next ihs ihn=>
  intro m cs L listed al s N ps hL hD hc h cy w hn;cases cs with
  |nil=>simp [uV]at h
  |cons c cs=>
   cases m with
   |zero=>simp [uV]at h
   |succ f=>
    rw[uV]at h;have h':=lN h;clear h;obtain⟨WV,h⟩:=h';rw[Ua]at WV;subst WV;split at h
    ·next o ho=>
     have h':=lN h;clear h;obtain⟨aqK,h⟩:=h';split at h
     ·next s1 l hg=>
      rw[Ch]at h;split at h
      ·next a pa J=>
       split at h
       ·next b pb hb=>
        cases h
        have hl:AllOK P l:=λp w=>cy p (ak _ w);have hpa:AllOK P pa:=λp w=>cy p (a8 _ (ak _ w));have hpb:AllOK P pb:=λp w=>cy p (a8 _ (a8 _ w));have w6:=hc k Zq;have qb:=(ZT.1 ho).1;obtain⟨ze,lO⟩:=ihn (f+1) cs L listed al s b pb hL hD (λc F=>hc c (Zg _ F)) hb hpb w hn;obtain⟨⟨p1,e1⟩,e2⟩:=Qm hg;have S:∃j,s1.t=j++t0:=by
         obtain⟨j,e⟩:=w;exact⟨p1++j,by rw[e1,e,ZR]⟩
        have XH:s1.n=n0:=e2.trans hn;have Ie:=hL.set qb;have CV:=hD.set w6;have vy:(∀x∈a,(∃j,x.1.t=j++t0)/\x.1.n=n0)/\((∀x∈a,K x.1)->me true P ops K f (listed.setIfInBounds k true) s1):=by
         unfold Kj at J;split at J
         ·next hr=>
          obtain⟨_,J⟩:=lN J;cases J
          have HX:Region.ready .any ops (listed.setIfInBounds k true)=[]:=by
           rw[List.eq_nil_iff_forall_not_mem];intro i hi;have:=(Ie.ready i).1 hi;rw[hr]at this;cases this
          refine⟨λx u=>by rw[af]at u;subst u;exact⟨S,XH⟩,λE=> ?_⟩;have kV:=E _ Zq;cases f with
          |zero=>exact⟨HX,kV⟩
          |succ f=>exact⟨λ_=>kV,λi hi=>by rw[HX]at hi;cases hi⟩
         ·next k1 r hr=>
          have H3:∀c∈rl (lH ops true (Region.before ops) 0 ops.size) (L|||(1<<<k)) (k1::r),c∈Region.ready .any ops (listed.setIfInBounds k true):=by
           intro c F;rw[Ie.ready,hr];unfold rl at F;split at F
           ·next q hf=>
            rw[af]at F;subst F;exact(G8 hf).1
           ·exact F
          obtain⟨q1,q2⟩:=ihs f _ _ _ _ s1 a pa Ie CV H3 J hpa S XH;refine⟨q1,λE=> ?_⟩;have cX:∃c,c∈rl (lH ops true (Region.before ops) 0 ops.size) (L|||(1<<<k)) (k1::r):=by
           unfold rl;split;{exact⟨_,Zq⟩};{exact⟨_,Zq⟩}
          obtain⟨M,zJ⟩:=cX;have U6:M<ops.size:=by
           have:=(JF _ 0 M).1 ((Ie.ready M).1 (H3 M zJ));obtain⟨_,_,z,hz,_⟩:=this;rw[Hb]at hz;split at hz;{next h=>omega};{cases hz}
          obtain⟨g,rfl,_⟩:=q2 E M zJ ops[M] (ZM U6);refine aup hK hM Ie CV hr λk' T o' W=> ?_;obtain⟨g',e,y,h1,h2,h3⟩:=q2 E k' T o' W;cases e
          exact⟨y,h1,h2,h3⟩
        refine⟨λx u=>(ZN.1 u).elim (vy.1 x) (ze x),λE k' T o' W=> ?_⟩;rcases Za.1 T with rfl|T
        ·rw[ho]at W;cases W;have h4:=W9 (K:=(·=s1)) hg hl rfl aqK;have h5:=vy.2 λx u=>E x (ak _ u);rcases MR h4 with⟨g,hd⟩|⟨g,hd⟩
         ·obtain⟨y,h1,h2,h3⟩:=OX hd;exact⟨f,rfl,y,h1,.inl ⟨g,h2⟩,by rw[h3];exact h5⟩
         ·exact⟨f,rfl,_,s.h,.inr ⟨g,rfl,rfl⟩,by
           have e:(s.wh s.h).put o.dst (.d (.v undef))=s1:=hd;rw[e];exact h5⟩
        ·exact lO (λx u=>E x (a8 _ u)) k' T o' W
       ·cases h
      ·cases h
     ·cases h
    ·cases h
end
def WH(P:dg)(ol:I Oper)(t:OT P)(a:I Nat)(s:St):U (I (I (Nat×AV)×I ar×I (In×cB))×I (In×cB)):=
 bif pL (Region.before ol.toArray) ol.toArray then fL (qg ol.toArray 0 ol.toArray.size) λA=>fL (lH ol.toArray true (Region.before ol.toArray) 0 ol.toArray.size) λC=>
  match Kj (P:=P) A C (uV P ol.toArray A C t ol.toArray.size) t.isNil [] s 0 with
  |some (b,d)=>match JI a s b with
   |some r=>some (r,d)
   |none=>none
  |none=>none
 else none
def akc{P:dg}{ol:I Oper}{t:OT P}{u:I Nat}{s:St}{Δ:I (Nat×AV)}{h':I ar}{m N0:Nat}{K:St->Prop}(h:WH P ol t u s=some (List.replicate m (Δ,h',[]),t.ps))(cy:AllOK P t.ps)(hN:N0<=s.h.length)(qO:∀i,(bP s.t i).aN s.h.length=true)(N:ES N0 K)(hk:K ⟨s.n,Δ++s.t,h'⟩):
 me true P ol.toArray K ol.toArray.size (Array.replicate ol.toArray.size false) s:=by
 unfold WH at h;obtain⟨hM,h⟩:=lN h;rw[Au,Au]at h;split at h
 ·next ls ps d=>
  split at h
  ·next r S=>
   cases h
   have v:LM ol.toArray 0 (Array.replicate ol.toArray.size false):=⟨by simp,λi=>by
    rw[Nat.zero_testBit,Array.getD_eq_getD_getElem?,Array.getElem?_replicate];split<;>rfl⟩
   have hD:Dn ol.toArray (Array.replicate ol.toArray.size false):=λj o ho E=>by
    exfalso;rw[Array.getD_eq_getD_getElem?,Array.getElem?_replicate]at E;split at E<;>simp at E
   have b:∀x∈ls,((∃T,x.1.t=T++s.t)/\x.1.n=s.n)->K x.1:=λx F hb=>by
    obtain⟨a,ha,e2⟩:=SN S x F;rw[List.mem_replicate]at ha;obtain⟨_,rfl⟩:=ha;obtain⟨J,_⟩:=Y5 (P:=P) (ops:=ol.toArray) e2 hN qO hb.2 hb.1 (λp hp=>by cases hp);exact N _ _ J hk
   unfold Kj at d;split at d
   ·next L=>
    obtain⟨_,d⟩:=lN d;have W:=Prod.mk.inj (Zw d);obtain⟨W,_⟩:=W;subst W;have HX:Region.ready .any ol.toArray (Array.replicate ol.toArray.size false)=[]:=by
     rw[List.eq_nil_iff_forall_not_mem];intro i M;have:=(v.ready i).1 M;rw[L]at this;cases this
    have kV:=b _ Zq ⟨⟨[],rfl⟩,rfl⟩;generalize hf:ol.toArray.size=f at*;cases f with
    |zero=>exact⟨HX,kV⟩
    |succ f=>exact⟨λ_=>kV,λi M=>by rw[HX]at M;cases M⟩
   ·next J r' L=>
    have H3:∀c∈rl (lH ol.toArray true (Region.before ol.toArray) 0 ol.toArray.size) 0 (J::r'),c∈Region.ready .any ol.toArray (Array.replicate ol.toArray.size false):=by
     intro c w;rw[v.ready,L];unfold rl at w;split at w
     ·next q hf=>
      rw[af]at w;subst w;exact(G8 hf).1
     ·exact w
    obtain⟨q1,q2⟩:=apk (K:=K) N.c hM s.t s.n t _ _ _ _ _ s ls _ v hD H3 d cy ⟨[],rfl⟩ rfl;have q3:=q2 λx F=>b x F (q1 x F);have cX:∃c,c∈rl (lH ol.toArray true (Region.before ol.toArray) 0 ol.toArray.size) 0 (J::r'):=by
     unfold rl;split;{exact⟨_,Zq⟩};{exact⟨_,Zq⟩}
    obtain⟨l,zJ⟩:=cX;have U6:l<ol.toArray.size:=by
     have:=(JF _ 0 l).1 ((v.ready l).1 (H3 l zJ));obtain⟨_,_,z,hz,_⟩:=this;rw[Hb]at hz;split at hz;{next h=>omega};{cases hz}
    obtain⟨g,eg,_⟩:=q3 l zJ ol.toArray[l] (ZM U6);have S:=aup (P:=P) (f:=g) (s:=s) (K:=K) N.c hM v hD L λk' iA o' nv=>by
     obtain⟨g',e,y,h1,h2,h3⟩:=q3 k' iA o' nv;rw[eg]at e;cases e
     exact⟨y,h1,h2,h3⟩
    exact(congrArg (λn=>me true P ol.toArray K n (Array.replicate ol.toArray.size false) s) eg).mpr S
  ·cases h
 ·cases h
def Q6{P:dg}:∀t:OT P,AllOK P t.ps
 | .nil=>λp a=>by cases a
 | .node _ d b next=>λp a=>by
   unfold OT.ps at a;rcases ZN.1 a with a|a
   ·exact rM d p a
   ·rcases ZN.1 a with a|a
    ·exact Q6 b p a
    ·exact Q6 next p a
section
variable {P:dg} {r:U Nat} {N0 id n:Nat} {ol:I Oper} {y:Code} {t:I (Nat×AV)} {h:I ar} {Q Q':Exit->St->Prop}
def ro(m:Nat)(a:P.follows .mixedOrders=true)(T:OT P)(Δ:I (Nat×AV))(h':I ar)(e:WH P ol T (Δ.map (·.1)) ⟨n,t,h⟩=some (List.replicate m (Δ,h',[]),T.ps))(k:bR P r N0 y Q' ⟨n,Δ++t,h'⟩):bR P r N0 (.region id ol.toArray true) (je (λs=>bR P r N0 y Q' s) Q) ⟨n,t,h⟩:=
 V8 (m:=true) a λb d=>akc e (Q6 T) b d (Qt _) ⟨_,jU.refl _ _,k⟩
end
set_option maxHeartbeats 0
mutual
def T2{m m':Nat}(hm:m<=m'):∀x:AV,x.aN m=true->x.aN m'=true
 | .own n _,h=>by rw[AV.aN,UA,<-Uq,dS]at h ⊢;omega
 | .ptr n _,h=>by rw[AV.aN,UA,<-Uq,dS]at h ⊢;omega
 | .row n _ _ _ _,h=>by rw[AV.aN,UA,<-Uq,dS]at h ⊢;omega
 | .mp n,h=>by rw[AV.aN,UA,<-Uq,dS]at h ⊢;omega
 | .cU n,h=>by rw[AV.aN,UA,<-Uq,dS]at h ⊢;omega
 | .vec n _ _ _ _,h=>by rw[AV.aN,UA,<-Uq,dS]at h ⊢;omega
 | .eH n _ _ _ _,h=>by rw[AV.aN,UA,<-Uq,dS]at h ⊢;omega
 | .agg cs,h=>by rw[AV.aN]at h ⊢;exact NO hm cs h
 | .bq cs,h=>by rw[AV.aN]at h ⊢;exact NO hm cs h
 | .fn f cs,h=>by rw[AV.aN]at h ⊢;exact NO hm cs h
 | .d _,_=>by simp only[AV.aN]
 | .bM ..,_=>by simp only[AV.aN]
 | .full _,_=>by simp only[AV.aN]
 | .hid _,_=>by simp only[AV.aN]
 | .dead,_=>by simp only[AV.aN]
def NO{m m':Nat}(hm:m<=m'):∀l:I AV,AV.lA m l=true->AV.lA m' l=true
 |[],_=>by simp [AV.lA]
 |x::l,h=>by
  rw[AV.lA,Zr]at h ⊢;exact⟨T2 hm x h.1,NO hm l h.2⟩
end
def aie{m i:Nat}(l:m<=i){B:ar}(h:B.aN m=true):B.aN i=true:=by
 have g:∀d:I AV,d.all (AV.aN m)=true->d.all (AV.aN i)=true:=λd h=>by
  rw[Zd]at h ⊢;exact λx j=>T2 l x (h x j)
 cases B with
 |cells d=>exact g d h
 |lp w p a b d=>exact g d h
 |it z d=>exact g d h
 |fM E d=>exact g d h
 |vec e k d=>
  simp only[ar.aN,Zd]at h ⊢;exact λc q x j=>T2 l x (h c q x j)
 |front e k u=>rfl
 |jE e b=>rfl
 |map v=>rfl
 |jX v=>rfl
 |gone=>rfl
def Vi{m a:Nat}(b:m<=a){h:I ar}(e:h.all (ar.aN m)=true):h.all (ar.aN a)=true:=by
 rw[Zd]at e ⊢;exact λB d=>aie b (e B d)
abbrev se(ext:I Int):AV:= .bM [[.sl (bH ext)]] 0 0
def rO(p:I Int):AV:= .d (.sl (bH p))
def auo{n i x:Nat}{xs:I Nat}(h:(List.range n).drop i=x::xs):x=i:=by
 have:=aX h;have a:i<(List.range n).length:=(Zo.1 this).1;rw[List.getElem?_range (by simpa using a)]at this;exact(Zw this).symm
def an6(ext:I Int)(n:Nat)(J:n<=maxLen)(L:AFn prog 198 [.d (.sl (bH ext))] (·=Y n)):Bn prog 197 [se ext] ((List.range n).map λ(k:Nat)=>Y k):=by
 intro k h C m z M;have N:=F8 _ m M;refine wo h.length func197 rfl (by kernel_rfl) (Zv _) ?_;show bR prog none h.length _ _ ⟨14,[(0,.cU k),(1,se ext)],h⟩
 repeat refine aw ?_
 refine fU ?_;refine cp rfl ?_;refine AJ (x:= .d (.sl (bH ext))) rfl rfl ?_;refine cp rfl ?_;refine Hl (g:=198) (dD:=[]) rfl rfl rfl ?_;refine L.use rfl rfl ?_;refine cp rfl ?_;refine AJ (x:= .d (.v (.int .i64 0))) rfl rfl ?_;refine aW ?_;refine dL ?_;refine Mf (ι:=Nat×I Nat×I ar) [0,5,6] h.length (λi=>⟨14,[(0,.cU k),(5,.d (.v (.int .i64 n))),(6,.d (.v (.int .i64 i.1)))],i.2.2⟩)
  (λi=>(List.range n).drop i.1=i.2.1/\qD h i.2.2/\mN prog k (i.2.1.map λ(k:Nat)=>Y k) (λb a=>C b a/\qD h a) i.2.2) (λi=>i.2.1.length) (0,List.range n,h) (Zv _) ?_ ?_ ⟨rfl,⟨rfl,m⟩,N⟩ ?_
 ·exact JL _ m (by
   show(((AV.cU k).bQ h.length).aN h.length&&(true&&(true&&true)))=true;rw[Cq z];rfl)
 ·exact MN _ m
 rintro⟨i,rest,hb⟩ ⟨l,⟨p,E⟩,q⟩;simp only at l p E q ⊢
 repeat refine aw ?_
 refine fU ?_;refine cp rfl ?_;refine AJ (x:= .d (.v (.bool (decide ((i:Int)<(n:Int)))))) rfl rfl ?_;refine aW ?_
 repeat refine aw ?_
 have e:((List.range n).length:Int)=(n:Int):=by rw[List.length_range]
 cases rest with
 |nil=>
  rw[<-e,bG l];refine Br ?_;refine ma (iE (iE (m7 rfl ?_)));exact MP p E ⟨rfl,true,q.1⟩
 |cons x rest=>
  rw[<-e,bD l];have S:=auo l;subst S;refine Bp ?_;refine cN ?_;refine aW ?_
  repeat refine aw ?_
  refine dL ?_
  repeat refine aw ?_
  refine fU ?_;refine cp rfl ?_;refine AJ (x:= .d (.v (.int .i64 x))) rfl rfl ?_;refine cp rfl ?_;refine AJ (x:= .d (.v (.int .i64 x))) rfl rfl ?_;refine aW ?_
  repeat refine aw ?_
  refine fU ?_;refine cp rfl ?_;refine AJ (x:= .cU k) rfl rfl ?_;refine cp rfl ?_;refine AJ (x:= .d (.v (.int .i64 x))) rfl rfl ?_;refine cp rfl ?_;rw[ZS]at q;refine CJ (k:=k) (x:=Y x) rfl rfl (by kernel_rfl) (by kernel_rfl) rfl rfl ?_;refine YS.mono q λb a T=> ?_;obtain⟨⟨W,F⟩,w⟩:=T;have j:a.length=h.length:=by rw[W,p]
  have u:a.all (ar.aN h.length)=true:=by rw[p]at F;exact F
  refine cp rfl ?_;refine AJ (x:= .d (.v (.bool (!b)))) rfl rfl ?_;refine aW ?_;cases b with
  |false=>
   refine Bp ?_;refine dm ?_
   repeat (first|(with_reducible refine dn ?_)|(with_reducible refine eQ ?_))
   exact ac5 j u ⟨rfl,false,w.1⟩
  |true=>
   refine Br ?_;refine cN ?_;refine eV ?_;refine aW ?_;simp only[Tq]at w;refine fU ?_;refine cp rfl ?_;refine c9 (x:= .d (.v (.int .i64 ((x+1:Nat):Int)))) (by
    show some ((.d (.v (.int .i64 (aF ((x:Int)+1)))):AV),HD.same)=_;have:=bU l rfl (by rw[List.length_range];exact J);unfold Y at this;rw[this]) rfl rfl ?_
   refine cp rfl ?_;refine AJ (x:= .d (.v (.int .i64 ((x+1:Nat):Int)))) rfl rfl ?_;refine aW ?_;refine⟨?_,(x+1,rest,a),?_,⟨kM l,⟨j,u⟩,w⟩,Z0 _⟩
   ·rw[<-j];exact JL _ (by rw[j];exact u) (by
      show(((AV.cU k).bQ a.length).aN a.length&&(true&&(true&&true)))=true;rw[j,Cq z];rfl)
   ·rw[<-j];exact MN _ (by rw[j];exact u)
def aje(ext:I Int):AFn prog 114 [.d (.sl (bH ext))] (·= .fn 197 [se ext]):=by
 refine QK (r:= .fn 197 [.ptr 0 0]) (h:=[.cells [.d (.sl (bH ext))]]) ?_ (by kernel_rfl) rfl;refine tz 1 func114 rfl (by kernel_rfl) (Zi rfl) ?_;refine nh (s':=⟨4,[(0,.d (.sl (bH ext)))],[]⟩) (by kernel_rfl) ?_;refine aw (Cy [] [(1,.ptr 0 0)] [.cells [.d (.sl (bH ext))]] ?_);refine aw (Cy [] [(2,.fn 197 [.ptr 0 0])] [.cells [.d (.sl (bH ext))]] ?_);refine dm ?_;exact ku (by kernel_rfl)
def aik{n:Nat}{t:I (Nat×AV)}{H l:I ar}(b:H.all (ar.aN H.length)=true):vY ⟨n,t,H++l⟩ H.length ⟨n,[],H⟩:=⟨fun{G w a} d=>by
 have e:=d.mask (live:=[]) (A1 (n:=n) (t:=t) (l:=l) [] b rfl)
 rwa [BZ [] b]at e⟩
def adQ{n m:Nat}{t:I (Nat×AV)}{H:I ar}(a:H.length=m)(b:H.all (ar.aN m)=true):vY ⟨n,t,H⟩ m ⟨n,[],H⟩:=by
 subst a;have:=aik (n:=n) (t:=t) (l:=[]) b
 rwa [ZV]at this
def aoX(ext:I Int)(j8:I (I Int))(hn:j8.length<=maxLen)(hc:AFn prog 198 [.d (.sl (bH ext))] (·=Y j8.length))
 (hp:∀(k:Nat)(p:I Int),j8[k]?=some p->AFn prog 115 [.d (.sl (bH ext)),Y k] (·= .bq [rO p,aA true])):Bn prog 113 [se ext] (j8.map rO):=by
 intro k h C lE hk qu;have hs:=F8 _ lE qu;refine wo h.length func113 rfl (by kernel_rfl) (Zv _) ?_
 suffices hA:bR prog none h.length _ _ ⟨19,[(0,.cU k),(1,se ext)],h++[]⟩ by rw[ZV]at hA;exact hA
 have rU:∀u,h.length<=u->(AV.cU k).aN u=true:=λu hY=>by simp [AV.aN,cP];omega
 have T:∀u,h.length<=u->(ar.cells [.cU k]).aN u=true:=λu hY=>by simp [ar.aN,rU u hY]
 repeat refine aw ?_
 refine fU ?_;refine cp rfl ?_;refine By (XE (l:=[]) (v:= .cU k) rfl (by kernel_rfl)) rfl rfl EU ?_;refine aW ?_
 repeat refine aw ?_
 refine fU ?_;refine cp rfl ?_;refine AJ (x:= .d (.sl (bH ext))) rfl rfl ?_;refine cp rfl ?_;refine Hl (g:=114) (dD:=[]) rfl rfl rfl ?_;refine(aje ext).use rfl rfl ?_;refine aW ?_;refine dL ?_;show bR prog none h.length _ _ ⟨19,[(7,.fn 197 [se ext]),(6,.d (.sl (bH ext))),(2,.ptr h.length 0),(0,.cU k),(1,se ext)],h++[.cells [.cU k]]⟩;refine Ak (m:=h.length+1) (enc:=λ(q:Nat)=>Y q) (xs:=List.range j8.length) (gf:=197) (dD:=[se ext]) (by kernel_rfl) (an6 ext j8.length hn hc) (λ(i:{z:I ar // qD h z})=>i.1++[.cells [.cU k]])
  (λi l=>∃j,(List.range j8.length).drop j=l/\mN prog k ((j8.drop j).map rO) (λb e=>C b e/\qD h e) i.1) ⟨h,rfl,lE⟩ rfl ⟨0,rfl,hs⟩ (λi=>by rw[Zk,i.2.1];rfl) (λi=> ?_) ?_ (by kernel_rfl) ?_ ?_
 ·rw[List.all_append,Vi (Yu _ 2) i.2.2];simp [T (h.length+1+1) (by omega)]
 ·have F:cP (h.length+1+1) k=false:=by rw[<-Uq,dS];omega
  have W:cP (h.length+1+1) h.length=false:=by rw[<-Uq,dS];omega
  show(([0,1,2,3,4,5,6,7,8,9,10,11,12,13,14,15,16,17,18]:I Nat).map λi=>bP _ i).all _=true;simp only[ZS,ah,bP,ZE,List.all_nil,Nat.reduceBEq,Tq,T6,Bool.and_true,AV.aN,AV.lA];rw[F,W];rfl
 ·rintro⟨J,w,c2⟩ x l ⟨j,L,E⟩ rr a b;have hx:=auo L;subst hx;have hj:x<j8.length:=by
   have:=aX L;have:=(Zo.1 this).1
   simpa using this
  simp only at E ⊢;refine fU ?_;refine cp rfl ?_;refine AJ (x:=Y x) rfl rfl ?_;refine aW ?_;refine⟨J++[.cells [.cU k]],[],by rw[Zk,w];rfl,rfl,?_⟩;generalize M:ar.lp .busy 8 a b (dV 19 _)=LP;have amo:LP.aN (h.length+2)=true:=by
   rw[<-M];have F:cP (h.length+2) k=false:=by rw[<-Uq,dS];omega
   have W:cP (h.length+2) h.length=false:=by rw[<-Uq,dS];omega
   show(([0,1,2,3,4,5,6,7,8,9,10,11,12,13,14,15,16,17,18]:I Nat).map λi=>bP _ i).all _=true;simp only[ZS,ah,bP,ZE,List.all_nil,Nat.reduceBEq,Tq,T6,Bool.and_true,AV.aN,AV.lA];rw[F,W];rfl
  clear M;refine dL ?_
  repeat refine aw ?_
  refine fU ?_;refine cp rfl ?_;refine AJ (x:= .d (.sl (bH ext))) rfl rfl ?_;refine cp rfl ?_;refine AJ (x:=Y x) rfl rfl ?_;refine cp rfl ?_;refine Hl (g:=115) (dD:=[]) rfl rfl rfl ?_;refine(hp x j8[x] (Ze hj)).use rfl rfl ?_;refine cp rfl ?_;refine AJ (x:= .bq [rO j8[x],aA true]) rfl rfl ?_;refine cp rfl ?_;refine AJ (x:=rO j8[x]) rfl rfl ?_;refine cp rfl ?_;refine AJ (x:=aA true) rfl rfl ?_;refine cp rfl ?_;refine AJ (x:=rO j8[x]) rfl rfl ?_;refine cp rfl ?_;refine AJ (x:=aA true) rfl rfl ?_;refine aW ?_;rw[show(J++[ar.cells [.cU k]])++[LP]=J++[ar.cells [.cU k],LP] by simp]
  repeat refine aw ?_
  refine fU ?_;refine cp rfl ?_;refine c9 (yt (h:=J) (i:=0) (off:=0) (l:=[.cells [.cU k],LP]) (x:= .cU k) (by rw[w];rfl) rfl (by kernel_rfl)) rfl rfl ?_;refine cp rfl ?_;refine AJ (x:=rO j8[x]) rfl rfl ?_;refine cp rfl ?_;rw[List.drop_eq_getElem_cons hj,ZS]at E;have F:=MC E [.cells [.cU k],LP] (by rw[w];exact c2) (by kernel_rfl) (λb h' hh=>hh.1);refine CJ (k:=k) (x:=rO j8[x]) rfl rfl (by kernel_rfl) (by kernel_rfl) rfl rfl ?_;refine F.mono λb h' hh=> ?_;obtain⟨e,⟨⟨p1,p2⟩,p3⟩,rfl⟩:=hh;have N:e.length=h.length:=by rw[p1,w]
  have S:e.all (ar.aN h.length)=true:=by rw[w]at p2;exact p2
  have v1:(e++[ar.cells [.cU k]]).length=h.length+1:=by rw[Zk,N];rfl
  have v2:(e++[ar.cells [.cU k]]).all (ar.aN (h.length+2))=true:=by
   rw[List.all_append,Vi (Yu _ 2) S];simp [T]
  have v3:(e++[ar.cells [.cU k],LP]).all (ar.aN (h.length+2))=true:=by
   rw[List.all_append,Vi (Yu _ 2) S];simp [T,amo]
  have v4:(e++[ar.cells [.cU k],LP]).length=h.length+2:=by rw[Zk,N];rfl
  have v5:e++[ar.cells [.cU k],LP]=(e++[ar.cells [.cU k]])++[LP]:=by simp
  refine cp rfl ?_;refine AJ (x:= .d (.v (.bool (!b)))) rfl rfl ?_;refine aW ?_;cases b with
  |false=>
   refine Bp ?_;refine dm ?_
   repeat (first|(with_reducible refine dn ?_)|(with_reducible refine eQ ?_))
   refine⟨e++[.cells [.cU k]],v1,v2,?_,?_⟩
   ·have Sg:∀t,vY ⟨19,t,e++[ar.cells [.cU k],LP]⟩ (h.length+2) ⟨19,[],(e++[ar.cells [.cU k]])++[LP]⟩:=λt=>by
     rw[<-v5];exact adQ v4 v3
    exact Sg _
   ·refine eQ ?_;rw[ZR];exact CC N S ⟨rfl,false,p3.1⟩
  |true=>
   refine Br ?_;refine cN ?_;refine eV ?_;simp only[Tq]at p3;refine⟨e++[.cells [.cU k]],v1,v2,?_,⟨e,N,S⟩,rfl,x+1,kM L,p3⟩;have Sg:∀t,vY ⟨19,t,e++[ar.cells [.cU k],LP]⟩ (h.length+2) ⟨19,[],(e++[ar.cells [.cU k]])++[LP]⟩:=λt=>by
    rw[<-v5];exact adQ v4 v3
   exact Sg _
 ·rintro⟨J,w,c2⟩ ⟨j,L,E⟩;have:j8.drop j=[]:=by
   have z:=List.drop_eq_nil_iff.1 L;rw[List.length_range]at z;exact List.drop_eq_nil_iff.2 z
  rw[this,ah]at E;refine eV ?_;rw[ZR];have:=Uc (P:=prog) (fn:=f113) (n:=19) (K:=λ_ z=>∃b,C b z) (t:=[(7,.fn 197 [se ext]),(6,.d (.sl (bH ext))),(2,.ptr h.length 0),(0,.cU k),(1,se ext)]) (l:=[.cells [.cU k]]++[.gone]) w c2;refine this ?_;exact⟨rfl,true,E.1⟩
def iY(a b:Int)(d:Bool)(how:Int):Bool:=
 let q:=IntKind.u64.wrap (a.tdiv b);let r:=a.tmod b
 (r==0||how==3)||((how==1&& !d)||(how==2&&d))||(how==4&&(decide (IntKind.u64.wrap (2*r)<b)||(IntKind.u64.wrap (2*r)==b&&q.tmod 2==0)))
def uf(a b:Int)(d:Bool)(how:Int):Int:=bif iY a b d how then IntKind.u64.wrap (a.tdiv b)else IntKind.u64.wrap (IntKind.u64.wrap (a.tdiv b)+1)
end Go.Proofs.YtnnapanbbbcalaaGreatDoor
