/-
  Part 8 of the proof.
-/
import Derived.Test.YtjploedinjiflaaGreatDoorPi7
import Derived.WalkKit
import Derived.Lib.Bytealg
import Derived.Shelf.Sort.Plain
import Derived.Shelf.Slices.CompactS
import Derived.Shelf.Slices.In.SortNone
import Derived.Sort.OwnSorted
import Derived.LoopNIn
set_option linter.defProp false
namespace Go.Proofs.YtjploedinjiflaaGreatDoor
open Tryz
open Go.RowKit
set_option maxRecDepth 100000
def Mw(a b:so):Int:=Lib.compareBytes (bL a) (bL b)
def al5(a b:so)(w:Zy):Calls prog 223 #[.string a,.string b] w λe w'=>e= .returned (.int .i64 (Mw a b))/\w'=w:=by
 go_enter func223,ntmps223
 go_wp2
 rw[run_callFunc_extern func258 km km km (e:=Extern.BytealgCompare.compare) km,Lib.run_compareString];simp only[Result.andThen];rw[Oper.upon_value]
 go_wp2
 go_ret
 exact⟨rfl,rfl⟩
def amw(a b:so)(w:Zy):Calls prog 184 #[.string a,.string b] w λe w'=>e= .returned (.int .i64 (Mw a b))/\w'=w:=by
 go_enter func184,ntmps184
 go_wp2_with (go_at_call 223;refine(al5 _ _ _).mono ?_;rintro e w' ⟨rfl,rfl⟩)
 go_ret
 exact⟨rfl,rfl⟩
def aqR(a b:so):gq prog 184 [cd a,cd b] (·=Y (Mw a b)):=by
 refine⟨by kernel_rfl,λG w g m j l=> ?_⟩;have p:∃u v,g= #[u,v]:=⟨g[0]'(by rw[j];exact Zh rfl),g[1]'(by rw[j];exact Zh rfl),Array.ext j λi J q=>by
  match i,q with
  |0,_=>rfl
  |1,_=>rfl⟩
 obtain⟨u,v,rfl⟩:=p;have z:=(l 0 u _ rfl rfl).val;have E:=(l 1 v _ rfl rfl).val;subst z;subst E;refine(amw a b w).mono λe L F=> ?_;obtain⟨rfl,rfl⟩:=F;exact⟨_,G,_,_,rfl,cf.refl _ _ _,Zx _,m,.d (.v _),rfl,rfl⟩
open Go.RowKit Go.Shelf
set_option linter.unusedVariables false
def aot:Ren where
 f:=fun
  |190=>191
  |125=>232
  |258=>231
  |128=>269
  |129=>270
  |302=>260
  |303=>261
  |304=>262
  |305=>263
  |306=>264
  |307=>265
  |308=>266
  |309=>267
  |310=>268
  |333=>279
  |329=>280
  |330=>281
  |334=>282
  |335=>283
  |336=>284
  |344=>288
  |n=>n
 t:=fun
  |31=>22
  |9=>9
  |3=>3
  |46=>267
  |0=>0
  |51=>312
  |53=>235
  |4=>4
  |183=>305
  |182=>304
  |131=>210
  |5=>5
  |218=>323
  |222=>327
  |228=>342
  |229=>343
  |n=>n
 g:=λn=>n
def awr:Lays.n190 prog aot:=by
 constructor<;>first|kernel_rfl|(intro w;rfl)
def aqA:Ren where
 f:=fun
  |194=>192
  |n=>n
 t:=fun
  |31=>22
  |n=>n
 g:=λn=>n
def aap:Lays.n194 prog aqA:=by
 constructor<;>first|kernel_rfl|(intro w;rfl)
def jy(a:U so):U (U UInt8):=(a.map bL).mergeSort λx y=>decide (x<=y)
def jH(a:U so):U so:=(Lib.compact (jy a)).map λl=>⟨l.toArray⟩
def afN(ss:U so):(jy ss).length=ss.length:=by unfold jy;rw[List.length_mergeSort,Zw]
def atH(p:O Addr)(cap:Nat)(w:Zy):Calls prog 154 #[.slice p 0 cap] w λe w'=>e= .returned (.slice p 0 cap)/\w'=w:=by
 have a:Calls prog 191 #[.slice p 0 cap] w λe w'=>e= .returned (.tuple #[])/\w'=w:=Any.slices_Sort_string_none awr p cap w;have b:Calls prog 192 #[.slice p 0 cap] w λe w'=>e= .returned (.slice p 0 cap)/\w'=w:=Any.slices_Compact_string_empty aap p cap w
 go_enter func154,ntmps154
 go_wp2_with (first|(go_at_call 191;refine a.mono ?_;rintro e w' ⟨rfl,rfl⟩)|(go_at_call 192;refine b.mono ?_;rintro e w' ⟨rfl,rfl⟩))
 go_ret
 exact⟨rfl,rfl⟩
def avo{w:Zy}{g:Nat}{cur:Array oZ}{e:TypeId}{a:Nat×Nat}(b:w.heap[g]?=some (.cells cur e a))(i:Nat):w.cell? ⟨g,i,none⟩=cur[i]?:=by
 simp only[World.cell?,b,Option.isSome_none,Bool.false_eq_true,if_false]
def ac2(zs:U (U UInt8)):(Lib.compact zs).length<=zs.length:=by
 have h:∀m,(Lib.compactUpTo zs.toArray m).length<=m:=by
  intro m
  induction m with
  |zero=>exact Zx _
  |succ m a=>
   rw[Lib.compactUpTo_succ,Zi];split;{simp only[Zp,Zg];omega};{simp only[Zg];omega}
 exact h zs.length
def aoE(g cap:Nat)(a:U so)(cur:Array oZ)(w:Zy)(z:w.heap[g]?=some (.cells cur 9 (0,0)))(ht:cur.toList.take a.length=(a.map bL).map encStr)(hc:cur.size=cap)(kI:a.length<=cap)(hm:cap<=maxLen)(E:a.length<4611686018427387904):
 Calls prog 154 #[.slice (some ⟨g,0,none⟩) a.length cap] w λe w'=>e= .returned (.slice (some ⟨g,0,none⟩) (jH a).length cap)/\w.grownBy w' (some g)/\∀(i:Nat)(s:so),(jH a)[i]?=some s->w'.cell? ⟨g,i,none⟩=some (.string s):=by
 have hg:g<w.heap.size:=(ZP.1 z).1;have F:=afN a;obtain⟨p,m⟩:∃p:Zy->Prop,p=λw'=>∃n os,w'=Sort.grow (Sort.putRow encStr (Sort.ahead w n) g 0 (jy a).toArray) os:=⟨_,rfl⟩;have h1:Calls prog 191 #[.slice (some ⟨g,0,none⟩) a.length cap] w λe w'=>e= .returned (.tuple #[])/\p w':=by
  have h:=Any.slices_Sort_string awr g 0 cap (a.map bL) w (holds_of_block z (by rw[Zw];exact ht)) hg (by rw[Zw];exact E);rw[Zw]at h;rw[m];exact h
 have h2:∀b,p b->Calls prog 192 #[.slice (some ⟨g,0,none⟩) a.length cap] b λe w'=>e= .returned (.slice (some ⟨g,0,none⟩) (jH a).length cap)/\(w.grownBy w' (some g)/\∀(i:Nat)(s:so),(jH a)[i]?=some s->w'.cell? ⟨g,i,none⟩=some (.string s)):=by
  intro b N;rw[m]at N;obtain⟨n,os,rfl⟩:=N;have S:=heap_sorted (n:=n) (os:=os) (jy a).toArray z;have D5:=grownBy_sorted (w:=w) (g:=g) (n:=n) (os:=os) (jy a).toArray;have fW:(Sort.putCells encStr 0 (jy a).toArray cur).size=cur.size:=by simp [Sort.putCells]
  have J:=take_putCells cur (jy a) k7;generalize Sort.grow (Sort.putRow encStr (Sort.ahead w n) g 0 (jy a).toArray) os=b at*;generalize Sort.putCells encStr 0 (jy a).toArray cur=abd at*;have h:=Any.slices_Compact_string aap g 0 cap (jy a) b (holds_of_block S J) (by unfold maxLen at hm;omega) k7;rw[F]at h;refine h.mono λe w' hp=> ?_;obtain⟨rfl,q,rfl⟩:=hp;have u:(jH a).length=(Lib.compact (jy a)).length:=by unfold jH;rw[Zw]
  refine⟨by rw[u],?_⟩;obtain⟨d,L⟩:∃d,d=Lib.compact (jy a)++List.replicate (a.length-(Lib.compact (jy a)).length) []:=⟨_,rfl⟩;rw[<-L];have rF:d.length<=abd.size:=by
   have:=ac2 (jy a);rw[L,Zi,Ym];omega
  have Dt:=grownBy_sorted (w:=b) (g:=g) (n:=q) (os:= #[]) d.toArray;have T:=heap_sorted (n:=q) (os:= #[]) d.toArray S;rw[Sort.grow_empty]at Dt T;have M:=take_putCells abd d rF;refine⟨⟨Dt.os.trans D5.os,Dt.tape.trans D5.tape,Dt.output.trans D5.output,Ze D5.size Dt.size,λk u W=>(Dt.block k (ZO u D5.size) W).trans (D5.block k u W)⟩,λi s j=> ?_⟩;rw[avo T i];unfold jH at j;rw[Zm]at j;cases v:(Lib.compact (jy a))[i]? with
  |none=>rw[v]at j;cases j
  |some l=>
   rw[v]at j;cases j;have jT:=(Zj.1 v).1;have hy:d[i]?=some l:=by rw[L,ZT jT];exact v
   have:=congrArg (λl:U oZ=>l[i]?) M;rw[List.getElem?_take_of_lt (Zj.1 hy).1,Zm,hy,ZL]at this;exact this
 go_enter func154,ntmps154
 go_wp2_with (first|(go_at_call 191;refine h1.mono ?_;rintro e b ⟨rfl,P1⟩)|(go_at_call 192;refine(h2 _ P1).mono ?_;rintro e w2 ⟨rfl,Xn⟩))
 go_ret
 exact⟨rfl,Xn⟩
def amM:jH []=[]:=by kernel_rfl
def abG{G:Gh}{w:Zy}{B:ao}(hi:cp G w [B]):cp G w [.gone]:=by
 refine⟨hi.len,hi.z,hi.S,λn C a=> ?_,λm n b d e=> ?_,hi.gl⟩
 ·match n,a with
  |0,a=>cases a;exact trivial
  |n+1,a=>simp at a
 ·match m,d with
  |0,d=>cases d
  |m+1,d=>simp [cu]at d
def amj{xs:U so}{L:Nat}(hL:xs.length=L)(hsz:L<4611686018427387904):
 da prog 154 [.vec 0 0 L L 1] [.vec 9 1 (bf (bQ xs))] λr1 h1=>r1= .d (.sl (bQ (jH xs)))/\h1=[.gone]:=by
 refine⟨by kernel_rfl,λG w vs p hvs hr=> ?_⟩;have qY:([ao.vec 9 1 (bf (bQ xs))]:U ao)[0]?=some (.vec 9 1 (bf (bQ xs))):=rfl;have M:(bf (bQ xs)).length=L:=by rw[qC,jt,hL]
 obtain⟨v0,rfl⟩:∃v0,vs= #[v0]:=by
  obtain⟨l⟩:=vs
  match l,hvs with
  |[a],_=>exact⟨a,rfl⟩
 have r0:=hr 0 v0 _ rfl rfl;obtain⟨yi,⟨A,T,rfl,q2,q3,q4,q5⟩,_⟩:=r0.ud p qY M;by_cases h0:L=0;{subst h0;obtain rfl:xs=[]:=VC hL;refine(atH A T w).mono λe w' J=> ?_;obtain⟨rfl,rfl⟩:=J;refine⟨_,G,_,_,rfl,cf.refl _ _ _,Zx _,abG p,?_,rfl,rfl⟩;rw[amM];exact .d (.sl A 0 0 T 1 [] (λ_ _=>undef) (λh=>absurd rfl h) (Wl _) q3 (λ_ h=>by cases h) (λ_ _ h=>absurd h (ZJ _)) λ_ _ _ _ h=>by simp at h)}
 ·obtain⟨g,cap,s1,rfl,s3⟩:=q5 k7;obtain⟨g',Ab,cur,t1,t2,t3,t4,t5,t6,t7,t8,t9⟩:=Ah p qY (λe=>by rw[e]at M;simp at M;omega);rw[t2,M]at s1;cases s1
  have TD:T=cap:=by omega
  subst TD;rw[M]at t5;rw[Nat.mul_one]at t7;have hg:g<w.heap.size:=(ZP.1 t4).1;have ht:cur.toList.take xs.length=(xs.map bL).map encStr:=by
   apply List.ext_getElem?;intro j;by_cases hj:j<xs.length
   ·have q:xs[j]?=some xs[j]:=Zd hj;have W:j<cur.size:=by omega
    have E:cur[j*1+0]?=some cur[j]:=by rw[Nat.mul_one,Nat.add_zero];exact ZI W
    have:=(t9 j 0 [.d (.v (.string xs[j]))] (.d (.v (.string xs[j]))) cur[j] (DE (rM q)) rfl E).val;rw[List.getElem?_take_of_lt hj,ZL,ZI W,this,Zm,Zm,q];rfl
   ·rw[List.getElem?_take_eq_none k7,Z1 (by simp;omega)]
  have hw:=aoE g T xs cur w t4 ht t7 k7 t6 k7;rw[hL]at hw;rw[show(⟨g,0*1,none⟩:Addr)=⟨g,0,none⟩from rfl];refine hw.mono λe w' J=> ?_;obtain⟨rfl,gb,ia⟩:=J;have hK:(jH xs).length<=L:=by
   have:=ac2 (jy xs);rw[afN]at this;unfold jH;rw[Zw];omega
  have hE:cf G.N G w (G.sx g (jH xs).length) w':=
   ⟨gb.size,λ_ _ h=>.inl h,λb o F=>by
    have cV:some b≠some g:=λe=>by cases e;exact t8 o F
    unfold World.cell?;rw[gb.block b (p.S b o F) cV],λ_ _=>rfl,λ_ _=>.inl ⟨rfl,rfl⟩,iJ rfl,λb hb=>gb.block b (p.z b hb) (λe=>by cases e;exact t3 hb),gb.os,gb.tape,gb.output,λb o F=>F.imp id fun⟨e,_⟩ hz=>t3 (e▸hz)⟩
  have hI:cp (G.sx g (jH xs).length) w' [.gone]:=by
   have hi:=abG p;refine⟨hi.len,λb hb=>ZO (hi.z b hb) gb.size,λb o F=> ?_,λn C hC=> ?_,λm n b h1 h2=> ?_,hi.gl.keep hE⟩
   ·rcases F with F|⟨rfl,_⟩
    ·exact ZO (hi.S b o F) gb.size
    ·exact ZO hg gb.size
   ·match n,hC with
    |0,hC=>cases hC;exact trivial
    |n+1,hC=>simp at hC
   ·match m,h1 with
    |0,h1=>cases h1
    |m+1,h1=>simp [cu]at h1
  have zh:Rd (G.sx g (jH xs).length).S w' 1 (bQ (jH xs)) ((jH xs).map Value.string):=
   ⟨by rw[Zw,jt,Nat.mul_one],λx q=>(by rw[pc]at q;obtain⟨y,_,rfl⟩:=UZ.1 q;rfl),λu E=>(by obtain⟨y,_,rfl⟩:=UZ.1 E;rfl),λi j x d q hd=>by
    rw[pc,Zm]at q;cases hk:(jH xs)[i]? with
    |none=>rw[hk]at q;cases q
    |some y=>
     rw[hk]at q;cases q;cases j with
     |zero=>cases hd;exact⟨.string y,by rw[Nat.mul_one,Nat.add_zero,Zm,hk];rfl,.v _⟩
     |succ j=>cases hd⟩
  have J:=zh.JD g T (by rw[jt];omega) t6 (λo ho=>.inr ⟨rfl,by rw[jt,Nat.mul_one]at ho;exact ho⟩) (λo u E=>by
   rw[Zm]at E;cases hq:(jH xs)[o]? with
   |none=>rw[hq]at E;cases E
   |some y=>rw[hq]at E;cases E;exact ia o y hq)
  rw[jt]at J;exact⟨_,_,_,_,rfl,hE,Zx _,hI,.d J,rfl,rfl⟩
set_option linter.unusedSimpArgs false
structure DL{α:Type}(f:List α->List (List D))(k:Nat):Prop where
 len:∀l,(f l).length=l.length
 all:∀l,∀c∈f l,c.length=k
 app:∀a b,f a++f b=f (a++b)
section
variable {P:eG} {α:Type} {f:U α->U (U D)} {k dc:Nat}
def MA{n:Nat}(a:0<dc)(h:Nat.ble (n*dc) 140737488355328=true):n<=maxLen/\n*dc<=140737488355328:=by
 have b:=Zh h;have d:n*1<=n*dc:=Nat.mul_le_mul_left n a;refine⟨?_,b⟩;unfold maxLen;omega
def oA(F:DL f k)(A B:U α)(h:Nat.ble ((A.length+B.length)*dc) 140737488355328=true)(a:0<dc:=by decide):Ob P:=
 ⟨_,_,.app (xs:=f A) (ys:=f B) (zs:=f (A++B)) (len:=A.length) (n:=(A++B).length) (F.len A).symm (F.all A) (F.all B) (by rw[F.len,F.len];exact(MA a h).1) (by rw[F.len,F.len];exact(MA a h).2) (F.app A B) (by rw[F.len,F.len,Zi])⟩
def awq(F:DL f k)(B:U α)(h:Nat.ble ((0+B.length)*dc) 140737488355328=true)(a:0<dc:=by decide):Ob P:=
 ⟨_,_,.app (xs:=[]) (ys:=f B) (zs:=f B) (len:=0) (n:=B.length) rfl (λ_ b=>absurd b Yt) (F.all B) (by rw[F.len];exact(MA a h).1) (by rw[F.len];exact(MA a h).2) rfl (by rw[F.len];exact ZQ _)⟩
end
section
variable {P:eG} {f:FuncId} {fD:U AV} {H H':U ao} {r:AV}
def oQ(nw:U AV)(h:U ao)(l:U Nat)(a:da P f fD H λb h1=>b=r/\h1=H)(d:nw=fD.map (AV.ba (rn l 0)):=by kernel_rfl)(e:sr l=true:=by kernel_rfl)(g:l.map (λj=>h[j]?)=H.map (λB=>some (B.ba (rn l 0))):=by kernel_rfl)(i:(fD.all (AV.aN H.length)&&H.all (ao.aN H.length)&&r.aN H.length)=true:=by kernel_rfl):Ob P:=⟨_,_,.rq d e g i a⟩
def oR(nw:U AV)(h:U ao)(l:U Nat)(a:da P f fD H λb h1=>b=r/\h1=H')(d:nw=fD.map (AV.ba (rn l h.length)):=by kernel_rfl)(e:sr l=true:=by kernel_rfl)(g:l.map (λj=>h[j]?)=H.map (λB=>some (B.ba (rn l h.length))):=by kernel_rfl)(i:(fD.all (AV.aN H.length)&&H.all (ao.aN H.length))=true:=by kernel_rfl):Ob P:=⟨_,_,.pR d e g i a⟩
def oX(a:VD H)(b:VD H')(nw:U AV)(h:U ao)(l:U Nat)(d:da P f fD H λe h1=>e=r/\h1=H')(g:nw=fD.map (AV.ba (rn l h.length)):=by kernel_rfl)(i:sr l=true:=by kernel_rfl)(m:l.map (λj=>h[j]?)=H.map (λB=>some (B.tO (rn l h.length))):=by kernel_rfl)(p:(fD.all (AV.aN H.length)&&H.all (ao.yo H.length))=true:=by kernel_rfl):Ob P:=⟨_,_,.Om a b g i m p d⟩
end
section
variable {P:eG} {r:O Nat} {N0:Nat} {Q:Exit->St->Prop} {w0:WO}
def zc{α:Type}{f:U α->U (U D)}{z:Nat}(F:DL f z)(k:Nat)(l:U α)(h:l.length<=maxLen->GW P r N0 Q w0)(a:(bE (wS w0).t k).gV=some (f l):=by kernel_rfl):GW P r N0 Q w0:=
 asp k (f l) a λe=>h (tX (F.len l) e)
def ajG{α:Type}{f:U α->U (U D)}{z:Nat}(F:DL f z)(b i:Nat)(l:U α)(h:l.length<=maxLen->GW P r N0 Q w0)(a:(((wS w0).h[b]?).bind λB=>match B with| .cells cs=>(cs[i]?).bind AV.gV|_=>none)=some (f l):=by kernel_rfl):GW P r N0 Q w0:=
 agb b i (f l) a λe=>h (tX (F.len l) e)
structure qG{α ι R:Type}(k:Nat)(live:List Nat)(m:Nat)(L:List α)(st:Nat->ι->St)(G:List α->Nat->ι->Option R)(rr:R)(n:Nat)(x:α)(l:List α)(i:ι)(f:St->Prop):Prop where
 h:NL k live m (λz:Nat×List α×ι=>st z.1 z.2.2) (λz=>L.drop z.1=z.2.1/\G z.2.1 z.1 z.2.2=some rr) (λz=>z.2.1.length) (n,x::l,i) f
structure wI{ι R:Type}(k:Nat)(live:List Nat)(m:Nat)(st:ι->St)(G:Nat->ι->Option R)(rr:R)(d:Nat)(f:St->Prop):Prop where
 h:∀i,NL k live m (λz:Nat×ι=>st z.2) (λz=>G z.1 z.2=some rr) (λz=>z.1) (d+1,i) f
def NS(p:P.follows .mixedOrders=true){α ι R:Type}{rr:R}(k:Nat)(a:U (U (Nat×Ob P)))(live:U Nat)(m:Nat)(L:U α)(b:Nat->ι->St)(G:U α->Nat->ι->O R)(d:ι)(q:G L 0 d=some rr)
 (nil:∀n i,L.drop n=[]->G [] n i=some rr->∀f:St->Prop,GW P r N0 Q (ik k f (b n i) (wk P w0 a)))
 (cons:∀n x l i,L.drop n=x::l->G (x::l) n i=some rr->∀f:St->Prop,qG k live m L b G rr n x l i f->GW P r N0 Q (ik k f (b n i) (wk P w0 a)))
 (u:N0<=m) (e:nb live m (wk P w0 a)=some (b 0 d,eE a)):GW P r N0 Q w0:=by
 refine J5 p k a live m (λz:Nat×U α×ι=>b z.1 z.2.2) (λz=>L.drop z.1=z.2.1/\G z.2.1 z.1 z.2.2=some rr) (λz=>z.2.1.length) (0,L,d) ⟨rfl,q⟩ (λz v f w=> ?_) u e;obtain⟨n,l,i⟩:=z;obtain⟨g,j⟩:=v;cases l with
 |nil=>exact nil n i g j f
 |cons x l=>exact cons n x l i g j f ⟨w⟩
def alX(d:P.follows .mixedOrders=true){α ι R:Type}{rr:R}{live:U Nat}{m k:Nat}{L:U α}{b:Nat->ι->St}{G:U α->Nat->ι->O R}{n:Nat}{x:α}{l:U α}{i:ι}{f:St->Prop}(g:qG k live m L b G rr n x l i f)(j:ι)(a:U (U (Nat×Ob P)))(p:L.drop n=x::l)(q:G l (n+1) j=some rr)(u:lg k (wK w0)=[f])(e:sq k live m (wk P w0 a)=some (b (n+1) j,eE a)):GW P r N0 Q w0:=
 DY d g.h (n+1,l,j) a ⟨kG p,q⟩ (ZC _) u e
def ah1(p:P.follows .mixedOrders=true){ι R:Type}{rr:R}(k:Nat)(a:U (U (Nat×Ob P)))(live:U Nat)(m:Nat)(b:ι->St)(G:Nat->ι->O R)(d:Nat)(g:ι)(q:G d g=some rr)(u:∀i,G 0 i=none)
 (succ:∀d i,G (d+1) i=some rr->∀f:St->Prop,wI k live m b G rr d f->GW P r N0 Q (ik k f (b i) (wk P w0 a)))
 (v:N0<=m) (e:nb live m (wk P w0 a)=some (b g,eE a)):GW P r N0 Q w0:=by
 refine J5 p k a live m (λz:Nat×ι=>b z.2) (λz=>G z.1 z.2=some rr) (λz=>z.1) (d,g) q (λz l f w=> ?_) v e;obtain⟨d,i⟩:=z;cases d with
 |zero=>exact absurd ((u i).symm.trans l) gj
 |succ d=>exact succ d i l f ⟨λj=>⟨λE F J L M=>w.h E F J L M⟩⟩
def al6(g:P.follows .mixedOrders=true){ι R:Type}{rr:R}{live:U Nat}{m k:Nat}{b:ι->St}{G:Nat->ι->O R}{d:Nat}{f:St->Prop}(i:wI k live m b G rr d f)(j:ι)(a:U (U (Nat×Ob P)))(l:G d j=some rr)(p:lg k (wK w0)=[f])(e:sq k live m (wk P w0 a)=some (b j,eE a)):GW P r N0 Q w0:=
 DY g (i.h j) (d,j) a l (ZC _) p e
def QY{P:eG}{f:FuncId}{fn:Func}{args:U AV}{R:AV}(a:P.funcs[f]?=some fn)(b:GW P none 0 (mq P fn R) (DR fn args []))(d:fn.body.isSome=true:=by kernel_rfl)(e:(fn.name== "runtime.NumGoroutine")=false:=by kernel_rfl):gq P f args (·=R):=atx a d e b
def AN{P:eG}{f:FuncId}{fn:Func}{args:U AV}{h H:U ao}{R:AV}(m:Nat)(a:P.funcs[f]?=some fn)(b:GW P none h.length (wL P fn m R H) (DR fn args h))(d:fn.body.isSome=true:=by kernel_rfl)(e:(fn.name== "runtime.NumGoroutine")=false:=by kernel_rfl)(g:h.length<=m:=by exact Zh rfl):da P f args h λi h1=>i=R/\h1=H:=auI m a d e g b
variable {α A B C D' R:Type} {rr:R}
def wl0(i:P.follows .mixedOrders=true)(k:Nat)(a:U (U (Nat×Ob P)))(live:U Nat)(m:Nat)(L:U α)(b:Nat->St)(G:U α->Nat->O R)(j:G L 0=some rr)
 (g:∀n,L.drop n=[]->G [] n=some rr->∀f:St->Prop,GW P r N0 Q (ik k f (b n) (wk P w0 a)))
 (d:∀n x l,L.drop n=x::l->G (x::l) n=some rr->∀f:St->Prop,qG k live m L (λn(_:Unit)=>b n) (λl n _=>G l n) rr n x l () f->GW P r N0 Q (ik k f (b n) (wk P w0 a)))
 (p:N0<=m:=by exact Zh rfl) (e:nb live m (wk P w0 a)=some (b 0,eE a):=by kernel_rfl):GW P r N0 Q w0:=
 NS i k a live m L (λn(_:Unit)=>b n) (λl n _=>G l n) () j (λn _=>g n) (λn x l _=>d n x l) p e
def TP(j:P.follows .mixedOrders=true)(k:Nat)(b:U (U (Nat×Ob P)))(live:U Nat)(m:Nat)(L:U α)(d:Nat->A->St)(G:U α->Nat->A->O R)(a0:A)(p:G L 0 a0=some rr)
 (i:∀n a,L.drop n=[]->G [] n a=some rr->∀f:St->Prop,GW P r N0 Q (ik k f (d n a) (wk P w0 b)))
 (g:∀n x l a,L.drop n=x::l->G (x::l) n a=some rr->∀f:St->Prop,qG k live m L d G rr n x l a f->GW P r N0 Q (ik k f (d n a) (wk P w0 b)))
 (q:N0<=m:=by exact Zh rfl) (e:nb live m (wk P w0 b)=some (d 0 a0,eE b):=by kernel_rfl):GW P r N0 Q w0:=
 NS j k b live m L d G a0 p i g q e
def wl2(u:P.follows .mixedOrders=true)(k:Nat)(d:U (U (Nat×Ob P)))(live:U Nat)(m:Nat)(L:U α)(g:Nat->A->B->St)(G:U α->Nat->A->B->O R)(a0:A)(p:B)(v:G L 0 a0 p=some rr)
 (q:∀n a b,L.drop n=[]->G [] n a b=some rr->∀f:St->Prop,GW P r N0 Q (ik k f (g n a b) (wk P w0 d)))
 (j:∀n x l a b,L.drop n=x::l->G (x::l) n a b=some rr->∀f:St->Prop,qG k live m L (λn(i:A×B)=>g n i.1 i.2) (λl n i=>G l n i.1 i.2) rr n x l (a,b) f->GW P r N0 Q (ik k f (g n a b) (wk P w0 d)))
 (w:N0<=m:=by exact Zh rfl) (e:nb live m (wk P w0 d)=some (g 0 a0 p,eE d):=by kernel_rfl):GW P r N0 Q w0:=
 NS u k d live m L (λn(i:A×B)=>g n i.1 i.2) (λl n i=>G l n i.1 i.2) (a0,p) v (λn i=>q n i.1 i.2) (λn x l i=>j n x l i.1 i.2) w e
def wl3(v:P.follows .mixedOrders=true)(k:Nat)(d:U (U (Nat×Ob P)))(live:U Nat)(m:Nat)(L:U α)(g:Nat->A->B->C->St)(G:U α->Nat->A->B->C->O R)(a0:A)(p:B)(q:C)(w:G L 0 a0 p q=some rr)
 (u:∀n a b c,L.drop n=[]->G [] n a b c=some rr->∀f:St->Prop,GW P r N0 Q (ik k f (g n a b c) (wk P w0 d)))
 (j:∀n x l a b c,L.drop n=x::l->G (x::l) n a b c=some rr->∀f:St->Prop,qG k live m L (λn(i:A×B×C)=>g n i.1 i.2.1 i.2.2) (λl n i=>G l n i.1 i.2.1 i.2.2) rr n x l (a,b,c) f->GW P r N0 Q (ik k f (g n a b c) (wk P w0 d)))
 (z:N0<=m:=by exact Zh rfl) (e:nb live m (wk P w0 d)=some (g 0 a0 p q,eE d):=by kernel_rfl):GW P r N0 Q w0:=
 NS v k d live m L (λn(i:A×B×C)=>g n i.1 i.2.1 i.2.2) (λl n i=>G l n i.1 i.2.1 i.2.2) (a0,p,q) w (λn i=>u n i.1 i.2.1 i.2.2) (λn x l i=>j n x l i.1 i.2.1 i.2.2) z e
def wb(d:P.follows .mixedOrders=true){ι:Type}{live:U Nat}{m k:Nat}{L:U α}{b:Nat->ι->St}{G:U α->Nat->ι->O R}{n:Nat}{x:α}{l:U α}{i:ι}{f:St->Prop}(g:qG k live m L b G rr n x l i f)(j:ι)(a:U (U (Nat×Ob P)))(p:L.drop n=x::l)(q:G l (n+1) j=some rr)(u:lg k (wK w0)=[f]:=by kernel_rfl)(e:sq k live m (wk P w0 a)=some (b (n+1) j,eE a):=by kernel_rfl):GW P r N0 Q w0:=alX d g j a p q u e
def wf1(j:P.follows .mixedOrders=true)(k:Nat)(g:U (U (Nat×Ob P)))(live:U Nat)(m:Nat)(i:A->St)(G:Nat->A->O R)(d:Nat)(a0:A)(l:G d a0=some rr)
 (b:∀d a,G (d+1) a=some rr->∀f:St->Prop,wI k live m i G rr d f->GW P r N0 Q (ik k f (i a) (wk P w0 g))) (p:∀a,G 0 a=none:=by intros;rfl)
 (q:N0<=m:=by exact Zh rfl) (e:nb live m (wk P w0 g)=some (i a0,eE g):=by kernel_rfl):GW P r N0 Q w0:=
 ah1 j k g live m i G d a0 l p b q e
def wf2(q:P.follows .mixedOrders=true)(k:Nat)(j:U (U (Nat×Ob P)))(live:U Nat)(m:Nat)(l:A->B->St)(G:Nat->A->B->O R)(d:Nat)(a0:A)(p:B)(u:G d a0 p=some rr)
 (g:∀d a b,G (d+1) a b=some rr->∀f:St->Prop,wI k live m (λ(i:A×B)=>l i.1 i.2) (λd i=>G d i.1 i.2) rr d f->GW P r N0 Q (ik k f (l a b) (wk P w0 j))) (v:∀a b,G 0 a b=none:=by intros;rfl)
 (w:N0<=m:=by exact Zh rfl) (e:nb live m (wk P w0 j)=some (l a0 p,eE j):=by kernel_rfl):GW P r N0 Q w0:=
 ah1 q k j live m (λ(i:A×B)=>l i.1 i.2) (λd i=>G d i.1 i.2) d (a0,p) u (λi=>v i.1 i.2) (λd i=>g d i.1 i.2) w e
def wbf(g:P.follows .mixedOrders=true){ι:Type}{live:U Nat}{m k:Nat}{b:ι->St}{G:Nat->ι->O R}{d:Nat}{f:St->Prop}(i:wI k live m b G rr d f)(j:ι)(a:U (U (Nat×Ob P)))(l:G d j=some rr)(p:lg k (wK w0)=[f]:=by kernel_rfl)(e:sq k live m (wk P w0 a)=some (b j,eE a):=by kernel_rfl):GW P r N0 Q w0:=al6 g i j a l p e
def C7(g:Nat)(t:O Nat):U Oper->Nat->U Nat
 |[],_=>[]
 |o::l,j=>match o.guard with
  |some (a,_)=>bif a==g then(3*j)::C7 g t l (j+1)else C7 g t l (j+1)
  |none=>match o.op,t with
   | .pick (.tmp c) _ _,some b=>bif c==b then(3*j+1)::C7 g t l (j+1)else C7 g t l (j+1)
   |_,_=>C7 g t l (j+1)
def alM(l:U Oper)(g:Nat):O Nat:=match l[g]? with
 |some o=>o.dst
 |none=>none
def M8:WO->U Oper
 |some (.at (.region _ ops _) _ _,_)=>ops.toList
 |_=>[]
noncomputable def Oa(ops:U Oper)(a b:U (Nat×Ob P)):U (Nat×Ob P):=aak (a.foldr (λx t=>os (C7 x.1 (alM ops x.1) ops 0) x.2 t) b)
def yc(d:P.follows .mixedOrders=true)(Δ:U (Nat×AV))(h':U ao)(e:∃a b:U (Nat×Ob P),Pr P (Δ.map (·.1)) (j9 (Oa (M8 (wk P w0 [])) a b)) (wk P w0 [])=some (Δ,h',kr (Oa (M8 (wk P w0 [])) a b)))(k:GW P r N0 Q (wj Δ h' (wk P w0 [])))(e0:uS (wk P w0 [])=some []:=by kernel_rfl):GW P r N0 Q w0:=
 an3 d Δ h' (let ⟨_,_,h⟩:=e;⟨_,h⟩) k e0
def wj0(d:P.follows .mixedOrders=true)(rr:R)(k:Nat)(a:U (U (Nat×Ob P)))(live:U Nat)(m:Nat)(b:St)(G:O R)
 (g:∀f:St->Prop,y7 k live m (λ(_:Unit)=>b) (λ_=>G=some rr) f->GW P r N0 Q (A7 k f (wk P w0 a)))
 (rest:G=some rr->GW P r N0 Q (yC b (wk P w0 a))) (i:N0<=m:=by exact Zh rfl) (e:vN (wk P w0 a)=some (eE a):=by kernel_rfl):GW P r N0 Q w0:=
 RJ d k a live m (λ(_:Unit)=>b) (λ_=>G=some rr) g (λ_=>rest) i e
def GO(g:P.follows .mixedOrders=true)(rr:R)(k:Nat)(b:U (U (Nat×Ob P)))(live:U Nat)(m:Nat)(d:A->St)(G:A->O R)
 (i:∀f:St->Prop,y7 k live m d (λa=>G a=some rr) f->GW P r N0 Q (A7 k f (wk P w0 b)))
 (rest:∀a,G a=some rr->GW P r N0 Q (yC (d a) (wk P w0 b))) (j:N0<=m:=by exact Zh rfl) (e:vN (wk P w0 b)=some (eE b):=by kernel_rfl):GW P r N0 Q w0:=
 RJ g k b live m d (λa=>G a=some rr) i rest j e
def tr(i j n:Nat):Nat:=bif n==i then j else bif n==j then i else n
def awp(i j n:Nat):tr i j (tr i j n)=n:=by
 unfold tr;cases b:n==i with
 |true=>
  rw[TC]at b;subst b;simp only[Tj];cases a:j==n with
  |true=>rw[TC]at a;subst a;rfl
  |false=>rw[Z3];rfl
 |false=>
  simp only[Tf];cases a:n==j with
  |true=>rw[TC]at a;subst a;simp only[Tj];rw[Z3];rfl
  |false=>simp only[Tf];rw[b,a];rfl
def acu{i j n k:Nat}(hi:i<k)(a:j<k)(b:n<k):tr i j n<k:=by
 unfold tr;cases n==i with
 |true=>exact a
 |false=>cases n==j with
  |true=>exact hi
  |false=>exact b
def WX(i j:Nat)(h:U ao):U ao:=match h[i]?,h[j]? with
 |some a,some b=>((h.set i b).set j a).map (ao.ba (tr i j))
 |_,_=>h
def swS(i j:Nat)(s:St):St:=⟨s.n,s.t.map (λp=>(p.1,p.2.ba (tr i j))),WX i j s.h⟩
def ahN(f:AV->AV)(a:f .dead= .dead):∀(t:U (Nat×AV))(i:Nat),bE (t.map λp=>(p.1,f p.2)) i=f (bE t i)
 |[],i=>by rw[ai];show AV.dead=f .dead;rw[a]
 |(k,x)::t,i=>by
  rw[ZY,mN,mN,ahN f a t i];by_cases h:i=k;{rw[ae h,ae h]};{rw[af h,af h]}
def aae{i j:Nat}{s:St}(hi:i<s.h.length)(b:j<s.h.length)(p:N0<=i)(q:N0<=j):j6 N0 s (swS i j s):=by
 have g:s.h[i]?=some s.h[i]:=Zd hi;have l:s.h[j]?=some s.h[j]:=Zd b;have m:(swS i j s).h=((s.h.set i s.h[j]).set j s.h[i]).map (ao.ba (tr i j)):=by
  show WX i j s.h=_;unfold WX;rw[g,l]
 refine j6.ba (tr i j) (tr i j) rfl (by rw[m];simp) (λn a=>acu hi b a) (λn a=>acu hi b a) (λn _=>awp i j n) (λn _=>awp i j n) (λn a=> ?_) (λn _=>.inl ?_) λn a=> ?_
 ·unfold tr;rw[show(n==i)=false from Tn.2 k7,show(n==j)=false from Tn.2 k7];rfl
 ·exact ahN (λx=>x.ba (tr i j)) rfl s.t n
 ·rw[m,Zm];refine congrArg (Option.map _) ?_;unfold tr;cases d:n==i with
  |true=>
   rw[TC]at d;subst d;simp only[Tj];rw[ZB (by rw[Zf];exact b),g]
  |false=>
   simp only[Tf];have u:=Tn.1 d;cases e:n==j with
   |true=>
    rw[TC]at e;subst e;simp only[Tj];rw[Z7 k7,ZB hi,l]
   |false=>
    have v:=Tn.1 e;simp only[Tf];rw[Z7 k7,Z7 k7]
def awo{c:Code}{s s':St}(h:j6 N0 s s')(k:bM P r N0 c Q s'):bM P r N0 c Q s:=⟨λG w a n b d=>by
 obtain⟨e,g,i,j⟩:=h G w a d b;exact wpIn_mono (k.run e w a n j i) λ_ _ _ l=>l.trans g⟩
end
def tR:DL bQ 1:=⟨λ_=>jt,λ_=>E8,λ_ _=>atD⟩
def o6:DL bN 1:=⟨λ_=>ig,λ_=>JL,λ_ _=>ajL⟩
def rm:DL cY 2:=⟨λ_=>fO,λ_=>CB,λ_ _=>anv⟩
def IM:DL bz 2:=⟨λ_=>yQ,λ_=>atK,λ_ _=>ajl⟩
def CJ:DL fa 2:=⟨λ_=>nK,λ_=>W3,λ_ _=>asd⟩
def aoi:DL qI 5:=⟨λ_=>arQ,λ_=>amI,λ_ _=>anM⟩
def E5:DL dP 3:=⟨λ_=>ql,λ_=>amf,λ_ _=>aof⟩
def ny:DL dF 2:=⟨λ_=>fJ,λ_=>agL,λ_ _=>aoL⟩
def qD:DL dC 3:=⟨λ_=>kt,λ_=>aqb,λ_ _=>auV⟩
def Gg:DL bG 8:=⟨λ_=>A9,λ_=>atf,λ_ _=>aor⟩
def awn:DL qF 1:=⟨λ_=>Ue,λ_=>aqz,λ_ _=>amL⟩
def Fs:DL dA 7:=⟨λ_=>pe,λ_=>at5,λ_ _=>akk⟩
def po:DL cg 4:=⟨λ_=>gv,λ_=>ahm,λ_ _=>amn⟩
def qi:DL eH 13:=⟨λ_=>iM,λ_=>ag5,λ_ _=>atQ⟩
def Ci:DL dy 22:=⟨λ_=>kO,λ_=>RW,λ_ _=>ajT⟩
abbrev KF(f:FuncId)(args:U AV)(R:AV):Prop:=gq prog f args (·=R)
abbrev KH(f:FuncId)(args:U AV)(h:U ao)(R:AV)(H:U ao):Prop:=da prog f args h λa b=>a=R/\b=H
def KO{α:Type}(f:FuncId)(args:U AV)(a:α->AV)(o:O α):Prop:=∀r:α,o=some r->KF f args (a r)
def KP{α:Type}(f:FuncId)(args:U AV)(h:U ao)(a:α->AV)(b:α->U ao)(o:O α):Prop:=∀r:α,o=some r->KH f args h (a r) (b r)
def cK{α:Type}{f:FuncId}{args:U AV}{a:α->AV}{o:O α}{r:α}(k:KO f args a o)(h:o=some r):Ob prog:=cL (k r h)
def IE{α:Type}(o:O α)(G:α->Prop):Prop:=∀v,o=some v->G v
section
variable {α β:Type} {x:O α} {G:α->Prop}
def ay{x:O β}{f:β->O α}(k:∀a,x=some a->IE (f a) G):IE (Option.bind x f) G:=λv h=>
 have ⟨a,b,d⟩:=bJ h
 k a b v d
def dW{c:Bool}(k:c=true->IE x G):IE (bif c then x else none) G:=λv h=>
 have ⟨a,b⟩:=kA h
 k a v b
def aC{c:Bool}{a b:O α}(t:c=true->IE a G)(f:c=false->IE b G):IE (bif c then a else b) G:=λv h=>bc h (λi j=>t i v j) λi j=>f i v j
def gE{α β γ:Type}{Φ:α->β->γ->Prop}{x:γ}(a:α)(b:β)(k:Φ a b x:=by kernel_rfl):IE (some x) λy=>∃a b,Φ a b y:=λv h=>sj h▸⟨a,b,k⟩
def dH{α β γ:Type}{Φ:α->U β->γ->Prop}{o:O γ}(x:β)(k:IE o λy=>∃a b,Φ a (x::b) y):IE o λy=>∃a b,Φ a b y:=λv h=>
 have ⟨a,b,c⟩:=k v h
 ⟨a,x::b,c⟩
def dS{α β γ:Type}{Φ:U α->β->γ->Prop}{o:O γ}(x:α)(k:IE o λy=>∃a b,Φ (x::a) b y):IE o λy=>∃a b,Φ a b y:=λv h=>
 have ⟨a,b,c⟩:=k v h
 ⟨x::a,b,c⟩
end
section
variable {α β:Type} {o:O α} {x y:α} {r:O Nat} {N0:Nat} {Q:α->Exit->St->Prop} {w0:WO}
def gA(a:U (U (Nat×Ob prog)))(k:IE o λq=>q=y->GW prog r N0 (Q q) (wk prog w0 a))(e:uS (wk prog w0 a)=some (eE a):=by kernel_rfl):IE o λq=>q=y->GW prog r N0 (Q q) w0:=λv h q=>gr bH a (k v h q) e
def gR{b:α->AV}{fn:Func}(a:U (U (Nat×Ob prog)))(e:vY prog fn.results.toList (wk prog w0 a)=some (b x,eE a):=by kernel_rfl):IE (some x) λq=>q=y->GW prog r N0 (mq prog fn (b q)) w0:=λv h _=>sj h▸wr bH a e
def gH{b:α->AV}{d:α->U ao}{fn:Func}{m:Nat}(a:U (U (Nat×Ob prog)))(e:PA prog fn.results.toList m (wk prog w0 a)=some ((b x,d x),eE a):=by kernel_rfl):IE (some x) λq=>q=y->GW prog r N0 (wL prog fn m (b q) (d q)) w0:=λv h _=>sj h▸lz bH a e
def gG{x:O β}{f:β->O α}(Δ:β->U (Nat×AV))(h':β->U ao)(e:IE x λv=>∃b d:U (Nat×Ob prog),Pr prog ((Δ v).map (·.1)) (j9 (Oa (M8 (wk prog w0 [])) b d)) (wk prog w0 [])=some (Δ v,h' v,kr (Oa (M8 (wk prog w0 [])) b d)))(k:∀v,IE (f v) λq=>q=y->GW prog r N0 (Q q) (wj (Δ v) (h' v) (wk prog w0 [])))(e0:uS (wk prog w0 [])=some []:=by kernel_rfl):IE (Option.bind x f) λq=>q=y->GW prog r N0 (Q q) w0:=λv h q=>
 have ⟨a,g,i⟩:=bJ h
 yc bH (Δ a) (h' a) (e a g) (k a v i q) e0
def bV{c:Bool}{b:O α}{a:α->AV}{fn:Func}(f:c=false->IE b λq=>q=y->GW prog r N0 (mq prog fn (a q)) w0)(e:∀h:c=true,vY prog fn.results.toList (wk prog w0 [[(0,bT h)],[]])=some (a x,eE (P:=prog) [[(0,bT h)],[]]):=by intro h;kernel_rfl):IE (bif c then some x else b) λq=>q=y->GW prog r N0 (mq prog fn (a q)) w0:=aC (λh=>gR [[(0,bT h)],[]] (e h)) (f)
def qg{c:Bool}{b:O α}{a:α->AV}{fn:Func}(f:c=false->IE b λq=>q=y->GW prog r N0 (mq prog fn (a q)) w0)(e:∀h:c=true,vY prog fn.results.toList (wk prog w0 [[(0,bF (dG h))],[]])=some (a x,eE (P:=prog) [[(0,bF (dG h))],[]]):=by intro h;kernel_rfl):IE (bif c then some x else b) λq=>q=y->GW prog r N0 (mq prog fn (a q)) w0:=aC (λh=>gR [[(0,bF (dG h))],[]] (e h)) (f)
def tY{c:Bool}{b:O α}{a:α->AV}{fn:Func}(f:c=true->IE b λq=>q=y->GW prog r N0 (mq prog fn (a q)) w0)(e:∀h:c=false,vY prog fn.results.toList (wk prog w0 [[(0,bF h)],[]])=some (a x,eE (P:=prog) [[(0,bF h)],[]]):=by intro h;kernel_rfl):IE (bif c then b else some x) λq=>q=y->GW prog r N0 (mq prog fn (a q)) w0:=aC (f) (λh=>gR [[(0,bF h)],[]] (e h))
def kC{c:Bool}{b:O α}{a:α->AV}{fn:Func}(f:c=true->IE b λq=>q=y->GW prog r N0 (mq prog fn (a q)) w0)(e:∀h:c=false,vY prog fn.results.toList (wk prog w0 [[(0,bT (eF h))],[]])=some (a x,eE (P:=prog) [[(0,bT (eF h))],[]]):=by intro h;kernel_rfl):IE (bif c then b else some x) λq=>q=y->GW prog r N0 (mq prog fn (a q)) w0:=aC (f) (λh=>gR [[(0,bT (eF h))],[]] (e h))
def iy{c:Bool}{b:O α}{a:α->AV}{fn:Func}(f:∀h:c=false,IE b λq=>q=y->GW prog r N0 (mq prog fn (a q)) (wk prog w0 [[(0,bF h)],[]]))(e:∀h:c=true,vY prog fn.results.toList (wk prog w0 [[(0,bT h)],[]])=some (a x,eE (P:=prog) [[(0,bT h)],[]]):=by intro h;kernel_rfl)(d:∀h:c=false,uS (wk prog w0 [[(0,bF h)],[]])=some (eE (P:=prog) [[(0,bF h)],[]]):=by intro h;kernel_rfl):IE (bif c then some x else b) λq=>q=y->GW prog r N0 (mq prog fn (a q)) w0:=aC (λh=>gR [[(0,bT h)],[]] (e h)) (λh=>gA [[(0,bF h)],[]] (f h) (d h))
def t0{c:Bool}(h:c=true):Nat×Ob prog:=(0,bT h)
def f0{c:Bool}(h:c=false):Nat×Ob prog:=(0,bF h)
def li{a:WO}(f:∀q,GW prog r N0 (Q q) a->GW prog r N0 (Q q) w0)(k:IE o λq=>q=y->GW prog r N0 (Q q) a):IE o λq=>q=y->GW prog r N0 (Q q) w0:=λv h q=>f v (k v h q)
def liH{b:WO}{p:Prop}(f:∀q,(p->GW prog r N0 (Q q) b)->GW prog r N0 (Q q) w0)(k:p->IE o λq=>q=y->GW prog r N0 (Q q) b):IE o λq=>q=y->GW prog r N0 (Q q) w0:=λv h q=>f v λa=>k a v h q
def gT{β:Type}{f:U β->U (U D)}{z:Nat}(F:DL f z)(k:Nat)(l:U β)(h:l.length<=maxLen->IE o λq=>q=y->GW prog r N0 (Q q) w0)(b:(bE (wS w0).t k).gV=some (f l):=by kernel_rfl):IE o λq=>q=y->GW prog r N0 (Q q) w0:=λv d q=>zc F k l (λa=>h a v d q) b
def gB{β:Type}{f:U β->U (U D)}{z:Nat}(F:DL f z)(b i:Nat)(l:U β)(h:l.length<=maxLen->IE o λq=>q=y->GW prog r N0 (Q q) w0)(d:(((wS w0).h[b]?).bind λB=>match B with| .cells cs=>(cs[i]?).bind AV.gV|_=>none)=some (f l):=by kernel_rfl):IE o λq=>q=y->GW prog r N0 (Q q) w0:=λv e q=>ajG F b i l (λa=>h a v e q) d
def fw{f:FuncId}{fn:Func}{args:U AV}{a:α->AV}(b:prog.funcs[f]?=some fn)(d:∀{y},IE o λq=>q=y->GW prog none 0 (mq prog fn (a q)) (DR fn args []))(e:fn.body.isSome=true:=by kernel_rfl)(g:(fn.name== "runtime.NumGoroutine")=false:=by kernel_rfl):KO f args a o:=λr h=>QY b (d r h rfl) e g
def fh{f:FuncId}{fn:Func}{args:U AV}{h:U ao}{a:α->AV}{b:α->U ao}(m:Nat)(d:prog.funcs[f]?=some fn)(e:∀{y},IE o λq=>q=y->GW prog none h.length (wL prog fn m (a q) (b q)) (DR fn args h))(g:fn.body.isSome=true:=by kernel_rfl)(i:(fn.name== "runtime.NumGoroutine")=false:=by kernel_rfl)(j:h.length<=m:=by exact Zh rfl):KP f args h a b o:=λr q=>AN m d (e r q rfl) g i j
end
section
variable {α A B C D' R:Type} {rr:R} {r:O Nat} {N0:Nat} {Q:R->Exit->St->Prop} {w0:WO}
def eX(k:Nat)(a:U (U (Nat×Ob prog)))(live:U Nat)(m:Nat){L:U α}(b:Nat->St){G:U α->Nat->O R}
 (g:∀n,L.drop n=[]->∀f:St->Prop,IE (G [] n) λq=>q=rr->GW prog r N0 (Q q) (ik k f (b n) (wk prog w0 a)))
 (d:∀n x l,L.drop n=x::l->∀f:St->Prop,qG k live m L (λn(_:Unit)=>b n) (λl n _=>G l n) rr n x l () f->IE (G (x::l) n) λq=>q=rr->GW prog r N0 (Q q) (ik k f (b n) (wk prog w0 a)))
 (p:N0<=m:=by exact Zh rfl) (e:nb live m (wk prog w0 a)=some (b 0,eE a):=by kernel_rfl):IE (G L 0) λq=>q=rr->GW prog r N0 (Q q) w0:=λv h q=>
 wl0 bH k a live m L b G (q▸h) (λn i j f=>q▸g n i f rr j rfl) (λn x l i j f u=>q▸d n x l i f u rr j rfl) p e
def iC(k:Nat)(b:U (U (Nat×Ob prog)))(live:U Nat)(m:Nat){L:U α}(d:Nat->A->St){G:U α->Nat->A->O R}{a0:A}
 (i:∀n a,L.drop n=[]->∀f:St->Prop,IE (G [] n a) λq=>q=rr->GW prog r N0 (Q q) (ik k f (d n a) (wk prog w0 b)))
 (g:∀n x l a,L.drop n=x::l->∀f:St->Prop,qG k live m L d G rr n x l a f->IE (G (x::l) n a) λq=>q=rr->GW prog r N0 (Q q) (ik k f (d n a) (wk prog w0 b)))
 (w:N0<=m:=by exact Zh rfl) (e:nb live m (wk prog w0 b)=some (d 0 a0,eE b):=by kernel_rfl):IE (G L 0 a0) λq=>q=rr->GW prog r N0 (Q q) w0:=λv h q=>
 TP bH k b live m L d G a0 (q▸h) (λn j p u f=>q▸i n j p f rr u rfl) (λn x l j p u f z=>q▸g n x l j p f z rr u rfl) w e
def S7(k:Nat)(d:U (U (Nat×Ob prog)))(live:U Nat)(m:Nat){L:U α}(g:Nat->A->B->St){G:U α->Nat->A->B->O R}{a0:A}{p:B}
 (u:∀n a b,L.drop n=[]->∀f:St->Prop,IE (G [] n a b) λq=>q=rr->GW prog r N0 (Q q) (ik k f (g n a b) (wk prog w0 d)))
 (j:∀n x l a b,L.drop n=x::l->∀f:St->Prop,qG k live m L (λn(i:A×B)=>g n i.1 i.2) (λl n i=>G l n i.1 i.2) rr n x l (a,b) f->IE (G (x::l) n a b) λq=>q=rr->GW prog r N0 (Q q) (ik k f (g n a b) (wk prog w0 d)))
 (J:N0<=m:=by exact Zh rfl) (e:nb live m (wk prog w0 d)=some (g 0 a0 p,eE d):=by kernel_rfl):IE (G L 0 a0 p) λq=>q=rr->GW prog r N0 (Q q) w0:=λv h q=>
 wl2 bH k d live m L g G a0 p (q▸h) (λn w z E F f=>q▸u n w z E f rr F rfl) (λn x l w z E F f M=>q▸j n x l w z E f M rr F rfl) J e
def gl3(k:Nat)(d:U (U (Nat×Ob prog)))(live:U Nat)(m:Nat){L:U α}(g:Nat->A->B->C->St){G:U α->Nat->A->B->C->O R}{a0:A}{p:B}{u:C}
 (w:∀n a b c,L.drop n=[]->∀f:St->Prop,IE (G [] n a b c) λq=>q=rr->GW prog r N0 (Q q) (ik k f (g n a b c) (wk prog w0 d)))
 (j:∀n x l a b c,L.drop n=x::l->∀f:St->Prop,qG k live m L (λn(i:A×B×C)=>g n i.1 i.2.1 i.2.2) (λl n i=>G l n i.1 i.2.1 i.2.2) rr n x l (a,b,c) f->IE (G (x::l) n a b c) λq=>q=rr->GW prog r N0 (Q q) (ik k f (g n a b c) (wk prog w0 d)))
 (N:N0<=m:=by exact Zh rfl) (e:nb live m (wk prog w0 d)=some (g 0 a0 p u,eE d):=by kernel_rfl):IE (G L 0 a0 p u) λq=>q=rr->GW prog r N0 (Q q) w0:=λv h q=>
 wl3 bH k d live m L g G a0 p u (q▸h) (λn z E F J M f=>q▸w n z E F J f rr M rfl) (λn x l z E F J M f S=>q▸j n x l z E F J f S rr M rfl) N e
def gb{ι:Type}{live:U Nat}{m k:Nat}{L:U α}{b:Nat->ι->St}{G:U α->Nat->ι->O R}{n:Nat}{x:α}{l:U α}{i:ι}{f:St->Prop}(d:qG k live m L b G rr n x l i f)(j:ι)(a:U (U (Nat×Ob prog)))(g:L.drop n=x::l)(p:lg k (wK w0)=[f]:=by kernel_rfl)(e:sq k live m (wk prog w0 a)=some (b (n+1) j,eE a):=by kernel_rfl):IE (G l (n+1) j) λq=>q=rr->GW prog r N0 (Q q) w0:=λv h q=>wb bH d j a g (q▸h) p e
def Xh(k:Nat)(g:U (U (Nat×Ob prog)))(live:U Nat)(m:Nat)(i:A->St)(G:Nat->A->O R){d:Nat}{a0:A}
 (b:∀d a,∀f:St->Prop,wI k live m i G rr d f->IE (G (d+1) a) λq=>q=rr->GW prog r N0 (Q q) (ik k f (i a) (wk prog w0 g))) (j:∀a,G 0 a=none:=by intros;rfl)
 (l:N0<=m:=by exact Zh rfl) (e:nb live m (wk prog w0 g)=some (i a0,eE g):=by kernel_rfl):IE (G d a0) λq=>q=rr->GW prog r N0 (Q q) w0:=λv h q=>wf1 bH k g live m i G d a0 (q▸h) (λd p u f w=>q▸b d p f w rr u rfl) j l e
def gf2(k:Nat)(j:U (U (Nat×Ob prog)))(live:U Nat)(m:Nat)(l:A->B->St)(G:Nat->A->B->O R){d:Nat}{a0:A}{p:B}
 (g:∀d a b,∀f:St->Prop,wI k live m (λ(i:A×B)=>l i.1 i.2) (λd i=>G d i.1 i.2) rr d f->IE (G (d+1) a b) λq=>q=rr->GW prog r N0 (Q q) (ik k f (l a b) (wk prog w0 j))) (u:∀a b,G 0 a b=none:=by intros;rfl)
 (w:N0<=m:=by exact Zh rfl) (e:nb live m (wk prog w0 j)=some (l a0 p,eE j):=by kernel_rfl):IE (G d a0 p) λq=>q=rr->GW prog r N0 (Q q) w0:=λv h q=>wf2 bH k j live m l G d a0 p (q▸h) (λd z E F f J=>q▸g d z E f J rr F rfl) u w e
def Na{ι:Type}{live:U Nat}{m k:Nat}{b:ι->St}{G:Nat->ι->O R}{d:Nat}{f:St->Prop}(g:wI k live m b G rr d f)(j:ι)(a:U (U (Nat×Ob prog)))(i:lg k (wK w0)=[f]:=by kernel_rfl)(e:sq k live m (wk prog w0 a)=some (b j,eE a):=by kernel_rfl):IE (G d j) λq=>q=rr->GW prog r N0 (Q q) w0:=λv h q=>wbf bH g j a (q▸h) i e
def gj0{o:O R}(k:Nat)(b:U (U (Nat×Ob prog)))(live:U Nat)(m:Nat)(d:St)(G:O R)
 (g:∀f:St->Prop,y7 k live m (λ(_:Unit)=>d) (λ_=>G=some rr) f->IE o λq=>q=rr->GW prog r N0 (Q q) (A7 k f (wk prog w0 b)))
 (rest:IE G λq=>q=rr->GW prog r N0 (Q q) (yC d (wk prog w0 b))) (i:N0<=m:=by exact Zh rfl) (e:vN (wk prog w0 b)=some (eE b):=by kernel_rfl):IE o λq=>q=rr->GW prog r N0 (Q q) w0:=λv h q=>wj0 bH rr k b live m d G (λf a=>g f a v h q) (λj=>q▸rest rr j rfl) i e
def nF{o:O R}(k:Nat)(b:U (U (Nat×Ob prog)))(live:U Nat)(m:Nat)(d:A->St)(G:A->O R)
 (g:∀f:St->Prop,y7 k live m d (λa=>G a=some rr) f->IE o λq=>q=rr->GW prog r N0 (Q q) (A7 k f (wk prog w0 b)))
 (rest:∀a,IE (G a) λq=>q=rr->GW prog r N0 (Q q) (yC (d a) (wk prog w0 b))) (i:N0<=m:=by exact Zh rfl) (e:vN (wk prog w0 b)=some (eE b):=by kernel_rfl):IE o λq=>q=rr->GW prog r N0 (Q q) w0:=λv h q=>GO bH rr k b live m d G (λf a=>g f a v h q) (λj l=>q▸rest j rr l rfl) i e
def gm{ι:Type}{live:U Nat}{m k:Nat}{b:ι->St}{G:ι->O R}{f:St->Prop}(d:y7 k live m b (λi=>G i=some rr) f)(i:ι)(a:U (U (Nat×Ob prog)))(g:lg k (wK w0)=[f]:=by kernel_rfl)(e:sq k live m (wk prog w0 a)=some (b i,eE a):=by kernel_rfl):IE (G i) λq=>q=rr->GW prog r N0 (Q q) w0:=λv h q=>nU bH d i a (q▸h) g e
structure BX{α ι R:Type}(k:Nat)(live:List Nat)(m:Nat)(ks:List Nat)(kn:List (Nat×Nat))(L:List α)(st:Nat->ι->St)(G:List α->Nat->ι->Option R)(rr:R)(n:Nat)(x:α)(l:List α)(i:ι)(f:St->Prop):Prop where
 h:O4 k live m ks kn (λz:Nat×List α×ι=>st z.1 z.2.2) (λz=>L.drop z.1=z.2.1/\G z.2.1 z.1 z.2.2=some rr) (λz=>z.2.1.length) (n,x::l,i) f
structure awm{ι R:Type}(k:Nat)(live:List Nat)(m:Nat)(ks:List Nat)(kn:List (Nat×Nat))(st:ι->St)(G:Nat->ι->Option R)(rr:R)(d:Nat)(f:St->Prop):Prop where
 h:∀i,O4 k live m ks kn (λz:Nat×ι=>st z.2) (λz=>G z.1 z.2=some rr) (λz=>z.1) (d+1,i) f
def FI(k:Nat)(b:U (U (Nat×Ob prog)))(live:U Nat)(m:Nat)(g:U Nat)(kn:U (Nat×Nat)){L:U α}(d:Nat->A->St){G:U α->Nat->A->O R}{a0:A}
 (nil:∀n a,L.drop n=[]->∀f:St->Prop,IE (G [] n a) λq=>q=rr->GW prog r N0 (Q q) (ik k f (d n a) (wk prog w0 b)))
 (cons:∀n x l a,L.drop n=x::l->∀f:St->Prop,BX k live m g kn L d G rr n x l a f->IE (G (x::l) n a) λq=>q=rr->GW prog r N0 (Q q) (ik k f (d n a) (wk prog w0 b)))
 (u:N0<=m:=by exact Zh rfl) (fI:U (VE m):=[]) (e0:uf m (wk prog w0 b)=fI.map VE.x:=by kernel_rfl) (e:D8 live m g kn (wk prog w0 b)=some (d 0 a0,eE b):=by kernel_rfl):IE (G L 0 a0) λq=>q=rr->GW prog r N0 (Q q) w0:=λv h q=>
 HT bH k b live m g kn (λz:Nat×U α×A=>d z.1 z.2.2) (λz=>L.drop z.1=z.2.1/\G z.2.1 z.1 z.2.2=some rr) (λz=>z.2.1.length) (0,L,a0) ⟨rfl,q▸h⟩ (λz w f E=>by
  obtain⟨n,l,i⟩:=z;obtain⟨j,p⟩:=w;rw[q];cases l with
  |nil=>exact nil n i j f rr p rfl
  |cons x l=>exact cons n x l i j f ⟨E⟩ rr p rfl) u fI e0 e
def gx2(k:Nat)(d:U (U (Nat×Ob prog)))(live:U Nat)(m:Nat)(p:U Nat)(kn:U (Nat×Nat)){L:U α}(g:Nat->A->B->St){G:U α->Nat->A->B->O R}{a0:A}{u:B}
 (v:∀n a b,L.drop n=[]->∀f:St->Prop,IE (G [] n a b) λq=>q=rr->GW prog r N0 (Q q) (ik k f (g n a b) (wk prog w0 d)))
 (j:∀n x l a b,L.drop n=x::l->∀f:St->Prop,BX k live m p kn L (λn(i:A×B)=>g n i.1 i.2) (λl n i=>G l n i.1 i.2) rr n x l (a,b) f->IE (G (x::l) n a b) λq=>q=rr->GW prog r N0 (Q q) (ik k f (g n a b) (wk prog w0 d)))
 (w:N0<=m:=by exact Zh rfl) (fI:U (VE m):=[]) (e0:uf m (wk prog w0 d)=fI.map VE.x:=by kernel_rfl) (e:D8 live m p kn (wk prog w0 d)=some (g 0 a0 u,eE d):=by kernel_rfl):IE (G L 0 a0 u) λq=>q=rr->GW prog r N0 (Q q) w0:=
 FI k d live m p kn (λn(i:A×B)=>g n i.1 i.2) (G:=(λl n i=>G l n i.1 i.2)) (a0:=(a0,u)) (λn i=>v n i.1 i.2) (λn x l i=>j n x l i.1 i.2) w fI e0 e
def yp{ι:Type}{live:U Nat}{m k:Nat}{b:U Nat}{kn:U (Nat×Nat)}{L:U α}{d:Nat->ι->St}{G:U α->Nat->ι->O R}{n:Nat}{x:α}{l:U α}{i:ι}{f:St->Prop}(g:BX k live m b kn L d G rr n x l i f)(j:ι)(a:U (U (Nat×Ob prog)))(p:L.drop n=x::l)(u:lg k (wK w0)=[f]:=by kernel_rfl)(fI:U (VE m):=[])(e0:uf m (wk prog w0 a)=fI.map VE.x:=by kernel_rfl)(e:zC k live m b kn (wk prog w0 a)=some (d (n+1) j,eE a):=by kernel_rfl):IE (G l (n+1) j) λq=>q=rr->GW prog r N0 (Q q) w0:=λv h q=>
 F5 bH g.h (n+1,l,j) a ⟨kG p,q▸h⟩ (ZC _) u fI e0 e
def arn(k:Nat)(g:U (U (Nat×Ob prog)))(live:U Nat)(m:Nat)(p:U Nat)(kn:U (Nat×Nat))(l:A->B->C->St)(G:Nat->A->B->C->O R){d:Nat}{a0:A}{u:B}{w:C}
 (succ:∀d a b c,∀f:St->Prop,awm k live m p kn (λ(i:A×B×C)=>l i.1 i.2.1 i.2.2) (λd i=>G d i.1 i.2.1 i.2.2) rr d f->IE (G (d+1) a b c) λq=>q=rr->GW prog r N0 (Q q) (ik k f (l a b c) (wk prog w0 g))) (F:∀a b c,G 0 a b c=none:=by intros;rfl)
 (J:N0<=m:=by exact Zh rfl) (fI:U (VE m):=[]) (e0:uf m (wk prog w0 g)=fI.map VE.x:=by kernel_rfl) (e:D8 live m p kn (wk prog w0 g)=some (l a0 u w,eE g):=by kernel_rfl):IE (G d a0 u w) λq=>q=rr->GW prog r N0 (Q q) w0:=λv h q=>
 HT bH k g live m p kn (λz:Nat×(A×B×C)=>((λ(i:A×B×C)=>l i.1 i.2.1 i.2.2)) z.2) (λz=>((λd i=>G d i.1 i.2.1 i.2.2)) z.1 z.2=some rr) (λz=>z.1) (d,(a0,u,w)) (q▸h) (λz E f L=>by
  obtain⟨d,i⟩:=z;rw[q];cases d with
  |zero=>exact absurd ((F i.1 i.2.1 i.2.2).symm.trans E) gj
  |succ d=>exact succ d i.1 i.2.1 i.2.2 f ⟨λj=>⟨λM N S T W z3=>L.h M N S T W z3⟩⟩ rr E rfl) J fI e0 e
def auR{ι:Type}{live:U Nat}{m k:Nat}{b:U Nat}{kn:U (Nat×Nat)}{g:ι->St}{G:Nat->ι->O R}{d:Nat}{f:St->Prop}(i:awm k live m b kn g G rr d f)(j:ι)(a:U (U (Nat×Ob prog)))(l:lg k (wK w0)=[f]:=by kernel_rfl)(fI:U (VE m):=[])(e0:uf m (wk prog w0 a)=fI.map VE.x:=by kernel_rfl)(e:zC k live m b kn (wk prog w0 a)=some (g j,eE a):=by kernel_rfl):IE (G d j) λq=>q=rr->GW prog r N0 (Q q) w0:=λv h q=>
 F5 bH (i.h j) (d,j) a (q▸h) (ZC _) l fI e0 e
def avi{o:O R}(k:Nat)(d:U (U (Nat×Ob prog)))(live:U Nat)(m:Nat)(j:U Nat)(kn:U (Nat×Nat))(g:A->B->St)(G:A->B->O R)
 (l:∀f:St->Prop,Kl k live m j kn (λ(i:A×B)=>g i.1 i.2) (λi=>G i.1 i.2=some rr) f->IE o λq=>q=rr->GW prog r N0 (Q q) (A7 k f (wk prog w0 d)))
 (rest:∀a b,IE (G a b) λq=>q=rr->GW prog r N0 (Q q) (yC (g a b) (wk prog w0 d))) (p:N0<=m:=by exact Zh rfl) (e:vN (wk prog w0 d)=some (eE d):=by kernel_rfl):IE o λq=>q=rr->GW prog r N0 (Q q) w0:=λv h q=>
 asc bH k d live m j kn (λ(i:A×B)=>g i.1 i.2) (λi=>G i.1 i.2=some rr) (λf a=>l f a v h q) (λi u=>q▸rest i.1 i.2 rr u rfl) p e
def gmX{ι:Type}{live:U Nat}{m k:Nat}{b:U Nat}{kn:U (Nat×Nat)}{d:ι->St}{G:ι->O R}{f:St->Prop}(g:Kl k live m b kn d (λi=>G i=some rr) f)(i:ι)(a:U (U (Nat×Ob prog)))(j:lg k (wK w0)=[f]:=by kernel_rfl)(fI:U (VE m):=[])(e0:uf m (wk prog w0 a)=fI.map VE.x:=by kernel_rfl)(e:zC k live m b kn (wk prog w0 a)=some (d i,eE a):=by kernel_rfl):IE (G i) λq=>q=rr->GW prog r N0 (Q q) w0:=λv h q=>
 alD bH g i a (q▸h) fI e0 j e
end
section
variable {P:eG} {r:O Nat} {N0:Nat} {Q:Exit->St->Prop} {c:Code}
end
def anZ{α:Type}{f:α->U D}{d0:α}{zs:U AV}{n dc:Nat}{l:Int}(a:l=(n:Int))(b:(f d0).map AV.d=zs)(h:n<=maxLen/\n*dc<=140737488355328):
 0<=l/\l<=l/\l.toNat=n/\l.toNat=n/\bf ((List.replicate n d0).map f)=List.replicate n zs/\n<=maxLen/\dc*n<=281474976710656:=by
 subst a;refine⟨Int.natCast_nonneg _,Int.le_refl _,rfl,rfl,?_,h.1,?_⟩;{unfold bf;rw[List.map_replicate,List.map_replicate,b]};{rw[Nat.mul_comm];exact Ze h.2 gy}
inductive OT(P:Program) where
 |nil
 |node (k:Nat) (aB:List (Nat×Ob P)) (sub next:OT P)
def OT.ps{P:eG}:OT P->U (In×ct)
 | .nil=>[]
 | .node _ a sub next=>kr a++(sub.ps++next.ps)
def OT.isNil{P:eG}:OT P->Bool
 | .nil=>true
 |_=>false
def sk(C:U Nat)(L:Nat)(r:U Nat):U Nat:=match y8 C L r with
 |some k=>[k]
 |none=>r
def LL{P:eG}(A C:U Nat)(f:U Nat->Nat->U Nat->St->O (U Lf×U (In×ct)))(a:Bool)(b:U Nat)(s:St)(L:Nat):O (U Lf×U (In×ct)):=
 match sK A L 0 with
 |[]=>bif a then some ([(s,b,[])],[])else none
 |d::r=>f (sk C L (d::r)) L b s
def vJ(P:eG)(ops:Array Oper)(A C:U Nat):OT P->Nat->U Nat->Nat->U Nat->St->O (U Lf×U (In×ct))
 | .nil,_,d,_,_,_=>match d with
   |[]=>some ([],[])
   |_=>none
 | .node k i e next,g,d,L,j,s=>match d with
   |[]=>none
   |c::d=>match g with
    |0=>none
    |f+1=>bif k==c then(match ops[k]? with
     |some o=>bif Gk o (jN (j9 i) (3*k+1))then(match pz P ops false o k (j9 i) s with
      |some (m,l)=>match (fN (L|||(1<<<k)) λp=>LL (P:=P) A C (vJ P ops A C e f) e.isNil (j++List.replicate (m.h.length-s.h.length) k) m p)with
       |some (a,q)=>match vJ P ops A C next (f+1) d L j s with
        |some (b,u)=>some (a++b,l++(q++u))
        |none=>none
       |none=>none
      |none=>none)else none
     |none=>none)else none
section
variable {P:eG} {ops:Array Oper} {K:St->Prop}
def agw(J:tt K)(M:qQ (Region.before ops) ops=true){f L:Nat}{listed:Array Bool}{s:St}{g:Nat}{r:U Nat}(l:LM ops L listed)(N:Dn ops listed)(m:sK (qV ops 0 ops.size) L 0=g::r)
 (h:∀k∈sk (lY ops true (Region.before ops) 0 ops.size) L (g::r),∀o,ops[k]?=some o->∃y h1,nY true P ops o s y h1/\mB true P ops K f (listed.setIfInBounds k true) ((s.wh h1).put o.dst y)):mB true P ops K (f+1) listed s:=by
 unfold sk at h;cases q:y8 (lY ops true (Region.before ops) 0 ops.size) L (g::r)with
 |some k=>
  rw[q]at h;obtain⟨v,w⟩:=I6 q;have S:k∈Region.ready .any ops listed:=(l.ready k).2 (by rw[m];exact v);have p:k<ops.size:=by
    have:=(Jb _ 0 k).1 (by rw[m];exact v);obtain⟨_,_,a,u,_⟩:=this;rw[Hl]at u;split at u;{next h=>omega};{cases u}
  obtain⟨y,hh,q1,T⟩:=h k Zt ops[k] (ZI p);refine JS J M (ZI p) f listed s N (λj oj z W sb vp=> ?_) S q1 T;have E:=(ZP.1 z).1;have Wf:Nat.testBit L j=false:=by
   rw[l.b];have jw:j<listed.size:=by rw[l.sz];exact E
   simpa [jw]using sb
  have d:Nat.testBit (xC ops true (Region.before ops) k) j=false:=by
   rw[<-Uj];intro hc;have h5:(lY ops true (Region.before ops) 0 ops.size).getD k 0=xC ops true (Region.before ops) k:=by
     rw[List.getD_eq_getElem?_getD,Qm,ae p,ZQ];rfl
   rw[h5]at w;have:=congrArg (λn=>Nat.testBit n j) w;simp only[Nat.testBit_or,hc,Wf]at this;cases this
  unfold xC at d;rw[Jd]at d;unfold Tc at d;rw[vp,ZI p,z]at d;simp [E,W]at d;exact d
 |none=>
  rw[q]at h;have F:g∈Region.ready .any ops listed:=(l.ready g).2 (by rw[m];simp);refine⟨λe=>(by rw[e]at F;cases F),λi hi oi NM=> ?_⟩;exact h i (by rw[<-m];exact(l.ready i).1 hi) oi NM
def aq4(hK:tt K)(hM:qQ (Region.before ops) ops=true)(t0:U (Nat×AV))(n0:Nat):
 ∀(t:OT P)(m:Nat)(cs:U Nat)(L:Nat)(listed:Array Bool)(al:U Nat)(s:St)(N:U Lf)(ps:U (In×ct)),LM ops L listed->Dn ops listed->(∀c∈cs,c∈Region.ready .any ops listed)->vJ P ops (qV ops 0 ops.size) (lY ops true (Region.before ops) 0 ops.size) t m cs L al s=some (N,ps)->hX P ps->(∃j,s.t=j++t0)->s.n=n0->
  (∀x∈N,(∃j,x.1.t=j++t0)/\x.1.n=n0)/\((∀x∈N,K x.1)->∀k∈cs,∀o,ops[k]?=some o->∃f,m=f+1/\∃y h1,nY true P ops o s y h1/\mB true P ops K f (listed.setIfInBounds k true) ((s.wh h1).put o.dst y)):=by
 intro t
 induction t with
 |nil=>
  intro m cs L listed al s N ps hL hD hc h cn w hn;cases cs with
  |nil=>
   simp only[vJ]at h;cases h
   exact⟨λx u=>(by cases u),λ_ k E=>(by cases E)⟩
  |cons=>simp [vJ]at h
 |node k aB sub next ihs ihn=>
  intro m cs L listed al s N ps hL hD hc h cn w hn;cases cs with
  |nil=>simp [vJ]at h
  |cons c cs=>
   cases m with
   |zero=>simp [vJ]at h
   |succ f=>
    rw[vJ]at h;have h':=lR h;clear h;obtain⟨S,h⟩:=h';rw[TC]at S;subst S;split at h
    ·next o ho=>
     have h':=lR h;clear h;obtain⟨anK,h⟩:=h';split at h
     ·next s1 l hg=>
      rw[Da]at h;split at h
      ·next a pa J=>
       split at h
       ·next b pb hb=>
        cases h
        have hl:hX P l:=λp w=>cn p (aq _ w);have hpa:hX P pa:=λp w=>cn p (aa _ (aq _ w));have hpb:hX P pb:=λp w=>cn p (aa _ (aa _ w));have xk:=hc k Zt;have qz:=(ZP.1 ho).1;obtain⟨Am,pC⟩:=ihn (f+1) cs L listed al s b pb hL hD (λc F=>hc c (Zk _ F)) hb hpb w hn;obtain⟨⟨p1,e1⟩,e2⟩:=Qu hg;have T:∃j,s1.t=j++t0:=by
         obtain⟨j,e⟩:=w;exact⟨p1++j,by rw[e1,e,ZU]⟩
        have ZV:s1.n=n0:=e2.trans hn;have Bl:=hL.set qz;have En:=hD.set xk;have xf:(∀x∈a,(∃j,x.1.t=j++t0)/\x.1.n=n0)/\((∀x∈a,K x.1)->mB true P ops K f (listed.setIfInBounds k true) s1):=by
         unfold LL at J;split at J
         ·next hr=>
          obtain⟨_,J⟩:=lR J;cases J
          have GX:Region.ready .any ops (listed.setIfInBounds k true)=[]:=by
           rw[List.eq_nil_iff_forall_not_mem];intro i hi;have:=(Bl.ready i).1 hi;rw[hr]at this;cases this
          refine⟨λx u=>by rw[ah]at u;subst u;exact⟨T,ZV⟩,λE=> ?_⟩;have ko:=E _ Zt;cases f with
          |zero=>exact⟨GX,ko⟩
          |succ f=>exact⟨λ_=>ko,λi hi=>by rw[GX]at hi;cases hi⟩
         ·next k1 r hr=>
          have HH:∀c∈sk (lY ops true (Region.before ops) 0 ops.size) (L|||(1<<<k)) (k1::r),c∈Region.ready .any ops (listed.setIfInBounds k true):=by
           intro c F;rw[Bl.ready,hr];unfold sk at F;split at F
           ·next q hf=>
            rw[ah]at F;subst F;exact(I6 hf).1
           ·exact F
          obtain⟨q1,q2⟩:=ihs f _ _ _ _ s1 a pa Bl En HH J hpa T ZV;refine⟨q1,λE=> ?_⟩;have cV:∃c,c∈sk (lY ops true (Region.before ops) 0 ops.size) (L|||(1<<<k)) (k1::r):=by
           unfold sk;split;{exact⟨_,Zt⟩};{exact⟨_,Zt⟩}
          obtain⟨M,HS⟩:=cV;have Ua:M<ops.size:=by
           have:=(Jb _ 0 M).1 ((Bl.ready M).1 (HH M HS));obtain⟨_,_,z,hz,_⟩:=this;rw[Hl]at hz;split at hz;{next h=>omega};{cases hz}
          obtain⟨g,rfl,_⟩:=q2 E M HS ops[M] (ZI Ua);refine agw hK hM Bl En hr λk' W o' p5=> ?_;obtain⟨g',e,y,h1,h2,h3⟩:=q2 E k' W o' p5;cases e
          exact⟨y,h1,h2,h3⟩
        refine⟨λx u=>(ZM.1 u).elim (xf.1 x) (Am x),λE k' W o' p5=> ?_⟩;rcases Za.1 W with rfl|W
        ·rw[ho]at p5;cases p5;have h4:=afm (K:=(·=s1)) hg hl rfl anK;have h5:=xf.2 λx u=>E x (aq _ u);rcases J9 h4 with⟨g,hd⟩|⟨g,hd⟩
         ·obtain⟨y,h1,h2,h3⟩:=ME hd;exact⟨f,rfl,y,h1,.inl ⟨g,h2⟩,by rw[h3];exact h5⟩
         ·exact⟨f,rfl,_,s.h,.inr ⟨g,rfl,rfl⟩,by
           have e:(s.wh s.h).put o.dst (.d (.v undef))=s1:=hd;rw[e];exact h5⟩
        ·exact pC (λx u=>E x (aa _ u)) k' W o' p5
       ·cases h
      ·cases h
     ·cases h
    ·cases h
end
def TJ(P:eG)(ol:U Oper)(t:OT P)(a:U Nat)(s:St):O (U (U (Nat×AV)×U ao×U (In×ct))×U (In×ct)):=
 bif qQ (Region.before ol.toArray) ol.toArray then fL (qV ol.toArray 0 ol.toArray.size) λA=>fL (lY ol.toArray true (Region.before ol.toArray) 0 ol.toArray.size) λC=>
  match LL (P:=P) A C (vJ P ol.toArray A C t ol.toArray.size) t.isNil [] s 0 with
  |some (b,d)=>match JO a s b with
   |some r=>some (r,d)
   |none=>none
  |none=>none
 else none
def asj{P:eG}{ol:U Oper}{t:OT P}{u:U Nat}{s:St}{Δ:U (Nat×AV)}{h':U ao}{m N0:Nat}{K:St->Prop}(h:TJ P ol t u s=some (List.replicate m (Δ,h',[]),t.ps))(cn:hX P t.ps)(hN:N0<=s.h.length)(sG:∀i,(bE s.t i).aN s.h.length=true)(N:JI N0 K)(hk:K ⟨s.n,Δ++s.t,h'⟩):
 mB true P ol.toArray K ol.toArray.size (Array.replicate ol.toArray.size false) s:=by
 unfold TJ at h;obtain⟨hM,h⟩:=lR h;rw[AU,AU]at h;split at h
 ·next ls ps d=>
  split at h
  ·next r S=>
   cases h
   have v:LM ol.toArray 0 (Array.replicate ol.toArray.size false):=⟨by simp,λi=>by
    rw[Nat.zero_testBit,Array.getD_eq_getD_getElem?,Array.getElem?_replicate];split<;>rfl⟩
   have hD:Dn ol.toArray (Array.replicate ol.toArray.size false):=λj o ho E=>by
    exfalso;rw[Array.getD_eq_getD_getElem?,Array.getElem?_replicate]at E;split at E<;>simp at E
   have b:∀x∈ls,((∃T,x.1.t=T++s.t)/\x.1.n=s.n)->K x.1:=λx F hb=>by
    obtain⟨a,ha,e2⟩:=Ql S x F;rw[List.mem_replicate]at ha;obtain⟨_,rfl⟩:=ha;obtain⟨J,_⟩:=pcS (P:=P) (ops:=ol.toArray) e2 hN sG hb.2 hb.1 (λp hp=>by cases hp);exact N _ _ J hk
   unfold LL at d;split at d
   ·next L=>
    obtain⟨_,d⟩:=lR d;have W:=Prod.mk.inj (Zl d);obtain⟨W,_⟩:=W;subst W;have GX:Region.ready .any ol.toArray (Array.replicate ol.toArray.size false)=[]:=by
     rw[List.eq_nil_iff_forall_not_mem];intro i M;have:=(v.ready i).1 M;rw[L]at this;cases this
    have ko:=b _ Zt ⟨⟨[],rfl⟩,rfl⟩;generalize hf:ol.toArray.size=f at*;cases f with
    |zero=>exact⟨GX,ko⟩
    |succ f=>exact⟨λ_=>ko,λi M=>by rw[GX]at M;cases M⟩
   ·next J r' L=>
    have HH:∀c∈sk (lY ol.toArray true (Region.before ol.toArray) 0 ol.toArray.size) 0 (J::r'),c∈Region.ready .any ol.toArray (Array.replicate ol.toArray.size false):=by
     intro c w;rw[v.ready,L];unfold sk at w;split at w
     ·next q hf=>
      rw[ah]at w;subst w;exact(I6 hf).1
     ·exact w
    obtain⟨q1,q2⟩:=aq4 (K:=K) N.c hM s.t s.n t _ _ _ _ _ s ls _ v hD HH d cn ⟨[],rfl⟩ rfl;have q3:=q2 λx F=>b x F (q1 x F);have cV:∃c,c∈sk (lY ol.toArray true (Region.before ol.toArray) 0 ol.toArray.size) 0 (J::r'):=by
     unfold sk;split;{exact⟨_,Zt⟩};{exact⟨_,Zt⟩}
    obtain⟨l,HS⟩:=cV;have Ua:l<ol.toArray.size:=by
     have:=(Jb _ 0 l).1 ((v.ready l).1 (HH l HS));obtain⟨_,_,z,hz,_⟩:=this;rw[Hl]at hz;split at hz;{next h=>omega};{cases hz}
    obtain⟨g,eg,_⟩:=q3 l HS ol.toArray[l] (ZI Ua);have S:=agw (P:=P) (f:=g) (s:=s) (K:=K) N.c hM v hD L λk' gO o' p5=>by
     obtain⟨g',e,y,h1,h2,h3⟩:=q3 k' gO o' p5;rw[eg]at e;cases e
     exact⟨y,h1,h2,h3⟩
    exact(congrArg (λn=>mB true P ol.toArray K n (Array.replicate ol.toArray.size false) s) eg).mpr S
  ·cases h
 ·cases h
def TQ{P:eG}:∀t:OT P,hX P t.ps
 | .nil=>λp a=>by cases a
 | .node _ d b next=>λp a=>by
   unfold OT.ps at a;rcases ZM.1 a with a|a
   ·exact rX d p a
   ·rcases ZM.1 a with a|a
    ·exact TQ b p a
    ·exact TQ next p a
section
variable {P:eG} {r:O Nat} {N0 id n:Nat} {ol:U Oper} {y:Code} {t:U (Nat×AV)} {h:U ao} {Q Q':Exit->St->Prop}
def ro(m:Nat)(a:P.follows .mixedOrders=true)(T:OT P)(Δ:U (Nat×AV))(h':U ao)(e:TJ P ol T (Δ.map (·.1)) ⟨n,t,h⟩=some (List.replicate m (Δ,h',[]),T.ps))(k:bM P r N0 y Q' ⟨n,Δ++t,h'⟩):bM P r N0 (.region id ol.toArray true) (jG (λs=>bM P r N0 y Q' s) Q) ⟨n,t,h⟩:=
 QX (m:=true) a λb d=>asj e (TQ T) b d (Wi _) ⟨_,j6.refl _ _,k⟩
end
set_option maxHeartbeats 0
mutual
def Rl{m m':Nat}(hm:m<=m'):∀x:AV,x.aN m=true->x.aN m'=true
 | .own n _,h=>by rw[AV.aN,UC,<-Uj,dT]at h ⊢;omega
 | .ptr n _,h=>by rw[AV.aN,UC,<-Uj,dT]at h ⊢;omega
 | .row n _ _ _ _,h=>by rw[AV.aN,UC,<-Uj,dT]at h ⊢;omega
 | .mp n,h=>by rw[AV.aN,UC,<-Uj,dT]at h ⊢;omega
 | .cD n,h=>by rw[AV.aN,UC,<-Uj,dT]at h ⊢;omega
 | .vec n _ _ _ _,h=>by rw[AV.aN,UC,<-Uj,dT]at h ⊢;omega
 | .dU n _ _ _ _,h=>by rw[AV.aN,UC,<-Uj,dT]at h ⊢;omega
 | .agg cs,h=>by rw[AV.aN]at h ⊢;exact LR hm cs h
 | .bw cs,h=>by rw[AV.aN]at h ⊢;exact LR hm cs h
 | .fn f cs,h=>by rw[AV.aN]at h ⊢;exact LR hm cs h
 | .d _,_=>by simp only[AV.aN]
 | .bm ..,_=>by simp only[AV.aN]
 | .full _,_=>by simp only[AV.aN]
 | .hid _,_=>by simp only[AV.aN]
 | .dead,_=>by simp only[AV.aN]
def LR{m m':Nat}(hm:m<=m'):∀l:U AV,AV.lN m l=true->AV.lN m' l=true
 |[],_=>by simp [AV.lN]
 |x::l,h=>by
  rw[AV.lN,Zo]at h ⊢;exact⟨Rl hm x h.1,LR hm l h.2⟩
end
def aiK{m i:Nat}(l:m<=i){B:ao}(h:B.aN m=true):B.aN i=true:=by
 have g:∀d:U AV,d.all (AV.aN m)=true->d.all (AV.aN i)=true:=λd h=>by
  rw[Zc]at h ⊢;exact λx j=>Rl l x (h x j)
 cases B with
 |cells d=>exact g d h
 |lp w p a b d=>exact g d h
 |it z d=>exact g d h
 |gu E d=>exact g d h
 |vec e k d=>
  simp only[ao.aN,Zc]at h ⊢;exact λc q x j=>Rl l x (h c q x j)
 |front e k u=>rfl
 |jC e b=>rfl
 |map v=>rfl
 |l7 v=>rfl
 |gone=>rfl
def R4{m a:Nat}(b:m<=a){h:U ao}(e:h.all (ao.aN m)=true):h.all (ao.aN a)=true:=by
 rw[Zc]at e ⊢;exact λB d=>aiK b (e B d)
abbrev rD(ext:U Int):AV:= .bm [[.sl (bN ext)]] 0 0
def sI(p:U Int):AV:= .d (.sl (bN p))
def af2{n i x:Nat}{xs:U Nat}(h:(List.range n).drop i=x::xs):x=i:=by
 have:=bA h;have a:i<(List.range n).length:=(Zj.1 this).1;rw[List.getElem?_range (by simpa using a)]at this;exact(Zl this).symm
def alN(ext:U Int)(n:Nat)(J:n<=maxLen)(L:gq prog 156 [.d (.sl (bN ext))] (·=Y n)):Dy prog 155 [rD ext] ((List.range n).map λ(k:Nat)=>Y k):=by
 intro k h C m z M;have N:=Je _ m M;refine we h.length func155 rfl km (Zx _) ?_;show bM prog none h.length _ _ ⟨14,[(0,.cD k),(1,rD ext)],h⟩
 repeat refine az ?_
 refine fq ?_;refine bX rfl ?_;refine AS (x:= .d (.sl (bN ext))) rfl rfl ?_;refine bX rfl ?_;refine Fi (g:=156) (dz:=[]) rfl rfl rfl ?_;refine L.use rfl rfl ?_;refine bX rfl ?_;refine AS (x:= .d (.v (.int .i64 0))) rfl rfl ?_;refine bx ?_;refine ft ?_;refine NY (ι:=Nat×U Nat×U ao) [0,5,6] h.length (λi=>⟨14,[(0,.cD k),(5,.d (.v (.int .i64 n))),(6,.d (.v (.int .i64 i.1)))],i.2.2⟩)
  (λi=>(List.range n).drop i.1=i.2.1/\qv h i.2.2/\nf prog k (i.2.1.map λ(k:Nat)=>Y k) (λb a=>C b a/\qv h a) i.2.2) (λi=>i.2.1.length) (0,List.range n,h) (Zx _) ?_ ?_ ⟨rfl,⟨rfl,m⟩,N⟩ ?_
 ·exact L5 _ m (by
   show(((AV.cD k).bK h.length).aN h.length&&(true&&(true&&true)))=true;rw[CA z];rfl)
 ·exact Km _ m
 rintro⟨i,rest,hb⟩ ⟨l,⟨p,E⟩,q⟩;simp only at l p E q ⊢
 repeat refine az ?_
 refine fq ?_;refine bX rfl ?_;refine AS (x:= .d (.v (.bool (decide ((i:Int)<(n:Int)))))) rfl rfl ?_;refine bx ?_
 repeat refine az ?_
 have e:((List.range n).length:Int)=(n:Int):=by rw[List.length_range]
 cases rest with
 |nil=>
  rw[<-e,bY l];refine Bo ?_;refine mA (iK (iK (nx rfl ?_)));exact P9 p E ⟨rfl,true,q.1⟩
 |cons x rest=>
  rw[<-e,bZ l];have S:=af2 l;subst S;refine BE ?_;refine dn ?_;refine bx ?_
  repeat refine az ?_
  refine ft ?_
  repeat refine az ?_
  refine fq ?_;refine bX rfl ?_;refine AS (x:= .d (.v (.int .i64 x))) rfl rfl ?_;refine bX rfl ?_;refine AS (x:= .d (.v (.int .i64 x))) rfl rfl ?_;refine bx ?_
  repeat refine az ?_
  refine fq ?_;refine bX rfl ?_;refine AS (x:= .cD k) rfl rfl ?_;refine bX rfl ?_;refine AS (x:= .d (.v (.int .i64 x))) rfl rfl ?_;refine bX rfl ?_;rw[ZY]at q;refine Bi (k:=k) (x:=Y x) rfl rfl km km rfl rfl ?_;refine YS.mono q λb a T=> ?_;obtain⟨⟨W,F⟩,w⟩:=T;have j:a.length=h.length:=by rw[W,p]
  have u:a.all (ao.aN h.length)=true:=by rw[p]at F;exact F
  refine bX rfl ?_;refine AS (x:= .d (.v (.bool (!b)))) rfl rfl ?_;refine bx ?_;cases b with
  |false=>
   refine BE ?_;refine cT ?_
   repeat (first|(with_reducible refine dd ?_)|(with_reducible refine eI ?_))
   exact aeP j u ⟨rfl,false,w.1⟩
  |true=>
   refine Bo ?_;refine dn ?_;refine hY ?_;refine bx ?_;simp only[Tj]at w;refine fq ?_;refine bX rfl ?_;refine cP (x:= .d (.v (.int .i64 ((x+1:Nat):Int)))) (by
    show some ((.d (.v (.int .i64 (aY ((x:Int)+1)))):AV),HD.same)=_;have:=ck l rfl (by rw[List.length_range];exact J);unfold Y at this;rw[this]) rfl rfl ?_
   refine bX rfl ?_;refine AS (x:= .d (.v (.int .i64 ((x+1:Nat):Int)))) rfl rfl ?_;refine bx ?_;refine⟨?_,(x+1,rest,a),?_,⟨kG l,⟨j,u⟩,w⟩,ZC _⟩
   ·rw[<-j];exact L5 _ (by rw[j];exact u) (by
      show(((AV.cD k).bK a.length).aN a.length&&(true&&(true&&true)))=true;rw[j,CA z];rfl)
   ·rw[<-j];exact Km _ (by rw[j];exact u)
def anG(ext:U Int):gq prog 119 [.d (.sl (bN ext))] (·= .fn 155 [rD ext]):=by
 refine Qx (r:= .fn 155 [.ptr 0 0]) (h:=[.cells [.d (.sl (bN ext))]]) ?_ km rfl;refine sJ 1 func119 rfl km (Zh rfl) ?_;refine j0 (s':=⟨4,[(0,.d (.sl (bN ext)))],[]⟩) km ?_;refine az (CM [] [(1,.ptr 0 0)] [.cells [.d (.sl (bN ext))]] ?_);refine az (CM [] [(2,.fn 155 [.ptr 0 0])] [.cells [.d (.sl (bN ext))]] ?_);refine cT ?_;exact jQ km
def aiG{n:Nat}{t:U (Nat×AV)}{H l:U ao}(b:H.all (ao.aN H.length)=true):xB ⟨n,t,H++l⟩ H.length ⟨n,[],H⟩:=⟨fun{G w a} d=>by
 have e:=d.mask (live:=[]) (BQ (n:=n) (t:=t) (l:=l) [] b rfl)
 rwa [Cu [] b]at e⟩
def abP{n m:Nat}{t:U (Nat×AV)}{H:U ao}(a:H.length=m)(b:H.all (ao.aN m)=true):xB ⟨n,t,H⟩ m ⟨n,[],H⟩:=by
 subst a;have:=aiG (n:=n) (t:=t) (l:=[]) b
 rwa [ZW]at this
def ajD(ext:U Int)(kJ:U (U Int))(hn:kJ.length<=maxLen)(hc:gq prog 156 [.d (.sl (bN ext))] (·=Y kJ.length))
 (hp:∀(k:Nat)(p:U Int),kJ[k]?=some p->gq prog 120 [.d (.sl (bN ext)),Y k] (·= .bw [sI p,aG true])):Dy prog 118 [rD ext] (kJ.map sI):=by
 intro k h C lO hk AK;have hs:=Je _ lO AK;refine we h.length func118 rfl km (Zx _) ?_
 suffices hA:bM prog none h.length _ _ ⟨19,[(0,.cD k),(1,rD ext)],h++[]⟩ by rw[ZW]at hA;exact hA
 have rF:∀u,h.length<=u->(AV.cD k).aN u=true:=λu kF=>by simp [AV.aN,cF];omega
 have T:∀u,h.length<=u->(ao.cells [.cD k]).aN u=true:=λu kF=>by simp [ao.aN,rF u kF]
 repeat refine az ?_
 refine fq ?_;refine bX rfl ?_;refine Bq (ahS (l:=[]) (v:= .cD k) rfl km) rfl rfl Jj ?_;refine bx ?_
 repeat refine az ?_
 refine fq ?_;refine bX rfl ?_;refine AS (x:= .d (.sl (bN ext))) rfl rfl ?_;refine bX rfl ?_;refine Fi (g:=119) (dz:=[]) rfl rfl rfl ?_;refine(anG ext).use rfl rfl ?_;refine bx ?_;refine ft ?_;show bM prog none h.length _ _ ⟨19,[(7,.fn 155 [rD ext]),(6,.d (.sl (bN ext))),(2,.ptr h.length 0),(0,.cD k),(1,rD ext)],h++[.cells [.cD k]]⟩;refine ya (m:=h.length+1) (enc:=λ(q:Nat)=>Y q) (xs:=List.range kJ.length) (gf:=155) (dz:=[rD ext]) km (alN ext kJ.length hn hc) (λ(i:{z:U ao // qv h z})=>i.1++[.cells [.cD k]])
  (λi l=>∃j,(List.range kJ.length).drop j=l/\nf prog k ((kJ.drop j).map sI) (λb e=>C b e/\qv h e) i.1) ⟨h,rfl,lO⟩ rfl ⟨0,rfl,hs⟩ (λi=>by rw[Zi,i.2.1];rfl) (λi=> ?_) ?_ km ?_ ?_
 ·rw[List.all_append,R4 (Yp _ 2) i.2.2];simp [T (h.length+1+1) k7]
 ·have F:cF (h.length+1+1) k=false:=by rw[<-Uj,dT];omega
  have W:cF (h.length+1+1) h.length=false:=by rw[<-Uj,dT];omega
  show(([0,1,2,3,4,5,6,7,8,9,10,11,12,13,14,15,16,17,18]:U Nat).map λi=>bE _ i).all _=true;simp only[ZY,ai,bE,Z4,List.all_nil,Nat.reduceBEq,Tj,Tf,Bool.and_true,AV.aN,AV.lN];rw[F,W];rfl
 ·rintro⟨J,w,c2⟩ x l ⟨j,L,E⟩ rr a b;have hx:=af2 L;subst hx;have hj:x<kJ.length:=by
   have:=bA L;have:=(Zj.1 this).1
   simpa using this
  simp only at E ⊢;refine fq ?_;refine bX rfl ?_;refine AS (x:=Y x) rfl rfl ?_;refine bx ?_;refine⟨J++[.cells [.cD k]],[],by rw[Zi,w];rfl,rfl,?_⟩;generalize M:ao.lp .busy 8 a b (dL 19 _)=LP;have as5:LP.aN (h.length+2)=true:=by
   rw[<-M];have F:cF (h.length+2) k=false:=by rw[<-Uj,dT];omega
   have W:cF (h.length+2) h.length=false:=by rw[<-Uj,dT];omega
   show(([0,1,2,3,4,5,6,7,8,9,10,11,12,13,14,15,16,17,18]:U Nat).map λi=>bE _ i).all _=true;simp only[ZY,ai,bE,Z4,List.all_nil,Nat.reduceBEq,Tj,Tf,Bool.and_true,AV.aN,AV.lN];rw[F,W];rfl
  clear M;refine ft ?_
  repeat refine az ?_
  refine fq ?_;refine bX rfl ?_;refine AS (x:= .d (.sl (bN ext))) rfl rfl ?_;refine bX rfl ?_;refine AS (x:=Y x) rfl rfl ?_;refine bX rfl ?_;refine Fi (g:=120) (dz:=[]) rfl rfl rfl ?_;refine(hp x kJ[x] (Zd hj)).use rfl rfl ?_;refine bX rfl ?_;refine AS (x:= .bw [sI kJ[x],aG true]) rfl rfl ?_;refine bX rfl ?_;refine AS (x:=sI kJ[x]) rfl rfl ?_;refine bX rfl ?_;refine AS (x:=aG true) rfl rfl ?_;refine bX rfl ?_;refine AS (x:=sI kJ[x]) rfl rfl ?_;refine bX rfl ?_;refine AS (x:=aG true) rfl rfl ?_;refine bx ?_;rw[show(J++[ao.cells [.cD k]])++[LP]=J++[ao.cells [.cD k],LP] by simp]
  repeat refine az ?_
  refine fq ?_;refine bX rfl ?_;refine cP (zH (h:=J) (i:=0) (off:=0) (l:=[.cells [.cD k],LP]) (x:= .cD k) (by rw[w];rfl) rfl km) rfl rfl ?_;refine bX rfl ?_;refine AS (x:=sI kJ[x]) rfl rfl ?_;refine bX rfl ?_;rw[List.drop_eq_getElem_cons hj,ZY]at E;have F:=N9 E [.cells [.cD k],LP] (by rw[w];exact c2) km (λb h' hh=>hh.1);refine Bi (k:=k) (x:=sI kJ[x]) rfl rfl km km rfl rfl ?_;refine F.mono λb h' hh=> ?_;obtain⟨e,⟨⟨p1,p2⟩,p3⟩,rfl⟩:=hh;have N:e.length=h.length:=by rw[p1,w]
  have S:e.all (ao.aN h.length)=true:=by rw[w]at p2;exact p2
  have v1:(e++[ao.cells [.cD k]]).length=h.length+1:=by rw[Zi,N];rfl
  have v2:(e++[ao.cells [.cD k]]).all (ao.aN (h.length+2))=true:=by
   rw[List.all_append,R4 (Yp _ 2) S];simp [T]
  have v3:(e++[ao.cells [.cD k],LP]).all (ao.aN (h.length+2))=true:=by
   rw[List.all_append,R4 (Yp _ 2) S];simp [T,as5]
  have v4:(e++[ao.cells [.cD k],LP]).length=h.length+2:=by rw[Zi,N];rfl
  have v5:e++[ao.cells [.cD k],LP]=(e++[ao.cells [.cD k]])++[LP]:=by simp
  refine bX rfl ?_;refine AS (x:= .d (.v (.bool (!b)))) rfl rfl ?_;refine bx ?_;cases b with
  |false=>
   refine BE ?_;refine cT ?_
   repeat (first|(with_reducible refine dd ?_)|(with_reducible refine eI ?_))
   refine⟨e++[.cells [.cD k]],v1,v2,?_,?_⟩
   ·have SR:∀t,xB ⟨19,t,e++[ao.cells [.cD k],LP]⟩ (h.length+2) ⟨19,[],(e++[ao.cells [.cD k]])++[LP]⟩:=λt=>by
     rw[<-v5];exact abP v4 v3
    exact SR _
   ·refine eI ?_;rw[ZU];exact Dv N S ⟨rfl,false,p3.1⟩
  |true=>
   refine Bo ?_;refine dn ?_;refine hY ?_;simp only[Tj]at p3;refine⟨e++[.cells [.cD k]],v1,v2,?_,⟨e,N,S⟩,rfl,x+1,kG L,p3⟩;have SR:∀t,xB ⟨19,t,e++[ao.cells [.cD k],LP]⟩ (h.length+2) ⟨19,[],(e++[ao.cells [.cD k]])++[LP]⟩:=λt=>by
    rw[<-v5];exact abP v4 v3
   exact SR _
 ·rintro⟨J,w,c2⟩ ⟨j,L,E⟩;have:kJ.drop j=[]:=by
   have z:=List.drop_eq_nil_iff.1 L;rw[List.length_range]at z;exact List.drop_eq_nil_iff.2 z
  rw[this,ai]at E;refine hY ?_;rw[ZU];have:=Xk (P:=prog) (fn:=f118) (n:=19) (K:=λ_ z=>∃b,C b z) (t:=[(7,.fn 155 [rD ext]),(6,.d (.sl (bN ext))),(2,.ptr h.length 0),(0,.cD k),(1,rD ext)]) (l:=[.cells [.cD k]]++[.gone]) w c2;refine this ?_;exact⟨rfl,true,E.1⟩
def jh(a b:Int)(d:Bool)(how:Int):Bool:=
 let q:=IntKind.u64.wrap (a.tdiv b);let r:=a.tmod b
 (r==0||how==3)||((how==1&& !d)||(how==2&&d))||(how==4&&(decide (IntKind.u64.wrap (2*r)<b)||(IntKind.u64.wrap (2*r)==b&&q.tmod 2==0)))
def vu(a b:Int)(d:Bool)(how:Int):Int:=bif jh a b d how then IntKind.u64.wrap (a.tdiv b)else IntKind.u64.wrap (IntKind.u64.wrap (a.tdiv b)+1)
end Go.Proofs.YtjploedinjiflaaGreatDoor
