/-
  Part 9 of the proof: Sorts, AbsWs, AbsDl, AbsTm, AbsUnr, AbsOT, IterB, RndD.
-/
import Derived.Test.YtpeecnpmcbnahaaGreatDoorPr8
import Derived.WalkKit
import Derived.Shelf.Sort.Plain
import Derived.Shelf.Slices.CompactS
import Derived.Shelf.Slices.In.SortNone
import Derived.Sort.OwnSorted
import Derived.LoopNIn
namespace Go.Proofs.YtpeecnpmcbnahaaGreatDoor
open Go.RowKit Go.Shelf
set_option maxRecDepth 100000
set_option linter.unusedVariables false
def ah7:Ren where
 f:=fun
  |190=>241
  |125=>279
  |258=>278
  |128=>303
  |129=>304
  |302=>294
  |303=>295
  |304=>296
  |305=>297
  |306=>298
  |307=>299
  |308=>300
  |309=>301
  |310=>302
  |333=>315
  |329=>316
  |330=>317
  |334=>318
  |335=>319
  |336=>320
  |344=>324
  |n=>n
 t:=fun
  |31=>22
  |9=>9
  |3=>3
  |46=>255
  |0=>0
  |51=>299
  |53=>209
  |4=>4
  |183=>292
  |182=>291
  |131=>187
  |5=>5
  |218=>304
  |222=>308
  |228=>315
  |229=>316
  |n=>n
 g:=λn=>n
theorem W8:Lays.n190 Tryz.prog ah7:=by
 constructor<;>first|kernel_rfl|(intro w;rfl)
def ada:Ren where
 f:=fun
  |194=>242
  |n=>n
 t:=fun
  |31=>22
  |n=>n
 g:=λn=>n
theorem S1:Lays.n194 Tryz.prog ada:=by
 constructor<;>first|kernel_rfl|(intro w;rfl)
def k8(ss:an3 an4):an3 (an3 UInt8):=(ss.map bL).mergeSort λx y=>decide (x<=y)
def jE(ss:an3 an4):an3 an4:=(Lib.compact (k8 ss)).map λl=>⟨l.toArray⟩
theorem aas(ss:an3 an4):(k8 ss).length=ss.length:=by unfold k8;rw[List.length_mergeSort,anj]
theorem aiV(p:an5 Addr)(cap:Nat)(w:an8):Calls Tryz.prog 180 #[.slice p 0 cap] w λe w'=>e= .returned (.slice p 0 cap)/\w'=w:=by
 have J:Calls Tryz.prog 241 #[.slice p 0 cap] w λe w'=>e= .returned (.tuple #[])/\w'=w:=Any.slices_Sort_string_none W8 p cap w;have h2:Calls Tryz.prog 242 #[.slice p 0 cap] w λe w'=>e= .returned (.slice p 0 cap)/\w'=w:=Any.slices_Compact_string_empty S1 p cap w
 go_enter Tryz.func180,Tryz.ntmps180
 go_wp2_with (first|(go_at_call 241;refine J.mono ?_;rintro e w' ⟨rfl,rfl⟩)|(go_at_call 242;refine h2.mono ?_;rintro e w' ⟨rfl,rfl⟩))
 go_ret
 exact⟨rfl,rfl⟩
theorem amW{w:an8}{g:Nat}{cur:Array an7}{e:TypeId}{fr:Nat×Nat}(hb:w.heap[g]?=some (.cells cur e fr))(i:Nat):w.cell? ⟨g,i,none⟩=cur[i]?:=by
 simp only[World.cell?,hb,Option.isSome_none,Bool.false_eq_true,if_false]
theorem X8(zs:an3 (an3 UInt8)):(Lib.compact zs).length<=zs.length:=by
 have h:∀m,(Lib.compactUpTo zs.toArray m).length<=m:=by
  intro m
  induction m with
  |zero=>exact anp _
  |succ m ih=>
   rw[Lib.compactUpTo_succ,anf];split
   ·simp only[anh,anq];omega
   ·simp only[anq];omega
 exact h zs.length
theorem amc(g cap:Nat)(ss:an3 an4)(cur:Array an7)(w:an8)(hb:w.heap[g]?=some (.cells cur 9 (0,0)))(ht:cur.toList.take ss.length=(ss.map bL).map encStr)(hc:cur.size=cap)(jU:ss.length<=cap)(hm:cap<=maxLen)(hX:ss.length<4611686018427387904):
 Calls Tryz.prog 180 #[.slice (some ⟨g,0,none⟩) ss.length cap] w λe w'=>e= .returned (.slice (some ⟨g,0,none⟩) (jE ss).length cap)/\w.grownBy w' (some g)/\∀(i:Nat)(s:an4),(jE ss)[i]?=some s->w'.cell? ⟨g,i,none⟩=some (.string s):=by
 have hg:g<w.heap.size:=(ant.1 hb).1;have hzl:=aas ss;obtain⟨SW,Vj⟩:∃SW:an8->Prop,SW=λw'=>∃n os,w'=Sort.grow (Sort.putRow encStr (Sort.ahead w n) g 0 (k8 ss).toArray) os:=⟨_,rfl⟩;have J:Calls Tryz.prog 241 #[.slice (some ⟨g,0,none⟩) ss.length cap] w λe w'=>e= .returned (.tuple #[])/\SW w':=by
  have h:=Any.slices_Sort_string W8 g 0 cap (ss.map bL) w (holds_of_block hb (by rw[anj];exact ht)) hg (by rw[anj];exact hX);rw[anj]at h;rw[Vj];exact h
 have h2:∀w1,SW w1->Calls Tryz.prog 242 #[.slice (some ⟨g,0,none⟩) ss.length cap] w1 λe w'=>e= .returned (.slice (some ⟨g,0,none⟩) (jE ss).length cap)/\(w.grownBy w' (some g)/\∀(i:Nat)(s:an4),(jE ss)[i]?=some s->w'.cell? ⟨g,i,none⟩=some (.string s)):=by
  intro w1 hw;rw[Vj]at hw;obtain⟨n,os,rfl⟩:=hw;have iC:=heap_sorted (n:=n) (os:=os) (k8 ss).toArray hb;have Au:=grownBy_sorted (w:=w) (g:=g) (n:=n) (os:=os) (k8 ss).toArray;have e9:(Sort.putCells encStr 0 (k8 ss).toArray cur).size=cur.size:=by simp [Sort.putCells]
  have ht1:=take_putCells cur (k8 ss) (by omega);generalize Sort.grow (Sort.putRow encStr (Sort.ahead w n) g 0 (k8 ss).toArray) os=w1 at*;generalize Sort.putCells encStr 0 (k8 ss).toArray cur=Yg at*;have h:=Any.slices_Compact_string S1 g 0 cap (k8 ss) w1 (holds_of_block iC ht1) (by unfold maxLen at hm;omega) (by omega);rw[hzl]at h;refine h.mono λe w' hp=> ?_;obtain⟨rfl,q,rfl⟩:=hp;have hk:(jE ss).length=(Lib.compact (k8 ss)).length:=by unfold jE;rw[anj]
  refine⟨by rw[hk],?_⟩;obtain⟨ys,jO⟩:∃ys,ys=Lib.compact (k8 ss)++List.replicate (ss.length-(Lib.compact (k8 ss)).length) []:=⟨_,rfl⟩;rw[<-jO];have ph:ys.length<=Yg.size:=by
   have:=X8 (k8 ss);rw[jO,anf,anP];omega
  have zO:=grownBy_sorted (w:=w1) (g:=g) (n:=q) (os:= #[]) ys.toArray;have jY:=heap_sorted (n:=q) (os:= #[]) ys.toArray iC;rw[Sort.grow_empty]at zO jY;have ht2:=take_putCells Yg ys ph;refine⟨⟨zO.os.trans Au.os,zO.tape.trans Au.tape,zO.output.trans Au.output,anw Au.size zO.size,λk hk cA=>(zO.block k (anD hk Au.size) cA).trans (Au.block k hk cA)⟩,λi s hi=> ?_⟩;rw[amW jY i];unfold jE at hi;rw[anl]at hi;cases hq:(Lib.compact (k8 ss))[i]? with
  |none=>rw[hq]at hi;cases hi
  |some l=>
   rw[hq]at hi;cases hi;have jC:=(ane.1 hq).1;have hy:ys[i]?=some l:=by rw[jO,ano jC];exact hq
   have:=congrArg (λl:an3 an7=>l[i]?) ht2;rw[List.getElem?_take_of_lt (ane.1 hy).1,anl,hy,anC]at this;exact this
 go_enter Tryz.func180,Tryz.ntmps180
 go_wp2_with (first|(go_at_call 241;refine J.mono ?_;rintro e w1 ⟨rfl,Ac⟩)|(go_at_call 242;refine(h2 _ Ac).mono ?_;rintro e w2 ⟨rfl,QP⟩))
 go_ret
 exact⟨rfl,QP⟩
theorem ahW:jE []=[]:=by kernel_rfl
theorem Z4{G:Gh}{w:an8}{B:ao}(hi:bJ G w [B]):bJ G w [.gone]:=by
 refine⟨hi.len,hi.z,hi.S,λn C hC=> ?_,λm n b J h2=> ?_,hi.gl⟩
 ·match n,hC with
  |0,hC=>cases hC;exact trivial
  |n+1,hC=>simp at hC
 ·match m,J with
  |0,J=>cases J
  |m+1,J=>simp [bH]at J
theorem aiW{xs:an3 an4}{L:Nat}(hL:xs.length=L)(hX:L<4611686018427387904):
 cF Tryz.prog 180 [.vec 0 0 L L 1] [.vec 9 1 (bU (dQ xs))] λr1 J=>r1= .d (.sl (dQ (jE xs)))/\J=[.gone]:=by
 refine⟨by kernel_rfl,λG w vs hinv hvs hr=> ?_⟩;have mu:([ao.vec 9 1 (bU (dQ xs))]:an3 ao)[0]?=some (.vec 9 1 (bU (dQ xs))):=rfl;have pk:(bU (dQ xs)).length=L:=by rw[CC,kR,hL]
 obtain⟨v0,rfl⟩:∃v0,vs= #[v0]:=by
  obtain⟨l⟩:=vs
  match l,hvs with
  |[a],_=>exact⟨a,rfl⟩
 have r0:=hr 0 v0 _ rfl rfl;obtain⟨AK,⟨A,cc,rfl,q2,q3,q4,q5⟩,_⟩:=r0.tf hinv mu pk;by_cases h0:L=0
 ·subst h0;obtain rfl:xs=[]:=List.eq_nil_of_length_eq_zero hL;refine(aiV A cc w).mono λe w' hp=> ?_;obtain⟨rfl,rfl⟩:=hp;refine⟨_,G,_,_,rfl,bI.refl _ _ _,anp _,Z4 hinv,?_,rfl,rfl⟩;rw[ahW];exact .d (.sl A 0 0 cc 1 [] (λ_ _=>undef) (λh=>absurd rfl h) (Nat.zero_le _) q3 (λ_ h=>by cases h) (λ_ _ h=>absurd h (anH _)) λ_ _ _ _ h=>by simp at h)
 ·obtain⟨g,cap,s1,rfl,s3⟩:=q5 (by omega);obtain⟨g',C4,cur,t1,t2,t3,t4,t5,t6,t7,t8,t9⟩:=BQ hinv mu (λe=>by rw[e]at pk;simp at pk;omega);rw[t2,pk]at s1;cases s1
  have hcc:cc=cap:=by omega
  subst hcc;rw[pk]at t5;rw[Nat.mul_one]at t7;have hg:g<w.heap.size:=(ant.1 t4).1;have ht:cur.toList.take xs.length=(xs.map bL).map encStr:=by
   apply List.ext_getElem?;intro j;by_cases hj:j<xs.length
   ·have hx:xs[j]?=some xs[j]:=ani hj;have R4:j<cur.size:=by omega
    have hu:cur[j*1+0]?=some cur[j]:=by rw[Nat.mul_one,Nat.add_zero];exact anB R4
    have:=(t9 j 0 [.d (.v (.string xs[j]))] (.d (.v (.string xs[j]))) cur[j] (Rh (su hx)) rfl hu).val;rw[List.getElem?_take_of_lt hj,anC,anB R4,this,anl,anl,hx];rfl
   ·rw[List.getElem?_take_eq_none (by omega),anL (by simp;omega)]
  have hw:=amc g cc xs cur w t4 ht t7 (by omega) t6 (by omega);rw[hL]at hw;rw[show(⟨g,0*1,none⟩:Addr)=⟨g,0,none⟩from rfl];refine hw.mono λe w' hp=> ?_;obtain⟨rfl,gb,hcell⟩:=hp;have hK:(jE xs).length<=L:=by
   have:=X8 (k8 xs);rw[aas]at this;unfold jE;rw[anj];omega
  have hE:bI G.N G w (G.o8 g (jE xs).length) w':=
   ⟨gb.size,λ_ _ h=> .inl h,λb o hs=>by
    have cA:some b≠some g:=λe=>by cases e;exact t8 o hs
    unfold World.cell?;rw[gb.block b (hinv.S b o hs) cA],λ_ _=>rfl,λ_ _=> .inl ⟨rfl,rfl⟩,gU rfl,λb hb=>gb.block b (hinv.z b hb) (λe=>by cases e;exact t3 hb),gb.os,gb.tape,gb.output,λb o hs=>hs.imp id fun⟨e,_⟩ hz=>t3 (e▸hz)⟩
  have hI:bJ (G.o8 g (jE xs).length) w' [.gone]:=by
   have hi:=Z4 hinv;refine⟨hi.len,λb hb=>anD (hi.z b hb) gb.size,λb o hs=> ?_,λn C hC=> ?_,λm n b J h2=> ?_,hi.gl.keep hE⟩
   ·rcases hs with hs|⟨rfl,_⟩
    ·exact anD (hi.S b o hs) gb.size
    ·exact anD hg gb.size
   ·match n,hC with
    |0,hC=>cases hC;exact trivial
    |n+1,hC=>simp at hC
   ·match m,J with
    |0,J=>cases J
    |m+1,J=>simp [bH]at J
  have xl:Rd (G.o8 g (jE xs).length).S w' 1 (dQ (jE xs)) ((jE xs).map Value.string):=
   ⟨by rw[anj,kR,Nat.mul_one],λx hx=>(by rw[nC]at hx;obtain⟨y,_,rfl⟩:=List.mem_map.1 hx;rfl),λu hu=>(by obtain⟨y,_,rfl⟩:=List.mem_map.1 hu;rfl),λi j x d hx hd=>by
    rw[nC,anl]at hx;cases hk:(jE xs)[i]? with
    |none=>rw[hk]at hx;cases hx
    |some y=>
     rw[hk]at hx;cases hx;cases j with
     |zero=>cases hd;exact⟨.string y,by rw[Nat.mul_one,Nat.add_zero,anl,hk];rfl, .v _⟩
     |succ j=>cases hd⟩
  have hp:=xl.B3 g cc (by rw[kR];omega) t6 (λo ho=> .inr ⟨rfl,by rw[kR,Nat.mul_one]at ho;exact ho⟩) (λo u hu=>by
   rw[anl]at hu;cases hq:(jE xs)[o]? with
   |none=>rw[hq]at hu;cases hu
   |some y=>rw[hq]at hu;cases hu;exact hcell o y hq)
  rw[kR]at hp;exact⟨_,_,_,_,rfl,hE,anp _,hI, .d hp,rfl,rfl⟩
end Go.Proofs.YtpeecnpmcbnahaaGreatDoor
namespace Go.Proofs.YtpeecnpmcbnahaaGreatDoor
open Go.RowKit
set_option linter.unusedSimpArgs false
set_option linter.unusedVariables false
structure DL{α:Type}(f:List α->List (List D))(k:Nat):Prop where
 len:∀l,(f l).length=l.length
 all:∀l,∀c∈f l,c.length=k
 app:∀a b,f a++f b=f (a++b)
section
variable {P:an6} {α:Type} {f:an3 α->an3 (an3 D)} {k cN:Nat}
theorem Hb{n:Nat}(hb:0<cN)(h:Nat.ble (n*cN) 140737488355328=true):n<=maxLen/\n*cN<=140737488355328:=by
 have J:=anm h;have h2:n*1<=n*cN:=Nat.mul_le_mul_left n hb;refine⟨?_,J⟩;unfold maxLen;omega
def oA(F:DL f k)(A B:an3 α)(h:Nat.ble ((A.length+B.length)*cN) 140737488355328=true)(hb:0<cN:=by decide):Ob P:=
 ⟨_,_, .app (xs:=f A) (ys:=f B) (zs:=f (A++B)) (len:=A.length) (n:=(A++B).length) (F.len A).symm (F.all A) (F.all B) (by rw[F.len,F.len];exact(Hb hb h).1) (by rw[F.len,F.len];exact(Hb hb h).2) (F.app A B) (by rw[F.len,F.len,anf])⟩
def oZ(F:DL f k)(B:an3 α)(h:Nat.ble ((0+B.length)*cN) 140737488355328=true)(hb:0<cN:=by decide):Ob P:=
 ⟨_,_, .app (xs:=[]) (ys:=f B) (zs:=f B) (len:=0) (n:=B.length) rfl (λ_ hc=>absurd hc anV) (F.all B) (by rw[F.len];exact(Hb hb h).1) (by rw[F.len];exact(Hb hb h).2) rfl (by rw[F.len];exact anz _)⟩
end
section
variable {P:an6} {f:FuncId} {eJ:an3 AV} {H H':an3 ao} {r:AV}
def oQ(mm:an3 AV)(h:an3 ao)(l:an3 Nat)(hc:cF P f eJ H λr1 J=>r1=r/\J=H)(ha:mm=eJ.map (AV.aG (rn l 0)):=by kernel_rfl)(hd:pg l=true:=by kernel_rfl)(hb:l.map (λj=>h[j]?)=H.map (λB=>some (B.aG (rn l 0))):=by kernel_rfl)(hl:(eJ.all (AV.aC H.length)&&H.all (ao.aC H.length)&&r.aC H.length)=true:=by kernel_rfl):Ob P:=⟨_,_, .rq ha hd hb hl hc⟩
def oR(mm:an3 AV)(h:an3 ao)(l:an3 Nat)(hc:cF P f eJ H λr1 J=>r1=r/\J=H')(ha:mm=eJ.map (AV.aG (rn l h.length)):=by kernel_rfl)(hd:pg l=true:=by kernel_rfl)(hb:l.map (λj=>h[j]?)=H.map (λB=>some (B.aG (rn l h.length))):=by kernel_rfl)(hl:(eJ.all (AV.aC H.length)&&H.all (ao.aC H.length))=true:=by kernel_rfl):Ob P:=⟨_,_, .np ha hd hb hl hc⟩
def oX(oz:VD H)(hv:VD H')(mm:an3 AV)(h:an3 ao)(l:an3 Nat)(hc:cF P f eJ H λr1 J=>r1=r/\J=H')(ha:mm=eJ.map (AV.aG (rn l h.length)):=by kernel_rfl)(hd:pg l=true:=by kernel_rfl)(hb:l.map (λj=>h[j]?)=H.map (λB=>some (B.rb (rn l h.length))):=by kernel_rfl)(hl:(eJ.all (AV.aC H.length)&&H.all (ao.uw H.length))=true:=by kernel_rfl):Ob P:=⟨_,_, .Ma oz hv ha hd hb hl hc⟩
end
section
variable {P:an6} {r:an5 Nat} {N0:Nat} {Q:Exit->St->Prop} {w0:WO}
theorem JE{α:Type}{f:an3 α->an3 (an3 D)}{z:Nat}(F:DL f z)(k:Nat)(l:an3 α)(h:l.length<=maxLen->GW P r N0 Q w0)(hx:(bm (wS w0).t k).fE=some (f l):=by kernel_rfl):GW P r N0 Q w0:=
 amv k (f l) hx λe=>h (EK (F.len l) e)
theorem alB{α:Type}{f:an3 α->an3 (an3 D)}{z:Nat}(F:DL f z)(b i:Nat)(l:an3 α)(h:l.length<=maxLen->GW P r N0 Q w0)(hx:(((wS w0).h[b]?).bind λB=>match B with| .cells cs=>(cs[i]?).bind AV.fE|_=>none)=some (f l):=by kernel_rfl):GW P r N0 Q w0:=
 aic b i (f l) hx λe=>h (EK (F.len l) e)
structure oV{α ι R:Type}(k:Nat)(live:List Nat)(m:Nat)(L:List α)(st:Nat->ι->St)(G:List α->Nat->ι->Option R)(rr:R)(n:Nat)(x:α)(l:List α)(i:ι)(f:St->Prop):Prop where
 h:JY k live m (λz:Nat×List α×ι=>st z.1 z.2.2) (λz=>L.drop z.1=z.2.1/\G z.2.1 z.1 z.2.2=some rr) (λz=>z.2.1.length) (n,x::l,i) f
structure ta{ι R:Type}(k:Nat)(live:List Nat)(m:Nat)(st:ι->St)(G:Nat->ι->Option R)(rr:R)(d:Nat)(f:St->Prop):Prop where
 h:∀i,JY k live m (λz:Nat×ι=>st z.2) (λz=>G z.1 z.2=some rr) (λz=>z.1) (d+1,i) f
theorem JR(hm:P.follows .mixedOrders=true){α ι R:Type}{rr:R}(k:Nat)(aw:an3 (an3 (Nat×Ob P)))(live:an3 Nat)(m:Nat)(L:an3 α)(st:Nat->ι->St)(G:an3 α->Nat->ι->an5 R)(i0:ι)(hI:G L 0 i0=some rr)
 (nil:∀n i,L.drop n=[]->G [] n i=some rr->∀f:St->Prop,GW P r N0 Q (ie k f (st n i) (wk P w0 aw)))
 (cons:∀n x l i,L.drop n=x::l->G (x::l) n i=some rr->∀f:St->Prop,oV k live m L st G rr n x l i f->GW P r N0 Q (ie k f (st n i) (wk P w0 aw)))
 (hN:N0<=m) (e:lW live m (wk P w0 aw)=some (st 0 i0,dR aw)):GW P r N0 Q w0:=by
 refine P8 hm k aw live m (λz:Nat×an3 α×ι=>st z.1 z.2.2) (λz=>L.drop z.1=z.2.1/\G z.2.1 z.1 z.2.2=some rr) (λz=>z.2.1.length) (0,L,i0) ⟨rfl,hI⟩ (λz hz f hf=> ?_) hN e;obtain⟨n,l,i⟩:=z;obtain⟨J,h2⟩:=hz;cases l with
 |nil=>exact nil n i J h2 f
 |cons x l=>exact cons n x l i J h2 f ⟨hf⟩
theorem aln(hm:P.follows .mixedOrders=true){α ι R:Type}{rr:R}{live:an3 Nat}{m k:Nat}{L:an3 α}{st:Nat->ι->St}{G:an3 α->Nat->ι->an5 R}{n:Nat}{x:α}{l:an3 α}{i:ι}{f:St->Prop}(hf:oV k live m L st G rr n x l i f)(j:ι)(aw:an3 (an3 (Nat×Ob P)))(hd:L.drop n=x::l)(hI:G l (n+1) j=some rr)(e1:kT k (wK w0)=[f])(e:pc k live m (wk P w0 aw)=some (st (n+1) j,dR aw)):GW P r N0 Q w0:=
 MG hm hf.h (n+1,l,j) aw ⟨mB hd,hI⟩ (an1 _) e1 e
theorem Sz(hm:P.follows .mixedOrders=true){ι R:Type}{rr:R}(k:Nat)(aw:an3 (an3 (Nat×Ob P)))(live:an3 Nat)(m:Nat)(st:ι->St)(G:Nat->ι->an5 R)(d:Nat)(i0:ι)(hI:G d i0=some rr)(h0:∀i,G 0 i=none)
 (succ:∀d i,G (d+1) i=some rr->∀f:St->Prop,ta k live m st G rr d f->GW P r N0 Q (ie k f (st i) (wk P w0 aw)))
 (hN:N0<=m) (e:lW live m (wk P w0 aw)=some (st i0,dR aw)):GW P r N0 Q w0:=by
 refine P8 hm k aw live m (λz:Nat×ι=>st z.2) (λz=>G z.1 z.2=some rr) (λz=>z.1) (d,i0) hI (λz hz f hf=> ?_) hN e;obtain⟨d,i⟩:=z;cases d with
 |zero=>exact absurd ((h0 i).symm.trans hz) (by simp)
 |succ d=>exact succ d i hz f ⟨λj=>⟨λs' i' J h2 h3=>hf.h s' i' J h2 h3⟩⟩
theorem ajV(hm:P.follows .mixedOrders=true){ι R:Type}{rr:R}{live:an3 Nat}{m k:Nat}{st:ι->St}{G:Nat->ι->an5 R}{d:Nat}{f:St->Prop}(hf:ta k live m st G rr d f)(j:ι)(aw:an3 (an3 (Nat×Ob P)))(hI:G d j=some rr)(e1:kT k (wK w0)=[f])(e:pc k live m (wk P w0 aw)=some (st j,dR aw)):GW P r N0 Q w0:=
 MG hm (hf.h j) (d,j) aw hI (an1 _) e1 e
theorem Nj{P:an6}{f:FuncId}{fn:Func}{args:an3 AV}{R:AV}(hf:P.funcs[f]?=some fn)(hw:GW P none 0 (kQ P fn R) (yq fn args []))(hb:fn.body.isSome=true:=by kernel_rfl)(hn:(fn.name== "runtime.NumGoroutine")=false:=by kernel_rfl):fP P f args (·=R):=ae0 hf hb hn hw
theorem BZ{P:an6}{f:FuncId}{fn:Func}{args:an3 AV}{h H:an3 ao}{R:AV}(m:Nat)(hf:P.funcs[f]?=some fn)(hw:GW P none h.length (uH P fn m R H) (yq fn args h))(hb:fn.body.isSome=true:=by kernel_rfl)(hn:(fn.name== "runtime.NumGoroutine")=false:=by kernel_rfl)(hm:h.length<=m:=by exact anm rfl):cF P f args h λr1 J=>r1=R/\J=H:=adA m hf hb hn hm hw
variable {α A B C D' R:Type} {rr:R}
theorem wl0(hm:P.follows .mixedOrders=true)(k:Nat)(aw:an3 (an3 (Nat×Ob P)))(live:an3 Nat)(m:Nat)(L:an3 α)(st:Nat->St)(G:an3 α->Nat->an5 R)(hI:G L 0=some rr)
 (nil:∀n,L.drop n=[]->G [] n=some rr->∀f:St->Prop,GW P r N0 Q (ie k f (st n) (wk P w0 aw)))
 (cons:∀n x l,L.drop n=x::l->G (x::l) n=some rr->∀f:St->Prop,oV k live m L (λn(_:Unit)=>st n) (λl n _=>G l n) rr n x l () f->GW P r N0 Q (ie k f (st n) (wk P w0 aw)))
 (hN:N0<=m:=by exact anm rfl) (e:lW live m (wk P w0 aw)=some (st 0,dR aw):=by kernel_rfl):GW P r N0 Q w0:=
 JR hm k aw live m L (λn(_:Unit)=>st n) (λl n _=>G l n) () hI (λn _=>nil n) (λn x l _=>cons n x l) hN e
theorem Og(hm:P.follows .mixedOrders=true)(k:Nat)(aw:an3 (an3 (Nat×Ob P)))(live:an3 Nat)(m:Nat)(L:an3 α)(st:Nat->A->St)(G:an3 α->Nat->A->an5 R)(a0:A)(hI:G L 0 a0=some rr)
 (nil:∀n a,L.drop n=[]->G [] n a=some rr->∀f:St->Prop,GW P r N0 Q (ie k f (st n a) (wk P w0 aw)))
 (cons:∀n x l a,L.drop n=x::l->G (x::l) n a=some rr->∀f:St->Prop,oV k live m L st G rr n x l a f->GW P r N0 Q (ie k f (st n a) (wk P w0 aw)))
 (hN:N0<=m:=by exact anm rfl) (e:lW live m (wk P w0 aw)=some (st 0 a0,dR aw):=by kernel_rfl):GW P r N0 Q w0:=
 JR hm k aw live m L st G a0 hI nil cons hN e
theorem wl2(hm:P.follows .mixedOrders=true)(k:Nat)(aw:an3 (an3 (Nat×Ob P)))(live:an3 Nat)(m:Nat)(L:an3 α)(st:Nat->A->B->St)(G:an3 α->Nat->A->B->an5 R)(a0:A)(b0:B)(hI:G L 0 a0 b0=some rr)
 (nil:∀n a b,L.drop n=[]->G [] n a b=some rr->∀f:St->Prop,GW P r N0 Q (ie k f (st n a b) (wk P w0 aw)))
 (cons:∀n x l a b,L.drop n=x::l->G (x::l) n a b=some rr->∀f:St->Prop,oV k live m L (λn(i:A×B)=>st n i.1 i.2) (λl n i=>G l n i.1 i.2) rr n x l (a,b) f->GW P r N0 Q (ie k f (st n a b) (wk P w0 aw)))
 (hN:N0<=m:=by exact anm rfl) (e:lW live m (wk P w0 aw)=some (st 0 a0 b0,dR aw):=by kernel_rfl):GW P r N0 Q w0:=
 JR hm k aw live m L (λn(i:A×B)=>st n i.1 i.2) (λl n i=>G l n i.1 i.2) (a0,b0) hI (λn i=>nil n i.1 i.2) (λn x l i=>cons n x l i.1 i.2) hN e
theorem wl3(hm:P.follows .mixedOrders=true)(k:Nat)(aw:an3 (an3 (Nat×Ob P)))(live:an3 Nat)(m:Nat)(L:an3 α)(st:Nat->A->B->C->St)(G:an3 α->Nat->A->B->C->an5 R)(a0:A)(b0:B)(c0:C)(hI:G L 0 a0 b0 c0=some rr)
 (nil:∀n a b c,L.drop n=[]->G [] n a b c=some rr->∀f:St->Prop,GW P r N0 Q (ie k f (st n a b c) (wk P w0 aw)))
 (cons:∀n x l a b c,L.drop n=x::l->G (x::l) n a b c=some rr->∀f:St->Prop,oV k live m L (λn(i:A×B×C)=>st n i.1 i.2.1 i.2.2) (λl n i=>G l n i.1 i.2.1 i.2.2) rr n x l (a,b,c) f->GW P r N0 Q (ie k f (st n a b c) (wk P w0 aw)))
 (hN:N0<=m:=by exact anm rfl) (e:lW live m (wk P w0 aw)=some (st 0 a0 b0 c0,dR aw):=by kernel_rfl):GW P r N0 Q w0:=
 JR hm k aw live m L (λn(i:A×B×C)=>st n i.1 i.2.1 i.2.2) (λl n i=>G l n i.1 i.2.1 i.2.2) (a0,b0,c0) hI (λn i=>nil n i.1 i.2.1 i.2.2) (λn x l i=>cons n x l i.1 i.2.1 i.2.2) hN e
theorem wb(hm:P.follows .mixedOrders=true){ι:Type}{live:an3 Nat}{m k:Nat}{L:an3 α}{st:Nat->ι->St}{G:an3 α->Nat->ι->an5 R}{n:Nat}{x:α}{l:an3 α}{i:ι}{f:St->Prop}(hf:oV k live m L st G rr n x l i f)(j:ι)(aw:an3 (an3 (Nat×Ob P)))(hd:L.drop n=x::l)(hI:G l (n+1) j=some rr)(e1:kT k (wK w0)=[f]:=by kernel_rfl)(e:pc k live m (wk P w0 aw)=some (st (n+1) j,dR aw):=by kernel_rfl):GW P r N0 Q w0:=aln hm hf j aw hd hI e1 e
theorem wf1(hm:P.follows .mixedOrders=true)(k:Nat)(aw:an3 (an3 (Nat×Ob P)))(live:an3 Nat)(m:Nat)(st:A->St)(G:Nat->A->an5 R)(d:Nat)(a0:A)(hI:G d a0=some rr)
 (succ:∀d a,G (d+1) a=some rr->∀f:St->Prop,ta k live m st G rr d f->GW P r N0 Q (ie k f (st a) (wk P w0 aw))) (h0:∀a,G 0 a=none:=by intros;rfl)
 (hN:N0<=m:=by exact anm rfl) (e:lW live m (wk P w0 aw)=some (st a0,dR aw):=by kernel_rfl):GW P r N0 Q w0:=
 Sz hm k aw live m st G d a0 hI h0 succ hN e
theorem wf2(hm:P.follows .mixedOrders=true)(k:Nat)(aw:an3 (an3 (Nat×Ob P)))(live:an3 Nat)(m:Nat)(st:A->B->St)(G:Nat->A->B->an5 R)(d:Nat)(a0:A)(b0:B)(hI:G d a0 b0=some rr)
 (succ:∀d a b,G (d+1) a b=some rr->∀f:St->Prop,ta k live m (λ(i:A×B)=>st i.1 i.2) (λd i=>G d i.1 i.2) rr d f->GW P r N0 Q (ie k f (st a b) (wk P w0 aw))) (h0:∀a b,G 0 a b=none:=by intros;rfl)
 (hN:N0<=m:=by exact anm rfl) (e:lW live m (wk P w0 aw)=some (st a0 b0,dR aw):=by kernel_rfl):GW P r N0 Q w0:=
 Sz hm k aw live m (λ(i:A×B)=>st i.1 i.2) (λd i=>G d i.1 i.2) d (a0,b0) hI (λi=>h0 i.1 i.2) (λd i=>succ d i.1 i.2) hN e
theorem wbf(hm:P.follows .mixedOrders=true){ι:Type}{live:an3 Nat}{m k:Nat}{st:ι->St}{G:Nat->ι->an5 R}{d:Nat}{f:St->Prop}(hf:ta k live m st G rr d f)(j:ι)(aw:an3 (an3 (Nat×Ob P)))(hI:G d j=some rr)(e1:kT k (wK w0)=[f]:=by kernel_rfl)(e:pc k live m (wk P w0 aw)=some (st j,dR aw):=by kernel_rfl):GW P r N0 Q w0:=ajV hm hf j aw hI e1 e
def zK(g:Nat)(t:an5 Nat):an3 Oper->Nat->an3 Nat
 |[],_=>[]
 |o::l,j=>match o.guard with
  |some (g',_)=>bif g'==g then(3*j)::zK g t l (j+1)else zK g t l (j+1)
  |none=>match o.op,t with
   | .pick (.tmp c) _ _,some t'=>bif c==t' then(3*j+1)::zK g t l (j+1)else zK g t l (j+1)
   |_,_=>zK g t l (j+1)
def alj(l:an3 Oper)(g:Nat):an5 Nat:=match l[g]? with
 |some o=>o.dst
 |none=>none
def FW:WO->an3 Oper
 |some (.at (.region _ ops _) _ _,_)=>ops.toList
 |_=>[]
noncomputable def JT(ops:an3 Oper)(sp si:an3 (Nat×Ob P)):an3 (Nat×Ob P):=so (sp.foldr (λx t=>os (zK x.1 (alj ops x.1) ops 0) x.2 t) si)
theorem EI(hm:P.follows .mixedOrders=true)(Δ:an3 (Nat×AV))(h':an3 ao)(e:∃sp si:an3 (Nat×Ob P),Hw P (Δ.map (·.1)) (iU (JT (FW (wk P w0 [])) sp si)) (wk P w0 [])=some (Δ,h',jj (JT (FW (wk P w0 [])) sp si)))(k:GW P r N0 Q (tg Δ h' (wk P w0 [])))(e0:sk (wk P w0 [])=some []:=by kernel_rfl):GW P r N0 Q w0:=
 afM hm Δ h' (let ⟨_,_,h⟩:=e;⟨_,h⟩) k e0
theorem wj0(hm:P.follows .mixedOrders=true)(rr:R)(k:Nat)(aw:an3 (an3 (Nat×Ob P)))(live:an3 Nat)(m:Nat)(st:St)(G:an5 R)
 (br:∀f:St->Prop,A3 k live m (λ(_:Unit)=>st) (λ_=>G=some rr) f->GW P r N0 Q (Kw k f (wk P w0 aw)))
 (rest:G=some rr->GW P r N0 Q (Iy st (wk P w0 aw))) (hN:N0<=m:=by exact anm rfl) (e:Dq (wk P w0 aw)=some (dR aw):=by kernel_rfl):GW P r N0 Q w0:=
 Lr hm k aw live m (λ(_:Unit)=>st) (λ_=>G=some rr) br (λ_=>rest) hN e
theorem Dm(hm:P.follows .mixedOrders=true)(rr:R)(k:Nat)(aw:an3 (an3 (Nat×Ob P)))(live:an3 Nat)(m:Nat)(st:A->St)(G:A->an5 R)
 (br:∀f:St->Prop,A3 k live m st (λa=>G a=some rr) f->GW P r N0 Q (Kw k f (wk P w0 aw)))
 (rest:∀a,G a=some rr->GW P r N0 Q (Iy (st a) (wk P w0 aw))) (hN:N0<=m:=by exact anm rfl) (e:Dq (wk P w0 aw)=some (dR aw):=by kernel_rfl):GW P r N0 Q w0:=
 Lr hm k aw live m st (λa=>G a=some rr) br rest hN e
def tr(i j n:Nat):Nat:=bif n==i then j else bif n==j then i else n
theorem aay(i j n:Nat):tr i j (tr i j n)=n:=by
 unfold tr;cases J:n==i with
 |true=>
  rw[beq_iff_eq]at J;subst J;simp only[cond_true];cases h2:j==n with
  |true=>rw[beq_iff_eq]at h2;subst h2;rfl
  |false=>rw[anY];rfl
 |false=>
  simp only[cond_false];cases h2:n==j with
  |true=>rw[beq_iff_eq]at h2;subst h2;simp only[cond_true];rw[anY];rfl
  |false=>simp only[cond_false];rw[J,h2];rfl
theorem Wi{i j n k:Nat}(hi:i<k)(hj:j<k)(hn:n<k):tr i j n<k:=by
 unfold tr;cases n==i with
 |true=>exact hj
 |false=>cases n==j with
  |true=>exact hi
  |false=>exact hn
def QU(i j:Nat)(h:an3 ao):an3 ao:=match h[i]?,h[j]? with
 |some a,some b=>((h.set i b).set j a).map (ao.aG (tr i j))
 |_,_=>h
def swS(i j:Nat)(s:St):St:=⟨s.n,s.t.map (λp=>(p.1,p.2.aG (tr i j))),QU i j s.h⟩
theorem YX(f:AV->AV)(hf:f .dead= .dead):∀(t:an3 (Nat×AV))(i:Nat),bm (t.map λp=>(p.1,f p.2)) i=f (bm t i)
 |[],i=>by rw[List.map_nil];show AV.dead=f .dead;rw[hf]
 |(k,x)::t,i=>by
  rw[anE,kX,kX,YX f hf t i];by_cases h:i=k
  ·rw[if_pos h,if_pos h]
  ·rw[if_neg h,if_neg h]
theorem Va{i j:Nat}{s:St}(hi:i<s.h.length)(hj:j<s.h.length)(hNi:N0<=i)(hNj:N0<=j):im N0 s (swS i j s):=by
 have ei:s.h[i]?=some s.h[i]:=ani hi;have ej:s.h[j]?=some s.h[j]:=ani hj;have eh:(swS i j s).h=((s.h.set i s.h[j]).set j s.h[i]).map (ao.aG (tr i j)):=by
  show QU i j s.h=_;unfold QU;rw[ei,ej]
 refine im.aG (tr i j) (tr i j) rfl (by rw[eh];simp) (λn hn=>Wi hi hj hn) (λn hn=>Wi hi hj hn) (λn _=>aay i j n) (λn _=>aay i j n) (λn hn=> ?_) (λn _=> .inl ?_) λn hn=> ?_
 ·unfold tr;rw[show(n==i)=false from beq_eq_false_iff_ne.2 (by omega),show(n==j)=false from beq_eq_false_iff_ne.2 (by omega)];rfl
 ·exact YX (λx=>x.aG (tr i j)) rfl s.t n
 ·rw[eh,anl];refine congrArg (Option.map _) ?_;unfold tr;cases J:n==i with
  |true=>
   rw[beq_iff_eq]at J;subst J;simp only[cond_true];rw[anI (by rw[List.length_set];exact hj),ei]
  |false=>
   simp only[cond_false];have mA:=beq_eq_false_iff_ne.1 J;cases h2:n==j with
   |true=>
    rw[beq_iff_eq]at h2;subst h2;simp only[cond_true];rw[anN (by omega),anI hi,ej]
   |false=>
    have MP:=beq_eq_false_iff_ne.1 h2;simp only[cond_false];rw[anN (by omega),anN (by omega)]
theorem T7{c:Code}{s s':St}(h:im N0 s s')(k:bw P r N0 c Q s'):bw P r N0 c Q s:=⟨λG w a n hs hN=>by
 obtain⟨G1,hE,gh,e9⟩:=h G w a hN hs;exact wpIn_mono (k.run G1 w a n e9 gh) λ_ _ _ hn=>hn.trans hE⟩
end
theorem sD:DL dQ 1:=⟨λ_=>kR,λ_=>Ik,λ_ _=>aib⟩
theorem oF:DL bu 1:=⟨λ_=>dInts_len,λ_=>Cs,λ_ _=>afq⟩
theorem HX:DL gr 2:=⟨λ_=>uU,λ_=>Yq,λ_ _=>akg⟩
theorem JA:DL aT 2:=⟨λ_=>GK,λ_=>alA,λ_ _=>akj⟩
theorem yY:DL dy 2:=⟨λ_=>iD,λ_=>Mf,λ_ _=>afi⟩
theorem afF:DL ou 5:=⟨λ_=>ami,λ_=>aju,λ_ _=>akm⟩
theorem Z0:DL oe 3:=⟨λ_=>Jp,λ_=>amR,λ_ _=>aeQ⟩
theorem tF:DL gC 2:=⟨λ_=>lY,λ_=>acL,λ_ _=>adr⟩
theorem Ag:DL iV 3:=⟨λ_=>nB,λ_=>ae6,λ_ _=>ae9⟩
theorem Gz:DL aY 8:=⟨λ_=>FG,λ_=>ag5,λ_ _=>ag1⟩
theorem VS:DL oB 1:=⟨λ_=>Re,λ_=>alJ,λ_ _=>alN⟩
theorem aaV:DL kG 7:=⟨λ_=>Aa,λ_=>akU,λ_ _=>al8⟩
theorem Gl:DL eO 4:=⟨λ_=>lZ,λ_=>adf,λ_ _=>afL⟩
theorem Lx:DL iO 13:=⟨λ_=>vY,λ_=>acn,λ_ _=>alH⟩
theorem NG:DL jc 22:=⟨λ_=>xq,λ_=>Ze,λ_ _=>aiL⟩
abbrev KF(f:FuncId)(args:an3 AV)(R:AV):Prop:=fP Tryz.prog f args (·=R)
abbrev KH(f:FuncId)(args:an3 AV)(h:an3 ao)(R:AV)(H:an3 ao):Prop:=cF Tryz.prog f args h λr1 J=>r1=R/\J=H
def KO{α:Type}(f:FuncId)(args:an3 AV)(en:α->AV)(o:an5 α):Prop:=∀r:α,o=some r->KF f args (en r)
def KP{α:Type}(f:FuncId)(args:an3 AV)(h:an3 ao)(en:α->AV)(eh:α->an3 ao)(o:an5 α):Prop:=∀r:α,o=some r->KH f args h (en r) (eh r)
def cK{α:Type}{f:FuncId}{args:an3 AV}{en:α->AV}{o:an5 α}{r:α}(k:KO f args en o)(h:o=some r):Ob Tryz.prog:=cL (k r h)
def IE{α:Type}(o:an5 α)(G:α->Prop):Prop:=∀v,o=some v->G v
section
variable {α β:Type} {x:an5 α} {G:α->Prop}
theorem az{x:an5 β}{f:β->an5 α}(k:∀a,x=some a->IE (f a) G):IE (Option.bind x f) G:=λv h=>
 have ⟨a,J,h2⟩:=ck h
 k a J v h2
theorem dN{c:Bool}(k:c=true->IE x G):IE (bif c then x else none) G:=λv h=>
 have ⟨J,h2⟩:=uJ h
 k J v h2
theorem aE{c:Bool}{a b:an5 α}(t:c=true->IE a G)(f:c=false->IE b G):IE (bif c then a else b) G:=λv h=>bc h (λi j=>t i v j) λi j=>f i v j
theorem gE{α β γ:Type}{Φ:α->β->γ->Prop}{x:γ}(a:α)(b:β)(k:Φ a b x:=by kernel_rfl):IE (some x) λy=>∃a b,Φ a b y:=λv h=>sj h▸⟨a,b,k⟩
theorem dO{α β γ:Type}{Φ:α->an3 β->γ->Prop}{o:an5 γ}(x:β)(k:IE o λy=>∃a b,Φ a (x::b) y):IE o λy=>∃a b,Φ a b y:=λv h=>
 have ⟨a,b,c⟩:=k v h
 ⟨a,x::b,c⟩
theorem eK{α β γ:Type}{Φ:an3 α->β->γ->Prop}{o:an5 γ}(x:α)(k:IE o λy=>∃a b,Φ (x::a) b y):IE o λy=>∃a b,Φ a b y:=λv h=>
 have ⟨a,b,c⟩:=k v h
 ⟨x::a,b,c⟩
end
section
variable {α β:Type} {o:an5 α} {x y:α} {r:an5 Nat} {N0:Nat} {Q:α->Exit->St->Prop} {w0:WO}
theorem gA(aw:an3 (an3 (Nat×Ob Tryz.prog)))(k:IE o λq=>q=y->GW Tryz.prog r N0 (Q q) (wk Tryz.prog w0 aw))(e:sk (wk Tryz.prog w0 aw)=some (dR aw):=by kernel_rfl):IE o λq=>q=y->GW Tryz.prog r N0 (Q q) w0:=λv h q=>je bW aw (k v h q) e
theorem gR{en:α->AV}{fn:Func}(aw:an3 (an3 (Nat×Ob Tryz.prog)))(e:rY Tryz.prog fn.results.toList (wk Tryz.prog w0 aw)=some (en x,dR aw):=by kernel_rfl):IE (some x) λq=>q=y->GW Tryz.prog r N0 (kQ Tryz.prog fn (en q)) w0:=λv h _=>sj h▸wr bW aw e
theorem gH{en:α->AV}{eh:α->an3 ao}{fn:Func}{m:Nat}(aw:an3 (an3 (Nat×Ob Tryz.prog)))(e:Kx Tryz.prog fn.results.toList m (wk Tryz.prog w0 aw)=some ((en x,eh x),dR aw):=by kernel_rfl):IE (some x) λq=>q=y->GW Tryz.prog r N0 (uH Tryz.prog fn m (en q) (eh q)) w0:=λv h _=>sj h▸m5 bW aw e
theorem gG{x:an5 β}{f:β->an5 α}(Δ:β->an3 (Nat×AV))(h':β->an3 ao)(e:IE x λv=>∃sp si:an3 (Nat×Ob Tryz.prog),Hw Tryz.prog ((Δ v).map (·.1)) (iU (JT (FW (wk Tryz.prog w0 [])) sp si)) (wk Tryz.prog w0 [])=some (Δ v,h' v,jj (JT (FW (wk Tryz.prog w0 [])) sp si)))(k:∀v,IE (f v) λq=>q=y->GW Tryz.prog r N0 (Q q) (tg (Δ v) (h' v) (wk Tryz.prog w0 [])))(e0:sk (wk Tryz.prog w0 [])=some []:=by kernel_rfl):IE (Option.bind x f) λq=>q=y->GW Tryz.prog r N0 (Q q) w0:=λv h q=>
 have ⟨a,J,h2⟩:=ck h
 EI bW (Δ a) (h' a) (e a J) (k a v h2 q) e0
theorem bZ{c:Bool}{b:an5 α}{en:α->AV}{fn:Func}(f:c=false->IE b λq=>q=y->GW Tryz.prog r N0 (kQ Tryz.prog fn (en q)) w0)(e:∀h:c=true,rY Tryz.prog fn.results.toList (wk Tryz.prog w0 [[(0,bT h)],[]])=some (en x,dR (P:=Tryz.prog) [[(0,bT h)],[]]):=by intro h;kernel_rfl):IE (bif c then some x else b) λq=>q=y->GW Tryz.prog r N0 (kQ Tryz.prog fn (en q)) w0:=aE (λh=>gR [[(0,bT h)],[]] (e h)) (f)
theorem rk{c:Bool}{b:an5 α}{en:α->AV}{fn:Func}(f:c=false->IE b λq=>q=y->GW Tryz.prog r N0 (kQ Tryz.prog fn (en q)) w0)(e:∀h:c=true,rY Tryz.prog fn.results.toList (wk Tryz.prog w0 [[(0,bF (dK h))],[]])=some (en x,dR (P:=Tryz.prog) [[(0,bF (dK h))],[]]):=by intro h;kernel_rfl):IE (bif c then some x else b) λq=>q=y->GW Tryz.prog r N0 (kQ Tryz.prog fn (en q)) w0:=aE (λh=>gR [[(0,bF (dK h))],[]] (e h)) (f)
theorem tQ{c:Bool}{b:an5 α}{en:α->AV}{fn:Func}(f:c=true->IE b λq=>q=y->GW Tryz.prog r N0 (kQ Tryz.prog fn (en q)) w0)(e:∀h:c=false,rY Tryz.prog fn.results.toList (wk Tryz.prog w0 [[(0,bF h)],[]])=some (en x,dR (P:=Tryz.prog) [[(0,bF h)],[]]):=by intro h;kernel_rfl):IE (bif c then b else some x) λq=>q=y->GW Tryz.prog r N0 (kQ Tryz.prog fn (en q)) w0:=aE (f) (λh=>gR [[(0,bF h)],[]] (e h))
theorem lU{c:Bool}{b:an5 α}{en:α->AV}{fn:Func}(f:c=true->IE b λq=>q=y->GW Tryz.prog r N0 (kQ Tryz.prog fn (en q)) w0)(e:∀h:c=false,rY Tryz.prog fn.results.toList (wk Tryz.prog w0 [[(0,bT (eD h))],[]])=some (en x,dR (P:=Tryz.prog) [[(0,bT (eD h))],[]]):=by intro h;kernel_rfl):IE (bif c then b else some x) λq=>q=y->GW Tryz.prog r N0 (kQ Tryz.prog fn (en q)) w0:=aE (f) (λh=>gR [[(0,bT (eD h))],[]] (e h))
theorem lx{c:Bool}{b:an5 α}{en:α->AV}{fn:Func}(f:∀h:c=false,IE b λq=>q=y->GW Tryz.prog r N0 (kQ Tryz.prog fn (en q)) (wk Tryz.prog w0 [[(0,bF h)],[]]))(e:∀h:c=true,rY Tryz.prog fn.results.toList (wk Tryz.prog w0 [[(0,bT h)],[]])=some (en x,dR (P:=Tryz.prog) [[(0,bT h)],[]]):=by intro h;kernel_rfl)(e2:∀h:c=false,sk (wk Tryz.prog w0 [[(0,bF h)],[]])=some (dR (P:=Tryz.prog) [[(0,bF h)],[]]):=by intro h;kernel_rfl):IE (bif c then some x else b) λq=>q=y->GW Tryz.prog r N0 (kQ Tryz.prog fn (en q)) w0:=aE (λh=>gR [[(0,bT h)],[]] (e h)) (λh=>gA [[(0,bF h)],[]] (f h) (e2 h))
def t0{c:Bool}(h:c=true):Nat×Ob Tryz.prog:=(0,bT h)
def f0{c:Bool}(h:c=false):Nat×Ob Tryz.prog:=(0,bF h)
theorem li{w1:WO}(f:∀q,GW Tryz.prog r N0 (Q q) w1->GW Tryz.prog r N0 (Q q) w0)(k:IE o λq=>q=y->GW Tryz.prog r N0 (Q q) w1):IE o λq=>q=y->GW Tryz.prog r N0 (Q q) w0:=λv h q=>f v (k v h q)
theorem gT{β:Type}{f:an3 β->an3 (an3 D)}{z:Nat}(F:DL f z)(k:Nat)(l:an3 β)(h:l.length<=maxLen->IE o λq=>q=y->GW Tryz.prog r N0 (Q q) w0)(hx:(bm (wS w0).t k).fE=some (f l):=by kernel_rfl):IE o λq=>q=y->GW Tryz.prog r N0 (Q q) w0:=λv h2 q=>JE F k l (λa=>h a v h2 q) hx
theorem gB{β:Type}{f:an3 β->an3 (an3 D)}{z:Nat}(F:DL f z)(b i:Nat)(l:an3 β)(h:l.length<=maxLen->IE o λq=>q=y->GW Tryz.prog r N0 (Q q) w0)(hx:(((wS w0).h[b]?).bind λB=>match B with| .cells cs=>(cs[i]?).bind AV.fE|_=>none)=some (f l):=by kernel_rfl):IE o λq=>q=y->GW Tryz.prog r N0 (Q q) w0:=λv h2 q=>alB F b i l (λa=>h a v h2 q) hx
theorem fw{f:FuncId}{fn:Func}{args:an3 AV}{en:α->AV}(hf:Tryz.prog.funcs[f]?=some fn)(hw:∀{y},IE o λq=>q=y->GW Tryz.prog none 0 (kQ Tryz.prog fn (en q)) (yq fn args []))(hb:fn.body.isSome=true:=by kernel_rfl)(hn:(fn.name== "runtime.NumGoroutine")=false:=by kernel_rfl):KO f args en o:=λr h=>Nj hf (hw r h rfl) hb hn
theorem fh{f:FuncId}{fn:Func}{args:an3 AV}{h:an3 ao}{en:α->AV}{eh:α->an3 ao}(m:Nat)(hf:Tryz.prog.funcs[f]?=some fn)(hw:∀{y},IE o λq=>q=y->GW Tryz.prog none h.length (uH Tryz.prog fn m (en q) (eh q)) (yq fn args h))(hb:fn.body.isSome=true:=by kernel_rfl)(hn:(fn.name== "runtime.NumGoroutine")=false:=by kernel_rfl)(hm:h.length<=m:=by exact anm rfl):KP f args h en eh o:=λr q=>BZ m hf (hw r q rfl) hb hn hm
end
section
variable {α A B C D' R:Type} {rr:R} {r:an5 Nat} {N0:Nat} {Q:R->Exit->St->Prop} {w0:WO}
theorem hJ(k:Nat)(aw:an3 (an3 (Nat×Ob Tryz.prog)))(live:an3 Nat)(m:Nat){L:an3 α}(st:Nat->St){G:an3 α->Nat->an5 R}
 (nil:∀n,L.drop n=[]->∀f:St->Prop,IE (G [] n) λq=>q=rr->GW Tryz.prog r N0 (Q q) (ie k f (st n) (wk Tryz.prog w0 aw)))
 (cons:∀n x l,L.drop n=x::l->∀f:St->Prop,oV k live m L (λn(_:Unit)=>st n) (λl n _=>G l n) rr n x l () f->IE (G (x::l) n) λq=>q=rr->GW Tryz.prog r N0 (Q q) (ie k f (st n) (wk Tryz.prog w0 aw)))
 (hN:N0<=m:=by exact anm rfl) (e:lW live m (wk Tryz.prog w0 aw)=some (st 0,dR aw):=by kernel_rfl):IE (G L 0) λq=>q=rr->GW Tryz.prog r N0 (Q q) w0:=λv h q=>
 wl0 bW k aw live m L st G (q▸h) (λn a2 b2 f=>q▸nil n a2 f rr b2 rfl) (λn x l a2 b2 f c2=>q▸cons n x l a2 f c2 rr b2 rfl) hN e
theorem jo(k:Nat)(aw:an3 (an3 (Nat×Ob Tryz.prog)))(live:an3 Nat)(m:Nat){L:an3 α}(st:Nat->A->St){G:an3 α->Nat->A->an5 R}{a0:A}
 (nil:∀n a,L.drop n=[]->∀f:St->Prop,IE (G [] n a) λq=>q=rr->GW Tryz.prog r N0 (Q q) (ie k f (st n a) (wk Tryz.prog w0 aw)))
 (cons:∀n x l a,L.drop n=x::l->∀f:St->Prop,oV k live m L st G rr n x l a f->IE (G (x::l) n a) λq=>q=rr->GW Tryz.prog r N0 (Q q) (ie k f (st n a) (wk Tryz.prog w0 aw)))
 (hN:N0<=m:=by exact anm rfl) (e:lW live m (wk Tryz.prog w0 aw)=some (st 0 a0,dR aw):=by kernel_rfl):IE (G L 0 a0) λq=>q=rr->GW Tryz.prog r N0 (Q q) w0:=λv h q=>
 Og bW k aw live m L st G a0 (q▸h) (λn a1 a2 b2 f=>q▸nil n a1 a2 f rr b2 rfl) (λn x l a1 a2 b2 f c2=>q▸cons n x l a1 a2 f c2 rr b2 rfl) hN e
theorem Oz(k:Nat)(aw:an3 (an3 (Nat×Ob Tryz.prog)))(live:an3 Nat)(m:Nat){L:an3 α}(st:Nat->A->B->St){G:an3 α->Nat->A->B->an5 R}{a0:A}{b0:B}
 (nil:∀n a b,L.drop n=[]->∀f:St->Prop,IE (G [] n a b) λq=>q=rr->GW Tryz.prog r N0 (Q q) (ie k f (st n a b) (wk Tryz.prog w0 aw)))
 (cons:∀n x l a b,L.drop n=x::l->∀f:St->Prop,oV k live m L (λn(i:A×B)=>st n i.1 i.2) (λl n i=>G l n i.1 i.2) rr n x l (a,b) f->IE (G (x::l) n a b) λq=>q=rr->GW Tryz.prog r N0 (Q q) (ie k f (st n a b) (wk Tryz.prog w0 aw)))
 (hN:N0<=m:=by exact anm rfl) (e:lW live m (wk Tryz.prog w0 aw)=some (st 0 a0 b0,dR aw):=by kernel_rfl):IE (G L 0 a0 b0) λq=>q=rr->GW Tryz.prog r N0 (Q q) w0:=λv h q=>
 wl2 bW k aw live m L st G a0 b0 (q▸h) (λn a1 b1 a2 b2 f=>q▸nil n a1 b1 a2 f rr b2 rfl) (λn x l a1 b1 a2 b2 f c2=>q▸cons n x l a1 b1 a2 f c2 rr b2 rfl) hN e
theorem gl3(k:Nat)(aw:an3 (an3 (Nat×Ob Tryz.prog)))(live:an3 Nat)(m:Nat){L:an3 α}(st:Nat->A->B->C->St){G:an3 α->Nat->A->B->C->an5 R}{a0:A}{b0:B}{c0:C}
 (nil:∀n a b c,L.drop n=[]->∀f:St->Prop,IE (G [] n a b c) λq=>q=rr->GW Tryz.prog r N0 (Q q) (ie k f (st n a b c) (wk Tryz.prog w0 aw)))
 (cons:∀n x l a b c,L.drop n=x::l->∀f:St->Prop,oV k live m L (λn(i:A×B×C)=>st n i.1 i.2.1 i.2.2) (λl n i=>G l n i.1 i.2.1 i.2.2) rr n x l (a,b,c) f->IE (G (x::l) n a b c) λq=>q=rr->GW Tryz.prog r N0 (Q q) (ie k f (st n a b c) (wk Tryz.prog w0 aw)))
 (hN:N0<=m:=by exact anm rfl) (e:lW live m (wk Tryz.prog w0 aw)=some (st 0 a0 b0 c0,dR aw):=by kernel_rfl):IE (G L 0 a0 b0 c0) λq=>q=rr->GW Tryz.prog r N0 (Q q) w0:=λv h q=>
 wl3 bW k aw live m L st G a0 b0 c0 (q▸h) (λn a1 b1 c1 a2 b2 f=>q▸nil n a1 b1 c1 a2 f rr b2 rfl) (λn x l a1 b1 c1 a2 b2 f c2=>q▸cons n x l a1 b1 c1 a2 f c2 rr b2 rfl) hN e
theorem gb{ι:Type}{live:an3 Nat}{m k:Nat}{L:an3 α}{st:Nat->ι->St}{G:an3 α->Nat->ι->an5 R}{n:Nat}{x:α}{l:an3 α}{i:ι}{f:St->Prop}(hf:oV k live m L st G rr n x l i f)(j:ι)(aw:an3 (an3 (Nat×Ob Tryz.prog)))(hd:L.drop n=x::l)(e1:kT k (wK w0)=[f]:=by kernel_rfl)(e:pc k live m (wk Tryz.prog w0 aw)=some (st (n+1) j,dR aw):=by kernel_rfl):IE (G l (n+1) j) λq=>q=rr->GW Tryz.prog r N0 (Q q) w0:=λv h q=>wb bW hf j aw hd (q▸h) e1 e
theorem Vp(k:Nat)(aw:an3 (an3 (Nat×Ob Tryz.prog)))(live:an3 Nat)(m:Nat)(st:A->St)(G:Nat->A->an5 R){d:Nat}{a0:A}
 (succ:∀d a,∀f:St->Prop,ta k live m st G rr d f->IE (G (d+1) a) λq=>q=rr->GW Tryz.prog r N0 (Q q) (ie k f (st a) (wk Tryz.prog w0 aw))) (h0:∀a,G 0 a=none:=by intros;rfl)
 (hN:N0<=m:=by exact anm rfl) (e:lW live m (wk Tryz.prog w0 aw)=some (st a0,dR aw):=by kernel_rfl):IE (G d a0) λq=>q=rr->GW Tryz.prog r N0 (Q q) w0:=λv h q=>wf1 bW k aw live m st G d a0 (q▸h) (λd a1 b2 f c2=>q▸succ d a1 f c2 rr b2 rfl) h0 hN e
theorem gf2(k:Nat)(aw:an3 (an3 (Nat×Ob Tryz.prog)))(live:an3 Nat)(m:Nat)(st:A->B->St)(G:Nat->A->B->an5 R){d:Nat}{a0:A}{b0:B}
 (succ:∀d a b,∀f:St->Prop,ta k live m (λ(i:A×B)=>st i.1 i.2) (λd i=>G d i.1 i.2) rr d f->IE (G (d+1) a b) λq=>q=rr->GW Tryz.prog r N0 (Q q) (ie k f (st a b) (wk Tryz.prog w0 aw))) (h0:∀a b,G 0 a b=none:=by intros;rfl)
 (hN:N0<=m:=by exact anm rfl) (e:lW live m (wk Tryz.prog w0 aw)=some (st a0 b0,dR aw):=by kernel_rfl):IE (G d a0 b0) λq=>q=rr->GW Tryz.prog r N0 (Q q) w0:=λv h q=>wf2 bW k aw live m st G d a0 b0 (q▸h) (λd a1 b1 b2 f c2=>q▸succ d a1 b1 f c2 rr b2 rfl) h0 hN e
theorem Qj{ι:Type}{live:an3 Nat}{m k:Nat}{st:ι->St}{G:Nat->ι->an5 R}{d:Nat}{f:St->Prop}(hf:ta k live m st G rr d f)(j:ι)(aw:an3 (an3 (Nat×Ob Tryz.prog)))(e1:kT k (wK w0)=[f]:=by kernel_rfl)(e:pc k live m (wk Tryz.prog w0 aw)=some (st j,dR aw):=by kernel_rfl):IE (G d j) λq=>q=rr->GW Tryz.prog r N0 (Q q) w0:=λv h q=>wbf bW hf j aw (q▸h) e1 e
theorem mM{o:an5 R}(k:Nat)(aw:an3 (an3 (Nat×Ob Tryz.prog)))(live:an3 Nat)(m:Nat)(st:A->St)(G:A->an5 R)
 (br:∀f:St->Prop,A3 k live m st (λa=>G a=some rr) f->IE o λq=>q=rr->GW Tryz.prog r N0 (Q q) (Kw k f (wk Tryz.prog w0 aw)))
 (rest:∀a,IE (G a) λq=>q=rr->GW Tryz.prog r N0 (Q q) (Iy (st a) (wk Tryz.prog w0 aw))) (hN:N0<=m:=by exact anm rfl) (e:Dq (wk Tryz.prog w0 aw)=some (dR aw):=by kernel_rfl):IE o λq=>q=rr->GW Tryz.prog r N0 (Q q) w0:=λv h q=>Dm bW rr k aw live m st G (λf a=>br f a v h q) (λa1 b2=>q▸rest a1 rr b2 rfl) hN e
theorem gm{ι:Type}{live:an3 Nat}{m k:Nat}{st:ι->St}{G:ι->an5 R}{f:St->Prop}(hf:A3 k live m st (λi=>G i=some rr) f)(i:ι)(aw:an3 (an3 (Nat×Ob Tryz.prog)))(e1:kT k (wK w0)=[f]:=by kernel_rfl)(e:pc k live m (wk Tryz.prog w0 aw)=some (st i,dR aw):=by kernel_rfl):IE (G i) λq=>q=rr->GW Tryz.prog r N0 (Q q) w0:=λv h q=>l9 bW hf i aw (q▸h) e1 e
structure Zc{ι R:Type}(k:Nat)(live:List Nat)(m:Nat)(ks:List Nat)(kn:List (Nat×Nat))(st:ι->St)(G:Nat->ι->Option R)(rr:R)(d:Nat)(f:St->Prop):Prop where
 h:∀i,M5 k live m ks kn (λz:Nat×ι=>st z.2) (λz=>G z.1 z.2=some rr) (λz=>z.1) (d+1,i) f
theorem ajB(k:Nat)(aw:an3 (an3 (Nat×Ob Tryz.prog)))(live:an3 Nat)(m:Nat)(ks:an3 Nat)(kn:an3 (Nat×Nat))(st:A->B->C->St)(G:Nat->A->B->C->an5 R){d:Nat}{a0:A}{b0:B}{c0:C}
 (succ:∀d a b c,∀f:St->Prop,Zc k live m ks kn (λ(i:A×B×C)=>st i.1 i.2.1 i.2.2) (λd i=>G d i.1 i.2.1 i.2.2) rr d f->IE (G (d+1) a b c) λq=>q=rr->GW Tryz.prog r N0 (Q q) (ie k f (st a b c) (wk Tryz.prog w0 aw))) (h0:∀a b c,G 0 a b c=none:=by intros;rfl)
 (hN:N0<=m:=by exact anm rfl) (kS:an3 (VE m):=[]) (e0:Gr m (wk Tryz.prog w0 aw)=kS.map VE.x:=by kernel_rfl) (e:Qh live m ks kn (wk Tryz.prog w0 aw)=some (st a0 b0 c0,dR aw):=by kernel_rfl):IE (G d a0 b0 c0) λq=>q=rr->GW Tryz.prog r N0 (Q q) w0:=λv h q=>
 ac3 bW k aw live m ks kn (λz:Nat×(A×B×C)=>((λ(i:A×B×C)=>st i.1 i.2.1 i.2.2)) z.2) (λz=>((λd i=>G d i.1 i.2.1 i.2.2)) z.1 z.2=some rr) (λz=>z.1) (d,(a0,b0,c0)) (q▸h) (λz hz f hf=>by
  obtain⟨d,i⟩:=z;rw[q];cases d with
  |zero=>exact absurd ((h0 i.1 i.2.1 i.2.2).symm.trans hz) (by simp)
  |succ d=>exact succ d i.1 i.2.1 i.2.2 f ⟨λj=>⟨λs' i' z0 z1 z2 z3=>hf.h s' i' z0 z1 z2 z3⟩⟩ rr hz rfl) hN kS e0 e
theorem agY{ι:Type}{live:an3 Nat}{m k:Nat}{ks:an3 Nat}{kn:an3 (Nat×Nat)}{st:ι->St}{G:Nat->ι->an5 R}{d:Nat}{f:St->Prop}(hf:Zc k live m ks kn st G rr d f)(j:ι)(aw:an3 (an3 (Nat×Ob Tryz.prog)))(e1:kT k (wK w0)=[f]:=by kernel_rfl)(kS:an3 (VE m):=[])(e0:Gr m (wk Tryz.prog w0 aw)=kS.map VE.x:=by kernel_rfl)(e:Nu k live m ks kn (wk Tryz.prog w0 aw)=some (st j,dR aw):=by kernel_rfl):IE (G d j) λq=>q=rr->GW Tryz.prog r N0 (Q q) w0:=λv h q=>
 alM bW (hf.h j) (d,j) aw (q▸h) (an1 _) e1 kS e0 e
end
section
variable {P:an6} {r:an5 Nat} {N0:Nat} {Q:Exit->St->Prop} {c:Code}
end
theorem ac9{α:Type}{f:α->an3 D}{d0:α}{zs:an3 AV}{n cN:Nat}{l:Int}(hl:l=(n:Int))(hz:(f d0).map AV.d=zs)(h:n<=maxLen/\n*cN<=140737488355328):
 0<=l/\l<=l/\l.toNat=n/\l.toNat=n/\bU ((List.replicate n d0).map f)=List.replicate n zs/\n<=maxLen/\cN*n<=281474976710656:=by
 subst hl;refine⟨Int.natCast_nonneg _,Int.le_refl _,rfl,rfl,?_,h.1,?_⟩
 ·unfold bU;rw[List.map_replicate,List.map_replicate,hz]
 ·rw[Nat.mul_comm];exact anw h.2 (by decide)
inductive OT(P:Program) where
 |nil
 |node (k:Nat) (aw:List (Nat×Ob P)) (sub next:OT P)
def OT.ps{P:an6}:OT P->an3 (In×bQ)
 | .nil=>[]
 | .node _ aw sub next=>jj aw++(sub.ps++next.ps)
def OT.isNil{P:an6}:OT P->Bool
 | .nil=>true
 |_=>false
def pQ(C:an3 Nat)(L:Nat)(r:an3 Nat):an3 Nat:=match wV C L r with
 |some k=>[k]
 |none=>r
def Hr{P:an6}(A C:an3 Nat)(f:an3 Nat->Nat->an3 Nat->St->an5 (an3 Lf×an3 (In×bQ)))(ahi:Bool)(al:an3 Nat)(s:St)(L:Nat):an5 (an3 Lf×an3 (In×bQ)):=
 match pP A L 0 with
 |[]=>bif ahi then some ([(s,al,[])],[])else none
 |k0::r=>f (pQ C L (k0::r)) L al s
def sF(P:an6)(ops:Array Oper)(A C:an3 Nat):OT P->Nat->an3 Nat->Nat->an3 Nat->St->an5 (an3 Lf×an3 (In×bQ))
 | .nil,_,cs,_,_,_=>match cs with
   |[]=>some ([],[])
   |_=>none
 | .node k aw sub next,fuel,cs,L,al,s=>match cs with
   |[]=>none
   |c::cs=>match fuel with
    |0=>none
    |f+1=>bif k==c then(match ops[k]? with
     |some o=>bif Fo o (iQ (iU aw) (3*k+1))then(match nj P ops false o k (iU aw) s with
      |some (s1,l)=>match (fN (L|||(1<<<k)) λL1=>Hr (P:=P) A C (sF P ops A C sub f) sub.isNil (al++List.replicate (s1.h.length-s.h.length) k) s1 L1)with
       |some (a,pa)=>match sF P ops A C next (f+1) cs L al s with
        |some (b,pb)=>some (a++b,l++(pa++pb))
        |none=>none
       |none=>none
      |none=>none)else none
     |none=>none)else none
section
variable {P:an6} {ops:Array Oper} {K:St->Prop}
theorem aam(hK:rp K)(hM:oH (Region.before ops) ops=true){f L:Nat}{listed:Array Bool}{s:St}{k0:Nat}{r:an3 Nat}(hL:LM ops L listed)(hD:Dn ops listed)(hr:pP (oP ops 0 ops.size) L 0=k0::r)
 (h:∀k∈pQ (kA ops true (Region.before ops) 0 ops.size) L (k0::r),∀o,ops[k]?=some o->∃y J,mf true P ops o s y J/\kI true P ops K f (listed.setIfInBounds k true) ((s.wh J).put o.dst y)):kI true P ops K (f+1) listed s:=by
 unfold pQ at h;cases hf:wV (kA ops true (Region.before ops) 0 ops.size) L (k0::r)with
 |some k=>
  rw[hf]at h;obtain⟨jH,xw⟩:=Et hf;have uY:k∈Region.ready .any ops listed:=(hL.ready k).2 (by rw[hr];exact jH);have oC:k<ops.size:=by
    have:=(BH _ 0 k).1 (by rw[hr];exact jH);obtain⟨_,_,a,ha,_⟩:=this;rw[C5]at ha;split at ha
    ·next h=>omega
    ·cases ha
  obtain⟨y,hh,q1,q2⟩:=h k ank ops[k] (anB oC);refine IZ hK hM (anB oC) f listed s hD (λj oj hj cA o9 sS=> ?_) uY q1 q2;have BO:=(ant.1 hj).1;have RH:Nat.testBit L j=false:=by
   rw[hL.b];have iX:j<listed.size:=by rw[hL.sz];exact BO
   simpa [iX]using o9
  have nv:Nat.testBit (tt ops true (Region.before ops) k) j=false:=by
   rw[<-Bool.not_eq_true];intro hc;have h5:(kA ops true (Region.before ops) 0 ops.size).getD k 0=tt ops true (Region.before ops) k:=by
     rw[List.getD_eq_getElem?_getD,LR,if_pos oC,anz];rfl
   rw[h5]at xw;have:=congrArg (λn=>Nat.testBit n j) xw;simp only[Nat.testBit_or,hc,RH]at this;cases this
  unfold tt at nv;rw[EC]at nv;unfold Mm at nv;rw[sS,anB oC,hj]at nv;simp [BO,cA]at nv;exact nv
 |none=>
  rw[hf]at h;have yo:k0∈Region.ready .any ops listed:=(hL.ready k0).2 (by rw[hr];simp);refine⟨λe=>(by rw[e]at yo;cases yo),λi hi oi It=> ?_⟩;exact h i (by rw[<-hr];exact(hL.ready i).1 hi) oi It
theorem ahI(hK:rp K)(hM:oH (Region.before ops) ops=true)(t0:an3 (Nat×AV))(n0:Nat):
 ∀(t:OT P)(fuel:Nat)(cs:an3 Nat)(L:Nat)(listed:Array Bool)(al:an3 Nat)(s:St)(ls:an3 Lf)(ps:an3 (In×bQ)),LM ops L listed->Dn ops listed->(∀c∈cs,c∈Region.ready .any ops listed)->sF P ops (oP ops 0 ops.size) (kA ops true (Region.before ops) 0 ops.size) t fuel cs L al s=some (ls,ps)->fY P ps->(∃pre,s.t=pre++t0)->s.n=n0->
  (∀x∈ls,(∃pre,x.1.t=pre++t0)/\x.1.n=n0)/\((∀x∈ls,K x.1)->∀k∈cs,∀o,ops[k]?=some o->∃f,fuel=f+1/\∃y J,mf true P ops o s y J/\kI true P ops K f (listed.setIfInBounds k true) ((s.wh J).put o.dst y)):=by
 intro t
 induction t with
 |nil=>
  intro fuel cs L listed al s ls ps hL hD hc h bN hp hn;cases cs with
  |nil=>
   simp only[sF]at h;cases h
   exact⟨λx hx=>(by cases hx),λ_ k hk=>(by cases hk)⟩
  |cons=>simp [sF]at h
 |node k aw sub next ihs ihn=>
  intro fuel cs L listed al s ls ps hL hD hc h bN hp hn;cases cs with
  |nil=>simp [sF]at h
  |cons c cs=>
   cases fuel with
   |zero=>simp [sF]at h
   |succ f=>
    rw[sF]at h;have h':=kV h;clear h;obtain⟨Wb,h⟩:=h';rw[beq_iff_eq]at Wb;subst Wb;split at h
    ·next o ho=>
     have h':=kV h;clear h;obtain⟨akM,h⟩:=h';split at h
     ·next s1 l hg=>
      rw[yy]at h;split at h
      ·next a pa ha=>
       split at h
       ·next b pb hb=>
        cases h
        have hl:fY P l:=λp hp=>bN p (List.mem_append_left _ hp);have hpa:fY P pa:=λp hp=>bN p (List.mem_append_right _ (List.mem_append_left _ hp));have hpb:fY P pb:=λp hp=>bN p (List.mem_append_right _ (List.mem_append_right _ hp));have uY:=hc k ank;have oC:=(ant.1 ho).1;obtain⟨wu,ku⟩:=ihn (f+1) cs L listed al s b pb hL hD (λc fI=>hc c (ann _ fI)) hb hpb hp hn;obtain⟨⟨p1,e1⟩,e2⟩:=Ls hg;have Si:∃pre,s1.t=pre++t0:=by
         obtain⟨pre,e⟩:=hp;exact⟨p1++pre,by rw[e1,e,anv]⟩
        have UI:s1.n=n0:=e2.trans hn;have Ey:=hL.set oC;have Be:=hD.set uY;have uC:(∀x∈a,(∃pre,x.1.t=pre++t0)/\x.1.n=n0)/\((∀x∈a,K x.1)->kI true P ops K f (listed.setIfInBounds k true) s1):=by
         unfold Hr at ha;split at ha
         ·next hr=>
          obtain⟨_,ha⟩:=kV ha;cases ha
          have Cc:Region.ready .any ops (listed.setIfInBounds k true)=[]:=by
           rw[List.eq_nil_iff_forall_not_mem];intro i hi;have:=(Ey.ready i).1 hi;rw[hr]at this;cases this
          refine⟨λx hx=>by rw[List.mem_singleton]at hx;subst hx;exact⟨Si,UI⟩,λhk=> ?_⟩;have jH:=hk _ ank;cases f with
          |zero=>exact⟨Cc,jH⟩
          |succ f=>exact⟨λ_=>jH,λi hi=>by rw[Cc]at hi;cases hi⟩
         ·next k1 r hr=>
          have EZ:∀c∈pQ (kA ops true (Region.before ops) 0 ops.size) (L|||(1<<<k)) (k1::r),c∈Region.ready .any ops (listed.setIfInBounds k true):=by
           intro c fI;rw[Ey.ready,hr];unfold pQ at fI;split at fI
           ·next q hf=>
            rw[List.mem_singleton]at fI;subst fI;exact(Et hf).1
           ·exact fI
          obtain⟨q1,q2⟩:=ihs f _ _ _ _ s1 a pa Ey Be EZ ha hpa Si UI;refine⟨q1,λhk=> ?_⟩;have cA:∃c,c∈pQ (kA ops true (Region.before ops) 0 ops.size) (L|||(1<<<k)) (k1::r):=by
           unfold pQ;split
           ·exact⟨_,ank⟩
           ·exact⟨_,ank⟩
          obtain⟨c0,xh⟩:=cA;have QL:c0<ops.size:=by
           have:=(BH _ 0 c0).1 ((Ey.ready c0).1 (EZ c0 xh));obtain⟨_,_,z,hz,_⟩:=this;rw[C5]at hz;split at hz
           ·next h=>omega
           ·cases hz
          obtain⟨g,rfl,_⟩:=q2 hk c0 xh ops[c0] (anB QL);refine aam hK hM Ey Be hr λk' gM o' nq=> ?_;obtain⟨g',e,y,J,h2,h3⟩:=q2 hk k' gM o' nq;cases e
          exact⟨y,J,h2,h3⟩
        refine⟨λx hx=>(anR.1 hx).elim (uC.1 x) (wu x),λhk k' gM o' nq=> ?_⟩;rcases anJ.1 gM with rfl|gM
        ·rw[ho]at nq;cases nq;have h4:=SJ (K:=(·=s1)) hg hl rfl akM;have h5:=uC.2 λx hx=>hk x (List.mem_append_left _ hx);rcases GG h4 with⟨g,hd⟩|⟨g,hd⟩
         ·obtain⟨y,J,h2,h3⟩:=HJ hd;exact⟨f,rfl,y,J, .inl ⟨g,h2⟩,by rw[h3];exact h5⟩
         ·exact⟨f,rfl,_,s.h, .inr ⟨g,rfl,rfl⟩,by
           have e:(s.wh s.h).put o.dst (.d (.v undef))=s1:=hd;rw[e];exact h5⟩
        ·exact ku (λx hx=>hk x (List.mem_append_right _ hx)) k' gM o' nq
       ·cases h
      ·cases h
     ·cases h
    ·cases h
end
def L3(P:an6)(ol:an3 Oper)(t:OT P)(keep:an3 Nat)(s:St):an5 (an3 (an3 (Nat×AV)×an3 ao×an3 (In×bQ))×an3 (In×bQ)):=
 bif oH (Region.before ol.toArray) ol.toArray then fL (oP ol.toArray 0 ol.toArray.size) λA=>fL (kA ol.toArray true (Region.before ol.toArray) 0 ol.toArray.size) λC=>
  match Hr (P:=P) A C (sF P ol.toArray A C t ol.toArray.size) t.isNil [] s 0 with
  |some (ls,ps)=>match FJ keep s ls with
   |some r=>some (r,ps)
   |none=>none
  |none=>none
 else none
theorem aia{P:an6}{ol:an3 Oper}{t:OT P}{keep:an3 Nat}{s:St}{Δ:an3 (Nat×AV)}{h':an3 ao}{m N0:Nat}{K:St->Prop}(h:L3 P ol t keep s=some (List.replicate m (Δ,h',[]),t.ps))(bN:fY P t.ps)(hN:N0<=s.h.length)(nN:∀i,(bm s.t i).aC s.h.length=true)(hK:BX N0 K)(hk:K ⟨s.n,Δ++s.t,h'⟩):
 kI true P ol.toArray K ol.toArray.size (Array.replicate ol.toArray.size false) s:=by
 unfold L3 at h;obtain⟨hM,h⟩:=kV h;rw[vn,vn]at h;split at h
 ·next ls ps e1=>
  split at h
  ·next r CS=>
   cases h
   have hL:LM ol.toArray 0 (Array.replicate ol.toArray.size false):=⟨by simp,λi=>by
    rw[Nat.zero_testBit,Array.getD_eq_getD_getElem?,Array.getElem?_replicate];split<;>rfl⟩
   have hD:Dn ol.toArray (Array.replicate ol.toArray.size false):=λj o ho hj=>by
    exfalso;rw[Array.getD_eq_getD_getElem?]at hj;rw[Array.getElem?_replicate]at hj;split at hj<;>simp at hj
   have leaf:∀x∈ls,((∃pre,x.1.t=pre++s.t)/\x.1.n=s.n)->K x.1:=λx hx hb=>by
    obtain⟨a,ha,e2⟩:=Rx CS x hx;rw[List.mem_replicate]at ha;obtain⟨_,rfl⟩:=ha;obtain⟨k1,_⟩:=Yp (P:=P) (ops:=ol.toArray) e2 hN nN hb.2 hb.1 (λp hp=>by cases hp);exact hK _ _ k1 hk
   unfold Hr at e1;split at e1
   ·next hr=>
    obtain⟨_,e1⟩:=kV e1;have e3:=Prod.mk.inj (anx e1);obtain⟨e3,_⟩:=e3;subst e3;have Cc:Region.ready .any ol.toArray (Array.replicate ol.toArray.size false)=[]:=by
     rw[List.eq_nil_iff_forall_not_mem];intro i hi;have:=(hL.ready i).1 hi;rw[hr]at this;cases this
    have jH:=leaf _ ank ⟨⟨[],rfl⟩,rfl⟩;generalize hf:ol.toArray.size=f at*;cases f with
    |zero=>exact⟨Cc,jH⟩
    |succ f=>exact⟨λ_=>jH,λi hi=>by rw[Cc]at hi;cases hi⟩
   ·next k1 r' hr=>
    have EZ:∀c∈pQ (kA ol.toArray true (Region.before ol.toArray) 0 ol.toArray.size) 0 (k1::r'),c∈Region.ready .any ol.toArray (Array.replicate ol.toArray.size false):=by
     intro c fI;rw[hL.ready,hr];unfold pQ at fI;split at fI
     ·next q hf=>
      rw[List.mem_singleton]at fI;subst fI;exact(Et hf).1
     ·exact fI
    obtain⟨q1,q2⟩:=ahI (K:=K) hK.c hM s.t s.n t _ _ _ _ _ s ls _ hL hD EZ e1 bN ⟨[],rfl⟩ rfl;have q3:=q2 λx hx=>leaf x hx (q1 x hx);have cA:∃c,c∈pQ (kA ol.toArray true (Region.before ol.toArray) 0 ol.toArray.size) 0 (k1::r'):=by
     unfold pQ;split
     ·exact⟨_,ank⟩
     ·exact⟨_,ank⟩
    obtain⟨c0,xh⟩:=cA;have QL:c0<ol.toArray.size:=by
     have:=(BH _ 0 c0).1 ((hL.ready c0).1 (EZ c0 xh));obtain⟨_,_,z,hz,_⟩:=this;rw[C5]at hz;split at hz
     ·next h=>omega
     ·cases hz
    obtain⟨g,eg,_⟩:=q3 c0 xh ol.toArray[c0] (anB QL);have CS:=aam (P:=P) (f:=g) (s:=s) (K:=K) hK.c hM hL hD hr λk' gM o' nq=>by
     obtain⟨g',e,y,J,h2,h3⟩:=q3 k' gM o' nq;rw[eg]at e;cases e
     exact⟨y,J,h2,h3⟩
    exact(congrArg (λn=>kI true P ol.toArray K n (Array.replicate ol.toArray.size false) s) eg).mpr CS
  ·cases h
 ·cases h
theorem My{P:an6}:∀t:OT P,fY P t.ps
 | .nil=>λp hp=>by cases hp
 | .node _ aw sub next=>λp hp=>by
   unfold OT.ps at hp;rcases anR.1 hp with hp|hp
   ·exact pY aw p hp
   ·rcases anR.1 hp with hp|hp
    ·exact My sub p hp
    ·exact My next p hp
section
variable {P:an6} {r:an5 Nat} {N0 id n:Nat} {ol:an3 Oper} {y:Code} {t:an3 (Nat×AV)} {h:an3 ao} {Q Q':Exit->St->Prop}
theorem ro(m:Nat)(hm:P.follows .mixedOrders=true)(T:OT P)(Δ:an3 (Nat×AV))(h':an3 ao)(e:L3 P ol T (Δ.map (·.1)) ⟨n,t,h⟩=some (List.replicate m (Δ,h',[]),T.ps))(k:bw P r N0 y Q' ⟨n,Δ++t,h'⟩):bw P r N0 (.region id ol.toArray true) (iL (λs=>bw P r N0 y Q' s) Q) ⟨n,t,h⟩:=
 MD (m:=true) hm λhN nN=>aia e (My T) hN nN (Mv _) ⟨_,im.refl _ _,k⟩
end
set_option maxRecDepth 100000
set_option maxHeartbeats 0
mutual
theorem NP{m m':Nat}(hm:m<=m'):∀x:AV,x.aC m=true->x.aC m'=true
 | .own n _,h=>by rw[AV.aC,Bool.not_eq_true',<-Bool.not_eq_true,c6]at h ⊢;omega
 | .ptr n _,h=>by rw[AV.aC,Bool.not_eq_true',<-Bool.not_eq_true,c6]at h ⊢;omega
 | .row n _ _ _ _,h=>by rw[AV.aC,Bool.not_eq_true',<-Bool.not_eq_true,c6]at h ⊢;omega
 | .mp n,h=>by rw[AV.aC,Bool.not_eq_true',<-Bool.not_eq_true,c6]at h ⊢;omega
 | .cg n,h=>by rw[AV.aC,Bool.not_eq_true',<-Bool.not_eq_true,c6]at h ⊢;omega
 | .vec n _ _ _ _,h=>by rw[AV.aC,Bool.not_eq_true',<-Bool.not_eq_true,c6]at h ⊢;omega
 | .dp n _ _ _ _,h=>by rw[AV.aC,Bool.not_eq_true',<-Bool.not_eq_true,c6]at h ⊢;omega
 | .agg cs,h=>by rw[AV.aC]at h ⊢;exact Gx hm cs h
 | .aZ cs,h=>by rw[AV.aC]at h ⊢;exact Gx hm cs h
 | .fn f cs,h=>by rw[AV.aC]at h ⊢;exact Gx hm cs h
 | .d _,_=>by simp only[AV.aC]
 | .bg ..,_=>by simp only[AV.aC]
 | .full _,_=>by simp only[AV.aC]
 | .hid _,_=>by simp only[AV.aC]
 | .dead,_=>by simp only[AV.aC]
theorem Gx{m m':Nat}(hm:m<=m'):∀l:an3 AV,AV.kh m l=true->AV.kh m' l=true
 |[],_=>by simp [AV.kh]
 |x::l,h=>by
  rw[AV.kh,ang]at h ⊢;exact⟨NP hm x h.1,Gx hm l h.2⟩
end
theorem alR{m m':Nat}(hm:m<=m'){B:ao}(h:B.aC m=true):B.aC m'=true:=by
 have fD:∀cs:an3 AV,cs.all (AV.aC m)=true->cs.all (AV.aC m')=true:=λcs h=>by
  rw[anF]at h ⊢;exact λx hx=>NP hm x (h x hx)
 cases B with
 |cells cs=>exact fD cs h
 |lp ls p a b cs=>exact fD cs h
 |it sn cs=>exact fD cs h
 |eG T0 cs=>exact fD cs h
 |vec e k cs=>
  simp only[ao.aC,anF]at h ⊢;exact λc hc x hx=>NP hm x (h c hc x hx)
 |front e k len=>rfl
 |ig e b=>rfl
 |map kv=>rfl
 |iy kv=>rfl
 |gone=>rfl
theorem PG{m m':Nat}(hm:m<=m'){h:an3 ao}(e:h.all (ao.aC m)=true):h.all (ao.aC m')=true:=by
 rw[anF]at e ⊢;exact λB hB=>alR hm (e B hB)
abbrev qb(ext:an3 Int):AV:= .bg [[.sl (bu ext)]] 0 0
def o6(p:an3 Int):AV:= .d (.sl (bu p))
theorem V1{n i x:Nat}{xs:an3 Nat}(h:(List.range n).drop i=x::xs):x=i:=by
 have:=cE h;have hi:i<(List.range n).length:=(ane.1 this).1;rw[List.getElem?_range (by simpa using hi)]at this;exact(anx this).symm
theorem ajj(ext:an3 Int)(n:Nat)(hn:n<=maxLen)(hc:fP Tryz.prog 182 [.d (.sl (bu ext))] (·=aq n)):ze Tryz.prog 181 [qb ext] ((List.range n).map λ(k:Nat)=>aq k):=by
 intro k h C j7 hk ri;have hs:=Dl _ j7 ri;refine uR h.length Tryz.func181 rfl (by kernel_rfl) (anp _) ?_;show bw Tryz.prog none h.length _ _ ⟨14,[(0, .cg k),(1,qb ext)],h⟩
 repeat refine aA ?_
 refine eW ?_;refine bG rfl ?_;refine cy (x:= .d (.sl (bu ext))) (by kernel_rfl) rfl rfl ?_;refine bG rfl ?_;refine El (g:=182) (cT:=[]) rfl rfl rfl ?_;refine hc.use rfl rfl ?_;refine bG rfl ?_;refine cy (x:= .d (.v (.int .i64 0))) (by kernel_rfl) rfl rfl ?_;refine bC ?_;refine fV ?_;refine Ju (ι:=Nat×an3 Nat×an3 ao) [0,5,6] h.length (λi=>⟨14,[(0, .cg k),(5, .d (.v (.int .i64 n))),(6, .d (.v (.int .i64 i.1)))],i.2.2⟩)
  (λi=>(List.range n).drop i.1=i.2.1/\nY h i.2.2/\lz Tryz.prog k (i.2.1.map λ(k:Nat)=>aq k) (λb h2=>C b h2/\nY h h2) i.2.2) (λi=>i.2.1.length) (0,List.range n,h) (anp _) ?_ ?_ ⟨rfl,⟨rfl,j7⟩,hs⟩ ?_
 ·exact Ig _ j7 (by
   show(((AV.cg k).bo h.length).aC h.length&&(true&&(true&&true)))=true;rw[AZ hk];rfl)
 ·exact KD _ j7
 rintro⟨i,rest,hb⟩ ⟨hd,⟨c1,c2⟩,jf⟩;simp only at hd c1 c2 jf ⊢
 repeat refine aA ?_
 refine eW ?_;refine bG rfl ?_;refine cy (x:= .d (.v (.bool (decide ((i:Int)<(n:Int)))))) (by kernel_rfl) rfl rfl ?_;refine bC ?_
 repeat refine aA ?_
 have hlen:((List.range n).length:Int)=(n:Int):=by rw[List.length_range]
 cases rest with
 |nil=>
  rw[<-hlen,da hd];refine lA (by kernel_rfl) ?_;refine nT (kZ (kZ (qm rfl ?_)));exact JW c1 c2 ⟨rfl,true,jf.1⟩
 |cons x rest=>
  rw[<-hlen,db hd];have hx:=V1 hd;subst hx;refine lM (by kernel_rfl) ?_;refine dt ?_;refine bC ?_
  repeat refine aA ?_
  refine fV ?_
  repeat refine aA ?_
  refine eW ?_;refine bG rfl ?_;refine cy (x:= .d (.v (.int .i64 x))) (by kernel_rfl) rfl rfl ?_;refine bG rfl ?_;refine cy (x:= .d (.v (.int .i64 x))) (by kernel_rfl) rfl rfl ?_;refine bC ?_
  repeat refine aA ?_
  refine eW ?_;refine bG rfl ?_;refine cy (x:= .cg k) (by kernel_rfl) rfl rfl ?_;refine bG rfl ?_;refine cy (x:= .d (.v (.int .i64 x))) (by kernel_rfl) rfl rfl ?_;refine bG rfl ?_;rw[anE]at jf;refine yN (k:=k) (x:=aq x) rfl rfl (by kernel_rfl) (by kernel_rfl) rfl rfl ?_;refine YS.mono jf λb h2 hh=> ?_;obtain⟨⟨p1,p2⟩,p3⟩:=hh;have u1:h2.length=h.length:=by rw[p1,c1]
  have u2:h2.all (ao.aC h.length)=true:=by rw[c1]at p2;exact p2
  refine bG rfl ?_;refine cy (x:= .d (.v (.bool (!b)))) (by kernel_rfl) rfl rfl ?_;refine bC ?_;cases b with
  |false=>
   refine lM (by kernel_rfl) ?_;refine cQ ?_
   repeat (first|(with_reducible refine cZ ?_)|(with_reducible refine fe ?_))
   exact WC u1 u2 ⟨rfl,false,p3.1⟩
  |true=>
   refine lA (by kernel_rfl) ?_;refine dt ?_;refine iM ?_;refine bC ?_;simp only[cond_true]at p3;refine eW ?_;refine bG rfl ?_;refine cy (x:= .d (.v (.int .i64 ((x+1:Nat):Int)))) (by
    show some ((.d (.v (.int .i64 (aP ((x:Int)+1)))):AV),HD.same)=_;have:=cY hd rfl (by rw[List.length_range];exact hn);unfold aq at this;rw[this]) rfl rfl ?_
   refine bG rfl ?_;refine cy (x:= .d (.v (.int .i64 ((x+1:Nat):Int)))) (by kernel_rfl) rfl rfl ?_;refine bC ?_;refine⟨?_,(x+1,rest,h2),?_,⟨mB hd,⟨u1,u2⟩,p3⟩,an1 _⟩
   ·rw[<-u1];exact Ig _ (by rw[u1];exact u2) (by
      show(((AV.cg k).bo h2.length).aC h2.length&&(true&&(true&&true)))=true;rw[u1,AZ hk];rfl)
   ·rw[<-u1];exact KD _ (by rw[u1];exact u2)
theorem aiH(ext:an3 Int):fP Tryz.prog 122 [.d (.sl (bu ext))] (·= .fn 181 [qb ext]):=by
 refine Mb (r:= .fn 181 [(.ptr 0 0)]) (h:=[.cells [.d (.sl (bu ext))]]) ?_ (by kernel_rfl) rfl;refine qG 1 Tryz.func122 rfl (by kernel_rfl) (anm rfl) ?_;refine mG (s':=⟨4,[(0, .d (.sl (bu ext)))],[]⟩) (by kernel_rfl) ?_;refine aA ?_;refine rg [] [(1,(.ptr 0 0))] [.cells [.d (.sl (bu ext))]] (by kernel_rfl) ?_;refine aA ?_;refine rg [] [(2,(.fn 181 [(.ptr 0 0)]))] [.cells [.d (.sl (bu ext))]] (by kernel_rfl) ?_;refine cQ ?_;exact jl (by kernel_rfl)
theorem ai7{n:Nat}{t:an3 (Nat×AV)}{H l:an3 ao}(hb:H.all (ao.aC H.length)=true):uI ⟨n,t,H++l⟩ H.length ⟨n,[],H⟩:=⟨fun{G w a} hs=>by
 have J:=hs.mask (live:=[]) (AM (n:=n) (t:=t) (l:=l) [] hb rfl)
 rwa [zf [] hb]at J⟩
theorem U6{n m:Nat}{t:an3 (Nat×AV)}{H:an3 ao}(hm:H.length=m)(hb:H.all (ao.aC m)=true):uI ⟨n,t,H⟩ m ⟨n,[],H⟩:=by
 subst hm;have:=ai7 (n:=n) (t:=t) (l:=[]) hb
 rwa [anA]at this
theorem ai6(ext:an3 Int)(jk:an3 (an3 Int))(hn:jk.length<=maxLen)(hc:fP Tryz.prog 182 [.d (.sl (bu ext))] (·=aq jk.length))
 (hp:∀(k:Nat)(p:an3 Int),jk[k]?=some p->fP Tryz.prog 123 [.d (.sl (bu ext)),aq k] (·= .aZ [o6 p,aK true])):ze Tryz.prog 121 [qb ext] (jk.map o6):=by
 intro k h C j7 hk ri;have hs:=Dl _ j7 ri;refine uR h.length Tryz.func121 rfl (by kernel_rfl) (anp _) ?_
 suffices hA:bw Tryz.prog none h.length _ _ ⟨19,[(0, .cg k),(1,qb ext)],h++[]⟩ by rw[anA]at hA;exact hA
 have ph:∀m',h.length<=m'->(AV.cg k).aC m'=true:=λm' fZ=>by simp [AV.aC,cf];omega
 have gd:∀m',h.length<=m'->(ao.cells [.cg k]).aC m'=true:=λm' fZ=>by simp [ao.aC,ph m' fZ]
 repeat refine aA ?_
 refine eW ?_;refine bG rfl ?_;refine Ab (S0 (l:=[]) (v:= .cg k) rfl (by kernel_rfl)) rfl rfl EG ?_;refine bC ?_
 repeat refine aA ?_
 refine eW ?_;refine bG rfl ?_;refine cy (x:= .d (.sl (bu ext))) (by kernel_rfl) rfl rfl ?_;refine bG rfl ?_;refine El (g:=122) (cT:=[]) rfl rfl rfl ?_;refine(aiH ext).use rfl rfl ?_;refine bC ?_;refine fV ?_;show bw Tryz.prog none h.length _ _ ⟨19,[(7, .fn 181 [qb ext]),(6, .d (.sl (bu ext))),(2, .ptr h.length 0),(0, .cg k),(1,qb ext)],h++[.cells [.cg k]]⟩;refine xc (m:=h.length+1) (enc:=λ(q:Nat)=>aq q) (xs:=List.range jk.length) (gf:=181) (cT:=[qb ext]) (by kernel_rfl) (ajj ext jk.length hn hc) (λ(i:{J:an3 ao // nY h J})=>i.1++[.cells [.cg k]])
  (λi l=>∃j,(List.range jk.length).drop j=l/\lz Tryz.prog k ((jk.drop j).map o6) (λb h2=>C b h2/\nY h h2) i.1) ⟨h,rfl,j7⟩ rfl ⟨0,rfl,hs⟩ (λi=>by rw[anf,i.2.1];rfl) (λi=> ?_) ?_ (by kernel_rfl) ?_ ?_
 ·rw[List.all_append,PG (anU _ 2) i.2.2];simp [gd (h.length+1+1) (by omega)]
 ·have hy:cf (h.length+1+1) k=false:=by rw[<-Bool.not_eq_true,c6];omega
  have hq:cf (h.length+1+1) h.length=false:=by rw[<-Bool.not_eq_true,c6];omega
  show(([0,1,2,3,4,5,6,7,8,9,10,11,12,13,14,15,16,17,18]:an3 Nat).map λi=>bm _ i).all _=true;simp only[anE,List.map_nil,bm,anZ,List.all_nil,Nat.reduceBEq,cond_true,cond_false,Bool.and_true,AV.aC,AV.kh];rw[hy,hq];rfl
 ·rintro⟨hb,c1,c2⟩ x l ⟨j,hd,jf⟩ rr a b;have hx:=V1 hd;subst hx;have hj:x<jk.length:=by
   have:=cE hd;have:=(ane.1 this).1
   simpa using this
  simp only at jf ⊢;refine eW ?_;refine bG rfl ?_;refine cy (x:=aq x) (by kernel_rfl) rfl rfl ?_;refine bC ?_;refine⟨hb++[.cells [.cg k]],[],by rw[anf,c1];rfl,rfl,?_⟩;generalize VI:ao.lp .busy 8 a b (dc 19 _)=LP;have alo:LP.aC (h.length+2)=true:=by
   rw[<-VI];have hy:cf (h.length+2) k=false:=by rw[<-Bool.not_eq_true,c6];omega
   have hq:cf (h.length+2) h.length=false:=by rw[<-Bool.not_eq_true,c6];omega
   show(([0,1,2,3,4,5,6,7,8,9,10,11,12,13,14,15,16,17,18]:an3 Nat).map λi=>bm _ i).all _=true;simp only[anE,List.map_nil,bm,anZ,List.all_nil,Nat.reduceBEq,cond_true,cond_false,Bool.and_true,AV.aC,AV.kh];rw[hy,hq];rfl
  clear VI;refine fV ?_
  repeat refine aA ?_
  refine eW ?_;refine bG rfl ?_;refine cy (x:= .d (.sl (bu ext))) (by kernel_rfl) rfl rfl ?_;refine bG rfl ?_;refine cy (x:=aq x) (by kernel_rfl) rfl rfl ?_;refine bG rfl ?_;refine El (g:=123) (cT:=[]) rfl rfl rfl ?_;refine(hp x jk[x] (ani hj)).use rfl rfl ?_;refine bG rfl ?_;refine cy (x:= .aZ [o6 jk[x],aK true]) (by kernel_rfl) rfl rfl ?_;refine bG rfl ?_;refine cy (x:=o6 jk[x]) (by kernel_rfl) rfl rfl ?_;refine bG rfl ?_;refine cy (x:=aK true) (by kernel_rfl) rfl rfl ?_;refine bG rfl ?_;refine cy (x:=o6 jk[x]) (by kernel_rfl) rfl rfl ?_;refine bG rfl ?_;refine cy (x:=aK true) (by kernel_rfl) rfl rfl ?_;refine bC ?_;rw[show(hb++[ao.cells [.cg k]])++[LP]=hb++[ao.cells [.cg k],LP] by simp]
  repeat refine aA ?_
  refine eW ?_;refine bG rfl ?_;refine cy (vo (h:=hb) (i:=0) (off:=0) (l:=[.cells [.cg k],LP]) (x:= .cg k) (by rw[c1];rfl) rfl (by kernel_rfl)) rfl rfl ?_;refine bG rfl ?_;refine cy (x:=o6 jk[x]) (by kernel_rfl) rfl rfl ?_;refine bG rfl ?_;rw[List.drop_eq_getElem_cons hj,anE]at jf;have hy:=Lg jf [.cells [.cg k],LP] (by rw[c1];exact c2) (by kernel_rfl) (λb h' hh=>hh.1);refine yN (k:=k) (x:=o6 jk[x]) rfl rfl (by kernel_rfl) (by kernel_rfl) rfl rfl ?_;refine hy.mono λb h' hh=> ?_;obtain⟨h2,⟨⟨p1,p2⟩,p3⟩,rfl⟩:=hh;have u1:h2.length=h.length:=by rw[p1,c1]
  have u2:h2.all (ao.aC h.length)=true:=by rw[c1]at p2;exact p2
  have v1:(h2++[ao.cells [.cg k]]).length=h.length+1:=by rw[anf,u1];rfl
  have v2:(h2++[ao.cells [.cg k]]).all (ao.aC (h.length+2))=true:=by
   rw[List.all_append,PG (anU _ 2) u2];simp [gd]
  have v3:(h2++[ao.cells [.cg k],LP]).all (ao.aC (h.length+2))=true:=by
   rw[List.all_append,PG (anU _ 2) u2];simp [gd,alo]
  have v4:(h2++[ao.cells [.cg k],LP]).length=h.length+2:=by rw[anf,u1];rfl
  have v5:h2++[ao.cells [.cg k],LP]=(h2++[ao.cells [.cg k]])++[LP]:=by simp
  refine bG rfl ?_;refine cy (x:= .d (.v (.bool (!b)))) (by kernel_rfl) rfl rfl ?_;refine bC ?_;cases b with
  |false=>
   refine lM (by kernel_rfl) ?_;refine cQ ?_
   repeat (first|(with_reducible refine cZ ?_)|(with_reducible refine fe ?_))
   refine⟨h2++[.cells [.cg k]],v1,v2,?_,?_⟩
   ·have N7:∀t,uI ⟨19,t,h2++[ao.cells [.cg k],LP]⟩ (h.length+2) ⟨19,[],(h2++[ao.cells [.cg k]])++[LP]⟩:=λt=>by
     rw[<-v5];exact U6 v4 v3
    exact N7 _
   ·refine fe ?_;rw[anv];exact Bm u1 u2 ⟨rfl,false,p3.1⟩
  |true=>
   refine lA (by kernel_rfl) ?_;refine dt ?_;refine iM ?_;simp only[cond_true]at p3;refine⟨h2++[.cells [.cg k]],v1,v2,?_,⟨h2,u1,u2⟩,rfl,x+1,mB hd,p3⟩;have N7:∀t,uI ⟨19,t,h2++[ao.cells [.cg k],LP]⟩ (h.length+2) ⟨19,[],(h2++[ao.cells [.cg k]])++[LP]⟩:=λt=>by
    rw[<-v5];exact U6 v4 v3
   exact N7 _
 ·rintro⟨hb,c1,c2⟩ ⟨j,hd,jf⟩;have:jk.drop j=[]:=by
   have J:=List.drop_eq_nil_iff.1 hd;rw[List.length_range]at J;exact List.drop_eq_nil_iff.2 J
  rw[this,List.map_nil]at jf;refine iM ?_;rw[anv];have:=M7 (P:=Tryz.prog) (fn:=Tryz.f121) (n:=19) (K:=λ_ J=>∃b,C b J) (t:=[(7, .fn 181 [qb ext]),(6, .d (.sl (bu ext))),(2, .ptr h.length 0),(0, .cg k),(1,qb ext)]) (l:=[.cells [.cg k]]++[.gone]) c1 c2;refine this ?_;exact⟨rfl,true,jf.1⟩
def ic(a b:Int)(neg:Bool)(how:Int):Bool:=
 let q:=IntKind.u64.wrap (a.tdiv b);let r:=a.tmod b
 (r==0||how==3)||((how==1&& !neg)||(how==2&&neg))||(how==4&&(decide (IntKind.u64.wrap (2*r)<b)||(IntKind.u64.wrap (2*r)==b&&q.tmod 2==0)))
def sV(a b:Int)(neg:Bool)(how:Int):Int:=bif ic a b neg how then IntKind.u64.wrap (a.tdiv b)else IntKind.u64.wrap (IntKind.u64.wrap (a.tdiv b)+1)
end Go.Proofs.YtpeecnpmcbnahaaGreatDoor
