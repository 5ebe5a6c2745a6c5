/-
  Part 9 of the proof: Sorts, AbsWs, AbsDl, AbsTm, AbsUnr, AbsOT, IterB, RndD.
-/
import Derived.Test.YtpeecnpmcbnahaaGreatDoorPq8
import Derived.WalkKit
import Derived.Shelf.Sort.Plain
import Derived.Shelf.Slices.CompactS
import Derived.Shelf.Slices.In.SortNone
import Derived.Sort.OwnSorted
import Derived.LoopNIn
namespace Go.Proofs.YtpeecnpmcbnahaaGreatDoor
open Go.RowKit Go.Shelf
set_option maxRecDepth 100000
set_option linter.unusedVariables false
def agQ:Ren where
 f:=fun
  |190=>241
  |125=>279
  |258=>278
  |128=>303
  |129=>304
  |302=>294
  |303=>295
  |304=>296
  |305=>297
  |306=>298
  |307=>299
  |308=>300
  |309=>301
  |310=>302
  |333=>315
  |329=>316
  |330=>317
  |334=>318
  |335=>319
  |336=>320
  |344=>324
  |n=>n
 t:=fun
  |31=>22
  |9=>9
  |3=>3
  |46=>255
  |0=>0
  |51=>299
  |53=>209
  |4=>4
  |183=>292
  |182=>291
  |131=>187
  |5=>5
  |218=>304
  |222=>308
  |228=>315
  |229=>316
  |n=>n
 g:=λn=>n
theorem abF:Lays.n190 Tryz.prog agQ:=by
 constructor<;>first|kernel_rfl|(intro w;rfl)
def ak8:Ren where
 f:=fun
  |194=>242
  |n=>n
 t:=fun
  |31=>22
  |n=>n
 g:=λn=>n
theorem UH:Lays.n194 Tryz.prog ak8:=by
 constructor<;>first|kernel_rfl|(intro w;rfl)
def iI(ss:aqP aqQ):aqP (aqP UInt8):=(ss.map bL).mergeSort λx y=>decide (x<=y)
def je(ss:aqP aqQ):aqP aqQ:=(Lib.compact (iI ss)).map λl=>⟨l.toArray⟩
theorem aaR(ss:aqP aqQ):(iI ss).length=ss.length:=by unfold iI;rw[List.length_mergeSort,ap6]
theorem ahk(p:aqR Addr)(cap:Nat)(w:aqU):Calls Tryz.prog 180 #[.slice p 0 cap] w λe w'=>e= .returned (.slice p 0 cap)/\w'=w:=by
 have J:Calls Tryz.prog 241 #[.slice p 0 cap] w λe w'=>e= .returned (.tuple #[])/\w'=w:=Any.slices_Sort_string_none abF p cap w;have h2:Calls Tryz.prog 242 #[.slice p 0 cap] w λe w'=>e= .returned (.slice p 0 cap)/\w'=w:=Any.slices_Compact_string_empty UH p cap w
 go_enter Tryz.func180,Tryz.ntmps180
 go_wp2_with (first|(go_at_call 241;refine J.mono ?_;rintro e w' ⟨rfl,rfl⟩)|(go_at_call 242;refine h2.mono ?_;rintro e w' ⟨rfl,rfl⟩))
 go_ret
 exact⟨rfl,rfl⟩
theorem apO{w:aqU}{g:Nat}{cur:Array aqT}{e:TypeId}{fr:Nat×Nat}(hb:w.heap[g]?=some (.cells cur e fr))(i:Nat):w.cell? ⟨g,i,none⟩=cur[i]?:=by
 simp only[World.cell?,hb,Option.isSome_none,Bool.false_eq_true,if_false]
theorem Xn(zs:aqP (aqP UInt8)):(Lib.compact zs).length<=zs.length:=by
 have h:∀m,(Lib.compactUpTo zs.toArray m).length<=m:=by
  intro m
  induction m with
  |zero=>exact aqc _
  |succ m ih=>
   rw[Lib.compactUpTo_succ,ap2];split
   ·simp only[ap4,aqd];omega
   ·simp only[aqd];omega
 exact h zs.length
theorem amb(g cap:Nat)(ss:aqP aqQ)(cur:Array aqT)(w:aqU)(hb:w.heap[g]?=some (.cells cur 9 (0,0)))(ht:cur.toList.take ss.length=(ss.map bL).map encStr)(hc:cur.size=cap)(kr:ss.length<=cap)(hm:cap<=maxLen)(iA:ss.length<4611686018427387904):
 Calls Tryz.prog 180 #[.slice (some ⟨g,0,none⟩) ss.length cap] w λe w'=>e= .returned (.slice (some ⟨g,0,none⟩) (je ss).length cap)/\w.grownBy w' (some g)/\∀(i:Nat)(s:aqQ),(je ss)[i]?=some s->w'.cell? ⟨g,i,none⟩=some (.string s):=by
 have hg:g<w.heap.size:=(aqg.1 hb).1;have hzl:=aaR ss;obtain⟨SW,Uy⟩:∃SW:aqU->Prop,SW=λw'=>∃n os,w'=Sort.grow (Sort.putRow encStr (Sort.ahead w n) g 0 (iI ss).toArray) os:=⟨_,rfl⟩;have J:Calls Tryz.prog 241 #[.slice (some ⟨g,0,none⟩) ss.length cap] w λe w'=>e= .returned (.tuple #[])/\SW w':=by
  have h:=Any.slices_Sort_string abF g 0 cap (ss.map bL) w (holds_of_block hb (by rw[ap6];exact ht)) hg (by rw[ap6];exact iA);rw[ap6]at h;rw[Uy];exact h
 have h2:∀w1,SW w1->Calls Tryz.prog 242 #[.slice (some ⟨g,0,none⟩) ss.length cap] w1 λe w'=>e= .returned (.slice (some ⟨g,0,none⟩) (je ss).length cap)/\(w.grownBy w' (some g)/\∀(i:Nat)(s:aqQ),(je ss)[i]?=some s->w'.cell? ⟨g,i,none⟩=some (.string s)):=by
  intro w1 hw;rw[Uy]at hw;obtain⟨n,os,rfl⟩:=hw;have iS:=heap_sorted (n:=n) (os:=os) (iI ss).toArray hb;have Aw:=grownBy_sorted (w:=w) (g:=g) (n:=n) (os:=os) (iI ss).toArray;have ft:(Sort.putCells encStr 0 (iI ss).toArray cur).size=cur.size:=by simp [Sort.putCells]
  have ht1:=take_putCells cur (iI ss) (by omega);generalize Sort.grow (Sort.putRow encStr (Sort.ahead w n) g 0 (iI ss).toArray) os=w1 at*;generalize Sort.putCells encStr 0 (iI ss).toArray cur=aaj at*;have h:=Any.slices_Compact_string UH g 0 cap (iI ss) w1 (holds_of_block iS ht1) (by unfold maxLen at hm;omega) (by omega);rw[hzl]at h;refine h.mono λe w' hp=> ?_;obtain⟨rfl,q,rfl⟩:=hp;have hk:(je ss).length=(Lib.compact (iI ss)).length:=by unfold je;rw[ap6]
  refine⟨by rw[hk],?_⟩;obtain⟨ys,jW⟩:∃ys,ys=Lib.compact (iI ss)++List.replicate (ss.length-(Lib.compact (iI ss)).length) []:=⟨_,rfl⟩;rw[<-jW];have qc:ys.length<=aaj.size:=by
   have:=Xn (iI ss);rw[jW,ap2,aqB];omega
  have BQ:=grownBy_sorted (w:=w1) (g:=g) (n:=q) (os:= #[]) ys.toArray;have kh:=heap_sorted (n:=q) (os:= #[]) ys.toArray iS;rw[Sort.grow_empty]at BQ kh;have ht2:=take_putCells aaj ys qc;refine⟨⟨BQ.os.trans Aw.os,BQ.tape.trans Aw.tape,BQ.output.trans Aw.output,aqj Aw.size BQ.size,λk hk cG=>(BQ.block k (aqp hk Aw.size) cG).trans (Aw.block k hk cG)⟩,λi s hi=> ?_⟩;rw[apO kh i];unfold je at hi;rw[ap8]at hi;cases hq:(Lib.compact (iI ss))[i]? with
  |none=>rw[hq]at hi;cases hi
  |some l=>
   rw[hq]at hi;cases hi;have j0:=(ap1.1 hq).1;have hy:ys[i]?=some l:=by rw[jW,aqb j0];exact hq
   have:=congrArg (λl:aqP aqT=>l[i]?) ht2;rw[List.getElem?_take_of_lt (ap1.1 hy).1,ap8,hy,aqo]at this;exact this
 go_enter Tryz.func180,Tryz.ntmps180
 go_wp2_with (first|(go_at_call 241;refine J.mono ?_;rintro e w1 ⟨rfl,Bm⟩)|(go_at_call 242;refine(h2 _ Bm).mono ?_;rintro e w2 ⟨rfl,Qj⟩))
 go_ret
 exact⟨rfl,Qj⟩
theorem af3:je []=[]:=by kernel_rfl
theorem aaq{G:Gh}{w:aqU}{B:aq}(hi:bW G w [B]):bW G w [.gone]:=by
 refine⟨hi.len,hi.z,hi.S,λn C hC=> ?_,λm n b J h2=> ?_,hi.gl⟩
 ·match n,hC with
  |0,hC=>cases hC;exact trivial
  |n+1,hC=>simp at hC
 ·match m,J with
  |0,J=>cases J
  |m+1,J=>simp [bU]at J
theorem ako{xs:aqP aqQ}{L:Nat}(hL:xs.length=L)(iA:L<4611686018427387904):
 cV Tryz.prog 180 [.vec 0 0 L L 1] [.vec 9 1 (cp (ep xs))] λr1 J=>r1= .d (.sl (ep (je xs)))/\J=[.gone]:=by
 refine⟨by kernel_rfl,λG w vs hinv hvs hr=> ?_⟩;have mQ:([aq.vec 9 1 (cp (ep xs))]:aqP aq)[0]?=some (.vec 9 1 (cp (ep xs))):=rfl;have pQ:(cp (ep xs)).length=L:=by rw[Gm,jT,hL]
 obtain⟨v0,rfl⟩:∃v0,vs= #[v0]:=by
  obtain⟨l⟩:=vs
  match l,hvs with
  |[a],_=>exact⟨a,rfl⟩
 have r0:=hr 0 v0 _ rfl rfl;obtain⟨vh,⟨A,cc,rfl,q2,q3,q4,q5⟩,_⟩:=r0.vK hinv mQ pQ;by_cases h0:L=0
 ·subst h0;obtain rfl:xs=[]:=List.eq_nil_of_length_eq_zero hL;refine(ahk A cc w).mono λe w' hp=> ?_;obtain⟨rfl,rfl⟩:=hp;refine⟨_,G,_,_,rfl,bV.refl _ _ _,aqc _,aaq hinv,?_,rfl,rfl⟩;rw[af3];exact .d (.sl A 0 0 cc 1 [] (λ_ _=>undef) (λh=>absurd rfl h) (Nat.zero_le _) q3 (λ_ h=>by cases h) (λ_ _ h=>absurd h (aqt _)) λ_ _ _ _ h=>by simp at h)
 ·obtain⟨g,cap,s1,rfl,s3⟩:=q5 (by omega);obtain⟨g',GL,cur,t1,t2,t3,t4,t5,t6,t7,t8,t9⟩:=Cw hinv mQ (λe=>by rw[e]at pQ;simp at pQ;omega);rw[t2,pQ]at s1;cases s1
  have hcc:cc=cap:=by omega
  subst hcc;rw[pQ]at t5;rw[Nat.mul_one]at t7;have hg:g<w.heap.size:=(aqg.1 t4).1;have ht:cur.toList.take xs.length=(xs.map bL).map encStr:=by
   apply List.ext_getElem?;intro j;by_cases hj:j<xs.length
   ·have hx:xs[j]?=some xs[j]:=ap5 hj;have hcj:j<cur.size:=by omega
    have hu:cur[j*1+0]?=some cur[j]:=by rw[Nat.mul_one,Nat.add_zero];exact aqn hcj
    have:=(t9 j 0 [.d (.v (.string xs[j]))] (.d (.v (.string xs[j]))) cur[j] (Ox (n8 hx)) rfl hu).val;rw[List.getElem?_take_of_lt hj,aqo,aqn hcj,this,ap8,ap8,hx];rfl
   ·rw[List.getElem?_take_eq_none (by omega),aqx (by simp;omega)]
  have hw:=amb g cc xs cur w t4 ht t7 (by omega) t6 (by omega);rw[hL]at hw;rw[show(⟨g,0*1,none⟩:Addr)=⟨g,0,none⟩from rfl];refine hw.mono λe w' hp=> ?_;obtain⟨rfl,gb,iu⟩:=hp;have hK:(je xs).length<=L:=by
   have:=Xn (iI xs);rw[aaR]at this;unfold je;rw[ap6];omega
  have hE:bV G.N G w (G.pZ g (je xs).length) w':=
   ⟨gb.size,λ_ _ h=> .inl h,λb o hs=>by
    have cG:some b≠some g:=λe=>by cases e;exact t8 o hs
    unfold World.cell?;rw[gb.block b (hinv.S b o hs) cG],λ_ _=>rfl,λ_ _=> .inl ⟨rfl,rfl⟩,im rfl,λb hb=>gb.block b (hinv.z b hb) (λe=>by cases e;exact t3 hb),gb.os,gb.tape,gb.output,λb o hs=>hs.imp id fun⟨e,_⟩ hz=>t3 (e▸hz)⟩
  have hI:bW (G.pZ g (je xs).length) w' [.gone]:=by
   have hi:=aaq hinv;refine⟨hi.len,λb hb=>aqp (hi.z b hb) gb.size,λb o hs=> ?_,λn C hC=> ?_,λm n b J h2=> ?_,hi.gl.keep hE⟩
   ·rcases hs with hs|⟨rfl,_⟩
    ·exact aqp (hi.S b o hs) gb.size
    ·exact aqp hg gb.size
   ·match n,hC with
    |0,hC=>cases hC;exact trivial
    |n+1,hC=>simp at hC
   ·match m,J with
    |0,J=>cases J
    |m+1,J=>simp [bU]at J
  have wY:Rd (G.pZ g (je xs).length).S w' 1 (ep (je xs)) ((je xs).map Value.string):=
   ⟨by rw[ap6,jT,Nat.mul_one],λx hx=>(by rw[nu]at hx;obtain⟨y,_,rfl⟩:=List.mem_map.1 hx;rfl),λu hu=>(by obtain⟨y,_,rfl⟩:=List.mem_map.1 hu;rfl),λi j x d hx hd=>by
    rw[nu,ap8]at hx;cases hk:(je xs)[i]? with
    |none=>rw[hk]at hx;cases hx
    |some y=>
     rw[hk]at hx;cases hx;cases j with
     |zero=>cases hd;exact⟨.string y,by rw[Nat.mul_one,Nat.add_zero,ap8,hk];rfl, .v _⟩
     |succ j=>cases hd⟩
  have hp:=wY.Ft g cc (by rw[jT];omega) t6 (λo ho=> .inr ⟨rfl,by rw[jT,Nat.mul_one]at ho;exact ho⟩) (λo u hu=>by
   rw[ap8]at hu;cases hq:(je xs)[o]? with
   |none=>rw[hq]at hu;cases hu
   |some y=>rw[hq]at hu;cases hu;exact iu o y hq)
  rw[jT]at hp;exact⟨_,_,_,_,rfl,hE,aqc _,hI, .d hp,rfl,rfl⟩
end Go.Proofs.YtpeecnpmcbnahaaGreatDoor
namespace Go.Proofs.YtpeecnpmcbnahaaGreatDoor
open Go.RowKit
set_option linter.unusedSimpArgs false
set_option linter.unusedVariables false
structure DL{α:Type}(f:List α->List (List D))(k:Nat):Prop where
 len:∀l,(f l).length=l.length
 all:∀l,∀c∈f l,c.length=k
 app:∀a b,f a++f b=f (a++b)
section
variable {P:aqS} {α:Type} {f:aqP α->aqP (aqP D)} {k c6:Nat}
theorem II{n:Nat}(hb:0<c6)(h:Nat.ble (n*c6) 140737488355328=true):n<=maxLen/\n*c6<=140737488355328:=by
 have J:=ap9 h;have h2:n*1<=n*c6:=Nat.mul_le_mul_left n hb;refine⟨?_,J⟩;unfold maxLen;omega
def oA(F:DL f k)(A B:aqP α)(h:Nat.ble ((A.length+B.length)*c6) 140737488355328=true)(hb:0<c6:=by decide):Ob P:=
 ⟨_,_, .app (xs:=f A) (ys:=f B) (zs:=f (A++B)) (len:=A.length) (n:=(A++B).length) (F.len A).symm (F.all A) (F.all B) (by rw[F.len,F.len];exact(II hb h).1) (by rw[F.len,F.len];exact(II hb h).2) (F.app A B) (by rw[F.len,F.len,ap2])⟩
def oZ(F:DL f k)(B:aqP α)(h:Nat.ble ((0+B.length)*c6) 140737488355328=true)(hb:0<c6:=by decide):Ob P:=
 ⟨_,_, .app (xs:=[]) (ys:=f B) (zs:=f B) (len:=0) (n:=B.length) rfl (λ_ hc=>absurd hc aqH) (F.all B) (by rw[F.len];exact(II hb h).1) (by rw[F.len];exact(II hb h).2) rfl (by rw[F.len];exact aql _)⟩
end
section
variable {P:aqS} {f:FuncId} {fc:aqP AV} {H H':aqP aq} {r:AV}
def oQ(mF:aqP AV)(h:aqP aq)(l:aqP Nat)(hc:cV P f fc H λr1 J=>r1=r/\J=H)(ha:mF=fc.map (AV.aM (rn l 0)):=by kernel_rfl)(hd:qM l=true:=by kernel_rfl)(hb:l.map (λj=>h[j]?)=H.map (λB=>some (B.aM (rn l 0))):=by kernel_rfl)(hl:(fc.all (AV.aE H.length)&&H.all (aq.aE H.length)&&r.aE H.length)=true:=by kernel_rfl):Ob P:=⟨_,_, .rq ha hd hb hl hc⟩
def oR(mF:aqP AV)(h:aqP aq)(l:aqP Nat)(hc:cV P f fc H λr1 J=>r1=r/\J=H')(ha:mF=fc.map (AV.aM (rn l h.length)):=by kernel_rfl)(hd:qM l=true:=by kernel_rfl)(hb:l.map (λj=>h[j]?)=H.map (λB=>some (B.aM (rn l h.length))):=by kernel_rfl)(hl:(fc.all (AV.aE H.length)&&H.all (aq.aE H.length))=true:=by kernel_rfl):Ob P:=⟨_,_, .oB ha hd hb hl hc⟩
def oX(vG:VD H)(hv:VD H')(mF:aqP AV)(h:aqP aq)(l:aqP Nat)(hc:cV P f fc H λr1 J=>r1=r/\J=H')(ha:mF=fc.map (AV.aM (rn l h.length)):=by kernel_rfl)(hd:qM l=true:=by kernel_rfl)(hb:l.map (λj=>h[j]?)=H.map (λB=>some (B.rB (rn l h.length))):=by kernel_rfl)(hl:(fc.all (AV.aE H.length)&&H.all (aq.ui H.length))=true:=by kernel_rfl):Ob P:=⟨_,_, .Nw vG hv ha hd hb hl hc⟩
end
section
variable {P:aqS} {r:aqR Nat} {N0:Nat} {Q:Exit->St->Prop} {w0:WO}
theorem BT{α:Type}{f:aqP α->aqP (aqP D)}{z:Nat}(F:DL f z)(k:Nat)(l:aqP α)(h:l.length<=maxLen->GW P r N0 Q w0)(hx:(bp (wS w0).t k).fW=some (f l):=by kernel_rfl):GW P r N0 Q w0:=
 ajb k (f l) hx λe=>h (Bb (F.len l) e)
theorem ah4{α:Type}{f:aqP α->aqP (aqP D)}{z:Nat}(F:DL f z)(b i:Nat)(l:aqP α)(h:l.length<=maxLen->GW P r N0 Q w0)(hx:(((wS w0).h[b]?).bind λB=>match B with| .cells cs=>(cs[i]?).bind AV.fW|_=>none)=some (f l):=by kernel_rfl):GW P r N0 Q w0:=
 UF b i (f l) hx λe=>h (Bb (F.len l) e)
structure pg{α ι R:Type}(k:Nat)(live:List Nat)(m:Nat)(L:List α)(st:Nat->ι->St)(G:List α->Nat->ι->Option R)(rr:R)(n:Nat)(x:α)(l:List α)(i:ι)(f:St->Prop):Prop where
 h:Lk k live m (λz:Nat×List α×ι=>st z.1 z.2.2) (λz=>L.drop z.1=z.2.1/\G z.2.1 z.1 z.2.2=some rr) (λz=>z.2.1.length) (n,x::l,i) f
structure uD{ι R:Type}(k:Nat)(live:List Nat)(m:Nat)(st:ι->St)(G:Nat->ι->Option R)(rr:R)(d:Nat)(f:St->Prop):Prop where
 h:∀i,Lk k live m (λz:Nat×ι=>st z.2) (λz=>G z.1 z.2=some rr) (λz=>z.1) (d+1,i) f
theorem LQ(hm:P.follows .mixedOrders=true){α ι R:Type}{rr:R}(k:Nat)(ay:aqP (aqP (Nat×Ob P)))(live:aqP Nat)(m:Nat)(L:aqP α)(st:Nat->ι->St)(G:aqP α->Nat->ι->aqR R)(i0:ι)(hI:G L 0 i0=some rr)
 (nil:∀n i,L.drop n=[]->G [] n i=some rr->∀f:St->Prop,GW P r N0 Q (gV k f (st n i) (wk P w0 ay)))
 (cons:∀n x l i,L.drop n=x::l->G (x::l) n i=some rr->∀f:St->Prop,pg k live m L st G rr n x l i f->GW P r N0 Q (gV k f (st n i) (wk P w0 ay)))
 (hN:N0<=m) (e:lX live m (wk P w0 ay)=some (st 0 i0,dX ay)):GW P r N0 Q w0:=by
 refine R9 hm k ay live m (λz:Nat×aqP α×ι=>st z.1 z.2.2) (λz=>L.drop z.1=z.2.1/\G z.2.1 z.1 z.2.2=some rr) (λz=>z.2.1.length) (0,L,i0) ⟨rfl,hI⟩ (λz hz f hf=> ?_) hN e;obtain⟨n,l,i⟩:=z;obtain⟨J,h2⟩:=hz;cases l with
 |nil=>exact nil n i J h2 f
 |cons x l=>exact cons n x l i J h2 f ⟨hf⟩
theorem amq(hm:P.follows .mixedOrders=true){α ι R:Type}{rr:R}{live:aqP Nat}{m k:Nat}{L:aqP α}{st:Nat->ι->St}{G:aqP α->Nat->ι->aqR R}{n:Nat}{x:α}{l:aqP α}{i:ι}{f:St->Prop}(hf:pg k live m L st G rr n x l i f)(j:ι)(ay:aqP (aqP (Nat×Ob P)))(hd:L.drop n=x::l)(hI:G l (n+1) j=some rr)(e1:kP k (wK w0)=[f])(e:qw k live m (wk P w0 ay)=some (st (n+1) j,dX ay)):GW P r N0 Q w0:=
 S8 hm hf.h (n+1,l,j) ay ⟨ma hd,hI⟩ (aqN _) e1 e
theorem Un(hm:P.follows .mixedOrders=true){ι R:Type}{rr:R}(k:Nat)(ay:aqP (aqP (Nat×Ob P)))(live:aqP Nat)(m:Nat)(st:ι->St)(G:Nat->ι->aqR R)(d:Nat)(i0:ι)(hI:G d i0=some rr)(h0:∀i,G 0 i=none)
 (succ:∀d i,G (d+1) i=some rr->∀f:St->Prop,uD k live m st G rr d f->GW P r N0 Q (gV k f (st i) (wk P w0 ay)))
 (hN:N0<=m) (e:lX live m (wk P w0 ay)=some (st i0,dX ay)):GW P r N0 Q w0:=by
 refine R9 hm k ay live m (λz:Nat×ι=>st z.2) (λz=>G z.1 z.2=some rr) (λz=>z.1) (d,i0) hI (λz hz f hf=> ?_) hN e;obtain⟨d,i⟩:=z;cases d with
 |zero=>exact absurd ((h0 i).symm.trans hz) (by simp)
 |succ d=>exact succ d i hz f ⟨λj=>⟨λs' i' J h2 h3=>hf.h s' i' J h2 h3⟩⟩
theorem ail(hm:P.follows .mixedOrders=true){ι R:Type}{rr:R}{live:aqP Nat}{m k:Nat}{st:ι->St}{G:Nat->ι->aqR R}{d:Nat}{f:St->Prop}(hf:uD k live m st G rr d f)(j:ι)(ay:aqP (aqP (Nat×Ob P)))(hI:G d j=some rr)(e1:kP k (wK w0)=[f])(e:qw k live m (wk P w0 ay)=some (st j,dX ay)):GW P r N0 Q w0:=
 S8 hm (hf.h j) (d,j) ay hI (aqN _) e1 e
theorem IA{P:aqS}{f:FuncId}{fn:Func}{args:aqP AV}{R:AV}(hf:P.funcs[f]?=some fn)(hw:GW P none 0 (lu P fn R) (AG fn args []))(hb:fn.body.isSome=true:=by kernel_rfl)(hn:(fn.name== "runtime.NumGoroutine")=false:=by kernel_rfl):gi P f args (·=R):=aeN hf hb hn hw
theorem FG{P:aqS}{f:FuncId}{fn:Func}{args:aqP AV}{h H:aqP aq}{R:AV}(m:Nat)(hf:P.funcs[f]?=some fn)(hw:GW P none h.length (uo P fn m R H) (AG fn args h))(hb:fn.body.isSome=true:=by kernel_rfl)(hn:(fn.name== "runtime.NumGoroutine")=false:=by kernel_rfl)(hm:h.length<=m:=by exact ap9 rfl):cV P f args h λr1 J=>r1=R/\J=H:=aj3 m hf hb hn hm hw
variable {α A B C D' R:Type} {rr:R}
theorem S9(hm:P.follows .mixedOrders=true)(k:Nat)(ay:aqP (aqP (Nat×Ob P)))(live:aqP Nat)(m:Nat)(L:aqP α)(st:Nat->St)(G:aqP α->Nat->aqR R)(hI:G L 0=some rr)
 (nil:∀n,L.drop n=[]->G [] n=some rr->∀f:St->Prop,GW P r N0 Q (gV k f (st n) (wk P w0 ay)))
 (cons:∀n x l,L.drop n=x::l->G (x::l) n=some rr->∀f:St->Prop,pg k live m L (λn(_:Unit)=>st n) (λl n _=>G l n) rr n x l () f->GW P r N0 Q (gV k f (st n) (wk P w0 ay)))
 (hN:N0<=m:=by exact ap9 rfl) (e:lX live m (wk P w0 ay)=some (st 0,dX ay):=by kernel_rfl):GW P r N0 Q w0:=
 LQ hm k ay live m L (λn(_:Unit)=>st n) (λl n _=>G l n) () hI (λn _=>nil n) (λn x l _=>cons n x l) hN e
theorem PS(hm:P.follows .mixedOrders=true)(k:Nat)(ay:aqP (aqP (Nat×Ob P)))(live:aqP Nat)(m:Nat)(L:aqP α)(st:Nat->A->St)(G:aqP α->Nat->A->aqR R)(a0:A)(hI:G L 0 a0=some rr)
 (nil:∀n a,L.drop n=[]->G [] n a=some rr->∀f:St->Prop,GW P r N0 Q (gV k f (st n a) (wk P w0 ay)))
 (cons:∀n x l a,L.drop n=x::l->G (x::l) n a=some rr->∀f:St->Prop,pg k live m L st G rr n x l a f->GW P r N0 Q (gV k f (st n a) (wk P w0 ay)))
 (hN:N0<=m:=by exact ap9 rfl) (e:lX live m (wk P w0 ay)=some (st 0 a0,dX ay):=by kernel_rfl):GW P r N0 Q w0:=
 LQ hm k ay live m L st G a0 hI nil cons hN e
theorem wl2(hm:P.follows .mixedOrders=true)(k:Nat)(ay:aqP (aqP (Nat×Ob P)))(live:aqP Nat)(m:Nat)(L:aqP α)(st:Nat->A->B->St)(G:aqP α->Nat->A->B->aqR R)(a0:A)(b0:B)(hI:G L 0 a0 b0=some rr)
 (nil:∀n a b,L.drop n=[]->G [] n a b=some rr->∀f:St->Prop,GW P r N0 Q (gV k f (st n a b) (wk P w0 ay)))
 (cons:∀n x l a b,L.drop n=x::l->G (x::l) n a b=some rr->∀f:St->Prop,pg k live m L (λn(i:A×B)=>st n i.1 i.2) (λl n i=>G l n i.1 i.2) rr n x l (a,b) f->GW P r N0 Q (gV k f (st n a b) (wk P w0 ay)))
 (hN:N0<=m:=by exact ap9 rfl) (e:lX live m (wk P w0 ay)=some (st 0 a0 b0,dX ay):=by kernel_rfl):GW P r N0 Q w0:=
 LQ hm k ay live m L (λn(i:A×B)=>st n i.1 i.2) (λl n i=>G l n i.1 i.2) (a0,b0) hI (λn i=>nil n i.1 i.2) (λn x l i=>cons n x l i.1 i.2) hN e
theorem wl3(hm:P.follows .mixedOrders=true)(k:Nat)(ay:aqP (aqP (Nat×Ob P)))(live:aqP Nat)(m:Nat)(L:aqP α)(st:Nat->A->B->C->St)(G:aqP α->Nat->A->B->C->aqR R)(a0:A)(b0:B)(c0:C)(hI:G L 0 a0 b0 c0=some rr)
 (nil:∀n a b c,L.drop n=[]->G [] n a b c=some rr->∀f:St->Prop,GW P r N0 Q (gV k f (st n a b c) (wk P w0 ay)))
 (cons:∀n x l a b c,L.drop n=x::l->G (x::l) n a b c=some rr->∀f:St->Prop,pg k live m L (λn(i:A×B×C)=>st n i.1 i.2.1 i.2.2) (λl n i=>G l n i.1 i.2.1 i.2.2) rr n x l (a,b,c) f->GW P r N0 Q (gV k f (st n a b c) (wk P w0 ay)))
 (hN:N0<=m:=by exact ap9 rfl) (e:lX live m (wk P w0 ay)=some (st 0 a0 b0 c0,dX ay):=by kernel_rfl):GW P r N0 Q w0:=
 LQ hm k ay live m L (λn(i:A×B×C)=>st n i.1 i.2.1 i.2.2) (λl n i=>G l n i.1 i.2.1 i.2.2) (a0,b0,c0) hI (λn i=>nil n i.1 i.2.1 i.2.2) (λn x l i=>cons n x l i.1 i.2.1 i.2.2) hN e
theorem wb(hm:P.follows .mixedOrders=true){ι:Type}{live:aqP Nat}{m k:Nat}{L:aqP α}{st:Nat->ι->St}{G:aqP α->Nat->ι->aqR R}{n:Nat}{x:α}{l:aqP α}{i:ι}{f:St->Prop}(hf:pg k live m L st G rr n x l i f)(j:ι)(ay:aqP (aqP (Nat×Ob P)))(hd:L.drop n=x::l)(hI:G l (n+1) j=some rr)(e1:kP k (wK w0)=[f]:=by kernel_rfl)(e:qw k live m (wk P w0 ay)=some (st (n+1) j,dX ay):=by kernel_rfl):GW P r N0 Q w0:=amq hm hf j ay hd hI e1 e
theorem wf1(hm:P.follows .mixedOrders=true)(k:Nat)(ay:aqP (aqP (Nat×Ob P)))(live:aqP Nat)(m:Nat)(st:A->St)(G:Nat->A->aqR R)(d:Nat)(a0:A)(hI:G d a0=some rr)
 (succ:∀d a,G (d+1) a=some rr->∀f:St->Prop,uD k live m st G rr d f->GW P r N0 Q (gV k f (st a) (wk P w0 ay))) (h0:∀a,G 0 a=none:=by intros;rfl)
 (hN:N0<=m:=by exact ap9 rfl) (e:lX live m (wk P w0 ay)=some (st a0,dX ay):=by kernel_rfl):GW P r N0 Q w0:=
 Un hm k ay live m st G d a0 hI h0 succ hN e
theorem wf2(hm:P.follows .mixedOrders=true)(k:Nat)(ay:aqP (aqP (Nat×Ob P)))(live:aqP Nat)(m:Nat)(st:A->B->St)(G:Nat->A->B->aqR R)(d:Nat)(a0:A)(b0:B)(hI:G d a0 b0=some rr)
 (succ:∀d a b,G (d+1) a b=some rr->∀f:St->Prop,uD k live m (λ(i:A×B)=>st i.1 i.2) (λd i=>G d i.1 i.2) rr d f->GW P r N0 Q (gV k f (st a b) (wk P w0 ay))) (h0:∀a b,G 0 a b=none:=by intros;rfl)
 (hN:N0<=m:=by exact ap9 rfl) (e:lX live m (wk P w0 ay)=some (st a0 b0,dX ay):=by kernel_rfl):GW P r N0 Q w0:=
 Un hm k ay live m (λ(i:A×B)=>st i.1 i.2) (λd i=>G d i.1 i.2) d (a0,b0) hI (λi=>h0 i.1 i.2) (λd i=>succ d i.1 i.2) hN e
theorem wbf(hm:P.follows .mixedOrders=true){ι:Type}{live:aqP Nat}{m k:Nat}{st:ι->St}{G:Nat->ι->aqR R}{d:Nat}{f:St->Prop}(hf:uD k live m st G rr d f)(j:ι)(ay:aqP (aqP (Nat×Ob P)))(hI:G d j=some rr)(e1:kP k (wK w0)=[f]:=by kernel_rfl)(e:qw k live m (wk P w0 ay)=some (st j,dX ay):=by kernel_rfl):GW P r N0 Q w0:=ail hm hf j ay hI e1 e
def Ah(g:Nat)(t:aqR Nat):aqP Oper->Nat->aqP Nat
 |[],_=>[]
 |o::l,j=>match o.guard with
  |some (g',_)=>bif g'==g then(3*j)::Ah g t l (j+1)else Ah g t l (j+1)
  |none=>match o.op,t with
   | .pick (.tmp c) _ _,some t'=>bif c==t' then(3*j+1)::Ah g t l (j+1)else Ah g t l (j+1)
   |_,_=>Ah g t l (j+1)
def an7(l:aqP Oper)(g:Nat):aqR Nat:=match l[g]? with
 |some o=>o.dst
 |none=>none
def LY:WO->aqP Oper
 |some (.at (.region _ ops _) _ _,_)=>ops.toList
 |_=>[]
noncomputable def I1(ops:aqP Oper)(sp si:aqP (Nat×Ob P)):aqP (Nat×Ob P):=so (sp.foldr (λx t=>os (Ah x.1 (an7 ops x.1) ops 0) x.2 t) si)
theorem rH(hm:P.follows .mixedOrders=true)(Δ:aqP (Nat×AV))(h':aqP aq)(e:∃sp si:aqP (Nat×Ob P),Iu P (Δ.map (·.1)) (jn (I1 (LY (wk P w0 [])) sp si)) (wk P w0 [])=some (Δ,h',jI (I1 (LY (wk P w0 [])) sp si)))(k:GW P r N0 Q (uZ Δ h' (wk P w0 [])))(e0:tz (wk P w0 [])=some []:=by kernel_rfl):GW P r N0 Q w0:=
 ah6 hm Δ h' (let ⟨_,_,h⟩:=e;⟨_,h⟩) k e0
theorem wj0(hm:P.follows .mixedOrders=true)(rr:R)(k:Nat)(ay:aqP (aqP (Nat×Ob P)))(live:aqP Nat)(m:Nat)(st:St)(G:aqR R)
 (br:∀f:St->Prop,zA k live m (λ(_:Unit)=>st) (λ_=>G=some rr) f->GW P r N0 Q (HW k f (wk P w0 ay)))
 (rest:G=some rr->GW P r N0 Q (LI st (wk P w0 ay))) (hN:N0<=m:=by exact ap9 rfl) (e:Dd (wk P w0 ay)=some (dX ay):=by kernel_rfl):GW P r N0 Q w0:=
 L5 hm k ay live m (λ(_:Unit)=>st) (λ_=>G=some rr) br (λ_=>rest) hN e
theorem G6(hm:P.follows .mixedOrders=true)(rr:R)(k:Nat)(ay:aqP (aqP (Nat×Ob P)))(live:aqP Nat)(m:Nat)(st:A->St)(G:A->aqR R)
 (br:∀f:St->Prop,zA k live m st (λa=>G a=some rr) f->GW P r N0 Q (HW k f (wk P w0 ay)))
 (rest:∀a,G a=some rr->GW P r N0 Q (LI (st a) (wk P w0 ay))) (hN:N0<=m:=by exact ap9 rfl) (e:Dd (wk P w0 ay)=some (dX ay):=by kernel_rfl):GW P r N0 Q w0:=
 L5 hm k ay live m st (λa=>G a=some rr) br rest hN e
def tr(i j n:Nat):Nat:=bif n==i then j else bif n==j then i else n
theorem Xq(i j n:Nat):tr i j (tr i j n)=n:=by
 unfold tr;cases J:n==i with
 |true=>
  rw[beq_iff_eq]at J;subst J;simp only[cond_true];cases h2:j==n with
  |true=>rw[beq_iff_eq]at h2;subst h2;rfl
  |false=>rw[aqK];rfl
 |false=>
  simp only[cond_false];cases h2:n==j with
  |true=>rw[beq_iff_eq]at h2;subst h2;simp only[cond_true];rw[aqK];rfl
  |false=>simp only[cond_false];rw[J,h2];rfl
theorem UY{i j n k:Nat}(hi:i<k)(hj:j<k)(hn:n<k):tr i j n<k:=by
 unfold tr;cases n==i with
 |true=>exact hj
 |false=>cases n==j with
  |true=>exact hi
  |false=>exact hn
def RT(i j:Nat)(h:aqP aq):aqP aq:=match h[i]?,h[j]? with
 |some a,some b=>((h.set i b).set j a).map (aq.aM (tr i j))
 |_,_=>h
def Za(i j:Nat)(s:St):St:=⟨s.n,s.t.map (λp=>(p.1,p.2.aM (tr i j))),RT i j s.h⟩
theorem aa5(f:AV->AV)(hf:f .dead= .dead):∀(t:aqP (Nat×AV))(i:Nat),bp (t.map λp=>(p.1,f p.2)) i=f (bp t i)
 |[],i=>by rw[List.map_nil];show AV.dead=f .dead;rw[hf]
 |(k,x)::t,i=>by
  rw[aqq,lI,lI,aa5 f hf t i];by_cases h:i=k
  ·rw[if_pos h,if_pos h]
  ·rw[if_neg h,if_neg h]
theorem YC{i j:Nat}{s:St}(hi:i<s.h.length)(hj:j<s.h.length)(hNi:N0<=i)(hNj:N0<=j):iJ N0 s (Za i j s):=by
 have ei:s.h[i]?=some s.h[i]:=ap5 hi;have ej:s.h[j]?=some s.h[j]:=ap5 hj;have eh:(Za i j s).h=((s.h.set i s.h[j]).set j s.h[i]).map (aq.aM (tr i j)):=by
  show RT i j s.h=_;unfold RT;rw[ei,ej]
 refine iJ.aM (tr i j) (tr i j) rfl (by rw[eh];simp) (λn hn=>UY hi hj hn) (λn hn=>UY hi hj hn) (λn _=>Xq i j n) (λn _=>Xq i j n) (λn hn=> ?_) (λn _=> .inl ?_) λn hn=> ?_
 ·unfold tr;rw[show(n==i)=false from beq_eq_false_iff_ne.2 (by omega),show(n==j)=false from beq_eq_false_iff_ne.2 (by omega)];rfl
 ·exact aa5 (λx=>x.aM (tr i j)) rfl s.t n
 ·rw[eh,ap8];refine congrArg (Option.map _) ?_;unfold tr;cases J:n==i with
  |true=>
   rw[beq_iff_eq]at J;subst J;simp only[cond_true];rw[aqu (by rw[List.length_set];exact hj),ei]
  |false=>
   simp only[cond_false];have mM:=beq_eq_false_iff_ne.1 J;cases h2:n==j with
   |true=>
    rw[beq_iff_eq]at h2;subst h2;simp only[cond_true];rw[aqz (by omega),aqu hi,ej]
   |false=>
    have TT:=beq_eq_false_iff_ne.1 h2;simp only[cond_false];rw[aqz (by omega),aqz (by omega)]
theorem Wi{c:Code}{s s':St}(h:iJ N0 s s')(k:bH P r N0 c Q s'):bH P r N0 c Q s:=⟨λG w a n hs hN=>by
 obtain⟨G1,hE,gF,ft⟩:=h G w a hN hs;exact wpIn_mono (k.run G1 w a n ft gF) λ_ _ _ hn=>hn.trans hE⟩
end
theorem tc:DL ep 1:=⟨λ_=>jT,λ_=>Js,λ_ _=>alS⟩
theorem l8:DL bn 1:=⟨λ_=>fy,λ_=>EG,λ_ _=>aok⟩
theorem CN:DL gN 2:=⟨λ_=>lV,λ_=>Y5,λ_ _=>akF⟩
theorem yY:DL aW 2:=⟨λ_=>qE,λ_=>ami,λ_ _=>ak7⟩
theorem wj:DL dO 2:=⟨λ_=>kX,λ_=>Ol,λ_ _=>ajC⟩
theorem aiW:DL oP 5:=⟨λ_=>aj8,λ_=>ael,λ_ _=>ajZ⟩
theorem Og:DL nr 3:=⟨λ_=>wP,λ_=>alL,λ_ _=>aeh⟩
theorem sT:DL gj 2:=⟨λ_=>jz,λ_=>apf,λ_ _=>ai9⟩
theorem sK:DL dAxiss 3:=⟨λ_=>kZ,λ_=>ao0,λ_ _=>an3⟩
theorem qZ:DL aZ 8:=⟨λ_=>kg,λ_=>Uq,λ_ _=>aiH⟩
theorem ZJ:DL o7 1:=⟨λ_=>OZ,λ_=>ao2,λ_ _=>amN⟩
theorem SJ:DL kO 7:=⟨λ_=>ri,λ_=>aiw,λ_ _=>alO⟩
theorem Fj:DL eZ 4:=⟨λ_=>ld,λ_=>aiI,λ_ _=>ahg⟩
theorem F9:DL jg 13:=⟨λ_=>qi,λ_=>ahT,λ_ _=>aeA⟩
theorem Af:DL iV 22:=⟨λ_=>lz,λ_=>Zd,λ_ _=>ajY⟩
abbrev KF(f:FuncId)(args:aqP AV)(R:AV):Prop:=gi Tryz.prog f args (·=R)
abbrev KH(f:FuncId)(args:aqP AV)(h:aqP aq)(R:AV)(H:aqP aq):Prop:=cV Tryz.prog f args h λr1 J=>r1=R/\J=H
def KO{α:Type}(f:FuncId)(args:aqP AV)(en:α->AV)(o:aqR α):Prop:=∀r:α,o=some r->KF f args (en r)
def KP{α:Type}(f:FuncId)(args:aqP AV)(h:aqP aq)(en:α->AV)(eh:α->aqP aq)(o:aqR α):Prop:=∀r:α,o=some r->KH f args h (en r) (eh r)
def cK{α:Type}{f:FuncId}{args:aqP AV}{en:α->AV}{o:aqR α}{r:α}(k:KO f args en o)(h:o=some r):Ob Tryz.prog:=cL (k r h)
def IE{α:Type}(o:aqR α)(G:α->Prop):Prop:=∀v,o=some v->G v
section
variable {α β:Type} {x:aqR α} {G:α->Prop}
theorem aB{x:aqR β}{f:β->aqR α}(k:∀a,x=some a->IE (f a) G):IE (Option.bind x f) G:=λv h=>
 have ⟨a,J,h2⟩:=bO h
 k a J v h2
theorem dN{c:Bool}(k:c=true->IE x G):IE (bif c then x else none) G:=λv h=>
 have ⟨J,h2⟩:=qg h
 k J v h2
theorem aC{c:Bool}{a b:aqR α}(t:c=true->IE a G)(f:c=false->IE b G):IE (bif c then a else b) G:=λv h=>bc h (λi j=>t i v j) λi j=>f i v j
theorem gE{α β γ:Type}{Φ:α->β->γ->Prop}{x:γ}(a:α)(b:β)(k:Φ a b x:=by kernel_rfl):IE (some x) λy=>∃a b,Φ a b y:=λv h=>sj h▸⟨a,b,k⟩
theorem dQ{α β γ:Type}{Φ:α->aqP β->γ->Prop}{o:aqR γ}(x:β)(k:IE o λy=>∃a b,Φ a (x::b) y):IE o λy=>∃a b,Φ a b y:=λv h=>
 have ⟨a,b,c⟩:=k v h
 ⟨a,x::b,c⟩
theorem dE{α β γ:Type}{Φ:aqP α->β->γ->Prop}{o:aqR γ}(x:α)(k:IE o λy=>∃a b,Φ (x::a) b y):IE o λy=>∃a b,Φ a b y:=λv h=>
 have ⟨a,b,c⟩:=k v h
 ⟨x::a,b,c⟩
end
section
variable {α β:Type} {o:aqR α} {x y:α} {r:aqR Nat} {N0:Nat} {Q:α->Exit->St->Prop} {w0:WO}
theorem gA(ay:aqP (aqP (Nat×Ob Tryz.prog)))(k:IE o λq=>q=y->GW Tryz.prog r N0 (Q q) (wk Tryz.prog w0 ay))(e:tz (wk Tryz.prog w0 ay)=some (dX ay):=by kernel_rfl):IE o λq=>q=y->GW Tryz.prog r N0 (Q q) w0:=λv h q=>gw bA ay (k v h q) e
theorem gR{en:α->AV}{fn:Func}(ay:aqP (aqP (Nat×Ob Tryz.prog)))(e:sH Tryz.prog fn.results.toList (wk Tryz.prog w0 ay)=some (en x,dX ay):=by kernel_rfl):IE (some x) λq=>q=y->GW Tryz.prog r N0 (lu Tryz.prog fn (en q)) w0:=λv h _=>sj h▸wr bA ay e
theorem gH{en:α->AV}{eh:α->aqP aq}{fn:Func}{m:Nat}(ay:aqP (aqP (Nat×Ob Tryz.prog)))(e:LX Tryz.prog fn.results.toList m (wk Tryz.prog w0 ay)=some ((en x,eh x),dX ay):=by kernel_rfl):IE (some x) λq=>q=y->GW Tryz.prog r N0 (uo Tryz.prog fn m (en q) (eh q)) w0:=λv h _=>sj h▸nc bA ay e
theorem gG{x:aqR β}{f:β->aqR α}(Δ:β->aqP (Nat×AV))(h':β->aqP aq)(e:IE x λv=>∃sp si:aqP (Nat×Ob Tryz.prog),Iu Tryz.prog ((Δ v).map (·.1)) (jn (I1 (LY (wk Tryz.prog w0 [])) sp si)) (wk Tryz.prog w0 [])=some (Δ v,h' v,jI (I1 (LY (wk Tryz.prog w0 [])) sp si)))(k:∀v,IE (f v) λq=>q=y->GW Tryz.prog r N0 (Q q) (uZ (Δ v) (h' v) (wk Tryz.prog w0 [])))(e0:tz (wk Tryz.prog w0 [])=some []:=by kernel_rfl):IE (Option.bind x f) λq=>q=y->GW Tryz.prog r N0 (Q q) w0:=λv h q=>
 have ⟨a,J,h2⟩:=bO h
 rH bA (Δ a) (h' a) (e a J) (k a v h2 q) e0
theorem bQ{c:Bool}{b:aqR α}{en:α->AV}{fn:Func}(f:c=false->IE b λq=>q=y->GW Tryz.prog r N0 (lu Tryz.prog fn (en q)) w0)(e:∀h:c=true,sH Tryz.prog fn.results.toList (wk Tryz.prog w0 [[(0,bT h)],[]])=some (en x,dX (P:=Tryz.prog) [[(0,bT h)],[]]):=by intro h;kernel_rfl):IE (bif c then some x else b) λq=>q=y->GW Tryz.prog r N0 (lu Tryz.prog fn (en q)) w0:=aC (λh=>gR [[(0,bT h)],[]] (e h)) (f)
theorem qR{c:Bool}{b:aqR α}{en:α->AV}{fn:Func}(f:c=false->IE b λq=>q=y->GW Tryz.prog r N0 (lu Tryz.prog fn (en q)) w0)(e:∀h:c=true,sH Tryz.prog fn.results.toList (wk Tryz.prog w0 [[(0,bF (dq h))],[]])=some (en x,dX (P:=Tryz.prog) [[(0,bF (dq h))],[]]):=by intro h;kernel_rfl):IE (bif c then some x else b) λq=>q=y->GW Tryz.prog r N0 (lu Tryz.prog fn (en q)) w0:=aC (λh=>gR [[(0,bF (dq h))],[]] (e h)) (f)
theorem qn{c:Bool}{b:aqR α}{en:α->AV}{fn:Func}(f:c=true->IE b λq=>q=y->GW Tryz.prog r N0 (lu Tryz.prog fn (en q)) w0)(e:∀h:c=false,sH Tryz.prog fn.results.toList (wk Tryz.prog w0 [[(0,bF h)],[]])=some (en x,dX (P:=Tryz.prog) [[(0,bF h)],[]]):=by intro h;kernel_rfl):IE (bif c then b else some x) λq=>q=y->GW Tryz.prog r N0 (lu Tryz.prog fn (en q)) w0:=aC (f) (λh=>gR [[(0,bF h)],[]] (e h))
theorem k8{c:Bool}{b:aqR α}{en:α->AV}{fn:Func}(f:c=true->IE b λq=>q=y->GW Tryz.prog r N0 (lu Tryz.prog fn (en q)) w0)(e:∀h:c=false,sH Tryz.prog fn.results.toList (wk Tryz.prog w0 [[(0,bT (dZ h))],[]])=some (en x,dX (P:=Tryz.prog) [[(0,bT (dZ h))],[]]):=by intro h;kernel_rfl):IE (bif c then b else some x) λq=>q=y->GW Tryz.prog r N0 (lu Tryz.prog fn (en q)) w0:=aC (f) (λh=>gR [[(0,bT (dZ h))],[]] (e h))
theorem jq{c:Bool}{b:aqR α}{en:α->AV}{fn:Func}(f:∀h:c=false,IE b λq=>q=y->GW Tryz.prog r N0 (lu Tryz.prog fn (en q)) (wk Tryz.prog w0 [[(0,bF h)],[]]))(e:∀h:c=true,sH Tryz.prog fn.results.toList (wk Tryz.prog w0 [[(0,bT h)],[]])=some (en x,dX (P:=Tryz.prog) [[(0,bT h)],[]]):=by intro h;kernel_rfl)(e2:∀h:c=false,tz (wk Tryz.prog w0 [[(0,bF h)],[]])=some (dX (P:=Tryz.prog) [[(0,bF h)],[]]):=by intro h;kernel_rfl):IE (bif c then some x else b) λq=>q=y->GW Tryz.prog r N0 (lu Tryz.prog fn (en q)) w0:=aC (λh=>gR [[(0,bT h)],[]] (e h)) (λh=>gA [[(0,bF h)],[]] (f h) (e2 h))
def t0{c:Bool}(h:c=true):Nat×Ob Tryz.prog:=(0,bT h)
def f0{c:Bool}(h:c=false):Nat×Ob Tryz.prog:=(0,bF h)
theorem li{w1:WO}(f:∀q,GW Tryz.prog r N0 (Q q) w1->GW Tryz.prog r N0 (Q q) w0)(k:IE o λq=>q=y->GW Tryz.prog r N0 (Q q) w1):IE o λq=>q=y->GW Tryz.prog r N0 (Q q) w0:=λv h q=>f v (k v h q)
theorem liH{w1:WO}{p:Prop}(f:∀q,(p->GW Tryz.prog r N0 (Q q) w1)->GW Tryz.prog r N0 (Q q) w0)(k:p->IE o λq=>q=y->GW Tryz.prog r N0 (Q q) w1):IE o λq=>q=y->GW Tryz.prog r N0 (Q q) w0:=λv h q=>f v λa=>k a v h q
theorem gT{β:Type}{f:aqP β->aqP (aqP D)}{z:Nat}(F:DL f z)(k:Nat)(l:aqP β)(h:l.length<=maxLen->IE o λq=>q=y->GW Tryz.prog r N0 (Q q) w0)(hx:(bp (wS w0).t k).fW=some (f l):=by kernel_rfl):IE o λq=>q=y->GW Tryz.prog r N0 (Q q) w0:=λv h2 q=>BT F k l (λa=>h a v h2 q) hx
theorem gB{β:Type}{f:aqP β->aqP (aqP D)}{z:Nat}(F:DL f z)(b i:Nat)(l:aqP β)(h:l.length<=maxLen->IE o λq=>q=y->GW Tryz.prog r N0 (Q q) w0)(hx:(((wS w0).h[b]?).bind λB=>match B with| .cells cs=>(cs[i]?).bind AV.fW|_=>none)=some (f l):=by kernel_rfl):IE o λq=>q=y->GW Tryz.prog r N0 (Q q) w0:=λv h2 q=>ah4 F b i l (λa=>h a v h2 q) hx
theorem fw{f:FuncId}{fn:Func}{args:aqP AV}{en:α->AV}(hf:Tryz.prog.funcs[f]?=some fn)(hw:∀{y},IE o λq=>q=y->GW Tryz.prog none 0 (lu Tryz.prog fn (en q)) (AG fn args []))(hb:fn.body.isSome=true:=by kernel_rfl)(hn:(fn.name== "runtime.NumGoroutine")=false:=by kernel_rfl):KO f args en o:=λr h=>IA hf (hw r h rfl) hb hn
theorem fh{f:FuncId}{fn:Func}{args:aqP AV}{h:aqP aq}{en:α->AV}{eh:α->aqP aq}(m:Nat)(hf:Tryz.prog.funcs[f]?=some fn)(hw:∀{y},IE o λq=>q=y->GW Tryz.prog none h.length (uo Tryz.prog fn m (en q) (eh q)) (AG fn args h))(hb:fn.body.isSome=true:=by kernel_rfl)(hn:(fn.name== "runtime.NumGoroutine")=false:=by kernel_rfl)(hm:h.length<=m:=by exact ap9 rfl):KP f args h en eh o:=λr q=>FG m hf (hw r q rfl) hb hn hm
end
section
variable {α A B C D' R:Type} {rr:R} {r:aqR Nat} {N0:Nat} {Q:R->Exit->St->Prop} {w0:WO}
theorem fu(k:Nat)(ay:aqP (aqP (Nat×Ob Tryz.prog)))(live:aqP Nat)(m:Nat){L:aqP α}(st:Nat->St){G:aqP α->Nat->aqR R}
 (nil:∀n,L.drop n=[]->∀f:St->Prop,IE (G [] n) λq=>q=rr->GW Tryz.prog r N0 (Q q) (gV k f (st n) (wk Tryz.prog w0 ay)))
 (cons:∀n x l,L.drop n=x::l->∀f:St->Prop,pg k live m L (λn(_:Unit)=>st n) (λl n _=>G l n) rr n x l () f->IE (G (x::l) n) λq=>q=rr->GW Tryz.prog r N0 (Q q) (gV k f (st n) (wk Tryz.prog w0 ay)))
 (hN:N0<=m:=by exact ap9 rfl) (e:lX live m (wk Tryz.prog w0 ay)=some (st 0,dX ay):=by kernel_rfl):IE (G L 0) λq=>q=rr->GW Tryz.prog r N0 (Q q) w0:=λv h q=>
 S9 bA k ay live m L st G (q▸h) (λn a2 b2 f=>q▸nil n a2 f rr b2 rfl) (λn x l a2 b2 f c2=>q▸cons n x l a2 f c2 rr b2 rfl) hN e
theorem gU(k:Nat)(ay:aqP (aqP (Nat×Ob Tryz.prog)))(live:aqP Nat)(m:Nat){L:aqP α}(st:Nat->A->St){G:aqP α->Nat->A->aqR R}{a0:A}
 (nil:∀n a,L.drop n=[]->∀f:St->Prop,IE (G [] n a) λq=>q=rr->GW Tryz.prog r N0 (Q q) (gV k f (st n a) (wk Tryz.prog w0 ay)))
 (cons:∀n x l a,L.drop n=x::l->∀f:St->Prop,pg k live m L st G rr n x l a f->IE (G (x::l) n a) λq=>q=rr->GW Tryz.prog r N0 (Q q) (gV k f (st n a) (wk Tryz.prog w0 ay)))
 (hN:N0<=m:=by exact ap9 rfl) (e:lX live m (wk Tryz.prog w0 ay)=some (st 0 a0,dX ay):=by kernel_rfl):IE (G L 0 a0) λq=>q=rr->GW Tryz.prog r N0 (Q q) w0:=λv h q=>
 PS bA k ay live m L st G a0 (q▸h) (λn a1 a2 b2 f=>q▸nil n a1 a2 f rr b2 rfl) (λn x l a1 a2 b2 f c2=>q▸cons n x l a1 a2 f c2 rr b2 rfl) hN e
theorem Qg(k:Nat)(ay:aqP (aqP (Nat×Ob Tryz.prog)))(live:aqP Nat)(m:Nat){L:aqP α}(st:Nat->A->B->St){G:aqP α->Nat->A->B->aqR R}{a0:A}{b0:B}
 (nil:∀n a b,L.drop n=[]->∀f:St->Prop,IE (G [] n a b) λq=>q=rr->GW Tryz.prog r N0 (Q q) (gV k f (st n a b) (wk Tryz.prog w0 ay)))
 (cons:∀n x l a b,L.drop n=x::l->∀f:St->Prop,pg k live m L (λn(i:A×B)=>st n i.1 i.2) (λl n i=>G l n i.1 i.2) rr n x l (a,b) f->IE (G (x::l) n a b) λq=>q=rr->GW Tryz.prog r N0 (Q q) (gV k f (st n a b) (wk Tryz.prog w0 ay)))
 (hN:N0<=m:=by exact ap9 rfl) (e:lX live m (wk Tryz.prog w0 ay)=some (st 0 a0 b0,dX ay):=by kernel_rfl):IE (G L 0 a0 b0) λq=>q=rr->GW Tryz.prog r N0 (Q q) w0:=λv h q=>
 wl2 bA k ay live m L st G a0 b0 (q▸h) (λn a1 b1 a2 b2 f=>q▸nil n a1 b1 a2 f rr b2 rfl) (λn x l a1 b1 a2 b2 f c2=>q▸cons n x l a1 b1 a2 f c2 rr b2 rfl) hN e
theorem gl3(k:Nat)(ay:aqP (aqP (Nat×Ob Tryz.prog)))(live:aqP Nat)(m:Nat){L:aqP α}(st:Nat->A->B->C->St){G:aqP α->Nat->A->B->C->aqR R}{a0:A}{b0:B}{c0:C}
 (nil:∀n a b c,L.drop n=[]->∀f:St->Prop,IE (G [] n a b c) λq=>q=rr->GW Tryz.prog r N0 (Q q) (gV k f (st n a b c) (wk Tryz.prog w0 ay)))
 (cons:∀n x l a b c,L.drop n=x::l->∀f:St->Prop,pg k live m L (λn(i:A×B×C)=>st n i.1 i.2.1 i.2.2) (λl n i=>G l n i.1 i.2.1 i.2.2) rr n x l (a,b,c) f->IE (G (x::l) n a b c) λq=>q=rr->GW Tryz.prog r N0 (Q q) (gV k f (st n a b c) (wk Tryz.prog w0 ay)))
 (hN:N0<=m:=by exact ap9 rfl) (e:lX live m (wk Tryz.prog w0 ay)=some (st 0 a0 b0 c0,dX ay):=by kernel_rfl):IE (G L 0 a0 b0 c0) λq=>q=rr->GW Tryz.prog r N0 (Q q) w0:=λv h q=>
 wl3 bA k ay live m L st G a0 b0 c0 (q▸h) (λn a1 b1 c1 a2 b2 f=>q▸nil n a1 b1 c1 a2 f rr b2 rfl) (λn x l a1 b1 c1 a2 b2 f c2=>q▸cons n x l a1 b1 c1 a2 f c2 rr b2 rfl) hN e
theorem gb{ι:Type}{live:aqP Nat}{m k:Nat}{L:aqP α}{st:Nat->ι->St}{G:aqP α->Nat->ι->aqR R}{n:Nat}{x:α}{l:aqP α}{i:ι}{f:St->Prop}(hf:pg k live m L st G rr n x l i f)(j:ι)(ay:aqP (aqP (Nat×Ob Tryz.prog)))(hd:L.drop n=x::l)(e1:kP k (wK w0)=[f]:=by kernel_rfl)(e:qw k live m (wk Tryz.prog w0 ay)=some (st (n+1) j,dX ay):=by kernel_rfl):IE (G l (n+1) j) λq=>q=rr->GW Tryz.prog r N0 (Q q) w0:=λv h q=>wb bA hf j ay hd (q▸h) e1 e
theorem O3(k:Nat)(ay:aqP (aqP (Nat×Ob Tryz.prog)))(live:aqP Nat)(m:Nat)(st:A->St)(G:Nat->A->aqR R){d:Nat}{a0:A}
 (succ:∀d a,∀f:St->Prop,uD k live m st G rr d f->IE (G (d+1) a) λq=>q=rr->GW Tryz.prog r N0 (Q q) (gV k f (st a) (wk Tryz.prog w0 ay))) (h0:∀a,G 0 a=none:=by intros;rfl)
 (hN:N0<=m:=by exact ap9 rfl) (e:lX live m (wk Tryz.prog w0 ay)=some (st a0,dX ay):=by kernel_rfl):IE (G d a0) λq=>q=rr->GW Tryz.prog r N0 (Q q) w0:=λv h q=>wf1 bA k ay live m st G d a0 (q▸h) (λd a1 b2 f c2=>q▸succ d a1 f c2 rr b2 rfl) h0 hN e
theorem gf2(k:Nat)(ay:aqP (aqP (Nat×Ob Tryz.prog)))(live:aqP Nat)(m:Nat)(st:A->B->St)(G:Nat->A->B->aqR R){d:Nat}{a0:A}{b0:B}
 (succ:∀d a b,∀f:St->Prop,uD k live m (λ(i:A×B)=>st i.1 i.2) (λd i=>G d i.1 i.2) rr d f->IE (G (d+1) a b) λq=>q=rr->GW Tryz.prog r N0 (Q q) (gV k f (st a b) (wk Tryz.prog w0 ay))) (h0:∀a b,G 0 a b=none:=by intros;rfl)
 (hN:N0<=m:=by exact ap9 rfl) (e:lX live m (wk Tryz.prog w0 ay)=some (st a0 b0,dX ay):=by kernel_rfl):IE (G d a0 b0) λq=>q=rr->GW Tryz.prog r N0 (Q q) w0:=λv h q=>wf2 bA k ay live m st G d a0 b0 (q▸h) (λd a1 b1 b2 f c2=>q▸succ d a1 b1 f c2 rr b2 rfl) h0 hN e
theorem FR{ι:Type}{live:aqP Nat}{m k:Nat}{st:ι->St}{G:Nat->ι->aqR R}{d:Nat}{f:St->Prop}(hf:uD k live m st G rr d f)(j:ι)(ay:aqP (aqP (Nat×Ob Tryz.prog)))(e1:kP k (wK w0)=[f]:=by kernel_rfl)(e:qw k live m (wk Tryz.prog w0 ay)=some (st j,dX ay):=by kernel_rfl):IE (G d j) λq=>q=rr->GW Tryz.prog r N0 (Q q) w0:=λv h q=>wbf bA hf j ay (q▸h) e1 e
theorem nq{o:aqR R}(k:Nat)(ay:aqP (aqP (Nat×Ob Tryz.prog)))(live:aqP Nat)(m:Nat)(st:A->St)(G:A->aqR R)
 (br:∀f:St->Prop,zA k live m st (λa=>G a=some rr) f->IE o λq=>q=rr->GW Tryz.prog r N0 (Q q) (HW k f (wk Tryz.prog w0 ay)))
 (rest:∀a,IE (G a) λq=>q=rr->GW Tryz.prog r N0 (Q q) (LI (st a) (wk Tryz.prog w0 ay))) (hN:N0<=m:=by exact ap9 rfl) (e:Dd (wk Tryz.prog w0 ay)=some (dX ay):=by kernel_rfl):IE o λq=>q=rr->GW Tryz.prog r N0 (Q q) w0:=λv h q=>G6 bA rr k ay live m st G (λf a=>br f a v h q) (λa1 b2=>q▸rest a1 rr b2 rfl) hN e
theorem gm{ι:Type}{live:aqP Nat}{m k:Nat}{st:ι->St}{G:ι->aqR R}{f:St->Prop}(hf:zA k live m st (λi=>G i=some rr) f)(i:ι)(ay:aqP (aqP (Nat×Ob Tryz.prog)))(e1:kP k (wK w0)=[f]:=by kernel_rfl)(e:qw k live m (wk Tryz.prog w0 ay)=some (st i,dX ay):=by kernel_rfl):IE (G i) λq=>q=rr->GW Tryz.prog r N0 (Q q) w0:=λv h q=>lJ bA hf i ay (q▸h) e1 e
structure BX{α ι R:Type}(k:Nat)(live:List Nat)(m:Nat)(ks:List Nat)(kn:List (Nat×Nat))(L:List α)(st:Nat->ι->St)(G:List α->Nat->ι->Option R)(rr:R)(n:Nat)(x:α)(l:List α)(i:ι)(f:St->Prop):Prop where
 h:HN k live m ks kn (λz:Nat×List α×ι=>st z.1 z.2.2) (λz=>L.drop z.1=z.2.1/\G z.2.1 z.1 z.2.2=some rr) (λz=>z.2.1.length) (n,x::l,i) f
structure BFX{ι R:Type}(k:Nat)(live:List Nat)(m:Nat)(ks:List Nat)(kn:List (Nat×Nat))(st:ι->St)(G:Nat->ι->Option R)(rr:R)(d:Nat)(f:St->Prop):Prop where
 h:∀i,HN k live m ks kn (λz:Nat×ι=>st z.2) (λz=>G z.1 z.2=some rr) (λz=>z.1) (d+1,i) f
theorem gx1(k:Nat)(ay:aqP (aqP (Nat×Ob Tryz.prog)))(live:aqP Nat)(m:Nat)(ks:aqP Nat)(kn:aqP (Nat×Nat)){L:aqP α}(st:Nat->A->St){G:aqP α->Nat->A->aqR R}{a0:A}
 (nil:∀n a,L.drop n=[]->∀f:St->Prop,IE (G [] n a) λq=>q=rr->GW Tryz.prog r N0 (Q q) (gV k f (st n a) (wk Tryz.prog w0 ay)))
 (cons:∀n x l a,L.drop n=x::l->∀f:St->Prop,BX k live m ks kn L st G rr n x l a f->IE (G (x::l) n a) λq=>q=rr->GW Tryz.prog r N0 (Q q) (gV k f (st n a) (wk Tryz.prog w0 ay)))
 (hN:N0<=m:=by exact ap9 rfl) (ij:aqP (VE m):=[]) (e0:wx m (wk Tryz.prog w0 ay)=ij.map VE.x:=by kernel_rfl) (e:EB live m ks kn (wk Tryz.prog w0 ay)=some (st 0 a0,dX ay):=by kernel_rfl):IE (G L 0 a0) λq=>q=rr->GW Tryz.prog r N0 (Q q) w0:=λv h q=>
 Y7 bA k ay live m ks kn (λz:Nat×aqP α×A=>st z.1 z.2.2) (λz=>L.drop z.1=z.2.1/\G z.2.1 z.1 z.2.2=some rr) (λz=>z.2.1.length) (0,L,a0) ⟨rfl,q▸h⟩ (λz hz f hf=>by
  obtain⟨n,l,i⟩:=z;obtain⟨J,h2⟩:=hz;rw[q];cases l with
  |nil=>exact nil n i J f rr h2 rfl
  |cons x l=>exact cons n x l i J f ⟨hf⟩ rr h2 rfl) hN ij e0 e
theorem gx0(k:Nat)(ay:aqP (aqP (Nat×Ob Tryz.prog)))(live:aqP Nat)(m:Nat)(ks:aqP Nat)(kn:aqP (Nat×Nat)){L:aqP α}(st:Nat->St){G:aqP α->Nat->aqR R}
 (nil:∀n,L.drop n=[]->∀f:St->Prop,IE (G [] n) λq=>q=rr->GW Tryz.prog r N0 (Q q) (gV k f (st n) (wk Tryz.prog w0 ay)))
 (cons:∀n x l,L.drop n=x::l->∀f:St->Prop,BX k live m ks kn L (λn(_:Unit)=>st n) (λl n _=>G l n) rr n x l () f->IE (G (x::l) n) λq=>q=rr->GW Tryz.prog r N0 (Q q) (gV k f (st n) (wk Tryz.prog w0 ay)))
 (hN:N0<=m:=by exact ap9 rfl) (ij:aqP (VE m):=[]) (e0:wx m (wk Tryz.prog w0 ay)=ij.map VE.x:=by kernel_rfl) (e:EB live m ks kn (wk Tryz.prog w0 ay)=some (st 0,dX ay):=by kernel_rfl):IE (G L 0) λq=>q=rr->GW Tryz.prog r N0 (Q q) w0:=
 gx1 k ay live m ks kn (λn(_:Unit)=>st n) (G:=(λl n _=>G l n)) (a0:=()) (λn i=>nil n) (λn x l i=>cons n x l) hN ij e0 e
theorem gbX{ι:Type}{live:aqP Nat}{m k:Nat}{ks:aqP Nat}{kn:aqP (Nat×Nat)}{L:aqP α}{st:Nat->ι->St}{G:aqP α->Nat->ι->aqR R}{n:Nat}{x:α}{l:aqP α}{i:ι}{f:St->Prop}(hf:BX k live m ks kn L st G rr n x l i f)(j:ι)(ay:aqP (aqP (Nat×Ob Tryz.prog)))(hd:L.drop n=x::l)(e1:kP k (wK w0)=[f]:=by kernel_rfl)(ij:aqP (VE m):=[])(e0:wx m (wk Tryz.prog w0 ay)=ij.map VE.x:=by kernel_rfl)(e:Mh k live m ks kn (wk Tryz.prog w0 ay)=some (st (n+1) j,dX ay):=by kernel_rfl):IE (G l (n+1) j) λq=>q=rr->GW Tryz.prog r N0 (Q q) w0:=λv h q=>
 Xe bA hf.h (n+1,l,j) ay ⟨ma hd,q▸h⟩ (aqN _) e1 ij e0 e
theorem aeO(k:Nat)(ay:aqP (aqP (Nat×Ob Tryz.prog)))(live:aqP Nat)(m:Nat)(ks:aqP Nat)(kn:aqP (Nat×Nat))(st:A->B->C->St)(G:Nat->A->B->C->aqR R){d:Nat}{a0:A}{b0:B}{c0:C}
 (succ:∀d a b c,∀f:St->Prop,BFX k live m ks kn (λ(i:A×B×C)=>st i.1 i.2.1 i.2.2) (λd i=>G d i.1 i.2.1 i.2.2) rr d f->IE (G (d+1) a b c) λq=>q=rr->GW Tryz.prog r N0 (Q q) (gV k f (st a b c) (wk Tryz.prog w0 ay))) (h0:∀a b c,G 0 a b c=none:=by intros;rfl)
 (hN:N0<=m:=by exact ap9 rfl) (ij:aqP (VE m):=[]) (e0:wx m (wk Tryz.prog w0 ay)=ij.map VE.x:=by kernel_rfl) (e:EB live m ks kn (wk Tryz.prog w0 ay)=some (st a0 b0 c0,dX ay):=by kernel_rfl):IE (G d a0 b0 c0) λq=>q=rr->GW Tryz.prog r N0 (Q q) w0:=λv h q=>
 Y7 bA k ay live m ks kn (λz:Nat×(A×B×C)=>((λ(i:A×B×C)=>st i.1 i.2.1 i.2.2)) z.2) (λz=>((λd i=>G d i.1 i.2.1 i.2.2)) z.1 z.2=some rr) (λz=>z.1) (d,(a0,b0,c0)) (q▸h) (λz hz f hf=>by
  obtain⟨d,i⟩:=z;rw[q];cases d with
  |zero=>exact absurd ((h0 i.1 i.2.1 i.2.2).symm.trans hz) (by simp)
  |succ d=>exact succ d i.1 i.2.1 i.2.2 f ⟨λj=>⟨λs' i' z0 z1 z2 z3=>hf.h s' i' z0 z1 z2 z3⟩⟩ rr hz rfl) hN ij e0 e
theorem aot{ι:Type}{live:aqP Nat}{m k:Nat}{ks:aqP Nat}{kn:aqP (Nat×Nat)}{st:ι->St}{G:Nat->ι->aqR R}{d:Nat}{f:St->Prop}(hf:BFX k live m ks kn st G rr d f)(j:ι)(ay:aqP (aqP (Nat×Ob Tryz.prog)))(e1:kP k (wK w0)=[f]:=by kernel_rfl)(ij:aqP (VE m):=[])(e0:wx m (wk Tryz.prog w0 ay)=ij.map VE.x:=by kernel_rfl)(e:Mh k live m ks kn (wk Tryz.prog w0 ay)=some (st j,dX ay):=by kernel_rfl):IE (G d j) λq=>q=rr->GW Tryz.prog r N0 (Q q) w0:=λv h q=>
 Xe bA (hf.h j) (d,j) ay (q▸h) (aqN _) e1 ij e0 e
end
section
variable {P:aqS} {r:aqR Nat} {N0:Nat} {Q:Exit->St->Prop} {c:Code}
end
theorem agF{α:Type}{f:α->aqP D}{d0:α}{zs:aqP AV}{n c6:Nat}{l:Int}(hl:l=(n:Int))(hz:(f d0).map AV.d=zs)(h:n<=maxLen/\n*c6<=140737488355328):
 0<=l/\l<=l/\l.toNat=n/\l.toNat=n/\cp ((List.replicate n d0).map f)=List.replicate n zs/\n<=maxLen/\c6*n<=281474976710656:=by
 subst hl;refine⟨Int.natCast_nonneg _,Int.le_refl _,rfl,rfl,?_,h.1,?_⟩
 ·unfold cp;rw[List.map_replicate,List.map_replicate,hz]
 ·rw[Nat.mul_comm];exact aqj h.2 (by decide)
inductive OT(P:Program) where
 |nil
 |node (k:Nat) (ay:List (Nat×Ob P)) (sub next:OT P)
def OT.ps{P:aqS}:OT P->aqP (In×cg)
 | .nil=>[]
 | .node _ ay sub next=>jI ay++(sub.ps++next.ps)
def OT.isNil{P:aqS}:OT P->Bool
 | .nil=>true
 |_=>false
def qf(C:aqP Nat)(L:Nat)(r:aqP Nat):aqP Nat:=match xk C L r with
 |some k=>[k]
 |none=>r
def Ld{P:aqS}(A C:aqP Nat)(f:aqP Nat->Nat->aqP Nat->St->aqR (aqP Lf×aqP (In×cg)))(aif:Bool)(al:aqP Nat)(s:St)(L:Nat):aqR (aqP Lf×aqP (In×cg)):=
 match qv A L 0 with
 |[]=>bif aif then some ([(s,al,[])],[])else none
 |k0::r=>f (qf C L (k0::r)) L al s
def tb(P:aqS)(ops:Array Oper)(A C:aqP Nat):OT P->Nat->aqP Nat->Nat->aqP Nat->St->aqR (aqP Lf×aqP (In×cg))
 | .nil,_,cs,_,_,_=>match cs with
   |[]=>some ([],[])
   |_=>none
 | .node k ay sub next,fuel,cs,L,al,s=>match cs with
   |[]=>none
   |c::cs=>match fuel with
    |0=>none
    |f+1=>bif k==c then(match ops[k]? with
     |some o=>bif He o (jh (jn ay) (3*k+1))then(match nZ P ops false o k (jn ay) s with
      |some (s1,l)=>match (fN (L|||(1<<<k)) λL1=>Ld (P:=P) A C (tb P ops A C sub f) sub.isNil (al++List.replicate (s1.h.length-s.h.length) k) s1 L1)with
       |some (a,pa)=>match tb P ops A C next (f+1) cs L al s with
        |some (b,pb)=>some (a++b,l++(pa++pb))
        |none=>none
       |none=>none
      |none=>none)else none
     |none=>none)else none
section
variable {P:aqS} {ops:Array Oper} {K:St->Prop}
theorem UU(hK:rR K)(hM:oU (Region.before ops) ops=true){f L:Nat}{listed:Array Bool}{s:St}{k0:Nat}{r:aqP Nat}(hL:LM ops L listed)(hD:Dn ops listed)(hr:qv (pj ops 0 ops.size) L 0=k0::r)
 (h:∀k∈qf (kT ops true (Region.before ops) 0 ops.size) L (k0::r),∀o,ops[k]?=some o->∃y J,mI true P ops o s y J/\lf true P ops K f (listed.setIfInBounds k true) ((s.wh J).put o.dst y)):lf true P ops K (f+1) listed s:=by
 unfold qf at h;cases hf:xk (kT ops true (Region.before ops) 0 ops.size) L (k0::r)with
 |some k=>
  rw[hf]at h;obtain⟨j5,zg⟩:=GA hf;have uf:k∈Region.ready .any ops listed:=(hL.ready k).2 (by rw[hr];exact j5);have o6:k<ops.size:=by
    have:=(GI _ 0 k).1 (by rw[hr];exact j5);obtain⟨_,_,a,ha,_⟩:=this;rw[GD]at ha;split at ha
    ·next h=>omega
    ·cases ha
  obtain⟨y,hh,q1,q2⟩:=h k ap7 ops[k] (aqn o6);refine HS hK hM (aqn o6) f listed s hD (λj oj hj cG pK tK=> ?_) uf q1 q2;have ER:=(aqg.1 hj).1;have SV:Nat.testBit L j=false:=by
   rw[hL.b];have iM:j<listed.size:=by rw[hL.sz];exact ER
   simpa [iM]using pK
  have nL:Nat.testBit (vI ops true (Region.before ops) k) j=false:=by
   rw[<-Bool.not_eq_true];intro hc;have h5:(kT ops true (Region.before ops) 0 ops.size).getD k 0=vI ops true (Region.before ops) k:=by
     rw[List.getD_eq_getElem?_getD,Pc,if_pos o6,aql];rfl
   rw[h5]at zg;have:=congrArg (λn=>Nat.testBit n j) zg;simp only[Nat.testBit_or,hc,SV]at this;cases this
  unfold vI at nL;rw[Hf]at nL;unfold Qw at nL;rw[tK,aqn o6,hj]at nL;simp [ER,cG]at nL;exact nL
 |none=>
  rw[hf]at h;have B6:k0∈Region.ready .any ops listed:=(hL.ready k0).2 (by rw[hr];simp);refine⟨λe=>(by rw[e]at B6;cases B6),λi hi oi Kk=> ?_⟩;exact h i (by rw[<-hr];exact(hL.ready i).1 hi) oi Kk
theorem aik(hK:rR K)(hM:oU (Region.before ops) ops=true)(t0:aqP (Nat×AV))(n0:Nat):
 ∀(t:OT P)(fuel:Nat)(cs:aqP Nat)(L:Nat)(listed:Array Bool)(al:aqP Nat)(s:St)(ls:aqP Lf)(ps:aqP (In×cg)),LM ops L listed->Dn ops listed->(∀c∈cs,c∈Region.ready .any ops listed)->tb P ops (pj ops 0 ops.size) (kT ops true (Region.before ops) 0 ops.size) t fuel cs L al s=some (ls,ps)->gr P ps->(∃pre,s.t=pre++t0)->s.n=n0->
  (∀x∈ls,(∃pre,x.1.t=pre++t0)/\x.1.n=n0)/\((∀x∈ls,K x.1)->∀k∈cs,∀o,ops[k]?=some o->∃f,fuel=f+1/\∃y J,mI true P ops o s y J/\lf true P ops K f (listed.setIfInBounds k true) ((s.wh J).put o.dst y)):=by
 intro t
 induction t with
 |nil=>
  intro fuel cs L listed al s ls ps hL hD hc h cd hp hn;cases cs with
  |nil=>
   simp only[tb]at h;cases h
   exact⟨λx hx=>(by cases hx),λ_ k hk=>(by cases hk)⟩
  |cons=>simp [tb]at h
 |node k ay sub next ihs ihn=>
  intro fuel cs L listed al s ls ps hL hD hc h cd hp hn;cases cs with
  |nil=>simp [tb]at h
  |cons c cs=>
   cases fuel with
   |zero=>simp [tb]at h
   |succ f=>
    rw[tb]at h;have h':=lx h;clear h;obtain⟨hkc,h⟩:=h';rw[beq_iff_eq]at hkc;subst hkc;split at h
    ·next o ho=>
     have h':=lx h;clear h;obtain⟨ajU,h⟩:=h';split at h
     ·next s1 l hg=>
      rw[A7]at h;split at h
      ·next a pa ha=>
       split at h
       ·next b pb hb=>
        cases h
        have hl:gr P l:=λp hp=>cd p (List.mem_append_left _ hp);have hpa:gr P pa:=λp hp=>cd p (List.mem_append_right _ (List.mem_append_left _ hp));have hpb:gr P pb:=λp hp=>cd p (List.mem_append_right _ (List.mem_append_right _ hp));have uf:=hc k ap7;have o6:=(aqg.1 ho).1;obtain⟨xd,kM⟩:=ihn (f+1) cs L listed al s b pb hL hD (λc gg=>hc c (aqa _ gg)) hb hpb hp hn;obtain⟨⟨p1,e1⟩,e2⟩:=SU hg;have hp1:∃pre,s1.t=pre++t0:=by
         obtain⟨pre,e⟩:=hp;exact⟨p1++pre,by rw[e1,e,aqi]⟩
        have Wy:s1.n=n0:=e2.trans hn;have DK:=hL.set o6;have Bg:=hD.set uf;have vQ:(∀x∈a,(∃pre,x.1.t=pre++t0)/\x.1.n=n0)/\((∀x∈a,K x.1)->lf true P ops K f (listed.setIfInBounds k true) s1):=by
         unfold Ld at ha;split at ha
         ·next hr=>
          obtain⟨_,ha⟩:=lx ha;cases ha
          have EL:Region.ready .any ops (listed.setIfInBounds k true)=[]:=by
           rw[List.eq_nil_iff_forall_not_mem];intro i hi;have:=(DK.ready i).1 hi;rw[hr]at this;cases this
          refine⟨λx hx=>by rw[List.mem_singleton]at hx;subst hx;exact⟨hp1,Wy⟩,λhk=> ?_⟩;have j5:=hk _ ap7;cases f with
          |zero=>exact⟨EL,j5⟩
          |succ f=>exact⟨λ_=>j5,λi hi=>by rw[EL]at hi;cases hi⟩
         ·next k1 r hr=>
          have F0:∀c∈qf (kT ops true (Region.before ops) 0 ops.size) (L|||(1<<<k)) (k1::r),c∈Region.ready .any ops (listed.setIfInBounds k true):=by
           intro c gg;rw[DK.ready,hr];unfold qf at gg;split at gg
           ·next q hf=>
            rw[List.mem_singleton]at gg;subst gg;exact(GA hf).1
           ·exact gg
          obtain⟨q1,q2⟩:=ihs f _ _ _ _ s1 a pa DK Bg F0 ha hpa hp1 Wy;refine⟨q1,λhk=> ?_⟩;have cG:∃c,c∈qf (kT ops true (Region.before ops) 0 ops.size) (L|||(1<<<k)) (k1::r):=by
           unfold qf;split
           ·exact⟨_,ap7⟩
           ·exact⟨_,ap7⟩
          obtain⟨c0,xe⟩:=cG;have Pe:c0<ops.size:=by
           have:=(GI _ 0 c0).1 ((DK.ready c0).1 (F0 c0 xe));obtain⟨_,_,z,hz,_⟩:=this;rw[GD]at hz;split at hz
           ·next h=>omega
           ·cases hz
          obtain⟨g,rfl,_⟩:=q2 hk c0 xe ops[c0] (aqn Pe);refine UU hK hM DK Bg hr λk' hJ o' oG=> ?_;obtain⟨g',e,y,J,h2,h3⟩:=q2 hk k' hJ o' oG;cases e
          exact⟨y,J,h2,h3⟩
        refine⟨λx hx=>(aqD.1 hx).elim (vQ.1 x) (xd x),λhk k' hJ o' oG=> ?_⟩;rcases aqv.1 hJ with rfl|hJ
        ·rw[ho]at oG;cases oG;have h4:=Vz (K:=(·=s1)) hg hl rfl ajU;have h5:=vQ.2 λx hx=>hk x (List.mem_append_left _ hx);rcases IP h4 with⟨g,hd⟩|⟨g,hd⟩
         ·obtain⟨y,J,h2,h3⟩:=Ly hd;exact⟨f,rfl,y,J, .inl ⟨g,h2⟩,by rw[h3];exact h5⟩
         ·exact⟨f,rfl,_,s.h, .inr ⟨g,rfl,rfl⟩,by
           have e:(s.wh s.h).put o.dst (.d (.v undef))=s1:=hd;rw[e];exact h5⟩
        ·exact kM (λx hx=>hk x (List.mem_append_right _ hx)) k' hJ o' oG
       ·cases h
      ·cases h
     ·cases h
    ·cases h
end
def QG(P:aqS)(ol:aqP Oper)(t:OT P)(keep:aqP Nat)(s:St):aqR (aqP (aqP (Nat×AV)×aqP aq×aqP (In×cg))×aqP (In×cg)):=
 bif oU (Region.before ol.toArray) ol.toArray then fL (pj ol.toArray 0 ol.toArray.size) λA=>fL (kT ol.toArray true (Region.before ol.toArray) 0 ol.toArray.size) λC=>
  match Ld (P:=P) A C (tb P ol.toArray A C t ol.toArray.size) t.isNil [] s 0 with
  |some (ls,ps)=>match Hm keep s ls with
   |some r=>some (r,ps)
   |none=>none
  |none=>none
 else none
theorem ajH{P:aqS}{ol:aqP Oper}{t:OT P}{keep:aqP Nat}{s:St}{Δ:aqP (Nat×AV)}{h':aqP aq}{m N0:Nat}{K:St->Prop}(h:QG P ol t keep s=some (List.replicate m (Δ,h',[]),t.ps))(cd:gr P t.ps)(hN:N0<=s.h.length)(nP:∀i,(bp s.t i).aE s.h.length=true)(hK:F2 N0 K)(hk:K ⟨s.n,Δ++s.t,h'⟩):
 lf true P ol.toArray K ol.toArray.size (Array.replicate ol.toArray.size false) s:=by
 unfold QG at h;obtain⟨hM,h⟩:=lx h;rw[yV,yV]at h;split at h
 ·next ls ps e1=>
  split at h
  ·next r FC=>
   cases h
   have hL:LM ol.toArray 0 (Array.replicate ol.toArray.size false):=⟨by simp,λi=>by
    rw[Nat.zero_testBit,Array.getD_eq_getD_getElem?,Array.getElem?_replicate];split<;>rfl⟩
   have hD:Dn ol.toArray (Array.replicate ol.toArray.size false):=λj o ho hj=>by
    exfalso;rw[Array.getD_eq_getD_getElem?]at hj;rw[Array.getElem?_replicate]at hj;split at hj<;>simp at hj
   have leaf:∀x∈ls,((∃pre,x.1.t=pre++s.t)/\x.1.n=s.n)->K x.1:=λx hx hb=>by
    obtain⟨a,ha,e2⟩:=Qk FC x hx;rw[List.mem_replicate]at ha;obtain⟨_,rfl⟩:=ha;obtain⟨k1,_⟩:=Z9 (P:=P) (ops:=ol.toArray) e2 hN nP hb.2 hb.1 (λp hp=>by cases hp);exact hK _ _ k1 hk
   unfold Ld at e1;split at e1
   ·next hr=>
    obtain⟨_,e1⟩:=lx e1;have e3:=Prod.mk.inj (aqk e1);obtain⟨e3,_⟩:=e3;subst e3;have EL:Region.ready .any ol.toArray (Array.replicate ol.toArray.size false)=[]:=by
     rw[List.eq_nil_iff_forall_not_mem];intro i hi;have:=(hL.ready i).1 hi;rw[hr]at this;cases this
    have j5:=leaf _ ap7 ⟨⟨[],rfl⟩,rfl⟩;generalize hf:ol.toArray.size=f at*;cases f with
    |zero=>exact⟨EL,j5⟩
    |succ f=>exact⟨λ_=>j5,λi hi=>by rw[EL]at hi;cases hi⟩
   ·next k1 r' hr=>
    have F0:∀c∈qf (kT ol.toArray true (Region.before ol.toArray) 0 ol.toArray.size) 0 (k1::r'),c∈Region.ready .any ol.toArray (Array.replicate ol.toArray.size false):=by
     intro c gg;rw[hL.ready,hr];unfold qf at gg;split at gg
     ·next q hf=>
      rw[List.mem_singleton]at gg;subst gg;exact(GA hf).1
     ·exact gg
    obtain⟨q1,q2⟩:=aik (K:=K) hK.c hM s.t s.n t _ _ _ _ _ s ls _ hL hD F0 e1 cd ⟨[],rfl⟩ rfl;have q3:=q2 λx hx=>leaf x hx (q1 x hx);have cG:∃c,c∈qf (kT ol.toArray true (Region.before ol.toArray) 0 ol.toArray.size) 0 (k1::r'):=by
     unfold qf;split
     ·exact⟨_,ap7⟩
     ·exact⟨_,ap7⟩
    obtain⟨c0,xe⟩:=cG;have Pe:c0<ol.toArray.size:=by
     have:=(GI _ 0 c0).1 ((hL.ready c0).1 (F0 c0 xe));obtain⟨_,_,z,hz,_⟩:=this;rw[GD]at hz;split at hz
     ·next h=>omega
     ·cases hz
    obtain⟨g,eg,_⟩:=q3 c0 xe ol.toArray[c0] (aqn Pe);have FC:=UU (P:=P) (f:=g) (s:=s) (K:=K) hK.c hM hL hD hr λk' hJ o' oG=>by
     obtain⟨g',e,y,J,h2,h3⟩:=q3 k' hJ o' oG;rw[eg]at e;cases e
     exact⟨y,J,h2,h3⟩
    exact(congrArg (λn=>lf true P ol.toArray K n (Array.replicate ol.toArray.size false) s) eg).mpr FC
  ·cases h
 ·cases h
theorem O6{P:aqS}:∀t:OT P,gr P t.ps
 | .nil=>λp hp=>by cases hp
 | .node _ ay sub next=>λp hp=>by
   unfold OT.ps at hp;rcases aqD.1 hp with hp|hp
   ·exact pP ay p hp
   ·rcases aqD.1 hp with hp|hp
    ·exact O6 sub p hp
    ·exact O6 next p hp
section
variable {P:aqS} {r:aqR Nat} {N0 id n:Nat} {ol:aqP Oper} {y:Code} {t:aqP (Nat×AV)} {h:aqP aq} {Q Q':Exit->St->Prop}
theorem ro(m:Nat)(hm:P.follows .mixedOrders=true)(T:OT P)(Δ:aqP (Nat×AV))(h':aqP aq)(e:QG P ol T (Δ.map (·.1)) ⟨n,t,h⟩=some (List.replicate m (Δ,h',[]),T.ps))(k:bH P r N0 y Q' ⟨n,Δ++t,h'⟩):bH P r N0 (.region id ol.toArray true) (jc (λs=>bH P r N0 y Q' s) Q) ⟨n,t,h⟩:=
 Sp (m:=true) hm λhN nP=>ajH e (O6 T) hN nP (TQ _) ⟨_,iJ.refl _ _,k⟩
end
set_option maxRecDepth 100000
set_option maxHeartbeats 0
mutual
theorem RB{m m':Nat}(hm:m<=m'):∀x:AV,x.aE m=true->x.aE m'=true
 | .own n _,h=>by rw[AV.aE,Bool.not_eq_true',<-Bool.not_eq_true,dh]at h ⊢;omega
 | .ptr n _,h=>by rw[AV.aE,Bool.not_eq_true',<-Bool.not_eq_true,dh]at h ⊢;omega
 | .row n _ _ _ _,h=>by rw[AV.aE,Bool.not_eq_true',<-Bool.not_eq_true,dh]at h ⊢;omega
 | .mp n,h=>by rw[AV.aE,Bool.not_eq_true',<-Bool.not_eq_true,dh]at h ⊢;omega
 | .cr n,h=>by rw[AV.aE,Bool.not_eq_true',<-Bool.not_eq_true,dh]at h ⊢;omega
 | .vec n _ _ _ _,h=>by rw[AV.aE,Bool.not_eq_true',<-Bool.not_eq_true,dh]at h ⊢;omega
 | .dB n _ _ _ _,h=>by rw[AV.aE,Bool.not_eq_true',<-Bool.not_eq_true,dh]at h ⊢;omega
 | .agg cs,h=>by rw[AV.aE]at h ⊢;exact L4 hm cs h
 | .bj cs,h=>by rw[AV.aE]at h ⊢;exact L4 hm cs h
 | .fn f cs,h=>by rw[AV.aE]at h ⊢;exact L4 hm cs h
 | .d _,_=>by simp only[AV.aE]
 | .bk ..,_=>by simp only[AV.aE]
 | .full _,_=>by simp only[AV.aE]
 | .hid _,_=>by simp only[AV.aE]
 | .dead,_=>by simp only[AV.aE]
theorem L4{m m':Nat}(hm:m<=m'):∀l:aqP AV,AV.kK m l=true->AV.kK m' l=true
 |[],_=>by simp [AV.kK]
 |x::l,h=>by
  rw[AV.kK,ap3]at h ⊢;exact⟨RB hm x h.1,L4 hm l h.2⟩
end
theorem aoT{m m':Nat}(hm:m<=m'){B:aq}(h:B.aE m=true):B.aE m'=true:=by
 have fM:∀cs:aqP AV,cs.all (AV.aE m)=true->cs.all (AV.aE m')=true:=λcs h=>by
  rw[aqr]at h ⊢;exact λx hx=>RB hm x (h x hx)
 cases B with
 |cells cs=>exact fM cs h
 |lp ls p a b cs=>exact fM cs h
 |it sn cs=>exact fM cs h
 |e9 T0 cs=>exact fM cs h
 |vec e k cs=>
  simp only[aq.aE,aqr]at h ⊢;exact λc hc x hx=>RB hm x (h c hc x hx)
 |front e k len=>rfl
 |iP e b=>rfl
 |map kv=>rfl
 |ja kv=>rfl
 |gone=>rfl
theorem Rh{m m':Nat}(hm:m<=m'){h:aqP aq}(e:h.all (aq.aE m)=true):h.all (aq.aE m')=true:=by
 rw[aqr]at e ⊢;exact λB hB=>aoT hm (e B hB)
abbrev qj(ext:aqP Int):AV:= .bk [[.sl (bn ext)]] 0 0
def pM(p:aqP Int):AV:= .d (.sl (bn p))
theorem Ut{n i x:Nat}{xs:aqP Nat}(h:(List.range n).drop i=x::xs):x=i:=by
 have:=bI h;have hi:i<(List.range n).length:=(ap1.1 this).1;rw[List.getElem?_range (by simpa using hi)]at this;exact(aqk this).symm
theorem afU(ext:aqP Int)(n:Nat)(hn:n<=maxLen)(hc:gi Tryz.prog 182 [.d (.sl (bn ext))] (·=ar n)):Cm Tryz.prog 181 [qj ext] ((List.range n).map λ(k:Nat)=>ar k):=by
 intro k h C kJ hk rp;have hs:=E9 _ kJ rp;refine vV h.length Tryz.func181 rfl (by kernel_rfl) (aqc _) ?_;show bH Tryz.prog none h.length _ _ ⟨14,[(0, .cr k),(1,qj ext)],h⟩
 repeat refine aD ?_
 refine ff ?_;refine bS rfl ?_;refine cF (x:= .d (.sl (bn ext))) (by kernel_rfl) rfl rfl ?_;refine bS rfl ?_;refine DZ (g:=182) (db:=[]) rfl rfl rfl ?_;refine hc.use rfl rfl ?_;refine bS rfl ?_;refine cF (x:= .d (.v (.int .i64 0))) (by kernel_rfl) rfl rfl ?_;refine bK ?_;refine gq ?_;refine Ki (ι:=Nat×aqP Nat×aqP aq) [0,5,6] h.length (λi=>⟨14,[(0, .cr k),(5, .d (.v (.int .i64 n))),(6, .d (.v (.int .i64 i.1)))],i.2.2⟩)
  (λi=>(List.range n).drop i.1=i.2.1/\oK h i.2.2/\me Tryz.prog k (i.2.1.map λ(k:Nat)=>ar k) (λb h2=>C b h2/\oK h h2) i.2.2) (λi=>i.2.1.length) (0,List.range n,h) (aqc _) ?_ ?_ ⟨rfl,⟨rfl,kJ⟩,hs⟩ ?_
 ·exact Lu _ kJ (by
   show(((AV.cr k).bx h.length).aE h.length&&(true&&(true&&true)))=true;rw[Cd hk];rfl)
 ·exact JS _ kJ
 rintro⟨i,rest,hb⟩ ⟨hd,⟨c1,c2⟩,jx⟩;simp only at hd c1 c2 jx ⊢
 repeat refine aD ?_
 refine ff ?_;refine bS rfl ?_;refine cF (x:= .d (.v (.bool (decide ((i:Int)<(n:Int)))))) (by kernel_rfl) rfl rfl ?_;refine bK ?_
 repeat refine aD ?_
 have hlen:((List.range n).length:Int)=(n:Int):=by rw[List.length_range]
 cases rest with
 |nil=>
  rw[<-hlen,cu hd];refine mj (by kernel_rfl) ?_;refine oT (lF (lF (rX rfl ?_)));exact Mw c1 c2 ⟨rfl,true,jx.1⟩
 |cons x rest=>
  rw[<-hlen,cv hd];have hx:=Ut hd;subst hx;refine mg (by kernel_rfl) ?_;refine dI ?_;refine bK ?_
  repeat refine aD ?_
  refine gq ?_
  repeat refine aD ?_
  refine ff ?_;refine bS rfl ?_;refine cF (x:= .d (.v (.int .i64 x))) (by kernel_rfl) rfl rfl ?_;refine bS rfl ?_;refine cF (x:= .d (.v (.int .i64 x))) (by kernel_rfl) rfl rfl ?_;refine bK ?_
  repeat refine aD ?_
  refine ff ?_;refine bS rfl ?_;refine cF (x:= .cr k) (by kernel_rfl) rfl rfl ?_;refine bS rfl ?_;refine cF (x:= .d (.v (.int .i64 x))) (by kernel_rfl) rfl rfl ?_;refine bS rfl ?_;rw[aqq]at jx;refine zQ (k:=k) (x:=ar x) rfl rfl (by kernel_rfl) (by kernel_rfl) rfl rfl ?_;refine YS.mono jx λb h2 hh=> ?_;obtain⟨⟨p1,p2⟩,p3⟩:=hh;have u1:h2.length=h.length:=by rw[p1,c1]
  have u2:h2.all (aq.aE h.length)=true:=by rw[c1]at p2;exact p2
  refine bS rfl ?_;refine cF (x:= .d (.v (.bool (!b)))) (by kernel_rfl) rfl rfl ?_;refine bK ?_;cases b with
  |false=>
   refine mg (by kernel_rfl) ?_;refine c8 ?_
   repeat (first|(with_reducible refine dg ?_)|(with_reducible refine fv ?_))
   exact acT u1 u2 ⟨rfl,false,p3.1⟩
  |true=>
   refine mj (by kernel_rfl) ?_;refine dI ?_;refine iU ?_;refine bK ?_;simp only[cond_true]at p3;refine ff ?_;refine bS rfl ?_;refine cF (x:= .d (.v (.int .i64 ((x+1:Nat):Int)))) (by
    show some ((.d (.v (.int .i64 (aO ((x:Int)+1)))):AV),HD.same)=_;have:=cD hd rfl (by rw[List.length_range];exact hn);unfold ar at this;rw[this]) rfl rfl ?_
   refine bS rfl ?_;refine cF (x:= .d (.v (.int .i64 ((x+1:Nat):Int)))) (by kernel_rfl) rfl rfl ?_;refine bK ?_;refine⟨?_,(x+1,rest,h2),?_,⟨ma hd,⟨u1,u2⟩,p3⟩,aqN _⟩
   ·rw[<-u1];exact Lu _ (by rw[u1];exact u2) (by
      show(((AV.cr k).bx h2.length).aE h2.length&&(true&&(true&&true)))=true;rw[u1,Cd hk];rfl)
   ·rw[<-u1];exact JS _ (by rw[u1];exact u2)
theorem anD(ext:aqP Int):gi Tryz.prog 122 [.d (.sl (bn ext))] (·= .fn 181 [qj ext]):=by
 refine Q1 (r:= .fn 181 [(.ptr 0 0)]) (h:=[.cells [.d (.sl (bn ext))]]) ?_ (by kernel_rfl) rfl;refine rK 1 Tryz.func122 rfl (by kernel_rfl) (ap9 rfl) ?_;refine mz (s':=⟨4,[(0, .d (.sl (bn ext)))],[]⟩) (by kernel_rfl) ?_;refine aD ?_;refine rg [] [(1,(.ptr 0 0))] [.cells [.d (.sl (bn ext))]] (by kernel_rfl) ?_;refine aD ?_;refine rg [] [(2,(.fn 181 [(.ptr 0 0)]))] [.cells [.d (.sl (bn ext))]] (by kernel_rfl) ?_;refine c8 ?_;exact jA (by kernel_rfl)
theorem afa{n:Nat}{t:aqP (Nat×AV)}{H l:aqP aq}(hb:H.all (aq.aE H.length)=true):uP ⟨n,t,H++l⟩ H.length ⟨n,[],H⟩:=⟨fun{G w a} hs=>by
 have J:=hs.mask (live:=[]) (zW (n:=n) (t:=t) (l:=l) [] hb rfl)
 rwa [BG [] hb]at J⟩
theorem Uw{n m:Nat}{t:aqP (Nat×AV)}{H:aqP aq}(hm:H.length=m)(hb:H.all (aq.aE m)=true):uP ⟨n,t,H⟩ m ⟨n,[],H⟩:=by
 subst hm;have:=afa (n:=n) (t:=t) (l:=[]) hb
 rwa [aqm]at this
theorem afx(ext:aqP Int)(jH:aqP (aqP Int))(hn:jH.length<=maxLen)(hc:gi Tryz.prog 182 [.d (.sl (bn ext))] (·=ar jH.length))
 (hp:∀(k:Nat)(p:aqP Int),jH[k]?=some p->gi Tryz.prog 123 [.d (.sl (bn ext)),ar k] (·= .bj [pM p,aK true])):Cm Tryz.prog 121 [qj ext] (jH.map pM):=by
 intro k h C kJ hk rp;have hs:=E9 _ kJ rp;refine vV h.length Tryz.func121 rfl (by kernel_rfl) (aqc _) ?_
 suffices hA:bH Tryz.prog none h.length _ _ ⟨19,[(0, .cr k),(1,qj ext)],h++[]⟩ by rw[aqm]at hA;exact hA
 have qc:∀m',h.length<=m'->(AV.cr k).aE m'=true:=λm' gu=>by simp [AV.aE,ct];omega
 have gp:∀m',h.length<=m'->(aq.cells [.cr k]).aE m'=true:=λm' gu=>by simp [aq.aE,qc m' gu]
 repeat refine aD ?_
 refine ff ?_;refine bS rfl ?_;refine Be (Xt (l:=[]) (v:= .cr k) rfl (by kernel_rfl)) rfl rfl DM ?_;refine bK ?_
 repeat refine aD ?_
 refine ff ?_;refine bS rfl ?_;refine cF (x:= .d (.sl (bn ext))) (by kernel_rfl) rfl rfl ?_;refine bS rfl ?_;refine DZ (g:=122) (db:=[]) rfl rfl rfl ?_;refine(anD ext).use rfl rfl ?_;refine bK ?_;refine gq ?_;show bH Tryz.prog none h.length _ _ ⟨19,[(7, .fn 181 [qj ext]),(6, .d (.sl (bn ext))),(2, .ptr h.length 0),(0, .cr k),(1,qj ext)],h++[.cells [.cr k]]⟩;refine wQ (m:=h.length+1) (enc:=λ(q:Nat)=>ar q) (xs:=List.range jH.length) (gf:=181) (db:=[qj ext]) (by kernel_rfl) (afU ext jH.length hn hc) (λ(i:{J:aqP aq // oK h J})=>i.1++[.cells [.cr k]])
  (λi l=>∃j,(List.range jH.length).drop j=l/\me Tryz.prog k ((jH.drop j).map pM) (λb h2=>C b h2/\oK h h2) i.1) ⟨h,rfl,kJ⟩ rfl ⟨0,rfl,hs⟩ (λi=>by rw[ap2,i.2.1];rfl) (λi=> ?_) ?_ (by kernel_rfl) ?_ ?_
 ·rw[List.all_append,Rh (aqG _ 2) i.2.2];simp [gp (h.length+1+1) (by omega)]
 ·have hy:ct (h.length+1+1) k=false:=by rw[<-Bool.not_eq_true,dh];omega
  have hq:ct (h.length+1+1) h.length=false:=by rw[<-Bool.not_eq_true,dh];omega
  show(([0,1,2,3,4,5,6,7,8,9,10,11,12,13,14,15,16,17,18]:aqP Nat).map λi=>bp _ i).all _=true;simp only[aqq,List.map_nil,bp,aqL,List.all_nil,Nat.reduceBEq,cond_true,cond_false,Bool.and_true,AV.aE,AV.kK];rw[hy,hq];rfl
 ·rintro⟨hb,c1,c2⟩ x l ⟨j,hd,jx⟩ rr a b;have hx:=Ut hd;subst hx;have hj:x<jH.length:=by
   have:=bI hd;have:=(ap1.1 this).1
   simpa using this
  simp only at jx ⊢;refine ff ?_;refine bS rfl ?_;refine cF (x:=ar x) (by kernel_rfl) rfl rfl ?_;refine bK ?_;refine⟨hb++[.cells [.cr k]],[],by rw[ap2,c1];rfl,rfl,?_⟩;generalize hLP:aq.lp .busy 8 a b (dp 19 _)=LP;have ahd:LP.aE (h.length+2)=true:=by
   rw[<-hLP];have hy:ct (h.length+2) k=false:=by rw[<-Bool.not_eq_true,dh];omega
   have hq:ct (h.length+2) h.length=false:=by rw[<-Bool.not_eq_true,dh];omega
   show(([0,1,2,3,4,5,6,7,8,9,10,11,12,13,14,15,16,17,18]:aqP Nat).map λi=>bp _ i).all _=true;simp only[aqq,List.map_nil,bp,aqL,List.all_nil,Nat.reduceBEq,cond_true,cond_false,Bool.and_true,AV.aE,AV.kK];rw[hy,hq];rfl
  clear hLP;refine gq ?_
  repeat refine aD ?_
  refine ff ?_;refine bS rfl ?_;refine cF (x:= .d (.sl (bn ext))) (by kernel_rfl) rfl rfl ?_;refine bS rfl ?_;refine cF (x:=ar x) (by kernel_rfl) rfl rfl ?_;refine bS rfl ?_;refine DZ (g:=123) (db:=[]) rfl rfl rfl ?_;refine(hp x jH[x] (ap5 hj)).use rfl rfl ?_;refine bS rfl ?_;refine cF (x:= .bj [pM jH[x],aK true]) (by kernel_rfl) rfl rfl ?_;refine bS rfl ?_;refine cF (x:=pM jH[x]) (by kernel_rfl) rfl rfl ?_;refine bS rfl ?_;refine cF (x:=aK true) (by kernel_rfl) rfl rfl ?_;refine bS rfl ?_;refine cF (x:=pM jH[x]) (by kernel_rfl) rfl rfl ?_;refine bS rfl ?_;refine cF (x:=aK true) (by kernel_rfl) rfl rfl ?_;refine bK ?_;rw[show(hb++[aq.cells [.cr k]])++[LP]=hb++[aq.cells [.cr k],LP] by simp]
  repeat refine aD ?_
  refine ff ?_;refine bS rfl ?_;refine cF (wD (h:=hb) (i:=0) (off:=0) (l:=[.cells [.cr k],LP]) (x:= .cr k) (by rw[c1];rfl) rfl (by kernel_rfl)) rfl rfl ?_;refine bS rfl ?_;refine cF (x:=pM jH[x]) (by kernel_rfl) rfl rfl ?_;refine bS rfl ?_;rw[List.drop_eq_getElem_cons hj,aqq]at jx;have hy:=Lh jx [.cells [.cr k],LP] (by rw[c1];exact c2) (by kernel_rfl) (λb h' hh=>hh.1);refine zQ (k:=k) (x:=pM jH[x]) rfl rfl (by kernel_rfl) (by kernel_rfl) rfl rfl ?_;refine hy.mono λb h' hh=> ?_;obtain⟨h2,⟨⟨p1,p2⟩,p3⟩,rfl⟩:=hh;have u1:h2.length=h.length:=by rw[p1,c1]
  have u2:h2.all (aq.aE h.length)=true:=by rw[c1]at p2;exact p2
  have v1:(h2++[aq.cells [.cr k]]).length=h.length+1:=by rw[ap2,u1];rfl
  have v2:(h2++[aq.cells [.cr k]]).all (aq.aE (h.length+2))=true:=by
   rw[List.all_append,Rh (aqG _ 2) u2];simp [gp]
  have v3:(h2++[aq.cells [.cr k],LP]).all (aq.aE (h.length+2))=true:=by
   rw[List.all_append,Rh (aqG _ 2) u2];simp [gp,ahd]
  have v4:(h2++[aq.cells [.cr k],LP]).length=h.length+2:=by rw[ap2,u1];rfl
  have v5:h2++[aq.cells [.cr k],LP]=(h2++[aq.cells [.cr k]])++[LP]:=by simp
  refine bS rfl ?_;refine cF (x:= .d (.v (.bool (!b)))) (by kernel_rfl) rfl rfl ?_;refine bK ?_;cases b with
  |false=>
   refine mg (by kernel_rfl) ?_;refine c8 ?_
   repeat (first|(with_reducible refine dg ?_)|(with_reducible refine fv ?_))
   refine⟨h2++[.cells [.cr k]],v1,v2,?_,?_⟩
   ·have Tv:∀t,uP ⟨19,t,h2++[aq.cells [.cr k],LP]⟩ (h.length+2) ⟨19,[],(h2++[aq.cells [.cr k]])++[LP]⟩:=λt=>by
     rw[<-v5];exact Uw v4 v3
    exact Tv _
   ·refine fv ?_;rw[aqi];exact AS u1 u2 ⟨rfl,false,p3.1⟩
  |true=>
   refine mj (by kernel_rfl) ?_;refine dI ?_;refine iU ?_;simp only[cond_true]at p3;refine⟨h2++[.cells [.cr k]],v1,v2,?_,⟨h2,u1,u2⟩,rfl,x+1,ma hd,p3⟩;have Tv:∀t,uP ⟨19,t,h2++[aq.cells [.cr k],LP]⟩ (h.length+2) ⟨19,[],(h2++[aq.cells [.cr k]])++[LP]⟩:=λt=>by
    rw[<-v5];exact Uw v4 v3
   exact Tv _
 ·rintro⟨hb,c1,c2⟩ ⟨j,hd,jx⟩;have:jH.drop j=[]:=by
   have J:=List.drop_eq_nil_iff.1 hd;rw[List.length_range]at J;exact List.drop_eq_nil_iff.2 J
  rw[this,List.map_nil]at jx;refine iU ?_;rw[aqi];have:=Rb (P:=Tryz.prog) (fn:=Tryz.f121) (n:=19) (K:=λ_ J=>∃b,C b J) (t:=[(7, .fn 181 [qj ext]),(6, .d (.sl (bn ext))),(2, .ptr h.length 0),(0, .cr k),(1,qj ext)]) (l:=[.cells [.cr k]]++[.gone]) c1 c2;refine this ?_;exact⟨rfl,true,jx.1⟩
def iz(a b:Int)(neg:Bool)(how:Int):Bool:=
 let q:=IntKind.u64.wrap (a.tdiv b);let r:=a.tmod b
 (r==0||how==3)||((how==1&& !neg)||(how==2&&neg))||(how==4&&(decide (IntKind.u64.wrap (2*r)<b)||(IntKind.u64.wrap (2*r)==b&&q.tmod 2==0)))
def sL(a b:Int)(neg:Bool)(how:Int):Int:=bif iz a b neg how then IntKind.u64.wrap (a.tdiv b)else IntKind.u64.wrap (IntKind.u64.wrap (a.tdiv b)+1)
end Go.Proofs.YtpeecnpmcbnahaaGreatDoor
