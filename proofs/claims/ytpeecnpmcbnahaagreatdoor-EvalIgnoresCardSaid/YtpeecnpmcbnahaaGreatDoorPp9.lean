/-
  Part 9 of the proof: Sorts, AbsWs, AbsDl, AbsTm, AbsUnr, AbsOT, IterB, RndD.
-/
import Derived.Test.YtpeecnpmcbnahaaGreatDoorPp8
import Derived.WalkKit
import Derived.Shelf.Sort.Plain
import Derived.Shelf.Slices.CompactS
import Derived.Shelf.Slices.In.SortNone
import Derived.Sort.OwnSorted
import Derived.LoopNIn
namespace Go.Proofs.YtpeecnpmcbnahaaGreatDoor
open Go.RowKit Go.Shelf
set_option maxRecDepth 100000
set_option linter.unusedVariables false
def ajT:Ren where
 f:=fun
  |190=>241
  |125=>279
  |258=>278
  |128=>303
  |129=>304
  |302=>294
  |303=>295
  |304=>296
  |305=>297
  |306=>298
  |307=>299
  |308=>300
  |309=>301
  |310=>302
  |333=>315
  |329=>316
  |330=>317
  |334=>318
  |335=>319
  |336=>320
  |344=>324
  |n=>n
 t:=fun
  |31=>22
  |9=>9
  |3=>3
  |46=>255
  |0=>0
  |51=>299
  |53=>209
  |4=>4
  |183=>292
  |182=>291
  |131=>187
  |5=>5
  |218=>304
  |222=>308
  |228=>315
  |229=>316
  |n=>n
 g:=λn=>n
theorem Vu:Lays.n190 Tryz.prog ajT:=by
 constructor<;>first|kernel_rfl|(intro w;rfl)
def alx:Ren where
 f:=fun
  |194=>242
  |n=>n
 t:=fun
  |31=>22
  |n=>n
 g:=λn=>n
theorem Vm:Lays.n194 Tryz.prog alx:=by
 constructor<;>first|kernel_rfl|(intro w;rfl)
def lh(ss:apf apg):apf (apf UInt8):=(ss.map bL).mergeSort λx y=>decide (x<=y)
def jC(ss:apf apg):apf apg:=(Lib.compact (lh ss)).map λl=>⟨l.toArray⟩
theorem Wo(ss:apf apg):(lh ss).length=ss.length:=by unfold lh;rw[List.length_mergeSort,aow]
theorem adr(p:aph Addr)(cap:Nat)(w:apk):Calls Tryz.prog 180 #[.slice p 0 cap] w λe w'=>e= .returned (.slice p 0 cap)/\w'=w:=by
 have J:Calls Tryz.prog 241 #[.slice p 0 cap] w λe w'=>e= .returned (.tuple #[])/\w'=w:=Any.slices_Sort_string_none Vu p cap w;have h2:Calls Tryz.prog 242 #[.slice p 0 cap] w λe w'=>e= .returned (.slice p 0 cap)/\w'=w:=Any.slices_Compact_string_empty Vm p cap w
 go_enter Tryz.func180,Tryz.ntmps180
 go_wp2_with (first|(go_at_call 241;refine J.mono ?_;rintro e w' ⟨rfl,rfl⟩)|(go_at_call 242;refine h2.mono ?_;rintro e w' ⟨rfl,rfl⟩))
 go_ret
 exact⟨rfl,rfl⟩
theorem aob{w:apk}{g:Nat}{cur:Array apj}{e:TypeId}{fr:Nat×Nat}(hb:w.heap[g]?=some (.cells cur e fr))(i:Nat):w.cell? ⟨g,i,none⟩=cur[i]?:=by
 simp only[World.cell?,hb,Option.isSome_none,Bool.false_eq_true,if_false]
theorem aaR(zs:apf (apf UInt8)):(Lib.compact zs).length<=zs.length:=by
 have h:∀m,(Lib.compactUpTo zs.toArray m).length<=m:=by
  intro m
  induction m with
  |zero=>exact aoC _
  |succ m ih=>
   rw[Lib.compactUpTo_succ,aos];split
   ·simp only[aou,aoD];omega
   ·simp only[aoD];omega
 exact h zs.length
theorem adz(g cap:Nat)(ss:apf apg)(cur:Array apj)(w:apk)(hb:w.heap[g]?=some (.cells cur 9 (0,0)))(ht:cur.toList.take ss.length=(ss.map bL).map encStr)(hc:cur.size=cap)(jV:ss.length<=cap)(hm:cap<=maxLen)(iq:ss.length<4611686018427387904):
 Calls Tryz.prog 180 #[.slice (some ⟨g,0,none⟩) ss.length cap] w λe w'=>e= .returned (.slice (some ⟨g,0,none⟩) (jC ss).length cap)/\w.grownBy w' (some g)/\∀(i:Nat)(s:apg),(jC ss)[i]?=some s->w'.cell? ⟨g,i,none⟩=some (.string s):=by
 have hg:g<w.heap.size:=(aoG.1 hb).1;have hzl:=Wo ss;obtain⟨SW,WG⟩:∃SW:apk->Prop,SW=λw'=>∃n os,w'=Sort.grow (Sort.putRow encStr (Sort.ahead w n) g 0 (lh ss).toArray) os:=⟨_,rfl⟩;have J:Calls Tryz.prog 241 #[.slice (some ⟨g,0,none⟩) ss.length cap] w λe w'=>e= .returned (.tuple #[])/\SW w':=by
  have h:=Any.slices_Sort_string Vu g 0 cap (ss.map bL) w (holds_of_block hb (by rw[aow];exact ht)) hg (by rw[aow];exact iq);rw[aow]at h;rw[WG];exact h
 have h2:∀w1,SW w1->Calls Tryz.prog 242 #[.slice (some ⟨g,0,none⟩) ss.length cap] w1 λe w'=>e= .returned (.slice (some ⟨g,0,none⟩) (jC ss).length cap)/\(w.grownBy w' (some g)/\∀(i:Nat)(s:apg),(jC ss)[i]?=some s->w'.cell? ⟨g,i,none⟩=some (.string s)):=by
  intro w1 hw;rw[WG]at hw;obtain⟨n,os,rfl⟩:=hw;have iL:=heap_sorted (n:=n) (os:=os) (lh ss).toArray hb;have zS:=grownBy_sorted (w:=w) (g:=g) (n:=n) (os:=os) (lh ss).toArray;have fg:(Sort.putCells encStr 0 (lh ss).toArray cur).size=cur.size:=by simp [Sort.putCells]
  have ht1:=take_putCells cur (lh ss) (by omega);generalize Sort.grow (Sort.putRow encStr (Sort.ahead w n) g 0 (lh ss).toArray) os=w1 at*;generalize Sort.putCells encStr 0 (lh ss).toArray cur=abP at*;have h:=Any.slices_Compact_string Vm g 0 cap (lh ss) w1 (holds_of_block iL ht1) (by unfold maxLen at hm;omega) (by omega);rw[hzl]at h;refine h.mono λe w' hp=> ?_;obtain⟨rfl,q,rfl⟩:=hp;have hk:(jC ss).length=(Lib.compact (lh ss)).length:=by unfold jC;rw[aow]
  refine⟨by rw[hk],?_⟩;obtain⟨ys,jO⟩:∃ys,ys=Lib.compact (lh ss)++List.replicate (ss.length-(Lib.compact (lh ss)).length) []:=⟨_,rfl⟩;rw[<-jO];have py:ys.length<=abP.size:=by
   have:=aaR (lh ss);rw[jO,aos,ao1];omega
  have zq:=grownBy_sorted (w:=w1) (g:=g) (n:=q) (os:= #[]) ys.toArray;have jZ:=heap_sorted (n:=q) (os:= #[]) ys.toArray iL;rw[Sort.grow_empty]at zq jZ;have ht2:=take_putCells abP ys py;refine⟨⟨zq.os.trans zS.os,zq.tape.trans zS.tape,zq.output.trans zS.output,aoJ zS.size zq.size,λk hk cE=>(zq.block k (aoP hk zS.size) cE).trans (zS.block k hk cE)⟩,λi s hi=> ?_⟩;rw[aob jZ i];unfold jC at hi;rw[aoy]at hi;cases hq:(Lib.compact (lh ss))[i]? with
  |none=>rw[hq]at hi;cases hi
  |some l=>
   rw[hq]at hi;cases hi;have jR:=(aor.1 hq).1;have hy:ys[i]?=some l:=by rw[jO,aoB jR];exact hq
   have:=congrArg (λl:apf apj=>l[i]?) ht2;rw[List.getElem?_take_of_lt (aor.1 hy).1,aoy,hy,aoO]at this;exact this
 go_enter Tryz.func180,Tryz.ntmps180
 go_wp2_with (first|(go_at_call 241;refine J.mono ?_;rintro e w1 ⟨rfl,AK⟩)|(go_at_call 242;refine(h2 _ AK).mono ?_;rintro e w2 ⟨rfl,Ql⟩))
 go_ret
 exact⟨rfl,Ql⟩
theorem ag1:jC []=[]:=by kernel_rfl
theorem Xz{G:Gh}{w:apk}{B:aq}(hi:bN G w [B]):bN G w [.gone]:=by
 refine⟨hi.len,hi.z,hi.S,λn C hC=> ?_,λm n b J h2=> ?_,hi.gl⟩
 ·match n,hC with
  |0,hC=>cases hC;exact trivial
  |n+1,hC=>simp at hC
 ·match m,J with
  |0,J=>cases J
  |m+1,J=>simp [bK]at J
theorem anK{xs:apf apg}{L:Nat}(hL:xs.length=L)(iq:L<4611686018427387904):
 cO Tryz.prog 180 [.vec 0 0 L L 1] [.vec 9 1 (cd (dS xs))] λr1 J=>r1= .d (.sl (dS (jC xs)))/\J=[.gone]:=by
 refine⟨by kernel_rfl,λG w vs hinv hvs hr=> ?_⟩;have mw:([aq.vec 9 1 (cd (dS xs))]:apf aq)[0]?=some (.vec 9 1 (cd (dS xs))):=rfl;have pK:(cd (dS xs)).length=L:=by rw[ES,jX,hL]
 obtain⟨v0,rfl⟩:∃v0,vs= #[v0]:=by
  obtain⟨l⟩:=vs
  match l,hvs with
  |[a],_=>exact⟨a,rfl⟩
 have r0:=hr 0 v0 _ rfl rfl;obtain⟨AE,⟨A,cc,rfl,q2,q3,q4,q5⟩,_⟩:=r0.vc hinv mw pK;by_cases h0:L=0
 ·subst h0;obtain rfl:xs=[]:=List.eq_nil_of_length_eq_zero hL;refine(adr A cc w).mono λe w' hp=> ?_;obtain⟨rfl,rfl⟩:=hp;refine⟨_,G,_,_,rfl,bM.refl _ _ _,aoC _,Xz hinv,?_,rfl,rfl⟩;rw[ag1];exact .d (.sl A 0 0 cc 1 [] (λ_ _=>undef) (λh=>absurd rfl h) (Nat.zero_le _) q3 (λ_ h=>by cases h) (λ_ _ h=>absurd h (aoT _)) λ_ _ _ _ h=>by simp at h)
 ·obtain⟨g,cap,s1,rfl,s3⟩:=q5 (by omega);obtain⟨g',Fm,cur,t1,t2,t3,t4,t5,t6,t7,t8,t9⟩:=Gp hinv mw (λe=>by rw[e]at pK;simp at pK;omega);rw[t2,pK]at s1;cases s1
  have hcc:cc=cap:=by omega
  subst hcc;rw[pK]at t5;rw[Nat.mul_one]at t7;have hg:g<w.heap.size:=(aoG.1 t4).1;have ht:cur.toList.take xs.length=(xs.map bL).map encStr:=by
   apply List.ext_getElem?;intro j;by_cases hj:j<xs.length
   ·have hx:xs[j]?=some xs[j]:=aov hj;have hcj:j<cur.size:=by omega
    have hu:cur[j*1+0]?=some cur[j]:=by rw[Nat.mul_one,Nat.add_zero];exact aoN hcj
    have:=(t9 j 0 [.d (.v (.string xs[j]))] (.d (.v (.string xs[j]))) cur[j] (P3 (tg hx)) rfl hu).val;rw[List.getElem?_take_of_lt hj,aoO,aoN hcj,this,aoy,aoy,hx];rfl
   ·rw[List.getElem?_take_eq_none (by omega),aoX (by simp;omega)]
  have hw:=adz g cc xs cur w t4 ht t7 (by omega) t6 (by omega);rw[hL]at hw;rw[show(⟨g,0*1,none⟩:Addr)=⟨g,0,none⟩from rfl];refine hw.mono λe w' hp=> ?_;obtain⟨rfl,gb,ie⟩:=hp;have hK:(jC xs).length<=L:=by
   have:=aaR (lh xs);rw[Wo]at this;unfold jC;rw[aow];omega
  have hE:bM G.N G w (G.qf g (jC xs).length) w':=
   ⟨gb.size,λ_ _ h=> .inl h,λb o hs=>by
    have cE:some b≠some g:=λe=>by cases e;exact t8 o hs
    unfold World.cell?;rw[gb.block b (hinv.S b o hs) cE],λ_ _=>rfl,λ_ _=> .inl ⟨rfl,rfl⟩,zsame rfl,λb hb=>gb.block b (hinv.z b hb) (λe=>by cases e;exact t3 hb),gb.os,gb.tape,gb.output,λb o hs=>hs.imp id fun⟨e,_⟩ hz=>t3 (e▸hz)⟩
  have hI:bN (G.qf g (jC xs).length) w' [.gone]:=by
   have hi:=Xz hinv;refine⟨hi.len,λb hb=>aoP (hi.z b hb) gb.size,λb o hs=> ?_,λn C hC=> ?_,λm n b J h2=> ?_,hi.gl.keep hE⟩
   ·rcases hs with hs|⟨rfl,_⟩
    ·exact aoP (hi.S b o hs) gb.size
    ·exact aoP hg gb.size
   ·match n,hC with
    |0,hC=>cases hC;exact trivial
    |n+1,hC=>simp at hC
   ·match m,J with
    |0,J=>cases J
    |m+1,J=>simp [bK]at J
  have xr:Rd (G.qf g (jC xs).length).S w' 1 (dS (jC xs)) ((jC xs).map Value.string):=
   ⟨by rw[aow,jX,Nat.mul_one],λx hx=>(by rw[nj]at hx;obtain⟨y,_,rfl⟩:=List.mem_map.1 hx;rfl),λu hu=>(by obtain⟨y,_,rfl⟩:=List.mem_map.1 hu;rfl),λi j x d hx hd=>by
    rw[nj,aoy]at hx;cases hk:(jC xs)[i]? with
    |none=>rw[hk]at hx;cases hx
    |some y=>
     rw[hk]at hx;cases hx;cases j with
     |zero=>cases hd;exact⟨.string y,by rw[Nat.mul_one,Nat.add_zero,aoy,hk];rfl, .v _⟩
     |succ j=>cases hd⟩
  have hp:=xr.CT g cc (by rw[jX];omega) t6 (λo ho=> .inr ⟨rfl,by rw[jX,Nat.mul_one]at ho;exact ho⟩) (λo u hu=>by
   rw[aoy]at hu;cases hq:(jC xs)[o]? with
   |none=>rw[hq]at hu;cases hu
   |some y=>rw[hq]at hu;cases hu;exact ie o y hq)
  rw[jX]at hp;exact⟨_,_,_,_,rfl,hE,aoC _,hI, .d hp,rfl,rfl⟩
end Go.Proofs.YtpeecnpmcbnahaaGreatDoor
namespace Go.Proofs.YtpeecnpmcbnahaaGreatDoor
open Go.RowKit
set_option linter.unusedSimpArgs false
set_option linter.unusedVariables false
structure DL{α:Type}(f:List α->List (List D))(k:Nat):Prop where
 len:∀l,(f l).length=l.length
 all:∀l,∀c∈f l,c.length=k
 app:∀a b,f a++f b=f (a++b)
section
variable {P:api} {α:Type} {f:apf α->apf (apf D)} {k cW:Nat}
theorem Mb{n:Nat}(hb:0<cW)(h:Nat.ble (n*cW) 140737488355328=true):n<=maxLen/\n*cW<=140737488355328:=by
 have J:=aoz h;have h2:n*1<=n*cW:=Nat.mul_le_mul_left n hb;refine⟨?_,J⟩;unfold maxLen;omega
def oA(F:DL f k)(A B:apf α)(h:Nat.ble ((A.length+B.length)*cW) 140737488355328=true)(hb:0<cW:=by decide):Ob P:=
 ⟨_,_, .app (xs:=f A) (ys:=f B) (zs:=f (A++B)) (len:=A.length) (n:=(A++B).length) (F.len A).symm (F.all A) (F.all B) (by rw[F.len,F.len];exact(Mb hb h).1) (by rw[F.len,F.len];exact(Mb hb h).2) (F.app A B) (by rw[F.len,F.len,aos])⟩
def oZ(F:DL f k)(B:apf α)(h:Nat.ble ((0+B.length)*cW) 140737488355328=true)(hb:0<cW:=by decide):Ob P:=
 ⟨_,_, .app (xs:=[]) (ys:=f B) (zs:=f B) (len:=0) (n:=B.length) rfl (λ_ hc=>absurd hc ao7) (F.all B) (by rw[F.len];exact(Mb hb h).1) (by rw[F.len];exact(Mb hb h).2) rfl (by rw[F.len];exact aoL _)⟩
end
section
variable {P:api} {f:FuncId} {eV:apf AV} {H H':apf aq} {r:AV}
def oQ(mg:apf AV)(h:apf aq)(l:apf Nat)(hc:cO P f eV H λr1 J=>r1=r/\J=H)(ha:mg=eV.map (AV.aK (rn l 0)):=by kernel_rfl)(hd:pO l=true:=by kernel_rfl)(hb:l.map (λj=>h[j]?)=H.map (λB=>some (B.aK (rn l 0))):=by kernel_rfl)(hl:(eV.all (AV.aE H.length)&&H.all (aq.aE H.length)&&r.aE H.length)=true:=by kernel_rfl):Ob P:=⟨_,_, .rq ha hd hb hl hc⟩
def oR(mg:apf AV)(h:apf aq)(l:apf Nat)(hc:cO P f eV H λr1 J=>r1=r/\J=H')(ha:mg=eV.map (AV.aK (rn l h.length)):=by kernel_rfl)(hd:pO l=true:=by kernel_rfl)(hb:l.map (λj=>h[j]?)=H.map (λB=>some (B.aK (rn l h.length))):=by kernel_rfl)(hl:(eV.all (AV.aE H.length)&&H.all (aq.aE H.length))=true:=by kernel_rfl):Ob P:=⟨_,_, .nJ ha hd hb hl hc⟩
def oX(ue:VD H)(hv:VD H')(mg:apf AV)(h:apf aq)(l:apf Nat)(hc:cO P f eV H λr1 J=>r1=r/\J=H')(ha:mg=eV.map (AV.aK (rn l h.length)):=by kernel_rfl)(hd:pO l=true:=by kernel_rfl)(hb:l.map (λj=>h[j]?)=H.map (λB=>some (B.qG (rn l h.length))):=by kernel_rfl)(hl:(eV.all (AV.aE H.length)&&H.all (aq.vj H.length))=true:=by kernel_rfl):Ob P:=⟨_,_, .MV ue hv ha hd hb hl hc⟩
end
section
variable {P:api} {r:aph Nat} {N0:Nat} {Q:Exit->St->Prop} {w0:WO}
theorem Iu{α:Type}{f:apf α->apf (apf D)}{z:Nat}(F:DL f z)(k:Nat)(l:apf α)(h:l.length<=maxLen->GW P r N0 Q w0)(hx:(bn (wS w0).t k).fI=some (f l):=by kernel_rfl):GW P r N0 Q w0:=
 adv k (f l) hx λe=>h (Ag (F.len l) e)
theorem anc{α:Type}{f:apf α->apf (apf D)}{z:Nat}(F:DL f z)(b i:Nat)(l:apf α)(h:l.length<=maxLen->GW P r N0 Q w0)(hx:(((wS w0).h[b]?).bind λB=>match B with| .cells cs=>(cs[i]?).bind AV.fI|_=>none)=some (f l):=by kernel_rfl):GW P r N0 Q w0:=
 SX b i (f l) hx λe=>h (Ag (F.len l) e)
structure oy{α ι R:Type}(k:Nat)(live:List Nat)(m:Nat)(L:List α)(st:Nat->ι->St)(G:List α->Nat->ι->Option R)(rr:R)(n:Nat)(x:α)(l:List α)(i:ι)(f:St->Prop):Prop where
 h:HH k live m (λz:Nat×List α×ι=>st z.1 z.2.2) (λz=>L.drop z.1=z.2.1/\G z.2.1 z.1 z.2.2=some rr) (λz=>z.2.1.length) (n,x::l,i) f
structure uw{ι R:Type}(k:Nat)(live:List Nat)(m:Nat)(st:ι->St)(G:Nat->ι->Option R)(rr:R)(d:Nat)(f:St->Prop):Prop where
 h:∀i,HH k live m (λz:Nat×ι=>st z.2) (λz=>G z.1 z.2=some rr) (λz=>z.1) (d+1,i) f
theorem Hh(hm:P.follows .mixedOrders=true){α ι R:Type}{rr:R}(k:Nat)(ay:apf (apf (Nat×Ob P)))(live:apf Nat)(m:Nat)(L:apf α)(st:Nat->ι->St)(G:apf α->Nat->ι->aph R)(i0:ι)(hI:G L 0 i0=some rr)
 (nil:∀n i,L.drop n=[]->G [] n i=some rr->∀f:St->Prop,GW P r N0 Q (iv k f (st n i) (wk P w0 ay)))
 (cons:∀n x l i,L.drop n=x::l->G (x::l) n i=some rr->∀f:St->Prop,oy k live m L st G rr n x l i f->GW P r N0 Q (iv k f (st n i) (wk P w0 ay)))
 (hN:N0<=m) (e:lF live m (wk P w0 ay)=some (st 0 i0,dW ay)):GW P r N0 Q w0:=by
 refine Rh hm k ay live m (λz:Nat×apf α×ι=>st z.1 z.2.2) (λz=>L.drop z.1=z.2.1/\G z.2.1 z.1 z.2.2=some rr) (λz=>z.2.1.length) (0,L,i0) ⟨rfl,hI⟩ (λz hz f hf=> ?_) hN e;obtain⟨n,l,i⟩:=z;obtain⟨J,h2⟩:=hz;cases l with
 |nil=>exact nil n i J h2 f
 |cons x l=>exact cons n x l i J h2 f ⟨hf⟩
theorem akv(hm:P.follows .mixedOrders=true){α ι R:Type}{rr:R}{live:apf Nat}{m k:Nat}{L:apf α}{st:Nat->ι->St}{G:apf α->Nat->ι->aph R}{n:Nat}{x:α}{l:apf α}{i:ι}{f:St->Prop}(hf:oy k live m L st G rr n x l i f)(j:ι)(ay:apf (apf (Nat×Ob P)))(hd:L.drop n=x::l)(hI:G l (n+1) j=some rr)(e1:kJ k (wK w0)=[f])(e:qj k live m (wk P w0 ay)=some (st (n+1) j,dW ay)):GW P r N0 Q w0:=
 R1 hm hf.h (n+1,l,j) ay ⟨ma hd,hI⟩ (apd _) e1 e
theorem VJ(hm:P.follows .mixedOrders=true){ι R:Type}{rr:R}(k:Nat)(ay:apf (apf (Nat×Ob P)))(live:apf Nat)(m:Nat)(st:ι->St)(G:Nat->ι->aph R)(d:Nat)(i0:ι)(hI:G d i0=some rr)(h0:∀i,G 0 i=none)
 (succ:∀d i,G (d+1) i=some rr->∀f:St->Prop,uw k live m st G rr d f->GW P r N0 Q (iv k f (st i) (wk P w0 ay)))
 (hN:N0<=m) (e:lF live m (wk P w0 ay)=some (st i0,dW ay)):GW P r N0 Q w0:=by
 refine Rh hm k ay live m (λz:Nat×ι=>st z.2) (λz=>G z.1 z.2=some rr) (λz=>z.1) (d,i0) hI (λz hz f hf=> ?_) hN e;obtain⟨d,i⟩:=z;cases d with
 |zero=>exact absurd ((h0 i).symm.trans hz) (by simp)
 |succ d=>exact succ d i hz f ⟨λj=>⟨λs' i' J h2 h3=>hf.h s' i' J h2 h3⟩⟩
theorem al7(hm:P.follows .mixedOrders=true){ι R:Type}{rr:R}{live:apf Nat}{m k:Nat}{st:ι->St}{G:Nat->ι->aph R}{d:Nat}{f:St->Prop}(hf:uw k live m st G rr d f)(j:ι)(ay:apf (apf (Nat×Ob P)))(hI:G d j=some rr)(e1:kJ k (wK w0)=[f])(e:qj k live m (wk P w0 ay)=some (st j,dW ay)):GW P r N0 Q w0:=
 R1 hm (hf.h j) (d,j) ay hI (apd _) e1 e
theorem RH{P:api}{f:FuncId}{fn:Func}{args:apf AV}{R:AV}(hf:P.funcs[f]?=some fn)(hw:GW P none 0 (kS P fn R) (zg fn args []))(hb:fn.body.isSome=true:=by kernel_rfl)(hn:(fn.name== "runtime.NumGoroutine")=false:=by kernel_rfl):ga P f args (·=R):=aje hf hb hn hw
theorem Cn{P:api}{f:FuncId}{fn:Func}{args:apf AV}{h H:apf aq}{R:AV}(m:Nat)(hf:P.funcs[f]?=some fn)(hw:GW P none h.length (tR P fn m R H) (zg fn args h))(hb:fn.body.isSome=true:=by kernel_rfl)(hn:(fn.name== "runtime.NumGoroutine")=false:=by kernel_rfl)(hm:h.length<=m:=by exact aoz rfl):cO P f args h λr1 J=>r1=R/\J=H:=amX m hf hb hn hm hw
variable {α A B C D' R:Type} {rr:R}
theorem wl0(hm:P.follows .mixedOrders=true)(k:Nat)(ay:apf (apf (Nat×Ob P)))(live:apf Nat)(m:Nat)(L:apf α)(st:Nat->St)(G:apf α->Nat->aph R)(hI:G L 0=some rr)
 (nil:∀n,L.drop n=[]->G [] n=some rr->∀f:St->Prop,GW P r N0 Q (iv k f (st n) (wk P w0 ay)))
 (cons:∀n x l,L.drop n=x::l->G (x::l) n=some rr->∀f:St->Prop,oy k live m L (λn(_:Unit)=>st n) (λl n _=>G l n) rr n x l () f->GW P r N0 Q (iv k f (st n) (wk P w0 ay)))
 (hN:N0<=m:=by exact aoz rfl) (e:lF live m (wk P w0 ay)=some (st 0,dW ay):=by kernel_rfl):GW P r N0 Q w0:=
 Hh hm k ay live m L (λn(_:Unit)=>st n) (λl n _=>G l n) () hI (λn _=>nil n) (λn x l _=>cons n x l) hN e
theorem NQ(hm:P.follows .mixedOrders=true)(k:Nat)(ay:apf (apf (Nat×Ob P)))(live:apf Nat)(m:Nat)(L:apf α)(st:Nat->A->St)(G:apf α->Nat->A->aph R)(a0:A)(hI:G L 0 a0=some rr)
 (nil:∀n a,L.drop n=[]->G [] n a=some rr->∀f:St->Prop,GW P r N0 Q (iv k f (st n a) (wk P w0 ay)))
 (cons:∀n x l a,L.drop n=x::l->G (x::l) n a=some rr->∀f:St->Prop,oy k live m L st G rr n x l a f->GW P r N0 Q (iv k f (st n a) (wk P w0 ay)))
 (hN:N0<=m:=by exact aoz rfl) (e:lF live m (wk P w0 ay)=some (st 0 a0,dW ay):=by kernel_rfl):GW P r N0 Q w0:=
 Hh hm k ay live m L st G a0 hI nil cons hN e
theorem wl2(hm:P.follows .mixedOrders=true)(k:Nat)(ay:apf (apf (Nat×Ob P)))(live:apf Nat)(m:Nat)(L:apf α)(st:Nat->A->B->St)(G:apf α->Nat->A->B->aph R)(a0:A)(b0:B)(hI:G L 0 a0 b0=some rr)
 (nil:∀n a b,L.drop n=[]->G [] n a b=some rr->∀f:St->Prop,GW P r N0 Q (iv k f (st n a b) (wk P w0 ay)))
 (cons:∀n x l a b,L.drop n=x::l->G (x::l) n a b=some rr->∀f:St->Prop,oy k live m L (λn(i:A×B)=>st n i.1 i.2) (λl n i=>G l n i.1 i.2) rr n x l (a,b) f->GW P r N0 Q (iv k f (st n a b) (wk P w0 ay)))
 (hN:N0<=m:=by exact aoz rfl) (e:lF live m (wk P w0 ay)=some (st 0 a0 b0,dW ay):=by kernel_rfl):GW P r N0 Q w0:=
 Hh hm k ay live m L (λn(i:A×B)=>st n i.1 i.2) (λl n i=>G l n i.1 i.2) (a0,b0) hI (λn i=>nil n i.1 i.2) (λn x l i=>cons n x l i.1 i.2) hN e
theorem wl3(hm:P.follows .mixedOrders=true)(k:Nat)(ay:apf (apf (Nat×Ob P)))(live:apf Nat)(m:Nat)(L:apf α)(st:Nat->A->B->C->St)(G:apf α->Nat->A->B->C->aph R)(a0:A)(b0:B)(c0:C)(hI:G L 0 a0 b0 c0=some rr)
 (nil:∀n a b c,L.drop n=[]->G [] n a b c=some rr->∀f:St->Prop,GW P r N0 Q (iv k f (st n a b c) (wk P w0 ay)))
 (cons:∀n x l a b c,L.drop n=x::l->G (x::l) n a b c=some rr->∀f:St->Prop,oy k live m L (λn(i:A×B×C)=>st n i.1 i.2.1 i.2.2) (λl n i=>G l n i.1 i.2.1 i.2.2) rr n x l (a,b,c) f->GW P r N0 Q (iv k f (st n a b c) (wk P w0 ay)))
 (hN:N0<=m:=by exact aoz rfl) (e:lF live m (wk P w0 ay)=some (st 0 a0 b0 c0,dW ay):=by kernel_rfl):GW P r N0 Q w0:=
 Hh hm k ay live m L (λn(i:A×B×C)=>st n i.1 i.2.1 i.2.2) (λl n i=>G l n i.1 i.2.1 i.2.2) (a0,b0,c0) hI (λn i=>nil n i.1 i.2.1 i.2.2) (λn x l i=>cons n x l i.1 i.2.1 i.2.2) hN e
theorem wb(hm:P.follows .mixedOrders=true){ι:Type}{live:apf Nat}{m k:Nat}{L:apf α}{st:Nat->ι->St}{G:apf α->Nat->ι->aph R}{n:Nat}{x:α}{l:apf α}{i:ι}{f:St->Prop}(hf:oy k live m L st G rr n x l i f)(j:ι)(ay:apf (apf (Nat×Ob P)))(hd:L.drop n=x::l)(hI:G l (n+1) j=some rr)(e1:kJ k (wK w0)=[f]:=by kernel_rfl)(e:qj k live m (wk P w0 ay)=some (st (n+1) j,dW ay):=by kernel_rfl):GW P r N0 Q w0:=akv hm hf j ay hd hI e1 e
theorem wf1(hm:P.follows .mixedOrders=true)(k:Nat)(ay:apf (apf (Nat×Ob P)))(live:apf Nat)(m:Nat)(st:A->St)(G:Nat->A->aph R)(d:Nat)(a0:A)(hI:G d a0=some rr)
 (succ:∀d a,G (d+1) a=some rr->∀f:St->Prop,uw k live m st G rr d f->GW P r N0 Q (iv k f (st a) (wk P w0 ay))) (h0:∀a,G 0 a=none:=by intros;rfl)
 (hN:N0<=m:=by exact aoz rfl) (e:lF live m (wk P w0 ay)=some (st a0,dW ay):=by kernel_rfl):GW P r N0 Q w0:=
 VJ hm k ay live m st G d a0 hI h0 succ hN e
theorem wf2(hm:P.follows .mixedOrders=true)(k:Nat)(ay:apf (apf (Nat×Ob P)))(live:apf Nat)(m:Nat)(st:A->B->St)(G:Nat->A->B->aph R)(d:Nat)(a0:A)(b0:B)(hI:G d a0 b0=some rr)
 (succ:∀d a b,G (d+1) a b=some rr->∀f:St->Prop,uw k live m (λ(i:A×B)=>st i.1 i.2) (λd i=>G d i.1 i.2) rr d f->GW P r N0 Q (iv k f (st a b) (wk P w0 ay))) (h0:∀a b,G 0 a b=none:=by intros;rfl)
 (hN:N0<=m:=by exact aoz rfl) (e:lF live m (wk P w0 ay)=some (st a0 b0,dW ay):=by kernel_rfl):GW P r N0 Q w0:=
 VJ hm k ay live m (λ(i:A×B)=>st i.1 i.2) (λd i=>G d i.1 i.2) d (a0,b0) hI (λi=>h0 i.1 i.2) (λd i=>succ d i.1 i.2) hN e
theorem wbf(hm:P.follows .mixedOrders=true){ι:Type}{live:apf Nat}{m k:Nat}{st:ι->St}{G:Nat->ι->aph R}{d:Nat}{f:St->Prop}(hf:uw k live m st G rr d f)(j:ι)(ay:apf (apf (Nat×Ob P)))(hI:G d j=some rr)(e1:kJ k (wK w0)=[f]:=by kernel_rfl)(e:qj k live m (wk P w0 ay)=some (st j,dW ay):=by kernel_rfl):GW P r N0 Q w0:=al7 hm hf j ay hI e1 e
def yS(g:Nat)(t:aph Nat):apf Oper->Nat->apf Nat
 |[],_=>[]
 |o::l,j=>match o.guard with
  |some (g',_)=>bif g'==g then(3*j)::yS g t l (j+1)else yS g t l (j+1)
  |none=>match o.op,t with
   | .pick (.tmp c) _ _,some t'=>bif c==t' then(3*j+1)::yS g t l (j+1)else yS g t l (j+1)
   |_,_=>yS g t l (j+1)
def agr(l:apf Oper)(g:Nat):aph Nat:=match l[g]? with
 |some o=>o.dst
 |none=>none
def HB:WO->apf Oper
 |some (.at (.region _ ops _) _ _,_)=>ops.toList
 |_=>[]
noncomputable def KK(ops:apf Oper)(sp si:apf (Nat×Ob P)):apf (Nat×Ob P):=so (sp.foldr (λx t=>os (yS x.1 (agr ops x.1) ops 0) x.2 t) si)
theorem C5(hm:P.follows .mixedOrders=true)(Δ:apf (Nat×AV))(h':apf aq)(e:∃sp si:apf (Nat×Ob P),Jg P (Δ.map (·.1)) (iY (KK (HB (wk P w0 [])) sp si)) (wk P w0 [])=some (Δ,h',jv (KK (HB (wk P w0 [])) sp si)))(k:GW P r N0 Q (tM Δ h' (wk P w0 [])))(e0:tk (wk P w0 [])=some []:=by kernel_rfl):GW P r N0 Q w0:=
 amW hm Δ h' (let ⟨_,_,h⟩:=e;⟨_,h⟩) k e0
theorem wj0(hm:P.follows .mixedOrders=true)(rr:R)(k:Nat)(ay:apf (apf (Nat×Ob P)))(live:apf Nat)(m:Nat)(st:St)(G:aph R)
 (br:∀f:St->Prop,Bk k live m (λ(_:Unit)=>st) (λ_=>G=some rr) f->GW P r N0 Q (L5 k f (wk P w0 ay)))
 (rest:G=some rr->GW P r N0 Q (KA st (wk P w0 ay))) (hN:N0<=m:=by exact aoz rfl) (e:FT (wk P w0 ay)=some (dW ay):=by kernel_rfl):GW P r N0 Q w0:=
 Q5 hm k ay live m (λ(_:Unit)=>st) (λ_=>G=some rr) br (λ_=>rest) hN e
theorem FN(hm:P.follows .mixedOrders=true)(rr:R)(k:Nat)(ay:apf (apf (Nat×Ob P)))(live:apf Nat)(m:Nat)(st:A->St)(G:A->aph R)
 (br:∀f:St->Prop,Bk k live m st (λa=>G a=some rr) f->GW P r N0 Q (L5 k f (wk P w0 ay)))
 (rest:∀a,G a=some rr->GW P r N0 Q (KA (st a) (wk P w0 ay))) (hN:N0<=m:=by exact aoz rfl) (e:FT (wk P w0 ay)=some (dW ay):=by kernel_rfl):GW P r N0 Q w0:=
 Q5 hm k ay live m st (λa=>G a=some rr) br rest hN e
def tr(i j n:Nat):Nat:=bif n==i then j else bif n==j then i else n
theorem aa1(i j n:Nat):tr i j (tr i j n)=n:=by
 unfold tr;cases J:n==i with
 |true=>
  rw[beq_iff_eq]at J;subst J;simp only[cond_true];cases h2:j==n with
  |true=>rw[beq_iff_eq]at h2;subst h2;rfl
  |false=>rw[apa];rfl
 |false=>
  simp only[cond_false];cases h2:n==j with
  |true=>rw[beq_iff_eq]at h2;subst h2;simp only[cond_true];rw[apa];rfl
  |false=>simp only[cond_false];rw[J,h2];rfl
theorem VW{i j n k:Nat}(hi:i<k)(hj:j<k)(hn:n<k):tr i j n<k:=by
 unfold tr;cases n==i with
 |true=>exact hj
 |false=>cases n==j with
  |true=>exact hi
  |false=>exact hn
def Rr(i j:Nat)(h:apf aq):apf aq:=match h[i]?,h[j]? with
 |some a,some b=>((h.set i b).set j a).map (aq.aK (tr i j))
 |_,_=>h
def Y6(i j:Nat)(s:St):St:=⟨s.n,s.t.map (λp=>(p.1,p.2.aK (tr i j))),Rr i j s.h⟩
theorem TJ(f:AV->AV)(hf:f .dead= .dead):∀(t:apf (Nat×AV))(i:Nat),bn (t.map λp=>(p.1,f p.2)) i=f (bn t i)
 |[],i=>by rw[List.map_nil];show AV.dead=f .dead;rw[hf]
 |(k,x)::t,i=>by
  rw[aoQ,k8,k8,TJ f hf t i];by_cases h:i=k
  ·rw[if_pos h,if_pos h]
  ·rw[if_neg h,if_neg h]
theorem abK{i j:Nat}{s:St}(hi:i<s.h.length)(hj:j<s.h.length)(hNi:N0<=i)(hNj:N0<=j):iE N0 s (Y6 i j s):=by
 have ei:s.h[i]?=some s.h[i]:=aov hi;have ej:s.h[j]?=some s.h[j]:=aov hj;have eh:(Y6 i j s).h=((s.h.set i s.h[j]).set j s.h[i]).map (aq.aK (tr i j)):=by
  show Rr i j s.h=_;unfold Rr;rw[ei,ej]
 refine iE.aK (tr i j) (tr i j) rfl (by rw[eh];simp) (λn hn=>VW hi hj hn) (λn hn=>VW hi hj hn) (λn _=>aa1 i j n) (λn _=>aa1 i j n) (λn hn=> ?_) (λn _=> .inl ?_) λn hn=> ?_
 ·unfold tr;rw[show(n==i)=false from beq_eq_false_iff_ne.2 (by omega),show(n==j)=false from beq_eq_false_iff_ne.2 (by omega)];rfl
 ·exact TJ (λx=>x.aK (tr i j)) rfl s.t n
 ·rw[eh,aoy];refine congrArg (Option.map _) ?_;unfold tr;cases J:n==i with
  |true=>
   rw[beq_iff_eq]at J;subst J;simp only[cond_true];rw[aoU (by rw[List.length_set];exact hj),ei]
  |false=>
   simp only[cond_false];have ml:=beq_eq_false_iff_ne.1 J;cases h2:n==j with
   |true=>
    rw[beq_iff_eq]at h2;subst h2;simp only[cond_true];rw[aoZ (by omega),aoU hi,ej]
   |false=>
    have RC:=beq_eq_false_iff_ne.1 h2;simp only[cond_false];rw[aoZ (by omega),aoZ (by omega)]
theorem YA{c:Code}{s s':St}(h:iE N0 s s')(k:bA P r N0 c Q s'):bA P r N0 c Q s:=⟨λG w a n hs hN=>by
 obtain⟨G1,hE,gu,fg⟩:=h G w a hN hs;exact wpIn_mono (k.run G1 w a n fg gu) λ_ _ _ hn=>hn.trans hE⟩
end
theorem sk:DL dS 1:=⟨λ_=>jX,λ_=>IF,λ_ _=>ai8⟩
theorem nV:DL bw 1:=⟨λ_=>gi,λ_=>F4,λ_ _=>ajE⟩
theorem DD:DL gv 2:=⟨λ_=>lZ,λ_=>TO,λ_ _=>adl⟩
theorem yk:DL aS 2:=⟨λ_=>pL,λ_=>ajl,λ_ _=>ad7⟩
theorem zl:DL dK 2:=⟨λ_=>lH,λ_=>O4,λ_ _=>aeI⟩
theorem aic:DL oe 5:=⟨λ_=>ajB,λ_=>adf,λ_ _=>acT⟩
theorem R4:DL m7 3:=⟨λ_=>x7,λ_=>aeh,λ_ _=>aeF⟩
theorem sR:DL fV 2:=⟨λ_=>jw,λ_=>al8,λ_ _=>ahI⟩
theorem sq:DL hJ 3:=⟨λ_=>kf,λ_=>akt,λ_ _=>ad5⟩
theorem vq:DL aX 8:=⟨λ_=>gW,λ_=>J9,λ_ _=>aaB⟩
theorem YP:DL oI 1:=⟨λ_=>P7,λ_=>aiv,λ_ _=>ahF⟩
theorem Lu:DL ko 7:=⟨λ_=>pn,λ_=>aey,λ_ _=>amh⟩
theorem C1:DL eQ 4:=⟨λ_=>kQ,λ_=>agS,λ_ _=>ake⟩
theorem Fy:DL iQ 13:=⟨λ_=>qi,λ_=>af1,λ_ _=>aem⟩
theorem Fs:DL iH 22:=⟨λ_=>nw,λ_=>VR,λ_ _=>anI⟩
abbrev KF(f:FuncId)(args:apf AV)(R:AV):Prop:=ga Tryz.prog f args (·=R)
abbrev KH(f:FuncId)(args:apf AV)(h:apf aq)(R:AV)(H:apf aq):Prop:=cO Tryz.prog f args h λr1 J=>r1=R/\J=H
def KO{α:Type}(f:FuncId)(args:apf AV)(en:α->AV)(o:aph α):Prop:=∀r:α,o=some r->KF f args (en r)
def KP{α:Type}(f:FuncId)(args:apf AV)(h:apf aq)(en:α->AV)(eh:α->apf aq)(o:aph α):Prop:=∀r:α,o=some r->KH f args h (en r) (eh r)
def cK{α:Type}{f:FuncId}{args:apf AV}{en:α->AV}{o:aph α}{r:α}(k:KO f args en o)(h:o=some r):Ob Tryz.prog:=cL (k r h)
def IE{α:Type}(o:aph α)(G:α->Prop):Prop:=∀v,o=some v->G v
section
variable {α β:Type} {x:aph α} {G:α->Prop}
theorem ax{x:aph β}{f:β->aph α}(k:∀a,x=some a->IE (f a) G):IE (Option.bind x f) G:=λv h=>
 have ⟨a,J,h2⟩:=cp h
 k a J v h2
theorem dD{c:Bool}(k:c=true->IE x G):IE (bif c then x else none) G:=λv h=>
 have ⟨J,h2⟩:=vt h
 k J v h2
theorem aC{c:Bool}{a b:aph α}(t:c=true->IE a G)(f:c=false->IE b G):IE (bif c then a else b) G:=λv h=>bc h (λi j=>t i v j) λi j=>f i v j
theorem gE{α β γ:Type}{Φ:α->β->γ->Prop}{x:γ}(a:α)(b:β)(k:Φ a b x:=by kernel_rfl):IE (some x) λy=>∃a b,Φ a b y:=λv h=>sj h▸⟨a,b,k⟩
theorem dt{α β γ:Type}{Φ:α->apf β->γ->Prop}{o:aph γ}(x:β)(k:IE o λy=>∃a b,Φ a (x::b) y):IE o λy=>∃a b,Φ a b y:=λv h=>
 have ⟨a,b,c⟩:=k v h
 ⟨a,x::b,c⟩
theorem dT{α β γ:Type}{Φ:apf α->β->γ->Prop}{o:aph γ}(x:α)(k:IE o λy=>∃a b,Φ (x::a) b y):IE o λy=>∃a b,Φ a b y:=λv h=>
 have ⟨a,b,c⟩:=k v h
 ⟨x::a,b,c⟩
end
section
variable {α β:Type} {o:aph α} {x y:α} {r:aph Nat} {N0:Nat} {Q:α->Exit->St->Prop} {w0:WO}
theorem gA(ay:apf (apf (Nat×Ob Tryz.prog)))(k:IE o λq=>q=y->GW Tryz.prog r N0 (Q q) (wk Tryz.prog w0 ay))(e:tk (wk Tryz.prog w0 ay)=some (dW ay):=by kernel_rfl):IE o λq=>q=y->GW Tryz.prog r N0 (Q q) w0:=λv h q=>je ck ay (k v h q) e
theorem gR{en:α->AV}{fn:Func}(ay:apf (apf (Nat×Ob Tryz.prog)))(e:rO Tryz.prog fn.results.toList (wk Tryz.prog w0 ay)=some (en x,dW ay):=by kernel_rfl):IE (some x) λq=>q=y->GW Tryz.prog r N0 (kS Tryz.prog fn (en q)) w0:=λv h _=>sj h▸wr ck ay e
theorem gH{en:α->AV}{eh:α->apf aq}{fn:Func}{m:Nat}(ay:apf (apf (Nat×Ob Tryz.prog)))(e:KI Tryz.prog fn.results.toList m (wk Tryz.prog w0 ay)=some ((en x,eh x),dW ay):=by kernel_rfl):IE (some x) λq=>q=y->GW Tryz.prog r N0 (tR Tryz.prog fn m (en q) (eh q)) w0:=λv h _=>sj h▸nh ck ay e
theorem gG{x:aph β}{f:β->aph α}(Δ:β->apf (Nat×AV))(h':β->apf aq)(e:IE x λv=>∃sp si:apf (Nat×Ob Tryz.prog),Jg Tryz.prog ((Δ v).map (·.1)) (iY (KK (HB (wk Tryz.prog w0 [])) sp si)) (wk Tryz.prog w0 [])=some (Δ v,h' v,jv (KK (HB (wk Tryz.prog w0 [])) sp si)))(k:∀v,IE (f v) λq=>q=y->GW Tryz.prog r N0 (Q q) (tM (Δ v) (h' v) (wk Tryz.prog w0 [])))(e0:tk (wk Tryz.prog w0 [])=some []:=by kernel_rfl):IE (Option.bind x f) λq=>q=y->GW Tryz.prog r N0 (Q q) w0:=λv h q=>
 have ⟨a,J,h2⟩:=cp h
 C5 ck (Δ a) (h' a) (e a J) (k a v h2 q) e0
theorem bP{c:Bool}{b:aph α}{en:α->AV}{fn:Func}(f:c=false->IE b λq=>q=y->GW Tryz.prog r N0 (kS Tryz.prog fn (en q)) w0)(e:∀h:c=true,rO Tryz.prog fn.results.toList (wk Tryz.prog w0 [[(0,bT h)],[]])=some (en x,dW (P:=Tryz.prog) [[(0,bT h)],[]]):=by intro h;kernel_rfl):IE (bif c then some x else b) λq=>q=y->GW Tryz.prog r N0 (kS Tryz.prog fn (en q)) w0:=aC (λh=>gR [[(0,bT h)],[]] (e h)) (f)
theorem rp{c:Bool}{b:aph α}{en:α->AV}{fn:Func}(f:c=false->IE b λq=>q=y->GW Tryz.prog r N0 (kS Tryz.prog fn (en q)) w0)(e:∀h:c=true,rO Tryz.prog fn.results.toList (wk Tryz.prog w0 [[(0,bF (dH h))],[]])=some (en x,dW (P:=Tryz.prog) [[(0,bF (dH h))],[]]):=by intro h;kernel_rfl):IE (bif c then some x else b) λq=>q=y->GW Tryz.prog r N0 (kS Tryz.prog fn (en q)) w0:=aC (λh=>gR [[(0,bF (dH h))],[]] (e h)) (f)
theorem qw{c:Bool}{b:aph α}{en:α->AV}{fn:Func}(f:c=true->IE b λq=>q=y->GW Tryz.prog r N0 (kS Tryz.prog fn (en q)) w0)(e:∀h:c=false,rO Tryz.prog fn.results.toList (wk Tryz.prog w0 [[(0,bF h)],[]])=some (en x,dW (P:=Tryz.prog) [[(0,bF h)],[]]):=by intro h;kernel_rfl):IE (bif c then b else some x) λq=>q=y->GW Tryz.prog r N0 (kS Tryz.prog fn (en q)) w0:=aC (f) (λh=>gR [[(0,bF h)],[]] (e h))
theorem lS{c:Bool}{b:aph α}{en:α->AV}{fn:Func}(f:c=true->IE b λq=>q=y->GW Tryz.prog r N0 (kS Tryz.prog fn (en q)) w0)(e:∀h:c=false,rO Tryz.prog fn.results.toList (wk Tryz.prog w0 [[(0,bT (eo h))],[]])=some (en x,dW (P:=Tryz.prog) [[(0,bT (eo h))],[]]):=by intro h;kernel_rfl):IE (bif c then b else some x) λq=>q=y->GW Tryz.prog r N0 (kS Tryz.prog fn (en q)) w0:=aC (f) (λh=>gR [[(0,bT (eo h))],[]] (e h))
theorem jJ{c:Bool}{b:aph α}{en:α->AV}{fn:Func}(f:∀h:c=false,IE b λq=>q=y->GW Tryz.prog r N0 (kS Tryz.prog fn (en q)) (wk Tryz.prog w0 [[(0,bF h)],[]]))(e:∀h:c=true,rO Tryz.prog fn.results.toList (wk Tryz.prog w0 [[(0,bT h)],[]])=some (en x,dW (P:=Tryz.prog) [[(0,bT h)],[]]):=by intro h;kernel_rfl)(e2:∀h:c=false,tk (wk Tryz.prog w0 [[(0,bF h)],[]])=some (dW (P:=Tryz.prog) [[(0,bF h)],[]]):=by intro h;kernel_rfl):IE (bif c then some x else b) λq=>q=y->GW Tryz.prog r N0 (kS Tryz.prog fn (en q)) w0:=aC (λh=>gR [[(0,bT h)],[]] (e h)) (λh=>gA [[(0,bF h)],[]] (f h) (e2 h))
def t0{c:Bool}(h:c=true):Nat×Ob Tryz.prog:=(0,bT h)
def f0{c:Bool}(h:c=false):Nat×Ob Tryz.prog:=(0,bF h)
theorem li{w1:WO}(f:∀q,GW Tryz.prog r N0 (Q q) w1->GW Tryz.prog r N0 (Q q) w0)(k:IE o λq=>q=y->GW Tryz.prog r N0 (Q q) w1):IE o λq=>q=y->GW Tryz.prog r N0 (Q q) w0:=λv h q=>f v (k v h q)
theorem liH{w1:WO}{p:Prop}(f:∀q,(p->GW Tryz.prog r N0 (Q q) w1)->GW Tryz.prog r N0 (Q q) w0)(k:p->IE o λq=>q=y->GW Tryz.prog r N0 (Q q) w1):IE o λq=>q=y->GW Tryz.prog r N0 (Q q) w0:=λv h q=>f v λa=>k a v h q
theorem gT{β:Type}{f:apf β->apf (apf D)}{z:Nat}(F:DL f z)(k:Nat)(l:apf β)(h:l.length<=maxLen->IE o λq=>q=y->GW Tryz.prog r N0 (Q q) w0)(hx:(bn (wS w0).t k).fI=some (f l):=by kernel_rfl):IE o λq=>q=y->GW Tryz.prog r N0 (Q q) w0:=λv h2 q=>Iu F k l (λa=>h a v h2 q) hx
theorem gB{β:Type}{f:apf β->apf (apf D)}{z:Nat}(F:DL f z)(b i:Nat)(l:apf β)(h:l.length<=maxLen->IE o λq=>q=y->GW Tryz.prog r N0 (Q q) w0)(hx:(((wS w0).h[b]?).bind λB=>match B with| .cells cs=>(cs[i]?).bind AV.fI|_=>none)=some (f l):=by kernel_rfl):IE o λq=>q=y->GW Tryz.prog r N0 (Q q) w0:=λv h2 q=>anc F b i l (λa=>h a v h2 q) hx
theorem fw{f:FuncId}{fn:Func}{args:apf AV}{en:α->AV}(hf:Tryz.prog.funcs[f]?=some fn)(hw:∀{y},IE o λq=>q=y->GW Tryz.prog none 0 (kS Tryz.prog fn (en q)) (zg fn args []))(hb:fn.body.isSome=true:=by kernel_rfl)(hn:(fn.name== "runtime.NumGoroutine")=false:=by kernel_rfl):KO f args en o:=λr h=>RH hf (hw r h rfl) hb hn
theorem fh{f:FuncId}{fn:Func}{args:apf AV}{h:apf aq}{en:α->AV}{eh:α->apf aq}(m:Nat)(hf:Tryz.prog.funcs[f]?=some fn)(hw:∀{y},IE o λq=>q=y->GW Tryz.prog none h.length (tR Tryz.prog fn m (en q) (eh q)) (zg fn args h))(hb:fn.body.isSome=true:=by kernel_rfl)(hn:(fn.name== "runtime.NumGoroutine")=false:=by kernel_rfl)(hm:h.length<=m:=by exact aoz rfl):KP f args h en eh o:=λr q=>Cn m hf (hw r q rfl) hb hn hm
end
section
variable {α A B C D' R:Type} {rr:R} {r:aph Nat} {N0:Nat} {Q:R->Exit->St->Prop} {w0:WO}
theorem ff(k:Nat)(ay:apf (apf (Nat×Ob Tryz.prog)))(live:apf Nat)(m:Nat){L:apf α}(st:Nat->St){G:apf α->Nat->aph R}
 (nil:∀n,L.drop n=[]->∀f:St->Prop,IE (G [] n) λq=>q=rr->GW Tryz.prog r N0 (Q q) (iv k f (st n) (wk Tryz.prog w0 ay)))
 (cons:∀n x l,L.drop n=x::l->∀f:St->Prop,oy k live m L (λn(_:Unit)=>st n) (λl n _=>G l n) rr n x l () f->IE (G (x::l) n) λq=>q=rr->GW Tryz.prog r N0 (Q q) (iv k f (st n) (wk Tryz.prog w0 ay)))
 (hN:N0<=m:=by exact aoz rfl) (e:lF live m (wk Tryz.prog w0 ay)=some (st 0,dW ay):=by kernel_rfl):IE (G L 0) λq=>q=rr->GW Tryz.prog r N0 (Q q) w0:=λv h q=>
 wl0 ck k ay live m L st G (q▸h) (λn a2 b2 f=>q▸nil n a2 f rr b2 rfl) (λn x l a2 b2 f c2=>q▸cons n x l a2 f c2 rr b2 rfl) hN e
theorem gY(k:Nat)(ay:apf (apf (Nat×Ob Tryz.prog)))(live:apf Nat)(m:Nat){L:apf α}(st:Nat->A->St){G:apf α->Nat->A->aph R}{a0:A}
 (nil:∀n a,L.drop n=[]->∀f:St->Prop,IE (G [] n a) λq=>q=rr->GW Tryz.prog r N0 (Q q) (iv k f (st n a) (wk Tryz.prog w0 ay)))
 (cons:∀n x l a,L.drop n=x::l->∀f:St->Prop,oy k live m L st G rr n x l a f->IE (G (x::l) n a) λq=>q=rr->GW Tryz.prog r N0 (Q q) (iv k f (st n a) (wk Tryz.prog w0 ay)))
 (hN:N0<=m:=by exact aoz rfl) (e:lF live m (wk Tryz.prog w0 ay)=some (st 0 a0,dW ay):=by kernel_rfl):IE (G L 0 a0) λq=>q=rr->GW Tryz.prog r N0 (Q q) w0:=λv h q=>
 NQ ck k ay live m L st G a0 (q▸h) (λn a1 a2 b2 f=>q▸nil n a1 a2 f rr b2 rfl) (λn x l a1 a2 b2 f c2=>q▸cons n x l a1 a2 f c2 rr b2 rfl) hN e
theorem M7(k:Nat)(ay:apf (apf (Nat×Ob Tryz.prog)))(live:apf Nat)(m:Nat){L:apf α}(st:Nat->A->B->St){G:apf α->Nat->A->B->aph R}{a0:A}{b0:B}
 (nil:∀n a b,L.drop n=[]->∀f:St->Prop,IE (G [] n a b) λq=>q=rr->GW Tryz.prog r N0 (Q q) (iv k f (st n a b) (wk Tryz.prog w0 ay)))
 (cons:∀n x l a b,L.drop n=x::l->∀f:St->Prop,oy k live m L (λn(i:A×B)=>st n i.1 i.2) (λl n i=>G l n i.1 i.2) rr n x l (a,b) f->IE (G (x::l) n a b) λq=>q=rr->GW Tryz.prog r N0 (Q q) (iv k f (st n a b) (wk Tryz.prog w0 ay)))
 (hN:N0<=m:=by exact aoz rfl) (e:lF live m (wk Tryz.prog w0 ay)=some (st 0 a0 b0,dW ay):=by kernel_rfl):IE (G L 0 a0 b0) λq=>q=rr->GW Tryz.prog r N0 (Q q) w0:=λv h q=>
 wl2 ck k ay live m L st G a0 b0 (q▸h) (λn a1 b1 a2 b2 f=>q▸nil n a1 b1 a2 f rr b2 rfl) (λn x l a1 b1 a2 b2 f c2=>q▸cons n x l a1 b1 a2 f c2 rr b2 rfl) hN e
theorem gl3(k:Nat)(ay:apf (apf (Nat×Ob Tryz.prog)))(live:apf Nat)(m:Nat){L:apf α}(st:Nat->A->B->C->St){G:apf α->Nat->A->B->C->aph R}{a0:A}{b0:B}{c0:C}
 (nil:∀n a b c,L.drop n=[]->∀f:St->Prop,IE (G [] n a b c) λq=>q=rr->GW Tryz.prog r N0 (Q q) (iv k f (st n a b c) (wk Tryz.prog w0 ay)))
 (cons:∀n x l a b c,L.drop n=x::l->∀f:St->Prop,oy k live m L (λn(i:A×B×C)=>st n i.1 i.2.1 i.2.2) (λl n i=>G l n i.1 i.2.1 i.2.2) rr n x l (a,b,c) f->IE (G (x::l) n a b c) λq=>q=rr->GW Tryz.prog r N0 (Q q) (iv k f (st n a b c) (wk Tryz.prog w0 ay)))
 (hN:N0<=m:=by exact aoz rfl) (e:lF live m (wk Tryz.prog w0 ay)=some (st 0 a0 b0 c0,dW ay):=by kernel_rfl):IE (G L 0 a0 b0 c0) λq=>q=rr->GW Tryz.prog r N0 (Q q) w0:=λv h q=>
 wl3 ck k ay live m L st G a0 b0 c0 (q▸h) (λn a1 b1 c1 a2 b2 f=>q▸nil n a1 b1 c1 a2 f rr b2 rfl) (λn x l a1 b1 c1 a2 b2 f c2=>q▸cons n x l a1 b1 c1 a2 f c2 rr b2 rfl) hN e
theorem gb{ι:Type}{live:apf Nat}{m k:Nat}{L:apf α}{st:Nat->ι->St}{G:apf α->Nat->ι->aph R}{n:Nat}{x:α}{l:apf α}{i:ι}{f:St->Prop}(hf:oy k live m L st G rr n x l i f)(j:ι)(ay:apf (apf (Nat×Ob Tryz.prog)))(hd:L.drop n=x::l)(e1:kJ k (wK w0)=[f]:=by kernel_rfl)(e:qj k live m (wk Tryz.prog w0 ay)=some (st (n+1) j,dW ay):=by kernel_rfl):IE (G l (n+1) j) λq=>q=rr->GW Tryz.prog r N0 (Q q) w0:=λv h q=>wb ck hf j ay hd (q▸h) e1 e
theorem Me(k:Nat)(ay:apf (apf (Nat×Ob Tryz.prog)))(live:apf Nat)(m:Nat)(st:A->St)(G:Nat->A->aph R){d:Nat}{a0:A}
 (succ:∀d a,∀f:St->Prop,uw k live m st G rr d f->IE (G (d+1) a) λq=>q=rr->GW Tryz.prog r N0 (Q q) (iv k f (st a) (wk Tryz.prog w0 ay))) (h0:∀a,G 0 a=none:=by intros;rfl)
 (hN:N0<=m:=by exact aoz rfl) (e:lF live m (wk Tryz.prog w0 ay)=some (st a0,dW ay):=by kernel_rfl):IE (G d a0) λq=>q=rr->GW Tryz.prog r N0 (Q q) w0:=λv h q=>wf1 ck k ay live m st G d a0 (q▸h) (λd a1 b2 f c2=>q▸succ d a1 f c2 rr b2 rfl) h0 hN e
theorem VF(k:Nat)(ay:apf (apf (Nat×Ob Tryz.prog)))(live:apf Nat)(m:Nat)(st:A->B->St)(G:Nat->A->B->aph R){d:Nat}{a0:A}{b0:B}
 (succ:∀d a b,∀f:St->Prop,uw k live m (λ(i:A×B)=>st i.1 i.2) (λd i=>G d i.1 i.2) rr d f->IE (G (d+1) a b) λq=>q=rr->GW Tryz.prog r N0 (Q q) (iv k f (st a b) (wk Tryz.prog w0 ay))) (h0:∀a b,G 0 a b=none:=by intros;rfl)
 (hN:N0<=m:=by exact aoz rfl) (e:lF live m (wk Tryz.prog w0 ay)=some (st a0 b0,dW ay):=by kernel_rfl):IE (G d a0 b0) λq=>q=rr->GW Tryz.prog r N0 (Q q) w0:=λv h q=>wf2 ck k ay live m st G d a0 b0 (q▸h) (λd a1 b1 b2 f c2=>q▸succ d a1 b1 f c2 rr b2 rfl) h0 hN e
theorem Ay{ι:Type}{live:apf Nat}{m k:Nat}{st:ι->St}{G:Nat->ι->aph R}{d:Nat}{f:St->Prop}(hf:uw k live m st G rr d f)(j:ι)(ay:apf (apf (Nat×Ob Tryz.prog)))(e1:kJ k (wK w0)=[f]:=by kernel_rfl)(e:qj k live m (wk Tryz.prog w0 ay)=some (st j,dW ay):=by kernel_rfl):IE (G d j) λq=>q=rr->GW Tryz.prog r N0 (Q q) w0:=λv h q=>wbf ck hf j ay (q▸h) e1 e
theorem mP{o:aph R}(k:Nat)(ay:apf (apf (Nat×Ob Tryz.prog)))(live:apf Nat)(m:Nat)(st:A->St)(G:A->aph R)
 (br:∀f:St->Prop,Bk k live m st (λa=>G a=some rr) f->IE o λq=>q=rr->GW Tryz.prog r N0 (Q q) (L5 k f (wk Tryz.prog w0 ay)))
 (rest:∀a,IE (G a) λq=>q=rr->GW Tryz.prog r N0 (Q q) (KA (st a) (wk Tryz.prog w0 ay))) (hN:N0<=m:=by exact aoz rfl) (e:FT (wk Tryz.prog w0 ay)=some (dW ay):=by kernel_rfl):IE o λq=>q=rr->GW Tryz.prog r N0 (Q q) w0:=λv h q=>FN ck rr k ay live m st G (λf a=>br f a v h q) (λa1 b2=>q▸rest a1 rr b2 rfl) hN e
theorem gm{ι:Type}{live:apf Nat}{m k:Nat}{st:ι->St}{G:ι->aph R}{f:St->Prop}(hf:Bk k live m st (λi=>G i=some rr) f)(i:ι)(ay:apf (apf (Nat×Ob Tryz.prog)))(e1:kJ k (wK w0)=[f]:=by kernel_rfl)(e:qj k live m (wk Tryz.prog w0 ay)=some (st i,dW ay):=by kernel_rfl):IE (G i) λq=>q=rr->GW Tryz.prog r N0 (Q q) w0:=λv h q=>mm ck hf i ay (q▸h) e1 e
structure YU{ι R:Type}(k:Nat)(live:List Nat)(m:Nat)(ks:List Nat)(kn:List (Nat×Nat))(st:ι->St)(G:Nat->ι->Option R)(rr:R)(d:Nat)(f:St->Prop):Prop where
 h:∀i,N6 k live m ks kn (λz:Nat×ι=>st z.2) (λz=>G z.1 z.2=some rr) (λz=>z.1) (d+1,i) f
theorem agc(k:Nat)(ay:apf (apf (Nat×Ob Tryz.prog)))(live:apf Nat)(m:Nat)(ks:apf Nat)(kn:apf (Nat×Nat))(st:A->B->C->St)(G:Nat->A->B->C->aph R){d:Nat}{a0:A}{b0:B}{c0:C}
 (succ:∀d a b c,∀f:St->Prop,YU k live m ks kn (λ(i:A×B×C)=>st i.1 i.2.1 i.2.2) (λd i=>G d i.1 i.2.1 i.2.2) rr d f->IE (G (d+1) a b c) λq=>q=rr->GW Tryz.prog r N0 (Q q) (iv k f (st a b c) (wk Tryz.prog w0 ay))) (h0:∀a b c,G 0 a b c=none:=by intros;rfl)
 (hN:N0<=m:=by exact aoz rfl) (kM:apf (VE m):=[]) (e0:Lk m (wk Tryz.prog w0 ay)=kM.map VE.x:=by kernel_rfl) (e:OY live m ks kn (wk Tryz.prog w0 ay)=some (st a0 b0 c0,dW ay):=by kernel_rfl):IE (G d a0 b0 c0) λq=>q=rr->GW Tryz.prog r N0 (Q q) w0:=λv h q=>
 ahB ck k ay live m ks kn (λz:Nat×(A×B×C)=>((λ(i:A×B×C)=>st i.1 i.2.1 i.2.2)) z.2) (λz=>((λd i=>G d i.1 i.2.1 i.2.2)) z.1 z.2=some rr) (λz=>z.1) (d,(a0,b0,c0)) (q▸h) (λz hz f hf=>by
  obtain⟨d,i⟩:=z;rw[q];cases d with
  |zero=>exact absurd ((h0 i.1 i.2.1 i.2.2).symm.trans hz) (by simp)
  |succ d=>exact succ d i.1 i.2.1 i.2.2 f ⟨λj=>⟨λs' i' z0 z1 z2 z3=>hf.h s' i' z0 z1 z2 z3⟩⟩ rr hz rfl) hN kM e0 e
theorem alR{ι:Type}{live:apf Nat}{m k:Nat}{ks:apf Nat}{kn:apf (Nat×Nat)}{st:ι->St}{G:Nat->ι->aph R}{d:Nat}{f:St->Prop}(hf:YU k live m ks kn st G rr d f)(j:ι)(ay:apf (apf (Nat×Ob Tryz.prog)))(e1:kJ k (wK w0)=[f]:=by kernel_rfl)(kM:apf (VE m):=[])(e0:Lk m (wk Tryz.prog w0 ay)=kM.map VE.x:=by kernel_rfl)(e:Nv k live m ks kn (wk Tryz.prog w0 ay)=some (st j,dW ay):=by kernel_rfl):IE (G d j) λq=>q=rr->GW Tryz.prog r N0 (Q q) w0:=λv h q=>
 ahk ck (hf.h j) (d,j) ay (q▸h) (apd _) e1 kM e0 e
end
section
variable {P:api} {r:aph Nat} {N0:Nat} {Q:Exit->St->Prop} {c:Code}
end
theorem adM{α:Type}{f:α->apf D}{d0:α}{zs:apf AV}{n cW:Nat}{l:Int}(hl:l=(n:Int))(hz:(f d0).map AV.d=zs)(h:n<=maxLen/\n*cW<=140737488355328):
 0<=l/\l<=l/\l.toNat=n/\l.toNat=n/\cd ((List.replicate n d0).map f)=List.replicate n zs/\n<=maxLen/\cW*n<=281474976710656:=by
 subst hl;refine⟨Int.natCast_nonneg _,Int.le_refl _,rfl,rfl,?_,h.1,?_⟩
 ·unfold cd;rw[List.map_replicate,List.map_replicate,hz]
 ·rw[Nat.mul_comm];exact aoJ h.2 (by decide)
inductive OT(P:Program) where
 |nil
 |node (k:Nat) (ay:List (Nat×Ob P)) (sub next:OT P)
def OT.ps{P:api}:OT P->apf (In×bX)
 | .nil=>[]
 | .node _ ay sub next=>jv ay++(sub.ps++next.ps)
def OT.isNil{P:api}:OT P->Bool
 | .nil=>true
 |_=>false
def qg(C:apf Nat)(L:Nat)(r:apf Nat):apf Nat:=match xo C L r with
 |some k=>[k]
 |none=>r
def I5{P:api}(A C:apf Nat)(f:apf Nat->Nat->apf Nat->St->aph (apf Lf×apf (In×bX)))(adK:Bool)(al:apf Nat)(s:St)(L:Nat):aph (apf Lf×apf (In×bX)):=
 match pP A L 0 with
 |[]=>bif adK then some ([(s,al,[])],[])else none
 |k0::r=>f (qg C L (k0::r)) L al s
def te(P:api)(ops:Array Oper)(A C:apf Nat):OT P->Nat->apf Nat->Nat->apf Nat->St->aph (apf Lf×apf (In×bX))
 | .nil,_,cs,_,_,_=>match cs with
   |[]=>some ([],[])
   |_=>none
 | .node k ay sub next,fuel,cs,L,al,s=>match cs with
   |[]=>none
   |c::cs=>match fuel with
    |0=>none
    |f+1=>bif k==c then(match ops[k]? with
     |some o=>bif Ej o (iV (iY ay) (3*k+1))then(match nD P ops false o k (iY ay) s with
      |some (s1,l)=>match (fN (L|||(1<<<k)) λL1=>I5 (P:=P) A C (te P ops A C sub f) sub.isNil (al++List.replicate (s1.h.length-s.h.length) k) s1 L1)with
       |some (a,pa)=>match te P ops A C next (f+1) cs L al s with
        |some (b,pb)=>some (a++b,l++(pa++pb))
        |none=>none
       |none=>none
      |none=>none)else none
     |none=>none)else none
section
variable {P:api} {ops:Array Oper} {K:St->Prop}
theorem Vh(hK:rm K)(hM:oc (Region.before ops) ops=true){f L:Nat}{listed:Array Bool}{s:St}{k0:Nat}{r:apf Nat}(hL:LM ops L listed)(hD:Dn ops listed)(hr:pP (pg ops 0 ops.size) L 0=k0::r)
 (h:∀k∈qg (kp ops true (Region.before ops) 0 ops.size) L (k0::r),∀o,ops[k]?=some o->∃y J,mc true P ops o s y J/\kN true P ops K f (listed.setIfInBounds k true) ((s.wh J).put o.dst y)):kN true P ops K (f+1) listed s:=by
 unfold qg at h;cases hf:xo (kp ops true (Region.before ops) 0 ops.size) L (k0::r)with
 |some k=>
  rw[hf]at h;obtain⟨jH,xu⟩:=EI hf;have uD:k∈Region.ready .any ops listed:=(hL.ready k).2 (by rw[hr];exact jH);have pe:k<ops.size:=by
    have:=(Gj _ 0 k).1 (by rw[hr];exact jH);obtain⟨_,_,a,ha,_⟩:=this;rw[FE]at ha;split at ha
    ·next h=>omega
    ·cases ha
  obtain⟨y,hh,q1,q2⟩:=h k aox ops[k] (aoN pe);refine KL hK hM (aoN pe) f listed s hD (λj oj hj cE qd tv=> ?_) uD q1 q2;have DF:=(aoG.1 hj).1;have Pp:Nat.testBit L j=false:=by
   rw[hL.b];have jh:j<listed.size:=by rw[hL.sz];exact DF
   simpa [jh]using qd
  have nX:Nat.testBit (vl ops true (Region.before ops) k) j=false:=by
   rw[<-Bool.not_eq_true];intro hc;have h5:(kp ops true (Region.before ops) 0 ops.size).getD k 0=vl ops true (Region.before ops) k:=by
     rw[List.getD_eq_getElem?_getD,Oo,if_pos pe,aoL];rfl
   rw[h5]at xu;have:=congrArg (λn=>Nat.testBit n j) xu;simp only[Nat.testBit_or,hc,Pp]at this;cases this
  unfold vl at nX;rw[CZ]at nX;unfold Rq at nX;rw[tv,aoN pe,hj]at nX;simp [DF,cE]at nX;exact nX
 |none=>
  rw[hf]at h;have BI:k0∈Region.ready .any ops listed:=(hL.ready k0).2 (by rw[hr];simp);refine⟨λe=>(by rw[e]at BI;cases BI),λi hi oi J6=> ?_⟩;exact h i (by rw[<-hr];exact(hL.ready i).1 hi) oi J6
theorem af6(hK:rm K)(hM:oc (Region.before ops) ops=true)(t0:apf (Nat×AV))(n0:Nat):
 ∀(t:OT P)(fuel:Nat)(cs:apf Nat)(L:Nat)(listed:Array Bool)(al:apf Nat)(s:St)(ls:apf Lf)(ps:apf (In×bX)),LM ops L listed->Dn ops listed->(∀c∈cs,c∈Region.ready .any ops listed)->te P ops (pg ops 0 ops.size) (kp ops true (Region.before ops) 0 ops.size) t fuel cs L al s=some (ls,ps)->gq P ps->(∃pre,s.t=pre++t0)->s.n=n0->
  (∀x∈ls,(∃pre,x.1.t=pre++t0)/\x.1.n=n0)/\((∀x∈ls,K x.1)->∀k∈cs,∀o,ops[k]?=some o->∃f,fuel=f+1/\∃y J,mc true P ops o s y J/\kN true P ops K f (listed.setIfInBounds k true) ((s.wh J).put o.dst y)):=by
 intro t
 induction t with
 |nil=>
  intro fuel cs L listed al s ls ps hL hD hc h bS hp hn;cases cs with
  |nil=>
   simp only[te]at h;cases h
   exact⟨λx hx=>(by cases hx),λ_ k hk=>(by cases hk)⟩
  |cons=>simp [te]at h
 |node k ay sub next ihs ihn=>
  intro fuel cs L listed al s ls ps hL hD hc h bS hp hn;cases cs with
  |nil=>simp [te]at h
  |cons c cs=>
   cases fuel with
   |zero=>simp [te]at h
   |succ f=>
    rw[te]at h;have h':=kG h;clear h;obtain⟨TK,h⟩:=h';rw[beq_iff_eq]at TK;subst TK;split at h
    ·next o ho=>
     have h':=kG h;clear h;obtain⟨adA,h⟩:=h';split at h
     ·next s1 l hg=>
      rw[As]at h;split at h
      ·next a pa ha=>
       split at h
       ·next b pb hb=>
        cases h
        have hl:gq P l:=λp hp=>bS p (List.mem_append_left _ hp);have hpa:gq P pa:=λp hp=>bS p (List.mem_append_right _ (List.mem_append_left _ hp));have hpb:gq P pb:=λp hp=>bS p (List.mem_append_right _ (List.mem_append_right _ hp));have uD:=hc k aox;have pe:=(aoG.1 ho).1;obtain⟨vK,ku⟩:=ihn (f+1) cs L listed al s b pb hL hD (λc fR=>hc c (aoA _ fR)) hb hpb hp hn;obtain⟨⟨p1,e1⟩,e2⟩:=Rt hg;have Vx:∃pre,s1.t=pre++t0:=by
         obtain⟨pre,e⟩:=hp;exact⟨p1++pre,by rw[e1,e,aoI]⟩
        have WA:s1.n=n0:=e2.trans hn;have Gq:=hL.set pe;have yQ:=hD.set uD;have uf:(∀x∈a,(∃pre,x.1.t=pre++t0)/\x.1.n=n0)/\((∀x∈a,K x.1)->kN true P ops K f (listed.setIfInBounds k true) s1):=by
         unfold I5 at ha;split at ha
         ·next hr=>
          obtain⟨_,ha⟩:=kG ha;cases ha
          have EK:Region.ready .any ops (listed.setIfInBounds k true)=[]:=by
           rw[List.eq_nil_iff_forall_not_mem];intro i hi;have:=(Gq.ready i).1 hi;rw[hr]at this;cases this
          refine⟨λx hx=>by rw[List.mem_singleton]at hx;subst hx;exact⟨Vx,WA⟩,λhk=> ?_⟩;have jH:=hk _ aox;cases f with
          |zero=>exact⟨EK,jH⟩
          |succ f=>exact⟨λ_=>jH,λi hi=>by rw[EK]at hi;cases hi⟩
         ·next k1 r hr=>
          have FH:∀c∈qg (kp ops true (Region.before ops) 0 ops.size) (L|||(1<<<k)) (k1::r),c∈Region.ready .any ops (listed.setIfInBounds k true):=by
           intro c fR;rw[Gq.ready,hr];unfold qg at fR;split at fR
           ·next q hf=>
            rw[List.mem_singleton]at fR;subst fR;exact(EI hf).1
           ·exact fR
          obtain⟨q1,q2⟩:=ihs f _ _ _ _ s1 a pa Gq yQ FH ha hpa Vx WA;refine⟨q1,λhk=> ?_⟩;have cE:∃c,c∈qg (kp ops true (Region.before ops) 0 ops.size) (L|||(1<<<k)) (k1::r):=by
           unfold qg;split
           ·exact⟨_,aox⟩
           ·exact⟨_,aox⟩
          obtain⟨c0,xB⟩:=cE;have OO:c0<ops.size:=by
           have:=(Gj _ 0 c0).1 ((Gq.ready c0).1 (FH c0 xB));obtain⟨_,_,z,hz,_⟩:=this;rw[FE]at hz;split at hz
           ·next h=>omega
           ·cases hz
          obtain⟨g,rfl,_⟩:=q2 hk c0 xB ops[c0] (aoN OO);refine Vh hK hM Gq yQ hr λk' gL o' nt=> ?_;obtain⟨g',e,y,J,h2,h3⟩:=q2 hk k' gL o' nt;cases e
          exact⟨y,J,h2,h3⟩
        refine⟨λx hx=>(ao3.1 hx).elim (uf.1 x) (vK x),λhk k' gL o' nt=> ?_⟩;rcases aoV.1 gL with rfl|gL
        ·rw[ho]at nt;cases nt;have h4:=aah (K:=(·=s1)) hg hl rfl adA;have h5:=uf.2 λx hx=>hk x (List.mem_append_left _ hx);rcases Ha h4 with⟨g,hd⟩|⟨g,hd⟩
         ·obtain⟨y,J,h2,h3⟩:=Ka hd;exact⟨f,rfl,y,J, .inl ⟨g,h2⟩,by rw[h3];exact h5⟩
         ·exact⟨f,rfl,_,s.h, .inr ⟨g,rfl,rfl⟩,by
           have e:(s.wh s.h).put o.dst (.d (.v undef))=s1:=hd;rw[e];exact h5⟩
        ·exact ku (λx hx=>hk x (List.mem_append_right _ hx)) k' gL o' nt
       ·cases h
      ·cases h
     ·cases h
    ·cases h
end
def MU(P:api)(ol:apf Oper)(t:OT P)(keep:apf Nat)(s:St):aph (apf (apf (Nat×AV)×apf aq×apf (In×bX))×apf (In×bX)):=
 bif oc (Region.before ol.toArray) ol.toArray then fL (pg ol.toArray 0 ol.toArray.size) λA=>fL (kp ol.toArray true (Region.before ol.toArray) 0 ol.toArray.size) λC=>
  match I5 (P:=P) A C (te P ol.toArray A C t ol.toArray.size) t.isNil [] s 0 with
  |some (ls,ps)=>match Gw keep s ls with
   |some r=>some (r,ps)
   |none=>none
  |none=>none
 else none
theorem afo{P:api}{ol:apf Oper}{t:OT P}{keep:apf Nat}{s:St}{Δ:apf (Nat×AV)}{h':apf aq}{m N0:Nat}{K:St->Prop}(h:MU P ol t keep s=some (List.replicate m (Δ,h',[]),t.ps))(bS:gq P t.ps)(hN:N0<=s.h.length)(nF:∀i,(bn s.t i).aE s.h.length=true)(hK:Gk N0 K)(hk:K ⟨s.n,Δ++s.t,h'⟩):
 kN true P ol.toArray K ol.toArray.size (Array.replicate ol.toArray.size false) s:=by
 unfold MU at h;obtain⟨hM,h⟩:=kG h;rw[yx,yx]at h;split at h
 ·next ls ps e1=>
  split at h
  ·next r F5=>
   cases h
   have hL:LM ol.toArray 0 (Array.replicate ol.toArray.size false):=⟨by simp,λi=>by
    rw[Nat.zero_testBit,Array.getD_eq_getD_getElem?,Array.getElem?_replicate];split<;>rfl⟩
   have hD:Dn ol.toArray (Array.replicate ol.toArray.size false):=λj o ho hj=>by
    exfalso;rw[Array.getD_eq_getD_getElem?]at hj;rw[Array.getElem?_replicate]at hj;split at hj<;>simp at hj
   have leaf:∀x∈ls,((∃pre,x.1.t=pre++s.t)/\x.1.n=s.n)->K x.1:=λx hx hb=>by
    obtain⟨a,ha,e2⟩:=R0 F5 x hx;rw[List.mem_replicate]at ha;obtain⟨_,rfl⟩:=ha;obtain⟨k1,_⟩:=aaG (P:=P) (ops:=ol.toArray) e2 hN nF hb.2 hb.1 (λp hp=>by cases hp);exact hK _ _ k1 hk
   unfold I5 at e1;split at e1
   ·next hr=>
    obtain⟨_,e1⟩:=kG e1;have e3:=Prod.mk.inj (aoK e1);obtain⟨e3,_⟩:=e3;subst e3;have EK:Region.ready .any ol.toArray (Array.replicate ol.toArray.size false)=[]:=by
     rw[List.eq_nil_iff_forall_not_mem];intro i hi;have:=(hL.ready i).1 hi;rw[hr]at this;cases this
    have jH:=leaf _ aox ⟨⟨[],rfl⟩,rfl⟩;generalize hf:ol.toArray.size=f at*;cases f with
    |zero=>exact⟨EK,jH⟩
    |succ f=>exact⟨λ_=>jH,λi hi=>by rw[EK]at hi;cases hi⟩
   ·next k1 r' hr=>
    have FH:∀c∈qg (kp ol.toArray true (Region.before ol.toArray) 0 ol.toArray.size) 0 (k1::r'),c∈Region.ready .any ol.toArray (Array.replicate ol.toArray.size false):=by
     intro c fR;rw[hL.ready,hr];unfold qg at fR;split at fR
     ·next q hf=>
      rw[List.mem_singleton]at fR;subst fR;exact(EI hf).1
     ·exact fR
    obtain⟨q1,q2⟩:=af6 (K:=K) hK.c hM s.t s.n t _ _ _ _ _ s ls _ hL hD FH e1 bS ⟨[],rfl⟩ rfl;have q3:=q2 λx hx=>leaf x hx (q1 x hx);have cE:∃c,c∈qg (kp ol.toArray true (Region.before ol.toArray) 0 ol.toArray.size) 0 (k1::r'):=by
     unfold qg;split
     ·exact⟨_,aox⟩
     ·exact⟨_,aox⟩
    obtain⟨c0,xB⟩:=cE;have OO:c0<ol.toArray.size:=by
     have:=(Gj _ 0 c0).1 ((hL.ready c0).1 (FH c0 xB));obtain⟨_,_,z,hz,_⟩:=this;rw[FE]at hz;split at hz
     ·next h=>omega
     ·cases hz
    obtain⟨g,eg,_⟩:=q3 c0 xB ol.toArray[c0] (aoN OO);have F5:=Vh (P:=P) (f:=g) (s:=s) (K:=K) hK.c hM hL hD hr λk' gL o' nt=>by
     obtain⟨g',e,y,J,h2,h3⟩:=q3 k' gL o' nt;rw[eg]at e;cases e
     exact⟨y,J,h2,h3⟩
    exact(congrArg (λn=>kN true P ol.toArray K n (Array.replicate ol.toArray.size false) s) eg).mpr F5
  ·cases h
 ·cases h
theorem Sa{P:api}:∀t:OT P,gq P t.ps
 | .nil=>λp hp=>by cases hp
 | .node _ ay sub next=>λp hp=>by
   unfold OT.ps at hp;rcases ao3.1 hp with hp|hp
   ·exact pz ay p hp
   ·rcases ao3.1 hp with hp|hp
    ·exact Sa sub p hp
    ·exact Sa next p hp
section
variable {P:api} {r:aph Nat} {N0 id n:Nat} {ol:apf Oper} {y:Code} {t:apf (Nat×AV)} {h:apf aq} {Q Q':Exit->St->Prop}
theorem ro(m:Nat)(hm:P.follows .mixedOrders=true)(T:OT P)(Δ:apf (Nat×AV))(h':apf aq)(e:MU P ol T (Δ.map (·.1)) ⟨n,t,h⟩=some (List.replicate m (Δ,h',[]),T.ps))(k:bA P r N0 y Q' ⟨n,Δ++t,h'⟩):bA P r N0 (.region id ol.toArray true) (iU (λs=>bA P r N0 y Q' s) Q) ⟨n,t,h⟩:=
 SH (m:=true) hm λhN nF=>afo e (Sa T) hN nF (M1 _) ⟨_,iE.refl _ _,k⟩
end
set_option maxRecDepth 100000
set_option maxHeartbeats 0
mutual
theorem Pa{m m':Nat}(hm:m<=m'):∀x:AV,x.aE m=true->x.aE m'=true
 | .own n _,h=>by rw[AV.aE,Bool.not_eq_true',<-Bool.not_eq_true,da]at h ⊢;omega
 | .ptr n _,h=>by rw[AV.aE,Bool.not_eq_true',<-Bool.not_eq_true,da]at h ⊢;omega
 | .row n _ _ _ _,h=>by rw[AV.aE,Bool.not_eq_true',<-Bool.not_eq_true,da]at h ⊢;omega
 | .mp n,h=>by rw[AV.aE,Bool.not_eq_true',<-Bool.not_eq_true,da]at h ⊢;omega
 | .cn n,h=>by rw[AV.aE,Bool.not_eq_true',<-Bool.not_eq_true,da]at h ⊢;omega
 | .vec n _ _ _ _,h=>by rw[AV.aE,Bool.not_eq_true',<-Bool.not_eq_true,da]at h ⊢;omega
 | .dn n _ _ _ _,h=>by rw[AV.aE,Bool.not_eq_true',<-Bool.not_eq_true,da]at h ⊢;omega
 | .agg cs,h=>by rw[AV.aE]at h ⊢;exact L7 hm cs h
 | .bg cs,h=>by rw[AV.aE]at h ⊢;exact L7 hm cs h
 | .fn f cs,h=>by rw[AV.aE]at h ⊢;exact L7 hm cs h
 | .d _,_=>by simp only[AV.aE]
 | .bj ..,_=>by simp only[AV.aE]
 | .full _,_=>by simp only[AV.aE]
 | .hid _,_=>by simp only[AV.aE]
 | .dead,_=>by simp only[AV.aE]
theorem L7{m m':Nat}(hm:m<=m'):∀l:apf AV,AV.kE m l=true->AV.kE m' l=true
 |[],_=>by simp [AV.kE]
 |x::l,h=>by
  rw[AV.kE,aot]at h ⊢;exact⟨Pa hm x h.1,L7 hm l h.2⟩
end
theorem ajs{m m':Nat}(hm:m<=m'){B:aq}(h:B.aE m=true):B.aE m'=true:=by
 have fG:∀cs:apf AV,cs.all (AV.aE m)=true->cs.all (AV.aE m')=true:=λcs h=>by
  rw[aoR]at h ⊢;exact λx hx=>Pa hm x (h x hx)
 cases B with
 |cells cs=>exact fG cs h
 |lp ls p a b cs=>exact fG cs h
 |it sn cs=>exact fG cs h
 |eP T0 cs=>exact fG cs h
 |vec e k cs=>
  simp only[aq.aE,aoR]at h ⊢;exact λc hc x hx=>Pa hm x (h c hc x hx)
 |front e k len=>rfl
 |iB e b=>rfl
 |map kv=>rfl
 |iS kv=>rfl
 |gone=>rfl
theorem NM{m m':Nat}(hm:m<=m'){h:apf aq}(e:h.all (aq.aE m)=true):h.all (aq.aE m')=true:=by
 rw[aoR]at e ⊢;exact λB hB=>ajs hm (e B hB)
abbrev ph(ext:apf Int):AV:= .bj [[.sl (bw ext)]] 0 0
def pY(p:apf Int):AV:= .d (.sl (bw p))
theorem W0{n i x:Nat}{xs:apf Nat}(h:(List.range n).drop i=x::xs):x=i:=by
 have:=bI h;have hi:i<(List.range n).length:=(aor.1 this).1;rw[List.getElem?_range (by simpa using hi)]at this;exact(aoK this).symm
theorem acr(ext:apf Int)(n:Nat)(hn:n<=maxLen)(hc:ga Tryz.prog 182 [.d (.sl (bw ext))] (·=ar n)):ze Tryz.prog 181 [ph ext] ((List.range n).map λ(k:Nat)=>ar k):=by
 intro k h C kA hk qW;have hs:=FY _ kA qW;refine uA h.length Tryz.func181 rfl (by kernel_rfl) (aoC _) ?_;show bA Tryz.prog none h.length _ _ ⟨14,[(0, .cn k),(1,ph ext)],h⟩
 repeat refine aA ?_
 refine e7 ?_;refine bJ rfl ?_;refine cD (x:= .d (.sl (bw ext))) (by kernel_rfl) rfl rfl ?_;refine bJ rfl ?_;refine Eb (g:=182) (cZ:=[]) rfl rfl rfl ?_;refine hc.use rfl rfl ?_;refine bJ rfl ?_;refine cD (x:= .d (.v (.int .i64 0))) (by kernel_rfl) rfl rfl ?_;refine bE ?_;refine gp ?_;refine Ij (ι:=Nat×apf Nat×apf aq) [0,5,6] h.length (λi=>⟨14,[(0, .cn k),(5, .d (.v (.int .i64 n))),(6, .d (.v (.int .i64 i.1)))],i.2.2⟩)
  (λi=>(List.range n).drop i.1=i.2.1/\ov h i.2.2/\lX Tryz.prog k (i.2.1.map λ(k:Nat)=>ar k) (λb h2=>C b h2/\ov h h2) i.2.2) (λi=>i.2.1.length) (0,List.range n,h) (aoC _) ?_ ?_ ⟨rfl,⟨rfl,kA⟩,hs⟩ ?_
 ·exact GC _ kA (by
   show(((AV.cn k).bo h.length).aE h.length&&(true&&(true&&true)))=true;rw[Bx hk];rfl)
 ·exact Iw _ kA
 rintro⟨i,rest,hb⟩ ⟨hd,⟨c1,c2⟩,iZ⟩;simp only at hd c1 c2 iZ ⊢
 repeat refine aA ?_
 refine e7 ?_;refine bJ rfl ?_;refine cD (x:= .d (.v (.bool (decide ((i:Int)<(n:Int)))))) (by kernel_rfl) rfl rfl ?_;refine bE ?_
 repeat refine aA ?_
 have hlen:((List.range n).length:Int)=(n:Int):=by rw[List.length_range]
 cases rest with
 |nil=>
  rw[<-hlen,cy hd];refine lP (by kernel_rfl) ?_;refine o7 (kW (kW (rE rfl ?_)));exact JU c1 c2 ⟨rfl,true,iZ.1⟩
 |cons x rest=>
  rw[<-hlen,cz hd];have hx:=W0 hd;subst hx;refine lC (by kernel_rfl) ?_;refine dy ?_;refine bE ?_
  repeat refine aA ?_
  refine gp ?_
  repeat refine aA ?_
  refine e7 ?_;refine bJ rfl ?_;refine cD (x:= .d (.v (.int .i64 x))) (by kernel_rfl) rfl rfl ?_;refine bJ rfl ?_;refine cD (x:= .d (.v (.int .i64 x))) (by kernel_rfl) rfl rfl ?_;refine bE ?_
  repeat refine aA ?_
  refine e7 ?_;refine bJ rfl ?_;refine cD (x:= .cn k) (by kernel_rfl) rfl rfl ?_;refine bJ rfl ?_;refine cD (x:= .d (.v (.int .i64 x))) (by kernel_rfl) rfl rfl ?_;refine bJ rfl ?_;rw[aoQ]at iZ;refine zk (k:=k) (x:=ar x) rfl rfl (by kernel_rfl) (by kernel_rfl) rfl rfl ?_;refine YS.mono iZ λb h2 hh=> ?_;obtain⟨⟨p1,p2⟩,p3⟩:=hh;have u1:h2.length=h.length:=by rw[p1,c1]
  have u2:h2.all (aq.aE h.length)=true:=by rw[c1]at p2;exact p2
  refine bJ rfl ?_;refine cD (x:= .d (.v (.bool (!b)))) (by kernel_rfl) rfl rfl ?_;refine bE ?_;cases b with
  |false=>
   refine lC (by kernel_rfl) ?_;refine cY ?_
   repeat (first|(with_reducible refine c9 ?_)|(with_reducible refine fa ?_))
   exact Up u1 u2 ⟨rfl,false,p3.1⟩
  |true=>
   refine lP (by kernel_rfl) ?_;refine dy ?_;refine iK ?_;refine bE ?_;simp only[cond_true]at p3;refine e7 ?_;refine bJ rfl ?_;refine cD (x:= .d (.v (.int .i64 ((x+1:Nat):Int)))) (by
    show some ((.d (.v (.int .i64 (aQ ((x:Int)+1)))):AV),HD.same)=_;have:=cF hd rfl (by rw[List.length_range];exact hn);unfold ar at this;rw[this]) rfl rfl ?_
   refine bJ rfl ?_;refine cD (x:= .d (.v (.int .i64 ((x+1:Nat):Int)))) (by kernel_rfl) rfl rfl ?_;refine bE ?_;refine⟨?_,(x+1,rest,h2),?_,⟨ma hd,⟨u1,u2⟩,p3⟩,apd _⟩
   ·rw[<-u1];exact GC _ (by rw[u1];exact u2) (by
      show(((AV.cn k).bo h2.length).aE h2.length&&(true&&(true&&true)))=true;rw[u1,Bx hk];rfl)
   ·rw[<-u1];exact Iw _ (by rw[u1];exact u2)
theorem ajR(ext:apf Int):ga Tryz.prog 122 [.d (.sl (bw ext))] (·= .fn 181 [ph ext]):=by
 refine SI (r:= .fn 181 [(.ptr 0 0)]) (h:=[.cells [.d (.sl (bw ext))]]) ?_ (by kernel_rfl) rfl;refine qU 1 Tryz.func122 rfl (by kernel_rfl) (aoz rfl) ?_;refine l6 (s':=⟨4,[(0, .d (.sl (bw ext)))],[]⟩) (by kernel_rfl) ?_;refine aA ?_;refine rg [] [(1,(.ptr 0 0))] [.cells [.d (.sl (bw ext))]] (by kernel_rfl) ?_;refine aA ?_;refine rg [] [(2,(.fn 181 [(.ptr 0 0)]))] [.cells [.d (.sl (bw ext))]] (by kernel_rfl) ?_;refine cY ?_;exact jt (by kernel_rfl)
theorem aeu{n:Nat}{t:apf (Nat×AV)}{H l:apf aq}(hb:H.all (aq.aE H.length)=true):uc ⟨n,t,H++l⟩ H.length ⟨n,[],H⟩:=⟨fun{G w a} hs=>by
 have J:=hs.mask (live:=[]) (zJ (n:=n) (t:=t) (l:=l) [] hb rfl)
 rwa [AG [] hb]at J⟩
theorem ZU{n m:Nat}{t:apf (Nat×AV)}{H:apf aq}(hm:H.length=m)(hb:H.all (aq.aE m)=true):uc ⟨n,t,H⟩ m ⟨n,[],H⟩:=by
 subst hm;have:=aeu (n:=n) (t:=t) (l:=[]) hb
 rwa [aoM]at this
theorem akk(ext:apf Int)(ju:apf (apf Int))(hn:ju.length<=maxLen)(hc:ga Tryz.prog 182 [.d (.sl (bw ext))] (·=ar ju.length))
 (hp:∀(k:Nat)(p:apf Int),ju[k]?=some p->ga Tryz.prog 123 [.d (.sl (bw ext)),ar k] (·= .bg [pY p,aL true])):ze Tryz.prog 121 [ph ext] (ju.map pY):=by
 intro k h C kA hk qW;have hs:=FY _ kA qW;refine uA h.length Tryz.func121 rfl (by kernel_rfl) (aoC _) ?_
 suffices hA:bA Tryz.prog none h.length _ _ ⟨19,[(0, .cn k),(1,ph ext)],h++[]⟩ by rw[aoM]at hA;exact hA
 have py:∀m',h.length<=m'->(AV.cn k).aE m'=true:=λm' gk=>by simp [AV.aE,cm];omega
 have gr:∀m',h.length<=m'->(aq.cells [.cn k]).aE m'=true:=λm' gk=>by simp [aq.aE,py m' gk]
 repeat refine aA ?_
 refine e7 ?_;refine bJ rfl ?_;refine yG (Tm (l:=[]) (v:= .cn k) rfl (by kernel_rfl)) rfl rfl Ck ?_;refine bE ?_
 repeat refine aA ?_
 refine e7 ?_;refine bJ rfl ?_;refine cD (x:= .d (.sl (bw ext))) (by kernel_rfl) rfl rfl ?_;refine bJ rfl ?_;refine Eb (g:=122) (cZ:=[]) rfl rfl rfl ?_;refine(ajR ext).use rfl rfl ?_;refine bE ?_;refine gp ?_;show bA Tryz.prog none h.length _ _ ⟨19,[(7, .fn 181 [ph ext]),(6, .d (.sl (bw ext))),(2, .ptr h.length 0),(0, .cn k),(1,ph ext)],h++[.cells [.cn k]]⟩;refine vL (m:=h.length+1) (enc:=λ(q:Nat)=>ar q) (xs:=List.range ju.length) (gf:=181) (cZ:=[ph ext]) (by kernel_rfl) (acr ext ju.length hn hc) (λ(i:{J:apf aq // ov h J})=>i.1++[.cells [.cn k]])
  (λi l=>∃j,(List.range ju.length).drop j=l/\lX Tryz.prog k ((ju.drop j).map pY) (λb h2=>C b h2/\ov h h2) i.1) ⟨h,rfl,kA⟩ rfl ⟨0,rfl,hs⟩ (λi=>by rw[aos,i.2.1];rfl) (λi=> ?_) ?_ (by kernel_rfl) ?_ ?_
 ·rw[List.all_append,NM (ao6 _ 2) i.2.2];simp [gr (h.length+1+1) (by omega)]
 ·have hy:cm (h.length+1+1) k=false:=by rw[<-Bool.not_eq_true,da];omega
  have hq:cm (h.length+1+1) h.length=false:=by rw[<-Bool.not_eq_true,da];omega
  show(([0,1,2,3,4,5,6,7,8,9,10,11,12,13,14,15,16,17,18]:apf Nat).map λi=>bn _ i).all _=true;simp only[aoQ,List.map_nil,bn,apb,List.all_nil,Nat.reduceBEq,cond_true,cond_false,Bool.and_true,AV.aE,AV.kE];rw[hy,hq];rfl
 ·rintro⟨hb,c1,c2⟩ x l ⟨j,hd,iZ⟩ rr a b;have hx:=W0 hd;subst hx;have hj:x<ju.length:=by
   have:=bI hd;have:=(aor.1 this).1
   simpa using this
  simp only at iZ ⊢;refine e7 ?_;refine bJ rfl ?_;refine cD (x:=ar x) (by kernel_rfl) rfl rfl ?_;refine bE ?_;refine⟨hb++[.cells [.cn k]],[],by rw[aos,c1];rfl,rfl,?_⟩;generalize TW:aq.lp .busy 8 a b (dc 19 _)=LP;have amK:LP.aE (h.length+2)=true:=by
   rw[<-TW];have hy:cm (h.length+2) k=false:=by rw[<-Bool.not_eq_true,da];omega
   have hq:cm (h.length+2) h.length=false:=by rw[<-Bool.not_eq_true,da];omega
   show(([0,1,2,3,4,5,6,7,8,9,10,11,12,13,14,15,16,17,18]:apf Nat).map λi=>bn _ i).all _=true;simp only[aoQ,List.map_nil,bn,apb,List.all_nil,Nat.reduceBEq,cond_true,cond_false,Bool.and_true,AV.aE,AV.kE];rw[hy,hq];rfl
  clear TW;refine gp ?_
  repeat refine aA ?_
  refine e7 ?_;refine bJ rfl ?_;refine cD (x:= .d (.sl (bw ext))) (by kernel_rfl) rfl rfl ?_;refine bJ rfl ?_;refine cD (x:=ar x) (by kernel_rfl) rfl rfl ?_;refine bJ rfl ?_;refine Eb (g:=123) (cZ:=[]) rfl rfl rfl ?_;refine(hp x ju[x] (aov hj)).use rfl rfl ?_;refine bJ rfl ?_;refine cD (x:= .bg [pY ju[x],aL true]) (by kernel_rfl) rfl rfl ?_;refine bJ rfl ?_;refine cD (x:=pY ju[x]) (by kernel_rfl) rfl rfl ?_;refine bJ rfl ?_;refine cD (x:=aL true) (by kernel_rfl) rfl rfl ?_;refine bJ rfl ?_;refine cD (x:=pY ju[x]) (by kernel_rfl) rfl rfl ?_;refine bJ rfl ?_;refine cD (x:=aL true) (by kernel_rfl) rfl rfl ?_;refine bE ?_;rw[show(hb++[aq.cells [.cn k]])++[LP]=hb++[aq.cells [.cn k],LP] by simp]
  repeat refine aA ?_
  refine e7 ?_;refine bJ rfl ?_;refine cD (xy (h:=hb) (i:=0) (off:=0) (l:=[.cells [.cn k],LP]) (x:= .cn k) (by rw[c1];rfl) rfl (by kernel_rfl)) rfl rfl ?_;refine bJ rfl ?_;refine cD (x:=pY ju[x]) (by kernel_rfl) rfl rfl ?_;refine bJ rfl ?_;rw[List.drop_eq_getElem_cons hj,aoQ]at iZ;have hy:=HR iZ [.cells [.cn k],LP] (by rw[c1];exact c2) (by kernel_rfl) (λb h' hh=>hh.1);refine zk (k:=k) (x:=pY ju[x]) rfl rfl (by kernel_rfl) (by kernel_rfl) rfl rfl ?_;refine hy.mono λb h' hh=> ?_;obtain⟨h2,⟨⟨p1,p2⟩,p3⟩,rfl⟩:=hh;have u1:h2.length=h.length:=by rw[p1,c1]
  have u2:h2.all (aq.aE h.length)=true:=by rw[c1]at p2;exact p2
  have v1:(h2++[aq.cells [.cn k]]).length=h.length+1:=by rw[aos,u1];rfl
  have v2:(h2++[aq.cells [.cn k]]).all (aq.aE (h.length+2))=true:=by
   rw[List.all_append,NM (ao6 _ 2) u2];simp [gr]
  have v3:(h2++[aq.cells [.cn k],LP]).all (aq.aE (h.length+2))=true:=by
   rw[List.all_append,NM (ao6 _ 2) u2];simp [gr,amK]
  have v4:(h2++[aq.cells [.cn k],LP]).length=h.length+2:=by rw[aos,u1];rfl
  have v5:h2++[aq.cells [.cn k],LP]=(h2++[aq.cells [.cn k]])++[LP]:=by simp
  refine bJ rfl ?_;refine cD (x:= .d (.v (.bool (!b)))) (by kernel_rfl) rfl rfl ?_;refine bE ?_;cases b with
  |false=>
   refine lC (by kernel_rfl) ?_;refine cY ?_
   repeat (first|(with_reducible refine c9 ?_)|(with_reducible refine fa ?_))
   refine⟨h2++[.cells [.cn k]],v1,v2,?_,?_⟩
   ·have Qx:∀t,uc ⟨19,t,h2++[aq.cells [.cn k],LP]⟩ (h.length+2) ⟨19,[],(h2++[aq.cells [.cn k]])++[LP]⟩:=λt=>by
     rw[<-v5];exact ZU v4 v3
    exact Qx _
   ·refine fa ?_;rw[aoI];exact Bm u1 u2 ⟨rfl,false,p3.1⟩
  |true=>
   refine lP (by kernel_rfl) ?_;refine dy ?_;refine iK ?_;simp only[cond_true]at p3;refine⟨h2++[.cells [.cn k]],v1,v2,?_,⟨h2,u1,u2⟩,rfl,x+1,ma hd,p3⟩;have Qx:∀t,uc ⟨19,t,h2++[aq.cells [.cn k],LP]⟩ (h.length+2) ⟨19,[],(h2++[aq.cells [.cn k]])++[LP]⟩:=λt=>by
    rw[<-v5];exact ZU v4 v3
   exact Qx _
 ·rintro⟨hb,c1,c2⟩ ⟨j,hd,iZ⟩;have:ju.drop j=[]:=by
   have J:=List.drop_eq_nil_iff.1 hd;rw[List.length_range]at J;exact List.drop_eq_nil_iff.2 J
  rw[this,List.map_nil]at iZ;refine iK ?_;rw[aoI];have:=Q7 (P:=Tryz.prog) (fn:=Tryz.f121) (n:=19) (K:=λ_ J=>∃b,C b J) (t:=[(7, .fn 181 [ph ext]),(6, .d (.sl (bw ext))),(2, .ptr h.length 0),(0, .cn k),(1,ph ext)]) (l:=[.cells [.cn k]]++[.gone]) c1 c2;refine this ?_;exact⟨rfl,true,iZ.1⟩
def ir(a b:Int)(neg:Bool)(how:Int):Bool:=
 let q:=IntKind.u64.wrap (a.tdiv b);let r:=a.tmod b
 (r==0||how==3)||((how==1&& !neg)||(how==2&&neg))||(how==4&&(decide (IntKind.u64.wrap (2*r)<b)||(IntKind.u64.wrap (2*r)==b&&q.tmod 2==0)))
def tu(a b:Int)(neg:Bool)(how:Int):Int:=bif ir a b neg how then IntKind.u64.wrap (a.tdiv b)else IntKind.u64.wrap (IntKind.u64.wrap (a.tdiv b)+1)
end Go.Proofs.YtpeecnpmcbnahaaGreatDoor
