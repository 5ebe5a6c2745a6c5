/-
  Part 9 of the proof: Sorts, AbsWs, AbsDl, AbsTm, AbsUnr, AbsOT, IterB, RndD.
-/
import Derived.Test.YtnnapanbbbcalaaGreatDoorPr8
import Derived.WalkKit
import Derived.Shelf.Sort.Plain
import Derived.Shelf.Slices.CompactS
import Derived.Shelf.Slices.In.SortNone
import Derived.Sort.OwnSorted
import Derived.LoopNIn
namespace Go.Proofs.YtnnapanbbbcalaaGreatDoor
open Go.RowKit Go.Shelf
set_option maxRecDepth 100000
set_option linter.unusedVariables false
def ahZ:Ren where
 f:=fun
  |190=>256
  |125=>291
  |258=>290
  |128=>318
  |129=>319
  |302=>309
  |303=>310
  |304=>311
  |305=>312
  |306=>313
  |307=>314
  |308=>315
  |309=>316
  |310=>317
  |333=>324
  |329=>325
  |330=>326
  |334=>327
  |335=>328
  |336=>329
  |344=>331
  |n=>n
 t:=fun
  |31=>22
  |9=>9
  |3=>3
  |46=>250
  |0=>0
  |51=>300
  |53=>193
  |4=>4
  |183=>293
  |182=>292
  |131=>177
  |5=>5
  |218=>305
  |222=>309
  |228=>317
  |229=>318
  |n=>n
 g:=λn=>n
theorem X9:Lays.n190 Tryz.prog ahZ:=by
 constructor<;>first|kernel_rfl|(intro w;rfl)
def acG:Ren where
 f:=fun
  |194=>257
  |n=>n
 t:=fun
  |31=>22
  |n=>n
 g:=λn=>n
theorem Wc:Lays.n194 Tryz.prog acG:=by
 constructor<;>first|kernel_rfl|(intro w;rfl)
def kI(ss:ak4 ak5):ak4 (ak4 UInt8):=(ss.map bL).mergeSort λx y=>decide (x<=y)
def jQ(ss:ak4 ak5):ak4 ak5:=(Lib.compact (kI ss)).map λl=>⟨l.toArray⟩
theorem W9(ss:ak4 ak5):(kI ss).length=ss.length:=by unfold kI;rw[List.length_mergeSort,akl]
theorem aiC(p:ak6 Addr)(cap:Nat)(w:ak9):Calls Tryz.prog 195 #[.slice p 0 cap] w λe w'=>e= .returned (.slice p 0 cap)/\w'=w:=by
 have J:Calls Tryz.prog 256 #[.slice p 0 cap] w λe w'=>e= .returned (.tuple #[])/\w'=w:=Any.slices_Sort_string_none X9 p cap w;have h2:Calls Tryz.prog 257 #[.slice p 0 cap] w λe w'=>e= .returned (.slice p 0 cap)/\w'=w:=Any.slices_Compact_string_empty Wc p cap w
 go_enter Tryz.func195,Tryz.ntmps195
 go_wp2_with (first|(go_at_call 256;refine J.mono ?_;rintro e w' ⟨rfl,rfl⟩)|(go_at_call 257;refine h2.mono ?_;rintro e w' ⟨rfl,rfl⟩))
 go_ret
 exact⟨rfl,rfl⟩
theorem ajZ{w:ak9}{g:Nat}{cur:Array ak8}{e:TypeId}{fr:Nat×Nat}(hb:w.heap[g]?=some (.cells cur e fr))(i:Nat):w.cell? ⟨g,i,none⟩=cur[i]?:=by
 simp only[World.cell?,hb,Option.isSome_none,Bool.false_eq_true,if_false]
theorem SM(zs:ak4 (ak4 UInt8)):(Lib.compact zs).length<=zs.length:=by
 have h:∀m,(Lib.compactUpTo zs.toArray m).length<=m:=by
  intro m
  induction m with
  |zero=>exact akr _
  |succ m ih=>
   rw[Lib.compactUpTo_succ,akh];split
   ·simp only[akj,aks];omega
   ·simp only[aks];omega
 exact h zs.length
theorem ai8(g cap:Nat)(ss:ak4 ak5)(cur:Array ak8)(w:ak9)(hb:w.heap[g]?=some (.cells cur 9 (0,0)))(ht:cur.toList.take ss.length=(ss.map bL).map encStr)(hc:cur.size=cap)(jD:ss.length<=cap)(hm:cap<=maxLen)(ic:ss.length<4611686018427387904):
 Calls Tryz.prog 195 #[.slice (some ⟨g,0,none⟩) ss.length cap] w λe w'=>e= .returned (.slice (some ⟨g,0,none⟩) (jQ ss).length cap)/\w.grownBy w' (some g)/\∀(i:Nat)(s:ak5),(jQ ss)[i]?=some s->w'.cell? ⟨g,i,none⟩=some (.string s):=by
 have hg:g<w.heap.size:=(akv.1 hb).1;have hzl:=W9 ss;obtain⟨SW,Vs⟩:∃SW:ak9->Prop,SW=λw'=>∃n os,w'=Sort.grow (Sort.putRow encStr (Sort.ahead w n) g 0 (kI ss).toArray) os:=⟨_,rfl⟩;have J:Calls Tryz.prog 256 #[.slice (some ⟨g,0,none⟩) ss.length cap] w λe w'=>e= .returned (.tuple #[])/\SW w':=by
  have h:=Any.slices_Sort_string X9 g 0 cap (ss.map bL) w (holds_of_block hb (by rw[akl];exact ht)) hg (by rw[akl];exact ic);rw[akl]at h;rw[Vs];exact h
 have h2:∀w1,SW w1->Calls Tryz.prog 257 #[.slice (some ⟨g,0,none⟩) ss.length cap] w1 λe w'=>e= .returned (.slice (some ⟨g,0,none⟩) (jQ ss).length cap)/\(w.grownBy w' (some g)/\∀(i:Nat)(s:ak5),(jQ ss)[i]?=some s->w'.cell? ⟨g,i,none⟩=some (.string s)):=by
  intro w1 hw;rw[Vs]at hw;obtain⟨n,os,rfl⟩:=hw;have iR:=heap_sorted (n:=n) (os:=os) (kI ss).toArray hb;have yI:=grownBy_sorted (w:=w) (g:=g) (n:=n) (os:=os) (kI ss).toArray;have eY:(Sort.putCells encStr 0 (kI ss).toArray cur).size=cur.size:=by simp [Sort.putCells]
  have ht1:=take_putCells cur (kI ss) (by omega);generalize Sort.grow (Sort.putRow encStr (Sort.ahead w n) g 0 (kI ss).toArray) os=w1 at*;generalize Sort.putCells encStr 0 (kI ss).toArray cur=QM at*;have h:=Any.slices_Compact_string Wc g 0 cap (kI ss) w1 (holds_of_block iR ht1) (by unfold maxLen at hm;omega) (by omega);rw[hzl]at h;refine h.mono λe w' hp=> ?_;obtain⟨rfl,q,rfl⟩:=hp;have hk:(jQ ss).length=(Lib.compact (kI ss)).length:=by unfold jQ;rw[akl]
  refine⟨by rw[hk],?_⟩;obtain⟨ys,jo⟩:∃ys,ys=Lib.compact (kI ss)++List.replicate (ss.length-(Lib.compact (kI ss)).length) []:=⟨_,rfl⟩;rw[<-jo];have oh:ys.length<=QM.size:=by
   have:=SM (kI ss);rw[jo,akh,akQ];omega
  have zB:=grownBy_sorted (w:=w1) (g:=g) (n:=q) (os:= #[]) ys.toArray;have kg:=heap_sorted (n:=q) (os:= #[]) ys.toArray iR;rw[Sort.grow_empty]at zB kg;have YF:=take_putCells QM ys oh;refine⟨⟨zB.os.trans yI.os,zB.tape.trans yI.tape,zB.output.trans yI.output,aky yI.size zB.size,λk hk cN=>(zB.block k (akE hk yI.size) cN).trans (yI.block k hk cN)⟩,λi s hi=> ?_⟩;rw[ajZ kg i];unfold jQ at hi;rw[akn]at hi;cases hq:(Lib.compact (kI ss))[i]? with
  |none=>rw[hq]at hi;cases hi
  |some l=>
   rw[hq]at hi;cases hi;have jh:=(akg.1 hq).1;have hy:ys[i]?=some l:=by rw[jo,akq jh];exact hq
   have:=congrArg (λl:ak4 ak8=>l[i]?) YF;rw[List.getElem?_take_of_lt (akg.1 hy).1,akn,hy,akD]at this;exact this
 go_enter Tryz.func195,Tryz.ntmps195
 go_wp2_with (first|(go_at_call 256;refine J.mono ?_;rintro e w1 ⟨rfl,ye⟩)|(go_at_call 257;refine(h2 _ ye).mono ?_;rintro e w2 ⟨rfl,Mi⟩))
 go_ret
 exact⟨rfl,Mi⟩
theorem abu:jQ []=[]:=by kernel_rfl
theorem R3{G:Gh}{w:ak9}{B:ao}(hi:bU G w [B]):bU G w [.gone]:=by
 refine⟨hi.len,hi.z,hi.S,λn C hC=> ?_,λm n b J h2=> ?_,hi.gl⟩
 ·match n,hC with
  |0,hC=>cases hC;exact trivial
  |n+1,hC=>simp at hC
 ·match m,J with
  |0,J=>cases J
  |m+1,J=>simp [bR]at J
theorem ad9{xs:ak4 ak5}{L:Nat}(hL:xs.length=L)(ic:L<4611686018427387904):
 cZ Tryz.prog 195 [.vec 0 0 L L 1] [.vec 9 1 (ck (cW xs))] λr1 J=>r1= .d (.sl (cW (jQ xs)))/\J=[.gone]:=by
 refine⟨by kernel_rfl,λG w vs hinv hvs hr=> ?_⟩;have mh:([ao.vec 9 1 (ck (cW xs))]:ak4 ao)[0]?=some (.vec 9 1 (ck (cW xs))):=rfl;have oV:(ck (cW xs)).length=L:=by rw[DE,fR,hL]
 obtain⟨v0,rfl⟩:∃v0,vs= #[v0]:=by
  obtain⟨l⟩:=vs
  match l,hvs with
  |[a],_=>exact⟨a,rfl⟩
 have r0:=hr 0 v0 _ rfl rfl;obtain⟨xZ,⟨A,cc,rfl,q2,q3,q4,q5⟩,_⟩:=r0.rY hinv mh oV;by_cases h0:L=0
 ·subst h0;obtain rfl:xs=[]:=List.eq_nil_of_length_eq_zero hL;refine(aiC A cc w).mono λe w' hp=> ?_;obtain⟨rfl,rfl⟩:=hp;refine⟨_,G,_,_,rfl,bP.refl _ _ _,akr _,R3 hinv,?_,rfl,rfl⟩;rw[abu];exact .d (.sl A 0 0 cc 1 [] (λ_ _=>undef) (λh=>absurd rfl h) (Nat.zero_le _) q3 (λ_ h=>by cases h) (λ_ _ h=>absurd h (akI _)) λ_ _ _ _ h=>by simp at h)
 ·obtain⟨g,cap,s1,rfl,s3⟩:=q5 (by omega);obtain⟨g',Bb,cur,t1,t2,t3,t4,t5,t6,t7,t8,t9⟩:=CF hinv mh (λe=>by rw[e]at oV;simp at oV;omega);rw[t2,oV]at s1;cases s1
  have hcc:cc=cap:=by omega
  subst hcc;rw[oV]at t5;rw[Nat.mul_one]at t7;have hg:g<w.heap.size:=(akv.1 t4).1;have ht:cur.toList.take xs.length=(xs.map bL).map encStr:=by
   apply List.ext_getElem?;intro j;by_cases hj:j<xs.length
   ·have hx:xs[j]?=some xs[j]:=akk hj;have SS:j<cur.size:=by omega
    have hu:cur[j*1+0]?=some cur[j]:=by rw[Nat.mul_one,Nat.add_zero];exact akC SS
    have:=(t9 j 0 [.d (.v (.string xs[j]))] (.d (.v (.string xs[j]))) cur[j] (KC (mo hx)) rfl hu).val;rw[List.getElem?_take_of_lt hj,akD,akC SS,this,akn,akn,hx];rfl
   ·rw[List.getElem?_take_eq_none (by omega),akM (by simp;omega)]
  have hw:=ai8 g cc xs cur w t4 ht t7 (by omega) t6 (by omega);rw[hL]at hw;rw[show(⟨g,0*1,none⟩:Addr)=⟨g,0,none⟩from rfl];refine hw.mono λe w' hp=> ?_;obtain⟨rfl,gb,hJ⟩:=hp;have hK:(jQ xs).length<=L:=by
   have:=SM (kI xs);rw[W9]at this;unfold jQ;rw[akl];omega
  have hE:bP G.N G w (G.oK g (jQ xs).length) w':=
   ⟨gb.size,λ_ _ h=> .inl h,λb o hs=>by
    have cN:some b≠some g:=λe=>by cases e;exact t8 o hs
    unfold World.cell?;rw[gb.block b (hinv.S b o hs) cN],λ_ _=>rfl,λ_ _=> .inl ⟨rfl,rfl⟩,gQ rfl,λb hb=>gb.block b (hinv.z b hb) (λe=>by cases e;exact t3 hb),gb.os,gb.tape,gb.output,λb o hs=>hs.imp id fun⟨e,_⟩ hz=>t3 (e▸hz)⟩
  have hI:bU (G.oK g (jQ xs).length) w' [.gone]:=by
   have hi:=R3 hinv;refine⟨hi.len,λb hb=>akE (hi.z b hb) gb.size,λb o hs=> ?_,λn C hC=> ?_,λm n b J h2=> ?_,hi.gl.keep hE⟩
   ·rcases hs with hs|⟨rfl,_⟩
    ·exact akE (hi.S b o hs) gb.size
    ·exact akE hg gb.size
   ·match n,hC with
    |0,hC=>cases hC;exact trivial
    |n+1,hC=>simp at hC
   ·match m,J with
    |0,J=>cases J
    |m+1,J=>simp [bR]at J
  have vA:Rd (G.oK g (jQ xs).length).S w' 1 (cW (jQ xs)) ((jQ xs).map Value.string):=
   ⟨by rw[akl,fR,Nat.mul_one],λx hx=>(by rw[mn]at hx;obtain⟨y,_,rfl⟩:=List.mem_map.1 hx;rfl),λu hu=>(by obtain⟨y,_,rfl⟩:=List.mem_map.1 hu;rfl),λi j x d hx hd=>by
    rw[mn,akn]at hx;cases hk:(jQ xs)[i]? with
    |none=>rw[hk]at hx;cases hx
    |some y=>
     rw[hk]at hx;cases hx;cases j with
     |zero=>cases hd;exact⟨.string y,by rw[Nat.mul_one,Nat.add_zero,akn,hk];rfl, .v _⟩
     |succ j=>cases hd⟩
  have hp:=vA.Cm g cc (by rw[fR];omega) t6 (λo ho=> .inr ⟨rfl,by rw[fR,Nat.mul_one]at ho;exact ho⟩) (λo u hu=>by
   rw[akn]at hu;cases hq:(jQ xs)[o]? with
   |none=>rw[hq]at hu;cases hu
   |some y=>rw[hq]at hu;cases hu;exact hJ o y hq)
  rw[fR]at hp;exact⟨_,_,_,_,rfl,hE,akr _,hI, .d hp,rfl,rfl⟩
end Go.Proofs.YtnnapanbbbcalaaGreatDoor
namespace Go.Proofs.YtnnapanbbbcalaaGreatDoor
open Go.RowKit
set_option linter.unusedSimpArgs false
set_option linter.unusedVariables false
structure DL{α:Type}(f:List α->List (List D))(k:Nat):Prop where
 len:∀l,(f l).length=l.length
 all:∀l,∀c∈f l,c.length=k
 app:∀a b,f a++f b=f (a++b)
section
variable {P:ak7} {α:Type} {f:ak4 α->ak4 (ak4 D)} {k de:Nat}
theorem IJ{n:Nat}(hb:0<de)(h:Nat.ble (n*de) 140737488355328=true):n<=maxLen/\n*de<=140737488355328:=by
 have J:=ako h;have h2:n*1<=n*de:=Nat.mul_le_mul_left n hb;refine⟨?_,J⟩;unfold maxLen;omega
def oA(F:DL f k)(A B:ak4 α)(h:Nat.ble ((A.length+B.length)*de) 140737488355328=true)(hb:0<de:=by decide):Ob P:=
 ⟨_,_, .app (xs:=f A) (ys:=f B) (zs:=f (A++B)) (len:=A.length) (n:=(A++B).length) (F.len A).symm (F.all A) (F.all B) (by rw[F.len,F.len];exact(IJ hb h).1) (by rw[F.len,F.len];exact(IJ hb h).2) (F.app A B) (by rw[F.len,F.len,akh])⟩
def oZ(F:DL f k)(B:ak4 α)(h:Nat.ble ((0+B.length)*de) 140737488355328=true)(hb:0<de:=by decide):Ob P:=
 ⟨_,_, .app (xs:=[]) (ys:=f B) (zs:=f B) (len:=0) (n:=B.length) rfl (λ_ hc=>absurd hc akW) (F.all B) (by rw[F.len];exact(IJ hb h).1) (by rw[F.len];exact(IJ hb h).2) rfl (by rw[F.len];exact akA _)⟩
end
section
variable {P:ak7} {f:FuncId} {eX:ak4 AV} {H H':ak4 ao} {r:AV}
def oQ(lN:ak4 AV)(h:ak4 ao)(l:ak4 Nat)(hc:cZ P f eX H λr1 J=>r1=r/\J=H)(ha:lN=eX.map (AV.aH (rn l 0)):=by kernel_rfl)(hd:om l=true:=by kernel_rfl)(hb:l.map (λj=>h[j]?)=H.map (λB=>some (B.aH (rn l 0))):=by kernel_rfl)(hl:(eX.all (AV.aC H.length)&&H.all (ao.aC H.length)&&r.aC H.length)=true:=by kernel_rfl):Ob P:=⟨_,_, .rq ha hd hb hl hc⟩
def oR(lN:ak4 AV)(h:ak4 ao)(l:ak4 Nat)(hc:cZ P f eX H λr1 J=>r1=r/\J=H')(ha:lN=eX.map (AV.aH (rn l h.length)):=by kernel_rfl)(hd:om l=true:=by kernel_rfl)(hb:l.map (λj=>h[j]?)=H.map (λB=>some (B.aH (rn l h.length))):=by kernel_rfl)(hl:(eX.all (AV.aC H.length)&&H.all (ao.aC H.length))=true:=by kernel_rfl):Ob P:=⟨_,_, .mK ha hd hb hl hc⟩
def oX(tw:VD H)(hv:VD H')(lN:ak4 AV)(h:ak4 ao)(l:ak4 Nat)(hc:cZ P f eX H λr1 J=>r1=r/\J=H')(ha:lN=eX.map (AV.aH (rn l h.length)):=by kernel_rfl)(hd:om l=true:=by kernel_rfl)(hb:l.map (λj=>h[j]?)=H.map (λB=>some (B.pI (rn l h.length))):=by kernel_rfl)(hl:(eX.all (AV.aC H.length)&&H.all (ao.sK H.length))=true:=by kernel_rfl):Ob P:=⟨_,_, .Nh tw hv ha hd hb hl hc⟩
end
section
variable {P:ak7} {r:ak6 Nat} {N0:Nat} {Q:Exit->St->Prop} {w0:WO}
theorem Fw{α:Type}{f:ak4 α->ak4 (ak4 D)}{z:Nat}(F:DL f z)(k:Nat)(l:ak4 α)(h:l.length<=maxLen->GW P r N0 Q w0)(hx:(bw (wS w0).t k).fF=some (f l):=by kernel_rfl):GW P r N0 Q w0:=
 afG k (f l) hx λe=>h (qz (F.len l) e)
theorem SR{α:Type}{f:ak4 α->ak4 (ak4 D)}{z:Nat}(F:DL f z)(b i:Nat)(l:ak4 α)(h:l.length<=maxLen->GW P r N0 Q w0)(hx:(((wS w0).h[b]?).bind λB=>match B with| .cells cs=>(cs[i]?).bind AV.fF|_=>none)=some (f l):=by kernel_rfl):GW P r N0 Q w0:=
 gw_okB b i (f l) hx λe=>h (qz (F.len l) e)
structure nZ{α ι R:Type}(k:Nat)(live:List Nat)(m:Nat)(L:List α)(st:Nat->ι->St)(G:List α->Nat->ι->Option R)(rr:R)(n:Nat)(x:α)(l:List α)(i:ι)(f:St->Prop):Prop where
 h:FP k live m (λz:Nat×List α×ι=>st z.1 z.2.2) (λz=>L.drop z.1=z.2.1/\G z.2.1 z.1 z.2.2=some rr) (λz=>z.2.1.length) (n,x::l,i) f
structure sG{ι R:Type}(k:Nat)(live:List Nat)(m:Nat)(st:ι->St)(G:Nat->ι->Option R)(rr:R)(d:Nat)(f:St->Prop):Prop where
 h:∀i,FP k live m (λz:Nat×ι=>st z.2) (λz=>G z.1 z.2=some rr) (λz=>z.1) (d+1,i) f
theorem IF(hm:P.follows .mixedOrders=true){α ι R:Type}{rr:R}(k:Nat)(az:ak4 (ak4 (Nat×Ob P)))(live:ak4 Nat)(m:Nat)(L:ak4 α)(st:Nat->ι->St)(G:ak4 α->Nat->ι->ak6 R)(i0:ι)(hI:G L 0 i0=some rr)
 (nil:∀n i,L.drop n=[]->G [] n i=some rr->∀f:St->Prop,GW P r N0 Q (hY k f (st n i) (wk P w0 az)))
 (cons:∀n x l i,L.drop n=x::l->G (x::l) n i=some rr->∀f:St->Prop,nZ k live m L st G rr n x l i f->GW P r N0 Q (hY k f (st n i) (wk P w0 az)))
 (hN:N0<=m) (e:lf live m (wk P w0 az)=some (st 0 i0,ep az)):GW P r N0 Q w0:=by
 refine D8 hm k az live m (λz:Nat×ak4 α×ι=>st z.1 z.2.2) (λz=>L.drop z.1=z.2.1/\G z.2.1 z.1 z.2.2=some rr) (λz=>z.2.1.length) (0,L,i0) ⟨rfl,hI⟩ (λz hz f hf=> ?_) hN e;obtain⟨n,l,i⟩:=z;obtain⟨J,h2⟩:=hz;cases l with
 |nil=>exact nil n i J h2 f
 |cons x l=>exact cons n x l i J h2 f ⟨hf⟩
theorem acd(hm:P.follows .mixedOrders=true){α ι R:Type}{rr:R}{live:ak4 Nat}{m k:Nat}{L:ak4 α}{st:Nat->ι->St}{G:ak4 α->Nat->ι->ak6 R}{n:Nat}{x:α}{l:ak4 α}{i:ι}{f:St->Prop}(hf:nZ k live m L st G rr n x l i f)(j:ι)(az:ak4 (ak4 (Nat×Ob P)))(hd:L.drop n=x::l)(hI:G l (n+1) j=some rr)(e1:j8 k (wK w0)=[f])(e:pf k live m (wk P w0 az)=some (st (n+1) j,ep az)):GW P r N0 Q w0:=
 CO hm hf.h (n+1,l,j) az ⟨ly hd,hI⟩ (ak2 _) e1 e
theorem VL(hm:P.follows .mixedOrders=true){ι R:Type}{rr:R}(k:Nat)(az:ak4 (ak4 (Nat×Ob P)))(live:ak4 Nat)(m:Nat)(st:ι->St)(G:Nat->ι->ak6 R)(d:Nat)(i0:ι)(hI:G d i0=some rr)(h0:∀i,G 0 i=none)
 (succ:∀d i,G (d+1) i=some rr->∀f:St->Prop,sG k live m st G rr d f->GW P r N0 Q (hY k f (st i) (wk P w0 az)))
 (hN:N0<=m) (e:lf live m (wk P w0 az)=some (st i0,ep az)):GW P r N0 Q w0:=by
 refine D8 hm k az live m (λz:Nat×ι=>st z.2) (λz=>G z.1 z.2=some rr) (λz=>z.1) (d,i0) hI (λz hz f hf=> ?_) hN e;obtain⟨d,i⟩:=z;cases d with
 |zero=>exact absurd ((h0 i).symm.trans hz) (by simp)
 |succ d=>exact succ d i hz f ⟨λj=>⟨λs' i' J h2 h3=>hf.h s' i' J h2 h3⟩⟩
theorem agq(hm:P.follows .mixedOrders=true){ι R:Type}{rr:R}{live:ak4 Nat}{m k:Nat}{st:ι->St}{G:Nat->ι->ak6 R}{d:Nat}{f:St->Prop}(hf:sG k live m st G rr d f)(j:ι)(az:ak4 (ak4 (Nat×Ob P)))(hI:G d j=some rr)(e1:j8 k (wK w0)=[f])(e:pf k live m (wk P w0 az)=some (st j,ep az)):GW P r N0 Q w0:=
 CO hm (hf.h j) (d,j) az hI (ak2 _) e1 e
theorem Gc{P:ak7}{f:FuncId}{fn:Func}{args:ak4 AV}{R:AV}(hf:P.funcs[f]?=some fn)(hw:GW P none 0 (kA P fn R) (yN fn args []))(hb:fn.body.isSome=true:=by kernel_rfl)(hn:(fn.name== "runtime.NumGoroutine")=false:=by kernel_rfl):fX P f args (·=R):=abj hf hb hn hw
theorem Cd{P:ak7}{f:FuncId}{fn:Func}{args:ak4 AV}{h H:ak4 ao}{R:AV}(m:Nat)(hf:P.funcs[f]?=some fn)(hw:GW P none h.length (tB P fn m R H) (yN fn args h))(hb:fn.body.isSome=true:=by kernel_rfl)(hn:(fn.name== "runtime.NumGoroutine")=false:=by kernel_rfl)(hm:h.length<=m:=by exact ako rfl):cZ P f args h λr1 J=>r1=R/\J=H:=abK m hf hb hn hm hw
variable {α A B C D' R:Type} {rr:R}
theorem Z4(hm:P.follows .mixedOrders=true)(k:Nat)(az:ak4 (ak4 (Nat×Ob P)))(live:ak4 Nat)(m:Nat)(L:ak4 α)(st:Nat->St)(G:ak4 α->Nat->ak6 R)(hI:G L 0=some rr)
 (nil:∀n,L.drop n=[]->G [] n=some rr->∀f:St->Prop,GW P r N0 Q (hY k f (st n) (wk P w0 az)))
 (cons:∀n x l,L.drop n=x::l->G (x::l) n=some rr->∀f:St->Prop,nZ k live m L (λn(_:Unit)=>st n) (λl n _=>G l n) rr n x l () f->GW P r N0 Q (hY k f (st n) (wk P w0 az)))
 (hN:N0<=m:=by exact ako rfl) (e:lf live m (wk P w0 az)=some (st 0,ep az):=by kernel_rfl):GW P r N0 Q w0:=
 IF hm k az live m L (λn(_:Unit)=>st n) (λl n _=>G l n) () hI (λn _=>nil n) (λn x l _=>cons n x l) hN e
theorem OR(hm:P.follows .mixedOrders=true)(k:Nat)(az:ak4 (ak4 (Nat×Ob P)))(live:ak4 Nat)(m:Nat)(L:ak4 α)(st:Nat->A->St)(G:ak4 α->Nat->A->ak6 R)(a0:A)(hI:G L 0 a0=some rr)
 (nil:∀n a,L.drop n=[]->G [] n a=some rr->∀f:St->Prop,GW P r N0 Q (hY k f (st n a) (wk P w0 az)))
 (cons:∀n x l a,L.drop n=x::l->G (x::l) n a=some rr->∀f:St->Prop,nZ k live m L st G rr n x l a f->GW P r N0 Q (hY k f (st n a) (wk P w0 az)))
 (hN:N0<=m:=by exact ako rfl) (e:lf live m (wk P w0 az)=some (st 0 a0,ep az):=by kernel_rfl):GW P r N0 Q w0:=
 IF hm k az live m L st G a0 hI nil cons hN e
theorem wl2(hm:P.follows .mixedOrders=true)(k:Nat)(az:ak4 (ak4 (Nat×Ob P)))(live:ak4 Nat)(m:Nat)(L:ak4 α)(st:Nat->A->B->St)(G:ak4 α->Nat->A->B->ak6 R)(a0:A)(b0:B)(hI:G L 0 a0 b0=some rr)
 (nil:∀n a b,L.drop n=[]->G [] n a b=some rr->∀f:St->Prop,GW P r N0 Q (hY k f (st n a b) (wk P w0 az)))
 (cons:∀n x l a b,L.drop n=x::l->G (x::l) n a b=some rr->∀f:St->Prop,nZ k live m L (λn(i:A×B)=>st n i.1 i.2) (λl n i=>G l n i.1 i.2) rr n x l (a,b) f->GW P r N0 Q (hY k f (st n a b) (wk P w0 az)))
 (hN:N0<=m:=by exact ako rfl) (e:lf live m (wk P w0 az)=some (st 0 a0 b0,ep az):=by kernel_rfl):GW P r N0 Q w0:=
 IF hm k az live m L (λn(i:A×B)=>st n i.1 i.2) (λl n i=>G l n i.1 i.2) (a0,b0) hI (λn i=>nil n i.1 i.2) (λn x l i=>cons n x l i.1 i.2) hN e
theorem wl3(hm:P.follows .mixedOrders=true)(k:Nat)(az:ak4 (ak4 (Nat×Ob P)))(live:ak4 Nat)(m:Nat)(L:ak4 α)(st:Nat->A->B->C->St)(G:ak4 α->Nat->A->B->C->ak6 R)(a0:A)(b0:B)(c0:C)(hI:G L 0 a0 b0 c0=some rr)
 (nil:∀n a b c,L.drop n=[]->G [] n a b c=some rr->∀f:St->Prop,GW P r N0 Q (hY k f (st n a b c) (wk P w0 az)))
 (cons:∀n x l a b c,L.drop n=x::l->G (x::l) n a b c=some rr->∀f:St->Prop,nZ k live m L (λn(i:A×B×C)=>st n i.1 i.2.1 i.2.2) (λl n i=>G l n i.1 i.2.1 i.2.2) rr n x l (a,b,c) f->GW P r N0 Q (hY k f (st n a b c) (wk P w0 az)))
 (hN:N0<=m:=by exact ako rfl) (e:lf live m (wk P w0 az)=some (st 0 a0 b0 c0,ep az):=by kernel_rfl):GW P r N0 Q w0:=
 IF hm k az live m L (λn(i:A×B×C)=>st n i.1 i.2.1 i.2.2) (λl n i=>G l n i.1 i.2.1 i.2.2) (a0,b0,c0) hI (λn i=>nil n i.1 i.2.1 i.2.2) (λn x l i=>cons n x l i.1 i.2.1 i.2.2) hN e
theorem wb(hm:P.follows .mixedOrders=true){ι:Type}{live:ak4 Nat}{m k:Nat}{L:ak4 α}{st:Nat->ι->St}{G:ak4 α->Nat->ι->ak6 R}{n:Nat}{x:α}{l:ak4 α}{i:ι}{f:St->Prop}(hf:nZ k live m L st G rr n x l i f)(j:ι)(az:ak4 (ak4 (Nat×Ob P)))(hd:L.drop n=x::l)(hI:G l (n+1) j=some rr)(e1:j8 k (wK w0)=[f]:=by kernel_rfl)(e:pf k live m (wk P w0 az)=some (st (n+1) j,ep az):=by kernel_rfl):GW P r N0 Q w0:=acd hm hf j az hd hI e1 e
theorem Yn(hm:P.follows .mixedOrders=true)(k:Nat)(az:ak4 (ak4 (Nat×Ob P)))(live:ak4 Nat)(m:Nat)(st:A->St)(G:Nat->A->ak6 R)(d:Nat)(a0:A)(hI:G d a0=some rr)
 (succ:∀d a,G (d+1) a=some rr->∀f:St->Prop,sG k live m st G rr d f->GW P r N0 Q (hY k f (st a) (wk P w0 az))) (h0:∀a,G 0 a=none:=by intros;rfl)
 (hN:N0<=m:=by exact ako rfl) (e:lf live m (wk P w0 az)=some (st a0,ep az):=by kernel_rfl):GW P r N0 Q w0:=
 VL hm k az live m st G d a0 hI h0 succ hN e
theorem wf2(hm:P.follows .mixedOrders=true)(k:Nat)(az:ak4 (ak4 (Nat×Ob P)))(live:ak4 Nat)(m:Nat)(st:A->B->St)(G:Nat->A->B->ak6 R)(d:Nat)(a0:A)(b0:B)(hI:G d a0 b0=some rr)
 (succ:∀d a b,G (d+1) a b=some rr->∀f:St->Prop,sG k live m (λ(i:A×B)=>st i.1 i.2) (λd i=>G d i.1 i.2) rr d f->GW P r N0 Q (hY k f (st a b) (wk P w0 az))) (h0:∀a b,G 0 a b=none:=by intros;rfl)
 (hN:N0<=m:=by exact ako rfl) (e:lf live m (wk P w0 az)=some (st a0 b0,ep az):=by kernel_rfl):GW P r N0 Q w0:=
 VL hm k az live m (λ(i:A×B)=>st i.1 i.2) (λd i=>G d i.1 i.2) d (a0,b0) hI (λi=>h0 i.1 i.2) (λd i=>succ d i.1 i.2) hN e
theorem wbf(hm:P.follows .mixedOrders=true){ι:Type}{live:ak4 Nat}{m k:Nat}{st:ι->St}{G:Nat->ι->ak6 R}{d:Nat}{f:St->Prop}(hf:sG k live m st G rr d f)(j:ι)(az:ak4 (ak4 (Nat×Ob P)))(hI:G d j=some rr)(e1:j8 k (wK w0)=[f]:=by kernel_rfl)(e:pf k live m (wk P w0 az)=some (st j,ep az):=by kernel_rfl):GW P r N0 Q w0:=agq hm hf j az hI e1 e
def zy(g:Nat)(t:ak6 Nat):ak4 Oper->Nat->ak4 Nat
 |[],_=>[]
 |o::l,j=>match o.guard with
  |some (g',_)=>bif g'==g then(3*j)::zy g t l (j+1)else zy g t l (j+1)
  |none=>match o.op,t with
   | .pick (.tmp c) _ _,some t'=>bif c==t' then(3*j+1)::zy g t l (j+1)else zy g t l (j+1)
   |_,_=>zy g t l (j+1)
def ajn(l:ak4 Oper)(g:Nat):ak6 Nat:=match l[g]? with
 |some o=>o.dst
 |none=>none
def EL:WO->ak4 Oper
 |some (.at (.region _ ops _) _ _,_)=>ops.toList
 |_=>[]
noncomputable def HI(ops:ak4 Oper)(sp si:ak4 (Nat×Ob P)):ak4 (Nat×Ob P):=so (sp.foldr (λx t=>os (zy x.1 (ajn ops x.1) ops 0) x.2 t) si)
theorem vB(hm:P.follows .mixedOrders=true)(Δ:ak4 (Nat×AV))(h':ak4 ao)(e:∃sp si:ak4 (Nat×Ob P),Et P (Δ.map (·.1)) (iA (HI (EL (wk P w0 [])) sp si)) (wk P w0 [])=some (Δ,h',iN (HI (EL (wk P w0 [])) sp si)))(k:GW P r N0 Q (s9 Δ h' (wk P w0 [])))(e0:ri (wk P w0 [])=some []:=by kernel_rfl):GW P r N0 Q w0:=
 aeq hm Δ h' (let ⟨_,_,h⟩:=e;⟨_,h⟩) k e0
theorem wj0(hm:P.follows .mixedOrders=true)(rr:R)(k:Nat)(az:ak4 (ak4 (Nat×Ob P)))(live:ak4 Nat)(m:Nat)(st:St)(G:ak6 R)
 (br:∀f:St->Prop,zT k live m (λ(_:Unit)=>st) (λ_=>G=some rr) f->GW P r N0 Q (GX k f (wk P w0 az)))
 (rest:G=some rr->GW P r N0 Q (FF st (wk P w0 az))) (hN:N0<=m:=by exact ako rfl) (e:Ba (wk P w0 az)=some (ep az):=by kernel_rfl):GW P r N0 Q w0:=
 FX hm k az live m (λ(_:Unit)=>st) (λ_=>G=some rr) br (λ_=>rest) hN e
theorem A3(hm:P.follows .mixedOrders=true)(rr:R)(k:Nat)(az:ak4 (ak4 (Nat×Ob P)))(live:ak4 Nat)(m:Nat)(st:A->St)(G:A->ak6 R)
 (br:∀f:St->Prop,zT k live m st (λa=>G a=some rr) f->GW P r N0 Q (GX k f (wk P w0 az)))
 (rest:∀a,G a=some rr->GW P r N0 Q (FF (st a) (wk P w0 az))) (hN:N0<=m:=by exact ako rfl) (e:Ba (wk P w0 az)=some (ep az):=by kernel_rfl):GW P r N0 Q w0:=
 FX hm k az live m st (λa=>G a=some rr) br rest hN e
def tr(i j n:Nat):Nat:=bif n==i then j else bif n==j then i else n
theorem Rl(i j n:Nat):tr i j (tr i j n)=n:=by
 unfold tr;cases J:n==i with
 |true=>
  rw[beq_iff_eq]at J;subst J;simp only[cond_true];cases h2:j==n with
  |true=>rw[beq_iff_eq]at h2;subst h2;rfl
  |false=>rw[akZ];rfl
 |false=>
  simp only[cond_false];cases h2:n==j with
  |true=>rw[beq_iff_eq]at h2;subst h2;simp only[cond_true];rw[akZ];rfl
  |false=>simp only[cond_false];rw[J,h2];rfl
theorem Pt{i j n k:Nat}(hi:i<k)(hj:j<k)(hn:n<k):tr i j n<k:=by
 unfold tr;cases n==i with
 |true=>exact hj
 |false=>cases n==j with
  |true=>exact hi
  |false=>exact hn
def ME(i j:Nat)(h:ak4 ao):ak4 ao:=match h[i]?,h[j]? with
 |some a,some b=>((h.set i b).set j a).map (ao.aH (tr i j))
 |_,_=>h
def Ut(i j:Nat)(s:St):St:=⟨s.n,s.t.map (λp=>(p.1,p.2.aH (tr i j))),ME i j s.h⟩
theorem WH(f:AV->AV)(hf:f .dead= .dead):∀(t:ak4 (Nat×AV))(i:Nat),bw (t.map λp=>(p.1,f p.2)) i=f (bw t i)
 |[],i=>by rw[List.map_nil];show AV.dead=f .dead;rw[hf]
 |(k,x)::t,i=>by
  rw[akF,kO,kO,WH f hf t i];by_cases h:i=k
  ·rw[if_pos h,if_pos h]
  ·rw[if_neg h,if_neg h]
theorem UE{i j:Nat}{s:St}(hi:i<s.h.length)(hj:j<s.h.length)(hNi:N0<=i)(hNj:N0<=j):iL N0 s (Ut i j s):=by
 have ei:s.h[i]?=some s.h[i]:=akk hi;have ej:s.h[j]?=some s.h[j]:=akk hj;have eh:(Ut i j s).h=((s.h.set i s.h[j]).set j s.h[i]).map (ao.aH (tr i j)):=by
  show ME i j s.h=_;unfold ME;rw[ei,ej]
 refine iL.aH (tr i j) (tr i j) rfl (by rw[eh];simp) (λn hn=>Pt hi hj hn) (λn hn=>Pt hi hj hn) (λn _=>Rl i j n) (λn _=>Rl i j n) (λn hn=> ?_) (λn _=> .inl ?_) λn hn=> ?_
 ·unfold tr;rw[show(n==i)=false from beq_eq_false_iff_ne.2 (by omega),show(n==j)=false from beq_eq_false_iff_ne.2 (by omega)];rfl
 ·exact WH (λx=>x.aH (tr i j)) rfl s.t n
 ·rw[eh,akn];refine congrArg (Option.map _) ?_;unfold tr;cases J:n==i with
  |true=>
   rw[beq_iff_eq]at J;subst J;simp only[cond_true];rw[akJ (by rw[List.length_set];exact hj),ei]
  |false=>
   simp only[cond_false];have oW:=beq_eq_false_iff_ne.1 J;cases h2:n==j with
   |true=>
    rw[beq_iff_eq]at h2;subst h2;simp only[cond_true];rw[akO (by omega),akJ hi,ej]
   |false=>
    have Jw:=beq_eq_false_iff_ne.1 h2;simp only[cond_false];rw[akO (by omega),akO (by omega)]
theorem W5{c:Code}{s s':St}(h:iL N0 s s')(k:bD P r N0 c Q s'):bD P r N0 c Q s:=⟨λG w a n hs hN=>by
 obtain⟨G1,hE,fK,eY⟩:=h G w a hN hs;exact wpIn_mono (k.run G1 w a n eY fK) λ_ _ _ hn=>hn.trans hE⟩
end
theorem jK:DL cW 1:=⟨λ_=>fR,λ_=>yL,λ_ _=>abv⟩
theorem lJ:DL bq 1:=⟨λ_=>fQ,λ_=>Cy,λ_ _=>Y2⟩
theorem tT:DL ga 2:=⟨λ_=>iZ,λ_=>SH,λ_ _=>ZG⟩
theorem ve:DL aN 2:=⟨λ_=>nI,λ_=>aeQ,λ_ _=>ajG⟩
theorem wU:DL dV 2:=⟨λ_=>lV,λ_=>KJ,λ_ _=>aeC⟩
theorem Vi:DL mH 5:=⟨λ_=>agm,λ_=>ahG,λ_ _=>afs⟩
theorem Bi:DL mz 3:=⟨λ_=>nS,λ_=>ajw,λ_ _=>ahv⟩
theorem mv:DL eW 2:=⟨λ_=>fy,λ_=>YR,λ_ _=>abD⟩
theorem m8:DL gx 3:=⟨λ_=>fO,λ_=>ahR,λ_ _=>dAxiss_app⟩
theorem GI:DL bk 8:=⟨λ_=>LO,λ_=>acy,λ_ _=>ajp⟩
theorem Wu:DL nL 1:=⟨λ_=>J8,λ_=>aju,λ_ _=>Zz⟩
theorem zl:DL jW 7:=⟨λ_=>lu,λ_=>acM,λ_ _=>ac6⟩
theorem pE:DL eJ 4:=⟨λ_=>fZ,λ_=>ajL,λ_ _=>ah8⟩
theorem ql:DL ig 13:=⟨λ_=>iO,λ_=>Zi,λ_ _=>Z3⟩
theorem ud:DL gD 22:=⟨λ_=>kp,λ_=>Lu,λ_ _=>afw⟩
abbrev KF(f:FuncId)(args:ak4 AV)(R:AV):Prop:=fX Tryz.prog f args (·=R)
abbrev KH(f:FuncId)(args:ak4 AV)(h:ak4 ao)(R:AV)(H:ak4 ao):Prop:=cZ Tryz.prog f args h λr1 J=>r1=R/\J=H
def KO{α:Type}(f:FuncId)(args:ak4 AV)(en:α->AV)(o:ak6 α):Prop:=∀r:α,o=some r->KF f args (en r)
def KP{α:Type}(f:FuncId)(args:ak4 AV)(h:ak4 ao)(en:α->AV)(eh:α->ak4 ao)(o:ak6 α):Prop:=∀r:α,o=some r->KH f args h (en r) (eh r)
def cK{α:Type}{f:FuncId}{args:ak4 AV}{en:α->AV}{o:ak6 α}{r:α}(k:KO f args en o)(h:o=some r):Ob Tryz.prog:=cL (k r h)
def IE{α:Type}(o:ak6 α)(G:α->Prop):Prop:=∀v,o=some v->G v
section
variable {α β:Type} {x:ak6 α} {G:α->Prop}
theorem au{x:ak6 β}{f:β->ak6 α}(k:∀a,x=some a->IE (f a) G):IE (Option.bind x f) G:=λv h=>
 have ⟨a,J,h2⟩:=bg h
 k a J v h2
theorem dh{c:Bool}(k:c=true->IE x G):IE (bif c then x else none) G:=λv h=>
 have ⟨J,h2⟩:=U1 h
 k J v h2
theorem aw{c:Bool}{a b:ak6 α}(t:c=true->IE a G)(f:c=false->IE b G):IE (bif c then a else b) G:=λv h=>bc h (λi j=>t i v j) λi j=>f i v j
theorem gE{α β γ:Type}{Φ:α->β->γ->Prop}{x:γ}(a:α)(b:β)(k:Φ a b x:=by kernel_rfl):IE (some x) λy=>∃a b,Φ a b y:=λv h=>sj h▸⟨a,b,k⟩
theorem c9{α β γ:Type}{Φ:α->ak4 β->γ->Prop}{o:ak6 γ}(x:β)(k:IE o λy=>∃a b,Φ a (x::b) y):IE o λy=>∃a b,Φ a b y:=λv h=>
 have ⟨a,b,c⟩:=k v h
 ⟨a,x::b,c⟩
theorem cr{α β γ:Type}{Φ:ak4 α->β->γ->Prop}{o:ak6 γ}(x:α)(k:IE o λy=>∃a b,Φ (x::a) b y):IE o λy=>∃a b,Φ a b y:=λv h=>
 have ⟨a,b,c⟩:=k v h
 ⟨x::a,b,c⟩
end
section
variable {α β:Type} {o:ak6 α} {x y:α} {r:ak6 Nat} {N0:Nat} {Q:α->Exit->St->Prop} {w0:WO}
theorem gA(az:ak4 (ak4 (Nat×Ob Tryz.prog)))(k:IE o λq=>q=y->GW Tryz.prog r N0 (Q q) (wk Tryz.prog w0 az))(e:ri (wk Tryz.prog w0 az)=some (ep az):=by kernel_rfl):IE o λq=>q=y->GW Tryz.prog r N0 (Q q) w0:=λv h q=>gp bB az (k v h q) e
theorem gR{en:α->AV}{fn:Func}(az:ak4 (ak4 (Nat×Ob Tryz.prog)))(e:qx Tryz.prog fn.results.toList (wk Tryz.prog w0 az)=some (en x,ep az):=by kernel_rfl):IE (some x) λq=>q=y->GW Tryz.prog r N0 (kA Tryz.prog fn (en q)) w0:=λv h _=>sj h▸wr bB az e
theorem gH{en:α->AV}{eh:α->ak4 ao}{fn:Func}{m:Nat}(az:ak4 (ak4 (Nat×Ob Tryz.prog)))(e:Eb Tryz.prog fn.results.toList m (wk Tryz.prog w0 az)=some ((en x,eh x),ep az):=by kernel_rfl):IE (some x) λq=>q=y->GW Tryz.prog r N0 (tB Tryz.prog fn m (en q) (eh q)) w0:=λv h _=>sj h▸l8 bB az e
theorem gG{x:ak6 β}{f:β->ak6 α}(Δ:β->ak4 (Nat×AV))(h':β->ak4 ao)(e:IE x λv=>∃sp si:ak4 (Nat×Ob Tryz.prog),Et Tryz.prog ((Δ v).map (·.1)) (iA (HI (EL (wk Tryz.prog w0 [])) sp si)) (wk Tryz.prog w0 [])=some (Δ v,h' v,iN (HI (EL (wk Tryz.prog w0 [])) sp si)))(k:∀v,IE (f v) λq=>q=y->GW Tryz.prog r N0 (Q q) (s9 (Δ v) (h' v) (wk Tryz.prog w0 [])))(e0:ri (wk Tryz.prog w0 [])=some []:=by kernel_rfl):IE (Option.bind x f) λq=>q=y->GW Tryz.prog r N0 (Q q) w0:=λv h q=>
 have ⟨a,J,h2⟩:=bg h
 vB bB (Δ a) (h' a) (e a J) (k a v h2 q) e0
theorem bj{c:Bool}{b:ak6 α}{en:α->AV}{fn:Func}(f:c=false->IE b λq=>q=y->GW Tryz.prog r N0 (kA Tryz.prog fn (en q)) w0)(e:∀h:c=true,qx Tryz.prog fn.results.toList (wk Tryz.prog w0 [[(0,bT h)],[]])=some (en x,ep (P:=Tryz.prog) [[(0,bT h)],[]]):=by intro h;kernel_rfl):IE (bif c then some x else b) λq=>q=y->GW Tryz.prog r N0 (kA Tryz.prog fn (en q)) w0:=aw (λh=>gR [[(0,bT h)],[]] (e h)) (f)
theorem mD{c:Bool}{b:ak6 α}{en:α->AV}{fn:Func}(f:c=false->IE b λq=>q=y->GW Tryz.prog r N0 (kA Tryz.prog fn (en q)) w0)(e:∀h:c=true,qx Tryz.prog fn.results.toList (wk Tryz.prog w0 [[(0,bF (cH h))],[]])=some (en x,ep (P:=Tryz.prog) [[(0,bF (cH h))],[]]):=by intro h;kernel_rfl):IE (bif c then some x else b) λq=>q=y->GW Tryz.prog r N0 (kA Tryz.prog fn (en q)) w0:=aw (λh=>gR [[(0,bF (cH h))],[]] (e h)) (f)
theorem lC{c:Bool}{b:ak6 α}{en:α->AV}{fn:Func}(f:c=true->IE b λq=>q=y->GW Tryz.prog r N0 (kA Tryz.prog fn (en q)) w0)(e:∀h:c=false,qx Tryz.prog fn.results.toList (wk Tryz.prog w0 [[(0,bF h)],[]])=some (en x,ep (P:=Tryz.prog) [[(0,bF h)],[]]):=by intro h;kernel_rfl):IE (bif c then b else some x) λq=>q=y->GW Tryz.prog r N0 (kA Tryz.prog fn (en q)) w0:=aw (f) (λh=>gR [[(0,bF h)],[]] (e h))
theorem ft{c:Bool}{b:ak6 α}{en:α->AV}{fn:Func}(f:c=true->IE b λq=>q=y->GW Tryz.prog r N0 (kA Tryz.prog fn (en q)) w0)(e:∀h:c=false,qx Tryz.prog fn.results.toList (wk Tryz.prog w0 [[(0,bT (dq h))],[]])=some (en x,ep (P:=Tryz.prog) [[(0,bT (dq h))],[]]):=by intro h;kernel_rfl):IE (bif c then b else some x) λq=>q=y->GW Tryz.prog r N0 (kA Tryz.prog fn (en q)) w0:=aw (f) (λh=>gR [[(0,bT (dq h))],[]] (e h))
theorem fU{c:Bool}{b:ak6 α}{en:α->AV}{fn:Func}(f:∀h:c=false,IE b λq=>q=y->GW Tryz.prog r N0 (kA Tryz.prog fn (en q)) (wk Tryz.prog w0 [[(0,bF h)],[]]))(e:∀h:c=true,qx Tryz.prog fn.results.toList (wk Tryz.prog w0 [[(0,bT h)],[]])=some (en x,ep (P:=Tryz.prog) [[(0,bT h)],[]]):=by intro h;kernel_rfl)(e2:∀h:c=false,ri (wk Tryz.prog w0 [[(0,bF h)],[]])=some (ep (P:=Tryz.prog) [[(0,bF h)],[]]):=by intro h;kernel_rfl):IE (bif c then some x else b) λq=>q=y->GW Tryz.prog r N0 (kA Tryz.prog fn (en q)) w0:=aw (λh=>gR [[(0,bT h)],[]] (e h)) (λh=>gA [[(0,bF h)],[]] (f h) (e2 h))
def t0{c:Bool}(h:c=true):Nat×Ob Tryz.prog:=(0,bT h)
def f0{c:Bool}(h:c=false):Nat×Ob Tryz.prog:=(0,bF h)
theorem li{w1:WO}(f:∀q,GW Tryz.prog r N0 (Q q) w1->GW Tryz.prog r N0 (Q q) w0)(k:IE o λq=>q=y->GW Tryz.prog r N0 (Q q) w1):IE o λq=>q=y->GW Tryz.prog r N0 (Q q) w0:=λv h q=>f v (k v h q)
theorem FH{w1:WO}{p:Prop}(f:∀q,(p->GW Tryz.prog r N0 (Q q) w1)->GW Tryz.prog r N0 (Q q) w0)(k:p->IE o λq=>q=y->GW Tryz.prog r N0 (Q q) w1):IE o λq=>q=y->GW Tryz.prog r N0 (Q q) w0:=λv h q=>f v λa=>k a v h q
theorem gT{β:Type}{f:ak4 β->ak4 (ak4 D)}{z:Nat}(F:DL f z)(k:Nat)(l:ak4 β)(h:l.length<=maxLen->IE o λq=>q=y->GW Tryz.prog r N0 (Q q) w0)(hx:(bw (wS w0).t k).fF=some (f l):=by kernel_rfl):IE o λq=>q=y->GW Tryz.prog r N0 (Q q) w0:=λv h2 q=>Fw F k l (λa=>h a v h2 q) hx
theorem gB{β:Type}{f:ak4 β->ak4 (ak4 D)}{z:Nat}(F:DL f z)(b i:Nat)(l:ak4 β)(h:l.length<=maxLen->IE o λq=>q=y->GW Tryz.prog r N0 (Q q) w0)(hx:(((wS w0).h[b]?).bind λB=>match B with| .cells cs=>(cs[i]?).bind AV.fF|_=>none)=some (f l):=by kernel_rfl):IE o λq=>q=y->GW Tryz.prog r N0 (Q q) w0:=λv h2 q=>SR F b i l (λa=>h a v h2 q) hx
theorem fw{f:FuncId}{fn:Func}{args:ak4 AV}{en:α->AV}(hf:Tryz.prog.funcs[f]?=some fn)(hw:∀{y},IE o λq=>q=y->GW Tryz.prog none 0 (kA Tryz.prog fn (en q)) (yN fn args []))(hb:fn.body.isSome=true:=by kernel_rfl)(hn:(fn.name== "runtime.NumGoroutine")=false:=by kernel_rfl):KO f args en o:=λr h=>Gc hf (hw r h rfl) hb hn
theorem fh{f:FuncId}{fn:Func}{args:ak4 AV}{h:ak4 ao}{en:α->AV}{eh:α->ak4 ao}(m:Nat)(hf:Tryz.prog.funcs[f]?=some fn)(hw:∀{y},IE o λq=>q=y->GW Tryz.prog none h.length (tB Tryz.prog fn m (en q) (eh q)) (yN fn args h))(hb:fn.body.isSome=true:=by kernel_rfl)(hn:(fn.name== "runtime.NumGoroutine")=false:=by kernel_rfl)(hm:h.length<=m:=by exact ako rfl):KP f args h en eh o:=λr q=>Cd m hf (hw r q rfl) hb hn hm
end
section
variable {α A B C D' R:Type} {rr:R} {r:ak6 Nat} {N0:Nat} {Q:R->Exit->St->Prop} {w0:WO}
theorem dP(k:Nat)(az:ak4 (ak4 (Nat×Ob Tryz.prog)))(live:ak4 Nat)(m:Nat){L:ak4 α}(st:Nat->St){G:ak4 α->Nat->ak6 R}
 (nil:∀n,L.drop n=[]->∀f:St->Prop,IE (G [] n) λq=>q=rr->GW Tryz.prog r N0 (Q q) (hY k f (st n) (wk Tryz.prog w0 az)))
 (cons:∀n x l,L.drop n=x::l->∀f:St->Prop,nZ k live m L (λn(_:Unit)=>st n) (λl n _=>G l n) rr n x l () f->IE (G (x::l) n) λq=>q=rr->GW Tryz.prog r N0 (Q q) (hY k f (st n) (wk Tryz.prog w0 az)))
 (hN:N0<=m:=by exact ako rfl) (e:lf live m (wk Tryz.prog w0 az)=some (st 0,ep az):=by kernel_rfl):IE (G L 0) λq=>q=rr->GW Tryz.prog r N0 (Q q) w0:=λv h q=>
 Z4 bB k az live m L st G (q▸h) (λn a2 b2 f=>q▸nil n a2 f rr b2 rfl) (λn x l a2 b2 f c2=>q▸cons n x l a2 f c2 rr b2 rfl) hN e
theorem fq(k:Nat)(az:ak4 (ak4 (Nat×Ob Tryz.prog)))(live:ak4 Nat)(m:Nat){L:ak4 α}(st:Nat->A->St){G:ak4 α->Nat->A->ak6 R}{a0:A}
 (nil:∀n a,L.drop n=[]->∀f:St->Prop,IE (G [] n a) λq=>q=rr->GW Tryz.prog r N0 (Q q) (hY k f (st n a) (wk Tryz.prog w0 az)))
 (cons:∀n x l a,L.drop n=x::l->∀f:St->Prop,nZ k live m L st G rr n x l a f->IE (G (x::l) n a) λq=>q=rr->GW Tryz.prog r N0 (Q q) (hY k f (st n a) (wk Tryz.prog w0 az)))
 (hN:N0<=m:=by exact ako rfl) (e:lf live m (wk Tryz.prog w0 az)=some (st 0 a0,ep az):=by kernel_rfl):IE (G L 0 a0) λq=>q=rr->GW Tryz.prog r N0 (Q q) w0:=λv h q=>
 OR bB k az live m L st G a0 (q▸h) (λn a1 a2 b2 f=>q▸nil n a1 a2 f rr b2 rfl) (λn x l a1 a2 b2 f c2=>q▸cons n x l a1 a2 f c2 rr b2 rfl) hN e
theorem Cu(k:Nat)(az:ak4 (ak4 (Nat×Ob Tryz.prog)))(live:ak4 Nat)(m:Nat){L:ak4 α}(st:Nat->A->B->St){G:ak4 α->Nat->A->B->ak6 R}{a0:A}{b0:B}
 (nil:∀n a b,L.drop n=[]->∀f:St->Prop,IE (G [] n a b) λq=>q=rr->GW Tryz.prog r N0 (Q q) (hY k f (st n a b) (wk Tryz.prog w0 az)))
 (cons:∀n x l a b,L.drop n=x::l->∀f:St->Prop,nZ k live m L (λn(i:A×B)=>st n i.1 i.2) (λl n i=>G l n i.1 i.2) rr n x l (a,b) f->IE (G (x::l) n a b) λq=>q=rr->GW Tryz.prog r N0 (Q q) (hY k f (st n a b) (wk Tryz.prog w0 az)))
 (hN:N0<=m:=by exact ako rfl) (e:lf live m (wk Tryz.prog w0 az)=some (st 0 a0 b0,ep az):=by kernel_rfl):IE (G L 0 a0 b0) λq=>q=rr->GW Tryz.prog r N0 (Q q) w0:=λv h q=>
 wl2 bB k az live m L st G a0 b0 (q▸h) (λn a1 b1 a2 b2 f=>q▸nil n a1 b1 a2 f rr b2 rfl) (λn x l a1 b1 a2 b2 f c2=>q▸cons n x l a1 b1 a2 f c2 rr b2 rfl) hN e
theorem gl3(k:Nat)(az:ak4 (ak4 (Nat×Ob Tryz.prog)))(live:ak4 Nat)(m:Nat){L:ak4 α}(st:Nat->A->B->C->St){G:ak4 α->Nat->A->B->C->ak6 R}{a0:A}{b0:B}{c0:C}
 (nil:∀n a b c,L.drop n=[]->∀f:St->Prop,IE (G [] n a b c) λq=>q=rr->GW Tryz.prog r N0 (Q q) (hY k f (st n a b c) (wk Tryz.prog w0 az)))
 (cons:∀n x l a b c,L.drop n=x::l->∀f:St->Prop,nZ k live m L (λn(i:A×B×C)=>st n i.1 i.2.1 i.2.2) (λl n i=>G l n i.1 i.2.1 i.2.2) rr n x l (a,b,c) f->IE (G (x::l) n a b c) λq=>q=rr->GW Tryz.prog r N0 (Q q) (hY k f (st n a b c) (wk Tryz.prog w0 az)))
 (hN:N0<=m:=by exact ako rfl) (e:lf live m (wk Tryz.prog w0 az)=some (st 0 a0 b0 c0,ep az):=by kernel_rfl):IE (G L 0 a0 b0 c0) λq=>q=rr->GW Tryz.prog r N0 (Q q) w0:=λv h q=>
 wl3 bB k az live m L st G a0 b0 c0 (q▸h) (λn a1 b1 c1 a2 b2 f=>q▸nil n a1 b1 c1 a2 f rr b2 rfl) (λn x l a1 b1 c1 a2 b2 f c2=>q▸cons n x l a1 b1 c1 a2 f c2 rr b2 rfl) hN e
theorem gb{ι:Type}{live:ak4 Nat}{m k:Nat}{L:ak4 α}{st:Nat->ι->St}{G:ak4 α->Nat->ι->ak6 R}{n:Nat}{x:α}{l:ak4 α}{i:ι}{f:St->Prop}(hf:nZ k live m L st G rr n x l i f)(j:ι)(az:ak4 (ak4 (Nat×Ob Tryz.prog)))(hd:L.drop n=x::l)(e1:j8 k (wK w0)=[f]:=by kernel_rfl)(e:pf k live m (wk Tryz.prog w0 az)=some (st (n+1) j,ep az):=by kernel_rfl):IE (G l (n+1) j) λq=>q=rr->GW Tryz.prog r N0 (Q q) w0:=λv h q=>wb bB hf j az hd (q▸h) e1 e
theorem HG(k:Nat)(az:ak4 (ak4 (Nat×Ob Tryz.prog)))(live:ak4 Nat)(m:Nat)(st:A->St)(G:Nat->A->ak6 R){d:Nat}{a0:A}
 (succ:∀d a,∀f:St->Prop,sG k live m st G rr d f->IE (G (d+1) a) λq=>q=rr->GW Tryz.prog r N0 (Q q) (hY k f (st a) (wk Tryz.prog w0 az))) (h0:∀a,G 0 a=none:=by intros;rfl)
 (hN:N0<=m:=by exact ako rfl) (e:lf live m (wk Tryz.prog w0 az)=some (st a0,ep az):=by kernel_rfl):IE (G d a0) λq=>q=rr->GW Tryz.prog r N0 (Q q) w0:=λv h q=>Yn bB k az live m st G d a0 (q▸h) (λd a1 b2 f c2=>q▸succ d a1 f c2 rr b2 rfl) h0 hN e
theorem Vd(k:Nat)(az:ak4 (ak4 (Nat×Ob Tryz.prog)))(live:ak4 Nat)(m:Nat)(st:A->B->St)(G:Nat->A->B->ak6 R){d:Nat}{a0:A}{b0:B}
 (succ:∀d a b,∀f:St->Prop,sG k live m (λ(i:A×B)=>st i.1 i.2) (λd i=>G d i.1 i.2) rr d f->IE (G (d+1) a b) λq=>q=rr->GW Tryz.prog r N0 (Q q) (hY k f (st a b) (wk Tryz.prog w0 az))) (h0:∀a b,G 0 a b=none:=by intros;rfl)
 (hN:N0<=m:=by exact ako rfl) (e:lf live m (wk Tryz.prog w0 az)=some (st a0 b0,ep az):=by kernel_rfl):IE (G d a0 b0) λq=>q=rr->GW Tryz.prog r N0 (Q q) w0:=λv h q=>wf2 bB k az live m st G d a0 b0 (q▸h) (λd a1 b1 b2 f c2=>q▸succ d a1 b1 f c2 rr b2 rfl) h0 hN e
theorem yP{ι:Type}{live:ak4 Nat}{m k:Nat}{st:ι->St}{G:Nat->ι->ak6 R}{d:Nat}{f:St->Prop}(hf:sG k live m st G rr d f)(j:ι)(az:ak4 (ak4 (Nat×Ob Tryz.prog)))(e1:j8 k (wK w0)=[f]:=by kernel_rfl)(e:pf k live m (wk Tryz.prog w0 az)=some (st j,ep az):=by kernel_rfl):IE (G d j) λq=>q=rr->GW Tryz.prog r N0 (Q q) w0:=λv h q=>wbf bB hf j az (q▸h) e1 e
theorem k8{o:ak6 R}(k:Nat)(az:ak4 (ak4 (Nat×Ob Tryz.prog)))(live:ak4 Nat)(m:Nat)(st:A->St)(G:A->ak6 R)
 (br:∀f:St->Prop,zT k live m st (λa=>G a=some rr) f->IE o λq=>q=rr->GW Tryz.prog r N0 (Q q) (GX k f (wk Tryz.prog w0 az)))
 (rest:∀a,IE (G a) λq=>q=rr->GW Tryz.prog r N0 (Q q) (FF (st a) (wk Tryz.prog w0 az))) (hN:N0<=m:=by exact ako rfl) (e:Ba (wk Tryz.prog w0 az)=some (ep az):=by kernel_rfl):IE o λq=>q=rr->GW Tryz.prog r N0 (Q q) w0:=λv h q=>A3 bB rr k az live m st G (λf a=>br f a v h q) (λa1 b2=>q▸rest a1 rr b2 rfl) hN e
theorem gm{ι:Type}{live:ak4 Nat}{m k:Nat}{st:ι->St}{G:ι->ak6 R}{f:St->Prop}(hf:zT k live m st (λi=>G i=some rr) f)(i:ι)(az:ak4 (ak4 (Nat×Ob Tryz.prog)))(e1:j8 k (wK w0)=[f]:=by kernel_rfl)(e:pf k live m (wk Tryz.prog w0 az)=some (st i,ep az):=by kernel_rfl):IE (G i) λq=>q=rr->GW Tryz.prog r N0 (Q q) w0:=λv h q=>kM bB hf i az (q▸h) e1 e
structure TL{ι R:Type}(k:Nat)(live:List Nat)(m:Nat)(ks:List Nat)(kn:List (Nat×Nat))(st:ι->St)(G:Nat->ι->Option R)(rr:R)(d:Nat)(f:St->Prop):Prop where
 h:∀i,Mc k live m ks kn (λz:Nat×ι=>st z.2) (λz=>G z.1 z.2=some rr) (λz=>z.1) (d+1,i) f
theorem ad6(k:Nat)(az:ak4 (ak4 (Nat×Ob Tryz.prog)))(live:ak4 Nat)(m:Nat)(ks:ak4 Nat)(kn:ak4 (Nat×Nat))(st:A->B->C->St)(G:Nat->A->B->C->ak6 R){d:Nat}{a0:A}{b0:B}{c0:C}
 (succ:∀d a b c,∀f:St->Prop,TL k live m ks kn (λ(i:A×B×C)=>st i.1 i.2.1 i.2.2) (λd i=>G d i.1 i.2.1 i.2.2) rr d f->IE (G (d+1) a b c) λq=>q=rr->GW Tryz.prog r N0 (Q q) (hY k f (st a b c) (wk Tryz.prog w0 az))) (h0:∀a b c,G 0 a b c=none:=by intros;rfl)
 (hN:N0<=m:=by exact ako rfl) (kx:ak4 (VE m):=[]) (e0:EC m (wk Tryz.prog w0 az)=kx.map VE.x:=by kernel_rfl) (e:JL live m ks kn (wk Tryz.prog w0 az)=some (st a0 b0 c0,ep az):=by kernel_rfl):IE (G d a0 b0 c0) λq=>q=rr->GW Tryz.prog r N0 (Q q) w0:=λv h q=>
 Zt bB k az live m ks kn (λz:Nat×(A×B×C)=>((λ(i:A×B×C)=>st i.1 i.2.1 i.2.2)) z.2) (λz=>((λd i=>G d i.1 i.2.1 i.2.2)) z.1 z.2=some rr) (λz=>z.1) (d,(a0,b0,c0)) (q▸h) (λz hz f hf=>by
  obtain⟨d,i⟩:=z;rw[q];cases d with
  |zero=>exact absurd ((h0 i.1 i.2.1 i.2.2).symm.trans hz) (by simp)
  |succ d=>exact succ d i.1 i.2.1 i.2.2 f ⟨λj=>⟨λs' i' z0 z1 z2 z3=>hf.h s' i' z0 z1 z2 z3⟩⟩ rr hz rfl) hN kx e0 e
theorem ajl{ι:Type}{live:ak4 Nat}{m k:Nat}{ks:ak4 Nat}{kn:ak4 (Nat×Nat)}{st:ι->St}{G:Nat->ι->ak6 R}{d:Nat}{f:St->Prop}(hf:TL k live m ks kn st G rr d f)(j:ι)(az:ak4 (ak4 (Nat×Ob Tryz.prog)))(e1:j8 k (wK w0)=[f]:=by kernel_rfl)(kx:ak4 (VE m):=[])(e0:EC m (wk Tryz.prog w0 az)=kx.map VE.x:=by kernel_rfl)(e:JS k live m ks kn (wk Tryz.prog w0 az)=some (st j,ep az):=by kernel_rfl):IE (G d j) λq=>q=rr->GW Tryz.prog r N0 (Q q) w0:=λv h q=>
 ab1 bB (hf.h j) (d,j) az (q▸h) (ak2 _) e1 kx e0 e
end
section
variable {P:ak7} {r:ak6 Nat} {N0:Nat} {Q:Exit->St->Prop} {c:Code}
def Cw(P:ak7)(r:ak6 Nat)(N0:Nat)(c:Code)(Q:Exit->St->Prop):Nat->St->Prop
 |0,_=>False
 |m+1,s=>bD P r N0 c (hO (Cw P r N0 c Q m) Q) s
theorem gd{m:Nat}{s:St}(h:bD P r N0 c (hO (Cw P r N0 c Q m) Q) s):Cw P r N0 c Q (m+1) s:=h
theorem Cc(m:Nat){s:St}(h:Cw P r N0 c Q m s):bD P r N0 (.loop c) Q s:=by
 constructor
 intro G0 w0 a0 n nr cw;refine wpIn_loop_rounds m ?_;have gen:∀(m:Nat)(s:St)(G:Gh)(w:ak9)(a:Act),Cw P r N0 c Q m s->db G w a s->N0<=G.N->bP N0 G0 w0 G w->Code.roundsIn (WF r) n P c (λe a' w'=>iv N0 G0 w0 (Q e) a' w') m a w:=by
  intro m
  induction m with
  |zero=>intro s G w a h _ _ _;exact h.elim
  |succ m ih=>
   intro s G w a h hs hN hE;refine wpIn_mono (bD.run h G w a n hs hN) λe a1 w1 hn=> ?_;obtain⟨G1,s1,hX,fK,eY,hq⟩:=hn;cases e with
   |normal=>exact ih s1 G1 w1 a1 hq eY fK (hE.trans hX)
   |_=>exact⟨G1,s1,hE.trans hX,fK,eY,hq⟩
 exact gen m s G0 w0 a0 h nr cw (bP.refl _ _ _)
end
theorem abd{α:Type}{f:α->ak4 D}{d0:α}{zs:ak4 AV}{n de:Nat}{l:Int}(hl:l=(n:Int))(hz:(f d0).map AV.d=zs)(h:n<=maxLen/\n*de<=140737488355328):
 0<=l/\l<=l/\l.toNat=n/\l.toNat=n/\ck ((List.replicate n d0).map f)=List.replicate n zs/\n<=maxLen/\de*n<=281474976710656:=by
 subst hl;refine⟨Int.natCast_nonneg _,Int.le_refl _,rfl,rfl,?_,h.1,?_⟩
 ·unfold ck;rw[List.map_replicate,List.map_replicate,hz]
 ·rw[Nat.mul_comm];exact aky h.2 (by decide)
inductive OT(P:Program) where
 |nil
 |node (k:Nat) (az:List (Nat×Ob P)) (sub next:OT P)
def OT.ps{P:ak7}:OT P->ak4 (In×cb)
 | .nil=>[]
 | .node _ az sub next=>iN az++(sub.ps++next.ps)
def OT.isNil{P:ak7}:OT P->Bool
 | .nil=>true
 |_=>false
def od(C:ak4 Nat)(L:Nat)(r:ak4 Nat):ak4 Nat:=match vZ C L r with
 |some k=>[k]
 |none=>r
def Fa{P:ak7}(A C:ak4 Nat)(f:ak4 Nat->Nat->ak4 Nat->St->ak6 (ak4 Lf×ak4 (In×cb)))(ad1:Bool)(al:ak4 Nat)(s:St)(L:Nat):ak6 (ak4 Lf×ak4 (In×cb)):=
 match oT A L 0 with
 |[]=>bif ad1 then some ([(s,al,[])],[])else none
 |k0::r=>f (od C L (k0::r)) L al s
def qN(P:ak7)(ops:Array Oper)(A C:ak4 Nat):OT P->Nat->ak4 Nat->Nat->ak4 Nat->St->ak6 (ak4 Lf×ak4 (In×cb))
 | .nil,_,cs,_,_,_=>match cs with
   |[]=>some ([],[])
   |_=>none
 | .node k az sub next,fuel,cs,L,al,s=>match cs with
   |[]=>none
   |c::cs=>match fuel with
    |0=>none
    |f+1=>bif k==c then(match ops[k]? with
     |some o=>bif CJ o (iy (iA az) (3*k+1))then(match mY P ops false o k (iA az) s with
      |some (s1,l)=>match (fN (L|||(1<<<k)) λL1=>Fa (P:=P) A C (qN P ops A C sub f) sub.isNil (al++List.replicate (s1.h.length-s.h.length) k) s1 L1)with
       |some (a,pa)=>match qN P ops A C next (f+1) cs L al s with
        |some (b,pb)=>some (a++b,l++(pa++pb))
        |none=>none
       |none=>none
      |none=>none)else none
     |none=>none)else none
section
variable {P:ak7} {ops:Array Oper} {K:St->Prop}
theorem V7(hK:qh K)(hM:ny (Region.before ops) ops=true){f L:Nat}{listed:Array Bool}{s:St}{k0:Nat}{r:ak4 Nat}(hL:LM ops L listed)(hD:Dn ops listed)(hr:oT (nV ops 0 ops.size) L 0=k0::r)
 (h:∀k∈od (jT ops true (Region.before ops) 0 ops.size) L (k0::r),∀o,ops[k]?=some o->∃y J,lR true P ops o s y J/\ku true P ops K f (listed.setIfInBounds k true) ((s.wh J).put o.dst y)):ku true P ops K (f+1) listed s:=by
 unfold od at h;cases hf:vZ (jT ops true (Region.before ops) 0 ops.size) L (k0::r)with
 |some k=>
  rw[hf]at h;obtain⟨kN,tP⟩:=Dj hf;have th:k∈Region.ready .any ops listed:=(hL.ready k).2 (by rw[hr];exact kN);have nF:k<ops.size:=by
    have:=(CX _ 0 k).1 (by rw[hr];exact kN);obtain⟨_,_,a,ha,_⟩:=this;rw[Bw]at ha;split at ha
    ·next h=>omega
    ·cases ha
  obtain⟨y,hh,q1,q2⟩:=h k akm ops[k] (akC nF);refine EW hK hM (akC nF) f listed s hD (λj oj hj cN oB qI=> ?_) th q1 q2;have An:=(akv.1 hj).1;have JC:Nat.testBit L j=false:=by
   rw[hL.b];have iC:j<listed.size:=by rw[hL.sz];exact An
   simpa [iC]using oB
  have m6:Nat.testBit (td ops true (Region.before ops) k) j=false:=by
   rw[<-Bool.not_eq_true];intro hc;have h5:(jT ops true (Region.before ops) 0 ops.size).getD k 0=td ops true (Region.before ops) k:=by
     rw[List.getD_eq_getElem?_getD,MF,if_pos nF,akA];rfl
   rw[h5]at tP;have:=congrArg (λn=>Nat.testBit n j) tP;simp only[Nat.testBit_or,hc,JC]at this;cases this
  unfold td at m6;rw[Bg]at m6;unfold Oj at m6;rw[qI,akC nF,hj]at m6;simp [An,cN]at m6;exact m6
 |none=>
  rw[hf]at h;have yF:k0∈Region.ready .any ops listed:=(hL.ready k0).2 (by rw[hr];simp);refine⟨λe=>(by rw[e]at yF;cases yF),λi hi oi Hb=> ?_⟩;exact h i (by rw[<-hr];exact(hL.ready i).1 hi) oi Hb
theorem ace(hK:qh K)(hM:ny (Region.before ops) ops=true)(t0:ak4 (Nat×AV))(n0:Nat):
 ∀(t:OT P)(fuel:Nat)(cs:ak4 Nat)(L:Nat)(listed:Array Bool)(al:ak4 Nat)(s:St)(ls:ak4 Lf)(ps:ak4 (In×cb)),LM ops L listed->Dn ops listed->(∀c∈cs,c∈Region.ready .any ops listed)->qN P ops (nV ops 0 ops.size) (jT ops true (Region.before ops) 0 ops.size) t fuel cs L al s=some (ls,ps)->fY P ps->(∃pre,s.t=pre++t0)->s.n=n0->
  (∀x∈ls,(∃pre,x.1.t=pre++t0)/\x.1.n=n0)/\((∀x∈ls,K x.1)->∀k∈cs,∀o,ops[k]?=some o->∃f,fuel=f+1/\∃y J,lR true P ops o s y J/\ku true P ops K f (listed.setIfInBounds k true) ((s.wh J).put o.dst y)):=by
 intro t
 induction t with
 |nil=>
  intro fuel cs L listed al s ls ps hL hD hc h ca hp hn;cases cs with
  |nil=>
   simp only[qN]at h;cases h
   exact⟨λx hx=>(by cases hx),λ_ k hk=>(by cases hk)⟩
  |cons=>simp [qN]at h
 |node k az sub next ihs ihn=>
  intro fuel cs L listed al s ls ps hL hD hc h ca hp hn;cases cs with
  |nil=>simp [qN]at h
  |cons c cs=>
   cases fuel with
   |zero=>simp [qN]at h
   |succ f=>
    rw[qN]at h;have h':=j7 h;clear h;obtain⟨Wv,h⟩:=h';rw[beq_iff_eq]at Wv;subst Wv;split at h
    ·next o ho=>
     have h':=j7 h;clear h;obtain⟨aaB,h⟩:=h';split at h
     ·next s1 l hg=>
      rw[xp]at h;split at h
      ·next a pa ha=>
       split at h
       ·next b pb hb=>
        cases h
        have hl:fY P l:=λp hp=>ca p (List.mem_append_left _ hp);have hpa:fY P pa:=λp hp=>ca p (List.mem_append_right _ (List.mem_append_left _ hp));have hpb:fY P pb:=λp hp=>ca p (List.mem_append_right _ (List.mem_append_right _ hp));have th:=hc k akm;have nF:=(akv.1 ho).1;obtain⟨vn,jY⟩:=ihn (f+1) cs L listed al s b pb hL hD (λc fM=>hc c (akp _ fM)) hb hpb hp hn;obtain⟨⟨p1,e1⟩,e2⟩:=Oc hg;have Q5:∃pre,s1.t=pre++t0:=by
         obtain⟨pre,e⟩:=hp;exact⟨p1++pre,by rw[e1,e,akx]⟩
        have TM:s1.n=n0:=e2.trans hn;have Cs:=hL.set nF;have zG:=hD.set th;have rR:(∀x∈a,(∃pre,x.1.t=pre++t0)/\x.1.n=n0)/\((∀x∈a,K x.1)->ku true P ops K f (listed.setIfInBounds k true) s1):=by
         unfold Fa at ha;split at ha
         ·next hr=>
          obtain⟨_,ha⟩:=j7 ha;cases ha
          have AW:Region.ready .any ops (listed.setIfInBounds k true)=[]:=by
           rw[List.eq_nil_iff_forall_not_mem];intro i hi;have:=(Cs.ready i).1 hi;rw[hr]at this;cases this
          refine⟨λx hx=>by rw[List.mem_singleton]at hx;subst hx;exact⟨Q5,TM⟩,λhk=> ?_⟩;have kN:=hk _ akm;cases f with
          |zero=>exact⟨AW,kN⟩
          |succ f=>exact⟨λ_=>kN,λi hi=>by rw[AW]at hi;cases hi⟩
         ·next k1 r hr=>
          have Ak:∀c∈od (jT ops true (Region.before ops) 0 ops.size) (L|||(1<<<k)) (k1::r),c∈Region.ready .any ops (listed.setIfInBounds k true):=by
           intro c fM;rw[Cs.ready,hr];unfold od at fM;split at fM
           ·next q hf=>
            rw[List.mem_singleton]at fM;subst fM;exact(Dj hf).1
           ·exact fM
          obtain⟨q1,q2⟩:=ihs f _ _ _ _ s1 a pa Cs zG Ak ha hpa Q5 TM;refine⟨q1,λhk=> ?_⟩;have cN:∃c,c∈od (jT ops true (Region.before ops) 0 ops.size) (L|||(1<<<k)) (k1::r):=by
           unfold od;split
           ·exact⟨_,akm⟩
           ·exact⟨_,akm⟩
          obtain⟨c0,uA⟩:=cN;have LC:c0<ops.size:=by
           have:=(CX _ 0 c0).1 ((Cs.ready c0).1 (Ak c0 uA));obtain⟨_,_,z,hz,_⟩:=this;rw[Bw]at hz;split at hz
           ·next h=>omega
           ·cases hz
          obtain⟨g,rfl,_⟩:=q2 hk c0 uA ops[c0] (akC LC);refine V7 hK hM Cs zG hr λk' iP o' mR=> ?_;obtain⟨g',e,y,J,h2,h3⟩:=q2 hk k' iP o' mR;cases e
          exact⟨y,J,h2,h3⟩
        refine⟨λx hx=>(akS.1 hx).elim (rR.1 x) (vn x),λhk k' iP o' mR=> ?_⟩;rcases akK.1 iP with rfl|iP
        ·rw[ho]at mR;cases mR;have h4:=Tr (K:=(·=s1)) hg hl rfl aaB;have h5:=rR.2 λx hx=>hk x (List.mem_append_left _ hx);rcases Hw h4 with⟨g,hd⟩|⟨g,hd⟩
         ·obtain⟨y,J,h2,h3⟩:=HZ hd;exact⟨f,rfl,y,J, .inl ⟨g,h2⟩,by rw[h3];exact h5⟩
         ·exact⟨f,rfl,_,s.h, .inr ⟨g,rfl,rfl⟩,by
           have e:(s.wh s.h).put o.dst (.d (.v undef))=s1:=hd;rw[e];exact h5⟩
        ·exact jY (λx hx=>hk x (List.mem_append_right _ hx)) k' iP o' mR
       ·cases h
      ·cases h
     ·cases h
    ·cases h
end
def Od(P:ak7)(ol:ak4 Oper)(t:OT P)(keep:ak4 Nat)(s:St):ak6 (ak4 (ak4 (Nat×AV)×ak4 ao×ak4 (In×cb))×ak4 (In×cb)):=
 bif ny (Region.before ol.toArray) ol.toArray then fL (nV ol.toArray 0 ol.toArray.size) λA=>fL (jT ol.toArray true (Region.before ol.toArray) 0 ol.toArray.size) λC=>
  match Fa (P:=P) A C (qN P ol.toArray A C t ol.toArray.size) t.isNil [] s 0 with
  |some (ls,ps)=>match DT keep s ls with
   |some r=>some (r,ps)
   |none=>none
  |none=>none
 else none
theorem aec{P:ak7}{ol:ak4 Oper}{t:OT P}{keep:ak4 Nat}{s:St}{Δ:ak4 (Nat×AV)}{h':ak4 ao}{m N0:Nat}{K:St->Prop}(h:Od P ol t keep s=some (List.replicate m (Δ,h',[]),t.ps))(ca:fY P t.ps)(hN:N0<=s.h.length)(pe:∀i,(bw s.t i).aC s.h.length=true)(hK:CC N0 K)(hk:K ⟨s.n,Δ++s.t,h'⟩):
 ku true P ol.toArray K ol.toArray.size (Array.replicate ol.toArray.size false) s:=by
 unfold Od at h;obtain⟨hM,h⟩:=j7 h;rw[wc,wc]at h;split at h
 ·next ls ps e1=>
  split at h
  ·next r JI=>
   cases h
   have hL:LM ol.toArray 0 (Array.replicate ol.toArray.size false):=⟨by simp,λi=>by
    rw[Nat.zero_testBit,Array.getD_eq_getD_getElem?,Array.getElem?_replicate];split<;>rfl⟩
   have hD:Dn ol.toArray (Array.replicate ol.toArray.size false):=λj o ho hj=>by
    exfalso;rw[Array.getD_eq_getD_getElem?]at hj;rw[Array.getElem?_replicate]at hj;split at hj<;>simp at hj
   have leaf:∀x∈ls,((∃pre,x.1.t=pre++s.t)/\x.1.n=s.n)->K x.1:=λx hx hb=>by
    obtain⟨a,ha,e2⟩:=KR JI x hx;rw[List.mem_replicate]at ha;obtain⟨_,rfl⟩:=ha;obtain⟨k1,_⟩:=Sb (P:=P) (ops:=ol.toArray) e2 hN pe hb.2 hb.1 (λp hp=>by cases hp);exact hK _ _ k1 hk
   unfold Fa at e1;split at e1
   ·next hr=>
    obtain⟨_,e1⟩:=j7 e1;have e3:=Prod.mk.inj (akz e1);obtain⟨e3,_⟩:=e3;subst e3;have AW:Region.ready .any ol.toArray (Array.replicate ol.toArray.size false)=[]:=by
     rw[List.eq_nil_iff_forall_not_mem];intro i hi;have:=(hL.ready i).1 hi;rw[hr]at this;cases this
    have kN:=leaf _ akm ⟨⟨[],rfl⟩,rfl⟩;generalize hf:ol.toArray.size=f at*;cases f with
    |zero=>exact⟨AW,kN⟩
    |succ f=>exact⟨λ_=>kN,λi hi=>by rw[AW]at hi;cases hi⟩
   ·next k1 r' hr=>
    have Ak:∀c∈od (jT ol.toArray true (Region.before ol.toArray) 0 ol.toArray.size) 0 (k1::r'),c∈Region.ready .any ol.toArray (Array.replicate ol.toArray.size false):=by
     intro c fM;rw[hL.ready,hr];unfold od at fM;split at fM
     ·next q hf=>
      rw[List.mem_singleton]at fM;subst fM;exact(Dj hf).1
     ·exact fM
    obtain⟨q1,q2⟩:=ace (K:=K) hK.c hM s.t s.n t _ _ _ _ _ s ls _ hL hD Ak e1 ca ⟨[],rfl⟩ rfl;have q3:=q2 λx hx=>leaf x hx (q1 x hx);have cN:∃c,c∈od (jT ol.toArray true (Region.before ol.toArray) 0 ol.toArray.size) 0 (k1::r'):=by
     unfold od;split
     ·exact⟨_,akm⟩
     ·exact⟨_,akm⟩
    obtain⟨c0,uA⟩:=cN;have LC:c0<ol.toArray.size:=by
     have:=(CX _ 0 c0).1 ((hL.ready c0).1 (Ak c0 uA));obtain⟨_,_,z,hz,_⟩:=this;rw[Bw]at hz;split at hz
     ·next h=>omega
     ·cases hz
    obtain⟨g,eg,_⟩:=q3 c0 uA ol.toArray[c0] (akC LC);have JI:=V7 (P:=P) (f:=g) (s:=s) (K:=K) hK.c hM hL hD hr λk' iP o' mR=>by
     obtain⟨g',e,y,J,h2,h3⟩:=q3 k' iP o' mR;rw[eg]at e;cases e
     exact⟨y,J,h2,h3⟩
    exact(congrArg (λn=>ku true P ol.toArray K n (Array.replicate ol.toArray.size false) s) eg).mpr JI
  ·cases h
 ·cases h
theorem Lw{P:ak7}:∀t:OT P,fY P t.ps
 | .nil=>λp hp=>by cases hp
 | .node _ az sub next=>λp hp=>by
   unfold OT.ps at hp;rcases akS.1 hp with hp|hp
   ·exact oS az p hp
   ·rcases akS.1 hp with hp|hp
    ·exact Lw sub p hp
    ·exact Lw next p hp
section
variable {P:ak7} {r:ak6 Nat} {N0 id n:Nat} {ol:ak4 Oper} {y:Code} {t:ak4 (Nat×AV)} {h:ak4 ao} {Q Q':Exit->St->Prop}
theorem ro(m:Nat)(hm:P.follows .mixedOrders=true)(T:OT P)(Δ:ak4 (Nat×AV))(h':ak4 ao)(e:Od P ol T (Δ.map (·.1)) ⟨n,t,h⟩=some (List.replicate m (Δ,h',[]),T.ps))(k:bD P r N0 y Q' ⟨n,Δ++t,h'⟩):bD P r N0 (.region id ol.toArray true) (hO (λs=>bD P r N0 y Q' s) Q) ⟨n,t,h⟩:=
 Pd (m:=true) hm λhN pe=>aec e (Lw T) hN pe (Lh _) ⟨_,iL.refl _ _,k⟩
end
set_option maxRecDepth 100000
set_option maxHeartbeats 0
mutual
theorem Nt{m m':Nat}(hm:m<=m'):∀x:AV,x.aC m=true->x.aC m'=true
 | .own n _,h=>by rw[AV.aC,Bool.not_eq_true',<-Bool.not_eq_true,dy]at h ⊢;omega
 | .ptr n _,h=>by rw[AV.aC,Bool.not_eq_true',<-Bool.not_eq_true,dy]at h ⊢;omega
 | .row n _ _ _ _,h=>by rw[AV.aC,Bool.not_eq_true',<-Bool.not_eq_true,dy]at h ⊢;omega
 | .mp n,h=>by rw[AV.aC,Bool.not_eq_true',<-Bool.not_eq_true,dy]at h ⊢;omega
 | .cp n,h=>by rw[AV.aC,Bool.not_eq_true',<-Bool.not_eq_true,dy]at h ⊢;omega
 | .vec n _ _ _ _,h=>by rw[AV.aC,Bool.not_eq_true',<-Bool.not_eq_true,dy]at h ⊢;omega
 | .dF n _ _ _ _,h=>by rw[AV.aC,Bool.not_eq_true',<-Bool.not_eq_true,dy]at h ⊢;omega
 | .agg cs,h=>by rw[AV.aC]at h ⊢;exact GL hm cs h
 | .aW cs,h=>by rw[AV.aC]at h ⊢;exact GL hm cs h
 | .fn f cs,h=>by rw[AV.aC]at h ⊢;exact GL hm cs h
 | .d _,_=>by simp only[AV.aC]
 | .bn ..,_=>by simp only[AV.aC]
 | .full _,_=>by simp only[AV.aC]
 | .hid _,_=>by simp only[AV.aC]
 | .dead,_=>by simp only[AV.aC]
theorem GL{m m':Nat}(hm:m<=m'):∀l:ak4 AV,AV.jU m l=true->AV.jU m' l=true
 |[],_=>by simp [AV.jU]
 |x::l,h=>by
  rw[AV.jU,aki]at h ⊢;exact⟨Nt hm x h.1,GL hm l h.2⟩
end
theorem afe{m m':Nat}(hm:m<=m'){B:ao}(h:B.aC m=true):B.aC m'=true:=by
 have fG:∀cs:ak4 AV,cs.all (AV.aC m)=true->cs.all (AV.aC m')=true:=λcs h=>by
  rw[akG]at h ⊢;exact λx hx=>Nt hm x (h x hx)
 cases B with
 |cells cs=>exact fG cs h
 |lp ls p a b cs=>exact fG cs h
 |it sn cs=>exact fG cs h
 |eO T0 cs=>exact fG cs h
 |vec e k cs=>
  simp only[ao.aC,akG]at h ⊢;exact λc hc x hx=>Nt hm x (h c hc x hx)
 |front e k len=>rfl
 |byt e b=>rfl
 |map kv=>rfl
 |ie kv=>rfl
 |gone=>rfl
theorem L6{m m':Nat}(hm:m<=m'){h:ak4 ao}(e:h.all (ao.aC m)=true):h.all (ao.aC m')=true:=by
 rw[akG]at e ⊢;exact λB hB=>afe hm (e B hB)
abbrev n9(ext:ak4 Int):AV:= .bn [[.sl (bq ext)]] 0 0
def oz(p:ak4 Int):AV:= .d (.sl (bq p))
theorem Sy{n i x:Nat}{xs:ak4 Nat}(h:(List.range n).drop i=x::xs):x=i:=by
 have:=bm h;have hi:i<(List.range n).length:=(akg.1 this).1;rw[List.getElem?_range (by simpa using hi)]at this;exact(akz this).symm
theorem aeT(ext:ak4 Int)(n:Nat)(hn:n<=maxLen)(hc:fX Tryz.prog 198 [.d (.sl (bq ext))] (·=aq n)):wT Tryz.prog 197 [n9 ext] ((List.range n).map λ(k:Nat)=>aq k):=by
 intro k h C jL hk nr;have hs:=CN _ jL nr;refine tq h.length Tryz.func197 rfl (by kernel_rfl) (akr _) ?_;show bD Tryz.prog none h.length _ _ ⟨14,[(0, .cp k),(1,n9 ext)],h⟩
 repeat refine ar ?_
 refine e7 ?_;refine bQ rfl ?_;refine cG (x:= .d (.sl (bq ext))) (by kernel_rfl) rfl rfl ?_;refine bQ rfl ?_;refine Az (g:=198) (di:=[]) rfl rfl rfl ?_;refine hc.use rfl rfl ?_;refine bQ rfl ?_;refine cG (x:= .d (.v (.int .i64 0))) (by kernel_rfl) rfl rfl ?_;refine aI ?_;refine dt ?_;refine Gp (ι:=Nat×ak4 Nat×ak4 ao) [0,5,6] h.length (λi=>⟨14,[(0, .cp k),(5, .d (.v (.int .i64 n))),(6, .d (.v (.int .i64 i.1)))],i.2.2⟩)
  (λi=>(List.range n).drop i.1=i.2.1/\nB h i.2.2/\kX Tryz.prog k (i.2.1.map λ(k:Nat)=>aq k) (λb h2=>C b h2/\nB h h2) i.2.2) (λi=>i.2.1.length) (0,List.range n,h) (akr _) ?_ ?_ ⟨rfl,⟨rfl,jL⟩,hs⟩ ?_
 ·exact Jn _ jL (by
   show(((AV.cp k).bz h.length).aC h.length&&(true&&(true&&true)))=true;rw[xn hk];rfl)
 ·exact IV _ jL
 rintro⟨i,rest,hb⟩ ⟨hd,⟨c1,c2⟩,iD⟩;simp only at hd c1 c2 iD ⊢
 repeat refine ar ?_
 refine e7 ?_;refine bQ rfl ?_;refine cG (x:= .d (.v (.bool (decide ((i:Int)<(n:Int)))))) (by kernel_rfl) rfl rfl ?_;refine aI ?_
 repeat refine ar ?_
 have hlen:((List.range n).length:Int)=(n:Int):=by rw[List.length_range]
 cases rest with
 |nil=>
  rw[<-hlen,bK hd];refine kW (by kernel_rfl) ?_;refine kR (gO (gO (lS rfl ?_)));exact FR c1 c2 ⟨rfl,true,iD.1⟩
 |cons x rest=>
  rw[<-hlen,bJ hd];have hx:=Sy hd;subst hx;refine lq (by kernel_rfl) ?_;refine cx ?_;refine aI ?_
  repeat refine ar ?_
  refine dt ?_
  repeat refine ar ?_
  refine e7 ?_;refine bQ rfl ?_;refine cG (x:= .d (.v (.int .i64 x))) (by kernel_rfl) rfl rfl ?_;refine bQ rfl ?_;refine cG (x:= .d (.v (.int .i64 x))) (by kernel_rfl) rfl rfl ?_;refine aI ?_
  repeat refine ar ?_
  refine e7 ?_;refine bQ rfl ?_;refine cG (x:= .cp k) (by kernel_rfl) rfl rfl ?_;refine bQ rfl ?_;refine cG (x:= .d (.v (.int .i64 x))) (by kernel_rfl) rfl rfl ?_;refine bQ rfl ?_;rw[akF]at iD;refine yu (k:=k) (x:=aq x) rfl rfl (by kernel_rfl) (by kernel_rfl) rfl rfl ?_;refine YS.mono iD λb h2 hh=> ?_;obtain⟨⟨p1,p2⟩,p3⟩:=hh;have u1:h2.length=h.length:=by rw[p1,c1]
  have u2:h2.all (ao.aC h.length)=true:=by rw[c1]at p2;exact p2
  refine bQ rfl ?_;refine cG (x:= .d (.v (.bool (!b)))) (by kernel_rfl) rfl rfl ?_;refine aI ?_;cases b with
  |false=>
   refine lq (by kernel_rfl) ?_;refine cV ?_
   repeat (first|(with_reducible refine cU ?_)|(with_reducible refine dW ?_))
   exact Qo u1 u2 ⟨rfl,false,p3.1⟩
  |true=>
   refine kW (by kernel_rfl) ?_;refine cx ?_;refine dX ?_;refine aI ?_;simp only[cond_true]at p3;refine e7 ?_;refine bQ rfl ?_;refine cG (x:= .d (.v (.int .i64 ((x+1:Nat):Int)))) (by
    show some ((.d (.v (.int .i64 (aK ((x:Int)+1)))):AV),HD.same)=_;have:=bS hd rfl (by rw[List.length_range];exact hn);unfold aq at this;rw[this]) rfl rfl ?_
   refine bQ rfl ?_;refine cG (x:= .d (.v (.int .i64 ((x+1:Nat):Int)))) (by kernel_rfl) rfl rfl ?_;refine aI ?_;refine⟨?_,(x+1,rest,h2),?_,⟨ly hd,⟨u1,u2⟩,p3⟩,ak2 _⟩
   ·rw[<-u1];exact Jn _ (by rw[u1];exact u2) (by
      show(((AV.cp k).bz h2.length).aC h2.length&&(true&&(true&&true)))=true;rw[u1,xn hk];rfl)
   ·rw[<-u1];exact IV _ (by rw[u1];exact u2)
theorem abw(ext:ak4 Int):fX Tryz.prog 114 [.d (.sl (bq ext))] (·= .fn 197 [n9 ext]):=by
 refine Lx (r:= .fn 197 [(.ptr 0 0)]) (h:=[.cells [.d (.sl (bq ext))]]) ?_ (by kernel_rfl) rfl;refine pj 1 Tryz.func114 rfl (by kernel_rfl) (ako rfl) ?_;refine lG (s':=⟨4,[(0, .d (.sl (bq ext)))],[]⟩) (by kernel_rfl) ?_;refine ar ?_;refine rg [] [(1,(.ptr 0 0))] [.cells [.d (.sl (bq ext))]] (by kernel_rfl) ?_;refine ar ?_;refine rg [] [(2,(.fn 197 [(.ptr 0 0)]))] [.cells [.d (.sl (bq ext))]] (by kernel_rfl) ?_;refine cV ?_;exact iT (by kernel_rfl)
theorem ah5{n:Nat}{t:ak4 (Nat×AV)}{H l:ak4 ao}(hb:H.all (ao.aC H.length)=true):su ⟨n,t,H++l⟩ H.length ⟨n,[],H⟩:=⟨fun{G w a} hs=>by
 have J:=hs.mask (live:=[]) (xT (n:=n) (t:=t) (l:=l) [] hb rfl)
 rwa [zZ [] hb]at J⟩
theorem Vy{n m:Nat}{t:ak4 (Nat×AV)}{H:ak4 ao}(hm:H.length=m)(hb:H.all (ao.aC m)=true):su ⟨n,t,H⟩ m ⟨n,[],H⟩:=by
 subst hm;have:=ah5 (n:=n) (t:=t) (l:=[]) hb
 rwa [akB]at this
theorem ada(ext:ak4 Int)(lh:ak4 (ak4 Int))(hn:lh.length<=maxLen)(hc:fX Tryz.prog 198 [.d (.sl (bq ext))] (·=aq lh.length))
 (hp:∀(k:Nat)(p:ak4 Int),lh[k]?=some p->fX Tryz.prog 115 [.d (.sl (bq ext)),aq k] (·= .aW [oz p,ax true])):wT Tryz.prog 113 [n9 ext] (lh.map oz):=by
 intro k h C jL hk nr;have hs:=CN _ jL nr;refine tq h.length Tryz.func113 rfl (by kernel_rfl) (akr _) ?_
 suffices hA:bD Tryz.prog none h.length _ _ ⟨19,[(0, .cp k),(1,n9 ext)],h++[]⟩ by rw[akB]at hA;exact hA
 have oh:∀m',h.length<=m'->(AV.cp k).aC m'=true:=λm' h1=>by simp [AV.aC,ct];omega
 have gg:∀m',h.length<=m'->(ao.cells [.cp k]).aC m'=true:=λm' h1=>by simp [ao.aC,oh m' h1]
 repeat refine ar ?_
 refine e7 ?_;refine bQ rfl ?_;refine xr (Xe (l:=[]) (v:= .cp k) rfl (by kernel_rfl)) rfl rfl DG ?_;refine aI ?_
 repeat refine ar ?_
 refine e7 ?_;refine bQ rfl ?_;refine cG (x:= .d (.sl (bq ext))) (by kernel_rfl) rfl rfl ?_;refine bQ rfl ?_;refine Az (g:=114) (di:=[]) rfl rfl rfl ?_;refine(abw ext).use rfl rfl ?_;refine aI ?_;refine dt ?_;show bD Tryz.prog none h.length _ _ ⟨19,[(7, .fn 197 [n9 ext]),(6, .d (.sl (bq ext))),(2, .ptr h.length 0),(0, .cp k),(1,n9 ext)],h++[.cells [.cp k]]⟩;refine vj (m:=h.length+1) (enc:=λ(q:Nat)=>aq q) (xs:=List.range lh.length) (gf:=197) (di:=[n9 ext]) (by kernel_rfl) (aeT ext lh.length hn hc) (λ(i:{J:ak4 ao // nB h J})=>i.1++[.cells [.cp k]])
  (λi l=>∃j,(List.range lh.length).drop j=l/\kX Tryz.prog k ((lh.drop j).map oz) (λb h2=>C b h2/\nB h h2) i.1) ⟨h,rfl,jL⟩ rfl ⟨0,rfl,hs⟩ (λi=>by rw[akh,i.2.1];rfl) (λi=> ?_) ?_ (by kernel_rfl) ?_ ?_
 ·rw[List.all_append,L6 (akV _ 2) i.2.2];simp [gg (h.length+1+1) (by omega)]
 ·have hy:ct (h.length+1+1) k=false:=by rw[<-Bool.not_eq_true,dy];omega
  have hq:ct (h.length+1+1) h.length=false:=by rw[<-Bool.not_eq_true,dy];omega
  show(([0,1,2,3,4,5,6,7,8,9,10,11,12,13,14,15,16,17,18]:ak4 Nat).map λi=>bw _ i).all _=true;simp only[akF,List.map_nil,bw,ak0,List.all_nil,Nat.reduceBEq,cond_true,cond_false,Bool.and_true,AV.aC,AV.jU];rw[hy,hq];rfl
 ·rintro⟨hb,c1,c2⟩ x l ⟨j,hd,iD⟩ rr a b;have hx:=Sy hd;subst hx;have hj:x<lh.length:=by
   have:=bm hd;have:=(akg.1 this).1
   simpa using this
  simp only at iD ⊢;refine e7 ?_;refine bQ rfl ?_;refine cG (x:=aq x) (by kernel_rfl) rfl rfl ?_;refine aI ?_;refine⟨hb++[.cells [.cp k]],[],by rw[akh,c1];rfl,rfl,?_⟩;generalize RY:ao.lp .busy 8 a b (dx 19 _)=LP;have Zr:LP.aC (h.length+2)=true:=by
   rw[<-RY];have hy:ct (h.length+2) k=false:=by rw[<-Bool.not_eq_true,dy];omega
   have hq:ct (h.length+2) h.length=false:=by rw[<-Bool.not_eq_true,dy];omega
   show(([0,1,2,3,4,5,6,7,8,9,10,11,12,13,14,15,16,17,18]:ak4 Nat).map λi=>bw _ i).all _=true;simp only[akF,List.map_nil,bw,ak0,List.all_nil,Nat.reduceBEq,cond_true,cond_false,Bool.and_true,AV.aC,AV.jU];rw[hy,hq];rfl
  clear RY;refine dt ?_
  repeat refine ar ?_
  refine e7 ?_;refine bQ rfl ?_;refine cG (x:= .d (.sl (bq ext))) (by kernel_rfl) rfl rfl ?_;refine bQ rfl ?_;refine cG (x:=aq x) (by kernel_rfl) rfl rfl ?_;refine bQ rfl ?_;refine Az (g:=115) (di:=[]) rfl rfl rfl ?_;refine(hp x lh[x] (akk hj)).use rfl rfl ?_;refine bQ rfl ?_;refine cG (x:= .aW [oz lh[x],ax true]) (by kernel_rfl) rfl rfl ?_;refine bQ rfl ?_;refine cG (x:=oz lh[x]) (by kernel_rfl) rfl rfl ?_;refine bQ rfl ?_;refine cG (x:=ax true) (by kernel_rfl) rfl rfl ?_;refine bQ rfl ?_;refine cG (x:=oz lh[x]) (by kernel_rfl) rfl rfl ?_;refine bQ rfl ?_;refine cG (x:=ax true) (by kernel_rfl) rfl rfl ?_;refine aI ?_;rw[show(hb++[ao.cells [.cp k]])++[LP]=hb++[ao.cells [.cp k],LP] by simp]
  repeat refine ar ?_
  refine e7 ?_;refine bQ rfl ?_;refine cG (um (h:=hb) (i:=0) (off:=0) (l:=[.cells [.cp k],LP]) (x:= .cp k) (by rw[c1];rfl) rfl (by kernel_rfl)) rfl rfl ?_;refine bQ rfl ?_;refine cG (x:=oz lh[x]) (by kernel_rfl) rfl rfl ?_;refine bQ rfl ?_;rw[List.drop_eq_getElem_cons hj,akF]at iD;have hy:=GB iD [.cells [.cp k],LP] (by rw[c1];exact c2) (by kernel_rfl) (λb h' hh=>hh.1);refine yu (k:=k) (x:=oz lh[x]) rfl rfl (by kernel_rfl) (by kernel_rfl) rfl rfl ?_;refine hy.mono λb h' hh=> ?_;obtain⟨h2,⟨⟨p1,p2⟩,p3⟩,rfl⟩:=hh;have u1:h2.length=h.length:=by rw[p1,c1]
  have u2:h2.all (ao.aC h.length)=true:=by rw[c1]at p2;exact p2
  have v1:(h2++[ao.cells [.cp k]]).length=h.length+1:=by rw[akh,u1];rfl
  have v2:(h2++[ao.cells [.cp k]]).all (ao.aC (h.length+2))=true:=by
   rw[List.all_append,L6 (akV _ 2) u2];simp [gg]
  have v3:(h2++[ao.cells [.cp k],LP]).all (ao.aC (h.length+2))=true:=by
   rw[List.all_append,L6 (akV _ 2) u2];simp [gg,Zr]
  have v4:(h2++[ao.cells [.cp k],LP]).length=h.length+2:=by rw[akh,u1];rfl
  have v5:h2++[ao.cells [.cp k],LP]=(h2++[ao.cells [.cp k]])++[LP]:=by simp
  refine bQ rfl ?_;refine cG (x:= .d (.v (.bool (!b)))) (by kernel_rfl) rfl rfl ?_;refine aI ?_;cases b with
  |false=>
   refine lq (by kernel_rfl) ?_;refine cV ?_
   repeat (first|(with_reducible refine cU ?_)|(with_reducible refine dW ?_))
   refine⟨h2++[.cells [.cp k]],v1,v2,?_,?_⟩
   ·have MZ:∀t,su ⟨19,t,h2++[ao.cells [.cp k],LP]⟩ (h.length+2) ⟨19,[],(h2++[ao.cells [.cp k]])++[LP]⟩:=λt=>by
     rw[<-v5];exact Vy v4 v3
    exact MZ _
   ·refine dW ?_;rw[akx];exact xB u1 u2 ⟨rfl,false,p3.1⟩
  |true=>
   refine kW (by kernel_rfl) ?_;refine cx ?_;refine dX ?_;simp only[cond_true]at p3;refine⟨h2++[.cells [.cp k]],v1,v2,?_,⟨h2,u1,u2⟩,rfl,x+1,ly hd,p3⟩;have MZ:∀t,su ⟨19,t,h2++[ao.cells [.cp k],LP]⟩ (h.length+2) ⟨19,[],(h2++[ao.cells [.cp k]])++[LP]⟩:=λt=>by
    rw[<-v5];exact Vy v4 v3
   exact MZ _
 ·rintro⟨hb,c1,c2⟩ ⟨j,hd,iD⟩;have:lh.drop j=[]:=by
   have J:=List.drop_eq_nil_iff.1 hd;rw[List.length_range]at J;exact List.drop_eq_nil_iff.2 J
  rw[this,List.map_nil]at iD;refine dX ?_;rw[akx];have:=N5 (P:=Tryz.prog) (fn:=Tryz.f113) (n:=19) (K:=λ_ J=>∃b,C b J) (t:=[(7, .fn 197 [n9 ext]),(6, .d (.sl (bq ext))),(2, .ptr h.length 0),(0, .cp k),(1,n9 ext)]) (l:=[.cells [.cp k]]++[.gone]) c1 c2;refine this ?_;exact⟨rfl,true,iD.1⟩
def ib(a b:Int)(neg:Bool)(how:Int):Bool:=
 let q:=IntKind.u64.wrap (a.tdiv b);let r:=a.tmod b
 (r==0||how==3)||((how==1&& !neg)||(how==2&&neg))||(how==4&&(decide (IntKind.u64.wrap (2*r)<b)||(IntKind.u64.wrap (2*r)==b&&q.tmod 2==0)))
def uW(a b:Int)(neg:Bool)(how:Int):Int:=bif ib a b neg how then IntKind.u64.wrap (a.tdiv b)else IntKind.u64.wrap (IntKind.u64.wrap (a.tdiv b)+1)
end Go.Proofs.YtnnapanbbbcalaaGreatDoor
