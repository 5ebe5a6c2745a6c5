/-
  Part 9 of the proof: Sorts, AbsWs, AbsDl, AbsTm, AbsUnr, AbsOT, IterB, RndD.
-/
import Derived.Test.YtnnapanbbbcalaaGreatDoorPp8
import Derived.WalkKit
import Derived.Shelf.Sort.Plain
import Derived.Shelf.Slices.CompactS
import Derived.Shelf.Slices.In.SortNone
import Derived.Sort.OwnSorted
import Derived.LoopNIn
namespace Go.Proofs.YtnnapanbbbcalaaGreatDoor
open Go.RowKit Go.Shelf
set_option maxRecDepth 100000
set_option linter.unusedVariables false
def afT:Ren where
 f:=fun
  |190=>256
  |125=>291
  |258=>290
  |128=>318
  |129=>319
  |302=>309
  |303=>310
  |304=>311
  |305=>312
  |306=>313
  |307=>314
  |308=>315
  |309=>316
  |310=>317
  |333=>324
  |329=>325
  |330=>326
  |334=>327
  |335=>328
  |336=>329
  |344=>331
  |n=>n
 t:=fun
  |31=>22
  |9=>9
  |3=>3
  |46=>250
  |0=>0
  |51=>300
  |53=>193
  |4=>4
  |183=>293
  |182=>292
  |131=>177
  |5=>5
  |218=>305
  |222=>309
  |228=>317
  |229=>318
  |n=>n
 g:=λn=>n
theorem Zt:Lays.n190 Tryz.prog afT:=by
 constructor<;>first|kernel_rfl|(intro w;rfl)
def afP:Ren where
 f:=fun
  |194=>257
  |n=>n
 t:=fun
  |31=>22
  |n=>n
 g:=λn=>n
theorem Vd:Lays.n194 Tryz.prog afP:=by
 constructor<;>first|kernel_rfl|(intro w;rfl)
def k8(ss:amT amU):amT (amT UInt8):=(ss.map bL).mergeSort λx y=>decide (x<=y)
def kA(ss:amT amU):amT amU:=(Lib.compact (k8 ss)).map λl=>⟨l.toArray⟩
theorem QP(ss:amT amU):(k8 ss).length=ss.length:=by unfold k8;rw[List.length_mergeSort,ama]
theorem ac3(p:amV Addr)(cap:Nat)(w:amY):Calls Tryz.prog 195 #[.slice p 0 cap] w λe w'=>e= .returned (.slice p 0 cap)/\w'=w:=by
 have h1:Calls Tryz.prog 256 #[.slice p 0 cap] w λe w'=>e= .returned (.tuple #[])/\w'=w:=Any.slices_Sort_string_none Zt p cap w;have h2:Calls Tryz.prog 257 #[.slice p 0 cap] w λe w'=>e= .returned (.slice p 0 cap)/\w'=w:=Any.slices_Compact_string_empty Vd p cap w
 go_enter Tryz.func195,Tryz.ntmps195
 go_wp2_with (first|(go_at_call 256;refine h1.mono ?_;rintro e w' ⟨rfl,rfl⟩)|(go_at_call 257;refine h2.mono ?_;rintro e w' ⟨rfl,rfl⟩))
 go_ret
 exact⟨rfl,rfl⟩
theorem alP{w:amY}{g:Nat}{cur:Array amX}{e:TypeId}{fr:Nat×Nat}(hb:w.heap[g]?=some (.cells cur e fr))(i:Nat):w.cell? ⟨g,i,none⟩=cur[i]?:=by
 simp only[World.cell?,hb,Option.isSome_none,Bool.false_eq_true,if_false]
theorem TI(zs:amT (amT UInt8)):(Lib.compact zs).length<=zs.length:=by
 have h:∀m,(Lib.compactUpTo zs.toArray m).length<=m:=by
  intro m
  induction m with
  |zero=>exact amg _
  |succ m ih=>
   rw[Lib.compactUpTo_succ,al6];split
   ·simp only[al8,amh];omega
   ·simp only[amh];omega
 exact h zs.length
theorem acQ(g cap:Nat)(ss:amT amU)(cur:Array amX)(w:amY)(hb:w.heap[g]?=some (.cells cur 9 (0,0)))(ht:cur.toList.take ss.length=(ss.map bL).map encStr)(hc:cur.size=cap)(jZ:ss.length<=cap)(hm:cap<=maxLen)(hsz:ss.length<4611686018427387904):
 Calls Tryz.prog 195 #[.slice (some ⟨g,0,none⟩) ss.length cap] w λe w'=>e= .returned (.slice (some ⟨g,0,none⟩) (kA ss).length cap)/\w.grownBy w' (some g)/\∀(i:Nat)(s:amU),(kA ss)[i]?=some s->w'.cell? ⟨g,i,none⟩=some (.string s):=by
 have hg:g<w.heap.size:=(amk.1 hb).1;have hzl:=QP ss;obtain⟨SW,Zd⟩:∃SW:amY->Prop,SW=λw'=>∃n os,w'=Sort.grow (Sort.putRow encStr (Sort.ahead w n) g 0 (k8 ss).toArray) os:=⟨_,rfl⟩;have h1:Calls Tryz.prog 256 #[.slice (some ⟨g,0,none⟩) ss.length cap] w λe w'=>e= .returned (.tuple #[])/\SW w':=by
  have h:=Any.slices_Sort_string Zt g 0 cap (ss.map bL) w (holds_of_block hb (by rw[ama];exact ht)) hg (by rw[ama];exact hsz);rw[ama]at h;rw[Zd];exact h
 have h2:∀w1,SW w1->Calls Tryz.prog 257 #[.slice (some ⟨g,0,none⟩) ss.length cap] w1 λe w'=>e= .returned (.slice (some ⟨g,0,none⟩) (kA ss).length cap)/\(w.grownBy w' (some g)/\∀(i:Nat)(s:amU),(kA ss)[i]?=some s->w'.cell? ⟨g,i,none⟩=some (.string s)):=by
  intro w1 hw;rw[Zd]at hw;obtain⟨n,os,rfl⟩:=hw;have jQ:=heap_sorted (n:=n) (os:=os) (k8 ss).toArray hb;have zC:=grownBy_sorted (w:=w) (g:=g) (n:=n) (os:=os) (k8 ss).toArray;have eV:(Sort.putCells encStr 0 (k8 ss).toArray cur).size=cur.size:=by simp [Sort.putCells]
  have ht1:=take_putCells cur (k8 ss) (by omega);generalize Sort.grow (Sort.putRow encStr (Sort.ahead w n) g 0 (k8 ss).toArray) os=w1 at*;generalize Sort.putCells encStr 0 (k8 ss).toArray cur=Tl at*;have h:=Any.slices_Compact_string Vd g 0 cap (k8 ss) w1 (holds_of_block jQ ht1) (by unfold maxLen at hm;omega) (by omega);rw[hzl]at h;refine h.mono λe w' hp=> ?_;obtain⟨rfl,q,rfl⟩:=hp;have hk:(kA ss).length=(Lib.compact (k8 ss)).length:=by unfold kA;rw[ama]
  refine⟨by rw[hk],?_⟩;obtain⟨ys,jy⟩:∃ys,ys=Lib.compact (k8 ss)++List.replicate (ss.length-(Lib.compact (k8 ss)).length) []:=⟨_,rfl⟩;rw[<-jy];have pk:ys.length<=Tl.size:=by
   have:=TI (k8 ss);rw[jy,al6,amF];omega
  have Af:=grownBy_sorted (w:=w1) (g:=g) (n:=q) (os:= #[]) ys.toArray;have kr:=heap_sorted (n:=q) (os:= #[]) ys.toArray jQ;rw[Sort.grow_empty]at Af kr;have ht2:=take_putCells Tl ys pk;refine⟨⟨Af.os.trans zC.os,Af.tape.trans zC.tape,Af.output.trans zC.output,amn zC.size Af.size,λk hk cQ=>(Af.block k (amt hk zC.size) cQ).trans (zC.block k hk cQ)⟩,λi s hi=> ?_⟩;rw[alP kr i];unfold kA at hi;rw[amc]at hi;cases hq:(Lib.compact (k8 ss))[i]? with
  |none=>rw[hq]at hi;cases hi
  |some l=>
   rw[hq]at hi;cases hi;have jx:=(al5.1 hq).1;have hy:ys[i]?=some l:=by rw[jy,amf jx];exact hq
   have:=congrArg (λl:amT amX=>l[i]?) ht2;rw[List.getElem?_take_of_lt (al5.1 hy).1,amc,hy,ams]at this;exact this
 go_enter Tryz.func195,Tryz.ntmps195
 go_wp2_with (first|(go_at_call 256;refine h1.mono ?_;rintro e w1 ⟨rfl,Ah⟩)|(go_at_call 257;refine(h2 _ Ah).mono ?_;rintro e w2 ⟨rfl,Lo⟩))
 go_ret
 exact⟨rfl,Lo⟩
theorem akA:kA []=[]:=by kernel_rfl
theorem S2{G:Gh}{w:amY}{B:aq}(hi:bU G w [B]):bU G w [.gone]:=by
 refine⟨hi.len,hi.z,hi.S,λn C hC=> ?_,λm n b h1 h2=> ?_,hi.gl⟩
 ·match n,hC with
  |0,hC=>cases hC;exact trivial
  |n+1,hC=>simp at hC
 ·match m,h1 with
  |0,h1=>cases h1
  |m+1,h1=>simp [bR]at h1
theorem abt{xs:amT amU}{L:Nat}(hL:xs.length=L)(hsz:L<4611686018427387904):
 cZ Tryz.prog 195 [.vec 0 0 L L 1] [.vec 9 1 (cg (ee xs))] λr1 h1=>r1= .d (.sl (ee (kA xs)))/\h1=[.gone]:=by
 refine⟨by kernel_rfl,λG w vs hinv hvs hr=> ?_⟩;have mA:([aq.vec 9 1 (cg (ee xs))]:amT aq)[0]?=some (.vec 9 1 (cg (ee xs))):=rfl;have oW:(cg (ee xs)).length=L:=by rw[BG,jY,hL]
 obtain⟨v0,rfl⟩:∃v0,vs= #[v0]:=by
  obtain⟨l⟩:=vs
  match l,hvs with
  |[a],_=>exact⟨a,rfl⟩
 have r0:=hr 0 v0 _ rfl rfl;obtain⟨yO,⟨A,cc,rfl,q2,q3,q4,q5⟩,_⟩:=r0.tP hinv mA oW;by_cases h0:L=0
 ·subst h0;obtain rfl:xs=[]:=List.eq_nil_of_length_eq_zero hL;refine(ac3 A cc w).mono λe w' hp=> ?_;obtain⟨rfl,rfl⟩:=hp;refine⟨_,G,_,_,rfl,bN.refl _ _ _,amg _,S2 hinv,?_,rfl,rfl⟩;rw[akA];exact .d (.sl A 0 0 cc 1 [] (λ_ _=>undef) (λh=>absurd rfl h) (Nat.zero_le _) q3 (λ_ h=>by cases h) (λ_ _ h=>absurd h (amx _)) λ_ _ _ _ h=>by simp at h)
 ·obtain⟨g,cap,s1,rfl,s3⟩:=q5 (by omega);obtain⟨g',DF,cur,t1,t2,t3,t4,t5,t6,t7,t8,t9⟩:=EK hinv mA (λe=>by rw[e]at oW;simp at oW;omega);rw[t2,oW]at s1;cases s1
  have hcc:cc=cap:=by omega
  subst hcc;rw[oW]at t5;rw[Nat.mul_one]at t7;have hg:g<w.heap.size:=(amk.1 t4).1;have ht:cur.toList.take xs.length=(xs.map bL).map encStr:=by
   apply List.ext_getElem?;intro j;by_cases hj:j<xs.length
   ·have hx:xs[j]?=some xs[j]:=al9 hj;have Wy:j<cur.size:=by omega
    have hu:cur[j*1+0]?=some cur[j]:=by rw[Nat.mul_one,Nat.add_zero];exact amr Wy
    have:=(t9 j 0 [.d (.v (.string xs[j]))] (.d (.v (.string xs[j]))) cur[j] (Pl (qt hx)) rfl hu).val;rw[List.getElem?_take_of_lt hj,ams,amr Wy,this,amc,amc,hx];rfl
   ·rw[List.getElem?_take_eq_none (by omega),amB (by simp;omega)]
  have hw:=acQ g cc xs cur w t4 ht t7 (by omega) t6 (by omega);rw[hL]at hw;rw[show(⟨g,0*1,none⟩:Addr)=⟨g,0,none⟩from rfl];refine hw.mono λe w' hp=> ?_;obtain⟨rfl,gb,ik⟩:=hp;have hK:(kA xs).length<=L:=by
   have:=TI (k8 xs);rw[QP]at this;unfold kA;rw[ama];omega
  have hE:bN G.N G w (G.uw g (kA xs).length) w':=
   ⟨gb.size,λ_ _ h=> .inl h,λb o hs=>by
    have cQ:some b≠some g:=λe=>by cases e;exact t8 o hs
    unfold World.cell?;rw[gb.block b (hinv.S b o hs) cQ],λ_ _=>rfl,λ_ _=> .inl ⟨rfl,rfl⟩,hY rfl,λb hb=>gb.block b (hinv.z b hb) (λe=>by cases e;exact t3 hb),gb.os,gb.tape,gb.output,λb o hs=>hs.imp id fun⟨e,_⟩ hz=>t3 (e▸hz)⟩
  have hI:bU (G.uw g (kA xs).length) w' [.gone]:=by
   have hi:=S2 hinv;refine⟨hi.len,λb hb=>amt (hi.z b hb) gb.size,λb o hs=> ?_,λn C hC=> ?_,λm n b h1 h2=> ?_,hi.gl.keep hE⟩
   ·rcases hs with hs|⟨rfl,_⟩
    ·exact amt (hi.S b o hs) gb.size
    ·exact amt hg gb.size
   ·match n,hC with
    |0,hC=>cases hC;exact trivial
    |n+1,hC=>simp at hC
   ·match m,h1 with
    |0,h1=>cases h1
    |m+1,h1=>simp [bR]at h1
  have vi:Rd (G.uw g (kA xs).length).S w' 1 (ee (kA xs)) ((kA xs).map Value.string):=
   ⟨by rw[ama,jY,Nat.mul_one],λx hx=>(by rw[nt]at hx;obtain⟨y,_,rfl⟩:=List.mem_map.1 hx;rfl),λu hu=>(by obtain⟨y,_,rfl⟩:=List.mem_map.1 hu;rfl),λi j x d hx hd=>by
    rw[nt,amc]at hx;cases hk:(kA xs)[i]? with
    |none=>rw[hk]at hx;cases hx
    |some y=>
     rw[hk]at hx;cases hx;cases j with
     |zero=>cases hd;exact⟨.string y,by rw[Nat.mul_one,Nat.add_zero,amc,hk];rfl, .v _⟩
     |succ j=>cases hd⟩
  have hp:=vi.Bz g cc (by rw[jY];omega) t6 (λo ho=> .inr ⟨rfl,by rw[jY,Nat.mul_one]at ho;exact ho⟩) (λo u hu=>by
   rw[amc]at hu;cases hq:(kA xs)[o]? with
   |none=>rw[hq]at hu;cases hu
   |some y=>rw[hq]at hu;cases hu;exact ik o y hq)
  rw[jY]at hp;exact⟨_,_,_,_,rfl,hE,amg _,hI, .d hp,rfl,rfl⟩
end Go.Proofs.YtnnapanbbbcalaaGreatDoor
namespace Go.Proofs.YtnnapanbbbcalaaGreatDoor
open Go.RowKit
set_option linter.unusedSimpArgs false
set_option linter.unusedVariables false
structure DL{α:Type}(f:List α->List (List D))(k:Nat):Prop where
 len:∀l,(f l).length=l.length
 all:∀l,∀c∈f l,c.length=k
 app:∀a b,f a++f b=f (a++b)
section
variable {P:amW} {α:Type} {f:amT α->amT (amT D)} {k dd:Nat}
theorem JD{n:Nat}(hb:0<dd)(h:Nat.ble (n*dd) 140737488355328=true):n<=maxLen/\n*dd<=140737488355328:=by
 have h1:=amd h;have h2:n*1<=n*dd:=Nat.mul_le_mul_left n hb;refine⟨?_,h1⟩;unfold maxLen;omega
def oA(F:DL f k)(A B:amT α)(h:Nat.ble ((A.length+B.length)*dd) 140737488355328=true)(hb:0<dd:=by decide):Ob P:=
 ⟨_,_, .app (xs:=f A) (ys:=f B) (zs:=f (A++B)) (len:=A.length) (n:=(A++B).length) (F.len A).symm (F.all A) (F.all B) (by rw[F.len,F.len];exact(JD hb h).1) (by rw[F.len,F.len];exact(JD hb h).2) (F.app A B) (by rw[F.len,F.len,al6])⟩
def oZ(F:DL f k)(B:amT α)(h:Nat.ble ((0+B.length)*dd) 140737488355328=true)(hb:0<dd:=by decide):Ob P:=
 ⟨_,_, .app (xs:=[]) (ys:=f B) (zs:=f B) (len:=0) (n:=B.length) rfl (λ_ hc=>absurd hc amL) (F.all B) (by rw[F.len];exact(JD hb h).1) (by rw[F.len];exact(JD hb h).2) rfl (by rw[F.len];exact amp _)⟩
end
section
variable {P:amW} {f:FuncId} {e6:amT AV} {H H':amT aq} {r:AV}
def oQ(mi:amT AV)(h:amT aq)(l:amT Nat)(hc:cZ P f e6 H λr1 h1=>r1=r/\h1=H)(ha:mi=e6.map (AV.aL (rn l 0)):=by kernel_rfl)(hd:o9 l=true:=by kernel_rfl)(hb:l.map (λj=>h[j]?)=H.map (λB=>some (B.aL (rn l 0))):=by kernel_rfl)(hl:(e6.all (AV.aG H.length)&&H.all (aq.aG H.length)&&r.aG H.length)=true:=by kernel_rfl):Ob P:=⟨_,_, .rq ha hd hb hl hc⟩
def oR(mi:amT AV)(h:amT aq)(l:amT Nat)(hc:cZ P f e6 H λr1 h1=>r1=r/\h1=H')(ha:mi=e6.map (AV.aL (rn l h.length)):=by kernel_rfl)(hd:o9 l=true:=by kernel_rfl)(hb:l.map (λj=>h[j]?)=H.map (λB=>some (B.aL (rn l h.length))):=by kernel_rfl)(hl:(e6.all (AV.aG H.length)&&H.all (aq.aG H.length))=true:=by kernel_rfl):Ob P:=⟨_,_, .nx ha hd hb hl hc⟩
def oX(tR:VD H)(hv:VD H')(mi:amT AV)(h:amT aq)(l:amT Nat)(hc:cZ P f e6 H λr1 h1=>r1=r/\h1=H')(ha:mi=e6.map (AV.aL (rn l h.length)):=by kernel_rfl)(hd:o9 l=true:=by kernel_rfl)(hb:l.map (λj=>h[j]?)=H.map (λB=>some (B.qJ (rn l h.length))):=by kernel_rfl)(hl:(e6.all (AV.aG H.length)&&H.all (aq.uW H.length))=true:=by kernel_rfl):Ob P:=⟨_,_, .MB tR hv ha hd hb hl hc⟩
end
section
variable {P:amW} {r:amV Nat} {N0:Nat} {Q:Exit->St->Prop} {w0:WO}
theorem JX{α:Type}{f:amT α->amT (amT D)}{z:Nat}(F:DL f z)(k:Nat)(l:amT α)(h:l.length<=maxLen->GW P r N0 Q w0)(hx:(bq (wS w0).t k).fE=some (f l):=by kernel_rfl):GW P r N0 Q w0:=
 akN k (f l) hx λe=>h (wu (F.len l) e)
theorem WE{α:Type}{f:amT α->amT (amT D)}{z:Nat}(F:DL f z)(b i:Nat)(l:amT α)(h:l.length<=maxLen->GW P r N0 Q w0)(hx:(((wS w0).h[b]?).bind λB=>match B with| .cells cs=>(cs[i]?).bind AV.fE|_=>none)=some (f l):=by kernel_rfl):GW P r N0 Q w0:=
 P9 b i (f l) hx λe=>h (wu (F.len l) e)
structure nV{α ι R:Type}(k:Nat)(live:List Nat)(m:Nat)(L:List α)(st:Nat->ι->St)(G:List α->Nat->ι->Option R)(rr:R)(n:Nat)(x:α)(l:List α)(i:ι)(f:St->Prop):Prop where
 h:HL k live m (λz:Nat×List α×ι=>st z.1 z.2.2) (λz=>L.drop z.1=z.2.1/\G z.2.1 z.1 z.2.2=some rr) (λz=>z.2.1.length) (n,x::l,i) f
structure te{ι R:Type}(k:Nat)(live:List Nat)(m:Nat)(st:ι->St)(G:Nat->ι->Option R)(rr:R)(d:Nat)(f:St->Prop):Prop where
 h:∀i,HL k live m (λz:Nat×ι=>st z.2) (λz=>G z.1 z.2=some rr) (λz=>z.1) (d+1,i) f
theorem Fl(hm:P.follows .mixedOrders=true){α ι R:Type}{rr:R}(k:Nat)(aA:amT (amT (Nat×Ob P)))(live:amT Nat)(m:Nat)(L:amT α)(st:Nat->ι->St)(G:amT α->Nat->ι->amV R)(i0:ι)(hI:G L 0 i0=some rr)
 (nil:∀n i,L.drop n=[]->G [] n i=some rr->∀f:St->Prop,GW P r N0 Q (gL k f (st n i) (wk P w0 aA)))
 (cons:∀n x l i,L.drop n=x::l->G (x::l) n i=some rr->∀f:St->Prop,nV k live m L st G rr n x l i f->GW P r N0 Q (gL k f (st n i) (wk P w0 aA)))
 (hN:N0<=m) (e:lU live m (wk P w0 aA)=some (st 0 i0,dQ aA)):GW P r N0 Q w0:=by
 refine Js hm k aA live m (λz:Nat×amT α×ι=>st z.1 z.2.2) (λz=>L.drop z.1=z.2.1/\G z.2.1 z.1 z.2.2=some rr) (λz=>z.2.1.length) (0,L,i0) ⟨rfl,hI⟩ (λz hz f hf=> ?_) hN e;obtain⟨n,l,i⟩:=z;obtain⟨h1,h2⟩:=hz;cases l with
 |nil=>exact nil n i h1 h2 f
 |cons x l=>exact cons n x l i h1 h2 f ⟨hf⟩
theorem ah1(hm:P.follows .mixedOrders=true){α ι R:Type}{rr:R}{live:amT Nat}{m k:Nat}{L:amT α}{st:Nat->ι->St}{G:amT α->Nat->ι->amV R}{n:Nat}{x:α}{l:amT α}{i:ι}{f:St->Prop}(hf:nV k live m L st G rr n x l i f)(j:ι)(aA:amT (amT (Nat×Ob P)))(hd:L.drop n=x::l)(hI:G l (n+1) j=some rr)(e1:ko k (wK w0)=[f])(e:pF k live m (wk P w0 aA)=some (st (n+1) j,dQ aA)):GW P r N0 Q w0:=
 C0 hm hf.h (n+1,l,j) aA ⟨jR hd,hI⟩ (amR _) e1 e
theorem Rf(hm:P.follows .mixedOrders=true){ι R:Type}{rr:R}(k:Nat)(aA:amT (amT (Nat×Ob P)))(live:amT Nat)(m:Nat)(st:ι->St)(G:Nat->ι->amV R)(d:Nat)(i0:ι)(hI:G d i0=some rr)(h0:∀i,G 0 i=none)
 (succ:∀d i,G (d+1) i=some rr->∀f:St->Prop,te k live m st G rr d f->GW P r N0 Q (gL k f (st i) (wk P w0 aA)))
 (hN:N0<=m) (e:lU live m (wk P w0 aA)=some (st i0,dQ aA)):GW P r N0 Q w0:=by
 refine Js hm k aA live m (λz:Nat×ι=>st z.2) (λz=>G z.1 z.2=some rr) (λz=>z.1) (d,i0) hI (λz hz f hf=> ?_) hN e;obtain⟨d,i⟩:=z;cases d with
 |zero=>exact absurd ((h0 i).symm.trans hz) (by simp)
 |succ d=>exact succ d i hz f ⟨λj=>⟨λs' i' h1 h2 h3=>hf.h s' i' h1 h2 h3⟩⟩
theorem ab3(hm:P.follows .mixedOrders=true){ι R:Type}{rr:R}{live:amT Nat}{m k:Nat}{st:ι->St}{G:Nat->ι->amV R}{d:Nat}{f:St->Prop}(hf:te k live m st G rr d f)(j:ι)(aA:amT (amT (Nat×Ob P)))(hI:G d j=some rr)(e1:ko k (wK w0)=[f])(e:pF k live m (wk P w0 aA)=some (st j,dQ aA)):GW P r N0 Q w0:=
 C0 hm (hf.h j) (d,j) aA hI (amR _) e1 e
theorem JP{P:amW}{f:FuncId}{fn:Func}{args:amT AV}{R:AV}(hf:P.funcs[f]?=some fn)(hw:GW P none 0 (kK P fn R) (zj fn args []))(hb:fn.body.isSome=true:=by kernel_rfl)(hn:(fn.name== "runtime.NumGoroutine")=false:=by kernel_rfl):ga P f args (·=R):=ajB hf hb hn hw
theorem Cn{P:amW}{f:FuncId}{fn:Func}{args:amT AV}{h H:amT aq}{R:AV}(m:Nat)(hf:P.funcs[f]?=some fn)(hw:GW P none h.length (s8 P fn m R H) (zj fn args h))(hb:fn.body.isSome=true:=by kernel_rfl)(hn:(fn.name== "runtime.NumGoroutine")=false:=by kernel_rfl)(hm:h.length<=m:=by exact amd rfl):cZ P f args h λr1 h1=>r1=R/\h1=H:=aib m hf hb hn hm hw
variable {α A B C D' R:Type} {rr:R}
theorem wl0(hm:P.follows .mixedOrders=true)(k:Nat)(aA:amT (amT (Nat×Ob P)))(live:amT Nat)(m:Nat)(L:amT α)(st:Nat->St)(G:amT α->Nat->amV R)(hI:G L 0=some rr)
 (nil:∀n,L.drop n=[]->G [] n=some rr->∀f:St->Prop,GW P r N0 Q (gL k f (st n) (wk P w0 aA)))
 (cons:∀n x l,L.drop n=x::l->G (x::l) n=some rr->∀f:St->Prop,nV k live m L (λn(_:Unit)=>st n) (λl n _=>G l n) rr n x l () f->GW P r N0 Q (gL k f (st n) (wk P w0 aA)))
 (hN:N0<=m:=by exact amd rfl) (e:lU live m (wk P w0 aA)=some (st 0,dQ aA):=by kernel_rfl):GW P r N0 Q w0:=
 Fl hm k aA live m L (λn(_:Unit)=>st n) (λl n _=>G l n) () hI (λn _=>nil n) (λn x l _=>cons n x l) hN e
theorem L8(hm:P.follows .mixedOrders=true)(k:Nat)(aA:amT (amT (Nat×Ob P)))(live:amT Nat)(m:Nat)(L:amT α)(st:Nat->A->St)(G:amT α->Nat->A->amV R)(a0:A)(hI:G L 0 a0=some rr)
 (nil:∀n a,L.drop n=[]->G [] n a=some rr->∀f:St->Prop,GW P r N0 Q (gL k f (st n a) (wk P w0 aA)))
 (cons:∀n x l a,L.drop n=x::l->G (x::l) n a=some rr->∀f:St->Prop,nV k live m L st G rr n x l a f->GW P r N0 Q (gL k f (st n a) (wk P w0 aA)))
 (hN:N0<=m:=by exact amd rfl) (e:lU live m (wk P w0 aA)=some (st 0 a0,dQ aA):=by kernel_rfl):GW P r N0 Q w0:=
 Fl hm k aA live m L st G a0 hI nil cons hN e
theorem wl2(hm:P.follows .mixedOrders=true)(k:Nat)(aA:amT (amT (Nat×Ob P)))(live:amT Nat)(m:Nat)(L:amT α)(st:Nat->A->B->St)(G:amT α->Nat->A->B->amV R)(a0:A)(b0:B)(hI:G L 0 a0 b0=some rr)
 (nil:∀n a b,L.drop n=[]->G [] n a b=some rr->∀f:St->Prop,GW P r N0 Q (gL k f (st n a b) (wk P w0 aA)))
 (cons:∀n x l a b,L.drop n=x::l->G (x::l) n a b=some rr->∀f:St->Prop,nV k live m L (λn(i:A×B)=>st n i.1 i.2) (λl n i=>G l n i.1 i.2) rr n x l (a,b) f->GW P r N0 Q (gL k f (st n a b) (wk P w0 aA)))
 (hN:N0<=m:=by exact amd rfl) (e:lU live m (wk P w0 aA)=some (st 0 a0 b0,dQ aA):=by kernel_rfl):GW P r N0 Q w0:=
 Fl hm k aA live m L (λn(i:A×B)=>st n i.1 i.2) (λl n i=>G l n i.1 i.2) (a0,b0) hI (λn i=>nil n i.1 i.2) (λn x l i=>cons n x l i.1 i.2) hN e
theorem wl3(hm:P.follows .mixedOrders=true)(k:Nat)(aA:amT (amT (Nat×Ob P)))(live:amT Nat)(m:Nat)(L:amT α)(st:Nat->A->B->C->St)(G:amT α->Nat->A->B->C->amV R)(a0:A)(b0:B)(c0:C)(hI:G L 0 a0 b0 c0=some rr)
 (nil:∀n a b c,L.drop n=[]->G [] n a b c=some rr->∀f:St->Prop,GW P r N0 Q (gL k f (st n a b c) (wk P w0 aA)))
 (cons:∀n x l a b c,L.drop n=x::l->G (x::l) n a b c=some rr->∀f:St->Prop,nV k live m L (λn(i:A×B×C)=>st n i.1 i.2.1 i.2.2) (λl n i=>G l n i.1 i.2.1 i.2.2) rr n x l (a,b,c) f->GW P r N0 Q (gL k f (st n a b c) (wk P w0 aA)))
 (hN:N0<=m:=by exact amd rfl) (e:lU live m (wk P w0 aA)=some (st 0 a0 b0 c0,dQ aA):=by kernel_rfl):GW P r N0 Q w0:=
 Fl hm k aA live m L (λn(i:A×B×C)=>st n i.1 i.2.1 i.2.2) (λl n i=>G l n i.1 i.2.1 i.2.2) (a0,b0,c0) hI (λn i=>nil n i.1 i.2.1 i.2.2) (λn x l i=>cons n x l i.1 i.2.1 i.2.2) hN e
theorem wb(hm:P.follows .mixedOrders=true){ι:Type}{live:amT Nat}{m k:Nat}{L:amT α}{st:Nat->ι->St}{G:amT α->Nat->ι->amV R}{n:Nat}{x:α}{l:amT α}{i:ι}{f:St->Prop}(hf:nV k live m L st G rr n x l i f)(j:ι)(aA:amT (amT (Nat×Ob P)))(hd:L.drop n=x::l)(hI:G l (n+1) j=some rr)(e1:ko k (wK w0)=[f]:=by kernel_rfl)(e:pF k live m (wk P w0 aA)=some (st (n+1) j,dQ aA):=by kernel_rfl):GW P r N0 Q w0:=ah1 hm hf j aA hd hI e1 e
theorem wf1(hm:P.follows .mixedOrders=true)(k:Nat)(aA:amT (amT (Nat×Ob P)))(live:amT Nat)(m:Nat)(st:A->St)(G:Nat->A->amV R)(d:Nat)(a0:A)(hI:G d a0=some rr)
 (succ:∀d a,G (d+1) a=some rr->∀f:St->Prop,te k live m st G rr d f->GW P r N0 Q (gL k f (st a) (wk P w0 aA))) (h0:∀a,G 0 a=none:=by intros;rfl)
 (hN:N0<=m:=by exact amd rfl) (e:lU live m (wk P w0 aA)=some (st a0,dQ aA):=by kernel_rfl):GW P r N0 Q w0:=
 Rf hm k aA live m st G d a0 hI h0 succ hN e
theorem wf2(hm:P.follows .mixedOrders=true)(k:Nat)(aA:amT (amT (Nat×Ob P)))(live:amT Nat)(m:Nat)(st:A->B->St)(G:Nat->A->B->amV R)(d:Nat)(a0:A)(b0:B)(hI:G d a0 b0=some rr)
 (succ:∀d a b,G (d+1) a b=some rr->∀f:St->Prop,te k live m (λ(i:A×B)=>st i.1 i.2) (λd i=>G d i.1 i.2) rr d f->GW P r N0 Q (gL k f (st a b) (wk P w0 aA))) (h0:∀a b,G 0 a b=none:=by intros;rfl)
 (hN:N0<=m:=by exact amd rfl) (e:lU live m (wk P w0 aA)=some (st a0 b0,dQ aA):=by kernel_rfl):GW P r N0 Q w0:=
 Rf hm k aA live m (λ(i:A×B)=>st i.1 i.2) (λd i=>G d i.1 i.2) d (a0,b0) hI (λi=>h0 i.1 i.2) (λd i=>succ d i.1 i.2) hN e
theorem wbf(hm:P.follows .mixedOrders=true){ι:Type}{live:amT Nat}{m k:Nat}{st:ι->St}{G:Nat->ι->amV R}{d:Nat}{f:St->Prop}(hf:te k live m st G rr d f)(j:ι)(aA:amT (amT (Nat×Ob P)))(hI:G d j=some rr)(e1:ko k (wK w0)=[f]:=by kernel_rfl)(e:pF k live m (wk P w0 aA)=some (st j,dQ aA):=by kernel_rfl):GW P r N0 Q w0:=ab3 hm hf j aA hI e1 e
def Aq(g:Nat)(t:amV Nat):amT Oper->Nat->amT Nat
 |[],_=>[]
 |o::l,j=>match o.guard with
  |some (g',_)=>bif g'==g then(3*j)::Aq g t l (j+1)else Aq g t l (j+1)
  |none=>match o.op,t with
   | .pick (.tmp c) _ _,some t'=>bif c==t' then(3*j+1)::Aq g t l (j+1)else Aq g t l (j+1)
   |_,_=>Aq g t l (j+1)
def acu(l:amT Oper)(g:Nat):amV Nat:=match l[g]? with
 |some o=>o.dst
 |none=>none
def H6:WO->amT Oper
 |some (.at (.region _ ops _) _ _,_)=>ops.toList
 |_=>[]
noncomputable def IA(ops:amT Oper)(sp si:amT (Nat×Ob P)):amT (Nat×Ob P):=so (sp.foldr (λx t=>os (Aq x.1 (acu ops x.1) ops 0) x.2 t) si)
theorem wL(hm:P.follows .mixedOrders=true)(Δ:amT (Nat×AV))(h':amT aq)(e:∃sp si:amT (Nat×Ob P),Il P (Δ.map (·.1)) (iV (IA (H6 (wk P w0 [])) sp si)) (wk P w0 [])=some (Δ,h',js (IA (H6 (wk P w0 [])) sp si)))(k:GW P r N0 Q (uR Δ h' (wk P w0 [])))(e0:sD (wk P w0 [])=some []:=by kernel_rfl):GW P r N0 Q w0:=
 aeh hm Δ h' (let ⟨_,_,h⟩:=e;⟨_,h⟩) k e0
theorem wj0(hm:P.follows .mixedOrders=true)(rr:R)(k:Nat)(aA:amT (amT (Nat×Ob P)))(live:amT Nat)(m:Nat)(st:St)(G:amV R)
 (br:∀f:St->Prop,uX k live m (λ(_:Unit)=>st) (λ_=>G=some rr) f->GW P r N0 Q (Ao k f (wk P w0 aA)))
 (rest:G=some rr->GW P r N0 Q (zO st (wk P w0 aA))) (hN:N0<=m:=by exact amd rfl) (e:vD (wk P w0 aA)=some (dQ aA):=by kernel_rfl):GW P r N0 Q w0:=
 DK hm k aA live m (λ(_:Unit)=>st) (λ_=>G=some rr) br (λ_=>rest) hN e
theorem Cv(hm:P.follows .mixedOrders=true)(rr:R)(k:Nat)(aA:amT (amT (Nat×Ob P)))(live:amT Nat)(m:Nat)(st:A->St)(G:A->amV R)
 (br:∀f:St->Prop,uX k live m st (λa=>G a=some rr) f->GW P r N0 Q (Ao k f (wk P w0 aA)))
 (rest:∀a,G a=some rr->GW P r N0 Q (zO (st a) (wk P w0 aA))) (hN:N0<=m:=by exact amd rfl) (e:vD (wk P w0 aA)=some (dQ aA):=by kernel_rfl):GW P r N0 Q w0:=
 DK hm k aA live m st (λa=>G a=some rr) br rest hN e
theorem wj2(hm:P.follows .mixedOrders=true)(rr:R)(k:Nat)(aA:amT (amT (Nat×Ob P)))(live:amT Nat)(m:Nat)(st:A->B->St)(G:A->B->amV R)
 (br:∀f:St->Prop,uX k live m (λ(i:A×B)=>st i.1 i.2) (λi=>G i.1 i.2=some rr) f->GW P r N0 Q (Ao k f (wk P w0 aA)))
 (rest:∀a b,G a b=some rr->GW P r N0 Q (zO (st a b) (wk P w0 aA))) (hN:N0<=m:=by exact amd rfl) (e:vD (wk P w0 aA)=some (dQ aA):=by kernel_rfl):GW P r N0 Q w0:=
 DK hm k aA live m (λ(i:A×B)=>st i.1 i.2) (λi=>G i.1 i.2=some rr) br (λi=>rest i.1 i.2) hN e
def tr(i j n:Nat):Nat:=bif n==i then j else bif n==j then i else n
theorem Wm(i j n:Nat):tr i j (tr i j n)=n:=by
 unfold tr;cases h1:n==i with
 |true=>
  rw[beq_iff_eq]at h1;subst h1;simp only[cond_true];cases h2:j==n with
  |true=>rw[beq_iff_eq]at h2;subst h2;rfl
  |false=>rw[amO];rfl
 |false=>
  simp only[cond_false];cases h2:n==j with
  |true=>rw[beq_iff_eq]at h2;subst h2;simp only[cond_true];rw[amO];rfl
  |false=>simp only[cond_false];rw[h1,h2];rfl
theorem Vr{i j n k:Nat}(hi:i<k)(hj:j<k)(hn:n<k):tr i j n<k:=by
 unfold tr;cases n==i with
 |true=>exact hj
 |false=>cases n==j with
  |true=>exact hi
  |false=>exact hn
def LL(i j:Nat)(h:amT aq):amT aq:=match h[i]?,h[j]? with
 |some a,some b=>((h.set i b).set j a).map (aq.aL (tr i j))
 |_,_=>h
def Xl(i j:Nat)(s:St):St:=⟨s.n,s.t.map (λp=>(p.1,p.2.aL (tr i j))),LL i j s.h⟩
theorem Sa(f:AV->AV)(hf:f .dead= .dead):∀(t:amT (Nat×AV))(i:Nat),bq (t.map λp=>(p.1,f p.2)) i=f (bq t i)
 |[],i=>by rw[List.map_nil];show AV.dead=f .dead;rw[hf]
 |(k,x)::t,i=>by
  rw[amu,kZ,kZ,Sa f hf t i];by_cases h:i=k
  ·rw[if_pos h,if_pos h]
  ·rw[if_neg h,if_neg h]
theorem Rm{i j:Nat}{s:St}(hi:i<s.h.length)(hj:j<s.h.length)(hNi:N0<=i)(hNj:N0<=j):iX N0 s (Xl i j s):=by
 have ei:s.h[i]?=some s.h[i]:=al9 hi;have ej:s.h[j]?=some s.h[j]:=al9 hj;have eh:(Xl i j s).h=((s.h.set i s.h[j]).set j s.h[i]).map (aq.aL (tr i j)):=by
  show LL i j s.h=_;unfold LL;rw[ei,ej]
 refine iX.aL (tr i j) (tr i j) rfl (by rw[eh];simp) (λn hn=>Vr hi hj hn) (λn hn=>Vr hi hj hn) (λn _=>Wm i j n) (λn _=>Wm i j n) (λn hn=> ?_) (λn _=> .inl ?_) λn hn=> ?_
 ·unfold tr;rw[show(n==i)=false from beq_eq_false_iff_ne.2 (by omega),show(n==j)=false from beq_eq_false_iff_ne.2 (by omega)];rfl
 ·exact Sa (λx=>x.aL (tr i j)) rfl s.t n
 ·rw[eh,amc];refine congrArg (Option.map _) ?_;unfold tr;cases h1:n==i with
  |true=>
   rw[beq_iff_eq]at h1;subst h1;simp only[cond_true];rw[amy (by rw[List.length_set];exact hj),ei]
  |false=>
   simp only[cond_false];have pc:=beq_eq_false_iff_ne.1 h1;cases h2:n==j with
   |true=>
    rw[beq_iff_eq]at h2;subst h2;simp only[cond_true];rw[amD (by omega),amy hi,ej]
   |false=>
    have LJ:=beq_eq_false_iff_ne.1 h2;simp only[cond_false];rw[amD (by omega),amD (by omega)]
theorem WY{c:Code}{s s':St}(h:iX N0 s s')(k:bB P r N0 c Q s'):bB P r N0 c Q s:=⟨λG w a n hs hN=>by
 obtain⟨G1,hE,fU,eV⟩:=h G w a hN hs;exact wpIn_mono (k.run G1 w a n eV fU) λ_ _ _ hn=>hn.trans hE⟩
end
theorem qv:DL ee 1:=⟨λ_=>jY,λ_=>Hi,λ_ _=>aaM⟩
theorem mB:DL bA 1:=⟨λ_=>fy,λ_=>Ee,λ_ _=>ad0⟩
theorem Al:DL gq 2:=⟨λ_=>lq,λ_=>TA,λ_ _=>afm⟩
theorem zc:DL aS 2:=⟨λ_=>rX,λ_=>abN,λ_ _=>agF⟩
theorem wj:DL dO 2:=⟨λ_=>kp,λ_=>Lu,λ_ _=>aij⟩
theorem acT:DL oD 5:=⟨λ_=>aka,λ_=>aiN,λ_ _=>ajw⟩
theorem RV:DL oH 3:=⟨λ_=>Ke,λ_=>ad9,λ_ _=>aco⟩
theorem rM:DL gg 2:=⟨λ_=>hJ,λ_=>akm,λ_ _=>alb⟩
theorem Az:DL iO 3:=⟨λ_=>nh,λ_=>ala,λ_ _=>agw⟩
theorem yo:DL aX 8:=⟨λ_=>ub,λ_=>adb,λ_ _=>aks⟩
theorem S1:DL oG 1:=⟨λ_=>Pd,λ_=>ajL,λ_ _=>aap⟩
theorem Y1:DL kT 7:=⟨λ_=>As,λ_=>aj9,λ_ _=>ae2⟩
theorem pI:DL eB 4:=⟨λ_=>fF,λ_=>aaV,λ_ _=>aiH⟩
theorem qx:DL iG 13:=⟨λ_=>jr,λ_=>Z1,λ_ _=>aiK⟩
theorem No:DL jd 22:=⟨λ_=>xx,λ_=>Yq,λ_ _=>ahI⟩
abbrev KF(f:FuncId)(args:amT AV)(R:AV):Prop:=ga Tryz.prog f args (·=R)
abbrev KH(f:FuncId)(args:amT AV)(h:amT aq)(R:AV)(H:amT aq):Prop:=cZ Tryz.prog f args h λr1 h1=>r1=R/\h1=H
def KO{α:Type}(f:FuncId)(args:amT AV)(en:α->AV)(o:amV α):Prop:=∀r:α,o=some r->KF f args (en r)
def KP{α:Type}(f:FuncId)(args:amT AV)(h:amT aq)(en:α->AV)(eh:α->amT aq)(o:amV α):Prop:=∀r:α,o=some r->KH f args h (en r) (eh r)
def cK{α:Type}{f:FuncId}{args:amT AV}{en:α->AV}{o:amV α}{r:α}(k:KO f args en o)(h:o=some r):Ob Tryz.prog:=cL (k r h)
def IE{α:Type}(o:amV α)(G:α->Prop):Prop:=∀v,o=some v->G v
section
variable {α β:Type} {x:amV α} {G:α->Prop}
theorem aw{x:amV β}{f:β->amV α}(k:∀a,x=some a->IE (f a) G):IE (Option.bind x f) G:=λv h=>
 have ⟨a,h1,h2⟩:=bm h
 k a h1 v h2
theorem dG{c:Bool}(k:c=true->IE x G):IE (bif c then x else none) G:=λv h=>
 have ⟨h1,h2⟩:=Zw h
 k h1 v h2
theorem ax{c:Bool}{a b:amV α}(t:c=true->IE a G)(f:c=false->IE b G):IE (bif c then a else b) G:=λv h=>bc h (λi j=>t i v j) λi j=>f i v j
theorem gE{α β γ:Type}{Φ:α->β->γ->Prop}{x:γ}(a:α)(b:β)(k:Φ a b x:=by kernel_rfl):IE (some x) λy=>∃a b,Φ a b y:=λv h=>sj h▸⟨a,b,k⟩
theorem dc{α β γ:Type}{Φ:α->amT β->γ->Prop}{o:amV γ}(x:β)(k:IE o λy=>∃a b,Φ a (x::b) y):IE o λy=>∃a b,Φ a b y:=λv h=>
 have ⟨a,b,c⟩:=k v h
 ⟨a,x::b,c⟩
theorem cd{α β γ:Type}{Φ:amT α->β->γ->Prop}{o:amV γ}(x:α)(k:IE o λy=>∃a b,Φ (x::a) b y):IE o λy=>∃a b,Φ a b y:=λv h=>
 have ⟨a,b,c⟩:=k v h
 ⟨x::a,b,c⟩
end
section
variable {α β:Type} {o:amV α} {x y:α} {r:amV Nat} {N0:Nat} {Q:α->Exit->St->Prop} {w0:WO}
theorem gA(aA:amT (amT (Nat×Ob Tryz.prog)))(k:IE o λq=>q=y->GW Tryz.prog r N0 (Q q) (wk Tryz.prog w0 aA))(e:sD (wk Tryz.prog w0 aA)=some (dQ aA):=by kernel_rfl):IE o λq=>q=y->GW Tryz.prog r N0 (Q q) w0:=λv h q=>gK bw aA (k v h q) e
theorem gR{en:α->AV}{fn:Func}(aA:amT (amT (Nat×Ob Tryz.prog)))(e:sM Tryz.prog fn.results.toList (wk Tryz.prog w0 aA)=some (en x,dQ aA):=by kernel_rfl):IE (some x) λq=>q=y->GW Tryz.prog r N0 (kK Tryz.prog fn (en q)) w0:=λv h _=>sj h▸wr bw aA e
theorem gH{en:α->AV}{eh:α->amT aq}{fn:Func}{m:Nat}(aA:amT (amT (Nat×Ob Tryz.prog)))(e:JW Tryz.prog fn.results.toList m (wk Tryz.prog w0 aA)=some ((en x,eh x),dQ aA):=by kernel_rfl):IE (some x) λq=>q=y->GW Tryz.prog r N0 (s8 Tryz.prog fn m (en q) (eh q)) w0:=λv h _=>sj h▸mX bw aA e
theorem gG{x:amV β}{f:β->amV α}(Δ:β->amT (Nat×AV))(h':β->amT aq)(e:IE x λv=>∃sp si:amT (Nat×Ob Tryz.prog),Il Tryz.prog ((Δ v).map (·.1)) (iV (IA (H6 (wk Tryz.prog w0 [])) sp si)) (wk Tryz.prog w0 [])=some (Δ v,h' v,js (IA (H6 (wk Tryz.prog w0 [])) sp si)))(k:∀v,IE (f v) λq=>q=y->GW Tryz.prog r N0 (Q q) (uR (Δ v) (h' v) (wk Tryz.prog w0 [])))(e0:sD (wk Tryz.prog w0 [])=some []:=by kernel_rfl):IE (Option.bind x f) λq=>q=y->GW Tryz.prog r N0 (Q q) w0:=λv h q=>
 have ⟨a,h1,h2⟩:=bm h
 wL bw (Δ a) (h' a) (e a h1) (k a v h2 q) e0
theorem bn{c:Bool}{b:amV α}{en:α->AV}{fn:Func}(f:c=false->IE b λq=>q=y->GW Tryz.prog r N0 (kK Tryz.prog fn (en q)) w0)(e:∀h:c=true,sM Tryz.prog fn.results.toList (wk Tryz.prog w0 [[(0,bT h)],[]])=some (en x,dQ (P:=Tryz.prog) [[(0,bT h)],[]]):=by intro h;kernel_rfl):IE (bif c then some x else b) λq=>q=y->GW Tryz.prog r N0 (kK Tryz.prog fn (en q)) w0:=ax (λh=>gR [[(0,bT h)],[]] (e h)) (f)
theorem oT{c:Bool}{b:amV α}{en:α->AV}{fn:Func}(f:c=false->IE b λq=>q=y->GW Tryz.prog r N0 (kK Tryz.prog fn (en q)) w0)(e:∀h:c=true,sM Tryz.prog fn.results.toList (wk Tryz.prog w0 [[(0,bF (cH h))],[]])=some (en x,dQ (P:=Tryz.prog) [[(0,bF (cH h))],[]]):=by intro h;kernel_rfl):IE (bif c then some x else b) λq=>q=y->GW Tryz.prog r N0 (kK Tryz.prog fn (en q)) w0:=ax (λh=>gR [[(0,bF (cH h))],[]] (e h)) (f)
theorem jL{c:Bool}{b:amV α}{en:α->AV}{fn:Func}(f:c=true->IE b λq=>q=y->GW Tryz.prog r N0 (kK Tryz.prog fn (en q)) w0)(e:∀h:c=false,sM Tryz.prog fn.results.toList (wk Tryz.prog w0 [[(0,bF h)],[]])=some (en x,dQ (P:=Tryz.prog) [[(0,bF h)],[]]):=by intro h;kernel_rfl):IE (bif c then b else some x) λq=>q=y->GW Tryz.prog r N0 (kK Tryz.prog fn (en q)) w0:=ax (f) (λh=>gR [[(0,bF h)],[]] (e h))
theorem fW{c:Bool}{b:amV α}{en:α->AV}{fn:Func}(f:c=true->IE b λq=>q=y->GW Tryz.prog r N0 (kK Tryz.prog fn (en q)) w0)(e:∀h:c=false,sM Tryz.prog fn.results.toList (wk Tryz.prog w0 [[(0,bT (dj h))],[]])=some (en x,dQ (P:=Tryz.prog) [[(0,bT (dj h))],[]]):=by intro h;kernel_rfl):IE (bif c then b else some x) λq=>q=y->GW Tryz.prog r N0 (kK Tryz.prog fn (en q)) w0:=ax (f) (λh=>gR [[(0,bT (dj h))],[]] (e h))
theorem fP{c:Bool}{b:amV α}{en:α->AV}{fn:Func}(f:∀h:c=false,IE b λq=>q=y->GW Tryz.prog r N0 (kK Tryz.prog fn (en q)) (wk Tryz.prog w0 [[(0,bF h)],[]]))(e:∀h:c=true,sM Tryz.prog fn.results.toList (wk Tryz.prog w0 [[(0,bT h)],[]])=some (en x,dQ (P:=Tryz.prog) [[(0,bT h)],[]]):=by intro h;kernel_rfl)(e2:∀h:c=false,sD (wk Tryz.prog w0 [[(0,bF h)],[]])=some (dQ (P:=Tryz.prog) [[(0,bF h)],[]]):=by intro h;kernel_rfl):IE (bif c then some x else b) λq=>q=y->GW Tryz.prog r N0 (kK Tryz.prog fn (en q)) w0:=ax (λh=>gR [[(0,bT h)],[]] (e h)) (λh=>gA [[(0,bF h)],[]] (f h) (e2 h))
def t0{c:Bool}(h:c=true):Nat×Ob Tryz.prog:=(0,bT h)
def f0{c:Bool}(h:c=false):Nat×Ob Tryz.prog:=(0,bF h)
theorem li{w1:WO}(f:∀q,GW Tryz.prog r N0 (Q q) w1->GW Tryz.prog r N0 (Q q) w0)(k:IE o λq=>q=y->GW Tryz.prog r N0 (Q q) w1):IE o λq=>q=y->GW Tryz.prog r N0 (Q q) w0:=λv h q=>f v (k v h q)
theorem Uc{w1:WO}{p:Prop}(f:∀q,(p->GW Tryz.prog r N0 (Q q) w1)->GW Tryz.prog r N0 (Q q) w0)(k:p->IE o λq=>q=y->GW Tryz.prog r N0 (Q q) w1):IE o λq=>q=y->GW Tryz.prog r N0 (Q q) w0:=λv h q=>f v λa=>k a v h q
theorem gT{β:Type}{f:amT β->amT (amT D)}{z:Nat}(F:DL f z)(k:Nat)(l:amT β)(h:l.length<=maxLen->IE o λq=>q=y->GW Tryz.prog r N0 (Q q) w0)(hx:(bq (wS w0).t k).fE=some (f l):=by kernel_rfl):IE o λq=>q=y->GW Tryz.prog r N0 (Q q) w0:=λv h2 q=>JX F k l (λa=>h a v h2 q) hx
theorem gB{β:Type}{f:amT β->amT (amT D)}{z:Nat}(F:DL f z)(b i:Nat)(l:amT β)(h:l.length<=maxLen->IE o λq=>q=y->GW Tryz.prog r N0 (Q q) w0)(hx:(((wS w0).h[b]?).bind λB=>match B with| .cells cs=>(cs[i]?).bind AV.fE|_=>none)=some (f l):=by kernel_rfl):IE o λq=>q=y->GW Tryz.prog r N0 (Q q) w0:=λv h2 q=>WE F b i l (λa=>h a v h2 q) hx
theorem fw{f:FuncId}{fn:Func}{args:amT AV}{en:α->AV}(hf:Tryz.prog.funcs[f]?=some fn)(hw:∀{y},IE o λq=>q=y->GW Tryz.prog none 0 (kK Tryz.prog fn (en q)) (zj fn args []))(hb:fn.body.isSome=true:=by kernel_rfl)(hn:(fn.name== "runtime.NumGoroutine")=false:=by kernel_rfl):KO f args en o:=λr h=>JP hf (hw r h rfl) hb hn
theorem fh{f:FuncId}{fn:Func}{args:amT AV}{h:amT aq}{en:α->AV}{eh:α->amT aq}(m:Nat)(hf:Tryz.prog.funcs[f]?=some fn)(hw:∀{y},IE o λq=>q=y->GW Tryz.prog none h.length (s8 Tryz.prog fn m (en q) (eh q)) (zj fn args h))(hb:fn.body.isSome=true:=by kernel_rfl)(hn:(fn.name== "runtime.NumGoroutine")=false:=by kernel_rfl)(hm:h.length<=m:=by exact amd rfl):KP f args h en eh o:=λr q=>Cn m hf (hw r q rfl) hb hn hm
end
section
variable {α A B C D' R:Type} {rr:R} {r:amV Nat} {N0:Nat} {Q:R->Exit->St->Prop} {w0:WO}
theorem e7(k:Nat)(aA:amT (amT (Nat×Ob Tryz.prog)))(live:amT Nat)(m:Nat){L:amT α}(st:Nat->St){G:amT α->Nat->amV R}
 (nil:∀n,L.drop n=[]->∀f:St->Prop,IE (G [] n) λq=>q=rr->GW Tryz.prog r N0 (Q q) (gL k f (st n) (wk Tryz.prog w0 aA)))
 (cons:∀n x l,L.drop n=x::l->∀f:St->Prop,nV k live m L (λn(_:Unit)=>st n) (λl n _=>G l n) rr n x l () f->IE (G (x::l) n) λq=>q=rr->GW Tryz.prog r N0 (Q q) (gL k f (st n) (wk Tryz.prog w0 aA)))
 (hN:N0<=m:=by exact amd rfl) (e:lU live m (wk Tryz.prog w0 aA)=some (st 0,dQ aA):=by kernel_rfl):IE (G L 0) λq=>q=rr->GW Tryz.prog r N0 (Q q) w0:=λv h q=>
 wl0 bw k aA live m L st G (q▸h) (λn a2 b2 f=>q▸nil n a2 f rr b2 rfl) (λn x l a2 b2 f c2=>q▸cons n x l a2 f c2 rr b2 rfl) hN e
theorem gd(k:Nat)(aA:amT (amT (Nat×Ob Tryz.prog)))(live:amT Nat)(m:Nat){L:amT α}(st:Nat->A->St){G:amT α->Nat->A->amV R}{a0:A}
 (nil:∀n a,L.drop n=[]->∀f:St->Prop,IE (G [] n a) λq=>q=rr->GW Tryz.prog r N0 (Q q) (gL k f (st n a) (wk Tryz.prog w0 aA)))
 (cons:∀n x l a,L.drop n=x::l->∀f:St->Prop,nV k live m L st G rr n x l a f->IE (G (x::l) n a) λq=>q=rr->GW Tryz.prog r N0 (Q q) (gL k f (st n a) (wk Tryz.prog w0 aA)))
 (hN:N0<=m:=by exact amd rfl) (e:lU live m (wk Tryz.prog w0 aA)=some (st 0 a0,dQ aA):=by kernel_rfl):IE (G L 0 a0) λq=>q=rr->GW Tryz.prog r N0 (Q q) w0:=λv h q=>
 L8 bw k aA live m L st G a0 (q▸h) (λn a1 a2 b2 f=>q▸nil n a1 a2 f rr b2 rfl) (λn x l a1 a2 b2 f c2=>q▸cons n x l a1 a2 f c2 rr b2 rfl) hN e
theorem OO(k:Nat)(aA:amT (amT (Nat×Ob Tryz.prog)))(live:amT Nat)(m:Nat){L:amT α}(st:Nat->A->B->St){G:amT α->Nat->A->B->amV R}{a0:A}{b0:B}
 (nil:∀n a b,L.drop n=[]->∀f:St->Prop,IE (G [] n a b) λq=>q=rr->GW Tryz.prog r N0 (Q q) (gL k f (st n a b) (wk Tryz.prog w0 aA)))
 (cons:∀n x l a b,L.drop n=x::l->∀f:St->Prop,nV k live m L (λn(i:A×B)=>st n i.1 i.2) (λl n i=>G l n i.1 i.2) rr n x l (a,b) f->IE (G (x::l) n a b) λq=>q=rr->GW Tryz.prog r N0 (Q q) (gL k f (st n a b) (wk Tryz.prog w0 aA)))
 (hN:N0<=m:=by exact amd rfl) (e:lU live m (wk Tryz.prog w0 aA)=some (st 0 a0 b0,dQ aA):=by kernel_rfl):IE (G L 0 a0 b0) λq=>q=rr->GW Tryz.prog r N0 (Q q) w0:=λv h q=>
 wl2 bw k aA live m L st G a0 b0 (q▸h) (λn a1 b1 a2 b2 f=>q▸nil n a1 b1 a2 f rr b2 rfl) (λn x l a1 b1 a2 b2 f c2=>q▸cons n x l a1 b1 a2 f c2 rr b2 rfl) hN e
theorem gl3(k:Nat)(aA:amT (amT (Nat×Ob Tryz.prog)))(live:amT Nat)(m:Nat){L:amT α}(st:Nat->A->B->C->St){G:amT α->Nat->A->B->C->amV R}{a0:A}{b0:B}{c0:C}
 (nil:∀n a b c,L.drop n=[]->∀f:St->Prop,IE (G [] n a b c) λq=>q=rr->GW Tryz.prog r N0 (Q q) (gL k f (st n a b c) (wk Tryz.prog w0 aA)))
 (cons:∀n x l a b c,L.drop n=x::l->∀f:St->Prop,nV k live m L (λn(i:A×B×C)=>st n i.1 i.2.1 i.2.2) (λl n i=>G l n i.1 i.2.1 i.2.2) rr n x l (a,b,c) f->IE (G (x::l) n a b c) λq=>q=rr->GW Tryz.prog r N0 (Q q) (gL k f (st n a b c) (wk Tryz.prog w0 aA)))
 (hN:N0<=m:=by exact amd rfl) (e:lU live m (wk Tryz.prog w0 aA)=some (st 0 a0 b0 c0,dQ aA):=by kernel_rfl):IE (G L 0 a0 b0 c0) λq=>q=rr->GW Tryz.prog r N0 (Q q) w0:=λv h q=>
 wl3 bw k aA live m L st G a0 b0 c0 (q▸h) (λn a1 b1 c1 a2 b2 f=>q▸nil n a1 b1 c1 a2 f rr b2 rfl) (λn x l a1 b1 c1 a2 b2 f c2=>q▸cons n x l a1 b1 c1 a2 f c2 rr b2 rfl) hN e
theorem gb{ι:Type}{live:amT Nat}{m k:Nat}{L:amT α}{st:Nat->ι->St}{G:amT α->Nat->ι->amV R}{n:Nat}{x:α}{l:amT α}{i:ι}{f:St->Prop}(hf:nV k live m L st G rr n x l i f)(j:ι)(aA:amT (amT (Nat×Ob Tryz.prog)))(hd:L.drop n=x::l)(e1:ko k (wK w0)=[f]:=by kernel_rfl)(e:pF k live m (wk Tryz.prog w0 aA)=some (st (n+1) j,dQ aA):=by kernel_rfl):IE (G l (n+1) j) λq=>q=rr->GW Tryz.prog r N0 (Q q) w0:=λv h q=>wb bw hf j aA hd (q▸h) e1 e
theorem Qs(k:Nat)(aA:amT (amT (Nat×Ob Tryz.prog)))(live:amT Nat)(m:Nat)(st:A->St)(G:Nat->A->amV R){d:Nat}{a0:A}
 (succ:∀d a,∀f:St->Prop,te k live m st G rr d f->IE (G (d+1) a) λq=>q=rr->GW Tryz.prog r N0 (Q q) (gL k f (st a) (wk Tryz.prog w0 aA))) (h0:∀a,G 0 a=none:=by intros;rfl)
 (hN:N0<=m:=by exact amd rfl) (e:lU live m (wk Tryz.prog w0 aA)=some (st a0,dQ aA):=by kernel_rfl):IE (G d a0) λq=>q=rr->GW Tryz.prog r N0 (Q q) w0:=λv h q=>wf1 bw k aA live m st G d a0 (q▸h) (λd a1 b2 f c2=>q▸succ d a1 f c2 rr b2 rfl) h0 hN e
theorem PU(k:Nat)(aA:amT (amT (Nat×Ob Tryz.prog)))(live:amT Nat)(m:Nat)(st:A->B->St)(G:Nat->A->B->amV R){d:Nat}{a0:A}{b0:B}
 (succ:∀d a b,∀f:St->Prop,te k live m (λ(i:A×B)=>st i.1 i.2) (λd i=>G d i.1 i.2) rr d f->IE (G (d+1) a b) λq=>q=rr->GW Tryz.prog r N0 (Q q) (gL k f (st a b) (wk Tryz.prog w0 aA))) (h0:∀a b,G 0 a b=none:=by intros;rfl)
 (hN:N0<=m:=by exact amd rfl) (e:lU live m (wk Tryz.prog w0 aA)=some (st a0 b0,dQ aA):=by kernel_rfl):IE (G d a0 b0) λq=>q=rr->GW Tryz.prog r N0 (Q q) w0:=λv h q=>wf2 bw k aA live m st G d a0 b0 (q▸h) (λd a1 b1 b2 f c2=>q▸succ d a1 b1 f c2 rr b2 rfl) h0 hN e
theorem AJ{ι:Type}{live:amT Nat}{m k:Nat}{st:ι->St}{G:Nat->ι->amV R}{d:Nat}{f:St->Prop}(hf:te k live m st G rr d f)(j:ι)(aA:amT (amT (Nat×Ob Tryz.prog)))(e1:ko k (wK w0)=[f]:=by kernel_rfl)(e:pF k live m (wk Tryz.prog w0 aA)=some (st j,dQ aA):=by kernel_rfl):IE (G d j) λq=>q=rr->GW Tryz.prog r N0 (Q q) w0:=λv h q=>wbf bw hf j aA (q▸h) e1 e
theorem kC{o:amV R}(k:Nat)(aA:amT (amT (Nat×Ob Tryz.prog)))(live:amT Nat)(m:Nat)(st:A->St)(G:A->amV R)
 (br:∀f:St->Prop,uX k live m st (λa=>G a=some rr) f->IE o λq=>q=rr->GW Tryz.prog r N0 (Q q) (Ao k f (wk Tryz.prog w0 aA)))
 (rest:∀a,IE (G a) λq=>q=rr->GW Tryz.prog r N0 (Q q) (zO (st a) (wk Tryz.prog w0 aA))) (hN:N0<=m:=by exact amd rfl) (e:vD (wk Tryz.prog w0 aA)=some (dQ aA):=by kernel_rfl):IE o λq=>q=rr->GW Tryz.prog r N0 (Q q) w0:=λv h q=>Cv bw rr k aA live m st G (λf a=>br f a v h q) (λa1 b2=>q▸rest a1 rr b2 rfl) hN e
theorem NB{o:amV R}(k:Nat)(aA:amT (amT (Nat×Ob Tryz.prog)))(live:amT Nat)(m:Nat)(st:A->B->St)(G:A->B->amV R)
 (br:∀f:St->Prop,uX k live m (λ(i:A×B)=>st i.1 i.2) (λi=>G i.1 i.2=some rr) f->IE o λq=>q=rr->GW Tryz.prog r N0 (Q q) (Ao k f (wk Tryz.prog w0 aA)))
 (rest:∀a b,IE (G a b) λq=>q=rr->GW Tryz.prog r N0 (Q q) (zO (st a b) (wk Tryz.prog w0 aA))) (hN:N0<=m:=by exact amd rfl) (e:vD (wk Tryz.prog w0 aA)=some (dQ aA):=by kernel_rfl):IE o λq=>q=rr->GW Tryz.prog r N0 (Q q) w0:=λv h q=>wj2 bw rr k aA live m st G (λf a=>br f a v h q) (λa1 b1 b2=>q▸rest a1 b1 rr b2 rfl) hN e
theorem gm{ι:Type}{live:amT Nat}{m k:Nat}{st:ι->St}{G:ι->amV R}{f:St->Prop}(hf:uX k live m st (λi=>G i=some rr) f)(i:ι)(aA:amT (amT (Nat×Ob Tryz.prog)))(e1:ko k (wK w0)=[f]:=by kernel_rfl)(e:pF k live m (wk Tryz.prog w0 aA)=some (st i,dQ aA):=by kernel_rfl):IE (G i) λq=>q=rr->GW Tryz.prog r N0 (Q q) w0:=λv h q=>lg bw hf i aA (q▸h) e1 e
structure BX{α ι R:Type}(k:Nat)(live:List Nat)(m:Nat)(ks:List Nat)(kn:List (Nat×Nat))(L:List α)(st:Nat->ι->St)(G:List α->Nat->ι->Option R)(rr:R)(n:Nat)(x:α)(l:List α)(i:ι)(f:St->Prop):Prop where
 h:Hm k live m ks kn (λz:Nat×List α×ι=>st z.1 z.2.2) (λz=>L.drop z.1=z.2.1/\G z.2.1 z.1 z.2.2=some rr) (λz=>z.2.1.length) (n,x::l,i) f
structure Xh{ι R:Type}(k:Nat)(live:List Nat)(m:Nat)(ks:List Nat)(kn:List (Nat×Nat))(st:ι->St)(G:Nat->ι->Option R)(rr:R)(d:Nat)(f:St->Prop):Prop where
 h:∀i,Hm k live m ks kn (λz:Nat×ι=>st z.2) (λz=>G z.1 z.2=some rr) (λz=>z.1) (d+1,i) f
theorem gx1(k:Nat)(aA:amT (amT (Nat×Ob Tryz.prog)))(live:amT Nat)(m:Nat)(ks:amT Nat)(kn:amT (Nat×Nat)){L:amT α}(st:Nat->A->St){G:amT α->Nat->A->amV R}{a0:A}
 (nil:∀n a,L.drop n=[]->∀f:St->Prop,IE (G [] n a) λq=>q=rr->GW Tryz.prog r N0 (Q q) (gL k f (st n a) (wk Tryz.prog w0 aA)))
 (cons:∀n x l a,L.drop n=x::l->∀f:St->Prop,BX k live m ks kn L st G rr n x l a f->IE (G (x::l) n a) λq=>q=rr->GW Tryz.prog r N0 (Q q) (gL k f (st n a) (wk Tryz.prog w0 aA)))
 (hN:N0<=m:=by exact amd rfl) (hO:amT (VE m):=[]) (e0:xd m (wk Tryz.prog w0 aA)=hO.map VE.x:=by kernel_rfl) (e:Ct live m ks kn (wk Tryz.prog w0 aA)=some (st 0 a0,dQ aA):=by kernel_rfl):IE (G L 0 a0) λq=>q=rr->GW Tryz.prog r N0 (Q q) w0:=λv h q=>
 RR bw k aA live m ks kn (λz:Nat×amT α×A=>st z.1 z.2.2) (λz=>L.drop z.1=z.2.1/\G z.2.1 z.1 z.2.2=some rr) (λz=>z.2.1.length) (0,L,a0) ⟨rfl,q▸h⟩ (λz hz f hf=>by
  obtain⟨n,l,i⟩:=z;obtain⟨h1,h2⟩:=hz;rw[q];cases l with
  |nil=>exact nil n i h1 f rr h2 rfl
  |cons x l=>exact cons n x l i h1 f ⟨hf⟩ rr h2 rfl) hN hO e0 e
theorem ZJ(k:Nat)(aA:amT (amT (Nat×Ob Tryz.prog)))(live:amT Nat)(m:Nat)(ks:amT Nat)(kn:amT (Nat×Nat)){L:amT α}(st:Nat->St){G:amT α->Nat->amV R}
 (nil:∀n,L.drop n=[]->∀f:St->Prop,IE (G [] n) λq=>q=rr->GW Tryz.prog r N0 (Q q) (gL k f (st n) (wk Tryz.prog w0 aA)))
 (cons:∀n x l,L.drop n=x::l->∀f:St->Prop,BX k live m ks kn L (λn(_:Unit)=>st n) (λl n _=>G l n) rr n x l () f->IE (G (x::l) n) λq=>q=rr->GW Tryz.prog r N0 (Q q) (gL k f (st n) (wk Tryz.prog w0 aA)))
 (hN:N0<=m:=by exact amd rfl) (hO:amT (VE m):=[]) (e0:xd m (wk Tryz.prog w0 aA)=hO.map VE.x:=by kernel_rfl) (e:Ct live m ks kn (wk Tryz.prog w0 aA)=some (st 0,dQ aA):=by kernel_rfl):IE (G L 0) λq=>q=rr->GW Tryz.prog r N0 (Q q) w0:=
 gx1 k aA live m ks kn (λn(_:Unit)=>st n) (G:=(λl n _=>G l n)) (a0:=()) (λn i=>nil n) (λn x l i=>cons n x l) hN hO e0 e
theorem gbX{ι:Type}{live:amT Nat}{m k:Nat}{ks:amT Nat}{kn:amT (Nat×Nat)}{L:amT α}{st:Nat->ι->St}{G:amT α->Nat->ι->amV R}{n:Nat}{x:α}{l:amT α}{i:ι}{f:St->Prop}(hf:BX k live m ks kn L st G rr n x l i f)(j:ι)(aA:amT (amT (Nat×Ob Tryz.prog)))(hd:L.drop n=x::l)(e1:ko k (wK w0)=[f]:=by kernel_rfl)(hO:amT (VE m):=[])(e0:xd m (wk Tryz.prog w0 aA)=hO.map VE.x:=by kernel_rfl)(e:Iq k live m ks kn (wk Tryz.prog w0 aA)=some (st (n+1) j,dQ aA):=by kernel_rfl):IE (G l (n+1) j) λq=>q=rr->GW Tryz.prog r N0 (Q q) w0:=λv h q=>
 Ut bw hf.h (n+1,l,j) aA ⟨jR hd,q▸h⟩ (amR _) e1 hO e0 e
theorem aau(k:Nat)(aA:amT (amT (Nat×Ob Tryz.prog)))(live:amT Nat)(m:Nat)(ks:amT Nat)(kn:amT (Nat×Nat))(st:A->B->C->St)(G:Nat->A->B->C->amV R){d:Nat}{a0:A}{b0:B}{c0:C}
 (succ:∀d a b c,∀f:St->Prop,Xh k live m ks kn (λ(i:A×B×C)=>st i.1 i.2.1 i.2.2) (λd i=>G d i.1 i.2.1 i.2.2) rr d f->IE (G (d+1) a b c) λq=>q=rr->GW Tryz.prog r N0 (Q q) (gL k f (st a b c) (wk Tryz.prog w0 aA))) (h0:∀a b c,G 0 a b c=none:=by intros;rfl)
 (hN:N0<=m:=by exact amd rfl) (hO:amT (VE m):=[]) (e0:xd m (wk Tryz.prog w0 aA)=hO.map VE.x:=by kernel_rfl) (e:Ct live m ks kn (wk Tryz.prog w0 aA)=some (st a0 b0 c0,dQ aA):=by kernel_rfl):IE (G d a0 b0 c0) λq=>q=rr->GW Tryz.prog r N0 (Q q) w0:=λv h q=>
 RR bw k aA live m ks kn (λz:Nat×(A×B×C)=>((λ(i:A×B×C)=>st i.1 i.2.1 i.2.2)) z.2) (λz=>((λd i=>G d i.1 i.2.1 i.2.2)) z.1 z.2=some rr) (λz=>z.1) (d,(a0,b0,c0)) (q▸h) (λz hz f hf=>by
  obtain⟨d,i⟩:=z;rw[q];cases d with
  |zero=>exact absurd ((h0 i.1 i.2.1 i.2.2).symm.trans hz) (by simp)
  |succ d=>exact succ d i.1 i.2.1 i.2.2 f ⟨λj=>⟨λs' i' z0 z1 z2 z3=>hf.h s' i' z0 z1 z2 z3⟩⟩ rr hz rfl) hN hO e0 e
theorem afL{ι:Type}{live:amT Nat}{m k:Nat}{ks:amT Nat}{kn:amT (Nat×Nat)}{st:ι->St}{G:Nat->ι->amV R}{d:Nat}{f:St->Prop}(hf:Xh k live m ks kn st G rr d f)(j:ι)(aA:amT (amT (Nat×Ob Tryz.prog)))(e1:ko k (wK w0)=[f]:=by kernel_rfl)(hO:amT (VE m):=[])(e0:xd m (wk Tryz.prog w0 aA)=hO.map VE.x:=by kernel_rfl)(e:Iq k live m ks kn (wk Tryz.prog w0 aA)=some (st j,dQ aA):=by kernel_rfl):IE (G d j) λq=>q=rr->GW Tryz.prog r N0 (Q q) w0:=λv h q=>
 Ut bw (hf.h j) (d,j) aA (q▸h) (amR _) e1 hO e0 e
end
section
variable {P:amW} {r:amV Nat} {N0:Nat} {Q:Exit->St->Prop} {c:Code}
def BA(P:amW)(r:amV Nat)(N0:Nat)(c:Code)(Q:Exit->St->Prop):Nat->St->Prop
 |0,_=>False
 |m+1,s=>bB P r N0 c (ig (BA P r N0 c Q m) Q) s
theorem gn{m:Nat}{s:St}(h:bB P r N0 c (ig (BA P r N0 c Q m) Q) s):BA P r N0 c Q (m+1) s:=h
theorem BD(m:Nat){s:St}(h:BA P r N0 c Q m s):bB P r N0 (.loop c) Q s:=by
 constructor
 intro G0 w0 a0 n oh cv;refine wpIn_loop_rounds m ?_;have gen:∀(m:Nat)(s:St)(G:Gh)(w:amY)(a:Act),BA P r N0 c Q m s->c8 G w a s->N0<=G.N->bN N0 G0 w0 G w->Code.roundsIn (WF r) n P c (λe a' w'=>iF N0 G0 w0 (Q e) a' w') m a w:=by
  intro m
  induction m with
  |zero=>intro s G w a h _ _ _;exact h.elim
  |succ m ih=>
   intro s G w a h hs hN hE;refine wpIn_mono (bB.run h G w a n hs hN) λe a1 w1 hn=> ?_;obtain⟨G1,s1,ie,fU,eV,hq⟩:=hn;cases e with
   |normal=>exact ih s1 G1 w1 a1 hq eV fU (hE.trans ie)
   |_=>exact⟨G1,s1,hE.trans ie,fU,eV,hq⟩
 exact gen m s G0 w0 a0 h oh cv (bN.refl _ _ _)
end
theorem ahd{α:Type}{f:α->amT D}{d0:α}{zs:amT AV}{n dd:Nat}{l:Int}(hl:l=(n:Int))(hz:(f d0).map AV.d=zs)(h:n<=maxLen/\n*dd<=140737488355328):
 0<=l/\l<=l/\l.toNat=n/\l.toNat=n/\cg ((List.replicate n d0).map f)=List.replicate n zs/\n<=maxLen/\dd*n<=281474976710656:=by
 subst hl;refine⟨Int.natCast_nonneg _,Int.le_refl _,rfl,rfl,?_,h.1,?_⟩
 ·unfold cg;rw[List.map_replicate,List.map_replicate,hz]
 ·rw[Nat.mul_comm];exact amn h.2 (by decide)
inductive OT(P:Program) where
 |nil
 |node (k:Nat) (aA:List (Nat×Ob P)) (sub next:OT P)
def OT.ps{P:amW}:OT P->amT (In×bX)
 | .nil=>[]
 | .node _ aA sub next=>js aA++(sub.ps++next.ps)
def OT.isNil{P:amW}:OT P->Bool
 | .nil=>true
 |_=>false
def ph(C:amT Nat)(L:Nat)(r:amT Nat):amT Nat:=match wV C L r with
 |some k=>[k]
 |none=>r
def G6{P:amW}(A C:amT Nat)(f:amT Nat->Nat->amT Nat->St->amV (amT Lf×amT (In×bX)))(ZQ:Bool)(al:amT Nat)(s:St)(L:Nat):amV (amT Lf×amT (In×bX)):=
 match pP A L 0 with
 |[]=>bif ZQ then some ([(s,al,[])],[])else none
 |k0::r=>f (ph C L (k0::r)) L al s
def sf(P:amW)(ops:Array Oper)(A C:amT Nat):OT P->Nat->amT Nat->Nat->amT Nat->St->amV (amT Lf×amT (In×bX))
 | .nil,_,cs,_,_,_=>match cs with
   |[]=>some ([],[])
   |_=>none
 | .node k aA sub next,fuel,cs,L,al,s=>match cs with
   |[]=>none
   |c::cs=>match fuel with
    |0=>none
    |f+1=>bif k==c then(match ops[k]? with
     |some o=>bif BT o (iL (iV aA) (3*k+1))then(match nM P ops false o k (iV aA) s with
      |some (s1,l)=>match (fN (L|||(1<<<k)) λL1=>G6 (P:=P) A C (sf P ops A C sub f) sub.isNil (al++List.replicate (s1.h.length-s.h.length) k) s1 L1)with
       |some (a,pa)=>match sf P ops A C next (f+1) cs L al s with
        |some (b,pb)=>some (a++b,l++(pa++pb))
        |none=>none
       |none=>none
      |none=>none)else none
     |none=>none)else none
section
variable {P:amW} {ops:Array Oper} {K:St->Prop}
theorem Uy(hK:qS K)(hM:oe (Region.before ops) ops=true){f L:Nat}{listed:Array Bool}{s:St}{k0:Nat}{r:amT Nat}(hL:LM ops L listed)(hD:Dn ops listed)(hr:pP (nO ops 0 ops.size) L 0=k0::r)
 (h:∀k∈ph (kf ops true (Region.before ops) 0 ops.size) L (k0::r),∀o,ops[k]?=some o->∃y h1,mE true P ops o s y h1/\kH true P ops K f (listed.setIfInBounds k true) ((s.wh h1).put o.dst y)):kH true P ops K (f+1) listed s:=by
 unfold ph at h;cases hf:wV (kf ops true (Region.before ops) 0 ops.size) L (k0::r)with
 |some k=>
  rw[hf]at h;obtain⟨jI,w9⟩:=Ez hf;have tS:k∈Region.ready .any ops listed:=(hL.ready k).2 (by rw[hr];exact jI);have oa:k<ops.size:=by
    have:=(C5 _ 0 k).1 (by rw[hr];exact jI);obtain⟨_,_,a,ha,_⟩:=this;rw[Bq]at ha;split at ha
    ·next h=>omega
    ·cases ha
  obtain⟨y,hh,q1,q2⟩:=h k amb ops[k] (amr oa);refine HM hK hM (amr oa) f listed s hD (λj oj hj cQ oK rN=> ?_) tS q1 q2;have C3:=(amk.1 hj).1;have ML:Nat.testBit L j=false:=by
   rw[hL.b];have iQ:j<listed.size:=by rw[hL.sz];exact C3
   simpa [iQ]using oK
  have nj:Nat.testBit (tv ops true (Region.before ops) k) j=false:=by
   rw[<-Bool.not_eq_true];intro hc;have h5:(kf ops true (Region.before ops) 0 ops.size).getD k 0=tv ops true (Region.before ops) k:=by
     rw[List.getD_eq_getElem?_getD,LQ,if_pos oa,amp];rfl
   rw[h5]at w9;have:=congrArg (λn=>Nat.testBit n j) w9;simp only[Nat.testBit_or,hc,ML]at this;cases this
  unfold tv at nj;rw[Ea]at nj;unfold Qy at nj;rw[rN,amr oa,hj]at nj;simp [C3,cQ]at nj;exact nj
 |none=>
  rw[hf]at h;have yz:k0∈Region.ready .any ops listed:=(hL.ready k0).2 (by rw[hr];simp);refine⟨λe=>(by rw[e]at yz;cases yz),λi hi oi HW=> ?_⟩;exact h i (by rw[<-hr];exact(hL.ready i).1 hi) oi HW
theorem aff(hK:qS K)(hM:oe (Region.before ops) ops=true)(t0:amT (Nat×AV))(n0:Nat):
 ∀(t:OT P)(fuel:Nat)(cs:amT Nat)(L:Nat)(listed:Array Bool)(al:amT Nat)(s:St)(ls:amT Lf)(ps:amT (In×bX)),LM ops L listed->Dn ops listed->(∀c∈cs,c∈Region.ready .any ops listed)->sf P ops (nO ops 0 ops.size) (kf ops true (Region.before ops) 0 ops.size) t fuel cs L al s=some (ls,ps)->gi P ps->(∃pre,s.t=pre++t0)->s.n=n0->
  (∀x∈ls,(∃pre,x.1.t=pre++t0)/\x.1.n=n0)/\((∀x∈ls,K x.1)->∀k∈cs,∀o,ops[k]?=some o->∃f,fuel=f+1/\∃y h1,mE true P ops o s y h1/\kH true P ops K f (listed.setIfInBounds k true) ((s.wh h1).put o.dst y)):=by
 intro t
 induction t with
 |nil=>
  intro fuel cs L listed al s ls ps hL hD hc h bW hp hn;cases cs with
  |nil=>
   simp only[sf]at h;cases h
   exact⟨λx hx=>(by cases hx),λ_ k hk=>(by cases hk)⟩
  |cons=>simp [sf]at h
 |node k aA sub next ihs ihn=>
  intro fuel cs L listed al s ls ps hL hD hc h bW hp hn;cases cs with
  |nil=>simp [sf]at h
  |cons c cs=>
   cases fuel with
   |zero=>simp [sf]at h
   |succ f=>
    rw[sf]at h;have h':=kR h;clear h;obtain⟨YF,h⟩:=h';rw[beq_iff_eq]at YF;subst YF;split at h
    ·next o ho=>
     have h':=kR h;clear h;obtain⟨afh,h⟩:=h';split at h
     ·next s1 l hg=>
      rw[yT]at h;split at h
      ·next a pa ha=>
       split at h
       ·next b pb hb=>
        cases h
        have hl:gi P l:=λp hp=>bW p (List.mem_append_left _ hp);have hpa:gi P pa:=λp hp=>bW p (List.mem_append_right _ (List.mem_append_left _ hp));have hpb:gi P pb:=λp hp=>bW p (List.mem_append_right _ (List.mem_append_right _ hp));have tS:=hc k amb;have oa:=(amk.1 ho).1;obtain⟨wC,ku⟩:=ihn (f+1) cs L listed al s b pb hL hD (λc fV=>hc c (ame _ fV)) hb hpb hp hn;obtain⟨⟨p1,e1⟩,e2⟩:=ND hg;have W5:∃pre,s1.t=pre++t0:=by
         obtain⟨pre,e⟩:=hp;exact⟨p1++pre,by rw[e1,e,amm]⟩
        have Q2:s1.n=n0:=e2.trans hn;have E8:=hL.set oa;have A2:=hD.set tS;have uU:(∀x∈a,(∃pre,x.1.t=pre++t0)/\x.1.n=n0)/\((∀x∈a,K x.1)->kH true P ops K f (listed.setIfInBounds k true) s1):=by
         unfold G6 at ha;split at ha
         ·next hr=>
          obtain⟨_,ha⟩:=kR ha;cases ha
          have Em:Region.ready .any ops (listed.setIfInBounds k true)=[]:=by
           rw[List.eq_nil_iff_forall_not_mem];intro i hi;have:=(E8.ready i).1 hi;rw[hr]at this;cases this
          refine⟨λx hx=>by rw[List.mem_singleton]at hx;subst hx;exact⟨W5,Q2⟩,λhk=> ?_⟩;have jI:=hk _ amb;cases f with
          |zero=>exact⟨Em,jI⟩
          |succ f=>exact⟨λ_=>jI,λi hi=>by rw[Em]at hi;cases hi⟩
         ·next k1 r hr=>
          have BZ:∀c∈ph (kf ops true (Region.before ops) 0 ops.size) (L|||(1<<<k)) (k1::r),c∈Region.ready .any ops (listed.setIfInBounds k true):=by
           intro c fV;rw[E8.ready,hr];unfold ph at fV;split at fV
           ·next q hf=>
            rw[List.mem_singleton]at fV;subst fV;exact(Ez hf).1
           ·exact fV
          obtain⟨q1,q2⟩:=ihs f _ _ _ _ s1 a pa E8 A2 BZ ha hpa W5 Q2;refine⟨q1,λhk=> ?_⟩;have cQ:∃c,c∈ph (kf ops true (Region.before ops) 0 ops.size) (L|||(1<<<k)) (k1::r):=by
           unfold ph;split
           ·exact⟨_,amb⟩
           ·exact⟨_,amb⟩
          obtain⟨c0,vP⟩:=cQ;have Lp:c0<ops.size:=by
           have:=(C5 _ 0 c0).1 ((E8.ready c0).1 (BZ c0 vP));obtain⟨_,_,z,hz,_⟩:=this;rw[Bq]at hz;split at hz
           ·next h=>omega
           ·cases hz
          obtain⟨g,rfl,_⟩:=q2 hk c0 vP ops[c0] (amr Lp);refine Uy hK hM E8 A2 hr λk' ic o' l9=> ?_;obtain⟨g',e,y,h1,h2,h3⟩:=q2 hk k' ic o' l9;cases e
          exact⟨y,h1,h2,h3⟩
        refine⟨λx hx=>(amH.1 hx).elim (uU.1 x) (wC x),λhk k' ic o' l9=> ?_⟩;rcases amz.1 ic with rfl|ic
        ·rw[ho]at l9;cases l9;have h4:=RI (K:=(·=s1)) hg hl rfl afh;have h5:=uU.2 λx hx=>hk x (List.mem_append_left _ hx);rcases GY h4 with⟨g,hd⟩|⟨g,hd⟩
         ·obtain⟨y,h1,h2,h3⟩:=GP hd;exact⟨f,rfl,y,h1, .inl ⟨g,h2⟩,by rw[h3];exact h5⟩
         ·exact⟨f,rfl,_,s.h, .inr ⟨g,rfl,rfl⟩,by
           have e:(s.wh s.h).put o.dst (.d (.v undef))=s1:=hd;rw[e];exact h5⟩
        ·exact ku (λx hx=>hk x (List.mem_append_right _ hx)) k' ic o' l9
       ·cases h
      ·cases h
     ·cases h
    ·cases h
end
def MP(P:amW)(ol:amT Oper)(t:OT P)(keep:amT Nat)(s:St):amV (amT (amT (Nat×AV)×amT aq×amT (In×bX))×amT (In×bX)):=
 bif oe (Region.before ol.toArray) ol.toArray then fL (nO ol.toArray 0 ol.toArray.size) λA=>fL (kf ol.toArray true (Region.before ol.toArray) 0 ol.toArray.size) λC=>
  match G6 (P:=P) A C (sf P ol.toArray A C t ol.toArray.size) t.isNil [] s 0 with
  |some (ls,ps)=>match Fk keep s ls with
   |some r=>some (r,ps)
   |none=>none
  |none=>none
 else none
theorem akw{P:amW}{ol:amT Oper}{t:OT P}{keep:amT Nat}{s:St}{Δ:amT (Nat×AV)}{h':amT aq}{m N0:Nat}{K:St->Prop}(h:MP P ol t keep s=some (List.replicate m (Δ,h',[]),t.ps))(bW:gi P t.ps)(hN:N0<=s.h.length)(pO:∀i,(bq s.t i).aG s.h.length=true)(hK:Dw N0 K)(hk:K ⟨s.n,Δ++s.t,h'⟩):
 kH true P ol.toArray K ol.toArray.size (Array.replicate ol.toArray.size false) s:=by
 unfold MP at h;obtain⟨hM,h⟩:=kR h;rw[vK,vK]at h;split at h
 ·next ls ps e1=>
  split at h
  ·next r PX=>
   cases h
   have hL:LM ol.toArray 0 (Array.replicate ol.toArray.size false):=⟨by simp,λi=>by
    rw[Nat.zero_testBit,Array.getD_eq_getD_getElem?,Array.getElem?_replicate];split<;>rfl⟩
   have hD:Dn ol.toArray (Array.replicate ol.toArray.size false):=λj o ho hj=>by
    exfalso;rw[Array.getD_eq_getD_getElem?]at hj;rw[Array.getElem?_replicate]at hj;split at hj<;>simp at hj
   have leaf:∀x∈ls,((∃pre,x.1.t=pre++s.t)/\x.1.n=s.n)->K x.1:=λx hx hb=>by
    obtain⟨a,ha,e2⟩:=LN PX x hx;rw[List.mem_replicate]at ha;obtain⟨_,rfl⟩:=ha;obtain⟨k1,_⟩:=SD (P:=P) (ops:=ol.toArray) e2 hN pO hb.2 hb.1 (λp hp=>by cases hp);exact hK _ _ k1 hk
   unfold G6 at e1;split at e1
   ·next hr=>
    obtain⟨_,e1⟩:=kR e1;have e3:=Prod.mk.inj (amo e1);obtain⟨e3,_⟩:=e3;subst e3;have Em:Region.ready .any ol.toArray (Array.replicate ol.toArray.size false)=[]:=by
     rw[List.eq_nil_iff_forall_not_mem];intro i hi;have:=(hL.ready i).1 hi;rw[hr]at this;cases this
    have jI:=leaf _ amb ⟨⟨[],rfl⟩,rfl⟩;generalize hf:ol.toArray.size=f at*;cases f with
    |zero=>exact⟨Em,jI⟩
    |succ f=>exact⟨λ_=>jI,λi hi=>by rw[Em]at hi;cases hi⟩
   ·next k1 r' hr=>
    have BZ:∀c∈ph (kf ol.toArray true (Region.before ol.toArray) 0 ol.toArray.size) 0 (k1::r'),c∈Region.ready .any ol.toArray (Array.replicate ol.toArray.size false):=by
     intro c fV;rw[hL.ready,hr];unfold ph at fV;split at fV
     ·next q hf=>
      rw[List.mem_singleton]at fV;subst fV;exact(Ez hf).1
     ·exact fV
    obtain⟨q1,q2⟩:=aff (K:=K) hK.c hM s.t s.n t _ _ _ _ _ s ls _ hL hD BZ e1 bW ⟨[],rfl⟩ rfl;have q3:=q2 λx hx=>leaf x hx (q1 x hx);have cQ:∃c,c∈ph (kf ol.toArray true (Region.before ol.toArray) 0 ol.toArray.size) 0 (k1::r'):=by
     unfold ph;split
     ·exact⟨_,amb⟩
     ·exact⟨_,amb⟩
    obtain⟨c0,vP⟩:=cQ;have Lp:c0<ol.toArray.size:=by
     have:=(C5 _ 0 c0).1 ((hL.ready c0).1 (BZ c0 vP));obtain⟨_,_,z,hz,_⟩:=this;rw[Bq]at hz;split at hz
     ·next h=>omega
     ·cases hz
    obtain⟨g,eg,_⟩:=q3 c0 vP ol.toArray[c0] (amr Lp);have PX:=Uy (P:=P) (f:=g) (s:=s) (K:=K) hK.c hM hL hD hr λk' ic o' l9=>by
     obtain⟨g',e,y,h1,h2,h3⟩:=q3 k' ic o' l9;rw[eg]at e;cases e
     exact⟨y,h1,h2,h3⟩
    exact(congrArg (λn=>kH true P ol.toArray K n (Array.replicate ol.toArray.size false) s) eg).mpr PX
  ·cases h
 ·cases h
theorem OJ{P:amW}:∀t:OT P,gi P t.ps
 | .nil=>λp hp=>by cases hp
 | .node _ aA sub next=>λp hp=>by
   unfold OT.ps at hp;rcases amH.1 hp with hp|hp
   ·exact qb aA p hp
   ·rcases amH.1 hp with hp|hp
    ·exact OJ sub p hp
    ·exact OJ next p hp
section
variable {P:amW} {r:amV Nat} {N0 id n:Nat} {ol:amT Oper} {y:Code} {t:amT (Nat×AV)} {h:amT aq} {Q Q':Exit->St->Prop}
theorem ro(m:Nat)(hm:P.follows .mixedOrders=true)(T:OT P)(Δ:amT (Nat×AV))(h':amT aq)(e:MP P ol T (Δ.map (·.1)) ⟨n,t,h⟩=some (List.replicate m (Δ,h',[]),T.ps))(k:bB P r N0 y Q' ⟨n,Δ++t,h'⟩):bB P r N0 (.region id ol.toArray true) (ig (λs=>bB P r N0 y Q' s) Q) ⟨n,t,h⟩:=
 Po (m:=true) hm λhN pO=>akw e (OJ T) hN pO (Qz _) ⟨_,iX.refl _ _,k⟩
end
set_option maxRecDepth 100000
set_option maxHeartbeats 0
mutual
theorem Mv{m m':Nat}(hm:m<=m'):∀x:AV,x.aG m=true->x.aG m'=true
 | .own n _,h=>by rw[AV.aG,Bool.not_eq_true',<-Bool.not_eq_true,dq]at h ⊢;omega
 | .ptr n _,h=>by rw[AV.aG,Bool.not_eq_true',<-Bool.not_eq_true,dq]at h ⊢;omega
 | .row n _ _ _ _,h=>by rw[AV.aG,Bool.not_eq_true',<-Bool.not_eq_true,dq]at h ⊢;omega
 | .mp n,h=>by rw[AV.aG,Bool.not_eq_true',<-Bool.not_eq_true,dq]at h ⊢;omega
 | .cp n,h=>by rw[AV.aG,Bool.not_eq_true',<-Bool.not_eq_true,dq]at h ⊢;omega
 | .vec n _ _ _ _,h=>by rw[AV.aG,Bool.not_eq_true',<-Bool.not_eq_true,dq]at h ⊢;omega
 | .dD n _ _ _ _,h=>by rw[AV.aG,Bool.not_eq_true',<-Bool.not_eq_true,dq]at h ⊢;omega
 | .agg cs,h=>by rw[AV.aG]at h ⊢;exact Jc hm cs h
 | .aY cs,h=>by rw[AV.aG]at h ⊢;exact Jc hm cs h
 | .fn f cs,h=>by rw[AV.aG]at h ⊢;exact Jc hm cs h
 | .d _,_=>by simp only[AV.aG]
 | .bp ..,_=>by simp only[AV.aG]
 | .full _,_=>by simp only[AV.aG]
 | .hid _,_=>by simp only[AV.aG]
 | .dead,_=>by simp only[AV.aG]
theorem Jc{m m':Nat}(hm:m<=m'):∀l:amT AV,AV.ky m l=true->AV.ky m' l=true
 |[],_=>by simp [AV.ky]
 |x::l,h=>by
  rw[AV.ky,al7]at h ⊢;exact⟨Mv hm x h.1,Jc hm l h.2⟩
end
theorem ajM{m m':Nat}(hm:m<=m'){B:aq}(h:B.aG m=true):B.aG m'=true:=by
 have fK:∀cs:amT AV,cs.all (AV.aG m)=true->cs.all (AV.aG m')=true:=λcs h=>by
  rw[amv]at h ⊢;exact λx hx=>Mv hm x (h x hx)
 cases B with
 |cells cs=>exact fK cs h
 |lp ls p a b cs=>exact fK cs h
 |it sn cs=>exact fK cs h
 |eR T0 cs=>exact fK cs h
 |vec e k cs=>
  simp only[aq.aG,amv]at h ⊢;exact λc hc x hx=>Mv hm x (h c hc x hx)
 |front e k len=>rfl
 |iy e b=>rfl
 |map kv=>rfl
 |iC kv=>rfl
 |gone=>rfl
theorem Ps{m m':Nat}(hm:m<=m'){h:amT aq}(e:h.all (aq.aG m)=true):h.all (aq.aG m')=true:=by
 rw[amv]at e ⊢;exact λB hB=>ajM hm (e B hB)
abbrev oU(ext:amT Int):AV:= .bp [[.sl (bA ext)]] 0 0
def o7(p:amT Int):AV:= .d (.sl (bA p))
theorem RH{n i x:Nat}{xs:amT Nat}(h:(List.range n).drop i=x::xs):x=i:=by
 have:=bM h;have hi:i<(List.range n).length:=(al5.1 this).1;rw[List.getElem?_range (by simpa using hi)]at this;exact(amo this).symm
theorem abI(ext:amT Int)(n:Nat)(hn:n<=maxLen)(hc:ga Tryz.prog 198 [.d (.sl (bA ext))] (·=ar n)):yK Tryz.prog 197 [oU ext] ((List.range n).map λ(k:Nat)=>ar k):=by
 intro k h C j5 hk oh;have hs:=Du _ j5 oh;refine tD h.length Tryz.func197 rfl (by kernel_rfl) (amg _) ?_;show bB Tryz.prog none h.length _ _ ⟨14,[(0, .cp k),(1,oU ext)],h⟩
 repeat refine au ?_
 refine e9 ?_;refine bO rfl ?_;refine cN (x:= .d (.sl (bA ext))) (by kernel_rfl) rfl rfl ?_;refine bO rfl ?_;refine EU (g:=198) (dg:=[]) rfl rfl rfl ?_;refine hc.use rfl rfl ?_;refine bO rfl ?_;refine cN (x:= .d (.v (.int .i64 0))) (by kernel_rfl) rfl rfl ?_;refine aM ?_;refine dn ?_;refine GJ (ι:=Nat×amT Nat×amT aq) [0,5,6] h.length (λi=>⟨14,[(0, .cp k),(5, .d (.v (.int .i64 n))),(6, .d (.v (.int .i64 i.1)))],i.2.2⟩)
  (λi=>(List.range n).drop i.1=i.2.1/\ot h i.2.2/\lG Tryz.prog k (i.2.1.map λ(k:Nat)=>ar k) (λb h2=>C b h2/\ot h h2) i.2.2) (λi=>i.2.1.length) (0,List.range n,h) (amg _) ?_ ?_ ⟨rfl,⟨rfl,j5⟩,hs⟩ ?_
 ·exact Ih _ j5 (by
   show(((AV.cp k).bz h.length).aG h.length&&(true&&(true&&true)))=true;rw[AY hk];rfl)
 ·exact Fv _ j5
 rintro⟨i,rest,hb⟩ ⟨hd,⟨c1,c2⟩,iZ⟩;simp only at hd c1 c2 iZ ⊢
 repeat refine au ?_
 refine e9 ?_;refine bO rfl ?_;refine cN (x:= .d (.v (.bool (decide ((i:Int)<(n:Int)))))) (by kernel_rfl) rfl rfl ?_;refine aM ?_
 repeat refine au ?_
 have hlen:((List.range n).length:Int)=(n:Int):=by rw[List.length_range]
 cases rest with
 |nil=>
  rw[<-hlen,cf hd];refine lL (by kernel_rfl) ?_;refine kW (at_e (at_e (l4 rfl ?_)));exact HZ c1 c2 ⟨rfl,true,iZ.1⟩
 |cons x rest=>
  rw[<-hlen,bZ hd];have hx:=RH hd;subst hx;refine lS (by kernel_rfl) ?_;refine ct ?_;refine aM ?_
  repeat refine au ?_
  refine dn ?_
  repeat refine au ?_
  refine e9 ?_;refine bO rfl ?_;refine cN (x:= .d (.v (.int .i64 x))) (by kernel_rfl) rfl rfl ?_;refine bO rfl ?_;refine cN (x:= .d (.v (.int .i64 x))) (by kernel_rfl) rfl rfl ?_;refine aM ?_
  repeat refine au ?_
  refine e9 ?_;refine bO rfl ?_;refine cN (x:= .cp k) (by kernel_rfl) rfl rfl ?_;refine bO rfl ?_;refine cN (x:= .d (.v (.int .i64 x))) (by kernel_rfl) rfl rfl ?_;refine bO rfl ?_;rw[amu]at iZ;refine xS (k:=k) (x:=ar x) rfl rfl (by kernel_rfl) (by kernel_rfl) rfl rfl ?_;refine YS.mono iZ λb h2 hh=> ?_;obtain⟨⟨p1,p2⟩,p3⟩:=hh;have u1:h2.length=h.length:=by rw[p1,c1]
  have u2:h2.all (aq.aG h.length)=true:=by rw[c1]at p2;exact p2
  refine bO rfl ?_;refine cN (x:= .d (.v (.bool (!b)))) (by kernel_rfl) rfl rfl ?_;refine aM ?_;cases b with
  |false=>
   refine lS (by kernel_rfl) ?_;refine cU ?_
   repeat (first|(with_reducible refine cT ?_)|(with_reducible refine dS ?_))
   exact Ra u1 u2 ⟨rfl,false,p3.1⟩
  |true=>
   refine lL (by kernel_rfl) ?_;refine ct ?_;refine dU ?_;refine aM ?_;simp only[cond_true]at p3;refine e9 ?_;refine bO rfl ?_;refine cN (x:= .d (.v (.int .i64 ((x+1:Nat):Int)))) (by
    show some ((.d (.v (.int .i64 (aE ((x:Int)+1)))):AV),HD.same)=_;have:=cC hd rfl (by rw[List.length_range];exact hn);unfold ar at this;rw[this]) rfl rfl ?_
   refine bO rfl ?_;refine cN (x:= .d (.v (.int .i64 ((x+1:Nat):Int)))) (by kernel_rfl) rfl rfl ?_;refine aM ?_;refine⟨?_,(x+1,rest,h2),?_,⟨jR hd,⟨u1,u2⟩,p3⟩,amR _⟩
   ·rw[<-u1];exact Ih _ (by rw[u1];exact u2) (by
      show(((AV.cp k).bz h2.length).aG h2.length&&(true&&(true&&true)))=true;rw[u1,AY hk];rfl)
   ·rw[<-u1];exact Fv _ (by rw[u1];exact u2)
theorem adm(ext:amT Int):ga Tryz.prog 114 [.d (.sl (bA ext))] (·= .fn 197 [oU ext]):=by
 refine K5 (r:= .fn 197 [(.ptr 0 0)]) (h:=[.cells [.d (.sl (bA ext))]]) ?_ (by kernel_rfl) rfl;refine qn 1 Tryz.func114 rfl (by kernel_rfl) (amd rfl) ?_;refine mq (s':=⟨4,[(0, .d (.sl (bA ext)))],[]⟩) (by kernel_rfl) ?_;refine au ?_;refine rg [] [(1,(.ptr 0 0))] [.cells [.d (.sl (bA ext))]] (by kernel_rfl) ?_;refine au ?_;refine rg [] [(2,(.fn 197 [(.ptr 0 0)]))] [.cells [.d (.sl (bA ext))]] (by kernel_rfl) ?_;refine cU ?_;exact jj (by kernel_rfl)
theorem aiU{n:Nat}{t:amT (Nat×AV)}{H l:amT aq}(hb:H.all (aq.aG H.length)=true):uZ ⟨n,t,H++l⟩ H.length ⟨n,[],H⟩:=⟨fun{G w a} hs=>by
 have h1:=hs.mask (live:=[]) (zd (n:=n) (t:=t) (l:=l) [] hb rfl)
 rwa [yn [] hb]at h1⟩
theorem WN{n m:Nat}{t:amT (Nat×AV)}{H:amT aq}(hm:H.length=m)(hb:H.all (aq.aG m)=true):uZ ⟨n,t,H⟩ m ⟨n,[],H⟩:=by
 subst hm;have:=aiU (n:=n) (t:=t) (l:=[]) hb
 rwa [amq]at this
theorem aeK(ext:amT Int)(lI:amT (amT Int))(hn:lI.length<=maxLen)(hc:ga Tryz.prog 198 [.d (.sl (bA ext))] (·=ar lI.length))
 (hp:∀(k:Nat)(p:amT Int),lI[k]?=some p->ga Tryz.prog 115 [.d (.sl (bA ext)),ar k] (·= .aY [o7 p,az true])):yK Tryz.prog 113 [oU ext] (lI.map o7):=by
 intro k h C j5 hk oh;have hs:=Du _ j5 oh;refine tD h.length Tryz.func113 rfl (by kernel_rfl) (amg _) ?_
 suffices hA:bB Tryz.prog none h.length _ _ ⟨19,[(0, .cp k),(1,oU ext)],h++[]⟩ by rw[amq]at hA;exact hA
 have pk:∀m',h.length<=m'->(AV.cp k).aG m'=true:=λm' iu=>by simp [AV.aG,cq];omega
 have gh:∀m',h.length<=m'->(aq.cells [.cp k]).aG m'=true:=λm' iu=>by simp [aq.aG,pk m' iu]
 repeat refine au ?_
 refine e9 ?_;refine bO rfl ?_;refine Aa (QU (l:=[]) (v:= .cp k) rfl (by kernel_rfl)) rfl rfl CF ?_;refine aM ?_
 repeat refine au ?_
 refine e9 ?_;refine bO rfl ?_;refine cN (x:= .d (.sl (bA ext))) (by kernel_rfl) rfl rfl ?_;refine bO rfl ?_;refine EU (g:=114) (dg:=[]) rfl rfl rfl ?_;refine(adm ext).use rfl rfl ?_;refine aM ?_;refine dn ?_;show bB Tryz.prog none h.length _ _ ⟨19,[(7, .fn 197 [oU ext]),(6, .d (.sl (bA ext))),(2, .ptr h.length 0),(0, .cp k),(1,oU ext)],h++[.cells [.cp k]]⟩;refine xm (m:=h.length+1) (enc:=λ(q:Nat)=>ar q) (xs:=List.range lI.length) (gf:=197) (dg:=[oU ext]) (by kernel_rfl) (abI ext lI.length hn hc) (λ(i:{h1:amT aq // ot h h1})=>i.1++[.cells [.cp k]])
  (λi l=>∃j,(List.range lI.length).drop j=l/\lG Tryz.prog k ((lI.drop j).map o7) (λb h2=>C b h2/\ot h h2) i.1) ⟨h,rfl,j5⟩ rfl ⟨0,rfl,hs⟩ (λi=>by rw[al6,i.2.1];rfl) (λi=> ?_) ?_ (by kernel_rfl) ?_ ?_
 ·rw[List.all_append,Ps (amK _ 2) i.2.2];simp [gh (h.length+1+1) (by omega)]
 ·have hy:cq (h.length+1+1) k=false:=by rw[<-Bool.not_eq_true,dq];omega
  have hq:cq (h.length+1+1) h.length=false:=by rw[<-Bool.not_eq_true,dq];omega
  show(([0,1,2,3,4,5,6,7,8,9,10,11,12,13,14,15,16,17,18]:amT Nat).map λi=>bq _ i).all _=true;simp only[amu,List.map_nil,bq,amP,List.all_nil,Nat.reduceBEq,cond_true,cond_false,Bool.and_true,AV.aG,AV.ky];rw[hy,hq];rfl
 ·rintro⟨hb,c1,c2⟩ x l ⟨j,hd,iZ⟩ rr a b;have hx:=RH hd;subst hx;have hj:x<lI.length:=by
   have:=bM hd;have:=(al5.1 this).1
   simpa using this
  simp only at iZ ⊢;refine e9 ?_;refine bO rfl ?_;refine cN (x:=ar x) (by kernel_rfl) rfl rfl ?_;refine aM ?_;refine⟨hb++[.cells [.cp k]],[],by rw[al6,c1];rfl,rfl,?_⟩;generalize YI:aq.lp .busy 8 a b (dt 19 _)=LP;have alM:LP.aG (h.length+2)=true:=by
   rw[<-YI];have hy:cq (h.length+2) k=false:=by rw[<-Bool.not_eq_true,dq];omega
   have hq:cq (h.length+2) h.length=false:=by rw[<-Bool.not_eq_true,dq];omega
   show(([0,1,2,3,4,5,6,7,8,9,10,11,12,13,14,15,16,17,18]:amT Nat).map λi=>bq _ i).all _=true;simp only[amu,List.map_nil,bq,amP,List.all_nil,Nat.reduceBEq,cond_true,cond_false,Bool.and_true,AV.aG,AV.ky];rw[hy,hq];rfl
  clear YI;refine dn ?_
  repeat refine au ?_
  refine e9 ?_;refine bO rfl ?_;refine cN (x:= .d (.sl (bA ext))) (by kernel_rfl) rfl rfl ?_;refine bO rfl ?_;refine cN (x:=ar x) (by kernel_rfl) rfl rfl ?_;refine bO rfl ?_;refine EU (g:=115) (dg:=[]) rfl rfl rfl ?_;refine(hp x lI[x] (al9 hj)).use rfl rfl ?_;refine bO rfl ?_;refine cN (x:= .aY [o7 lI[x],az true]) (by kernel_rfl) rfl rfl ?_;refine bO rfl ?_;refine cN (x:=o7 lI[x]) (by kernel_rfl) rfl rfl ?_;refine bO rfl ?_;refine cN (x:=az true) (by kernel_rfl) rfl rfl ?_;refine bO rfl ?_;refine cN (x:=o7 lI[x]) (by kernel_rfl) rfl rfl ?_;refine bO rfl ?_;refine cN (x:=az true) (by kernel_rfl) rfl rfl ?_;refine aM ?_;rw[show(hb++[aq.cells [.cp k]])++[LP]=hb++[aq.cells [.cp k],LP] by simp]
  repeat refine au ?_
  refine e9 ?_;refine bO rfl ?_;refine cN (wN (h:=hb) (i:=0) (off:=0) (l:=[.cells [.cp k],LP]) (x:= .cp k) (by rw[c1];rfl) rfl (by kernel_rfl)) rfl rfl ?_;refine bO rfl ?_;refine cN (x:=o7 lI[x]) (by kernel_rfl) rfl rfl ?_;refine bO rfl ?_;rw[List.drop_eq_getElem_cons hj,amu]at iZ;have hy:=I3 iZ [.cells [.cp k],LP] (by rw[c1];exact c2) (by kernel_rfl) (λb h' hh=>hh.1);refine xS (k:=k) (x:=o7 lI[x]) rfl rfl (by kernel_rfl) (by kernel_rfl) rfl rfl ?_;refine hy.mono λb h' hh=> ?_;obtain⟨h2,⟨⟨p1,p2⟩,p3⟩,rfl⟩:=hh;have u1:h2.length=h.length:=by rw[p1,c1]
  have u2:h2.all (aq.aG h.length)=true:=by rw[c1]at p2;exact p2
  have v1:(h2++[aq.cells [.cp k]]).length=h.length+1:=by rw[al6,u1];rfl
  have v2:(h2++[aq.cells [.cp k]]).all (aq.aG (h.length+2))=true:=by
   rw[List.all_append,Ps (amK _ 2) u2];simp [gh]
  have v3:(h2++[aq.cells [.cp k],LP]).all (aq.aG (h.length+2))=true:=by
   rw[List.all_append,Ps (amK _ 2) u2];simp [gh,alM]
  have v4:(h2++[aq.cells [.cp k],LP]).length=h.length+2:=by rw[al6,u1];rfl
  have v5:h2++[aq.cells [.cp k],LP]=(h2++[aq.cells [.cp k]])++[LP]:=by simp
  refine bO rfl ?_;refine cN (x:= .d (.v (.bool (!b)))) (by kernel_rfl) rfl rfl ?_;refine aM ?_;cases b with
  |false=>
   refine lS (by kernel_rfl) ?_;refine cU ?_
   repeat (first|(with_reducible refine cT ?_)|(with_reducible refine dS ?_))
   refine⟨h2++[.cells [.cp k]],v1,v2,?_,?_⟩
   ·have Oh:∀t,uZ ⟨19,t,h2++[aq.cells [.cp k],LP]⟩ (h.length+2) ⟨19,[],(h2++[aq.cells [.cp k]])++[LP]⟩:=λt=>by
     rw[<-v5];exact WN v4 v3
    exact Oh _
   ·refine dS ?_;rw[amm];exact zl u1 u2 ⟨rfl,false,p3.1⟩
  |true=>
   refine lL (by kernel_rfl) ?_;refine ct ?_;refine dU ?_;simp only[cond_true]at p3;refine⟨h2++[.cells [.cp k]],v1,v2,?_,⟨h2,u1,u2⟩,rfl,x+1,jR hd,p3⟩;have Oh:∀t,uZ ⟨19,t,h2++[aq.cells [.cp k],LP]⟩ (h.length+2) ⟨19,[],(h2++[aq.cells [.cp k]])++[LP]⟩:=λt=>by
    rw[<-v5];exact WN v4 v3
   exact Oh _
 ·rintro⟨hb,c1,c2⟩ ⟨j,hd,iZ⟩;have:lI.drop j=[]:=by
   have h1:=List.drop_eq_nil_iff.1 hd;rw[List.length_range]at h1;exact List.drop_eq_nil_iff.2 h1
  rw[this,List.map_nil]at iZ;refine dU ?_;rw[amm];have:=MM (P:=Tryz.prog) (fn:=Tryz.f113) (n:=19) (K:=λ_ h1=>∃b,C b h1) (t:=[(7, .fn 197 [oU ext]),(6, .d (.sl (bA ext))),(2, .ptr h.length 0),(0, .cp k),(1,oU ext)]) (l:=[.cells [.cp k]]++[.gone]) c1 c2;refine this ?_;exact⟨rfl,true,iZ.1⟩
def ij(a b:Int)(neg:Bool)(how:Int):Bool:=
 let q:=IntKind.u64.wrap (a.tdiv b);let r:=a.tmod b
 (r==0||how==3)||((how==1&& !neg)||(how==2&&neg))||(how==4&&(decide (IntKind.u64.wrap (2*r)<b)||(IntKind.u64.wrap (2*r)==b&&q.tmod 2==0)))
def rk(a b:Int)(neg:Bool)(how:Int):Int:=bif ij a b neg how then IntKind.u64.wrap (a.tdiv b)else IntKind.u64.wrap (IntKind.u64.wrap (a.tdiv b)+1)
end Go.Proofs.YtnnapanbbbcalaaGreatDoor
