/-
  Part 6 of the proof: Cmp, Sorts.
-/
import Derived.Test.YtphmhnabilhbgaaGreatDoorPm5
import Derived.WalkKit
import Derived.Lib.Bytealg
import Derived.Shelf.Sort.Plain
import Derived.Shelf.Slices.CompactS
import Derived.Shelf.Slices.In.SortNone
import Derived.Sort.OwnSorted
namespace Go.Proofs.YtphmhnabilhbgaaGreatDoor
open Go.RowKit
set_option maxRecDepth 100000
def Dy(a b:agV):Int:=Lib.compareBytes (bL a) (bL b)
theorem VV(a b:agV)(w:agZ):Calls Tryz.prog 217 #[.string a, .string b] w fun e w'=>e= .returned (.int .i64 (Dy a b))∧w'=w:=by
 go_enter Tryz.func217,Tryz.ntmps217
 go_wp2
 rw[run_callFunc_extern Tryz.func242 (by kernel_rfl) (by kernel_rfl) (by kernel_rfl) (e:=Extern.BytealgCompare.compare) (by kernel_rfl),Lib.run_compareString];simp only[Result.andThen];rw[Oper.upon_value]
 go_wp2
 go_ret
 exact⟨rfl,rfl⟩
theorem Yy(a b:agV)(w:agZ):Calls Tryz.prog 185 #[.string a, .string b] w fun e w'=>e= .returned (.int .i64 (Dy a b))∧w'=w:=by
 go_enter Tryz.func185,Tryz.ntmps185
 go_wp2_with (go_at_call 217;refine(VV _ _ _).mono ?_;rintro e w' ⟨rfl,rfl⟩)
 go_ret
 exact⟨rfl,rfl⟩
theorem aap(a b:agV):bA Tryz.prog 185 [bp a,bp b] (·=ao (Dy a b)):=by
 refine⟨by kernel_rfl,fun G w vs hi hl hr=> ?_⟩;have h0:∃u v,vs= #[u,v]:=⟨vs[0]'(by rw[hl];exact agd rfl),vs[1]'(by rw[hl];exact agd rfl),Array.ext hl fun i h1 h2=>by
  match i,h2 with
  |0,_=>rfl
  |1,_=>rfl⟩
 obtain⟨u,v,rfl⟩:=h0;have e0:=(hr 0 u _ rfl rfl).val;have e1:=(hr 1 v _ rfl rfl).val;subst e0;subst e1;refine(Yy a b w).mono fun e w' hp=> ?_;obtain⟨rfl,rfl⟩:=hp;exact⟨_,G,_,_,rfl,bK.refl _ _ _,agh _,hi, .d (.v _),rfl,rfl⟩
end Go.Proofs.YtphmhnabilhbgaaGreatDoor
namespace Go.Proofs.YtphmhnabilhbgaaGreatDoor
open Go.RowKit Go.Shelf
set_option maxRecDepth 100000
set_option linter.unusedVariables false
def Z2:Ren where
 f:=fun
  |190=>82
  |125=>119
  |258=>118
  |128=>156
  |129=>157
  |302=>147
  |303=>148
  |304=>149
  |305=>150
  |306=>151
  |307=>152
  |308=>153
  |309=>154
  |310=>155
  |333=>192
  |329=>193
  |330=>194
  |334=>195
  |335=>196
  |336=>197
  |344=>225
  |n=>n
 t:=fun
  |31=>22
  |9=>9
  |3=>3
  |46=>161
  |0=>0
  |51=>191
  |53=>193
  |4=>4
  |183=>183
  |182=>182
  |131=>188
  |5=>5
  |218=>214
  |222=>218
  |228=>232
  |229=>233
  |n=>n
 g:=fun n=>n
theorem OE:Lays.n190 Tryz.prog Z2:=by
 constructor<;>first|kernel_rfl|(intro w;rfl)
def Wf:Ren where
 f:=fun
  |194=>83
  |n=>n
 t:=fun
  |31=>22
  |n=>n
 g:=fun n=>n
theorem P1:Lays.n194 Tryz.prog Wf:=by
 constructor<;>first|kernel_rfl|(intro w;rfl)
def jv(ss:agU agV):agU (agU UInt8):=(ss.map bL).mergeSort fun x y=>decide (x≤y)
def gw(ss:agU agV):agU agV:=(Lib.compact (jv ss)).map fun l=>⟨l.toArray⟩
theorem Sp(ss:agU agV):(jv ss).length=ss.length:=by unfold jv;rw[List.length_mergeSort,aga]
theorem ace(p:agW Addr)(cap:Nat)(w:agZ):Calls Tryz.prog 47 #[.slice p 0 cap] w fun e w'=>e= .returned (.slice p 0 cap)∧w'=w:=by
 have h1:Calls Tryz.prog 82 #[.slice p 0 cap] w fun e w'=>e= .returned (.tuple #[])∧w'=w:=Any.slices_Sort_string_none OE p cap w;have h2:Calls Tryz.prog 83 #[.slice p 0 cap] w fun e w'=>e= .returned (.slice p 0 cap)∧w'=w:=Any.slices_Compact_string_empty P1 p cap w
 go_enter Tryz.func47,Tryz.ntmps47
 go_wp2_with (first|(go_at_call 82;refine h1.mono ?_;rintro e w' ⟨rfl,rfl⟩)|(go_at_call 83;refine h2.mono ?_;rintro e w' ⟨rfl,rfl⟩))
 go_ret
 exact⟨rfl,rfl⟩
theorem afx{w:agZ}{g:Nat}{cur:Array agY}{e:TypeId}{fr:Nat×Nat}(hb:w.heap[g]?=some (.cells cur e fr))(i:Nat):w.cell? ⟨g,i,none⟩=cur[i]?:=by
 simp only[World.cell?,hb,Option.isSome_none,Bool.false_eq_true,if_false]
theorem RQ(zs:agU (agU UInt8)):(Lib.compact zs).length≤zs.length:=by
 have h:∀m,(Lib.compactUpTo zs.toArray m).length≤m:=by
  intro m
  induction m with
  |zero=>exact agh _
  |succ m ih=>
   rw[Lib.compactUpTo_succ,af6];split
   ·simp only[af8,agi];omega
   ·simp only[agi];omega
 exact h zs.length
theorem ack(g cap:Nat)(ss:agU agV)(cur:Array agY)(w:agZ)(hb:w.heap[g]?=some (.cells cur 9 (0,0)))(ht:cur.toList.take ss.length=(ss.map bL).map encStr)(hc:cur.size=cap)(im:ss.length≤cap)(hm:cap≤maxLen)(fZ:ss.length<4611686018427387904):
 Calls Tryz.prog 47 #[.slice (some ⟨g,0,none⟩) ss.length cap] w fun e w'=>e= .returned (.slice (some ⟨g,0,none⟩) (gw ss).length cap)∧w.grownBy w' (some g)∧∀(i:Nat)(s:agV),(gw ss)[i]?=some s→w'.cell? ⟨g,i,none⟩=some (.string s):=by
 have hg:g<w.heap.size:=(agl.1 hb).1;have XO:=Sp ss;obtain⟨SW,Pw⟩:∃SW:agZ→Prop,SW=fun w'=>∃n os,w'=Sort.grow (Sort.putRow encStr (Sort.ahead w n) g 0 (jv ss).toArray) os:=⟨_,rfl⟩;have h1:Calls Tryz.prog 82 #[.slice (some ⟨g,0,none⟩) ss.length cap] w fun e w'=>e= .returned (.tuple #[])∧SW w':=by
  have h:=Any.slices_Sort_string OE g 0 cap (ss.map bL) w (holds_of_block hb (by rw[aga];exact ht)) hg (by rw[aga];exact fZ);rw[aga]at h;rw[Pw];exact h
 have h2:∀w1,SW w1→Calls Tryz.prog 83 #[.slice (some ⟨g,0,none⟩) ss.length cap] w1 fun e w'=>e= .returned (.slice (some ⟨g,0,none⟩) (gw ss).length cap)∧(w.grownBy w' (some g)∧∀(i:Nat)(s:agV),(gw ss)[i]?=some s→w'.cell? ⟨g,i,none⟩=some (.string s)):=by
  intro w1 hw;rw[Pw]at hw;obtain⟨n,os,rfl⟩:=hw;have hb1:=heap_sorted (n:=n) (os:=os) (jv ss).toArray hb;have yj:=grownBy_sorted (w:=w) (g:=g) (n:=n) (os:=os) (jv ss).toArray;have eM:(Sort.putCells encStr 0 (jv ss).toArray cur).size=cur.size:=by simp [Sort.putCells]
  have ht1:=take_putCells cur (jv ss) (by omega);generalize Sort.grow (Sort.putRow encStr (Sort.ahead w n) g 0 (jv ss).toArray) os=w1 at*;generalize Sort.putCells encStr 0 (jv ss).toArray cur=Uj at*;have h:=Any.slices_Compact_string P1 g 0 cap (jv ss) w1 (holds_of_block hb1 ht1) (by unfold maxLen at hm;omega) (by omega);rw[XO]at h;refine h.mono fun e w' hp=> ?_;obtain⟨rfl,q,rfl⟩:=hp;have hk:(gw ss).length=(Lib.compact (jv ss)).length:=by unfold gw;rw[aga]
  refine⟨by rw[hk],?_⟩;obtain⟨ys,ga⟩:∃ys,ys=Lib.compact (jv ss)++List.replicate (ss.length-(Lib.compact (jv ss)).length) []:=⟨_,rfl⟩;rw[←ga];have pF:ys.length≤Uj.size:=by
   have:=RQ (jv ss);rw[ga,af6,agG];omega
  have yp:=grownBy_sorted (w:=w1) (g:=g) (n:=q) (os:= #[]) ys.toArray;have jt:=heap_sorted (n:=q) (os:= #[]) ys.toArray hb1;rw[Sort.grow_empty]at yp jt;have ht2:=take_putCells Uj ys pF;refine⟨⟨yp.os.trans yj.os,yp.tape.trans yj.tape,yp.output.trans yj.output,ago yj.size yp.size,fun k hk cO=>(yp.block k (agu hk yj.size) cO).trans (yj.block k hk cO)⟩,fun i s hi=> ?_⟩;rw[afx jt i];unfold gw at hi;rw[agc]at hi;cases hq:(Lib.compact (jv ss))[i]? with
  |none=>rw[hq]at hi;cases hi
  |some l=>
   rw[hq]at hi;cases hi;have hX:=(af5.1 hq).1;have hy:ys[i]?=some l:=by rw[ga,agf hX];exact hq
   have:=congrArg (fun l:agU agY=>l[i]?) ht2;rw[List.getElem?_take_of_lt (af5.1 hy).1,agc,hy,agt]at this;exact this
 go_enter Tryz.func47,Tryz.ntmps47
 go_wp2_with (first|(go_at_call 82;refine h1.mono ?_;rintro e w1 ⟨rfl,Fs⟩)|(go_at_call 83;refine(h2 _ Fs).mono ?_;rintro e w2 ⟨rfl,IM⟩))
 go_ret
 exact⟨rfl,IM⟩
theorem Wj:gw []=[]:=by kernel_rfl
theorem RK{G:Gh}{w:agZ}{B:an}(hi:bO G w [B]):bO G w [.gone]:=by
 refine⟨hi.len,hi.z,hi.S,fun n C hC=> ?_,fun m n b h1 h2=> ?_,hi.gl⟩
 ·match n,hC with
  |0,hC=>cases hC;exact trivial
  |n+1,hC=>simp at hC
 ·match m,h1 with
  |0,h1=>cases h1
  |m+1,h1=>simp [bR]at h1
theorem adH{xs:agU agV}{L:Nat}(hL:xs.length=L)(fZ:L<4611686018427387904):
 bD Tryz.prog 47 [.vec 0 0 L L 1] [.vec 9 1 (aI (aB xs))] fun r1 h1=>r1= .d (.sl (aB (gw xs)))∧h1=[.gone]:=by
 refine⟨by kernel_rfl,fun G w vs hinv hvs hr=> ?_⟩;have mA:([an.vec 9 1 (aI (aB xs))]:agU an)[0]?=some (.vec 9 1 (aI (aB xs))):=rfl;have fW:(aI (aB xs)).length=L:=by rw[mf,dz,hL]
 obtain⟨v0,rfl⟩:∃v0,vs= #[v0]:=by
  obtain⟨l⟩:=vs
  match l,hvs with
  |[a],_=>exact⟨a,rfl⟩
 have r0:=hr 0 v0 _ rfl rfl;obtain⟨qU,⟨A,cc,rfl,q2,q3,q4,q5⟩,_⟩:=r0.nJ hinv mA fW;by_cases h0:L=0
 ·subst h0;obtain rfl:xs=[]:=List.eq_nil_of_length_eq_zero hL;refine(ace A cc w).mono fun e w' hp=> ?_;obtain⟨rfl,rfl⟩:=hp;refine⟨_,G,_,_,rfl,bK.refl _ _ _,agh _,RK hinv,?_,rfl,rfl⟩;rw[Wj];exact .d (.sl A 0 0 cc 1 [] (fun _ _=>undef) (fun h=>absurd rfl h) (Nat.zero_le _) q3 (fun _ h=>by cases h) (fun _ _ h=>absurd h (agy _)) fun _ _ _ _ h=>by simp at h)
 ·obtain⟨g,cap,s1,rfl,s3⟩:=q5 (by omega);obtain⟨g',sU,cur,t1,t2,t3,t4,t5,t6,t7,t8,t9⟩:=tA hinv mA (fun e=>by rw[e]at fW;simp at fW;omega);rw[t2,fW]at s1;cases s1
  have I6:cc=cap:=by omega
  subst I6;rw[fW]at t5;rw[Nat.mul_one]at t7;have hg:g<w.heap.size:=(agl.1 t4).1;have ht:cur.toList.take xs.length=(xs.map bL).map encStr:=by
   apply List.ext_getElem?;intro j;by_cases hj:j<xs.length
   ·have hx:xs[j]?=some xs[j]:=af9 hj;have OH:j<cur.size:=by omega
    have hu:cur[j*1+0]?=some cur[j]:=by rw[Nat.mul_one,Nat.add_zero];exact ags OH
    have:=(t9 j 0 [.d (.v (.string xs[j]))] (.d (.v (.string xs[j]))) cur[j] (xS (m5 hx)) rfl hu).val;rw[List.getElem?_take_of_lt hj,agt,ags OH,this,agc,agc,hx];rfl
   ·rw[List.getElem?_take_eq_none (by omega),agC (by simp;omega)]
  have hw:=ack g cc xs cur w t4 ht t7 (by omega) t6 (by omega);rw[hL]at hw;rw[show(⟨g,0*1,none⟩:Addr)=⟨g,0,none⟩from rfl];refine hw.mono fun e w' hp=> ?_;obtain⟨rfl,gb,fg⟩:=hp;have hK:(gw xs).length≤L:=by
   have:=RQ (jv xs);rw[Sp]at this;unfold gw;rw[aga];omega
  have hE:bK G.N G w (G.mL g (gw xs).length) w':=
   ⟨gb.size,fun _ _ h=> .inl h,fun b o hs=>by
    have cO:some b≠some g:=fun e=>by cases e;exact t8 o hs
    unfold World.cell?;rw[gb.block b (hinv.S b o hs) cO],fun _ _=>rfl,fun _ _=> .inl ⟨rfl,rfl⟩,fM rfl,fun b hb=>gb.block b (hinv.z b hb) (fun e=>by cases e;exact t3 hb),gb.os,gb.tape,gb.output,fun b o hs=>hs.imp id fun⟨e,_⟩ hz=>t3 (e▸hz)⟩
  have hI:bO (G.mL g (gw xs).length) w' [.gone]:=by
   have hi:=RK hinv;refine⟨hi.len,fun b hb=>agu (hi.z b hb) gb.size,fun b o hs=> ?_,fun n C hC=> ?_,fun m n b h1 h2=> ?_,hi.gl.keep hE⟩
   ·rcases hs with hs|⟨rfl,_⟩
    ·exact agu (hi.S b o hs) gb.size
    ·exact agu hg gb.size
   ·match n,hC with
    |0,hC=>cases hC;exact trivial
    |n+1,hC=>simp at hC
   ·match m,h1 with
    |0,h1=>cases h1
    |m+1,h1=>simp [bR]at h1
  have uY:Rd (G.mL g (gw xs).length).S w' 1 (aB (gw xs)) ((gw xs).map Value.string):=
   ⟨by rw[aga,dz,Nat.mul_one],fun x hx=>(by rw[k9]at hx;obtain⟨y,_,rfl⟩:=List.mem_map.1 hx;rfl),fun u hu=>(by obtain⟨y,_,rfl⟩:=List.mem_map.1 hu;rfl),fun i j x d hx hd=>by
    rw[k9,agc]at hx;cases hk:(gw xs)[i]? with
    |none=>rw[hk]at hx;cases hx
    |some y=>
     rw[hk]at hx;cases hx;cases j with
     |zero=>cases hd;exact⟨.string y,by rw[Nat.mul_one,Nat.add_zero,agc,hk];rfl, .v _⟩
     |succ j=>cases hd⟩
  have hp:=uY.zf g cc (by rw[dz];omega) t6 (fun o ho=> .inr ⟨rfl,by rw[dz,Nat.mul_one]at ho;exact ho⟩) (fun o u hu=>by
   rw[agc]at hu;cases hq:(gw xs)[o]? with
   |none=>rw[hq]at hu;cases hu
   |some y=>rw[hq]at hu;cases hu;exact fg o y hq)
  rw[dz]at hp;exact⟨_,_,_,_,rfl,hE,agh _,hI, .d hp,rfl,rfl⟩
end Go.Proofs.YtphmhnabilhbgaaGreatDoor
