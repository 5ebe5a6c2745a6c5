/-
  Part 20 of the proof: PAll, ValNames, ValNode, SmV, LinP, ValTree, ValTree2, ValidLaw, InVal1, InVal2, InLin, InLin2, InLin3, InVal3, InVal4, CpE, Wts, Eqs, SmE, SmR, SmS, SmVR.
-/
import Derived.Test.YtpgmcallngdceaaGreatDoorSe19
import Derived.Laws.Bits64
namespace Go.Proofs.YtpgmcallngdceaaGreatDoor
open Go.RowKit
theorem EG(b:ak4)(i:Nat):b[i]?=(bL b)[i]?:=by
 unfold bL;rw[akC];by_cases h:i<b.size
 ·rw[getElem?_pos b i h,akB (xs:=b.data) (by exact h)];rfl
 ·rw[getElem?_neg b i h,Array.getElem?_eq_none (xs:=b.data) (by exact Nat.le_of_not_lt h)]
theorem qi(b:ak4):b.size=(bL b).length:=by unfold bL;rw[akM];rfl
theorem xt{i:Nat}(h:i<9223372036854775807):aQ ((i:Int)+1)=((i+1:Nat):Int):=by
 unfold aQ;rw[IntKind.wrap_i64]<;>omega
def lQ(c:UInt8):Bool:=decide (97≤c.toNat)&&decide (c.toNat≤122)
def gT(c:UInt8):Bool:=lQ c||(decide (48≤c.toNat)&&decide (c.toNat≤57))||c.toNat==95
def tL(l:ak3 UInt8):Bool:=lO.any fun w=>bL w==l
def HU(l:ak3 UInt8):Bool:=decide (1≤l.length)&&(decide (l.length≤16)&&(!tL l&&((l.take 1).all lQ&&l.all gT)))
def iB(s:ak4):Bool:=HU (bL s)
theorem Vi(c:UInt8):IntKind.i32.wrap (c.toNat:Int)=(c.toNat:Int):=by
 have:=c.toNat_lt;rw[IntKind.wrap_i32]<;>omega
theorem lv{p q:Prop} [Decidable p] [Decidable q](h:p↔q):decide p=decide q:=decide_eq_decide.2 h
theorem dq(a b:Bool):(bif a then some b else some false)=some (a&&b):=by cases a<;>rfl
theorem iF(a b:Bool):(bif a then some true else some b)=some (a||b):=by cases a<;>rfl
theorem TW(N:Nat)(c:UInt8):As N (c.toNat:Int)=some (lQ c):=by
 unfold As lQ;rw[dq,ake,lv (q:=97≤c.toNat) (by omega),lv (p:=(c.toNat:Int)≤122) (q:=c.toNat≤122) (by omega)]
theorem adE(N:Nat)(c:UInt8):Fg N (c.toNat:Int)=some (decide (48≤c.toNat)&&decide (c.toNat≤57)):=by
 unfold Fg;rw[dq,ake,lv (q:=48≤c.toNat) (by omega),lv (p:=(c.toNat:Int)≤57) (q:=c.toNat≤57) (by omega)]
theorem lZ(n k:Nat):((n:Int)==(k:Int))=(n==k):=by
 rw[Bool.eq_iff_iff,beq_iff_eq,beq_iff_eq];omega
theorem ahk(N:Nat)(c:UInt8):FB N (c.toNat:Int)=some (gT c):=by
 unfold FB gT;rw[TW,ake,adE,ake];have:=lZ c.toNat 95;rw[show(((c.toNat:Int)==(95:Int)))=(c.toNat==95)from this];rw[iF,iF,ake,Bool.or_assoc]
theorem SS(N:Nat)(s:ak4)(hs:s.size<9223372036854775807):∀(k i:Nat),i≤s.size→s.size-i<k→AM N s k (i:Int)=some ((i+(((bL s).drop i).takeWhile gT).length:Nat):Int)
 |0,i,_,hk=>absurd hk (akH _)
 |k+1,i,hi,hk=>by
  rw[AM];by_cases a7:i<s.size
  ·have h1:decide ((i:Int)<(s.size:Int))=true:=akW (by omega);have h2:decide ((0:Int)≤(i:Int))=true:=akW (by omega);rw[h1,h2];simp only[cond_true,akG];have hl:i<(bL s).length:=by rw[←qi];exact a7
   rw[EG,akj hl,List.drop_eq_getElem_cons hl,ake,Vi,ahk,ake,ake];cases hw:gT (bL s)[i]with
   |true=>
    simp only[cond_true];rw[xt (Nat.lt_trans a7 hs),SS N s hs k (i+1) a7 (by omega),List.takeWhile_cons_of_pos hw,aki]
    congr 2;omega
   |false=>
    simp only[cond_false];rw[List.takeWhile_cons_of_neg (by rw[hw];simp)];rfl
  ·have h1:decide ((i:Int)<(s.size:Int))=false:=akX (by omega);rw[h1];simp only[cond_false,ake];rw[List.drop_eq_nil_of_le (by rw[←qi];omega)];rfl
theorem ajJ(N:Nat)(s:ak4)(hs:s.size<9223372036854775807)(hN:s.size<N):Bw N s=some ((((bL s).takeWhile gT).length:Nat):Int):=by
 unfold Bw;have:=SS N s hs N 0 (Nat.zero_le _) (by omega);rw[akO,akz]at this;exact this
theorem Vz{α:Type}(p:α→Bool):∀l:ak3 α,((l.takeWhile p).length==l.length)=l.all p
 |[]=>rfl
 |x::l=>by
  cases h:p x with
  |true=>
   rw[List.takeWhile_cons_of_pos h,akZ,h,Bool.true_and,←Vz p l];simp
  |false=>rw[List.takeWhile_cons_of_neg (by rw[h];simp),akZ,h];simp
theorem Vy(N:Nat)(v:ak4):∀(l:ak3 ak4)(k:Nat),∃z:Int,wD N v l k=some z∧decide (z≥0)=l.any fun w=>bL w==bL v
 |[],k=>⟨-1,rfl,rfl⟩
 |w::l,k=>by
  rw[wD,ak0];have hc:(bL v==bL w)=(bL w==bL v):=by rw[Bool.eq_iff_iff,beq_iff_eq,beq_iff_eq];exact eq_comm
  cases h:bL v==bL w with
  |true=>rw[hc]at h;exact⟨k,rfl,by rw[h,Bool.true_or];exact akW (by omega)⟩
  |false=>
   obtain⟨z,h1,h2⟩:=Vy N v l (k+1);rw[hc]at h;exact⟨z,h1,by rw[h,Bool.false_or];exact h2⟩
theorem ahe(N:Nat)(v:ak4):ES N v=some (tL (bL v)):=by
 unfold ES NV Gx Jb;obtain⟨z,h1,h2⟩:=Vy N v lO 0;rw[ake,h1,ake,ake,h2];rfl
theorem Kl{α:Type}{l:ak3 α}(h:0<l.length):l.take 1=[l[0]]:=by
 cases l with
 |nil=>cases h
 |cons x l=>rfl
theorem uh:bL (bs [])=[]:=rfl
theorem Rf(N:Nat)(s:ak4)(hN:16<N):yU N s=some (iB s):=by
 unfold yU iB HU;have hz:=qi s;by_cases h0:(bL s).length=0
 ·have:bL s=[]:=List.length_eq_zero_iff.1 h0;rw[this];rfl
 have cu:(bL s==bL (bs []))=false:=by
  rw[uh,beq_eq_false_iff_ne];intro h;rw[h]at h0;exact h0 rfl
 rw[cu,akW (show 1≤(bL s).length by omega),Bool.true_and];simp only[cond_false];by_cases aL:(bL s).length≤16
 ·rw[akW (show(s.size:Int)≤16 by omega),akW aL,Bool.true_and];simp only[cond_true];have hl:0<(bL s).length:=by omega
  rw[EG,akj hl,ake,Vi,TW,ake,ajJ N s (by omega) (by omega),ake,ahe,ake];rw[hz,lZ,Vz];have ht:(bL s).take 1=[(bL s)[0]]:=Kl hl;rw[ht,akZ,List.all_nil,Bool.and_true,dq,dq,ake]
  congr 1
  cases tL (bL s)<;>cases lQ (bL s)[0]<;>cases (bL s).all gT<;>rfl
 ·rw[akX (show ¬(s.size:Int)≤16 by omega),akX aL];rfl
theorem agv(N:Nat)(b:Bool):fR N b=some b:=by cases b<;>rfl
theorem afL(a b:Bool):(bif a then some a else some b)=some (a||b):=by cases a<;>rfl
theorem aaX(a b:ak3 UInt8):(a==b)=(b==a):=by rw[Bool.eq_iff_iff,beq_iff_eq,beq_iff_eq];exact eq_comm
theorem af0(N:Nat)(v:ak4):Cg N v=some (tL (bL v)):=by
 simp only[Cg,agv,afL,tL,lO,ak0,List.any_nil,Bool.or_false,aaX (bL v)]
theorem DG(n k:Nat):decide ((n:Int)<(k:Int))= !decide (k≤n):=by
 by_cases h:k≤n
 ·rw[akW h,akX (by omega)];rfl
 ·rw[akX h,akW (by omega)];rfl
theorem qq(n k:Nat):decide ((n:Int)>(k:Int))= !decide (n≤k):=by
 by_cases h:n≤k
 ·rw[akW h,akX (by omega)];rfl
 ·rw[akX h,akW (by omega)];rfl
theorem Xv(n k:Nat):decide ((n:Int)≥(k:Int))=decide (k≤n):=lv (by omega)
theorem Bq(n k:Nat):decide ((n:Int)≤(k:Int))=decide (n≤k):=lv (by omega)
theorem Qi(n k:Nat):((n:Int) !=(k:Int))= !(n==k):=by unfold bne;rw[lZ]
theorem ajQ(c:UInt8):(bif (decide ((c.toNat:Int)<(97:Int)))then(bif (decide ((c.toNat:Int)<(48:Int)))then some ((c.toNat:Int) !=(95:Int))else(bif (decide ((c.toNat:Int)>(57:Int)))then some ((c.toNat:Int) !=(95:Int))else some false))else(bif (decide ((c.toNat:Int)>(122:Int)))then(bif (decide ((c.toNat:Int)<(48:Int)))then some ((c.toNat:Int) !=(95:Int))else(bif (decide ((c.toNat:Int)>(57:Int)))then some ((c.toNat:Int) !=(95:Int))else some false))else some false))=some (!gT c):=by
 have a1:=DG c.toNat 97;have a2:=DG c.toNat 48;have a3:=qq c.toNat 57;have a4:=qq c.toNat 122;have a5:=Qi c.toNat 95;simp only[Int.cast_ofNat_Int]at a1 a2 a3 a4 a5;rw[a1,a2,a3,a4,a5];unfold gT lQ;cases decide (97≤c.toNat)<;>cases decide (48≤c.toNat)<;>cases decide (c.toNat≤57)<;>cases decide (c.toNat≤122)<;>cases (c.toNat==95)<;>rfl
theorem Th(N:Nat)(s:ak4)(hs:s.size<9223372036854775807):∀(k i:Nat),i≤s.size→s.size-i<k→wB N s k (i:Int)=some (((bL s).drop i).all gT)
 |0,i,_,hk=>absurd hk (akH _)
 |k+1,i,hi,hk=>by
  rw[wB];by_cases a7:i<s.size
  ·have h1:decide ((i:Int)<(s.size:Int))=true:=akW (by omega);have h2:decide ((0:Int)≤(i:Int))=true:=akW (by omega);rw[h1,h2];simp only[cond_true,akG];have hl:i<(bL s).length:=by rw[←qi];exact a7
   rw[EG,akj hl,List.drop_eq_getElem_cons hl,ake,ajQ,ake,akZ];cases hw:gT (bL s)[i]with
   |true=>
    simp only[Bool.not_true,cond_false,Bool.true_and];rw[xt (Nat.lt_trans a7 hs),Th N s hs k (i+1) a7 (by omega)]
   |false=>rfl
  ·have h1:decide ((i:Int)<(s.size:Int))=false:=akX (by omega);rw[h1];simp only[cond_false];rw[List.drop_eq_nil_of_le (by rw[←qi];omega)];rfl
theorem Z9(N:Nat)(s:ak4)(hN:16<N):Fz N s=some (iB s):=by
 unfold Fz iB HU;have hz:=qi s;have a1:=DG s.size 1;have a2:=qq s.size 16;simp only[Int.cast_ofNat_Int]at a1 a2;rw[a1,a2,hz];cases h1:decide (1≤(bL s).length)with
 |false=>rfl
 |true=>
  cases aL:decide ((bL s).length≤16)with
  |false=>rfl
  |true=>
   have np:=of_decide_eq_true h1;have Z0:=of_decide_eq_true aL;have hl:0<(bL s).length:=by omega
   simp only[Bool.not_true,cond_false,Bool.true_and];rw[af0,ake,EG,akj hl,ake];have b1:=DG (bL s)[0].toNat 97;have b2:=qq (bL s)[0].toNat 122;simp only[Int.cast_ofNat_Int]at b1 b2;rw[b1,b2,iF,iF,ake,Kl hl];have:=Th N s (by omega) N 0 (Nat.zero_le _) (by omega);rw[akO]at this;rw[show wB N s N 0=_ from this,akZ,List.all_nil,Bool.and_true];unfold lQ;cases tL (bL s)<;>cases decide (97≤(bL s)[0].toNat)<;>cases decide ((bL s)[0].toNat≤122)<;>rfl
theorem XO(N:Nat)(v:ak4):∀(l:ak3 ak4)(k:Nat),xy N v l k=some (l.any fun w=>bL w==bL v)
 |[],_=>rfl
 |w::l,k=>by
  rw[xy,ak0,XO N v l (k+1)];cases bL w==bL v<;>rfl
theorem aiZ(c:UInt8)(z:Bool):(bif (decide ((c.toNat:Int)≥(97:Int)))then(bif (decide ((c.toNat:Int)≤(122:Int)))then some (!true)else(bif z then(bif (decide ((c.toNat:Int)≥(48:Int)))then(bif (decide ((c.toNat:Int)≤(57:Int)))then some (!true)else some (!((c.toNat:Int)==(95:Int))))else some (!((c.toNat:Int)==(95:Int))))else some (!false)))else(bif z then(bif (decide ((c.toNat:Int)≥(48:Int)))then(bif (decide ((c.toNat:Int)≤(57:Int)))then some (!true)else some (!((c.toNat:Int)==(95:Int))))else some (!((c.toNat:Int)==(95:Int))))else some (!false)))=some (!(bif z then gT c else lQ c)):=by
 have a1:=Xv c.toNat 97;have a2:=Xv c.toNat 48;have a3:=Bq c.toNat 57;have a4:=Bq c.toNat 122;have a5:=lZ c.toNat 95;simp only[Int.cast_ofNat_Int]at a1 a2 a3 a4 a5;rw[a1,a2,a3,a4,a5];unfold gT lQ;cases decide (97≤c.toNat)<;>cases decide (48≤c.toNat)<;>cases decide (c.toNat≤57)<;>cases decide (c.toNat≤122)<;>cases (c.toNat==95)<;>cases z<;>rfl
theorem QC(N:Nat)(s:ak4)(hs:s.size<9223372036854775807):∀(k i:Nat),i≤s.size→s.size-i<k→wc N s k (i:Int)=some (bif decide (i>0)then((bL s).drop i).all gT else((bL s).take 1).all lQ&&((bL s).drop 1).all gT)
 |0,i,_,hk=>absurd hk (akH _)
 |k+1,i,hi,hk=>by
  rw[wc];by_cases a7:i<s.size
  ·have h1:decide ((i:Int)<(s.size:Int))=true:=akW (by omega);have h2:decide ((0:Int)≤(i:Int))=true:=akW (by omega);rw[h1,h2];simp only[cond_true,akG];have hl:i<(bL s).length:=by rw[←qi];exact a7
   rw[EG,akj hl,ake,aiZ,ake];rw[xt (Nat.lt_trans a7 hs),QC N s hs k (i+1) a7 (by omega),akW (show i+1>0 by omega)];simp only[cond_true];by_cases h0:i=0
   ·subst h0;rw[akX (show ¬((0:Nat):Int)>0 by omega),akX (show ¬0>0 by omega)];simp only[cond_false];rw[Kl hl,akZ,List.all_nil,Bool.and_true];cases lQ (bL s)[0]<;>rfl
   ·rw[akW (show(i:Int)>0 by omega),akW (show i>0 by omega)];simp only[cond_true];rw[List.drop_eq_getElem_cons hl,akZ];cases gT (bL s)[i]<;>rfl
  ·have h1:decide ((i:Int)<(s.size:Int))=false:=akX (by omega);rw[h1];simp only[cond_false];have hn:(bL s).drop i=[]:=List.drop_eq_nil_of_le (by rw[←qi];omega);by_cases h0:i=0
   ·subst h0;rw[akO]at hn;rw[hn];rfl
   ·rw[akW (show i>0 by omega),hn];rfl
theorem LN(N:Nat)(s:ak4)(hN:16<N):xC N s=some (iB s):=by
 unfold xC iB HU;have hz:=qi s;have a1:=DG s.size 1;have a2:=qq s.size 16;simp only[Int.cast_ofNat_Int]at a1 a2;rw[a1,a2,hz];cases h1:decide (1≤(bL s).length)with
 |false=>rfl
 |true=>
  cases aL:decide ((bL s).length≤16)with
  |false=>rfl
  |true=>
   have np:=of_decide_eq_true h1;have Z0:=of_decide_eq_true aL;have hl:0<(bL s).length:=by omega
   simp only[Bool.not_true,cond_false,Bool.true_and];have hh:∀l,F2 N l s=some (l.any fun w=>bL w==bL s):=fun l=>XO N s l 0;unfold HO;rw[ake,hh,ake,ake];have:=QC N s (by omega) N 0 (Nat.zero_le _) (by omega);rw[show wc N s N 0=_ from this];show(bif tL (bL s)then some false else some (((bL s).take 1).all lQ&&((bL s).drop 1).all gT))=_;have hw:(bL s).all gT=(gT (bL s)[0]&&((bL s).drop 1).all gT):=by
    have hd:bL s=(bL s)[0]::(bL s).drop 1:=by
     have:=List.drop_eq_getElem_cons hl
     rwa [akO]at this
    rw[←akZ,←hd]
   rw[hw,Kl hl,akZ,List.all_nil,Bool.and_true];unfold gT;cases tL (bL s)<;>cases lQ (bL s)[0]<;>simp
def cS(t:aC):Bool:=
 bif t.a8==1||t.a8==3 then t.bz==0&&(t.xFrac==0&&(t.bK==0&&t.bM==0))
 else t.a8==2&&(decide (2≤t.bz)&&(decide (t.bz≤31)&&(decide (0≤t.xFrac)&&(decide (t.xFrac≤30)&&(decide (1≤t.bK)&&(decide (t.bK≤4)&&(t.bM==1||t.bM==2)))))))
theorem ahv(a:Bool):(bif a then some true else some false)=some a:=by cases a<;>rfl
theorem NQ(a b:Int):decide (a<b)= !decide (b≤a):=by
 by_cases h:b≤a
 ·rw[akW h,akX (by omega)];rfl
 ·rw[akX h,akW (by omega)];rfl
theorem E4(a b:Int):decide (a>b)= !decide (a≤b):=NQ b a
theorem kF(a b:Int):decide (a≥b)=decide (b≤a):=rfl
theorem fE(a b:Int):(a !=b)= !(a==b):=rfl
theorem sW(N:Nat)(t:aC):ma N t=some (cS t):=by
 unfold ma cS;simp only[iF,dq,ake,kF];cases (t.a8==1||t.a8==3)<;>rfl
theorem OB(N:Nat)(t:aC)(h:(t.a8==2)=true):qU N t=some (bif (decide (2≤t.bz)&&(decide (t.bz≤31)&&(decide (0≤t.xFrac)&&(decide (t.xFrac≤30)&&(decide (1≤t.bK)&&(decide (t.bK≤4)&&(t.bM==1||t.bM==2)))))))then 0 else 10):=by
 unfold qU;simp only[iF,dq,ake,kF,E4,fE,h,Bool.not_true,Bool.false_or];cases decide (2≤t.bz)<;>cases decide (t.bz≤31)<;>cases decide (0≤t.xFrac)<;>cases decide (t.xFrac≤30)<;>cases decide (1≤t.bK)<;>cases decide (t.bK≤4)<;>cases t.bM==1<;>cases t.bM==2<;>rfl
theorem o8(N:Nat)(t:aC):l7 N t=some (bif cS t then 0 else 10):=by
 unfold l7 Eb cS Hu;cases h1:t.a8==1 with
 |true=>
  simp only[cond_true,ake,akY,Bool.true_and,Bool.true_or,Bool.and_true];cases (t.bz==0&&(t.xFrac==0&&(t.bK==0&&t.bM==0)))<;>rfl
 |false=>
  cases h3:t.a8==3 with
  |true=>
   simp only[cond_true,cond_false,ake,akY,Bool.true_and,Bool.or_true,Bool.and_true];cases (t.bz==0&&(t.xFrac==0&&(t.bK==0&&t.bM==0)))<;>rfl
  |false=>
   cases h2:t.a8==2 with
   |true=>
    rw[OB N t h2];simp only[cond_true,cond_false,ake,Bool.true_and,Bool.or_false];cases (decide (2≤t.bz)&&(decide (t.bz≤31)&&(decide (0≤t.xFrac)&&(decide (t.xFrac≤30)&&(decide (1≤t.bK)&&(decide (t.bK≤4)&&(t.bM==1||t.bM==2)))))))<;>rfl
   |false=>rfl
def qd:ak5 ak4→ak3 aU→Bool
 |_,[]=>true
 |p,m::l=>iB m.aV&&(!(m.cN.toInt==0)&&((match p with|none=>true|some q=>Op.bytesLess (bL q) (bL m.aV))&&qd (some m.aV) l))
theorem LB(p:ak5 ak4)(m:aU)(l:ak3 aU):qd p (m::l)=(iB m.aV&&(!(m.cN.toInt==0)&&((match p with|none=>true|some q=>Op.bytesLess (bL q) (bL m.aV))&&qd (some m.aV) l))):=by cases p<;>rfl
def dT(x:aF):Bool:=qd none x.xL
def qb(x:aF)(k:Nat):ak5 ak4:=bif k==0 then none else(x.xL[k-1]?).map (·.aV)
theorem ahp{k:Nat}(h0:0<k)(h:k≤maxLen):aQ ((k:Int)-1)=((k-1:Nat):Int):=by
 unfold aQ;have:(k:Int)-1=((k-1:Nat):Int):=by omega
 rw[this];unfold maxLen at h;rw[IntKind.wrap_i64]<;>omega
theorem P0{x:aF}{k:Nat}{m:aU}{l:ak3 aU}(hd:x.xL.drop k=m::l):qb x (k+1)=some m.aV:=by
 have:=cd hd;unfold qb;simp [this]
theorem R8{x:aF}{k:Nat}{m:aU}{l:ak3 aU}(hd:x.xL.drop k=m::l)(hm:x.xL.length≤maxLen):
 (bif (decide ((k:Int)>(0:Int)))then bif (decide ((0:Int)≤(aQ ((k:Int)-(1:Int)))))then
 Option.bind (x.xL[((aQ ((k:Int)-(1:Int)))).toNat]?) fun v7=>
 some (!(Op.bytesLess (bL v7.aV) (bL m.aV)))
 else none else some false)=some (!(match qb x k with|none=>true|some q=>Op.bytesLess (bL q) (bL m.aV))):=by
 have a7:k<x.xL.length:=(akf.1 (cd hd)).1;by_cases h0:k=0
 ·subst h0;rfl
 ·rw[akW (show(k:Int)>0 by omega),ahp (by omega) (by omega),akW (show(0:Int)≤((k-1:Nat):Int) by omega)];simp only[cond_true,akG];have hp:qb x k=(x.xL[k-1]?).map (·.aV):=by
    unfold qb;rw[beq_false_of_ne h0];rfl
  rw[hp,akj (show k-1<x.xL.length by omega)];rfl
theorem TT(N:Nat)(hN:16<N)(x:aF)(hm:x.xL.length≤maxLen):∀(l:ak3 aU)(k:Nat),x.xL.drop k=l→vl N x l k=some (bif qd (qb x k) l then 0 else 1)
 |[],k,_=>rfl
 |m::l,k,hd=>by
  rw[vl,Z9 N m.aV hN,ake,LB,R8 hd hm,TT N hN x hm l (k+1) (jN hd),P0 hd];generalize (match qb x k with|none=>true|some q=>Op.bytesLess (bL q) (bL m.aV))=b;cases iB m.aV<;>cases (m.cN.toInt==0)<;>cases b<;>cases qd (some m.aV) l<;>rfl
theorem IG(N:Nat)(hN:16<N)(x:aF)(hm:x.xL.length≤maxLen):vf N x=some (bif dT x then 0 else 1):=TT N hN x hm x.xL 0 rfl
theorem WN(N:Nat)(hN:16<N)(x:aF)(hm:x.xL.length≤maxLen):∀(l:ak3 aU)(k:Nat),x.xL.drop k=l→we N x l k=some (qd (qb x k) l)
 |[],k,_=>rfl
 |m::l,k,hd=>by
  rw[we,LN N m.aV hN,ake,LB,R8 hd hm,WN N hN x hm l (k+1) (jN hd),P0 hd];generalize (match qb x k with|none=>true|some q=>Op.bytesLess (bL q) (bL m.aV))=b;cases iB m.aV<;>cases (m.cN.toInt==0)<;>cases b<;>cases qd (some m.aV) l<;>rfl
theorem IV(N:Nat)(hN:16<N)(x:aF)(hm:x.xL.length≤maxLen):uc N x=some (dT x):=WN N hN x hm x.xL 0 rfl
def cZ(t:aC)(v:ay):Bool:=
 bif t.a8==2 then v.xD.toInt==1&&(decide (-(2^(t.bz-1).toNat)≤v.xN.toInt)&&decide (v.xN.toInt<2^(t.bz-1).toNat))
 else decide (v.xN.toInt≤2147483647)&&(decide (-2147483647≤v.xN.toInt)&&(decide (1≤v.xD.toInt)&&(decide (v.xD.toInt≤2147483647)&&
  (bif t.a8==3 then v.xD.toInt==1 else Nat.gcd v.xN.toInt.natAbs v.xD.toInt.toNat==1))))
theorem ahW:∀n:Fin 30,(decide ((0:Int)≤(IntKind.u64.wrap (aQ (((n.val+2:Nat):Int)-(1:Int))))))=true∧(decide ((0:Int)≤(aQ (((n.val+2:Nat):Int)-(1:Int)))))=true∧
 (-(Int64.ofInt ((1:Int)*2^(min ((IntKind.u64.wrap (aQ (((n.val+2:Nat):Int)-(1:Int))))).toNat (IntKind.bits .i64))))).toInt= -(2^(n.val+1))∧
 ((Int64.ofInt ((1:Int)*2^(min ((IntKind.u64.wrap (aQ (((n.val+2:Nat):Int)-(1:Int))))).toNat (IntKind.bits .i64))))-(1:Int64)).toInt=2^(n.val+1)-1∧
 (-(Int64.ofInt ((1:Int)*2^(min ((aQ (((n.val+2:Nat):Int)-(1:Int)))).toNat (IntKind.bits .i64))))).toInt= -(2^(n.val+1))∧
 (Int64.ofInt ((1:Int)*2^(min ((aQ (((n.val+2:Nat):Int)-(1:Int)))).toNat (IntKind.bits .i64)))).toInt=2^(n.val+1):=by decide+kernel
theorem JC{b:Int}(h1:2≤b)(h2:b≤31):(decide ((0:Int)≤(IntKind.u64.wrap (aQ (b-(1:Int))))))=true∧(decide ((0:Int)≤(aQ (b-(1:Int)))))=true∧
 (-(Int64.ofInt ((1:Int)*2^(min ((IntKind.u64.wrap (aQ (b-(1:Int))))).toNat (IntKind.bits .i64))))).toInt= -(2^(b-1).toNat)∧
 ((Int64.ofInt ((1:Int)*2^(min ((IntKind.u64.wrap (aQ (b-(1:Int))))).toNat (IntKind.bits .i64))))-(1:Int64)).toInt=2^(b-1).toNat-1∧
 (-(Int64.ofInt ((1:Int)*2^(min ((aQ (b-(1:Int)))).toNat (IntKind.bits .i64))))).toInt= -(2^(b-1).toNat)∧
 (Int64.ofInt ((1:Int)*2^(min ((aQ (b-(1:Int)))).toNat (IntKind.bits .i64)))).toInt=2^(b-1).toNat:=by
 obtain⟨n,rfl⟩:∃n:Nat,b=n:=⟨b.toNat,by omega⟩;have:=ahW ⟨n-2,by omega⟩;simp only[show n-2+2=n by omega,show n-2+1=n-1 by omega]at this;rw[show((n:Int)-1).toNat=n-1 by omega];exact this
theorem JM(N:Nat):∀(k a b:Nat),b<k→xZ N k (a:Int) (b:Int)=some ((Nat.gcd a b:Nat):Int)
 |0,a,b,h=>absurd h (akH _)
 |k+1,a,b,h=>by
  rw[xZ];by_cases h0:b=0
  ·subst h0;simp
  ·rw[show(((b:Nat):Int) !=(0:Int))=true by rw[bne_iff_ne];omega];simp only[cond_true];rw[←Int.ofNat_tmod,JM N k b (a%b) (by have:=Nat.mod_lt a (Nat.pos_of_ne_zero h0);omega)];rw[Nat.gcd_comm a b,Nat.gcd_rec b a,Nat.gcd_comm]
theorem SL(N:Nat):∀(k:Nat)(a b:Int64),0≤a.toInt→0≤b.toInt→b.toInt.toNat<k→∃g:Int64,zg N k a b=some g∧g.toInt=((Nat.gcd a.toInt.toNat b.toInt.toNat:Nat):Int)
 |0,a,b,_,_,h=>absurd h (akH _)
 |k+1,a,b,ha,hb,h=>by
  rw[zg];by_cases h0:b.toInt=0
  ·rw[h0];refine⟨a,rfl,?_⟩;show a.toInt=((Nat.gcd a.toInt.toNat 0:Nat):Int);rw[Nat.gcd_zero_right];omega
  ·rw[show(b.toInt !=(0:Int))=true by rw[bne_iff_ne];exact h0];simp only[cond_true];obtain⟨x,hx⟩:∃x:Nat,a.toInt=x:=⟨a.toInt.toNat,by omega⟩;obtain⟨y,hy⟩:∃y:Nat,b.toInt=y:=⟨b.toInt.toNat,by omega⟩;rw[hx,hy];have hyp:0<y:=by omega
   have hm:(x:Int).tmod (y:Int)=((x%y:Nat):Int):=(Int.ofNat_tmod x y).symm;have a7:=Nat.mod_lt x hyp;have j9:b.toInt<2^63:=Int64.toInt_lt b;have kG:(Int64.ofInt ((x%y:Nat):Int)).toInt=((x%y:Nat):Int):=by
    rw[Int64.toInt_ofInt_of_le]
    ·omega
    ·omega
   rw[hm];obtain⟨g,h1,h2⟩:=SL N k b (Int64.ofInt ((x%y:Nat):Int)) hb (by rw[kG];omega) (by rw[kG];omega);refine⟨g,h1,?_⟩;rw[h2,kG,hy];simp only[akG];rw[Nat.gcd_comm x y,Nat.gcd_rec y x,Nat.gcd_comm]
theorem jK(z:Int):IntKind.u64.wrap z=z%18446744073709551616:=rfl
theorem CO(N:Nat)(v:Int64):uR N v=some ((v.toInt.natAbs:Nat):Int):=by
 unfold uR;have h1:v.toInt<2^63:=Int64.toInt_lt v;have h2: -2^63≤v.toInt:=Int64.le_toInt v;by_cases h:v.toInt<0
 ·rw[akW h];simp only[cond_true,jK]
  congr 1
  omega
 ·rw[akX h];simp only[cond_false,jK]
  congr 1
  omega
theorem uE(N:Nat)(hN:2147483648<N)(t:aC)(v:ay)(ht:cS t=true):mK N t v=some (cZ t v):=by
 unfold mK;rw[o8,ht,ake];unfold cZ;cases h2:t.a8==2 with
 |true=>
  simp only[cond_true];show Option.bind (pa N t v) _=_;unfold cS at ht;have hk:t.a8=2:=by simpa using h2
  rw[hk]at ht;have pK:(decide (2≤t.bz)&&(decide (t.bz≤31)&&(decide (0≤t.xFrac)&&(decide (t.xFrac≤30)&&(decide (1≤t.bK)&&(decide (t.bK≤4)&&(t.bM==1||t.bM==2)))))))=true:=ht;unfold pa;rw[OB N t h2,pK,ake];simp only[akh,decide_eq_true_eq]at pK;obtain⟨b1,b2,_⟩:=pK;obtain⟨f1,f2,f3,f4,f5,f6⟩:=JC b1 b2;unfold AD yL vF;rw[dq,ake,ake,kF,akW b1,akW b2];simp only[Bool.and_self,cond_true];rw[f1];simp only[cond_true,ake];rw[f3,f4];rw[kF,dq,lv (p:=v.xN.toInt≤2^(t.bz-1).toNat-1) (q:=v.xN.toInt<2^(t.bz-1).toNat) (by omega)];cases (v.xD.toInt==1)<;>rfl
 |false=>
  simp only[cond_false];show(bif t.a8==3 then _ else _)=_;cases h3:t.a8==3 with
  |true=>
   simp only[cond_true];unfold mY;rw[kF,dq,ake,ake];by_cases hd:v.xD.toInt=1
   ·rw[hd];simp only[akY,cond_true,ake,show decide ((1:Int)≤1)=true from rfl,show decide ((1:Int)≤2147483647)=true from rfl,Bool.and_true];rw[Bool.and_comm]
   ·rw[beq_false_of_ne hd];simp only[cond_false,ake,Bool.and_false]
  |false=>
   simp only[cond_false];unfold im IF;rw[kF,kF,dq,ake,ake,CO,ake];cases C5:decide (1≤v.xD.toInt)with
   |false=>cases decide (v.xN.toInt≤2147483647)<;>cases decide (-2147483647≤v.xN.toInt)<;>rfl
   |true=>
    cases l8:decide (v.xD.toInt≤2147483647)with
    |false=>cases decide (v.xN.toInt≤2147483647)<;>cases decide (-2147483647≤v.xN.toInt)<;>rfl
    |true=>
     have e1:=of_decide_eq_true C5;have e2:=of_decide_eq_true l8;have hw:IntKind.u64.wrap v.xD.toInt=((v.xD.toInt.toNat:Nat):Int):=by rw[jK];omega
     simp only[cond_true,Bool.true_and];rw[hw];unfold xh;rw[JM N N v.xN.toInt.natAbs v.xD.toInt.toNat (by omega),ake,show((((Nat.gcd v.xN.toInt.natAbs v.xD.toInt.toNat:Nat):Int))==(1:Int))=(Nat.gcd v.xN.toInt.natAbs v.xD.toInt.toNat==1)from lZ _ 1,dq,ake];cases decide (v.xN.toInt≤2147483647)<;>cases decide (-2147483647≤v.xN.toInt)<;>rfl
theorem rU(N:Nat)(hN:2147483648<N)(t:aC)(v:ay)(ht:cS t=true):mA N t v=some (cZ t v):=by
 unfold mA cZ;cases h2:t.a8==2 with
 |true=>
  simp only[cond_true];unfold cS at ht;have hk:t.a8=2:=by simpa using h2
  rw[hk]at ht;have pK:(decide (2≤t.bz)&&(decide (t.bz≤31)&&(decide (0≤t.xFrac)&&(decide (t.xFrac≤30)&&(decide (1≤t.bK)&&(decide (t.bK≤4)&&(t.bM==1||t.bM==2)))))))=true:=ht;simp only[akh,decide_eq_true_eq]at pK;obtain⟨b1,b2,_⟩:=pK;obtain⟨f1,f2,f3,f4,f5,f6⟩:=JC b1 b2;rw[f2];simp only[cond_true];rw[f5,f6,kF,dq,dq,ake]
 |false=>
  simp only[cond_false,E4,iF,ake];cases CT:decide (v.xN.toInt≤2147483647)with
  |false=>rfl
  |true=>
   cases l4:decide (-2147483647≤v.xN.toInt)with
   |false=>rfl
   |true=>
    cases C5:decide (1≤v.xD.toInt)with
    |false=>rfl
    |true=>
     cases l8:decide (v.xD.toInt≤2147483647)with
     |false=>rfl
     |true=>
      have n1:=of_decide_eq_true CT;have n2:=of_decide_eq_true l4;have e1:=of_decide_eq_true C5;have e2:=of_decide_eq_true l8;simp only[Bool.not_true,Bool.or_false,cond_false,Bool.true_and];cases h3:t.a8==3 with
      |true=>rfl
      |false=>
       simp only[cond_false];have rN:(-v.xN).toInt= -v.xN.toInt:=by
        rw[Int64.toInt_neg];rw[Int.bmod_eq_of_le]<;>omega
       have wI:(nH v.xN (-v.xN)).toInt=((v.xN.toInt.natAbs:Nat):Int):=by
        rw[←Xe,rN];split<;>omega
       unfold GC;obtain⟨g,g1,g2⟩:=SL N N (nH v.xN (-v.xN)) v.xD (by rw[wI];omega) (by omega) (by omega);rw[g1,ake,g2,wI,akG];rw[show((((Nat.gcd v.xN.toInt.natAbs v.xD.toInt.toNat:Nat):Int))==(1:Int))=(Nat.gcd v.xN.toInt.natAbs v.xD.toInt.toNat==1)from lZ _ 1]
set_option linter.unusedSimpArgs false
set_option linter.unusedVariables false
def mv(wrap:Bool)(h n:Int):Int:=bif wrap then(n+h)%(2*h)-h else max (-h) (min (h-1) n)
theorem ab7(P:Int→Prop)(h:∀k:Fin 30,P (2^(k.val+1))){b:Int}(h1:2≤b)(h2:b≤31):P (2^(b-1).toNat):=by
 have:=h ⟨(b-2).toNat,by omega⟩
 rwa [show(b-2).toNat+1=(b-1).toNat by omega]at this
theorem aaw{w:Bool}{h n:Int}(hp:0<h)(h1: -h≤n)(h2:n≤h-1):mv w h n=n:=by
 unfold mv;cases w
 ·simp only[cond_false];omega
 ·simp only[cond_true];rw[Int.emod_eq_of_lt (by omega) (by omega)];omega
theorem Zt{w:Bool}{h n:Int}(hp:0<h): -h≤mv w h n∧mv w h n≤h-1:=by
 unfold mv;cases w
 ·simp only[cond_false];omega
 ·simp only[cond_true];have:=Int.emod_nonneg (n+h) (show 2*h≠0 by omega);have:=Int.emod_lt_of_pos (n+h) (show 0<2*h by omega);omega
theorem V3{h u n:Int}(hu:u*(2*h)=18446744073709551616)(hu0:0<u)(hh:0<h):
 (((n*u)%18446744073709551616+9223372036854775808)%18446744073709551616-9223372036854775808)/ u=(n+h)%(2*h)-h:=by
 have h2:u*h=9223372036854775808:=by have:u*(2*h)=2*(u*h):=by rw[Int.mul_left_comm]
                                     omega
 rw[Int.emod_add_emod,←hu];have e:n*u+9223372036854775808=u*(n+h):=by rw[Int.mul_add,h2,Int.mul_comm]
 rw[e,Int.mul_emod_mul_of_pos _ _ hu0,←h2,←Int.mul_sub,Int.mul_ediv_cancel_left _ (by omega)]
theorem af8{n d:Int}(hd:0<d):n.tdiv d=if 0≤n then n / d else-((-n)/ d):=by
 split
 ·exact Int.tdiv_eq_ediv_of_nonneg (by assumption)
 ·have:n= -(-n):=by omega
  conv=>lhs;rw[this]
  rw[Int.neg_tdiv,Int.tdiv_eq_ediv_of_nonneg (by omega)]
theorem aiR{m d:Int}(hd:0<d)(hm:0<m):(-m)/ d=if m%d=0 then-(m / d)else-(m / d)-1:=by
 have h1:=Int.mul_ediv_add_emod m d;have h2:=Int.emod_nonneg m (show d≠0 by omega);have h3:=Int.emod_lt_of_pos m hd;split
 ·rename_i h
  exact((Int.ediv_emod_unique hd).2 ⟨(by rw[Int.mul_neg];omega:(0:Int)+d*(-(m / d))= -m),by omega,by omega⟩).1
 ·exact((Int.ediv_emod_unique hd).2 ⟨(by rw[Int.mul_sub,Int.mul_neg];omega:(d-m%d)+d*(-(m / d)-1)= -m),by omega,by omega⟩).1
theorem PV{n d:Int}(hd:0<d):(bif decide (n.tdiv d*d>n)then n.tdiv d-1 else n.tdiv d)=n / d:=by
 rw[af8 hd];by_cases h:0≤n
 ·rw[if_pos h,akX (by have:=Int.ediv_mul_le n (show d≠0 by omega);omega)];rfl
 ·rw[if_neg h];obtain⟨m,rfl⟩:∃m,n= -m:=⟨-n,by omega⟩;rw[Int.neg_neg,aiR hd (by omega),Int.neg_mul];have h1:=Int.mul_ediv_add_emod m d;have h2:=Int.emod_nonneg m (show d≠0 by omega);rw[Int.mul_comm]at h1;split
  ·rw[akX (by omega)];rfl
  ·rw[akW (by omega)];rfl
theorem TO{n d:Int}(hd:0<d):(bif decide (n.tmod d<0)then n.tdiv d-1 else n.tdiv d)=n / d:=by
 rw[←PV hd];have h:n.tmod d=n-n.tdiv d*d:=by have:=Int.mul_tdiv_add_tmod n d;rw[Int.mul_comm]at this;omega
 rw[h]
 congr 1
 exact decide_eq_decide.2 (by omega)
def k8(a b:Int):Int:=bif decide (b<0)then(-a)/(-b)else a / b
theorem X5{a b:Int}(hb:b≠0):(bif a.tmod b !=0&&(decide (a<0) !=decide (b<0))then a.tdiv b-1 else a.tdiv b)=k8 a b:=by
 have key:∀a b:Int,0<b→(bif a.tmod b !=0&&(decide (a<0) !=false)then a.tdiv b-1 else a.tdiv b)=a / b:=fun a b hb=>by
  rw[←TO hb]
  congr 1
  have hm:0≤a→0≤a.tmod b:=fun h=>Int.tmod_nonneg _ h;have lH:a<0→a.tmod b≤0:=fun h=>by
   have:a= -(-a):=by omega
   rw[this,Int.neg_tmod];have:=Int.tmod_nonneg b (show 0≤-a by omega);omega
  by_cases h:a<0
  ·rw[akW h];have:=lH h;by_cases h0:a.tmod b=0
   ·rw[h0];rfl
   ·rw[akW (by omega),bne_iff_ne.2 h0];rfl
  ·rw[akX h];have:=hm (by omega);rw[akX (show ¬a.tmod b<0 by omega)];cases (a.tmod b !=0)<;>rfl
 unfold k8;by_cases h:b<0
 ·rw[akW h];simp only[cond_true];rw[←key (-a) (-b) (by omega),Int.neg_tmod,Int.tmod_neg,Int.neg_tdiv_neg]
  congr 1
  have hz:(-(a.tmod b) !=0)=(a.tmod b !=0):=by
   by_cases h0:a.tmod b=0
   ·rw[h0];rfl
   ·rw[bne_iff_ne.2 h0,bne_iff_ne.2 (show-(a.tmod b)≠0 by omega)]
  rw[hz];by_cases h0:a=0
  ·subst h0;simp
  ·by_cases ha:a<0
   ·rw[akW ha,akX (show ¬-a<0 by omega)];rfl
   ·rw[akX ha,akW (show-a<0 by omega)];rfl
 ·rw[akX h];simp only[cond_false];exact key a b (by omega)
def A1(a b:Nat)(neg:Bool)(how:Int):Bool:=(a%b==0||how==3)||((how==1&& !neg)||(how==2&&neg))||(how==4&&(decide (2*(a%b)<b)||(2*(a%b)==b&&a / b%2==0)))
def ly(a b:Nat)(neg:Bool)(how:Int):Nat:=bif A1 a b neg how then a / b else a / b+1
def gB(n d:Int)(how:Int):Int:=
 bif n%d==0||how==1 then n / d else bif how==2 then n / d+1 else bif how==3 then(bif decide (n<0)then n / d+1 else n / d)
 else bif decide (n%d>d-n%d)||(n%d==d-n%d&&n / d%2 !=0)then n / d+1 else n / d
theorem ajU{a b:Nat}(hb:0<b)(hr:a%b≠0):(-(a:Int))/(b:Int)= -((a / b:Nat):Int)-1∧(-(a:Int))%(b:Int)=(b:Int)-((a%b:Nat):Int):=by
 have h1:a%b<b:=Nat.mod_lt _ hb;have h2:(b:Int)*((a / b:Nat):Int)+((a%b:Nat):Int)=(a:Int):=by rw[←Int.natCast_mul,←Int.natCast_add,Nat.div_add_mod]
 refine(Int.ediv_emod_unique (by omega)).2 ⟨?_,by omega,by omega⟩;rw[Int.mul_sub,Int.mul_neg];omega
theorem ah1{a b:Nat}(hb:0<b)(hr:a%b=0):(-(a:Int))/(b:Int)= -((a / b:Nat):Int)∧(-(a:Int))%(b:Int)=0:=by
 have h2:(b:Int)*((a / b:Nat):Int)+((a%b:Nat):Int)=(a:Int):=by rw[←Int.natCast_mul,←Int.natCast_add,Nat.div_add_mod]
 refine(Int.ediv_emod_unique (by omega)).2 ⟨?_,by omega,by omega⟩;rw[Int.mul_neg];omega
theorem Ze{a b:Nat}(hb:0<b){how:Int}(h0:1≤how)(h3:how≤4):((ly a b false how:Nat):Int)=gB (a:Int) (b:Int) how:=by
 unfold ly A1 gB;have e1:(a:Int)%(b:Int)=((a%b:Nat):Int):=(Int.natCast_emod a b).symm;have e2:(a:Int)/(b:Int)=((a / b:Nat):Int):=(Int.natCast_ediv a b).symm;rw[e1,e2];have hl:=Nat.mod_lt a hb;generalize a%b=r at*;generalize a / b=q at*;rcases (by omega:how=1∨how=2∨how=3∨how=4)with rfl|rfl|rfl|rfl<;>simp only[cond_eq_ite]<;>simp<;>(repeat' split)<;>omega
theorem adD{a b:Nat}(hb:0<b)(ha:0<a){how:Int}(h0:1≤how)(h3:how≤4): -((ly a b true how:Nat):Int)=gB (-(a:Int)) (b:Int) how:=by
 unfold ly A1 gB;have hl:=Nat.mod_lt a hb;by_cases hr:a%b=0
 ·obtain⟨e1,e2⟩:=ah1 hb hr;rw[e1,e2,hr];rfl
 ·obtain⟨e1,e2⟩:=ajU hb hr;rw[e1,e2];generalize a%b=r at*;generalize a / b=q at*;rcases (by omega:how=1∨how=2∨how=3∨how=4)with rfl|rfl|rfl|rfl<;>simp only[cond_eq_ite]<;>simp<;>(repeat' split)<;>omega
def oa(n d how:Int):Int:=bif decide (d<0)then gB (-n) (-d) how else gB n d how
theorem abp(d how:Int):gB 0 d how=0:=by unfold gB;simp
theorem abA{n d:Int}(hd:d≠0){how:Int}(h0:1≤how)(h3:how≤4):
 (bif decide (n<0) !=decide (d<0)then-((ly n.natAbs d.natAbs true how:Nat):Int)else((ly n.natAbs d.natAbs false how:Nat):Int))=oa n d how:=by
 have key:∀n d:Int,0<d→(bif decide (n<0)then-((ly n.natAbs d.natAbs true how:Nat):Int)else((ly n.natAbs d.natAbs false how:Nat):Int))=gB n d how:=fun n d hd=>by
  by_cases h:n<0
  ·rw[akW h];simp only[cond_true];rw[adD (by omega) (by omega) h0 h3,show-((n.natAbs:Nat):Int)=n by omega,show((d.natAbs:Nat):Int)=d by omega]
  ·rw[akX h];simp only[cond_false];rw[Ze (by omega) h0 h3,show((n.natAbs:Nat):Int)=n by omega,show((d.natAbs:Nat):Int)=d by omega]
 unfold oa;by_cases h:d<0
 ·rw[akW h];simp only[cond_true];by_cases hn:n=0
  ·subst hn;rw[show(decide ((0:Int)<0) !=true)=true from rfl,Int.neg_zero,abp];unfold ly A1;simp
  ·rw[←key (-n) (-d) (by omega),Int.natAbs_neg,Int.natAbs_neg]
   congr 1
   by_cases ha:n<0
   ·rw[akW ha,akX (show ¬-n<0 by omega)];rfl
   ·rw[akX ha,akW (show-n<0 by omega)];rfl
 ·rw[akX h];simp only[cond_false];rw[←key n d (by omega)];cases decide (n<0)<;>rfl
theorem Ii{n d how B:Int}(hd:0<d)(hB:0≤B)(h1: -B≤n)(h2:n≤B): -B≤gB n d how∧gB n d how≤B+1:=by
 have h3: -B≤n / d:=by
  refine Int.le_ediv_of_mul_le hd ?_;have:B*1≤B*d:=Int.mul_le_mul_of_nonneg_left (by omega) hB;rw[Int.neg_mul];omega
 have h4:n / d≤B:=by
  have:n / d≤n∨n / d≤0:=by
   by_cases h:0≤n
   ·exact .inl (Int.ediv_le_self _ h)
   ·exact .inr (Int.le_of_lt (Int.ediv_neg_of_neg_of_pos (by omega) hd))
  omega
 unfold gB;simp only[cond_eq_ite]
 (repeat' split)<;>omega
theorem Zx{n d q rest:Int}(how:Int)(hq:q=n / d)(hr:rest=n-q*d):
 (bif rest==0||how==1 then q else bif how==2 then q+1 else bif how==3 then(bif decide (n<0)then q+1 else q)else bif decide (rest>d-rest)||(rest==d-rest&&q.tmod 2 !=0)then q+1 else q)=gB n d how:=by
 subst hq;have e:rest=n%d:=by rw[hr,Int.emod_def,Int.mul_comm]
 subst e;have h2:((n / d).tmod 2 !=0)=(n / d%2 !=0):=by
  by_cases h:n / d%2=0
  ·rw[h,Int.tmod_eq_zero_of_dvd (Int.dvd_of_emod_eq_zero h)]
  ·rw[bne_iff_ne.2 h,bne_iff_ne.2 fun hc=>h (Int.emod_eq_zero_of_dvd (Int.dvd_of_tmod_eq_zero hc))]
 rw[h2];rfl
theorem aeI{n m:Int}{d e:Nat}(hd:0<d)(he:0<e)(h1:Nat.gcd n.natAbs d=1)(h2:Nat.gcd m.natAbs e=1)(h:n*(e:Int)=m*(d:Int)):n=m∧d=e:=by
 have ha:n.natAbs*e=m.natAbs*d:=by
  have:=congrArg Int.natAbs h
  rwa [Int.natAbs_mul,Int.natAbs_mul,Int.natAbs_natCast,Int.natAbs_natCast]at this
 have hde:d∣ e:=by
  have h3:d∣ n.natAbs*e:=by rw[ha];exact Nat.dvd_mul_left _ _
  exact Nat.Coprime.dvd_of_dvd_mul_left (show Nat.Coprime d n.natAbs by rw[Nat.coprime_comm];exact h1) h3
 have hed:e∣ d:=by
  have h3:e∣ m.natAbs*d:=by rw[←ha];exact Nat.dvd_mul_left _ _
  exact Nat.Coprime.dvd_of_dvd_mul_left (show Nat.Coprime e m.natAbs by rw[Nat.coprime_comm];exact h2) h3
 have e1:d=e:=Nat.dvd_antisymm hde hed;subst e1;refine⟨?_,rfl⟩;exact Int.eq_of_mul_eq_mul_right (by omega) h
theorem ahA{n d:Nat}(hd:0<d):Nat.gcd (n / Nat.gcd n d) (d / Nat.gcd n d)=1:=Nat.gcd_div_gcd_div_gcd_of_pos_right hd
def b8(t:aC):Int:=2^(t.bz-1).toNat
def dX(t:aC):Int:=2^t.xFrac.toNat
def jG(t:aC)(n:Int):ay:=⟨Int64.ofInt (mv (t.bM==2) (b8 t) n),1⟩
def ko(n d:Int):Nat:=Nat.gcd n.natAbs d.natAbs
def E9(n d:Int):Int:=bif decide (n<0) !=decide (d<0)then-((n.natAbs / ko n d:Nat):Int)else((n.natAbs / ko n d:Nat):Int)
def gS(n d:Int):ay×Int:=
 bif d==0 then(bg,4)else bif decide (2147483647<n.natAbs / ko n d)||decide (2147483647<d.natAbs / ko n d)then(bg,3)
 else(⟨Int64.ofInt (E9 n d),Int64.ofInt ((d.natAbs / ko n d:Nat):Int)⟩,0)
def l5(a b:Int):Int:=bif decide (a<b)then-1 else bif decide (a>b)then 1 else 0
def ke(t:aC)(a b:ay):Int:=
 bif cS t&&(cZ t a&&cZ t b)then bif t.a8==1 then l5 (a.xN.toInt*b.xD.toInt) (b.xN.toInt*a.xD.toInt)else l5 a.xN.toInt b.xN.toInt else 0
def DZ(op:Int)(t:aC)(a b:Int):ay×Int:=
 bif op==4 then(jG t (a+b),0)else bif op==5 then(jG t (a-b),0)else bif op==6 then(jG t (gB (a*b) (dX t) t.bK),0)
 else bif op==8 then(jG t (-a),0)else bif b==0 then(bg,4)else(jG t (oa (a*dX t) b t.bK),0)
def td(op a b:Int):ay×Int:=
 bif op==7&&b==0 then(bg,4)
 else
  let n:=bif op==4 then a+b else bif op==5 then a-b else bif op==6 then a*b else bif op==7 then k8 a b else-a
  bif decide (-2147483647≤n)&&decide (n≤2147483647)then(⟨Int64.ofInt n,1⟩,0)else(bg,3)
def vG(op:Int)(a b:ay):ay×Int:=
 bif op==4 then gS (a.xN.toInt*b.xD.toInt+b.xN.toInt*a.xD.toInt) (a.xD.toInt*b.xD.toInt)
 else bif op==5 then gS (a.xN.toInt*b.xD.toInt-b.xN.toInt*a.xD.toInt) (a.xD.toInt*b.xD.toInt)
 else bif op==6 then gS (a.xN.toInt*b.xN.toInt) (a.xD.toInt*b.xD.toInt)
 else bif op==7 then gS (a.xN.toInt*b.xD.toInt) (a.xD.toInt*b.xN.toInt)
 else(⟨-a.xN,a.xD⟩,0)
def rp(op:Int)(t:aC)(a b:ay):ay×Int:=
 bif decide (op<4)||decide (op>10)then(bg,1)else bif !cS t then(bg,10)
 else bif !cZ t a||(!(op==8)&& !cZ t b)then(bg,1)
 else bif op==9 then(bif decide (ke t a b>0)then b else a,0)else bif op==10 then(bif decide (ke t a b<0)then b else a,0)
 else bif t.a8==2 then DZ op t a.xN.toInt b.xN.toInt else bif t.a8==3 then td op a.xN.toInt b.xN.toInt else vG op a b
def kL(t:aC)(v:ay):ay:=bif t.a8==2 then(gS v.xN.toInt (dX t)).1 else v
def vY(from_ yC:aC)(v:ay):ay×Int:=
 bif !cS from_|| !cS yC then(bg,10)else bif !cZ from_ v then(bg,1)
 else
  let x:=kL from_ v
  bif yC.a8==3 then(⟨Int64.ofInt (x.xN.toInt / x.xD.toInt),1⟩,0)else bif yC.a8==2 then(jG yC (gB (x.xN.toInt*dX yC) x.xD.toInt yC.bK),0)else(x,0)
def pZ(t:aC):ay:=bif cS t then⟨0,1⟩else bg
def ig(t:aC):ay×Int:=
 bif !cS t then(bg,10)else
  let v:ay:=⟨Int64.ofInt (bif t.a8==2 then dX t else 1),1⟩
  bif cZ t v then(v,0)else(bg,3)
structure ra(t:aC):Prop where
 b1:2≤t.bz
 b2:t.bz≤31
 f1:0≤t.xFrac
 f2:t.xFrac≤30
 r1:1≤t.bK
 r2:t.bK≤4
 o:t.bM=1∨t.bM=2
theorem ie{t:aC}(h:cS t=true)(hk:t.a8=2):ra t:=by
 unfold cS at h;rw[hk]at h;have h':(decide (2≤t.bz)&&(decide (t.bz≤31)&&(decide (0≤t.xFrac)&&(decide (t.xFrac≤30)&&(decide (1≤t.bK)&&(decide (t.bK≤4)&&(t.bM==1||t.bM==2)))))))=true:=h;simp only[akh,decide_eq_true_eq,Bool.or_eq_true,beq_iff_eq]at h';obtain⟨h1,h2,h3,h4,h5,h6,h7⟩:=h';exact⟨h1,h2,h3,h4,h5,h6,h7⟩
theorem kinds{t:aC}(h:cS t=true):t.a8=1∨t.a8=2∨t.a8=3:=by
 unfold cS at h;by_cases h1:t.a8=1
 ·exact .inl h1
 ·by_cases h2:t.a8=2
  ·exact .inr (.inl h2)
  ·by_cases h3:t.a8=3
   ·exact .inr (.inr h3)
   ·simp [h1,h2,h3]at h
theorem H4{t:aC}(f:ra t):2≤b8 t∧b8 t≤1073741824:=
 ab7 (fun x=>2≤x∧x≤1073741824) (by decide) f.b1 f.b2
theorem Rx(P:Int→Prop)(h:∀k:Fin 31,P (2^k.val)){b:Int}(h1:0≤b)(h2:b≤30):P (2^b.toNat):=
 h ⟨b.toNat,by omega⟩
theorem E1{t:aC}(f:ra t):1≤dX t∧dX t≤1073741824:=
 Rx (fun x=>1≤x∧x≤1073741824) (by decide) f.f1 f.f2
structure HI(t:aC)(v:ay):Prop where
 d:v.xD.toInt=1
 n1: -b8 t≤v.xN.toInt
 n2:v.xN.toInt≤b8 t-1
theorem jP{t:aC}{v:ay}(h:cZ t v=true)(hk:t.a8=2):HI t v:=by
 unfold cZ at h;rw[hk]at h;have h':(v.xD.toInt==1&&(decide (-(2^(t.bz-1).toNat)≤v.xN.toInt)&&decide (v.xN.toInt<2^(t.bz-1).toNat)))=true:=h;simp only[akh,decide_eq_true_eq,beq_iff_eq]at h';obtain⟨h1,h2,h3⟩:=h';exact⟨h1,h2,by unfold b8;omega⟩
structure eX(v:ay):Prop where
 n1: -2147483647≤v.xN.toInt
 n2:v.xN.toInt≤2147483647
 d1:1≤v.xD.toInt
 d2:v.xD.toInt≤2147483647
 g:Nat.gcd v.xN.toInt.natAbs v.xD.toInt.toNat=1
theorem mJ{t:aC}{v:ay}(h:cZ t v=true)(hk:t.a8≠2):eX v:=by
 unfold cZ at h;rw[beq_false_of_ne hk]at h;simp only[cond_false,akh,decide_eq_true_eq]at h;obtain⟨h1,h2,h3,h4,h5⟩:=h;refine⟨h2,h1,h3,h4,?_⟩;cases GV:t.a8==3 with
 |true=>
  rw[GV]at h5;have h6:v.xD.toInt=1:=by simpa using h5
  rw[h6];exact Nat.gcd_one_right _
 |false=>rw[GV]at h5;simpa using h5
theorem B3{t:aC}{v:ay}(h:cZ t v=true)(hk:t.a8=3):v.xD.toInt=1:=by
 unfold cZ at h;rw[hk]at h;have h':(decide (v.xN.toInt≤2147483647)&&(decide (-2147483647≤v.xN.toInt)&&(decide (1≤v.xD.toInt)&&(decide (v.xD.toInt≤2147483647)&&(v.xD.toInt==1)))))=true:=h;simp only[akh,beq_iff_eq]at h';exact h'.2.2.2.2
theorem gM{n:Int}(h1: -9223372036854775808≤n)(h2:n≤9223372036854775807):(Int64.ofInt n).toInt=n:=Int64.toInt_ofInt_of_le (by omega) (by omega)
structure afy(n d:Int)(v:ay):Prop where
 n1: -2147483647≤v.xN.toInt
 n2:v.xN.toInt≤2147483647
 d1:1≤v.xD.toInt
 d2:v.xD.toInt≤2147483647
 g:Nat.gcd v.xN.toInt.natAbs v.xD.toInt.toNat=1
 en:v.xN.toInt=E9 n d
 ed:v.xD.toInt=((d.natAbs / ko n d:Nat):Int)
theorem abm{n d:Int}{v:ay}(h:gS n d=(v,0)):afy n d v:=by
 unfold gS at h;by_cases hd:d=0
 ·subst hd;cases h
 ·rw[beq_false_of_ne hd]at h;simp only[cond_false]at h;cases hc:(decide (2147483647<n.natAbs / ko n d)||decide (2147483647<d.natAbs / ko n d))with
  |true=>rw[hc]at h;cases h
  |false=>
   rw[hc]at h;cases h
   rw[ak2,decide_eq_false_iff_not,decide_eq_false_iff_not]at hc;have hg:0<ko n d:=Nat.gcd_pos_of_pos_right _ (by omega);have hq:0<d.natAbs / ko n d:=Nat.div_pos (Nat.le_of_dvd (by omega) (Nat.gcd_dvd_right _ _)) hg;have hN:(E9 n d).natAbs=n.natAbs / ko n d:=by
     unfold E9;cases (decide (n<0) !=decide (d<0))
     ·exact Int.natAbs_natCast _
     ·exact(Int.natAbs_neg _).trans (Int.natAbs_natCast _)
   have e1:=gM (n:=E9 n d) (by omega) (by omega);have e2:=gM (n:=((d.natAbs / ko n d:Nat):Int)) (by omega) (by omega);refine⟨?_,?_,?_,?_,?_,e1,e2⟩
   ·show _≤(Int64.ofInt _).toInt;rw[e1];omega
   ·show(Int64.ofInt _).toInt≤_;rw[e1];omega
   ·show _≤(Int64.ofInt _).toInt;rw[e2];omega
   ·show(Int64.ofInt _).toInt≤_;rw[e2];omega
   ·show Nat.gcd (Int64.ofInt _).toInt.natAbs (Int64.ofInt _).toInt.toNat=1;rw[e1,e2,hN,akG];exact ahA (by omega)
theorem agq{n S:Int}(h1: -1073741824≤n)(h2:n≤1073741824)(s1:1≤S)(s2:S≤1073741824):∃v,gS n S=(v,0):=by
 unfold gS;rw[beq_false_of_ne (show S≠0 by omega)];have a1:n.natAbs / ko n S≤n.natAbs:=Nat.div_le_self _ _;have a2:S.natAbs / ko n S≤S.natAbs:=Nat.div_le_self _ _;rw[akX (show ¬2147483647<n.natAbs / ko n S by omega),akX (show ¬2147483647<S.natAbs / ko n S by omega)];exact⟨_,rfl⟩
theorem y9{a b:ay}(h1:a.xN.toInt=b.xN.toInt)(h2:a.xD.toInt=b.xD.toInt):a=b:=by
 cases a;cases b
 congr 1
 ·exact Int64.toInt_inj.1 h1
 ·exact Int64.toInt_inj.1 h2
theorem O7{a b:Int}:l5 a b=0↔a=b:=by
 unfold l5;simp only[cond_eq_ite,decide_eq_true_eq]
 (repeat' split)<;>omega
theorem aiz{t:aC}{a b:ay}(ht:cS t=true)(ha:cZ t a=true)(hb:cZ t b=true)(h:ke t a b=0):a=b:=by
 unfold ke at h;rw[ht,ha,hb]at h;simp only[Bool.and_self,cond_true]at h;rcases kinds ht with hk|hk|hk
 ·rw[hk]at h;have h':=O7.1 h;have A:=mJ ha (by omega);have B:=mJ hb (by omega);have e:=aeI (n:=a.xN.toInt) (m:=b.xN.toInt) (d:=a.xD.toInt.toNat) (e:=b.xD.toInt.toNat) (by have:=A.d1;omega) (by have:=B.d1;omega) A.g B.g (by
    rw[show((b.xD.toInt.toNat:Nat):Int)=b.xD.toInt by have:=B.d1;omega,show((a.xD.toInt.toNat:Nat):Int)=a.xD.toInt by have:=A.d1;omega];exact h')
  exact y9 e.1 (by have:=A.d1;have:=B.d1;omega)
 ·rw[hk]at h;have h':=O7.1 h;exact y9 h' (by rw[(jP ha hk).d,(jP hb hk).d])
 ·rw[hk]at h;have h':=O7.1 h;exact y9 h' (by rw[B3 ha hk,B3 hb hk])
theorem Qk{t:aC}{v:ay}(ht:cS t=true)(hv:cZ t v=true):eX (kL t v):=by
 unfold kL;rcases kinds ht with hk|hk|hk
 ·rw[hk];exact mJ hv (by omega)
 ·rw[hk];have F:=ie ht hk;have A:=jP hv hk;have hH:=H4 F;have hS:=E1 F;obtain⟨x,hx⟩:=agq (n:=v.xN.toInt) (S:=dX t) (by have:=A.n1;omega) (by have:=A.n2;omega) hS.1 hS.2;have L:=abm hx;show eX (gS v.xN.toInt (dX t)).1;rw[hx];exact⟨L.n1,L.n2,L.d1,L.d2,L.g⟩
 ·rw[hk];exact mJ hv (by omega)
def dA(n:Int):Bool:=decide (-9223372036854775808≤n)&&decide (n≤9223372036854775807)
theorem ss{n:Int}:dA n=true↔-9223372036854775808≤n∧n≤9223372036854775807:=by
 unfold dA;rw[akh,decide_eq_true_iff,decide_eq_true_iff]
theorem Ya(n:Int64):dA n.toInt=true:=by
 rw[ss];have h1:=n.le_toInt;have h2:=n.toInt_lt;omega
def same(a b:ak4):Bool:=bL a==bL b
def lt(a b:ak4):Bool:=Op.bytesLess (bL a) (bL b)
theorem PH{a b:ak4}(h:(bL a)=(bL b)):a=b:=by
 unfold bL at h;have:a.data=b.data:=Array.toList_inj.mp h;cases a;cases b;simp_all
theorem uL{a b:ak4}:same a b=true↔a=b:=by
 unfold same;rw[beq_iff_eq];exact⟨PH,fun h=>by rw[h]⟩
theorem RU:∀(x y:ak3 UInt8),Op.bytesLess x y=decide (x<y)
 |[],[]=>by simp [Op.bytesLess]
 |_::_,[]=>by simp [Op.bytesLess]
 |[],_::_=>by simp [Op.bytesLess]
 |a::x,b::y=>by
  rw[Op.bytesLess,RU x y];simp only[List.cons_lt_cons_iff];by_cases h:a<b<;>by_cases h2:a=b<;>simp_all
theorem PK{a b:ak4}:lt a b=true↔(bL a)<(bL b):=by unfold lt;rw[RU];simp
theorem uI(a:ak4):lt a a=false:=by
 rw[←Bool.not_eq_true,PK];exact List.lt_irrefl (bL a)
theorem rZ{a b c:ak4}(h1:lt a b=true)(h2:lt b c=true):lt a c=true:=by
 rw[PK]at*;exact List.lt_trans h1 h2
theorem C3{a b:ak4}(h1:lt a b=false)(h2:lt b a=false):a=b:=by
 rw[←Bool.not_eq_true,PK]at*;exact PH (List.le_antisymm (List.not_lt.mp h2) (List.not_lt.mp h1))
inductive Er|arg|range
def Er.code:Er→Int
 | .arg=>1
 | .range=>3
theorem Er.ne(e:Er):(e.code !=0)=true:=by cases e<;>rfl
abbrev X(α:Type):=Except Er α
def qk{α:Type}(d:α):X α→α×Int
 | .ok v=>(v,0)
 | .error e=>(d,e.code)
def dK:ak3 aU→ak3 aU→ak3 (ak4×Int×Int)
 |[],[]=>[]
 |a::l,[]=>(a.aV,a.cN.toInt,0)::dK l []
 |[],b::r=>(b.aV,0,b.cN.toInt)::dK [] r
 |a::l,b::r=>if lt a.aV b.aV then(a.aV,a.cN.toInt,0)::dK l (b::r)else if lt b.aV a.aV then(b.aV,0,b.cN.toInt)::dK (a::l) r else(a.aV,a.cN.toInt,b.cN.toInt)::dK l r
termination_by l r=>l.length+r.length
def GU(k:Int)(l:ak3 (ak4×Int×Int)):X aF:=
 if dA k&&l.all (fun t=>dA (t.2.1+t.2.2))then .ok ⟨Int64.ofInt k,l.filterMap fun t=>if t.2.1+t.2.2=0 then none else some ⟨t.1,Int64.ofInt (t.2.1+t.2.2)⟩⟩else .error .range
def jW(a b:aF):X aF:=if dT a&&dT b then GU (a.xK.toInt+b.xK.toInt) (dK a.xL b.xL)else .error .arg
def jj(a:aF)(ct:Int64):X aF:=
 if dT a then(if ct.toInt=0 then .ok ⟨0,[]⟩else if dA (a.xK.toInt*ct.toInt)&&a.xL.all (fun m=>dA (m.cN.toInt*ct.toInt))then .ok ⟨Int64.ofInt (a.xK.toInt*ct.toInt),a.xL.map fun m=>⟨m.aV,Int64.ofInt (m.cN.toInt*ct.toInt)⟩⟩else .error .range)else .error .arg
def jL:ak3 ak4→ak4→ak3 ak4
 |[],s=>[s]
 |x::l,s=>if lt s x then x::jL l s else s::x::l
def jt(l:ak3 ak4)(s:ak4):ak3 ak4:=if l.any (same · s)then l else(jL l.reverse s).reverse
def tD(ls:ak3 aF):ak3 ak4:=(ls.flatMap fun x=>x.xL.map (·.aV)).foldl jt []
def coeffL:ak3 aU→ak4→Int
 |[],_=>0
 |m::l,n=>if same m.aV n then m.cN.toInt else coeffL l n
def O0(a b:aF):X aF:=if dT a&&dT b then GU (a.xK.toInt+b.xK.toInt) ((tD [a,b]).map fun n=>(n,coeffL a.xL n,coeffL b.xL n))else .error .arg
def mH(l:ak3 ak4):Prop:=l.Pairwise fun a b=>lt a b=true
theorem Xn:∀{l r:ak3 ak4},mH l→mH r→(∀x,x∈l↔x∈r)→l=r
 |[],[],_,_,_=>rfl
 |[],b::r,_,_,h=>by have:=(h b).mpr (by simp);simp at this
 |a::l,[],_,_,h=>by have:=(h a).mp (by simp);simp at this
 |a::l,b::r,hl,hr,h=>by
  have Fw:=List.pairwise_cons.mp hl;have tw:=List.pairwise_cons.mp hr;have e:a=b:=by
   have h1:=(h a).mp (by simp);have h2:=(h b).mpr (by simp);simp only[akJ]at h1 h2;rcases h1 with h1|h1
   ·exact h1
   ·rcases h2 with h2|h2
    ·exact h2.symm
    ·have:=rZ (tw.1 a h1) (Fw.1 b h2);rw[uI]at this;simp at this
  subst e;rw[Xn Fw.2 tw.2 fun x=> ?_];constructor
  ·intro hx;have:=(h x).mp (by simp [hx]);simp only[akJ]at this;rcases this with e|e
   ·subst e;have:=Fw.1 x hx;rw[uI]at this;simp at this
   ·exact e
  ·intro hx;have:=(h x).mpr (by simp [hx]);simp only[akJ]at this;rcases this with e|e
   ·subst e;have:=tw.1 x hx;rw[uI]at this;simp at this
   ·exact e
theorem OS:∀(l:ak3 ak4)(s x:ak4),x∈jL l s↔x=s∨x∈l
 |[],s,x=>by simp [jL]
 |y::l,s,x=>by
  unfold jL;split
  ·simp only[akJ,OS l s x];constructor<;>rintro(h|h|h)<;>simp [h]
  ·simp only[akJ]
theorem R9:∀(l:ak3 ak4)(s:ak4),l.Pairwise (fun a b=>lt b a=true)→s ∉ l→(jL l s).Pairwise (fun a b=>lt b a=true)
 |[],s,_,_=>by simp [jL]
 |y::l,s,h,hs=>by
  have h1:=List.pairwise_cons.mp h;simp only[akJ,not_or]at hs;unfold jL;split
  next a7=>
   refine List.pairwise_cons.mpr ⟨fun z hz=> ?_,R9 l s h1.2 hs.2⟩;rcases (OS l s z).mp hz with e|e
   ·subst e;exact a7
   ·exact h1.1 z e
  next a7=>
   have iC:lt y s=true:=by
    cases hc:lt y s with
    |true=>rfl
    |false=>exact absurd (C3 (by simpa using a7) hc) hs.1
   refine List.pairwise_cons.mpr ⟨fun z hz=> ?_,h⟩;simp only[akJ]at hz;rcases hz with e|e
   ·subst e;exact iC
   ·exact rZ (h1.1 z e) iC
theorem Ns{l:ak3 ak4}{s:ak4}:l.any (same · s)=true↔s∈l:=by
 rw[List.any_eq_true];constructor
 ·rintro⟨x,hx,h⟩;rw[uL]at h;exact h▸hx
 ·intro h;exact⟨s,h,uL.mpr rfl⟩
theorem aiC(l:ak3 ak4)(s x:ak4):x∈jt l s↔x=s∨x∈l:=by
 unfold jt;split
 next h=>
  have:=Ns.mp h;constructor
  ·exact Or.inr
  ·rintro(e|e)
   ·exact e▸this
   ·exact e
 next h=>simp [OS]
theorem aeQ(l:ak3 ak4)(s:ak4)(h:mH l):mH (jt l s):=by
 unfold jt;split
 ·exact h
 next hn=>
  unfold mH;rw[List.pairwise_reverse];refine R9 _ _ ?_ ?_
  ·rw[List.pairwise_reverse];exact h
  ·simpa [Ns]using fun hm=>hn (Ns.mpr hm)
theorem RG:∀(ns l:ak3 ak4),mH l→mH (ns.foldl jt l)∧∀x,x∈ns.foldl jt l↔x∈ns∨x∈l
 |[],l,h=>⟨h,fun x=>by simp⟩
 |n::ns,l,h=>by
  obtain⟨h1,h2⟩:=RG ns (jt l n) (aeQ l n h);refine⟨h1,fun x=> ?_⟩;rw[List.foldl_cons,h2 x,aiC];simp only[akJ];constructor
  ·rintro(h|h|h)<;>simp [h]
  ·rintro((h|h)|h)<;>simp [h]
theorem j5:∀(a b:ak3 aU)(x:ak4),x∈(dK a b).map (·.1)↔x∈a.map (·.aV)∨x∈b.map (·.aV)
 |[],[],x=>by simp [dK]
 |a::l,[],x=>by
  have:=j5 l [] x;rw[dK];simp only[akE,akJ,this];simp
 |[],b::r,x=>by
  have:=j5 [] r x;rw[dK];simp only[akE,akJ,this];simp
 |a::l,b::r,x=>by
  rw[dK];split
  ·have:=j5 l (b::r) x;simp only[akE,akJ,this];exact⟨by rintro(h|h|h|h)<;>simp [h],by rintro((h|h)|h|h)<;>simp [h]⟩
  ·split
   ·have:=j5 (a::l) r x;simp only[akE,akJ,this];exact⟨by rintro(h|(h|h)|h)<;>simp [h],by rintro((h|h)|h|h)<;>simp [h]⟩
   next h1 h2=>
    have e:=C3 (by simpa using h1) (by simpa using h2);have:=j5 l r x;simp only[akE,akJ,this,e];exact⟨by rintro(h|h|h)<;>simp [h],by rintro((h|h)|h|h)<;>simp [h]⟩
termination_by a b=>a.length+b.length
def l9(l:ak3 aU):Prop:=mH (l.map (·.aV))
theorem l9.tail{m:aU}{l:ak3 aU}(h:l9 (m::l)):l9 l:=(List.pairwise_cons.mp h).2
theorem l9.head{m:aU}{l:ak3 aU}(h:l9 (m::l)):∀x∈l.map (·.aV),lt m.aV x=true:=(List.pairwise_cons.mp h).1
theorem Am:∀(a b:ak3 aU),l9 a→l9 b→mH ((dK a b).map (·.1))
 |[],[],_,_=>by simp [dK,mH]
 |a::l,[],ha,hb=>by
  rw[dK];refine List.pairwise_cons.mpr ⟨fun x hx=> ?_,Am l [] ha.tail hb⟩;rcases (j5 l [] x).mp hx with h|h
  ·exact ha.head x h
  ·simp at h
 |[],b::r,ha,hb=>by
  rw[dK];refine List.pairwise_cons.mpr ⟨fun x hx=> ?_,Am [] r ha hb.tail⟩;rcases (j5 [] r x).mp hx with h|h
  ·simp at h
  ·exact hb.head x h
 |a::l,b::r,ha,hb=>by
  rw[dK];split
  next h1=>
   refine List.pairwise_cons.mpr ⟨fun x hx=> ?_,Am l (b::r) ha.tail hb⟩;rcases (j5 l (b::r) x).mp hx with h|h
   ·exact ha.head x h
   ·simp only[akE,akJ]at h;rcases h with h|h
    ·subst h;exact h1
    ·exact rZ h1 (hb.head x h)
  next h1=>
   split
   next h2=>
    refine List.pairwise_cons.mpr ⟨fun x hx=> ?_,Am (a::l) r ha hb.tail⟩;rcases (j5 (a::l) r x).mp hx with h|h
    ·simp only[akE,akJ]at h;rcases h with h|h
     ·subst h;exact h2
     ·exact rZ h2 (ha.head x h)
    ·exact hb.head x h
   next h2=>
    have e:=C3 (by simpa using h1) (by simpa using h2);refine List.pairwise_cons.mpr ⟨fun x hx=> ?_,Am l r ha.tail hb.tail⟩;rcases (j5 l r x).mp hx with h|h
    ·exact ha.head x h
    ·show lt a.aV x=true;rw[e];exact hb.head x h
termination_by a b=>a.length+b.length
theorem OT:∀(l:ak3 aU)(n:ak4),n ∉ l.map (·.aV)→coeffL l n=0
 |[],_,_=>rfl
 |m::l,n,h=>by
  simp only[akE,akJ,not_or]at h;unfold coeffL;rw[if_neg (by rw[uL];exact fun e=>h.1 e.symm)];exact OT l n h.2
theorem Ba{m:aU}{l:ak3 aU}{n:ak4}(h:lt m.aV n=true):coeffL (m::l) n=coeffL l n:=by
 show(if same m.aV n then m.cN.toInt else coeffL l n)=_;rw[if_neg (by rw[uL];rintro rfl;rw[uI]at h;simp at h)]
theorem yP(m:aU)(l:ak3 aU):coeffL (m::l) m.aV=m.cN.toInt:=by
 show(if same m.aV m.aV then m.cN.toInt else coeffL l m.aV)=_;rw[if_pos (uL.mpr rfl)]
theorem R4{m:aU}{l:ak3 aU}{n:ak4}(h:l9 (m::l))(hn:lt n m.aV=true):n ∉(m::l).map (·.aV):=by
 simp only[akE,akJ,not_or];constructor
 ·rintro rfl;rw[uI]at hn;simp at hn
 ·intro hm;have:=rZ hn (h.head n hm);rw[uI]at this;simp at this
theorem yW:∀(a b:ak3 aU),l9 a→l9 b→dK a b=((dK a b).map (·.1)).map fun n=>(n,coeffL a n,coeffL b n)
 |[],[],_,_=>by simp [dK]
 |a::l,[],ha,hb=>by
  have ih:=yW l [] ha.tail hb;rw[dK,akE,akE,yP];refine congrArg _ (ih.trans ?_);rw[←ih];rw[List.map_map]
  conv=>lhs;rw[ih,List.map_map]
  refine akK fun t ht=> ?_;have hm:=List.mem_map_of_mem (f:=(·.1)) ht;rcases (j5 l [] t.1).mp hm with h|h
  ·simp only[Function.comp_apply,Ba (ha.head _ h)]
  ·simp at h
 |[],b::r,ha,hb=>by
  have ih:=yW [] r ha hb.tail;rw[dK,akE,akE,yP];refine congrArg _ (ih.trans ?_);rw[←ih];rw[List.map_map]
  conv=>lhs;rw[ih,List.map_map]
  refine akK fun t ht=> ?_;have hm:=List.mem_map_of_mem (f:=(·.1)) ht;rcases (j5 [] r t.1).mp hm with h|h
  ·simp at h
  ·simp only[Function.comp_apply,Ba (hb.head _ h)]
 |a::l,b::r,ha,hb=>by
  rw[dK];split
  next h1=>
   have ih:=yW l (b::r) ha.tail hb;rw[akE,akE,yP,OT (b::r) _ (R4 hb h1)];refine congrArg _ ?_
   conv=>lhs;rw[ih]
   refine akK fun n hn=> ?_;have:lt a.aV n=true:=by
    rcases (j5 l (b::r) n).mp hn with h|h
    ·exact ha.head n h
    ·simp only[akE,akJ]at h;rcases h with h|h
     ·subst h;exact h1
     ·exact rZ h1 (hb.head n h)
   rw[Ba this]
  next h1=>
   split
   next h2=>
    have ih:=yW (a::l) r ha hb.tail;rw[akE,akE,yP,OT (a::l) _ (R4 ha h2)];refine congrArg _ ?_
    conv=>lhs;rw[ih]
    refine akK fun n hn=> ?_;have:lt b.aV n=true:=by
     rcases (j5 (a::l) r n).mp hn with h|h
     ·simp only[akE,akJ]at h;rcases h with h|h
      ·subst h;exact h2
      ·exact rZ h2 (ha.head n h)
     ·exact hb.head n h
    rw[Ba this]
   next h2=>
    have e:=C3 (by simpa using h1) (by simpa using h2);have ih:=yW l r ha.tail hb.tail;rw[akE,akE,yP];rw[show coeffL (b::r) a.aV=b.cN.toInt from by rw[e];exact yP b r];refine congrArg _ ?_
    conv=>lhs;rw[ih]
    refine akK fun n hn=> ?_;have:lt a.aV n=true:=by
     rcases (j5 l r n).mp hn with h|h
     ·exact ha.head n h
     ·rw[e];exact hb.head n h
    rw[Ba this,Ba (show lt b.aV n=true from e▸this)]
termination_by a b=>a.length+b.length
theorem QB:∀(l:ak3 aU)(p:ak5 ak4),qd p l=true→l9 l∧∀q,p=some q→∀x∈l.map (·.aV),lt q x=true
 |[],p,_=>⟨by simp [l9,mH],fun _ _ x hx=>by simp at hx⟩
 |m::l,p,h=>by
  rw[LB]at h;simp only[akh]at h;obtain⟨_,_,h3,h4⟩:=h;obtain⟨i1,i2⟩:=QB l (some m.aV) h4;refine⟨List.pairwise_cons.mpr ⟨i2 _ rfl,i1⟩,fun q hq x hx=> ?_⟩;subst hq;simp only[akE,akJ]at hx;rcases hx with e|e
  ·subst e;exact h3
  ·exact rZ h3 (i2 _ rfl x e)
theorem W5{x:aF}(h:dT x=true):l9 x.xL:=(QB _ _ h).1
theorem ai5(a b:aF):O0 a b=jW a b:=by
 unfold O0 jW;split
 next h=>
  simp only[akh]at h;have ha:=W5 h.1;have hb:=W5 h.2;obtain⟨f1,f2⟩:=RG ([a,b].flatMap fun x=>x.xL.map (·.aV)) [] (by simp [mH]);have hn:tD [a,b]=(dK a.xL b.xL).map (·.1):=Xn f1 (Am _ _ ha hb) fun x=>by
   rw[j5];unfold tD;rw[f2 x];simp
  rw[hn,←yW _ _ ha hb]
 ·rfl
def mN(l:aF):Prop:=l.xL.length≤maxLen
structure Wb(x:aH):Prop where
 gh:mN x.aM
 at_:∀l∈x.bD,mN l
structure A7(e:an):Prop where
 gh:mN e.aM
 idx:∀x∈e.xIdx,Wb x
 args:e.ax.length≤maxLen
def rT(e:an):Prop:=∀x∈cz e,A7 x
def xf(l:aF):Bool:=l.xK.toInt==0&&l.xL.length==0
def oM(x:aH):Bool:=bif bL x.xFrom==[]then x.bD.length==0 else xf x.aM
def F0(v:ay):Bool:=v.xN.toInt==0&&v.xD.toInt==0
def JW(t:aC):Bool:=t.a8==0&&(t.bz==0&&(t.xFrac==0&&(t.bK==0&&t.bM==0)))
def mF(e:an):Bool:=decide (1≤e.ar)&&(decide (e.ar≤18)&&((e.ar==1||F0 e.ba)&&((e.ar==1||(e.ar==12||JW e.aD))&&((e.ar==2||xf e.aM)&&((e.ar==3||(bL e.aV==[]&&e.xIdx.length==0))&&e.xIdx.all oM)))))
def qF(e:an):Bool:=(!(e.ar==3)||iB e.aV)&&e.xIdx.all fun x=>bL x.xFrom==[]||iB x.xFrom
def kf(op:Int):Int:=bif op==1||(op==2||op==3)then 0 else bif op==8||(op==12||op==18)then 1 else bif op==11 then 3 else 2
def mS(e:an):Bool:=(e.ax.length:Int)==kf e.ar&&(decide (e.xIdx.length≤6)&&e.xIdx.all fun x=>decide (x.bD.length≤6))
def eB(e:an):Bool:=decide (13≤e.ar)&&decide (e.ar≤18)
def kA(op:Int)(i:Nat):Bool:=(op==11&&i==0)||(op==16||(op==17||op==18))
def uy(op:Int):Nat→ak3 an→Bool
 |_,[]=>true
 |i,a::l=>eB a==kA op i&&uy op (i+1) l
def lx(e:an):Bool:=(!(e.ar==1||e.ar==12)||cS e.aD)&&uy e.ar 0 e.ax
def vC(e:an):Bool:=(!(e.ar==1)||cZ e.aD e.ba)&&(mT e).all dT
def mr(e:an):Int:=bif mF e then bif qF e then bif mS e then bif lx e then bif vC e then 0 else 1 else 10 else 11 else 7 else 5
theorem tB(n:Nat):((n:Int)==(0:Int))=(n==0):=lZ n 0
theorem LW(n:Nat):decide ((n:Int)>(0:Int))= !(n==0):=by
 by_cases h:n=0
 ·subst h;rfl
 ·rw[akW (show(n:Int)>0 by omega),beq_false_of_ne h];rfl
theorem PX(N:Nat)(l:aF):A5 N l=some (xf l):=by
 unfold A5 xf;rw[dq,ake,tB]
theorem afz(N:Nat)(x:aH):D0 N x=some (oM x):=by
 unfold D0 oM;rw[PX,ake,tB,uh];cases bL x.xFrom==[]<;>rfl
theorem Lm{α:Type}(f:α→Bool)(l:ak3 α):(l.any fun x=> !f x)= !l.all f:=by
 induction l with
 |nil=>rfl
 |cons x l ih=>rw[ak0,akZ,ih];cases f x<;>rfl
theorem QG(N:Nat):∀(l:ak3 aH)(k:Nat),∃z:Int,vP N l k=some z∧decide (z≥0)=l.any fun x=> !oM x
 |[],k=>⟨-1,rfl,rfl⟩
 |x::l,k=>by
  rw[vP,ak0];unfold Hn;rw[afz,ake,ake];cases h: !oM x with
  |true=>exact⟨k,rfl,akW (by omega)⟩
  |false=>exact QG N l (k+1)
theorem aaL(N:Nat)(l:ak3 aH):Fl N l=some (!l.all oM):=by
 unfold Fl Jr;obtain⟨z,h1,h2⟩:=QG N l 0;rw[h1,ake,h2,Lm]
theorem Vr(v:ay):((v.xN.toInt==(0:Int64).toInt)&&((v.xD.toInt==(0:Int64).toInt)&&true))=F0 v:=by rw[Bool.and_true];rfl
theorem Wo(t:aC):((t.a8==(0:Int))&&((t.bz==(0:Int))&&((t.xFrac==(0:Int))&&((t.bK==(0:Int))&&((t.bM==(0:Int))&&true)))))=JW t:=by rw[Bool.and_true];rfl
theorem qR(a b:Bool):(bif a then some false else some b)=some (!a&&b):=by cases a<;>rfl
theorem VN(a b:Bool):(bif a then some b else some true)=some (!a||b):=by cases a<;>rfl
theorem ahi(N:Nat)(e:an):FH N e=some (mF e):=by
 unfold FH mF;simp only[LW];simp only[iF,dq,qR,VN,ake,E4,NQ,PX,aaL,Vr,Wo,uh];cases decide (1≤e.ar)<;>cases decide (e.ar≤18)<;>cases e.ar==1<;>cases F0 e.ba<;>cases e.ar==12<;>cases JW e.aD<;>cases e.ar==2<;>cases xf e.aM<;>cases e.ar==3<;>cases bL e.aV==[]<;>cases e.xIdx.length==0<;>cases e.xIdx.all oM<;>rfl
theorem SN(N:Nat):∀(l:ak3 aH)(k:Nat),xQ N l k=some (l.all oM)
 |[],_=>rfl
 |x::l,k=>by
  rw[xQ,akZ,SN N l (k+1)];unfold oM xf;simp only[iF,ahv,dq,ake,LW,fE,uh];cases bL x.xFrom==[]<;>cases x.bD.length==0<;>cases x.aM.xK.toInt==0<;>cases x.aM.xL.length==0<;>rfl
theorem aim(N:Nat)(e:an):EM N e=some (mF e):=by
 unfold EM mF;simp only[LW];simp only[iF,dq,qR,VN,ake,E4,NQ,fE,SN,Vr,Wo,uh];unfold xf;cases decide (1≤e.ar)<;>cases decide (e.ar≤18)<;>cases e.ar==1<;>cases F0 e.ba<;>cases e.ar==12<;>cases JW e.aD<;>cases e.ar==2<;>cases e.aM.xK.toInt==0<;>cases e.aM.xL.length==0<;>cases e.ar==3<;>cases bL e.aV==[]<;>cases e.xIdx.length==0<;>cases e.xIdx.all oM<;>rfl
theorem aiK(N:Nat)(hN:16<N)(x:aH):DA N x=some (!(bL x.xFrom==[]||iB x.xFrom)):=by
 unfold DA;rw[Rf N _ hN,ake,qR,ake,uh];cases bL x.xFrom==[]<;>rfl
theorem R1(N:Nat)(hN:16<N):∀(l:ak3 aH)(k:Nat),∃z:Int,wy N l k=some z∧decide (z≥0)=l.any fun x=> !(bL x.xFrom==[]||iB x.xFrom)
 |[],k=>⟨-1,rfl,rfl⟩
 |x::l,k=>by
  rw[wy,ak0,aiK N hN,ake];cases h: !(bL x.xFrom==[]||iB x.xFrom)with
  |true=>exact⟨k,rfl,akW (by omega)⟩
  |false=>exact R1 N hN l (k+1)
theorem aaC(N:Nat)(hN:16<N)(e:an):DJ N e=some (qF e):=by
 unfold DJ qF HK IS;obtain⟨z,h1,h2⟩:=R1 N hN e.xIdx 0;rw[Rf N _ hN,ake,h1];simp only[ake,h2,Lm,dq,qR];cases e.ar==3<;>cases iB e.aV<;>cases (e.xIdx.all fun x=>bL x.xFrom==[]||iB x.xFrom)<;>rfl
theorem Us(N:Nat)(hN:16<N):∀(l:ak3 aH)(k:Nat),vr N l k=some (l.all fun x=>bL x.xFrom==[]||iB x.xFrom)
 |[],_=>rfl
 |x::l,k=>by
  rw[vr,akZ,Us N hN l (k+1),LN N _ hN,ake,qR,ake,qR,uh];cases bL x.xFrom==[]<;>cases iB x.xFrom<;>rfl
theorem acS(N:Nat)(hN:16<N)(e:an):Ew N e=some (qF e):=by
 unfold Ew qF;rw[LN N _ hN,ake,Us N hN];simp only[ake,dq,qR];cases e.ar==3<;>cases iB e.aV<;>rfl
theorem UH(N:Nat):∀(l:ak3 aH)(k:Nat),∃z:Int,w7 N l k=some z∧decide (z≥0)=l.any fun x=> !decide (x.bD.length≤6)
 |[],k=>⟨-1,rfl,rfl⟩
 |x::l,k=>by
  rw[w7,ak0];unfold Jy;rw[ake,show decide ((x.bD.length:Int)>(6:Int))= !decide (x.bD.length≤6)from qq _ 6];cases h: !decide (x.bD.length≤6)with
  |true=>exact⟨k,rfl,akW (by omega)⟩
  |false=>exact UH N l (k+1)
theorem ahz(N:Nat)(op:Int):Ec N op=some (kf op):=by
 unfold Ec AU z7 kf;cases op==1<;>cases op==2<;>cases op==3<;>cases op==8<;>cases op==12<;>cases op==18<;>cases op==11<;>rfl
theorem ae9(N:Nat)(op:Int):Eo N op=some (kf op):=by
 unfold Eo yQ A0 kf;cases op==1<;>cases op==2<;>cases op==3<;>cases op==8<;>cases op==12<;>cases op==18<;>cases op==11<;>rfl
theorem agP(N:Nat)(e:an):Cx N e=some (mS e):=by
 unfold Cx mS IZ Jp;obtain⟨z,h1,h2⟩:=UH N e.xIdx 0;rw[ahz,ake,h1,show decide ((e.xIdx.length:Int)>(6:Int))= !decide (e.xIdx.length≤6)from qq _ 6];simp only[ake,h2,Lm,iF,qR,fE];cases (e.ax.length:Int)==kf e.ar<;>cases decide (e.xIdx.length≤6)<;>cases (e.xIdx.all fun x=>decide (x.bD.length≤6))<;>rfl
theorem W8(N:Nat):∀(l:ak3 aH)(k:Nat),xM N l k=some (l.all fun x=>decide (x.bD.length≤6))
 |[],_=>rfl
 |x::l,k=>by
  rw[xM,akZ,W8 N l (k+1),show decide ((x.bD.length:Int)>(6:Int))= !decide (x.bD.length≤6)from qq _ 6];cases decide (x.bD.length≤6)<;>rfl
theorem acg(N:Nat)(e:an):FL N e=some (mS e):=by
 unfold FL mS;rw[ae9,ake,W8,show decide ((e.xIdx.length:Int)>(6:Int))= !decide (e.xIdx.length≤6)from qq _ 6];simp only[ake,iF,qR,fE];cases (e.ax.length:Int)==kf e.ar<;>cases decide (e.xIdx.length≤6)<;>rfl
theorem QM(N:Nat)(e:an):yb N e=some (eB e):=by
 unfold yb eB;rw[dq,ake]
theorem T9(N:Nat)(e:an):yR N e=some (eB e):=by
 unfold yR eB;rw[kF,dq,ake]
theorem abj(N:Nat)(op:Int)(i:Nat):BN N op (i:Int)=some (kA op i):=by
 unfold BN Aw kA;rw[tB];cases op==16<;>cases op==17<;>cases op==18<;>cases op==11<;>cases i==0<;>rfl
theorem Yw(N:Nat)(op:Int)(i:Nat):Co N op (i:Int)=some (kA op i):=by
 unfold Co kA;rw[tB];cases op==16<;>cases op==17<;>cases op==18<;>cases op==11<;>cases i==0<;>rfl
theorem PL(N:Nat)(e:an):∀(l:ak3 an)(i:Nat),xz N e l i=some (uy e.ar i l)
 |[],_=>rfl
 |a::l,i=>by
  rw[xz,uy,QM,ake,abj,ake,PL N e l (i+1)];cases eB a==kA e.ar i<;>rfl
theorem Rk(N:Nat)(e:an):∀(l:ak3 an)(i:Nat),vO N e l i=some (uy e.ar i l)
 |[],_=>rfl
 |a::l,i=>by
  rw[vO,uy,T9,ake,Yw,ake,Rk N e l (i+1)];cases eB a==kA e.ar i<;>rfl
theorem aiL(b:Bool):((bif b then(0:Int)else 10) !=0)= !b:=by cases b<;>rfl
theorem aeY(N:Nat)(e:an):Cs N e=some (lx e):=by
 unfold Cs lx;rw[o8,ake,PL];simp only[aiL];cases e.ar==1<;>cases e.ar==12<;>cases cS e.aD<;>rfl
theorem adJ(N:Nat)(e:an):CK N e=some (lx e):=by
 unfold CK lx;rw[sW,ake,Rk];cases e.ar==1<;>cases e.ar==12<;>cases cS e.aD<;>rfl
theorem acj(b:Bool):((bif b then(0:Int)else 1) !=0)= !b:=by cases b<;>rfl
theorem Re(N:Nat)(hN:16<N):∀l:ak3 aF,(∀x∈l,mN x)→tX N l=some (bif l.all dT then 0 else 1)
 |[],_=>rfl
 |x::l,h=>by
  rw[tX,IG N hN x (h x akl),ake,acj,Re N hN l (fun y hy=>h y (ako _ hy)),akZ];cases dT x<;>rfl
theorem Vt(N:Nat)(hN:16<N)(c:Bool):∀(l:ak3 aF)(k:Nat),(∀x∈l,mN x)→wL N (some c) l k=some (l.all dT&&c)
 |[],_,_=>rfl
 |x::l,k,h=>by
  rw[wL,IV N hN x (h x akl),ake,Vt N hN c l (k+1) (fun y hy=>h y (ako _ hy)),akZ];cases dT x<;>rfl
theorem V9(N:Nat)(hN:16<N):∀(l:ak3 aH)(k:Nat),(∀x∈l,Wb x)→sG N l k=some ((l.flatMap vz).all dT)
 |[],_,_=>rfl
 |x::l,k,h=>by
  have hx:=h x akl;rw[sG,IV N hN _ hx.gh,ake,V9 N hN l (k+1) (fun y hy=>h y (ako _ hy)),Vt N hN _ _ _ hx.at_,List.flatMap_cons,vz,List.cons_append,akZ,List.all_append];cases dT x.aM<;>rfl
theorem adK{e:an}(h:A7 e):∀x∈mT e,mN x:=by
 intro x hx;unfold mT at hx;rcases akJ.1 hx with rfl|hx
 ·exact h.gh
 ·obtain⟨y,hy,hx⟩:=List.mem_flatMap.1 hx;unfold vz at hx;rcases akJ.1 hx with rfl|hx
  ·exact(h.idx y hy).gh
  ·exact(h.idx y hy).at_ x hx
theorem ahV(N:Nat)(hN:2147483648<N)(e:an)(h:A7 e)(ht:lx e=true):D6 N e=some (vC e):=by
 unfold D6 vC mT;rw[akZ,IV N (by omega) _ h.gh,ake,V9 N (by omega) _ _ h.idx];cases h1:e.ar==1 with
 |true=>
  have DM:cS e.aD=true:=by
   unfold lx at ht;rw[h1]at ht;simp only[Bool.true_or,Bool.not_true,Bool.false_or,akh]at ht;exact ht.1
  rw[rU N hN _ _ DM,ake];cases cZ e.aD e.ba<;>cases dT e.aM<;>rfl
 |false=>cases dT e.aM<;>rfl
theorem ahN(N:Nat)(hN:2147483648<N)(e:an)(h:A7 e):C7 N e=some (mr e):=by
 unfold C7 mr;rw[ahi,ake];cases mF e with
 |false=>rfl
 |true=>
  simp only[cond_true];rw[aaC N (by omega),ake];cases qF e with
  |false=>rfl
  |true=>
   simp only[cond_true];rw[agP,ake];cases mS e with
   |false=>rfl
   |true=>
    simp only[cond_true];rw[aeY,ake];cases ht:lx e with
    |false=>rfl
    |true=>
     simp only[cond_true];have hf:tX N (mT e)=_:=Re N (by omega) (mT e) (adK h);unfold vC L5;rw[ake,hf];cases h1:e.ar==1 with
     |true=>
      have DM:cS e.aD=true:=by
       unfold lx at ht;rw[h1]at ht;simp only[Bool.true_or,Bool.not_true,Bool.false_or,akh]at ht;exact ht.1
      rw[uE N hN _ _ DM,ake];cases cZ e.aD e.ba<;>cases (mT e).all dT<;>rfl
     |false=>cases (mT e).all dT<;>rfl
theorem fw{e x:an}(h:x∈e.ax):SizeOf.sizeOf x<SizeOf.sizeOf e:=by
 have h1:=List.sizeOf_lt_of_mem h;cases e
 simp only[an.mk.sizeOf_spec]at*;omega
theorem j8{e x y:an}(h:x∈e.ax)(hy:y∈cz x):y∈cz e:=by
 have gen:∀l:ak3 an,x∈l→y∈iG l:=by
  intro l
  induction l with
  |nil=>intro h;cases h
  |cons z l ih=>
   intro h;rw[AY];rcases akJ.1 h with rfl|h
   ·exact List.mem_append_left _ hy
   ·exact List.mem_append_right _ (ih h)
 exact ako _ (gen _ h)
theorem rT.node{e:an}(h:rT e):A7 e:=h e akl
theorem rT.arg{e x:an}(h:rT e)(hx:x∈e.ax):rT x:=fun y hy=>h y (j8 hx hy)
def ju:ak3 an→Int
 |[]=>0
 |x::l=>bif mr x !=0 then mr x else ju l
theorem Rp:∀a b:ak3 an,ju (a++b)=bif ju a !=0 then ju a else ju b
 |[],_=>rfl
 |x::a,b=>by
  rw[List.cons_append,ju,ju,Rp a b];cases h:mr x !=0 with
  |true=>simp only[cond_true,h]
  |false=>rfl
theorem V7(N:Nat)(hN:2147483648<N):∀l:ak3 an,(∀x∈l,A7 x)→wU N l=some (ju l)
 |[],_=>rfl
 |x::l,h=>by
  rw[wU,ahN N hN x (h x akl),ake,V7 N hN l (fun y hy=>h y (ako _ hy)),ju];cases mr x !=0<;>rfl
theorem W1(N:Nat)(rec:an→ak5 Int):∀(l:ak3 an)(k:Nat),(∀x∈l,rec x=some (ju (cz x)))→wP N rec l k=some (ju (iG l))
 |[],_,_=>by rw[iG];rfl
 |x::l,k,h=>by
  rw[wP,h x akl,ake,W1 N rec l (k+1) (fun y hy=>h y (ako _ hy)),AY,Rp];cases ju (cz x) !=0<;>rfl
theorem QU(N:Nat)(hN:2147483648<N):∀(d:Nat)(e:an),SizeOf.sizeOf e<d→rT e→qa N d e=some (ju (cz e))
 |0,_,h,_=>absurd h (akH _)
 |d+1,e,h,hk=>by
  rw[qa];have hl:=W1 N (qa N d) e.ax 0 fun x hx=>QU N hN d x (by have:=fw hx;omega) (hk.arg hx);unfold cz;rw[ju];unfold mr;rw[aim,ake];cases mF e with
  |false=>rfl
  |true=>
   simp only[cond_true];rw[acS N (by omega),ake];cases qF e with
   |false=>rfl
   |true=>
    simp only[cond_true];rw[acg,ake];cases mS e with
    |false=>rfl
    |true=>
     simp only[cond_true];rw[adJ,ake];cases ht:lx e with
     |false=>rfl
     |true=>
      simp only[cond_true];rw[ahV N hN e hk.node ht,ake,hl];cases vC e<;>rfl
def gw:Nat→an→Nat
 |0,_=>1
 |L+1,e=>e.ax.foldl (fun m a=>max m (1+gw L a)) 1
theorem Ux{α:Type}(f:α→Nat)(b:Nat):∀(l:ak3 α)(m:Nat),m≤b→(∀x∈l,f x≤b)→l.foldl (fun m a=>max m (f a)) m≤b
 |[],_,h,_=>h
 |x::l,_,h,hl=>Ux f b l _ (Nat.max_le.2 ⟨h,hl x akl⟩) fun y hy=>hl y (ako _ hy)
theorem KP:∀(L:Nat)(e:an),gw L e≤L+1
 |0,_=>akq _
 |L+1,e=>Ux (fun a=>1+gw L a) (L+2) e.ax 1 (by omega) fun x _=>by have:=KP L x;show 1+gw L x≤L+2;omega
theorem tz{z:Int}(h1: -9223372036854775808≤z)(h2:z<9223372036854775808):aQ z=z:=by
 unfold aQ;rw[IntKind.wrap_i64];omega
theorem PU(a b:Nat):(if((a:Nat):Int)>((b:Nat):Int)then((a:Nat):Int)else(b:Int))=((max b a:Nat):Int):=by
 split<;>omega
theorem XF(N:Nat)(rec:an→Int→ak5 Int)(L:Nat)(hL:L≤100):∀(l:ak3 an)(k m:Nat),(∀x∈l,rec x ((L:Int)+1)=some ((gw L x:Nat):Int))→wA N rec ((L:Int)+1+1) l k (m:Int)=some ((l.foldl (fun m a=>max m (1+gw L a)) m:Nat):Int)
 |[],_,_,_=>rfl
 |x::l,k,m,h=>by
  have h1:=KP L x;rw[wA,tz (by omega) (by omega),show(L:Int)+1+1-1=(L:Int)+1 by omega,h x akl,ake];rw[tz (by omega) (by omega),show(1:Int)+((gw L x:Nat):Int)=((1+gw L x:Nat):Int) by omega,PU];exact XF N rec L hL l (k+1) _ fun y hy=>h y (ako _ hy)
theorem Sj(N:Nat):∀(L d:Nat)(e:an),L<d→L≤100→oe N d e ((L:Int)+1)=some ((gw L e:Nat):Int)
 |L,0,_,h,_=>absurd h (akH _)
 |0,d+1,e,_,_=>by rw[oe];rfl
 |L+1,d+1,e,h,hL=>by
  rw[oe,akX (by omega)];simp only[cond_false];exact XF N (oe N d) L (by omega) e.ax 0 1 fun x _=>Sj N L d x (by omega) (by omega)
theorem WZ(N:Nat)(rec:an→Int→ak5 Int)(L:Nat)(hL:L≤100):∀(l:ak3 an)(k m:Nat),(∀x∈l,rec x ((L:Int)+1)=some ((gw L x:Nat):Int))→qf N ((L:Int)+1+1) rec l k (m:Int)=some ((l.foldl (fun m a=>max m (1+gw L a)) m:Nat):Int)
 |[],_,_,_=>rfl
 |x::l,k,m,h=>by
  have h1:=KP L x;rw[qf,akW (show(L:Int)+1+1>1 by omega)];simp only[cond_true];rw[tz (by omega) (by omega),show(L:Int)+1+1-1=(L:Int)+1 by omega,h x akl,ake];rw[tz (by omega) (by omega),show(1:Int)+((gw L x:Nat):Int)=((1+gw L x:Nat):Int) by omega,PU];exact WZ N rec L hL l (k+1) _ fun y hy=>h y (ako _ hy)
theorem acu(N:Nat)(rec:an→Int→ak5 Int):∀l:ak3 an,qf N 1 rec l 0 1=some 1
 |[]=>rfl
 |x::l=>by rw[qf];rfl
theorem WT(N:Nat):∀(L d:Nat)(e:an),L<d→L≤100→nv N d e ((L:Int)+1)=some ((gw L e:Nat):Int)
 |L,0,_,h,_=>absurd h (akH _)
 |0,d+1,e,_,_=>by rw[nv];exact acu N _ _
 |L+1,d+1,e,h,hL=>by
  rw[nv];exact WZ N (nv N d) L (by omega) e.ax 0 1 fun x _=>WT N L d x (by omega) (by omega)
theorem Vl(N:Nat):∀(l:ak3 an)(v:Nat),v≤2000→tt N l (v:Int)=some ((min (v+l.length) 2001:Nat):Int)
 |[],v,h=>by rw[tt];congr 2;simp only[akr];omega
 |x::l,v,h=>by
  rw[tt,tz (by omega) (by omega)];by_cases h2:v+1>2000
  ·rw[akW (by omega)];simp only[cond_true]
   congr 1
   simp only[aki];omega
  ·rw[akX (by omega)];simp only[cond_false];rw[show(v:Int)+1=((v+1:Nat):Int) by omega,Vl N l (v+1) (by omega)]
   congr 3
   simp only[aki];omega
theorem Pu(N:Nat)(e:an):vj N e=some ((min (cz e).length 2001:Nat):Int):=by
 unfold vj J1;have:=Vl N (cz e) 0 (by omega);rw[akz]at this;exact this
theorem Uu(N:Nat)(rec:an→Int→ak5 Int)(m:Nat)(hm:m≤4000):∀(l:ak3 an)(k n:Nat),n≤m+1→(∀x∈l,∀q:Nat,q≤m→rec x (q:Int)=some ((min (cz x).length (q+1):Nat):Int))→sM N (m:Int) rec l k (n:Int)=some ((min (n+(iG l).length) (m+1):Nat):Int)
 |[],k,n,hn,_=>by rw[sM,iG];congr 2;simp only[akr];omega
 |x::l,k,n,hn,h=>by
  rw[sM];by_cases h2:n≤m
  ·rw[akW (by omega)];simp only[cond_true];rw[tz (by omega) (by omega),show(m:Int)-(n:Int)=((m-n:Nat):Int) by omega,h x akl (m-n) (by omega),ake];rw[tz (by omega) (by omega),show(n:Int)+((min (cz x).length (m-n+1):Nat):Int)=((n+min (cz x).length (m-n+1):Nat):Int) by omega];rw[Uu N rec m hm l (k+1) _ (by omega) fun y hy=>h y (ako _ hy),AY,akg]
   congr 2
   omega
  ·rw[akX (by omega)];simp only[cond_false]
   congr 1
   omega
theorem VR(N:Nat):∀(d:Nat)(e:an)(m:Nat),SizeOf.sizeOf e<d→m≤4000→pk N d e (m:Int)=some ((min (cz e).length (m+1):Nat):Int)
 |0,_,_,h,_=>absurd h (akH _)
 |d+1,e,m,h,hm=>by
  rw[pk];have:=Uu N (pk N d) m hm e.ax 0 1 (by omega) fun x hx q hq=>VR N d x q (by have:=fw hx;omega) (by omega);rw[show((1:Nat):Int)=1 from rfl]at this;rw[this]
  congr 2
  unfold cz;simp only[aki];omega
def iQ(e:an):Int:=bif decide (40<gw 40 e)then 13 else bif decide (2000<(cz e).length)then 2 else ju (cz e)
theorem agM(N:Nat)(hN:2147483648<N)(e:an)(h:rT e):BZ N e=some (iQ e):=by
 unfold BZ Ju Ph iQ;have hd:oe N N e 41=_:=Sj N 40 N e (by omega) (by omega);rw[hd,ake,ake,Pu,ake];rw[lv (p:=((gw 40 e:Nat):Int)>40) (q:=40<gw 40 e) (by omega),lv (p:=((min (cz e).length 2001:Nat):Int)>2000) (q:=2000<(cz e).length) (by omega)];cases decide (40<gw 40 e)<;>cases decide (2000<(cz e).length)<;>try rfl
 simp only[cond_false];exact V7 N hN (cz e) h
theorem ae0(N:Nat)(hN:2147483648<N)(e:an)(hs:SizeOf.sizeOf e<N)(h:rT e):Ej N e=some (iQ e):=by
 unfold Ej ID Pz F7 NY Mc iQ;have hd:nv N N e 41=_:=WT N 40 N e (by omega) (by omega);have hz:pk N N e 2000=_:=VR N N e 2000 hs (by omega);rw[hd,ake,ake,hz,ake,ake,QU N hN N e hs h,ake];rw[lv (p:=((gw 40 e:Nat):Int)>40) (q:=40<gw 40 e) (by omega)];rw[show(if(2001:Int)<((min (cz e).length 2001:Nat):Int)then(2001:Int)else((min (cz e).length 2001:Nat):Int))=((min (cz e).length 2001:Nat):Int) by split<;>omega];rw[lv (p:=((min (cz e).length 2001:Nat):Int)>2000) (q:=2000<(cz e).length) (by omega)];cases decide (40<gw 40 e)<;>cases decide (2000<(cz e).length)<;>rfl
section
variable {m:ak3 (ak4×Int)} {S T:ak3 ak4}
theorem Uq{a:Int}(h:(a !=0)=false):a=0:=by
 rw[bne_eq_false_iff_eq]at h;exact h
theorem Kh{n:Nat}(h:n≤9223372036854775807):aQ (n:Int)=(n:Int):=tz (by omega) (by omega)
end
def ot(B:Nat)(l:aF):Prop:=l.xL.length≤B
theorem ot.ok{l:aF}(h:ot 1000000000 l):mN l:=akx h (by decide)
theorem n4{n k:Nat}(h:n≤k):Nat.ble n k=true:=Nat.ble_eq_true_of_le h
theorem XV{α:Type}{l:ak3 α}{i:Nat}{d:α}(h:l[i]?=some d):d∈l:=aks h
theorem Kg(a b:Nat):((a:Int) !=(b:Int))= !(a==b):=Qi a b
set_option maxRecDepth 100000
theorem oF(n:Int):(Int64.ofInt n).toInt=IntKind.i64.wrap n:=by
 have h:=eP n;unfold aw aI aQ at h;injection h with h;injection h with h;injection h with _ h;exact h.symm
theorem Es(a b:Int64):(a+b).toInt=IntKind.i64.wrap (a.toInt+b.toInt):=by
 have h:=lA a b;unfold aw aI aQ at h;injection h with h;injection h with h;injection h with _ h;exact h.symm
theorem HL(a b:Int64):(a*b).toInt=IntKind.i64.wrap (a.toInt*b.toInt):=by
 have h:=dS a b;unfold aw aI aQ at h;injection h with h;injection h with h;injection h with _ h;exact h.symm
theorem I2(a b:Int64):(a-b).toInt=IntKind.i64.wrap (a.toInt-b.toInt):=by
 have h:=gk a b;unfold aw aI aQ at h;injection h with h;injection h with h;injection h with _ h;exact h.symm
theorem iU(a:Int64): -9223372036854775808≤a.toInt∧a.toInt≤9223372036854775807:=ss.1 (Ya a)
theorem Bc{a b:Int64}(h:a.toInt=b.toInt):a=b:=Int64.toInt_inj.1 h
theorem Ie(a b:Int64):Int64.ofInt (a.toInt+b.toInt)=a+b:=Bc (by rw[oF,Es])
theorem JS(a b:Int64):Int64.ofInt (a.toInt*b.toInt)=a*b:=Bc (by rw[oF,HL])
theorem KM(x:Int)(h:0≤x∧x<18446744073709551616):IntKind.u64.wrap ((BitVec.ofInt IntKind.u64.bits x&&&BitVec.ofInt IntKind.u64.bits 4294967295).toNat:Int)=x%4294967296:=by
 obtain⟨n,rfl⟩:=Int.eq_ofNat_of_zero_le h.1;have e:(BitVec.ofInt IntKind.u64.bits (n:Int)&&&BitVec.ofInt IntKind.u64.bits 4294967295).toNat=n%4294967296:=by
  show(BitVec.ofInt 64 (n:Int)&&&BitVec.ofInt 64 4294967295).toNat=_;rw[BitVec.toNat_and];have h1:(BitVec.ofInt 64 (n:Int)).toNat=n:=by
   rw[BitVec.toNat_ofInt];omega
  have h2:(BitVec.ofInt 64 (4294967295:Int)).toNat=2^32-1:=by decide
  rw[h1,h2,Nat.and_two_pow_sub_one_eq_mod]
 rw[e,IntKind.wrap_u64];omega
theorem age(x:Int):x.fdiv (2^min (32:Int).toNat IntKind.u64.bits)=x / 4294967296:=by
 show x.fdiv 4294967296=_;rw[Int.fdiv_eq_ediv_of_nonneg _ (by omega)]
theorem afw(a b:Int)(ha:0≤a∧a<18446744073709551616)(hb:0≤b∧b<18446744073709551616):
 let ah:=a / 4294967296
 let al:=a%4294967296
 let bh:=b / 4294967296
 let bl:=b%4294967296
 let W:=IntKind.u64.wrap
 let low:=W (al*bl)
 let xP:=W (W (ah*bl)+low / 4294967296)
 let JY:=W (W (al*bh)+xP%4294967296)
 W (W (W (ah*bh)+xP / 4294967296)+JY / 4294967296)=a*b / 18446744073709551616:=by
 intro ah al bh bl W low xP JY;have h1:0≤ah∧ah≤4294967295:=by omega
 have h2:0≤al∧al≤4294967295:=by omega
 have h3:0≤bh∧bh≤4294967295:=by omega
 have h4:0≤bl∧bl≤4294967295:=by omega
 have pb:∀{x y:Int},(0≤x∧x≤4294967295)→(0≤y∧y≤4294967295)→0≤x*y∧x*y≤18446744065119617025:=fun hx hy=>
  ⟨Int.mul_nonneg hx.1 hy.1,Int.le_trans (Int.mul_le_mul hx.2 hy.2 hy.1 (by omega)) (by decide)⟩
 have p1:=pb h1 h3;have p2:=pb h1 h4;have p3:=pb h2 h3;have p4:=pb h2 h4;have e:a*b=18446744073709551616*(ah*bh)+4294967296*(ah*bl)+4294967296*(al*bh)+al*bl:=by
  have ea:a=4294967296*ah+al:=by omega
  have eb:b=4294967296*bh+bl:=by omega
  have:∀x y z w:Int,(4294967296*x+y)*(4294967296*z+w)=18446744073709551616*(x*z)+4294967296*(x*w)+4294967296*(y*z)+y*w:=fun x y z w=>by
   rw[Int.add_mul,Int.mul_add,Int.mul_add];rw[show 4294967296*x*(4294967296*z)=18446744073709551616*(x*z)from by
     rw[Int.mul_assoc,Int.mul_left_comm x,←Int.mul_assoc];rfl]
   rw[Int.mul_assoc 4294967296 x w,Int.mul_left_comm y];omega
  rw[←this,←ea,←eb]
 generalize hP:ah*bh=P at*;generalize hQ:ah*bl=Q at*;generalize hR:al*bh=R at*;generalize hT:al*bl=T at*;have w1:low=T:=by show IntKind.u64.wrap _=_;rw[IntKind.wrap_u64];omega
 have w2:xP=Q+T / 4294967296:=by show IntKind.u64.wrap (IntKind.u64.wrap _+low / _)=_;rw[IntKind.wrap_u64,IntKind.wrap_u64,w1];omega
 have w3:JY=R+xP%4294967296:=by show IntKind.u64.wrap (IntKind.u64.wrap _+xP%_)=_;rw[IntKind.wrap_u64,IntKind.wrap_u64];omega
 show IntKind.u64.wrap (IntKind.u64.wrap (IntKind.u64.wrap P+xP / 4294967296)+JY / 4294967296)=_;rw[IntKind.wrap_u64,IntKind.wrap_u64,IntKind.wrap_u64,e,w3,w2];omega
theorem ahM(n:Int):0≤IntKind.u64.wrap n∧IntKind.u64.wrap n<18446744073709551616:=by rw[IntKind.wrap_u64];omega
theorem ajh(N:Nat)(a b:Int)(ha:0≤a∧a<18446744073709551616)(hb:0≤b∧b<18446744073709551616):Cd N a b=some (a*b / 18446744073709551616,a*b%18446744073709551616):=by
 unfold Cd;simp only[KM _ ha,KM _ hb,KM _ (ahM _),age];rw[afw a b ha hb,IntKind.wrap_u64 (a*b)]
theorem U9(N:Nat)(a:Int64):zU N a=some (a.toInt.natAbs:Int):=by
 unfold zU;have:=iU a;rw[IntKind.wrap_u64,IntKind.wrap_u64];by_cases h:a.toInt<0
 ·rw[akW h,cond_true];congr 1;omega
 ·rw[akX h,cond_false];congr 1;omega
theorem aiD(a b:Int):(a.natAbs:Int)*b.natAbs=if(decide (a<0)==decide (b<0))=true then a*b else-(a*b):=by
 by_cases h1:a<0<;>by_cases h2:b<0
 ·rw[show(a.natAbs:Int)= -a by omega,show(b.natAbs:Int)= -b by omega,Int.neg_mul_neg];simp [h1,h2]
 ·rw[show(a.natAbs:Int)= -a by omega,show(b.natAbs:Int)=b by omega,Int.neg_mul];simp [h1,h2]
 ·rw[show(a.natAbs:Int)=a by omega,show(b.natAbs:Int)= -b by omega,Int.mul_neg];simp [h1,h2]
 ·rw[show(a.natAbs:Int)=a by omega,show(b.natAbs:Int)=b by omega];simp [h1,h2]
def om(a b:Int64):Int64×Bool:=bif dA (a.toInt*b.toInt)then(a*b,true)else(0,false)
theorem T1(N:Nat)(a b:Int64):z8 N a b=some (om a b):=by
 unfold z8 om;have ha:=iU a;have hb:=iU b;rw[U9,U9,ake,ake,ajh N _ _ (by omega) (by omega),ake];dsimp only;have h0:0≤(a.toInt.natAbs:Int)*b.toInt.natAbs:=Int.mul_nonneg (by omega) (by omega);have hu:(a.toInt.natAbs:Int)*b.toInt.natAbs≤85070591730234615865843651857942052864:=
  Int.le_trans (Int.mul_le_mul (show(a.toInt.natAbs:Int)≤9223372036854775808 by omega) (show(b.toInt.natAbs:Int)≤9223372036854775808 by omega) (by omega) (by omega)) (by decide)
 have hm:=aiD a.toInt b.toInt;have hw:=JS a b;generalize a*b=c at*;generalize (a.toInt.natAbs:Int)*b.toInt.natAbs=q at*;generalize a.toInt*b.toInt=z at*;have key:(bif (q / 18446744073709551616 !=0)then some true else(bif (decide (q%18446744073709551616>9223372036854775808))then some true else(bif (q%18446744073709551616==9223372036854775808)then some (!(!((decide (a.toInt<0))==(decide (b.toInt<0)))))else some false)))=some (!dA z):=by
  have:dA z=(q / 18446744073709551616==0&&(decide (q%18446744073709551616≤9223372036854775808)&&(!(q%18446744073709551616==9223372036854775808)|| !(decide (a.toInt<0)==decide (b.toInt<0))))):=by
   rw[Bool.eq_iff_iff,ss];cases hs:decide (a.toInt<0)==decide (b.toInt<0)with
   |true=>
    rw[hs,if_pos rfl]at hm;simp only[akh,Bool.or_eq_true,Bool.not_eq_true',beq_iff_eq,decide_eq_true_iff,beq_eq_false_iff_ne,Bool.not_true,Bool.false_eq_true,or_false];omega
   |false=>
    rw[hs,if_neg (by decide)]at hm;simp only[akh,Bool.or_eq_true,Bool.not_eq_true',beq_iff_eq,decide_eq_true_iff,beq_eq_false_iff_ne,Bool.not_false,or_true,and_true];omega
  rw[this,show(q / 18446744073709551616 !=0)= !(q / 18446744073709551616==0)from rfl,E4];cases q / 18446744073709551616==0<;>cases decide (q%18446744073709551616≤9223372036854775808)<;>cases q%18446744073709551616==9223372036854775808<;>cases decide (a.toInt<0)==decide (b.toInt<0)<;>rfl
 rw[key,ake];cases hf:dA z with
 |false=>rfl
 |true=>
  rw[ss]at hf;simp only[Bool.not_true,cond_false,cond_true];cases hs:decide (a.toInt<0)==decide (b.toInt<0)with
  |true=>
   rw[hs,if_pos rfl]at hm;rw[cond_true,←hw,show q%18446744073709551616=z by omega]
  |false=>
   rw[hs,if_neg (by decide)]at hm;rw[cond_false,←hw]
   congr 2
   refine Bc ?_;rw[oF,oF,IntKind.wrap_i64,IntKind.wrap_i64,IntKind.wrap_u64];omega
theorem aeN{a b:Int}(hb:b≠0):(a*b).tdiv b=a:=Int.mul_tdiv_cancel _ hb
theorem ahE{a b c:Int}(ha: -9223372036854775808≤a∧a≤9223372036854775807)(hb: -9223372036854775808≤b∧b≤9223372036854775807)(hc:c=IntKind.i64.wrap (a*b))(mU:b≠0)(h:c.tdiv b=a):c=a*b:=by
 have h1:=Int.tmod_add_mul_tdiv c b;rw[h]at h1;have h2:(c.tmod b).natAbs<b.natAbs:=by
  rw[Int.natAbs_tmod];exact Nat.mod_lt _ (by omega)
 rw[IntKind.wrap_i64]at hc;rw[Int.mul_comm b a]at h1;generalize a*b=z at*;omega
theorem WJ(N:Nat)(a b:Int64):AW N a b=some (om a b):=by
 unfold AW om;have ha:=iU a;have hb:=iU b;rw[show(bif a.toInt==0 then some true else some (b.toInt==0))=some (a.toInt==0||b.toInt==0) by cases a.toInt==0<;>rfl,ake];by_cases h0:a.toInt=0∨b.toInt=0
 ·have:(a.toInt==0||b.toInt==0)=true:=by rw[Bool.or_eq_true,beq_iff_eq,beq_iff_eq];exact h0
  have hz:a.toInt*b.toInt=0:=Int.mul_eq_zero.2 h0;rw[this,hz,←JS a b,hz];rfl
 ·have h1:a.toInt≠0:=fun h=>h0 (.inl h);have h2:b.toInt≠0:=fun h=>h0 (.inr h);have:(a.toInt==0||b.toInt==0)=false:=by rw[ak2,beq_eq_false_iff_ne,beq_eq_false_iff_ne];exact⟨h1,h2⟩
  have iH:(b.toInt !=0)=true:=bne_iff_ne.2 h2;rw[this,iH];simp only[cond_false,cond_true];have key:dA (a.toInt*b.toInt)= !((a.toInt== -1&&b.toInt== -9223372036854775808)||((b.toInt== -1&&a.toInt== -9223372036854775808)||(Int64.ofInt ((a*b).toInt.tdiv b.toInt)).toInt !=a.toInt)):=by
   rw[Bool.eq_iff_iff,ss,Bool.not_eq_true',ak2,ak2,Bool.and_eq_false_iff,Bool.and_eq_false_iff,bne_eq_false_iff_eq,beq_eq_false_iff_ne,beq_eq_false_iff_ne,beq_eq_false_iff_ne,beq_eq_false_iff_ne,oF];constructor
   ·intro hf;have hc:(a*b).toInt=a.toInt*b.toInt:=by rw[HL,IntKind.wrap_i64];omega
    refine⟨?_,?_,?_⟩
    ·by_cases h3:a.toInt= -1
     ·right;intro h4;rw[h3,h4]at hf;exact absurd hf.2 (by decide)
     ·exact .inl h3
    ·by_cases h3:b.toInt= -1
     ·right;intro h4;rw[h3,h4]at hf;exact absurd hf.2 (by decide)
     ·exact .inl h3
    ·rw[hc,aeN h2,IntKind.wrap_i64];omega
   ·rintro⟨h3,h4,h5⟩;have hq:(a*b).toInt.tdiv b.toInt=a.toInt:=by
     have hc:=iU (a*b);have hd:((a*b).toInt.tdiv b.toInt).natAbs≤(a*b).toInt.natAbs:=by
      rw[Int.natAbs_tdiv];exact Nat.div_le_self _ _
     rw[IntKind.wrap_i64]at h5;by_cases h6:(a*b).toInt.tdiv b.toInt=9223372036854775808
     ·exfalso;rw[h6]at h5 hd;have p5:(a*b).toInt= -9223372036854775808:=by omega
      have hbm:b.toInt= -1:=by
       rw[p5]at h6;have h7:=Int.tmod_add_mul_tdiv (-9223372036854775808) b.toInt;rw[h6]at h7;have h8:((-9223372036854775808:Int).tmod b.toInt).natAbs<b.toInt.natAbs:=by
         rw[Int.natAbs_tmod];exact Nat.mod_lt _ (by omega)
       omega
      omega
     ·omega
    have:=ahE ha hb (HL a b) h2 hq;have hc:=iU (a*b);omega
  rw[key];cases a.toInt== -1<;>cases b.toInt== -9223372036854775808<;>cases b.toInt== -1<;>cases a.toInt== -9223372036854775808<;>cases (Int64.ofInt ((a*b).toInt.tdiv b.toInt)).toInt !=a.toInt<;>rfl
def IU(a b:Int64):Int64×Bool:=bif dA (a.toInt+b.toInt)then(a+b,true)else(0,false)
theorem XC(N:Nat)(a b:Int64):A4 N a b=some (a+b,dA (a.toInt+b.toInt)):=by
 unfold A4;have ha:=iU a;have hb:=iU b
 congr 2
 rw[Es,IntKind.wrap_i64,Bool.eq_iff_iff,ss,beq_iff_eq,decide_eq_decide];omega
theorem RM(N:Nat)(a b:Int64):zM N a b=some (IU a b):=by
 unfold zM IU;have ha:=iU a;have hb:=iU b;have e1:((9223372036854775807:Int64)-b).toInt=IntKind.i64.wrap (9223372036854775807-b.toInt):=I2 _ _;have e2:((-9223372036854775808:Int64)-b).toInt=IntKind.i64.wrap (-9223372036854775808-b.toInt):=I2 _ _;rw[e1,e2,IntKind.wrap_i64,IntKind.wrap_i64];have key:(bif (decide (b.toInt>0))then(bif (decide (a.toInt>(9223372036854775807-b.toInt+9223372036854775808)%18446744073709551616-9223372036854775808))then some true else(bif (decide (b.toInt<0))then some (decide (a.toInt<(-9223372036854775808-b.toInt+9223372036854775808)%18446744073709551616-9223372036854775808))else some false))else(bif (decide (b.toInt<0))then some (decide (a.toInt<(-9223372036854775808-b.toInt+9223372036854775808)%18446744073709551616-9223372036854775808))else some false))=some (!dA (a.toInt+b.toInt)):=by
  have hf:dA (a.toInt+b.toInt)=(decide (-9223372036854775808≤a.toInt+b.toInt)&&decide (a.toInt+b.toInt≤9223372036854775807)):=rfl;rw[hf];by_cases h1:b.toInt>0
  ·rw[akW h1,cond_true,show decide (b.toInt<0)=false from akX (by omega),cond_false,show decide (-9223372036854775808≤a.toInt+b.toInt)=true from akW (by omega),Bool.true_and];by_cases h2:a.toInt+b.toInt≤9223372036854775807
   ·rw[akW h2,akX (by omega)];rfl
   ·rw[akX h2,akW (by omega)];rfl
  ·rw[akX h1,cond_false,show decide (a.toInt+b.toInt≤9223372036854775807)=true from akW (by omega),Bool.and_true];by_cases h3:b.toInt<0
   ·rw[akW h3,cond_true];by_cases h2: -9223372036854775808≤a.toInt+b.toInt
    ·rw[akW h2,akX (by omega)];rfl
    ·rw[akX h2,akW (by omega)];rfl
   ·rw[akX h3,cond_false,akW (by omega)];rfl
 rw[key,ake];cases dA (a.toInt+b.toInt)<;>rfl
def Kq(b:Int64)(m:aU):aU:=⟨m.aV,m.cN*b⟩
def oB(b:Int64)(m:aU):Bool:=dA (m.cN.toInt*b.toInt)
theorem Oo(a:aF)(b:Int64):jj a b=bif dT a then bif b.toInt==0 then .ok bV else bif dA (a.xK.toInt*b.toInt)&&a.xL.all (oB b)then .ok ⟨a.xK*b,a.xL.map (Kq b)⟩else .error .range else .error .arg:=by
 unfold jj;have:(a.xL.map fun m=>(⟨m.aV,Int64.ofInt (m.cN.toInt*b.toInt)⟩:aU))=a.xL.map (Kq b):=akK fun m _=>by rw[JS];rfl
 rw[this,JS];show(if dT a=true then _ else _)=_;cases dT a with
 |false=>rfl
 |true=>
  by_cases h:b.toInt=0
  ·rw[if_pos rfl,if_pos h,h];rfl
  ·rw[if_pos rfl,if_neg h,beq_eq_false_iff_ne.2 h];show(if(dA (a.xK.toInt*b.toInt)&&a.xL.all (oB b))=true then _ else _)=_;cases dA (a.xK.toInt*b.toInt)&&a.xL.all (oB b)<;>rfl
theorem Xm(N:Nat)(q:Int64×Bool)(b:Int64):∀(l:ak3 aU)(k:Nat)(f:Bool)(acc:ak3 aU),acc.length+l.length≤1000000000→
 s5 N q b l k f acc=some (bif f&&l.all (oB b)then((⟨q.1,acc++l.map (Kq b)⟩:aF),0)else(bV,3))
 |[],_,f,acc,_=>by rw[s5,List.map_nil,akA];cases f<;>rfl
 |m::l,k,f,acc,h=>by
  simp only[aki]at h;rw[s5,T1,ake,n4 (by omega),show(bif f then some (om m.cN b).2 else some false)=some (f&&(om m.cN b).2) by cases f<;>rfl,ake];simp only[cond_true];rw[Xm N q b l (k+1) _ _ (by simp only[akg,aki,akr];omega),akZ,akE];unfold om;rw[show oB b m=dA (m.cN.toInt*b.toInt)from rfl];cases dA (m.cN.toInt*b.toInt)with
  |true=>rw[cond_true,akw];cases f<;>rfl
  |false=>cases f<;>rfl
theorem Pd(N:Nat)(hN:16<N)(a:aF)(b:Int64)(h:ot 1000000000 a):rD N a b=some (qk bV (jj a b)):=by
 unfold rD;rw[IG N hN a h.ok,ake,T1,ake,Xm N _ _ _ _ _ _ (by simp only[akr];exact(akz _).symm▸h),Oo];unfold om;cases dT a with
 |false=>rfl
 |true=>
  cases b.toInt==0 with
  |true=>rfl
  |false=>cases dA (a.xK.toInt*b.toInt)<;>cases a.xL.all (oB b)<;>rfl
theorem LA(N:Nat)(hN:16<N)(a:aF)(h:mN a):xF N a=some (bif dT a then 0 else 1):=by
 unfold xF;rw[IV N hN a h,ake];cases dT a<;>rfl
theorem S7(N:Nat)(q:Int64×Bool)(b:Int64):∀(l:ak3 aU)(k:Nat)(acc:ak3 aU),acc.length+l.length≤1000000000→
 um N q b l k acc=some (bif l.all (oB b)then((⟨q.1,acc++l.map (Kq b)⟩:aF),0)else(bV,3))
 |[],_,acc,_=>by rw[um,List.map_nil,akA];rfl
 |m::l,k,acc,h=>by
  simp only[aki]at h;rw[um,WJ,ake,n4 (by omega),cond_true];dsimp only;rw[S7 N q b l (k+1) _ (by simp only[akg,aki,akr];omega),akZ,akE];unfold om;rw[show oB b m=dA (m.cN.toInt*b.toInt)from rfl];cases dA (m.cN.toInt*b.toInt)with
  |true=>rw[cond_true,akw];rfl
  |false=>rfl
theorem NA(N:Nat)(hN:16<N)(a:aF)(b:Int64)(h:ot 1000000000 a):rF N a b=some (qk bV (jj a b)):=by
 unfold rF;rw[LA N hN a h.ok,ake,WJ,ake,S7 N _ _ _ _ _ (by simp only[akr];exact(akz _).symm▸h),Oo];unfold om;cases dT a with
 |false=>rfl
 |true=>
  cases b.toInt==0 with
  |true=>rfl
  |false=>cases dA (a.xK.toInt*b.toInt)<;>cases a.xL.all (oB b)<;>rfl
def jA(t:ak4×Int×Int):Bool:=dA (t.2.1+t.2.2)
def iI(t:ak4×Int×Int):ak5 aU:=if t.2.1+t.2.2=0 then none else some ⟨t.1,Int64.ofInt (t.2.1+t.2.2)⟩
theorem QS(k:Int)(l:ak3 (ak4×Int×Int)):GU k l=bif dA k&&l.all jA then .ok ⟨Int64.ofInt k,l.filterMap iI⟩else .error .range:=by
 unfold GU;show(if(dA k&&l.all jA)=true then(Except.ok ⟨Int64.ofInt k,l.filterMap iI⟩:X aF)else _)=_;cases dA k&&l.all jA<;>rfl
def K1(acc:ak3 aU):ak5 aU→ak3 aU
 |none=>acc
 |some m=>acc++[m]
theorem BI(N:Nat)(s:ak4)(x y:Int64)(f:Bool)(K:Int64)(acc:ak3 aU)(h:acc.length<1000000000):
 ∃L,vR N s x y f K acc=some (f&&dA (x.toInt+y.toInt),L)∧L.length≤acc.length+1∧(dA (x.toInt+y.toInt)=true→L=K1 acc (iI (s,x.toInt,y.toInt))):=by
 unfold vR;rw[XC,ake,n4 (by omega),show(bif f then some (x+y,dA (x.toInt+y.toInt)).2 else some false)=some (f&&dA (x.toInt+y.toInt)) by cases f<;>rfl,ake];dsimp only;have e (hf:dA (x.toInt+y.toInt)=true):(x+y).toInt=x.toInt+y.toInt:=by
  rw[ss]at hf;rw[Es,IntKind.wrap_i64];omega
 cases hz:(x+y).toInt !=0 with
 |true=>
  refine⟨_,rfl,by simp,fun hf=> ?_⟩;unfold iI;rw[if_neg (by show ¬x.toInt+y.toInt=0;rw[←e hf];exact bne_iff_ne.1 hz)];show acc++[(⟨s,x+y⟩:aU)]=acc++[⟨s,Int64.ofInt (x.toInt+y.toInt)⟩];rw[Ie]
 |false=>
  refine⟨_,rfl,Nat.le_succ _,fun hf=> ?_⟩;unfold iI;rw[if_pos (by show x.toInt+y.toInt=0;rw[←e hf];exact Uq hz)];rfl
theorem ai1(acc:ak3 aU)(t:ak4×Int×Int)(l:ak3 (ak4×Int×Int)):K1 acc (iI t)++l.filterMap iI=acc++(t::l).filterMap iI:=by
 rw[List.filterMap_cons];cases iI t with
 |none=>rfl
 |some m=>show acc++[m]++_=_;rw[akw];rfl
theorem BH{N:Nat}{K:Int64}{n:Nat}{l r:ak3 aU}{f f':Bool}{acc L:ak3 aU}{t:ak4×Int×Int}{T:ak3 (ak4×Int×Int)}
 (ih:∀f acc,acc.length+l.length+r.length≤1000000000→∃L,lq N K n l r f acc=some (f&&T.all jA,L)∧(T.all jA=true→L=acc++T.filterMap iI))
 (hf:f'=(f&&jA t)) (hL:L.length+l.length+r.length≤1000000000) (h:jA t=true→L=K1 acc (iI t)):
 ∃L',lq N K n l r f' L=some (f&&(t::T).all jA,L')∧((t::T).all jA=true→L'=acc++(t::T).filterMap iI):=by
 obtain⟨L',h1,h2⟩:=ih f' L hL;refine⟨L',?_,fun h3=> ?_⟩
 ·rw[h1,hf,akZ,Bool.and_assoc]
 ·rw[akZ,akh]at h3;rw[h2 h3.2,h h3.1,ai1]
theorem Bn(N:Nat)(K:Int64):∀(n:Nat)(a b:ak3 aU)(f:Bool)(acc:ak3 aU),a.length+b.length<n→acc.length+a.length+b.length≤1000000000→
 ∃L,lq N K n a b f acc=some (f&&(dK a b).all jA,L)∧((dK a b).all jA=true→L=acc++(dK a b).filterMap iI)
 |0,a,b,f,acc,h,_=>absurd h (akH _)
 |n+1,[],[],f,acc,_,_=>by
  rw[lq,dK];exact⟨acc,by rw[List.all_nil,Bool.and_true];rfl,fun _=>by rw[List.filterMap_nil,akA]⟩
 |n+1,x::l,[],f,acc,h,hb=>by
  simp only[aki,akr]at h hb;rw[lq,dK];obtain⟨L,e1,e2,e3⟩:=BI N x.aV x.cN 0 f K acc (by omega);rw[show decide (((x::l).length:Int)>0)=true from akW (by simp only[aki];omega),show((([]:ak3 aU).length:Int)==0)=true from rfl];simp only[cond_true,ake,List.getElem?_cons_zero,e1,show decide (1≤(x::l).length)=true from akW (by simp only[aki];omega),List.drop_one,List.tail_cons];exact BH (fun f acc hb=>Bn N K n l [] f acc (by simp only[akr];omega) hb) rfl (by simp only[akr];omega) e3
 |n+1,[],y::r,f,acc,h,hb=>by
  simp only[aki,akr]at h hb;rw[lq,dK];obtain⟨L,e1,e2,e3⟩:=BI N y.aV 0 y.cN f K acc (by omega);rw[show decide (((y::r).length:Int)>0)=true from akW (by simp only[aki];omega),show(((y::r).length:Int)==0)=false from beq_eq_false_iff_ne.2 (by simp only[aki];omega),show decide ((([]:ak3 aU).length:Int)>0)=false from rfl,show((([]:ak3 aU).length:Int)==0)=true from rfl];simp only[cond_true,cond_false,ake,List.getElem?_cons_zero,e1,show decide (1≤(y::r).length)=true from akW (by simp only[aki];omega),List.drop_one,List.tail_cons];exact BH (fun f acc hb=>Bn N K n [] r f acc (by simp only[akr];omega) hb) rfl (by simp only[akr];omega) e3
 |n+1,x::l,y::r,f,acc,h,hb=>by
  simp only[aki]at h hb;rw[lq,dK];have p1:∀(z:aU)(l:ak3 aU),decide (((z::l).length:Int)>0)=true:=fun z l=>akW (by simp only[aki];omega);have p2:∀(z:aU)(l:ak3 aU),(((z::l).length:Int)==0)=false:=fun z l=>beq_eq_false_iff_ne.2 (by simp only[aki];omega);have p3:∀(z:aU)(l:ak3 aU),decide (1≤(z::l).length)=true:=fun z l=>akW (by simp only[aki];omega);simp only[p1,p2,cond_true,cond_false,ake,List.getElem?_cons_zero,show Op.bytesLess (bL x.aV) (bL y.aV)=lt x.aV y.aV from rfl,show Op.bytesLess (bL y.aV) (bL x.aV)=lt y.aV x.aV from rfl];cases hxy:lt x.aV y.aV with
  |true=>
   obtain⟨L,e1,e2,e3⟩:=BI N x.aV x.cN 0 f K acc (by omega);simp only[cond_true,e1,ake,p3,List.drop_one,List.tail_cons,if_true];exact BH (fun f acc hb=>Bn N K n l (y::r) f acc (by simp only[aki];omega) hb) rfl (by simp only[aki];omega) e3
  |false=>
   simp only[cond_false,Bool.false_eq_true,if_false];cases hyx:lt y.aV x.aV with
   |true=>
    obtain⟨L,e1,e2,e3⟩:=BI N y.aV 0 y.cN f K acc (by omega);simp only[cond_true,e1,ake,p3,List.drop_one,List.tail_cons,if_true];exact BH (fun f acc hb=>Bn N K n (x::l) r f acc (by simp only[aki];omega) hb) rfl (by simp only[aki];omega) e3
   |false=>
    obtain⟨L,e1,e2,e3⟩:=BI N x.aV x.cN y.cN f K acc (by omega);simp only[cond_true,cond_false,e1,ake,p3,List.drop_one,List.tail_cons,Bool.false_eq_true,if_false];exact BH (fun f acc hb=>Bn N K n l r f acc (by omega) hb) rfl (by omega) e3
theorem TF(a b:aF):jW a b=bif dT a&&dT b then bif dA (a.xK.toInt+b.xK.toInt)&&(dK a.xL b.xL).all jA then .ok ⟨a.xK+b.xK,(dK a.xL b.xL).filterMap iI⟩else .error .range else .error .arg:=by
 unfold jW;rw[QS,Ie];cases dT a&&dT b<;>rfl
theorem SZ(N:Nat)(hN:16<N)(a b:aF)(hl:a.xL.length+b.xL.length≤1000000000)(hf:a.xL.length+b.xL.length<N):tY N a b=some (qk bV (jW a b)):=by
 unfold tY Hx;have ha:mN a:=akx (akx (akU _ _) hl) (by decide);have hb:mN b:=akx (akx (Nat.le_add_left _ _) hl) (by decide);rw[IG N hN a ha,IG N hN b hb,ake,ake,XC,ake,TF];dsimp only;obtain⟨L,e1,e2⟩:=Bn N (a.xK+b.xK) N a.xL b.xL (dA (a.xK.toInt+b.xK.toInt)) [] hf (by simp only[akr];omega);rw[e1,ake];cases dT a with
 |false=>rfl
 |true=>
  cases dT b with
  |false=>rfl
  |true=>
   cases h1:dA (a.xK.toInt+b.xK.toInt)with
   |false=>rfl
   |true=>
    cases h2:(dK a.xL b.xL).all jA with
    |false=>rfl
    |true=>rw[e2 h2];rfl
theorem Un(N:Nat)(l:ak3 ak4)(s:ak4)(hl:l.length<1000000000):∀(n i:Nat),i≤l.length→l.length-i<n→wj N l l.length s n (i:Int)=some ((l.drop i).any fun w=>bL w==bL s)
 |0,i,_,h=>absurd h (akH _)
 |n+1,i,hi,h=>by
  rw[wj,show Nat.beq l.length l.length=true from Nat.beq_refl _,cond_true];by_cases hk:i<l.length
  ·rw[show decide ((i:Int)<(l.length:Int))=true from akW (by omega),show decide ((0:Int)≤(i:Int))=true from akW (by omega),cond_true,cond_true,akG,akj hk,ake,List.drop_eq_getElem_cons hk,ak0,xt (by omega)];dsimp only;rw[Un N l s hl n (i+1) (by omega) (by omega)];cases bL l[i]==bL s<;>rfl
  ·rw[show decide ((i:Int)<(l.length:Int))=false from akX (by omega),List.drop_eq_nil_of_le (by omega)];rfl
theorem Nf{α:Type}(p:ak3 α)(x:α)(q:ak3 α):(p++x::q)[p.length]?=some x:=by simp
theorem PN{α:Type}(p:ak3 α)(x y:α)(q:ak3 α):(p++x::q).set p.length y=p++y::q:=by simp
theorem afl(x s:ak4):(!((Op.bytesLess (bL x) (bL s))||(bL x==bL s)))=lt s x:=by
 show(!(lt x s||same x s))=lt s x;cases h1:lt x s with
 |true=>
  cases h2:lt s x with
  |false=>rfl
  |true=>have:=rZ h1 h2;rw[uI]at this;cases this
 |false=>
  cases h2:lt s x with
  |false=>rw[C3 h1 h2,uL.2 rfl];rfl
  |true=>
   cases h3:same x s with
   |false=>rfl
   |true=>rw[uL.1 h3,uI]at h2;cases h2
theorem Sv(N:Nat)(s:ak4):∀(q post:ak3 ak4)(n k:Nat),q.length<n→q.length+1+post.length=k+1→k<1000000000→
 sO N k n (q.length:Int) (q.reverse++s::post)=some (k+1,(jL q s).reverse++post)
 |[],post,n+1,k,_,hk,_=>by
  rw[sO,show decide ((([]:ak3 ak4).length:Int)>0)=false from rfl];rfl
 |x::q,post,n+1,k,hn,hk,hb=>by
  simp only[aki]at hn hk;have hL:(((x::q).reverse++s::post).length)=k+1:=by simp only[akg,List.length_reverse,aki];omega
  have hw:aQ (((x::q).length:Int)-1)=(q.length:Int):=by
   rw[aki,show(((q.length+1:Nat):Int)-1)=((q.length:Nat):Int) by omega];exact Kh (by omega)
  have c1:decide (((x::q).length:Int)>0)=true:=akW (by simp only[aki];omega);have c2:decide ((0:Int)≤(q.length:Int))=true:=akW (by omega);have c3:decide ((q.length:Int)<((k+1):Int))=true:=akW (by omega);have c4:decide ((0:Int)≤((x::q).length:Int))=true:=akW (by simp only[aki];omega);have c5:decide (((x::q).length:Int)<((k+1):Int))=true:=akW (by simp only[aki];omega);have e1:(x::q).reverse++s::post=q.reverse++x::s::post:=by rw[List.reverse_cons,akw];rfl
  have g1:((x::q).reverse++s::post)[q.length]?=some x:=by rw[e1];have:=Nf q.reverse x (s::post);rw[List.length_reverse]at this;exact this
  have g2:((x::q).reverse++s::post)[(x::q).length]?=some s:=by have:=Nf (x::q).reverse s post;rw[List.length_reverse]at this;exact this
  have s1:((x::q).reverse++s::post).set (x::q).length x=q.reverse++x::x::post:=by
   have:=PN (x::q).reverse s x post;rw[List.length_reverse]at this;rw[this,List.reverse_cons,akw];rfl
  have g3:(q.reverse++x::x::post)[q.length]?=some x:=by have:=Nf q.reverse x (x::post);rw[List.length_reverse]at this;exact this
  have s2:(q.reverse++x::x::post).set q.length s=q.reverse++s::x::post:=by have:=PN q.reverse x s (x::post);rw[List.length_reverse]at this;exact this
  have hL2:(q.reverse++x::x::post).length=k+1:=by simp only[akg,List.length_reverse,aki];omega
  rw[sO,hw,c1,hL,show Nat.beq (k+1) (k+1)=true from Nat.beq_refl _,c2,c3,c4,c5];simp only[cond_true,akG,g1,g2,ake];rw[afl,jL];cases a7:lt s x with
  |false=>
   simp only[cond_false,Bool.false_eq_true,if_false];rw[e1,List.reverse_cons,List.reverse_cons,akw,akw];rfl
  |true=>
   simp only[cond_true,if_true,s1,hL2,g3,s2,ake,show Nat.beq (k+1) (k+1)=true from Nat.beq_refl _];rw[Sv N s q (x::post) n k (by omega) (by simp only[aki];omega) hb,List.reverse_cons,akw];rfl
theorem ajT(N:Nat)(l:ak3 ak4)(s:ak4)(hl:l.length<1000000)(hN:1000000<N):Dk N l.length s l=some ((jt l s).length,jt l s):=by
 unfold Dk H6 jt;have h0:=Un N l s (by omega) N 0 (Nat.zero_le _) (by omega);rw[akO]at h0;rw[show((0:Nat):Int)=(0:Int)from rfl]at h0;rw[h0,ake];show _=some ((if l.any (fun w=>bL w==bL s)=true then l else(jL l.reverse s).reverse).length,_);show _=some (_,(if l.any (fun w=>bL w==bL s)=true then l else(jL l.reverse s).reverse));cases l.any fun w=>bL w==bL s with
 |true=>rfl
 |false=>
  have hL:(l++[s]).length=l.length+1:=by simp
  rw[hL,show Nat.beq l.length l.length=true from Nat.beq_refl _,show Nat.beq (l.length+1) (l.length+1)=true from Nat.beq_refl _,n4 (by omega)];simp only[cond_true,cond_false,Bool.false_eq_true,if_false];have:=Sv N s l.reverse [] N l.length (by rw[List.length_reverse];omega) (by rw[List.length_reverse];rfl) (by omega);rw[List.length_reverse,List.reverse_reverse,akA]at this;rw[show aQ ((l.length:Int)+1-1)=(l.length:Int) by rw[show((l.length:Int)+1-1)=((l.length:Nat):Int) by omega];exact Kh (by omega)];rw[this];have hlen:(jL l.reverse s).reverse.length=l.length+1:=by
    have OV:∀(q:ak3 ak4),(jL q s).length=q.length+1:=by
     intro q
     induction q with
     |nil=>rfl
     |cons x q ih=>rw[jL];split<;>simp [ih]
    rw[List.length_reverse,OV,List.length_reverse]
  rw[hlen]
theorem Ww(l:ak3 ak4)(s:ak4):(jt l s).length≤l.length+1:=by
 have OV:∀(q:ak3 ak4),(jL q s).length=q.length+1:=by
  intro q
  induction q with
  |nil=>rfl
  |cons x q ih=>rw[jL];split<;>simp [ih]
 unfold jt;split
 ·omega
 ·rw[List.length_reverse,OV,List.length_reverse];exact akq _
theorem LZ(N:Nat)(hN:1000000<N)(c:Nat→ak3 ak4→ak5 (ak3 ak4)):∀(l:ak3 aU)(k:Nat)(L:ak3 ak4),L.length+l.length<1000000→
 xc N c l k L.length L=c ((l.map (·.aV)).foldl jt L).length ((l.map (·.aV)).foldl jt L)
 |[],_,_,_=>rfl
 |m::l,k,L,h=>by
  simp only[aki]at h;rw[xc,ajT N L m.aV (by omega) hN,ake];dsimp only;rw[LZ N hN c l (k+1) (jt L m.aV) (by have:=Ww L m.aV;omega)];rfl
theorem OA:∀(l L:ak3 ak4),(l.foldl jt L).length≤L.length+l.length
 |[],_=>akq _
 |s::l,L=>by
  rw[List.foldl_cons];have h1:=OA l (jt L s);have h2:=Ww L s;simp only[aki];omega
theorem adF(N:Nat)(hN:1000000<N)(a b:aF)(h:a.xL.length+b.xL.length<900000):Cm N [a,b]=some (tD [a,b]):=by
 unfold Cm tD;have ha:=LZ N hN (fun cX fX=>pH N [b] 1 cX fX) a.xL 0 [] (by simp only[akr];omega);rw[pH];refine Eq.trans ha ?_;have hl:=OA (a.xL.map (·.aV)) [];simp only[akr,akk]at hl;rw[pH,LZ N hN _ b.xL 0 _ (by omega)];rw[pH,show Nat.beq _ _=true from Nat.beq_refl _,cond_true];rw[List.flatMap_cons,List.flatMap_cons,List.flatMap_nil,akA,List.foldl_append]
theorem Py(N:Nat)(s:ak4):∀(l:ak3 aU)(k:Nat),∃c:Int64,vJ N s l k=some c∧c.toInt=coeffL l s
 |[],_=>⟨0,rfl,rfl⟩
 |m::l,k=>by
  obtain⟨c,h1,h2⟩:=Py N s l (k+1);rw[vJ,h1,coeffL];show ∃c',(bif same m.aV s then _ else _)=_∧_;cases same m.aV s with
  |true=>exact⟨_,rfl,rfl⟩
  |false=>exact⟨c,rfl,h2⟩
theorem KI(N:Nat)(q:Int64×Bool)(a b:aF):∀(l:ak3 ak4)(k:Nat)(acc:ak3 aU),acc.length+l.length≤1000000000→
 qN N q a b l k acc=some (bif (l.map fun n=>(n,coeffL a.xL n,coeffL b.xL n)).all jA then((⟨q.1,acc++(l.map fun n=>(n,coeffL a.xL n,coeffL b.xL n)).filterMap iI⟩:aF),0)else(bV,3))
 |[],_,acc,_=>by rw[qN,List.map_nil,List.filterMap_nil,akA];rfl
 |s::l,k,acc,h=>by
  simp only[aki]at h;obtain⟨x,hx,ex⟩:=Py N s a.xL 0;obtain⟨y,hy,ey⟩:=Py N s b.xL 0;rw[qN];unfold Fu;rw[hx,hy,ake,ake,RM,ake,n4 (by omega),akE,akZ,←ex,←ey];simp only[cond_true];rw[KI N q a b l (k+1) acc (by omega),KI N q a b l (k+1) _ (by simp only[akg,aki,akr];omega)];unfold IU;rw[show jA (s,x.toInt,y.toInt)=dA (x.toInt+y.toInt)from rfl];cases hf:dA (x.toInt+y.toInt)with
  |false=>rfl
  |true=>
   simp only[cond_true,Bool.true_and];have e:(x+y).toInt=x.toInt+y.toInt:=by
    rw[ss]at hf;rw[Es,IntKind.wrap_i64];omega
   rw[List.filterMap_cons];cases hz:(x+y).toInt !=0 with
   |true=>
    have hk:iI (s,x.toInt,y.toInt)=some ⟨s,x+y⟩:=by
     unfold iI;rw[if_neg (by show ¬x.toInt+y.toInt=0;rw[←e];exact bne_iff_ne.1 hz),Ie]
    rw[hk,cond_true,akw];rfl
   |false=>
    have hk:iI (s,x.toInt,y.toInt)=none:=by
     unfold iI;rw[if_pos (by show x.toInt+y.toInt=0;rw[←e];exact Uq hz)]
    rw[hk];rfl
theorem Sz(N:Nat)(hN:1000000<N)(a b:aF)(hl:a.xL.length+b.xL.length<900000):qo N a b=some (qk bV (jW a b)):=by
 unfold qo;have ha:mN a:=akx (akx (akU _ _) (Nat.le_of_lt hl)) (by decide);have hb:mN b:=akx (akx (Nat.le_add_left _ _) (Nat.le_of_lt hl)) (by decide);have hn:(tD [a,b]).length≤900000:=by
  unfold tD;have:=OA ([a,b].flatMap fun x=>x.xL.map (·.aV)) [];simp only[List.flatMap_cons,List.flatMap_nil,akA,akg,akk,akr]at this ⊢;omega
 rw[LA N (by omega) a ha,LA N (by omega) b hb,ake,ake,RM,ake,adF N hN a b hl,ake,KI N _ _ _ _ _ _ (by simp only[akr];omega),←ai5];unfold O0 IU;rw[QS,Ie];cases dT a with
 |false=>rfl
 |true=>
  cases dT b with
  |false=>rfl
  |true=>
   cases dA (a.xK.toInt+b.xK.toInt)with
   |false=>rfl
   |true=>cases ((tD [a,b]).map fun n=>(n,coeffL a.xL n,coeffL b.xL n)).all jA<;>rfl
def Sm(e:an):Prop:=∀x∈cz e,mS x=true∧mF x=true
theorem Sm.op{e:an}(h:Sm e):1≤e.ar∧e.ar≤18:=by
 have:=(h e akl).2;unfold mF at this;simp only[akh,decide_eq_true_eq]at this;exact⟨this.1,this.2.1⟩
section
variable {α:Type}
end
section
variable {N:Nat} {m:ak3 (ak4×Int)} {vars:ak3 ak4} {p p':La}
end
theorem BE{y:an}:∀{l:ak3 an},y∈iG l→∃x∈l,y∈cz x
 |[],h=>by rw[iG]at h;cases h
 |x::l,h=>by
  rw[AY]at h;rcases akR.1 h with h|h
  ·exact⟨x,akl,h⟩
  ·obtain⟨z,h1,h2⟩:=BE h;exact⟨z,ako _ h1,h2⟩
section
variable {N:Nat} {p:La}
theorem iZ{α:Type}{L l:ak3 α}{x:α}{k:Nat}(h:L.drop k=x::l):L.drop (k+1)=l:=by
 rw[←List.drop_drop,h];rfl
theorem kP{α:Type}{L l:ak3 α}{x:α}{k:Nat}(h:L.drop k=x::l):k<L.length:=by
 by_cases hk:k<L.length
 ·exact hk
 ·rw[List.drop_eq_nil_of_le (by omega)]at h;cases h
end
structure OD(x:aH):Prop where
 gh:ot 1000000 x.aM
 at_:x.bD.length≤1000000
 zl:∀l∈x.bD,ot 1000000 l
structure ZA(e:an):Prop where
 gh:ot 1000000 e.aM
 idx:e.xIdx.length≤1000000
 each:∀x∈e.xIdx,OD x
 args:e.ax.length≤1000000
def tg(e:an):Prop:=∀y∈cz e,ZA y
theorem tg.arg{e x:an}(h:tg e)(hx:x∈e.ax):tg x:=fun y hy=>h y (j8 hx hy)
theorem tg.ok{e:an}(h:tg e):rT e:=fun y hy=>
 ⟨akx (h y hy).gh (by decide),fun x hx=>⟨akx ((h y hy).each x hx).gh (by decide),fun l hl=>akx (((h y hy).each x hx).zl l hl) (by decide)⟩,akx (h y hy).args (by decide)⟩
theorem Oq(N:Nat)(l:aF)(h:ot 1000000 l):xn N l=some (l,0):=by
 unfold xn MR;rw[n4 (by have:=h;unfold ot at this;omega)];rfl
theorem C4{α:Type}:∀(L:ak3 α)(k:Nat)(x:α),L[k]?=some x→L.set k x=L
 |[],_,_,_=>rfl
 |y::L,0,x,h=>by cases h;rfl
 |y::L,k+1,x,h=>by rw[List.set_cons_succ,C4 L k x (by rw[akQ]at h;exact h)]
theorem q7(n:Nat):Nat.beq n n=true:=Nat.beq_refl n
theorem XN(N:Nat)(e:an)(rec:an→ak5 (an×Int))(v8:ak3 aH)(v2:aF×Int):∀(l:ak3 an)(k:Nat),e.ax.drop k=l→(∀x∈l,rec x=some (x,0))→v8.length=e.xIdx.length→
 th N v8 e.xIdx e.ax e v2 rec l k e.ax=some (⟨e.ar,e.aV,e.ba,e.aD,v2.1,v8,e.ax⟩,0)
 |[],k,_,_,h8=>by rw[th,h8,q7,q7];rfl
 |x::l,k,hd,hx,h8=>by
  rw[th,hx x akl,ake,q7,show decide ((k:Int)<(e.ax.length:Int))=true from akW (by have:=kP hd;omega),cd hd];simp only[cond_true,ake,bne_self_eq_false,cond_false];rw[C4 _ _ _ (cd hd)];exact XN N e rec v8 v2 l (k+1) (iZ hd) (fun y hy=>hx y (ako _ hy)) h8
theorem R0(N:Nat)(c:ak3 aH→ak5 (an×Int))(v8:ak3 aH)(k4:Nat)(x:aH)(hx:v8[k4]?=some x):∀(l:ak3 aF)(k:Nat),x.bD.drop k=l→(∀y∈l,ot 1000000 y)→
 sL N x.bD c v8 k4 (x.aM,0) x l k x.bD=c v8
 |[],k,_,_=>by
  rw[sL,q7,cond_true];dsimp only;rw[C4 v8 k4 x hx,C4 v8 k4 x hx]
 |y::l,k,hd,hy=>by
  rw[sL,Oq N y (hy y akl),ake,q7,show decide ((k:Int)<(x.bD.length:Int))=true from akW (by have:=kP hd;omega),cd hd];simp only[cond_true,ake,bne_self_eq_false,cond_false];rw[C4 _ _ _ (cd hd)];exact R0 N c v8 k4 x hx l (k+1) (iZ hd) fun z hz=>hy z (ako _ hz)
theorem XK(N:Nat)(e:an)(rec:an→ak5 (an×Int))(v2:aF×Int)(ha:e.ax.length≤1000000)(hr:∀x∈e.ax,rec x=some (x,0)):∀(l:ak3 aH)(k:Nat),e.xIdx.drop k=l→(∀y∈l,OD y)→
 rC N e e.xIdx v2 rec l k e.xIdx=some (⟨e.ar,e.aV,e.ba,e.aD,v2.1,e.xIdx,e.ax⟩,0)
 |[],k,_,_=>by
  rw[rC];unfold Ov;rw[n4 (by omega),cond_true,ake];exact XN N e rec e.xIdx v2 e.ax 0 rfl hr rfl
 |x::l,k,hd,hy=>by
  have h1:=hy x akl;have hl:=h1.at_;rw[rC,Oq N x.aM h1.gh,ake,q7,show decide ((k:Int)<(e.xIdx.length:Int))=true from akW (by have:=kP hd;omega),cd hd];unfold L6;simp only[cond_true,ake,bne_self_eq_false,cond_false];rw[n4 (by omega),cond_true,ake,List.length_set,q7,cond_true];rw[R0 N _ e.xIdx k x (cd hd) x.bD 0 rfl h1.zl];exact XK N e rec v2 ha hr l (k+1) (iZ hd) fun z hz=>hy z (ako _ hz)
theorem P1(N:Nat):∀(d:Nat)(e:an),SizeOf.sizeOf e<d→tg e→pI N d e=some (e,0)
 |0,_,h,_=>absurd h (akH _)
 |d+1,e,h,hb=>by
  have h1:=hb e akl;have hl:=h1.idx;rw[pI,Oq N e.aM h1.gh,ake];unfold NT;rw[n4 (by omega)];refine Eq.trans (XK N e _ (e.aM,0) h1.args (fun x hx=>P1 N d x (by have:=fw hx;omega) (hb.arg hx)) e.xIdx 0 rfl h1.each) ?_;cases e;rfl
theorem K8(N:Nat)(e:an)(h:SizeOf.sizeOf e<N)(hb:tg e):tH N e=some e:=by
 unfold tH KO;rw[P1 N N e h hb];rfl
section
variable {N:Nat} {p:La}
end
structure zD(B:Nat)(x:aH):Prop where
 gh:x.aM.xL.length≤B
 at_:x.bD.length≤B
 zl:∀l∈x.bD,l.xL.length≤B
structure Ip(B:Nat)(e:an):Prop where
 gh:e.aM.xL.length≤B
 idx:e.xIdx.length≤B
 each:∀x∈e.xIdx,zD B x
 args:e.ax.length≤B
def kj(B:Nat)(e:an):Prop:=∀y∈cz e,Ip B y
theorem kj.arg{B:Nat}{e x:an}(h:kj B e)(hx:x∈e.ax):kj B x:=fun y hy=>h y (j8 hx hy)
theorem zD.mono{A B:Nat}(h:A≤B){x:aH}(k:zD A x):zD B x:=⟨akx k.gh h,akx k.at_ h,fun l hl=>akx (k.zl l hl) h⟩
theorem Ip.mono{A B:Nat}(h:A≤B){e:an}(k:Ip A e):Ip B e:=⟨akx k.gh h,akx k.idx h,fun x hx=>(k.each x hx).mono h,akx k.args h⟩
abbrev z6:Nat:=140737488355328
theorem sa{a b:Nat}(h:a+b≤9223372036854775807):aQ ((a:Int)+(b:Int))=((a+b:Nat):Int):=by
 rw[←Int.natCast_add];exact Kh h
def Wt(m n:Nat)(Q:Prop)(r:ak5 Int):Prop:=∃v:Nat,r=some (v:Int)∧n≤v∧v≤m+500000000000000∧(v≤m→Q)
theorem OE(N:Nat)(m:Nat)(hm:m≤100000)(rec:an→Int→ak5 Int)(rl:an→Prop)(hr:∀(x:an)(q:Nat),q≤m→rl x→Wt q 1 (kj q x) (rec x (q:Int))):∀(l:ak3 an)(k v:Nat),v≤m+500000000000000→(∀x∈l,rl x)→
 Wt m v (v+l.length≤m∧∀x∈l,kj m x) (pL N (m:Int) rec l k (v:Int))∧qn N (m:Int) rec l k (v:Int)=pL N (m:Int) rec l k (v:Int)
 |[],k,v,hv,_=>⟨⟨v,rfl,akq _,by omega,fun h=>⟨h,fun _ h=>by cases h⟩⟩,rfl⟩
 |x::l,k,v,hv,hx=>by
  rw[pL,qn,Bq];by_cases h:v≤m
  ·rw[akW h,cond_true,cond_true,show aQ ((m:Int)-(v:Int))=((m-v:Nat):Int) by rw[show(m:Int)-(v:Int)=((m-v:Nat):Int) by omega];exact Kh (by omega)];obtain⟨n,e1,e2,e3,e4⟩:=hr x (m-v) (Nat.sub_le _ _) (hx x akl);rw[e1,ake,ake];dsimp only;rw[sa (by omega)];by_cases hn:v+n≤m
   ·obtain⟨⟨u,f1,f2,f3,f4⟩,f5⟩:=OE N m hm rec rl hr l (k+1) (v+n) (by omega) fun y hy=>hx y (ako _ hy);refine⟨⟨u,f1,by omega,f3,fun hu=> ?_⟩,f5⟩;obtain⟨g1,g2⟩:=f4 hu;refine⟨by simp only[aki];omega,fun y hy=> ?_⟩;rcases akJ.1 hy with rfl|hy
    ·exact fun z hz=>(e4 (by omega) z hz).mono (by omega)
    ·exact g2 y hy
   ·have stop:∀(l:ak3 an)(k:Nat),pL N (m:Int) rec l k ((v+n:Nat):Int)=some ((v+n:Nat):Int)∧qn N (m:Int) rec l k ((v+n:Nat):Int)=some ((v+n:Nat):Int):=by
     intro l k;cases l with
     |nil=>exact⟨rfl,rfl⟩
     |cons y l=>rw[pL,qn,Bq,akX hn];exact⟨rfl,rfl⟩
    rw[(stop l (k+1)).1,(stop l (k+1)).2];exact⟨⟨v+n,rfl,by omega,by omega,fun h=>absurd h hn⟩,rfl⟩
  ·rw[akX h];exact⟨⟨v,rfl,akq _,by omega,fun h'=>absurd h' h⟩,rfl⟩
theorem Xf(N:Nat)(m:Nat)(hm:m≤100000)(c:Int→ak5 Int)(lo:Nat)(Q:Prop)(hc:∀v:Nat,v≤m+500000000000000→lo≤v→Wt m v Q (c (v:Int))):∀(l:ak3 aF)(k v:Nat),v≤m+500000000000000→lo≤v→(∀x∈l,x.xL.length≤z6)→
 Wt m v (Q∧∀x∈l,x.xL.length≤m) (wv N c (m:Int) l k (v:Int))
 |[],k,v,hv,gi,_=>by
  obtain⟨u,h1,h2,h3,h4⟩:=hc v hv gi;exact⟨u,h1,h2,h3,fun h=>⟨h4 h,fun _ h=>by cases h⟩⟩
 |x::l,k,v,hv,gi,hx=>by
  rw[wv,Bq];by_cases h:v≤m
  ·have vX:x.xL.length≤140737488355328:=hx x akl;rw[akW h,cond_true];dsimp only;rw[sa (by omega)];obtain⟨u,f1,f2,f3,f4⟩:=Xf N m hm c lo Q hc l (k+1) (v+x.xL.length) (by omega) (by omega) fun y hy=>hx y (ako _ hy);refine⟨u,f1,by omega,f3,fun hu=>⟨(f4 hu).1,fun y hy=> ?_⟩⟩;rcases akJ.1 hy with rfl|hy
   ·omega
   ·exact(f4 hu).2 y hy
  ·rw[akX h,cond_false];obtain⟨u,h1,h2,h3,h4⟩:=hc v hv gi;exact⟨u,h1,h2,h3,fun hu=>absurd (akx h2 hu) h⟩
theorem TL(N:Nat)(m:Nat)(hm:m≤100000)(rec:an→Int→ak5 Int)(rl:an→Prop)(hr:∀(x:an)(q:Nat),q≤m→rl x→Wt q 1 (kj q x) (rec x (q:Int)))(e:an)(ha:∀x∈e.ax,rl x):∀(l:ak3 aH)(k v:Nat),v≤m+500000000000000→(∀x∈l,zD z6 x)→
 Wt m v ((e.ax.length≤m∧∀x∈e.ax,kj m x)∧∀x∈l,zD m x) (pO N (m:Int) rec e l k (v:Int))
 |[],k,v,hv,_=>by
  rw[pO];obtain⟨u,h1,h2,h3,h4⟩:=(OE N m hm rec rl hr e.ax 0 v hv ha).1;exact⟨u,h1,h2,h3,fun h=>⟨⟨by have:=(h4 h).1;omega,(h4 h).2⟩,fun _ h=>by cases h⟩⟩
 |x::l,k,v,hv,hx=>by
  rw[pO,Bq];by_cases h:v≤m
  ·have vX:=hx x akl;have h1:x.aM.xL.length≤140737488355328:=vX.gh;have h2:x.bD.length≤140737488355328:=vX.at_;rw[akW h,cond_true,sa (by omega),sa (by omega)];obtain⟨u,f1,f2,f3,f4⟩:=Xf N m hm (fun cX=>pO N (m:Int) rec e l (k+1) cX) 0 _ (fun v hv _=>TL N m hm rec rl hr e ha l (k+1) v hv fun y hy=>hx y (ako _ hy)) x.bD 0 (v+x.aM.xL.length+x.bD.length) (by omega) (Nat.zero_le _) vX.zl;refine⟨u,f1,by omega,f3,fun hu=> ?_⟩;obtain⟨⟨g1,g2⟩,g3⟩:=f4 hu;refine⟨g1,fun y hy=> ?_⟩;rcases akJ.1 hy with rfl|hy
   ·exact⟨by omega,by omega,g3⟩
   ·exact g2 y hy
  ·rw[akX h,cond_false];obtain⟨⟨u,h1,h2,h3,h4⟩,h5⟩:=OE N m hm rec rl hr e.ax 0 v hv ha;rw[h5];exact⟨u,h1,h2,h3,fun hu=>absurd (akx h2 hu) h⟩
theorem R2(N:Nat):∀(d:Nat)(e:an)(m:Nat),m≤100000→SizeOf.sizeOf e<d→kj z6 e→Wt m 1 (kj m e) (lT N d e (m:Int))
 |0,_,_,_,h,_=>absurd h (akH _)
 |d+1,e,m,hm,h,hl=>by
  have he:=hl e akl;have h1:e.aM.xL.length≤140737488355328:=he.gh;have h2:e.xIdx.length≤140737488355328:=he.idx;rw[lT,show(1:Int)=((1:Nat):Int)from rfl,sa (by omega),sa (by omega)];obtain⟨u,f1,f2,f3,f4⟩:=TL N m hm (lT N d) (fun x=>SizeOf.sizeOf x<d∧kj z6 x) (fun x q hq hx=>R2 N d x q (by omega) hx.1 hx.2) e (fun x hx=>⟨by have:=fw hx;omega,hl.arg hx⟩) e.xIdx 0 (1+e.aM.xL.length+e.xIdx.length) (by omega) he.each;refine⟨u,f1,by omega,f3,fun hu=> ?_⟩;obtain⟨⟨g1,g2⟩,g3⟩:=f4 hu;intro y hy;rcases akJ.1 hy with rfl|hy
  ·exact⟨by omega,by omega,g3,g1⟩
  ·obtain⟨x,hx,hy⟩:=BE hy;exact g2 x hx y hy
def Bt(Q:Prop)(r:ak5 Bool):Prop:=∃b,r=some b∧(b=false→Q)
def dH{α:Type}(t:α→α→Bool):ak3 α→ak3 α→Bool
 |[],[]=>true
 |x::a,y::b=>t x y&&dH t a b
 |_,_=>false
theorem uo{α:Type}(t:α→α→Bool):∀a b:ak3 α,(a.length==b.length)=false→dH t a b=false
 |[],[],h=>by cases h
 |[],y::b,_=>rfl
 |x::a,[],_=>rfl
 |x::a,y::b,h=>by
  rw[dH,uo t a b (by simpa using h),Bool.and_false]
def mi(x y:aU):Bool:=(bL x.aV==bL y.aV)&&((x.cN.toInt==y.cN.toInt)&&true)
def gX(a b:aF):Bool:=(a.xK.toInt==b.xK.toInt)&&dH mi a.xL b.xL
def ew(a b:aC):Bool:=(a.a8==b.a8)&&((a.bz==b.bz)&&((a.xFrac==b.xFrac)&&((a.bK==b.bK)&&((a.bM==b.bM)&&true))))
def mD(a b:ay):Bool:=(a.xN.toInt==b.xN.toInt)&&((a.xD.toInt==b.xD.toInt)&&true)
def jg(a b:aH):Bool:=(bL a.xFrom==bL b.xFrom)&&(gX a.aM b.aM&&dH gX a.bD b.bD)
def lG:Nat→an→an→Bool
 |0,_,_=>false
 |d+1,a,b=>(a.ar==b.ar)&&((bL a.aV==bL b.aV)&&(mD a.ba b.ba&&(ew a.aD b.aD&&(gX a.aM b.aM&&(dH jg a.xIdx b.xIdx&&dH (lG d) a.ax b.ax)))))
theorem jY{α:Type}{L:ak3 α}{k:Nat}(h:L.drop k=[]):L.length≤k:=by
 by_cases hk:L.length≤k
 ·exact hk
 ·have:=congrArg List.length h;simp at this;omega
theorem Vf(N:Nat)(b:aF):∀(l r:ak3 aU)(k:Nat),b.xL.drop k=r→l.length=r.length→xu N b l k=some (dH mi l r)
 |[],[],_,_,_=>rfl
 |[],y::r,_,_,h=>by simp at h
 |x::l,[],_,_,h=>by simp at h
 |x::l,y::r,k,hd,hl=>by
  rw[xu,akG,cd hd,ake,Vf N b l r (k+1) (iZ hd) (by simpa using hl)];rw[dH];show(bif mi x y then _ else _)=_;cases mi x y<;>rfl
theorem LK(N:Nat)(a b:aF):xo N a b=some (gX a b):=by
 unfold xo gX;rw[Kg,show(a.xK.toInt !=b.xK.toInt)= !(a.xK.toInt==b.xK.toInt)from rfl];cases a.xK.toInt==b.xK.toInt with
 |false=>rfl
 |true=>
  cases h:a.xL.length==b.xL.length with
  |false=>rw[uo _ _ _ h];rfl
  |true=>exact Vf N b a.xL b.xL 0 rfl (beq_iff_eq.1 h)
theorem WG(N:Nat)(L:ak3 aF):∀(l r:ak3 aF)(k:Nat),L.drop k=r→l.length=r.length→vA N L l k=some (dH gX l r)
 |[],[],_,_,_=>rfl
 |[],y::r,_,_,h=>by simp at h
 |x::l,[],_,_,h=>by simp at h
 |x::l,y::r,k,hd,hl=>by
  rw[vA,akG,cd hd,ake,LK,ake,WG N L l r (k+1) (iZ hd) (by simpa using hl)];rw[dH];cases gX x y<;>rfl
theorem adC(N:Nat)(a b:ak3 aF):BB N a b=some (dH gX a b):=by
 unfold BB;rw[Kg];cases h:a.length==b.length with
 |false=>rw[uo _ _ _ h];rfl
 |true=>exact WG N b a b 0 rfl (beq_iff_eq.1 h)
theorem P4:∀l r:ak3 UInt8,(Lib.compareBytes l r==0)=(l==r)
 |[],[]=>rfl
 |[],_::_=>rfl
 |_::_,[]=>rfl
 |a::l,b::r=>by
  rw[Lib.compareBytes,List.cons_beq_cons];by_cases h:a<b
  ·rw[if_pos h,show(a==b)=false from beq_eq_false_iff_ne.2 fun e=>by rw[e]at h;exact absurd h (UInt8.lt_irrefl b)];rfl
  ·rw[if_neg h];by_cases h2:b<a
   ·rw[if_pos h2,show(a==b)=false from beq_eq_false_iff_ne.2 fun e=>by rw[e]at h2;exact absurd h2 (UInt8.lt_irrefl b)];rfl
   ·rw[if_neg h2,P4 l r,show a=b from UInt8.le_antisymm (UInt8.not_lt.1 h2) (UInt8.not_lt.1 h),akY,Bool.true_and]
def Cz(t:Bool)(r:ak5 Int):Prop:=∃c,r=some c∧(c==0)=t
theorem Ms(N:Nat)(a b:ak4):Cz (bL a==bL b) (Ed N a b):=⟨_,rfl,P4 _ _⟩
theorem qy(N:Nat)(a b:Int):Cz (a==b) (mf N a b):=by
 unfold mf DX;rw[bne_self_eq_false,bne_self_eq_false];simp only[ake,cond_false];by_cases h:a<b
 ·rw[akW h];exact⟨-1,rfl,(beq_eq_false_iff_ne.2 (by omega)).symm⟩
 ·rw[akX h];by_cases h2:a>b
  ·rw[akW h2];exact⟨1,rfl,(beq_eq_false_iff_ne.2 (by omega)).symm⟩
  ·rw[akX h2];exact⟨0,rfl,(beq_iff_eq.2 (by omega)).symm⟩
theorem Tv(N:Nat)(a b:Int64):Cz (a.toInt==b.toInt) (zG N a b):=by
 unfold zG BP;rw[bne_self_eq_false,bne_self_eq_false];simp only[ake,cond_false];by_cases h:a.toInt<b.toInt
 ·rw[akW h];exact⟨-1,rfl,(beq_eq_false_iff_ne.2 (by omega)).symm⟩
 ·rw[akX h];by_cases h2:a.toInt>b.toInt
  ·rw[akW h2];exact⟨1,rfl,(beq_eq_false_iff_ne.2 (by omega)).symm⟩
  ·rw[akX h2];exact⟨0,rfl,(beq_iff_eq.2 (by omega)).symm⟩
theorem SV(N:Nat)(a b:Int64):Cz (a.toInt==b.toInt) (A6 N a b):=by
 unfold A6;by_cases h:a.toInt<b.toInt
 ·rw[akW h];exact⟨-1,rfl,(beq_eq_false_iff_ne.2 (by omega)).symm⟩
 ·rw[akX h];by_cases h2:a.toInt>b.toInt
  ·rw[akW h2];exact⟨1,rfl,(beq_eq_false_iff_ne.2 (by omega)).symm⟩
  ·rw[akX h2];exact⟨0,rfl,(beq_iff_eq.2 (by omega)).symm⟩
theorem PJ(N:Nat):∀(l:ak3 Int)(k:Nat),Cz (l.all (·==0)) (u9 N l k)
 |[],_=>⟨0,rfl,rfl⟩
 |x::l,k=>by
  rw[u9,akZ];cases h:x==0 with
  |false=>rw[show(x !=0)=true by unfold bne;rw[h];rfl];exact⟨x,rfl,h⟩
  |true=>rw[show(x !=0)=false by unfold bne;rw[h];rfl];exact PJ N l (k+1)
theorem m0{c:Int}{t:Bool}(h:(c==0)=t):(c !=0)= !t:=by unfold bne;rw[h]
theorem aiN(N:Nat)(a b:aU):Cz (mi a b) (Dv N a b):=by
 unfold Dv mi;cases h:bL a.aV==bL b.aV with
 |true=>
  obtain⟨c,e1,e2⟩:=SV N a.cN b.cN;rw[e1];exact⟨c,rfl,by rw[e2];cases a.cN.toInt==b.cN.toInt<;>rfl⟩
 |false=>
  obtain⟨c,e1,e2⟩:=Ms N a.aV b.aV;rw[e1];exact⟨c,rfl,by rw[e2,h];rfl⟩
theorem RT(N:Nat)(A B:ak3 aU):∀(l r:ak3 aU)(k:Nat),k≤A.length→A.drop k=l→B.drop k=r→Cz (dH mi l r) (pN N A B l k)
 |[],[],k,hk,ha,hb=>by
  have h1:=jY ha;have h2:=jY hb;rw[pN,akX (show ¬(A.length:Int)<(B.length:Int) by omega)];exact⟨0,rfl,rfl⟩
 |[],y::r,k,hk,ha,hb=>by
  have h1:=jY ha;have h2:=kP hb;rw[pN,akW (show(A.length:Int)<(B.length:Int) by omega)];exact⟨-1,rfl,rfl⟩
 |x::l,[],k,hk,ha,hb=>by
  have h2:=jY hb;rw[pN,akW (show(k:Int)≥(B.length:Int) by omega)];exact⟨1,rfl,rfl⟩
 |x::l,y::r,k,hk,ha,hb=>by
  have h2:=kP hb;have h3:=kP ha;obtain⟨c,e1,e2⟩:=aiN N x y;rw[pN,akX (show ¬(k:Int)≥(B.length:Int) by omega),cond_false,akG,cd hb,ake,e1,ake,m0 e2,dH];cases h:mi x y with
  |false=>rw[h]at e2;exact⟨c,rfl,e2⟩
  |true=>exact RT N A B l r (k+1) (by omega) (iZ ha) (iZ hb)
theorem OQ(N:Nat)(a b:aF):Cz (gX a b) (uP N a b):=by
 unfold uP G6 gX;obtain⟨c,e1,e2⟩:=RT N a.xL b.xL a.xL b.xL 0 (Nat.zero_le _) rfl rfl;rw[e1,ake,m0 e2];cases h:dH mi a.xL b.xL with
 |false=>rw[h]at e2;exact⟨c,rfl,by rw[e2,Bool.and_false]⟩
 |true=>
  obtain⟨c',f1,f2⟩:=SV N a.xK b.xK;rw[f1];exact⟨c',rfl,by rw[f2,Bool.and_true]⟩
theorem SW(N:Nat)(A B:ak3 aF):∀(l r:ak3 aF)(k:Nat),k≤A.length→A.drop k=l→B.drop k=r→Cz (dH gX l r) (ou N A B l k)
 |[],[],k,hk,ha,hb=>by
  have h1:=jY ha;have h2:=jY hb;rw[ou,akX (show ¬(A.length:Int)<(B.length:Int) by omega)];exact⟨0,rfl,rfl⟩
 |[],y::r,k,hk,ha,hb=>by
  have h1:=jY ha;have h2:=kP hb;rw[ou,akW (show(A.length:Int)<(B.length:Int) by omega)];exact⟨-1,rfl,rfl⟩
 |x::l,[],k,hk,ha,hb=>by
  have h2:=jY hb;rw[ou,akW (show(k:Int)≥(B.length:Int) by omega)];exact⟨1,rfl,rfl⟩
 |x::l,y::r,k,hk,ha,hb=>by
  have h2:=kP hb;have h3:=kP ha;obtain⟨c,e1,e2⟩:=OQ N x y;rw[ou,akX (show ¬(k:Int)≥(B.length:Int) by omega),cond_false,akG,cd hb,ake,e1,ake,m0 e2,dH];cases h:gX x y with
  |false=>rw[h]at e2;exact⟨c,rfl,e2⟩
  |true=>exact SW N A B l r (k+1) (by omega) (iZ ha) (iZ hb)
theorem ac5(N:Nat)(a b:ak3 aF):Cz (dH gX a b) (C6 N a b):=by
 unfold C6 JK;obtain⟨c,e1,e2⟩:=qy N (a.length:Int) (b.length:Int);rw[lZ]at e2;rw[e1,ake,m0 e2];cases h:a.length==b.length with
 |false=>rw[h]at e2;exact⟨c,rfl,by rw[e2,uo _ _ _ h]⟩
 |true=>
  obtain⟨c',f1,f2⟩:=SW N a b a b 0 (Nat.zero_le _) rfl rfl;rw[f1];exact⟨c',rfl,f2⟩
theorem ajo(N:Nat)(a b:aH):Cz (jg a b) (E7 N a b):=by
 unfold E7 jg;obtain⟨c,e1,e2⟩:=Ms N a.xFrom b.xFrom;obtain⟨c',f1,f2⟩:=OQ N a.aM b.aM;obtain⟨c2,k1,k2⟩:=ac5 N a.bD b.bD;rw[e1,f1,k1,ake,ake,ake,m0 e2,m0 f2];cases h:bL a.xFrom==bL b.xFrom with
 |false=>rw[h]at e2;exact⟨c,rfl,e2⟩
 |true=>
  cases h2:gX a.aM b.aM with
  |false=>rw[h2]at f2;exact⟨c',rfl,f2⟩
  |true=>exact⟨c2,rfl,k2⟩
theorem Xu(N:Nat)(A B:ak3 aH):∀(l r:ak3 aH)(k:Nat),k≤A.length→A.drop k=l→B.drop k=r→Cz (dH jg l r) (oz N A B l k)
 |[],[],k,hk,ha,hb=>by
  have h1:=jY ha;have h2:=jY hb;rw[oz,akX (show ¬(A.length:Int)<(B.length:Int) by omega)];exact⟨0,rfl,rfl⟩
 |[],y::r,k,hk,ha,hb=>by
  have h1:=jY ha;have h2:=kP hb;rw[oz,akW (show(A.length:Int)<(B.length:Int) by omega)];exact⟨-1,rfl,rfl⟩
 |x::l,[],k,hk,ha,hb=>by
  have h2:=jY hb;rw[oz,akW (show(k:Int)≥(B.length:Int) by omega)];exact⟨1,rfl,rfl⟩
 |x::l,y::r,k,hk,ha,hb=>by
  have h2:=kP hb;have h3:=kP ha;obtain⟨c,e1,e2⟩:=ajo N x y;rw[oz,akX (show ¬(k:Int)≥(B.length:Int) by omega),cond_false,akG,cd hb,ake,e1,ake,m0 e2,dH];cases h:jg x y with
  |false=>rw[h]at e2;exact⟨c,rfl,e2⟩
  |true=>exact Xu N A B l r (k+1) (by omega) (iZ ha) (iZ hb)
theorem ajb(N:Nat)(a b:ak3 aH):Cz (dH jg a b) (EU N a b):=by
 unfold EU F3;obtain⟨c,e1,e2⟩:=qy N (a.length:Int) (b.length:Int);rw[lZ]at e2;rw[e1,ake,m0 e2];cases h:a.length==b.length with
 |false=>rw[h]at e2;exact⟨c,rfl,by rw[e2,uo _ _ _ h]⟩
 |true=>
  obtain⟨c',f1,f2⟩:=Xu N a b a b 0 (Nat.zero_le _) rfl rfl;rw[f1];exact⟨c',rfl,f2⟩
theorem agi(N:Nat)(a b:aC):Cz (ew a b) (Dp N a b):=by
 unfold Dp AT ew;obtain⟨c1,e1,f1⟩:=qy N a.a8 b.a8;obtain⟨c2,e2,f2⟩:=qy N a.bz b.bz;obtain⟨c3,e3,f3⟩:=qy N a.xFrac b.xFrac;obtain⟨c4,e4,f4⟩:=qy N a.bK b.bK;obtain⟨c5,e5,f5⟩:=qy N a.bM b.bM;obtain⟨c,e,f⟩:=PJ N [c1,c2,c3,c4,c5] 0;rw[e1,e2,e3,e4,e5];simp only[ake];rw[e];refine⟨c,rfl,?_⟩;rw[f];simp only[akZ,List.all_nil,f1,f2,f3,f4,f5]
theorem Sy(N:Nat)(A B:ak3 an)(rec:an→an→ak5 Int)(t:an→an→Bool)(hr:∀x∈A,∀y,Cz (t x y) (rec x y)):∀(l r:ak3 an)(k:Nat),k≤A.length→A.drop k=l→B.drop k=r→Cz (dH t l r) (oO N A B rec l k)
 |[],[],k,hk,ha,hb=>by
  have h1:=jY ha;have h2:=jY hb;rw[oO,akX (show ¬(A.length:Int)<(B.length:Int) by omega)];exact⟨0,rfl,rfl⟩
 |[],y::r,k,hk,ha,hb=>by
  have h1:=jY ha;have h2:=kP hb;rw[oO,akW (show(A.length:Int)<(B.length:Int) by omega)];exact⟨-1,rfl,rfl⟩
 |x::l,[],k,hk,ha,hb=>by
  have h2:=jY hb;rw[oO,akW (show(k:Int)≥(B.length:Int) by omega)];exact⟨1,rfl,rfl⟩
 |x::l,y::r,k,hk,ha,hb=>by
  have h2:=kP hb;have h3:=kP ha;obtain⟨c,e1,e2⟩:=hr x (XV (cd ha)) y;rw[oO,akX (show ¬(k:Int)≥(B.length:Int) by omega),cond_false,akG,cd hb,ake,e1,ake,m0 e2,dH];cases h:t x y with
  |false=>rw[h]at e2;exact⟨c,rfl,e2⟩
  |true=>exact Sy N A B rec t hr l r (k+1) (by omega) (iZ ha) (iZ hb)
theorem Wl(N:Nat):∀(d:Nat)(a b:an)(D:Nat),SizeOf.sizeOf a<d→3*d≤D→Cz (lG d a b) (rf N D a b)
 |0,_,_,_,h,_=>absurd h (akH _)
 |d+1,a,b,D,h,hD=>by
  obtain⟨D,rfl⟩:∃k,D=k+3:=⟨D-3,by omega⟩;rw[rf,Ey,FP,lG];obtain⟨c1,e1,f1⟩:=qy N a.ar b.ar;obtain⟨c2,e2,f2⟩:=Ms N a.aV b.aV;obtain⟨c3,e3,f3⟩:=Tv N a.ba.xN b.ba.xN;obtain⟨c4,e4,f4⟩:=Tv N a.ba.xD b.ba.xD;obtain⟨c5,e5,f5⟩:=agi N a.aD b.aD;obtain⟨c6,e6,f6⟩:=OQ N a.aM b.aM;obtain⟨c,e,f⟩:=PJ N [c1,c2,c3,c4,c5,c6] 0;obtain⟨c7,e7,f7⟩:=ajb N a.xIdx b.xIdx;obtain⟨c8,e8,f8⟩:=qy N (a.ax.length:Int) (b.ax.length:Int);obtain⟨c9,e9,f9⟩:=Sy N a.ax b.ax (rf N D) (lG d) (fun x hx y=>Wl N d x y D (by have:=fw hx;omega) (by omega)) a.ax b.ax 0 (Nat.zero_le _) rfl rfl;rw[lZ]at f8;unfold AT;rw[e1,e2,e3,e4,e5,e6];simp only[ake];rw[e,e7,e8,e9];simp only[ake];simp only[akZ,List.all_nil,f1,f2,f3,f4,f5,f6]at f;rw[m0 f,m0 f7,m0 f8];unfold mD;generalize (a.ar==b.ar)=t1 at*;generalize (bL a.aV==bL b.aV)=t2 at*;generalize (a.ba.xN.toInt==b.ba.xN.toInt)=t3 at*;generalize (a.ba.xD.toInt==b.ba.xD.toInt)=t4 at*;generalize ew a.aD b.aD=t5 at*;generalize gX a.aM b.aM=t6 at*;cases hh:t1&&(t2&&(t3&&(t4&&(t5&&(t6&&true)))))with
  |false=>
   rw[hh]at f;refine⟨c,rfl,?_⟩;rw[f];revert hh;cases t1<;>cases t2<;>cases t3<;>cases t4<;>cases t5<;>cases t6<;>first|(intro _;rfl)|(intro h;cases h)
  |true=>
   have ht:t1=true∧t2=true∧t3=true∧t4=true∧t5=true∧t6=true:=by
    revert hh;cases t1<;>cases t2<;>cases t3<;>cases t4<;>cases t5<;>cases t6<;>first|(intro _;exact⟨rfl,rfl,rfl,rfl,rfl,rfl⟩)|(intro h;cases h)
   obtain⟨rfl,rfl,rfl,rfl,rfl,rfl⟩:=ht;cases h7:dH jg a.xIdx b.xIdx with
   |false=>rw[h7]at f7;exact⟨c7,rfl,f7⟩
   |true=>
    cases h8:a.ax.length==b.ax.length with
    |false=>rw[h8]at f8;exact⟨c8,rfl,by rw[f8,uo _ _ _ h8];rfl⟩
    |true=>exact⟨c9,rfl,by rw[f9];rfl⟩
theorem aai(N:Nat)(a b:aH):DF N a b=some (jg a b):=by
 unfold DF jg;rw[LK,adC,ake,ake];cases bL a.xFrom==bL b.xFrom<;>cases gX a.aM b.aM<;>rfl
theorem Tx(N:Nat)(L:ak3 aH):∀(l r:ak3 aH)(k:Nat),L.drop k=r→l.length=r.length→xr N L l k=some (dH jg l r)
 |[],[],_,_,_=>rfl
 |[],y::r,_,_,h=>by simp at h
 |x::l,[],_,_,h=>by simp at h
 |x::l,y::r,k,hd,hl=>by
  rw[xr,akG,cd hd,ake,aai,ake,Tx N L l r (k+1) (iZ hd) (by simpa using hl)];rw[dH];cases jg x y<;>rfl
theorem acy(N:Nat)(a b:ak3 aH):BK N a b=some (dH jg a b):=by
 unfold BK;rw[Kg];cases h:a.length==b.length with
 |false=>rw[uo _ _ _ h];rfl
 |true=>exact Tx N b a b 0 rfl (beq_iff_eq.1 h)
theorem TS(N:Nat)(L:ak3 an)(rec:an→an→ak5 Bool)(t:an→an→Bool):∀(l r:ak3 an)(k:Nat),(∀x∈l,∀y,rec x y=some (t x y))→L.drop k=r→l.length=r.length→vn N L rec l k=some (dH t l r)
 |[],[],_,_,_,_=>rfl
 |[],y::r,_,_,_,h=>by simp at h
 |x::l,[],_,_,_,h=>by simp at h
 |x::l,y::r,k,hr,hd,hl=>by
  rw[vn,akG,cd hd,ake,hr x akl,ake,TS N L rec t l r (k+1) (fun z hz=>hr z (ako _ hz)) (iZ hd) (by simpa using hl)];rw[dH];cases t x y<;>rfl
theorem U8(N:Nat):∀(d:Nat)(a b:an)(D:Nat),SizeOf.sizeOf a<d→3*d≤D→tC N D a b=some (lG d a b)
 |0,_,_,_,h,_=>absurd h (akH _)
 |d+1,a,b,D,h,hD=>by
  obtain⟨D,rfl⟩:∃k,D=k+2:=⟨D-2,by omega⟩;have ha:yF N (D+1) a.ax b.ax=some (dH (lG d) a.ax b.ax):=by
   rw[yF,Kg];cases h8:a.ax.length==b.ax.length with
   |false=>rw[uo _ _ _ h8];rfl
   |true=>exact TS N b.ax _ (lG d) a.ax b.ax 0 (fun x hx y=>U8 N d x y D (by have:=fw hx;omega) (by omega)) rfl (beq_iff_eq.1 h8)
  rw[tC,ha,LK,acy,lG];rw[show((a.ba.xN.toInt==b.ba.xN.toInt)&&((a.ba.xD.toInt==b.ba.xD.toInt)&&true))=mD a.ba b.ba from rfl,show((a.aD.a8==b.aD.a8)&&((a.aD.bz==b.aD.bz)&&((a.aD.xFrac==b.aD.xFrac)&&((a.aD.bK==b.aD.bK)&&((a.aD.bM==b.aD.bM)&&true)))))=ew a.aD b.aD from rfl];cases a.ar==b.ar<;>cases bL a.aV==bL b.aV<;>cases mD a.ba b.ba<;>cases ew a.aD b.aD<;>cases gX a.aM b.aM<;>cases dH jg a.xIdx b.xIdx<;>rfl
theorem EE{α:Type}{t:α→α→Bool}:∀{a b:ak3 α},(∀x∈a,∀y,t x y=true→x=y)→dH t a b=true→a=b
 |[],[],_,_=>rfl
 |[],_::_,_,h=>by cases h
 |_::_,[],_,h=>by cases h
 |x::a,y::b,ht,h=>by
  have h':(t x y&&dH t a b)=true:=h;rw[akh]at h';rw[ht x akl y h'.1,EE (fun z hz=>ht z (ako _ hz)) h'.2]
theorem FJ{α:Type}{t:α→α→Bool}:∀{a:ak3 α},(∀x∈a,t x x=true)→dH t a a=true
 |[],_=>rfl
 |x::a,ht=>by
  show(t x x&&dH t a a)=true;rw[ht x akl,FJ fun y hy=>ht y (ako _ hy)];rfl
theorem Mq{a b:ak4}(h:(bL a==bL b)=true):a=b:=PH (by simpa using h)
theorem Sl{a b:Int64}(h:(a.toInt==b.toInt)=true):a=b:=Int64.toInt_inj.1 (by simpa using h)
theorem ahd{a b:aU}(h:mi a b=true):a=b:=by
 unfold mi at h;simp only[akh]at h;cases a;cases b
 congr 1
 ·exact Mq h.1
 ·exact Sl h.2.1
theorem Nw{a b:aF}(h:gX a b=true):a=b:=by
 unfold gX at h;simp only[akh]at h;cases a;cases b
 congr 1
 ·exact Sl h.1
 ·exact EE (fun x _ y=>ahd) h.2
theorem KJ(a:aF):gX a a=true:=by
 unfold gX;rw[FJ fun x _=>by unfold mi;simp];simp
theorem ajG{a b:aH}(h:jg a b=true):a=b:=by
 unfold jg at h;simp only[akh]at h;cases a;cases b
 congr 1
 ·exact Nw h.2.1
 ·exact Mq h.1
 ·exact EE (fun x _ y=>Nw) h.2.2
theorem ahr(a:aH):jg a a=true:=by
 unfold jg;rw[FJ fun x _=>KJ x,KJ];simp
theorem MS{a b:aC}:ew a b=true↔a=b:=by
 unfold ew;simp only[akh,beq_iff_eq,and_true];constructor
 ·rintro⟨h1,h2,h3,h4,h5⟩;cases a;cases b;simp only at*;subst h1;subst h2;subst h3;subst h4;subst h5;rfl
 ·rintro rfl;exact⟨rfl,rfl,rfl,rfl,rfl⟩
theorem Rz{a b:ay}:mD a b=true↔a=b:=by
 unfold mD;simp only[akh,beq_iff_eq,and_true];constructor
 ·rintro⟨h1,h2⟩;exact y9 h1 h2
 ·rintro rfl;exact⟨rfl,rfl⟩
theorem TB:∀{d:Nat}{a b:an},lG d a b=true→a=b
 |0,a,b,h=>by cases h
 |d+1,a,b,h=>by
  rw[lG]at h;simp only[akh]at h;cases a;cases b
  simp only at h;obtain⟨h1,h2,h3,h4,h5,h6,h7⟩:=h
  congr 1
  ·simpa using h1
  ·exact Mq h2
  ·exact Rz.1 h3
  ·exact MS.1 h4
  ·exact Nw h5
  ·exact EE (fun x _ y=>ajG) h6
  ·exact EE (fun x _ y=>TB) h7
theorem Sc:∀{d:Nat}{a:an},SizeOf.sizeOf a<d→lG d a a=true
 |0,a,h=>absurd h (akH _)
 |d+1,a,h=>by
  rw[lG];have h1:=FJ (t:=lG d) (a:=a.ax) fun x hx=>Sc (by have:=fw hx;omega);have h2:=FJ (t:=jg) (a:=a.xIdx) fun x _=>ahr x;have h3:=MS.2 (rfl:a.aD=a.aD);have h4:=Rz.2 (rfl:a.ba=a.ba);have h5:=KJ a.aM;simp [h1,h2,h3,h4,h5]
noncomputable def ij(a b:an):Bool:=lG (SizeOf.sizeOf a+1) a b
theorem Zv{a b:an}:ij a b=true↔a=b:=by
 unfold ij;refine⟨TB,?_⟩;rintro rfl;exact Sc (ak1 _)
def cy(op:Int)(l:ak3 an):an:=⟨op,bs [],bg,ca,bV,[],l⟩
def fS(t:aC)(v:ay):an:=⟨1,bs [],v,t,bV,[],[]⟩
def mb(l:aF):an:=⟨2,bs [],bg,ca,l,[],[]⟩
def xJ:aC:=⟨3,0,0,0,0⟩
def zZ(op:Int):Bool:=op==4||(op==5||(op==6||(op==7||(op==9||op==10))))
abbrev Kn:=dW
def j6:Kn:=⟨ca,false⟩
def jb:Nat→an→Kn
 |0,_=>j6
 |d+1,e=>bif e.ar==1||e.ar==12 then⟨e.aD,true⟩else bif e.ar==2 then⟨xJ,true⟩
  else match e.ax with
  |[a]=>bif e.ar==8 then jb d a else j6
  |[a,b]=>bif zZ e.ar then(bif (jb d a).dn then jb d a else jb d b)else j6
  |[_,a,b]=>bif e.ar==11&&((jb d a).dn&&((jb d b).dn&&ew (jb d a).yT (jb d b).yT))then jb d a else j6
  |_=>j6
noncomputable def cP(e:an):Kn:=jb (SizeOf.sizeOf e) e
theorem No:∀(d d':Nat)(e:an),SizeOf.sizeOf e≤d→SizeOf.sizeOf e≤d'→jb d e=jb d' e
 |0,_,e,h,_=>by cases e;simp at h
 |_,0,e,_,h=>by cases e;simp at h
 |d+1,d'+1,e,h,h'=>by
  have ih:∀x∈e.ax,jb d x=jb d' x:=fun x hx=>No d d' x (by have:=fw hx;omega) (by have:=fw hx;omega);rw[jb,jb];revert ih
  match e.ax with
  |[]=>intro _;rfl
  |[a]=>intro ih;simp only[ih a (by simp)]
  |[a,b]=>intro ih;simp only[ih a (by simp),ih b (by simp)]
  |[c,a,b]=>intro ih;simp only[ih a (by simp),ih b (by simp)]
  |_::_::_::_::_=>intro _;rfl
theorem V0(e:an):cP e=bif e.ar==1||e.ar==12 then⟨e.aD,true⟩else bif e.ar==2 then⟨xJ,true⟩
 else match e.ax with
 |[a]=>bif e.ar==8 then cP a else j6
 |[a,b]=>bif zZ e.ar then(bif (cP a).dn then cP a else cP b)else j6
 |[_,a,b]=>bif e.ar==11&&((cP a).dn&&((cP b).dn&&ew (cP a).yT (cP b).yT))then cP a else j6
 |_=>j6:=by
 have ih:∀x∈e.ax,jb (SizeOf.sizeOf e) x=cP x:=fun x hx=>No _ _ x (by have:=fw hx;omega) (akq _);unfold cP;rw[No _ (SizeOf.sizeOf e+1) e (akq _) (Nat.le_succ _),jb];revert ih;unfold cP
 match e.ax with
 |[]=>intro _;rfl
 |[a]=>intro ih;simp only[ih a (by simp)]
 |[a,b]=>intro ih;simp only[ih a (by simp),ih b (by simp)]
 |[c,a,b]=>intro ih;simp only[ih a (by simp),ih b (by simp)]
 |_::_::_::_::_=>intro _;rfl
noncomputable def w5(a b:an):Kn:=bif (cP a).dn then cP a else cP b
noncomputable def qm(e:an)(k:Kn)(i:Nat):Kn:=
 bif zZ e.ar||(e.ar==8||(e.ar==11&& !(i==0)))then k
 else bif e.ar==12 then(match e.ax with|[a]=>cP a|_=>j6)
 else bif e.ar==13||(e.ar==14||e.ar==15)then(match e.ax with|[a,b]=>w5 a b|_=>j6)else j6
def jq(e:an):ak5 aF:=bif e.ar==2 then some e.aM else bif e.ar==1&&e.aD.a8==3 then some ⟨e.ba.xN,[]⟩else none
def lg(f g:aF):X aF:=match jj g (-1)with| .error e=> .error e| .ok h=>jW f h
def Lh(a b:an):ak5 Int64:=match jq a,jq b with
 |some f,some g=>(match lg f g with| .ok d=>bif d.xL.length==0 then some d.xK else none| .error _=>none)
 |_,_=>none
def sH(op sign:Int):Bool:=bif op==13 then decide (sign<0)else bif op==14 then decide (sign≤0)else sign==0
noncomputable def mj(op:Int)(a b:an):Bool×Bool:=
 bif a.ar==1&&(b.ar==1&&ew a.aD b.aD)then(sH op (ke a.aD a.ba b.ba),true)
 else match Lh a b with
 |some k=>(sH op (l5 k.toInt 0),true)
 |none=>bif ij a b then(!(op==13),true)else(false,false)
noncomputable def iy:Nat→an→Bool×Bool
 |0,_=>(false,false)
 |d+1,e=>match e.ax with
  |[a]=>bif e.ar==18 then((iy d a).2&& !(iy d a).1,(iy d a).2)else(false,false)
  |[a,b]=>bif e.ar==13||(e.ar==14||e.ar==15)then mj e.ar a b
   else bif e.ar==16||e.ar==17 then
    (bif ((iy d a).2&&(iy d a).1==(e.ar==17))||((iy d b).2&&(iy d b).1==(e.ar==17))then(e.ar==17,true)
    else(!(e.ar==17)&&((iy d a).2&&(iy d b).2),(iy d a).2&&(iy d b).2))
   else(false,false)
  |_=>(false,false)
noncomputable def et(e:an):Bool×Bool:=iy (SizeOf.sizeOf e) e
theorem LU:∀(d d':Nat)(e:an),SizeOf.sizeOf e≤d→SizeOf.sizeOf e≤d'→iy d e=iy d' e
 |0,_,e,h,_=>by cases e;simp at h
 |_,0,e,_,h=>by cases e;simp at h
 |d+1,d'+1,e,h,h'=>by
  have ih:∀x∈e.ax,iy d x=iy d' x:=fun x hx=>LU d d' x (by have:=fw hx;omega) (by have:=fw hx;omega);rw[iy,iy];revert ih
  match e.ax with
  |[]=>intro _;rfl
  |[a]=>intro ih;simp only[ih a (by simp)]
  |[a,b]=>intro ih;simp only[ih a (by simp),ih b (by simp)]
  |_::_::_::_=>intro _;rfl
theorem QF(e:an):et e=match e.ax with
 |[a]=>bif e.ar==18 then((et a).2&& !(et a).1,(et a).2)else(false,false)
 |[a,b]=>bif e.ar==13||(e.ar==14||e.ar==15)then mj e.ar a b
  else bif e.ar==16||e.ar==17 then
   (bif ((et a).2&&(et a).1==(e.ar==17))||((et b).2&&(et b).1==(e.ar==17))then(e.ar==17,true)
   else(!(e.ar==17)&&((et a).2&&(et b).2),(et a).2&&(et b).2))
  else(false,false)
 |_=>(false,false):=by
 have ih:∀x∈e.ax,iy (SizeOf.sizeOf e) x=et x:=fun x hx=>LU _ _ x (by have:=fw hx;omega) (akq _);unfold et;rw[LU _ (SizeOf.sizeOf e+1) e (akq _) (Nat.le_succ _),iy];revert ih;unfold et
 match e.ax with
 |[]=>intro _;rfl
 |[a]=>intro ih;simp only[ih a (by simp)]
 |[a,b]=>intro ih;simp only[ih a (by simp),ih b (by simp)]
 |_::_::_::_=>intro _;rfl
def pg(t:aC)(r:ay×Int):ak5 an:=bif r.2==0 then some (fS t r.1)else none
def iW(r:X aF):ak5 an:=match r with| .ok l=>some (mb l)| .error _=>none
def tV(e:an):ak5 an:=match e.ax with
 |[a]=>bif e.ar==8&&a.ar==1 then pg a.aD (rp 8 a.aD a.ba a.ba)else none
 |[a,b]=>bif zZ e.ar&&(a.ar==1&&(b.ar==1&&ew a.aD b.aD))then pg a.aD (rp e.ar a.aD a.ba b.ba)else none
 |_=>none
noncomputable def uw(e:an):ak5 an:=match e.ax with
 |[a]=>bif e.ar==12 then(bif a.ar==1 then pg e.aD (vY a.aD e.aD a.ba)else bif (cP a).dn&&ew (cP a).yT e.aD then some a else none)else none
 |_=>none
def zF(op:Int)(a b:an):ak5 an:=match jq a,jq b with
 |some f,some g=>bif a.ar==2||b.ar==2 then iW (bif op==5 then lg f g else jW f g)else none
 |_,_=>none
def gG(e:an):Bool:=e.ar==1&&e.aD.a8==3
def pQ(a b:an):ak5 an:=
 bif a.ar==2&&gG b then iW (jj a.aM b.ba.xN)else bif gG a&&b.ar==2 then iW (jj b.aM a.ba.xN)else none
def uv(e:an):ak5 an:=
 bif e.ar==2 then(bif e.aM.xL.length==0&&(decide (-2147483647≤e.aM.xK.toInt)&&decide (e.aM.xK.toInt≤2147483647))then some (fS xJ ⟨e.aM.xK,1⟩)else none)
 else match e.ax with
 |[a]=>bif e.ar==8&&a.ar==2 then iW (jj a.aM (-1))else none
 |[a,b]=>bif e.ar==4||e.ar==5 then zF e.ar a b else bif e.ar==6 then pQ a b else none
 |_=>none
noncomputable def su(e:an):ak5 an:=match e.ax with
 |[c,a,b]=>bif e.ar==11&&(et c).2 then some (bif (et c).1 then a else b)else none
 |_=>none
noncomputable def sF(e:an):ak5 an:=match e.ax with
 |[_,a,b]=>bif e.ar==11&&ij a b then some a else none
 |[a,b]=>bif (e.ar==9||(e.ar==10||(e.ar==16||e.ar==17)))&&ij a b then some a else none
 |_=>none
def fc(e:an):Bool:=e.ar==1&&mD e.ba (pZ e.aD)
def jM(e:an):Bool:=e.ar==1&&((ig e.aD).2==0&&mD e.ba (ig e.aD).1)
def sB(e:an):ak5 an:=match e.ax with
 |[a,b]=>bif e.ar==4 then(bif fc b then some a else bif fc a then some b else none)
  else bif e.ar==5 then(bif fc b then some a else bif fc a then some (cy 8 [b])else none)
  else bif e.ar==6 then(bif fc b then some b else bif fc a then some a else none)
  else bif e.ar==7 then(bif fc a then some a else none)else none
 |_=>none
def sw(e:an):ak5 an:=match e.ax with
 |[a,b]=>bif e.ar==6 then(bif jM b then some a else bif jM a then some b else none)else bif e.ar==7 then(bif jM b then some a else none)else none
 |_=>none
noncomputable def tO(e:an)(k:Kn):ak5 an:=match e.ax with
 |[a,b]=>bif (e.ar==5||e.ar==7)&&(k.dn&&ij a b)then
    (bif e.ar==5 then some (fS k.yT (pZ k.yT))else bif !(k.yT.a8==2)&&(ig k.yT).2==0 then some (fS k.yT (ig k.yT).1)else none)else none
 |_=>none
def sR(e:an)(k:Kn):ak5 an:=
 bif k.dn&&(!(k.yT.a8==2)||k.yT.bM==2)then
  (match e.ax with
  |[a]=>bif e.ar==8&&a.ar==8 then a.ax[0]? else none
  |[a,b]=>bif e.ar==4 then(bif b.ar==8 then(b.ax[0]?).map fun x=>cy 5 [a,x]else bif a.ar==8 then(a.ax[0]?).map fun x=>cy 5 [b,x]else none)
   else bif e.ar==5&&b.ar==8 then(b.ax[0]?).map fun x=>cy 4 [a,x]else none
  |_=>none)else none
def sE(e:an):ak5 an:=match e.ax with
 |[c,a,b]=>bif e.ar==11&&c.ar==18 then(c.ax[0]?).map fun x=>cy 11 [x,b,a]else none
 |[c]=>bif e.ar==18 then
    (bif c.ar==18 then c.ax[0]? else bif c.ar==13 then(match c.ax with|[x,y]=>some (cy 14 [y,x])|_=>none)
    else bif c.ar==14 then(match c.ax with|[x,y]=>some (cy 13 [y,x])|_=>none)else none)else none
 |_=>none
noncomputable def uz(e:an):ak5 an:=match e.ax with
 |[a,b]=>bif e.ar==16||e.ar==17 then
    (bif (et a).2&&(et a).1==(e.ar==16)then some b else bif (et b).2&&(et b).1==(e.ar==16)then some a else none)else none
 |_=>none
abbrev Rw:=ak5 (an×ak4)
def jo(o:ak5 an)(s:ak4)(r:Rw):Rw:=match o with|some x=>some (x,s)|none=>r
def Mi:ak4:=bs [102,111,108,100]
def LX:ak4:=bs [99,97,115,116]
def OC:ak4:=bs [105,110,100,101,120]
def L1:ak4:=bs [105,102]
def Kr:ak4:=bs [115,97,109,101]
def Ou:ak4:=bs [122,101,114,111]
def Lp:ak4:=bs [111,110,101]
def KR:ak4:=bs [99,97,110,99,101,108]
def Lb:ak4:=bs [110,101,103,97,116,101]
def Mf:ak4:=bs [110,111,116]
def LO:ak4:=bs [108,111,103,105,99]
noncomputable def m3(e:an)(k:Kn):Rw:=
 jo (tV e) Mi (jo (uw e) LX (jo (uv e) OC (jo (su e) L1 (jo (sF e) Kr (jo (sB e) Ou (jo (sw e) Lp
  (jo (tO e k) KR (jo (sR e k) Lb (jo (sE e) Mf (jo (uz e) LO none))))))))))
def tu(e:an)(i:Nat)(x:an):an:=⟨e.ar,e.aV,e.ba,e.aD,e.aM,e.xIdx,e.ax.set i x⟩
noncomputable def jv(rec:an→Kn→Rw)(e:an)(k:Kn):Nat→ak3 an→Rw
 |_,[]=>none
 |i,x::l=>match rec x (qm e k i)with
  |some (y,s)=>some (tu e i y,s)
  |none=>jv rec e k (i+1) l
noncomputable def kE:Nat→an→Kn→Rw
 |0,_,_=>none
 |d+1,e,k=>match m3 e k with
  |some r=>some r
  |none=>jv (kE d) e k 0 e.ax
noncomputable def iM(e:an)(k:Kn):Rw:=kE (SizeOf.sizeOf e) e k
noncomputable def eO(t:aC)(e:an):Rw:=bif cS t&&iQ e==0 then iM e ⟨t,!eB e⟩else none
theorem Ar{a g:aF}{b:Int64}(h:jj a b= .ok g):g.xL.length≤a.xL.length:=by
 rw[Oo]at h;cases h1:dT a<;>rw[h1]at h
 ·cases h
 ·cases h2:b.toInt==0<;>rw[h2]at h
  ·cases h3:dA (a.xK.toInt*b.toInt)&&a.xL.all (oB b)<;>rw[h3]at h
   ·cases h
   ·cases h;exact Nat.le_of_eq (akk _)
  ·cases h;exact Nat.zero_le _
theorem Av:∀a b:ak3 aU,(dK a b).length≤a.length+b.length
 |[],[]=>by rw[dK];exact akq _
 |x::l,[]=>by rw[dK];have:=Av l [];simp only[aki,akr]at*;omega
 |[],y::r=>by rw[dK];have:=Av [] r;simp only[aki,akr]at*;omega
 |x::l,y::r=>by
  rw[dK];have h1:=Av l (y::r);have h2:=Av (x::l) r;have h3:=Av l r;split
  ·simp only[aki]at*;omega
  ·split<;>simp only[aki]at* <;>omega
termination_by a b=>a.length+b.length
theorem Qu{a b g:aF}(h:jW a b= .ok g):g.xL.length≤a.xL.length+b.xL.length:=by
 rw[TF]at h;cases h1:dT a&&dT b<;>rw[h1]at h
 ·cases h
 ·cases h2:dA (a.xK.toInt+b.xK.toInt)&&(dK a.xL b.xL).all jA<;>rw[h2]at h
  ·cases h
  ·cases h
   exact akx (List.length_filterMap_le _ _) (Av _ _)
theorem ae8{f g d:aF}(h:lg f g= .ok d):d.xL.length≤f.xL.length+g.xL.length:=by
 unfold lg at h;cases h1:jj g (-1)with
 |error e=>rw[h1]at h;cases h
 |ok q=>rw[h1]at h;have:=Ar h1;have:=Qu h;omega
theorem Mh{a:an}{f:aF}(h:jq a=some f):f.xL.length≤a.aM.xL.length:=by
 unfold jq at h;cases h2:a.ar==2 with
 |true=>rw[h2]at h;cases h;exact akq _
 |false=>
  rw[h2]at h;cases h3:a.ar==1&&a.aD.a8==3 with
  |true=>rw[h3]at h;cases h;exact Nat.zero_le _
  |false=>rw[h3]at h;cases h
def own(w:an→Nat):Prop:=∀e l,w ⟨e.ar,e.aV,e.ba,e.aD,e.aM,e.xIdx,l⟩=w e
def W(w:an→Nat)(e:an):Nat:=((cz e).map w).sum
def WL(w:an→Nat)(l:ak3 an):Nat:=(l.map (W w)).sum
theorem RV(w:an→Nat):∀l:ak3 an,((iG l).map w).sum=WL w l
 |[]=>by rw[iG];rfl
 |x::l=>by
  rw[AY,List.map_append,List.sum_append,RV w l];show _=(List.map (W w) (x::l)).sum;rw[akE,List.sum_cons];rfl
theorem cD(w:an→Nat)(e:an):W w e=w e+WL w e.ax:=by
 unfold W;unfold cz;rw[akE,List.sum_cons,RV]
theorem lW(w:an→Nat)(x:an)(l:ak3 an):WL w (x::l)=W w x+WL w l:=by unfold WL;rw[akE,List.sum_cons]
theorem Fe(w:an→Nat):WL w []=0:=rfl
theorem jz{w:an→Nat}:∀{l:ak3 an}{x:an},x∈l→W w x≤WL w l
 |y::l,x,h=>by
  rw[lW];rcases akJ.1 h with rfl|h
  ·omega
  ·have:=jz (w:=w) h;omega
theorem Xa{w:an→Nat}:∀{l:ak3 an}{i:Nat}{a:an}(x:an),l[i]?=some a→WL w (l.set i x)+W w a=WL w l+W w x
 |[],i,a,x,h=>by cases h
 |y::l,0,a,x,h=>by cases h;rw[List.set_cons_zero,lW,lW];omega
 |y::l,i+1,a,x,h=>by
  rw[akQ]at h;rw[List.set_cons_succ,lW,lW];have:=Xa (w:=w) x h;omega
theorem aiT{w:an→Nat}(hw:own w){e a:an}{i:Nat}(x:an)(h:e.ax[i]?=some a):W w (tu e i x)+W w a=W w e+W w x:=by
 rw[cD w (tu e i x),cD w e];have h1:w (tu e i x)=w e:=hw e _;have h2:WL w (tu e i x).ax+W w a=WL w e.ax+W w x:=Xa (w:=w) x h;omega
inductive ff:an→an→Prop
 |arg {e x:an}:4≤e.ar→x∈e.ax→ff e x
 |kZ {e a x:an}:4≤e.ar→a∈e.ax→4≤a.ar→x∈a.ax→ff e x
 |val {e:an} (t:aC) (v:ay):e.ar=2∨(4≤e.ar∧e.ax≠ [])→ff e (fS t v)
 |idx {e:an} {l:aF}:4≤e.ar→e.ax≠ []→l.xL.length≤(e.ax.map fun x=>x.aM.xL.length).sum→(∀x∈e.ax,x.ar=1∨x.ar=2)→(∃x∈e.ax,x.ar=2)→ff e (mb l)
 |neg {e a b:an} (op:Int):4≤e.ar→4≤op→e.ax=[a,b]→ff e (cy op [b])
 |two {e a b c:an} (op:Int):4≤e.ar→4≤op→e.ax=[a,b]→4≤b.ar→b.ax=[c]→ff e (cy op [a,c])
 |zj {e a b c:an} (op:Int):4≤e.ar→4≤op→e.ax=[a,b]→4≤a.ar→a.ax=[c]→ff e (cy op [b,c])
 |swap {e a x y:an} (op:Int):4≤e.ar→4≤op→e.ax=[a]→4≤a.ar→a.ax=[x,y]→ff e (cy op [y,x])
 |three {e c a b x:an} (op:Int):4≤e.ar→4≤op→e.ax=[c,a,b]→4≤c.ar→c.ax=[x]→ff e (cy op [x,b,a])
theorem fj(w:an→Nat)(a b:an):WL w [a,b]=W w a+W w b:=by rw[lW,lW,Fe];omega
theorem ib(w:an→Nat)(a:an):WL w [a]=W w a:=by rw[lW,Fe];omega
theorem sq(w:an→Nat)(a b c:an):WL w [a,b,c]=W w a+(W w b+W w c):=by rw[lW,lW,lW,Fe];omega
def wN(_:an):Nat:=1
def wM(e:an):Nat:=bif e.ar==2 then 3 else 2
def wT(e:an):Nat:=e.aM.xL.length
def nk(l:ak3 aH):Nat:=(l.filter fun x=> !(bL x.xFrom==[])).length
def wC(e:an):Nat:=bif e.ar==1||e.ar==2 then 0 else bif e.ar==3 then 1+nk e.xIdx else 1
theorem ae3:own wN:=fun _ _=>rfl
theorem ab5:own wM:=fun _ _=>rfl
theorem aeE:own wT:=fun _ _=>rfl
theorem ad0:own wC:=fun _ _=>rfl
theorem oP{e:an}(h:4≤e.ar):wC e=1:=by
 unfold wC;rw[beq_false_of_ne (show e.ar≠1 by omega),beq_false_of_ne (show e.ar≠2 by omega),beq_false_of_ne (show e.ar≠3 by omega)];rfl
theorem lr{e:an}(h:4≤e.ar):wM e=2:=by
 unfold wM;rw[beq_false_of_ne (show e.ar≠2 by omega)];rfl
theorem wu(e:an):2≤wM e:=by unfold wM;cases e.ar==2<;>simp
theorem GQ(w:an→Nat)(t:aC)(v:ay):W w (fS t v)=w (fS t v):=by rw[cD];show _+WL w []=_;rw[Fe];rfl
theorem Gv(w:an→Nat)(l:aF):W w (mb l)=w (mb l):=by rw[cD];show _+WL w []=_;rw[Fe];rfl
theorem iz(w:an→Nat)(op:Int)(l:ak3 an):W w (cy op l)=w (cy op l)+WL w l:=cD w _
theorem Si{f g:an→Nat}:∀{l:ak3 an},(∀x∈l,f x≤g x)→(l.map f).sum≤(l.map g).sum
 |[],_=>akq _
 |x::l,h=>by
  rw[akE,akE,List.sum_cons,List.sum_cons];have:=Si fun y hy=>h y (ako x hy);have:=h x akl;omega
theorem YZ{e x:an}(h:ff e x):W wM x<W wM e:=by
 cases h with
 |arg h0 h1=>rw[cD wM e];have:=jz (w:=wM) h1;have:=wu e;omega
 |kZ h0 h1 h2 h3=>rw[cD wM e];rename_i a;have h4:=jz (w:=wM) h1;have:=jz (w:=wM) h3;have:=wu e;rw[cD wM a]at h4;omega
 |val t v h0=>
  rw[GQ,cD wM e];show 2<_;rcases h0 with h0|h0
  ·have:wM e=3:=by unfold wM;rw[h0];rfl
   omega
  ·obtain⟨h0,h1⟩:=h0;obtain⟨y,hy⟩:=List.exists_mem_of_ne_nil _ h1;have:=jz (w:=wM) hy;have:=wu y;have:=wu e;rw[cD wM y]at*;omega
 |idx h0 h1 h2 h3 h4=>
  obtain⟨y,hy,GP⟩:=h4;rw[Gv,cD wM e];have:=jz (w:=wM) hy;have:=wu y;have:=wu e;rw[cD wM y]at*;show 3<_;omega
 |neg op h0 ho h1=>rw[iz,cD wM e,h1,ib,fj,lr h0,lr (show 4≤(cy op _).ar from ho)];have:=cD wM;rename_i a b;have:=wu a;rw[cD wM a];omega
 |two op h0 ho h1 h2 h3=>rename_i a b c;rw[iz,cD wM e,h1,fj,fj,cD wM b,h3,ib,lr h0,lr h2,lr (show 4≤(cy op _).ar from ho)];omega
 |zj op h0 ho h1 h2 h3=>rename_i a b c;rw[iz,cD wM e,h1,fj,fj,cD wM a,h3,ib,lr h0,lr h2,lr (show 4≤(cy op _).ar from ho)];omega
 |swap op h0 ho h1 h2 h3=>rename_i a x y;rw[iz,cD wM e,h1,ib,fj,cD wM a,h3,fj,lr h0,lr h2,lr (show 4≤(cy op _).ar from ho)];omega
 |three op h0 ho h1 h2 h3=>rename_i c a b x;rw[iz,cD wM e,h1,sq,sq,cD wM c,h3,ib,lr h0,lr h2,lr (show 4≤(cy op _).ar from ho)];omega
theorem ag2{e x:an}(h:ff e x):W wN x≤W wN e:=by
 cases h with
 |arg h0 h1=>rw[cD wN e];have:=jz (w:=wN) h1;omega
 |kZ h0 h1 h2 h3=>rename_i a;rw[cD wN e];have h4:=jz (w:=wN) h1;have h5:=jz (w:=wN) h3;rw[cD wN a]at h4;omega
 |val t v h0=>rw[GQ,cD wN e];show 1≤1+_;omega
 |idx h0 h1 h2 h3 h4=>rw[Gv,cD wN e];show 1≤1+_;omega
 |neg op h0 ho h1=>rename_i a b;rw[iz,cD wN e,h1,ib,fj];rw[show ∀l,wN (cy op l)=1 from fun _=>rfl];have:wN e=1:=rfl;omega
 |two op h0 ho h1 h2 h3=>rename_i a b c;rw[iz,cD wN e,h1,fj,fj,cD wN b,h3,ib];rw[show ∀l,wN (cy op l)=1 from fun _=>rfl];have:wN e=1:=rfl;omega
 |zj op h0 ho h1 h2 h3=>rename_i a b c;rw[iz,cD wN e,h1,fj,fj,cD wN a,h3,ib];rw[show ∀l,wN (cy op l)=1 from fun _=>rfl];have:wN e=1:=rfl;omega
 |swap op h0 ho h1 h2 h3=>rename_i a x y;rw[iz,cD wN e,h1,ib,fj,cD wN a,h3,fj];rw[show ∀l,wN (cy op l)=1 from fun _=>rfl];have:wN e=1:=rfl;omega
 |three op h0 ho h1 h2 h3=>rename_i c a b x;rw[iz,cD wN e,h1,sq,sq,cD wN c,h3,ib];rw[show ∀l,wN (cy op l)=1 from fun _=>rfl];have:wN e=1:=rfl;omega
theorem adG{e x:an}(h:ff e x):W wC x≤W wC e:=by
 cases h with
 |arg h0 h1=>rw[cD wC e];have:=jz (w:=wC) h1;omega
 |kZ h0 h1 h2 h3=>rename_i a;rw[cD wC e];have h4:=jz (w:=wC) h1;have h5:=jz (w:=wC) h3;rw[cD wC a]at h4;omega
 |val t v h0=>rw[GQ];exact Nat.zero_le _
 |idx h0 h1 h2 h3 h4=>rw[Gv];exact Nat.zero_le _
 |neg op h0 ho h1=>rename_i a b;rw[iz,cD wC e,h1,ib,fj];rw[show ∀l,wC (cy op l)=1 from fun l=>oP (e:=cy op l) ho,oP h0];omega
 |two op h0 ho h1 h2 h3=>rename_i a b c;rw[iz,cD wC e,h1,fj,fj,cD wC b,h3,ib];rw[show ∀l,wC (cy op l)=1 from fun l=>oP (e:=cy op l) ho,oP h0];omega
 |zj op h0 ho h1 h2 h3=>rename_i a b c;rw[iz,cD wC e,h1,fj,fj,cD wC a,h3,ib];rw[show ∀l,wC (cy op l)=1 from fun l=>oP (e:=cy op l) ho,oP h0];omega
 |swap op h0 ho h1 h2 h3=>rename_i a x y;rw[iz,cD wC e,h1,ib,fj,cD wC a,h3,fj];rw[show ∀l,wC (cy op l)=1 from fun l=>oP (e:=cy op l) ho,oP h0];omega
 |three op h0 ho h1 h2 h3=>rename_i c a b x;rw[iz,cD wC e,h1,sq,sq,cD wC c,h3,ib];rw[show ∀l,wC (cy op l)=1 from fun l=>oP (e:=cy op l) ho,oP h0];omega
theorem ai6{e x:an}(h:ff e x):W wT x≤W wT e:=by
 cases h with
 |arg h0 h1=>rw[cD wT e];have:=jz (w:=wT) h1;omega
 |kZ h0 h1 h2 h3=>rename_i a;rw[cD wT e];have h4:=jz (w:=wT) h1;have h5:=jz (w:=wT) h3;rw[cD wT a]at h4;omega
 |val t v h0=>rw[GQ];exact Nat.zero_le _
 |idx h0 h1 h2 h3 h4=>
  rename_i l
  rw[Gv,cD wT e];show l.xL.length≤_;have:(e.ax.map fun x=>x.aM.xL.length).sum≤WL wT e.ax:=Si fun x _=>by rw[cD wT x];exact akU _ _
  omega
 |neg op h0 ho h1=>rename_i a b;rw[iz,cD wT e,h1,ib,fj];rw[show ∀l,wT (cy op l)=0 from fun _=>rfl];omega
 |two op h0 ho h1 h2 h3=>rename_i a b c;rw[iz,cD wT e,h1,fj,fj,cD wT b,h3,ib];rw[show ∀l,wT (cy op l)=0 from fun _=>rfl];omega
 |zj op h0 ho h1 h2 h3=>rename_i a b c;rw[iz,cD wT e,h1,fj,fj,cD wT a,h3,ib];rw[show ∀l,wT (cy op l)=0 from fun _=>rfl];omega
 |swap op h0 ho h1 h2 h3=>rename_i a x y;rw[iz,cD wT e,h1,ib,fj,cD wT a,h3,fj];rw[show ∀l,wT (cy op l)=0 from fun _=>rfl];omega
 |three op h0 ho h1 h2 h3=>rename_i c a b x;rw[iz,cD wT e,h1,sq,sq,cD wT c,h3,ib];rw[show ∀l,wT (cy op l)=0 from fun _=>rfl];omega
theorem eu{α:Type}{b:Bool}{o:ak5 α}{x:α}(h:(bif b then o else none)=some x):b=true∧o=some x:=by
 cases b with
 |true=>exact⟨rfl,h⟩
 |false=>cases h
theorem iR{α:Type}{b:Bool}{o p:ak5 α}{x:α}(h:(bif b then o else p)=some x):(b=true∧o=some x)∨(b=false∧p=some x):=by
 cases b with
 |true=>exact .inl ⟨rfl,h⟩
 |false=>exact .inr ⟨rfl,h⟩
theorem oc{o:ak5 an}{s t:ak4}{r:Rw}{x:an}(h:jo o s r=some (x,t)):(o=some x∧s=t)∨r=some (x,t):=by
 unfold jo at h;cases o with
 |none=>exact .inr h
 |some y=>cases h;exact .inl ⟨rfl,rfl⟩
theorem aas{op:Int}(h:zZ op=true):4≤op∧op≤10∧op≠8:=by
 unfold zZ at h;simp only[Bool.or_eq_true,beq_iff_eq]at h;omega
theorem N3{t:aC}{r:ay×Int}{x:an}(h:pg t r=some x):x=fS t r.1∧r.2=0:=by
 obtain⟨h1,h2⟩:=eu h;cases h2
 exact⟨rfl,by simpa using h1⟩
theorem Jx{r:X aF}{x:an}(h:iW r=some x):∃l,r= .ok l∧x=mb l:=by
 unfold iW at h;cases r with
 |ok l=>cases h;exact⟨l,rfl,rfl⟩
 |error e=>cases h
def rk(e:an):Prop:=(e.ax.length:Int)=kf e.ar∧∀a∈e.ax,(a.ax.length:Int)=kf a.ar
theorem Pv{a:an}(h:(a.ax.length:Int)=kf a.ar)(h1:kf a.ar=1):∃x,a.ax=[x]:=by
 rw[h1]at h
 match a.ax,h with
 |[x],_=>exact⟨x,rfl⟩
 |[],h=>simp at h
 |_::_::_,h=>simp at h;omega
theorem abY{e x:an}(h:tV e=some x):ff e x:=by
 unfold tV at h;split at h
 ·rename_i a ha
  obtain⟨h1,h2⟩:=eu h;obtain⟨rfl,_⟩:=N3 h2;simp only[akh,beq_iff_eq]at h1;exact .val _ _ (.inr ⟨by omega,by rw[ha];simp⟩)
 ·rename_i a b ha
  obtain⟨h1,h2⟩:=eu h;obtain⟨rfl,_⟩:=N3 h2;simp only[akh,beq_iff_eq]at h1;exact .val _ _ (.inr ⟨(aas h1.1).1,by rw[ha];simp⟩)
 ·cases h
theorem ach{e x:an}(h:uw e=some x):ff e x:=by
 unfold uw at h;split at h
 ·rename_i a ha
  obtain⟨h1,h2⟩:=eu h;have ho:e.ar=12:=by simpa using h1
  rcases iR h2 with⟨_,h3⟩|⟨_,h3⟩
  ·obtain⟨rfl,_⟩:=N3 h3;exact .val _ _ (.inr ⟨by omega,by rw[ha];simp⟩)
  ·obtain⟨_,h4⟩:=eu h3;cases h4
   exact .arg (by omega) (by rw[ha];simp)
 ·cases h
theorem Y8{e x:an}(h:uv e=some x):ff e x:=by
 unfold uv at h;rcases iR h with⟨h1,h2⟩|⟨h1,h2⟩
 ·obtain⟨_,h3⟩:=eu h2;cases h3
  exact .val _ _ (.inl (by simpa using h1))
 ·split at h2
  ·rename_i a ha
   obtain⟨h3,h4⟩:=eu h2;simp only[akh,beq_iff_eq]at h3;obtain⟨l,h5,rfl⟩:=Jx h4;have:=Ar h5;exact .idx (by omega) (by rw[ha];simp) (by rw[ha];simp;omega) (by rw[ha];simp;omega) (by rw[ha];simp;omega)
  ·rename_i a b ha
   rcases iR h2 with⟨h3,h4⟩|⟨h3,h4⟩
   ·simp only[Bool.or_eq_true,beq_iff_eq]at h3;unfold zF at h4;split at h4
    ·rename_i f g hf hg
     obtain⟨h5,h6⟩:=eu h4;simp only[Bool.or_eq_true,beq_iff_eq]at h5;obtain⟨l,h7,rfl⟩:=Jx h6;have l1:=Mh hf;have l2:=Mh hg;have l3:l.xL.length≤f.xL.length+g.xL.length:=by
      cases h8:e.ar==5 with
      |true=>rw[h8]at h7;exact ae8 h7
      |false=>rw[h8]at h7;exact Qu h7
     have fo:∀{y:an}{q:aF},jq y=some q→y.ar=1∨y.ar=2:=fun{y q} hq=>by
      unfold jq at hq;rcases iR hq with⟨h9,_⟩|⟨_,h9⟩
      ·exact .inr (by simpa using h9)
      ·obtain⟨az,_⟩:=eu h9;simp only[akh,beq_iff_eq]at az;exact .inl az.1
     refine .idx (by omega) (by rw[ha];simp) (by rw[ha];simp;omega) ?_ ?_
     ·rw[ha];intro y hy;simp only[akJ,akV,or_false]at hy;rcases hy with rfl|rfl
      ·exact fo hf
      ·exact fo hg
     ·rw[ha];rcases h5 with h5|h5
      ·exact⟨a,by simp,h5⟩
      ·exact⟨b,by simp,h5⟩
    ·cases h4
   ·obtain⟨h5,h6⟩:=eu h4;have ho:e.ar=6:=by simpa using h5
    unfold pQ at h6;rcases iR h6 with⟨h7,h8⟩|⟨_,h8⟩
    ·obtain⟨l,h9,rfl⟩:=Jx h8;have:=Ar h9;simp only[gG,akh,beq_iff_eq]at h7;exact .idx (by omega) (by rw[ha];simp) (by rw[ha];simp;omega) (by rw[ha];simp;omega) (by rw[ha];simp;omega)
    ·obtain⟨h7,h8⟩:=eu h8;obtain⟨l,h9,rfl⟩:=Jx h8;have:=Ar h9;simp only[gG,akh,beq_iff_eq]at h7;exact .idx (by omega) (by rw[ha];simp) (by rw[ha];simp;omega) (by rw[ha];simp;omega) (by rw[ha];simp;omega)
  ·cases h2
theorem abC{e x:an}(h:su e=some x):ff e x:=by
 unfold su at h;split at h
 ·rename_i c a b ha
  obtain⟨h1,h2⟩:=eu h;simp only[akh,beq_iff_eq]at h1;cases h2
  refine .arg (by omega) ?_;rw[ha];cases (et c).1<;>simp
 ·cases h
theorem adM{e x:an}(h:sF e=some x):ff e x:=by
 unfold sF at h;split at h
 ·rename_i c a b ha
  obtain⟨h1,h2⟩:=eu h;simp only[akh,beq_iff_eq]at h1;cases h2
  exact .arg (by omega) (by rw[ha];simp)
 ·rename_i a b ha
  obtain⟨h1,h2⟩:=eu h;simp only[akh,Bool.or_eq_true,beq_iff_eq]at h1;cases h2
  exact .arg (by omega) (by rw[ha];simp)
 ·cases h
theorem ai3{e x:an}(h:sB e=some x):ff e x:=by
 unfold sB at h;split at h
 ·rename_i a b ha
  have A:∀y,4≤e.ar→y=a∨y=b→ff e y:=fun y h1 h2=> .arg h1 (by rw[ha];rcases h2 with rfl|rfl<;>simp);rcases iR h with⟨h1,h2⟩|⟨_,h⟩
  ·have ho:e.ar=4:=by simpa using h1
   rcases iR h2 with⟨_,h3⟩|⟨_,h3⟩
   ·cases h3;exact A _ (by omega) (.inl rfl)
   ·obtain⟨_,h4⟩:=eu h3;cases h4;exact A _ (by omega) (.inr rfl)
  ·rcases iR h with⟨h1,h2⟩|⟨_,h⟩
   ·have ho:e.ar=5:=by simpa using h1
    rcases iR h2 with⟨_,h3⟩|⟨_,h3⟩
    ·cases h3;exact A _ (by omega) (.inl rfl)
    ·obtain⟨_,h4⟩:=eu h3;cases h4;exact .neg 8 (by omega) (by decide) ha
   ·rcases iR h with⟨h1,h2⟩|⟨_,h⟩
    ·have ho:e.ar=6:=by simpa using h1
     rcases iR h2 with⟨_,h3⟩|⟨_,h3⟩
     ·cases h3;exact A _ (by omega) (.inr rfl)
     ·obtain⟨_,h4⟩:=eu h3;cases h4;exact A _ (by omega) (.inl rfl)
    ·obtain⟨h1,h2⟩:=eu h;have ho:e.ar=7:=by simpa using h1
     obtain⟨_,h4⟩:=eu h2;cases h4;exact A _ (by omega) (.inl rfl)
 ·cases h
theorem agE{e x:an}(h:sw e=some x):ff e x:=by
 unfold sw at h;split at h
 ·rename_i a b ha
  have A:∀y,4≤e.ar→y=a∨y=b→ff e y:=fun y h1 h2=> .arg h1 (by rw[ha];rcases h2 with rfl|rfl<;>simp);rcases iR h with⟨h1,h2⟩|⟨_,h⟩
  ·have ho:e.ar=6:=by simpa using h1
   rcases iR h2 with⟨_,h3⟩|⟨_,h3⟩
   ·cases h3;exact A _ (by omega) (.inl rfl)
   ·obtain⟨_,h4⟩:=eu h3;cases h4;exact A _ (by omega) (.inr rfl)
  ·obtain⟨h1,h2⟩:=eu h;have ho:e.ar=7:=by simpa using h1
   obtain⟨_,h4⟩:=eu h2;cases h4;exact A _ (by omega) (.inl rfl)
 ·cases h
theorem ajF{e x:an}{k:Kn}(h:tO e k=some x):ff e x:=by
 unfold tO at h;split at h
 ·rename_i a b ha
  obtain⟨h1,h2⟩:=eu h;simp only[akh,Bool.or_eq_true,beq_iff_eq]at h1;rcases iR h2 with⟨_,h3⟩|⟨_,h3⟩
  ·cases h3;exact .val _ _ (.inr ⟨by omega,by rw[ha];simp⟩)
  ·obtain⟨_,h4⟩:=eu h3;cases h4;exact .val _ _ (.inr ⟨by omega,by rw[ha];simp⟩)
 ·cases h
theorem QQ{l:ak3 an}{x:an}(h:l[0]?=some x):x∈l:=aks h
theorem agS{e x:an}{k:Kn}(hr:rk e)(h:sR e k=some x):ff e x:=by
 unfold sR at h;obtain⟨_,h⟩:=eu h;split at h
 ·rename_i a ha
  obtain⟨h1,h2⟩:=eu h;simp only[akh,beq_iff_eq]at h1;exact .kZ (by omega) (by rw[ha];simp) (by omega) (QQ h2)
 ·rename_i a b ha
  have one:∀y,y=a∨y=b→y.ar=8→∃c,y.ax=[c]:=fun y hy ho=>Pv (hr.2 y (by rw[ha];rcases hy with rfl|rfl<;>simp)) (by rw[ho];rfl);rcases iR h with⟨h1,h⟩|⟨_,h⟩
  ·have ho:e.ar=4:=by simpa using h1
   rcases iR h with⟨h2,h⟩|⟨_,h⟩
   ·have hb:b.ar=8:=by simpa using h2
    obtain⟨c,hc⟩:=one b (.inr rfl) hb;rw[hc]at h;cases h
    exact .two 5 (by omega) (by decide) ha (by omega) hc
   ·obtain⟨h2,h⟩:=eu h;have hb:a.ar=8:=by simpa using h2
    obtain⟨c,hc⟩:=one a (.inl rfl) hb;rw[hc]at h;cases h
    exact .zj 5 (by omega) (by decide) ha (by omega) hc
  ·obtain⟨h1,h⟩:=eu h;simp only[akh,beq_iff_eq]at h1;obtain⟨c,hc⟩:=one b (.inr rfl) h1.2;rw[hc]at h;cases h
   exact .two 4 (by omega) (by decide) ha (by omega) hc
 ·cases h
theorem ah9{e x:an}(hr:rk e)(h:sE e=some x):ff e x:=by
 unfold sE at h;split at h
 ·rename_i c a b ha
  obtain⟨h1,h⟩:=eu h;simp only[akh,beq_iff_eq]at h1;obtain⟨y,hy⟩:=Pv (hr.2 c (by rw[ha];simp)) (by rw[h1.2];rfl);rw[hy]at h;cases h
  exact .three 11 (by omega) (by decide) ha (by omega) hy
 ·rename_i c ha
  obtain⟨h1,h⟩:=eu h;have ho:e.ar=18:=by simpa using h1
  rcases iR h with⟨h2,h⟩|⟨_,h⟩
  ·have hb:c.ar=18:=by simpa using h2
   exact .kZ (by omega) (by rw[ha];simp) (by omega) (QQ h)
  ·rcases iR h with⟨h2,h⟩|⟨_,h⟩
   ·have hb:c.ar=13:=by simpa using h2
    split at h
    ·rename_i p q hp
     cases h
     exact .swap 14 (by omega) (by decide) ha (by omega) hp
    ·cases h
   ·obtain⟨h2,h⟩:=eu h;have hb:c.ar=14:=by simpa using h2
    split at h
    ·rename_i p q hp
     cases h
     exact .swap 13 (by omega) (by decide) ha (by omega) hp
    ·cases h
 ·cases h
theorem abo{e x:an}(h:uz e=some x):ff e x:=by
 unfold uz at h;split at h
 ·rename_i a b ha
  obtain⟨h1,h⟩:=eu h;simp only[Bool.or_eq_true,beq_iff_eq]at h1;rcases iR h with⟨_,h⟩|⟨_,h⟩
  ·cases h;exact .arg (by omega) (by rw[ha];simp)
  ·obtain⟨_,h⟩:=eu h;cases h;exact .arg (by omega) (by rw[ha];simp)
 ·cases h
theorem Xc{e x:an}{k:Kn}{s:ak4}(hr:rk e)(h:m3 e k=some (x,s)):ff e x:=by
 unfold m3 at h;rcases oc h with⟨h,_⟩|h
 ·exact abY h
 rcases oc h with⟨h,_⟩|h
 ·exact ach h
 rcases oc h with⟨h,_⟩|h
 ·exact Y8 h
 rcases oc h with⟨h,_⟩|h
 ·exact abC h
 rcases oc h with⟨h,_⟩|h
 ·exact adM h
 rcases oc h with⟨h,_⟩|h
 ·exact ai3 h
 rcases oc h with⟨h,_⟩|h
 ·exact agE h
 rcases oc h with⟨h,_⟩|h
 ·exact ajF h
 rcases oc h with⟨h,_⟩|h
 ·exact agS hr h
 rcases oc h with⟨h,_⟩|h
 ·exact ah9 hr h
 rcases oc h with⟨h,_⟩|h
 ·exact abo h
 cases h
theorem KY{rec:an→Kn→Rw}{e x:an}{k:Kn}{s:ak4}:∀(l:ak3 an)(i:Nat),e.ax.drop i=l→jv rec e k i l=some (x,s)→
 ∃j a y,e.ax[j]?=some a∧rec a (qm e k j)=some (y,s)∧x=tu e j y
 |[],i,_,h=>by cases h
 |a::l,i,hd,h=>by
  rw[jv]at h;cases hr:rec a (qm e k i)with
  |some r=>rw[hr]at h;cases h;exact⟨i,a,r.1,cd hd,by rw[hr],rfl⟩
  |none=>rw[hr]at h;exact KY l (i+1) (iZ hd) h
def ld(e:an):Prop:=∀y∈cz e,(y.ax.length:Int)=kf y.ar
theorem ld.arg{e x:an}(h:ld e)(hx:x∈e.ax):ld x:=fun y hy=>h y (j8 hx hy)
theorem rG(e:an):e∈cz e:=akl
theorem ld.rk{e:an}(h:ld e):rk e:=⟨h e (rG e),fun a ha=>h a (j8 ha (rG a))⟩
theorem Pc{w:an→Nat}(hw:own w){R:Nat→Nat→Prop}(hR:∀a b p q:Nat,R a b→p+b=q+a→R p q)(HB:∀{e x:an},ff e x→R (W w x) (W w e)):
 ∀(d:Nat)(e x:an)(k:Kn)(s:ak4),ld e→kE d e k=some (x,s)→R (W w x) (W w e)
 |0,_,_,_,_,_,h=>by cases h
 |d+1,e,x,k,s,hr,h=>by
  rw[kE]at h;cases h1:m3 e k with
  |some r=>rw[h1]at h;cases h;exact HB (Xc hr.rk (by rw[h1]))
  |none=>
   rw[h1]at h;obtain⟨j,a,y,h2,h3,rfl⟩:=KY e.ax 0 rfl h;have ih:=Pc hw hR HB d a y _ s (hr.arg (aks h2)) h3;exact hR _ _ _ _ ih (aiT hw y h2)
theorem N9:∀(d d':Nat)(e:an)(k:Kn),SizeOf.sizeOf e≤d→SizeOf.sizeOf e≤d'→kE d e k=kE d' e k
 |0,_,e,_,h,_=>by cases e;simp at h
 |_,0,e,_,_,h=>by cases e;simp at h
 |d+1,d'+1,e,k,h,h'=>by
  rw[kE,kE];have ih:∀(l:ak3 an)(i:Nat),(∀x∈l,x∈e.ax)→jv (kE d) e k i l=jv (kE d') e k i l:=fun l=>by
    induction l with
    |nil=>intro i _;rfl
    |cons x l ih=>
     intro i hl;have hx:=fw (hl x akl);rw[jv,jv,N9 d d' x _ (by omega) (by omega),ih _ fun y hy=>hl y (ako _ hy)]
  rw[ih e.ax 0 fun x hx=>hx]
theorem To(e:an)(k:Kn):iM e k=match m3 e k with
 |some r=>some r
 |none=>jv iM e k 0 e.ax:=by
 unfold iM;rw[N9 _ (SizeOf.sizeOf e+1) e k (akq _) (Nat.le_succ _),kE];have ih:∀(l:ak3 an)(i:Nat),(∀x∈l,x∈e.ax)→jv (kE (SizeOf.sizeOf e)) e k i l=jv (fun e k=>kE (SizeOf.sizeOf e) e k) e k i l:=fun l=>by
  induction l with
  |nil=>intro i _;rfl
  |cons x l ih=>
   intro i hl;have hx:=fw (hl x akl);rw[jv,jv,N9 (SizeOf.sizeOf e) (SizeOf.sizeOf x) x _ (by omega) (akq _),ih _ fun y hy=>hl y (ako _ hy)]
 rw[ih e.ax 0 fun x hx=>hx]<;>rfl
theorem Qs:∀l:ak3 an,ju l=0→∀x∈l,mr x=0
 |[],_,x,hx=>by cases hx
 |y::l,h,x,hx=>by
  rw[ju]at h;cases hy:mr y !=0 with
  |true=>
   rw[hy]at h;simp only[cond_true]at h;rw[h]at hy;cases hy
  |false=>
   rw[hy]at h;rcases akJ.1 hx with rfl|hx
   ·rw[fE]at hy;simpa using hy
   ·exact Qs l h x hx
def vE(e:an):Prop:=∀y∈cz e,mr y=0
theorem vE.arg{e x:an}(h:vE e)(hx:x∈e.ax):vE x:=fun y hy=>h y (j8 hx hy)
structure u7(e:an):Prop where
 plain:mF e=true
 named:qF e=true
 R7:mS e=true
 typed:lx e=true
 formed:vC e=true
theorem HC{x:an}(h:mr x=0):u7 x:=by
 unfold mr at h;cases p:mF x<;>rw[p]at h
 ·cases h
 cases q:qF x<;>rw[q]at h
 ·cases h
 cases r:mS x<;>rw[r]at h
 ·cases h
 cases s:lx x<;>rw[s]at h
 ·cases h
 cases t:vC x<;>rw[t]at h
 ·cases h
 exact⟨p,q,r,s,t⟩
theorem AS{e:an}(h:iQ e=0):vE e∧gw 40 e≤40∧(cz e).length≤2000:=by
 unfold iQ at h;cases h1:decide (40<gw 40 e)with
 |true=>rw[h1]at h;cases h
 |false=>
  cases h2:decide (2000<(cz e).length)with
  |true=>rw[h1,h2]at h;cases h
  |false=>
   rw[h1,h2]at h;exact⟨fun x hx=>Qs (cz e) h x hx,by simpa using h1,by simpa using h2⟩
theorem vE.ld{e:an}(h:vE e):ld e:=fun y hy=>by
 have:=(HC (h y hy)).R7;unfold mS at this;rw[akh,beq_iff_eq]at this;exact this.1
theorem tv{t:aC}{e x:an}{s:ak4}(h:eO t e=some (x,s)):cS t=true∧iQ e=0∧iM e ⟨t,!eB e⟩=some (x,s):=by
 obtain⟨h1,h2⟩:=eu h;simp only[akh,beq_iff_eq]at h1;exact⟨h1.1,h1.2,h2⟩
theorem aeW{t:aC}{e x:an}{s:ak4}(h:eO t e=some (x,s)):W wM x<W wM e:=by
 obtain⟨_,h1,h2⟩:=tv h;exact Pc (R:=fun a b=>a<b) ab5 (fun a b p q h e=>by omega) YZ _ e x _ s (AS h1).1.ld h2
theorem LJ{w:an→Nat}(hw:own w)(HB:∀{e x:an},ff e x→W w x≤W w e){t:aC}{e x:an}{s:ak4}(h:eO t e=some (x,s)):W w x≤W w e:=by
 obtain⟨_,h1,h2⟩:=tv h;exact Pc (R:=fun a b=>a≤b) hw (fun a b p q h e=>by omega) HB _ e x _ s (AS h1).1.ld h2
theorem ahh{P:an→Prop}(lU:∀t v,P (fS t v))(nJ:∀l,P (mb l))(fm:∀op l,4≤op→l.length≤3→P (cy op l)){e x:an}(h:ff e x)(he:∀y∈cz e,P y):∀y∈cz x,P y:=by
 have hA:∀{a:an},a∈e.ax→∀y∈cz a,P y:=fun ha y hy=>he y (j8 ha hy);have hO:∀op l,4≤op→l.length≤3→(∀a∈l,∀y∈cz a,P y)→∀y∈cz (cy op l),P y:=fun op l ho hl ha y hy=>by
  rcases akJ.1 hy with rfl|hy
  ·exact fm op l ho hl
  ·obtain⟨a,h1,h2⟩:=BE hy;exact ha a h1 y h2
 cases h with
 |arg h0 h1=>exact hA h1
 |kZ h0 h1 h2 h3=>exact fun y hy=>hA h1 y (j8 h3 hy)
 |val t v h0=>exact fun y hy=>by rcases akJ.1 hy with rfl|hy;exact lU t v;exact absurd hy (by rw[show(fS t v).ax=[]from rfl,iG];simp)
 |idx h0 h1 h2 h3 h4=>rename_i l;exact fun y hy=>by rcases akJ.1 hy with rfl|hy;exact nJ l;exact absurd hy (by rw[show(mb l).ax=[]from rfl,iG];simp)
 |neg op h0 ho h1=>exact hO _ _ ho (by simp) fun a ha=>by simp at ha;subst ha;exact hA (by rw[h1];simp)
 |two op h0 ho h1 h2 h3=>
  rename_i a b c
  exact hO _ _ ho (by simp) fun z hz=>by
   simp at hz;rcases hz with rfl|rfl
   ·exact hA (by rw[h1];simp)
   ·exact fun y hy=>hA (a:=b) (by rw[h1];simp) y (j8 (x:=z) (by rw[h3];simp) hy)
 |zj op h0 ho h1 h2 h3=>
  rename_i a b c
  exact hO _ _ ho (by simp) fun z hz=>by
   simp at hz;rcases hz with rfl|rfl
   ·exact hA (by rw[h1];simp)
   ·exact fun y hy=>hA (a:=a) (by rw[h1];simp) y (j8 (x:=z) (by rw[h3];simp) hy)
 |swap op h0 ho h1 h2 h3=>
  rename_i a p q
  exact hO _ _ ho (by simp) fun z hz=>by
   simp at hz;exact fun y hy=>hA (a:=a) (by rw[h1];simp) y (j8 (x:=z) (by rw[h3];rcases hz with rfl|rfl<;>simp) hy)
 |three op h0 ho h1 h2 h3=>
  rename_i c a b p
  exact hO _ _ ho (by simp) fun z hz=>by
   simp at hz;rcases hz with rfl|rfl|rfl
   ·exact fun y hy=>hA (a:=c) (by rw[h1];simp) y (j8 (x:=z) (by rw[h3];simp) hy)
   ·exact hA (by rw[h1];simp)
   ·exact hA (by rw[h1];simp)
theorem Vx{P:an→Prop}(lU:∀t v,P (fS t v))(nJ:∀l,P (mb l))(fm:∀op l,4≤op→l.length≤3→P (cy op l))(FW:∀e i x,P e→P (tu e i x)):
 ∀(d:Nat)(e x:an)(k:Kn)(s:ak4),ld e→kE d e k=some (x,s)→(∀y∈cz e,P y)→∀y∈cz x,P y
 |0,_,_,_,_,_,h,_=>by cases h
 |d+1,e,x,k,s,hr,h,he=>by
  rw[kE]at h;cases h1:m3 e k with
  |some r=>rw[h1]at h;cases h;exact ahh lU nJ fm (Xc hr.rk (by rw[h1])) he
  |none=>
   rw[h1]at h;obtain⟨j,a,z,h2,h3,rfl⟩:=KY e.ax 0 rfl h;have ha:=aks h2;have ih:=Vx lU nJ fm FW d a z _ s (hr.arg ha) h3 fun y hy=>he y (j8 ha hy);intro y hy;rcases akJ.1 hy with rfl|hy
   ·exact FW e j z (he e (rG e))
   ·obtain⟨b,h4,h5⟩:=BE hy;have h4':b∈e.ax.set j z:=h4;rcases List.mem_or_eq_of_mem_set h4' with h4|rfl
    ·exact he y (j8 h4 h5)
    ·exact ih y h5
theorem Ty{P:an→Prop}(lU:∀t v,P (fS t v))(nJ:∀l,P (mb l))(fm:∀op l,4≤op→l.length≤3→P (cy op l))(FW:∀e i x,P e→P (tu e i x))
 {t:aC} {e x:an} {s:ak4} (h:eO t e=some (x,s)) (he:∀y∈cz e,P y):∀y∈cz x,P y:=by
 obtain⟨_,h1,h2⟩:=tv h;exact Vx lU nJ fm FW _ e x _ s (AS h1).1.ld h2 he
theorem s8{a b:Int64}(h1: -9223372036854775808≤a.toInt+b.toInt)(h2:a.toInt+b.toInt≤9223372036854775807):(a+b).toInt=a.toInt+b.toInt:=by rw[Es,IntKind.wrap_i64];omega
theorem nh{a b:Int64}(h1: -9223372036854775808≤a.toInt-b.toInt)(h2:a.toInt-b.toInt≤9223372036854775807):(a-b).toInt=a.toInt-b.toInt:=by rw[I2,IntKind.wrap_i64];omega
theorem pG{a b:Int64}(h1: -9223372036854775808≤a.toInt*b.toInt)(h2:a.toInt*b.toInt≤9223372036854775807):(a*b).toInt=a.toInt*b.toInt:=by rw[HL,IntKind.wrap_i64];omega
theorem pj{a:Int64}(h1: -9223372036854775807≤a.toInt):(-a).toInt= -a.toInt:=by
 have:=Int64.toInt_lt a;rw[Int64.toInt_neg,Int.bmod_def];omega
theorem uY{a b A B:Int}(ha: -A≤a)(Ui:a≤A)(hb: -B≤b)(eW:b≤B): -(A*B)≤a*b∧a*b≤A*B:=by
 have h1:a.natAbs≤A.natAbs:=by omega
 have h2:b.natAbs≤B.natAbs:=by omega
 have h3:(a*b).natAbs≤(A*B).natAbs:=by rw[Int.natAbs_mul,Int.natAbs_mul];exact Nat.mul_le_mul h1 h2
 have h4:0≤A*B:=Int.mul_nonneg (by omega) (by omega);omega
theorem ZS:∀n:Fin 31,IntKind.u64.wrap (n.val:Int)=(n.val:Int)∧(Int64.ofInt ((1:Int)*2^(min n.val (IntKind.bits .i64)))).toInt=2^n.val∧min n.val (IntKind.bits .i64)=n.val:=by decide+kernel
theorem An{f:Int}(h1:0≤f)(h2:f≤30):IntKind.u64.wrap f=f∧(Int64.ofInt ((1:Int)*2^(min f.toNat (IntKind.bits .i64)))).toInt=2^f.toNat∧min f.toNat (IntKind.bits .i64)=f.toNat:=by
 obtain⟨n,rfl⟩:∃n:Nat,f=n:=⟨f.toNat,by omega⟩;have:=ZS ⟨n,by omega⟩
 simpa using this
theorem aha:∀n:Fin 30,(decide ((0:Int)≤(IntKind.u64.wrap (aQ ((64:Int)-((n.val+2:Nat):Int))))))=true∧min ((IntKind.u64.wrap (aQ ((64:Int)-((n.val+2:Nat):Int))))).toNat (IntKind.bits .u64)=62-n.val∧
 min ((IntKind.u64.wrap (aQ ((64:Int)-((n.val+2:Nat):Int))))).toNat (IntKind.bits .i64)=62-n.val∧(2:Int)^(62-n.val)*(2*2^(n.val+1))=18446744073709551616∧(0:Int)<2^(62-n.val):=by decide+kernel
theorem aeJ{b:Int}(h1:2≤b)(h2:b≤31):∃k:Nat,(decide ((0:Int)≤(IntKind.u64.wrap (aQ ((64:Int)-b)))))=true∧min ((IntKind.u64.wrap (aQ ((64:Int)-b)))).toNat (IntKind.bits .u64)=k∧
 min ((IntKind.u64.wrap (aQ ((64:Int)-b)))).toNat (IntKind.bits .i64)=k∧(2:Int)^k*(2*2^(b-1).toNat)=18446744073709551616∧(0:Int)<2^k:=by
 obtain⟨n,rfl⟩:∃n:Nat,b=n:=⟨b.toNat,by omega⟩;have:=aha ⟨n-2,by omega⟩;simp only[show n-2+2=n by omega,show n-2+1=n-1 by omega]at this;rw[show((n:Int)-1).toNat=n-1 by omega];exact⟨_,this⟩
theorem Kd(n:Int64):Int64.ofInt n.toInt=n:=Bc (by rw[oF,IntKind.wrap_i64];have:=iU n;omega)
theorem oT{q:Int64}{z:Int}(h:q.toInt=z):q=Int64.ofInt z:=by rw[←h,Kd]
theorem zu(N:Nat){t:aC}(F:ra t)(n:Int64):lK N t n=some (jG t n.toInt):=by
 obtain⟨f1,f2,f3,f4,f5,f6⟩:=JC F.b1 F.b2;obtain⟨k,u1,u2,u3,u4,u5⟩:=aeJ F.b1 F.b2;have hH:=H4 F;unfold lK He AD yL vF;rw[dq,ake,ake,kF,akW F.b1,akW F.b2];simp only[Bool.and_self,cond_true];rw[f1,u1];simp only[cond_true,ake];rw[f3,f4,u2,u3]
 change _=some (⟨Int64.ofInt (mv (t.bM==2) (b8 t) n.toInt),1⟩:ay)
 have mW:(-(Int64.ofInt ((1:Int)*2^(min ((IntKind.u64.wrap (aQ (t.bz-(1:Int))))).toNat (IntKind.bits .i64)))))=Int64.ofInt (-b8 t):=oT f3;have yz:((Int64.ofInt ((1:Int)*2^(min ((IntKind.u64.wrap (aQ (t.bz-(1:Int))))).toNat (IntKind.bits .i64))))-(1:Int64))=Int64.ofInt (b8 t-1):=oT f4;rw[mW,yz];rw[kF,dq];have hr:(decide (-(2^(t.bz-1).toNat)≤n.toInt)&&decide (n.toInt≤2^(t.bz-1).toNat-1))=(decide (-b8 t≤n.toInt)&&decide (n.toInt≤b8 t-1)):=rfl;have hm:(t.bM !=1&&t.bM !=2)=false:=by rcases F.o with h|h<;>rw[h]<;>rfl
 rw[hm];simp only[ake,cond_false];rw[dq,hr];by_cases h1: -b8 t≤n.toInt
 ·by_cases h2:n.toInt≤b8 t-1
  ·rw[akW h1,akW h2,aaw (by omega) h1 h2,Kd];rfl
  ·rw[akW h1,akX h2];simp only[Bool.and_false,cond_false];rcases F.o with ho|ho
   ·rw[ho,akX (show ¬n.toInt< -2^(t.bz-1).toNat from fun h=>by have:n.toInt< -b8 t:=h;omega)];simp only[akY,cond_true,ake,cond_false];rw[show((1:Int)==2)=false from rfl];unfold mv;simp only[cond_false];rw[show max (-b8 t) (min (b8 t-1) n.toInt)=b8 t-1 by omega]
   ·rw[ho];show some (⟨Int64.ofInt (((Int64.ofInt _).toInt).fdiv (2^k)),1⟩:ay)=_;rw[oF,IntKind.wrap_i64,jK,jK,Int.fdiv_eq_ediv_of_nonneg _ (by omega),Int.mul_emod,Int.emod_emod,←Int.mul_emod,V3 u4 u5 (by unfold b8 at hH;omega)];rfl
 ·rw[akX h1];simp only[Bool.false_and,cond_false];rcases F.o with ho|ho
  ·have a7:n.toInt< -b8 t:=by omega
   rw[ho,akW (show n.toInt< -2^(t.bz-1).toNat from a7)];simp only[akY,cond_true,ake];rw[show((1:Int)==2)=false from rfl];unfold mv;simp only[cond_false];rw[show max (-b8 t) (min (b8 t-1) n.toInt)= -b8 t by omega];rfl
  ·rw[ho];show some (⟨Int64.ofInt (((Int64.ofInt _).toInt).fdiv (2^k)),1⟩:ay)=_;rw[oF,IntKind.wrap_i64,jK,jK,Int.fdiv_eq_ediv_of_nonneg _ (by omega),Int.mul_emod,Int.emod_emod,←Int.mul_emod,V3 u4 u5 (by unfold b8 at hH;omega)];rfl
theorem Wg(N:Nat)(hN:2147483648<N){t:aC}(v:ay)(ht:cS t=true)(hk:t.a8=2):pa N t v=some (cZ t v):=by
 have h:=uE N hN t v ht;unfold mK at h;rw[o8,ht,ake,hk]at h;have h':Option.bind (pa N t v) (fun x=>some x)=some (cZ t v):=h;cases hx:pa N t v with
 |none=>rw[hx]at h';cases h'
 |some b=>rw[hx]at h';exact h'
def sZ:aC:=⟨1,0,0,0,0⟩
theorem Mm:cS sZ=true:=rfl
theorem mB(N:Nat)(hN:2147483648<N)(v:ay):im N v=some (cZ sZ v):=by
 have h:=uE N hN sZ v Mm;unfold mK at h;rw[o8,Mm,ake]at h;have h':Option.bind (im N v) (fun x=>some x)=some (cZ sZ v):=h;cases hx:im N v with
 |none=>rw[hx]at h';cases h'
 |some b=>rw[hx]at h';exact h'
theorem eX.ok{v:ay}(h:eX v):cZ sZ v=true:=by
 unfold cZ;show(decide (v.xN.toInt≤2147483647)&&(decide (-2147483647≤v.xN.toInt)&&(decide (1≤v.xD.toInt)&&(decide (v.xD.toInt≤2147483647)&&(Nat.gcd v.xN.toInt.natAbs v.xD.toInt.toNat==1)))))=true;rw[akW h.n2,akW h.n1,akW h.d1,akW h.d2,h.g];rfl
theorem Qd(N:Nat)(hN:2147483648<N){t:aC}(ht:cS t=true)(hk:t.a8=2):∀(l:ak3 ay)(k:Nat),(∀v∈l,cZ t v=true)→vc N t l k=some 0
 |[],_,_=>rfl
 |v::l,k,h=>by
  rw[vc,Wg N hN v ht hk,h v akl];exact Qd N hN ht hk l (k+1) fun x hx=>h x (ako _ hx)
theorem Qg(N:Nat){t:aC}(ht:cS t=true)(hk:t.a8=2):qU N t=some 0:=by
 have F:=ie ht hk;have ho:(t.bM==1||t.bM==2)=true:=by rcases F.o with h|h<;>rw[h]<;>rfl
 rw[OB N t (by rw[hk];rfl),akW F.b1,akW F.b2,akW F.f1,akW F.f2,akW F.r1,akW F.r2,ho];rfl
theorem RI(N:Nat)(hN:2147483648<N){t:aC}(ht:cS t=true)(hk:t.a8=2){l:ak3 ay}(h:∀v∈l,cZ t v=true):nD N t l=some 0:=by
 unfold nD;rw[Qg N ht hk,ake];exact Qd N hN ht hk l 0 h
theorem aaF{a b:Nat}(hb:0<b)(ha:a≤9223372036854775808)(j9:b≤9223372036854775808)(neg:Bool)(how:Int):rQ (a:Int) (b:Int) neg how=((ly a b neg how:Nat):Int):=by
 have hq:a / b≤a:=Nat.div_le_self _ _;have hr:a%b<b:=Nat.mod_lt _ hb;have e1:IntKind.u64.wrap ((a:Int).tdiv (b:Int))=((a / b:Nat):Int):=by rw[←Int.ofNat_tdiv,jK];generalize a / b=q at*;omega
 have e2:(a:Int).tmod (b:Int)=((a%b:Nat):Int):=(Int.ofNat_tmod a b).symm;have e3:IntKind.u64.wrap (2*((a%b:Nat):Int))=((2*(a%b):Nat):Int):=by rw[jK];generalize a%b=q at*;omega
 have e4:IntKind.u64.wrap (((a / b:Nat):Int)+1)=((a / b+1:Nat):Int):=by rw[jK];generalize a / b=q at*;omega
 have e5:((a / b:Nat):Int).tmod 2=((a / b%2:Nat):Int):=(Int.ofNat_tmod (a / b) 2).symm;unfold rQ fG ly A1;simp only[e1,e2,e3,e4,e5];have c1:(((a%b:Nat):Int)==0)=(a%b==0):=lZ _ 0;have c2:decide (((2*(a%b):Nat):Int)<(b:Int))=decide (2*(a%b)<b):=lv (by omega);have c3:(((2*(a%b):Nat):Int)==(b:Int))=(2*(a%b)==b):=lZ _ _;have c4:(((a / b%2:Nat):Int)==0)=(a / b%2==0):=lZ _ 0;rw[c1,c2,c3,c4];generalize ((a%b==0||how==3)||((how==1&& !neg)||(how==2&&neg))||(how==4&&(decide (2*(a%b)<b)||(2*(a%b)==b&&a / b%2==0))))=z;cases z<;>rfl
theorem TZ(N:Nat)(v:Int64):yA N v=some ((v.toInt.natAbs:Nat):Int):=by
 unfold yA;have:=iU v;by_cases h:v.toInt<0
 ·rw[akW h];simp only[cond_true,jK]
  congr 1
  omega
 ·rw[akX h];simp only[cond_false,jK]
  congr 1
  omega
theorem aax{a b:Nat}(neg:Bool)(how:Int):ly a b neg how≤a+1:=by
 have hq:a / b≤a:=Nat.div_le_self _ _;unfold ly;cases A1 a b neg how
 ·simp only[cond_false];omega
 ·simp only[cond_true];omega
theorem KG(N:Nat)(n d:Int64){how:Int}(h1:1≤how)(h4:how≤4)(b1: -4611686018427387904≤n.toInt)(b2:n.toInt≤4611686018427387904):
 vZ N n d how=some (bif d.toInt==0 then(0,4)else(Int64.ofInt (oa n.toInt d.toInt how),0)):=by
 unfold vZ Bm;rw[kF,dq,akW h1,akW h4];simp only[Bool.and_self,ake,cond_true];by_cases hd:d.toInt=0
 ·rw[hd];rfl
 ·have JV:=iU d;rw[beq_false_of_ne hd];simp only[cond_false];rw[TZ,TZ];unfold KN;simp only[ake];rw[show(((d.toInt.natAbs:Nat):Int) !=0)=true by rw[bne_iff_ne];omega];simp only[cond_true,ake];rw[aaF (by omega) (by omega) (by omega)];have key:=abA (n:=n.toInt) (d:=d.toInt) hd h1 h4;have hb:=aax (a:=n.toInt.natAbs) (b:=d.toInt.natAbs);cases hs:(decide (n.toInt<0)==decide (d.toInt<0))with
  |true=>
   have ck:(decide (n.toInt<0) !=decide (d.toInt<0))=false:=by unfold bne;rw[hs];rfl
   rw[ck]at key;simp only[cond_false]at key;have:=hb false how;simp only[Bool.not_true,cond_true];rw[kF,akX (show ¬(9223372036854775808:Int)≤((ly n.toInt.natAbs d.toInt.natAbs false how:Nat):Int) by omega)];simp only[cond_false];rw[key]
  |false=>
   have ck:(decide (n.toInt<0) !=decide (d.toInt<0))=true:=by unfold bne;rw[hs];rfl
   rw[ck]at key;simp only[cond_true]at key;have:=hb true how;simp only[Bool.not_false,cond_false];rw[←key]
   congr 2
   refine Bc ?_;rw[oF,oF,jK,IntKind.wrap_i64,IntKind.wrap_i64];omega
theorem n5{t:aC}(F:ra t){v:ay}(V:HI t v): -1073741824≤v.xN.toInt∧v.xN.toInt≤1073741824:=by
 have:=H4 F;have:=V.n1;have:=V.n2;omega
structure Fx(N:Nat)(t:aC)(a b:ay):Prop where
 hN:2147483648<N
 ht:cS t=true
 hk:t.a8=2
 ha:cZ t a=true
 hb:cZ t b=true
theorem Fx.dZ{N:Nat}{t:aC}{a b:ay}(h:Fx N t a b):nD N t [a,b]=some 0:=RI N h.hN h.ht h.hk fun v hv=>by
 simp only[akJ,akV,or_false]at hv;rcases hv with rfl|rfl
 ·exact h.ha
 ·exact h.hb
theorem adX{N:Nat}{t:aC}{a:ay}(h:Fx N t a a):Aj N t a=some (jG t (-a.xN.toInt),0):=by
 have B:=n5 (ie h.ht h.hk) (jP h.ha h.hk);unfold Aj Ke GX;rw[h.dZ];show Option.bind (Option.bind (lK N t (-a.xN)) (fun v6=>some (v6,0))) _=_;rw[zu N (ie h.ht h.hk),pj (by omega)];rfl
theorem ajy{N:Nat}{t:aC}{a b:ay}(h:Fx N t a b):yd N t a b=some (jG t (a.xN.toInt+b.xN.toInt),0):=by
 have B:=n5 (ie h.ht h.hk) (jP h.ha h.hk);have C:=n5 (ie h.ht h.hk) (jP h.hb h.hk);unfold yd FU Hv;rw[h.dZ];show Option.bind (Option.bind (lK N t (a.xN+b.xN)) (fun v6=>some (v6,0))) _=_;rw[zu N (ie h.ht h.hk),s8 (by omega) (by omega)];rfl
theorem agF{N:Nat}{t:aC}{a b:ay}(h:Fx N t a b):Bf N t a b=some (jG t (a.xN.toInt-b.xN.toInt),0):=by
 have B:=n5 (ie h.ht h.hk) (jP h.ha h.hk);have C:=n5 (ie h.ht h.hk) (jP h.hb h.hk);unfold Bf HW Ge;rw[h.dZ];show Option.bind (Option.bind (lK N t (a.xN-b.xN)) (fun v6=>some (v6,0))) _=_;rw[zu N (ie h.ht h.hk),nh (by omega) (by omega)];rfl
theorem xe{n d how:Int}(hd:0<d)(h1: -4611686018427387904≤n)(h2:n≤4611686018427387904):(Int64.ofInt (gB n d how)).toInt=gB n d how:=by
 have:=Ii (how:=how) hd (B:=4611686018427387904) (by decide) h1 h2;exact gM (by omega) (by omega)
theorem acq{n d how:Int}(hd:d≠0)(h1: -4611686018427387904≤n)(h2:n≤4611686018427387904):(Int64.ofInt (oa n d how)).toInt=oa n d how:=by
 unfold oa;by_cases h:d<0
 ·rw[akW h];exact xe (by omega) (by omega) (by omega)
 ·rw[akX h];exact xe (by omega) h1 h2
theorem T8{n d how:Int}(hd:0<d):oa n d how=gB n d how:=by unfold oa;rw[akX (show ¬d<0 by omega)];rfl
theorem Zf{N:Nat}{t:aC}{a b:ay}(h:Fx N t a b):zW N t a b=some (jG t (gB (a.xN.toInt*b.xN.toInt) (dX t) t.bK),0):=by
 have F:=ie h.ht h.hk;have B:=n5 F (jP h.ha h.hk);have C:=n5 F (jP h.hb h.hk);have M:=uY B.1 B.2 C.1 C.2;have S:=E1 F;obtain⟨s1,s2,s3⟩:=An F.f1 F.f2;unfold zW Gn IE;have e:=pG (a:=a.xN) (b:=b.xN) (by omega) (by omega);have vy:(Int64.ofInt ((1:Int)*2^(min (t.xFrac).toNat (IntKind.bits .i64)))).toInt=dX t:=s2;rw[h.dZ,akW F.f1,KG N _ _ F.r1 F.r2 (by rw[e];omega) (by rw[e];omega),vy,e,beq_false_of_ne (show dX t≠0 by omega)];simp only[ake,cond_true,cond_false,bne_self_eq_false];rw[zu N F,T8 (by omega),xe (by omega) (by omega) (by omega)];rfl
theorem Wx{n:Int64}{f:Int}(h1:0≤f)(h2:f≤30)(b1: -4294967296≤n.toInt)(b2:n.toInt≤4294967296):
 (Int64.ofInt (n.toInt*2^(min f.toNat (IntKind.bits .i64)))).toInt=n.toInt*2^f.toNat∧-4611686018427387904≤n.toInt*2^f.toNat∧n.toInt*2^f.toNat≤4611686018427387904:=by
 obtain⟨s1,s2,s3⟩:=An h1 h2;have S:=Rx (fun x=>1≤x∧x≤1073741824) (by decide) h1 h2;have M:=uY b1 b2 (show-1073741824≤(2:Int)^f.toNat by omega) S.2;rw[s3];exact⟨gM (by omega) (by omega),by omega,by omega⟩
theorem afh{N:Nat}{t:aC}{a b:ay}(h:Fx N t a b):zh N t a b=some (bif b.xN.toInt==0 then(bg,4)else(jG t (oa (a.xN.toInt*dX t) b.xN.toInt t.bK),0)):=by
 have F:=ie h.ht h.hk;have B:=n5 F (jP h.ha h.hk);obtain⟨e,e1,e2⟩:=Wx (n:=a.xN) F.f1 F.f2 (by omega) (by omega);unfold zh Hq Gr;rw[h.dZ,akW F.f1,KG N _ _ F.r1 F.r2 (by rw[e];omega) (by rw[e];omega),e];by_cases hb:b.xN.toInt=0
 ·rw[hb];rfl
 ·rw[beq_false_of_ne hb];simp only[ake,cond_true,cond_false,bne_self_eq_false];rw[zu N F,acq hb e1 e2];rfl
theorem Aa(N:Nat)(hN:9223372036854775808<N)(n d:Int64):o7 N n d=some (gS n.toInt d.toInt):=by
 unfold o7 gS;have hn:=iU n;have hdd:=iU d;by_cases hd:d.toInt=0
 ·rw[hd];rfl
 ·rw[beq_false_of_ne hd];simp only[cond_false];rw[CO,CO];unfold xh;simp only[ake];rw[JM N N _ _ (by omega)];simp only[ake];have hg:0<Nat.gcd n.toInt.natAbs d.toInt.natAbs:=Nat.gcd_pos_of_pos_right _ (by omega);rw[show(((Nat.gcd n.toInt.natAbs d.toInt.natAbs:Nat):Int) !=0)=true by rw[bne_iff_ne];omega]
  change _=some (bif decide (2147483647<n.toInt.natAbs / Nat.gcd n.toInt.natAbs d.toInt.natAbs)||decide (2147483647<d.toInt.natAbs / Nat.gcd n.toInt.natAbs d.toInt.natAbs)then(bg,3)else(⟨Int64.ofInt (bif decide (n.toInt<0) !=decide (d.toInt<0)then-((n.toInt.natAbs / Nat.gcd n.toInt.natAbs d.toInt.natAbs:Nat):Int)else((n.toInt.natAbs / Nat.gcd n.toInt.natAbs d.toInt.natAbs:Nat):Int)),Int64.ofInt ((d.toInt.natAbs / Nat.gcd n.toInt.natAbs d.toInt.natAbs:Nat):Int)⟩,0))
  generalize hgg:Nat.gcd n.toInt.natAbs d.toInt.natAbs=g at*;have a1:n.toInt.natAbs / g≤n.toInt.natAbs:=Nat.div_le_self _ _;have a2:d.toInt.natAbs / g≤d.toInt.natAbs:=Nat.div_le_self _ _;have e1:IntKind.u64.wrap ((n.toInt.natAbs:Int).tdiv (g:Int))=((n.toInt.natAbs / g:Nat):Int):=by rw[←Int.ofNat_tdiv,jK];generalize n.toInt.natAbs / g=q at*;omega
  have e2:IntKind.u64.wrap ((d.toInt.natAbs:Int).tdiv (g:Int))=((d.toInt.natAbs / g:Nat):Int):=by rw[←Int.ofNat_tdiv,jK];generalize d.toInt.natAbs / g=q at*;omega
  simp only[cond_true];rw[e1,e2,iF,ake,lv (p:=((n.toInt.natAbs / g:Nat):Int)>2147483647) (q:=2147483647<n.toInt.natAbs / g) (by omega),lv (p:=((d.toInt.natAbs / g:Nat):Int)>2147483647) (q:=2147483647<d.toInt.natAbs / g) (by omega)];cases hc:(decide (2147483647<n.toInt.natAbs / g)||decide (2147483647<d.toInt.natAbs / g))with
  |true=>rfl
  |false=>
   rw[ak2,decide_eq_false_iff_not,decide_eq_false_iff_not]at hc;unfold bne;cases (decide (n.toInt<0)==decide (d.toInt<0))with
   |true=>rfl
   |false=>
    simp only[cond_false,Bool.not_false,cond_true];clear e1 e2;generalize n.toInt.natAbs / g=p at*;generalize d.toInt.natAbs / g=q at*
    congr 3
    refine Bc ?_;rw[pj (by rw[gM]<;>omega),gM (by omega) (by omega),gM (by omega) (by omega)]
theorem Fq{a b:Int}(ha: -2147483647≤a)(Ui:a≤2147483647)(hb: -2147483647≤b)(eW:b≤2147483647): -4611686014132420609≤a*b∧a*b≤4611686014132420609:=by
 have:=uY ha Ui hb eW;omega
theorem eX.d0{v:ay}(h:eX v): -2147483647≤v.xD.toInt:=by have:=h.d1;omega
theorem gJ{a b:Int64}(h1: -2147483647≤a.toInt)(h2:a.toInt≤2147483647)(h3: -2147483647≤b.toInt)(h4:b.toInt≤2147483647):(a*b).toInt=a.toInt*b.toInt:=by
 have:=Fq h1 h2 h3 h4;exact pG (by omega) (by omega)
theorem Qn{a b:ay}(A:eX a)(B:eX b):(a.xN*b.xD+b.xN*a.xD).toInt=a.xN.toInt*b.xD.toInt+b.xN.toInt*a.xD.toInt:=by
 have p:=Fq A.n1 A.n2 B.d0 B.d2;have q:=Fq B.n1 B.n2 A.d0 A.d2;rw[s8]<;>rw[gJ A.n1 A.n2 B.d0 B.d2,gJ B.n1 B.n2 A.d0 A.d2]<;>omega
theorem S4{a b:ay}(A:eX a)(B:eX b):(a.xN*b.xD-b.xN*a.xD).toInt=a.xN.toInt*b.xD.toInt-b.xN.toInt*a.xD.toInt:=by
 have p:=Fq A.n1 A.n2 B.d0 B.d2;have q:=Fq B.n1 B.n2 A.d0 A.d2;rw[nh]<;>rw[gJ A.n1 A.n2 B.d0 B.d2,gJ B.n1 B.n2 A.d0 A.d2]<;>omega
theorem aiJ{N:Nat}(hN:9223372036854775808<N){a b:ay}(A:eX a)(B:eX b):zP N a b=some (gS (a.xN.toInt*b.xD.toInt+b.xN.toInt*a.xD.toInt) (a.xD.toInt*b.xD.toInt)):=by
 unfold zP;rw[mB N (by omega),mB N (by omega),A.ok,B.ok,Aa N hN,Qn A B,gJ A.d0 A.d2 B.d0 B.d2];rfl
theorem aa2{N:Nat}(hN:9223372036854775808<N){a b:ay}(A:eX a)(B:eX b):Aq N a b=some (gS (a.xN.toInt*b.xD.toInt-b.xN.toInt*a.xD.toInt) (a.xD.toInt*b.xD.toInt)):=by
 unfold Aq;rw[mB N (by omega),mB N (by omega),A.ok,B.ok,Aa N hN,S4 A B,gJ A.d0 A.d2 B.d0 B.d2];rfl
theorem afK{N:Nat}(hN:9223372036854775808<N){a b:ay}(A:eX a)(B:eX b):yG N a b=some (gS (a.xN.toInt*b.xN.toInt) (a.xD.toInt*b.xD.toInt)):=by
 unfold yG;rw[mB N (by omega),mB N (by omega),A.ok,B.ok,Aa N hN,gJ A.n1 A.n2 B.n1 B.n2,gJ A.d0 A.d2 B.d0 B.d2];rfl
theorem acZ{N:Nat}(hN:9223372036854775808<N){a b:ay}(A:eX a)(B:eX b):AR N a b=some (gS (a.xN.toInt*b.xD.toInt) (a.xD.toInt*b.xN.toInt)):=by
 unfold AR;rw[mB N (by omega),mB N (by omega),A.ok,B.ok,Aa N hN,gJ A.n1 A.n2 B.d0 B.d2,gJ A.d0 A.d2 B.n1 B.n2];rfl
theorem X6(N:Nat)(n:Int64):mY N n=some (decide (-2147483647≤n.toInt)&&decide (n.toInt≤2147483647)):=by
 unfold mY;rw[kF,dq];rfl
theorem PA{a b:Int}: -(a.natAbs:Int)≤a.tdiv b∧a.tdiv b≤(a.natAbs:Int):=by
 have h:(a.tdiv b).natAbs≤a.natAbs:=by rw[Int.natAbs_tdiv];exact Nat.div_le_self _ _
 omega
theorem KX{a b:Int}(hb:b≠0): -(a.natAbs:Int)≤a.tmod b∧a.tmod b≤(a.natAbs:Int):=by
 have h:(a.tmod b).natAbs≤a.natAbs:=by rw[Int.natAbs_tmod];exact Nat.mod_le _ _
 omega
theorem aiU(N:Nat)(op:Int)(a b:Int64)(h1: -2147483647≤a.toInt)(h2:a.toInt≤2147483647)(h3: -2147483647≤b.toInt)(h4:b.toInt≤2147483647)(ho:op=4∨op=5∨op=6∨op=7):
 yf N op a b=some (td op a.toInt b.toInt):=by
 have eA:=s8 (a:=a) (b:=b) (by omega) (by omega);have eS:=nh (a:=a) (b:=b) (by omega) (by omega);have eM:=gJ h1 h2 h3 h4;have fin:∀(z:Int64)(n:Int),z.toInt=n→(Option.bind (mY N z) fun v=>bif v then some ((⟨z,(1:Int64)⟩:ay),(0:Int))else some (bg,(3:Int)))=some (bif decide (-2147483647≤n)&&decide (n≤2147483647)then(⟨Int64.ofInt n,1⟩,0)else(bg,3)):=fun z n hz=>by
  subst hz;rw[X6,ake,Kd];cases (decide (-2147483647≤z.toInt)&&decide (z.toInt≤2147483647))<;>rfl
 unfold yf td;rcases ho with rfl|rfl|rfl|rfl
 ·exact fin _ _ eA
 ·exact fin _ _ eS
 ·exact fin _ _ eM
 ·show(bif b.toInt==0 then some (bg,(4:Int))else _)=some (bif true&&b.toInt==0 then(bg,4)else bif decide (-2147483647≤k8 a.toInt b.toInt)&&decide (k8 a.toInt b.toInt≤2147483647)then(⟨Int64.ofInt (k8 a.toInt b.toInt),1⟩,0)else(bg,3));by_cases hb:b.toInt=0
  ·rw[hb];rfl
  ·have t1:=PA (a:=a.toInt) (b:=b.toInt);have t2:=KX (a:=a.toInt) hb;have q1:(Int64.ofInt (a.toInt.tmod b.toInt)).toInt=a.toInt.tmod b.toInt:=gM (by omega) (by omega);have q2:(Int64.ofInt (a.toInt.tdiv b.toInt)).toInt=a.toInt.tdiv b.toInt:=gM (by omega) (by omega);have q3:((Int64.ofInt (a.toInt.tdiv b.toInt))-(1:Int64)).toInt=a.toInt.tdiv b.toInt-1:=by
    rw[nh]<;>rw[q2,show(1:Int64).toInt=1 from rfl]<;>omega
   have key:=X5 (a:=a.toInt) hb;rw[beq_false_of_ne hb,bne_iff_ne.2 hb,q1];simp only[cond_false,cond_true,Bool.and_false];rw[dq,ake];have hx:(!(decide (a.toInt<0)==decide (b.toInt<0)))=(decide (a.toInt<0) !=decide (b.toInt<0)):=rfl;rw[hx];cases hz:(a.toInt.tmod b.toInt !=0&&(decide (a.toInt<0) !=decide (b.toInt<0)))with
   |true=>rw[hz]at key;exact fin _ _ (q3.trans key)
   |false=>rw[hz]at key;exact fin _ _ (q2.trans key)
theorem agG(N:Nat)(a b:Int64):vL N a b=some (l5 a.toInt b.toInt):=by
 unfold vL l5;cases decide (a.toInt<b.toInt)
 ·cases decide (a.toInt>b.toInt)<;>rfl
 ·rfl
theorem TJ(N:Nat)(hN:2147483648<N)(t:aC)(a b:ay)(ht:cS t=true):A3 N t a b=some (ke t a b):=by
 unfold A3 ke;rw[uE N hN t a ht,uE N hN t b ht,ht];cases ha:cZ t a with
 |false=>rfl
 |true=>
  cases hb:cZ t b with
  |false=>rfl
  |true=>
   simp only[ake,cond_true,Bool.not_true,cond_false,Bool.and_self];cases hk:t.a8==1 with
   |true=>
    have hJ:t.a8=1:=by simpa using hk
    have A:=mJ ha (by omega);have B:=mJ hb (by omega);simp only[cond_true];unfold Hh;rw[mB N hN,mB N hN,A.ok,B.ok,agG,gJ A.n1 A.n2 B.d0 B.d2,gJ B.n1 B.n2 A.d0 A.d2];rfl
   |false=>
    simp only[cond_false];unfold l5;cases decide (a.xN.toInt<b.xN.toInt)
    ·cases decide (a.xN.toInt>b.xN.toInt)<;>rfl
    ·rfl
theorem agm(N:Nat)(hN:9223372036854775808<N){op:Int}{t:aC}{a b:ay}(ht:cS t=true)(ha:cZ t a=true)(hb:cZ t b=true)(ho:op=4∨op=5∨op=6∨op=7):
 DI N op t a b=some (bif t.a8==2 then DZ op t a.xN.toInt b.xN.toInt else bif t.a8==3 then td op a.xN.toInt b.xN.toInt else vG op a b):=by
 unfold DI;rcases kinds ht with hk|hk|hk
 ·have A:=mJ ha (by omega);have B:=mJ hb (by omega);rw[hk];rcases ho with rfl|rfl|rfl|rfl
  ·show Option.bind (zP N a b) _=_;rw[aiJ hN A B];rfl
  ·show Option.bind (Aq N a b) _=_;rw[aa2 hN A B];rfl
  ·show Option.bind (yG N a b) _=_;rw[afK hN A B];rfl
  ·show Option.bind (AR N a b) _=_;rw[acZ hN A B];rfl
 ·have X:Fx N t a b:=⟨by omega,ht,hk,ha,hb⟩;rw[hk];rcases ho with rfl|rfl|rfl|rfl
  ·show Option.bind (yd N t a b) _=_;rw[ajy X];rfl
  ·show Option.bind (Bf N t a b) _=_;rw[agF X];rfl
  ·show Option.bind (zW N t a b) _=_;rw[Zf X];rfl
  ·show Option.bind (zh N t a b) _=_;rw[afh X];rfl
 ·have A:=mJ ha (by omega);have B:=mJ hb (by omega);rw[hk];show Option.bind (yf N op a.xN b.xN) _=_;rw[aiU N op _ _ A.n1 A.n2 B.n1 B.n2 ho];rfl
theorem afC(N:Nat)(hN:2147483648<N){t:aC}{a:ay}(ht:cS t=true)(ha:cZ t a=true)(b:Int):DC N t a=some (bif t.a8==2 then DZ 8 t a.xN.toInt b else bif t.a8==3 then td 8 a.xN.toInt b else vG 8 a a):=by
 unfold DC;rcases kinds ht with hk|hk|hk
 ·rw[hk];rfl
 ·rw[hk];show Option.bind (Aj N t a) _=_;rw[adX ⟨hN,ht,hk,ha,ha⟩];rfl
 ·have A:=mJ ha (by omega);have D:=B3 ha hk;have e:(-a.xN).toInt= -a.xN.toInt:=pj (by have:=A.n1;omega);rw[hk];unfold td;rw[show((8:Int)==7&&b==0)=false from rfl,show((8:Int)==4)=false from rfl,show((8:Int)==5)=false from rfl,show((8:Int)==6)=false from rfl,show((8:Int)==7)=false from rfl,show((3:Int)==2)=false from rfl,show((3:Int)==3)=true from rfl];simp only[cond_false,cond_true];rw[akW (show-2147483647≤-a.xN.toInt by have:=A.n2;omega),akW (show-a.xN.toInt≤2147483647 by have:=A.n1;omega)];simp only[Bool.and_self,cond_true]
  congr 2
  exact y9 (by rw[e];exact(gM (by have:=A.n2;omega) (by have:=A.n1;omega)).symm) D
theorem SH(N:Nat)(hN:2147483648<N){t:aC}{a b:ay}(ht:cS t=true)(op:Int):vo N t a b op true=some (bif op==9 then(bif decide (ke t a b>0)then b else a)else(bif decide (ke t a b<0)then b else a),0):=by
 unfold vo;rw[TJ N hN t a b ht];simp only[cond_true,ake];generalize ke t a b=c;cases h9:op==9 with
 |true=>
  by_cases hc:c>0
  ·rw[akW hc,bne_iff_ne.2 (show c≠0 by omega)];rfl
  ·rw[akX hc];rfl
 |false=>
  by_cases hc:c<0
  ·rw[akW hc,akX (show ¬c>0 by omega),bne_iff_ne.2 (show c≠0 by omega)];rfl
  ·rw[akX hc];by_cases h0:c>0
   ·rw[akW h0];rfl
   ·obtain rfl:c=0:=by omega
    rfl
theorem ahP(a b c:ay):vG 8 a b=vG 8 a c:=by
 unfold vG;rw[show((8:Int)==4)=false from rfl,show((8:Int)==5)=false from rfl,show((8:Int)==6)=false from rfl,show((8:Int)==7)=false from rfl];simp only[cond_false]
theorem afH(N:Nat)(hN:9223372036854775808<N)(op:Int)(t:aC)(a b:ay):yy N op t a b=some (rp op t a b):=by
 have kr:2147483648<N:=Nat.lt_trans (by decide) hN;unfold yy rp;rw[iF,ake,o8,ake];by_cases h4:op<4
 ·rw[akW h4];rfl
 by_cases az:op≤10
 ·rw[akX h4,akX (show ¬op>10 by omega)];simp only[Bool.or_self,cond_false];cases ht:cS t with
  |false=>rfl
  |true=>
   simp only[cond_true,Bool.not_true,cond_false,bne_self_eq_false];rw[uE N kr t a ht,uE N kr t b ht];cases ha:cZ t a with
   |false=>rfl
   |true=>
    simp only[ake,cond_true,Bool.not_true,Bool.false_or];rw[fE,dq,ake];by_cases h8:op=8
    ·subst h8;rw[afC N kr ht ha b.xN.toInt,ahP a a b];rfl
    ·rw[beq_false_of_ne h8];simp only[Bool.not_false,Bool.true_and,cond_false];cases hb:cZ t b with
     |false=>rfl
     |true=>
      simp only[Bool.not_true,cond_false];by_cases h9:op=9
      ·subst h9;rw[show((9:Int)==9)=true from rfl,SH N kr ht];rfl
      ·rw[beq_false_of_ne h9];simp only[cond_false];by_cases h1:op=10
       ·subst h1;rw[show((10:Int)==10)=true from rfl,SH N kr ht];rfl
       ·rw[beq_false_of_ne h1];unfold vo;simp only[cond_false];rw[agm N hN ht ha hb (by omega)];rfl
 ·rw[akW (show op>10 by omega),Bool.or_true];rfl
theorem aeG(N:Nat)(hN:9223372036854775808<N){t:aC}{v:ay}(ht:cS t=true)(hv:cZ t v=true):Cj N t v=some (kL t v):=by
 unfold Cj kL;cases hk:t.a8==2 with
 |false=>rfl
 |true=>
  have hJ:t.a8=2:=by simpa using hk
  have F:=ie ht hJ;obtain⟨s1,s2,s3⟩:=An F.f1 F.f2;have vy:(Int64.ofInt ((1:Int)*2^(min (t.xFrac).toNat (IntKind.bits .i64)))).toInt=dX t:=s2;simp only[cond_true];unfold FX;rw[RI N (by omega) ht hJ (l:=[v]) (by intro x hx;simp only[akJ,akV,or_false]at hx;subst hx;exact hv),akW F.f1,Aa N hN,vy];rfl
theorem adQ(N:Nat)(hN:2147483648<N){v:ay}(V:eX v):AN N v=some (Int64.ofInt (v.xN.toInt / v.xD.toInt)):=by
 unfold AN DH;have hd:=V.d1;have t1:=PA (a:=v.xN.toInt) (b:=v.xD.toInt);have t2:=KX (a:=v.xN.toInt) (show v.xD.toInt≠0 by omega);have n1:=V.n1;have n2:=V.n2;rw[mB N hN,V.ok,bne_iff_ne.2 (show v.xD.toInt≠0 by omega),gM (by omega) (by omega)];simp only[ake,cond_true];have key:=TO (n:=v.xN.toInt) (d:=v.xD.toInt) (by omega);have q2:(Int64.ofInt (v.xN.toInt.tdiv v.xD.toInt)).toInt=v.xN.toInt.tdiv v.xD.toInt:=gM (by omega) (by omega);cases hz:decide (v.xN.toInt.tmod v.xD.toInt<0)with
 |true=>
  rw[hz]at key;simp only[cond_true]at key ⊢;rw[←key]
  congr 1
  refine oT ?_;rw[nh]<;>rw[q2,show(1:Int64).toInt=1 from rfl]<;>omega
 |false=>
  rw[hz]at key;simp only[cond_false]at key ⊢;rw[←key]
theorem ZI(N:Nat)(hN:2147483648<N){t:aC}{v:ay}(ht:cS t=true)(hk:t.a8=2)(V:eX v):Bg N t v=some (jG t (gB (v.xN.toInt*dX t) v.xD.toInt t.bK),0):=by
 have F:=ie ht hk;obtain⟨s1,s2,s3⟩:=An F.f1 F.f2;have n1:=V.n1;have n2:=V.n2;have d1:=V.d1;obtain⟨e,e1,e2⟩:=Wx (n:=v.xN) F.f1 F.f2 (by omega) (by omega);unfold Bg Ij Bm;rw[Qg N ht hk,mB N hN,V.ok,s1,kF,dq,akW F.r1,akW F.r2,akW F.f1,akX (show ¬t.xFrac<0 by have:=F.f1;omega),akX (show ¬t.xFrac>30 by have:=F.f2;omega)];simp only[ake,bne_self_eq_false,cond_false,cond_true,Bool.and_self,Bool.not_true];rw[KG N _ _ F.r1 F.r2 (by rw[e];omega) (by rw[e];omega),e,beq_false_of_ne (show v.xD.toInt≠0 by omega)];simp only[ake,cond_false,bne_self_eq_false];rw[zu N F,T8 (by omega),xe (by omega) e1 e2];rfl
theorem aii(N:Nat)(hN:9223372036854775808<N)(t u:aC)(v:ay):Bb N t u v=some (vY t u v):=by
 unfold Bb vY;rw[o8,o8];cases ht:cS t with
 |false=>rfl
 |true=>
  cases hu:cS u with
  |false=>rfl
  |true=>
   simp only[ake,cond_true,bne_self_eq_false,cond_false,Bool.not_true,Bool.or_self];rw[uE N (by omega) t v ht];cases hv:cZ t v with
   |false=>rfl
   |true=>
    simp only[ake,cond_true,Bool.not_true,cond_false];have V:=Qk ht hv;rw[aeG N hN ht hv,ake];rcases kinds hu with hk|hk|hk
    ·rw[hk];rfl
    ·rw[hk];show Option.bind (Bg N u (kL t v)) _=_;rw[ZI N (by omega) hu hk V];rfl
    ·rw[hk];show Option.bind (AN N (kL t v)) _=_;rw[adQ N (by omega) V];rfl
theorem SK(N:Nat)(t:aC):uV N t=some (pZ t):=by
 unfold uV pZ;rw[o8];cases cS t<;>rfl
theorem VJ(N:Nat)(hN:2147483648<N)(t:aC):wR N t=some (ig t):=by
 unfold wR ig;rw[o8];cases ht:cS t with
 |false=>rfl
 |true=>
  simp only[ake,cond_true,bne_self_eq_false,cond_false,Bool.not_true];cases hk:t.a8==2 with
  |false=>
   rw[fE,hk];have hv:cZ t ⟨Int64.ofInt 1,1⟩=true:=by
     unfold cZ;rw[hk];cases t.a8==3<;>rfl
   simp only[Bool.not_false,cond_true,cond_false];rw[hv];rfl
  |true=>
   have hJ:t.a8=2:=by simpa using hk
   have F:=ie ht hJ;obtain⟨s1,s2,s3⟩:=An F.f1 F.f2;have s4:(Int64.ofInt ((1:Int)*2^(min (t.xFrac).toNat (IntKind.bits .i64))))=Int64.ofInt (dX t):=oT s2;rw[fE,hk,akW F.f1,s4];simp only[Bool.not_true,cond_false,cond_true];rw[Wg N hN _ ht hJ];cases cZ t ⟨Int64.ofInt (dX t),1⟩<;>rfl
end Go.Proofs.YtpgmcallngdceaaGreatDoor
